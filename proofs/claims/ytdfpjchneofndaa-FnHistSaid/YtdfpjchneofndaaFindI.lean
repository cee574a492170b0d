/- Finding a line of the history: the program's, over the shelf's contracts (printed by genfindh.py). -/
import Derived.Test.YtdfpjchneofndaaFindL
import Derived.Test.YtdfpjchneofndaaApp
import Derived.Shelf.LaysM
import Derived.Shelf.Strings.Prefix
import Derived.Shelf.Strings.Shaped
import Derived.Lib.MinMax
set_option linter.unusedSimpArgs false
set_option linter.unusedVariables false
namespace Go.Proofs.Ytdfpjchneofndaa
open Go.Shelf
def laysC_ren : Go.Shelf.Ren := ⟨fun | 144 => 122 | 143 => 163 | 219 => 186 | 217 => 191 | 225 => 192 | 224 => 193 | 267 => 194 | 266 => 196 | 314 => 197 | n => n, fun | 9 => 9 | 4 => 4 | 3 => 3 | 5 => 5 | 46 => 213 | 146 => 218 | 51 => 217 | n => n, fun | 1 => 0 | n => n⟩
theorem laysC : Go.Proofs.LaysM.n144 Try.prog laysC_ren := {
  mixed := by kernel_rfl
  f143 := Try.func163.trans (congrArg some (by kernel_rfl))
  f144 := Try.func122.trans (congrArg some (by kernel_rfl))
  f217 := Try.func191.trans (congrArg some (by kernel_rfl))
  f219 := Try.func186.trans (congrArg some (by kernel_rfl))
  f224 := Try.func193.trans (congrArg some (by kernel_rfl))
  f225 := Try.func192.trans (congrArg some (by kernel_rfl))
  f266 := Try.func196.trans (congrArg some (by kernel_rfl))
  f267 := Try.func194.trans (congrArg some (by kernel_rfl))
  f314 := Try.func197.trans (congrArg some (by kernel_rfl))
  t3 := Try.underlying3
  a3 := Try.isAgg3
  z3 := Try.sizeOf3
  v3 := Try.zeroValue3
  t4 := Try.underlying4
  a4 := Try.isAgg4
  z4 := Try.sizeOf4
  v4 := Try.zeroValue4
  t5 := Try.underlying5
  a5 := Try.isAgg5
  z5 := Try.sizeOf5
  v5 := Try.zeroValue5
  t9 := Try.underlying9
  a9 := Try.isAgg9
  z9 := Try.sizeOf9
  v9 := Try.zeroValue9
  t46 := Try.underlying213
  a46 := Try.isAgg213
  z46 := Try.sizeOf213
  v46 := Try.zeroValue213
  t51 := Try.underlying217
  a51 := Try.isAgg217
  z51 := Try.sizeOf217
  v51 := Try.zeroValue217
  t146 := Try.underlying218
  a146 := Try.isAgg218
  z146 := Try.sizeOf218
  v146 := Try.zeroValue218
  g1 := by kernel_rfl
  i3 := by kernel_rfl
  i4 := by kernel_rfl
  i5 := by kernel_rfl
  i9 := by kernel_rfl
  i46 := by kernel_rfl
  i51 := by kernel_rfl
  i146 := by kernel_rfl
  m1 := by kernel_rfl
  s1_3 := fun w h => Go.Proofs.cell_of_shapedOpen_int (zero := #[.int .i64 0]) (t := 3) h (of_decide_eq_true (by kernel_rfl)) (by kernel_rfl) rfl (by kernel_rfl) (by kernel_rfl) Try.underlying3 }
def laysP_ren : Go.Shelf.Ren := ⟨fun | 99 => 121 | 206 => 162 | n => n, fun | 9 => 9 | 4 => 4 | 3 => 3 | n => n, fun | n => n⟩
theorem laysP : Go.Proofs.Lays.n99 Try.prog laysP_ren := {
  mixed := by kernel_rfl
  f99 := Try.func121.trans (congrArg some (by kernel_rfl))
  f206 := Try.func162.trans (congrArg some (by kernel_rfl))
  t3 := Try.underlying3
  a3 := Try.isAgg3
  z3 := Try.sizeOf3
  v3 := Try.zeroValue3
  t4 := Try.underlying4
  a4 := Try.isAgg4
  z4 := Try.sizeOf4
  v4 := Try.zeroValue4
  t9 := Try.underlying9
  a9 := Try.isAgg9
  z9 := Try.sizeOf9
  v9 := Try.zeroValue9 }
open Go.RowKit Go.G6
set_option maxHeartbeats 3000000
set_option maxRecDepth 10000
theorem c_HasPrefix (s p : ByteArray) (w : World) :
    Calls Try.prog 121 #[.string s, .string p] w fun e w' => e = .returned (.bool (hfHit s.data.toList p.data.toList true)) ∧ w = w' :=
  (Any.strings_HasPrefix laysP s p w).mono fun _ _ h => ⟨h.1, h.2.symm⟩
theorem c_Contains (s sub : ByteArray) (w : World) (hs : s.size ≤ 1000) (hm : ∃ m, w.cell? ⟨laysC_ren.g 1, 0, none⟩ = some (.int .i64 m)) :
    Calls Try.prog 122 #[.string s, .string sub] w fun e w' => e = .returned (.bool (hfHit s.data.toList sub.data.toList false)) ∧ w = w' :=
  (Any.strings_Contains { laysC with } s sub (Classical.choose hm) w (by omega) (Classical.choose_spec hm)).mono fun _ _ h => ⟨h.1, h.2.symm⟩
theorem i_HistFind {w : World} {bs : List Nat} {cs : List Value} {d : HistD} (h : Rep.pt w bs cs d) (s : ByteArray) (hs : s.size ≤ 1048576) (fr : Int) (hfr : I64 fr) (st : Int) (hst : I64 st) (start : Bool) (hm : ∃ m, w.cell? ⟨laysC_ren.g 1, 0, none⟩ = some (.int .i64 m)) :
    Calls Try.prog 51 #[.agg cs.toArray, .string s, .int .i64 fr, .int .i64 st, .bool start] w fun e w' => e = .returned (.int .i64 (histFind d s.data.toList fr st start)) ∧ Below w.heap.size w w' := by
  have H := hid h
  obtain ⟨a1, l1, k1, rfl, h0, h1⟩ := open_Hist h
  obtain rfl := h1.len_eq
  have H1 := hid h1
  have hI := hid (show ∀ o, Below w.heap.size w (w.alloc o) from fun o => (Below.refl _ _).alloc (Nat.le_refl _) o)
  unfold I64 at hfr
  clear h h0 h1 hst
  obtain ⟨m, hm⟩ := hm
  have hG := World.block_lt_of_cell? w _ hm
  have HM := hid (And.intro hG hm)
  clear hG hm
  cases hk : histOk d
  · have E := hid (histFind_bad (s := s.data.toList) (fr := fr) (st := st) (start := start) hk)
    have Hk := hid hk; clear hk
    go_enter Try.func51, Try.ntmps51
    go_wp2_with fail
    refine (i_HistOk (grow H.out (hI.out _))).mono ?_
    rintro e w1 ⟨rfl, hb⟩
    have B0 : Bx w1 (w.heap.size) _ := Bx.below (b := w.heap.size) hb (by first | omega | (simp; done) | (simp; omega)) (by repeat (first  | (apply Bx.new; (focus (first | (simp; done) | (simp; omega) | omega))) | (apply Bx.alloc; rotate_left; (focus (first | (simp; done) | (simp; omega) | omega))) | (apply Bx.setOther; rotate_left; (focus (first | (simp; done) | (simp; omega) | omega))) | apply Bx.setSame))
    have B0o := B0.out
    have B0f := B0.fr
    have HB := hid (below_call (hI.out _) hb)
    clear hb B0
    rw [Hk.out]
    go_wp2
    go_ret
    exact ⟨ret_int (by rw [E.out]), HB.out⟩
  have hb1 : 1 ≤ d.First ∧ d.First ≤ 1000000000 ∧ d.Lines.length ≤ 60 := by simp [histOk] at hk; omega
  have hLs : ∀ k (q : k < d.Lines.length), d.Lines[k].size ≤ 1000 := fun k q => by
    have a : d.Lines.all (fun s => decide (1 ≤ s.size ∧ s.size ≤ 1000)) = true := by unfold histOk at hk; simp only [Bool.and_eq_true] at hk; first | exact hk.2 | exact hk.1 | exact hk.2.2 | exact hk.2.1 | exact hk.1.1 | exact hk.1.2
    have b := List.all_eq_true.1 a _ (List.getElem_mem q)
    simp only [decide_eq_true_eq] at b; exact b.2
  have HLs := hid hLs; clear hLs
  have Hk := hid hk; clear hk
  by_cases hst : st = 1 ∨ st = -1
  rotate_left
  · have E := hid (histFind_step (d := d) (s := s.data.toList) (fr := fr) (start := start) hst)
    have n1 : (st != 1) = true := by rw [bne_iff_ne]; exact fun q => hst (.inl q)
    have n2 : (st != -1) = true := by rw [bne_iff_ne]; exact fun q => hst (.inr q)
    clear hst
    go_enter Try.func51, Try.ntmps51
    go_wp2_with fail
    refine (i_HistOk (grow H.out (hI.out _))).mono ?_
    rintro e w1 ⟨rfl, hb⟩
    have B0 : Bx w1 (w.heap.size) _ := Bx.below (b := w.heap.size) hb (by first | omega | (simp; done) | (simp; omega)) (by repeat (first  | (apply Bx.new; (focus (first | (simp; done) | (simp; omega) | omega))) | (apply Bx.alloc; rotate_left; (focus (first | (simp; done) | (simp; omega) | omega))) | (apply Bx.setOther; rotate_left; (focus (first | (simp; done) | (simp; omega) | omega))) | apply Bx.setSame))
    have B0o := B0.out
    have B0f := B0.fr
    have HB := hid (below_call (hI.out _) hb)
    clear hb B0
    rw [Hk.out]
    go_wp2
    go_ret
    exact ⟨ret_int (by rw [E.out]), HB.out⟩
  obtain ⟨F, hF⟩ : ∃ F, F = d.First := ⟨_, rfl⟩
  rw [← hF] at hb1
  have HFF := hid hF
  have hwl1 := hid (show wrap64 (F + (d.Lines.length : Int)) = F + (d.Lines.length : Int) from IntWalk.wrap64_in _ (by omega))
  have hwl2 := hid (show wrap64 (F + (d.Lines.length : Int) - 1) = F + (d.Lines.length : Int) - 1 from IntWalk.wrap64_in _ (by omega))
  rcases hst with hst | hst
  · subst hst
    obtain ⟨n0, hn0⟩ : ∃ n0, n0 = max fr F := ⟨_, rfl⟩
    have H0 := hid (show histFind d s.data.toList fr 1 start = hfUp (hfQ d s.data.toList fr 1 start) F (d.Lines.length - (n0 - F).toNat) (n0 - F).toNat by rw [hF]; exact hf_upstart Hk.out (by rw [← hF]; omega) (by rw [← hF]; exact hn0))
    have HN0 := hid hn0
    have hn64 : -9223372036854775808 ≤ n0 ∧ n0 ≤ 9223372036854775807 := by omega
    have hn1 : fr ≤ n0 ∧ F ≤ n0 := by omega
    clear hF hn0
    go_enter Try.func51, Try.ntmps51
    go_wp2_with fail
    refine (i_HistOk (grow H.out (hI.out _))).mono ?_
    rintro e w1 ⟨rfl, hb⟩
    have B0 : Bx w1 (w.heap.size) _ := Bx.below (b := w.heap.size) hb (by first | omega | (simp; done) | (simp; omega)) (by repeat (first  | (apply Bx.new; (focus (first | (simp; done) | (simp; omega) | omega))) | (apply Bx.alloc; rotate_left; (focus (first | (simp; done) | (simp; omega) | omega))) | (apply Bx.setOther; rotate_left; (focus (first | (simp; done) | (simp; omega) | omega))) | apply Bx.setSame))
    have B0o := B0.out
    have B0f := B0.fr
    have HB := hid (below_call (hI.out _) hb)
    clear hb B0
    rw [Hk.out]
    rw [← HFF.out] at B0o
    have H11 := hid (H1.out.grow HB.out)
    have HM1 := hid (show ∃ m, w1.cell? ⟨laysC_ren.g 1, 0, none⟩ = some (.int .i64 m) from ⟨m, (HB.out.cell (p := ⟨laysC_ren.g 1, 0, none⟩) HM.out.1).trans HM.out.2⟩)
    have hwl3 := hwl1.out; have hwl4 := hwl2.out
    go_wp2_with fail
    clear hwl3 hwl4
    rw [← HN0.out]
    go_loop [12] (fun i => ∃ n : Int, i = .int .i64 n ∧ fr ≤ n ∧ F ≤ n ∧ n ≤ 9223372036854775807 ∧ histFind d s.data.toList fr 1 start = hfUp (hfQ d s.data.toList fr 1 start) F (d.Lines.length - (n - F).toNat) (n - F).toNat) (fun i => ((F + (d.Lines.length : Int) - 1) + 1 - intOf i).toNat)
    case atStart => exact ⟨n0, rfl, hn1.1, hn1.2, hn64.2, H0.out⟩
    case round =>
      clear H0 HN0 hn1 hn64
      obtain ⟨n, rfl, q1, q2, q3, hr⟩ := hrel
      have HR := hid hr
      clear hr
      by_cases hlt : n ≤ (F + (d.Lines.length : Int) - 1)
      rotate_left
      · have HI : Hid (inB n F (F + (d.Lines.length : Int) - 1) = false) := hid (by unfold inB; exact decide_eq_false (by omega))
        have E := hid (show histFind d s.data.toList fr (1) start = 0 by rw [HR.out, show d.Lines.length - (n - F).toNat = 0 by omega]; rfl)
        clear hlt q1 q2 q3
        go_wp2_with fail
        refine (i_in _ _ _ _).mono ?_
        rintro e w' ⟨rfl, rfl⟩
        rw [HI.out]
        go_wp2
        go_ret
        exact ⟨ret_int (by rw [E.out]), HB.out⟩
      have HI : Hid (inB n F (F + (d.Lines.length : Int) - 1) = true) := hid (by unfold inB; exact decide_eq_true (by omega))
      obtain ⟨k, hk⟩ : ∃ k : Nat, k = (n - F).toNat := ⟨_, rfl⟩
      have hkl : k < d.Lines.length := by omega
      have hnk : n - F = (k : Int) := by omega
      have hki : (k : Int) < (d.Lines.length : Int) := by omega
      have hq := hfQ_at (d := d) (s := s.data.toList) (fr := fr) (st := 1) (start := start) hkl
      rw [← HFF.out] at hq
      have hq2 : hfQ d s.data.toList fr (1) start k = hfHit d.Lines[k].data.toList s.data.toList start := by rw [hq, decide_eq_true (by omega), decide_eq_true (by omega)]; simp
      have hsp : histFind d s.data.toList fr 1 start = if hfQ d s.data.toList fr 1 start k then n else hfUp (hfQ d s.data.toList fr 1 start) F (d.Lines.length - (n + 1 - F).toNat) (n + 1 - F).toNat := by
        rw [HR.out, ← hk, show d.Lines.length - k = (d.Lines.length - (k + 1)) + 1 by omega, hfUp, show F + (k : Int) = n by omega, show (n + 1 - F).toNat = k + 1 by omega]
      have HSP := hid hsp; have HQ := hid hq2; clear hsp hq hq2
      have HWK := hid (show wrap64 (n - F) = (k : Int) by rw [hnk]; exact IntWalk.wrap64_in _ (by omega))
      have HWN := hid (show wrap64 (n + 1) = n + 1 from IntWalk.wrap64_in _ (by omega))
      obtain ⟨b, off, rfl, hck, hsz⟩ := H11.out.str k hkl
      have HLk := hid (HLs.out k hkl)
      obtain ⟨ln, hln⟩ : ∃ ln, ln = d.Lines[k] := ⟨_, rfl⟩
      rw [← hln] at hck HLk HQ
      have hnb1 : n ≤ 2000000000 := by omega
      have hnb2 : 1 ≤ n := by omega
      have hi0 : 0 ≤ n - F := by omega
      have hi1 : n - F < (d.Lines.length : Int) := by omega
      have HKT := hid (show (n - F).toNat = k from hk.symm)
      have Hq := hid (And.intro q1 (And.intro q2 q3)); have Hlt := hid hlt; have HNK := hid (And.intro hk hnk)
      clear hln hsz hk hnk q1 q2 q3 hlt
      cases start
      · cases hh : hfHit ln.data.toList s.data.toList false
        · have HH := hid hh; clear hh
          have HN := hid (show histFind d s.data.toList fr (1) false = hfUp (hfQ d s.data.toList fr 1 false) F (d.Lines.length - (n + 1 - F).toNat) (n + 1 - F).toNat by rw [HSP.out, HQ.out, HH.out]; rfl)
          go_wp2_with fail
          refine (i_in _ _ _ _).mono ?_
          rintro e w' ⟨rfl, rfl⟩
          rw [HI.out]
          have hwk := HKT.out
          go_wp2_with fail
          refine (c_Contains _ _ _ HLk.out HM1.out).mono ?_
          rintro e w' ⟨rfl, rfl⟩
          rw [HH.out]
          clear hwk
          go_wp2
          have hq := Hq.out; have hl := Hlt.out
          exact ⟨⟨n + 1, rfl, by omega, by omega, by omega, HN.out⟩, by simp [intOf]; omega⟩
        · have HH := hid hh; clear hh
          have E := hid (show histFind d s.data.toList fr (1) false = n by rw [HSP.out, HQ.out, HH.out]; rfl)
          go_wp2_with fail
          refine (i_in _ _ _ _).mono ?_
          rintro e w' ⟨rfl, rfl⟩
          rw [HI.out]
          have hwk := HKT.out
          go_wp2_with fail
          refine (c_Contains _ _ _ HLk.out HM1.out).mono ?_
          rintro e w' ⟨rfl, rfl⟩
          rw [HH.out]
          go_wp2
          go_ret
          exact ⟨ret_int (by rw [E.out]), HB.out⟩
      · cases hh : hfHit ln.data.toList s.data.toList true
        · have HH := hid hh; clear hh
          have HN := hid (show histFind d s.data.toList fr (1) true = hfUp (hfQ d s.data.toList fr 1 true) F (d.Lines.length - (n + 1 - F).toNat) (n + 1 - F).toNat by rw [HSP.out, HQ.out, HH.out]; rfl)
          go_wp2_with fail
          refine (i_in _ _ _ _).mono ?_
          rintro e w' ⟨rfl, rfl⟩
          rw [HI.out]
          have hwk := HKT.out
          go_wp2_with fail
          refine (c_HasPrefix _ _ _).mono ?_
          rintro e w' ⟨rfl, rfl⟩
          rw [HH.out]
          clear hwk
          go_wp2
          have hq := Hq.out; have hl := Hlt.out
          exact ⟨⟨n + 1, rfl, by omega, by omega, by omega, HN.out⟩, by simp [intOf]; omega⟩
        · have HH := hid hh; clear hh
          have E := hid (show histFind d s.data.toList fr (1) true = n by rw [HSP.out, HQ.out, HH.out]; rfl)
          go_wp2_with fail
          refine (i_in _ _ _ _).mono ?_
          rintro e w' ⟨rfl, rfl⟩
          rw [HI.out]
          have hwk := HKT.out
          go_wp2_with fail
          refine (c_HasPrefix _ _ _).mono ?_
          rintro e w' ⟨rfl, rfl⟩
          rw [HH.out]
          go_wp2
          go_ret
          exact ⟨ret_int (by rw [E.out]), HB.out⟩
  · subst hst
    obtain ⟨n0, hn0⟩ : ∃ n0, n0 = min fr (F + (d.Lines.length : Int) - 1) := ⟨_, rfl⟩
    have H0 := hid (show histFind d s.data.toList fr (-1) start = hfDn (hfQ d s.data.toList fr (-1) start) F (n0 - F + 1).toNat by rw [hF]; exact hf_dnstart Hk.out (by rw [← hF]; exact hn0))
    have HN0 := hid hn0
    have hn64 : -9223372036854775808 ≤ n0 ∧ n0 ≤ 9223372036854775807 := by omega
    have hn1 : n0 ≤ fr ∧ n0 ≤ (F + (d.Lines.length : Int) - 1) := by omega
    clear hF hn0
    go_enter Try.func51, Try.ntmps51
    go_wp2_with fail
    refine (i_HistOk (grow H.out (hI.out _))).mono ?_
    rintro e w1 ⟨rfl, hb⟩
    have B0 : Bx w1 (w.heap.size) _ := Bx.below (b := w.heap.size) hb (by first | omega | (simp; done) | (simp; omega)) (by repeat (first  | (apply Bx.new; (focus (first | (simp; done) | (simp; omega) | omega))) | (apply Bx.alloc; rotate_left; (focus (first | (simp; done) | (simp; omega) | omega))) | (apply Bx.setOther; rotate_left; (focus (first | (simp; done) | (simp; omega) | omega))) | apply Bx.setSame))
    have B0o := B0.out
    have B0f := B0.fr
    have HB := hid (below_call (hI.out _) hb)
    clear hb B0
    rw [Hk.out]
    rw [← HFF.out] at B0o
    have H11 := hid (H1.out.grow HB.out)
    have HM1 := hid (show ∃ m, w1.cell? ⟨laysC_ren.g 1, 0, none⟩ = some (.int .i64 m) from ⟨m, (HB.out.cell (p := ⟨laysC_ren.g 1, 0, none⟩) HM.out.1).trans HM.out.2⟩)
    have hwl3 := hwl1.out; have hwl4 := hwl2.out
    go_wp2_with fail
    clear hwl3 hwl4
    rw [← HN0.out]
    go_loop [12] (fun i => ∃ n : Int, i = .int .i64 n ∧ n ≤ fr ∧ n ≤ (F + (d.Lines.length : Int) - 1) ∧ -9223372036854775808 ≤ n ∧ histFind d s.data.toList fr (-1) start = hfDn (hfQ d s.data.toList fr (-1) start) F (n - F + 1).toNat) (fun i => (intOf i - F + 1).toNat)
    case atStart => exact ⟨n0, rfl, hn1.1, hn1.2, hn64.1, H0.out⟩
    case round =>
      clear H0 HN0 hn1 hn64
      obtain ⟨n, rfl, q1, q2, q3, hr⟩ := hrel
      have HR := hid hr
      clear hr
      by_cases hlt : F ≤ n
      rotate_left
      · have HI : Hid (inB n F (F + (d.Lines.length : Int) - 1) = false) := hid (by unfold inB; exact decide_eq_false (by omega))
        have E := hid (show histFind d s.data.toList fr (-1) start = 0 by rw [HR.out, show (n - F + 1).toNat = 0 by omega]; rfl)
        clear hlt q1 q2 q3
        go_wp2_with fail
        refine (i_in _ _ _ _).mono ?_
        rintro e w' ⟨rfl, rfl⟩
        rw [HI.out]
        go_wp2
        go_ret
        exact ⟨ret_int (by rw [E.out]), HB.out⟩
      have HI : Hid (inB n F (F + (d.Lines.length : Int) - 1) = true) := hid (by unfold inB; exact decide_eq_true (by omega))
      obtain ⟨k, hk⟩ : ∃ k : Nat, k = (n - F).toNat := ⟨_, rfl⟩
      have hkl : k < d.Lines.length := by omega
      have hnk : n - F = (k : Int) := by omega
      have hki : (k : Int) < (d.Lines.length : Int) := by omega
      have hq := hfQ_at (d := d) (s := s.data.toList) (fr := fr) (st := -1) (start := start) hkl
      rw [← HFF.out] at hq
      have hq2 : hfQ d s.data.toList fr (-1) start k = hfHit d.Lines[k].data.toList s.data.toList start := by rw [hq, decide_eq_true (by omega), decide_eq_true (by omega)]; simp
      have hsp : histFind d s.data.toList fr (-1) start = if hfQ d s.data.toList fr (-1) start k then n else hfDn (hfQ d s.data.toList fr (-1) start) F (n - 1 - F + 1).toNat := by
        rw [HR.out, show (n - F + 1).toNat = k + 1 by omega, hfDn, show F + (k : Int) = n by omega, show (n - 1 - F + 1).toNat = k by omega]
      have HSP := hid hsp; have HQ := hid hq2; clear hsp hq hq2
      have HWK := hid (show wrap64 (n - F) = (k : Int) by rw [hnk]; exact IntWalk.wrap64_in _ (by omega))
      have HWN := hid (show wrap64 (n + -1) = n - 1 from IntWalk.wrap64_in _ (by omega))
      obtain ⟨b, off, rfl, hck, hsz⟩ := H11.out.str k hkl
      have HLk := hid (HLs.out k hkl)
      obtain ⟨ln, hln⟩ : ∃ ln, ln = d.Lines[k] := ⟨_, rfl⟩
      rw [← hln] at hck HLk HQ
      have hnb1 : n ≤ 2000000000 := by omega
      have hnb2 : 1 ≤ n := by omega
      have hi0 : 0 ≤ n - F := by omega
      have hi1 : n - F < (d.Lines.length : Int) := by omega
      have HKT := hid (show (n - F).toNat = k from hk.symm)
      have Hq := hid (And.intro q1 (And.intro q2 q3)); have Hlt := hid hlt; have HNK := hid (And.intro hk hnk)
      clear hln hsz hk hnk q1 q2 q3 hlt
      cases start
      · cases hh : hfHit ln.data.toList s.data.toList false
        · have HH := hid hh; clear hh
          have HN := hid (show histFind d s.data.toList fr (-1) false = hfDn (hfQ d s.data.toList fr (-1) false) F (n - 1 - F + 1).toNat by rw [HSP.out, HQ.out, HH.out]; rfl)
          go_wp2_with fail
          refine (i_in _ _ _ _).mono ?_
          rintro e w' ⟨rfl, rfl⟩
          rw [HI.out]
          have hwk := HKT.out
          go_wp2_with fail
          refine (c_Contains _ _ _ HLk.out HM1.out).mono ?_
          rintro e w' ⟨rfl, rfl⟩
          rw [HH.out]
          clear hwk
          go_wp2
          have hq := Hq.out; have hl := Hlt.out
          exact ⟨⟨n - 1, rfl, by omega, by omega, by omega, HN.out⟩, by simp [intOf]; omega⟩
        · have HH := hid hh; clear hh
          have E := hid (show histFind d s.data.toList fr (-1) false = n by rw [HSP.out, HQ.out, HH.out]; rfl)
          go_wp2_with fail
          refine (i_in _ _ _ _).mono ?_
          rintro e w' ⟨rfl, rfl⟩
          rw [HI.out]
          have hwk := HKT.out
          go_wp2_with fail
          refine (c_Contains _ _ _ HLk.out HM1.out).mono ?_
          rintro e w' ⟨rfl, rfl⟩
          rw [HH.out]
          go_wp2
          go_ret
          exact ⟨ret_int (by rw [E.out]), HB.out⟩
      · cases hh : hfHit ln.data.toList s.data.toList true
        · have HH := hid hh; clear hh
          have HN := hid (show histFind d s.data.toList fr (-1) true = hfDn (hfQ d s.data.toList fr (-1) true) F (n - 1 - F + 1).toNat by rw [HSP.out, HQ.out, HH.out]; rfl)
          go_wp2_with fail
          refine (i_in _ _ _ _).mono ?_
          rintro e w' ⟨rfl, rfl⟩
          rw [HI.out]
          have hwk := HKT.out
          go_wp2_with fail
          refine (c_HasPrefix _ _ _).mono ?_
          rintro e w' ⟨rfl, rfl⟩
          rw [HH.out]
          clear hwk
          go_wp2
          have hq := Hq.out; have hl := Hlt.out
          exact ⟨⟨n - 1, rfl, by omega, by omega, by omega, HN.out⟩, by simp [intOf]; omega⟩
        · have HH := hid hh; clear hh
          have E := hid (show histFind d s.data.toList fr (-1) true = n by rw [HSP.out, HQ.out, HH.out]; rfl)
          go_wp2_with fail
          refine (i_in _ _ _ _).mono ?_
          rintro e w' ⟨rfl, rfl⟩
          rw [HI.out]
          have hwk := HKT.out
          go_wp2_with fail
          refine (c_HasPrefix _ _ _).mono ?_
          rintro e w' ⟨rfl, rfl⟩
          rw [HH.out]
          go_wp2
          go_ret
          exact ⟨ret_int (by rw [E.out]), HB.out⟩
end Go.Proofs.Ytdfpjchneofndaa
