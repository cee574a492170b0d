/- Terminals: validity (printed by genvtok.py). -/
import Derived.Test.YtffinfpnmohnaaaBeginI
import Derived.Test.YtffinfpnmohnaaaBeginS
import Derived.Test.YtffinfpnmohnaaaVt
set_option linter.unusedSimpArgs false
set_option linter.unusedVariables false
namespace Go.G6
open Go.RowKit
def vtArgs (d : VtD) : Bool := d.Args.all (fun n => decide (0 ≤ n ∧ n ≤ 9999))
def vtPart (d : VtD) : Bool := decide (d.Part.length = 0) || (decide (d.State = 0) && runeBegin d.Part)
def vtOk (d : VtD) : Bool := gridOk d.Grid && (decide (0 ≤ d.State ∧ d.State ≤ 2) && (decide (d.Args.length ≤ 4) && (decide (d.Args.length = 0 ∨ d.State = 2) && (decide (0 ≤ d.Bells ∧ d.Bells ≤ 1000000) && (vtArgs d && vtPart d)))))
theorem vtOk_grid {d : VtD} (h : gridOk d.Grid = false) : vtOk d = false := by unfold vtOk; rw [h]; rfl
theorem vtOk_st {d : VtD} (h : ¬ (0 ≤ d.State ∧ d.State ≤ 2)) : vtOk d = false := by unfold vtOk; rw [decide_eq_false h]; simp
theorem vtOk_len {d : VtD} (h : ¬ d.Args.length ≤ 4) : vtOk d = false := by unfold vtOk; rw [decide_eq_false h]; simp
theorem vtOk_arg {d : VtD} (h : ¬ (d.Args.length = 0 ∨ d.State = 2)) : vtOk d = false := by unfold vtOk; rw [decide_eq_false h]; simp
theorem vtOk_bel {d : VtD} (h : ¬ (0 ≤ d.Bells ∧ d.Bells ≤ 1000000)) : vtOk d = false := by unfold vtOk; rw [decide_eq_false h]; simp
theorem vtOk_args {d : VtD} (h : vtArgs d = false) : vtOk d = false := by unfold vtOk; rw [h]; simp
theorem vtOk_part {d : VtD} (h1 : gridOk d.Grid = true) (h2 : 0 ≤ d.State ∧ d.State ≤ 2) (h3 : d.Args.length ≤ 4) (h4 : d.Args.length = 0 ∨ d.State = 2) (h5 : 0 ≤ d.Bells ∧ d.Bells ≤ 1000000) (h6 : vtArgs d = true) : vtOk d = vtPart d := by
  unfold vtOk; rw [h1, decide_eq_true h2, decide_eq_true h3, decide_eq_true h4, decide_eq_true h5, h6]; simp
end Go.G6
namespace Go.Proofs.Ytffinfpnmohnaaa
open Go.RowKit Go.G6
set_option maxHeartbeats 3000000
set_option maxRecDepth 10000
theorem i_VtOk {w : World} {bs : List Nat} {cs : List Value} {d : VtD} (h : Rep.pt w bs cs d) :
    Calls Try.prog 27 #[.agg cs.toArray] w fun e w' => e = .returned (.bool (vtOk d)) ∧ Below w.heap.size w w' := by
  obtain ⟨b2, b7, b8, a2, l2, k2, a7, l7, k7, a8, l8, k8, rfl, rfl, h0, h1, h2, h3, h4, h6, h7, h8, h9⟩ := open_Vt h
  obtain rfl := h2.len_eq
  obtain rfl := h7.len_eq
  obtain rfl := h8.len_eq
  have m7 := h7.max; have m8 := h8.max
  have HGr := hid (mk_Grid (d := d.Grid) h0 h1 h2 h3 h4)
  have H7 := hid h7; have H8 := hid h8
  have HI := hid (fun o => (Below.refl w.heap.size w).alloc (Nat.le_refl _) o)
  unfold I64 at h6 h9
  clear h h0 h1 h2 h3 h4 h7 h8
  cases hg : gridOk d.Grid
  · have E := hid (vtOk_grid hg)
    have HGO := hid hg; clear hg
    go_enter Try.func27, Try.ntmps27
    go_wp2_with fail
    refine (i_GridOk (grow HGr.out (HI.out _))).mono ?_
    rintro e w1 ⟨rfl, hb⟩
    have B0 : Bx w1 (w.heap.size) _ := Bx.below (b := w.heap.size) hb (by first | omega | (simp; done) | (simp; omega)) (by repeat (first  | (apply Bx.new; (focus (first | (simp; done) | (simp; omega) | omega))) | (apply Bx.alloc; rotate_left; (focus (first | (simp; done) | (simp; omega) | omega))) | (apply Bx.setOther; rotate_left; (focus (first | (simp; done) | (simp; omega) | omega))) | apply Bx.setSame))
    have B0o := B0.out
    have B0f := B0.fr
    have HB := hid (below_call (HI.out _) hb)
    clear hb B0
    rw [HGO.out]
    go_wp2
    go_ret
    exact ⟨ret_bool (by rw [E.out]), HB.out⟩
  have HGO := hid hg; clear hg
  by_cases hs : 0 ≤ d.State ∧ d.State ≤ 2
  rotate_left
  · have E := hid (vtOk_st hs)
    have TS : Hid (inB d.State 0 2 = false) := hid (by unfold inB; first | exact decide_eq_true (by omega) | exact decide_eq_false (by omega))
    clear hs
    go_enter Try.func27, Try.ntmps27
    go_wp2_with fail
    refine (i_GridOk (grow HGr.out (HI.out _))).mono ?_
    rintro e w1 ⟨rfl, hb⟩
    have B0 : Bx w1 (w.heap.size) _ := Bx.below (b := w.heap.size) hb (by first | omega | (simp; done) | (simp; omega)) (by repeat (first  | (apply Bx.new; (focus (first | (simp; done) | (simp; omega) | omega))) | (apply Bx.alloc; rotate_left; (focus (first | (simp; done) | (simp; omega) | omega))) | (apply Bx.setOther; rotate_left; (focus (first | (simp; done) | (simp; omega) | omega))) | apply Bx.setSame))
    have B0o := B0.out
    have B0f := B0.fr
    have HB := hid (below_call (HI.out _) hb)
    clear hb B0
    rw [HGO.out]
    go_wp2_with fail
    refine (i_in _ _ _ _).mono ?_
    rintro e w' ⟨rfl, rfl⟩
    rw [TS.out]
    go_wp2
    go_ret
    exact ⟨ret_bool (by rw [E.out]), HB.out⟩
  have TS : Hid (inB d.State 0 2 = true) := hid (by unfold inB; first | exact decide_eq_true (by omega) | exact decide_eq_false (by omega))
  by_cases hl : d.Args.length ≤ 4
  rotate_left
  · have E := hid (vtOk_len hl)
    have hl2 : (d.Args.length : Int) > 4 := by omega
    clear hl
    go_enter Try.func27, Try.ntmps27
    go_wp2_with fail
    refine (i_GridOk (grow HGr.out (HI.out _))).mono ?_
    rintro e w1 ⟨rfl, hb⟩
    have B0 : Bx w1 (w.heap.size) _ := Bx.below (b := w.heap.size) hb (by first | omega | (simp; done) | (simp; omega)) (by repeat (first  | (apply Bx.new; (focus (first | (simp; done) | (simp; omega) | omega))) | (apply Bx.alloc; rotate_left; (focus (first | (simp; done) | (simp; omega) | omega))) | (apply Bx.setOther; rotate_left; (focus (first | (simp; done) | (simp; omega) | omega))) | apply Bx.setSame))
    have B0o := B0.out
    have B0f := B0.fr
    have HB := hid (below_call (HI.out _) hb)
    clear hb B0
    rw [HGO.out]
    go_wp2_with fail
    refine (i_in _ _ _ _).mono ?_
    rintro e w' ⟨rfl, rfl⟩
    rw [TS.out]
    go_wp2
    go_ret
    exact ⟨ret_bool (by rw [E.out]), HB.out⟩
  have hl2 : ¬ (d.Args.length : Int) > 4 := by omega
  by_cases hA : d.Args.length = 0 ∨ d.State = 2
  rotate_left
  · have E := hid (vtOk_arg hA)
    have hA1 : (d.Args.length : Int) > 0 := by omega
    have hA2 : (d.State != 2) = true := by rw [bne_iff_ne]; omega
    clear hA
    go_enter Try.func27, Try.ntmps27
    go_wp2_with fail
    refine (i_GridOk (grow HGr.out (HI.out _))).mono ?_
    rintro e w1 ⟨rfl, hb⟩
    have B0 : Bx w1 (w.heap.size) _ := Bx.below (b := w.heap.size) hb (by first | omega | (simp; done) | (simp; omega)) (by repeat (first  | (apply Bx.new; (focus (first | (simp; done) | (simp; omega) | omega))) | (apply Bx.alloc; rotate_left; (focus (first | (simp; done) | (simp; omega) | omega))) | (apply Bx.setOther; rotate_left; (focus (first | (simp; done) | (simp; omega) | omega))) | apply Bx.setSame))
    have B0o := B0.out
    have B0f := B0.fr
    have HB := hid (below_call (HI.out _) hb)
    clear hb B0
    rw [HGO.out]
    go_wp2_with fail
    refine (i_in _ _ _ _).mono ?_
    rintro e w' ⟨rfl, rfl⟩
    rw [TS.out]
    go_wp2
    go_ret
    exact ⟨ret_bool (by rw [E.out]), HB.out⟩
  have HA := hid hA
  by_cases hA0 : d.Args.length = 0
  · have hA1 : ¬ (d.Args.length : Int) > 0 := by omega
    clear hA
    by_cases hb : 0 ≤ d.Bells ∧ d.Bells ≤ 1000000
    rotate_left
    · have E := hid (vtOk_bel hb)
      have TB : Hid (inB d.Bells 0 1000000 = false) := hid (by unfold inB; first | exact decide_eq_true (by omega) | exact decide_eq_false (by omega))
      clear hb
      go_enter Try.func27, Try.ntmps27
      go_wp2_with fail
      refine (i_GridOk (grow HGr.out (HI.out _))).mono ?_
      rintro e w1 ⟨rfl, hb⟩
      have B0 : Bx w1 (w.heap.size) _ := Bx.below (b := w.heap.size) hb (by first | omega | (simp; done) | (simp; omega)) (by repeat (first  | (apply Bx.new; (focus (first | (simp; done) | (simp; omega) | omega))) | (apply Bx.alloc; rotate_left; (focus (first | (simp; done) | (simp; omega) | omega))) | (apply Bx.setOther; rotate_left; (focus (first | (simp; done) | (simp; omega) | omega))) | apply Bx.setSame))
      have B0o := B0.out
      have B0f := B0.fr
      have HB := hid (below_call (HI.out _) hb)
      clear hb B0
      rw [HGO.out]
      go_wp2_with fail
      refine (i_in _ _ _ _).mono ?_
      rintro e w' ⟨rfl, rfl⟩
      rw [TS.out]
      go_wp2_with fail
      refine (i_in _ _ _ _).mono ?_
      rintro e w' ⟨rfl, rfl⟩
      rw [TB.out]
      go_wp2
      go_ret
      exact ⟨ret_bool (by rw [E.out]), HB.out⟩
    have TB : Hid (inB d.Bells 0 1000000 = true) := hid (by unfold inB; first | exact decide_eq_true (by omega) | exact decide_eq_false (by omega))
    have HS := hid hs; have HBl := hid hb; have HL := hid hl
    clear hs hb
    go_enter Try.func27, Try.ntmps27
    go_wp2_with fail
    refine (i_GridOk (grow HGr.out (HI.out _))).mono ?_
    rintro e w1 ⟨rfl, hb⟩
    have B0 : Bx w1 (w.heap.size) _ := Bx.below (b := w.heap.size) hb (by first | omega | (simp; done) | (simp; omega)) (by repeat (first  | (apply Bx.new; (focus (first | (simp; done) | (simp; omega) | omega))) | (apply Bx.alloc; rotate_left; (focus (first | (simp; done) | (simp; omega) | omega))) | (apply Bx.setOther; rotate_left; (focus (first | (simp; done) | (simp; omega) | omega))) | apply Bx.setSame))
    have B0o := B0.out
    have B0f := B0.fr
    have HB := hid (below_call (HI.out _) hb)
    clear hb B0
    rw [HGO.out]
    go_wp2_with fail
    refine (i_in _ _ _ _).mono ?_
    rintro e w' ⟨rfl, rfl⟩
    rw [TS.out]
    go_wp2_with fail
    refine (i_in _ _ _ _).mono ?_
    rintro e w' ⟨rfl, rfl⟩
    rw [TB.out]
    go_wp2_with fail
    have H71 := hid (H7.out.grow HB.out)
    go_loop [41] (fun i => ∃ k : Nat, k ≤ d.Args.length ∧ i = .int .i64 (k : Int) ∧ vtArgs d = (d.Args.drop k).all (fun n => decide (0 ≤ n ∧ n ≤ 9999))) (fun i => d.Args.length - (intOf i).toNat)
    case atStart => exact ⟨0, Nat.zero_le _, rfl, rfl⟩
    case round =>
      obtain ⟨k, hk, rfl, hr⟩ := hrel
      have HR := hid hr
      clear hr
      by_cases hlt : k < d.Args.length
      rotate_left
      · have hkk : ¬ (k : Int) < (d.Args.length : Int) := by omega
        have HAll := hid (show vtArgs d = true by rw [HR.out, List.drop_of_length_le (by omega)]; rfl)
        have HE := hid (vtOk_part HGO.out HS.out HL.out HA.out HBl.out HAll.out)
        clear hlt hk
        by_cases hp : d.Part.length = 0
        · have E := hid (show vtOk d = true by rw [HE.out, vtPart, decide_eq_true hp]; rfl)
          have hp2 : ((d.Part.length : Int) == 0) = true := by rw [beq_iff_eq]; omega
          clear hp
          go_wp2
          go_ret
          exact ⟨ret_bool (by rw [E.out]), HB.out⟩
        have hp2 : ((d.Part.length : Int) == 0) = false := by rw [beq_eq_false_iff_ne]; omega
        by_cases hz : d.State = 0
        rotate_left
        · have E := hid (show vtOk d = false by rw [HE.out, vtPart, decide_eq_false hp, decide_eq_false hz]; rfl)
          have hz2 : (d.State == 0) = false := by rw [beq_eq_false_iff_ne]; exact hz
          clear hp hz
          go_wp2
          go_ret
          exact ⟨ret_bool (by rw [E.out]), HB.out⟩
        have E := hid (show vtOk d = runeBegin d.Part by rw [HE.out, vtPart, decide_eq_false hp, decide_eq_true hz]; simp)
        have hz2 : (d.State == 0) = true := by rw [beq_iff_eq]; exact hz
        clear hp hz
        go_wp2_with fail
        refine (i_RuneBeginR (H8.out.grow HB.out)).mono ?_
        rintro e w2 ⟨rfl, hb2⟩
        have HB2 := hid (HB.out.trans (hb2.mono HB.out.size))
        clear hb2
        go_wp2
        go_ret
        exact ⟨ret_bool (by rw [E.out]), HB2.out⟩
      exfalso; omega
  have hA1 : (d.Args.length : Int) > 0 := by omega
  have hA3 : d.State = 2 := by omega
  have hA2 : (d.State != 2) = false := by rw [hA3]; rfl
  clear hA hA3
  by_cases hb : 0 ≤ d.Bells ∧ d.Bells ≤ 1000000
  rotate_left
  · have E := hid (vtOk_bel hb)
    have TB : Hid (inB d.Bells 0 1000000 = false) := hid (by unfold inB; first | exact decide_eq_true (by omega) | exact decide_eq_false (by omega))
    clear hb
    go_enter Try.func27, Try.ntmps27
    go_wp2_with fail
    refine (i_GridOk (grow HGr.out (HI.out _))).mono ?_
    rintro e w1 ⟨rfl, hb⟩
    have B0 : Bx w1 (w.heap.size) _ := Bx.below (b := w.heap.size) hb (by first | omega | (simp; done) | (simp; omega)) (by repeat (first  | (apply Bx.new; (focus (first | (simp; done) | (simp; omega) | omega))) | (apply Bx.alloc; rotate_left; (focus (first | (simp; done) | (simp; omega) | omega))) | (apply Bx.setOther; rotate_left; (focus (first | (simp; done) | (simp; omega) | omega))) | apply Bx.setSame))
    have B0o := B0.out
    have B0f := B0.fr
    have HB := hid (below_call (HI.out _) hb)
    clear hb B0
    rw [HGO.out]
    go_wp2_with fail
    refine (i_in _ _ _ _).mono ?_
    rintro e w' ⟨rfl, rfl⟩
    rw [TS.out]
    go_wp2_with fail
    refine (i_in _ _ _ _).mono ?_
    rintro e w' ⟨rfl, rfl⟩
    rw [TB.out]
    go_wp2
    go_ret
    exact ⟨ret_bool (by rw [E.out]), HB.out⟩
  have TB : Hid (inB d.Bells 0 1000000 = true) := hid (by unfold inB; first | exact decide_eq_true (by omega) | exact decide_eq_false (by omega))
  have HS := hid hs; have HBl := hid hb; have HL := hid hl
  clear hs hb
  go_enter Try.func27, Try.ntmps27
  go_wp2_with fail
  refine (i_GridOk (grow HGr.out (HI.out _))).mono ?_
  rintro e w1 ⟨rfl, hb⟩
  have B0 : Bx w1 (w.heap.size) _ := Bx.below (b := w.heap.size) hb (by first | omega | (simp; done) | (simp; omega)) (by repeat (first  | (apply Bx.new; (focus (first | (simp; done) | (simp; omega) | omega))) | (apply Bx.alloc; rotate_left; (focus (first | (simp; done) | (simp; omega) | omega))) | (apply Bx.setOther; rotate_left; (focus (first | (simp; done) | (simp; omega) | omega))) | apply Bx.setSame))
  have B0o := B0.out
  have B0f := B0.fr
  have HB := hid (below_call (HI.out _) hb)
  clear hb B0
  rw [HGO.out]
  go_wp2_with fail
  refine (i_in _ _ _ _).mono ?_
  rintro e w' ⟨rfl, rfl⟩
  rw [TS.out]
  go_wp2_with fail
  refine (i_in _ _ _ _).mono ?_
  rintro e w' ⟨rfl, rfl⟩
  rw [TB.out]
  go_wp2_with fail
  have H71 := hid (H7.out.grow HB.out)
  go_loop [41] (fun i => ∃ k : Nat, k ≤ d.Args.length ∧ i = .int .i64 (k : Int) ∧ vtArgs d = (d.Args.drop k).all (fun n => decide (0 ≤ n ∧ n ≤ 9999))) (fun i => d.Args.length - (intOf i).toNat)
  case atStart => exact ⟨0, Nat.zero_le _, rfl, rfl⟩
  case round =>
    obtain ⟨k, hk, rfl, hr⟩ := hrel
    have HR := hid hr
    clear hr
    by_cases hlt : k < d.Args.length
    rotate_left
    · have hkk : ¬ (k : Int) < (d.Args.length : Int) := by omega
      have HAll := hid (show vtArgs d = true by rw [HR.out, List.drop_of_length_le (by omega)]; rfl)
      have HE := hid (vtOk_part HGO.out HS.out HL.out HA.out HBl.out HAll.out)
      clear hlt hk
      by_cases hp : d.Part.length = 0
      · have E := hid (show vtOk d = true by rw [HE.out, vtPart, decide_eq_true hp]; rfl)
        have hp2 : ((d.Part.length : Int) == 0) = true := by rw [beq_iff_eq]; omega
        clear hp
        go_wp2
        go_ret
        exact ⟨ret_bool (by rw [E.out]), HB.out⟩
      have hp2 : ((d.Part.length : Int) == 0) = false := by rw [beq_eq_false_iff_ne]; omega
      by_cases hz : d.State = 0
      rotate_left
      · have E := hid (show vtOk d = false by rw [HE.out, vtPart, decide_eq_false hp, decide_eq_false hz]; rfl)
        have hz2 : (d.State == 0) = false := by rw [beq_eq_false_iff_ne]; exact hz
        clear hp hz
        go_wp2
        go_ret
        exact ⟨ret_bool (by rw [E.out]), HB.out⟩
      have E := hid (show vtOk d = runeBegin d.Part by rw [HE.out, vtPart, decide_eq_false hp, decide_eq_true hz]; simp)
      have hz2 : (d.State == 0) = true := by rw [beq_iff_eq]; exact hz
      clear hp hz
      go_wp2_with fail
      refine (i_RuneBeginR (H8.out.grow HB.out)).mono ?_
      rintro e w2 ⟨rfl, hb2⟩
      have HB2 := hid (HB.out.trans (hb2.mono HB.out.size))
      clear hb2
      go_wp2
      go_ret
      exact ⟨ret_bool (by rw [E.out]), HB2.out⟩
    obtain ⟨b, off, rfl, hbw, hck, _⟩ := H71.out.at k hlt
    obtain ⟨y, hy⟩ : ∃ y, y = d.Args[k] := ⟨_, rfl⟩
    have hck1 : w1.cell? ⟨b, off + k, none⟩ = some (.int .i64 y) := by rw [hy]; exact hck
    have hst := drop_all (fun n : Int => decide (0 ≤ n ∧ n ≤ 9999)) d.Args k hlt
    rw [← hy] at hst
    have HST := hid hst
    have hkk : (k : Int) < (d.Args.length : Int) := by omega
    clear hck hst hy
    by_cases hy : 0 ≤ y ∧ y ≤ 9999
    rotate_left
    · have E := hid (vtOk_args (by rw [HR.out, HST.out, decide_eq_false (by omega)]; rfl))
      have TY : Hid (inB y 0 9999 = false) := hid (by unfold inB; first | exact decide_eq_true (by omega) | exact decide_eq_false (by omega))
      clear hy
      go_wp2_with fail
      refine (i_in _ _ _ _).mono ?_
      rintro e w' ⟨rfl, rfl⟩
      rw [TY.out]
      go_wp2
      go_ret
      exact ⟨ret_bool (by rw [E.out]), HB.out⟩
    have HN := hid (show vtArgs d = (d.Args.drop (k + 1)).all (fun n => decide (0 ≤ n ∧ n ≤ 9999)) by rw [HR.out, HST.out, decide_eq_true (by omega)]; rfl)
    have TY : Hid (inB y 0 9999 = true) := hid (by unfold inB; first | exact decide_eq_true (by omega) | exact decide_eq_false (by omega))
    clear hy
    go_wp2_with fail
    refine (i_in _ _ _ _).mono ?_
    rintro e w' ⟨rfl, rfl⟩
    rw [TY.out]
    go_wp2
    exact ⟨⟨k + 1, by omega, rfl, HN.out⟩, by simp [intOf]; omega⟩
theorem s_VtOk {w : World} {bs : List Nat} {cs : List Value} {d : VtD} (h : Rep.pt w bs cs d) :
    Calls Try.prog 25 #[.agg cs.toArray] w fun e w' => e = .returned (.bool (vtOk d)) ∧ Below w.heap.size w w' := by
  obtain ⟨b2, b7, b8, a2, l2, k2, a7, l7, k7, a8, l8, k8, rfl, rfl, h0, h1, h2, h3, h4, h6, h7, h8, h9⟩ := open_Vt h
  obtain rfl := h2.len_eq
  obtain rfl := h7.len_eq
  obtain rfl := h8.len_eq
  have m7 := h7.max; have m8 := h8.max
  have HGr := hid (mk_Grid (d := d.Grid) h0 h1 h2 h3 h4)
  have H7 := hid h7; have H8 := hid h8
  have HI := hid (fun o => (Below.refl w.heap.size w).alloc (Nat.le_refl _) o)
  unfold I64 at h6 h9
  clear h h0 h1 h2 h3 h4 h7 h8
  cases hg : gridOk d.Grid
  · have E := hid (vtOk_grid hg)
    have HGO := hid hg; clear hg
    go_enter Try.func25, Try.ntmps25
    go_wp2_with fail
    refine (s_GridOk (grow HGr.out (HI.out _))).mono ?_
    rintro e w1 ⟨rfl, hb⟩
    have B0 : Bx w1 (w.heap.size) _ := Bx.below (b := w.heap.size) hb (by first | omega | (simp; done) | (simp; omega)) (by repeat (first  | (apply Bx.new; (focus (first | (simp; done) | (simp; omega) | omega))) | (apply Bx.alloc; rotate_left; (focus (first | (simp; done) | (simp; omega) | omega))) | (apply Bx.setOther; rotate_left; (focus (first | (simp; done) | (simp; omega) | omega))) | apply Bx.setSame))
    have B0o := B0.out
    have B0f := B0.fr
    have HB := hid (below_call (HI.out _) hb)
    clear hb B0
    rw [HGO.out]
    go_wp2
    go_ret
    exact ⟨ret_bool (by rw [E.out]), HB.out⟩
  have HGO := hid hg; clear hg
  by_cases hs0 : 0 ≤ d.State
  rotate_left
  · have E := hid (vtOk_st (fun q => hs0 q.1))
    have hs1 : d.State < 0 := by omega
    clear hs0
    go_enter Try.func25, Try.ntmps25
    go_wp2_with fail
    refine (s_GridOk (grow HGr.out (HI.out _))).mono ?_
    rintro e w1 ⟨rfl, hb⟩
    have B0 : Bx w1 (w.heap.size) _ := Bx.below (b := w.heap.size) hb (by first | omega | (simp; done) | (simp; omega)) (by repeat (first  | (apply Bx.new; (focus (first | (simp; done) | (simp; omega) | omega))) | (apply Bx.alloc; rotate_left; (focus (first | (simp; done) | (simp; omega) | omega))) | (apply Bx.setOther; rotate_left; (focus (first | (simp; done) | (simp; omega) | omega))) | apply Bx.setSame))
    have B0o := B0.out
    have B0f := B0.fr
    have HB := hid (below_call (HI.out _) hb)
    clear hb B0
    rw [HGO.out]
    go_wp2
    go_ret
    exact ⟨ret_bool (by rw [E.out]), HB.out⟩
  by_cases hs2 : d.State ≤ 2
  rotate_left
  · have E := hid (vtOk_st (fun q => hs2 q.2))
    have hs1 : ¬ d.State < 0 := by omega
    have hs3 : d.State > 2 := by omega
    clear hs0 hs2
    go_enter Try.func25, Try.ntmps25
    go_wp2_with fail
    refine (s_GridOk (grow HGr.out (HI.out _))).mono ?_
    rintro e w1 ⟨rfl, hb⟩
    have B0 : Bx w1 (w.heap.size) _ := Bx.below (b := w.heap.size) hb (by first | omega | (simp; done) | (simp; omega)) (by repeat (first  | (apply Bx.new; (focus (first | (simp; done) | (simp; omega) | omega))) | (apply Bx.alloc; rotate_left; (focus (first | (simp; done) | (simp; omega) | omega))) | (apply Bx.setOther; rotate_left; (focus (first | (simp; done) | (simp; omega) | omega))) | apply Bx.setSame))
    have B0o := B0.out
    have B0f := B0.fr
    have HB := hid (below_call (HI.out _) hb)
    clear hb B0
    rw [HGO.out]
    go_wp2
    go_ret
    exact ⟨ret_bool (by rw [E.out]), HB.out⟩
  have hs : 0 ≤ d.State ∧ d.State ≤ 2 := ⟨hs0, hs2⟩
  have hs1 : ¬ d.State < 0 := by omega
  have hs3 : ¬ d.State > 2 := by omega
  clear hs0 hs2
  by_cases hl : d.Args.length ≤ 4
  rotate_left
  · have E := hid (vtOk_len hl)
    have hl2 : (d.Args.length : Int) > 4 := by omega
    clear hl
    go_enter Try.func25, Try.ntmps25
    go_wp2_with fail
    refine (s_GridOk (grow HGr.out (HI.out _))).mono ?_
    rintro e w1 ⟨rfl, hb⟩
    have B0 : Bx w1 (w.heap.size) _ := Bx.below (b := w.heap.size) hb (by first | omega | (simp; done) | (simp; omega)) (by repeat (first  | (apply Bx.new; (focus (first | (simp; done) | (simp; omega) | omega))) | (apply Bx.alloc; rotate_left; (focus (first | (simp; done) | (simp; omega) | omega))) | (apply Bx.setOther; rotate_left; (focus (first | (simp; done) | (simp; omega) | omega))) | apply Bx.setSame))
    have B0o := B0.out
    have B0f := B0.fr
    have HB := hid (below_call (HI.out _) hb)
    clear hb B0
    rw [HGO.out]
    go_wp2
    go_ret
    exact ⟨ret_bool (by rw [E.out]), HB.out⟩
  have hl2 : ¬ (d.Args.length : Int) > 4 := by omega
  by_cases hb0 : 0 ≤ d.Bells
  rotate_left
  · have E := hid (vtOk_bel (fun q => hb0 q.1))
    have hb1 : d.Bells < 0 := by omega
    clear hb0
    go_enter Try.func25, Try.ntmps25
    go_wp2_with fail
    refine (s_GridOk (grow HGr.out (HI.out _))).mono ?_
    rintro e w1 ⟨rfl, hb⟩
    have B0 : Bx w1 (w.heap.size) _ := Bx.below (b := w.heap.size) hb (by first | omega | (simp; done) | (simp; omega)) (by repeat (first  | (apply Bx.new; (focus (first | (simp; done) | (simp; omega) | omega))) | (apply Bx.alloc; rotate_left; (focus (first | (simp; done) | (simp; omega) | omega))) | (apply Bx.setOther; rotate_left; (focus (first | (simp; done) | (simp; omega) | omega))) | apply Bx.setSame))
    have B0o := B0.out
    have B0f := B0.fr
    have HB := hid (below_call (HI.out _) hb)
    clear hb B0
    rw [HGO.out]
    go_wp2
    go_ret
    exact ⟨ret_bool (by rw [E.out]), HB.out⟩
  by_cases hb2 : d.Bells ≤ 1000000
  rotate_left
  · have E := hid (vtOk_bel (fun q => hb2 q.2))
    have hb1 : ¬ d.Bells < 0 := by omega
    have hb3 : d.Bells > 1000000 := by omega
    clear hb0 hb2
    go_enter Try.func25, Try.ntmps25
    go_wp2_with fail
    refine (s_GridOk (grow HGr.out (HI.out _))).mono ?_
    rintro e w1 ⟨rfl, hb⟩
    have B0 : Bx w1 (w.heap.size) _ := Bx.below (b := w.heap.size) hb (by first | omega | (simp; done) | (simp; omega)) (by repeat (first  | (apply Bx.new; (focus (first | (simp; done) | (simp; omega) | omega))) | (apply Bx.alloc; rotate_left; (focus (first | (simp; done) | (simp; omega) | omega))) | (apply Bx.setOther; rotate_left; (focus (first | (simp; done) | (simp; omega) | omega))) | apply Bx.setSame))
    have B0o := B0.out
    have B0f := B0.fr
    have HB := hid (below_call (HI.out _) hb)
    clear hb B0
    rw [HGO.out]
    go_wp2
    go_ret
    exact ⟨ret_bool (by rw [E.out]), HB.out⟩
  have hb : 0 ≤ d.Bells ∧ d.Bells ≤ 1000000 := ⟨hb0, hb2⟩
  have hb1 : ¬ d.Bells < 0 := by omega
  have hb3 : ¬ d.Bells > 1000000 := by omega
  clear hb0 hb2
  have HS := hid hs; have HBl := hid hb; have HL := hid hl
  go_enter Try.func25, Try.ntmps25
  go_wp2_with fail
  refine (s_GridOk (grow HGr.out (HI.out _))).mono ?_
  rintro e w1 ⟨rfl, hb⟩
  have B0 : Bx w1 (w.heap.size) _ := Bx.below (b := w.heap.size) hb (by first | omega | (simp; done) | (simp; omega)) (by repeat (first  | (apply Bx.new; (focus (first | (simp; done) | (simp; omega) | omega))) | (apply Bx.alloc; rotate_left; (focus (first | (simp; done) | (simp; omega) | omega))) | (apply Bx.setOther; rotate_left; (focus (first | (simp; done) | (simp; omega) | omega))) | apply Bx.setSame))
  have B0o := B0.out
  have B0f := B0.fr
  have HB := hid (below_call (HI.out _) hb)
  clear hb B0
  rw [HGO.out]
  go_wp2_with fail
  have H71 := hid (H7.out.grow HB.out)
  go_loop [38] (fun i => ∃ k : Nat, k ≤ d.Args.length ∧ i = .int .i64 (k : Int) ∧ vtArgs d = (d.Args.drop k).all (fun n => decide (0 ≤ n ∧ n ≤ 9999))) (fun i => d.Args.length - (intOf i).toNat)
  case atStart => exact ⟨0, Nat.zero_le _, rfl, rfl⟩
  case round =>
    obtain ⟨k, hk, rfl, hr⟩ := hrel
    have HR := hid hr
    clear hr
    by_cases hlt : k < d.Args.length
    rotate_left
    · have hkk : ¬ (k : Int) < (d.Args.length : Int) := by omega
      have HAll := hid (show vtArgs d = true by rw [HR.out, List.drop_of_length_le (by omega)]; rfl)
      clear hlt hk
      by_cases hA : d.Args.length = 0 ∨ d.State = 2
      rotate_left
      · have E := hid (vtOk_arg hA)
        have hA1 : (d.Args.length : Int) > 0 := by omega
        have hA2 : (d.State != 2) = true := by rw [bne_iff_ne]; omega
        clear hA hl
        go_wp2
        go_ret
        exact ⟨ret_bool (by rw [E.out]), HB.out⟩
      have HE := hid (vtOk_part HGO.out HS.out HL.out hA HBl.out HAll.out)
      by_cases hA0 : d.Args.length = 0
      · have hA1 : ¬ (d.Args.length : Int) > 0 := by omega
        clear hA hl hA0
        by_cases hp : d.Part.length = 0
        · have E := hid (show vtOk d = true by rw [HE.out, vtPart, decide_eq_true hp]; rfl)
          have hp2 : ((d.Part.length : Int) == 0) = true := by rw [beq_iff_eq]; omega
          clear hp
          go_wp2
          go_ret
          exact ⟨ret_bool (by rw [E.out]), HB.out⟩
        have hp2 : ((d.Part.length : Int) == 0) = false := by rw [beq_eq_false_iff_ne]; omega
        by_cases hz : d.State = 0
        rotate_left
        · have E := hid (show vtOk d = false by rw [HE.out, vtPart, decide_eq_false hp, decide_eq_false hz]; rfl)
          have hz2 : (d.State == 0) = false := by rw [beq_eq_false_iff_ne]; exact hz
          clear hp hz
          go_wp2
          go_ret
          exact ⟨ret_bool (by rw [E.out]), HB.out⟩
        have E := hid (show vtOk d = runeBegin d.Part by rw [HE.out, vtPart, decide_eq_false hp, decide_eq_true hz]; simp)
        have hz2 : (d.State == 0) = true := by rw [beq_iff_eq]; exact hz
        clear hp hz
        go_wp2_with fail
        refine (s_RuneBegin (H8.out.grow HB.out)).mono ?_
        rintro e w2 ⟨rfl, hb2⟩
        have HB2 := hid (HB.out.trans (hb2.mono HB.out.size))
        clear hb2
        go_wp2
        go_ret
        exact ⟨ret_bool (by rw [E.out]), HB2.out⟩
      have hA1 : (d.Args.length : Int) > 0 := by omega
      have hA3 : d.State = 2 := by omega
      have hA2 : (d.State != 2) = false := by rw [hA3]; rfl
      clear hA hl hA0 hA3
      by_cases hp : d.Part.length = 0
      · have E := hid (show vtOk d = true by rw [HE.out, vtPart, decide_eq_true hp]; rfl)
        have hp2 : ((d.Part.length : Int) == 0) = true := by rw [beq_iff_eq]; omega
        clear hp
        go_wp2
        go_ret
        exact ⟨ret_bool (by rw [E.out]), HB.out⟩
      have hp2 : ((d.Part.length : Int) == 0) = false := by rw [beq_eq_false_iff_ne]; omega
      by_cases hz : d.State = 0
      rotate_left
      · have E := hid (show vtOk d = false by rw [HE.out, vtPart, decide_eq_false hp, decide_eq_false hz]; rfl)
        have hz2 : (d.State == 0) = false := by rw [beq_eq_false_iff_ne]; exact hz
        clear hp hz
        go_wp2
        go_ret
        exact ⟨ret_bool (by rw [E.out]), HB.out⟩
      have E := hid (show vtOk d = runeBegin d.Part by rw [HE.out, vtPart, decide_eq_false hp, decide_eq_true hz]; simp)
      have hz2 : (d.State == 0) = true := by rw [beq_iff_eq]; exact hz
      clear hp hz
      go_wp2_with fail
      refine (s_RuneBegin (H8.out.grow HB.out)).mono ?_
      rintro e w2 ⟨rfl, hb2⟩
      have HB2 := hid (HB.out.trans (hb2.mono HB.out.size))
      clear hb2
      go_wp2
      go_ret
      exact ⟨ret_bool (by rw [E.out]), HB2.out⟩
    obtain ⟨b, off, rfl, hbw, hck, _⟩ := H71.out.at k hlt
    obtain ⟨y, hy⟩ : ∃ y, y = d.Args[k] := ⟨_, rfl⟩
    have hck1 : w1.cell? ⟨b, off + k, none⟩ = some (.int .i64 y) := by rw [hy]; exact hck
    have hst := drop_all (fun n : Int => decide (0 ≤ n ∧ n ≤ 9999)) d.Args k hlt
    rw [← hy] at hst
    have HST := hid hst
    have hkk : (k : Int) < (d.Args.length : Int) := by omega
    clear hck hst hy
    by_cases hy0 : y < 0
    · have E := hid (vtOk_args (by rw [HR.out, HST.out, decide_eq_false (by omega)]; rfl))
      go_wp2
      go_ret
      exact ⟨ret_bool (by rw [E.out]), HB.out⟩
    by_cases hy9 : y > 9999
    · have E := hid (vtOk_args (by rw [HR.out, HST.out, decide_eq_false (by omega)]; rfl))
      go_wp2
      go_ret
      exact ⟨ret_bool (by rw [E.out]), HB.out⟩
    have HN := hid (show vtArgs d = (d.Args.drop (k + 1)).all (fun n => decide (0 ≤ n ∧ n ≤ 9999)) by rw [HR.out, HST.out, decide_eq_true (by omega)]; rfl)
    go_wp2
    exact ⟨⟨k + 1, by omega, rfl, HN.out⟩, by simp [intOf]; omega⟩
end Go.Proofs.Ytffinfpnmohnaaa
