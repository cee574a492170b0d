/- Whether bytes begin a rune, by the program (printed by genbegini.py). -/
import Derived.Test.YtffinfpnmohnaaaBeginL
import Derived.Deep.DeepCutAuto
import Derived.Lib.MinMax
set_option linter.unusedSimpArgs false
set_option linter.unusedVariables false
namespace Go.G6
open Go.RowKit Rep
theorem bI_fill_lt {x : UInt8} {xs : List UInt8} {s j : Nat} (h : j < xs.length) : bI (fillS x xs s) j = bI xs j := by
  unfold bI fillS; simp [List.getD, List.getElem?_append_left h]
theorem bI_fill_ge {x : UInt8} {xs : List UInt8} {s j : Nat} (h : xs.length ≤ j) (h2 : j < s) : bI (fillS x xs s) j = (x.toNat : Int) := by
  unfold bI fillS
  have e : (xs ++ List.replicate (s - xs.length) x)[j]? = some x := by
    rw [List.getElem?_append_right h, List.getElem?_replicate, if_pos (by omega)]
  simp [List.getD, e]
theorem bI_at {xs : List UInt8} {j : Nat} (h : j < xs.length) : bI xs j = (xs[j].toNat : Int) := by
  unfold bI; simp [h]
def contTo (xs : List UInt8) (j : Nat) : Prop := ∀ m, 1 ≤ m → m < j → m < xs.length → cont (bI xs m) = true
theorem contTo_zero (xs : List UInt8) : contTo xs 1 := fun m h1 h2 _ => by omega
theorem contTo_succ {xs : List UInt8} {j : Nat} (h : contTo xs j) (hc : j < xs.length → cont (bI xs j) = true) : contTo xs (j + 1) := fun m h1 h2 h3 => by
  by_cases e : m = j
  · subst e; exact hc h3
  · exact h m h1 (by omega) h3
theorem contTo_all {xs : List UInt8} {n : Nat} (h : contTo xs n) (hn : xs.length ≤ n) : (xs.drop 1).all (fun c => cont (c.toNat : Int)) = true := by
  rw [List.all_eq_true]
  intro c hc
  obtain ⟨i, hi, rfl⟩ := List.getElem_of_mem hc
  rw [List.length_drop] at hi
  have q := h (1 + i) (by omega) (by omega) (by omega)
  rw [bI_at (by omega)] at q
  rw [List.getElem_drop]; exact q
theorem cont_not {xs : List UInt8} {j : Nat} (h1 : 1 ≤ j) (hl : j < xs.length) (h : cont (bI xs j) = false) : (xs.drop 1).all (fun c => cont (c.toNat : Int)) = false := by
  rw [List.all_eq_false]
  rw [bI_at hl] at h
  refine ⟨xs[j], ?_, by rw [h]; decide⟩
  have : xs[j] = (xs.drop 1)[j - 1]'(by rw [List.length_drop]; omega) := by rw [List.getElem_drop]; congr 1; omega
  rw [this]; exact List.getElem_mem _
theorem rbI_long {xs : List UInt8} (h : ¬ (1 ≤ xs.length ∧ xs.length ≤ 3)) : rbI xs = false := by unfold rbI; rw [decide_eq_false h]; rfl
theorem rbI_none {xs : List UInt8} {n : Nat} (hn : rdN (bI xs 0) = n) (h : ¬ (2 ≤ n ∧ xs.length < n)) : rbI xs = false := by unfold rbI; rw [hn, decide_eq_false h]; simp
theorem rbI_not {xs : List UInt8} (h : (xs.drop 1).all (fun c => cont (c.toNat : Int)) = false) : rbI xs = false := by unfold rbI; rw [h]; simp
theorem rbI_yes {xs : List UInt8} {n : Nat} (hn : rdN (bI xs 0) = n) (h1 : 1 ≤ xs.length ∧ xs.length ≤ 3) (h : 2 ≤ n ∧ xs.length < n) (ha : (xs.drop 1).all (fun c => cont (c.toNat : Int)) = true) : rbI xs = rbTest n (rdVal n (fillS 128 xs n)) (rdVal n (fillS 191 xs n)) := by unfold rbI; rw [hn, decide_eq_true h, decide_eq_true h1, ha]; simp
end Go.G6
namespace Go.Proofs.Ytffinfpnmohnaaa
open Go.RowKit Go.G6
set_option maxHeartbeats 30000000
set_option maxRecDepth 10000
theorem i_RuneBegin {w : World} {bs : List Nat} {a : Option Addr} {len cap : Nat} {xs : List UInt8} (h : Slc w bs a len cap xs) :
    Calls Try.prog 17 #[.slice a len cap] w fun e w' => e = .returned (.bool (rbI xs)) ∧ Below w.heap.size w w' := by
  obtain rfl := h.len_eq
  have hmx := h.max
  have H := hid h
  clear h
  by_cases h1 : 1 ≤ xs.length ∧ xs.length ≤ 3
  rotate_left
  · have E := hid (rbI_long h1)
    have TL : Hid (inB (xs.length : Int) 1 3 = false) := hid (by unfold inB; first | exact decide_eq_true (by omega) | exact decide_eq_false (by omega))
    clear h1
    go_enter Try.func17, Try.ntmps17
    go_wp2_with fail
    refine (i_in _ _ _ _).mono ?_
    rintro e w' ⟨rfl, rfl⟩
    rw [TL.out]
    go_wp2
    go_ret
    exact ⟨ret_bool (by rw [E.out]), by first | exact Below.refl _ _ | exact HBel.out _ | assumption | exact HB.out | exact HB.out.drewN _⟩
  have TL : Hid (inB (xs.length : Int) 1 3 = true) := hid (by unfold inB; first | exact decide_eq_true (by omega) | exact decide_eq_false (by omega))
  obtain ⟨b, off, rfl, hbw, hck⟩ : ∃ b off, a = some ⟨b, off, none⟩ ∧ b < w.heap.size ∧ w.cell? ⟨b, off, none⟩ = some (.int .u8 (xs[0].toNat : Int)) := by
    obtain ⟨b, off, cs', bs', h5, hb, ⟨_, rfl⟩, _, hA⟩ := H.out.elem 0 (by omega)
    exact ⟨b, off, h5, hb, by simpa [show Rep.size UInt8 = 1 from rfl] using hA 0 _ rfl⟩
  obtain ⟨c, hc⟩ : ∃ c : Int, c = bI xs 0 := ⟨_, rfl⟩
  have hcr : 0 ≤ c ∧ c < 256 := by rw [hc]; exact bI_range _ _
  rw [show ((xs[0].toNat : Nat) : Int) = c by rw [hc, bI_at (by omega)]] at hck
  have hli : (0 : Int) < (xs.length : Int) := by omega
  have HBW := hid hbw
  have HBel := hid (fun n => (Below.refl w.heap.size w).drewN n)
  have HC := hid hc
  clear hc
  rcases (by omega : (c < 192 ∨ 248 ≤ c) ∨ (192 ≤ c ∧ c < 224) ∨ (224 ≤ c ∧ c < 240) ∨ (240 ≤ c ∧ c < 248)) with q | q | q | q
  · have HN := hid (show rdN (bI xs 0) ≤ 1 by rw [← HC.out]; unfold rdN; (repeat' split) <;> omega)
    have T0 : Hid (inB c 192 223 = false) := hid (by unfold inB; first | exact decide_eq_true (by omega) | exact decide_eq_false (by omega))
    have T1 : Hid (inB c 224 239 = false) := hid (by unfold inB; first | exact decide_eq_true (by omega) | exact decide_eq_false (by omega))
    have T2 : Hid (inB c 240 247 = false) := hid (by unfold inB; first | exact decide_eq_true (by omega) | exact decide_eq_false (by omega))
    have E := hid (rbI_none (xs := xs) rfl (by have := HN.out; omega))
    have hge : (xs.length : Int) ≥ 0 := by omega
    clear q
    go_enter Try.func17, Try.ntmps17
    go_wp2_with fail
    refine (i_in _ _ _ _).mono ?_
    rintro e w' ⟨rfl, rfl⟩
    rw [TL.out]
    go_wp2_with fail
    go_quiet (fail)
    go_wp2_with fail
    refine (i_in _ _ _ _).mono ?_
    rintro e w' ⟨rfl, rfl⟩
    rw [T0.out]
    go_wp2_with fail
    refine (i_in _ _ _ _).mono ?_
    rintro e w' ⟨rfl, rfl⟩
    rw [T1.out]
    go_wp2_with fail
    refine (i_in _ _ _ _).mono ?_
    rintro e w' ⟨rfl, rfl⟩
    rw [T2.out]
    go_wp2
    go_ret
    exact ⟨ret_bool (by rw [E.out]), by first | exact Below.refl _ _ | exact HBel.out _ | assumption | exact HB.out | exact HB.out.drewN _⟩
  · have HN := hid (show rdN (bI xs 0) = 2 by rw [← HC.out]; unfold rdN; (repeat' split) <;> omega)
    have T0 : Hid (inB c 192 223 = true) := hid (by unfold inB; first | exact decide_eq_true (by omega) | exact decide_eq_false (by omega))
    have hw1 : wrap64 (c - 192) = c - 192 := IntWalk.wrap64_in _ (by omega)
    have hw2 : IntKind.i64.wrap (c - 192) = c - 192 := wrapI (by omega)
    by_cases hge : (xs.length : Int) ≥ 2
    · have E := hid (rbI_none HN.out (by omega))
      clear q
      go_enter Try.func17, Try.ntmps17
      go_wp2_with fail
      refine (i_in _ _ _ _).mono ?_
      rintro e w' ⟨rfl, rfl⟩
      rw [TL.out]
      go_wp2_with fail
      go_quiet (fail)
      go_wp2_with fail
      refine (i_in _ _ _ _).mono ?_
      rintro e w' ⟨rfl, rfl⟩
      rw [T0.out]
      go_wp2
      go_ret
      exact ⟨ret_bool (by rw [E.out]), by first | exact Below.refl _ _ | exact HBel.out _ | assumption | exact HB.out | exact HB.out.drewN _⟩
    have hl2 : xs.length < 2 := by omega
    go_enter Try.func17, Try.ntmps17
    go_wp2_with fail
    refine (i_in _ _ _ _).mono ?_
    rintro e w' ⟨rfl, rfl⟩
    rw [TL.out]
    go_wp2_with fail
    go_quiet (fail)
    go_wp2_with fail
    refine (i_in _ _ _ _).mono ?_
    rintro e w' ⟨rfl, rfl⟩
    rw [T0.out]
    go_wp2_with fail
    go_loopw [5, 6, 7] (fun l h i wr => ∃ (k : Nat) (v u : Int), 1 ≤ k ∧ k ≤ 2 ∧ i = .int .i64 (k : Int) ∧ l = .int .i64 v ∧ h = .int .i64 u ∧ rdB (k - 1) v ∧ rdB (k - 1) u ∧ rdF (fillS 128 xs 2) (2 - k) k v = rdVal 2 (fillS 128 xs 2) ∧ rdF (fillS 191 xs 2) (2 - k) k u = rdVal 2 (fillS 191 xs 2) ∧ contTo xs k ∧ Below w.heap.size w wr) (fun _ _ i _ => 3 - (intOf i).toNat)
    case atStart => exact ⟨1, c - 192, c - 192, by omega, by omega, rfl, rfl, rfl, by unfold rdB; omega, by unfold rdB; omega, by rw [rdVal, bI_fill (by omega), ← HC.out]; rfl, by rw [rdVal, bI_fill (by omega), ← HC.out]; rfl, contTo_zero _, by first | exact HBel.out _ | exact Below.refl _ _ | exact (Below.refl _ _).drew | assumption⟩
    case round =>
      obtain ⟨k, v, u, hk1, hk, rfl, rfl, rfl, hB, hB2, hF, hF2, hC, hb⟩ := hrel
      have hv := rdB_le hB (by omega)
      have hu := rdB_le hB2 (by omega)
      have HB := hid hb; have HCt := hid hC
      clear hC hb
      by_cases hlt : k < 2
      rotate_left
      · obtain rfl : k = 2 := by omega
        have hF3 : v = rdVal 2 (fillS 128 xs 2) := hF
        have hF4 : u = rdVal 2 (fillS 191 xs 2) := hF2
        have e0 := rbI_yes HN.out h1 (by omega) (contTo_all HCt.out (by omega))
        rw [← hF3, ← hF4] at e0
        have E := hid e0
        clear hF hF2 hF3 hF4 hB hB2 e0
        go_wp2
        all_goals (go_ret; exact ⟨ret_bool (by rw [E.out, rbTest, Bool.eq_iff_iff]; simp [rbLeast]; omega), by first | exact HB.out | exact HB.out.drew | exact HB.out.alloc HB.out.size _ | exact (HB.out.alloc HB.out.size _).drew⟩)
      have hki : (k : Int) < 2 := by omega
      have Hwk := hid (show wrap64 ((k : Int) + 1) = (k : Int) + 1 from IntWalk.wrap64_in _ (by omega))
      have Hm1 := hid (show wrap64 (v * 64) = v * 64 from IntWalk.wrap64_in _ (by omega))
      have Hm2 := hid (show wrap64 (u * 64) = u * 64 from IntWalk.wrap64_in _ (by omega))
      by_cases hin : k < xs.length
      · obtain ⟨b3, off3, ea, hck3⟩ := H.out.byte k hin
        simp only [Option.some.injEq, Addr.mk.injEq, and_true] at ea
        obtain ⟨rfl, rfl⟩ := ea
        obtain ⟨y, hy⟩ : ∃ y : Int, y = bI xs k := ⟨_, rfl⟩
        rw [← bI_at hin, ← hy] at hck3
        have hyr := bI_range xs k
        rw [← hy] at hyr
        have hkx : (k : Int) < (xs.length : Int) := by omega
        have hcell : wr.cell? ⟨b, off + k, none⟩ = some (.int .u8 y) := (HB.out.cell (p := ⟨b, off + k, none⟩) HBW.out).trans hck3
        clear hck3
        cases hct : cont y
        · have E := hid (rbI_not (cont_not hk1 hin (by rw [← hy]; exact hct)))
          have TC : Hid (inB y 128 191 = false) := hid hct
          clear hF hF2 hB hB2 hct hy
          go_wp2_with fail
          refine (i_in _ _ _ _).mono ?_
          rintro e w' ⟨rfl, rfl⟩
          rw [TC.out]
          go_wp2
          go_ret
          exact ⟨ret_bool (by rw [E.out]), by first | exact Below.refl _ _ | exact HBel.out _ | assumption | exact HB.out | exact HB.out.drewN _⟩
        have TC : Hid (inB y 128 191 = true) := hid hct
        have Hm3 := hid (show wrap64 (v * 64 + y) = v * 64 + y from IntWalk.wrap64_in _ (by omega))
        have Hm4 := hid (show wrap64 (v * 64 + y - 128) = v * 64 + y - 128 from IntWalk.wrap64_in _ (by omega))
        have Hm5 := hid (show wrap64 (u * 64 + y) = u * 64 + y from IntWalk.wrap64_in _ (by omega))
        have Hm6 := hid (show wrap64 (u * 64 + y - 128) = u * 64 + y - 128 from IntWalk.wrap64_in _ (by omega))
        have HB3 := hid (rdB_step hB (by omega) hyr)
        have HB4 := hid (rdB_step hB2 (by omega) hyr)
        have HF3 := hid (show rdF (fillS 128 xs 2) (2 - (k + 1)) (k + 1) (v * 64 + y - 128) = rdVal 2 (fillS 128 xs 2) by rw [← hF, show 2 - k = (2 - (k + 1)) + 1 by omega, rdF, bI_fill_lt hin, ← hy])
        have HF4 := hid (show rdF (fillS 191 xs 2) (2 - (k + 1)) (k + 1) (u * 64 + y - 128) = rdVal 2 (fillS 191 xs 2) by rw [← hF2, show 2 - k = (2 - (k + 1)) + 1 by omega, rdF, bI_fill_lt hin, ← hy])
        have HC5 := hid (contTo_succ HCt.out (fun _ => by rw [← hy]; exact hct))
        rw [show k - 1 + 1 = k + 1 - 1 by omega] at HB3 HB4
        clear hF hF2 hB hB2 hct hy
        go_wp2_with fail
        refine (i_in _ _ _ _).mono ?_
        rintro e w' ⟨rfl, rfl⟩
        rw [TC.out]
        have hwk := Hwk.out
        have hm1 := Hm1.out
        have hm2 := Hm2.out
        have hm3 := Hm3.out
        have hm4 := Hm4.out
        have hm5 := Hm5.out
        have hm6 := Hm6.out
        go_wp2_with fail
        go_quiet (fail)
        clear hm1 hm2 hm3 hm4 hm5 hm6 Hm1 Hm2 Hm3 Hm4 Hm5 Hm6
        generalize v * 64 + y - 128 = V at HB3 HF3 ⊢
        generalize u * 64 + y - 128 = U at HB4 HF4 ⊢
        clear hv hu hck hcr hyr
        go_wp2
        clear hwk
        exact ⟨⟨k + 1, V, U, by omega, by omega, rfl, rfl, rfl, HB3.out, HB4.out, HF3.out, HF4.out, HC5.out, by first | exact HB.out.drewN _ | exact HB.out⟩, by simp [intOf]; omega⟩
      have hkx : ¬ (k : Int) < (xs.length : Int) := by omega
      have Hm6 := hid (show wrap64 (u * 64 + 63) = u * 64 + 63 from IntWalk.wrap64_in _ (by omega))
      have q3 := rdB_step hB (by omega) (show (0 : Int) ≤ 128 ∧ (128 : Int) < 256 by omega)
      have q4 := rdB_step hB2 (by omega) (show (0 : Int) ≤ 191 ∧ (191 : Int) < 256 by omega)
      rw [show k - 1 + 1 = k + 1 - 1 by omega] at q3 q4
      rw [show v * 64 + 128 - 128 = v * 64 by omega] at q3
      rw [show u * 64 + 191 - 128 = u * 64 + 63 by omega] at q4
      have HB3 := hid q3; have HB4 := hid q4
      have HF3 := hid (show rdF (fillS 128 xs 2) (2 - (k + 1)) (k + 1) (v * 64) = rdVal 2 (fillS 128 xs 2) by rw [← hF, show 2 - k = (2 - (k + 1)) + 1 by omega, rdF, bI_fill_ge (by omega) hlt]; congr 1; show v * 64 = v * 64 + 128 - 128; omega)
      have HF4 := hid (show rdF (fillS 191 xs 2) (2 - (k + 1)) (k + 1) (u * 64 + 63) = rdVal 2 (fillS 191 xs 2) by rw [← hF2, show 2 - k = (2 - (k + 1)) + 1 by omega, rdF, bI_fill_ge (by omega) hlt]; congr 1; show u * 64 + 63 = u * 64 + 191 - 128; omega)
      have HC5 := hid (contTo_succ HCt.out (fun q => absurd q hin))
      clear hF hF2 hB hB2 q3 q4
      have hwk := Hwk.out
      have hm1 := Hm1.out
      have hm2 := Hm2.out
      have hm6 := Hm6.out
      go_wp2
      clear hwk hm1 hm2 hm6
      exact ⟨⟨k + 1, v * 64, u * 64 + 63, by omega, by omega, rfl, rfl, rfl, HB3.out, HB4.out, HF3.out, HF4.out, HC5.out, HB.out⟩, by simp [intOf]; omega⟩
  · have HN := hid (show rdN (bI xs 0) = 3 by rw [← HC.out]; unfold rdN; (repeat' split) <;> omega)
    have T0 : Hid (inB c 192 223 = false) := hid (by unfold inB; first | exact decide_eq_true (by omega) | exact decide_eq_false (by omega))
    have T1 : Hid (inB c 224 239 = true) := hid (by unfold inB; first | exact decide_eq_true (by omega) | exact decide_eq_false (by omega))
    have hw1 : wrap64 (c - 224) = c - 224 := IntWalk.wrap64_in _ (by omega)
    have hw2 : IntKind.i64.wrap (c - 224) = c - 224 := wrapI (by omega)
    by_cases hge : (xs.length : Int) ≥ 3
    · have E := hid (rbI_none HN.out (by omega))
      clear q
      go_enter Try.func17, Try.ntmps17
      go_wp2_with fail
      refine (i_in _ _ _ _).mono ?_
      rintro e w' ⟨rfl, rfl⟩
      rw [TL.out]
      go_wp2_with fail
      go_quiet (fail)
      go_wp2_with fail
      refine (i_in _ _ _ _).mono ?_
      rintro e w' ⟨rfl, rfl⟩
      rw [T0.out]
      go_wp2_with fail
      refine (i_in _ _ _ _).mono ?_
      rintro e w' ⟨rfl, rfl⟩
      rw [T1.out]
      go_wp2
      go_ret
      exact ⟨ret_bool (by rw [E.out]), by first | exact Below.refl _ _ | exact HBel.out _ | assumption | exact HB.out | exact HB.out.drewN _⟩
    have hl2 : xs.length < 3 := by omega
    go_enter Try.func17, Try.ntmps17
    go_wp2_with fail
    refine (i_in _ _ _ _).mono ?_
    rintro e w' ⟨rfl, rfl⟩
    rw [TL.out]
    go_wp2_with fail
    go_quiet (fail)
    go_wp2_with fail
    refine (i_in _ _ _ _).mono ?_
    rintro e w' ⟨rfl, rfl⟩
    rw [T0.out]
    go_wp2_with fail
    refine (i_in _ _ _ _).mono ?_
    rintro e w' ⟨rfl, rfl⟩
    rw [T1.out]
    go_wp2_with fail
    go_loopw [5, 6, 7] (fun l h i wr => ∃ (k : Nat) (v u : Int), 1 ≤ k ∧ k ≤ 3 ∧ i = .int .i64 (k : Int) ∧ l = .int .i64 v ∧ h = .int .i64 u ∧ rdB (k - 1) v ∧ rdB (k - 1) u ∧ rdF (fillS 128 xs 3) (3 - k) k v = rdVal 3 (fillS 128 xs 3) ∧ rdF (fillS 191 xs 3) (3 - k) k u = rdVal 3 (fillS 191 xs 3) ∧ contTo xs k ∧ Below w.heap.size w wr) (fun _ _ i _ => 4 - (intOf i).toNat)
    case atStart => exact ⟨1, c - 224, c - 224, by omega, by omega, rfl, rfl, rfl, by unfold rdB; omega, by unfold rdB; omega, by rw [rdVal, bI_fill (by omega), ← HC.out]; rfl, by rw [rdVal, bI_fill (by omega), ← HC.out]; rfl, contTo_zero _, by first | exact HBel.out _ | exact Below.refl _ _ | exact (Below.refl _ _).drew | assumption⟩
    case round =>
      obtain ⟨k, v, u, hk1, hk, rfl, rfl, rfl, hB, hB2, hF, hF2, hC, hb⟩ := hrel
      have hv := rdB_le hB (by omega)
      have hu := rdB_le hB2 (by omega)
      have HB := hid hb; have HCt := hid hC
      clear hC hb
      by_cases hlt : k < 3
      rotate_left
      · obtain rfl : k = 3 := by omega
        have hF3 : v = rdVal 3 (fillS 128 xs 3) := hF
        have hF4 : u = rdVal 3 (fillS 191 xs 3) := hF2
        have e0 := rbI_yes HN.out h1 (by omega) (contTo_all HCt.out (by omega))
        rw [← hF3, ← hF4] at e0
        have E := hid e0
        clear hF hF2 hF3 hF4 hB hB2 e0
        go_wp2
        all_goals (go_ret; exact ⟨ret_bool (by rw [E.out, rbTest, Bool.eq_iff_iff]; simp [rbLeast]; omega), by first | exact HB.out | exact HB.out.drew | exact HB.out.alloc HB.out.size _ | exact (HB.out.alloc HB.out.size _).drew⟩)
      have hki : (k : Int) < 3 := by omega
      have Hwk := hid (show wrap64 ((k : Int) + 1) = (k : Int) + 1 from IntWalk.wrap64_in _ (by omega))
      have Hm1 := hid (show wrap64 (v * 64) = v * 64 from IntWalk.wrap64_in _ (by omega))
      have Hm2 := hid (show wrap64 (u * 64) = u * 64 from IntWalk.wrap64_in _ (by omega))
      by_cases hin : k < xs.length
      · obtain ⟨b3, off3, ea, hck3⟩ := H.out.byte k hin
        simp only [Option.some.injEq, Addr.mk.injEq, and_true] at ea
        obtain ⟨rfl, rfl⟩ := ea
        obtain ⟨y, hy⟩ : ∃ y : Int, y = bI xs k := ⟨_, rfl⟩
        rw [← bI_at hin, ← hy] at hck3
        have hyr := bI_range xs k
        rw [← hy] at hyr
        have hkx : (k : Int) < (xs.length : Int) := by omega
        have hcell : wr.cell? ⟨b, off + k, none⟩ = some (.int .u8 y) := (HB.out.cell (p := ⟨b, off + k, none⟩) HBW.out).trans hck3
        clear hck3
        cases hct : cont y
        · have E := hid (rbI_not (cont_not hk1 hin (by rw [← hy]; exact hct)))
          have TC : Hid (inB y 128 191 = false) := hid hct
          clear hF hF2 hB hB2 hct hy
          go_wp2_with fail
          refine (i_in _ _ _ _).mono ?_
          rintro e w' ⟨rfl, rfl⟩
          rw [TC.out]
          go_wp2
          go_ret
          exact ⟨ret_bool (by rw [E.out]), by first | exact Below.refl _ _ | exact HBel.out _ | assumption | exact HB.out | exact HB.out.drewN _⟩
        have TC : Hid (inB y 128 191 = true) := hid hct
        have Hm3 := hid (show wrap64 (v * 64 + y) = v * 64 + y from IntWalk.wrap64_in _ (by omega))
        have Hm4 := hid (show wrap64 (v * 64 + y - 128) = v * 64 + y - 128 from IntWalk.wrap64_in _ (by omega))
        have Hm5 := hid (show wrap64 (u * 64 + y) = u * 64 + y from IntWalk.wrap64_in _ (by omega))
        have Hm6 := hid (show wrap64 (u * 64 + y - 128) = u * 64 + y - 128 from IntWalk.wrap64_in _ (by omega))
        have HB3 := hid (rdB_step hB (by omega) hyr)
        have HB4 := hid (rdB_step hB2 (by omega) hyr)
        have HF3 := hid (show rdF (fillS 128 xs 3) (3 - (k + 1)) (k + 1) (v * 64 + y - 128) = rdVal 3 (fillS 128 xs 3) by rw [← hF, show 3 - k = (3 - (k + 1)) + 1 by omega, rdF, bI_fill_lt hin, ← hy])
        have HF4 := hid (show rdF (fillS 191 xs 3) (3 - (k + 1)) (k + 1) (u * 64 + y - 128) = rdVal 3 (fillS 191 xs 3) by rw [← hF2, show 3 - k = (3 - (k + 1)) + 1 by omega, rdF, bI_fill_lt hin, ← hy])
        have HC5 := hid (contTo_succ HCt.out (fun _ => by rw [← hy]; exact hct))
        rw [show k - 1 + 1 = k + 1 - 1 by omega] at HB3 HB4
        clear hF hF2 hB hB2 hct hy
        go_wp2_with fail
        refine (i_in _ _ _ _).mono ?_
        rintro e w' ⟨rfl, rfl⟩
        rw [TC.out]
        have hwk := Hwk.out
        have hm1 := Hm1.out
        have hm2 := Hm2.out
        have hm3 := Hm3.out
        have hm4 := Hm4.out
        have hm5 := Hm5.out
        have hm6 := Hm6.out
        go_wp2_with fail
        go_quiet (fail)
        clear hm1 hm2 hm3 hm4 hm5 hm6 Hm1 Hm2 Hm3 Hm4 Hm5 Hm6
        generalize v * 64 + y - 128 = V at HB3 HF3 ⊢
        generalize u * 64 + y - 128 = U at HB4 HF4 ⊢
        clear hv hu hck hcr hyr
        go_wp2
        clear hwk
        exact ⟨⟨k + 1, V, U, by omega, by omega, rfl, rfl, rfl, HB3.out, HB4.out, HF3.out, HF4.out, HC5.out, by first | exact HB.out.drewN _ | exact HB.out⟩, by simp [intOf]; omega⟩
      have hkx : ¬ (k : Int) < (xs.length : Int) := by omega
      have Hm6 := hid (show wrap64 (u * 64 + 63) = u * 64 + 63 from IntWalk.wrap64_in _ (by omega))
      have q3 := rdB_step hB (by omega) (show (0 : Int) ≤ 128 ∧ (128 : Int) < 256 by omega)
      have q4 := rdB_step hB2 (by omega) (show (0 : Int) ≤ 191 ∧ (191 : Int) < 256 by omega)
      rw [show k - 1 + 1 = k + 1 - 1 by omega] at q3 q4
      rw [show v * 64 + 128 - 128 = v * 64 by omega] at q3
      rw [show u * 64 + 191 - 128 = u * 64 + 63 by omega] at q4
      have HB3 := hid q3; have HB4 := hid q4
      have HF3 := hid (show rdF (fillS 128 xs 3) (3 - (k + 1)) (k + 1) (v * 64) = rdVal 3 (fillS 128 xs 3) by rw [← hF, show 3 - k = (3 - (k + 1)) + 1 by omega, rdF, bI_fill_ge (by omega) hlt]; congr 1; show v * 64 = v * 64 + 128 - 128; omega)
      have HF4 := hid (show rdF (fillS 191 xs 3) (3 - (k + 1)) (k + 1) (u * 64 + 63) = rdVal 3 (fillS 191 xs 3) by rw [← hF2, show 3 - k = (3 - (k + 1)) + 1 by omega, rdF, bI_fill_ge (by omega) hlt]; congr 1; show u * 64 + 63 = u * 64 + 191 - 128; omega)
      have HC5 := hid (contTo_succ HCt.out (fun q => absurd q hin))
      clear hF hF2 hB hB2 q3 q4
      have hwk := Hwk.out
      have hm1 := Hm1.out
      have hm2 := Hm2.out
      have hm6 := Hm6.out
      go_wp2
      clear hwk hm1 hm2 hm6
      exact ⟨⟨k + 1, v * 64, u * 64 + 63, by omega, by omega, rfl, rfl, rfl, HB3.out, HB4.out, HF3.out, HF4.out, HC5.out, HB.out⟩, by simp [intOf]; omega⟩
  · have HN := hid (show rdN (bI xs 0) = 4 by rw [← HC.out]; unfold rdN; (repeat' split) <;> omega)
    have T0 : Hid (inB c 192 223 = false) := hid (by unfold inB; first | exact decide_eq_true (by omega) | exact decide_eq_false (by omega))
    have T1 : Hid (inB c 224 239 = false) := hid (by unfold inB; first | exact decide_eq_true (by omega) | exact decide_eq_false (by omega))
    have T2 : Hid (inB c 240 247 = true) := hid (by unfold inB; first | exact decide_eq_true (by omega) | exact decide_eq_false (by omega))
    have hw1 : wrap64 (c - 240) = c - 240 := IntWalk.wrap64_in _ (by omega)
    have hw2 : IntKind.i64.wrap (c - 240) = c - 240 := wrapI (by omega)
    by_cases hge : (xs.length : Int) ≥ 4
    · have E := hid (rbI_none HN.out (by omega))
      clear q
      go_enter Try.func17, Try.ntmps17
      go_wp2_with fail
      refine (i_in _ _ _ _).mono ?_
      rintro e w' ⟨rfl, rfl⟩
      rw [TL.out]
      go_wp2_with fail
      go_quiet (fail)
      go_wp2_with fail
      refine (i_in _ _ _ _).mono ?_
      rintro e w' ⟨rfl, rfl⟩
      rw [T0.out]
      go_wp2_with fail
      refine (i_in _ _ _ _).mono ?_
      rintro e w' ⟨rfl, rfl⟩
      rw [T1.out]
      go_wp2_with fail
      refine (i_in _ _ _ _).mono ?_
      rintro e w' ⟨rfl, rfl⟩
      rw [T2.out]
      go_wp2
      go_ret
      exact ⟨ret_bool (by rw [E.out]), by first | exact Below.refl _ _ | exact HBel.out _ | assumption | exact HB.out | exact HB.out.drewN _⟩
    have hl2 : xs.length < 4 := by omega
    go_enter Try.func17, Try.ntmps17
    go_wp2_with fail
    refine (i_in _ _ _ _).mono ?_
    rintro e w' ⟨rfl, rfl⟩
    rw [TL.out]
    go_wp2_with fail
    go_quiet (fail)
    go_wp2_with fail
    refine (i_in _ _ _ _).mono ?_
    rintro e w' ⟨rfl, rfl⟩
    rw [T0.out]
    go_wp2_with fail
    refine (i_in _ _ _ _).mono ?_
    rintro e w' ⟨rfl, rfl⟩
    rw [T1.out]
    go_wp2_with fail
    refine (i_in _ _ _ _).mono ?_
    rintro e w' ⟨rfl, rfl⟩
    rw [T2.out]
    go_wp2_with fail
    go_loopw [5, 6, 7] (fun l h i wr => ∃ (k : Nat) (v u : Int), 1 ≤ k ∧ k ≤ 4 ∧ i = .int .i64 (k : Int) ∧ l = .int .i64 v ∧ h = .int .i64 u ∧ rdB (k - 1) v ∧ rdB (k - 1) u ∧ rdF (fillS 128 xs 4) (4 - k) k v = rdVal 4 (fillS 128 xs 4) ∧ rdF (fillS 191 xs 4) (4 - k) k u = rdVal 4 (fillS 191 xs 4) ∧ contTo xs k ∧ Below w.heap.size w wr) (fun _ _ i _ => 5 - (intOf i).toNat)
    case atStart => exact ⟨1, c - 240, c - 240, by omega, by omega, rfl, rfl, rfl, by unfold rdB; omega, by unfold rdB; omega, by rw [rdVal, bI_fill (by omega), ← HC.out]; rfl, by rw [rdVal, bI_fill (by omega), ← HC.out]; rfl, contTo_zero _, by first | exact HBel.out _ | exact Below.refl _ _ | exact (Below.refl _ _).drew | assumption⟩
    case round =>
      obtain ⟨k, v, u, hk1, hk, rfl, rfl, rfl, hB, hB2, hF, hF2, hC, hb⟩ := hrel
      have hv := rdB_le hB (by omega)
      have hu := rdB_le hB2 (by omega)
      have HB := hid hb; have HCt := hid hC
      clear hC hb
      by_cases hlt : k < 4
      rotate_left
      · obtain rfl : k = 4 := by omega
        have hF3 : v = rdVal 4 (fillS 128 xs 4) := hF
        have hF4 : u = rdVal 4 (fillS 191 xs 4) := hF2
        have e0 := rbI_yes HN.out h1 (by omega) (contTo_all HCt.out (by omega))
        rw [← hF3, ← hF4] at e0
        have E := hid e0
        clear hF hF2 hF3 hF4 hB hB2 e0
        go_wp2
        all_goals (go_ret; exact ⟨ret_bool (by rw [E.out, rbTest, Bool.eq_iff_iff]; simp [rbLeast]; omega), by first | exact HB.out | exact HB.out.drew | exact HB.out.alloc HB.out.size _ | exact (HB.out.alloc HB.out.size _).drew⟩)
      have hki : (k : Int) < 4 := by omega
      have Hwk := hid (show wrap64 ((k : Int) + 1) = (k : Int) + 1 from IntWalk.wrap64_in _ (by omega))
      have Hm1 := hid (show wrap64 (v * 64) = v * 64 from IntWalk.wrap64_in _ (by omega))
      have Hm2 := hid (show wrap64 (u * 64) = u * 64 from IntWalk.wrap64_in _ (by omega))
      by_cases hin : k < xs.length
      · obtain ⟨b3, off3, ea, hck3⟩ := H.out.byte k hin
        simp only [Option.some.injEq, Addr.mk.injEq, and_true] at ea
        obtain ⟨rfl, rfl⟩ := ea
        obtain ⟨y, hy⟩ : ∃ y : Int, y = bI xs k := ⟨_, rfl⟩
        rw [← bI_at hin, ← hy] at hck3
        have hyr := bI_range xs k
        rw [← hy] at hyr
        have hkx : (k : Int) < (xs.length : Int) := by omega
        have hcell : wr.cell? ⟨b, off + k, none⟩ = some (.int .u8 y) := (HB.out.cell (p := ⟨b, off + k, none⟩) HBW.out).trans hck3
        clear hck3
        cases hct : cont y
        · have E := hid (rbI_not (cont_not hk1 hin (by rw [← hy]; exact hct)))
          have TC : Hid (inB y 128 191 = false) := hid hct
          clear hF hF2 hB hB2 hct hy
          go_wp2_with fail
          refine (i_in _ _ _ _).mono ?_
          rintro e w' ⟨rfl, rfl⟩
          rw [TC.out]
          go_wp2
          go_ret
          exact ⟨ret_bool (by rw [E.out]), by first | exact Below.refl _ _ | exact HBel.out _ | assumption | exact HB.out | exact HB.out.drewN _⟩
        have TC : Hid (inB y 128 191 = true) := hid hct
        have Hm3 := hid (show wrap64 (v * 64 + y) = v * 64 + y from IntWalk.wrap64_in _ (by omega))
        have Hm4 := hid (show wrap64 (v * 64 + y - 128) = v * 64 + y - 128 from IntWalk.wrap64_in _ (by omega))
        have Hm5 := hid (show wrap64 (u * 64 + y) = u * 64 + y from IntWalk.wrap64_in _ (by omega))
        have Hm6 := hid (show wrap64 (u * 64 + y - 128) = u * 64 + y - 128 from IntWalk.wrap64_in _ (by omega))
        have HB3 := hid (rdB_step hB (by omega) hyr)
        have HB4 := hid (rdB_step hB2 (by omega) hyr)
        have HF3 := hid (show rdF (fillS 128 xs 4) (4 - (k + 1)) (k + 1) (v * 64 + y - 128) = rdVal 4 (fillS 128 xs 4) by rw [← hF, show 4 - k = (4 - (k + 1)) + 1 by omega, rdF, bI_fill_lt hin, ← hy])
        have HF4 := hid (show rdF (fillS 191 xs 4) (4 - (k + 1)) (k + 1) (u * 64 + y - 128) = rdVal 4 (fillS 191 xs 4) by rw [← hF2, show 4 - k = (4 - (k + 1)) + 1 by omega, rdF, bI_fill_lt hin, ← hy])
        have HC5 := hid (contTo_succ HCt.out (fun _ => by rw [← hy]; exact hct))
        rw [show k - 1 + 1 = k + 1 - 1 by omega] at HB3 HB4
        clear hF hF2 hB hB2 hct hy
        go_wp2_with fail
        refine (i_in _ _ _ _).mono ?_
        rintro e w' ⟨rfl, rfl⟩
        rw [TC.out]
        have hwk := Hwk.out
        have hm1 := Hm1.out
        have hm2 := Hm2.out
        have hm3 := Hm3.out
        have hm4 := Hm4.out
        have hm5 := Hm5.out
        have hm6 := Hm6.out
        go_wp2_with fail
        go_quiet (fail)
        clear hm1 hm2 hm3 hm4 hm5 hm6 Hm1 Hm2 Hm3 Hm4 Hm5 Hm6
        generalize v * 64 + y - 128 = V at HB3 HF3 ⊢
        generalize u * 64 + y - 128 = U at HB4 HF4 ⊢
        clear hv hu hck hcr hyr
        go_wp2
        clear hwk
        exact ⟨⟨k + 1, V, U, by omega, by omega, rfl, rfl, rfl, HB3.out, HB4.out, HF3.out, HF4.out, HC5.out, by first | exact HB.out.drewN _ | exact HB.out⟩, by simp [intOf]; omega⟩
      have hkx : ¬ (k : Int) < (xs.length : Int) := by omega
      have Hm6 := hid (show wrap64 (u * 64 + 63) = u * 64 + 63 from IntWalk.wrap64_in _ (by omega))
      have q3 := rdB_step hB (by omega) (show (0 : Int) ≤ 128 ∧ (128 : Int) < 256 by omega)
      have q4 := rdB_step hB2 (by omega) (show (0 : Int) ≤ 191 ∧ (191 : Int) < 256 by omega)
      rw [show k - 1 + 1 = k + 1 - 1 by omega] at q3 q4
      rw [show v * 64 + 128 - 128 = v * 64 by omega] at q3
      rw [show u * 64 + 191 - 128 = u * 64 + 63 by omega] at q4
      have HB3 := hid q3; have HB4 := hid q4
      have HF3 := hid (show rdF (fillS 128 xs 4) (4 - (k + 1)) (k + 1) (v * 64) = rdVal 4 (fillS 128 xs 4) by rw [← hF, show 4 - k = (4 - (k + 1)) + 1 by omega, rdF, bI_fill_ge (by omega) hlt]; congr 1; show v * 64 = v * 64 + 128 - 128; omega)
      have HF4 := hid (show rdF (fillS 191 xs 4) (4 - (k + 1)) (k + 1) (u * 64 + 63) = rdVal 4 (fillS 191 xs 4) by rw [← hF2, show 4 - k = (4 - (k + 1)) + 1 by omega, rdF, bI_fill_ge (by omega) hlt]; congr 1; show u * 64 + 63 = u * 64 + 191 - 128; omega)
      have HC5 := hid (contTo_succ HCt.out (fun q => absurd q hin))
      clear hF hF2 hB hB2 q3 q4
      have hwk := Hwk.out
      have hm1 := Hm1.out
      have hm2 := Hm2.out
      have hm6 := Hm6.out
      go_wp2
      clear hwk hm1 hm2 hm6
      exact ⟨⟨k + 1, v * 64, u * 64 + 63, by omega, by omega, rfl, rfl, rfl, HB3.out, HB4.out, HF3.out, HF4.out, HC5.out, HB.out⟩, by simp [intOf]; omega⟩
theorem i_RuneBeginR {w : World} {bs : List Nat} {a : Option Addr} {len cap : Nat} {xs : List UInt8} (h : Slc w bs a len cap xs) :
    Calls Try.prog 17 #[.slice a len cap] w fun e w' => e = .returned (.bool (runeBegin xs)) ∧ Below w.heap.size w w' := by
  rw [runeBegin_eq]; exact i_RuneBegin h
end Go.Proofs.Ytffinfpnmohnaaa
