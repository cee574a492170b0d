/- Decoders: validity (printed by gendec.py). -/
import Derived.Test.YtffinfpnmohnaaaBeginI
import Derived.Test.YtffinfpnmohnaaaBeginS
import Derived.Test.YtffinfpnmohnaaaWords
set_option linter.unusedSimpArgs false
set_option linter.unusedVariables false
namespace Go.G6
open Go.RowKit
def decPar (b : Int) : Bool := inB b 48 57 || decide (b = 59)
def decOk (d : DecD) : Bool :=
  if d.State = 0 then decide (d.Part.length = 0) || runeBegin d.Part
  else if d.State = 2 then d.Part.all (fun b => decPar (b.toNat : Int)) && decide (d.Part.length ≤ 8)
  else decide (d.State = 1 ∨ d.State = 3 ∨ d.State = 4) && decide (d.Part.length = 0)
end Go.G6
namespace Go.Proofs.Ytffinfpnmohnaaa
open Go.RowKit Go.G6
set_option maxHeartbeats 3000000
set_option maxRecDepth 10000
theorem s_l12Param (n : Int) (w : World) :
    Calls Try.prog 87 #[.int .i64 n] w fun e w' => e = .returned (.bool (decPar n)) ∧ w = w' := by
  go_enter Try.func87, Try.ntmps87
  go_wp2
  all_goals (go_ret; exact ⟨ret_bool (by rw [decPar, inB, Bool.eq_iff_iff]; simp; omega), rfl⟩)
theorem i_DecOk {w : World} {bs : List Nat} {cs : List Value} {d : DecD} (h : Rep.pt w bs cs d) :
    Calls Try.prog 22 #[.agg cs.toArray] w fun e w' => e = .returned (.bool (decOk d)) ∧ Below w.heap.size w w' := by
  obtain ⟨a1, l1, k1, rfl, h0, h1⟩ := open_Dec h
  obtain rfl := h1.len_eq
  have hm := h1.max
  have HBel := hid (fun o => (Below.refl w.heap.size w).alloc (Nat.le_refl _) o)
  have H1 := hid (h1.grow (HBel.out (Obj.cells #[.int .i64 d.State, .slice a1 d.Part.length k1] 30)))
  clear h h1
  obtain ⟨st, hst⟩ : ∃ st, st = d.State := ⟨_, rfl⟩
  rw [← hst] at h0 H1 ⊢
  have HST := hid hst
  clear hst
  unfold I64 at h0
  by_cases e0 : st = 0
  · subst e0
    by_cases hl : d.Part.length = 0
    · have E : Hid (decOk d = true) := hid (by unfold decOk; rw [if_pos HST.out.symm, decide_eq_true hl]; rfl)
      have hli : ((d.Part.length : Int) == 0) = true := by rw [beq_iff_eq]; omega
      have hli2 : (d.Part.length : Int) = 0 := by omega
      clear hl
      go_enter Try.func22, Try.ntmps22
      go_wp2
      go_ret
      exact ⟨ret_bool (by rw [E.out]), HBel.out _⟩
    have E : Hid (decOk d = runeBegin d.Part) := hid (by unfold decOk; rw [if_pos HST.out.symm, decide_eq_false hl, Bool.false_or])
    have hli : ((d.Part.length : Int) == 0) = false := by rw [beq_eq_false_iff_ne]; omega
    clear hl
    go_enter Try.func22, Try.ntmps22
    go_wp2_with fail
    refine (i_RuneBegin H1.out).mono ?_
    rintro e w1 ⟨rfl, hb⟩
    have HB := hid (below_call (HBel.out _) hb)
    clear hb
    go_wp2
    go_ret
    exact ⟨ret_bool (by rw [E.out, runeBegin_eq]), HB.out⟩
  have e0b : (st == 0) = false := by rw [beq_eq_false_iff_ne]; exact e0
  by_cases e2 : st = 2
  · subst e2
    have E2 : Hid (decOk d = (d.Part.all (fun b => decPar (b.toNat : Int)) && decide (d.Part.length ≤ 8))) := hid (by unfold decOk; rw [if_neg (by rw [← HST.out]; decide), if_pos HST.out.symm])
    go_enter Try.func22, Try.ntmps22
    go_wp2_with fail
    go_loop [23] (fun i => ∃ k : Nat, k ≤ d.Part.length ∧ i = .int .i64 (k : Int) ∧ d.Part.all (fun b => decPar (b.toNat : Int)) = (d.Part.drop k).all (fun b => decPar (b.toNat : Int))) (fun i => d.Part.length - (intOf i).toNat)
    case atStart => exact ⟨0, Nat.zero_le _, rfl, rfl⟩
    case round =>
      obtain ⟨k, hk, rfl, hr⟩ := hrel
      have HR := hid hr
      clear hr
      by_cases hlt : k < d.Part.length
      rotate_left
      · have hkk : ¬ (k : Int) < (d.Part.length : Int) := by omega
        have E : Hid (decOk d = decide (d.Part.length ≤ 8)) := hid (by rw [E2.out, HR.out, List.drop_of_length_le (by omega)]; rfl)
        go_wp2
        go_ret
        exact ⟨ret_bool (by rw [E.out, Bool.eq_iff_iff]; simp; omega), HBel.out _⟩
      obtain ⟨b, off, rfl, hck⟩ := H1.out.byte k hlt
      have hst := drop_all (fun b : UInt8 => decPar (b.toNat : Int)) d.Part k hlt
      obtain ⟨y, hy⟩ : ∃ y : Int, y = (d.Part[k].toNat : Int) := ⟨_, rfl⟩
      have hyr : 0 ≤ y ∧ y < 256 := by have := d.Part[k].toNat_lt; omega
      rw [← hy] at hck hst
      have HS := hid hst
      have hkk : (k : Int) < (d.Part.length : Int) := by omega
      clear hst hy
      cases hd : inB y 48 57
      · have HD := hid hd
        clear hd
        by_cases h59 : y = 59
        · have HN := hid (show d.Part.all (fun b => decPar (b.toNat : Int)) = (d.Part.drop (k + 1)).all (fun b => decPar (b.toNat : Int)) by rw [HR.out, HS.out, decPar, HD.out, decide_eq_true h59]; rfl)
          have h5 : (y != 59) = false := by rw [h59]; rfl
          clear h59
          go_wp2_with fail
          refine (i_isDigit _ _).mono ?_
          rintro e w' ⟨rfl, rfl⟩
          rw [HD.out]
          go_wp2
          exact ⟨⟨k + 1, by omega, rfl, HN.out⟩, by simp [intOf]; omega⟩
        have E : Hid (decOk d = false) := hid (by rw [E2.out, HR.out, HS.out, decPar, HD.out, decide_eq_false h59]; rfl)
        have h5 : (y != 59) = true := by rw [bne_iff_ne]; exact h59
        go_wp2_with fail
        refine (i_isDigit _ _).mono ?_
        rintro e w' ⟨rfl, rfl⟩
        rw [HD.out]
        go_wp2
        go_ret
        exact ⟨ret_bool (by rw [E.out]), HBel.out _⟩
      have HD := hid hd
      clear hd
      have HN := hid (show d.Part.all (fun b => decPar (b.toNat : Int)) = (d.Part.drop (k + 1)).all (fun b => decPar (b.toNat : Int)) by rw [HR.out, HS.out, decPar, HD.out]; rfl)
      go_wp2_with fail
      refine (i_isDigit _ _).mono ?_
      rintro e w' ⟨rfl, rfl⟩
      rw [HD.out]
      go_wp2
      exact ⟨⟨k + 1, by omega, rfl, HN.out⟩, by simp [intOf]; omega⟩
  have e2b : (st == 2) = false := by rw [beq_eq_false_iff_ne]; exact e2
  have E : Hid (decOk d = (decide (st = 1 ∨ st = 3 ∨ st = 4) && decide (d.Part.length = 0))) := hid (by unfold decOk; rw [← HST.out, if_neg e0, if_neg e2])
  clear HST
  by_cases e1 : st = 1
  · subst e1
    clear e0 e2 e0b e2b
    go_enter Try.func22, Try.ntmps22
    go_wp2
    all_goals (go_ret; exact ⟨ret_bool (by rw [E.out, Bool.eq_iff_iff]; simp only [Bool.and_eq_true, decide_eq_true_eq, beq_iff_eq, Bool.false_eq_true, iff_false, iff_true, false_iff, true_iff, not_and, true_or, or_true, true_and]; first | omega | (constructor <;> intro h <;> omega) | (simp; omega) | (trace_state; fail)), HBel.out _⟩)
  have e1b : (st == 1) = false := by rw [beq_eq_false_iff_ne]; exact e1
  by_cases e3 : st = 3
  · subst e3
    clear e0 e2 e0b e2b e1 e1b
    go_enter Try.func22, Try.ntmps22
    go_wp2
    all_goals (go_ret; exact ⟨ret_bool (by rw [E.out, Bool.eq_iff_iff]; simp only [Bool.and_eq_true, decide_eq_true_eq, beq_iff_eq, Bool.false_eq_true, iff_false, iff_true, false_iff, true_iff, not_and, true_or, or_true, true_and]; first | omega | (constructor <;> intro h <;> omega) | (simp; omega) | (trace_state; fail)), HBel.out _⟩)
  have e3b : (st == 3) = false := by rw [beq_eq_false_iff_ne]; exact e3
  by_cases e4 : st = 4
  · subst e4
    clear e0 e2 e0b e2b e1 e1b e3 e3b
    go_enter Try.func22, Try.ntmps22
    go_wp2
    all_goals (go_ret; exact ⟨ret_bool (by rw [E.out, Bool.eq_iff_iff]; simp only [Bool.and_eq_true, decide_eq_true_eq, beq_iff_eq, Bool.false_eq_true, iff_false, iff_true, false_iff, true_iff, not_and, true_or, or_true, true_and]; first | omega | (constructor <;> intro h <;> omega) | (simp; omega) | (trace_state; fail)), HBel.out _⟩)
  have e4b : (st == 4) = false := by rw [beq_eq_false_iff_ne]; exact e4
  go_enter Try.func22, Try.ntmps22
  go_wp2
  all_goals (go_ret; exact ⟨ret_bool (by rw [E.out, Bool.eq_iff_iff]; simp only [Bool.and_eq_true, decide_eq_true_eq, beq_iff_eq, Bool.false_eq_true, iff_false, iff_true, false_iff, true_iff, not_and, true_or, or_true, true_and]; first | omega | (constructor <;> intro h <;> omega) | (simp; omega) | (trace_state; fail)), HBel.out _⟩)
theorem s_DecOk {w : World} {bs : List Nat} {cs : List Value} {d : DecD} (h : Rep.pt w bs cs d) :
    Calls Try.prog 20 #[.agg cs.toArray] w fun e w' => e = .returned (.bool (decOk d)) ∧ Below w.heap.size w w' := by
  obtain ⟨a1, l1, k1, rfl, h0, h1⟩ := open_Dec h
  obtain rfl := h1.len_eq
  have hm := h1.max
  have HBel := hid (fun o => (Below.refl w.heap.size w).alloc (Nat.le_refl _) o)
  have H1 := hid (h1.grow (HBel.out (Obj.cells #[.int .i64 d.State, .slice a1 d.Part.length k1] 30)))
  clear h h1
  obtain ⟨st, hst⟩ : ∃ st, st = d.State := ⟨_, rfl⟩
  rw [← hst] at h0 H1 ⊢
  have HST := hid hst
  clear hst
  unfold I64 at h0
  by_cases e0 : st = 0
  · subst e0
    by_cases hl : d.Part.length = 0
    · have E : Hid (decOk d = true) := hid (by unfold decOk; rw [if_pos HST.out.symm, decide_eq_true hl]; rfl)
      have hli : ((d.Part.length : Int) == 0) = true := by rw [beq_iff_eq]; omega
      have hli2 : (d.Part.length : Int) = 0 := by omega
      clear hl
      go_enter Try.func20, Try.ntmps20
      go_wp2
      go_ret
      exact ⟨ret_bool (by rw [E.out]), HBel.out _⟩
    have E : Hid (decOk d = runeBegin d.Part) := hid (by unfold decOk; rw [if_pos HST.out.symm, decide_eq_false hl, Bool.false_or])
    have hli : ((d.Part.length : Int) == 0) = false := by rw [beq_eq_false_iff_ne]; omega
    clear hl
    go_enter Try.func20, Try.ntmps20
    go_wp2_with fail
    refine (s_RuneBegin H1.out).mono ?_
    rintro e w1 ⟨rfl, hb⟩
    have HB := hid (below_call (HBel.out _) hb)
    clear hb
    go_wp2
    go_ret
    exact ⟨ret_bool (by rw [E.out]), HB.out⟩
  have e0b : (st == 0) = false := by rw [beq_eq_false_iff_ne]; exact e0
  by_cases e2 : st = 2
  · subst e2
    have E2 : Hid (decOk d = (d.Part.all (fun b => decPar (b.toNat : Int)) && decide (d.Part.length ≤ 8))) := hid (by unfold decOk; rw [if_neg (by rw [← HST.out]; decide), if_pos HST.out.symm])
    go_enter Try.func20, Try.ntmps20
    go_wp2_with fail
    go_loop [23] (fun i => ∃ k : Nat, k ≤ d.Part.length ∧ i = .int .i64 (k : Int) ∧ d.Part.all (fun b => decPar (b.toNat : Int)) = (d.Part.drop k).all (fun b => decPar (b.toNat : Int))) (fun i => d.Part.length - (intOf i).toNat)
    case atStart => exact ⟨0, Nat.zero_le _, rfl, rfl⟩
    case round =>
      obtain ⟨k, hk, rfl, hr⟩ := hrel
      have HR := hid hr
      clear hr
      by_cases hlt : k < d.Part.length
      rotate_left
      · have hkk : ¬ (k : Int) < (d.Part.length : Int) := by omega
        have E : Hid (decOk d = decide (d.Part.length ≤ 8)) := hid (by rw [E2.out, HR.out, List.drop_of_length_le (by omega)]; rfl)
        go_wp2
        go_ret
        exact ⟨ret_bool (by rw [E.out, Bool.eq_iff_iff]; simp; omega), HBel.out _⟩
      obtain ⟨b, off, rfl, hck⟩ := H1.out.byte k hlt
      have hst := drop_all (fun b : UInt8 => decPar (b.toNat : Int)) d.Part k hlt
      obtain ⟨y, hy⟩ : ∃ y : Int, y = (d.Part[k].toNat : Int) := ⟨_, rfl⟩
      have hyr : 0 ≤ y ∧ y < 256 := by have := d.Part[k].toNat_lt; omega
      rw [← hy] at hck hst
      have HS := hid hst
      have hkk : (k : Int) < (d.Part.length : Int) := by omega
      clear hst hy
      cases hd : decPar y
      · have HD := hid hd
        clear hd
        have E : Hid (decOk d = false) := hid (by rw [E2.out, HR.out, HS.out, HD.out]; rfl)
        go_wp2_with fail
        refine (s_l12Param _ _).mono ?_
        rintro e w' ⟨rfl, rfl⟩
        rw [HD.out]
        go_wp2
        go_ret
        exact ⟨ret_bool (by rw [E.out]), HBel.out _⟩
      have HD := hid hd
      clear hd
      have HN := hid (show d.Part.all (fun b => decPar (b.toNat : Int)) = (d.Part.drop (k + 1)).all (fun b => decPar (b.toNat : Int)) by rw [HR.out, HS.out, HD.out]; rfl)
      go_wp2_with fail
      refine (s_l12Param _ _).mono ?_
      rintro e w' ⟨rfl, rfl⟩
      rw [HD.out]
      go_wp2
      exact ⟨⟨k + 1, by omega, rfl, HN.out⟩, by simp [intOf]; omega⟩
  have e2b : (st == 2) = false := by rw [beq_eq_false_iff_ne]; exact e2
  have E : Hid (decOk d = (decide (st = 1 ∨ st = 3 ∨ st = 4) && decide (d.Part.length = 0))) := hid (by unfold decOk; rw [← HST.out, if_neg e0, if_neg e2])
  clear HST
  by_cases e1 : st = 1
  · subst e1
    clear e0 e2 e0b e2b
    go_enter Try.func20, Try.ntmps20
    go_wp2
    all_goals (go_ret; exact ⟨ret_bool (by rw [E.out, Bool.eq_iff_iff]; simp only [Bool.and_eq_true, decide_eq_true_eq, beq_iff_eq, Bool.false_eq_true, iff_false, iff_true, false_iff, true_iff, not_and, true_or, or_true, true_and]; first | omega | (constructor <;> intro h <;> omega) | (simp; omega) | (trace_state; fail)), HBel.out _⟩)
  have e1b : (st == 1) = false := by rw [beq_eq_false_iff_ne]; exact e1
  by_cases e3 : st = 3
  · subst e3
    clear e0 e2 e0b e2b e1 e1b
    go_enter Try.func20, Try.ntmps20
    go_wp2
    all_goals (go_ret; exact ⟨ret_bool (by rw [E.out, Bool.eq_iff_iff]; simp only [Bool.and_eq_true, decide_eq_true_eq, beq_iff_eq, Bool.false_eq_true, iff_false, iff_true, false_iff, true_iff, not_and, true_or, or_true, true_and]; first | omega | (constructor <;> intro h <;> omega) | (simp; omega) | (trace_state; fail)), HBel.out _⟩)
  have e3b : (st == 3) = false := by rw [beq_eq_false_iff_ne]; exact e3
  by_cases e4 : st = 4
  · subst e4
    clear e0 e2 e0b e2b e1 e1b e3 e3b
    go_enter Try.func20, Try.ntmps20
    go_wp2
    all_goals (go_ret; exact ⟨ret_bool (by rw [E.out, Bool.eq_iff_iff]; simp only [Bool.and_eq_true, decide_eq_true_eq, beq_iff_eq, Bool.false_eq_true, iff_false, iff_true, false_iff, true_iff, not_and, true_or, or_true, true_and]; first | omega | (constructor <;> intro h <;> omega) | (simp; omega) | (trace_state; fail)), HBel.out _⟩)
  have e4b : (st == 4) = false := by rw [beq_eq_false_iff_ne]; exact e4
  go_enter Try.func20, Try.ntmps20
  go_wp2
  all_goals (go_ret; exact ⟨ret_bool (by rw [E.out, Bool.eq_iff_iff]; simp only [Bool.and_eq_true, decide_eq_true_eq, beq_iff_eq, Bool.false_eq_true, iff_false, iff_true, false_iff, true_iff, not_and, true_or, or_true, true_and]; first | omega | (constructor <;> intro h <;> omega) | (simp; omega) | (trace_state; fail)), HBel.out _⟩)
end Go.Proofs.Ytffinfpnmohnaaa
