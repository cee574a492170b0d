/- Whether bytes begin a rune: the plain law. -/
import Derived.Test.YtffinfpnmohnaaaRead
set_option linter.unusedSimpArgs false
set_option linter.unusedVariables false
namespace Go.G6
open Go.RowKit Rep
set_option maxRecDepth 10000
def fillS (x : UInt8) (xs : List UInt8) (s : Nat) : List UInt8 := xs ++ List.replicate (s - xs.length) x
def rbHit (xs : List UInt8) (s : Nat) : Bool := decide (rdL (fillS 128 xs s) = s) || decide (rdL (fillS 191 xs s) = s)
def rbAny (xs : List UInt8) : Nat → Nat → Bool
  | 0, _ => false
  | m + 1, s => rbHit xs s || rbAny xs m (s + 1)
def runeBegin (xs : List UInt8) : Bool := decide (1 ≤ xs.length ∧ xs.length ≤ 3) && rbAny xs (4 - xs.length) (xs.length + 1)
theorem fillS_len {x : UInt8} {xs : List UInt8} {s : Nat} (h : xs.length ≤ s) : (fillS x xs s).length = s := by simp [fillS]; omega
theorem fillS_succ {x : UInt8} {xs : List UInt8} {s : Nat} (h : xs.length ≤ s) : fillS x xs (s + 1) = fillS x xs s ++ [x] := by
  unfold fillS
  rw [show s + 1 - xs.length = (s - xs.length) + 1 by omega, List.replicate_succ', List.append_assoc]
theorem fillS_zero (x : UInt8) (xs : List UInt8) : fillS x xs xs.length = xs := by simp [fillS]
def rbLeast (n : Nat) : Int := if n = 2 then 128 else if n = 3 then 2048 else if n = 4 then 65536 else 0
def rbVal (n : Nat) (v : Int) : Bool := decide (rbLeast n ≤ v ∧ v ≤ 1114111 ∧ ¬(55296 ≤ v ∧ v ≤ 57343))
def cont (c : Int) : Bool := decide (128 ≤ c ∧ c ≤ 191)
theorem b8_iff {x : Int} {y : UInt8} (h0 : 0 ≤ x) (h1 : x < 256) : b8 x = y ↔ x = (y.toNat : Int) := by
  constructor
  · intro h; rw [← h]; exact (b8_val h0 h1).symm
  · intro h
    rw [h]; simp [b8]
theorem hit2 (a b : UInt8) (ha : 192 ≤ (a.toNat : Int) ∧ (a.toNat : Int) < 224) :
    rdHit 2 [a, b] = ((cont (b.toNat : Int)) && rbVal 2 (((a.toNat : Int) - 192) * 64 + (b.toNat : Int) - 128)) := by
  have hv : rdVal 2 [a, b] = ((a.toNat : Int) - 192) * 64 + (b.toNat : Int) - 128 := by simp [rdVal, rdF, rdSub, bI]
  have hb := b.toNat_lt
  rw [rdHit, hv, Bool.eq_iff_iff, beq_iff_eq]
  simp only [Bool.and_eq_true, cont, rbVal, decide_eq_true_eq]
  generalize hA : (a.toNat : Int) = A at *
  generalize hB : (b.toNat : Int) = B at *
  have hB0 : 0 ≤ B ∧ B < 256 := by omega
  generalize hV : (A - 192) * 64 + B - 128 = v
  show runeBytes v = [a, b] ↔ _
  unfold runeBytes rbLeast
  by_cases hk : runeOk v = true
  · have hk2 := hk
    simp only [runeOk, decide_eq_true_eq] at hk2
    rw [if_pos hk]
    by_cases h1 : v < 128
    · rw [if_pos h1]
      simp; intros; omega
    rw [if_neg h1]
    by_cases h2 : v < 2048
    · rw [if_pos h2]
      simp only [List.cons.injEq, and_true]
      rw [b8_iff (by omega) (by omega), b8_iff (by omega) (by omega), hA, hB]
      simp
      omega
    rw [if_neg h2]
    by_cases h3 : v < 65536
    · rw [if_pos h3]
      simp; intros; omega
    rw [if_neg h3]
    simp; intros; omega
  · rw [if_neg hk]
    simp only [runeOk, decide_eq_true_eq] at hk
    simp; intros; omega
theorem hit3 (a b c : UInt8) (ha : 224 ≤ (a.toNat : Int) ∧ (a.toNat : Int) < 240) :
    rdHit 3 [a, b, c] = ((cont (b.toNat : Int) && cont (c.toNat : Int)) && rbVal 3 ((((a.toNat : Int) - 224) * 64 + (b.toNat : Int) - 128) * 64 + (c.toNat : Int) - 128)) := by
  have hv : rdVal 3 [a, b, c] = (((a.toNat : Int) - 224) * 64 + (b.toNat : Int) - 128) * 64 + (c.toNat : Int) - 128 := by simp [rdVal, rdF, rdSub, bI]
  have hb := b.toNat_lt
  have hc := c.toNat_lt
  rw [rdHit, hv, Bool.eq_iff_iff, beq_iff_eq]
  simp only [Bool.and_eq_true, cont, rbVal, decide_eq_true_eq]
  generalize hA : (a.toNat : Int) = A at *
  generalize hB : (b.toNat : Int) = B at *
  generalize hC : (c.toNat : Int) = C at *
  have hB0 : 0 ≤ B ∧ B < 256 := by omega
  have hC0 : 0 ≤ C ∧ C < 256 := by omega
  generalize hV : ((A - 224) * 64 + B - 128) * 64 + C - 128 = v
  show runeBytes v = [a, b, c] ↔ _
  unfold runeBytes rbLeast
  by_cases hk : runeOk v = true
  · have hk2 := hk
    simp only [runeOk, decide_eq_true_eq] at hk2
    rw [if_pos hk]
    by_cases h1 : v < 128
    · rw [if_pos h1]
      simp; intros; omega
    rw [if_neg h1]
    by_cases h2 : v < 2048
    · rw [if_pos h2]
      simp; intros; omega
    rw [if_neg h2]
    by_cases h3 : v < 65536
    · rw [if_pos h3]
      simp only [List.cons.injEq, and_true]
      rw [b8_iff (by omega) (by omega), b8_iff (by omega) (by omega), b8_iff (by omega) (by omega), hA, hB, hC]
      simp
      omega
    rw [if_neg h3]
    simp; intros; omega
  · rw [if_neg hk]
    simp only [runeOk, decide_eq_true_eq] at hk
    simp; intros; omega
theorem hit4 (a b c d : UInt8) (ha : 240 ≤ (a.toNat : Int) ∧ (a.toNat : Int) < 248) :
    rdHit 4 [a, b, c, d] = ((cont (b.toNat : Int) && cont (c.toNat : Int) && cont (d.toNat : Int)) && rbVal 4 (((((a.toNat : Int) - 240) * 64 + (b.toNat : Int) - 128) * 64 + (c.toNat : Int) - 128) * 64 + (d.toNat : Int) - 128)) := by
  have hv : rdVal 4 [a, b, c, d] = ((((a.toNat : Int) - 240) * 64 + (b.toNat : Int) - 128) * 64 + (c.toNat : Int) - 128) * 64 + (d.toNat : Int) - 128 := by simp [rdVal, rdF, rdSub, bI]
  have hb := b.toNat_lt
  have hc := c.toNat_lt
  have hd := d.toNat_lt
  rw [rdHit, hv, Bool.eq_iff_iff, beq_iff_eq]
  simp only [Bool.and_eq_true, cont, rbVal, decide_eq_true_eq]
  generalize hA : (a.toNat : Int) = A at *
  generalize hB : (b.toNat : Int) = B at *
  generalize hC : (c.toNat : Int) = C at *
  generalize hD : (d.toNat : Int) = D at *
  have hB0 : 0 ≤ B ∧ B < 256 := by omega
  have hC0 : 0 ≤ C ∧ C < 256 := by omega
  have hD0 : 0 ≤ D ∧ D < 256 := by omega
  generalize hV : (((A - 240) * 64 + B - 128) * 64 + C - 128) * 64 + D - 128 = v
  show runeBytes v = [a, b, c, d] ↔ _
  unfold runeBytes rbLeast
  by_cases hk : runeOk v = true
  · have hk2 := hk
    simp only [runeOk, decide_eq_true_eq] at hk2
    rw [if_pos hk]
    by_cases h1 : v < 128
    · rw [if_pos h1]
      simp; intros; omega
    rw [if_neg h1]
    by_cases h2 : v < 2048
    · rw [if_pos h2]
      simp; intros; omega
    rw [if_neg h2]
    by_cases h3 : v < 65536
    · rw [if_pos h3]
      simp; intros; omega
    rw [if_neg h3]
    simp only [List.cons.injEq, and_true]
    rw [b8_iff (by omega) (by omega), b8_iff (by omega) (by omega), b8_iff (by omega) (by omega), b8_iff (by omega) (by omega), hA, hB, hC, hD]
    simp
    omega
  · rw [if_neg hk]
    simp only [runeOk, decide_eq_true_eq] at hk
    simp; intros; omega
theorem rdL_dec {y : List UInt8} {s : Nat} (hl : y.length = s) (hs : 1 ≤ s) : decide (rdL y = s) = (decide (rdN (bI y 0) = s) && rdHit s y) := by
  by_cases e : rdN (bI y 0) = s
  · rw [decide_eq_true e, Bool.true_and, rdL, rdOk, e, hl]
    cases h : rdHit s y
    · simp; omega
    · simp [hs]
  · rw [decide_eq_false e, Bool.false_and, decide_eq_false]
    unfold rdL; split
    · exact e
    · omega
theorem bI_fill {x : UInt8} {xs : List UInt8} {s : Nat} (h : 1 ≤ xs.length) : bI (fillS x xs s) 0 = bI xs 0 := by
  unfold bI fillS; simp [List.getD, List.getElem?_append_left (show 0 < xs.length by omega)]
theorem rbHit_eq {xs : List UInt8} {s : Nat} (h1 : 1 ≤ xs.length) (h2 : xs.length ≤ s) : rbHit xs s = (decide (rdN (bI xs 0) = s) && (rdHit s (fillS 128 xs s) || rdHit s (fillS 191 xs s))) := by
  rw [rbHit, rdL_dec (fillS_len h2) (by omega), rdL_dec (fillS_len h2) (by omega), bI_fill h1, bI_fill h1, Bool.and_or_distrib_left]
/-- What the program computes. -/
def rbTest (n : Nat) (lo hi : Int) : Bool := decide (max lo (rbLeast n) ≤ min hi 1114111 ∧ ¬(55296 ≤ max lo (rbLeast n) ∧ min hi 1114111 ≤ 57343))
def rbI (xs : List UInt8) : Bool := decide (1 ≤ xs.length ∧ xs.length ≤ 3) && (decide (2 ≤ rdN (bI xs 0) ∧ xs.length < rdN (bI xs 0)) && ((xs.drop 1).all (fun c => cont (c.toNat : Int)) && rbTest (rdN (bI xs 0)) (rdVal (rdN (bI xs 0)) (fillS 128 xs (rdN (bI xs 0)))) (rdVal (rdN (bI xs 0)) (fillS 191 xs (rdN (bI xs 0))))))
theorem rb_core {xs : List UInt8} {n : Nat} (hn : rdN (bI xs 0) = n) (h1 : 1 ≤ xs.length ∧ xs.length ≤ 3) (h2 : xs.length < n) : (rdHit n (fillS 128 xs n) || rdHit n (fillS 191 xs n)) = ((xs.drop 1).all (fun c => cont (c.toNat : Int)) && rbTest n (rdVal n (fillS 128 xs n)) (rdVal n (fillS 191 xs n))) := by
  have hle := rdN_le (bI xs 0)
  rw [hn] at hle
  match xs, h1, h2, hn with
  | [a], h1, h2, hn =>
    have hc : rdN (a.toNat : Int) = n := hn
    have hr := a.toNat_lt
    simp only [List.length_cons, List.length_nil] at h2
    rcases (by omega : n = 2 ∨ n = 3 ∨ n = 4) with hn4 | hn4 | hn4
    · subst hn4
      have ha : 192 ≤ (a.toNat : Int) ∧ (a.toNat : Int) < 224 := by unfold rdN at hc; (repeat' split at hc) <;> omega
      show (rdHit 2 [a, 128] || rdHit 2 [a, 191]) = (true && rbTest 2 (rdVal 2 [a, 128]) (rdVal 2 [a, 191]))
      rw [hit2 a 128 ha, hit2 a 191 ha]
      have e1 : rdVal 2 [a, 128] = ((a.toNat : Int) - 192) * 64 + 128 - 128 := by simp [rdVal, rdF, rdSub, bI]
      have e2 : rdVal 2 [a, 191] = ((a.toNat : Int) - 192) * 64 + 191 - 128 := by simp [rdVal, rdF, rdSub, bI]
      rw [e1, e2]
      simp only [show (((128 : UInt8).toNat : Nat) : Int) = 128 from rfl, show (((191 : UInt8).toNat : Nat) : Int) = 191 from rfl, show cont 128 = true from rfl, show cont 191 = true from rfl, Bool.and_true, Bool.true_and]
      simp only [Bool.true_and, rbVal, rbTest, rbLeast]
      rw [Bool.eq_iff_iff]
      simp
      omega
    · subst hn4
      have ha : 224 ≤ (a.toNat : Int) ∧ (a.toNat : Int) < 240 := by unfold rdN at hc; (repeat' split at hc) <;> omega
      show (rdHit 3 [a, 128, 128] || rdHit 3 [a, 191, 191]) = (true && rbTest 3 (rdVal 3 [a, 128, 128]) (rdVal 3 [a, 191, 191]))
      rw [hit3 a 128 128 ha, hit3 a 191 191 ha]
      have e1 : rdVal 3 [a, 128, 128] = (((a.toNat : Int) - 224) * 64 + 128 - 128) * 64 + 128 - 128 := by simp [rdVal, rdF, rdSub, bI]
      have e2 : rdVal 3 [a, 191, 191] = (((a.toNat : Int) - 224) * 64 + 191 - 128) * 64 + 191 - 128 := by simp [rdVal, rdF, rdSub, bI]
      rw [e1, e2]
      simp only [show (((128 : UInt8).toNat : Nat) : Int) = 128 from rfl, show (((191 : UInt8).toNat : Nat) : Int) = 191 from rfl, show cont 128 = true from rfl, show cont 191 = true from rfl, Bool.and_true, Bool.true_and]
      simp only [Bool.true_and, rbVal, rbTest, rbLeast]
      rw [Bool.eq_iff_iff]
      simp
      omega
    · subst hn4
      have ha : 240 ≤ (a.toNat : Int) ∧ (a.toNat : Int) < 248 := by unfold rdN at hc; (repeat' split at hc) <;> omega
      show (rdHit 4 [a, 128, 128, 128] || rdHit 4 [a, 191, 191, 191]) = (true && rbTest 4 (rdVal 4 [a, 128, 128, 128]) (rdVal 4 [a, 191, 191, 191]))
      rw [hit4 a 128 128 128 ha, hit4 a 191 191 191 ha]
      have e1 : rdVal 4 [a, 128, 128, 128] = ((((a.toNat : Int) - 240) * 64 + 128 - 128) * 64 + 128 - 128) * 64 + 128 - 128 := by simp [rdVal, rdF, rdSub, bI]
      have e2 : rdVal 4 [a, 191, 191, 191] = ((((a.toNat : Int) - 240) * 64 + 191 - 128) * 64 + 191 - 128) * 64 + 191 - 128 := by simp [rdVal, rdF, rdSub, bI]
      rw [e1, e2]
      simp only [show (((128 : UInt8).toNat : Nat) : Int) = 128 from rfl, show (((191 : UInt8).toNat : Nat) : Int) = 191 from rfl, show cont 128 = true from rfl, show cont 191 = true from rfl, Bool.and_true, Bool.true_and]
      simp only [Bool.true_and, rbVal, rbTest, rbLeast]
      rw [Bool.eq_iff_iff]
      simp
      omega
  | [a, b], h1, h2, hn =>
    have hc : rdN (a.toNat : Int) = n := hn
    have hr := a.toNat_lt
    simp only [List.length_cons, List.length_nil] at h2
    rcases (by omega : n = 3 ∨ n = 4) with hn4 | hn4
    · subst hn4
      have ha : 224 ≤ (a.toNat : Int) ∧ (a.toNat : Int) < 240 := by unfold rdN at hc; (repeat' split at hc) <;> omega
      show (rdHit 3 [a, b, 128] || rdHit 3 [a, b, 191]) = ((cont (b.toNat : Int) && true) && rbTest 3 (rdVal 3 [a, b, 128]) (rdVal 3 [a, b, 191]))
      rw [hit3 a b 128 ha, hit3 a b 191 ha]
      have e1 : rdVal 3 [a, b, 128] = (((a.toNat : Int) - 224) * 64 + (b.toNat : Int) - 128) * 64 + 128 - 128 := by simp [rdVal, rdF, rdSub, bI]
      have e2 : rdVal 3 [a, b, 191] = (((a.toNat : Int) - 224) * 64 + (b.toNat : Int) - 128) * 64 + 191 - 128 := by simp [rdVal, rdF, rdSub, bI]
      rw [e1, e2]
      simp only [show (((128 : UInt8).toNat : Nat) : Int) = 128 from rfl, show (((191 : UInt8).toNat : Nat) : Int) = 191 from rfl, show cont 128 = true from rfl, show cont 191 = true from rfl, Bool.and_true, Bool.true_and]
      cases hcb : cont (b.toNat : Int)
      · simp
      simp only [cont, decide_eq_true_eq] at hcb
      simp only [Bool.true_and, rbVal, rbTest, rbLeast]
      rw [Bool.eq_iff_iff]
      simp
      omega
    · subst hn4
      have ha : 240 ≤ (a.toNat : Int) ∧ (a.toNat : Int) < 248 := by unfold rdN at hc; (repeat' split at hc) <;> omega
      show (rdHit 4 [a, b, 128, 128] || rdHit 4 [a, b, 191, 191]) = ((cont (b.toNat : Int) && true) && rbTest 4 (rdVal 4 [a, b, 128, 128]) (rdVal 4 [a, b, 191, 191]))
      rw [hit4 a b 128 128 ha, hit4 a b 191 191 ha]
      have e1 : rdVal 4 [a, b, 128, 128] = ((((a.toNat : Int) - 240) * 64 + (b.toNat : Int) - 128) * 64 + 128 - 128) * 64 + 128 - 128 := by simp [rdVal, rdF, rdSub, bI]
      have e2 : rdVal 4 [a, b, 191, 191] = ((((a.toNat : Int) - 240) * 64 + (b.toNat : Int) - 128) * 64 + 191 - 128) * 64 + 191 - 128 := by simp [rdVal, rdF, rdSub, bI]
      rw [e1, e2]
      simp only [show (((128 : UInt8).toNat : Nat) : Int) = 128 from rfl, show (((191 : UInt8).toNat : Nat) : Int) = 191 from rfl, show cont 128 = true from rfl, show cont 191 = true from rfl, Bool.and_true, Bool.true_and]
      cases hcb : cont (b.toNat : Int)
      · simp
      simp only [cont, decide_eq_true_eq] at hcb
      simp only [Bool.true_and, rbVal, rbTest, rbLeast]
      rw [Bool.eq_iff_iff]
      simp
      omega
  | [a, b, c], h1, h2, hn =>
    have hc : rdN (a.toNat : Int) = n := hn
    have hr := a.toNat_lt
    simp only [List.length_cons, List.length_nil] at h2
    have hn4 : n = 4 := by omega
    · subst hn4
      have ha : 240 ≤ (a.toNat : Int) ∧ (a.toNat : Int) < 248 := by unfold rdN at hc; (repeat' split at hc) <;> omega
      show (rdHit 4 [a, b, c, 128] || rdHit 4 [a, b, c, 191]) = ((cont (b.toNat : Int) && (cont (c.toNat : Int) && true)) && rbTest 4 (rdVal 4 [a, b, c, 128]) (rdVal 4 [a, b, c, 191]))
      rw [hit4 a b c 128 ha, hit4 a b c 191 ha]
      have e1 : rdVal 4 [a, b, c, 128] = ((((a.toNat : Int) - 240) * 64 + (b.toNat : Int) - 128) * 64 + (c.toNat : Int) - 128) * 64 + 128 - 128 := by simp [rdVal, rdF, rdSub, bI]
      have e2 : rdVal 4 [a, b, c, 191] = ((((a.toNat : Int) - 240) * 64 + (b.toNat : Int) - 128) * 64 + (c.toNat : Int) - 128) * 64 + 191 - 128 := by simp [rdVal, rdF, rdSub, bI]
      rw [e1, e2]
      simp only [show (((128 : UInt8).toNat : Nat) : Int) = 128 from rfl, show (((191 : UInt8).toNat : Nat) : Int) = 191 from rfl, show cont 128 = true from rfl, show cont 191 = true from rfl, Bool.and_true, Bool.true_and]
      cases hcb : cont (b.toNat : Int)
      · simp
      cases hcc : cont (c.toNat : Int)
      · simp
      simp only [cont, decide_eq_true_eq] at hcb
      simp only [cont, decide_eq_true_eq] at hcc
      simp only [Bool.true_and, rbVal, rbTest, rbLeast]
      rw [Bool.eq_iff_iff]
      simp
      omega
  | [], h1, _, _ => simp at h1
  | _ :: _ :: _ :: _ :: _, h1, _, _ => simp at h1
theorem rb_any {xs : List UInt8} {n : Nat} (hn : rdN (bI xs 0) = n) (h1 : 1 ≤ xs.length) : ∀ m s, xs.length ≤ s → rbAny xs m s = (decide (s ≤ n ∧ n < s + m) && rbHit xs n)
  | 0, s, _ => by rw [rbAny, decide_eq_false (by omega)]; rfl
  | m + 1, s, h => by
    rw [rbAny, rb_any hn h1 m (s + 1) (by omega)]
    by_cases e : s = n
    · subst e
      rw [decide_eq_true (by omega : s ≤ s ∧ s < s + (m + 1)), decide_eq_false (by omega : ¬ (s + 1 ≤ s ∧ s < s + 1 + m))]; simp
    · have hz : rbHit xs s = false := by rw [rbHit_eq h1 h, hn, decide_eq_false (fun q => e q.symm)]; rfl
      rw [hz, Bool.false_or]
      congr 1
      rw [decide_eq_decide]; omega
theorem runeBegin_eq (xs : List UInt8) : runeBegin xs = rbI xs := by
  unfold runeBegin rbI
  by_cases h1 : 1 ≤ xs.length ∧ xs.length ≤ 3
  · rw [decide_eq_true h1, Bool.true_and, Bool.true_and]
    obtain ⟨n, hn⟩ : ∃ n, rdN (bI xs 0) = n := ⟨_, rfl⟩
    have hle := rdN_le (bI xs 0)
    rw [hn] at hle ⊢
    rw [rb_any hn h1.1 _ _ (by omega)]
    by_cases h2 : xs.length < n
    · rw [decide_eq_true (by omega), decide_eq_true (by omega), Bool.true_and, Bool.true_and, rbHit_eq h1.1 (by omega), hn, decide_eq_true rfl, Bool.true_and]
      exact rb_core hn h1 h2
    · rw [decide_eq_false (by omega), decide_eq_false (by omega)]; rfl
  · rw [decide_eq_false h1]; rfl
end Go.G6
