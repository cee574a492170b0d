/- A rune read out of bytes (printed by genread.py). -/
import Derived.Test.YtffinfpnmohnaaaText
import Derived.Test.YtffinfpnmohnaaaLate
import Derived.Test.YtffinfpnmohnaaaRune
import Derived.BigQuiet
set_option linter.unusedSimpArgs false
set_option linter.unusedVariables false
namespace Go.G6
open Go.RowKit Rep
def bI (x : List UInt8) (j : Nat) : Int := ((x.getD j 0).toNat : Int)
theorem bI_range (x : List UInt8) (j : Nat) : 0 ≤ bI x j ∧ bI x j < 256 := by
  unfold bI; have := (x.getD j 0).toNat_lt; omega
theorem bI_drop {xs : List UInt8} {k j : Nat} (h : k + j < xs.length) : bI (xs.drop k) j = (xs[k + j].toNat : Int) := by
  unfold bI; simp [List.getD, List.getElem?_drop, h]
/-- How long a rune is by its first byte. -/
def rdN (c : Int) : Nat := if c < 128 then 1 else if c < 192 then 0 else if c < 224 then 2 else if c < 240 then 3 else if c < 248 then 4 else 0
def rdSub (s : Nat) : Int := if s = 2 then 192 else if s = 3 then 224 else if s = 4 then 240 else 0
def rdF (x : List UInt8) : Nat → Nat → Int → Int
  | 0, _, r => r
  | m + 1, j, r => rdF x m (j + 1) (r * 64 + bI x j - 128)
def rdVal (s : Nat) (x : List UInt8) : Int := rdF x (s - 1) 1 (bI x 0 - rdSub s)
def rdHit (s : Nat) (x : List UInt8) : Bool := runeBytes (rdVal s x) == x.take s
def rdOk (x : List UInt8) : Bool := (decide (1 ≤ rdN (bI x 0)) && decide (rdN (bI x 0) ≤ x.length)) && rdHit (rdN (bI x 0)) x
def rdR (x : List UInt8) : Int := if rdOk x then rdVal (rdN (bI x 0)) x else 0
def rdL (x : List UInt8) : Nat := if rdOk x then rdN (bI x 0) else 0
theorem rdN_le (c : Int) : rdN c ≤ 4 := by unfold rdN; (repeat' split) <;> omega
theorem rd_key {x : List UInt8} {s : Nat} (hs1 : 1 ≤ s) (hl : s ≤ x.length) (h : rdHit s x = true) : rdN (bI x 0) = s := by
  rw [rdHit, beq_iff_eq] at h
  obtain ⟨y, xs, rfl⟩ : ∃ y xs, x = y :: xs := by
    cases x with
    | nil => simp at hl; omega
    | cons y xs => exact ⟨y, xs, rfl⟩
  have hlen : (runeBytes (rdVal s (y :: xs))).length = s := by rw [h, List.length_take]; omega
  have hhd : (runeBytes (rdVal s (y :: xs))).head? = some y := by
    rw [h]
    cases s with
    | zero => omega
    | succ n => rfl
  have hb0 : bI (y :: xs) 0 = (y.toNat : Int) := rfl
  rw [hb0]
  generalize rdVal s (y :: xs) = r at h hlen hhd
  unfold runeBytes at hhd hlen
  by_cases hk : runeOk r = true
  · rw [if_pos hk] at hhd hlen
    have hr : 0 ≤ r ∧ r ≤ 1114111 := by simp [runeOk] at hk; omega
    by_cases h1 : r < 128
    · rw [if_pos h1] at hhd hlen
      simp only [List.head?_cons, Option.some.injEq, List.length_cons, List.length_nil] at hhd hlen
      have q := b8_val (x := r) hr.1 (by omega)
      rw [hhd] at q
      rw [q]; unfold rdN; rw [if_pos h1]; omega
    rw [if_neg h1] at hhd hlen
    by_cases h2 : r < 2048
    · rw [if_pos h2] at hhd hlen
      simp only [List.head?_cons, Option.some.injEq, List.length_cons, List.length_nil] at hhd hlen
      have q := b8_val (x := 192 + r / 64) (by omega) (by omega)
      rw [hhd] at q
      rw [q]; unfold rdN; (repeat' split) <;> omega
    rw [if_neg h2] at hhd hlen
    by_cases h3 : r < 65536
    · rw [if_pos h3] at hhd hlen
      simp only [List.head?_cons, Option.some.injEq, List.length_cons, List.length_nil] at hhd hlen
      have q := b8_val (x := 224 + r / 4096) (by omega) (by omega)
      rw [hhd] at q
      rw [q]; unfold rdN; (repeat' split) <;> omega
    · rw [if_neg h3] at hhd hlen
      simp only [List.head?_cons, Option.some.injEq, List.length_cons, List.length_nil] at hhd hlen
      have q := b8_val (x := 240 + r / 262144) (by omega) (by omega)
      rw [hhd] at q
      rw [q]; unfold rdN; (repeat' split) <;> omega
  · rw [if_neg hk] at hlen
    simp at hlen; omega
theorem rd_one {x : List UInt8} {c : Int} (h0 : bI x 0 = c) (hl : 1 ≤ x.length) (hc : c < 128) : rdR x = c ∧ rdL x = 1 := by
  have hr := bI_range x 0
  have hn : rdN (bI x 0) = 1 := by rw [h0]; unfold rdN; rw [if_pos hc]
  have hv : rdVal 1 x = c := by unfold rdVal rdSub; simp [rdF, h0]
  have hh : rdHit 1 x = true := by
    rw [rdHit, hv, beq_iff_eq]
    obtain ⟨y, xs, rfl⟩ : ∃ y xs, x = y :: xs := by
      cases x with
      | nil => simp at hl
      | cons y xs => exact ⟨y, xs, rfl⟩
    have hy : (y.toNat : Int) = c := h0
    have hk : runeOk c = true := by simp [runeOk]; omega
    rw [runeBytes, if_pos hk, if_pos hc]
    show [b8 c] = [y]
    rw [← hy]; simp [b8]
  have ho : rdOk x = true := by rw [rdOk, hn, hh]; simp; omega
  rw [rdR, rdL, if_pos ho, if_pos ho, hn, hv]; exact ⟨rfl, rfl⟩
theorem rd_none {x : List UInt8} (h : rdN (bI x 0) = 0) : rdR x = 0 ∧ rdL x = 0 := by
  have ho : rdOk x = false := by rw [rdOk, h]; rfl
  rw [rdR, rdL, ho]; exact ⟨rfl, rfl⟩
theorem rd_short {x : List UInt8} (h : x.length < rdN (bI x 0)) : rdR x = 0 ∧ rdL x = 0 := by
  have ho : rdOk x = false := by rw [rdOk, decide_eq_false (by omega : ¬ rdN (bI x 0) ≤ x.length)]; simp
  rw [rdR, rdL, ho]; exact ⟨rfl, rfl⟩
theorem rd_hit {x : List UInt8} {n : Nat} (hn : rdN (bI x 0) = n) (h1 : 1 ≤ n) (hl : n ≤ x.length) (h : rdHit n x = true) : rdR x = rdVal n x ∧ rdL x = n := by
  have ho : rdOk x = true := by rw [rdOk, hn, h]; simp; omega
  rw [rdR, rdL, if_pos ho, if_pos ho, hn]; exact ⟨rfl, rfl⟩
theorem rd_miss {x : List UInt8} {n : Nat} (hn : rdN (bI x 0) = n) (h : rdHit n x = false) : rdR x = 0 ∧ rdL x = 0 := by
  have ho : rdOk x = false := by rw [rdOk, hn, h]; simp
  rw [rdR, rdL, ho]; exact ⟨rfl, rfl⟩
theorem rd_no {x : List UInt8} (h : rdOk x = false) : rdR x = 0 ∧ rdL x = 0 := by rw [rdR, rdL, h]; exact ⟨rfl, rfl⟩
theorem rd_next {x : List UInt8} {s : Nat} (hN : rdOk x = true → s ≤ rdN (bI x 0)) (hh : rdHit s x = false) : rdOk x = true → s + 1 ≤ rdN (bI x 0) := fun h => by
  have q := hN h
  by_cases e : rdN (bI x 0) = s
  · simp only [rdOk, e, hh, Bool.and_false] at h; cases h
  · omega
/-- How great the number is behind j more bytes. -/
def rdB (j : Nat) (v : Int) : Prop := (j = 0 → -300 ≤ v ∧ v ≤ 300) ∧ (j = 1 → -30000 ≤ v ∧ v ≤ 30000) ∧ (j = 2 → -3000000 ≤ v ∧ v ≤ 3000000) ∧ (j = 3 → -300000000 ≤ v ∧ v ≤ 300000000)
theorem rdB_step {j : Nat} {v y : Int} (h : rdB j v) (hj : j < 3) (hy : 0 ≤ y ∧ y < 256) : rdB (j + 1) (v * 64 + y - 128) := by
  obtain ⟨h0, h1, h2, h3⟩ := h
  rcases (by omega : j = 0 ∨ j = 1 ∨ j = 2) with rfl | rfl | rfl
  · have := h0 rfl; unfold rdB; omega
  · have := h1 rfl; unfold rdB; omega
  · have := h2 rfl; unfold rdB; omega
theorem rdB_le {j : Nat} {v : Int} (h : rdB j v) (hj : j ≤ 3) : -300000000 ≤ v ∧ v ≤ 300000000 := by
  obtain ⟨h0, h1, h2, h3⟩ := h
  rcases (by omega : j = 0 ∨ j = 1 ∨ j = 2 ∨ j = 3) with rfl | rfl | rfl | rfl
  · have := h0 rfl; omega
  · have := h1 rfl; omega
  · have := h2 rfl; omega
  · have := h3 rfl; omega
theorem strne {a b : List UInt8} (h : a ≠ b) : (⟨a.toArray⟩ : ByteArray) ≠ ⟨b.toArray⟩ := fun e => h (by simpa using e)
theorem strbe {a b : List UInt8} (h : a ≠ b) : ((⟨a.toArray⟩ : ByteArray) == ⟨b.toArray⟩) = false := by
  show (a.toArray == b.toArray) = false
  rw [beq_eq_false_iff_ne]; exact fun e => h (by simpa using e)
theorem strbn {a b : List UInt8} (h : a ≠ b) : ((⟨a.toArray⟩ : ByteArray) != ⟨b.toArray⟩) = true := by rw [bne, strbe h]; rfl
end Go.G6
namespace Go.Proofs.Ytffinfpnmohnaaa
open Go.RowKit Go.G6
set_option maxHeartbeats 30000000
set_option maxRecDepth 10000
end Go.Proofs.Ytffinfpnmohnaaa
