/- The words' laws, in plain Lean. -/
import Derived.Test.YtdfpjchneofndaaVi
set_option linter.unusedSimpArgs false
set_option linter.unusedVariables false
namespace Go.G6
theorem skipOn_stop {α : Type} {p : α → Bool} {t : List α} : ∀ (n k : Nat), t.length - k = n → ∀ (h : skipOn p t k < t.length), p (t[skipOn p t k]'h) = false := by
  intro n
  induction n with
  | zero =>
    intro k hk h
    have := skipOn_ge p t k
    omega
  | succ n ih =>
    intro k hk h
    have hlt : k < t.length := by omega
    cases hp : p t[k]
    · have e := skipOn_no hlt hp
      simp only [e]
      exact hp
    · have e := skipOn_yes hlt hp
      simp only [e] at h ⊢
      exact ih (k + 1) (by omega) h
theorem skipBack_stop {α : Type} {p : α → Bool} {t : List α} : ∀ (k : Nat), k ≤ t.length → ∀ (h0 : 0 < skipBack p t k) (h : skipBack p t k - 1 < t.length), p (t[skipBack p t k - 1]'h) = false := by
  intro k
  induction k with
  | zero => intro _ h0; simp [skipBack] at h0
  | succ k ih =>
    intro hk h0 h
    have hlt : k < t.length := by omega
    cases hp : p t[k]
    · have e := skipBack_no hlt hp
      simp only [e, Nat.add_sub_cancel]
      exact hp
    · have e := skipBack_yes hlt hp
      simp only [e] at h h0 ⊢
      exact ih (by omega) h0 h
theorem clampN_nat {a n : Nat} (h : a ≤ n) : clampN (a : Int) n = a := by unfold clampN; omega
theorem isW_iff (r : Int) : isW r = true ↔ classOf r = 1 := by unfold isW; simp
theorem classBig_zero {r : Int} {big : Bool} : classBig r big = 0 ↔ classOf r = 0 := by
  unfold classBig
  split
  · rename_i h; rw [h.2]; constructor <;> intro h' <;> omega
  · rfl
theorem wordOn_facts (t : List Int) (a : Nat) (ha : a ≤ t.length) :
    a ≤ wordOn t a ∧ wordOn t a ≤ t.length ∧ (∀ h : a < t.length, classOf t[a] = 1 → wordOn t a ≠ a) ∧ (∀ h : wordOn t a < t.length, classOf t[wordOn t a] ≠ 1) := by
  have h1 : a ≤ wordOn t a := by
    unfold wordOn; rw [clampN_nat ha]
    exact Nat.le_trans (skipOn_ge _ _ _) (skipOn_ge _ _ _)
  refine ⟨h1, ?_, ?_, ?_⟩
  · unfold wordOn; exact skipOn_le (skipOn_le (clampN_le _ _))
  · intro h hc
    have hw := (isW_iff t[a]).2 hc
    unfold wordOn
    rw [clampN_nat ha, skipOn_no (p := fun r => !isW r) h (by simp [hw]), skipOn_yes h hw]
    have := skipOn_ge isW t (a + 1)
    omega
  · intro h hc
    have := skipOn_stop (p := isW) _ _ rfl (show skipOn isW t (skipOn (fun r => !isW r) t (clampN a t.length)) < t.length from h)
    have h2 := (isW_iff t[wordOn t a]).2 hc
    exact absurd (this.symm.trans h2) (by simp)
theorem wordBack_facts (t : List Int) (a : Nat) (ha : a ≤ t.length) :
    wordBack t a ≤ a ∧ (∀ (h0 : 0 < wordBack t a) (h : wordBack t a - 1 < t.length), classOf t[wordBack t a - 1] ≠ 1) := by
  constructor
  · unfold wordBack; rw [clampN_nat ha]
    exact Nat.le_trans (skipBack_le _ _ _) (skipBack_le _ _ _)
  · intro h0 h hc
    have hle : skipBack (fun r => !isW r) t (clampN a t.length) ≤ t.length := Nat.le_trans (skipBack_le _ _ _) (clampN_le _ _)
    have := skipBack_stop (p := isW) (t := t) _ hle h0 h
    have h2 := (isW_iff t[wordBack t a - 1]).2 hc
    exact absurd (this.symm.trans h2) (by simp)
theorem viOn_facts (t : List Int) (a : Nat) (big : Bool) (ha : a ≤ t.length) :
    a ≤ viOn t a big ∧ viOn t a big ≤ t.length ∧ (a < t.length → viOn t a big ≠ a) ∧ (∀ h : viOn t a big < t.length, classOf t[viOn t a big] ≠ 0) := by
  have hv : viOn t a big = skipOn (viEq big 0) t (viRun t big a) := by unfold viOn viOnAt; rw [clampN_nat ha]
  have hr : a ≤ viRun t big a ∧ viRun t big a ≤ t.length := by
    unfold viRun
    split
    · split
      · exact ⟨Nat.le_refl _, ha⟩
      · exact ⟨skipOn_ge _ _ _, skipOn_le ha⟩
    · exact ⟨Nat.le_refl _, ha⟩
  refine ⟨?_, ?_, ?_, ?_⟩
  · rw [hv]; exact Nat.le_trans hr.1 (skipOn_ge _ _ _)
  · rw [hv]; exact skipOn_le hr.2
  · intro h e
    rw [hv] at e
    by_cases hc : classBig t[a] big = 0
    · have e1 : viRun t big a = a := by unfold viRun; rw [dif_pos h, if_pos hc]
      rw [e1, skipOn_yes h (by simp [viEq, hc])] at e
      have := skipOn_ge (viEq big 0) t (a + 1)
      omega
    · have e1 : viRun t big a = skipOn (viEq big (classBig t[a] big)) t a := by unfold viRun; rw [dif_pos h, if_neg hc]
      rw [skipOn_yes h (by simp [viEq])] at e1
      have h1 := skipOn_ge (viEq big (classBig t[a] big)) t (a + 1)
      have h2 := skipOn_ge (viEq big 0) t (viRun t big a)
      omega
  · intro h hc
    have h' : skipOn (viEq big 0) t (viRun t big a) < t.length := by rw [← hv]; exact h
    have := skipOn_stop (p := viEq big 0) _ _ rfl h'
    have e : t[viOn t a big] = t[skipOn (viEq big 0) t (viRun t big a)] := by simp only [hv]
    rw [e] at hc
    have h2 := (classBig_zero (big := big)).2 hc
    rw [viEq, h2] at this
    simp at this
theorem viBack_facts (t : List Int) (a : Nat) (big : Bool) (ha : a ≤ t.length) :
    viBack t a big ≤ a ∧ (0 < a → viBack t a big ≠ a) := by
  have hv : viBack t a big = viBack2 t big (skipBack (viEq big 0) t a) := by unfold viBack viBackAt; rw [clampN_nat ha]
  have h2 : ∀ k, viBack2 t big k ≤ k := by
    intro k
    cases k with
    | zero => exact Nat.le_refl _
    | succ k =>
      show (if h : k < t.length then skipBack (viEq big (classBig t[k] big)) t (k + 1) else k + 1) ≤ k + 1
      split
      · exact skipBack_le _ _ _
      · exact Nat.le_refl _
  have h1 := skipBack_le (viEq big 0) t a
  refine ⟨by rw [hv]; exact Nat.le_trans (h2 _) h1, ?_⟩
  intro h0 e
  rw [hv] at e
  have h3 := h2 (skipBack (viEq big 0) t a)
  have hs : skipBack (viEq big 0) t a = a := by omega
  rw [hs] at e
  obtain ⟨k, rfl⟩ : ∃ k, a = k + 1 := ⟨a - 1, by omega⟩
  have hk : k < t.length := by omega
  replace e : (if h : k < t.length then skipBack (viEq big (classBig t[k] big)) t (k + 1) else k + 1) = k + 1 := e
  rw [dif_pos hk, skipBack_yes hk (by simp [viEq])] at e
  have := skipBack_le (viEq big (classBig t[k] big)) t k
  omega
theorem viEnd_facts (t : List Int) (a : Nat) (big : Bool) (ha : a ≤ t.length) :
    0 < t.length → 0 ≤ viEnd t a big ∧ viEnd t a big < t.length := by
  intro h0
  unfold viEnd viEndAt
  rw [clampN_nat ha, if_neg (by omega)]
  unfold viEnd2
  have h1 := skipOn_ge (viEq big 0) t (a + 1)
  split
  · rename_i h
    have h2 := skipOn_ge (viEq big (classBig t[skipOn (viEq big 0) t (a + 1)] big)) t (skipOn (viEq big 0) t (a + 1))
    have h3 := skipOn_le (p := viEq big (classBig t[skipOn (viEq big 0) t (a + 1)] big)) (Nat.le_of_lt h)
    omega
  · omega
theorem wordOn_past (t : List Int) {x : Int} (h : (t.length : Int) ≤ x) : wordOn t x = t.length := by
  have : clampN x t.length = t.length := by unfold clampN; omega
  unfold wordOn
  rw [this, skipOn_end (p := fun r => !isW r) (Nat.le_refl _), skipOn_end (Nat.le_refl _)]
theorem wordBack_before (t : List Int) {x : Int} (h : x ≤ 0) : wordBack t x = 0 := by
  have : clampN x t.length = 0 := by unfold clampN; omega
  unfold wordBack
  rw [this]
  rfl
theorem wordOn_ab : wordOn [97, 98, 32] 0 = 2 := by decide +kernel
end Go.G6
