/- Finding a line of the history: the plain law. -/
import Derived.Test.YtdfpjchneofndaaHist
import Derived.Lib.IndexMore
import Derived.Lib.Strings
set_option linter.unusedSimpArgs false
set_option linter.unusedVariables false
namespace Go.G6
open Go.RowKit Rep
/-- Is s in t, from its begin on or anywhere? -/
def hfHit (t s : List UInt8) (start : Bool) : Bool := if start then Lib.hasPrefix t s else Lib.contains t s
def hfOcc (t s : List UInt8) (i : Nat) : Bool := (t.drop i).take s.length == s
theorem hfOcc_str (t s : ByteArray) (k : Nat) : ((t.extract k (k + s.size)).toList == s.toList) = hfOcc t.data.toList s.data.toList k := by
  unfold hfOcc
  rw [Lib.extract_toList, Lib.toList_data, ← Lib.size_eq, show k + s.size - k = s.size by omega]
theorem hfOcc_eq (t s : List UInt8) (i : Nat) : hfOcc t s i = Lib.occAt t s i := by
  unfold hfOcc Lib.occAt
  rw [Bool.eq_iff_iff, beq_iff_eq, List.isPrefixOf_iff_prefix, List.prefix_iff_eq_take]
  exact eq_comm
/-- The reference's search from place i on. -/
def hfIn (t s : List UInt8) (start : Bool) : Nat → Nat → Bool
  | 0, _ => false
  | m + 1, i => if hfOcc t s i then true else if start then false else hfIn t s start m (i + 1)
theorem hfIn_any (t s : List UInt8) : ∀ m i, hfIn t s false m i = true ↔ ∃ j, i ≤ j ∧ j < i + m ∧ hfOcc t s j = true
  | 0, i => by
    simp only [hfIn]
    constructor
    · intro h; cases h
    · rintro ⟨j, h1, h2, _⟩; omega
  | m + 1, i => by
    simp only [hfIn]
    by_cases h : hfOcc t s i = true
    · rw [if_pos h]; simp only [true_iff]; exact ⟨i, Nat.le_refl _, by omega, h⟩
    · rw [if_neg h]
      simp only [Bool.false_eq_true, if_false]
      rw [hfIn_any t s m (i + 1)]
      constructor
      · rintro ⟨j, h1, h2, h3⟩; exact ⟨j, by omega, by omega, h3⟩
      · rintro ⟨j, h1, h2, h3⟩
        refine ⟨j, ?_, by omega, h3⟩
        rcases Nat.lt_or_ge i j with h4 | h4
        · exact h4
        · have : j = i := by omega
          subst this; exact absurd h3 h
theorem hf_contains (t s : List UInt8) : Lib.contains t s = true ↔ ∃ j, j ≤ t.length ∧ hfOcc t s j = true := by
  unfold Lib.contains
  rw [decide_eq_true_eq]
  rcases Lib.index_spec t s with ⟨h1, h2⟩ | ⟨i, h1, h2, h3, _⟩
  · rw [h1]
    constructor
    · intro h; omega
    · rintro ⟨j, hj, ho⟩
      rw [hfOcc_eq] at ho
      rw [h2 j hj] at ho; cases ho
  · rw [h1]
    constructor
    · intro _; exact ⟨i, h2, by rw [hfOcc_eq]; exact h3⟩
    · intro _; omega
theorem hfIn_hit (t s : List UInt8) (start : Bool) : hfIn t s start (t.length + 1 - s.length) 0 = hfHit t s start := by
  have hlen : ∀ j, hfOcc t s j = true → s.length ≤ t.length - j := fun j h => by
    unfold hfOcc at h
    rw [beq_iff_eq] at h
    have := congrArg List.length h
    rw [List.length_take, List.length_drop] at this; omega
  rw [Bool.eq_iff_iff]
  cases start
  · rw [hfIn_any, hfHit, if_neg (by decide), hf_contains]
    constructor
    · rintro ⟨j, _, h2, h3⟩; exact ⟨j, by omega, h3⟩
    · rintro ⟨j, h2, h3⟩
      have := hlen j h3
      exact ⟨j, by omega, by omega, h3⟩
  · have hp : hfHit t s true = hfOcc t s 0 := by rw [hfOcc_eq]; rfl
    rw [hp]
    by_cases hl : s.length ≤ t.length
    · rw [show t.length + 1 - s.length = (t.length - s.length) + 1 by omega]
      simp only [hfIn]
      cases hfOcc t s 0 <;> simp
    · rw [show t.length + 1 - s.length = 0 by omega]
      simp only [hfIn]
      constructor
      · intro h; cases h
      · intro h; have := hlen 0 h; omega
/-- The reference's search: q says which numbers count. -/
def hfS (q : Nat → Bool) (up : Bool) (F : Int) : Nat → Nat → Int → Int
  | 0, _, best => best
  | m + 1, k, best => hfS q up F m (k + 1) (if q k && (decide (best = 0) || !up) then F + k else best)
def hfUp (q : Nat → Bool) (F : Int) : Nat → Nat → Int
  | 0, _ => 0
  | m + 1, k => if q k then F + k else hfUp q F m (k + 1)
def hfDn (q : Nat → Bool) (F : Int) : Nat → Int
  | 0 => 0
  | k + 1 => if q k then F + k else hfDn q F k
theorem hfS_kept (q : Nat → Bool) (F : Int) : ∀ m k best, best ≠ 0 → hfS q true F m k best = best
  | 0, _, _, _ => rfl
  | m + 1, k, best, h => by rw [hfS, decide_eq_false h]; simp; exact hfS_kept q F m (k + 1) best h
theorem hfS_up {q : Nat → Bool} {F : Int} (hF : 1 ≤ F) : ∀ m k, hfS q true F m k 0 = hfUp q F m k
  | 0, _ => rfl
  | m + 1, k => by
    rw [hfS, hfUp]
    cases h : q k
    · simp; exact hfS_up hF m (k + 1)
    · simp; exact hfS_kept q F m (k + 1) _ (by omega)
theorem hfS_dn (q : Nat → Bool) (F : Int) : ∀ m k, hfS q false F m k (hfDn q F k) = hfDn q F (k + m)
  | 0, _ => rfl
  | m + 1, k => by
    have e : (if q k && (decide (hfDn q F k = 0) || !false) then F + (k : Int) else hfDn q F k) = hfDn q F (k + 1) := by
      rw [hfDn]; cases q k <;> simp
    rw [hfS, e, hfS_dn q F m (k + 1)]; congr 1; omega
theorem hfUp_skip {q : Nat → Bool} {F : Int} : ∀ (d m k : Nat), (∀ j, k ≤ j → j < k + d → q j = false) → hfUp q F (d + m) k = hfUp q F m (k + d)
  | 0, m, k, _ => by rw [Nat.zero_add, Nat.add_zero]
  | d + 1, m, k, h => by
    rw [show d + 1 + m = (d + m) + 1 by omega, hfUp, h k (Nat.le_refl _) (by omega)]
    simp only [Bool.false_eq_true, if_false]
    rw [hfUp_skip d m (k + 1) (fun j h1 h2 => h j (by omega) (by omega))]; congr 1; omega
theorem hfDn_skip {q : Nat → Bool} {F : Int} : ∀ (d k : Nat), (∀ j, k ≤ j → j < k + d → q j = false) → hfDn q F (k + d) = hfDn q F k
  | 0, k, _ => rfl
  | d + 1, k, h => by
    rw [show k + (d + 1) = (k + d) + 1 by omega, hfDn, h (k + d) (by omega) (by omega)]
    simp only [Bool.false_eq_true, if_false]
    exact hfDn_skip d k (fun j h1 h2 => h j h1 (by omega))
def hfQ (d : HistD) (s : List UInt8) (fr st : Int) (start : Bool) (k : Nat) : Bool := hfHit (d.Lines.getD k ByteArray.empty).data.toList s start && (decide (st = 1 → fr ≤ d.First + k) && decide (st = -1 → d.First + k ≤ fr))
def histFind (d : HistD) (s : List UInt8) (fr st : Int) (start : Bool) : Int :=
  if (histOk d && decide (st = 1 ∨ st = -1)) = true then hfS (hfQ d s fr st start) (decide (st = 1)) d.First d.Lines.length 0 0 else 0
theorem histFind_bad {d : HistD} {s : List UInt8} {fr st : Int} {start : Bool} (h : histOk d = false) : histFind d s fr st start = 0 := by unfold histFind; rw [h]; rfl
theorem histFind_step {d : HistD} {s : List UInt8} {fr st : Int} {start : Bool} (h : ¬ (st = 1 ∨ st = -1)) : histFind d s fr st start = 0 := by unfold histFind; rw [decide_eq_false h, Bool.and_false]; rfl
theorem histFind_go {d : HistD} {s : List UInt8} {fr st : Int} {start : Bool} (h : histOk d = true) (hs : st = 1 ∨ st = -1) : histFind d s fr st start = hfS (hfQ d s fr st start) (decide (st = 1)) d.First d.Lines.length 0 0 := by unfold histFind; rw [h, decide_eq_true hs]; rfl
theorem hfQ_at {d : HistD} {s : List UInt8} {fr st : Int} {start : Bool} {k : Nat} (hk : k < d.Lines.length) : hfQ d s fr st start k = (hfHit d.Lines[k].data.toList s start && (decide (st = 1 → fr ≤ d.First + k) && decide (st = -1 → d.First + k ≤ fr))) := by
  unfold hfQ; rw [show d.Lines.getD k ByteArray.empty = d.Lines[k] by simp [hk]]
/-- Upwards: where the program begins. -/
theorem hf_upstart {d : HistD} {s : List UInt8} {fr : Int} {start : Bool} (h : histOk d = true) (hF : 1 ≤ d.First) {n : Int} (hn : n = max fr d.First) :
    histFind d s fr 1 start = hfUp (hfQ d s fr 1 start) d.First (d.Lines.length - (n - d.First).toNat) (n - d.First).toNat := by
  rw [histFind_go h (.inl rfl), decide_eq_true rfl, hfS_up hF]
  have hz : ∀ j : Nat, j < (n - d.First).toNat → hfQ d s fr 1 start j = false := fun j hj => by
    unfold hfQ
    rw [decide_eq_false (show ¬ ((1 : Int) = 1 → fr ≤ d.First + j) from fun q => by have := q rfl; omega)]; simp
  by_cases hk : (n - d.First).toNat ≤ d.Lines.length
  · have e := hfUp_skip (F := d.First) (n - d.First).toNat (d.Lines.length - (n - d.First).toNat) 0 (fun j _ h2 => hz j (by omega))
    rw [Nat.zero_add] at e
    rw [← e]; congr 1; omega
  · have e := hfUp_skip (F := d.First) d.Lines.length 0 0 (fun j _ h2 => hz j (by omega))
    rw [Nat.add_zero] at e
    rw [e, show d.Lines.length - (n - d.First).toNat = 0 by omega]; rfl
/-- Downwards. -/
theorem hf_dnstart {d : HistD} {s : List UInt8} {fr : Int} {start : Bool} (h : histOk d = true) {n : Int} (hn : n = min fr (d.First + (d.Lines.length : Int) - 1)) :
    histFind d s fr (-1) start = hfDn (hfQ d s fr (-1) start) d.First (n - d.First + 1).toNat := by
  rw [histFind_go h (.inr rfl), decide_eq_false (by decide)]
  have e0 := hfS_dn (hfQ d s fr (-1) start) d.First d.Lines.length 0
  rw [Nat.zero_add] at e0
  have e1 : hfDn (hfQ d s fr (-1) start) d.First 0 = 0 := rfl
  rw [e1] at e0
  rw [e0]
  have e := hfDn_skip (q := hfQ d s fr (-1) start) (F := d.First) (d.Lines.length - (n - d.First + 1).toNat) (n - d.First + 1).toNat (fun j h1 h2 => by
    unfold hfQ
    rw [decide_eq_false (show ¬ ((-1 : Int) = -1 → d.First + j ≤ fr) from fun q => by have := q rfl; omega)]; simp)
  rw [← e]; congr 1; omega
end Go.G6
