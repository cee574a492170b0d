/- The key that a text names, in plain Lean: the program's choice by the runes is the trial of the three kinds. -/
import Derived.Test.YtgcdgkiefbbhkaaDoorKeyTx
import Derived.Test.YtgcdgkiefbbhkaaDoorKeyRs
set_option linter.unusedSimpArgs false
set_option linter.unusedVariables false
namespace Go.G6
open Go.RowKit Rep
def spc : ByteArray := ⟨#[83, 80, 67]⟩
def key0 : KeyD := ⟨0, 0⟩
/-- The key that the runes l of s may be. -/
def tkCand (s : ByteArray) (l : List Int) : KeyD :=
  if l.length = 1 then ⟨1, l.getD 0 0⟩
  else if l.length = 3 ∧ s.data.toList.take 2 = [67, 45] then ⟨2, l.getD 2 0⟩
  else if l.length = 3 ∧ s.data.toList.take 2 = [77, 45] then ⟨3, l.getD 2 0⟩
  else key0
def tkRest (s : ByteArray) (l : List Int) : KeyD × Bool :=
  if s = spc then (⟨1, 32⟩, true) else if keyText (tkCand s l) = s then (tkCand s l, true) else (key0, false)
def tkAt (s : ByteArray) : Int := findUp (fun k => decide (keyNames.getD k ByteArray.empty = s)) 13 0
def textKey (s : ByteArray) : KeyD × Bool :=
  if 0 ≤ tkAt s then (⟨tkAt s + 4, 0⟩, true)
  else if runesL s = [] then (key0, false) else tkRest s (runesL s)
theorem findUp_first {q : Nat → Bool} {n : Nat} : ∀ (d k m : Nat), d = m - k → k ≤ m → m < n → (∀ j, k ≤ j → j < m → q j = false) → q m = true → findUp q n k = (m : Int)
  | 0, k, m, hd, hk, hm, _, hq => by
    obtain rfl : k = m := by omega
    rw [findUp_lt hm, if_pos hq]
  | d + 1, k, m, hd, hk, hm, hn, hq => by
    rw [findUp_lt (by omega), if_neg (by rw [hn k (Nat.le_refl _) (by omega)]; simp)]
    exact findUp_first d (k + 1) m (by omega) (by omega) hm (fun j h1 h2 => hn j (by omega) h2) hq
theorem findUp_none {q : Nat → Bool} {n : Nat} : ∀ (d k : Nat), d = n - k → (∀ j, k ≤ j → j < n → q j = false) → findUp q n k = -1
  | 0, k, hd, _ => findUp_end (by omega)
  | d + 1, k, hd, hn => by
    rw [findUp_lt (by omega), if_neg (by rw [hn k (Nat.le_refl _) (by omega)]; simp)]
    exact findUp_none d (k + 1) (by omega) (fun j h1 h2 => hn j (by omega) h2)
theorem tk_name {s : ByteArray} {m : Nat} (hm : m < 13) (hn : ∀ j, j < m → keyNames.getD j ByteArray.empty ≠ s) (h : keyNames.getD m ByteArray.empty = s) : textKey s = (⟨(m : Int) + 4, 0⟩, true) := by
  have : tkAt s = (m : Int) := findUp_first (m - 0) 0 m rfl (Nat.zero_le _) hm (fun j _ h2 => by simpa using hn j h2) (by simpa using h)
  unfold textKey; rw [this, if_pos (by omega)]
theorem tk_rest {s : ByteArray} (hn : ∀ j, j < 13 → keyNames.getD j ByteArray.empty ≠ s) : textKey s = if runesL s = [] then (key0, false) else tkRest s (runesL s) := by
  have : tkAt s = -1 := findUp_none 13 0 rfl (fun j _ h2 => by simpa using hn j h2)
  unfold textKey; rw [this, if_neg (by omega)]
theorem keyText_name (k : Nat) (hk : k < 13) : keyText ⟨(k : Int) + 4, 0⟩ = keyNames.getD k ByteArray.empty := by
  have h : keyOk ⟨(k : Int) + 4, 0⟩ = true := by
    unfold keyOk
    rw [if_neg (by simp only; omega), if_neg (by simp only; omega), if_neg (by simp only; omega)]
    simp; omega
  unfold keyText
  rw [if_pos h, if_neg (by simp only; omega), if_neg (by simp only; omega), if_neg (by simp only; omega), show ((k : Int) + 4 - 4).toNat = k by omega]
theorem printable_ok {r : Int} (h : printable r = true) : runeOk r = true := by
  simp only [printable, runeOk, decide_eq_true_eq] at h ⊢; omega
theorem rB_1 {v : Int} (h0 : 0 ≤ v) (h1 : v < 128) : runeBytes v = [b8 v] := by
  unfold runeBytes
  rw [if_pos (by simp [runeOk]; omega), if_pos (by omega)]
theorem keyOk_rune {k : KeyD} (h : keyOk k = true) (h1 : 1 ≤ k.Kind) (h3 : k.Kind ≤ 3) : runeOk k.R = true := by
  unfold keyOk at h
  split at h
  · exact printable_ok h
  · split at h
    · simp at h; simp [runeOk]; omega
    · split at h
      · simp at h; simp [runeOk]; omega
      · omega
theorem runesL_text {l : List Int} (h : ∀ r ∈ l, runeOk r = true) (hl : l.length ≤ 4) : runesL (textOf l) = l := by
  have h2 : (textOf l).size ≤ 65536 := by
    have h1 := textList_len l
    have h0 : (textOf l).size = (textList l).length := by simp [textOf, ByteArray.size]
    omega
  unfold runesL; rw [runesOf_text h h2]; rfl
theorem runesL_nil : runesL ByteArray.empty = [] := by
  have : runesL (textOf []) = [] := runesL_text (by simp) (by simp)
  exact this
/-- What a kind of one to three gives, told by its runes. -/
theorem kt_1 {r : Int} (h : keyText ⟨1, r⟩ ≠ ByteArray.empty) (h2 : r ≠ 32) : keyText ⟨1, r⟩ = textOf [r] ∧ runeOk r = true := by
  unfold keyText at h ⊢
  split at h
  · rename_i hk
    rw [if_pos hk, if_pos rfl, if_neg h2]
    exact ⟨rfl, keyOk_rune (k := ⟨1, r⟩) hk (show (1:Int) ≤ 1 by decide) (show (1:Int) ≤ 3 by decide)⟩
  · exact absurd rfl h
theorem ba_app (a b : List UInt8) : (⟨a.toArray⟩ : ByteArray) ++ ⟨b.toArray⟩ = ⟨(a ++ b).toArray⟩ := by
  apply ByteArray.ext
  simp
theorem kt_2 {r : Int} (h : keyText ⟨2, r⟩ ≠ ByteArray.empty) : keyText ⟨2, r⟩ = textOf [67, 45, r] ∧ runeOk r = true := by
  unfold keyText at h ⊢
  split at h
  · rename_i hk
    rw [if_pos hk, if_neg (show ¬ (2:Int) = 1 by decide), if_pos rfl]
    refine ⟨?_, keyOk_rune (k := ⟨2, r⟩) hk (show (1:Int) ≤ 2 by decide) (show (2:Int) ≤ 3 by decide)⟩
    unfold textOf
    rw [show (⟨#[67, 45]⟩ : ByteArray) = ⟨[67, 45].toArray⟩ from rfl, ba_app]
    simp only [textList_cons, rB_1 (v := 67) (by decide) (by decide), rB_1 (v := 45) (by decide) (by decide)]
    rfl
  · exact absurd rfl h
theorem kt_3 {r : Int} (h : keyText ⟨3, r⟩ ≠ ByteArray.empty) : keyText ⟨3, r⟩ = textOf [77, 45, r] ∧ runeOk r = true := by
  unfold keyText at h ⊢
  split at h
  · rename_i hk
    rw [if_pos hk, if_neg (show ¬ (3:Int) = 1 by decide), if_neg (show ¬ (3:Int) = 2 by decide), if_pos rfl]
    refine ⟨?_, keyOk_rune (k := ⟨3, r⟩) hk (show (1:Int) ≤ 3 by decide) (show (3:Int) ≤ 3 by decide)⟩
    unfold textOf
    rw [show (⟨#[77, 45]⟩ : ByteArray) = ⟨[77, 45].toArray⟩ from rfl, ba_app]
    simp only [textList_cons, rB_1 (v := 77) (by decide) (by decide), rB_1 (v := 45) (by decide) (by decide)]
    rfl
  · exact absurd rfl h
theorem ok3 {a b r : Int} (ha : 0 ≤ a ∧ a < 128) (hb : 0 ≤ b ∧ b < 128) (hr : runeOk r = true) : ∀ q ∈ [a, b, r], runeOk q = true := by
  intro q hq
  simp at hq
  rcases hq with rfl | rfl | rfl
  · simp [runeOk]; omega
  · simp [runeOk]; omega
  · exact hr
theorem keyText_spc : keyText ⟨1, 32⟩ = spc := by
  unfold keyText; rw [if_pos (by decide), if_pos rfl, if_pos rfl]; rfl
theorem keyText_1_ne_spc {r : Int} (h : keyText ⟨1, r⟩ ≠ spc) : r ≠ 32 := by
  rintro rfl; exact h keyText_spc
theorem take2 (a b : Int) (r : Int) (ha : 0 ≤ a ∧ a < 128) (hb : 0 ≤ b ∧ b < 128) : (textOf [a, b, r]).data.toList.take 2 = [b8 a, b8 b] := by
  show (textList [a, b, r]).take 2 = _
  rw [textList_cons, textList_cons, rB_1 ha.1 ha.2, rB_1 hb.1 hb.2]
  simp
/-- The kind that the trial finds first is the program's candidate. -/
theorem tk_hit {s : ByteArray} {r : Int} {k : Int} (hl : runesL s ≠ []) (hs : s ≠ spc) (h1 : 1 ≤ k) (h3 : k ≤ 3) (h : keyText ⟨k, r⟩ = s) : tkCand s (runesL s) = ⟨k, r⟩ := by
  have he : s ≠ ByteArray.empty := by rintro rfl; exact hl runesL_nil
  obtain rfl | rfl | rfl : k = 1 ∨ k = 2 ∨ k = 3 := by omega
  · have := kt_1 (h ▸ he) (keyText_1_ne_spc (h ▸ hs))
    obtain rfl : textOf [r] = s := this.1.symm.trans h
    rw [runesL_text (by simpa using this.2) (by simp)]
    rfl
  · have := kt_2 (h ▸ he)
    obtain rfl : textOf [67, 45, r] = s := this.1.symm.trans h
    rw [runesL_text (ok3 (by decide) (by decide) this.2) (by simp)]
    unfold tkCand
    rw [if_neg (by simp), if_pos ⟨rfl, take2 67 45 r (by decide) (by decide)⟩]
    rfl
  · have := kt_3 (h ▸ he)
    obtain rfl : textOf [77, 45, r] = s := this.1.symm.trans h
    rw [runesL_text (ok3 (by decide) (by decide) this.2) (by simp)]
    unfold tkCand
    have t := take2 77 45 r (by decide) (by decide)
    rw [if_neg (by simp), if_neg (by rintro ⟨_, h9⟩; rw [t] at h9; exact absurd h9 (by decide)), if_pos ⟨rfl, t⟩]
    rfl
theorem len3 {l : List Int} (h : l.length = 3) : ∃ a b c, l = [a, b, c] := by
  match l, h with
  | [a, b, c], _ => exact ⟨a, b, c, rfl⟩
/-- The program's candidate is of the last rune. -/
theorem tk_cand {s : ByteArray} {l : List Int} (hl : l ≠ []) : tkCand s l = key0 ∨ ∃ k, 1 ≤ k ∧ k ≤ 3 ∧ tkCand s l = ⟨k, l.getLast hl⟩ := by
  unfold tkCand
  split
  · rename_i h
    obtain ⟨a, rfl⟩ := List.length_eq_one_iff.1 h
    exact .inr ⟨1, by decide, by decide, rfl⟩
  split
  · rename_i h
    obtain ⟨a, b, c, rfl⟩ := len3 h.1
    exact .inr ⟨2, by decide, by decide, rfl⟩
  split
  · rename_i h
    obtain ⟨a, b, c, rfl⟩ := len3 h.1
    exact .inr ⟨3, by decide, by decide, rfl⟩
  · exact .inl rfl
theorem keyText_0 : keyText key0 = ByteArray.empty := by
  unfold keyText; rw [if_neg (by decide)]
def tkLast (s : ByteArray) (l : List Int) : Int := if s = spc then 32 else l.getLastD 0
theorem tk_yes {s : ByteArray} {k : Int} (hl : runesL s ≠ []) (h1 : 1 ≤ k) (h3 : k ≤ 3) (hn : ∀ j, 1 ≤ j → j < k → keyText ⟨j, tkLast s (runesL s)⟩ ≠ s) (h : keyText ⟨k, tkLast s (runesL s)⟩ = s) : tkRest s (runesL s) = (⟨k, tkLast s (runesL s)⟩, true) := by
  unfold tkRest
  by_cases hs : s = spc
  · rw [if_pos hs]
    have hL : tkLast s (runesL s) = 32 := if_pos hs
    rw [hL] at hn h ⊢
    obtain rfl : k = 1 := by
      rcases Int.lt_or_le 1 k with h9 | h9
      · exact absurd (keyText_spc.trans hs.symm) (hn 1 (by decide) h9)
      · omega
    rfl
  · rw [if_neg hs, tk_hit hl hs h1 h3 h, if_pos h]
theorem tk_no {s : ByteArray} (hl : runesL s ≠ []) (hn : ∀ j, 1 ≤ j → j ≤ 3 → keyText ⟨j, tkLast s (runesL s)⟩ ≠ s) : tkRest s (runesL s) = (key0, false) := by
  unfold tkRest
  by_cases hs : s = spc
  · have hL : tkLast s (runesL s) = 32 := if_pos hs
    rw [hL] at hn
    exact absurd (keyText_spc.trans hs.symm) (hn 1 (by decide) (by decide))
  · rw [if_neg hs, if_neg]
    have hL : tkLast s (runesL s) = (runesL s).getLast hl := by
      unfold tkLast; rw [if_neg hs, List.getLastD_eq_getLast?, List.getLast?_eq_some_getLast hl]; rfl
    rcases tk_cand (s := s) hl with h | ⟨k, h1, h3, h⟩
    · rw [h, keyText_0]; rintro rfl; exact hl runesL_nil
    · rw [h, ← hL]; exact hn k h1 h3
theorem keyText_size (d : KeyD) : (keyText d).size ≤ 6 := by
  have h1 : (textOf [d.R]).size ≤ 4 := textOf_one d.R
  unfold keyText
  split
  · split
    · split
      · decide
      · omega
    · split
      · rw [ByteArray.size_append]; show 2 + _ ≤ 6; omega
      · split
        · rw [ByteArray.size_append]; show 2 + _ ≤ 6; omega
        · have : ∀ i, (keyNames.getD i ByteArray.empty).size ≤ 6 := by
            intro i
            by_cases hi : i < 13
            · have : ∀ i : Fin 13, (keyNames.getD i.1 ByteArray.empty).size ≤ 6 := by decide
              exact this ⟨i, hi⟩
            · rw [List.getD_eq_getElem?_getD, List.getElem?_eq_none (by show 13 ≤ i; omega)]; decide
          exact this _
  · decide
end Go.G6
namespace Go.G6
theorem findUp_range {q : Nat → Bool} {n : Nat} : ∀ (d k : Nat), d = n - k → findUp q n k < n ∧ -1 ≤ findUp q n k
  | 0, k, hd => by rw [findUp_end (by omega)]; omega
  | d + 1, k, hd => by
    rw [findUp_lt (by omega)]
    split
    · omega
    · exact findUp_range d (k + 1) (by omega)
theorem tkAt_range (s : ByteArray) : tkAt s < 13 ∧ -1 ≤ tkAt s := findUp_range 13 0 rfl
end Go.G6
namespace Go.G6
theorem tl_ne {a b : ByteArray} (h : a ≠ b) : (a.toList == b.toList) = false := by
  rw [beq_eq_false_iff_ne, Go.ByteArray.toList_eq, Go.ByteArray.toList_eq]
  exact fun e => h (Go.WideShapes.bytes_inj e)
theorem tl_nb {a b : ByteArray} (h : a ≠ b) : (a.toList != b.toList) = true := by rw [bne, tl_ne h]; rfl
theorem tl_eq (a : ByteArray) : (a.toList == a.toList) = true := beq_self_eq_true _
theorem tl_nn (a : ByteArray) : (a.toList != a.toList) = false := by rw [bne, tl_eq]; rfl
end Go.G6
namespace Go.G6
theorem runesOk_of {s : ByteArray} (h : runesL s ≠ []) : runesOk s = true := by
  unfold runesOk
  unfold runesL at h
  rcases hk : runesOf s with _ | l
  · rw [hk] at h; exact absurd rfl h
  · rfl
end Go.G6
namespace Go.G6
theorem runesL_size (s : ByteArray) : (runesL s).length ≤ s.size := by
  unfold runesL runesOf
  split
  · simp
  · rcases hk : runesR s.data.toList (s.size + 1) 0 [] with _ | r
    · simp
    · have := runesR_len _ _ _ _ hk (by simp) (by simp)
      rw [Array.length_toList] at this
      exact this
theorem ext2 (s : ByteArray) : (s.extract 0 2).toList = s.data.toList.take 2 := by
  rw [Go.ByteArray.toList_eq, ByteArray.data_extract, Array.toList_extract]
  simp
end Go.G6
