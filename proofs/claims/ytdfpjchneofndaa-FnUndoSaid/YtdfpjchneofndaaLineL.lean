/- What is put into a line can be cut again, and so on: the plain laws. -/
import Derived.Test.YtdfpjchneofndaaPutI
import Derived.Test.YtdfpjchneofndaaCutI
import Derived.Test.YtdfpjchneofndaaSwap
import Derived.Test.YtdfpjchneofndaaRunes
import Derived.Test.YtdfpjchneofndaaDrawM
set_option linter.unusedSimpArgs false
set_option linter.unusedVariables false
namespace Go.G6
open Go Go.RowKit
theorem lineOk_mk {ys : List Int} {at0 : Nat} (h : ∀ r ∈ ys, typed r = true) (hl : ys.length ≤ 400) (ha : at0 ≤ ys.length) : lineOk ⟨ys, (at0 : Int)⟩ = true := by
  unfold lineOk allTyped
  simp only [Bool.and_eq_true, decide_eq_true_eq, List.all_eq_true]
  exact ⟨⟨hl, h⟩, by omega, by omega⟩
theorem put_law {ys ts : List Int} {at0 : Nat} (hy : ∀ r ∈ ys, typed r = true) (ht : ∀ r ∈ ts, typed r = true) (hl : ys.length + ts.length ≤ 400) (ha : at0 ≤ ys.length) :
    linePutOk ⟨ys, (at0 : Int)⟩ ts = true ∧ linePut ⟨ys, (at0 : Int)⟩ ts = ⟨ys.take at0 ++ ts ++ ys.drop at0, ((at0 + ts.length : Nat) : Int)⟩ := by
  have e : putD ⟨ys, (at0 : Int)⟩ ts = ⟨ys.take at0 ++ ts ++ ys.drop at0, ((at0 + ts.length : Nat) : Int)⟩ := by
    simp [putD]
  have h1 : linePutOk ⟨ys, (at0 : Int)⟩ ts = true := by
    unfold linePutOk
    rw [lineOk_mk hy (by omega) ha, e, lineOk_mk]
    · rfl
    · intro r hr
      simp only [List.mem_append] at hr
      rcases hr with (hr | hr) | hr
      · exact hy r (List.mem_of_mem_take hr)
      · exact ht r hr
      · exact hy r (List.mem_of_mem_drop hr)
    · simp; omega
    · simp; omega
  exact ⟨h1, by rw [linePut, if_pos h1, e]⟩
theorem cut_law {ys ts : List Int} {at0 : Nat} (hy : ∀ r ∈ ys, typed r = true) (ht : ∀ r ∈ ts, typed r = true) (hl : ys.length + ts.length ≤ 400) (ha : at0 ≤ ys.length) :
    spanOk (linePut ⟨ys, (at0 : Int)⟩ ts) at0 ((at0 + ts.length : Nat) : Int) = true ∧ lineCut (linePut ⟨ys, (at0 : Int)⟩ ts) at0 ((at0 + ts.length : Nat) : Int) = ⟨ys, (at0 : Int)⟩ ∧ lineCut2 (linePut ⟨ys, (at0 : Int)⟩ ts) at0 ((at0 + ts.length : Nat) : Int) = ts := by
  obtain ⟨h1, h2⟩ := put_law hy ht hl ha
  have hok : lineOk (linePut ⟨ys, (at0 : Int)⟩ ts) = true := by
    unfold linePutOk at h1
    rw [Bool.and_eq_true] at h1
    rw [linePut, if_pos (by unfold linePutOk; rw [h1.1, h1.2]; rfl)]
    exact h1.2
  have hs : spanOk (linePut ⟨ys, (at0 : Int)⟩ ts) at0 ((at0 + ts.length : Nat) : Int) = true := by
    unfold spanOk
    rw [hok, h2]
    simp; omega
  have hta : (ys.take at0).length = at0 := by rw [List.length_take]; omega
  refine ⟨hs, ?_, ?_⟩
  · rw [lineCut, if_pos hs, h2]
    unfold cutD cutAt
    rw [if_pos (Int.le_refl _)]
    simp only [Int.toNat_natCast]
    congr 1
    · rw [List.append_assoc, List.take_append_of_le_length (by omega), List.take_take, Nat.min_self, ← List.append_assoc, List.drop_append_of_le_length (by rw [List.length_append]; omega), List.drop_of_length_le (by rw [List.length_append]; omega)]
      simp
    · omega
  · rw [lineCut2, if_pos hs, h2]
    simp only [Int.toNat_natCast]
    rw [List.take_append_of_le_length (by rw [List.length_append]; omega), List.take_of_length_le (by rw [List.length_append]; omega), List.drop_append_of_le_length (by omega), List.drop_of_length_le (by omega)]
    simp
def cvR (u : Bool) (r : Int) : Int := if letter r then convC u r else r
theorem caseR_get {how : Int} {u : Bool} (hu : ∀ f, upC how f = u) : ∀ (n : Nat) (f : Bool) (k : Nat) (xs : List Int) (j : Nat), (caseR how f n k xs).getD j 0 = if k ≤ j ∧ j < k + n ∧ j < xs.length then cvR u (xs.getD j 0) else xs.getD j 0 := by
  intro n
  induction n with
  | zero =>
    intro f k xs j
    show xs.getD j 0 = _
    rw [if_neg (by omega)]
  | succ n ih =>
    intro f k xs j
    unfold caseR
    split
    · rename_i hl
      rw [ih, hu]
      by_cases hj : j = k
      · subst hj
        rw [if_neg (by omega)]
        by_cases hx : j < xs.length
        · rw [if_pos ⟨Nat.le_refl _, by omega, hx⟩]
          unfold cvR
          rw [if_pos hl]
          simp [hx]
        · rw [if_neg (by omega)]
          simp [hx]
      · have e : (xs.set k (convC u (xs.getD k 0))).getD j 0 = xs.getD j 0 := by
          simp [List.getD, List.getElem?_set, Ne.symm hj]
        rw [e, List.length_set]
        by_cases h : k + 1 ≤ j ∧ j < k + 1 + n ∧ j < xs.length
        · rw [if_pos h, if_pos (by omega)]
        · rw [if_neg h, if_neg (by omega)]
    · rename_i hl
      rw [ih]
      by_cases hj : j = k
      · subst hj
        rw [if_neg (by omega)]
        by_cases hx : j < xs.length
        · rw [if_pos ⟨Nat.le_refl _, by omega, hx⟩]
          unfold cvR
          rw [if_neg hl]
        · rw [if_neg (by omega)]
      · by_cases h : k + 1 ≤ j ∧ j < k + 1 + n ∧ j < xs.length
        · rw [if_pos h, if_pos (by omega)]
        · rw [if_neg h, if_neg (by omega)]
theorem ext_getD {xs ys : List Int} (hl : xs.length = ys.length) (h : ∀ j, j < xs.length → xs.getD j 0 = ys.getD j 0) : xs = ys := by
  apply List.ext_getElem hl
  intro j h1 h2
  have := h j h1
  simpa [h1, h2] using this
theorem cv_up (r : Int) : cvR true (cvR true r) = cvR true r := by
  unfold cvR convC letter inB; grind
theorem cv_low (r : Int) : cvR false (cvR true r) = cvR false r := by
  unfold cvR convC letter inB; grind
theorem cv_typed {u : Bool} {r : Int} (h : typed r = true) : typed (cvR u r) = true := by
  by_cases hl : letter r = true
  · have h1 : (97 ≤ r ∧ r ≤ 122) ∨ (65 ≤ r ∧ r ≤ 90) := by
      unfold letter inB at hl; simp at hl; omega
    unfold cvR
    rw [if_pos hl]
    apply typed_in
    left
    unfold convC inB
    cases u <;> simp <;> split <;> omega
  · unfold cvR; rw [if_neg hl]; exact h
theorem up1 : ∀ f, upC 1 f = true := by decide
theorem up0 : ∀ f, upC 0 f = false := by decide
theorem caseOk_mk {d : LineD} {x y : Nat} {how : Int} (h : lineOk d = true) (hxy : x ≤ y) (hy : y ≤ d.Text.length) (hh : how = 0 ∨ how = 1) : caseOk d x y how = true := by
  unfold caseOk inLineB
  rw [h]
  simp; omega
theorem lineCase_ok {ys : List Int} {at0 : Int} {x y : Nat} {how : Int} {u : Bool} (hu : ∀ f, upC how f = u) (h : lineOk ⟨ys, at0⟩ = true) (hxy : x ≤ y) (hy : y ≤ ys.length) (hh : how = 0 ∨ how = 1) :
    lineOk (lineCase ⟨ys, at0⟩ x y how) = true ∧ (lineCase ⟨ys, at0⟩ x y how).Text.length = ys.length ∧ (lineCase ⟨ys, at0⟩ x y how).At = (y : Int) ∧ ∀ j, (lineCase ⟨ys, at0⟩ x y how).Text.getD j 0 = if x ≤ j ∧ j < y then cvR u (ys.getD j 0) else ys.getD j 0 := by
  have hq := lineOk_bounds h
  have ht : ∀ r ∈ ys, typed r = true := by
    simp [lineOk, allTyped] at h; exact h.1.2
  have e : lineCase ⟨ys, at0⟩ x y how = ⟨caseR how true (y - x) x ys, (y : Int)⟩ := by
    rw [lineCase, if_pos (caseOk_mk h hxy hy hh)]; simp
  have hlen : (caseR how true (y - x) x ys).length = ys.length := caseR_len _ _ _ _ _
  have hget : ∀ j, (caseR how true (y - x) x ys).getD j 0 = if x ≤ j ∧ j < y then cvR u (ys.getD j 0) else ys.getD j 0 := by
    intro j
    rw [caseR_get hu]
    by_cases h : x ≤ j ∧ j < y
    · rw [if_pos h, if_pos (by omega)]
    · rw [if_neg h, if_neg (by omega)]
  rw [e]
  refine ⟨?_, hlen, rfl, hget⟩
  apply lineOk_mk
  · intro r hr
    obtain ⟨j, hj, rfl⟩ := List.getElem_of_mem hr
    have := hget j
    have e2 : (caseR how true (y - x) x ys).getD j 0 = (caseR how true (y - x) x ys)[j] := by simp [hj]
    have hj2 : j < ys.length := by omega
    have e3 : ys.getD j 0 = ys[j] := by simp [hj2]
    rw [e2, e3] at this
    rw [this]
    split
    · exact cv_typed (ht _ (List.getElem_mem hj2))
    · exact ht _ (List.getElem_mem hj2)
  · rw [hlen]; exact hq.1
  · rw [hlen]; exact hy
theorem case_law {ys : List Int} {at0 x y : Nat} (h : lineOk ⟨ys, (at0 : Int)⟩ = true) (hxy : x ≤ y) (hy : y ≤ ys.length) :
    lineOk (lineCase ⟨ys, (at0 : Int)⟩ x y 1) = true ∧ (lineCase ⟨ys, (at0 : Int)⟩ x y 1).At = (y : Int) ∧ (lineCase ⟨ys, (at0 : Int)⟩ x y 1).Text.length = ys.length ∧
    (lineCase ⟨ys, (at0 : Int)⟩ x y 1).Text = (lineCase (lineCase ⟨ys, (at0 : Int)⟩ x y 1) x y 1).Text ∧ (lineCase (lineCase ⟨ys, (at0 : Int)⟩ x y 1) x y 0).Text = (lineCase ⟨ys, (at0 : Int)⟩ x y 0).Text := by
  obtain ⟨a1, a2, a3, a4⟩ := lineCase_ok up1 h hxy hy (.inr rfl)
  obtain ⟨c1, c2, c3, c4⟩ := lineCase_ok up0 h hxy hy (.inl rfl)
  obtain ⟨U, hU⟩ : ∃ U, U = lineCase ⟨ys, (at0 : Int)⟩ x y 1 := ⟨_, rfl⟩
  rw [← hU] at a1 a2 a3 a4 ⊢
  obtain ⟨ut, ua⟩ := U
  have a2' : ut.length = ys.length := a2
  obtain ⟨b1, b2, b3, b4⟩ := lineCase_ok (at0 := ua) up1 a1 hxy (by omega) (.inr rfl)
  obtain ⟨d1, d2, d3, d4⟩ := lineCase_ok (at0 := ua) up0 a1 hxy (by omega) (.inl rfl)
  have a4' : ∀ j, ut.getD j 0 = if x ≤ j ∧ j < y then cvR true (ys.getD j 0) else ys.getD j 0 := a4
  refine ⟨a1, a3, a2, ?_, ?_⟩
  · apply ext_getD (by rw [b2])
    intro j _
    rw [b4]
    show ut.getD j 0 = _
    by_cases h : x ≤ j ∧ j < y
    · rw [if_pos h, a4' j, if_pos h, cv_up]
    · rw [if_neg h]
  · apply ext_getD (by rw [d2, c2, a2'])
    intro j _
    rw [d4, c4]
    by_cases h : x ≤ j ∧ j < y
    · rw [if_pos h, if_pos h, a4' j, if_pos h, cv_low]
    · rw [if_neg h, if_neg h, a4' j, if_neg h]
theorem typed_rune {r : Int} (h : typed r = true) : runeOk r = true ∧ 0 ≤ r ∧ r ≤ 1114111 := by
  unfold typed printable at h
  unfold runeOk
  simp at h ⊢
  omega
theorem rd_rune {r : Int} (h : typed r = true) (z : List UInt8) : 1 ≤ (runeBytes r).length ∧ rdL (runeBytes r ++ z) = (runeBytes r).length ∧ rdR (runeBytes r ++ z) = r := by
  obtain ⟨hk, h0, h1⟩ := typed_rune h
  have key : ∀ s, 1 ≤ s → (runeBytes r).length = s → rdVal s (runeBytes r ++ z) = r → 1 ≤ (runeBytes r).length ∧ rdL (runeBytes r ++ z) = (runeBytes r).length ∧ rdR (runeBytes r ++ z) = r := by
    intro s hs1 hs hv
    have hh : rdHit s (runeBytes r ++ z) = true := by
      unfold rdHit
      rw [hv, beq_iff_eq, List.take_append_of_le_length (by omega), List.take_of_length_le (by omega)]
    have hl : s ≤ (runeBytes r ++ z).length := by rw [List.length_append]; omega
    have hn := rd_key hs1 hl hh
    have hok : rdOk (runeBytes r ++ z) = true := by
      unfold rdOk
      rw [hn, hh]
      simp; omega
    refine ⟨by omega, ?_, ?_⟩
    · rw [rdL, if_pos hok, hn, hs]
    · rw [rdR, if_pos hok, hn, hv]
  by_cases c1 : r < 128
  · have e : runeBytes r = [b8 r] := by rw [runeBytes, if_pos hk, if_pos c1]
    apply key 1 (by omega) (by rw [e]; rfl)
    rw [e]
    show bI (b8 r :: z) 0 - rdSub 1 = r
    have : bI (b8 r :: z) 0 = r := b8_val h0 (by omega)
    rw [this]; simp [rdSub]
  by_cases c2 : r < 2048
  · have e : runeBytes r = [b8 (192 + r / 64), b8 (128 + r % 64)] := by rw [runeBytes, if_pos hk, if_neg c1, if_pos c2]
    apply key 2 (by omega) (by rw [e]; rfl)
    rw [e]
    show (bI (b8 (192 + r / 64) :: b8 (128 + r % 64) :: z) 0 - rdSub 2) * 64 + bI (b8 (192 + r / 64) :: b8 (128 + r % 64) :: z) 1 - 128 = r
    have q0 : bI (b8 (192 + r / 64) :: b8 (128 + r % 64) :: z) 0 = 192 + r / 64 := b8_val (by omega) (by omega)
    have q1 : bI (b8 (192 + r / 64) :: b8 (128 + r % 64) :: z) 1 = 128 + r % 64 := b8_val (by omega) (by omega)
    rw [q0, q1]; simp [rdSub]; omega
  by_cases c3 : r < 65536
  · have e : runeBytes r = [b8 (224 + r / 4096), b8 (128 + r / 64 % 64), b8 (128 + r % 64)] := by rw [runeBytes, if_pos hk, if_neg c1, if_neg c2, if_pos c3]
    apply key 3 (by omega) (by rw [e]; rfl)
    rw [e]
    generalize hX : ([b8 (224 + r / 4096), b8 (128 + r / 64 % 64), b8 (128 + r % 64)] ++ z) = X
    show ((bI X 0 - rdSub 3) * 64 + bI X 1 - 128) * 64 + bI X 2 - 128 = r
    have q0 : bI X 0 = 224 + r / 4096 := by rw [← hX]; exact b8_val (by omega) (by omega)
    have q1 : bI X 1 = 128 + r / 64 % 64 := by rw [← hX]; exact b8_val (by omega) (by omega)
    have q2 : bI X 2 = 128 + r % 64 := by rw [← hX]; exact b8_val (by omega) (by omega)
    rw [q0, q1, q2]; simp [rdSub]; omega
  · have e : runeBytes r = [b8 (240 + r / 262144), b8 (128 + r / 4096 % 64), b8 (128 + r / 64 % 64), b8 (128 + r % 64)] := by rw [runeBytes, if_pos hk, if_neg c1, if_neg c2, if_neg c3]
    apply key 4 (by omega) (by rw [e]; rfl)
    rw [e]
    generalize hX : ([b8 (240 + r / 262144), b8 (128 + r / 4096 % 64), b8 (128 + r / 64 % 64), b8 (128 + r % 64)] ++ z) = X
    show (((bI X 0 - rdSub 4) * 64 + bI X 1 - 128) * 64 + bI X 2 - 128) * 64 + bI X 3 - 128 = r
    have q0 : bI X 0 = 240 + r / 262144 := by rw [← hX]; exact b8_val (by omega) (by omega)
    have q1 : bI X 1 = 128 + r / 4096 % 64 := by rw [← hX]; exact b8_val (by omega) (by omega)
    have q2 : bI X 2 = 128 + r / 64 % 64 := by rw [← hX]; exact b8_val (by omega) (by omega)
    have q3 : bI X 3 = 128 + r % 64 := by rw [← hX]; exact b8_val (by omega) (by omega)
    rw [q0, q1, q2, q3]; simp [rdSub]; omega
theorem runesR_text : ∀ (zs : List Int) (xs : List UInt8) (n k : Nat) (acc : List Int), (∀ r ∈ zs, typed r = true) → xs.drop k = textList zs → k ≤ xs.length → zs.length < n → runesR xs n k acc = some (acc ++ zs)
  | [], xs, n, k, acc, _, h, hk, _ => by
    have h2 : (xs.drop k).length = 0 := by rw [h]; rfl
    rw [List.length_drop] at h2
    rw [runesR_end (by omega)]; simp
  | r :: zs, xs, 0, k, acc, _, _, _, hn => by simp at hn
  | r :: zs, xs, n + 1, k, acc, ht, h, hk, hn => by
    have hr := ht r (by simp)
    have e : xs.drop k = runeBytes r ++ textList zs := by rw [h]; rfl
    obtain ⟨g1, g2, g3⟩ := rd_rune hr (textList zs)
    rw [← e] at g2 g3
    have hlen : (xs.drop k).length = (runeBytes r).length + (textList zs).length := by rw [e, List.length_append]
    rw [List.length_drop] at hlen
    rw [runesR_go (by omega) (by omega), g2, g3]
    rw [runesR_text zs xs n (k + (runeBytes r).length) (acc ++ [r]) (fun q hq => ht q (by simp [hq])) ?_ (by omega) (by simp at hn; omega)]
    · simp
    · rw [← List.drop_drop, e, List.drop_append_of_le_length (Nat.le_refl _), List.drop_of_length_le (Nat.le_refl _)]; simp
theorem text_law {ys : List Int} {at0 : Nat} (h : lineOk ⟨ys, (at0 : Int)⟩ = true) : lineOfOk (lineText ⟨ys, (at0 : Int)⟩) = true ∧ (lineOf (lineText ⟨ys, (at0 : Int)⟩)).Text = ys := by
  have hq := lineOk_bounds h
  have ht : ∀ r ∈ ys, typed r = true := by
    simp [lineOk, allTyped] at h; exact h.1.2
  have hq1 : ys.length ≤ 400 := hq.1
  have e : lineText ⟨ys, (at0 : Int)⟩ = textOf ys := by rw [lineText, if_pos h]
  have hs : (textOf ys).size = (textList ys).length := by simp [textOf, ByteArray.size]
  have hlen := textList_len ys
  have hge : ys.length ≤ (textList ys).length := by
    clear hlen hs e h hq hq1
    induction ys with
    | nil => simp
    | cons r zs ih =>
      have := (rd_rune (ht r (by simp)) []).1
      have h2 := ih (fun q hq => ht q (by simp [hq]))
      show zs.length + 1 ≤ (runeBytes r ++ textList zs).length
      rw [List.length_append]; omega
  have hr : runesOf (textOf ys) = some ys := by
    unfold runesOf
    rw [if_neg (by omega)]
    have := runesR_text ys (textOf ys).data.toList ((textOf ys).size + 1) 0 [] ht (by simp [textOf]) (Nat.zero_le _) (by omega)
    simpa using this
  have hL : runesL (textOf ys) = ys := by unfold runesL; rw [hr]; rfl
  have hk : lineOfOk (textOf ys) = true := by
    unfold lineOfOk runesOk
    rw [hr, hL, lineOk_mk ht hq1 (Nat.le_refl _)]; rfl
  rw [e]
  exact ⟨hk, by rw [lineOf, if_pos hk, hL]⟩
theorem lineText_max (d : LineD) : (lineText d).size ≤ maxLen := by
  unfold lineText
  split
  · rename_i h
    have hq := lineOk_bounds h
    have hs : (textOf d.Text).size = (textList d.Text).length := by simp [textOf, ByteArray.size]
    have := textList_len d.Text
    rw [hs]; unfold maxLen; omega
  · simp [maxLen]
end Go.G6
