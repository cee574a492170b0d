/- Lists of lines to go back to (printed by genundo.py). -/
import Derived.Test.YtdfpjchneofndaaCopy
import Derived.Test.YtdfpjchneofndaaRune
import Derived.Test.YtdfpjchneofndaaLst
import Derived.Test.YtdfpjchneofndaaLate
import Derived.Test.YtdfpjchneofndaaSame
import Derived.Lib.MinMax
set_option linter.unusedSimpArgs false
set_option linter.unusedVariables false
namespace Go.G6
open Go.RowKit
def undoOk (d : UndoD) : Bool := d.Lines.all lineOk && decide (d.Lines.length ≤ 20)
def undo0 : UndoD := { Lines := [] }
theorem nL_mem_le {α : Type} (n : α → Nat) (xs : List α) (k : Nat) (h : k < xs.length) : n xs[k] ≤ nL n xs := by
  have := nL_take_succ n xs k h
  have := nL_take_le n xs (k + 1)
  omega
theorem lineOk_len {l : LineD} (h : lineOk l = true) : l.Text.length ≤ 400 := by simp [lineOk] at h; omega
theorem undoOk_bounds {d : UndoD} (h : undoOk d = true) : d.Lines.length ≤ 20 ∧ Cnt.cnt d ≤ 16777216 ∧ ∀ p ∈ d.Lines, p.Text.length ≤ 400 := by
  simp only [undoOk, Bool.and_eq_true, decide_eq_true_eq, List.all_eq_true] at h
  have h4 : ∀ p ∈ d.Lines, p.Text.length ≤ 400 := fun p hp => lineOk_len (h.1 p hp)
  refine ⟨h.2, ?_, h4⟩
  have h5 : ∀ l : List LineD, (∀ p ∈ l, p.Text.length ≤ 400) → nL Cnt.cnt l ≤ 400 * l.length := by
    intro l
    induction l with
    | nil => simp [nL]
    | cons p l ih =>
      intro hl
      have h1 := ih fun q hq => hl q (List.mem_cons_of_mem _ hq)
      have h2 := hl p (by simp)
      have h3 : Cnt.cnt p = p.Text.length := cnt_ints _
      have h4 : nL Cnt.cnt (p :: l) = Cnt.cnt p + nL Cnt.cnt l := by simp [nL]
      rw [List.length_cons]; omega
  have := h5 d.Lines h4
  show d.Lines.length + nL Cnt.cnt d.Lines ≤ _
  omega
/-- What is put behind. -/
def undoNew (d : UndoD) (l : LineD) : List LineD := if 20 < d.Lines.length + 1 then (d.Lines ++ [l]).drop 1 else d.Lines ++ [l]
def sameLast (d : UndoD) (l : LineD) : Bool := match d.Lines.getLast? with | some x => decide (x.Text = l.Text) | none => false
def undoPutOk (d : UndoD) (l : LineD) : Bool := undoOk d && lineOk l
def undoPut (d : UndoD) (l : LineD) : UndoD := if undoPutOk d l then (if sameLast d l then d else { Lines := undoNew d l }) else undo0
theorem undoNew_cnt (d : UndoD) (l : LineD) : Cnt.cnt (undoNew d l) ≤ Cnt.cnt d.Lines + 1 + Cnt.cnt l := by
  have h0 : Cnt.cnt (d.Lines ++ [l]) = Cnt.cnt d.Lines + 1 + Cnt.cnt l := by rw [cnt_list, cnt_list, nL_append, nL_one, List.length_append]; simp; omega
  have h1 : ∀ xs : List LineD, Cnt.cnt (xs.drop 1) ≤ Cnt.cnt xs := by
    intro xs
    cases xs with
    | nil => simp
    | cons x xs => rw [cnt_list, cnt_list]; simp [nL]; omega
  unfold undoNew
  split
  · rw [← h0]; exact h1 _
  · rw [h0]; exact Nat.le_refl _
theorem undoPut_top (d : UndoD) (l : LineD) : 1 + (undoPut d l).nkv ≤ topK := by
  have h3 := nkv_le_Undo (undoPut d l)
  have h4 : Cnt.cnt (undoPut d l) ≤ 16778000 := by
    cases hk : undoPutOk d l
    · simp [undoPut, hk, undo0]; decide
    · simp only [undoPutOk, Bool.and_eq_true] at hk
      have h2 := (undoOk_bounds hk.1).2.1
      have h5 := lineOk_len hk.2
      have h6 : Cnt.cnt l = l.Text.length := cnt_ints _
      have h7 : Cnt.cnt d = Cnt.cnt d.Lines := rfl
      simp only [undoPut, undoPutOk, hk.1, hk.2, Bool.and_self, if_true]
      split
      · omega
      · have := undoNew_cnt d l
        show Cnt.cnt (undoNew d l) ≤ _
        omega
  unfold topK; omega
def undoTakeOk (d : UndoD) : Bool := undoOk d && decide (d.Lines.length ≠ 0)
def undoTakeU (d : UndoD) : UndoD := if undoTakeOk d then { Lines := d.Lines.take (d.Lines.length - 1) } else undo0
def undoTakeL (d : UndoD) : LineD := if undoTakeOk d then (d.Lines.getLast?).getD line0 else line0
theorem undoTake_at {d : UndoD} {m : Nat} (hk : undoOk d = true) (hm : d.Lines.length = m + 1) : undoTakeOk d = true ∧ undoTakeU d = { Lines := d.Lines.take m } ∧ undoTakeL d = d.Lines[m]'(by omega) := by
  have h1 : undoTakeOk d = true := by simp [undoTakeOk, hk, hm]
  refine ⟨h1, by simp [undoTakeU, h1, hm], ?_⟩
  simp only [undoTakeL, h1, if_true]
  have e : d.Lines[d.Lines.length - 1]? = some (d.Lines[m]'(by omega)) := by
    rw [show d.Lines.length - 1 = m by omega]
    exact List.getElem?_eq_getElem _
  rw [List.getLast?_eq_getElem?, e]
  rfl
theorem undoTake_top1 (d : UndoD) : 1 + (undoTakeU d).nkv + (undoTakeL d).nkv ≤ topK := by
  have h1 := nkv_le_Undo (undoTakeU d)
  have h2 := nkv_le_Line (undoTakeL d)
  have h3 : Cnt.cnt (undoTakeU d) ≤ 16777216 ∧ Cnt.cnt (undoTakeL d) ≤ 400 := by
    cases hk : undoTakeOk d
    · simp [undoTakeU, undoTakeL, hk, undo0, line0]; decide
    · simp only [undoTakeOk, Bool.and_eq_true, decide_eq_true_eq] at hk
      obtain ⟨m, hm⟩ : ∃ m, d.Lines.length = m + 1 := ⟨d.Lines.length - 1, by omega⟩
      obtain ⟨_, hu, hl⟩ := undoTake_at hk.1 hm
      have hq := undoOk_bounds hk.1
      rw [hu, hl]
      constructor
      · have h1 : d.Lines.length + nL Cnt.cnt d.Lines ≤ 16777216 := hq.2.1
        have h2 := nL_take_le Cnt.cnt d.Lines m
        show (d.Lines.take m).length + nL Cnt.cnt (d.Lines.take m) ≤ _
        rw [List.length_take]; omega
      · have h6 : Cnt.cnt (d.Lines[m]'(by omega)) = (d.Lines[m]'(by omega)).Text.length := cnt_ints _
        rw [h6]; exact hq.2.2 _ (List.getElem_mem _)
  unfold topK; omega
theorem undoTake_top0 (d : UndoD) : 1 + (undoTakeU d).nkv ≤ topK := by
  have := undoTake_top1 d
  omega
theorem sameLast_at {d : UndoD} {l : LineD} (h : 0 < d.Lines.length) : sameLast d l = decide (d.Lines[d.Lines.length - 1].Text = l.Text) := by
  unfold sameLast
  rw [List.getLast?_eq_getElem?, List.getElem?_eq_getElem (by omega)]
theorem sameLast_nil {d : UndoD} {l : LineD} (h : d.Lines.length = 0) : sameLast d l = false := by
  have : d.Lines = [] := List.eq_nil_of_length_eq_zero h
  simp [sameLast, this]
end Go.G6
namespace Go.Proofs.Ytdfpjchneofndaa
open Go.RowKit Go.G6
set_option maxHeartbeats 1600000
set_option maxRecDepth 10000
theorem info_Line : (Try.prog.info? 81).map (fun i => (i.zero, i.size, i.bytes)) = some (some (.agg #[.slice none 0 0, .int .i64 0]), 2, 32) := by kernel_rfl
theorem i_copyLine {w : World} {bs : List Nat} {cs : List Value} {d : LineD} (h : Rep.pt w bs cs d) (hn : d.Text.length ≤ 16777216) :
    Calls Try.prog 128 #[.agg cs.toArray] w fun e w' => ∃ v bs', e = .returned (.agg #[v, .int .i64 d.At]) ∧ OwnL w.heap.size w' 3 v bs' d.Text ∧ Below w.heap.size w w' := by
  obtain ⟨a0, l0, k0, rfl, h0, h1⟩ := open_Line h
  obtain rfl := h0.len_eq
  obtain ⟨j0, hj, hy0, hy1, hy2⟩ := info_parts info_int
  clear h
  go_enter Try.func128, Try.ntmps128
  go_wp2_with fail
  have hw0 : Below w.heap.size w ((w.alloc (.cells #[.slice a0 d.Text.length k0, .int .i64 d.At] 81)).alloc (.cells #[.slice none 0 0, .int .i64 0] 81)) := ((Below.refl _ _).alloc (Nat.le_refl _) _).alloc (by simp) _
  have HB1 : Bx ((w.alloc (.cells #[.slice a0 d.Text.length k0, .int .i64 d.At] 81)).alloc (.cells #[.slice none 0 0, .int .i64 0] 81)) (w.heap.size + 1) #[.slice none 0 0, .int .i64 0] := Bx.new _ _ _ (by simp)
  have d0 : ((w.alloc (.cells #[.slice a0 d.Text.length k0, .int .i64 d.At] 81)).alloc (.cells #[.slice none 0 0, .int .i64 0] 81)).cell? ⟨w.heap.size, 0, none⟩ = some (.slice a0 d.Text.length k0) := ((Bx.new w #[.slice a0 d.Text.length k0, .int .i64 d.At] 81 rfl).alloc (by simp) _).out 0
  have d1 : ((w.alloc (.cells #[.slice a0 d.Text.length k0, .int .i64 d.At] 81)).alloc (.cells #[.slice none 0 0, .int .i64 0] 81)).cell? ⟨w.heap.size, 1, none⟩ = some (.int .i64 d.At) := ((Bx.new w #[.slice a0 d.Text.length k0, .int .i64 d.At] 81 rfl).alloc (by simp) _).out 1
  refine late_start (fun W => Tch [] ((w.alloc (.cells #[.slice a0 d.Text.length k0, .int .i64 d.At] 81)).alloc (.cells #[.slice none 0 0, .int .i64 0] 81)) W ∧ W.cell? ⟨w.heap.size, 0, none⟩ = some (.slice a0 d.Text.length k0) ∧ W.cell? ⟨w.heap.size, 1, none⟩ = some (.int .i64 d.At)) 6 (by kernel_rfl) ?_ (fun hS => ?_)
  · exact ⟨(Tch.refl _ _).drew, d0, d1⟩
  refine late_take (i := 0) (v := ?_) rfl (by kernel_rfl) (fun _ _ _ h => h) (by rfl) ?_ (by assumption) ?_
  rotate_left
  · (intro w9 hS9; (try dsimp only at hS9); (try go_split_ands); go_simp <;> with_reducible rfl)
  try simp only [Act.put, List.setIfInBounds_toArray, List.set_cons_zero, List.set_cons_succ]
  refine late_take (i := 1) (v := ?_) rfl (by kernel_rfl) (fun _ _ _ h => h) (by rfl) ?_ (by assumption) ?_
  rotate_left
  · (intro w9 hS9; (try dsimp only at hS9); (try go_split_ands); go_simp <;> with_reducible rfl)
  try simp only [Act.put, List.setIfInBounds_toArray, List.set_cons_zero, List.set_cons_succ]
  refine late_take (i := 3) (v := ?_) rfl (by kernel_rfl) (fun _ _ _ h => h) (by rfl) ?_ (by assumption) ?_
  rotate_left
  · (intro w9 hS9; (try dsimp only at hS9); (try go_split_ands); go_simp <;> with_reducible rfl)
  try simp only [Act.put, List.setIfInBounds_toArray, List.set_cons_zero, List.set_cons_succ]
  refine late_take (i := 4) (v := ?_) rfl (by kernel_rfl) (fun _ _ _ h => h) (by rfl) ?_ (by assumption) ?_
  rotate_left
  · (intro w9 hS9; (try dsimp only at hS9); (try go_split_ands); go_simp <;> with_reducible rfl)
  try simp only [Act.put, List.setIfInBounds_toArray, List.set_cons_zero, List.set_cons_succ]
  refine late_one (i := 2) rfl (by kernel_rfl) (fun K9 hK9 => ?_)
  go_simp
  refine (i_copyInts (h0.grow hw0.drew) hn).mono ?_
  rintro e w1 ⟨v, b1, rfl, hO, hb⟩
  obtain ⟨p, c, rfl⟩ := hO.slice
  have HO := hid hO
  have hb1 : Below w.heap.size w w1 := hw0.drew.trans (hb.mono (by simp; try omega))
  go_wp2_with fail
  refine hK9.out _ _ (fun _ => ?_) (fun hS9 => ?_)
  · (try dsimp only); exact ⟨keepc hS.1 (Tch.of_below (bs := []) hb) (fun x hx => by cases hx), cellc (Tch.of_below (bs := []) hb) hS.2.1 (by simp), cellc (Tch.of_below (bs := []) hb) hS.2.2 (by simp)⟩
  replace hS := hS9 (by decide)
  clear hK9 K9 hS9
  try simp only [Act.put, List.setIfInBounds_toArray, List.set_cons_zero, List.set_cons_succ]
  refine late_take (i := 5) (v := ?_) rfl (by kernel_rfl) (fun _ _ _ h => h) (by rfl) ?_ (by assumption) ?_
  rotate_left
  · (intro w9 hS9; (try dsimp only at hS9); (try go_split_ands); go_simp <;> with_reducible rfl)
  try simp only [Act.put, List.setIfInBounds_toArray, List.set_cons_zero, List.set_cons_succ]
  refine late_one (i := 6) rfl (by kernel_rfl) (fun K9 hK9 => ?_)
  have HX := HB1.keep (hS.1.block (w.heap.size + 1) (by simp) (by simp))
  have hXo := HX.out; have hXf := HX.fr
  have HB := hid hb1
  clear hS hO
  go_simp
  refine hK9.out _ _ (fun h => absurd rfl h) (fun _ => ?_)
  clear hK9 K9
  try simp only [Act.put, List.setIfInBounds_toArray, List.set_cons_zero, List.set_cons_succ]
  refine late_done (by kernel_rfl) ?_ _
  go_wp2
  refine bodyPost_ret (v := .agg #[.slice p d.Text.length c, .int .i64 d.At]) (by simp [results, Try.results128, go_sem, hXo]) rfl ?_
  exact ⟨_, b1, rfl, ((HO.out.setLow (by first | (simp; done) | (simp; omega)) _).setLow (by first | (simp; done) | (simp; omega)) _).mono (by first | (simp; done) | (simp; omega) | omega), (HB.out.setCell (by simp) _).setCell (by simp) _⟩
theorem s_l15Line {w : World} {bs : List Nat} {cs : List Value} {d : LineD} (h : Rep.pt w bs cs d) (hn : d.Text.length ≤ 16777216) :
    Calls Try.prog 168 #[.agg cs.toArray] w fun e w' => ∃ v bs', e = .returned (.agg #[v, .int .i64 d.At]) ∧ OwnL w.heap.size w' 3 v bs' d.Text ∧ Below w.heap.size w w' := by
  obtain ⟨a0, l0, k0, rfl, h0, h1⟩ := open_Line h
  obtain rfl := h0.len_eq
  obtain ⟨j0, hj, hy0, hy1, hy2⟩ := info_parts info_int
  clear h
  go_enter Try.func168, Try.ntmps168
  go_wp2_with fail
  have hw0 : Below w.heap.size w ((w.alloc (.cells #[.slice a0 d.Text.length k0, .int .i64 d.At] 81)).alloc (.cells #[.slice none 0 0, .int .i64 0] 81)) := ((Below.refl _ _).alloc (Nat.le_refl _) _).alloc (by simp) _
  have HB1 : Bx ((w.alloc (.cells #[.slice a0 d.Text.length k0, .int .i64 d.At] 81)).alloc (.cells #[.slice none 0 0, .int .i64 0] 81)) (w.heap.size + 1) #[.slice none 0 0, .int .i64 0] := Bx.new _ _ _ (by simp)
  have d0 : ((w.alloc (.cells #[.slice a0 d.Text.length k0, .int .i64 d.At] 81)).alloc (.cells #[.slice none 0 0, .int .i64 0] 81)).cell? ⟨w.heap.size, 0, none⟩ = some (.slice a0 d.Text.length k0) := ((Bx.new w #[.slice a0 d.Text.length k0, .int .i64 d.At] 81 rfl).alloc (by simp) _).out 0
  have d1 : ((w.alloc (.cells #[.slice a0 d.Text.length k0, .int .i64 d.At] 81)).alloc (.cells #[.slice none 0 0, .int .i64 0] 81)).cell? ⟨w.heap.size, 1, none⟩ = some (.int .i64 d.At) := ((Bx.new w #[.slice a0 d.Text.length k0, .int .i64 d.At] 81 rfl).alloc (by simp) _).out 1
  refine late_start (fun W => Tch [] ((w.alloc (.cells #[.slice a0 d.Text.length k0, .int .i64 d.At] 81)).alloc (.cells #[.slice none 0 0, .int .i64 0] 81)) W ∧ W.cell? ⟨w.heap.size, 0, none⟩ = some (.slice a0 d.Text.length k0) ∧ W.cell? ⟨w.heap.size, 1, none⟩ = some (.int .i64 d.At)) 7 (by kernel_rfl) ?_ (fun hS => ?_)
  · exact ⟨(Tch.refl _ _).drew, d0, d1⟩
  refine late_take (i := 1) (v := ?_) rfl (by kernel_rfl) (fun _ _ _ h => h) (by rfl) ?_ (by assumption) ?_
  rotate_left
  · (intro w9 hS9; (try dsimp only at hS9); (try go_split_ands); go_simp <;> with_reducible rfl)
  try simp only [Act.put, List.setIfInBounds_toArray, List.set_cons_zero, List.set_cons_succ]
  refine late_take (i := 2) (v := ?_) rfl (by kernel_rfl) (fun _ _ _ h => h) (by rfl) ?_ (by assumption) ?_
  rotate_left
  · (intro w9 hS9; (try dsimp only at hS9); (try go_split_ands); go_simp <;> with_reducible rfl)
  try simp only [Act.put, List.setIfInBounds_toArray, List.set_cons_zero, List.set_cons_succ]
  refine late_take (i := 4) (v := ?_) rfl (by kernel_rfl) (fun _ _ _ h => h) (by rfl) ?_ (by assumption) ?_
  rotate_left
  · (intro w9 hS9; (try dsimp only at hS9); (try go_split_ands); go_simp <;> with_reducible rfl)
  try simp only [Act.put, List.setIfInBounds_toArray, List.set_cons_zero, List.set_cons_succ]
  refine late_take (i := 5) (v := ?_) rfl (by kernel_rfl) (fun _ _ _ h => h) (by rfl) ?_ (by assumption) ?_
  rotate_left
  · (intro w9 hS9; (try dsimp only at hS9); (try go_split_ands); go_simp <;> with_reducible rfl)
  try simp only [Act.put, List.setIfInBounds_toArray, List.set_cons_zero, List.set_cons_succ]
  refine late_one (i := 0) rfl (by kernel_rfl) (fun K9 hK9 => ?_)
  go_simp
  refine hK9.out _ _ (fun _ => ?_) (fun hS9 => ?_)
  · (try dsimp only); exact ⟨keepc hS.1 ((Tch.refl [] _).alloc _) (fun x hx => by cases hx), cellc ((Tch.refl [] _).alloc _) hS.2.1 (by simp), cellc ((Tch.refl [] _).alloc _) hS.2.2 (by simp)⟩
  replace hS := hS9 (by decide)
  clear hK9 K9 hS9
  try simp only [Act.put, List.setIfInBounds_toArray, List.set_cons_zero, List.set_cons_succ]
  refine late_one (i := 3) rfl (by kernel_rfl) (fun K9 hK9 => ?_)
  have hw : Below w.heap.size w _ := (hw0.alloc (by simp; omega) (.cells #[] 3)).drew
  refine step_append rfl _ _ 65 rfl 3 j0 (.int .i64 0) 8 Try.underlying65 hj hy0 hy1 hy2 rfl (lo := w.heap.size + 2) (bs := [w.heap.size + 2]) (xs := ([] : List Int)) rfl ?own (b2 := []) (ys := d.Text) rfl ?src List.nodup_nil ?f2 ?q2 ?q3 ?q4 ?_
  case own => exact OwnL.drew (ownL_empty (α := Int) (by simp) (by simp))
  case src => exact (h0.grow hw).src
  case f2 => simp
  case q2 => simp; omega
  case q3 => simp; omega
  case q4 => simp; try omega
  intro p c w1 b1 hO hT1 hm1
  try simp only [List.nil_append] at hO
  try simp only [List.length_nil, Nat.zero_add] at hO
  try simp only [List.length_nil, Nat.zero_add]
  have HO := hid (hO.mono (lo' := w.heap.size + 1 + 1) (by omega))
  have hb1 : Below w.heap.size w w1 := hw.trans (hT1.below (by simp; try omega) (by simp; try omega))
  refine hK9.out _ _ (fun _ => ?_) (fun hS9 => ?_)
  · (try dsimp only); exact ⟨keepc hS.1 hT1 (fun x hx => .inr (by simp at hx; simp; omega)), cellc hT1 hS.2.1 (by simp), cellc hT1 hS.2.2 (by simp)⟩
  replace hS := hS9 (by decide)
  clear hK9 K9 hS9
  try simp only [Act.put, List.setIfInBounds_toArray, List.set_cons_zero, List.set_cons_succ]
  refine late_take (i := 6) (v := ?_) rfl (by kernel_rfl) (fun _ _ _ h => h) (by rfl) ?_ (by assumption) ?_
  rotate_left
  · (intro w9 hS9; (try dsimp only at hS9); (try go_split_ands); go_simp <;> with_reducible rfl)
  try simp only [Act.put, List.setIfInBounds_toArray, List.set_cons_zero, List.set_cons_succ]
  refine late_one (i := 7) rfl (by kernel_rfl) (fun K9 hK9 => ?_)
  have HX := HB1.keep (hS.1.block (w.heap.size + 1) (by simp) (by simp))
  have hXo := HX.out; have hXf := HX.fr
  have HB := hid hb1
  clear hS hO
  go_simp
  refine hK9.out _ _ (fun h => absurd rfl h) (fun _ => ?_)
  clear hK9 K9
  try simp only [Act.put, List.setIfInBounds_toArray, List.set_cons_zero, List.set_cons_succ]
  refine late_done (by kernel_rfl) ?_ _
  go_wp2
  refine bodyPost_ret (v := .agg #[.slice p d.Text.length c, .int .i64 d.At]) (by simp [results, Try.results168, go_sem, hXo]) rfl ?_
  exact ⟨_, b1, rfl, ((HO.out.setLow (by first | (simp; done) | (simp; omega)) _).setLow (by first | (simp; done) | (simp; omega)) _).mono (by first | (simp; done) | (simp; omega) | omega), (HB.out.setCell (by simp) _).setCell (by simp) _⟩
theorem i_UndoOk {w : World} {bs : List Nat} {cs : List Value} {d : UndoD} (h : Rep.pt w bs cs d) :
    Calls Try.prog 61 #[.agg cs.toArray] w fun e w' => e = .returned (.bool (undoOk d)) ∧ Below w.heap.size w w' := by
  obtain ⟨a0, l0, k0, rfl, h0⟩ := open_Undo h
  obtain rfl := h0.len_eq
  have hm := h0.max
  clear h
  go_enter Try.func61, Try.ntmps61
  go_wp2_with fail
  go_loopw [8] (fun i wr => ∃ k : Nat, k ≤ d.Lines.length ∧ i = .int .i64 k ∧ Hid (d.Lines.all lineOk = (d.Lines.drop k).all lineOk) ∧ Bx wr w.heap.size #[.slice a0 d.Lines.length k0] ∧ Below w.heap.size w wr) (fun i _ => d.Lines.length - (intOf i).toNat)
  case atStart => exact ⟨0, Nat.zero_le _, rfl, hid rfl, Bx.new _ _ _ rfl, (Below.refl _ _).alloc (Nat.le_refl _) _⟩
  case round =>
    obtain ⟨k, hk, rfl, HR, hB0, hb⟩ := hrel
    have HB := hid hb; have B0o := hB0.out; have HB0 := hid hB0
    have hz : w.heap.size < wr.heap.size := hB0.f.lt
    clear hB0
    by_cases hlt : k < d.Lines.length
    rotate_left
    · obtain rfl : k = d.Lines.length := by omega
      clear hb
      go_wp2
      go_ret
      exact ⟨ret_bool (by rw [undoOk, HR.out, List.drop_length]; simp; try omega), HB.out⟩
    obtain ⟨b, off, cs, bs', rfl, hbw, hp, _, hA⟩ := (h0.grow hb).elem k hlt
    have HP := hid hp
    obtain ⟨a1, l1, k1, rfl, g0, g1⟩ := open_Line hp
    obtain rfl := g0.len_eq
    have G0 := hid g0
    have c0 : wr.cell? ⟨b, off + k * 2, none⟩ = some _ := hA 0 _ rfl
    have c1 : wr.cell? ⟨b, off + k * 2 + 1, none⟩ = some _ := hA 1 _ rfl
    clear hb hA hp g0
    have Hd := hid (drop_all lineOk d.Lines k hlt)
    cases hA : lineOk d.Lines[k]
    · have HA := hid hA; clear hA
      go_wp2_with fail
      refine (i_LineOk (grow HP.out ((Below.refl _ _).alloc (Nat.le_refl _) _))).mono ?_
      rintro e w1 ⟨rfl, hb⟩
      rw [HA.out]
      have HB1 := hid ((HB.out.alloc HB.out.size _).trans (hb.mono (by have := HB.out.size; simp; omega)))
      have HB0 := hid (Bx.below hb (by simp; omega) (HB0.out.alloc hz _))
      have hz1 := hb.size; simp at hz1
      clear hb
      go_wp2
      go_ret
      exact ⟨ret_bool (by rw [undoOk, HR.out, Hd.out]; simp [HA.out]), HB1.out⟩
    have HA := hid hA; clear hA
    go_wp2_with fail
    refine (i_LineOk (grow HP.out ((Below.refl _ _).alloc (Nat.le_refl _) _))).mono ?_
    rintro e w1 ⟨rfl, hb⟩
    rw [HA.out]
    have HB1 := hid ((HB.out.alloc HB.out.size _).trans (hb.mono (by have := HB.out.size; simp; omega)))
    have HB0 := hid (Bx.below hb (by simp; omega) (HB0.out.alloc hz _))
    have hz1 := hb.size; simp at hz1
    clear hb
    go_wp2
    exact ⟨⟨k + 1, by omega, rfl, hid (by rw [HR.out, Hd.out]; simp [HA.out]), HB0.out, HB1.out⟩, by simp [intOf]; omega⟩
theorem s_UndoOk {w : World} {bs : List Nat} {cs : List Value} {d : UndoD} (h : Rep.pt w bs cs d) :
    Calls Try.prog 164 #[.agg cs.toArray] w fun e w' => e = .returned (.bool (undoOk d)) ∧ Below w.heap.size w w' := by
  obtain ⟨a0, l0, k0, rfl, h0⟩ := open_Undo h
  obtain rfl := h0.len_eq
  have hm := h0.max
  clear h
  go_enter Try.func164, Try.ntmps164
  go_wp2_with fail
  go_loopw [8] (fun i wr => ∃ k : Nat, k ≤ d.Lines.length ∧ i = .int .i64 k ∧ Hid (d.Lines.all lineOk = (d.Lines.drop k).all lineOk) ∧ Bx wr w.heap.size #[.slice a0 d.Lines.length k0] ∧ Below w.heap.size w wr) (fun i _ => d.Lines.length - (intOf i).toNat)
  case atStart => exact ⟨0, Nat.zero_le _, rfl, hid rfl, Bx.new _ _ _ rfl, (Below.refl _ _).alloc (Nat.le_refl _) _⟩
  case round =>
    obtain ⟨k, hk, rfl, HR, hB0, hb⟩ := hrel
    have HB := hid hb; have B0o := hB0.out; have HB0 := hid hB0
    have hz : w.heap.size < wr.heap.size := hB0.f.lt
    clear hB0
    by_cases hlt : k < d.Lines.length
    rotate_left
    · obtain rfl : k = d.Lines.length := by omega
      clear hb
      go_wp2
      go_ret
      exact ⟨ret_bool (by rw [undoOk, HR.out, List.drop_length]; simp; try omega), HB.out⟩
    obtain ⟨b, off, cs, bs', rfl, hbw, hp, _, hA⟩ := (h0.grow hb).elem k hlt
    have HP := hid hp
    obtain ⟨a1, l1, k1, rfl, g0, g1⟩ := open_Line hp
    obtain rfl := g0.len_eq
    have G0 := hid g0
    have c0 : wr.cell? ⟨b, off + k * 2, none⟩ = some _ := hA 0 _ rfl
    have c1 : wr.cell? ⟨b, off + k * 2 + 1, none⟩ = some _ := hA 1 _ rfl
    clear hb hA hp g0
    have Hd := hid (drop_all lineOk d.Lines k hlt)
    cases hA : lineOk d.Lines[k]
    · have HA := hid hA; clear hA
      go_wp2_with fail
      refine (s_LineOk (grow HP.out ((Below.refl _ _).alloc (Nat.le_refl _) _))).mono ?_
      rintro e w1 ⟨rfl, hb⟩
      rw [HA.out]
      have HB1 := hid ((HB.out.alloc HB.out.size _).trans (hb.mono (by have := HB.out.size; simp; omega)))
      have HB0 := hid (Bx.below hb (by simp; omega) (HB0.out.alloc hz _))
      have hz1 := hb.size; simp at hz1
      clear hb
      go_wp2
      go_ret
      exact ⟨ret_bool (by rw [undoOk, HR.out, Hd.out]; simp [HA.out]), HB1.out⟩
    have HA := hid hA; clear hA
    go_wp2_with fail
    refine (s_LineOk (grow HP.out ((Below.refl _ _).alloc (Nat.le_refl _) _))).mono ?_
    rintro e w1 ⟨rfl, hb⟩
    rw [HA.out]
    have HB1 := hid ((HB.out.alloc HB.out.size _).trans (hb.mono (by have := HB.out.size; simp; omega)))
    have HB0 := hid (Bx.below hb (by simp; omega) (HB0.out.alloc hz _))
    have hz1 := hb.size; simp at hz1
    clear hb
    go_wp2
    exact ⟨⟨k + 1, by omega, rfl, hid (by rw [HR.out, Hd.out]; simp [HA.out]), HB0.out, HB1.out⟩, by simp [intOf]; omega⟩
end Go.Proofs.Ytdfpjchneofndaa
