/- Lists of structures that the call builds: an element laid anew. -/
import Derived.Test.YtgcdgkiefbbhkaaApp
import Derived.Laws.IdiomCopy
set_option linter.unusedSimpArgs false
set_option linter.unusedVariables false
namespace Go.G6
open Go.RowKit Rep

theorem setCells_heap (g : Nat) : ∀ (cs : List Value) (o : Nat) (w : World) (k : Nat), k ≠ g → (w.setCells g o cs).heap[k]? = w.heap[k]?
  | [], _, _, _, _ => rfl
  | v :: r, o, w, k, hk => (setCells_heap g r (o + 1) _ k hk).trans (Below.heap_setCell _ _ _ _ hk)
theorem setCells_size (g : Nat) : ∀ (cs : List Value) (o : Nat) (w : World), (w.setCells g o cs).heap.size = w.heap.size
  | [], _, _ => rfl
  | v :: r, o, w => (setCells_size g r (o + 1) _).trans (by simp)
theorem Fr.setCells {b : Nat} (g : Nat) : ∀ (cs : List Value) (o : Nat) {w : World}, Fr w b → Fr (w.setCells g o cs) b
  | [], _, _, h => h
  | v :: r, o, _, h => Fr.setCells g r (o + 1) (h.setCell _ _)
theorem Below.setCells {B : Nat} {a : World} (g : Nat) (hg : B ≤ g) : ∀ (cs : List Value) (o : Nat) {w : World}, Below B a w → Below B a (w.setCells g o cs)
  | [], _, _, h => h
  | v :: r, o, _, h => Below.setCells g hg r (o + 1) (h.setCell hg v)
theorem Tch.setCells {bs : List Nat} {a : World} (g : Nat) (hg : g ∈ bs) : ∀ (cs : List Value) (o : Nat) {w : World}, Tch bs a w → Tch bs a (w.setCells g o cs)
  | [], _, _, h => h
  | v :: r, o, _, h => Tch.setCells g hg r (o + 1) (h.setCell hg v)

theorem ownsRow_setCells {base : Nat} {e : TypeId} {size g n cap : Nat} : ∀ (cs : List Value) (o : Nat) {w : World} {xs : List Value}, w.ownsRow base e size (.slice (some ⟨g, 0, none⟩) n cap) n xs → o + cs.length ≤ xs.length →
    (w.setCells g o cs).ownsRow base e size (.slice (some ⟨g, 0, none⟩) n cap) n (xs.take o ++ (cs ++ xs.drop (o + cs.length)))
  | [], o, w, xs, h, _ => by simpa [World.setCells] using h
  | v :: r, o, w, xs, h, hl => by
    simp only [List.length_cons] at hl
    have := ownsRow_setCells r (o + 1) (h.stored o v).1 (by simp; omega)
    rw [take_set_succ _ _ _ (by omega), List.drop_set, if_pos (by omega)] at this
    simp only [List.append_assoc, List.cons_append, List.nil_append, List.length_cons] at this ⊢
    rw [show o + (r.length + 1) = o + 1 + r.length by omega]
    exact this

theorem Elems.rep {α : Type} [Rep α] {w : World} : ∀ {xs : List α} {bss : List (List Nat)} {cells : List Value}, Elems w bss cells xs → ∀ i (h : i < xs.length), ∃ bi cs pre post pb qb, bss = pb ++ bi :: qb ∧ cells = pre ++ (cs ++ post) ∧ pre.length = i * size α ∧ pt w bi cs xs[i] ∧
    ∀ w' x' cs' b', (∀ k ∈ (pb ++ qb).flatten, w'.heap[k]? = w.heap[k]?) → pt w' b' cs' x' → Elems w' (pb ++ b' :: qb) (pre ++ (cs' ++ post)) (xs.set i x') := by
  intro xs
  induction xs with
  | nil => intro bss cells _ i h; simp at h
  | cons x xs ih =>
    rintro (_ | ⟨bs, bss⟩) cells h i hi
    · exact h.elim
    obtain ⟨cs, rest, rfl, hp, h2⟩ := h
    cases i with
    | zero => exact ⟨bs, cs, [], rest, [], bss, rfl, rfl, by simp, hp, fun w' x' cs' b' hk hp' => ⟨cs', rest, rfl, hp', h2.keep fun k hk' => hk k (by simpa using hk')⟩⟩
    | succ i =>
      obtain ⟨bi, cs1, pre, post, pb, qb, rfl, rfl, hl, hp1, hu⟩ := ih h2 i (by simpa using hi)
      refine ⟨bi, cs1, cs ++ pre, post, bs :: pb, qb, rfl, by simp, ?_, by simpa using hp1, fun w' x' cs' b' hk hp' => ?_⟩
      · rw [List.length_append, Rep.len hp, hl, Nat.add_mul]; omega
      · rw [List.append_assoc]
        refine ⟨cs, _, rfl, Rep.keep hp fun k hk' => hk k ?_, hu w' x' cs' b' (fun k hk' => hk k ?_) hp'⟩
        · simp [hk']
        · rw [List.cons_append, List.flatten_cons]; exact List.mem_append_right _ hk'

theorem OwnL.setE {α : Type} [Rep α] {lo : Nat} {w : World} {e : TypeId} {v : Value} {bs : List Nat} {xs : List α} (h : OwnL lo w e v bs xs) (i : Nat) (hi : i < xs.length) :
    ∃ g cap bi cs, v = .slice (some ⟨g, 0, none⟩) xs.length cap ∧ g ∈ bs ∧ lo ≤ g ∧ g < w.heap.size ∧ Fr w g ∧ (∀ x ∈ bi, x ∈ bs ∧ x ≠ g) ∧ Own lo w bi cs xs[i] ∧ At w g (i * size α) cs ∧
      ∀ w1, (∀ k ∈ bs, k ∉ bi → w1.heap[k]? = w.heap[k]?) → ∀ b2 cs2 y, Own lo w1 b2 cs2 y → (∀ b ∈ b2, b ∉ bs ∨ b ∈ bi) → ∃ bs', OwnL lo (w1.setCells g (i * size α) cs2) e v bs' (xs.set i y) ∧ (∀ b ∈ bs', b ∈ bs ∨ b ∈ b2) := by
  obtain ⟨cells, bss, hR, hE, rfl, hn, hf⟩ := h
  rcases hR.2 with ⟨rfl, h0⟩ | ⟨g, cap, cur, rfl, hg, hgg, hnc, hcm, hcs, ht⟩
  · omega
  obtain ⟨bi, cs, pre, post, pb, qb, rfl, rfl, hpl, hpi, hu⟩ := hE.rep i hi
  have hlt : g < w.heap.size := (Array.getElem?_eq_some_iff.1 hgg).1
  simp only [Value.ownBlock, Option.toList_some] at hn hf ⊢
  have hcl := Rep.len hpi
  have hn1 := List.nodup_append.1 hn
  have hbg : ∀ k ∈ (pb ++ bi :: qb).flatten, k ≠ g := fun k hk e => hn1.2.2 g (by simp) k hk e.symm
  rw [List.flatten_append, List.flatten_cons] at hn1 hbg
  have hn2 := List.nodup_append.1 hn1.2.1
  have hn3 := List.nodup_append.1 hn2.2.1
  have hAt : At w g (i * size α) cs := by
    intro j u hj
    have hj1 := (List.getElem?_eq_some_iff.1 hj).1
    have hc := hR.1
    rw [World.ownsRow.cellAt hR _ (by rw [← hc, List.length_append, List.length_append]; omega), List.getElem?_append_right (by omega), hpl, show i * size α + j - i * size α = j by omega, List.getElem?_append_left hj1]
    exact hj
  refine ⟨g, cap, bi, cs, rfl, by simp, hg, hlt, ⟨cur, e, hgg⟩, fun x hx => ⟨?_, hbg x (by simp [hx])⟩, ⟨hpi, hn3.1, fun x hx => hf x (by simp [hx])⟩, hAt, ?_⟩
  · simp [hx]
  intro w1 hk b2 cs2 y hO hd
  have hmem : ∀ k, k ∈ pb.flatten ∨ k ∈ qb.flatten → k ∉ bi := by
    rintro k (h1 | h1) h2
    · exact hn2.2.2 k h1 k (List.mem_append_left _ h2) rfl
    · exact hn3.2.2 k h2 k h1 rfl
  have hb2g : ∀ k ∈ b2, k ≠ g := by
    rintro k hk1 rfl
    rcases hd k hk1 with h1 | h1
    · exact h1 (by simp)
    · exact hbg k (by simp [h1]) rfl
  have hb2m : ∀ k ∈ b2, k ∉ pb.flatten ∧ k ∉ qb.flatten := by
    intro k hk1
    rcases hd k hk1 with h1 | h1
    · constructor
      · exact fun h2 => h1 (by simp only [List.mem_append, List.flatten_append]; exact .inr (.inl h2))
      · exact fun h2 => h1 (by simp only [List.mem_append, List.flatten_append, List.flatten_cons]; exact .inr (.inr (.inr h2)))
    · exact ⟨fun h2 => hmem k (.inl h2) h1, fun h2 => hmem k (.inr h2) h1⟩
  have hgi : g ∉ bi := fun hm => hbg g (by simp [hm]) rfl
  have hg1 : w1.heap[g]? = w.heap[g]? := hk g (by simp) hgi
  have hcl2 := Rep.len hO.1
  have hkk : ∀ k ∈ (pb ++ qb).flatten, w1.heap[k]? = w.heap[k]? := fun k hk1 => by
    rw [List.flatten_append] at hk1
    have h1 := List.mem_append.1 hk1
    refine hk k ?_ (hmem k h1)
    rcases h1 with h1 | h1
    · simp only [List.mem_append, List.flatten_append]; exact .inr (.inl h1)
    · simp only [List.mem_append, List.flatten_append, List.flatten_cons]; exact .inr (.inr (.inr h1))
  have hkg : ∀ k ∈ (pb ++ qb).flatten, k ≠ g := fun k hk1 => hbg k (by
    rw [List.flatten_append] at hk1
    rcases List.mem_append.1 hk1 with h1 | h1
    · exact List.mem_append_left _ h1
    · exact List.mem_append_right _ (List.mem_append_right _ h1))
  have hR1 : w1.ownsRow lo e (size α) (.slice (some ⟨g, 0, none⟩) xs.length cap) xs.length (pre ++ (cs ++ post)) := ⟨hR.1, .inr ⟨g, cap, cur, rfl, hg, hg1.trans hgg, hnc, hcm, hcs, ht⟩⟩
  have hR2 := ownsRow_setCells cs2 (i * size α) hR1 (by rw [← hpl]; simp; omega)
  rw [← hpl, List.take_left', List.drop_append, List.drop_of_length_le (by omega), List.nil_append, show pre.length + cs2.length - pre.length = cs.length by omega, List.drop_left'] at hR2
  rotate_left
  · rfl
  · rfl
  refine ⟨g :: (pb ++ b2 :: qb).flatten, ⟨pre ++ (cs2 ++ post), pb ++ b2 :: qb, ?_, ?_, rfl, ?_, ?_⟩, ?_⟩
  · rw [List.length_set, ← hpl]; exact hR2
  · exact hu _ y cs2 b2 (fun k hk1 => (setCells_heap g cs2 _ w1 k (hkg k hk1)).trans (hkk k hk1)) (Rep.keep hO.1 fun k hk1 => setCells_heap g cs2 _ w1 k (hb2g k hk1))
  · rw [List.flatten_append, List.flatten_cons]
    refine List.nodup_cons.2 ⟨?_, List.nodup_append.2 ⟨hn2.1, List.nodup_append.2 ⟨hO.2.1, hn3.2.1, fun a ha b hb e => (hb2m a ha).2 (e ▸ hb)⟩, fun a ha b hb e => ?_⟩⟩
    · intro hm
      rcases List.mem_append.1 hm with h1 | h1
      · exact hbg g (List.mem_append_left _ h1) rfl
      · rcases List.mem_append.1 h1 with h1 | h1
        · exact hb2g g h1 rfl
        · exact hbg g (List.mem_append_right _ (List.mem_append_right _ h1)) rfl
    · subst e
      rcases List.mem_append.1 hb with h1 | h1
      · exact (hb2m a h1).1 ha
      · exact hn2.2.2 a ha a (List.mem_append_right _ h1) rfl
  · intro b hb
    rcases List.mem_cons.1 hb with rfl | hb
    · exact ⟨hg, Fr.setCells _ _ _ ⟨cur, e, hg1.trans hgg⟩⟩
    · rw [List.flatten_append, List.flatten_cons] at hb
      have hold : ∀ k, k ∈ pb.flatten ∨ k ∈ qb.flatten → lo ≤ k ∧ Fr (w1.setCells g pre.length cs2) k := fun k h1 => by
        have h2 : k ∈ (pb ++ qb).flatten := by rw [List.flatten_append]; exact List.mem_append.2 h1
        have h3 : k ∈ [g] ++ (pb ++ bi :: qb).flatten := by
          rw [List.flatten_append, List.flatten_cons]
          rcases h1 with h1 | h1
          · exact List.mem_append_right _ (List.mem_append_left _ h1)
          · exact List.mem_append_right _ (List.mem_append_right _ (List.mem_append_right _ h1))
        exact ⟨(hf k h3).1, Fr.setCells _ _ _ ((hf k h3).2.keep (hkk k h2))⟩
      rw [← hpl]
      rcases List.mem_append.1 hb with h1 | h1
      · exact hold b (.inl h1)
      · rcases List.mem_append.1 h1 with h1 | h1
        · exact ⟨(hO.2.2 b h1).1, Fr.setCells _ _ _ (hO.2.2 b h1).2⟩
        · exact hold b (.inr h1)
  · intro b hb
    rcases List.mem_cons.1 hb with rfl | hb
    · exact .inl (by simp)
    · rw [List.flatten_append, List.flatten_cons] at hb
      rcases List.mem_append.1 hb with h1 | h1
      · exact .inl (by simp only [List.mem_append, List.flatten_append]; exact .inr (.inl h1))
      · rcases List.mem_append.1 h1 with h1 | h1
        · exact .inr h1
        · exact .inl (by simp only [List.mem_append, List.flatten_append, List.flatten_cons]; exact .inr (.inr (.inr h1)))
/-- What 'make' lays, where the zero reads as a datum without blocks. -/
theorem ownL_made {α : Type} [Rep α] {lo : Nat} {w : World} {e : TypeId} {v : Value} {n : Nat} {z : List Value} {x : α} (h : w.ownsRow lo e (size α) v n ((List.replicate n z).flatten)) (hz : pt w [] z x) :
    OwnL lo w e v v.ownBlock.toList (List.replicate n x) := by
  have hfl : ∀ n, (List.replicate n ([] : List Nat)).flatten = [] := fun n => flat_nil fun b hb => List.eq_of_mem_replicate hb
  refine ⟨_, List.replicate n [], by rw [List.length_replicate]; exact h, ?_, by rw [hfl, List.append_nil], ?_, ?_⟩
  · clear h
    induction n with
    | zero => rfl
    | succ n ih => exact ⟨z, _, rfl, hz, ih⟩
  · cases v.ownBlock <;> simp
  · intro b hb
    have hv := ownBlock_mem.1 hb
    rcases h.2 with ⟨rfl, _⟩ | ⟨g, cap, cur, rfl, hg, hgg, _⟩
    · simp [Value.ownBlock] at hv
    · simp [Value.ownBlock] at hv
      subst hv
      exact ⟨hg, cur, e, hgg⟩
end Go.G6
