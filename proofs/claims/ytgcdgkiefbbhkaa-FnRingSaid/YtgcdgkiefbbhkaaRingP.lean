/- What is added to a ring, in plain Lean; and the rows forgotten. -/
import Derived.Test.YtgcdgkiefbbhkaaRingF
set_option linter.unusedSimpArgs false
set_option linter.unusedVariables false
namespace Go.G6
open Go.RowKit Rep
def ringPutOk (d : RingD) (t : List Int) (how : Int) : Bool := ringOk d && inB how 0 2 && pieceTyped t
/-- The first text. -/
def ringFst (d : RingD) : List Int := match d.Pieces with | [] => [] | p :: _ => p.Text
def ringNewL (d : RingD) (t : List Int) : List PieceD := (⟨t⟩ :: d.Pieces).take 6
def ringIsNew (d : RingD) (t : List Int) (how : Int) : Bool := decide (how = 0) || decide (d.Pieces.length = 0) || decide (400 < (ringFst d).length + t.length)
def ringPutL (d : RingD) (t : List Int) (how : Int) : List PieceD :=
  if t = [] then d.Pieces else if ringIsNew d t how = true then ringNewL d t else d.Pieces.set 0 ⟨if how = 1 then ringFst d ++ t else t ++ ringFst d⟩
def ringPut (d : RingD) (t : List Int) (how : Int) : RingD := if ringPutOk d t how then ⟨ringPutL d t how⟩ else ring0
theorem ringFst_len {d : RingD} (h : ringOk d = true) : (ringFst d).length ≤ 400 := by
  unfold ringFst
  split
  · simp
  · rename_i p r hp
    exact (ringOk_bounds h).2.2 p (by rw [hp]; simp)
theorem ringFst_get {d : RingD} (h : 0 < d.Pieces.length) : ringFst d = d.Pieces[0].Text := by
  obtain ⟨ps⟩ := d
  cases ps with
  | nil => simp at h
  | cons p r => rfl
theorem ringPutL_len (d : RingD) (t : List Int) (how : Int) (h : d.Pieces.length ≤ 6) : (ringPutL d t how).length ≤ 6 := by
  unfold ringPutL
  split
  · exact h
  split
  · simp [ringNewL]; omega
  · simpa using h
theorem ringPutL_txt {d : RingD} {t : List Int} {how : Int} (h : ringOk d = true) (ht : t.length ≤ 400) : ∀ p ∈ ringPutL d t how, p.Text.length ≤ 400 := by
  have hb := (ringOk_bounds h).2.2
  unfold ringPutL
  split
  · exact hb
  split
  · intro p hp
    have := List.mem_of_mem_take hp
    rcases List.mem_cons.1 this with rfl | h9
    · exact ht
    · exact hb p h9
  · rename_i hn
    have hn : (ringFst d).length + t.length ≤ 400 := by simp [ringIsNew] at hn; omega
    intro p hp
    rcases List.mem_or_eq_of_mem_set hp with h9 | rfl
    · exact hb p h9
    · show (if how = 1 then ringFst d ++ t else t ++ ringFst d).length ≤ 400
      split
      · rw [List.length_append]; omega
      · rw [List.length_append]; omega
theorem ringPut_top (d : RingD) (t : List Int) (how : Int) : 1 + (ringPut d t how).nkv ≤ topK := by
  cases hk : ringPutOk d t how
  · simp [ringPut, hk, ring0, RingD.nkv, topK]
    decide
  · have hk' := hk
    simp only [ringPutOk, Bool.and_eq_true] at hk'
    have hl := ringPutL_len d t how (ringOk_bounds hk'.1.1).1
    have ht := ringPutL_txt (how := how) hk'.1.1 (pieceTyped_len hk'.2)
    have h5 : ∀ l : List PieceD, (∀ p ∈ l, p.Text.length ≤ 400) → nL Cnt.cnt l ≤ 400 * l.length := by
      intro l
      induction l with
      | nil => simp [nL]
      | cons p l ih =>
        intro hl
        have h1 := ih fun q hq => hl q (List.mem_cons_of_mem _ hq)
        have h2 := hl p (by simp)
        have h3 : Cnt.cnt p = p.Text.length := cnt_ints _
        have h4 : nL Cnt.cnt (p :: l) = Cnt.cnt p + nL Cnt.cnt l := by simp [nL]
        rw [List.length_cons]; omega
    have h6 := h5 _ ht
    have h3 := nkv_le_Ring (ringPut d t how)
    have h7 : Cnt.cnt (ringPut d t how) ≤ 16778000 := by
      rw [show ringPut d t how = ⟨ringPutL d t how⟩ by unfold ringPut; rw [if_pos hk]]
      show (ringPutL d t how).length + nL Cnt.cnt (ringPutL d t how) ≤ _
      omega
    unfold topK; omega
theorem pf_forget {e : TypeId} {w : World} {bs : List Nat} {cs : List Value} {p : PieceD} (h : pt w bs cs (PF e p)) : ∃ bs', pt w bs' cs p ∧ bs'.Nodup ∧ ∀ b ∈ bs', b ∈ bs := by
  obtain ⟨v, rfl, hO⟩ := h
  obtain ⟨a, c, rfl⟩ := hO.slice
  obtain ⟨bs', h1, h2⟩ := hO.own
  exact ⟨bs', mk_Piece (d := p) (pt_slice.1 h2.1), h2.2.1, h1⟩
theorem elems_forget {e : TypeId} {w : World} : ∀ {l : List PieceD} {bss : List (List Nat)} {cells : List Value}, Elems w bss cells (l.map (PF e)) → bss.flatten.Nodup → ∃ bss', Elems w bss' cells l ∧ bss'.flatten.Nodup ∧ ∀ b ∈ bss'.flatten, b ∈ bss.flatten
  | [], [], _, h, _ => ⟨[], h, List.nodup_nil, by simp⟩
  | [], _ :: _, _, h, _ => h.elim
  | p :: l, [], _, h, _ => h.elim
  | p :: l, bs :: bss, _, ⟨cs, rest, rfl, hp, h2⟩, hn => by
    rw [List.flatten_cons] at hn
    have hn1 := List.nodup_append.1 hn
    obtain ⟨bs', q1, q2, q3⟩ := pf_forget hp
    obtain ⟨bss', r1, r2, r3⟩ := elems_forget h2 hn1.2.1
    refine ⟨bs' :: bss', ⟨cs, rest, rfl, q1, r1⟩, ?_, ?_⟩
    · rw [List.flatten_cons]
      exact List.nodup_append.2 ⟨q2, r2, fun a ha b hb => hn1.2.2 a (q3 a ha) b (r3 b hb)⟩
    · intro b hb
      rw [List.flatten_cons] at hb ⊢
      rcases List.mem_append.1 hb with h9 | h9
      · exact List.mem_append_left _ (q3 b h9)
      · exact List.mem_append_right _ (r3 b h9)
theorem OwnL.forget {e t : TypeId} {lo : Nat} {w : World} {v : Value} {bs : List Nat} {l : List PieceD} (h : OwnL lo w e v bs (l.map (PF t))) : ∃ bs', OwnL lo w e v bs' l ∧ ∀ b ∈ bs', b ∈ bs := by
  obtain ⟨cells, bss, hR, hE, rfl, hn, hf⟩ := h
  have hn1 := List.nodup_append.1 hn
  obtain ⟨bss', r1, r2, r3⟩ := elems_forget hE hn1.2.1
  refine ⟨v.ownBlock.toList ++ bss'.flatten, ⟨cells, bss', ?_, r1, rfl, List.nodup_append.2 ⟨hn1.1, r2, fun a ha b hb => hn1.2.2 a ha b (r3 b hb)⟩, fun b hb => hf b ?_⟩, fun b hb => ?_⟩
  · rw [List.length_map] at hR; exact hR
  all_goals
    rcases List.mem_append.1 hb with h9 | h9
    · exact List.mem_append_left _ h9
    · exact List.mem_append_right _ (r3 b h9)
/-- A list of pieces, put into a ring of the call's own. -/
theorem own_ring_of {lo : Nat} {w : World} {e : TypeId} {v : Value} {bs : List Nat} {l : List PieceD} (h : OwnL lo w e v bs l) : ∃ b2, Own lo w b2 [v] (⟨l⟩ : RingD) ∧ ∀ b ∈ b2, b ∈ bs := by
  obtain ⟨a, c, rfl⟩ := h.slice
  obtain ⟨b2, h1, h2⟩ := h.own
  exact ⟨b2, own_Ring (d := ⟨l⟩) h2, h1⟩
end Go.G6
