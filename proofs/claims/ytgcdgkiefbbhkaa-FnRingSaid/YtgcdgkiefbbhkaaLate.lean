/- Regions that draw their order and end in a store that all else waits for: what a load reads is kept till then. -/
import Derived.Test.YtgcdgkiefbbhkaaApp
import Derived.OrdersHeld
import Derived.Deep.RegionHeld3
set_option linter.unusedSimpArgs false
set_option linter.unusedVariables false
namespace Go.G6
open Go.RowKit
section
variable {P : Program} {ops : Array Oper} {Q : Exit → Act → World → Prop} {md : Region.Mode} {S : World → Prop} {L : Nat}

/-- Whatever order is picked; behind every operation but number L the condition S holds. -/
def wpAnyL (P : Program) (md : Region.Mode) (ops : Array Oper) (Q : Exit → Act → World → Prop) (S : World → Prop) (L : Nat) : Nat → Array Bool → Act → World → Prop
  | 0, listed, a, w => Region.ready md ops listed = [] ∧ Q .normal a w
  | fuel + 1, listed, a, w =>
    (Region.ready md ops listed = [] → Q .normal a w) ∧
    ∀ i ∈ Region.ready md ops listed, wpOp P ops Q i (fun a' w' => (i ≠ L → S w') ∧ wpAnyL P md ops Q S L fuel (listed.setIfInBounds i true) a' w') a w

theorem wpAny_of_late : ∀ (fuel : Nat) (listed : Array Bool) (a : Act) (w : World), wpAnyL P md ops Q S L fuel listed a w → wpAny P md ops Q fuel listed a w
  | 0, _, _, _, h => h
  | fuel + 1, _, _, _, h => ⟨h.1, fun i hi => wpOp_mono (fun a' w' h' => wpAny_of_late fuel _ a' w' h'.2) (h.2 i hi)⟩

/-- Number L waits for number i. -/
def waits (md : Region.Mode) (ops : Array Oper) (L i : Nat) : Bool := decide (ops.size ≤ L) || i != L && ((ops[L]?).map fun o => o.after.any fun e => Region.binds md e && e.on == i).getD false

theorem waits_spec {i : Nat} (h : waits md ops L i = true) : ops.size ≤ L ∨ ∃ o, ops[L]? = some o ∧ ∃ e ∈ o.after, Region.binds md e = true ∧ e.on = i := by
  unfold waits at h
  rw [Bool.or_eq_true, decide_eq_true_eq, Bool.and_eq_true] at h
  rcases h with h | h
  · exact .inl h
  have h2 := h.2
  cases ho : ops[L]? with
  | none => rw [ho] at h2; simp at h2
  | some o =>
    rw [ho] at h2
    simp only [Option.map_some, Option.getD_some] at h2
    obtain ⟨e, he, hb⟩ := Array.any_eq_true'.1 h2
    rw [Bool.and_eq_true, beq_iff_eq] at hb
    exact .inr ⟨o, rfl, e, he, hb.1, hb.2⟩

theorem wpAnyL_first {i : Nat} {oi : Oper} {v : Value} (hi : ops[i]? = some oi) (hsel : ∀ (j : Nat) (o : Oper) cs b, ops[j]? = some o → o.op ≠ .select cs b)
    (hQ : ∀ c a w, Q (.panic c) (a.put oi.dst v) w → Q (.panic c) a w) (hL : waits md ops L i = true) :
    ∀ (fuel : Nat) (listed : Array Bool) (a : Act) (w : World),
      (∀ j oj, ops[j]? = some oj → j ≠ i → listed.getD j true = false → (∀ e ∈ oj.after, Region.binds md e = true → e.on ≠ i) → oi.apart ops oj = true) →
      i ∈ Region.ready md ops listed → YieldsIf P ops S oi v a → S w →
      wpAnyL P md ops Q S L fuel (listed.setIfInBounds i true) (a.put oi.dst v) w → wpAnyL P md ops Q S L (fuel + 1) listed a w := by
  intro fuel
  induction fuel with
  | zero =>
    intro listed a w _ hr hy hS H
    refine ⟨fun h => (by rw [h] at hr; cases hr), fun j hj => ?_⟩
    by_cases hji : j = i
    · subst hji; exact hy.wpOp hi hS ⟨fun _ => hS, H⟩
    · have := ready_mono hj hji
      rw [H.1] at this
      cases this
  | succ fuel ih =>
    intro listed a w hfree hr hy hS H
    refine ⟨fun h => (by rw [h] at hr; cases hr), fun j hj => ?_⟩
    by_cases hji : j = i
    · subst hji; exact hy.wpOp hi hS ⟨fun _ => hS, H⟩
    · have h1 := H.2 j (ready_mono hj hji)
      obtain ⟨hjun, oj, hoj, hall⟩ := mem_ready.1 hj
      have hnot : ∀ e ∈ oj.after, Region.binds md e = true → e.on ≠ i := fun e he hb heq => by
        have h1 := hall e he hb
        have h0 := (mem_ready.1 hr).1
        rw [heq] at h1
        rcases Nat.lt_or_ge i listed.size with h' | h'
        · simp [h'] at h0 h1; rw [h0] at h1; cases h1
        · simp [Array.getElem?_eq_none h'] at h1
      have hjL : j ≠ L := fun e => by
        obtain hsz | ⟨oL, hoL, e1, he1, hb1, ho1⟩ := waits_spec hL
        · have := (Array.getElem?_eq_some_iff.1 hoj).1
          omega
        subst e
        rw [hoL] at hoj
        obtain rfl := Option.some.inj hoj
        exact hnot e1 he1 hb1 ho1
      have h2 := wpOp_putIf hoj (hfree j oj hoj hji hjun hnot) (fun cs b => hsel i oi cs b hi) (fun cs b => hsel j oj cs b hoj) hQ hy h1
      have hfree' : ∀ k ok, ops[k]? = some ok → k ≠ i → (listed.setIfInBounds j true).getD k true = false →
          (∀ e ∈ ok.after, Region.binds md e = true → e.on ≠ i) → oi.apart ops ok = true := fun k ok hk hki hun hno => by
        refine hfree k ok hk hki ?_ hno
        by_cases hjk : j = k
        · subst hjk; exact hjun
        · rw [getD_set_ne true hjk] at hun; exact hun
      refine wpOp_mono (fun a' w' h3 => ⟨h3.2.1, ih (listed.setIfInBounds j true) a' w' hfree' (ready_mono hr (Ne.symm hji)) h3.1 (h3.2.1 hjL) ?_⟩) h2
      rw [Array.setIfInBounds_comm _ _ hji]
      exact h3.2.2

theorem late_take {i : Nat} {oi : Oper} {v : Value} {fuel : Nat} {listed : Array Bool} {a : Act} {w : World} (hi : ops[i]? = some oi)
    (hs : (Region.noSelect ops && Region.free md ops listed i && (Region.ready md ops listed).contains i && waits md ops L i) = true)
    (hQ : ∀ c a w, Q (.panic c) (a.put oi.dst v) w → Q (.panic c) a w) (hw : Region.wanted oi (yielded ops a.tmps) = true) (hy : ∀ w, S w → (execOp a.eval oi).run P w = .ok (.value v) w) (hS : S w)
    (h : wpAnyL P md ops Q S L fuel (listed.setIfInBounds i true) (a.put oi.dst v) w) : wpAnyL P md ops Q S L (fuel + 1) listed a w := by
  simp only [Bool.and_eq_true] at hs
  exact wpAnyL_first hi (Region.noSelect_spec hs.1.1.1) hQ hs.2 fuel listed a w (Region.free_spec hi hs.1.1.2) (by simpa using hs.1.2) (.inl ⟨hw, hy⟩) hS h

/-- One operation alone may come up. -/
theorem late_one {i : Nat} {o : Oper} {fuel : Nat} {listed : Array Bool} {a : Act} {w : World} (ho : ops[i]? = some o) (hr : Region.ready md ops listed = [i])
    (h : ∀ K' : Act → World → Prop, Shut (∀ a w, (i ≠ L → S w) → ((i ≠ L → S w) → wpAnyL P md ops Q S L fuel (listed.setIfInBounds i true) a w) → K' a w) → if Region.wanted o (yielded ops a.tmps) = true then Oper.wp P o a w K' Q else K' (a.put o.dst undef) w) :
    wpAnyL P md ops Q S L (fuel + 1) listed a w := by
  refine ⟨fun h0 => (by rw [hr] at h0; cases h0), fun j hj => ?_⟩
  rw [hr] at hj
  obtain rfl := List.mem_singleton.1 hj
  exact wpOp_step ho (fun K' hK => h K' (fun a w hS hW => hK a w ⟨hS, hW hS⟩))
/-- One of two. -/
theorem late_two {i j : Nat} {o o' : Oper} {fuel : Nat} {listed : Array Bool} {a : Act} {w : World} (ho : ops[i]? = some o) (ho' : ops[j]? = some o') (hr : Region.ready md ops listed = [i, j])
    (h : ∀ K' : Act → World → Prop, Shut (∀ a w, (i ≠ L → S w) → ((i ≠ L → S w) → wpAnyL P md ops Q S L fuel (listed.setIfInBounds i true) a w) → K' a w) → if Region.wanted o (yielded ops a.tmps) = true then Oper.wp P o a w K' Q else K' (a.put o.dst undef) w)
    (h' : ∀ K' : Act → World → Prop, Shut (∀ a w, (j ≠ L → S w) → ((j ≠ L → S w) → wpAnyL P md ops Q S L fuel (listed.setIfInBounds j true) a w) → K' a w) → if Region.wanted o' (yielded ops a.tmps) = true then Oper.wp P o' a w K' Q else K' (a.put o'.dst undef) w) :
    wpAnyL P md ops Q S L (fuel + 1) listed a w := by
  refine ⟨fun h0 => (by rw [hr] at h0; cases h0), fun k hk => ?_⟩
  rw [hr] at hk
  simp only [List.mem_cons, List.not_mem_nil, or_false] at hk
  rcases hk with rfl | rfl
  · exact wpOp_step ho (fun K' hK => h K' (fun a w hS hW => hK a w ⟨hS, hW hS⟩))
  · exact wpOp_step ho' (fun K' hK => h' K' (fun a w hS hW => hK a w ⟨hS, hW hS⟩))
theorem late_done {listed : Array Bool} {a : Act} {w : World} (hr : Region.ready md ops listed = []) (h : Q .normal a w) :
    ∀ fuel, wpAnyL P md ops Q S L fuel listed a w
  | 0 => ⟨hr, h⟩
  | _ + 1 => ⟨fun _ => h, by rw [hr]; simp⟩
theorem late_start (S : World → Prop) (L : Nat) {id : Nat} {a : Act} {w : World} (hm : P.follows .mixedOrders = true) (hS : S w.drew)
    (h : S w.drew → wpAnyL P .any ops Q S L ops.size (Array.replicate ops.size false) a w.drew) : (Code.region id ops true).wp P Q a w :=
  wp_region_any hm (wpAny_of_late _ _ _ _ (h hS))
end
end Go.G6
namespace Go.G6
open Go.RowKit
theorem keep1 {bs : List Nat} {W0 W W' : World} {p : Addr} {u : Value} (h : Tch bs W0 W ∧ W.cell? p = some u) (hT : Tch bs W W') (hp : p.block ∉ bs) :
    Tch bs W0 W' ∧ W'.cell? p = some u := ⟨h.1.trans hT, (hT.cell (World.block_lt_of_cell? W p h.2) hp).trans h.2⟩
theorem keep2 {bs : List Nat} {W0 W W' : World} {p q : Addr} {u v : Value} (h : Tch bs W0 W ∧ W.cell? p = some u ∧ W.cell? q = some v) (hT : Tch bs W W') (hp : p.block ∉ bs) (hq : q.block ∉ bs) :
    Tch bs W0 W' ∧ W'.cell? p = some u ∧ W'.cell? q = some v := ⟨h.1.trans hT, (hT.cell (World.block_lt_of_cell? W p h.2.1) hp).trans h.2.1, (hT.cell (World.block_lt_of_cell? W q h.2.2) hq).trans h.2.2⟩
theorem keep3 {bs : List Nat} {W0 W W' : World} {p q r : Addr} {u v x : Value} (h : Tch bs W0 W ∧ W.cell? p = some u ∧ W.cell? q = some v ∧ W.cell? r = some x) (hT : Tch bs W W') (hp : p.block ∉ bs) (hq : q.block ∉ bs) (hr : r.block ∉ bs) :
    Tch bs W0 W' ∧ W'.cell? p = some u ∧ W'.cell? q = some v ∧ W'.cell? r = some x := ⟨h.1.trans hT, (hT.cell (World.block_lt_of_cell? W p h.2.1) hp).trans h.2.1, (hT.cell (World.block_lt_of_cell? W q h.2.2.1) hq).trans h.2.2.1, (hT.cell (World.block_lt_of_cell? W r h.2.2.2) hr).trans h.2.2.2⟩
theorem Tch.drew {bs : List Nat} {a w : World} (h : Tch bs a w) : Tch bs a w.drew := h.trans ⟨rfl, rfl, rfl, Nat.le_refl _, fun _ _ _ => rfl⟩
end Go.G6
namespace Go.G6
open Go.RowKit Rep
theorem keepc {bs c : List Nat} {W0 W W' : World} (h : Tch bs W0 W) (hT : Tch c W W') (hc : ∀ x ∈ c, x ∈ bs ∨ W0.heap.size ≤ x) : Tch bs W0 W' :=
  ⟨hT.os.trans h.os, hT.tape.trans h.tape, hT.output.trans h.output, Nat.le_trans h.size hT.size, fun k hk hn => (hT.block k (Nat.lt_of_lt_of_le hk h.size) fun hm => (hc k hm).elim hn (by omega)).trans (h.block k hk hn)⟩
theorem cellc {c : List Nat} {W W' : World} (hT : Tch c W W') {p : Addr} {u : Value} (h : W.cell? p = some u) (hp : p.block ∉ c) : W'.cell? p = some u := (hT.cell (World.block_lt_of_cell? W p h) hp).trans h
theorem Tch.step {bs : List Nat} {w w' : World} (o : Obj) (h : w' = w.alloc o) : Tch bs w w' := by subst h; exact (Tch.refl _ _).alloc _
/-- A literal row of one element. -/
theorem ownL_one {α : Type} [Rep α] {lo N : Nat} {w : World} {b1 : List Nat} {cs : List Value} {x : α} (h : Own lo w b1 cs x) (hN : N = w.heap.size) (hlo : lo ≤ w.heap.size) (e : TypeId) :
    OwnL lo (w.alloc (.cells cs.toArray e)) e (.slice (some ⟨N, 0, none⟩) 1 1) (N :: b1) [x] := by
  subst hN
  have hl := Rep.len h.1
  have hlt : ∀ b ∈ b1, b < w.heap.size := Rep.lt h.1
  refine ⟨cs, [b1], ?_, Elems.single (Rep.keep h.1 fun b hb => Below.heap_alloc _ _ _ (hlt b hb)), by simp [Value.ownBlock], List.nodup_cons.2 ⟨fun hm => by have := hlt _ hm; omega, h.2.1⟩, ?_⟩
  · have := World.ownsRow_lit (size := size α) (e := e) w cs.toArray 1 hlo (by decide) (by simp [hl])
    simpa using this
  · intro b hb
    rcases List.mem_cons.1 hb with rfl | hb
    · exact ⟨hlo, _, _, heap_alloc_new w _⟩
    · exact ⟨(h.2.2 b hb).1, (h.2.2 b hb).2.keep (Below.heap_alloc _ _ _ (hlt b hb))⟩
/-- The first element, and the others. -/
theorem OwnL.uncons {α : Type} [Rep α] {lo : Nat} {w : World} {e : TypeId} {v : Value} {bs : List Nat} {x : α} {xs : List α} (h : OwnL lo w e v bs (x :: xs)) {P : Program} (t : TypeId) {i : TypeInfo} (ht : P.underlying t = some (.slice e)) (hi : P.info? e = some i) (hs : i.size = size α) :
    ∃ g cap b0 c0 bR a', v = .slice (some ⟨g, 0, none⟩) (xs.length + 1) cap ∧ g ∈ bs ∧ Own lo w b0 c0 x ∧ At w g 0 c0 ∧ (∀ W, (Instr.slice t v (some (.int .i64 1)) none none).run P W = .ok (.slice a' xs.length (cap - 1)) W) ∧
      Src w bR a' xs.length (cap - 1) xs ∧ bR.Nodup ∧ (∀ b ∈ bR, lo ≤ b ∧ Fr w b ∧ b ∈ bs ∧ b ≠ g) ∧ (∀ b ∈ b0, b ∈ bs ∧ b ∉ bR ∧ b ≠ g) := by
  have hsl := h.slc
  obtain ⟨cells, bss, hR, hE, rfl, hn, hf⟩ := h
  rcases hR.2 with ⟨rfl, h0⟩ | ⟨g, cap, cur, rfl, hg, hgg, hnc, hcm, hcs, ht2⟩
  · simp at h0
  obtain _ | ⟨b0, bss⟩ := bss
  · exact hE.elim
  obtain ⟨c0, rest, rfl, hp, hE2⟩ := hE
  simp only [Value.ownBlock, Option.toList_some, List.flatten_cons, List.length_cons] at hn hf hR hsl hnc ⊢
  have hn1 := List.nodup_append.1 hn
  have hn2 := List.nodup_append.1 hn1.2.1
  obtain ⟨a, cap2, bsx, ev, _, hS⟩ := hsl
  obtain ⟨ha, hcap⟩ : a = some ⟨g, 0, none⟩ ∧ cap2 = cap := by
    simp only [Value.slice.injEq] at ev
    exact ⟨ev.1.symm, ev.2.2.symm⟩
  subst ha hcap
  have hl0 := Rep.len hp
  have hl2 := hE2.length
  have hcell : ∀ j u, (c0 ++ rest)[j]? = some u → w.cell? ⟨g, j, none⟩ = some u := fun j u hj => by
    have h1 := (List.getElem?_eq_some_iff.1 hj).1
    rw [World.ownsRow.cellAt hR j (by rw [← hR.1]; exact h1)]; exact hj
  have hlen : xs.length + 1 - (1 : Int).toNat = xs.length := by simp
  refine ⟨g, cap2, b0, c0, bss.flatten, some (if cap2 = 1 then ⟨g, 0, none⟩ else ⟨g, size α, none⟩), rfl, by simp, ⟨hp, hn2.1, fun b hb => hf b (by simp [hb])⟩, ?_, ?_, ?_, hn2.2.1, ?_, ?_⟩
  · intro j u hj
    rw [Nat.zero_add]
    exact hcell j u (by rw [List.getElem?_append_left (List.getElem?_eq_some_iff.1 hj).1]; exact hj)
  · intro W
    have he : P.elem t = e := by simp [Program.elem, ht]
    rw [run_slice_l W t _ _ cap2 (by rw [he]; exact ht) .i64 1 (by omega) (by omega), he, run_sizeOf W hi]
    simp only [Result.andThen, sliced, Program.cellsOf, hi, Option.map_some, Option.getD_some, hs, Int.toNat_one, Nat.add_sub_cancel, Nat.one_mul]
    by_cases hc1 : cap2 = 1
    · simp [hc1]
    · simp [hc1, add_none]
  · refine ⟨rfl, .inr ⟨_, bss, rest, rfl, hE2, rfl, fun j u hj => ?_⟩⟩
    have h1 := (List.getElem?_eq_some_iff.1 hj).1
    have hx : 0 < xs.length := by
      rcases Nat.eq_zero_or_pos xs.length with h0 | h0
      · rw [h0] at hl2; omega
      · exact h0
    rw [if_neg (by omega), add_none]
    refine hcell _ u ?_
    rw [List.getElem?_append_right (by omega), show size α + j - c0.length = j by omega]
    exact hj
  · intro b hb
    exact ⟨(hf b (by simp [hb])).1, (hf b (by simp [hb])).2, by simp [hb], fun e => hn1.2.2 g (by simp) b (List.mem_append_right _ hb) e.symm⟩
  · intro b hb
    exact ⟨by simp [hb], fun hm => hn2.2.2 b hb b hm rfl, fun e => hn1.2.2 g (by simp) b (List.mem_append_left _ hb) e.symm⟩
end Go.G6
theorem Go.G6.Fr.lt {w : Go.World} {b : Nat} (h : Go.G6.Fr w b) : b < w.heap.size := by
  obtain ⟨c, e, h⟩ := h
  exact (Array.getElem?_eq_some_iff.1 h).1
namespace Go.G6
open Go.RowKit Rep
theorem Src.grow {α : Type} [Rep α] {w w' : World} {bs : List Nat} {a : Option Addr} {m c : Nat} {ys : List α} (h : Src w bs a m c ys) (hb : Below w.heap.size w w') : Src w' bs a m c ys := by
  obtain ⟨hm, h | ⟨ad, bss, news, rfl, hE, rfl, hn⟩⟩ := h
  · exact ⟨hm, .inl h⟩
  · exact ⟨hm, .inr ⟨ad, bss, news, rfl, hE.keep fun k hk => hb.block k (hE.lt k hk), rfl, fun j u hj => (hb.cell (p := ad.add j) (World.block_lt_of_cell? w _ (hn j u hj))).trans (hn j u hj)⟩⟩
end Go.G6
namespace Go.G6
open Go.RowKit Rep
theorem add_block (a : Addr) (j : Nat) : (a.add j).block = a.block := by unfold Addr.add; split <;> rfl
theorem Src.tch {α : Type} [Rep α] {w w' : World} {bs c' : List Nat} {ad : Addr} {m c : Nat} {ys : List α} (h : Src w bs (some ad) m c ys) (hT : Tch c' w w') (h1 : ad.block ∉ c') (h2 : ∀ b ∈ bs, b ∉ c') : Src w' bs (some ad) m c ys := by
  obtain ⟨hm, ⟨h, _⟩ | ⟨ad', bss, news, ha, hE, rfl, hn⟩⟩ := h
  · cases h
  · obtain rfl := Option.some.inj ha
    exact ⟨hm, .inr ⟨ad, bss, news, rfl, hE.keep fun k hk => hT.block k (hE.lt k hk) (h2 k hk), rfl, fun j u hj => (hT.cell (p := ad.add j) (World.block_lt_of_cell? w _ (hn j u hj)) (by rw [add_block]; exact h1)).trans (hn j u hj)⟩⟩
end Go.G6
namespace Go.G6
open Go.RowKit Rep
theorem held4_set {B : Nat} {w W : World} {p0 p1 p2 p3 q : Addr} {u0 u1 u2 u3 : Value} (v : Value) (h : Below B w W ∧ W.cell? p0 = some u0 ∧ W.cell? p1 = some u1 ∧ W.cell? p2 = some u2 ∧ W.cell? p3 = some u3) (hB : B ≤ q.block)
    (n0 : q.block ≠ p0.block) (n1 : q.block ≠ p1.block) (n2 : q.block ≠ p2.block) (n3 : q.block ≠ p3.block) :
    Below B w (W.setCell q v) ∧ (W.setCell q v).cell? p0 = some u0 ∧ (W.setCell q v).cell? p1 = some u1 ∧ (W.setCell q v).cell? p2 = some u2 ∧ (W.setCell q v).cell? p3 = some u3 :=
  ⟨h.1.setCell hB v, (World.cell?_setCell_far _ _ _ _ n0).trans h.2.1, (World.cell?_setCell_far _ _ _ _ n1).trans h.2.2.1, (World.cell?_setCell_far _ _ _ _ n2).trans h.2.2.2.1, (World.cell?_setCell_far _ _ _ _ n3).trans h.2.2.2.2⟩
theorem held3_set {B : Nat} {w W : World} {p0 p1 p2 q : Addr} {u0 u1 u2 : Value} (v : Value) (h : Below B w W ∧ W.cell? p0 = some u0 ∧ W.cell? p1 = some u1 ∧ W.cell? p2 = some u2) (hB : B ≤ q.block)
    (n0 : q.block ≠ p0.block) (n1 : q.block ≠ p1.block) (n2 : q.block ≠ p2.block) :
    Below B w (W.setCell q v) ∧ (W.setCell q v).cell? p0 = some u0 ∧ (W.setCell q v).cell? p1 = some u1 ∧ (W.setCell q v).cell? p2 = some u2 :=
  ⟨h.1.setCell hB v, (World.cell?_setCell_far _ _ _ _ n0).trans h.2.1, (World.cell?_setCell_far _ _ _ _ n1).trans h.2.2.1, (World.cell?_setCell_far _ _ _ _ n2).trans h.2.2.2⟩
/-- Two structures and a scalar. -/
def RetAAB {α β : Type} [Rep α] [Rep β] (w : World) (x : α) (y : β) (v : Value) (e : Ending) (w' : World) : Prop := ∃ cs bs cs2 bs2, e = .returned (.tuple #[.agg cs.toArray, .agg cs2.toArray, v]) ∧ Own w.heap.size w' bs cs x ∧ Own w.heap.size w' bs2 cs2 y ∧ (∀ b ∈ bs, b ∉ bs2) ∧ Below w.heap.size w w'
def RetAABP {α β : Type} [Rep α] [Rep β] (w : World) (x : α) (y : β) (v : Value) (e : Ending) (w' : World) : Prop := ∃ cs bs cs2 bs2, e = .returned (.tuple #[.agg cs.toArray, .agg cs2.toArray, v]) ∧ pt w' bs cs x ∧ pt w' bs2 cs2 y ∧ True ∧ Below w.heap.size w w'
end Go.G6
namespace Go.G6
open Go.RowKit Rep
theorem held3_drew {B : Nat} {w W : World} {p0 p1 p2 : Addr} {u0 u1 u2 : Value} (h : Below B w W ∧ W.cell? p0 = some u0 ∧ W.cell? p1 = some u1 ∧ W.cell? p2 = some u2) :
    Below B w W.drew ∧ W.drew.cell? p0 = some u0 ∧ W.drew.cell? p1 = some u1 ∧ W.drew.cell? p2 = some u2 := ⟨h.1.drew, h.2⟩
end Go.G6
namespace Go.G6
open Go.RowKit Rep
theorem box_alloc {W0 W : World} {b : Nat} {c : Array Value} (hs : Below W0.heap.size W0 W) (hlt : b < W0.heap.size) (h : ∀ o, W.cell? ⟨b, o, none⟩ = c[o]?) (ob : Obj) : ∀ o, (W.alloc ob).cell? ⟨b, o, none⟩ = c[o]? :=
  fun o => (World.cell?_alloc_lt _ _ ⟨b, o, none⟩ (Nat.lt_of_lt_of_le hlt hs.size)).trans (h o)
theorem box_set {W : World} {b : Nat} {q : Addr} {c : Array Value} (h : ∀ o, W.cell? ⟨b, o, none⟩ = c[o]?) (hn : q.block ≠ b) (v : Value) : ∀ o, (W.setCell q v).cell? ⟨b, o, none⟩ = c[o]? :=
  fun o => (World.cell?_setCell_far _ _ _ _ hn).trans (h o)
end Go.G6
namespace Go.G6
open Go.RowKit Rep
theorem held4_drew {B : Nat} {w W : World} {p0 p1 p2 p3 : Addr} {u0 u1 u2 u3 : Value} (h : Below B w W ∧ W.cell? p0 = some u0 ∧ W.cell? p1 = some u1 ∧ W.cell? p2 = some u2 ∧ W.cell? p3 = some u3) :
    Below B w W.drew ∧ W.drew.cell? p0 = some u0 ∧ W.drew.cell? p1 = some u1 ∧ W.drew.cell? p2 = some u2 ∧ W.drew.cell? p3 = some u3 := ⟨h.1.drew, h.2⟩
end Go.G6
namespace Go.G6
open Go.RowKit Rep
theorem below_via {w2 X wz : World} (hb2 : Below X.heap.size X wz) (h : Below w2.heap.size w2 X) : Below w2.heap.size w2 wz := h.trans (hb2.mono h.size)
theorem box_via {w2 X wz : World} {b : Nat} {c : Array Value} (hb2 : Below X.heap.size X wz) (h : Below w2.heap.size w2 X) (hlt : b < w2.heap.size) (hB : ∀ o, X.cell? ⟨b, o, none⟩ = c[o]?) : ∀ o, wz.cell? ⟨b, o, none⟩ = c[o]? :=
  fun o => (hb2.cell (p := ⟨b, o, none⟩) (Nat.lt_of_lt_of_le hlt h.size)).trans (hB o)
end Go.G6
theorem Go.G6.Own.drew {α : Type} [Go.G6.Rep α] {lo : Nat} {w : Go.World} {bs : List Nat} {cs : List Go.Value} {a : α} (h : Go.G6.Own lo w bs cs a) : Go.G6.Own lo w.drew bs cs a := h.keep fun _ _ => rfl

namespace Go.G6
open Go.RowKit Rep
theorem late_genw {K : World → Prop} {W : World} (h : ∀ U, U = W → K U) : K W := h W rfl
theorem late_gen {K : Act → World → Prop} {a : Act} {W : World} (h : ∀ U, U = W → K a U) : K a W := h W rfl
theorem Slc.setc {α : Type} [Rep α] {w : World} {bs : List Nat} {a : Option Addr} {len cap : Nat} {xs : List α} {p : Addr} (h : Slc w bs a len cap xs) (hn : ∀ b ∈ bs, b ≠ p.block) (v : Value) : Slc (w.setCell p v) bs a len cap xs :=
  pt_slice.1 (Rep.keep (pt_slice.2 h) fun b hb => Below.heap_setCell _ _ _ _ (hn b hb))
/-- A structure whose blocks are the call's own, and a scalar. -/
def RetABQ {α : Type} [Rep α] (w : World) (x : α) (y : Value) (e : Ending) (w' : World) : Prop := ∃ cs bs, e = .returned (.tuple #[.agg cs.toArray, y]) ∧ pt w' bs cs x ∧ (∀ b ∈ bs, w.heap.size ≤ b) ∧ Below w.heap.size w w'
end Go.G6

namespace Go.G6
open Go.RowKit
section
variable {P : Program} {ops : Array Oper} {Q : Exit → Act → World → Prop} {md : Region.Mode} {S : World → Prop} {L : Nat}
/-- One of three. -/
theorem late_three {i j k : Nat} {o o' o'' : Oper} {fuel : Nat} {listed : Array Bool} {a : Act} {w : World} (ho : ops[i]? = some o) (ho' : ops[j]? = some o') (ho'' : ops[k]? = some o'') (hr : Region.ready md ops listed = [i, j, k])
    (h : ∀ K' : Act → World → Prop, Shut (∀ a w, (i ≠ L → S w) → ((i ≠ L → S w) → wpAnyL P md ops Q S L fuel (listed.setIfInBounds i true) a w) → K' a w) → if Region.wanted o (yielded ops a.tmps) = true then Oper.wp P o a w K' Q else K' (a.put o.dst undef) w)
    (h' : ∀ K' : Act → World → Prop, Shut (∀ a w, (j ≠ L → S w) → ((j ≠ L → S w) → wpAnyL P md ops Q S L fuel (listed.setIfInBounds j true) a w) → K' a w) → if Region.wanted o' (yielded ops a.tmps) = true then Oper.wp P o' a w K' Q else K' (a.put o'.dst undef) w)
    (h'' : ∀ K' : Act → World → Prop, Shut (∀ a w, (k ≠ L → S w) → ((k ≠ L → S w) → wpAnyL P md ops Q S L fuel (listed.setIfInBounds k true) a w) → K' a w) → if Region.wanted o'' (yielded ops a.tmps) = true then Oper.wp P o'' a w K' Q else K' (a.put o''.dst undef) w) :
    wpAnyL P md ops Q S L (fuel + 1) listed a w := by
  refine ⟨fun h0 => (by rw [hr] at h0; cases h0), fun m hm => ?_⟩
  rw [hr] at hm
  simp only [List.mem_cons, List.not_mem_nil, or_false] at hm
  rcases hm with rfl | rfl | rfl
  · exact wpOp_step ho (fun K' hK => h K' (fun a w hS hW => hK a w ⟨hS, hW hS⟩))
  · exact wpOp_step ho' (fun K' hK => h' K' (fun a w hS hW => hK a w ⟨hS, hW hS⟩))
  · exact wpOp_step ho'' (fun K' hK => h'' K' (fun a w hS hW => hK a w ⟨hS, hW hS⟩))
end
end Go.G6
