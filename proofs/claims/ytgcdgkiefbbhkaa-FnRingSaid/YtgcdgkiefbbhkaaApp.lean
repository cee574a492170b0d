/- Appends, cuts and copies, told by readings. -/
import Derived.Test.YtgcdgkiefbbhkaaTypes
import Derived.Laws.OwnMore
import Derived.Maps.AppendAt
import Derived.ChangeKeysEq
import Derived.RegionTactic
import Derived.Laws.IdiomStrings
set_option linter.unusedSimpArgs false
set_option linter.unusedVariables false
namespace Go.G6
open Go.RowKit Rep

/-- A list that the call builds in a row of its own; bs: the blocks that it goes through. -/
def OwnL {α : Type} [Rep α] (lo : Nat) (w : World) (e : TypeId) (v : Value) (bs : List Nat) (xs : List α) : Prop :=
  ∃ cells bss, w.ownsRow lo e (size α) v xs.length cells ∧ Elems w bss cells xs ∧ bs = v.ownBlock.toList ++ bss.flatten ∧ bs.Nodup ∧ ∀ b ∈ bs, lo ≤ b ∧ Fr w b

section
variable {α : Type} [Rep α] {lo : Nat} {w w' : World} {e : TypeId} {v : Value} {bs : List Nat} {xs : List α}

theorem ownBlock_mem {v : Value} {b : Nat} : b ∈ v.ownBlock.toList ↔ v.ownBlock = some b := by
  cases v.ownBlock <;> simp [eq_comm]

theorem OwnL.lts (h : OwnL lo w e v bs xs) : ∀ b ∈ bs, lo ≤ b ∧ b < w.heap.size := by
  obtain ⟨cells, bss, hR, hE, rfl, hn, hf⟩ := h
  intro b hb
  refine ⟨(hf b hb).1, ?_⟩
  rcases List.mem_append.1 hb with hb | hb
  · exact (hR.lt b (ownBlock_mem.1 hb)).2
  · exact hE.lt b hb

theorem OwnL.keep (h : OwnL lo w e v bs xs) (hk : ∀ b ∈ bs, w'.heap[b]? = w.heap[b]?) : OwnL lo w' e v bs xs := by
  obtain ⟨cells, bss, hR, hE, rfl, hn, hf⟩ := h
  refine ⟨cells, bss, ⟨hR.1, ?_⟩, hE.keep fun k hk' => hk k (List.mem_append_right _ hk'), rfl, hn, fun b hb => ⟨(hf b hb).1, (hf b hb).2.keep (hk b hb)⟩⟩
  rcases hR.2 with h0 | ⟨g, cap, cur, rfl, hg, hgg, rest⟩
  · exact .inl h0
  · exact .inr ⟨g, cap, cur, rfl, hg, (hk g (by simp [Value.ownBlock])).trans hgg, rest⟩

theorem OwnL.grow (h : OwnL lo w e v bs xs) (hb : Below w.heap.size w w') : OwnL lo w' e v bs xs := h.keep fun b hb' => hb.block b (h.lts b hb').2
theorem OwnL.tch {bs' : List Nat} (h : OwnL lo w e v bs xs) (ht : Tch bs' w w') (hd : ∀ x ∈ bs, x ∉ bs') : OwnL lo w' e v bs xs := h.keep fun b hb => ht.block b (h.lts b hb).2 (hd b hb)
theorem OwnL.alloc (h : OwnL lo w e v bs xs) (o : Obj) : OwnL lo (w.alloc o) e v bs xs := h.keep fun b hb => Below.heap_alloc _ _ _ (h.lts b hb).2
theorem OwnL.drew (h : OwnL lo w e v bs xs) : OwnL lo w.drew e v bs xs := h.keep fun _ _ => rfl
theorem OwnL.setCell (h : OwnL lo w e v bs xs) {p : Addr} (hp : ∀ b ∈ bs, b ≠ p.block) (u : Value) : OwnL lo (w.setCell p u) e v bs xs := h.keep fun b hb => Below.heap_setCell _ _ _ _ (hp b hb)
theorem OwnL.setLow (h : OwnL lo w e v bs xs) {p : Addr} (hp : p.block < lo) (u : Value) : OwnL lo (w.setCell p u) e v bs xs := h.setCell (fun b hb => by have := (h.lts b hb).1; omega) u
theorem OwnL.mono {lo' : Nat} (h : OwnL lo w e v bs xs) (hl : lo' ≤ lo) : OwnL lo' w e v bs xs := by
  obtain ⟨cells, bss, hR, hE, rfl, hn, hf⟩ := h
  refine ⟨cells, bss, ⟨hR.1, ?_⟩, hE, rfl, hn, fun b hb => ⟨Nat.le_trans hl (hf b hb).1, (hf b hb).2⟩⟩
  rcases hR.2 with h0 | ⟨g, cap, cur, rfl, hg, rest⟩
  · exact .inl h0
  · exact .inr ⟨g, cap, cur, rfl, Nat.le_trans hl hg, rest⟩
theorem OwnL.slice (h : OwnL lo w e v bs xs) : ∃ a cap, v = .slice a xs.length cap := by
  obtain ⟨cells, bss, hR, _⟩ := h
  rcases hR.2 with ⟨rfl, h0⟩ | ⟨g, cap, cur, rfl, _⟩
  · exact ⟨none, 0, by rw [h0]⟩
  · exact ⟨_, _, rfl⟩
theorem OwnL.nil (lo : Nat) (w : World) (e : TypeId) : OwnL lo w e (.slice none 0 0) [] ([] : List α) :=
  ⟨[], [], World.ownsRow_nil _ _ _ _, rfl, rfl, List.nodup_nil, fun b hb => by cases hb⟩
theorem OwnL.own (h : OwnL lo w e v bs xs) : ∃ bs', (∀ b ∈ bs', b ∈ bs) ∧ Own lo w bs' [v] xs := by
  obtain ⟨cells, bss, hR, hE, rfl, hn, hf⟩ := h
  have hn' := List.nodup_append.1 hn
  obtain ⟨a, cap, hv⟩ := OwnL.slice (bs := v.ownBlock.toList ++ bss.flatten) ⟨cells, bss, hR, hE, rfl, hn, hf⟩
  rcases hR.2 with ⟨rfl, h0⟩ | ⟨g, cap, cur, rfl, hg, hgg, hnc, hcm, hcs, ht⟩
  · have : xs = [] := List.eq_nil_of_length_eq_zero h0
    subst this
    exact ⟨[], by simp, ⟨none, 0, 0, rfl, rfl, Nat.le_refl _, Nat.zero_le _, .inl ⟨rfl, rfl, fun _ => rfl⟩⟩, List.nodup_nil, fun b hb => by cases hb⟩
  · by_cases hx : xs = []
    · subst hx
      exact ⟨[], by simp, ⟨_, _, _, rfl, rfl, hnc, hcm, .inl ⟨rfl, rfl, fun h => by cases h⟩⟩, List.nodup_nil, fun b hb => by cases hb⟩
    · have hlt : g < w.heap.size := (Array.getElem?_eq_some_iff.1 hgg).1
      refine ⟨g :: bss.flatten, by simp [Value.ownBlock], ⟨_, _, _, rfl, rfl, hnc, hcm, .inr ⟨hx, g, 0, bss, cells, rfl, hlt, rfl, hE, fun j u hj => ?_⟩⟩, ?_, ?_⟩
      · rw [Nat.zero_add, cell_of_row w g j cur e (0, 0) hgg]
        rw [← ht, List.getElem?_take] at hj
        split at hj
        · simpa using hj
        · cases hj
      · simpa [Value.ownBlock] using hn
      · intro b hb'
        exact hf b (by simpa [Value.ownBlock] using hb')
theorem OwnL.slc (h : OwnL lo w e v bs xs) : ∃ a cap bs', v = .slice a xs.length cap ∧ (∀ b ∈ bs', b ∈ bs) ∧ Slc w bs' a xs.length cap xs := by
  obtain ⟨a, cap, rfl⟩ := h.slice
  obtain ⟨bs', h1, h2⟩ := h.own
  exact ⟨a, cap, bs', rfl, h1, pt_slice.1 h2.1⟩
end

/-- What is appended: elements that lie in a row somewhere. -/
def Src {α : Type} [Rep α] (w : World) (bs : List Nat) (a : Option Addr) (m c : Nat) (ys : List α) : Prop :=
  m = ys.length ∧ ((a = none ∧ c = 0 ∧ ys = [] ∧ bs = []) ∨ ∃ ad bss news, a = some ad ∧ Elems w bss news ys ∧ bs = bss.flatten ∧ ∀ j u, news[j]? = some u → w.cell? (ad.add j) = some u)

theorem add_none (b off j : Nat) : (⟨b, off, none⟩ : Addr).add j = ⟨b, off + j, none⟩ := by unfold Addr.add; split <;> simp_all

theorem Slc.src {α : Type} [Scal α] {w : World} {bs : List Nat} {a : Option Addr} {m c : Nat} {ys : List α} (h : Slc w bs a m c ys) : Src w [] a m c ys := by
  obtain ⟨h1, h2, h3, ⟨rfl, rfl, h5⟩ | ⟨_, b, off, bss, cells, rfl, _, _, hE, hA⟩⟩ := h
  · refine ⟨h1, ?_⟩
    cases a with
    | none => exact .inl ⟨rfl, h5 rfl, rfl, rfl⟩
    | some ad => exact .inr ⟨ad, [], [], rfl, rfl, rfl, by simp⟩
  · refine ⟨h1, .inr ⟨_, bss, cells, rfl, hE, (flat_nil (elems_scal' hE).2.2).symm, fun j u hj => ?_⟩⟩
    rw [add_none]
    exact hA j u hj
theorem Slc.srcs {α : Type} [Rep α] {w : World} {bs : List Nat} {a : Option Addr} {m c : Nat} {ys : List α} (h : Slc w bs a m c ys) : ∃ b2, Src w b2 a m c ys ∧ (∀ b ∈ b2, b ∈ bs) ∧ (bs.Nodup → b2.Nodup) := by
  obtain ⟨h1, h2, h3, ⟨rfl, rfl, h5⟩ | ⟨_, b, off, bss, cells, rfl, _, rfl, hE, hA⟩⟩ := h
  · refine ⟨[], ⟨h1, ?_⟩, by simp, by simp⟩
    cases a with
    | none => exact .inl ⟨rfl, h5 rfl, rfl, rfl⟩
    | some ad => exact .inr ⟨ad, [], [], rfl, rfl, rfl, by simp⟩
  · refine ⟨bss.flatten, ⟨h1, .inr ⟨_, bss, cells, rfl, hE, rfl, fun j u hj => ?_⟩⟩, fun b hb => List.mem_cons_of_mem _ hb, fun hn => (List.nodup_cons.1 hn).2⟩
    rw [add_none]
    exact hA j u hj
/-- One element, laid as a new block. -/
theorem src_one {α : Type} [Rep α] {w : World} {b2 : List Nat} {cs : List Value} {y : α} (h : pt w b2 cs y) (t : TypeId) (c : Nat) : Src (w.alloc (.cells cs.toArray t)) b2 (some ⟨w.heap.size, 0, none⟩) 1 c [y] := by
  refine ⟨rfl, .inr ⟨_, [b2], cs, rfl, Elems.single (Rep.keep h fun b hb => Below.heap_alloc _ _ _ (Rep.lt h b hb)), by simp, fun j u hj => ?_⟩⟩
  rw [add_none, Nat.zero_add, World.cell?_alloc_new]
  simpa using hj

section
variable {P : Program} {w : World}

theorem run_append_L {α : Type} [Rep α] (t ty : TypeId)
    (e : TypeId) (i : TypeInfo) (z : Value) (bytes : Nat) (ht : P.underlying t = some (.slice e)) (hi : P.info? e = some i) (hz : i.zero = some z) (hsize : i.size = size α) (hby : i.bytes = bytes) (hzs : z.cells.size = size α)
    {lo : Nat} {v : Value} {bs : List Nat} {xs : List α} (hown : OwnL lo w e v bs xs)
    {a' : Option Addr} {m c : Nat} {b2 : List Nat} {ys : List α} (hsrc : Src w b2 a' m c ys) (hb2 : b2.Nodup) (hf2 : ∀ b ∈ b2, lo ≤ b ∧ Fr w b ∧ b ∉ bs)
    (hbytes : (xs.length + ys.length) * bytes ≤ 140737488355328) (h63 : xs.length + ys.length ≤ 9223372036854775807) (hlo : lo ≤ w.heap.size) :
    ∃ v' w' bs', (Builtin.append_ #[t, t] ty #[v, .slice a' m c]).run P w = .ok v' w' ∧ OwnL lo w' e v' bs' (xs ++ ys) ∧ Tch bs w w' ∧ (∀ b ∈ bs', b ∈ bs ∨ b ∈ b2 ∨ w.heap.size ≤ b) := by
  have hlt := hown.lts
  obtain ⟨cells, bss, hR, hE, rfl, hn, hf⟩ := hown
  obtain ⟨hm, ⟨rfl, rfl, rfl, rfl⟩ | ⟨ad, bss2, news, rfl, hE2, rfl, hnews⟩⟩ := hsrc
  · subst hm
    refine ⟨v, w, _, run_append_owned_none (P := P) (w := w) lo t ty e i (size α) ht hi v xs.length cells hR, ?_, Tch.refl _ _, fun b hb => .inl hb⟩
    rw [List.append_nil]
    exact ⟨cells, bss, hR, hE, rfl, hn, hf⟩
  · subst hm
    have hl2 := hE2.length
    obtain ⟨v', w', hr, hR', hg, _, hat⟩ := run_append_own_at (P := P) w lo t ty e i z (size α) bytes ht hi hz hsize hby hzs Rep.pos v xs.length cells hR ad _ c news hl2.2 hnews hE2.one h63 hbytes hlo
    have hsz := hg.size
    have hk : ∀ k, k < w.heap.size → v.ownBlock ≠ some k → w'.heap[k]? = w.heap[k]? := fun k hk hne => hg.block k hk fun e => hne e.symm
    have hn' := List.nodup_append.1 hn
    have ha : ∀ k ∈ bss.flatten, v.ownBlock ≠ some k := fun k hk e => hn'.2.2 k (ownBlock_mem.2 e) k hk rfl
    have hb : ∀ k ∈ bss2.flatten, v.ownBlock ≠ some k := fun k hk e => (hf2 k hk).2.2 (List.mem_append_left _ (ownBlock_mem.2 e))
    have hv' : ∀ k, v'.ownBlock = some k → v.ownBlock = some k ∨ k = w.heap.size := fun k hk => by
      rcases hat with h1 | h1
      · exact .inl (h1.symm.trans hk)
      · rw [h1] at hk; cases hk; exact .inr rfl
    refine ⟨v', w', v'.ownBlock.toList ++ (bss ++ bss2).flatten, hr, ⟨cells ++ news, bss ++ bss2, ?_, ?_, rfl, ?_, ?_⟩, ?_, ?_⟩
    · rw [List.length_append]; exact hR'
    · exact (hE.keep fun k hk' => hk k (hE.lt k hk') (ha k hk')).append (hE2.keep fun k hk' => hk k (hE2.lt k hk') (hb k hk'))
    · rw [List.flatten_append]
      refine List.nodup_append.2 ⟨?_, List.nodup_append.2 ⟨hn'.2.1, hb2, fun k hk1 k2 hk2 e => (hf2 k2 hk2).2.2 (List.mem_append_right _ (e ▸ hk1))⟩, ?_⟩
      · cases v'.ownBlock <;> simp
      · intro k hk1 k2 hk2 e
        subst e
        rcases hv' k (ownBlock_mem.1 hk1) with h1 | h1
        · rcases List.mem_append.1 hk2 with h2 | h2
          · exact ha k h2 h1
          · exact hb k h2 h1
        · rcases List.mem_append.1 hk2 with h2 | h2
          · have := hE.lt k h2; omega
          · have := hE2.lt k h2; omega
    · intro k hk1
      rcases List.mem_append.1 hk1 with hk1 | hk1
      · have h1 := hR'.lt k (ownBlock_mem.1 hk1)
        refine ⟨h1.1, ?_⟩
        have e1 := ownBlock_mem.1 hk1
        rcases hR'.2 with ⟨rfl, _⟩ | ⟨g, cap, cur, rfl, _, hgg, _⟩
        · simp [Value.ownBlock] at e1
        · simp [Value.ownBlock] at e1
          subst e1
          exact ⟨_, _, hgg⟩
      · rw [List.flatten_append] at hk1
        rcases List.mem_append.1 hk1 with h2 | h2
        · exact ⟨(hf k (List.mem_append_right _ h2)).1, (hf k (List.mem_append_right _ h2)).2.keep (hk k (hE.lt k h2) (ha k h2))⟩
        · exact ⟨(hf2 k h2).1, (hf2 k h2).2.1.keep (hk k (hE2.lt k h2) (hb k h2))⟩
    · refine ⟨hg.os, hg.tape, hg.output, hg.size, fun k hk1 hk2 => hk k hk1 fun e => hk2 (List.mem_append_left _ (ownBlock_mem.2 e))⟩
    · intro k hk1
      rcases List.mem_append.1 hk1 with hk1 | hk1
      · rcases hv' k (ownBlock_mem.1 hk1) with h1 | h1
        · exact .inl (List.mem_append_left _ (ownBlock_mem.2 h1))
        · exact .inr (.inr (by omega))
      · rw [List.flatten_append] at hk1
        rcases List.mem_append.1 hk1 with h2 | h2
        · exact .inl (List.mem_append_right _ h2)
        · exact .inr (.inl h2)

theorem oper_append {α : Type} [Rep α] {o : Oper} {a : Act} {K : Act → World → Prop} {Q : Exit → Act → World → Prop} (s x : Operand) (t : TypeId)
    (ho : o.op = .call { callee := .builtin .append, args := #[s, x], argTypes := #[t, t] })
    (e : TypeId) (i : TypeInfo) (z : Value) (bytes : Nat) (ht : P.underlying t = some (.slice e)) (hi : P.info? e = some i) (hz : i.zero = some z) (hsize : i.size = size α) (hby : i.bytes = bytes) (hzs : z.cells.size = size α)
    {lo : Nat} {v : Value} {bs : List Nat} {xs : List α} (hs : a.eval s = v) (hown : OwnL lo w e v bs xs)
    {a' : Option Addr} {m c : Nat} {b2 : List Nat} {ys : List α} (hx : a.eval x = .slice a' m c) (hsrc : Src w b2 a' m c ys) (hb2 : b2.Nodup) (hf2 : ∀ b ∈ b2, lo ≤ b ∧ Fr w b ∧ b ∉ bs)
    (hbytes : (xs.length + ys.length) * bytes ≤ 140737488355328) (h63 : xs.length + ys.length ≤ 9223372036854775807) (hlo : lo ≤ w.heap.size)
    (h : ∀ p k w' bs', OwnL lo w' e (.slice p (xs.length + ys.length) k) bs' (xs ++ ys) → Tch bs w w' → (∀ b ∈ bs', b ∈ bs ∨ b ∈ b2 ∨ w.heap.size ≤ b) → K (a.put o.dst (.slice p (xs.length + ys.length) k)) w') : o.wp P a w K Q := by
  obtain ⟨v', w', bs', hr, h1, h2, h3⟩ := run_append_L (P := P) t o.type e i z bytes ht hi hz hsize hby hzs hown hsrc hb2 hf2 hbytes h63 hlo
  obtain ⟨p, k, rfl⟩ := h1.slice
  rw [List.length_append] at hr h1
  unfold Oper.wp execOp
  simp only [ho, resolve, invoke, builtin, Sem.run_bind, Sem.run_pure, Result.andThen_ok, List.map_toArray, List.map_cons, List.map_nil, hs, hx, hr]
  exact h p k w' bs' h1 h2 h3

theorem wp_append {α : Type} [Rep α] {ops : Array Oper} {rest : List Oper} {o : Oper} {a : Act} {Q : Exit → Act → World → Prop} (hgd : o.guard = none) (s x : Operand) (t : TypeId)
    (ho : o.op = .call { callee := .builtin .append, args := #[s, x], argTypes := #[t, t] })
    (e : TypeId) (i : TypeInfo) (z : Value) (bytes : Nat) (ht : P.underlying t = some (.slice e)) (hi : P.info? e = some i) (hz : i.zero = some z) (hsize : i.size = size α) (hby : i.bytes = bytes) (hzs : z.cells.size = size α)
    {lo : Nat} {v : Value} {bs : List Nat} {xs : List α} (hs : a.eval s = v) (hown : OwnL lo w e v bs xs)
    {a' : Option Addr} {m c : Nat} {b2 : List Nat} {ys : List α} (hx : a.eval x = .slice a' m c) (hsrc : Src w b2 a' m c ys) (hb2 : b2.Nodup) (hf2 : ∀ b ∈ b2, lo ≤ b ∧ Fr w b ∧ b ∉ bs)
    (hbytes : (xs.length + ys.length) * bytes ≤ 140737488355328) (h63 : xs.length + ys.length ≤ 9223372036854775807) (hlo : lo ≤ w.heap.size)
    (h : ∀ p k w' bs', OwnL lo w' e (.slice p (xs.length + ys.length) k) bs' (xs ++ ys) → Tch bs w w' → (∀ b ∈ bs', b ∈ bs ∨ b ∈ b2 ∨ w.heap.size ≤ b) → wpList P ops Q rest (a.put o.dst (.slice p (xs.length + ys.length) k)) w') : wpList P ops Q (o :: rest) a w :=
  wpList_plain hgd fun _ hK => oper_append s x t ho e i z bytes ht hi hz hsize hby hzs hs hown hx hsrc hb2 hf2 hbytes h63 hlo fun p k w' bs' h1 h2 h3 => hK _ _ (h p k w' bs' h1 h2 h3)

/-- At a step of a region that draws its order. -/
theorem step_append {α : Type} [Rep α] {ops : Array Oper} {o : Oper} {a : Act} {K : Act → World → Prop} {Q : Exit → Act → World → Prop} {E : Prop} (hgd : o.guard = none) (s x : Operand) (t : TypeId)
    (ho : o.op = .call { callee := .builtin .append, args := #[s, x], argTypes := #[t, t] })
    (e : TypeId) (i : TypeInfo) (z : Value) (bytes : Nat) (ht : P.underlying t = some (.slice e)) (hi : P.info? e = some i) (hz : i.zero = some z) (hsize : i.size = size α) (hby : i.bytes = bytes) (hzs : z.cells.size = size α)
    {lo : Nat} {v : Value} {bs : List Nat} {xs : List α} (hs : a.eval s = v) (hown : OwnL lo w e v bs xs)
    {a' : Option Addr} {m c : Nat} {b2 : List Nat} {ys : List α} (hx : a.eval x = .slice a' m c) (hsrc : Src w b2 a' m c ys) (hb2 : b2.Nodup) (hf2 : ∀ b ∈ b2, lo ≤ b ∧ Fr w b ∧ b ∉ bs)
    (hbytes : (xs.length + ys.length) * bytes ≤ 140737488355328) (h63 : xs.length + ys.length ≤ 9223372036854775807) (hlo : lo ≤ w.heap.size)
    (h : ∀ p k w' bs', OwnL lo w' e (.slice p (xs.length + ys.length) k) bs' (xs ++ ys) → Tch bs w w' → (∀ b ∈ bs', b ∈ bs ∨ b ∈ b2 ∨ w.heap.size ≤ b) → K (a.put o.dst (.slice p (xs.length + ys.length) k)) w') :
    if Region.wanted o (yielded ops a.tmps) = true then Oper.wp P o a w K Q else E := by
  have hw : Region.wanted o (yielded ops a.tmps) = true := by simp [Region.wanted, hgd]
  rw [if_pos hw]
  exact oper_append s x t ho e i z bytes ht hi hz hsize hby hzs hs hown hx hsrc hb2 hf2 hbytes h63 hlo h
end

/-- A literal row of numbers or strings. -/
theorem OwnL.lit {α : Type} [Scal α] {lo : Nat} (w : World) (e : TypeId) (cs : Array Value) (xs : List α) (hc : cs.toList = xs.map Scal.val) (hx : ∀ x ∈ xs, Scal.ok x) (hlo : lo ≤ w.heap.size) (hm : xs.length ≤ maxLen) {n : Nat} (hn : n = xs.length) :
    OwnL lo (w.alloc (.cells cs e)) e (.slice (some ⟨w.heap.size, 0, none⟩) n n) [w.heap.size] xs := by
  subst hn
  have hl : cs.size = xs.length := by rw [← Array.length_toList, hc, List.length_map]
  have hf : (xs.map fun _ => ([] : List Nat)).flatten = [] := flat_nil (by simp)
  refine ⟨cs.toList, xs.map fun _ => [], ?_, ?_, ?_, by simp, ?_⟩
  · exact World.ownsRow_lit w cs xs.length hlo hm (by rw [hl, Scal.size1 (α := α), Nat.mul_one])
  · rw [hc]; exact elems_scal hx
  · rw [hf]; rfl
  · intro b hb
    simp at hb; subst hb
    exact ⟨hlo, cs, e, heap_alloc_new w _⟩
theorem flat_sub {α : Type} {l1 l2 : List (List α)} (h : List.Sublist l1 l2) : List.Sublist l1.flatten l2.flatten := by
  induction h with
  | slnil => exact List.Sublist.refl _
  | cons a _ ih => rw [List.flatten_cons]; exact ih.trans (List.sublist_append_right _ _)
  | cons_cons a _ ih => rw [List.flatten_cons, List.flatten_cons]; exact List.Sublist.append (List.Sublist.refl _) ih
/-- A part of a slice. -/
theorem Slc.cut {α : Type} [Rep α] {w : World} {bs : List Nat} {a : Option Addr} {len cap : Nat} {xs : List α} (h : Slc w bs a len cap xs) (i j : Nat) (hij : i ≤ j) (hj : j ≤ len) :
    ∃ bs', (∀ b ∈ bs', b ∈ bs) ∧ (bs.Nodup → bs'.Nodup) ∧ Slc w bs' (if cap = i then a else a.map (·.add (i * size α))) (j - i) (cap - i) ((xs.take j).drop i) := by
  obtain ⟨hl, hlc, hcm, hh⟩ := h
  have hlen : ((xs.take j).drop i).length = j - i := by simp; omega
  rcases hh with ⟨rfl, rfl, h5⟩ | ⟨hne, b, off, bss, cells, rfl, hlt, rfl, hE, hA⟩
  · refine ⟨[], by simp, by simp, hlen.symm, by omega, by omega, .inl ⟨by simp, rfl, fun h => ?_⟩⟩
    cases a with
    | none => have := h5 rfl; omega
    | some p => split at h <;> simp at h
  · by_cases he : i = j
    · subst he
      refine ⟨[], by simp, by simp, hlen.symm, by omega, by omega, .inl ⟨List.eq_nil_of_length_eq_zero (by omega), rfl, fun h => ?_⟩⟩
      split at h <;> simp at h
    · have hic : i < cap := by omega
      have hcl := hE.length.2
      rw [if_neg (by omega)]
      have hsub : List.Sublist ((bss.take j).drop i).flatten bss.flatten := flat_sub ((List.drop_sublist _ _).trans (List.take_sublist _ _))
      refine ⟨b :: ((bss.take j).drop i).flatten, ?_, ?_, hlen.symm, by omega, by omega, .inr ⟨fun h => by rw [h] at hlen; simp at hlen; omega, b, off + i * size α, (bss.take j).drop i, (cells.take (j * size α)).drop (i * size α), by rw [Option.map_some, add_none], hlt, rfl, (hE.take j).drop i, ?_⟩⟩
      · intro x hx
        rcases List.mem_cons.1 hx with rfl | hx
        · simp
        · exact List.mem_cons_of_mem _ (hsub.subset hx)
      · intro hn
        exact (hsub.cons_cons b).nodup hn
      · refine (hA.take _).drop _ ?_
        rw [List.length_take, hcl]
        have : i * size α ≤ j * size α := Nat.mul_le_mul_right _ hij
        have : j * size α ≤ xs.length * size α := Nat.mul_le_mul_right _ (by omega)
        omega

section
variable {α : Type} [Rep α] {P : Program} {w : World} {bs : List Nat} {a : Option Addr} {len cap : Nat} {xs : List α}
/-- The equation of a cut, for the walk, and what the part reads as. -/
theorem Slc.cut_lh (h : Slc w bs a len cap xs) (t : TypeId) {e : TypeId} {i : TypeInfo} (ht : P.underlying t = some (.slice e)) (hi : P.info? e = some i) (hs : i.size = size α) (l u : Int) (h0 : 0 ≤ l) (h1 : l ≤ u) (h2 : u ≤ xs.length) :
    ∃ a' bs', (∀ W, (Instr.slice t (.slice a len cap) (some (.int .i64 l)) (some (.int .i64 u)) none).run P W = .ok (.slice a' (u.toNat - l.toNat) (cap - l.toNat)) W) ∧ (∀ b ∈ bs', b ∈ bs) ∧ (bs.Nodup → bs'.Nodup) ∧ Slc w bs' a' (u.toNat - l.toNat) (cap - l.toNat) ((xs.take u.toNat).drop l.toNat) := by
  have hl := h.1
  have hc := h.2.1
  obtain ⟨bs', hb, hn, hS⟩ := h.cut l.toNat u.toNat (by omega) (by omega)
  refine ⟨_, bs', fun W => ?_, hb, hn, hS⟩
  have he : P.elem t = e := by simp [Program.elem, ht]
  rw [run_slice_lh W t a len cap (by rw [he]; exact ht) .i64 .i64 l u h0 h1 (by omega), he, run_sizeOf W hi]
  simp only [Result.andThen, sliced, Program.cellsOf, hi, Option.map_some, Option.getD_some, hs]
theorem Slc.cut_h (h : Slc w bs a len cap xs) (t : TypeId) {e : TypeId} {i : TypeInfo} (ht : P.underlying t = some (.slice e)) (hi : P.info? e = some i) (hs : i.size = size α) (u : Int) (h1 : 0 ≤ u) (h2 : u ≤ xs.length) :
    ∃ a' bs', (∀ W, (Instr.slice t (.slice a len cap) none (some (.int .i64 u)) none).run P W = .ok (.slice a' u.toNat cap) W) ∧ (∀ b ∈ bs', b ∈ bs) ∧ (bs.Nodup → bs'.Nodup) ∧ Slc w bs' a' u.toNat cap (xs.take u.toNat) := by
  have hl := h.1
  have hc := h.2.1
  obtain ⟨bs', hb, hn, hS⟩ := h.cut 0 u.toNat (by omega) (by omega)
  simp only [Nat.sub_zero, List.drop_zero] at hS
  refine ⟨_, bs', fun W => ?_, hb, hn, hS⟩
  have he : P.elem t = e := by simp [Program.elem, ht]
  rw [run_slice_h W t a len cap (by rw [he]; exact ht) .i64 u h1 (by omega), he, run_sizeOf W hi]
  simp only [Result.andThen, sliced, Program.cellsOf, hi, Option.map_some, Option.getD_some, hs, Nat.sub_zero]
theorem Slc.cut_l (h : Slc w bs a len cap xs) (t : TypeId) {e : TypeId} {i : TypeInfo} (ht : P.underlying t = some (.slice e)) (hi : P.info? e = some i) (hs : i.size = size α) (l : Int) (h0 : 0 ≤ l) (h1 : l ≤ xs.length) :
    ∃ a' bs', (∀ W, (Instr.slice t (.slice a len cap) (some (.int .i64 l)) none none).run P W = .ok (.slice a' (len - l.toNat) (cap - l.toNat)) W) ∧ (∀ b ∈ bs', b ∈ bs) ∧ (bs.Nodup → bs'.Nodup) ∧ Slc w bs' a' (len - l.toNat) (cap - l.toNat) (xs.drop l.toNat) := by
  have hl := h.1
  have hc := h.2.1
  obtain ⟨bs', hb, hn, hS⟩ := h.cut l.toNat len (by omega) (by omega)
  rw [List.take_of_length_le (by omega)] at hS
  refine ⟨_, bs', fun W => ?_, hb, hn, hS⟩
  have he : P.elem t = e := by simp [Program.elem, ht]
  rw [run_slice_l W t a len cap (by rw [he]; exact ht) .i64 l h0 (by omega), he, run_sizeOf W hi]
  simp only [Result.andThen, sliced, Program.cellsOf, hi, Option.map_some, Option.getD_some, hs]
end
theorem Own.cutS {α : Type} [Rep α] {lo : Nat} {w : World} {bs bs' : List Nat} {a a' : Option Addr} {len cap m c : Nat} {xs ys : List α} (h : Own lo w bs [.slice a len cap] xs) (hb : ∀ b ∈ bs', b ∈ bs) (hn : bs.Nodup → bs'.Nodup) (hS : Slc w bs' a' m c ys) : Own lo w bs' [.slice a' m c] ys :=
  ⟨pt_slice.2 hS, hn h.2.1, fun b hb' => h.2.2 b (hb b hb')⟩
end Go.G6
namespace Go.G6
open Go.RowKit Rep
/-- A result that is a list in a row of the call's own. -/
def RetL {α : Type} [Rep α] (w : World) (e : TypeId) (x : List α) (en : Ending) (w' : World) : Prop := ∃ v bs, en = .returned v ∧ OwnL w.heap.size w' e v bs x ∧ Below w.heap.size w w'
theorem Tch.low {bs : List Nat} {w w' : World} {B : Nat} (h : Tch bs w w') (hB : B ≤ w.heap.size) (hs : ∀ x ∈ bs, B ≤ x ∧ x < w.heap.size) : Below B w w' := h.below hB fun x hx => (hs x hx).1
theorem below_tch {w W W' : World} {bs : List Nat} (h : Below w.heap.size w W) (ht : Tch bs W W') (hs : ∀ x ∈ bs, w.heap.size ≤ x ∧ x < W.heap.size) : Below w.heap.size w W' := h.trans (ht.low h.size hs)
end Go.G6
namespace Go.G6
open Go.RowKit Rep
/-- What a region that draws is told: the boxes of the call, as they stand in a later world. -/
theorem held2_tch {B : Nat} {c1 c2 : Array Value} {w W W' : World} {bs : List Nat}
    (h : Below B w W ∧ B + 2 ≤ W.heap.size ∧ (∀ o, W.cell? ⟨B, o, none⟩ = c1[o]?) ∧ (∀ o, W.cell? ⟨B + 1, o, none⟩ = c2[o]?) ∧ (∀ o, W.frozen? ⟨B + 1, o, none⟩ = false)) (hT : Tch bs W W') (hb : ∀ x ∈ bs, B + 2 ≤ x) :
    Below B w W' ∧ B + 2 ≤ W'.heap.size ∧ (∀ o, W'.cell? ⟨B, o, none⟩ = c1[o]?) ∧ (∀ o, W'.cell? ⟨B + 1, o, none⟩ = c2[o]?) ∧ (∀ o, W'.frozen? ⟨B + 1, o, none⟩ = false) := by
  obtain ⟨h1, h2, h3, h4, h5⟩ := h
  have hs := hT.size
  refine ⟨h1.trans ⟨hT.os, hT.tape, hT.output, hT.size, fun k hk => hT.block k (by omega) fun hm => by have := hb k hm; omega⟩, by omega, fun o => ?_, fun o => ?_, fun o => ?_⟩
  · exact (hT.cell (p := ⟨B, o, none⟩) (by show B < _; omega) (fun hm => by have := hb _ hm; simp at this; omega)).trans (h3 o)
  · exact (hT.cell (p := ⟨B + 1, o, none⟩) (by show B + 1 < _; omega) (fun hm => by have := hb _ hm; simp at this)).trans (h4 o)
  · exact (World.frozen?_of_block (hT.block (B + 1) (by omega) (fun hm => by have := hb _ hm; omega))).trans (h5 o)
theorem held2_new (w : World) (c1 c2 : Array Value) (t1 t2 : TypeId) :
    Below w.heap.size w ((w.alloc (.cells c1 t1)).alloc (.cells c2 t2)) ∧ w.heap.size + 2 ≤ ((w.alloc (.cells c1 t1)).alloc (.cells c2 t2)).heap.size ∧
    (∀ o, ((w.alloc (.cells c1 t1)).alloc (.cells c2 t2)).cell? ⟨w.heap.size, o, none⟩ = c1[o]?) ∧ (∀ o, ((w.alloc (.cells c1 t1)).alloc (.cells c2 t2)).cell? ⟨w.heap.size + 1, o, none⟩ = c2[o]?) ∧
    (∀ o, ((w.alloc (.cells c1 t1)).alloc (.cells c2 t2)).frozen? ⟨w.heap.size + 1, o, none⟩ = false) := by
  have hs : (w.alloc (.cells c1 t1)).heap.size = w.heap.size + 1 := by simp
  refine ⟨((Below.refl _ _).alloc (Nat.le_refl _) _).alloc (by simp) _, by simp, fun o => ?_, fun o => ?_, fun o => ?_⟩
  · exact (World.cell?_alloc_lt _ _ ⟨w.heap.size, o, none⟩ (by simp)).trans (World.cell?_alloc_new w c1 t1 o)
  · rw [← hs]; exact World.cell?_alloc_new _ c2 t2 o
  · have : Fr ((w.alloc (.cells c1 t1)).alloc (.cells c2 t2)) (w.heap.size + 1) := ⟨c2, t2, by rw [← hs]; exact heap_alloc_new _ _⟩
    exact this.frozen o
theorem held2_drew {B : Nat} {c1 c2 : Array Value} {w W : World}
    (h : Below B w W ∧ B + 2 ≤ W.heap.size ∧ (∀ o, W.cell? ⟨B, o, none⟩ = c1[o]?) ∧ (∀ o, W.cell? ⟨B + 1, o, none⟩ = c2[o]?) ∧ (∀ o, W.frozen? ⟨B + 1, o, none⟩ = false)) :
    Below B w W.drew ∧ B + 2 ≤ W.drew.heap.size ∧ (∀ o, W.drew.cell? ⟨B, o, none⟩ = c1[o]?) ∧ (∀ o, W.drew.cell? ⟨B + 1, o, none⟩ = c2[o]?) ∧ (∀ o, W.drew.frozen? ⟨B + 1, o, none⟩ = false) := ⟨h.1.drew, h.2⟩
/-- .. with the first box alone, behind a store elsewhere. -/
theorem held1_set {B N b : Nat} {c1 : Array Value} {w W : World} {p : Addr} (v : Value) (h : Below B w W ∧ N ≤ W.heap.size ∧ (∀ o, W.cell? ⟨b, o, none⟩ = c1[o]?)) (hp : B ≤ p.block) (hb : b ≠ p.block) :
    Below B w (W.setCell p v) ∧ N ≤ (W.setCell p v).heap.size ∧ (∀ o, (W.setCell p v).cell? ⟨b, o, none⟩ = c1[o]?) :=
  ⟨h.1.setCell hp v, by simpa using h.2.1, fun o => (World.cell?_of_block (Below.heap_setCell _ _ _ _ hb)).trans (h.2.2 o)⟩
theorem held1_of2 {B : Nat} {c1 c2 : Array Value} {w W : World}
    (h : Below B w W ∧ B + 2 ≤ W.heap.size ∧ (∀ o, W.cell? ⟨B, o, none⟩ = c1[o]?) ∧ (∀ o, W.cell? ⟨B + 1, o, none⟩ = c2[o]?) ∧ (∀ o, W.frozen? ⟨B + 1, o, none⟩ = false)) :
    Below B w W ∧ B + 2 ≤ W.heap.size ∧ (∀ o, W.cell? ⟨B, o, none⟩ = c1[o]?) := ⟨h.1, h.2.1, h.2.2.1⟩
theorem src_new {α : Type} [Rep α] {w : World} {b2 : List Nat} {cs : List Value} {y : α} {N : Nat} (h : pt w b2 cs y) (hN : N = w.heap.size) (t : TypeId) (c : Nat) : Src (w.alloc (.cells cs.toArray t)) b2 (some ⟨N, 0, none⟩) 1 c [y] := by
  subst hN; exact src_one h t c
theorem Tch.frozen {bs : List Nat} {w w' : World} (h : Tch bs w w') {p : Addr} (hp : p.block < w.heap.size) (hn : p.block ∉ bs) : w'.frozen? p = w.frozen? p := World.frozen?_of_block (h.block _ hp hn)
theorem own_nil {α : Type} [Rep α] (lo : Nat) (w : World) : Own lo w [] [.slice none 0 0] ([] : List α) := ⟨⟨none, 0, 0, rfl, rfl, Nat.le_refl _, Nat.zero_le _, .inl ⟨rfl, rfl, fun _ => rfl⟩⟩, List.nodup_nil, fun b hb => by cases hb⟩
/-- What a box of the call's own holds; that it may be written. -/
structure Bx (w : World) (b : Nat) (c : Array Value) : Prop where
  out : ∀ o, w.cell? ⟨b, o, none⟩ = c[o]?
  f : Fr w b
theorem Bx.fr {w : World} {b : Nat} {c : Array Value} (h : Bx w b c) (o : Nat) : w.frozen? ⟨b, o, none⟩ = false := h.f.frozen o
theorem Bx.keep {w w' : World} {b : Nat} {c : Array Value} (h : Bx w b c) (hk : w'.heap[b]? = w.heap[b]?) : Bx w' b c := ⟨fun o => (World.cell?_of_block hk).trans (h.out o), h.f.keep hk⟩
theorem Bx.below {W w1 : World} {b : Nat} {c : Array Value} (hb : Below W.heap.size W w1) (hlt : b < W.heap.size) (h : Bx W b c) : Bx w1 b c := h.keep (hb.block b hlt)
theorem Bx.tch {bs : List Nat} {W w1 : World} {b : Nat} {c : Array Value} (hT : Tch bs W w1) (hlt : b < W.heap.size) (hn : b ∉ bs) (h : Bx W b c) : Bx w1 b c := h.keep (hT.block b hlt hn)
theorem Bx.alloc {w : World} {b : Nat} {c : Array Value} (h : Bx w b c) (hlt : b < w.heap.size) (o : Obj) : Bx (w.alloc o) b c := h.keep (Below.heap_alloc _ _ _ hlt)
theorem Bx.setOther {w : World} {b : Nat} {c : Array Value} {p : Addr} (h : Bx w b c) (hn : b ≠ p.block) (v : Value) : Bx (w.setCell p v) b c := h.keep (Below.heap_setCell _ _ _ _ hn)
theorem Bx.new (w : World) (c : Array Value) (t : TypeId) {b : Nat} (hb : b = w.heap.size) : Bx (w.alloc (.cells c t)) b c := by
  subst hb; exact ⟨fun o => World.cell?_alloc_new w c t o, ⟨c, t, heap_alloc_new w _⟩⟩
theorem Bx.drew {w : World} {b : Nat} {c : Array Value} (h : Bx w b c) : Bx w.drew b c := ⟨h.out, h.f⟩
theorem Bx.drewN {w : World} {b : Nat} {c : Array Value} (h : Bx w b c) (n : Nat) : Bx (w.drewN n) b c := ⟨h.out, h.f⟩
theorem Bx.setSame {w : World} {b : Nat} {c : Array Value} (h : Bx w b c) (o : Nat) (v : Value) : Bx (w.setCell ⟨b, o, none⟩ v) b (c.setIfInBounds o v) := by
  refine ⟨fun i => ?_, h.f.setCell _ _⟩
  by_cases hi : o = i
  · subst hi
    by_cases ho : o < c.size
    · rw [World.cell?_setCell_same _ _ _ ((h.out o).trans (Array.getElem?_eq_getElem ho)), Array.getElem?_setIfInBounds_self_of_lt ho]
    · have h1 := h.out o
      rw [Array.getElem?_eq_none (by omega)] at h1
      rw [Array.getElem?_eq_none (by rw [Array.size_setIfInBounds]; omega)]
      simp only [World.cell?, World.setCell] at h1 ⊢
      obtain ⟨cc, e, hc⟩ := h.f
      simp only [Array.getElem?_modify, hc] at h1 ⊢
      simp at h1 ⊢
      exact h1
  · rw [World.cell?_setCell_other _ _ _ _ (fun e => hi (by have := congrArg Addr.off e; simp only at this; omega)), h.out i, Array.getElem?_setIfInBounds_ne (by omega)]
theorem held1_alloc {B N b : Nat} {c1 : Array Value} {w W : World} (o : Obj) (h : Below B w W ∧ N ≤ W.heap.size ∧ (∀ o, W.cell? ⟨b, o, none⟩ = c1[o]?)) (hB : B ≤ N) (hb : b < N) :
    Below B w (W.alloc o) ∧ N ≤ (W.alloc o).heap.size ∧ (∀ i, (W.alloc o).cell? ⟨b, i, none⟩ = c1[i]?) :=
  ⟨h.1.alloc (Nat.le_trans hB h.2.1) o, by have := h.2.1; simp; omega, fun i => (World.cell?_of_block (Below.heap_alloc _ _ _ (Nat.lt_of_lt_of_le hb h.2.1))).trans (h.2.2 i)⟩
theorem held1_tch {B N b : Nat} {c1 : Array Value} {w W W' : World} {bs : List Nat} (h : Below B w W ∧ N ≤ W.heap.size ∧ (∀ o, W.cell? ⟨b, o, none⟩ = c1[o]?)) (hT : Tch bs W W') (hs : ∀ x ∈ bs, N ≤ x) (hB : B ≤ N) (hb : b < N) :
    Below B w W' ∧ N ≤ W'.heap.size ∧ (∀ i, W'.cell? ⟨b, i, none⟩ = c1[i]?) :=
  ⟨h.1.trans (hT.below (Nat.le_trans hB h.2.1) fun x hx => Nat.le_trans hB (hs x hx)), Nat.le_trans h.2.1 hT.size, fun i => (World.cell?_of_block (hT.block b (Nat.lt_of_lt_of_le hb h.2.1) fun hm => by have := hs b hm; omega)).trans (h.2.2 i)⟩
theorem held1_drew {B N b : Nat} {c1 : Array Value} {w W : World} (h : Below B w W ∧ N ≤ W.heap.size ∧ (∀ o, W.cell? ⟨b, o, none⟩ = c1[o]?)) :
    Below B w W.drew ∧ N ≤ W.drew.heap.size ∧ (∀ i, W.drew.cell? ⟨b, i, none⟩ = c1[i]?) := ⟨h.1.drew, h.2⟩
theorem src_cell {α : Type} [Scal α] {w : World} {N c : Nat} {y : α} (h : w.cell? ⟨N, 0, none⟩ = some (Scal.val y)) (hy : Scal.ok y) : Src w [] (some ⟨N, 0, none⟩) 1 c [y] := by
  refine ⟨rfl, .inr ⟨_, [[]], [Scal.val y], rfl, Elems.single (Scal.spt.2 ⟨rfl, rfl, hy⟩), rfl, fun j u hj => ?_⟩⟩
  cases j with
  | zero => rw [add_none]; simp at hj; rw [← hj]; exact h
  | succ j => simp at hj
/-- An empty literal. -/
theorem ownL_empty {α : Type} [Rep α] {lo N : Nat} {w : World} {e : TypeId} (hN : N = w.heap.size) (hlo : lo ≤ w.heap.size) : OwnL lo (w.alloc (.cells #[] e)) e (.slice (some ⟨N, 0, none⟩) 0 0) [N] ([] : List α) := by
  subst hN
  refine ⟨[], [], ?_, rfl, rfl, by simp, ?_⟩
  · exact World.ownsRow_lit w #[] 0 hlo (by simp) (by simp)
  · intro b hb
    simp at hb; subst hb
    exact ⟨hlo, #[], e, heap_alloc_new w _⟩
theorem Tch.ruleOne {N : Nat} {W W' : World} (hT : Tch [N] W W') : ∀ b o, b < W.heap.size → b ≠ N → W'.cell? ⟨b, o, none⟩ = W.cell? ⟨b, o, none⟩ := fun b o h1 h2 => hT.cell (p := ⟨b, o, none⟩) h1 (by simp; exact h2)
/-- Where blocks are known not to have turned, by their numbers. -/
theorem Tch.ruleUp {bs : List Nat} {W W' : World} (hT : Tch bs W W') {S : Nat} (h : ∀ b ∈ bs, b < S) : (∀ b o, S ≤ b → b < W.heap.size → W'.cell? ⟨b, o, none⟩ = W.cell? ⟨b, o, none⟩) ∧ (∀ b o, S ≤ b → b < W.heap.size → W'.frozen? ⟨b, o, none⟩ = W.frozen? ⟨b, o, none⟩) :=
  ⟨fun b o h1 h2 => hT.cell (p := ⟨b, o, none⟩) h2 fun hm => by have := h b hm; omega, fun b o h1 h2 => hT.frozen (p := ⟨b, o, none⟩) h2 fun hm => by have := h b hm; omega⟩
theorem Tch.ruleDown {bs : List Nat} {W W' : World} (hT : Tch bs W W') {N M : Nat} (h : ∀ b ∈ bs, b = N ∨ M ≤ b) (hM : M ≤ W.heap.size) : (∀ b o, b < M → b ≠ N → W'.cell? ⟨b, o, none⟩ = W.cell? ⟨b, o, none⟩) ∧ (∀ b o, b < M → b ≠ N → W'.frozen? ⟨b, o, none⟩ = W.frozen? ⟨b, o, none⟩) :=
  ⟨fun b o h1 h2 => hT.cell (p := ⟨b, o, none⟩) (Nat.lt_of_lt_of_le h1 hM) fun hm => by have := h b hm; omega, fun b o h1 h2 => hT.frozen (p := ⟨b, o, none⟩) (Nat.lt_of_lt_of_le h1 hM) fun hm => by have := h b hm; omega⟩
theorem Tch.ruleOneF {N : Nat} {W W' : World} (hT : Tch [N] W W') : ∀ b o, b < W.heap.size → b ≠ N → W'.frozen? ⟨b, o, none⟩ = W.frozen? ⟨b, o, none⟩ := fun b o h1 h2 => hT.frozen (p := ⟨b, o, none⟩) h1 (by simp; exact h2)
theorem Tch.ruleBxUp {bs : List Nat} {W W' : World} (hT : Tch bs W W') {S : Nat} (h : ∀ b ∈ bs, b < S) {b : Nat} {c : Array Value} (hB : Bx W b c) (h1 : S ≤ b) (h2 : b < W.heap.size) : Bx W' b c := Bx.tch hT h2 (h := hB) fun hm => by have := h b hm; omega
theorem Tch.ruleBxDown {bs : List Nat} {W W' : World} (hT : Tch bs W W') {N M : Nat} (h : ∀ b ∈ bs, b = N ∨ M ≤ b) (hM : M ≤ W.heap.size) {b : Nat} {c : Array Value} (hB : Bx W b c) (h1 : b < M) (h2 : b ≠ N) : Bx W' b c := Bx.tch hT (Nat.lt_of_lt_of_le h1 hM) (h := hB) fun hm => by have := h b hm; omega
theorem or3 {N M : Nat} {bs : List Nat} (h : ∀ b ∈ bs, b ∈ [N] ∨ b ∈ ([] : List Nat) ∨ M ≤ b) : ∀ b ∈ bs, b = N ∨ M ≤ b := fun b hb => by
  rcases h b hb with h | h | h
  · exact .inl (by simpa using h)
  · cases h
  · exact .inr h
theorem held1_below {B N b : Nat} {c1 : Array Value} {w W W' : World} (h : Below B w W ∧ N ≤ W.heap.size ∧ (∀ o, W.cell? ⟨b, o, none⟩ = c1[o]?)) (hb : Below W.heap.size W W') (hB : B ≤ N) (hbN : b < N) :
    Below B w W' ∧ N ≤ W'.heap.size ∧ (∀ i, W'.cell? ⟨b, i, none⟩ = c1[i]?) :=
  ⟨h.1.trans (hb.mono (Nat.le_trans hB h.2.1)), Nat.le_trans h.2.1 hb.size, fun i => (hb.cell (p := ⟨b, i, none⟩) (Nat.lt_of_lt_of_le hbN h.2.1)).trans (h.2.2 i)⟩
theorem slc_nil {α : Type} [Rep α] (w : World) : Slc w [] none 0 0 ([] : List α) := ⟨rfl, Nat.le_refl _, Nat.zero_le _, .inl ⟨rfl, rfl, fun _ => rfl⟩⟩
/-- A structure handed back, through blocks of the argument's, and a flag. -/
def RetABX {α : Type} [Rep α] (w : World) (bs : List Nat) (x : α) (y : Value) (e : Ending) (w' : World) : Prop := ∃ cs' bs', (∀ b ∈ bs', b ∈ bs) ∧ e = .returned (.tuple #[.agg cs'.toArray, y]) ∧ pt w' bs' cs' x ∧ Below w.heap.size w w'
theorem RetL.retS {α : Type} [Rep α] {w w' : World} {e : TypeId} {x : List α} {en : Ending} (h : RetL w e x en w') : RetS w x en w' := by
  obtain ⟨v, bs, rfl, hO, hb⟩ := h
  obtain ⟨a, c, rfl⟩ := hO.slice
  obtain ⟨bs', _, h2⟩ := hO.own
  exact ⟨a, x.length, c, bs', rfl, h2, hb⟩
theorem RetL.retSP {α : Type} [Rep α] {w w' : World} {e : TypeId} {x : List α} {en : Ending} (h : RetL w e x en w') : RetSP w x en w' := by
  obtain ⟨a, c, k, bs, h1, h2, h3⟩ := h.retS
  exact ⟨a, c, k, bs, h1, h2.1, h3⟩
/-- The bytes of a text, laid anew. -/
theorem slc_bytes {w : World} {N n : Nat} (s : ByteArray) (cap : Nat) (e : TypeId) (fr : Nat × Nat) (hN : N = w.heap.size) (hn : n = s.size) (hc : s.size ≤ cap) (hm : cap ≤ maxLen) :
    ∃ bs, Slc (w.alloc (.cells (bytesRow s cap) e fr)) bs (some ⟨N, 0, none⟩) n cap s.data.toList := by
  subst hN hn
  have hl : s.data.toList.length = s.size := Array.length_toList
  by_cases h0 : s.data.toList = []
  · exact ⟨[], hl.symm, hc, hm, .inl ⟨h0, rfl, fun h => by cases h⟩⟩
  · refine ⟨[w.heap.size], hl.symm, hc, hm, .inr ⟨h0, w.heap.size, 0, s.data.toList.map (fun _ => []), s.data.toList.map Scal.val, rfl, by simp, ?_, elems_scal (fun _ _ => trivial), ?_⟩⟩
    · rw [flat_nil (by simp)]
    · intro j v hj
      rw [Nat.zero_add]
      have hj1 : j < s.data.size := by
        have := (List.getElem?_eq_some_iff.1 hj).1
        simpa using this
      have h1 : (w.alloc (.cells (bytesRow s cap) e fr)).cell? ⟨w.heap.size, j, none⟩ = (bytesRow s cap)[j]? := by
        unfold World.cell?
        rw [heap_alloc_new]
        rfl
      rw [h1, bytesRow_at s cap j hj1]
      rw [List.getElem?_map, List.getElem?_eq_getElem (by simpa using hj1)] at hj
      simp only [Option.map_some, Option.some.injEq, Array.getElem_toList] at hj
      rw [← hj]; rfl
theorem retSP_bytes {w W : World} {N n : Nat} (s : ByteArray) (cap : Nat) (e : TypeId) (fr : Nat × Nat) {xs : List UInt8} (hN : N = W.heap.size) (hn : n = s.size) (hx : xs = s.data.toList) (hc : s.size ≤ cap) (hm : cap ≤ maxLen) (hB : Below w.heap.size w W) :
    RetSP w xs (.returned (.slice (some ⟨N, 0, none⟩) n cap)) (W.alloc (.cells (bytesRow s cap) e fr)).drew := by
  obtain ⟨bs, h⟩ := slc_bytes (w := W) s cap e fr hN hn hc hm
  exact ⟨_, _, _, bs, rfl, by rw [hx]; exact pt_slice.2 (Slc.grow h ⟨rfl, rfl, rfl, Nat.le_refl _, fun _ _ => rfl⟩), (hB.alloc hB.size _).drew⟩
theorem wrapI {x : Int} (h : -9223372036854775808 ≤ x ∧ x ≤ 9223372036854775807) : IntKind.i64.wrap x = x := by
  have e : IntKind.i64.wrap x = wrap64 x := by rw [IntKind.wrap_i64]; unfold wrap64; rfl
  rw [e]; exact IntWalk.wrap64_in _ h
end Go.G6
