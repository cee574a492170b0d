/- The bytes of runes, and texts (printed by gentext.py). -/
import Derived.Test.YtdjcjilipgpnmaaGreatKLiftT
import Derived.Laws.OwnMore
import Derived.Maps.AppendAt
import Derived.ChangeKeysEq
import Derived.RegionTactic
import Derived.Laws.IdiomStrings
import Derived.Laws.IdiomCopy
import Derived.Test.YtdjcjilipgpnmaaGreatProg
import Derived.BigQuiet
import Derived.Deep.RegionHeld3
import Derived.OrdersHeld
import Derived.Deep.DeepCutAuto
import Derived.Deep.MidRow
section
set_option linter.unusedSimpArgs false
set_option linter.unusedVariables false
namespace Go.G6
open Go.RowKit Rep
/-- A list that the call builds in a row of its own; bs: the blocks that it goes through. -/
def OwnL {α : Type} [Rep α] (lo : Nat) (w : World) (e : TypeId) (v : Value) (bs : List Nat) (xs : List α) : Prop :=
 ∃ cells bss, w.ownsRow lo e (size α) v xs.length cells ∧ Elems w bss cells xs ∧ bs = v.ownBlock.toList ++ bss.flatten ∧ bs.Nodup ∧ ∀ b ∈ bs, lo ≤ b ∧ Fr w b
section
variable {α : Type} [Rep α] {lo : Nat} {w w' : World} {e : TypeId} {v : Value} {bs : List Nat} {xs : List α}
theorem ownBlock_mem {v : Value} {b : Nat} : b ∈ v.ownBlock.toList ↔ v.ownBlock = some b := by
 cases v.ownBlock <;> simp [eq_comm]
theorem OwnL.lts (h : OwnL lo w e v bs xs) : ∀ b ∈ bs, lo ≤ b ∧ b < w.heap.size := by
 obtain ⟨cells, bss, hR, hE, rfl, hn, hf⟩ := h
 intro b hb
 refine ⟨(hf b hb).1, ?_⟩
 rcases List.mem_append.1 hb with hb | hb
 ·exact (hR.lt b (ownBlock_mem.1 hb)).2
 ·exact hE.lt b hb
theorem OwnL.keep (h : OwnL lo w e v bs xs) (hk : ∀ b ∈ bs, w'.heap[b]? = w.heap[b]?) : OwnL lo w' e v bs xs := by
 obtain ⟨cells, bss, hR, hE, rfl, hn, hf⟩ := h
 refine ⟨cells, bss, ⟨hR.1, ?_⟩, hE.keep fun k hk' => hk k (List.mem_append_right _ hk'), rfl, hn, fun b hb => ⟨(hf b hb).1, (hf b hb).2.keep (hk b hb)⟩⟩
 rcases hR.2 with h0 | ⟨g, cap, cur, rfl, hg, hgg, rest⟩
 ·exact .inl h0
 ·exact .inr ⟨g, cap, cur, rfl, hg, (hk g (by simp [Value.ownBlock])).trans hgg, rest⟩
theorem OwnL.grow (h : OwnL lo w e v bs xs) (hb : Below w.heap.size w w') : OwnL lo w' e v bs xs := h.keep fun b hb' => hb.block b (h.lts b hb').2
theorem OwnL.tch {bs' : List Nat} (h : OwnL lo w e v bs xs) (ht : Tch bs' w w') (hd : ∀ x ∈ bs, x ∉ bs') : OwnL lo w' e v bs xs := h.keep fun b hb => ht.block b (h.lts b hb).2 (hd b hb)
theorem OwnL.alloc (h : OwnL lo w e v bs xs) (o : Obj) : OwnL lo (w.alloc o) e v bs xs := h.keep fun b hb => Below.heap_alloc _ _ _ (h.lts b hb).2
theorem OwnL.drew (h : OwnL lo w e v bs xs) : OwnL lo w.drew e v bs xs := h.keep fun _ _ => rfl
theorem OwnL.setCell (h : OwnL lo w e v bs xs) {p : Addr} (hp : ∀ b ∈ bs, b ≠ p.block) (u : Value) : OwnL lo (w.setCell p u) e v bs xs := h.keep fun b hb => Below.heap_setCell _ _ _ _ (hp b hb)
theorem OwnL.mono {lo' : Nat} (h : OwnL lo w e v bs xs) (hl : lo' ≤ lo) : OwnL lo' w e v bs xs := by
 obtain ⟨cells, bss, hR, hE, rfl, hn, hf⟩ := h
 refine ⟨cells, bss, ⟨hR.1, ?_⟩, hE, rfl, hn, fun b hb => ⟨Nat.le_trans hl (hf b hb).1, (hf b hb).2⟩⟩
 rcases hR.2 with h0 | ⟨g, cap, cur, rfl, hg, rest⟩
 ·exact .inl h0
 ·exact .inr ⟨g, cap, cur, rfl, Nat.le_trans hl hg, rest⟩
theorem OwnL.slice (h : OwnL lo w e v bs xs) : ∃ a cap, v = .slice a xs.length cap := by
 obtain ⟨cells, bss, hR, _⟩ := h
 rcases hR.2 with ⟨rfl, h0⟩ | ⟨g, cap, cur, rfl, _⟩
 ·exact ⟨none, 0, by rw [h0]⟩
 ·exact ⟨_, _, rfl⟩
theorem OwnL.nil (lo : Nat) (w : World) (e : TypeId) : OwnL lo w e (.slice none 0 0) [] ([] : List α) :=
 ⟨[], [], World.ownsRow_nil _ _ _ _, rfl, rfl, List.nodup_nil, fun b hb => by cases hb⟩
theorem OwnL.own (h : OwnL lo w e v bs xs) : ∃ bs', (∀ b ∈ bs', b ∈ bs) ∧ Own lo w bs' [v] xs := by
 obtain ⟨cells, bss, hR, hE, rfl, hn, hf⟩ := h
 have hn' := List.nodup_append.1 hn
 obtain ⟨a, cap, hv⟩ := OwnL.slice (bs := v.ownBlock.toList ++ bss.flatten) ⟨cells, bss, hR, hE, rfl, hn, hf⟩
 rcases hR.2 with ⟨rfl, h0⟩ | ⟨g, cap, cur, rfl, hg, hgg, hnc, hcm, hcs, ht⟩
 ·have : xs = [] := List.eq_nil_of_length_eq_zero h0
  subst this
  exact ⟨[], by simp, ⟨none, 0, 0, rfl, rfl, Nat.le_refl _, Nat.zero_le _, .inl ⟨rfl, rfl, fun _ => rfl⟩⟩, List.nodup_nil, fun b hb => by cases hb⟩
 ·by_cases hx : xs = []
  ·subst hx
   exact ⟨[], by simp, ⟨_, _, _, rfl, rfl, hnc, hcm, .inl ⟨rfl, rfl, fun h => by cases h⟩⟩, List.nodup_nil, fun b hb => by cases hb⟩
  ·have hlt : g < w.heap.size := (Array.getElem?_eq_some_iff.1 hgg).1
   refine ⟨g :: bss.flatten, by simp [Value.ownBlock], ⟨_, _, _, rfl, rfl, hnc, hcm, .inr ⟨hx, g, 0, bss, cells, rfl, hlt, rfl, hE, fun j u hj => ?_⟩⟩, ?_, ?_⟩
   ·rw [Nat.zero_add, cell_of_row w g j cur e (0, 0) hgg]
    rw [← ht, List.getElem?_take] at hj
    split at hj
    ·simpa using hj
    ·cases hj
   ·simpa [Value.ownBlock] using hn
   ·intro b hb'
    exact hf b (by simpa [Value.ownBlock] using hb')
theorem OwnL.slc (h : OwnL lo w e v bs xs) : ∃ a cap bs', v = .slice a xs.length cap ∧ (∀ b ∈ bs', b ∈ bs) ∧ Slc w bs' a xs.length cap xs := by
 obtain ⟨a, cap, rfl⟩ := h.slice
 obtain ⟨bs', h1, h2⟩ := h.own
 exact ⟨a, cap, bs', rfl, h1, pt_slice.1 h2.1⟩
end
/-- What is appended: elements that lie in a row somewhere. -/
def Src {α : Type} [Rep α] (w : World) (bs : List Nat) (a : Option Addr) (m c : Nat) (ys : List α) : Prop :=
 m = ys.length ∧ ((a = none ∧ c = 0 ∧ ys = [] ∧ bs = []) ∨ ∃ ad bss news, a = some ad ∧ Elems w bss news ys ∧ bs = bss.flatten ∧ ∀ j u, news[j]? = some u → w.cell? (ad.add j) = some u)
theorem add_none (b off j : Nat) : (⟨b, off, none⟩ : Addr).add j = ⟨b, off + j, none⟩ := by unfold Addr.add; split <;> simp_all
theorem Slc.src {α : Type} [Scal α] {w : World} {bs : List Nat} {a : Option Addr} {m c : Nat} {ys : List α} (h : Slc w bs a m c ys) : Src w [] a m c ys := by
 obtain ⟨h1, h2, h3, ⟨rfl, rfl, h5⟩ | ⟨_, b, off, bss, cells, rfl, _, _, hE, hA⟩⟩ := h
 ·refine ⟨h1, ?_⟩
  cases a with
  | none => exact .inl ⟨rfl, h5 rfl, rfl, rfl⟩
  | some ad => exact .inr ⟨ad, [], [], rfl, rfl, rfl, by simp⟩
 ·refine ⟨h1, .inr ⟨_, bss, cells, rfl, hE, (flat_nil (elems_scal' hE).2.2).symm, fun j u hj => ?_⟩⟩
  rw [add_none]
  exact hA j u hj
/-- One element, laid as a new block. -/
theorem src_one {α : Type} [Rep α] {w : World} {b2 : List Nat} {cs : List Value} {y : α} (h : pt w b2 cs y) (t : TypeId) (c : Nat) : Src (w.alloc (.cells cs.toArray t)) b2 (some ⟨w.heap.size, 0, none⟩) 1 c [y] := by
 refine ⟨rfl, .inr ⟨_, [b2], cs, rfl, Elems.single (Rep.keep h fun b hb => Below.heap_alloc _ _ _ (Rep.lt h b hb)), by simp, fun j u hj => ?_⟩⟩
 rw [add_none, Nat.zero_add, World.cell?_alloc_new]
 simpa using hj
section
variable {P : Program} {w : World}
theorem run_append_L {α : Type} [Rep α] (t ty : TypeId)
  (e : TypeId) (i : TypeInfo) (z : Value) (bytes : Nat) (ht : P.underlying t = some (.slice e)) (hi : P.info? e = some i) (hz : i.zero = some z) (hsize : i.size = size α) (hby : i.bytes = bytes) (hzs : z.cells.size = size α)
  {lo : Nat} {v : Value} {bs : List Nat} {xs : List α} (hown : OwnL lo w e v bs xs)
  {a' : Option Addr} {m c : Nat} {b2 : List Nat} {ys : List α} (hsrc : Src w b2 a' m c ys) (hb2 : b2.Nodup) (hf2 : ∀ b ∈ b2, lo ≤ b ∧ Fr w b ∧ b ∉ bs)
  (hbytes : (xs.length + ys.length) * bytes ≤ 140737488355328) (h63 : xs.length + ys.length ≤ 9223372036854775807) (hlo : lo ≤ w.heap.size) :
  ∃ v' w' bs', (Builtin.append_ #[t, t] ty #[v, .slice a' m c]).run P w = .ok v' w' ∧ OwnL lo w' e v' bs' (xs ++ ys) ∧ Tch bs w w' ∧ (∀ b ∈ bs', b ∈ bs ∨ b ∈ b2 ∨ w.heap.size ≤ b) := by
 have hlt := hown.lts
 obtain ⟨cells, bss, hR, hE, rfl, hn, hf⟩ := hown
 obtain ⟨hm, ⟨rfl, rfl, rfl, rfl⟩ | ⟨ad, bss2, news, rfl, hE2, rfl, hnews⟩⟩ := hsrc
 ·subst hm
  refine ⟨v, w, _, run_append_owned_none (P := P) (w := w) lo t ty e i (size α) ht hi v xs.length cells hR, ?_, Tch.refl _ _, fun b hb => .inl hb⟩
  rw [List.append_nil]
  exact ⟨cells, bss, hR, hE, rfl, hn, hf⟩
 ·subst hm
  have hl2 := hE2.length
  obtain ⟨v', w', hr, hR', hg, _, hat⟩ := run_append_own_at (P := P) w lo t ty e i z (size α) bytes ht hi hz hsize hby hzs Rep.pos v xs.length cells hR ad _ c news hl2.2 hnews hE2.one h63 hbytes hlo
  have hsz := hg.size
  have hk : ∀ k, k < w.heap.size → v.ownBlock ≠ some k → w'.heap[k]? = w.heap[k]? := fun k hk hne => hg.block k hk fun e => hne e.symm
  have hn' := List.nodup_append.1 hn
  have ha : ∀ k ∈ bss.flatten, v.ownBlock ≠ some k := fun k hk e => hn'.2.2 k (ownBlock_mem.2 e) k hk rfl
  have hb : ∀ k ∈ bss2.flatten, v.ownBlock ≠ some k := fun k hk e => (hf2 k hk).2.2 (List.mem_append_left _ (ownBlock_mem.2 e))
  have hv' : ∀ k, v'.ownBlock = some k → v.ownBlock = some k ∨ k = w.heap.size := fun k hk => by
   rcases hat with h1 | h1
   ·exact .inl (h1.symm.trans hk)
   ·rw [h1] at hk; cases hk; exact .inr rfl
  refine ⟨v', w', v'.ownBlock.toList ++ (bss ++ bss2).flatten, hr, ⟨cells ++ news, bss ++ bss2, ?_, ?_, rfl, ?_, ?_⟩, ?_, ?_⟩
  ·rw [List.length_append]; exact hR'
  ·exact (hE.keep fun k hk' => hk k (hE.lt k hk') (ha k hk')).append (hE2.keep fun k hk' => hk k (hE2.lt k hk') (hb k hk'))
  ·rw [List.flatten_append]
   refine List.nodup_append.2 ⟨?_, List.nodup_append.2 ⟨hn'.2.1, hb2, fun k hk1 k2 hk2 e => (hf2 k2 hk2).2.2 (List.mem_append_right _ (e ▸ hk1))⟩, ?_⟩
   ·cases v'.ownBlock <;> simp
   ·intro k hk1 k2 hk2 e
    subst e
    rcases hv' k (ownBlock_mem.1 hk1) with h1 | h1
    ·rcases List.mem_append.1 hk2 with h2 | h2
     ·exact ha k h2 h1
     ·exact hb k h2 h1
    ·rcases List.mem_append.1 hk2 with h2 | h2
     ·have := hE.lt k h2; omega
     ·have := hE2.lt k h2; omega
  ·intro k hk1
   rcases List.mem_append.1 hk1 with hk1 | hk1
   ·have h1 := hR'.lt k (ownBlock_mem.1 hk1)
    refine ⟨h1.1, ?_⟩
    have e1 := ownBlock_mem.1 hk1
    rcases hR'.2 with ⟨rfl, _⟩ | ⟨g, cap, cur, rfl, _, hgg, _⟩
    ·simp [Value.ownBlock] at e1
    ·simp [Value.ownBlock] at e1
     subst e1
     exact ⟨_, _, hgg⟩
   ·rw [List.flatten_append] at hk1
    rcases List.mem_append.1 hk1 with h2 | h2
    ·exact ⟨(hf k (List.mem_append_right _ h2)).1, (hf k (List.mem_append_right _ h2)).2.keep (hk k (hE.lt k h2) (ha k h2))⟩
    ·exact ⟨(hf2 k h2).1, (hf2 k h2).2.1.keep (hk k (hE2.lt k h2) (hb k h2))⟩
  ·refine ⟨hg.os, hg.tape, hg.output, hg.size, fun k hk1 hk2 => hk k hk1 fun e => hk2 (List.mem_append_left _ (ownBlock_mem.2 e))⟩
  ·intro k hk1
   rcases List.mem_append.1 hk1 with hk1 | hk1
   ·rcases hv' k (ownBlock_mem.1 hk1) with h1 | h1
    ·exact .inl (List.mem_append_left _ (ownBlock_mem.2 h1))
    ·exact .inr (.inr (by omega))
   ·rw [List.flatten_append] at hk1
    rcases List.mem_append.1 hk1 with h2 | h2
    ·exact .inl (List.mem_append_right _ h2)
    ·exact .inr (.inl h2)
theorem oper_append {α : Type} [Rep α] {o : Oper} {a : Act} {K : Act → World → Prop} {Q : Exit → Act → World → Prop} (s x : Operand) (t : TypeId)
  (ho : o.op = .call { callee := .builtin .append, args := #[s, x], argTypes := #[t, t] })
  (e : TypeId) (i : TypeInfo) (z : Value) (bytes : Nat) (ht : P.underlying t = some (.slice e)) (hi : P.info? e = some i) (hz : i.zero = some z) (hsize : i.size = size α) (hby : i.bytes = bytes) (hzs : z.cells.size = size α)
  {lo : Nat} {v : Value} {bs : List Nat} {xs : List α} (hs : a.eval s = v) (hown : OwnL lo w e v bs xs)
  {a' : Option Addr} {m c : Nat} {b2 : List Nat} {ys : List α} (hx : a.eval x = .slice a' m c) (hsrc : Src w b2 a' m c ys) (hb2 : b2.Nodup) (hf2 : ∀ b ∈ b2, lo ≤ b ∧ Fr w b ∧ b ∉ bs)
  (hbytes : (xs.length + ys.length) * bytes ≤ 140737488355328) (h63 : xs.length + ys.length ≤ 9223372036854775807) (hlo : lo ≤ w.heap.size)
  (h : ∀ p k w' bs', OwnL lo w' e (.slice p (xs.length + ys.length) k) bs' (xs ++ ys) → Tch bs w w' → (∀ b ∈ bs', b ∈ bs ∨ b ∈ b2 ∨ w.heap.size ≤ b) → K (a.put o.dst (.slice p (xs.length + ys.length) k)) w') : o.wp P a w K Q := by
 obtain ⟨v', w', bs', hr, h1, h2, h3⟩ := run_append_L (P := P) t o.type e i z bytes ht hi hz hsize hby hzs hown hsrc hb2 hf2 hbytes h63 hlo
 obtain ⟨p, k, rfl⟩ := h1.slice
 rw [List.length_append] at hr h1
 unfold Oper.wp execOp
 simp only [ho, resolve, invoke, builtin, Sem.run_bind, Sem.run_pure, Result.andThen_ok, List.map_toArray, List.map_cons, List.map_nil, hs, hx, hr]
 exact h p k w' bs' h1 h2 h3
theorem wp_append {α : Type} [Rep α] {ops : Array Oper} {rest : List Oper} {o : Oper} {a : Act} {Q : Exit → Act → World → Prop} (hgd : o.guard = none) (s x : Operand) (t : TypeId)
  (ho : o.op = .call { callee := .builtin .append, args := #[s, x], argTypes := #[t, t] })
  (e : TypeId) (i : TypeInfo) (z : Value) (bytes : Nat) (ht : P.underlying t = some (.slice e)) (hi : P.info? e = some i) (hz : i.zero = some z) (hsize : i.size = size α) (hby : i.bytes = bytes) (hzs : z.cells.size = size α)
  {lo : Nat} {v : Value} {bs : List Nat} {xs : List α} (hs : a.eval s = v) (hown : OwnL lo w e v bs xs)
  {a' : Option Addr} {m c : Nat} {b2 : List Nat} {ys : List α} (hx : a.eval x = .slice a' m c) (hsrc : Src w b2 a' m c ys) (hb2 : b2.Nodup) (hf2 : ∀ b ∈ b2, lo ≤ b ∧ Fr w b ∧ b ∉ bs)
  (hbytes : (xs.length + ys.length) * bytes ≤ 140737488355328) (h63 : xs.length + ys.length ≤ 9223372036854775807) (hlo : lo ≤ w.heap.size)
  (h : ∀ p k w' bs', OwnL lo w' e (.slice p (xs.length + ys.length) k) bs' (xs ++ ys) → Tch bs w w' → (∀ b ∈ bs', b ∈ bs ∨ b ∈ b2 ∨ w.heap.size ≤ b) → wpList P ops Q rest (a.put o.dst (.slice p (xs.length + ys.length) k)) w') : wpList P ops Q (o :: rest) a w :=
 wpList_plain hgd fun _ hK => oper_append s x t ho e i z bytes ht hi hz hsize hby hzs hs hown hx hsrc hb2 hf2 hbytes h63 hlo fun p k w' bs' h1 h2 h3 => hK _ _ (h p k w' bs' h1 h2 h3)
/-- At a step of a region that draws its order. -/
theorem step_append {α : Type} [Rep α] {ops : Array Oper} {o : Oper} {a : Act} {K : Act → World → Prop} {Q : Exit → Act → World → Prop} {E : Prop} (hgd : o.guard = none) (s x : Operand) (t : TypeId)
  (ho : o.op = .call { callee := .builtin .append, args := #[s, x], argTypes := #[t, t] })
  (e : TypeId) (i : TypeInfo) (z : Value) (bytes : Nat) (ht : P.underlying t = some (.slice e)) (hi : P.info? e = some i) (hz : i.zero = some z) (hsize : i.size = size α) (hby : i.bytes = bytes) (hzs : z.cells.size = size α)
  {lo : Nat} {v : Value} {bs : List Nat} {xs : List α} (hs : a.eval s = v) (hown : OwnL lo w e v bs xs)
  {a' : Option Addr} {m c : Nat} {b2 : List Nat} {ys : List α} (hx : a.eval x = .slice a' m c) (hsrc : Src w b2 a' m c ys) (hb2 : b2.Nodup) (hf2 : ∀ b ∈ b2, lo ≤ b ∧ Fr w b ∧ b ∉ bs)
  (hbytes : (xs.length + ys.length) * bytes ≤ 140737488355328) (h63 : xs.length + ys.length ≤ 9223372036854775807) (hlo : lo ≤ w.heap.size)
  (h : ∀ p k w' bs', OwnL lo w' e (.slice p (xs.length + ys.length) k) bs' (xs ++ ys) → Tch bs w w' → (∀ b ∈ bs', b ∈ bs ∨ b ∈ b2 ∨ w.heap.size ≤ b) → K (a.put o.dst (.slice p (xs.length + ys.length) k)) w') :
  if Region.wanted o (yielded ops a.tmps) = true then Oper.wp P o a w K Q else E := by
 have hw : Region.wanted o (yielded ops a.tmps) = true := by simp [Region.wanted, hgd]
 rw [if_pos hw]
 exact oper_append s x t ho e i z bytes ht hi hz hsize hby hzs hs hown hx hsrc hb2 hf2 hbytes h63 hlo h
end
theorem flat_sub {α : Type} {l1 l2 : List (List α)} (h : List.Sublist l1 l2) : List.Sublist l1.flatten l2.flatten := by
 induction h with
 | slnil => exact List.Sublist.refl _
 | cons a _ ih => rw [List.flatten_cons]; exact ih.trans (List.sublist_append_right _ _)
 | cons_cons a _ ih => rw [List.flatten_cons, List.flatten_cons]; exact List.Sublist.append (List.Sublist.refl _) ih
/-- A part of a slice. -/
theorem Slc.cut {α : Type} [Rep α] {w : World} {bs : List Nat} {a : Option Addr} {len cap : Nat} {xs : List α} (h : Slc w bs a len cap xs) (i j : Nat) (hij : i ≤ j) (hj : j ≤ len) :
  ∃ bs', (∀ b ∈ bs', b ∈ bs) ∧ (bs.Nodup → bs'.Nodup) ∧ Slc w bs' (if cap = i then a else a.map (·.add (i * size α))) (j - i) (cap - i) ((xs.take j).drop i) := by
 obtain ⟨hl, hlc, hcm, hh⟩ := h
 have hlen : ((xs.take j).drop i).length = j - i := by simp; omega
 rcases hh with ⟨rfl, rfl, h5⟩ | ⟨hne, b, off, bss, cells, rfl, hlt, rfl, hE, hA⟩
 ·refine ⟨[], by simp, by simp, hlen.symm, by omega, by omega, .inl ⟨by simp, rfl, fun h => ?_⟩⟩
  cases a with
  | none => have := h5 rfl; omega
  | some p => split at h <;> simp at h
 ·by_cases he : i = j
  ·subst he
   refine ⟨[], by simp, by simp, hlen.symm, by omega, by omega, .inl ⟨List.eq_nil_of_length_eq_zero (by omega), rfl, fun h => ?_⟩⟩
   split at h <;> simp at h
  ·have hic : i < cap := by omega
   have hcl := hE.length.2
   rw [if_neg (by omega)]
   have hsub : List.Sublist ((bss.take j).drop i).flatten bss.flatten := flat_sub ((List.drop_sublist _ _).trans (List.take_sublist _ _))
   refine ⟨b :: ((bss.take j).drop i).flatten, ?_, ?_, hlen.symm, by omega, by omega, .inr ⟨fun h => by rw [h] at hlen; simp at hlen; omega, b, off + i * size α, (bss.take j).drop i, (cells.take (j * size α)).drop (i * size α), by rw [Option.map_some, add_none], hlt, rfl, (hE.take j).drop i, ?_⟩⟩
   ·intro x hx
    rcases List.mem_cons.1 hx with rfl | hx
    ·simp
    ·exact List.mem_cons_of_mem _ (hsub.subset hx)
   ·intro hn
    exact (hsub.cons_cons b).nodup hn
   ·refine (hA.take _).drop _ ?_
    rw [List.length_take, hcl]
    have : i * size α ≤ j * size α := Nat.mul_le_mul_right _ hij
    have : j * size α ≤ xs.length * size α := Nat.mul_le_mul_right _ (by omega)
    omega
section
variable {α : Type} [Rep α] {P : Program} {w : World} {bs : List Nat} {a : Option Addr} {len cap : Nat} {xs : List α}
theorem Slc.cut_h (h : Slc w bs a len cap xs) (t : TypeId) {e : TypeId} {i : TypeInfo} (ht : P.underlying t = some (.slice e)) (hi : P.info? e = some i) (hs : i.size = size α) (u : Int) (h1 : 0 ≤ u) (h2 : u ≤ xs.length) :
  ∃ a' bs', (∀ W, (Instr.slice t (.slice a len cap) none (some (.int .i64 u)) none).run P W = .ok (.slice a' u.toNat cap) W) ∧ (∀ b ∈ bs', b ∈ bs) ∧ (bs.Nodup → bs'.Nodup) ∧ Slc w bs' a' u.toNat cap (xs.take u.toNat) := by
 have hl := h.1
 have hc := h.2.1
 obtain ⟨bs', hb, hn, hS⟩ := h.cut 0 u.toNat (by omega) (by omega)
 simp only [Nat.sub_zero, List.drop_zero] at hS
 refine ⟨_, bs', fun W => ?_, hb, hn, hS⟩
 have he : P.elem t = e := by simp [Program.elem, ht]
 rw [run_slice_h W t a len cap (by rw [he]; exact ht) .i64 u h1 (by omega), he, run_sizeOf W hi]
 simp only [Result.andThen, sliced, Program.cellsOf, hi, Option.map_some, Option.getD_some, hs, Nat.sub_zero]
theorem Slc.cut_l (h : Slc w bs a len cap xs) (t : TypeId) {e : TypeId} {i : TypeInfo} (ht : P.underlying t = some (.slice e)) (hi : P.info? e = some i) (hs : i.size = size α) (l : Int) (h0 : 0 ≤ l) (h1 : l ≤ xs.length) :
  ∃ a' bs', (∀ W, (Instr.slice t (.slice a len cap) (some (.int .i64 l)) none none).run P W = .ok (.slice a' (len - l.toNat) (cap - l.toNat)) W) ∧ (∀ b ∈ bs', b ∈ bs) ∧ (bs.Nodup → bs'.Nodup) ∧ Slc w bs' a' (len - l.toNat) (cap - l.toNat) (xs.drop l.toNat) := by
 have hl := h.1
 have hc := h.2.1
 obtain ⟨bs', hb, hn, hS⟩ := h.cut l.toNat len (by omega) (by omega)
 rw [List.take_of_length_le (by omega)] at hS
 refine ⟨_, bs', fun W => ?_, hb, hn, hS⟩
 have he : P.elem t = e := by simp [Program.elem, ht]
 rw [run_slice_l W t a len cap (by rw [he]; exact ht) .i64 l h0 (by omega), he, run_sizeOf W hi]
 simp only [Result.andThen, sliced, Program.cellsOf, hi, Option.map_some, Option.getD_some, hs]
end
end Go.G6
namespace Go.G6
open Go.RowKit Rep
/-- A result that is a list in a row of the call's own. -/
def RetL {α : Type} [Rep α] (w : World) (e : TypeId) (x : List α) (en : Ending) (w' : World) : Prop := ∃ v bs, en = .returned v ∧ OwnL w.heap.size w' e v bs x ∧ Below w.heap.size w w'
theorem Tch.low {bs : List Nat} {w w' : World} {B : Nat} (h : Tch bs w w') (hB : B ≤ w.heap.size) (hs : ∀ x ∈ bs, B ≤ x ∧ x < w.heap.size) : Below B w w' := h.below hB fun x hx => (hs x hx).1
theorem below_tch {w W W' : World} {bs : List Nat} (h : Below w.heap.size w W) (ht : Tch bs W W') (hs : ∀ x ∈ bs, w.heap.size ≤ x ∧ x < W.heap.size) : Below w.heap.size w W' := h.trans (ht.low h.size hs)
end Go.G6
namespace Go.G6
open Go.RowKit Rep
theorem src_new {α : Type} [Rep α] {w : World} {b2 : List Nat} {cs : List Value} {y : α} {N : Nat} (h : pt w b2 cs y) (hN : N = w.heap.size) (t : TypeId) (c : Nat) : Src (w.alloc (.cells cs.toArray t)) b2 (some ⟨N, 0, none⟩) 1 c [y] := by
 subst hN; exact src_one h t c
theorem Tch.frozen {bs : List Nat} {w w' : World} (h : Tch bs w w') {p : Addr} (hp : p.block < w.heap.size) (hn : p.block ∉ bs) : w'.frozen? p = w.frozen? p := World.frozen?_of_block (h.block _ hp hn)
/-- What a box of the call's own holds; that it may be written. -/
structure Bx (w : World) (b : Nat) (c : Array Value) : Prop where
 out : ∀ o, w.cell? ⟨b, o, none⟩ = c[o]?
 f : Fr w b
theorem Bx.fr {w : World} {b : Nat} {c : Array Value} (h : Bx w b c) (o : Nat) : w.frozen? ⟨b, o, none⟩ = false := h.f.frozen o
theorem Bx.keep {w w' : World} {b : Nat} {c : Array Value} (h : Bx w b c) (hk : w'.heap[b]? = w.heap[b]?) : Bx w' b c := ⟨fun o => (World.cell?_of_block hk).trans (h.out o), h.f.keep hk⟩
theorem Bx.below {W w1 : World} {b : Nat} {c : Array Value} (hb : Below W.heap.size W w1) (hlt : b < W.heap.size) (h : Bx W b c) : Bx w1 b c := h.keep (hb.block b hlt)
theorem Bx.tch {bs : List Nat} {W w1 : World} {b : Nat} {c : Array Value} (hT : Tch bs W w1) (hlt : b < W.heap.size) (hn : b ∉ bs) (h : Bx W b c) : Bx w1 b c := h.keep (hT.block b hlt hn)
theorem Bx.alloc {w : World} {b : Nat} {c : Array Value} (h : Bx w b c) (hlt : b < w.heap.size) (o : Obj) : Bx (w.alloc o) b c := h.keep (Below.heap_alloc _ _ _ hlt)
theorem Bx.setOther {w : World} {b : Nat} {c : Array Value} {p : Addr} (h : Bx w b c) (hn : b ≠ p.block) (v : Value) : Bx (w.setCell p v) b c := h.keep (Below.heap_setCell _ _ _ _ hn)
theorem Bx.new (w : World) (c : Array Value) (t : TypeId) {b : Nat} (hb : b = w.heap.size) : Bx (w.alloc (.cells c t)) b c := by
 subst hb; exact ⟨fun o => World.cell?_alloc_new w c t o, ⟨c, t, heap_alloc_new w _⟩⟩
theorem Bx.setSame {w : World} {b : Nat} {c : Array Value} (h : Bx w b c) (o : Nat) (v : Value) : Bx (w.setCell ⟨b, o, none⟩ v) b (c.setIfInBounds o v) := by
 refine ⟨fun i => ?_, h.f.setCell _ _⟩
 by_cases hi : o = i
 ·subst hi
  by_cases ho : o < c.size
  ·rw [World.cell?_setCell_same _ _ _ ((h.out o).trans (Array.getElem?_eq_getElem ho)), Array.getElem?_setIfInBounds_self_of_lt ho]
  ·have h1 := h.out o
   rw [Array.getElem?_eq_none (by omega)] at h1
   rw [Array.getElem?_eq_none (by rw [Array.size_setIfInBounds]; omega)]
   simp only [World.cell?, World.setCell] at h1 ⊢
   obtain ⟨cc, e, hc⟩ := h.f
   simp only [Array.getElem?_modify, hc] at h1 ⊢
   simp at h1 ⊢
   exact h1
 ·rw [World.cell?_setCell_other _ _ _ _ (fun e => hi (by have := congrArg Addr.off e; simp only at this; omega)), h.out i, Array.getElem?_setIfInBounds_ne (by omega)]
/-- An empty literal. -/
theorem ownL_empty {α : Type} [Rep α] {lo N : Nat} {w : World} {e : TypeId} (hN : N = w.heap.size) (hlo : lo ≤ w.heap.size) : OwnL lo (w.alloc (.cells #[] e)) e (.slice (some ⟨N, 0, none⟩) 0 0) [N] ([] : List α) := by
 subst hN
 refine ⟨[], [], ?_, rfl, rfl, by simp, ?_⟩
 ·exact World.ownsRow_lit w #[] 0 hlo (by simp) (by simp)
 ·intro b hb
  simp at hb; subst hb
  exact ⟨hlo, #[], e, heap_alloc_new w _⟩
theorem slc_nil {α : Type} [Rep α] (w : World) : Slc w [] none 0 0 ([] : List α) := ⟨rfl, Nat.le_refl _, Nat.zero_le _, .inl ⟨rfl, rfl, fun _ => rfl⟩⟩
theorem wrapI {x : Int} (h : -9223372036854775808 ≤ x ∧ x ≤ 9223372036854775807) : IntKind.i64.wrap x = x := by
 have e : IntKind.i64.wrap x = wrap64 x := by rw [IntKind.wrap_i64]; unfold wrap64; rfl
 rw [e]; exact IntWalk.wrap64_in _ h
end Go.G6
end
section
set_option linter.unusedSimpArgs false
set_option linter.unusedVariables false
namespace Go.G6
open Go.RowKit Rep
theorem setCells_heap (g : Nat) : ∀ (cs : List Value) (o : Nat) (w : World) (k : Nat), k ≠ g → (w.setCells g o cs).heap[k]? = w.heap[k]?
 | [], _, _, _, _ => rfl
 | v :: r, o, w, k, hk => (setCells_heap g r (o + 1) _ k hk).trans (Below.heap_setCell _ _ _ _ hk)
theorem setCells_size (g : Nat) : ∀ (cs : List Value) (o : Nat) (w : World), (w.setCells g o cs).heap.size = w.heap.size
 | [], _, _ => rfl
 | v :: r, o, w => (setCells_size g r (o + 1) _).trans (by simp)
theorem Fr.setCells {b : Nat} (g : Nat) : ∀ (cs : List Value) (o : Nat) {w : World}, Fr w b → Fr (w.setCells g o cs) b
 | [], _, _, h => h
 | v :: r, o, _, h => Fr.setCells g r (o + 1) (h.setCell _ _)
theorem Below.setCells {B : Nat} {a : World} (g : Nat) (hg : B ≤ g) : ∀ (cs : List Value) (o : Nat) {w : World}, Below B a w → Below B a (w.setCells g o cs)
 | [], _, _, h => h
 | v :: r, o, _, h => Below.setCells g hg r (o + 1) (h.setCell hg v)
theorem Tch.setCells {bs : List Nat} {a : World} (g : Nat) (hg : g ∈ bs) : ∀ (cs : List Value) (o : Nat) {w : World}, Tch bs a w → Tch bs a (w.setCells g o cs)
 | [], _, _, h => h
 | v :: r, o, _, h => Tch.setCells g hg r (o + 1) (h.setCell hg v)
theorem ownsRow_setCells {base : Nat} {e : TypeId} {size g n cap : Nat} : ∀ (cs : List Value) (o : Nat) {w : World} {xs : List Value}, w.ownsRow base e size (.slice (some ⟨g, 0, none⟩) n cap) n xs → o + cs.length ≤ xs.length →
  (w.setCells g o cs).ownsRow base e size (.slice (some ⟨g, 0, none⟩) n cap) n (xs.take o ++ (cs ++ xs.drop (o + cs.length)))
 | [], o, w, xs, h, _ => by simpa [World.setCells] using h
 | v :: r, o, w, xs, h, hl => by
  simp only [List.length_cons] at hl
  have := ownsRow_setCells r (o + 1) (h.stored o v).1 (by simp; omega)
  rw [take_set_succ _ _ _ (by omega), List.drop_set, if_pos (by omega)] at this
  simp only [List.append_assoc, List.cons_append, List.nil_append, List.length_cons] at this ⊢
  rw [show o + (r.length + 1) = o + 1 + r.length by omega]
  exact this
theorem Elems.rep {α : Type} [Rep α] {w : World} : ∀ {xs : List α} {bss : List (List Nat)} {cells : List Value}, Elems w bss cells xs → ∀ i (h : i < xs.length), ∃ bi cs pre post pb qb, bss = pb ++ bi :: qb ∧ cells = pre ++ (cs ++ post) ∧ pre.length = i * size α ∧ pt w bi cs xs[i] ∧
  ∀ w' x' cs' b', (∀ k ∈ (pb ++ qb).flatten, w'.heap[k]? = w.heap[k]?) → pt w' b' cs' x' → Elems w' (pb ++ b' :: qb) (pre ++ (cs' ++ post)) (xs.set i x') := by
 intro xs
 induction xs with
 | nil => intro bss cells _ i h; simp at h
 | cons x xs ih =>
  rintro (_ | ⟨bs, bss⟩) cells h i hi
  ·exact h.elim
  obtain ⟨cs, rest, rfl, hp, h2⟩ := h
  cases i with
  | zero => exact ⟨bs, cs, [], rest, [], bss, rfl, rfl, by simp, hp, fun w' x' cs' b' hk hp' => ⟨cs', rest, rfl, hp', h2.keep fun k hk' => hk k (by simpa using hk')⟩⟩
  | succ i =>
   obtain ⟨bi, cs1, pre, post, pb, qb, rfl, rfl, hl, hp1, hu⟩ := ih h2 i (by simpa using hi)
   refine ⟨bi, cs1, cs ++ pre, post, bs :: pb, qb, rfl, by simp, ?_, by simpa using hp1, fun w' x' cs' b' hk hp' => ?_⟩
   ·rw [List.length_append, Rep.len hp, hl, Nat.add_mul]; omega
   ·rw [List.append_assoc]
    refine ⟨cs, _, rfl, Rep.keep hp fun k hk' => hk k ?_, hu w' x' cs' b' (fun k hk' => hk k ?_) hp'⟩
    ·simp [hk']
    ·rw [List.cons_append, List.flatten_cons]; exact List.mem_append_right _ hk'
theorem OwnL.setE {α : Type} [Rep α] {lo : Nat} {w : World} {e : TypeId} {v : Value} {bs : List Nat} {xs : List α} (h : OwnL lo w e v bs xs) (i : Nat) (hi : i < xs.length) :
  ∃ g cap bi cs, v = .slice (some ⟨g, 0, none⟩) xs.length cap ∧ g ∈ bs ∧ lo ≤ g ∧ g < w.heap.size ∧ Fr w g ∧ (∀ x ∈ bi, x ∈ bs ∧ x ≠ g) ∧ Own lo w bi cs xs[i] ∧ At w g (i * size α) cs ∧
   ∀ w1, (∀ k ∈ bs, k ∉ bi → w1.heap[k]? = w.heap[k]?) → ∀ b2 cs2 y, Own lo w1 b2 cs2 y → (∀ b ∈ b2, b ∉ bs ∨ b ∈ bi) → ∃ bs', OwnL lo (w1.setCells g (i * size α) cs2) e v bs' (xs.set i y) ∧ (∀ b ∈ bs', b ∈ bs ∨ b ∈ b2) := by
 obtain ⟨cells, bss, hR, hE, rfl, hn, hf⟩ := h
 rcases hR.2 with ⟨rfl, h0⟩ | ⟨g, cap, cur, rfl, hg, hgg, hnc, hcm, hcs, ht⟩
 ·omega
 obtain ⟨bi, cs, pre, post, pb, qb, rfl, rfl, hpl, hpi, hu⟩ := hE.rep i hi
 have hlt : g < w.heap.size := (Array.getElem?_eq_some_iff.1 hgg).1
 simp only [Value.ownBlock, Option.toList_some] at hn hf ⊢
 have hcl := Rep.len hpi
 have hn1 := List.nodup_append.1 hn
 have hbg : ∀ k ∈ (pb ++ bi :: qb).flatten, k ≠ g := fun k hk e => hn1.2.2 g (by simp) k hk e.symm
 rw [List.flatten_append, List.flatten_cons] at hn1 hbg
 have hn2 := List.nodup_append.1 hn1.2.1
 have hn3 := List.nodup_append.1 hn2.2.1
 have hAt : At w g (i * size α) cs := by
  intro j u hj
  have hj1 := (List.getElem?_eq_some_iff.1 hj).1
  have hc := hR.1
  rw [World.ownsRow.cellAt hR _ (by rw [← hc, List.length_append, List.length_append]; omega), List.getElem?_append_right (by omega), hpl, show i * size α + j - i * size α = j by omega, List.getElem?_append_left hj1]
  exact hj
 refine ⟨g, cap, bi, cs, rfl, by simp, hg, hlt, ⟨cur, e, hgg⟩, fun x hx => ⟨?_, hbg x (by simp [hx])⟩, ⟨hpi, hn3.1, fun x hx => hf x (by simp [hx])⟩, hAt, ?_⟩
 ·simp [hx]
 intro w1 hk b2 cs2 y hO hd
 have hmem : ∀ k, k ∈ pb.flatten ∨ k ∈ qb.flatten → k ∉ bi := by
  rintro k (h1 | h1) h2
  ·exact hn2.2.2 k h1 k (List.mem_append_left _ h2) rfl
  ·exact hn3.2.2 k h2 k h1 rfl
 have hb2g : ∀ k ∈ b2, k ≠ g := by
  rintro k hk1 rfl
  rcases hd k hk1 with h1 | h1
  ·exact h1 (by simp)
  ·exact hbg k (by simp [h1]) rfl
 have hb2m : ∀ k ∈ b2, k ∉ pb.flatten ∧ k ∉ qb.flatten := by
  intro k hk1
  rcases hd k hk1 with h1 | h1
  ·constructor
   ·exact fun h2 => h1 (by simp only [List.mem_append, List.flatten_append]; exact .inr (.inl h2))
   ·exact fun h2 => h1 (by simp only [List.mem_append, List.flatten_append, List.flatten_cons]; exact .inr (.inr (.inr h2)))
  ·exact ⟨fun h2 => hmem k (.inl h2) h1, fun h2 => hmem k (.inr h2) h1⟩
 have hgi : g ∉ bi := fun hm => hbg g (by simp [hm]) rfl
 have hg1 : w1.heap[g]? = w.heap[g]? := hk g (by simp) hgi
 have hcl2 := Rep.len hO.1
 have hkk : ∀ k ∈ (pb ++ qb).flatten, w1.heap[k]? = w.heap[k]? := fun k hk1 => by
  rw [List.flatten_append] at hk1
  have h1 := List.mem_append.1 hk1
  refine hk k ?_ (hmem k h1)
  rcases h1 with h1 | h1
  ·simp only [List.mem_append, List.flatten_append]; exact .inr (.inl h1)
  ·simp only [List.mem_append, List.flatten_append, List.flatten_cons]; exact .inr (.inr (.inr h1))
 have hkg : ∀ k ∈ (pb ++ qb).flatten, k ≠ g := fun k hk1 => hbg k (by
  rw [List.flatten_append] at hk1
  rcases List.mem_append.1 hk1 with h1 | h1
  ·exact List.mem_append_left _ h1
  ·exact List.mem_append_right _ (List.mem_append_right _ h1))
 have hR1 : w1.ownsRow lo e (size α) (.slice (some ⟨g, 0, none⟩) xs.length cap) xs.length (pre ++ (cs ++ post)) := ⟨hR.1, .inr ⟨g, cap, cur, rfl, hg, hg1.trans hgg, hnc, hcm, hcs, ht⟩⟩
 have hR2 := ownsRow_setCells cs2 (i * size α) hR1 (by rw [← hpl]; simp; omega)
 rw [← hpl, List.take_left', List.drop_append, List.drop_of_length_le (by omega), List.nil_append, show pre.length + cs2.length - pre.length = cs.length by omega, List.drop_left'] at hR2
 rotate_left
 ·rfl
 ·rfl
 refine ⟨g :: (pb ++ b2 :: qb).flatten, ⟨pre ++ (cs2 ++ post), pb ++ b2 :: qb, ?_, ?_, rfl, ?_, ?_⟩, ?_⟩
 ·rw [List.length_set, ← hpl]; exact hR2
 ·exact hu _ y cs2 b2 (fun k hk1 => (setCells_heap g cs2 _ w1 k (hkg k hk1)).trans (hkk k hk1)) (Rep.keep hO.1 fun k hk1 => setCells_heap g cs2 _ w1 k (hb2g k hk1))
 ·rw [List.flatten_append, List.flatten_cons]
  refine List.nodup_cons.2 ⟨?_, List.nodup_append.2 ⟨hn2.1, List.nodup_append.2 ⟨hO.2.1, hn3.2.1, fun a ha b hb e => (hb2m a ha).2 (e ▸ hb)⟩, fun a ha b hb e => ?_⟩⟩
  ·intro hm
   rcases List.mem_append.1 hm with h1 | h1
   ·exact hbg g (List.mem_append_left _ h1) rfl
   ·rcases List.mem_append.1 h1 with h1 | h1
    ·exact hb2g g h1 rfl
    ·exact hbg g (List.mem_append_right _ (List.mem_append_right _ h1)) rfl
  ·subst e
   rcases List.mem_append.1 hb with h1 | h1
   ·exact (hb2m a h1).1 ha
   ·exact hn2.2.2 a ha a (List.mem_append_right _ h1) rfl
 ·intro b hb
  rcases List.mem_cons.1 hb with rfl | hb
  ·exact ⟨hg, Fr.setCells _ _ _ ⟨cur, e, hg1.trans hgg⟩⟩
  ·rw [List.flatten_append, List.flatten_cons] at hb
   have hold : ∀ k, k ∈ pb.flatten ∨ k ∈ qb.flatten → lo ≤ k ∧ Fr (w1.setCells g pre.length cs2) k := fun k h1 => by
    have h2 : k ∈ (pb ++ qb).flatten := by rw [List.flatten_append]; exact List.mem_append.2 h1
    have h3 : k ∈ [g] ++ (pb ++ bi :: qb).flatten := by
     rw [List.flatten_append, List.flatten_cons]
     rcases h1 with h1 | h1
     ·exact List.mem_append_right _ (List.mem_append_left _ h1)
     ·exact List.mem_append_right _ (List.mem_append_right _ (List.mem_append_right _ h1))
    exact ⟨(hf k h3).1, Fr.setCells _ _ _ ((hf k h3).2.keep (hkk k h2))⟩
   rw [← hpl]
   rcases List.mem_append.1 hb with h1 | h1
   ·exact hold b (.inl h1)
   ·rcases List.mem_append.1 h1 with h1 | h1
    ·exact ⟨(hO.2.2 b h1).1, Fr.setCells _ _ _ (hO.2.2 b h1).2⟩
    ·exact hold b (.inr h1)
 ·intro b hb
  rcases List.mem_cons.1 hb with rfl | hb
  ·exact .inl (by simp)
  ·rw [List.flatten_append, List.flatten_cons] at hb
   rcases List.mem_append.1 hb with h1 | h1
   ·exact .inl (by simp only [List.mem_append, List.flatten_append]; exact .inr (.inl h1))
   ·rcases List.mem_append.1 h1 with h1 | h1
    ·exact .inr h1
    ·exact .inl (by simp only [List.mem_append, List.flatten_append, List.flatten_cons]; exact .inr (.inr (.inr h1)))
/-- What 'make' lays, where the zero reads as a datum without blocks. -/
theorem ownL_made {α : Type} [Rep α] {lo : Nat} {w : World} {e : TypeId} {v : Value} {n : Nat} {z : List Value} {x : α} (h : w.ownsRow lo e (size α) v n ((List.replicate n z).flatten)) (hz : pt w [] z x) :
  OwnL lo w e v v.ownBlock.toList (List.replicate n x) := by
 have hfl : ∀ n, (List.replicate n ([] : List Nat)).flatten = [] := fun n => flat_nil fun b hb => List.eq_of_mem_replicate hb
 refine ⟨_, List.replicate n [], by rw [List.length_replicate]; exact h, ?_, by rw [hfl, List.append_nil], ?_, ?_⟩
 ·clear h
  induction n with
  | zero => rfl
  | succ n ih => exact ⟨z, _, rfl, hz, ih⟩
 ·cases v.ownBlock <;> simp
 ·intro b hb
  have hv := ownBlock_mem.1 hb
  rcases h.2 with ⟨rfl, _⟩ | ⟨g, cap, cur, rfl, hg, hgg, _⟩
  ·simp [Value.ownBlock] at hv
  ·simp [Value.ownBlock] at hv
   subst hv
   exact ⟨hg, cur, e, hgg⟩
end Go.G6
end
section
set_option linter.unusedSimpArgs false
set_option linter.unusedVariables false
namespace Go.G6
open Go.RowKit Rep
def zEnt : EntryD := ⟨0, ByteArray.empty⟩
def allB (f : Nat → Bool) : Nat → Nat → Bool
 | 0, _ => true
 | m + 1, k => f k && allB f m (k + 1)
end Go.G6
end
section
set_option linter.unusedSimpArgs false
set_option linter.unusedVariables false
namespace Go.G6
open Go.RowKit
section
variable {P : Program} {ops : Array Oper} {Q : Exit → Act → World → Prop} {md : Region.Mode} {S : World → Prop} {L : Nat}
/-- Whatever order is picked; behind every operation but number L the condition S holds. -/
def wpAnyL (P : Program) (md : Region.Mode) (ops : Array Oper) (Q : Exit → Act → World → Prop) (S : World → Prop) (L : Nat) : Nat → Array Bool → Act → World → Prop
 | 0, listed, a, w => Region.ready md ops listed = [] ∧ Q .normal a w
 | fuel + 1, listed, a, w =>
  (Region.ready md ops listed = [] → Q .normal a w) ∧
  ∀ i ∈ Region.ready md ops listed, wpOp P ops Q i (fun a' w' => (i ≠ L → S w') ∧ wpAnyL P md ops Q S L fuel (listed.setIfInBounds i true) a' w') a w
theorem wpAny_of_late : ∀ (fuel : Nat) (listed : Array Bool) (a : Act) (w : World), wpAnyL P md ops Q S L fuel listed a w → wpAny P md ops Q fuel listed a w
 | 0, _, _, _, h => h
 | fuel + 1, _, _, _, h => ⟨h.1, fun i hi => wpOp_mono (fun a' w' h' => wpAny_of_late fuel _ a' w' h'.2) (h.2 i hi)⟩
/-- Number L waits for number i. -/
def waits (md : Region.Mode) (ops : Array Oper) (L i : Nat) : Bool := decide (ops.size ≤ L) || i != L && ((ops[L]?).map fun o => o.after.any fun e => Region.binds md e && e.on == i).getD false
theorem waits_spec {i : Nat} (h : waits md ops L i = true) : ops.size ≤ L ∨ ∃ o, ops[L]? = some o ∧ ∃ e ∈ o.after, Region.binds md e = true ∧ e.on = i := by
 unfold waits at h
 rw [Bool.or_eq_true, decide_eq_true_eq, Bool.and_eq_true] at h
 rcases h with h | h
 ·exact .inl h
 have h2 := h.2
 cases ho : ops[L]? with
 | none => rw [ho] at h2; simp at h2
 | some o =>
  rw [ho] at h2
  simp only [Option.map_some, Option.getD_some] at h2
  obtain ⟨e, he, hb⟩ := Array.any_eq_true'.1 h2
  rw [Bool.and_eq_true, beq_iff_eq] at hb
  exact .inr ⟨o, rfl, e, he, hb.1, hb.2⟩
theorem wpAnyL_first {i : Nat} {oi : Oper} {v : Value} (hi : ops[i]? = some oi) (hsel : ∀ (j : Nat) (o : Oper) cs b, ops[j]? = some o → o.op ≠ .select cs b)
  (hQ : ∀ c a w, Q (.panic c) (a.put oi.dst v) w → Q (.panic c) a w) (hL : waits md ops L i = true) :
  ∀ (fuel : Nat) (listed : Array Bool) (a : Act) (w : World),
   (∀ j oj, ops[j]? = some oj → j ≠ i → listed.getD j true = false → (∀ e ∈ oj.after, Region.binds md e = true → e.on ≠ i) → oi.apart ops oj = true) →
   i ∈ Region.ready md ops listed → YieldsIf P ops S oi v a → S w →
   wpAnyL P md ops Q S L fuel (listed.setIfInBounds i true) (a.put oi.dst v) w → wpAnyL P md ops Q S L (fuel + 1) listed a w := by
 intro fuel
 induction fuel with
 | zero =>
  intro listed a w _ hr hy hS H
  refine ⟨fun h => (by rw [h] at hr; cases hr), fun j hj => ?_⟩
  by_cases hji : j = i
  ·subst hji; exact hy.wpOp hi hS ⟨fun _ => hS, H⟩
  ·have := ready_mono hj hji
   rw [H.1] at this
   cases this
 | succ fuel ih =>
  intro listed a w hfree hr hy hS H
  refine ⟨fun h => (by rw [h] at hr; cases hr), fun j hj => ?_⟩
  by_cases hji : j = i
  ·subst hji; exact hy.wpOp hi hS ⟨fun _ => hS, H⟩
  ·have h1 := H.2 j (ready_mono hj hji)
   obtain ⟨hjun, oj, hoj, hall⟩ := mem_ready.1 hj
   have hnot : ∀ e ∈ oj.after, Region.binds md e = true → e.on ≠ i := fun e he hb heq => by
    have h1 := hall e he hb
    have h0 := (mem_ready.1 hr).1
    rw [heq] at h1
    rcases Nat.lt_or_ge i listed.size with h' | h'
    ·simp [h'] at h0 h1; rw [h0] at h1; cases h1
    ·simp [Array.getElem?_eq_none h'] at h1
   have hjL : j ≠ L := fun e => by
    obtain hsz | ⟨oL, hoL, e1, he1, hb1, ho1⟩ := waits_spec hL
    ·have := (Array.getElem?_eq_some_iff.1 hoj).1
     omega
    subst e
    rw [hoL] at hoj
    obtain rfl := Option.some.inj hoj
    exact hnot e1 he1 hb1 ho1
   have h2 := wpOp_putIf hoj (hfree j oj hoj hji hjun hnot) (fun cs b => hsel i oi cs b hi) (fun cs b => hsel j oj cs b hoj) hQ hy h1
   have hfree' : ∀ k ok, ops[k]? = some ok → k ≠ i → (listed.setIfInBounds j true).getD k true = false →
     (∀ e ∈ ok.after, Region.binds md e = true → e.on ≠ i) → oi.apart ops ok = true := fun k ok hk hki hun hno => by
    refine hfree k ok hk hki ?_ hno
    by_cases hjk : j = k
    ·subst hjk; exact hjun
    ·rw [getD_set_ne true hjk] at hun; exact hun
   refine wpOp_mono (fun a' w' h3 => ⟨h3.2.1, ih (listed.setIfInBounds j true) a' w' hfree' (ready_mono hr (Ne.symm hji)) h3.1 (h3.2.1 hjL) ?_⟩) h2
   rw [Array.setIfInBounds_comm _ _ hji]
   exact h3.2.2
theorem late_take {i : Nat} {oi : Oper} {v : Value} {fuel : Nat} {listed : Array Bool} {a : Act} {w : World} (hi : ops[i]? = some oi)
  (hs : (Region.noSelect ops && Region.free md ops listed i && (Region.ready md ops listed).contains i && waits md ops L i) = true)
  (hQ : ∀ c a w, Q (.panic c) (a.put oi.dst v) w → Q (.panic c) a w) (hw : Region.wanted oi (yielded ops a.tmps) = true) (hy : ∀ w, S w → (execOp a.eval oi).run P w = .ok (.value v) w) (hS : S w)
  (h : wpAnyL P md ops Q S L fuel (listed.setIfInBounds i true) (a.put oi.dst v) w) : wpAnyL P md ops Q S L (fuel + 1) listed a w := by
 simp only [Bool.and_eq_true] at hs
 exact wpAnyL_first hi (Region.noSelect_spec hs.1.1.1) hQ hs.2 fuel listed a w (Region.free_spec hi hs.1.1.2) (by simpa using hs.1.2) (.inl ⟨hw, hy⟩) hS h
/-- One operation alone may come up. -/
theorem late_one {i : Nat} {o : Oper} {fuel : Nat} {listed : Array Bool} {a : Act} {w : World} (ho : ops[i]? = some o) (hr : Region.ready md ops listed = [i])
  (h : ∀ K' : Act → World → Prop, Shut (∀ a w, (i ≠ L → S w) → ((i ≠ L → S w) → wpAnyL P md ops Q S L fuel (listed.setIfInBounds i true) a w) → K' a w) → if Region.wanted o (yielded ops a.tmps) = true then Oper.wp P o a w K' Q else K' (a.put o.dst undef) w) :
  wpAnyL P md ops Q S L (fuel + 1) listed a w := by
 refine ⟨fun h0 => (by rw [hr] at h0; cases h0), fun j hj => ?_⟩
 rw [hr] at hj
 obtain rfl := List.mem_singleton.1 hj
 exact wpOp_step ho (fun K' hK => h K' (fun a w hS hW => hK a w ⟨hS, hW hS⟩))
/-- One of two. -/
theorem late_two {i j : Nat} {o o' : Oper} {fuel : Nat} {listed : Array Bool} {a : Act} {w : World} (ho : ops[i]? = some o) (ho' : ops[j]? = some o') (hr : Region.ready md ops listed = [i, j])
  (h : ∀ K' : Act → World → Prop, Shut (∀ a w, (i ≠ L → S w) → ((i ≠ L → S w) → wpAnyL P md ops Q S L fuel (listed.setIfInBounds i true) a w) → K' a w) → if Region.wanted o (yielded ops a.tmps) = true then Oper.wp P o a w K' Q else K' (a.put o.dst undef) w)
  (h' : ∀ K' : Act → World → Prop, Shut (∀ a w, (j ≠ L → S w) → ((j ≠ L → S w) → wpAnyL P md ops Q S L fuel (listed.setIfInBounds j true) a w) → K' a w) → if Region.wanted o' (yielded ops a.tmps) = true then Oper.wp P o' a w K' Q else K' (a.put o'.dst undef) w) :
  wpAnyL P md ops Q S L (fuel + 1) listed a w := by
 refine ⟨fun h0 => (by rw [hr] at h0; cases h0), fun k hk => ?_⟩
 rw [hr] at hk
 simp only [List.mem_cons, List.not_mem_nil, or_false] at hk
 rcases hk with rfl | rfl
 ·exact wpOp_step ho (fun K' hK => h K' (fun a w hS hW => hK a w ⟨hS, hW hS⟩))
 ·exact wpOp_step ho' (fun K' hK => h' K' (fun a w hS hW => hK a w ⟨hS, hW hS⟩))
theorem late_done {listed : Array Bool} {a : Act} {w : World} (hr : Region.ready md ops listed = []) (h : Q .normal a w) :
  ∀ fuel, wpAnyL P md ops Q S L fuel listed a w
 | 0 => ⟨hr, h⟩
 | _ + 1 => ⟨fun _ => h, by rw [hr]; simp⟩
theorem late_start (S : World → Prop) (L : Nat) {id : Nat} {a : Act} {w : World} (hm : P.follows .mixedOrders = true) (hS : S w.drew)
  (h : S w.drew → wpAnyL P .any ops Q S L ops.size (Array.replicate ops.size false) a w.drew) : (Code.region id ops true).wp P Q a w :=
 wp_region_any hm (wpAny_of_late _ _ _ _ (h hS))
end
end Go.G6
namespace Go.G6
open Go.RowKit
theorem Tch.drew {bs : List Nat} {a w : World} (h : Tch bs a w) : Tch bs a w.drew := h.trans ⟨rfl, rfl, rfl, Nat.le_refl _, fun _ _ _ => rfl⟩
end Go.G6
namespace Go.G6
open Go.RowKit Rep
theorem keepc {bs c : List Nat} {W0 W W' : World} (h : Tch bs W0 W) (hT : Tch c W W') (hc : ∀ x ∈ c, x ∈ bs ∨ W0.heap.size ≤ x) : Tch bs W0 W' :=
 ⟨hT.os.trans h.os, hT.tape.trans h.tape, hT.output.trans h.output, Nat.le_trans h.size hT.size, fun k hk hn => (hT.block k (Nat.lt_of_lt_of_le hk h.size) fun hm => (hc k hm).elim hn (by omega)).trans (h.block k hk hn)⟩
theorem cellc {c : List Nat} {W W' : World} (hT : Tch c W W') {p : Addr} {u : Value} (h : W.cell? p = some u) (hp : p.block ∉ c) : W'.cell? p = some u := (hT.cell (World.block_lt_of_cell? W p h) hp).trans h
end Go.G6
theorem Go.G6.Fr.lt {w : Go.World} {b : Nat} (h : Go.G6.Fr w b) : b < w.heap.size := by
 obtain ⟨c, e, h⟩ := h
 exact (Array.getElem?_eq_some_iff.1 h).1
namespace Go.G6
open Go.RowKit Rep
theorem late_genw {K : World → Prop} {W : World} (h : ∀ U, U = W → K U) : K W := h W rfl
end Go.G6
namespace Go.G6
open Go Go.RowKit
theorem putZ : ((∀ (l : List Value) (i : Nat) (a : Value), l.toArray.setIfInBounds i a = (l.set i a).toArray) ∧ (∀ (l : List Bool) (i : Nat) (a : Bool), l.toArray.setIfInBounds i a = (l.set i a).toArray)) ∧ ((∀ (x a : Value) (l : List Value), (x :: l).set 0 a = a :: l) ∧ (∀ (x a : Bool) (l : List Bool), (x :: l).set 0 a = a :: l)) ∧ ((∀ (x a : Value) (i : Nat) (l : List Value), (x :: l).set (i + 1) a = x :: l.set i a) ∧ (∀ (x a : Bool) (i : Nat) (l : List Bool), (x :: l).set (i + 1) a = x :: l.set i a)) :=
 ⟨⟨fun l i a => List.setIfInBounds_toArray l i a, fun l i a => List.setIfInBounds_toArray l i a⟩, ⟨fun _ _ _ => rfl, fun _ _ _ => rfl⟩, ⟨fun _ _ _ _ => rfl, fun _ _ _ _ => rfl⟩⟩
theorem ltk (i : Nat) {P : Program} {ops : Array Oper} {Q : Exit → Act → World → Prop} {md : Region.Mode} {S : World → Prop} {L : Nat} {oi : Oper} {v : Value} {fuel : Nat} {listed : Array Bool} {a : Act} {w : World} (hi : ops[i]? = some oi)
  (h : wpAnyL P md ops Q S L fuel (listed.setIfInBounds i true) (a.put oi.dst v) w)
  (hy : ∀ w, S w → (execOp a.eval oi).run P w = .ok (.value v) w := by intro w9 hS9; (try dsimp only at hS9); (try go_split_ands); go_simp <;> with_reducible rfl)
  (hs : (Region.noSelect ops && Region.free md ops listed i && (Region.ready md ops listed).contains i && waits md ops L i) = true := by kernel_rfl)
  (hQ : ∀ c a w, Q (.panic c) (a.put oi.dst v) w → Q (.panic c) a w := by exact fun _ _ _ h => h) (hw : Region.wanted oi (yielded ops a.tmps) = true := by rfl) (hS : S w := by assumption) :
  wpAnyL P md ops Q S L (fuel + 1) listed a w := late_take hi hs hQ hw hy hS h
theorem ltq (i : Nat) {P : Program} {ops : Array Oper} {Q : Exit → Act → World → Prop} {md : Region.Mode} {S : World → Prop} {L : Nat} {oi : Oper} {v : Value} {fuel : Nat} {listed : Array Bool} {a : Act} {w : World} (hi : ops[i]? = some oi)
  (h : wpAnyL P md ops Q S L fuel (listed.setIfInBounds i true) (a.put oi.dst v) w)
  (hy : ∀ w, S w → (execOp a.eval oi).run P w = .ok (.value v) w := by intro w9 hS9; (try dsimp only at hS9); (try go_split_ands); go_simp <;> with_reducible rfl)
  (hs : (Region.noSelect ops && Region.free md ops listed i && (Region.ready md ops listed).contains i && waits md ops L i) = true := by kernel_rfl)
  (hQ : ∀ c a w, Q (.panic c) (a.put oi.dst v) w → Q (.panic c) a w := by exact fun _ _ _ h => h) (hw : Region.wanted oi (yielded ops a.tmps) = true := by kernel_rfl) (hS : S w := by assumption) :
  wpAnyL P md ops Q S L (fuel + 1) listed a w := late_take hi hs hQ hw hy hS h
end Go.G6
end
section
set_option linter.unusedSimpArgs false
set_option linter.unusedVariables false
namespace Go.Proofs.YtdjcjilipgpnmaaGreat
open Go.RowKit Go.G6
set_option maxHeartbeats 800000
set_option maxRecDepth 10000
theorem info_byte : (Tryz.prog.info? 5).map (fun i => (i.zero, i.size, i.bytes)) = some (some (.int .u8 0), 1, 1) := by kernel_rfl
theorem i_copyBytes {w : World} {bs : List Nat} {a : Option Addr} {len cap : Nat} {xs : List UInt8} (h : Slc w bs a len cap xs) (hn : xs.length ≤ 16777216) :
  Calls Tryz.prog 66 #[.slice a len cap] w (RetL w 5 xs) := by
 obtain rfl := h.len_eq
 obtain ⟨i0, hi, hz0, hz1, hz2⟩ := info_parts info_byte
 go_enter Tryz.func66, Tryz.ntmps66
 go_wp2_with (at_builtin; refine wp_append rfl _ _ 54 rfl 5 i0 (.int .u8 0) 1 Tryz.underlying54 hi hz0 hz1 hz2 rfl (lo := w.heap.size) (xs := ([] : List UInt8)) rfl (OwnL.nil _ _ _) (b2 := []) rfl h.src List.nodup_nil ?q1 ?q2 ?q3 ?q4 ?_)
 case q1 => first | (intro b hb; cases hb) | omega | (simp; done) | (simp; omega) | exact HB1.out.size | exact HB2.out.size
 case q2 => first | (intro b hb; cases hb) | omega | (simp; done) | (simp; omega) | exact HB1.out.size | exact HB2.out.size
 case q3 => first | (intro b hb; cases hb) | omega | (simp; done) | (simp; omega) | exact HB1.out.size | exact HB2.out.size
 case q4 => first | (intro b hb; cases hb) | omega | (simp; done) | (simp; omega) | exact HB1.out.size | exact HB2.out.size
 intro p k w1 bs' hO hT hb
 go_wp2
 go_ret
 exact ⟨_, _, rfl, by simpa using hO, hT.below (Nat.le_refl _) (by simp)⟩
end Go.Proofs.YtdjcjilipgpnmaaGreat
end
section
set_option linter.unusedSimpArgs false
set_option linter.unusedVariables false
namespace Go.G6
open Go Go.RowKit
/-- An operation that its guard shuts out. -/
theorem late_skip {P : Program} {md : Region.Mode} {ops : Array Oper} {Q : Exit → Act → World → Prop} {S : World → Prop} {L : Nat} {i : Nat} {oi : Oper} {fuel : Nat} {listed : Array Bool} {a : Act} {w : World} (hi : ops[i]? = some oi)
  (hs : (Region.noSelect ops && Region.free md ops listed i && (Region.ready md ops listed).contains i && waits md ops L i) = true)
  (hQ : ∀ c a w, Q (.panic c) (a.put oi.dst undef) w → Q (.panic c) a w) (hw : Region.wanted oi (yielded ops a.tmps) = false) (hS : S w)
  (h : wpAnyL P md ops Q S L fuel (listed.setIfInBounds i true) (a.put oi.dst undef) w) : wpAnyL P md ops Q S L (fuel + 1) listed a w := by
 simp only [Bool.and_eq_true] at hs
 exact wpAnyL_first hi (Region.noSelect_spec hs.1.1.1) hQ hs.2 fuel listed a w (Region.free_spec hi hs.1.1.2) (by simpa using hs.1.2) (.inr ⟨hw, rfl⟩) hS h
theorem keepcellF {W V : World} {p : Addr} {v : Value} (hb : Below W.heap.size W V) (h : W.cell? p = some v) : V.cell? p = some v := (hb.cell (World.block_lt_of_cell? W _ h)).trans h
end Go.G6
namespace Go.Proofs.YtdjcjilipgpnmaaGreat
open Go.RowKit Go.G6
set_option maxRecDepth 10000
theorem info_EntryF : (Tryz.prog.info? 53).map (fun i => (i.zero, i.size, i.bytes)) = some (some (.agg #[.int .i64 0, .string ByteArray.empty]), 2, 24) := by kernel_rfl
end Go.Proofs.YtdjcjilipgpnmaaGreat
namespace Go.G6
open Go Go.RowKit
theorem lsk (i : Nat) {P : Program} {md : Region.Mode} {ops : Array Oper} {Q : Exit → Act → World → Prop} {S : World → Prop} {L : Nat} {oi : Oper} {fuel : Nat} {listed : Array Bool} {a : Act} {w : World} (hi : ops[i]? = some oi)
  (h : wpAnyL P md ops Q S L fuel (listed.setIfInBounds i true) (a.put oi.dst undef) w)
  (hs : (Region.noSelect ops && Region.free md ops listed i && (Region.ready md ops listed).contains i && waits md ops L i) = true := by kernel_rfl)
  (hQ : ∀ c a w, Q (.panic c) (a.put oi.dst undef) w → Q (.panic c) a w := by exact fun _ _ _ h => h) (hw : Region.wanted oi (yielded ops a.tmps) = false := by kernel_rfl) (hS : S w := by assumption) :
  wpAnyL P md ops Q S L (fuel + 1) listed a w := late_skip hi hs hQ hw hS h
end Go.G6
end
section
set_option linter.unusedSimpArgs false
set_option linter.unusedVariables false
namespace Go.G6
open Go Go.RowKit Rep
section
variable {w : World} {b : Nat} {c : Array Value}
theorem Bx.there (h : Bx w b c) (o n : Nat) (hn : o + n ≤ c.size) : w.there b o n := fun j hj =>
 ⟨by rw [h.out]; rw [Array.getElem?_eq_getElem (by omega)]; rfl, h.f.frozen _⟩
theorem Bx.range (h : Bx w b c) (o : Nat) (cs : List Value) (hc : ∀ j v, cs[j]? = some v → c[o + j]? = some v) : w.rangeAt b o cs := fun j v hv => by rw [h.out]; exact hc j v hv
theorem Bx.whole (h : Bx w b c) : w.rangeAt b 0 c.toList := h.range 0 _ fun j v hv => by rw [Nat.zero_add]; simpa using hv
theorem Bx.setMid (h : Bx w b c) (o : Nat) (cs : List Value) {c9 : Array Value} (hc : (c.toList.take o ++ cs ++ c.toList.drop (o + cs.length)).toArray = c9) (hn : o + cs.length ≤ c.size) : Bx (w.setCells b o cs) b c9 := by
 subst hc
 refine ⟨fun k => ?_, Fr.setCells _ _ _ h.f⟩
 have hl : (c.toList.take o).length = o := by simp; omega
 simp only [List.getElem?_toArray]
 by_cases h1 : k < o
 ·rw [World.cell?_setCells_out b cs o w ⟨b, k, none⟩ (fun _ _ => .inl h1), h.out, List.append_assoc, List.getElem?_append_left (by omega), List.getElem?_take, if_pos h1]
  simp
 ·by_cases h2 : k < o + cs.length
  ·have := World.cell?_setCells_in b cs o w (fun i hi => (h.there o cs.length hn i hi).1) (k - o) (by omega)
   rw [show o + (k - o) = k by omega] at this
   rw [this, List.append_assoc, List.getElem?_append_right (by omega), hl, List.getElem?_append_left (by omega), List.getElem?_eq_getElem (by omega)]
  ·rw [World.cell?_setCells_out b cs o w ⟨b, k, none⟩ (fun _ _ => .inr (by show o + cs.length ≤ k; omega)), h.out, List.getElem?_append_right (by simp; omega), List.getElem?_drop]
   simp only [List.length_append, hl]
   rw [show o + cs.length + (k - (o + cs.length)) = k by omega]
   simp
theorem Bx.setAll (h : Bx w b c) (cs : List Value) (hn : cs.length = c.size) : Bx (w.setCells b 0 cs) b cs.toArray :=
 h.setMid 0 cs (by rw [List.drop_of_length_le (by simp; omega)]; simp) (by omega)
theorem Bx.setOtherAll (h : Bx w b c) {g : Nat} (hg : b ≠ g) (o : Nat) (cs : List Value) : Bx (w.setCells g o cs) b c := h.keep (setCells_heap g cs o w b hg)
end
/-- A result that lies in a cell row. -/
theorem results_mid {P : Program} {fn : Func} {p : Tmp} {ty : TypeId} (h : fn.results = #[.cell p ty]) {tmps : Array Value} {w : World} {b o : Nat} (hp : tmps.getD p undef = .pointer (some ⟨b, o, none⟩)) (cs : List Value) {d : TypeDesc} (hc : w.rangeAt b o cs)
  (hu : P.underlying ty = some d) (hd : d.isRow = true) (hi : (P.info? ty).map (·.size) = some cs.length) : (results fn tmps).run P w = .ok (.agg cs.toArray) w := by
 have ha : (asAddr (tmps.getD p undef)).run P w = .ok ⟨b, o, none⟩ w := by rw [hp]; rfl
 simp only [results, h]
 have hl := run_loadVar_mid w b o ty cs d hc hu hd hi
 simp only [Array.getD_eq_getD_getElem?] at ha
 simp [Sem.run_bind, Result.andThen, ha, hl]
theorem results_mid_tmp {P : Program} {fn : Func} {p u : Tmp} {ty : TypeId} (h : fn.results = #[.cell p ty, .tmp u]) {tmps : Array Value} {w : World} {b o : Nat} (hp : tmps.getD p undef = .pointer (some ⟨b, o, none⟩)) (cs : List Value) {d : TypeDesc} (hc : w.rangeAt b o cs)
  (hu : P.underlying ty = some d) (hd : d.isRow = true) (hi : (P.info? ty).map (·.size) = some cs.length) : (results fn tmps).run P w = .ok (.tuple #[.agg cs.toArray, tmps.getD u undef]) w := by
 have ha : (asAddr (tmps.getD p undef)).run P w = .ok ⟨b, o, none⟩ w := by rw [hp]; rfl
 simp only [results, h]
 have hl := run_loadVar_mid w b o ty cs d hc hu hd hi
 simp only [Array.getD_eq_getD_getElem?] at ha
 simp [Sem.run_bind, Result.andThen, ha, hl]
theorem wpList_build_to {P : Program} {ops : Array Oper} {rest : List Oper} {o : Oper} {a : Act} {w : World} {Q : Exit → Act → World → Prop} (hgd : o.guard = none) (t : TypeId) (parts : Array (Nat × Operand)) (ho : o.op = .build t parts)
  (cells : Array Value) (L : List (Nat × Value)) (hL : (parts.toList.map fun (i, x) => (i, a.eval x)) = L) (hf : P.built t L = some cells)
  (h : wpList P ops Q rest (a.put o.dst (.agg cells)) w) : wpList P ops Q (o :: rest) a w :=
 wpList_plain hgd fun _ hK => wp_build t parts ho (by rw [Array.toList_map, hL, hf]; rfl) (by rw [Array.toList_map, hL, hf]; exact hK _ _ h)
theorem exec_load_mid {P : Program} {op : Oper} {a : Act} {w : World} (ty : TypeId) (x : Operand) (ho : op.op = .load ty x)
  (b o : Nat) (hx : a.eval x = .pointer (some ⟨b, o, none⟩)) (cs : List Value) (d : TypeDesc) (hS : w.rangeAt b o cs)
  (hu : P.underlying ty = some d) (hd : d.isRow = true) (hi : (P.info? ty).map (·.size) = some cs.length) : (execOp a.eval op).run P w = .ok (.value (.agg cs.toArray)) w := by
 unfold execOp
 simp only [ho, hx, Instr.loadAt, Instr.sureAddr, Sem.run_bind, Sem.run_pure, Result.andThen_ok, run_loadVar_mid w b o ty cs d hS hu hd hi]
theorem range_below {W V : World} {b o : Nat} {cs : List Value} (h : W.rangeAt b o cs) (hb : Below W.heap.size W V) : V.rangeAt b o cs := fun j v hv => by
 have := h j v hv
 exact (hb.cell (p := ⟨b, o + j, none⟩) (World.block_lt_of_cell? W _ this)).trans this
theorem Bx.all {w : World} {b : Nat} {cs : List Value} (h : Bx w b cs.toArray) : w.rangeAt b 0 cs := h.whole
end Go.G6
end
section
set_option linter.unusedSimpArgs false
set_option linter.unusedVariables false
namespace Go.G6
open Go.RowKit
def b8 (x : Int) : UInt8 := UInt8.ofNat x.toNat
theorem Slc.text {w : World} {bs : List Nat} {a : Option Addr} {len cap : Nat} {xs : List UInt8} (h : Slc w bs a len cap xs) {P : Program} (src dst e : TypeId) (hs : P.underlying src = some (.slice e)) (he : P.underlying e = some (.int .u8)) (hd : P.underlying dst = some .string) :
  (convert src dst (.slice a len cap)).run P w = .ok (.string ⟨xs.toArray⟩) w := by
 obtain rfl := h.len_eq
 obtain ⟨h1, h2, h3, ⟨rfl, rfl, h5⟩ | ⟨_, b, off, bss, cells, rfl, _, _, hE, hA⟩⟩ := h
 ·cases a with
  | none => exact run_convert_bytes_nil w src e hs he _ _ dst hd
  | some ad => exact run_convert_bytes_back w src dst e ad cap [] hs he hd (fun j hj => by simp at hj)
 ·refine run_convert_bytes_back w src dst e _ cap xs hs he hd (fun j hj => ?_)
  rw [add_none]
  have hc := (elems_scal' hE).2.1
  exact hA j _ (by rw [hc, List.getElem?_map, List.getElem?_eq_getElem hj]; rfl)
end Go.G6
end
