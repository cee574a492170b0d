/- A set of ids as the program's map keeps it. -/
import Derived.Test.YtdjcjilipgpnmaaGreatKCpyS
import Derived.Maps.RangeWalk
import Derived.Maps.OwnSet
import Derived.Sort.KeysCollected
section
set_option linter.unusedSimpArgs false
set_option linter.unusedVariables false
namespace Go.G6
open Go Go.RowKit Rep
def fuseD (d : DiskD) : Int := if 0 < d.Fuse then d.Fuse - 1 else d.Fuse
def zNd : NodeD := ⟨0, [], []⟩
def ndAt (d : DiskD) (nm : ByteArray) : Nat := (nodeAt d (dirFind (dirAll d) nm)).toNat
def roomOf (d : DiskD) (n : NodeD) : Nat := d.Room.toNat - diskUsed d + max n.Body.length n.Safe.length - n.Body.length
def bodyD (n : NodeD) (b : List UInt8) : NodeD := { n with Body := b }
def safeD (n : NodeD) (b : List UInt8) : NodeD := { n with Safe := b }
def setN (d : DiskD) (j : Nat) (n : NodeD) : DiskD := { d with Fuse := fuseD d, Nodes := d.Nodes.set j n }
def emp : ByteArray := ⟨#[]⟩
/-- Kind by kind. -/
def doD (d : DiskD) (kd : Int) (nm tt : ByteArray) (sz : Int) (data : List UInt8) : DiskD × Int :=
 let n := d.Nodes.getD (ndAt d nm) zNd
 if kd = 1 then ({ d with Fuse := fuseD d, Nodes := d.Nodes ++ [⟨d.Next, [], []⟩], Turns := d.Turns ++ [⟨1, nm, emp, d.Next⟩], Next := d.Next + 1 }, 0)
 else if kd = 2 then (setN d (ndAt d nm) (bodyD n (n.Body ++ data.take (roomOf d n))), if roomOf d n < data.length then 5 else 0)
 else if kd = 3 then (setN d (ndAt d nm) (safeD n n.Body), 0)
 else if kd = 4 then (setN d (ndAt d nm) (bodyD n (n.Body.take sz.toNat)), 0)
 else if kd = 7 then ({ d with Fuse := fuseD d, Kept := dirAll d, Turns := [], Nodes := d.Nodes.filter fun x => hasI (idKept (dirAll d)) x.Id }, 0)
 else ({ d with Fuse := fuseD d, Turns := d.Turns ++ [⟨kd, nm, tt, 0⟩] }, 0)
def zDisk : DiskD := ⟨0, 0, 0, [], [], []⟩
def diskDo (d : DiskD) (kd : Int) (nm tt : ByteArray) (sz : Int) (data : List UInt8) : DiskD × Int :=
 if (diskOk d && opB kd sz data) = true then (if opCode d kd nm tt sz = 0 then doD d kd nm tt sz data else (d, opCode d kd nm tt sz)) else (zDisk, 1)
section
variable {P : Program} {w : World}
theorem run_append_T {α : Type} [Rep α] (t ty : TypeId)
  (e : TypeId) (i : TypeInfo) (z : Value) (bytes : Nat) (ht : P.underlying t = some (.slice e)) (hi : P.info? e = some i) (hz : i.zero = some z) (hsize : i.size = size α) (hby : i.bytes = bytes) (hzs : z.cells.size = size α)
  {lo : Nat} {v : Value} {bs : List Nat} {xs : List α} (hown : OwnL lo w e v bs xs)
  {a' : Option Addr} {m c : Nat} {b2 : List Nat} {ys : List α} (hsrc : Src w b2 a' m c ys) (hb2 : b2.Nodup) (hf2 : ∀ b ∈ b2, lo ≤ b ∧ Fr w b ∧ b ∉ bs)
  (hbytes : (xs.length + ys.length) * bytes ≤ 140737488355328) (h63 : xs.length + ys.length ≤ 9223372036854775807) (hlo : lo ≤ w.heap.size) :
  ∃ v' w' bs', (Builtin.append_ #[t, t] ty #[v, .slice a' m c]).run P w = .ok v' w' ∧ OwnL lo w' e v' bs' (xs ++ ys) ∧ Tch v.ownBlock.toList w w' ∧ (∀ b ∈ bs', b ∈ bs ∨ b ∈ b2 ∨ w.heap.size ≤ b) ∧ (∀ b, v'.ownBlock = some b → v.ownBlock = some b ∨ b = w.heap.size) := by
 have hlt := hown.lts
 obtain ⟨cells, bss, hR, hE, rfl, hn, hf⟩ := hown
 obtain ⟨hm, ⟨rfl, rfl, rfl, rfl⟩ | ⟨ad, bss2, news, rfl, hE2, rfl, hnews⟩⟩ := hsrc
 ·subst hm
  refine ⟨v, w, _, run_append_owned_none (P := P) (w := w) lo t ty e i (size α) ht hi v xs.length cells hR, ?_, Tch.refl _ _, fun b hb => .inl hb, fun b hb => .inl hb⟩
  rw [List.append_nil]
  exact ⟨cells, bss, hR, hE, rfl, hn, hf⟩
 ·subst hm
  have hl2 := hE2.length
  obtain ⟨v', w', hr, hR', hg, _, hat⟩ := run_append_own_at (P := P) w lo t ty e i z (size α) bytes ht hi hz hsize hby hzs Rep.pos v xs.length cells hR ad _ c news hl2.2 hnews hE2.one h63 hbytes hlo
  have hsz := hg.size
  have hk : ∀ k, k < w.heap.size → v.ownBlock ≠ some k → w'.heap[k]? = w.heap[k]? := fun k hk hne => hg.block k hk fun e => hne e.symm
  have hn' := List.nodup_append.1 hn
  have ha : ∀ k ∈ bss.flatten, v.ownBlock ≠ some k := fun k hk e => hn'.2.2 k (ownBlock_mem.2 e) k hk rfl
  have hb : ∀ k ∈ bss2.flatten, v.ownBlock ≠ some k := fun k hk e => (hf2 k hk).2.2 (List.mem_append_left _ (ownBlock_mem.2 e))
  have hv' : ∀ k, v'.ownBlock = some k → v.ownBlock = some k ∨ k = w.heap.size := fun k hk => by
   rcases hat with h1 | h1
   ·exact .inl (h1.symm.trans hk)
   ·rw [h1] at hk; cases hk; exact .inr rfl
  refine ⟨v', w', v'.ownBlock.toList ++ (bss ++ bss2).flatten, hr, ⟨cells ++ news, bss ++ bss2, ?_, ?_, rfl, ?_, ?_⟩, ?_, ?_, hv'⟩
  ·rw [List.length_append]; exact hR'
  ·exact (hE.keep fun k hk' => hk k (hE.lt k hk') (ha k hk')).append (hE2.keep fun k hk' => hk k (hE2.lt k hk') (hb k hk'))
  ·rw [List.flatten_append]
   refine List.nodup_append.2 ⟨?_, List.nodup_append.2 ⟨hn'.2.1, hb2, fun k hk1 k2 hk2 e => (hf2 k2 hk2).2.2 (List.mem_append_right _ (e ▸ hk1))⟩, ?_⟩
   ·cases v'.ownBlock <;> simp
   ·intro k hk1 k2 hk2 e
    subst e
    rcases hv' k (ownBlock_mem.1 hk1) with h1 | h1
    ·rcases List.mem_append.1 hk2 with h2 | h2
     ·exact ha k h2 h1
     ·exact hb k h2 h1
    ·rcases List.mem_append.1 hk2 with h2 | h2
     ·have := hE.lt k h2; omega
     ·have := hE2.lt k h2; omega
  ·intro k hk1
   rcases List.mem_append.1 hk1 with hk1 | hk1
   ·have h1 := hR'.lt k (ownBlock_mem.1 hk1)
    refine ⟨h1.1, ?_⟩
    have e1 := ownBlock_mem.1 hk1
    rcases hR'.2 with ⟨rfl, _⟩ | ⟨g, cap, cur, rfl, _, hgg, _⟩
    ·simp [Value.ownBlock] at e1
    ·simp [Value.ownBlock] at e1
     subst e1
     exact ⟨_, _, hgg⟩
   ·rw [List.flatten_append] at hk1
    rcases List.mem_append.1 hk1 with h2 | h2
    ·exact ⟨(hf k (List.mem_append_right _ h2)).1, (hf k (List.mem_append_right _ h2)).2.keep (hk k (hE.lt k h2) (ha k h2))⟩
    ·exact ⟨(hf2 k h2).1, (hf2 k h2).2.1.keep (hk k (hE2.lt k h2) (hb k h2))⟩
  ·refine ⟨hg.os, hg.tape, hg.output, hg.size, fun k hk1 hk2 => hk k hk1 fun e => hk2 (ownBlock_mem.2 e)⟩
  ·intro k hk1
   rcases List.mem_append.1 hk1 with hk1 | hk1
   ·rcases hv' k (ownBlock_mem.1 hk1) with h1 | h1
    ·exact .inl (List.mem_append_left _ (ownBlock_mem.2 h1))
    ·exact .inr (.inr (by omega))
   ·rw [List.flatten_append] at hk1
    rcases List.mem_append.1 hk1 with h2 | h2
    ·exact .inl (List.mem_append_right _ h2)
    ·exact .inr (.inl h2)
theorem oper_append_T {α : Type} [Rep α] {o : Oper} {a : Act} {K : Act → World → Prop} {Q : Exit → Act → World → Prop} (s x : Operand) (t : TypeId)
  (ho : o.op = .call { callee := .builtin .append, args := #[s, x], argTypes := #[t, t] })
  (e : TypeId) (i : TypeInfo) (z : Value) (bytes : Nat) (ht : P.underlying t = some (.slice e)) (hi : P.info? e = some i) (hz : i.zero = some z) (hsize : i.size = size α) (hby : i.bytes = bytes) (hzs : z.cells.size = size α)
  {lo : Nat} {v : Value} {bs : List Nat} {xs : List α} (hs : a.eval s = v) (hown : OwnL lo w e v bs xs)
  {a' : Option Addr} {m c : Nat} {b2 : List Nat} {ys : List α} (hx : a.eval x = .slice a' m c) (hsrc : Src w b2 a' m c ys) (hb2 : b2.Nodup) (hf2 : ∀ b ∈ b2, lo ≤ b ∧ Fr w b ∧ b ∉ bs)
  (hbytes : (xs.length + ys.length) * bytes ≤ 140737488355328) (h63 : xs.length + ys.length ≤ 9223372036854775807) (hlo : lo ≤ w.heap.size)
  (h : ∀ p k w' bs', OwnL lo w' e (.slice p (xs.length + ys.length) k) bs' (xs ++ ys) → Tch v.ownBlock.toList w w' → (∀ b ∈ bs', b ∈ bs ∨ b ∈ b2 ∨ w.heap.size ≤ b) → (∀ b, (Value.slice p (xs.length + ys.length) k).ownBlock = some b → v.ownBlock = some b ∨ b = w.heap.size) → K (a.put o.dst (.slice p (xs.length + ys.length) k)) w') : o.wp P a w K Q := by
 obtain ⟨v', w', bs', hr, h1, h2, h3, h4⟩ := run_append_T (P := P) t o.type e i z bytes ht hi hz hsize hby hzs hown hsrc hb2 hf2 hbytes h63 hlo
 obtain ⟨p, k, rfl⟩ := h1.slice
 rw [List.length_append] at hr h1 h4
 unfold Oper.wp execOp
 simp only [ho, resolve, invoke, builtin, Sem.run_bind, Sem.run_pure, Result.andThen_ok, List.map_toArray, List.map_cons, List.map_nil, hs, hx, hr]
 exact h p k w' bs' h1 h2 h3 h4
theorem wp_append_T {α : Type} [Rep α] {ops : Array Oper} {rest : List Oper} {o : Oper} {a : Act} {Q : Exit → Act → World → Prop} (hgd : o.guard = none) (s x : Operand) (t : TypeId)
  (ho : o.op = .call { callee := .builtin .append, args := #[s, x], argTypes := #[t, t] })
  (e : TypeId) (i : TypeInfo) (z : Value) (bytes : Nat) (ht : P.underlying t = some (.slice e)) (hi : P.info? e = some i) (hz : i.zero = some z) (hsize : i.size = size α) (hby : i.bytes = bytes) (hzs : z.cells.size = size α)
  {lo : Nat} {v : Value} {bs : List Nat} {xs : List α} (hs : a.eval s = v) (hown : OwnL lo w e v bs xs)
  {a' : Option Addr} {m c : Nat} {b2 : List Nat} {ys : List α} (hx : a.eval x = .slice a' m c) (hsrc : Src w b2 a' m c ys) (hb2 : b2.Nodup) (hf2 : ∀ b ∈ b2, lo ≤ b ∧ Fr w b ∧ b ∉ bs)
  (hbytes : (xs.length + ys.length) * bytes ≤ 140737488355328) (h63 : xs.length + ys.length ≤ 9223372036854775807) (hlo : lo ≤ w.heap.size)
  (h : ∀ p k w' bs', OwnL lo w' e (.slice p (xs.length + ys.length) k) bs' (xs ++ ys) → Tch v.ownBlock.toList w w' → (∀ b ∈ bs', b ∈ bs ∨ b ∈ b2 ∨ w.heap.size ≤ b) → (∀ b, (Value.slice p (xs.length + ys.length) k).ownBlock = some b → v.ownBlock = some b ∨ b = w.heap.size) → wpList P ops Q rest (a.put o.dst (.slice p (xs.length + ys.length) k)) w') : wpList P ops Q (o :: rest) a w :=
 wpList_plain hgd fun _ hK => oper_append_T s x t ho e i z bytes ht hi hz hsize hby hzs hs hown hx hsrc hb2 hf2 hbytes h63 hlo fun p k w' bs' h1 h2 h3 h4 => hK _ _ (h p k w' bs' h1 h2 h3 h4)
end
theorem own_cut {P : Program} {lo : Nat} {w : World} {e : TypeId} {a : Option Addr} {n cap : Nat} {bs : List Nat} {xs : List UInt8} (h : OwnL lo w e (.slice a n cap) bs xs) (t : TypeId) {i : TypeInfo} (ht : P.underlying t = some (.slice e)) (hi : P.info? e = some i) (hs : i.size = 1) (u : Int) (h0 : 0 ≤ u) (h2 : u ≤ n) :
  ∀ W, (Instr.slice t (.slice a n cap) none (some (.int .i64 u)) none).run P W = .ok (.slice a u.toNat cap) W := by
 intro W
 obtain ⟨cells, bss, hR, _⟩ := h
 have he : P.elem t = e := by simp [Program.elem, ht]
 have hnc : n ≤ cap ∧ (a = none ∨ ∃ g, a = some ⟨g, 0, none⟩) := by
  rcases hR.2 with ⟨h1, h0⟩ | ⟨g, cap', cur, h1, hg, hgg, hnc, _⟩
  ·obtain ⟨rfl, rfl, rfl⟩ := Value.slice.inj h1; exact ⟨Nat.le_refl _, .inl rfl⟩
  ·obtain ⟨rfl, rfl, rfl⟩ := Value.slice.inj h1; exact ⟨hnc, .inr ⟨g, rfl⟩⟩
 rw [run_slice_h W t a n cap (by rw [he]; exact ht) .i64 u h0 (by omega), he, run_sizeOf W hi]
 simp only [Result.andThen, sliced, Program.cellsOf, hi, Option.map_some, Option.getD_some, hs, Nat.sub_zero, Nat.zero_mul]
 rcases hnc.2 with rfl | ⟨g, rfl⟩
 ·simp
 ·simp [Addr.add]
/-- A cut of a row of bytes is one. -/
theorem OwnL.takeB {lo : Nat} {w : World} {e : TypeId} {a : Option Addr} {n cap : Nat} {bs : List Nat} {xs : List UInt8} (h : OwnL lo w e (.slice a n cap) bs xs) (k : Nat) (hk : k ≤ xs.length) : OwnL lo w e (.slice a k cap) bs (xs.take k) := by
 obtain ⟨cells, bss, hR, hE, rfl, hn, hf⟩ := h
 have hl := hE.length
 have hT := hE.take k
 rw [show size UInt8 = 1 from rfl, Nat.mul_one] at hT hl
 have hfl : bss.flatten = [] := flat_nil (elems_scal' hE).2.2
 have hfl2 : (bss.take k).flatten = [] := flat_nil (elems_scal' hT).2.2
 refine ⟨cells.take k, bss.take k, ?_, hT, ?_, ?_, ?_⟩
 ·have hlen : (xs.take k).length = k := by rw [List.length_take]; omega
  rw [hlen]
  rcases hR.2 with ⟨h1, h0⟩ | ⟨g, cap', cur, h1, hg, hgg, hnc, hcm, hcs, ht⟩
  ·obtain ⟨rfl, rfl, rfl⟩ := Value.slice.inj h1
   refine ⟨by rw [List.length_take]; show min k cells.length = k * 1; omega, .inl ⟨?_, by omega⟩⟩
   have : k = 0 := by omega
   rw [this]
  ·obtain ⟨rfl, rfl, rfl⟩ := Value.slice.inj h1
   refine ⟨by rw [List.length_take]; show min k cells.length = k * 1; omega, .inr ⟨g, _, cur, rfl, hg, hgg, by omega, hcm, hcs, ?_⟩⟩
   rw [← ht, List.take_take]
   congr 1
   have hs1 : size UInt8 = 1 := rfl
   rw [hs1]
   omega
 ·rw [hfl, hfl2]; cases a <;> rfl
 ·rw [hfl]  at hn; simpa [hfl] using hn
 ·intro b hb; exact hf b hb
end Go.G6
end
section
set_option linter.unusedSimpArgs false
set_option linter.unusedVariables false
namespace Go.G6
open Go Go.RowKit Rep
def kS (s : ByteArray) : Lit := .string s.data.toList
def i6 (n : Int) : DataW Unit := .lit (.int .i64 n)
theorem kS_ne {s t : ByteArray} (h : (s.toList == t.toList) = false) : kS t ≠ kS s := fun e => by
 rw [beq_eq_false_iff_ne] at h
 refine h ?_
 rw [Go.ByteArray.toList_eq, Go.ByteArray.toList_eq]
 unfold kS at e
 injection e with e
 exact e.symm
theorem kS_eq {s t : ByteArray} (h : (s.toList == t.toList) = true) : kS t = kS s := by
 rw [beq_iff_eq, Go.ByteArray.toList_eq, Go.ByteArray.toList_eq] at h
 unfold kS; rw [h]
theorem kS_key (s : ByteArray) : WideAt.IsKeyLit (kS s) := trivial
/-- The map D holds just the list's links. -/
def DirIs (D : DataW Unit) (l : List LinkD) : Prop := ∀ s : ByteArray, Maps.has D (kS s) = hasN l s ∧ D.atKey (kS s) (i6 0) = i6 (dirFind l s)
theorem dirIs_nil : DirIs (.map []) [] := fun _ => ⟨rfl, rfl⟩
theorem hasN_less : ∀ (l : List LinkD) (s t : ByteArray), hasN (dirLess l s) t = (!(s.toList == t.toList) && hasN l t)
 | [], s, t => by simp [dirLess, hasN]
 | x :: l, s, t => by
  have ih := hasN_less l s t
  unfold dirLess
  by_cases h : x.Name.toList = s.toList
  ·rw [if_pos (by rw [h]; simp), ih]
   unfold hasN
   rw [List.any_cons]
   show _ = (_ && (x.Name.toList == t.toList || _))
   rw [h]
   cases (s.toList == t.toList) <;> simp
  ·rw [if_neg (by simpa using h)]
   unfold hasN at ih ⊢
   rw [List.any_cons, List.any_cons, ih]
   by_cases h2 : s.toList = t.toList
   ·have h3 : (x.Name.toList == t.toList) = false := by rw [← h2]; simpa using h
    rw [h3, h2]; simp
   ·have h2' : (s.toList == t.toList) = false := by simpa using h2
    rw [h2']; simp
theorem find_less : ∀ (l : List LinkD) (s t : ByteArray), dirFind (dirLess l s) t = if (s.toList == t.toList) = true then 0 else dirFind l t
 | [], s, t => by simp [dirLess, dirFind]
 | x :: l, s, t => by
  have ih := find_less l s t
  unfold dirLess
  by_cases h : x.Name.toList = s.toList
  ·rw [if_pos (by rw [h]; simp), ih]
   by_cases h2 : s.toList = t.toList
   ·rw [if_pos (by simpa using h2), if_pos (by simpa using h2)]
   ·have h3 : ¬ x.Name.toList = t.toList := by rw [h]; exact h2
    rw [if_neg (by simpa using h2), if_neg (by simpa using h2), dirFind, if_neg (by simpa using h3)]
  ·rw [if_neg (by simpa using h)]
   by_cases h2 : s.toList = t.toList
   ·have h3 : ¬ x.Name.toList = t.toList := by rw [← h2]; exact h
    simp only [dirFind]
    rw [if_neg (by simpa using h3), ih]
    simp [h2]
   ·simp only [dirFind]
    rw [ih]
    simp [h2]
theorem hasN_with : ∀ (l : List LinkD) (s : ByteArray) (id : Int) (t : ByteArray), hasN (dirWith l s id) t = ((s.toList == t.toList) || hasN l t)
 | [], s, id, t => by simp [dirWith, hasN]
 | x :: l, s, id, t => by
  have ih := hasN_with l s id t
  unfold dirWith
  split
  ·simp [hasN]
  ·unfold hasN at ih ⊢
   rw [List.any_cons, List.any_cons, ih]
   cases (x.Name.toList == t.toList) <;> cases (s.toList == t.toList) <;> simp
theorem find_with : ∀ (l : List LinkD) (s : ByteArray) (id : Int) (t : ByteArray), hasN l s = false → dirFind (dirWith l s id) t = if (s.toList == t.toList) = true then id else dirFind l t
 | [], s, id, t, _ => by simp [dirWith, dirFind]
 | x :: l, s, id, t, h => by
  unfold hasN at h
  rw [List.any_cons, Bool.or_eq_false_iff] at h
  have ih := find_with l s id t h.2
  have h1 : ¬ x.Name.toList = s.toList := by have := h.1; simpa using this
  unfold dirWith
  split
  ·simp [dirFind]
  ·simp only [dirFind]
   rw [ih]
   by_cases h2 : s.toList = t.toList
   ·have h3 : ¬ x.Name.toList = t.toList := by rw [← h2]; exact h1
    simp [h2, h3]
   ·simp [h2]
def putN (l : List LinkD) (s : ByteArray) (id : Int) : List LinkD := dirWith (dirLess l s) s id
theorem hasN_less_self (l : List LinkD) (s : ByteArray) : hasN (dirLess l s) s = false := by rw [hasN_less]; simp
theorem DirIs.put {D : DataW Unit} {l : List LinkD} (h : DirIs D l) (hm : Maps.IsMap D) (s : ByteArray) (id : Int) : DirIs (D.put (kS s) (i6 id)) (putN l s id) := fun t => by
 have ht := h t
 unfold putN
 rw [hasN_with, find_with _ _ _ _ (hasN_less_self l s), hasN_less, find_less]
 cases he : (s.toList == t.toList)
 ·rw [Maps.has_put_other (kS_ne he), Maps.atKey_put_other (kS_ne he), ht.1, ht.2]
  simp
 ·rw [kS_eq he, Maps.has_put_same hm (kS_key s), Maps.atKey_put_same hm (kS_key s)]
  simp
theorem DirIs.del {D : DataW Unit} {l : List LinkD} (h : DirIs D l) (s : ByteArray) : DirIs (D.del (kS s)) (dirLess l s) := fun t => by
 have ht := h t
 rw [hasN_less, find_less]
 cases he : (s.toList == t.toList)
 ·rw [Maps.has_del_other (kS_ne he), Maps.atKey_del_other (kS_ne he), ht.1, ht.2]
  simp
 ·rw [kS_eq he, Maps.has_del_same, Maps.atKey_del_same]
  simp
/-- A turn, as the program applies it to its map. -/
def applyI (l : List LinkD) (t : TurnD) : Option (List LinkD) :=
 if t.Kind = 1 ∧ hasN l t.Name = false then some (putN l t.Name t.Id)
 else if t.Kind = 5 ∧ hasN l t.Name = true ∧ ¬ t.To.toList = t.Name.toList then some (putN (dirLess l t.Name) t.To (dirFind l t.Name))
 else if t.Kind = 6 ∧ hasN l t.Name = true then some (dirLess l t.Name) else none
/-- Block b is a map of at most n entries that holds the list's links. -/
def MapF (P : Program) (K E : TypeId) (w : World) (b n : Nat) (l : List LinkD) : Prop := ∃ D, w.ownsMap (H := Unit) P K (plainElem P E) b n D ∧ DirIs D l
theorem tch_grown {w w' : World} {b : Nat} (h : w.grownBy w' (some b)) : Tch [b] w w' := ⟨h.os, h.tape, h.output, h.size, fun k hk hn => h.block k hk (fun e => hn (by cases e; simp))⟩
theorem MapF.keep {P : Program} {K E : TypeId} {w w' : World} {b n : Nat} {l : List LinkD} (h : MapF P K E w b n l) (hk : w'.heap[b]? = w.heap[b]?) : MapF P K E w' b n l := by
 obtain ⟨D, ⟨es, c, hb, r⟩, hD⟩ := h
 exact ⟨D, ⟨es, c, hk.trans hb, r⟩, hD⟩
theorem MapF.mono {P : Program} {K E : TypeId} {w : World} {b n m : Nat} {l : List LinkD} (h : MapF P K E w b n l) (hm : n ≤ m) : MapF P K E w b m l := by
 obtain ⟨D, h1, hD⟩ := h
 exact ⟨D, h1.mono hm, hD⟩
theorem MapF.lt {P : Program} {K E : TypeId} {w : World} {b n : Nat} {l : List LinkD} (h : MapF P K E w b n l) : b < w.heap.size := by
 obtain ⟨D, h1, _⟩ := h
 exact h1.lt
end Go.G6
namespace Go.Proofs.YtdjcjilipgpnmaaGreat
open Go Go.RowKit Go.G6
theorem keyS : Maps.Keyed Tryz.prog 9 := Maps.string_keyed Tryz.underlying9
theorem zeroI (w : World) : (zeroValue 3).run Tryz.prog w = .ok (.int .i64 0) w := by kernel_rfl
theorem key_str {s : ByteArray} (h : s.size ≤ maxLen) : keyOf Tryz.prog 9 (.string s) = some (kS s) := Go.WideMaps.keyOf_string_mk Tryz.underlying9 h
end Go.Proofs.YtdjcjilipgpnmaaGreat
end
section
set_option linter.unusedSimpArgs false
set_option linter.unusedVariables false
namespace Go.G6
open Go Go.RowKit Rep
def turnOkI (t : TurnD) : Bool :=
 nameOk t.Name && (if t.Kind = 1 then isE t.To else if t.Kind = 5 then nameOk t.To && decide (t.Id = 0) else if t.Kind = 6 then isE t.To && decide (t.Id = 0) else false)
theorem isI (n : Int) : (n == 0) = decide (n = 0) := by by_cases h : n = 0 <;> simp [h]
theorem isE_emp (s : ByteArray) : s.toList.isEmpty = isE s := by unfold isE; cases s.toList <;> rfl
theorem i6_inj {a b : Int} (h : i6 a = i6 b) : a = b := by unfold i6 at h; injection h with h; injection h
theorem wf_of {n : Int} (h : I64 n) : (Lit.int .i64 n).wf = true := WalkArith.wf_i64 (by unfold I64 at h; omega)
end Go.G6
namespace Go.Proofs.YtdjcjilipgpnmaaGreat
open Go Go.RowKit Go.G6
set_option maxHeartbeats 3000000
set_option maxRecDepth 10000
theorem i_turnOk {w : World} {b2 : List Nat} {cs : List Value} {t : TurnD} (ht : Rep.pt w b2 cs t) :
  Calls Tryz.prog 105 #[.agg cs.toArray] w fun e w' => e = .returned (.bool (turnOkI t)) ∧ Below w.heap.size w w' := by
 obtain ⟨kd, nm, tt, id⟩ := t
 obtain ⟨rfl, rfl, q1, q2, q3, q4⟩ := open_Turn ht
 simp only at q1 q2 q3 q4 ⊢
 clear ht
 have Q2 := hid q2; have Q3 := hid q3; have Q4 := hid q4
 have hb0 := hid ((Below.refl w.heap.size w).alloc (Nat.le_refl _) (.cells #[.int .i64 kd, .string nm, .string tt, .int .i64 id] 106))
 cases hnm : nameOk nm
 ·have E := hid (show turnOkI ⟨kd, nm, tt, id⟩ = false by unfold turnOkI; rw [hnm]; rfl)
  have HNM := hid hnm; clear hnm
  go_enter Tryz.func105, Tryz.ntmps105
  go_wp2_with fail
  refine (i_NameOk nm Q2.out _).mono ?_
  rintro e w1 ⟨rfl, rfl⟩
  rw [HNM.out]
  go_wp2
  go_ret
  exact ⟨ret_bool (by rw [E.out]), hb0.out⟩
 have HNM := hid hnm; clear hnm
 go_enter Tryz.func105, Tryz.ntmps105
 go_wp2_with fail
 refine (i_NameOk nm Q2.out _).mono ?_
 rintro e w1 ⟨rfl, rfl⟩
 rw [HNM.out]
 by_cases k1 : kd = 1
 ·subst k1
  have HT := hid (show turnOkI ⟨1, nm, tt, id⟩ = isE tt by unfold turnOkI; simp only [HNM.out]; rfl)
  go_wp2
  all_goals (go_ret; exact ⟨ret_bool (by rw [HT.out]; first | exact isE_emp tt | (rw [htt]; first | rfl | exact isI id) | (rw [isI]; simp_all [isE]; done) | (simp_all [isE]; done)), hb0.out⟩)
 by_cases k5 : kd = 5
 ·subst k5
  have HT := hid (show turnOkI ⟨5, nm, tt, id⟩ = (nameOk tt && decide (id = 0)) by unfold turnOkI; simp only [HNM.out]; rfl)
  go_wp2_with fail
  refine (i_NameOk tt Q3.out _).mono ?_
  rintro e w3 ⟨rfl, rfl⟩
  cases htt : nameOk tt
  ·go_wp2
   all_goals (go_ret; exact ⟨ret_bool (by rw [HT.out]; first | exact isE_emp tt | (rw [htt]; first | rfl | exact isI id) | (rw [isI]; simp_all [isE]; done) | (simp_all [isE]; done)), hb0.out⟩)
  ·go_wp2
   all_goals (go_ret; exact ⟨ret_bool (by rw [HT.out]; first | exact isE_emp tt | (rw [htt]; first | rfl | exact isI id) | (rw [isI]; simp_all [isE]; done) | (simp_all [isE]; done)), hb0.out⟩)
 by_cases k6 : kd = 6
 ·subst k6
  have HT := hid (show turnOkI ⟨6, nm, tt, id⟩ = (isE tt && decide (id = 0)) by unfold turnOkI; simp only [HNM.out]; rfl)
  go_wp2
  all_goals (go_ret; exact ⟨ret_bool (by rw [HT.out]; first | exact isE_emp tt | (rw [htt]; first | rfl | exact isI id) | (rw [isI]; simp_all [isE]; done) | (simp_all [isE]; done)), hb0.out⟩)
 ·have HT := hid (show turnOkI ⟨kd, nm, tt, id⟩ = false by unfold turnOkI; simp only [HNM.out]; rw [if_neg k1, if_neg k5, if_neg k6]; rfl)
  go_wp2
  go_ret
  exact ⟨ret_bool (by rw [HT.out]), hb0.out⟩
theorem i_apply {w : World} {b n : Nat} {l : List LinkD} (hm : MapF Tryz.prog 9 3 w b n l) (hn : n < 1000000) {b2 : List Nat} {cs : List Value} {t : TurnD} (ht : Rep.pt w b2 cs t) :
  Calls Tryz.prog 107 #[.map (some b), .agg cs.toArray] w fun e w' => e = .returned (.bool (applyI l t).isSome) ∧ MapF Tryz.prog 9 3 w' b (n + 1) ((applyI l t).getD l) ∧ Tch [b] w w' := by
 obtain ⟨kd, nm, tt, id⟩ := t
 obtain ⟨rfl, rfl, q1, q2, q3, q4⟩ := open_Turn ht
 simp only at q1 q2 q3 q4 ⊢
 clear ht
 obtain ⟨D, hown, hD⟩ := hm
 have Q2 := hid q2; have Q3 := hid q3; have Q4 := hid q4
 have HD := hid hD
 have hlt := hown.lt
 have T0 := hid ((Tch.refl [b] w).trans (Tch.of_below ((Below.refl w.heap.size w).alloc (Nat.le_refl _) (.cells #[.int .i64 kd, .string nm, .string tt, .int .i64 id] 106))))
 have HO := hid (hown.alloc (.cells #[.int .i64 kd, .string nm, .string tt, .int .i64 id] 106))
 have hnb : b ≠ w.heap.size := by omega
 have HM := hid (show Maps.IsMap D from hown.isMap)
 clear hown hD
 have hHN := (HD.out nm).1
 have HAT := hid (HD.out nm).2
 cases hh : hasN l nm
 ·rw [hh] at hHN
  by_cases k1 : kd = 1
  ·subst k1
   have HT := hid (show applyI l ⟨1, nm, tt, id⟩ = some (putN l nm id) by simp [applyI, hh])
   clear hh
   go_enter Tryz.func107, Tryz.ntmps107
   go_wp2_with (first | (at_lookup; refine wpList_lookup_own_ok_int _ rfl _ _ 99 rfl 9 3 .i64 keyS Tryz.underlying99 Tryz.underlying3 (zeroI _) b n D rfl HO.out _ _ rfl (key_str Q2.out) ?_; intro c hat hwc; obtain rfl := i6_inj ((HAT.out).symm.trans hat)) | (at_mapUpdate; refine wpList_mapUpdate_in _ rfl _ _ _ 99 rfl 9 3 keyS Tryz.underlying99 _ b n _ rfl HO.out (by unfold maxLen; omega) _ _ _ rfl rfl (key_str Q2.out) _ [] (plainElem_int Tryz.underlying3 (wf_of Q4.out)) ?_; intro w1 hown1 hturn1))
   have HO1 := hid hown1
   have T1 := hid (T0.out.trans (tch_grown hturn1.grown))
   clear hown1 hturn1
   go_wp2
   go_ret
   rw [HT.out]
   exact ⟨rfl, ⟨_, HO1.out, HD.out.put HM.out nm id⟩, T1.out⟩
  ·have HT := hid (show applyI l ⟨kd, nm, tt, id⟩ = none by simp [applyI, hh, k1])
   clear hh
   go_enter Tryz.func107, Tryz.ntmps107
   go_wp2_with (at_lookup; refine wpList_lookup_own_ok_int _ rfl _ _ 99 rfl 9 3 .i64 keyS Tryz.underlying99 Tryz.underlying3 (zeroI _) b n D rfl HO.out _ _ rfl (key_str Q2.out) ?_; intro c hat hwc; obtain rfl := i6_inj ((HAT.out).symm.trans hat))
   all_goals (go_ret; (try subst_vars); rw [HT.out]; exact ⟨rfl, ⟨_, HO.out.mono (Nat.le_succ _), HD.out⟩, T0.out⟩)
 ·rw [hh] at hHN
  by_cases k5 : kd = 5
  ·subst k5
   by_cases he : tt.toList = nm.toList
   ·have HT := hid (show applyI l ⟨5, nm, tt, id⟩ = none by simp [applyI, hh, he])
    have heb : (tt.toList == nm.toList) = true := by rw [he]; simp
    clear hh he
    go_enter Tryz.func107, Tryz.ntmps107
    go_wp2_with (at_lookup; refine wpList_lookup_own_ok_int _ rfl _ _ 99 rfl 9 3 .i64 keyS Tryz.underlying99 Tryz.underlying3 (zeroI _) b n D rfl HO.out _ _ rfl (key_str Q2.out) ?_; intro c hat hwc; obtain rfl := i6_inj ((HAT.out).symm.trans hat))
    all_goals (go_ret; (try subst_vars); rw [HT.out]; exact ⟨rfl, ⟨_, HO.out.mono (Nat.le_succ _), HD.out⟩, T0.out⟩)
   ·have HT := hid (show applyI l ⟨5, nm, tt, id⟩ = some (putN (dirLess l nm) tt (dirFind l nm)) by simp [applyI, hh, he])
    have heb : (tt.toList == nm.toList) = false := by simpa using he
    clear hh he
    go_enter Tryz.func107, Tryz.ntmps107
    go_wp2_with (first | (at_lookup; refine wpList_lookup_own_ok_int _ rfl _ _ 99 rfl 9 3 .i64 keyS Tryz.underlying99 Tryz.underlying3 (zeroI _) b n D rfl HO.out _ _ rfl (key_str Q2.out) ?_; intro c hat hwc; obtain rfl := i6_inj ((HAT.out).symm.trans hat)) | (at_delete; refine wpList_delete_own _ rfl _ _ 99 9 rfl 3 keyS Tryz.underlying99 _ b n D rfl HO.out _ _ rfl (key_str Q2.out) ?_; intro w1 hown1 hturn1; have e3 : w1.cell? ⟨w.heap.size, 2, none⟩ = some (.string tt) := by rw [World.cell?_of_block (hturn1.grown.block w.heap.size (by simp) (by simp; omega))]; simp) | (at_mapUpdate; refine wpList_mapUpdate_in _ rfl _ _ _ 99 rfl 9 3 keyS Tryz.underlying99 _ b n _ rfl hown1 (by unfold maxLen; omega) _ _ _ rfl rfl (key_str Q3.out) _ [] (plainElem_int Tryz.underlying3 hwc) ?_; intro w2 hown2 hturn2))
    have HO2 := hid hown2
    have T2 := hid ((T0.out.trans (tch_grown hturn1.grown)).trans (tch_grown hturn2.grown))
    clear hown1 hturn1 hown2 hturn2 e3
    go_wp2
    go_ret
    rw [HT.out]
    exact ⟨rfl, ⟨_, HO2.out, (HD.out.del nm).put (HM.out.del _) tt (dirFind l nm)⟩, T2.out⟩
  ·by_cases k6 : kd = 6
   ·subst k6
    have HT := hid (show applyI l ⟨6, nm, tt, id⟩ = some (dirLess l nm) by simp [applyI, hh])
    clear hh
    go_enter Tryz.func107, Tryz.ntmps107
    go_wp2_with (first | (at_lookup; refine wpList_lookup_own_ok_int _ rfl _ _ 99 rfl 9 3 .i64 keyS Tryz.underlying99 Tryz.underlying3 (zeroI _) b n D rfl HO.out _ _ rfl (key_str Q2.out) ?_; intro c hat hwc; obtain rfl := i6_inj ((HAT.out).symm.trans hat)) | (at_delete; refine wpList_delete_own _ rfl _ _ 99 9 rfl 3 keyS Tryz.underlying99 _ b n D rfl HO.out _ _ rfl (key_str Q2.out) ?_; intro w1 hown1 hturn1))
    have HO1 := hid hown1
    have T1 := hid (T0.out.trans (tch_grown hturn1.grown))
    clear hown1 hturn1
    go_wp2
    go_ret
    rw [HT.out]
    exact ⟨rfl, ⟨_, HO1.out.mono (Nat.le_succ _), HD.out.del nm⟩, T1.out⟩
   ·have HT := hid (show applyI l ⟨kd, nm, tt, id⟩ = none by simp [applyI, hh, k5, k6])
    clear hh
    go_enter Tryz.func107, Tryz.ntmps107
    go_wp2_with (at_lookup; refine wpList_lookup_own_ok_int _ rfl _ _ 99 rfl 9 3 .i64 keyS Tryz.underlying99 Tryz.underlying3 (zeroI _) b n D rfl HO.out _ _ rfl (key_str Q2.out) ?_; intro c hat hwc; obtain rfl := i6_inj ((HAT.out).symm.trans hat))
    all_goals (go_ret; (try subst_vars); rw [HT.out]; exact ⟨rfl, ⟨_, HO.out.mono (Nat.le_succ _), HD.out⟩, T0.out⟩)
end Go.Proofs.YtdjcjilipgpnmaaGreat
end
section
set_option linter.unusedSimpArgs false
set_option linter.unusedVariables false
namespace Go.G6
open Go Go.RowKit Rep
def putE (l : List LinkD) (x : LinkD) : List LinkD := putN l x.Name x.Id
def keptTo (kept : List LinkD) (k : Nat) : List LinkD := (kept.take k).foldl putE []
def keptI (kept : List LinkD) : List LinkD := kept.foldl putE []
theorem keptTo_step {l : List LinkD} {k : Nat} (h : k < l.length) : keptTo l (k + 1) = putE (keptTo l k) l[k] := by
 unfold keptTo; rw [List.take_succ_eq_append_getElem h, List.foldl_append]; rfl
theorem keptTo_all (l : List LinkD) : keptTo l l.length = keptI l := by unfold keptTo keptI; rw [List.take_length]
def runI : List LinkD → List TurnD → Option (List LinkD)
 | l, [] => some l
 | l, t :: ts => match applyI l t with | none => none | some l' => runI l' ts
theorem runI_step {l : List LinkD} {ts : List TurnD} {k : Nat} (h : k < ts.length) : runI l (ts.drop k) = (match applyI l ts[k] with | none => none | some l' => runI l' (ts.drop (k + 1))) := by
 rw [List.drop_eq_getElem_cons h]; rfl
def dirOfI (kept : List LinkD) (turns : List TurnD) : Option (List LinkD) := runI (keptI kept) turns
end Go.G6
namespace Go.Proofs.YtdjcjilipgpnmaaGreat
open Go Go.RowKit Go.G6
set_option maxHeartbeats 3000000
set_option maxRecDepth 10000
theorem i_dirOf {w : World} {bs4 bs5 : List Nat} {a4 a5 : Option Addr} {n4 k4 n5 k5 : Nat} {kept : List LinkD} {turns : List TurnD} (h4 : Slc w bs4 a4 n4 k4 kept) (h5 : Slc w bs5 a5 n5 k5 turns) (hk : kept.length ≤ 1000) (ht : turns.length ≤ 1000) :
  Calls Tryz.prog 69 #[.slice a4 n4 k4, .slice a5 n5 k5] w fun e w' => ∃ m, e = .returned (.tuple #[.map m, .bool (dirOfI kept turns).isSome]) ∧ Below w.heap.size w w' ∧ ∀ l, dirOfI kept turns = some l → ∃ b, m = some b ∧ w.heap.size ≤ b ∧ MapF Tryz.prog 9 3 w' b 2000 l := by
 obtain rfl := h4.len_eq
 obtain rfl := h5.len_eq
 have m4 := h4.max; have m5 := h5.max
 have H4 := hid h4; have H5 := hid h5
 have HK := hid hk; have HT := hid ht
 clear h4 h5
 have hmm := @run_makeMap Tryz.prog
 have M0 := hid (show MapF Tryz.prog 9 3 (w.alloc (.map #[] 0)) w.heap.size 0 [] from ⟨_, World.ownsMap_made _ _ _ _, dirIs_nil⟩)
 have hB0 := hid ((Below.refl w.heap.size w).alloc (Nat.le_refl _) (.map #[] 0))
 go_enter Tryz.func69, Tryz.ntmps69
 go_wp2_with fail
 go_loopw [14] (fun i wr => ∃ k : Nat, k ≤ kept.length ∧ i = .int .i64 (k : Int) ∧ MapF Tryz.prog 9 3 wr w.heap.size k (keptTo kept k) ∧ Below w.heap.size w wr) (fun i _ => kept.length - (intOf i).toNat)
 case atStart => exact ⟨0, Nat.zero_le _, rfl, M0.out, hB0.out⟩
 case round =>
  clear M0 hB0
  obtain ⟨k, hk1, rfl, hM, hb⟩ := hrel
  by_cases hlt : k < kept.length
  ·obtain ⟨b1, o1, cs1, _, rfl, _, hp1, _, hA1⟩ := (H4.out.grow hb).elem k hlt
   obtain ⟨_, rfl, q1, q2⟩ := open_Link hp1
   have c0 : wr.cell? ⟨b1, o1 + k * 2, none⟩ = some _ := hA1 0 _ rfl
   have c1 : wr.cell? ⟨b1, o1 + k * 2 + 1, none⟩ = some _ := hA1 1 _ rfl
   have hki : (k : Int) < (kept.length : Int) := by omega
   have hst := keptTo_step hlt
   obtain ⟨x, hx⟩ : ∃ x, x = kept[k] := ⟨_, rfl⟩
   rw [← hx] at hst c0 c1 q1 q2
   have HST := hid hst
   have Q1 := hid q1; have Q2 := hid q2
   have HM := hid hM; have HB := hid hb
   clear hp1 hA1 hx hb hst hM
   go_upto_region 5 with fail
   refine late_genw (fun wq hwq => ?_)
   have hbq : Below wr.heap.size wr wq := by rw [hwq]; first | exact (Below.refl _ _).alloc (Nat.le_refl _) _ | exact Below.setCells _ (Nat.le_refl _) _ _ ((Below.refl _ _).alloc (Nat.le_refl _) _)
   have XQ := hid (show Bx wq wr.heap.size #[.string x.Name, .int .i64 x.Id] by rw [hwq]; exact Bx.new _ _ _ rfl)
   have HBq := hid (HB.out.trans (hbq.mono HB.out.size))
   obtain ⟨D, hown, hD⟩ := HM.out.keep (hbq.block _ HM.out.lt)
   have HO := hid hown; have HD := hid hD
   have e0 := bx_at XQ.out 0 rfl
   have e1 := bx_at XQ.out 1 rfl
   clear hwq hbq hown hD c0 c1
   go_wp2_with (first | (at_mapUpdate; refine wpList_mapUpdate_in _ rfl _ _ _ 99 rfl 9 3 keyS Tryz.underlying99 _ w.heap.size k _ rfl HO.out (by have := HK.out; unfold maxLen; omega) _ _ _ rfl rfl (key_str Q1.out) _ [] (plainElem_int Tryz.underlying3 (wf_of Q2.out)) ?_; intro w1 hown1 hturn1))
   have HO1 := hid hown1
   have HB1 := hid (HBq.out.trans ((tch_grown hturn1.grown).below HBq.out.size (by simp)))
   clear hown1 hturn1
   go_wp2
   exact ⟨⟨k + 1, by omega, by go_num, ⟨_, HO1.out, by rw [HST.out]; exact HD.out.put HO.out.isMap x.Name x.Id⟩, HB1.out⟩, by simp [intOf]; try omega⟩
  ·obtain rfl : k = kept.length := by omega
   have hki : ¬ (kept.length : Int) < (kept.length : Int) := by omega
   have HM := hid hM; have HB := hid hb
   have HM := hid (show MapF Tryz.prog 9 3 wr w.heap.size kept.length (keptI kept) by rw [← keptTo_all]; exact hM)
   clear hM hb
   go_wp2_with fail
   obtain ⟨l0, hl0⟩ : ∃ l0, l0 = keptI kept := ⟨_, rfl⟩
   rw [← hl0] at HM
   have HL0 := hid (show dirOfI kept turns = runI l0 turns by rw [hl0]; rfl)
   clear hl0
   obtain ⟨w0, hw0⟩ : ∃ w0, w0 = wr := ⟨_, rfl⟩
   go_loopw [26] (fun i wr => ∃ (k : Nat) (l : List LinkD), k ≤ turns.length ∧ i = .int .i64 (k : Int) ∧ dirOfI kept turns = runI l (turns.drop k) ∧ MapF Tryz.prog 9 3 wr w.heap.size (kept.length + k) l ∧ Below w.heap.size w wr) (fun i _ => turns.length - (intOf i).toNat)
   case atStart => exact ⟨0, l0, Nat.zero_le _, rfl, by rw [HL0.out]; rfl, HM.out, HB.out⟩
   case round =>
    obtain ⟨k, l, hk1, rfl, hL, hM, hb⟩ := hrel
    have HL := hid hL; have HM := hid hM
    clear hL hM
    by_cases hlt : k < turns.length
    ·obtain ⟨b1, o1, cs1, _, rfl, _, hp1, _, hA1⟩ := (H5.out.grow hb).elem k hlt
     obtain ⟨_, rfl, q1, q2, q3, q4⟩ := open_Turn hp1
     have c0 : wr.cell? ⟨b1, o1 + k * 4, none⟩ = some _ := hA1 0 _ rfl
     have c1 : wr.cell? ⟨b1, o1 + k * 4 + 1, none⟩ = some _ := hA1 1 _ rfl
     have c2 : wr.cell? ⟨b1, o1 + k * 4 + 2, none⟩ = some _ := hA1 2 _ rfl
     have c3 : wr.cell? ⟨b1, o1 + k * 4 + 3, none⟩ = some _ := hA1 3 _ rfl
     have hki : (k : Int) < (turns.length : Int) := by omega
     have hst := runI_step (l := l) hlt
     obtain ⟨x, hx⟩ : ∃ x, x = turns[k] := ⟨_, rfl⟩
     rw [← hx] at hst c0 c1 c2 c3 q1 q2 q3 q4
     have HST := hid hst
     have PT := hid (fun (W : World) => mk_Turn (w := W) (d := x) q1 q2 q3 q4)
     have HB := hid hb
     clear hp1 hA1 hx hb hst
     go_upto_region 10 with fail
     refine late_genw (fun wq hwq => ?_)
     have hbq : Below wr.heap.size wr wq := by rw [hwq]; first | exact (Below.refl _ _).alloc (Nat.le_refl _) _ | exact Below.setCells _ (Nat.le_refl _) _ _ ((Below.refl _ _).alloc (Nat.le_refl _) _)
     have XQ := hid (show Bx wq wr.heap.size #[.int .i64 x.Kind, .string x.Name, .string x.To, .int .i64 x.Id] by rw [hwq]; exact Bx.new _ _ _ rfl)
     have HBq := hid (HB.out.trans (hbq.mono HB.out.size))
     have HMq := hid (HM.out.keep (hbq.block _ HM.out.lt))
     clear hwq hbq c0 c1 c2 c3
     have e0 := XQ.out.out
     go_wp2_with fail
     refine (i_apply HMq.out (by have := HK.out; have := HT.out; omega) (PT.out _)).mono ?_
     rintro e w1 ⟨rfl, hM1, hT1⟩
     have HB1 := hid (HBq.out.trans (hT1.below HBq.out.size (by simp)))
     have HM1 := hid hM1
     clear hM1 hT1 e0
     cases ha : applyI l x
     ·have E := hid (show dirOfI kept turns = none by rw [HL.out, HST.out, ha])
      clear ha
      go_wp2
      go_ret2
      rw [E.out]
      exact ⟨none, rfl, HB1.out, fun l h => by cases h⟩
     ·rename_i l'
      have E := hid (show dirOfI kept turns = runI l' (turns.drop (k + 1)) by rw [HL.out, HST.out, ha])
      have HM2 := hid (show MapF Tryz.prog 9 3 w1 w.heap.size (kept.length + (k + 1)) l' by have := HM1.out; rw [ha] at this; exact this)
      clear ha
      go_wp2
      exact ⟨⟨k + 1, l', by omega, by go_num, E.out, HM2.out, HB1.out⟩, by simp [intOf]; try omega⟩
    ·obtain rfl : k = turns.length := by omega
     have hki : ¬ (turns.length : Int) < (turns.length : Int) := by omega
     have E := hid (show dirOfI kept turns = some l by rw [HL.out, List.drop_length]; rfl)
     have HB := hid hb
     clear hb
     go_wp2
     go_ret2
     rw [E.out]
     exact ⟨_, rfl, HB.out, fun l' h => by cases h; exact ⟨_, rfl, Nat.le_refl _, HM.out.mono (by have := HK.out; have := HT.out; omega)⟩⟩
end Go.Proofs.YtdjcjilipgpnmaaGreat
end
section
set_option linter.unusedSimpArgs false
set_option linter.unusedVariables false
namespace Go.Proofs.YtdjcjilipgpnmaaGreat
open Go.RowKit Go.G6
set_option maxHeartbeats 3000000
set_option maxRecDepth 10000
theorem i_DiskUsed {w : World} {bs : List Nat} {cs : List Value} {d : DiskD} (h : Rep.pt w bs cs d) (hs : Small d) :
  Calls Tryz.prog 71 #[.agg cs.toArray] w fun e w' => e = .returned (.int .i64 (diskUsed d : Int)) ∧ Below w.heap.size w w' := by
 obtain ⟨b3, b4, b5, a3, l3, k3, a4, l4, k4, a5, l5, k5, rfl, hcs, h0, h1, h2, h3, h4, h5⟩ := open_Disk h
 obtain rfl := h3.len_eq
 have m3 := h3.max
 have H3 := hid h3
 have HS := hid hs
 have HX := hid (Bx.new w cs.toArray 35 rfl)
 have x3 := bx_at HX.out 3 (v := .slice a3 d.Nodes.length k3) (by rw [hcs]; rfl)
 clear h h0 h1 h2 h3 h4 h5 hcs HX hs
 have hb0 := hid ((Below.refl w.heap.size w).alloc (Nat.le_refl _) (.cells cs.toArray 35))
 obtain ⟨wA, hwA⟩ : ∃ wA, wA = w.alloc (.cells cs.toArray 35) := ⟨_, rfl⟩
 rw [← hwA] at hb0 x3
 go_enter Tryz.func71, Tryz.ntmps71
 go_upto_region 1 with fail
 rw [← hwA]
 clear hwA
 go_wp2_with fail
 go_loopw [3, 9] (fun o i wr => ∃ (k : Nat) (n : Nat), k ≤ d.Nodes.length ∧ o = .int .i64 (n : Int) ∧ i = .int .i64 (k : Int) ∧ n = useOf (d.Nodes.take k) ∧ Below w.heap.size w wr) (fun _ i _ => d.Nodes.length - (intOf i).toNat)
 case atStart => exact ⟨0, 0, Nat.zero_le _, rfl, rfl, rfl, hb0.out⟩
 case round =>
  obtain ⟨k, n, hk, rfl, rfl, hd, hb⟩ := hrel
  have HD := hid hd; have HBr := hid hb
  clear hd
  by_cases hlt : k < d.Nodes.length
  ·obtain ⟨b1, o1, cs1, _, rfl, _, hp1, _, hA1⟩ := (H3.out.grow hb).elem k hlt
   obtain ⟨y1, y2, e1, n1, f1, e2, n2, f2, rfl, rfl, q1, q2, q3⟩ := open_Node hp1
   have c0 : wr.cell? ⟨b1, o1 + k * 3, none⟩ = some _ := hA1 0 _ rfl
   have c1 : wr.cell? ⟨b1, o1 + k * 3 + 1, none⟩ = some _ := hA1 1 _ rfl
   have c2 : wr.cell? ⟨b1, o1 + k * 3 + 2, none⟩ = some _ := hA1 2 _ rfl
   have hst := useOf_step hlt
   have hbd := HS.out.body d.Nodes[k] (List.getElem_mem hlt)
   have hle := useOf_le (d.Nodes.take (k + 1)) (fun n hn => HS.out.body n (List.mem_of_mem_take hn))
   have hn := HS.out.nodes
   rw [List.length_take] at hle
   have z1 := q2.len_eq; have z2 := q3.len_eq
   have hki : (k : Int) < (d.Nodes.length : Int) := by omega
   obtain ⟨x, hx⟩ : ∃ x, x = d.Nodes[k] := ⟨_, rfl⟩
   rw [← hx] at hst c0 hbd z1 z2
   have HST := hid (show useOf (d.Nodes.take (k + 1)) = n + max n1 n2 by rw [hst, z1, z2, HD.out])
   have HLE := hid (show n + max n1 n2 ≤ 17592186044416 by rw [← HST.out]; omega)
   have HB3 := hid (HBr.out.alloc HBr.out.size (.cells #[.int .i64 x.Id, .slice e1 n1 f1, .slice e2 n2 f2] 104))
   clear hst hp1 hA1 hx hb hbd hle hn z1 z2 q1 q2 q3
   go_wp2
   rw [show wrap64 ((n : Int) + max (n1 : Int) (n2 : Int)) = ((n + max n1 n2 : Nat) : Int) by rw [IntWalk.wrap64_in _ (by have := HLE.out; omega)]; omega]
   exact ⟨⟨k + 1, n + max n1 n2, by omega, rfl, by go_num, HST.out.symm, HB3.out⟩, by simp [intOf]; try omega⟩
  ·obtain rfl : k = d.Nodes.length := by omega
   have hki : ¬ (d.Nodes.length : Int) < (d.Nodes.length : Int) := by omega
   have HD1 := hid (show n = diskUsed d by rw [HD.out, List.take_length]; rfl)
   clear hb
   go_wp2
   go_ret
   exact ⟨ret_int (by rw [HD1.out]), HBr.out⟩
theorem i_nodeAt {w : World} {bs : List Nat} {cs : List Value} {d : DiskD} (h : Rep.pt w bs cs d) (id : Int) :
  Calls Tryz.prog 70 #[.agg cs.toArray, .int .i64 id] w fun e w' => e = .returned (.int .i64 (nodeAt d id)) ∧ Below w.heap.size w w' := by
 obtain ⟨b3, b4, b5, a3, l3, k3, a4, l4, k4, a5, l5, k5, rfl, hcs, h0, h1, h2, h3, h4, h5⟩ := open_Disk h
 obtain rfl := h3.len_eq
 have m3 := h3.max
 have H3 := hid h3
 have HX := hid (Bx.new w cs.toArray 35 rfl)
 have x3 := bx_at HX.out 3 (v := .slice a3 d.Nodes.length k3) (by rw [hcs]; rfl)
 clear h h0 h1 h2 h3 h4 h5 hcs HX
 have hb0 := hid ((Below.refl w.heap.size w).alloc (Nat.le_refl _) (.cells cs.toArray 35))
 obtain ⟨wA, hwA⟩ : ∃ wA, wA = w.alloc (.cells cs.toArray 35) := ⟨_, rfl⟩
 rw [← hwA] at hb0 x3
 go_enter Tryz.func70, Tryz.ntmps70
 go_upto_region 1 with fail
 rw [← hwA]
 clear hwA
 go_wp2_with fail
 go_loopw [10] (fun i wr => ∃ (k : Nat), k ≤ d.Nodes.length ∧ i = .int .i64 (k : Int) ∧ nodeAt d id = atI (d.Nodes.drop k) id k ∧ Below w.heap.size w wr) (fun i _ => d.Nodes.length - (intOf i).toNat)
 case atStart => exact ⟨0, Nat.zero_le _, rfl, rfl, hb0.out⟩
 case round =>
  obtain ⟨k, hk, rfl, hd, hb⟩ := hrel
  have HD := hid hd; have HBr := hid hb
  clear hd
  by_cases hlt : k < d.Nodes.length
  ·obtain ⟨b1, o1, cs1, _, rfl, _, hp1, _, hA1⟩ := (H3.out.grow hb).elem k hlt
   obtain ⟨y1, y2, e1, n1, f1, e2, n2, f2, rfl, rfl, q1, q2, q3⟩ := open_Node hp1
   have c0 : wr.cell? ⟨b1, o1 + k * 3, none⟩ = some _ := hA1 0 _ rfl
   have c1 : wr.cell? ⟨b1, o1 + k * 3 + 1, none⟩ = some _ := hA1 1 _ rfl
   have c2 : wr.cell? ⟨b1, o1 + k * 3 + 2, none⟩ = some _ := hA1 2 _ rfl
   have hst : atI (d.Nodes.drop k) id k = if d.Nodes[k].Id = id then (k : Int) else atI (d.Nodes.drop (k + 1)) id (k + 1) := by
    rw [List.drop_eq_getElem_cons hlt]; rfl
   have hki : (k : Int) < (d.Nodes.length : Int) := by omega
   obtain ⟨x, hx⟩ : ∃ x, x = d.Nodes[k].Id := ⟨_, rfl⟩
   rw [← hx] at hst c0
   have HST := hid hst
   have HB3 := hid (HBr.out.alloc HBr.out.size (.cells #[.int .i64 x, .slice e1 n1 f1, .slice e2 n2 f2] 104))
   clear hst hp1 hA1 hx hb q1 q2 q3
   by_cases hq : x = id
   ·have E := hid (show nodeAt d id = (k : Int) by rw [HD.out, HST.out, if_pos hq])
    go_wp2
    go_ret
    exact ⟨ret_int (by rw [E.out]), by rw [← hq]; exact HB3.out⟩
   ·have E := hid (show nodeAt d id = atI (d.Nodes.drop (k + 1)) id (k + 1) by rw [HD.out, HST.out, if_neg hq])
    go_wp2
    exact ⟨⟨k + 1, by omega, by go_num, E.out, HB3.out⟩, by simp [intOf]; try omega⟩
  ·obtain rfl : k = d.Nodes.length := by omega
   have hki : ¬ (d.Nodes.length : Int) < (d.Nodes.length : Int) := by omega
   have E := hid (show nodeAt d id = -1 by rw [HD.out, List.drop_length]; rfl)
   clear hb
   go_wp2
   go_ret
   exact ⟨ret_int (by rw [E.out]), HBr.out⟩
end Go.Proofs.YtdjcjilipgpnmaaGreat
end
section
set_option linter.unusedSimpArgs false
set_option linter.unusedVariables false
namespace Go.G6
open Go Go.RowKit Rep
def kI (n : Int) : Lit := .int .i64 n
def insI (l : List Int) (n : Int) : List Int := if hasI l n = true then l else l ++ [n]
def uniq (l : List Int) : List Int := l.foldl insI []
theorem uniq_snoc (l : List Int) (n : Int) : uniq (l ++ [n]) = insI (uniq l) n := by unfold uniq; rw [List.foldl_append]; rfl
theorem hasI_snoc (l : List Int) (n m : Int) : hasI (l ++ [n]) m = (hasI l m || decide (n = m)) := by unfold hasI; simp
theorem hasI_ins (l : List Int) (n m : Int) : hasI (insI l n) m = (hasI l m || decide (n = m)) := by
 unfold insI
 split
 ·rename_i h
  by_cases e : n = m
  ·subst e; simp [h]
  ·simp [e]
 ·exact hasI_snoc l n m
theorem kI_ne {n m : Int} (h : m ≠ n) : kI m ≠ kI n := fun e => by unfold kI at e; injection e with _ e; exact h e
structure SeenIs (D : DataW Unit) (l : List Int) : Prop where
 h : ∀ n, Maps.has D (kI n) = hasI l n
 a : ∀ n, D.atKey (kI n) (i6 0) = i6 (if hasI l n = true then 1 else 0)
 s : Maps.size D = l.length
theorem seen_nil : SeenIs (.map []) [] := ⟨fun _ => rfl, fun _ => rfl, rfl⟩
theorem SeenIs.put {D : DataW Unit} {l : List Int} (h : SeenIs D l) (ht : Maps.Tidy D) (n : Int) : SeenIs (D.put (kI n) (i6 1)) (insI l n) := by
 have hk : WideAt.IsKeyLit (kI n) := trivial
 refine ⟨fun m => ?_, fun m => ?_, ?_⟩
 ·rw [hasI_ins]
  by_cases e : m = n
  ·subst e; rw [Maps.has_put_same ht.isMap hk]; simp
  ·rw [Maps.has_put_other (kI_ne e), h.h]; simp [show ¬ n = m from fun e' => e e'.symm]
 ·rw [hasI_ins]
  by_cases e : m = n
  ·subst e; rw [Maps.atKey_put_same ht.isMap hk]; simp
  ·rw [Maps.atKey_put_other (kI_ne e), h.a]; simp [show ¬ n = m from fun e' => e e'.symm]
 ·rw [Maps.size_put ht, h.h, h.s]
  unfold insI
  split <;> simp
def SetF (P : Program) (K E : TypeId) (w : World) (b n : Nat) (l : List Int) : Prop := ∃ D, w.ownsMap (H := Unit) P K (plainElem P E) b n D ∧ SeenIs D l
theorem SetF.keep {P : Program} {K E : TypeId} {w w' : World} {b n : Nat} {l : List Int} (h : SetF P K E w b n l) (hk : w'.heap[b]? = w.heap[b]?) : SetF P K E w' b n l := by
 obtain ⟨D, ⟨es, c, hb, r⟩, hD⟩ := h
 exact ⟨D, ⟨es, c, hk.trans hb, r⟩, hD⟩
theorem SetF.lt {P : Program} {K E : TypeId} {w : World} {b n : Nat} {l : List Int} (h : SetF P K E w b n l) : b < w.heap.size := by
 obtain ⟨D, h1, _⟩ := h
 exact h1.lt
def idsFitI (d : DiskD) : Bool := decide ((uniq (diskIds d)).length = (diskIds d).length) && (decide ((diskIds d).length = d.Nodes.length) && d.Nodes.all fun n => hasI (uniq (diskIds d)) n.Id)
end Go.G6
namespace Go.Proofs.YtdjcjilipgpnmaaGreat
open Go Go.RowKit Go.G6
theorem keyI : Maps.Keyed Tryz.prog 3 := Maps.int_keyed Tryz.underlying3
theorem key_int {n : Int} (h : I64 n) : keyOf Tryz.prog 3 (.int .i64 n) = some (kI n) := Maps.keyOf_int_mk Tryz.underlying3 (wf_of h)
end Go.Proofs.YtdjcjilipgpnmaaGreat
end
