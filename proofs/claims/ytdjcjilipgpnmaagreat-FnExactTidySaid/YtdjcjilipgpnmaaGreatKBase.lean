/- Readings of Go values as data: a class of readable types, with the list of blocks that a reading goes through. -/
import Derived.WalkKit
import Derived.WalkSpells
import Derived.WalkLawsBesides
import Derived.Deep.OwnRows
import Derived.Deep.RegionHeld3
set_option linter.unusedSimpArgs false
set_option linter.unusedVariables false
namespace Go.G6
open Go.RowKit
theorem bcell {W w1 : World} (hb : Below W.heap.size W w1) : (∀ b o, b < W.heap.size → w1.cell? ⟨b, o, none⟩ = W.cell? ⟨b, o, none⟩) ∧ (∀ b o, b < W.heap.size → w1.frozen? ⟨b, o, none⟩ = W.frozen? ⟨b, o, none⟩) :=
 ⟨fun b o h => hb.cell (p := ⟨b, o, none⟩) h, fun b o h => hb.frozen (p := ⟨b, o, none⟩) h⟩
theorem hid {p : Prop} (h : p) : Hid p := h
/-- The range of a Go int. -/
def I64 (n : Int) : Prop := -9223372036854775808 ≤ n ∧ n ≤ 9223372036854775807
class Rep (α : Type) where
 size : Nat
 pos : 0 < size
 pt : World → List Nat → List Value → α → Prop
 len : ∀ {w bs cs a}, pt w bs cs a → cs.length = size
 one : ∀ {w bs cs a}, pt w bs cs a → ∀ u ∈ cs, u.oneCell' = true
 lt : ∀ {w bs cs a}, pt w bs cs a → ∀ b ∈ bs, b < w.heap.size
 keep : ∀ {w w' : World} {bs cs a}, pt w bs cs a → (∀ b ∈ bs, w'.heap[b]? = w.heap[b]?) → pt w' bs cs a
open Rep
instance : Rep Int where
 size := 1
 pos := by decide
 pt _ bs cs n := bs = [] ∧ cs = [.int .i64 n] ∧ I64 n
 len h := by rw [h.2.1]; rfl
 one h := by rw [h.2.1]; simp [Value.oneCell']
 lt h b hb := by rw [h.1] at hb; cases hb
 keep h _ := h
instance : Rep UInt8 where
 size := 1
 pos := by decide
 pt _ bs cs n := bs = [] ∧ cs = [.int .u8 (n.toNat : Int)]
 len h := by rw [h.2]; rfl
 one h := by rw [h.2]; simp [Value.oneCell']
 lt h b hb := by rw [h.1] at hb; cases hb
 keep h _ := h
instance : Rep Bool where
 size := 1
 pos := by decide
 pt _ bs cs n := bs = [] ∧ cs = [.bool n]
 len h := by rw [h.2]; rfl
 one h := by rw [h.2]; simp [Value.oneCell']
 lt h b hb := by rw [h.1] at hb; cases hb
 keep h _ := h
instance : Rep ByteArray where
 size := 1
 pos := by decide
 pt _ bs cs n := bs = [] ∧ cs = [.string n] ∧ n.size ≤ maxLen
 len h := by rw [h.2.1]; rfl
 one h := by rw [h.2.1]; simp [Value.oneCell']
 lt h b hb := by rw [h.1] at hb; cases hb
 keep h _ := h
instance {α β : Type} [Rep α] [Rep β] : Rep (α × β) where
 size := size α + size β
 pos := Nat.lt_of_lt_of_le (Rep.pos (α := α)) (Nat.le_add_right _ _)
 pt w bs cs p := ∃ b1 b2 c1 c2, bs = b1 ++ b2 ∧ cs = c1 ++ c2 ∧ pt w b1 c1 p.1 ∧ pt w b2 c2 p.2
 len := by
  rintro w bs cs p ⟨b1, b2, c1, c2, rfl, rfl, h1, h2⟩
  rw [List.length_append, Rep.len h1, Rep.len h2]
 one := by
  rintro w bs cs p ⟨b1, b2, c1, c2, rfl, rfl, h1, h2⟩ u hu
  rcases List.mem_append.1 hu with hu | hu
  ·exact Rep.one h1 u hu
  ·exact Rep.one h2 u hu
 lt := by
  rintro w bs cs p ⟨b1, b2, c1, c2, rfl, rfl, h1, h2⟩ b hb
  rcases List.mem_append.1 hb with hb | hb
  ·exact Rep.lt h1 b hb
  ·exact Rep.lt h2 b hb
 keep := by
  rintro w w' bs cs p ⟨b1, b2, c1, c2, rfl, rfl, h1, h2⟩ hk
  exact ⟨b1, b2, c1, c2, rfl, rfl, Rep.keep h1 fun b hb => hk b (List.mem_append_left _ hb), Rep.keep h2 fun b hb => hk b (List.mem_append_right _ hb)⟩
/-- A row of cells that reads as a list of data. -/
def Elems {α : Type} [Rep α] (w : World) : List (List Nat) → List Value → List α → Prop
 | [], cells, [] => cells = []
 | bs :: bss, cells, x :: xs => ∃ cs rest, cells = cs ++ rest ∧ pt w bs cs x ∧ Elems w bss rest xs
 | _, _, _ => False
section
variable {α : Type} [Rep α] {w w' : World}
theorem Elems.cons {bs : List Nat} {bss : List (List Nat)} {cs rest : List Value} {x : α} {xs : List α} (h : pt w bs cs x) (h2 : Elems w bss rest xs) : Elems w (bs :: bss) (cs ++ rest) (x :: xs) := ⟨cs, rest, rfl, h, h2⟩
theorem Elems.length : ∀ {bss : List (List Nat)} {cells : List Value} {xs : List α}, Elems w bss cells xs → bss.length = xs.length ∧ cells.length = xs.length * size α
 | [], _, [], h => by cases h; exact ⟨rfl, by simp⟩
 | _ :: _, _, _ :: _, ⟨cs, rest, rfl, h, h2⟩ => by
  have := h2.length
  refine ⟨by simp [this.1], ?_⟩
  rw [List.length_append, Rep.len h, this.2, List.length_cons, Nat.add_mul]; omega
theorem Elems.one : ∀ {bss : List (List Nat)} {cells : List Value} {xs : List α}, Elems w bss cells xs → ∀ u ∈ cells, u.oneCell' = true
 | [], _, [], h, u, hu => by cases h; cases hu
 | _ :: _, _, _ :: _, ⟨cs, rest, rfl, h, h2⟩, u, hu => by
  rcases List.mem_append.1 hu with hu | hu
  ·exact Rep.one h u hu
  ·exact h2.one u hu
theorem Elems.lt : ∀ {bss : List (List Nat)} {cells : List Value} {xs : List α}, Elems w bss cells xs → ∀ k ∈ bss.flatten, k < w.heap.size
 | [], _, [], _, k, hk => by cases hk
 | _ :: _, _, _ :: _, ⟨cs, rest, rfl, h, h2⟩, k, hk => by
  rw [List.flatten_cons] at hk
  rcases List.mem_append.1 hk with hk | hk
  ·exact Rep.lt h k hk
  ·exact h2.lt k hk
theorem Elems.keep : ∀ {bss : List (List Nat)} {cells : List Value} {xs : List α}, Elems w bss cells xs → (∀ k ∈ bss.flatten, w'.heap[k]? = w.heap[k]?) → Elems w' bss cells xs
 | [], _, [], h, _ => h
 | _ :: _, _, _ :: _, ⟨cs, rest, e, h, h2⟩, hk =>
  ⟨cs, rest, e, Rep.keep h fun k hk' => hk k (by rw [List.flatten_cons]; exact List.mem_append_left _ hk'), h2.keep fun k hk' => hk k (by rw [List.flatten_cons]; exact List.mem_append_right _ hk')⟩
theorem Elems.append : ∀ {b1 b2 : List (List Nat)} {c1 c2 : List Value} {x1 x2 : List α}, Elems w b1 c1 x1 → Elems w b2 c2 x2 → Elems w (b1 ++ b2) (c1 ++ c2) (x1 ++ x2)
 | [], _, _, _, [], _, h, h' => by cases h; exact h'
 | _ :: _, _, _, _, _ :: _, _, ⟨cs, rest, e, h, h2⟩, h' => ⟨cs, rest ++ _, by rw [e, List.append_assoc], h, h2.append h'⟩
theorem Elems.single {bs : List Nat} {cs : List Value} {x : α} (h : pt w bs cs x) : Elems w [bs] cs [x] := ⟨cs, [], by simp, h, rfl⟩
theorem Elems.snoc {bss : List (List Nat)} {cells : List Value} {xs : List α} {bs : List Nat} {cs : List Value} {x : α} (h : Elems w bss cells xs) (h' : pt w bs cs x) : Elems w (bss ++ [bs]) (cells ++ cs) (xs ++ [x]) :=
 h.append (Elems.single h')
theorem Elems.take : ∀ {bss : List (List Nat)} {cells : List Value} {xs : List α} (n : Nat), Elems w bss cells xs → Elems w (bss.take n) (cells.take (n * size α)) (xs.take n)
 | [], _, [], n, h => by cases h; simp [Elems]
 | _ :: _, _, _ :: _, 0, _ => by simp [Elems]
 | _ :: _, _, _ :: _, n + 1, ⟨cs, rest, e, h, h2⟩ => by
  refine ⟨cs, rest.take (n * size α), ?_, h, h2.take n⟩
  rw [e, Nat.add_mul, Nat.one_mul, List.take_append, Rep.len h]
  rw [List.take_of_length_le (by rw [Rep.len h]; omega)]
  congr 2; omega
theorem Elems.drop : ∀ {bss : List (List Nat)} {cells : List Value} {xs : List α} (n : Nat), Elems w bss cells xs → Elems w (bss.drop n) (cells.drop (n * size α)) (xs.drop n)
 | [], _, [], n, h => by cases h; simp [Elems]
 | _ :: _, _, _ :: _, 0, h => by simpa using h
 | _ :: _, cells, _ :: _, n + 1, ⟨cs, rest, e, h, h2⟩ => by
  have := h2.drop n
  have e2 : cells.drop ((n + 1) * size α) = rest.drop (n * size α) := by
   rw [e, Nat.add_mul, Nat.one_mul, List.drop_append, Rep.len h, List.drop_of_length_le (by rw [Rep.len h]; omega), List.nil_append]
   congr 1; omega
  rw [e2]
  exact this
theorem Elems.get : ∀ {bss : List (List Nat)} {cells : List Value} {xs : List α}, Elems w bss cells xs → ∀ i (h : i < xs.length), ∃ cs bs, pt w bs cs xs[i] ∧ bss[i]? = some bs ∧ ∀ j v, cs[j]? = some v → cells[i * size α + j]? = some v
 | [], _, [], _, i, h => by cases h
 | _ :: _, _, _ :: _, ⟨cs, rest, rfl, h, _⟩, 0, _ => ⟨cs, _, h, rfl, fun j v hv => by
   have := (List.getElem?_eq_some_iff.1 hv).1
   simpa [List.getElem?_append_left this] using hv⟩
 | _ :: _, _, _ :: _, ⟨cs, rest, rfl, h, h2⟩, i + 1, hi => by
  obtain ⟨cs', bs, h', e, hc⟩ := h2.get i (by simpa using hi)
  refine ⟨cs', bs, h', by simpa using e, fun j v hv => ?_⟩
  have := hc j v hv
  rw [List.getElem?_append_right (by rw [Rep.len h, Nat.add_mul]; omega), Rep.len h]
  rw [show (i + 1) * size α + j - size α = i * size α + j by rw [Nat.add_mul]; omega]
  exact this
end
/-- Cells that lie in a row from (b, off) on. -/
def At (w : World) (b off : Nat) (cells : List Value) : Prop := ∀ j v, cells[j]? = some v → w.cell? ⟨b, off + j, none⟩ = some v
theorem At.keep {w w' : World} {b off : Nat} {cells : List Value} (h : At w b off cells) (hb : w'.heap[b]? = w.heap[b]?) : At w' b off cells :=
 fun j v hv => by rw [World.cell?_of_block hb]; exact h j v hv
theorem At.append {w : World} {b off : Nat} {c1 c2 : List Value} (h1 : At w b off c1) (h2 : At w b (off + c1.length) c2) : At w b off (c1 ++ c2) := by
 intro j v hv
 by_cases hj : j < c1.length
 ·rw [List.getElem?_append_left hj] at hv; exact h1 j v hv
 ·rw [List.getElem?_append_right (by omega)] at hv
  have := h2 _ v hv
  rwa [show off + c1.length + (j - c1.length) = off + j by omega] at this
theorem At.left {w : World} {b off : Nat} {c1 c2 : List Value} (h : At w b off (c1 ++ c2)) : At w b off c1 := by
 intro j v hv
 exact h j v (by rw [List.getElem?_append_left (List.getElem?_eq_some_iff.1 hv).1]; exact hv)
theorem At.right {w : World} {b off : Nat} {c1 c2 : List Value} (h : At w b off (c1 ++ c2)) : At w b (off + c1.length) c2 := by
 intro j v hv
 have := h (c1.length + j) v (by rw [List.getElem?_append_right (by omega), show c1.length + j - c1.length = j by omega]; exact hv)
 rwa [← Nat.add_assoc] at this
theorem At.take {w : World} {b off : Nat} {cells : List Value} (h : At w b off cells) (n : Nat) : At w b off (cells.take n) :=
 At.left (c2 := cells.drop n) (by rw [List.take_append_drop]; exact h)
theorem At.drop {w : World} {b off : Nat} {cells : List Value} (h : At w b off cells) (n : Nat) (hn : n ≤ cells.length) : At w b (off + n) (cells.drop n) := by
 have := At.right (c1 := cells.take n) (c2 := cells.drop n) (by rw [List.take_append_drop]; exact h)
 rwa [List.length_take, Nat.min_eq_left hn] at this
theorem At.cell {w : World} {b off : Nat} {cells : List Value} (h : At w b off cells) (j : Nat) (hj : j < cells.length) : w.cell? ⟨b, off + j, none⟩ = some cells[j] :=
 h j _ (List.getElem?_eq_getElem hj)
/-- A slice: nothing to read, or cells of one block. -/
def Slc {α : Type} [Rep α] (w : World) (bs : List Nat) (a : Option Addr) (len cap : Nat) (xs : List α) : Prop :=
 len = xs.length ∧ len ≤ cap ∧ cap ≤ maxLen ∧
  ((xs = [] ∧ bs = [] ∧ (a = none → cap = 0)) ∨ (xs ≠ [] ∧ ∃ b off bss cells, a = some ⟨b, off, none⟩ ∧ b < w.heap.size ∧ bs = b :: bss.flatten ∧ Elems w bss cells xs ∧ At w b off cells))
instance {α : Type} [Rep α] : Rep (List α) where
 size := 1
 pos := by decide
 pt w bs cs xs := ∃ a len cap, cs = [.slice a len cap] ∧ Slc w bs a len cap xs
 len := by rintro w bs cs xs ⟨a, len, cap, rfl, _⟩; rfl
 one := by rintro w bs cs xs ⟨a, len, cap, rfl, _⟩; simp [Value.oneCell']
 lt := by
  rintro w bs cs xs ⟨a, len, cap, rfl, _, _, _, ⟨_, rfl, _⟩ | ⟨_, b, off, bss, cells, _, hb, rfl, h, _⟩⟩ k hk
  ·cases hk
  ·rcases List.mem_cons.1 hk with rfl | hk
   ·exact hb
   ·exact h.lt k hk
 keep := by
  rintro w w' bs cs xs ⟨a, len, cap, rfl, h1, h2, h3, ⟨h4, rfl, h5⟩ | ⟨h4, b, off, bss, cells, h5, hb, rfl, h, hA⟩⟩ hk
  ·exact ⟨a, len, cap, rfl, h1, h2, h3, .inl ⟨h4, rfl, h5⟩⟩
  ·have hbb := hk b (by simp)
   refine ⟨a, len, cap, rfl, h1, h2, h3, .inr ⟨h4, b, off, bss, cells, h5, ?_, rfl, h.keep fun k hk' => hk k (List.mem_cons_of_mem _ hk'), hA.keep hbb⟩⟩
   have : w.heap[b]? = some w.heap[b] := Array.getElem?_eq_getElem hb
   rw [this] at hbb
   exact (Array.getElem?_eq_some_iff.1 hbb).1
/-- A reading stays where its blocks stay. -/
theorem ext {α : Type} [Rep α] {w w' : World} {bs : List Nat} {cs : List Value} {a : α} (h : pt w bs cs a) {B : Nat} (hb : Below B w w') (hB : ∀ b ∈ bs, b < B) : pt w' bs cs a :=
 Rep.keep h fun b hb' => hb.block b (hB b hb')
theorem grow {α : Type} [Rep α] {w w' : World} {bs : List Nat} {cs : List Value} {a : α} (h : pt w bs cs a) (hb : Below w.heap.size w w') : pt w' bs cs a :=
 ext h hb (Rep.lt h)
theorem pt_slice {α : Type} [Rep α] {w : World} {bs : List Nat} {a : Option Addr} {len cap : Nat} {xs : List α} : pt w bs [.slice a len cap] xs ↔ Slc w bs a len cap xs := by
 constructor
 ·rintro ⟨a', len', cap', he, h⟩
  simp only [List.cons.injEq, Value.slice.injEq, and_true] at he
  obtain ⟨rfl, rfl, rfl⟩ := he
  exact h
 ·exact fun h => ⟨a, len, cap, rfl, h⟩
theorem Slc.grow {α : Type} [Rep α] {w w' : World} {bs : List Nat} {a : Option Addr} {len cap : Nat} {xs : List α} (h : Slc w bs a len cap xs) (hb : Below w.heap.size w w') : Slc w' bs a len cap xs :=
 pt_slice.1 (G6.grow (pt_slice.2 h) hb)
theorem Slc.len_eq {α : Type} [Rep α] {w : World} {bs : List Nat} {a : Option Addr} {len cap : Nat} {xs : List α} (h : Slc w bs a len cap xs) : len = xs.length := h.1
theorem Slc.max {α : Type} [Rep α] {w : World} {bs : List Nat} {a : Option Addr} {len cap : Nat} {xs : List α} (h : Slc w bs a len cap xs) : len ≤ 9223372036854775807 := Nat.le_trans h.2.1 h.2.2.1
theorem Slc.open {α : Type} [Rep α] {w : World} {bs : List Nat} {a : Option Addr} {len cap : Nat} {xs : List α} (h : Slc w bs a len cap xs) (h0 : 0 < xs.length) :
  ∃ b off bss cells, a = some ⟨b, off, none⟩ ∧ b < w.heap.size ∧ bs = b :: bss.flatten ∧ Elems w bss cells xs ∧ At w b off cells := by
 obtain ⟨h1, h2, h3, ⟨rfl, _⟩ | ⟨_, h⟩⟩ := h
 ·simp at h0
 ·exact h
/-- The cells of one element. -/
theorem Slc.elem {α : Type} [Rep α] {w : World} {bs : List Nat} {a : Option Addr} {len cap : Nat} {xs : List α} (h : Slc w bs a len cap xs) (k : Nat) (hk : k < xs.length) :
  ∃ b off cs bs', a = some ⟨b, off, none⟩ ∧ b < w.heap.size ∧ pt w bs' cs xs[k] ∧ (∀ x ∈ bs', x ∈ bs) ∧ At w b (off + k * size α) cs := by
 obtain ⟨b, off, bss, cells, h5, hb, rfl, hE, hA⟩ := h.open (by omega)
 obtain ⟨cs, bs', hp, hbs, hc⟩ := hE.get k hk
 refine ⟨b, off, cs, bs', h5, hb, hp, fun x hx => ?_, fun j v hv => ?_⟩
 ·exact List.mem_cons_of_mem _ (List.mem_flatten.2 ⟨bs', List.mem_of_getElem? hbs, hx⟩)
 ·have := hA _ v (hc j v hv)
  rwa [← Nat.add_assoc] at this
/-- A block that may be written. -/
def Fr (w : World) (b : Nat) : Prop := ∃ c e, w.heap[b]? = some (.cells c e (0, 0))
/-- A reading through blocks of its own, from block lo on, none met twice, all to be written. -/
def Own {α : Type} [Rep α] (lo : Nat) (w : World) (bs : List Nat) (cs : List Value) (a : α) : Prop :=
 pt w bs cs a ∧ bs.Nodup ∧ ∀ b ∈ bs, lo ≤ b ∧ Fr w b
theorem Own.keep {α : Type} [Rep α] {lo : Nat} {w w' : World} {bs : List Nat} {cs : List Value} {a : α} (h : Own lo w bs cs a) (hk : ∀ b ∈ bs, w'.heap[b]? = w.heap[b]?) : Own lo w' bs cs a :=
 ⟨Rep.keep h.1 hk, h.2.1, fun b hb => ⟨(h.2.2 b hb).1, by obtain ⟨c, e, hc⟩ := (h.2.2 b hb).2; exact ⟨c, e, (hk b hb).trans hc⟩⟩⟩
theorem Own.grow {α : Type} [Rep α] {lo : Nat} {w w' : World} {bs : List Nat} {cs : List Value} {a : α} (h : Own lo w bs cs a) (hb : Below w.heap.size w w') : Own lo w' bs cs a :=
 h.keep fun b hb' => hb.block b (Rep.lt h.1 b hb')
theorem Own.mono {α : Type} [Rep α] {lo lo' : Nat} {w : World} {bs : List Nat} {cs : List Value} {a : α} (h : Own lo w bs cs a) (hl : lo' ≤ lo) : Own lo' w bs cs a :=
 ⟨h.1, h.2.1, fun b hb => ⟨Nat.le_trans hl (h.2.2 b hb).1, (h.2.2 b hb).2⟩⟩
/-- A row that the call has made, and the data that its cells read as. -/
theorem own_of_row {α : Type} [Rep α] {w : World} {lo : Nat} {e : TypeId} {v : Value} {n : Nat} {cells : List Value} {bss : List (List Nat)} {xs : List α}
  (h : w.ownsRow lo e (size α) v n cells) (hE : Elems w bss cells xs) (hn : n = xs.length)
  (hb : bss.flatten.Nodup) (hf : ∀ b ∈ bss.flatten, lo ≤ b ∧ Fr w b ∧ v.ownBlock ≠ some b) : ∃ bs, Own lo w bs [v] xs := by
 subst hn
 obtain ⟨h1, ⟨rfl, h0⟩ | ⟨g, cap, cur, rfl, hg, hgg, hnc, hcm, hcs, ht⟩⟩ := h
 ·have : xs = [] := List.eq_nil_of_length_eq_zero h0
  subst this
  exact ⟨[], ⟨none, 0, 0, rfl, rfl, Nat.le_refl _, Nat.zero_le _, .inl ⟨rfl, rfl, fun _ => rfl⟩⟩, List.nodup_nil, fun b hb => by cases hb⟩
 ·by_cases hx : xs = []
  ·subst hx
   exact ⟨[], ⟨_, _, _, rfl, rfl, hnc, hcm, .inl ⟨rfl, rfl, fun h => by cases h⟩⟩, List.nodup_nil, fun b hb => by cases hb⟩
  ·have hlt : g < w.heap.size := (Array.getElem?_eq_some_iff.1 hgg).1
   refine ⟨g :: bss.flatten, ⟨_, _, _, rfl, rfl, hnc, hcm, .inr ⟨hx, g, 0, bss, cells, rfl, hlt, rfl, hE, fun j v hv => ?_⟩⟩, ?_, ?_⟩
   ·rw [Nat.zero_add, cell_of_row w g j cur e (0, 0) hgg]
    rw [← ht, List.getElem?_take] at hv
    split at hv
    ·simpa using hv
    ·cases hv
   ·refine List.nodup_cons.2 ⟨fun hm => (hf g hm).2.2 rfl, hb⟩
   ·intro b hb'
    rcases List.mem_cons.1 hb' with rfl | hb'
    ·exact ⟨hg, cur, e, hgg⟩
    ·exact ⟨(hf b hb').1, (hf b hb').2.1⟩
/-- Elements without blocks of their own. -/
theorem flat_nil {bss : List (List Nat)} (h : ∀ b ∈ bss, b = []) : bss.flatten = [] := by
 induction bss with
 | nil => rfl
 | cons b l ih => rw [List.flatten_cons, h b (by simp), ih fun b hb => h b (by simp [hb])]; rfl
/-- Data of one cell, without blocks. -/
class Scal (α : Type) extends Rep α where
 val : α → Value
 ok : α → Prop
 size1 : Rep.size α = 1
 spt : ∀ {w bs cs a}, Rep.pt w bs cs a ↔ bs = [] ∧ cs = [val a] ∧ ok a
instance : Scal Int where
 val n := .int .i64 n
 ok n := I64 n
 size1 := rfl
 spt := Iff.rfl
instance : Scal UInt8 where
 val n := .int .u8 (n.toNat : Int)
 ok _ := True
 size1 := rfl
 spt := ⟨fun h => ⟨h.1, h.2, trivial⟩, fun h => ⟨h.1, h.2.1⟩⟩
instance : Scal ByteArray where
 val n := .string n
 ok n := n.size ≤ maxLen
 size1 := rfl
 spt := Iff.rfl
section
variable {α : Type} [Scal α]
theorem elems_scal {w : World} : ∀ {xs : List α}, (∀ x ∈ xs, Scal.ok x) → Elems w (xs.map fun _ => []) (xs.map Scal.val) xs
 | [], _ => rfl
 | x :: xs, h => Elems.cons (bs := []) (cs := [Scal.val x]) (rest := xs.map Scal.val) (bss := xs.map fun _ => []) (Scal.spt.2 ⟨rfl, rfl, h x (by simp)⟩) (elems_scal fun y hy => h y (by simp [hy]))
theorem elems_scal' {w : World} : ∀ {xs : List α} {bss : List (List Nat)} {cells : List Value}, Elems w bss cells xs → (∀ x ∈ xs, Scal.ok x) ∧ cells = xs.map Scal.val ∧ ∀ b ∈ bss, b = [] := by
 intro xs
 induction xs with
 | nil =>
  rintro (_ | ⟨bs, bss⟩) cells h
  ·cases h; simp
  ·exact h.elim
 | cons x xs ih =>
  rintro (_ | ⟨bs, bss⟩) cells h
  ·exact h.elim
  ·obtain ⟨cs, rest, rfl, hp, h2⟩ := h
   obtain ⟨rfl, rfl, h⟩ := Scal.spt.1 hp
   obtain ⟨a, b, c⟩ := ih h2
   refine ⟨fun y hy => ?_, by rw [b]; rfl, fun y hy => ?_⟩
   ·rcases List.mem_cons.1 hy with rfl | hy
    ·exact h
    ·exact a y hy
   ·rcases List.mem_cons.1 hy with rfl | hy
    ·rfl
    ·exact c y hy
theorem Slc.oks {w : World} {bs : List Nat} {a : Option Addr} {len cap : Nat} {xs : List α} (h : Slc w bs a len cap xs) : ∀ x ∈ xs, Scal.ok x := by
 by_cases h0 : 0 < xs.length
 ·obtain ⟨b, off, bss, cells, _, _, _, hE, _⟩ := h.open h0
  exact (elems_scal' hE).1
 ·have : xs = [] := List.eq_nil_of_length_eq_zero (by omega)
  subst this; simp
theorem Slc.at {w : World} {bs : List Nat} {a : Option Addr} {len cap : Nat} {xs : List α} (h : Slc w bs a len cap xs) (k : Nat) (hk : k < xs.length) :
  ∃ b off, a = some ⟨b, off, none⟩ ∧ b < w.heap.size ∧ w.cell? ⟨b, off + k, none⟩ = some (Scal.val xs[k]) ∧ Scal.ok xs[k] := by
 obtain ⟨b, off, cs, bs', h5, hb, hp, _, hA⟩ := h.elem k hk
 obtain ⟨_, rfl, hi⟩ := Scal.spt.1 hp
 exact ⟨b, off, h5, hb, by simpa [Scal.size1 (α := α)] using hA 0 _ rfl, hi⟩
theorem own_scal {w : World} {lo : Nat} {e : TypeId} {v : Value} {xs : List α} (h : w.ownsRow lo e 1 v xs.length (xs.map Scal.val)) (hx : ∀ x ∈ xs, Scal.ok x) : ∃ bs, Own lo w bs [v] xs := by
 have hf : (xs.map fun _ => ([] : List Nat)).flatten = [] := flat_nil (by simp)
 exact own_of_row (α := α) (by rw [Scal.size1 (α := α)]; exact h) (elems_scal hx) rfl (by rw [hf]; exact List.nodup_nil) (by rw [hf]; simp)
end
end Go.G6
namespace Go.G6
open Go.RowKit Rep
def RetS {α : Type} [Rep α] (w : World) (x : List α) (e : Ending) (w' : World) : Prop := ∃ a len cap bs, e = .returned (.slice a len cap) ∧ Own w.heap.size w' bs [.slice a len cap] x ∧ Below w.heap.size w w'
def RetA {α : Type} [Rep α] (w : World) (x : α) (e : Ending) (w' : World) : Prop := ∃ cs bs, e = .returned (.agg cs.toArray) ∧ Own w.heap.size w' bs cs x ∧ Below w.heap.size w w'
theorem ret_bool {a b : Bool} (h : a = b) : Ending.returned (.bool a) = .returned (.bool b) := by rw [h]
theorem ret_int {a b : Int} (h : a = b) : Ending.returned (.int .i64 a) = .returned (.int .i64 b) := by rw [h]
end Go.G6
namespace Go.G6
theorem take_set_succ {α : Type} (l : List α) (k : Nat) (v : α) (h : k < l.length) : (l.set k v).take (k + 1) = l.take k ++ [v] := by
 rw [List.take_succ_eq_append_getElem (by simpa using h)]
 simp [List.take_set]
 rw [List.set_eq_of_length_le (by simp; omega)]
theorem take_map_succ {α β : Type} (f : α → β) (l : List α) (k : Nat) (h : k < l.length) : (l.take (k + 1)).map f = (l.take k).map f ++ [f l[k]] := by
 rw [List.take_succ_eq_append_getElem h, List.map_append]; rfl
end Go.G6
theorem Go.RowKit.Below.drewN {B : Nat} {a w : Go.World} (h : Go.RowKit.Below B a w) (n : Nat) : Go.RowKit.Below B a (w.drewN n) := h.trans ⟨rfl, rfl, rfl, Nat.le_refl _, fun _ _ => rfl⟩
namespace Go.G6
open Go.RowKit Rep
theorem below_call {w W w1 : World} (h0 : Below w.heap.size w W) (hb : Below W.heap.size W w1) : Below w.heap.size w w1 := h0.trans (hb.mono h0.size)
theorem Own.alloc {α : Type} [Rep α] {lo : Nat} {w : World} {bs : List Nat} {cs : List Value} {a : α} (h : Own lo w bs cs a) (o : Obj) : Own lo (w.alloc o) bs cs a :=
 h.keep fun b hb => Below.heap_alloc _ _ _ (Rep.lt h.1 b hb)
end Go.G6
namespace Go.G6
open Go.RowKit Rep
theorem Own.setCell' {α : Type} [Rep α] {lo : Nat} {w : World} {bs : List Nat} {cs : List Value} {a : α} {p : Addr} (v : Value) (h : Own lo w bs cs a) (hp : ∀ b ∈ bs, b ≠ p.block) : Own lo (w.setCell p v) bs cs a :=
 h.keep fun b hb => Below.heap_setCell _ _ _ _ (hp b hb)
end Go.G6
namespace Go.G6
open Go.RowKit Rep
/-- Only the blocks bs, and new ones, have turned. -/
structure Tch (bs : List Nat) (w w' : World) : Prop where
 os : w'.os = w.os
 tape : w'.tape = w.tape
 output : w'.output = w.output
 size : w.heap.size ≤ w'.heap.size
 block : ∀ k, k < w.heap.size → k ∉ bs → w'.heap[k]? = w.heap[k]?
theorem Tch.refl (bs : List Nat) (w : World) : Tch bs w w := ⟨rfl, rfl, rfl, Nat.le_refl _, fun _ _ _ => rfl⟩
theorem Tch.trans {bs : List Nat} {a b c : World} (h : Tch bs a b) (k : Tch bs b c) : Tch bs a c :=
 ⟨k.os.trans h.os, k.tape.trans h.tape, k.output.trans h.output, Nat.le_trans h.size k.size, fun i hi hn => (k.block i (Nat.lt_of_lt_of_le hi h.size) hn).trans (h.block i hi hn)⟩
theorem Tch.of_below {bs : List Nat} {w w' : World} (h : Below w.heap.size w w') : Tch bs w w' := ⟨h.os, h.tape, h.output, h.size, fun k hk _ => h.block k hk⟩
theorem Tch.mono {bs bs' : List Nat} {w w' : World} (h : Tch bs w w') (hs : ∀ x ∈ bs, x ∈ bs') : Tch bs' w w' := ⟨h.os, h.tape, h.output, h.size, fun k hk hn => h.block k hk fun hm => hn (hs k hm)⟩
theorem Tch.below {bs : List Nat} {w w' : World} (h : Tch bs w w') {B : Nat} (hB : B ≤ w.heap.size) (hs : ∀ x ∈ bs, B ≤ x) : Below B w w' :=
 ⟨h.os, h.tape, h.output, h.size, fun k hk => h.block k (Nat.lt_of_lt_of_le hk hB) fun hm => by have := hs k hm; omega⟩
theorem Tch.setCell {bs : List Nat} {a w : World} (h : Tch bs a w) {p : Addr} (hp : p.block ∈ bs) (v : Value) : Tch bs a (w.setCell p v) :=
 h.trans ⟨rfl, rfl, rfl, by simp, fun k _ hn => Below.heap_setCell _ _ _ _ fun e => hn (e ▸ hp)⟩
theorem Tch.setNew {bs : List Nat} {a w : World} (h : Tch bs a w) {p : Addr} (hp : a.heap.size ≤ p.block) (v : Value) : Tch bs a (w.setCell p v) :=
 ⟨h.os, h.tape, h.output, by simpa using h.size, fun k hk hn => (Below.heap_setCell _ _ _ _ (by omega)).trans (h.block k hk hn)⟩
theorem Tch.alloc {bs : List Nat} {a w : World} (h : Tch bs a w) (o : Obj) : Tch bs a (w.alloc o) :=
 ⟨h.os, h.tape, h.output, by have := h.size; simp; omega, fun k hk hn => (Below.heap_alloc _ _ _ (Nat.lt_of_lt_of_le hk h.size)).trans (h.block k hk hn)⟩
theorem Tch.cell {bs : List Nat} {w w' : World} (h : Tch bs w w') {p : Addr} (hp : p.block < w.heap.size) (hn : p.block ∉ bs) : w'.cell? p = w.cell? p := World.cell?_of_block (h.block _ hp hn)
theorem pt_tch {α : Type} [Rep α] {w w' : World} {bs bs' : List Nat} {cs : List Value} {a : α} (h : pt w bs cs a) (ht : Tch bs' w w') (hd : ∀ x ∈ bs, x ∉ bs') : pt w' bs cs a :=
 Rep.keep h fun b hb => ht.block b (Rep.lt h b hb) (hd b hb)
theorem Own.tch {α : Type} [Rep α] {lo : Nat} {w w' : World} {bs bs' : List Nat} {cs : List Value} {a : α} (h : Own lo w bs cs a) (ht : Tch bs' w w') (hd : ∀ x ∈ bs, x ∉ bs') : Own lo w' bs cs a :=
 h.keep fun b hb => ht.block b (Rep.lt h.1 b hb) (hd b hb)
theorem Fr.setCell {w : World} {b : Nat} (h : Fr w b) (p : Addr) (v : Value) : Fr (w.setCell p v) b := by
 obtain ⟨c, e, h⟩ := h
 by_cases hp : b = p.block
 ·subst hp
  refine ⟨if p.spot.isSome then c else c.setIfInBounds p.off v, e, ?_⟩
  simp [World.setCell, Array.getElem?_modify, h]
 ·exact ⟨c, e, by rw [Below.heap_setCell _ _ _ _ hp]; exact h⟩
theorem Fr.frozen {w : World} {b : Nat} (h : Fr w b) (o : Nat) : w.frozen? ⟨b, o, none⟩ = false := by
 obtain ⟨c, e, h⟩ := h
 simp [World.frozen?, h]
theorem Fr.keep {w w' : World} {b : Nat} (h : Fr w b) (hk : w'.heap[b]? = w.heap[b]?) : Fr w' b := by
 obtain ⟨c, e, h⟩ := h
 exact ⟨c, e, hk.trans h⟩
theorem At.setCell {w : World} {b off : Nat} {cells : List Value} (h : At w b off cells) (j : Nat) (v : Value) (hj : j < cells.length) : At (w.setCell ⟨b, off + j, none⟩ v) b off (cells.set j v) := by
 intro i u hu
 rw [List.getElem?_set] at hu
 by_cases hij : j = i
 ·subst hij
  simp [hj] at hu
  subst hu
  exact World.cell?_setCell_same _ _ _ (h j _ (List.getElem?_eq_getElem hj))
 ·rw [if_neg hij] at hu
  rw [World.cell?_setCell_other _ _ _ _ (fun e => hij (by have := congrArg Addr.off e; simp only at this; omega))]
  exact h i u hu
theorem Elems.upd {α : Type} [Rep α] {w : World} : ∀ {xs : List α} {bss : List (List Nat)} {cells : List Value}, Elems w bss cells xs → ∀ i (h : i < xs.length), ∃ bi cs pre post, bss[i]? = some bi ∧ cells = pre ++ (cs ++ post) ∧ pre.length = i * size α ∧ pt w bi cs xs[i] ∧
  ∀ w' x' cs', (∀ k ∈ bss.flatten, k ∉ bi → w'.heap[k]? = w.heap[k]?) → bss.flatten.Nodup → pt w' bi cs' x' → Elems w' bss (pre ++ (cs' ++ post)) (xs.set i x') := by
 intro xs
 induction xs with
 | nil => intro bss cells _ i h; simp at h
 | cons x xs ih =>
  rintro (_ | ⟨bs, bss⟩) cells h i hi
  ·exact h.elim
  obtain ⟨cs, rest, rfl, hp, h2⟩ := h
  cases i with
  | zero =>
   refine ⟨bs, cs, [], rest, rfl, rfl, by simp, hp, fun w' x' cs' hk hn hp' => ⟨cs', rest, rfl, hp', h2.keep fun k hk' => ?_⟩⟩
   rw [List.flatten_cons] at hk hn
   exact hk k (List.mem_append_right _ hk') fun hm => (List.nodup_append.1 hn).2.2 k hm k hk' rfl
  | succ i =>
   obtain ⟨bi, cs1, pre, post, hb, he, hl, hp1, hu⟩ := ih h2 i (by simpa using hi)
   refine ⟨bi, cs1, cs ++ pre, post, by simpa using hb, by rw [he, List.append_assoc], ?_, by simpa using hp1, fun w' x' cs' hk hn hp' => ?_⟩
   ·rw [List.length_append, Rep.len hp, hl, Nat.add_mul]; omega
   ·rw [List.flatten_cons] at hk hn
    have hsub : ∀ k ∈ bi, k ∈ bss.flatten := fun k hk => List.mem_flatten.2 ⟨bi, List.mem_of_getElem? hb, hk⟩
    rw [List.append_assoc]
    exact ⟨cs, _, rfl, Rep.keep hp fun k hk' => hk k (List.mem_append_left _ hk') fun hm => (List.nodup_append.1 hn).2.2 k hk' k (hsub k hm) rfl,
     hu w' x' cs' (fun k hk' hn' => hk k (List.mem_append_right _ hk') hn') (List.nodup_append.1 hn).2.1 hp'⟩
theorem Own.upd {α : Type} [Rep α] {lo : Nat} {w : World} {bs : List Nat} {a : Option Addr} {len cap : Nat} {xs : List α} (h : Own lo w bs [.slice a len cap] xs) (i : Nat) (hi : i < xs.length) :
  ∃ b off cs bi, a = some ⟨b, off, none⟩ ∧ b ∈ bs ∧ b < w.heap.size ∧ Fr w b ∧ (∀ x ∈ bi, x ∈ bs ∧ x ≠ b) ∧ Own lo w bi cs xs[i] ∧ At w b (off + i * size α) cs ∧
   (∀ w' x', (∀ k ∈ bs, k ∉ bi → w'.heap[k]? = w.heap[k]?) → Own lo w' bi cs x' → Own lo w' bs [.slice a len cap] (xs.set i x')) ∧
   (∀ j v x', j < size α → pt w bi (cs.set j v) x' → Own lo (w.setCell ⟨b, off + i * size α + j, none⟩ v) bs [.slice a len cap] (xs.set i x')) := by
 obtain ⟨hp, hnd, hfr⟩ := h
 have hp := pt_slice.1 hp
 obtain ⟨hl1, hl2, hl3, ⟨rfl, _⟩ | ⟨hne, b, off, bss, cells, rfl, hlt, rfl, hE, hA⟩⟩ := hp
 ·simp at hi
 obtain ⟨bi, cs, pre, post, hbi, rfl, hpl, hpi, hu⟩ := hE.upd i hi
 have hsub : ∀ k ∈ bi, k ∈ bss.flatten := fun k hk => List.mem_flatten.2 ⟨bi, List.mem_of_getElem? hbi, hk⟩
 have hnd2 := List.nodup_cons.1 hnd
 have hbn : ∀ k ∈ bss.flatten, k ≠ b := fun k hk e => hnd2.1 (e ▸ hk)
 have hndi : bi.Nodup := by
  have : List.Sublist bi bss.flatten := List.sublist_flatten_of_mem (List.mem_of_getElem? hbi)
  exact this.nodup hnd2.2
 have hcl := Rep.len hpi
 have hAc : At w b (off + i * size α) cs := by
  have := (At.right hA).left
  rwa [hpl] at this
 refine ⟨b, off, cs, bi, rfl, by simp, hlt, (hfr b (by simp)).2, fun x hx => ⟨List.mem_cons_of_mem _ (hsub x hx), hbn x (hsub x hx)⟩, ⟨hpi, hndi, fun x hx => hfr x (List.mem_cons_of_mem _ (hsub x hx))⟩, hAc, ?_, ?_⟩
 ·intro w' x' hk hO
  have hbb := hk b (by simp) (fun hm => hbn b (hsub b hm) rfl)
  have hlt' : b < w'.heap.size := by
   rw [Array.getElem?_eq_getElem hlt] at hbb
   exact (Array.getElem?_eq_some_iff.1 hbb).1
  refine ⟨pt_slice.2 ⟨by simpa using hl1, hl2, hl3, .inr ⟨?_, b, off, bss, _, rfl, hlt', rfl, hu w' x' cs (fun k hk' hn => hk k (List.mem_cons_of_mem _ hk') hn) hnd2.2 hO.1, hA.keep hbb⟩⟩, hnd, fun k hk' => ⟨(hfr k hk').1, ?_⟩⟩
  ·intro e; rw [List.set_eq_nil_iff] at e; exact hne e
  ·by_cases hki : k ∈ bi
   ·exact (hO.2.2 k hki).2
   ·exact (hfr k hk').2.keep (hk k hk' hki)
 ·intro j v x' hj hp'
  have hk : ∀ k, k ≠ b → (w.setCell ⟨b, off + i * size α + j, none⟩ v).heap[k]? = w.heap[k]? := fun k hk => Below.heap_setCell _ _ _ _ hk
  refine ⟨pt_slice.2 ⟨by simpa using hl1, hl2, hl3, .inr ⟨?_, b, off, bss, pre ++ (cs.set j v ++ post), rfl, by simpa using hlt, rfl, ?_, ?_⟩⟩, hnd, fun k hk' => ⟨(hfr k hk').1, (hfr k hk').2.setCell _ _⟩⟩
  ·intro e; rw [List.set_eq_nil_iff] at e; exact hne e
  ·exact hu _ x' _ (fun k hk' _ => hk k (hbn k hk')) hnd2.2 (Rep.keep hp' fun k hk' => hk k (hbn k (hsub k hk')))
  ·have := hA.setCell (i * size α + j) v (by simp [hpl, hcl]; omega)
   rw [← Nat.add_assoc] at this
   rw [List.set_append_right _ _ (by omega), List.set_append_left _ _ (by omega)] at this
   rwa [hpl, show i * size α + j - i * size α = j by omega] at this
end Go.G6
namespace Go.G6
open Go.RowKit Rep
/-- The values that the laws lay into a result, cell after cell. -/
def mkL {α : Type} (f : Nat → α → α) (n : α → Nat) : Nat → List α → List α
 | _, [] => []
 | k, x :: xs => f k x :: mkL f n (k + n x) xs
def nL {α : Type} (n : α → Nat) (xs : List α) : Nat := (xs.map n).sum
class Mk (α : Type) where
 mkE : Nat → α → α
 nE : α → Nat
/-- The text of a number, behind the letter m. -/
def digitsOf (k : Nat) : List UInt8 := if _h : k = 0 then [] else digitsOf (k / 10) ++ [UInt8.ofNat (48 + k % 10)]
decreasing_by omega
def markText (k : Nat) : ByteArray := ⟨(109 :: (if k = 0 then [48] else digitsOf k)).toArray⟩
instance : Mk Int := ⟨fun k _ => k, fun _ => 1⟩
instance : Mk UInt8 := ⟨fun k _ => UInt8.ofNat k, fun _ => 1⟩
instance : Mk ByteArray := ⟨fun k _ => markText k, fun _ => 1⟩
instance {α : Type} [Mk α] : Mk (List α) := ⟨mkL Mk.mkE Mk.nE, nL Mk.nE⟩
theorem mkL_length {α : Type} (f : Nat → α → α) (n : α → Nat) : ∀ (k : Nat) (xs : List α), (mkL f n k xs).length = xs.length
 | _, [] => rfl
 | k, x :: xs => by simp [mkL, mkL_length f n _ xs]
theorem mkL_append {α : Type} (f : Nat → α → α) (n : α → Nat) : ∀ (k : Nat) (xs ys : List α), mkL f n k (xs ++ ys) = mkL f n k xs ++ mkL f n (k + nL n xs) ys
 | _, [], _ => by simp [mkL, nL]
 | k, x :: xs, ys => by
  simp only [List.cons_append, mkL, mkL_append f n _ xs ys, nL, List.map_cons, List.sum_cons, Nat.add_assoc]
theorem nL_append {α : Type} (n : α → Nat) (xs ys : List α) : nL n (xs ++ ys) = nL n xs + nL n ys := by simp [nL]
theorem nL_one {α : Type} (n : α → Nat) (x : α) : nL n [x] = n x := by simp [nL]
theorem nL_take_succ {α : Type} (n : α → Nat) (xs : List α) (k : Nat) (h : k < xs.length) : nL n (xs.take (k + 1)) = nL n (xs.take k) + n xs[k] := by
 rw [List.take_succ_eq_append_getElem h, nL_append, nL_one]
theorem nL_take_le {α : Type} (n : α → Nat) (xs : List α) (k : Nat) : nL n (xs.take k) ≤ nL n xs := by
 have := nL_append n (xs.take k) (xs.drop k)
 rw [List.take_append_drop] at this; omega
theorem nL_const {α : Type} (n : α → Nat) (xs : List α) (h : ∀ x, n x = 1) : nL n xs = xs.length := by
 induction xs with
 | nil => rfl
 | cons x xs ih => simp only [nL, List.map_cons, List.sum_cons, List.length_cons] at *; rw [ih, h]; omega
/-- A list of which the first k elements are marked. -/
def mkTo {α : Type} (f : Nat → α → α) (n : α → Nat) (s k : Nat) (xs : List α) : List α := mkL f n s (xs.take k) ++ xs.drop k
theorem mkTo_length {α : Type} (f : Nat → α → α) (n : α → Nat) (s k : Nat) (xs : List α) : (mkTo f n s k xs).length = xs.length := by
 simp [mkTo, mkL_length]; omega
theorem mkTo_zero {α : Type} (f : Nat → α → α) (n : α → Nat) (s : Nat) (xs : List α) : mkTo f n s 0 xs = xs := by simp [mkTo, mkL]
theorem mkTo_all {α : Type} (f : Nat → α → α) (n : α → Nat) (s : Nat) (xs : List α) : mkTo f n s xs.length xs = mkL f n s xs := by simp [mkTo]
theorem mkTo_get {α : Type} (f : Nat → α → α) (n : α → Nat) (s k : Nat) (xs : List α) (h : k < xs.length) : (mkTo f n s k xs)[k]'(by rw [mkTo_length]; exact h) = xs[k] := by
 simp only [mkTo]
 rw [List.getElem_append_right (by simp [mkL_length]; omega)]
 simp [mkL_length, Nat.min_eq_left (Nat.le_of_lt h)]
theorem mkTo_succ {α : Type} (f : Nat → α → α) (n : α → Nat) (s k : Nat) (xs : List α) (h : k < xs.length) : (mkTo f n s k xs).set k (f (s + nL n (xs.take k)) xs[k]) = mkTo f n s (k + 1) xs := by
 have e : (mkL f n s (xs.take k)).length = k := by simp [mkL_length]; omega
 simp only [mkTo]
 rw [List.set_append_right _ _ (by omega), e, Nat.sub_self, List.drop_eq_getElem_cons h, List.set_cons_zero, List.take_succ_eq_append_getElem h, mkL_append, List.append_assoc]
 rfl
theorem mkL_get {α : Type} (f : Nat → α → α) (n : α → Nat) (s k : Nat) (xs : List α) (h : k < xs.length) : (mkL f n s xs)[k]'(by rw [mkL_length]; exact h) = f (s + nL n (xs.take k)) xs[k] := by
 have e : mkL f n s xs = mkL f n s (xs.take k) ++ mkL f n (s + nL n (xs.take k)) (xs.drop k) := by rw [← mkL_append, List.take_append_drop]
 simp only [e]
 rw [List.getElem_append_right (by simp [mkL_length]; omega)]
 simp only [mkL_length, List.length_take, Nat.min_eq_left (Nat.le_of_lt h), Nat.sub_self]
 simp only [List.drop_eq_getElem_cons h, mkL, List.getElem_cons_zero]
/-- What is left of a measure. -/
def szr (left : Int) (n : Nat) : Int := if (n : Int) ≤ left then left - n else -1
theorem szr_pos {left : Int} {n : Nat} (h : (n : Int) ≤ left) : szr left n = left - n := if_pos h
theorem szr_neg {left : Int} {n : Nat} (h : left < (n : Int)) : szr left n = -1 := if_neg (Int.not_le.2 h)
/-- The measure of the laws. -/
class Cnt (α : Type) where
 cnt : α → Nat
instance : Cnt Int := ⟨fun _ => 0⟩
instance : Cnt UInt8 := ⟨fun _ => 0⟩
instance : Cnt Bool := ⟨fun _ => 0⟩
instance : Cnt ByteArray := ⟨fun s => s.size⟩
instance {α : Type} [Cnt α] : Cnt (List α) := ⟨fun xs => xs.length + nL Cnt.cnt xs⟩
theorem nL_zero {α : Type} (n : α → Nat) (xs : List α) (h : ∀ x, n x = 0) : nL n xs = 0 := by
 induction xs with
 | nil => rfl
 | cons x xs ih => simp only [nL, List.map_cons, List.sum_cons] at *; rw [ih, h]
theorem cnt_ints (xs : List Int) : Cnt.cnt xs = xs.length := by show xs.length + nL (Cnt.cnt (α := Int)) xs = _; rw [nL_zero (Cnt.cnt (α := Int)) xs fun _ => rfl]; rfl
theorem cnt_bytes (xs : List UInt8) : Cnt.cnt xs = xs.length := by show xs.length + nL (Cnt.cnt (α := UInt8)) xs = _; rw [nL_zero (Cnt.cnt (α := UInt8)) xs fun _ => rfl]; rfl
theorem cnt_list {α : Type} [Cnt α] (xs : List α) : Cnt.cnt xs = xs.length + nL Cnt.cnt xs := rfl
theorem Own.setScal {α : Type} [Scal α] {lo : Nat} {w : World} {bs : List Nat} {a : Option Addr} {len cap : Nat} {xs : List α} (h : Own lo w bs [.slice a len cap] xs) (i : Nat) (hi : i < xs.length) (x' : α) (hx : Scal.ok x') :
  ∃ b off, a = some ⟨b, off, none⟩ ∧ b ∈ bs ∧ w.cell? ⟨b, off + i, none⟩ = some (Scal.val xs[i]) ∧ w.frozen? ⟨b, off + i, none⟩ = false ∧
   Own lo (w.setCell ⟨b, off + i, none⟩ (Scal.val x')) bs [.slice a len cap] (xs.set i x') := by
 obtain ⟨b, off, cs, bi, rfl, hb, _, hf, _, hO, hA, _, hc⟩ := h.upd i hi
 obtain ⟨rfl, rfl, _⟩ := Scal.spt.1 hO.1
 have e : off + i * size α = off + i := by rw [Scal.size1 (α := α), Nat.mul_one]
 rw [e] at hA hc
 refine ⟨b, off, rfl, hb, by simpa using hA 0 _ rfl, hf.frozen _, ?_⟩
 simpa using hc 0 (Scal.val x') x' (by rw [Scal.size1 (α := α)]; decide) (Scal.spt.2 ⟨rfl, rfl, hx⟩)
theorem Own.lts {α : Type} [Rep α] {lo : Nat} {w : World} {bs : List Nat} {cs : List Value} {a : α} (h : Own lo w bs cs a) : ∀ b ∈ bs, lo ≤ b ∧ b < w.heap.size := fun b hb => ⟨(h.2.2 b hb).1, Rep.lt h.1 b hb⟩
end Go.G6
namespace Go.G6
open Go.RowKit Rep
def RetM {α : Type} [Rep α] (lo : Nat) (w : World) (bs : List Nat) (cs : List Value) (x : α) (k : Nat) (e : Ending) (w' : World) : Prop :=
 e = .returned (.int .i64 (k : Int)) ∧ Own lo w' bs cs x ∧ Tch bs w w'
/-- How far the marks may count. -/
def topK : Nat := 1152921504606846976
theorem u8_ofNat (k : Nat) : ((UInt8.ofNat k).toNat : Int) = (k : Int) % 256 := by
 rw [UInt8.toNat_ofNat']; omega
end Go.G6
namespace Go.G6
open Go.RowKit Rep
/-- What a box of the call's own holds. -/
def Box (w : World) (b : Nat) (c : Array Value) : Prop := ∀ o, w.cell? ⟨b, o, none⟩ = c[o]?
theorem Box.below {W w1 : World} {b : Nat} {c : Array Value} (hb : Below W.heap.size W w1) (hlt : b < W.heap.size) (h : Box W b c) : Box w1 b c := fun o => (hb.cell (p := ⟨b, o, none⟩) hlt).trans (h o)
theorem Box.tch {bs : List Nat} {W w1 : World} {b : Nat} {c : Array Value} (hT : Tch bs W w1) (hlt : b < W.heap.size) (hn : b ∉ bs) (h : Box W b c) : Box w1 b c := fun o => (hT.cell (p := ⟨b, o, none⟩) hlt hn).trans (h o)
theorem Box.alloc {w : World} {b : Nat} {c : Array Value} (h : Box w b c) (hlt : b < w.heap.size) (o : Obj) : Box (w.alloc o) b c := fun i => (World.cell?_alloc_lt w o ⟨b, i, none⟩ hlt).trans (h i)
theorem box_new (w : World) (c : Array Value) (t : TypeId) : Box (w.alloc (.cells c t)) w.heap.size c := fun i => World.cell?_alloc_new w c t i
end Go.G6
namespace Go.G6
open Go.RowKit Rep
theorem Slc.tch {α : Type} [Rep α] {w w' : World} {bs bs' : List Nat} {a : Option Addr} {len cap : Nat} {xs : List α} (h : Slc w bs a len cap xs) (ht : Tch bs' w w') (hd : ∀ x ∈ bs, x ∉ bs') : Slc w' bs a len cap xs :=
 pt_slice.1 (pt_tch (pt_slice.2 h) ht hd)
theorem Slc.lts {α : Type} [Rep α] {w : World} {bs : List Nat} {a : Option Addr} {len cap : Nat} {xs : List α} (h : Slc w bs a len cap xs) : ∀ b ∈ bs, 0 ≤ b ∧ b < w.heap.size := fun b hb => ⟨Nat.zero_le _, Rep.lt (pt_slice.2 h) b hb⟩
theorem Own.slc {α : Type} [Rep α] {lo : Nat} {w : World} {bs : List Nat} {a : Option Addr} {len cap : Nat} {xs : List α} (h : Own lo w bs [.slice a len cap] xs) : Slc w bs a len cap xs := pt_slice.1 h.1
theorem keep_box {w5 W W' : World} {b : Nat} {c : Array Value} (hb : Below W.heap.size W W') (h1 : Below w5.heap.size w5 W) (hA : ∀ o, W.cell? ⟨b, o, none⟩ = c[o]?) (l1 : b < w5.heap.size) :
  ∀ o, W'.cell? ⟨b, o, none⟩ = c[o]? := Box.below hb (Nat.lt_of_lt_of_le l1 h1.size) hA
end Go.G6
