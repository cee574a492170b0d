/- How much there is to mark in a store; how the laws take its contracts. -/
import Derived.Test.YtdjcjilipgpnmaaGreatKAddD
import Derived.Test.YtdjcjilipgpnmaaGreatKHelpM
set_option linter.unusedSimpArgs false
set_option linter.unusedVariables false
namespace Go.G6
open Go Go.RowKit Rep
theorem nL_le2 {α : Type} (n m : α → Nat) (c : Nat) (xs : List α) (h : ∀ x ∈ xs, n x ≤ c * (m x + 1)) : nL n xs ≤ c * (xs.length + nL m xs) := by
 induction xs with
 | nil => simp [nL]
 | cons x xs ih =>
  have h1 := h x (by simp)
  have h2 := ih fun y hy => h y (by simp [hy])
  simp only [nL, List.map_cons, List.sum_cons, List.length_cons] at *
  simp only [Nat.mul_add] at *
  omega
theorem nL_leC {α : Type} (n : α → Nat) (c : Nat) (xs : List α) (h : ∀ x ∈ xs, n x ≤ c) : nL n xs ≤ xs.length * c := by
 induction xs with
 | nil => simp [nL]
 | cons x xs ih =>
  have h1 := h x (by simp)
  have h2 := ih fun y hy => h y (by simp [hy])
  simp only [nL, List.map_cons, List.sum_cons, List.length_cons] at *
  rw [Nat.add_mul]
  omega
theorem nkv_le_Disk (d : DiskD) : d.nkv ≤ 4 * Cnt.cnt d := by
 have e1 : Mk.nE d.Nodes ≤ 4 * Cnt.cnt d.Nodes := nL_le2 _ _ 4 _ fun x _ => by
  have h1 := nE_bytes x.Body; have h2 := nE_bytes x.Safe
  show 1 + Mk.nE x.Body + Mk.nE x.Safe ≤ 4 * (Cnt.cnt x.Body + Cnt.cnt x.Safe + 1)
  omega
 have e2 : Mk.nE d.Kept ≤ 4 * Cnt.cnt d.Kept := nL_le2 _ _ 4 _ fun x _ => by
  show 1 + 1 ≤ 4 * (_ + 1)
  omega
 have e3 : Mk.nE d.Turns ≤ 4 * Cnt.cnt d.Turns := nL_le2 _ _ 4 _ fun x _ => by
  show 1 + 1 + 1 + 1 ≤ 4 * (_ + 1)
  omega
 show Mk.nE d.Nodes + Mk.nE d.Kept + Mk.nE d.Turns ≤ 4 * (Cnt.cnt d.Nodes + Cnt.cnt d.Kept + Cnt.cnt d.Turns)
 omega
theorem nkv_le_Store (d : StoreD) : d.nkv ≤ 4 * Cnt.cnt d := by
 have h := nkv_le_Disk d.Disk
 have e2 : Mk.nE d.Ents ≤ 4 * Cnt.cnt d.Ents := nL_le2 _ _ 4 _ fun x _ => by
  show 1 + 1 ≤ 4 * (_ + 1)
  omega
 show d.Disk.nkv + Mk.nE d.Ents ≤ 4 * (Cnt.cnt d.Disk + Cnt.cnt d.Ents)
 omega
theorem small_of_cnt {s : StoreD} (h : Cnt.cnt s ≤ 1048576) : Small s.Disk ∧ s.Ents.length ≤ 1048576 := by
 have h : Cnt.cnt s.Disk.Nodes + Cnt.cnt s.Disk.Kept + Cnt.cnt s.Disk.Turns + Cnt.cnt s.Ents ≤ 1048576 := h
 have h1 := cnt_list s.Disk.Nodes; have h2 := cnt_list s.Disk.Kept; have h3 := cnt_list s.Disk.Turns; have h4 := cnt_list s.Ents
 refine ⟨⟨by omega, by omega, by omega, fun n hn => ?_⟩, by omega⟩
 obtain ⟨k, hk, rfl⟩ := List.getElem_of_mem hn
 have h5 := nL_mem_le Cnt.cnt s.Disk.Nodes k hk
 have h6 : Cnt.cnt s.Disk.Nodes[k] = Cnt.cnt s.Disk.Nodes[k].Body + Cnt.cnt s.Disk.Nodes[k].Safe := rfl
 rw [cnt_bytes, cnt_bytes] at h6
 omega
theorem store_top {s : StoreD} (h : Small s.Disk) (hn : s.Ents.length ≤ 1048577) : 1 + s.nkv ≤ topK := by
 have e1 : Mk.nE s.Disk.Nodes ≤ s.Disk.Nodes.length * 33554433 := nL_leC _ _ _ fun x hx => by
  have h1 := h.body x hx
  have h2 := nE_bytes x.Body; have h3 := nE_bytes x.Safe
  rw [cnt_bytes] at h2 h3
  show 1 + Mk.nE x.Body + Mk.nE x.Safe ≤ _
  omega
 have e2 : Mk.nE s.Disk.Kept ≤ s.Disk.Kept.length * 2 := nL_leC _ _ _ fun x _ => Nat.le_refl _
 have e3 : Mk.nE s.Disk.Turns ≤ s.Disk.Turns.length * 4 := nL_leC _ _ _ fun x _ => Nat.le_refl _
 have e4 : Mk.nE s.Ents ≤ s.Ents.length * 2 := nL_leC _ _ _ fun x _ => Nat.le_refl _
 have h1 := h.nodes; have h2 := h.kept; have h3 := h.turns
 unfold topK
 show 1 + (Mk.nE s.Disk.Nodes + Mk.nE s.Disk.Kept + Mk.nE s.Disk.Turns + Mk.nE s.Ents) ≤ _
 have : s.Disk.Nodes.length * 33554433 ≤ 1048576 * 33554433 := Nat.mul_le_mul_right _ h1
 omega
/-- A store of the call's own, and a number, as the laws take them. -/
def RetSX (w : World) (d : StoreD) (n : Int) (e : Ending) (w' : World) : Prop :=
 ∃ (cs : List Value) (bs : List Nat), e = .returned (.tuple #[.agg cs.toArray, .int .i64 n]) ∧ Own w.heap.size w' bs cs d ∧ Below w.heap.size w w'
theorem RetSI.x {eN eL eT eB eE : TypeId} {w : World} {r : StoreD × Int} {e : Ending} {w' : World} (h : RetSI eN eL eT eB eE w r e w') : RetSX w r.1 r.2 e w' := by
 obtain ⟨v3, v4, v5, vE, B3, B4, B5, BE, rfl, hF, hb⟩ := h
 obtain ⟨bs, hO⟩ := hF.own
 exact ⟨_, bs, rfl, hO, hb⟩
end Go.G6
