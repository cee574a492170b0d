/- Nodes whose bytes are rows of their own. -/
import Derived.Test.YtdjcjilipgpnmaaGreatKOpC
import Derived.Test.YtdjcjilipgpnmaaGreatKText
set_option linter.unusedSimpArgs false
set_option linter.unusedVariables false
namespace Go.G6
open Go Go.RowKit Rep
structure NodeF (e : TypeId) where
 Id : Int
 Body : List UInt8
 Safe : List UInt8
def NF (e : TypeId) (n : NodeD) : NodeF e := ⟨n.Id, n.Body, n.Safe⟩
def nodePt (e : TypeId) (w : World) (bs : List Nat) (cs : List Value) (p : NodeF e) : Prop :=
 ∃ v1 v2 b1 b2, bs = b1 ++ b2 ∧ cs = [.int .i64 p.Id, v1, v2] ∧ I64 p.Id ∧ OwnL 0 w e v1 b1 p.Body ∧ OwnL 0 w e v2 b2 p.Safe
instance (e : TypeId) : Rep (NodeF e) where
 size := 3
 pos := by decide
 pt := nodePt e
 len := by rintro w bs cs p ⟨v1, v2, b1, b2, rfl, rfl, _⟩; rfl
 one := by
  rintro w bs cs p ⟨v1, v2, b1, b2, rfl, rfl, _, h1, h2⟩ u hu
  obtain ⟨a, c, rfl⟩ := h1.slice
  obtain ⟨a', c', rfl⟩ := h2.slice
  simp at hu; rcases hu with rfl | rfl | rfl <;> rfl
 lt := by
  rintro w bs cs p ⟨v1, v2, b1, b2, rfl, rfl, _, h1, h2⟩ b hb
  rcases List.mem_append.1 hb with hb | hb
  ·exact (h1.lts b hb).2
  ·exact (h2.lts b hb).2
 keep := by
  rintro w w' bs cs p ⟨v1, v2, b1, b2, rfl, rfl, hi, h1, h2⟩ hk
  exact ⟨v1, v2, b1, b2, rfl, rfl, hi, h1.keep fun b hb => hk b (List.mem_append_left _ hb), h2.keep fun b hb => hk b (List.mem_append_right _ hb)⟩
theorem OwnL.nodup {α : Type} [Rep α] {lo : Nat} {w : World} {e : TypeId} {v : Value} {bs : List Nat} {xs : List α} (h : OwnL lo w e v bs xs) : bs.Nodup := by
 obtain ⟨_, _, _, _, _, hn, _⟩ := h; exact hn
theorem OwnL.fr {α : Type} [Rep α] {lo : Nat} {w : World} {e : TypeId} {v : Value} {bs : List Nat} {xs : List α} (h : OwnL lo w e v bs xs) : ∀ b ∈ bs, Fr w b := by
 obtain ⟨_, _, _, _, _, _, hf⟩ := h; exact fun b hb => (hf b hb).2
theorem OwnL.raise {α : Type} [Rep α] {lo lo' : Nat} {w : World} {e : TypeId} {v : Value} {bs : List Nat} {xs : List α} (h : OwnL lo w e v bs xs) (hl : ∀ b ∈ bs, lo' ≤ b) : OwnL lo' w e v bs xs := by
 obtain ⟨cells, bss, hR, hE, rfl, hn, hf⟩ := h
 refine ⟨cells, bss, ⟨hR.1, ?_⟩, hE, rfl, hn, fun b hb => ⟨hl b hb, (hf b hb).2⟩⟩
 rcases hR.2 with h0 | ⟨g, cap, cur, rfl, hg, rest⟩
 ·exact .inl h0
 ·exact .inr ⟨g, cap, cur, rfl, hl g (by simp [Value.ownBlock]), rest⟩
theorem nf_mk {e : TypeId} {w : World} {id : Int} {body safe : List UInt8} {v1 v2 : Value} {b1 b2 : List Nat} (hi : I64 id) (h1 : OwnL 0 w e v1 b1 body) (h2 : OwnL 0 w e v2 b2 safe) : pt w (b1 ++ b2) [.int .i64 id, v1, v2] (⟨id, body, safe⟩ : NodeF e) := ⟨v1, v2, b1, b2, rfl, rfl, hi, h1, h2⟩
theorem nf_own {e : TypeId} {lo : Nat} {w : World} {id : Int} {body safe : List UInt8} {v1 v2 : Value} {b1 b2 : List Nat} (hi : I64 id) (h1 : OwnL lo w e v1 b1 body) (h2 : OwnL lo w e v2 b2 safe) (hd : ∀ x ∈ b1, x ∉ b2) : Own lo w (b1 ++ b2) [.int .i64 id, v1, v2] (⟨id, body, safe⟩ : NodeF e) :=
 ⟨nf_mk hi (h1.mono (Nat.zero_le _)) (h2.mono (Nat.zero_le _)), nodup2 h1.nodup h2.nodup hd, fun b hb => by
  rcases List.mem_append.1 hb with hb | hb
  ·exact ⟨(h1.lts b hb).1, h1.fr b hb⟩
  ·exact ⟨(h2.lts b hb).1, h2.fr b hb⟩⟩
theorem nf_open {e : TypeId} {lo : Nat} {w : World} {bs : List Nat} {cs : List Value} {p : NodeF e} (h : Own lo w bs cs p) : ∃ v1 v2 b1 b2, bs = b1 ++ b2 ∧ cs = [.int .i64 p.Id, v1, v2] ∧ I64 p.Id ∧ OwnL lo w e v1 b1 p.Body ∧ OwnL lo w e v2 b2 p.Safe ∧ ∀ x ∈ b1, x ∉ b2 := by
 obtain ⟨⟨v1, v2, b1, b2, rfl, rfl, hi, h1, h2⟩, hn, hf⟩ := h
 have hn1 := List.nodup_append.1 hn
 exact ⟨v1, v2, b1, b2, rfl, rfl, hi, h1.raise fun b hb => (hf b (List.mem_append_left _ hb)).1, h2.raise fun b hb => (hf b (List.mem_append_right _ hb)).1, fun x hx hm => hn1.2.2 x hx x hm rfl⟩
theorem nf_forget {e : TypeId} {w : World} {bs : List Nat} {cs : List Value} {p : NodeD} (h : pt w bs cs (NF e p)) (hn : bs.Nodup) : ∃ bs', pt w bs' cs p ∧ bs'.Nodup ∧ ∀ b ∈ bs', b ∈ bs := by
 obtain ⟨v1, v2, b1, b2, rfl, rfl, hi, h1, h2⟩ := h
 obtain ⟨a1, c1, rfl⟩ := h1.slice
 obtain ⟨a2, c2, rfl⟩ := h2.slice
 obtain ⟨b1', m1, o1⟩ := h1.own
 obtain ⟨b2', m2, o2⟩ := h2.own
 have hn1 := List.nodup_append.1 hn
 refine ⟨b1' ++ b2', mk_Node (d := p) hi (pt_slice.1 o1.1) (pt_slice.1 o2.1), nodup2 o1.2.1 o2.2.1 (fun x hx hm => hn1.2.2 x (m1 x hx) x (m2 x hm) rfl), fun b hb => ?_⟩
 rcases List.mem_append.1 hb with hb | hb
 ·exact List.mem_append_left _ (m1 b hb)
 ·exact List.mem_append_right _ (m2 b hb)
theorem elems_nf {e : TypeId} {w : World} : ∀ {l : List NodeD} {bss : List (List Nat)} {cells : List Value}, Elems w bss cells (l.map (NF e)) → bss.flatten.Nodup → ∃ bss', Elems w bss' cells l ∧ bss'.flatten.Nodup ∧ ∀ b ∈ bss'.flatten, b ∈ bss.flatten
 | [], [], _, h, _ => ⟨[], h, List.nodup_nil, by simp⟩
 | [], _ :: _, _, h, _ => h.elim
 | p :: l, [], _, h, _ => h.elim
 | p :: l, bs :: bss, _, ⟨cs, rest, rfl, hp, h2⟩, hn => by
  rw [List.flatten_cons] at hn
  have hn1 := List.nodup_append.1 hn
  obtain ⟨bs', q1, q2, q3⟩ := nf_forget hp hn1.1
  obtain ⟨bss', r1, r2, r3⟩ := elems_nf h2 hn1.2.1
  refine ⟨bs' :: bss', ⟨cs, rest, rfl, q1, r1⟩, ?_, ?_⟩
  ·rw [List.flatten_cons]
   exact List.nodup_append.2 ⟨q2, r2, fun a ha b hb => hn1.2.2 a (q3 a ha) b (r3 b hb)⟩
  ·intro b hb
   rw [List.flatten_cons] at hb ⊢
   rcases List.mem_append.1 hb with h9 | h9
   ·exact List.mem_append_left _ (q3 b h9)
   ·exact List.mem_append_right _ (r3 b h9)
theorem OwnL.forgetN {e t : TypeId} {lo : Nat} {w : World} {v : Value} {bs : List Nat} {l : List NodeD} (h : OwnL lo w e v bs (l.map (NF t))) : ∃ bs', OwnL lo w e v bs' l ∧ ∀ b ∈ bs', b ∈ bs := by
 obtain ⟨cells, bss, hR, hE, rfl, hn, hf⟩ := h
 have hn1 := List.nodup_append.1 hn
 obtain ⟨bss', r1, r2, r3⟩ := elems_nf hE hn1.2.1
 refine ⟨v.ownBlock.toList ++ bss'.flatten, ⟨cells, bss', ?_, r1, rfl, List.nodup_append.2 ⟨hn1.1, r2, fun a ha b hb => hn1.2.2 a ha b (r3 b hb)⟩, fun b hb => hf b ?_⟩, fun b hb => ?_⟩
 ·rw [List.length_map] at hR; exact hR
 all_goals
  rcases List.mem_append.1 hb with h9 | h9
  ·exact List.mem_append_left _ h9
  ·exact List.mem_append_right _ (r3 b h9)
/-- A disk of the call's own: its three lists, each a row of its own. (eN eL eT eB: the types of nodes, links, turns, bytes.) -/
structure DiskF (eN eL eT eB : TypeId) (lo : Nat) (w : World) (d : DiskD) (v3 v4 v5 : Value) (B3 B4 B5 : List Nat) : Prop where
 i0 : I64 d.Room
 i1 : I64 d.Fuse
 i2 : I64 d.Next
 n : OwnL lo w eN v3 B3 (d.Nodes.map (NF eB))
 k : OwnL lo w eL v4 B4 d.Kept
 t : OwnL lo w eT v5 B5 d.Turns
 d34 : ∀ x ∈ B3, x ∉ B4
 d35 : ∀ x ∈ B3, x ∉ B5
 d45 : ∀ x ∈ B4, x ∉ B5
theorem DiskF.keep {eN eL eT eB : TypeId} {lo : Nat} {w w' : World} {d : DiskD} {v3 v4 v5 : Value} {B3 B4 B5 : List Nat} (h : DiskF eN eL eT eB lo w d v3 v4 v5 B3 B4 B5) (hk : ∀ b, b ∈ B3 ∨ b ∈ B4 ∨ b ∈ B5 → w'.heap[b]? = w.heap[b]?) : DiskF eN eL eT eB lo w' d v3 v4 v5 B3 B4 B5 :=
 ⟨h.i0, h.i1, h.i2, h.n.keep fun b hb => hk b (.inl hb), h.k.keep fun b hb => hk b (.inr (.inl hb)), h.t.keep fun b hb => hk b (.inr (.inr hb)), h.d34, h.d35, h.d45⟩
theorem DiskF.lts {eN eL eT eB : TypeId} {lo : Nat} {w : World} {d : DiskD} {v3 v4 v5 : Value} {B3 B4 B5 : List Nat} (h : DiskF eN eL eT eB lo w d v3 v4 v5 B3 B4 B5) : ∀ b, b ∈ B3 ∨ b ∈ B4 ∨ b ∈ B5 → lo ≤ b ∧ b < w.heap.size := by
 rintro b (hb | hb | hb)
 ·exact h.n.lts b hb
 ·exact h.k.lts b hb
 ·exact h.t.lts b hb
theorem DiskF.grow {eN eL eT eB : TypeId} {lo : Nat} {w w' : World} {d : DiskD} {v3 v4 v5 : Value} {B3 B4 B5 : List Nat} (h : DiskF eN eL eT eB lo w d v3 v4 v5 B3 B4 B5) (hb : Below w.heap.size w w') : DiskF eN eL eT eB lo w' d v3 v4 v5 B3 B4 B5 :=
 h.keep fun b hb' => hb.block b (h.lts b hb').2
theorem DiskF.mono {eN eL eT eB : TypeId} {lo lo' : Nat} {w : World} {d : DiskD} {v3 v4 v5 : Value} {B3 B4 B5 : List Nat} (h : DiskF eN eL eT eB lo w d v3 v4 v5 B3 B4 B5) (hl : lo' ≤ lo) : DiskF eN eL eT eB lo' w d v3 v4 v5 B3 B4 B5 :=
 ⟨h.i0, h.i1, h.i2, h.n.mono hl, h.k.mono hl, h.t.mono hl, h.d34, h.d35, h.d45⟩
theorem DiskF.own {eN eL eT eB : TypeId} {lo : Nat} {w : World} {d : DiskD} {v3 v4 v5 : Value} {B3 B4 B5 : List Nat} (h : DiskF eN eL eT eB lo w d v3 v4 v5 B3 B4 B5) :
  ∃ bs, Own lo w bs [.int .i64 d.Room, .int .i64 d.Fuse, .int .i64 d.Next, v3, v4, v5] d ∧ ∀ b ∈ bs, b ∈ B3 ∨ b ∈ B4 ∨ b ∈ B5 := by
 obtain ⟨b3, hn, m3⟩ := h.n.forgetN
 obtain ⟨a3, c3, rfl⟩ := hn.slice
 obtain ⟨a4, c4, rfl⟩ := h.k.slice
 obtain ⟨a5, c5, rfl⟩ := h.t.slice
 obtain ⟨b3', q3, o3⟩ := hn.own
 obtain ⟨b4', q4, o4⟩ := h.k.own
 obtain ⟨b5', q5, o5⟩ := h.t.own
 refine ⟨b3' ++ (b4' ++ b5'), own_Disk h.i0 h.i1 h.i2 o3 o4 o5 (fun x hx hm => h.d34 x (m3 x (q3 x hx)) (q4 x hm)) (fun x hx hm => h.d35 x (m3 x (q3 x hx)) (q5 x hm)) (fun x hx hm => h.d45 x (q4 x hx) (q5 x hm)), fun b hb => ?_⟩
 rcases List.mem_append.1 hb with hb | hb
 ·exact .inl (m3 b (q3 b hb))
 ·rcases List.mem_append.1 hb with hb | hb
  ·exact .inr (.inl (q4 b hb))
  ·exact .inr (.inr (q5 b hb))
/-- What a copy of a disk hands back. -/
def RetDF (eN eL eT eB : TypeId) (w : World) (d : DiskD) (e : Ending) (w' : World) : Prop :=
 ∃ v3 v4 v5 B3 B4 B5, e = .returned (.agg #[.int .i64 d.Room, .int .i64 d.Fuse, .int .i64 d.Next, v3, v4, v5]) ∧ DiskF eN eL eT eB w.heap.size w' d v3 v4 v5 B3 B4 B5 ∧ Below w.heap.size w w'
/-- .. with a number beside it. -/
def RetDI (eN eL eT eB : TypeId) (w : World) (d : DiskD) (n : Int) (e : Ending) (w' : World) : Prop :=
 ∃ v3 v4 v5 B3 B4 B5, e = .returned (.tuple #[.agg #[.int .i64 d.Room, .int .i64 d.Fuse, .int .i64 d.Next, v3, v4, v5], .int .i64 n]) ∧ DiskF eN eL eT eB w.heap.size w' d v3 v4 v5 B3 B4 B5 ∧ Below w.heap.size w w'
end Go.G6
namespace Go.Proofs.YtdjcjilipgpnmaaGreat
open Go.RowKit Go.G6
theorem info_NodeF : (Tryz.prog.info? 104).map (fun i => (i.zero, i.size, i.bytes)) = some (some (.agg #[.int .i64 0, .slice none 0 0, .slice none 0 0]), 3, 56) := by kernel_rfl
theorem info_TurnF : (Tryz.prog.info? 106).map (fun i => (i.zero, i.size, i.bytes)) = some (some (.agg #[.int .i64 0, .string ByteArray.empty, .string ByteArray.empty, .int .i64 0]), 4, 48) := by kernel_rfl
end Go.Proofs.YtdjcjilipgpnmaaGreat
