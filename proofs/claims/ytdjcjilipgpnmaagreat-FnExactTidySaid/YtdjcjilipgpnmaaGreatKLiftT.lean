/- The types of this translation, readable. -/
import Derived.Test.YtdjcjilipgpnmaaGreatKBase
import Derived.Test.YtdjcjilipgpnmaaGreatProg
import Derived.BigQuiet
import Derived.Deep.RegionHeld3
import Derived.WalkLawsBesides
import Derived.ProofKit
import Derived.ChangeArms
import Derived.Deep.Slices
import Derived.Test.YtdjcjilipgpnmaaGreatRows
section
set_option linter.unusedSimpArgs false
set_option linter.unusedVariables false
namespace Go.G6
open Go.RowKit Rep
@[reducible] def Rep.via {α β : Type} [Rep β] (f : α → β) : Rep α where
 size := Rep.size β
 pos := Rep.pos
 pt w bs cs a := Rep.pt w bs cs (f a)
 len h := Rep.len (α := β) h
 one h := Rep.one (α := β) h
 lt h := Rep.lt (α := β) h
 keep h hk := Rep.keep (α := β) h hk
theorem pt_cons {α β : Type} [Rep α] [Rep β] {w : World} {b1 b2 : List Nat} {c1 c2 : List Value} {x : α} {y : β} (h1 : pt w b1 c1 x) (h2 : pt w b2 c2 y) : pt w (b1 ++ b2) (c1 ++ c2) (x, y) := ⟨b1, b2, c1, c2, rfl, rfl, h1, h2⟩
theorem pt_i {w : World} {n : Int} (h : I64 n) : pt w [] [.int .i64 n] n := ⟨rfl, rfl, h⟩
theorem pt_s {w : World} {n : ByteArray} (h : n.size ≤ maxLen) : pt w [] [.string n] n := ⟨rfl, rfl, h⟩
theorem nodup2 {α : Type} {a b : List α} (ha : a.Nodup) (hb : b.Nodup) (h : ∀ x ∈ a, x ∉ b) : (a ++ b).Nodup := List.nodup_append.2 ⟨ha, hb, fun x hx _ hy e => h x hx (e ▸ hy)⟩
structure EntryD where
 Num : Int
 Text : ByteArray
@[reducible] def EntryD.tup (d : EntryD) : Int × ByteArray := (d.Num, d.Text)
instance : Rep EntryD := Rep.via EntryD.tup
instance : Cnt EntryD := ⟨fun d => Cnt.cnt d.Text⟩
instance : Mk EntryD := ⟨fun s _ => { Num := ((s : Nat) : Int), Text := markText (s + 1) }, fun _ => 1 + 1⟩
theorem open_Entry {w : World} {bs : List Nat} {cs : List Value} {d : EntryD} (h : pt w bs cs d) : bs = [] ∧ cs = [.int .i64 d.Num, .string d.Text] ∧ I64 d.Num ∧ d.Text.size ≤ maxLen := by
 obtain ⟨_, _, _, _, rfl, rfl, ⟨rfl, rfl, h0⟩, ⟨rfl, rfl, h1⟩⟩ := h
 exact ⟨rfl, rfl, h0, h1⟩
theorem mk_Entry {w : World} {d : EntryD}  (h0 : I64 d.Num) (h1 : d.Text.size ≤ maxLen) : pt w ([]) [.int .i64 d.Num, .string d.Text] d := by
 have h : pt w _ _ d.tup := (pt_cons (pt_i h0) (pt_s h1))
 first | exact h | (simp only [List.nil_append, List.append_nil, List.cons_append, List.append_assoc] at h; exact h)
theorem own_Entry {lo : Nat} {w : World} {d : EntryD}  (h0 : I64 d.Num) (h1 : d.Text.size ≤ maxLen)  : Own lo w ([]) [.int .i64 d.Num, .string d.Text] d := by
 exact ⟨mk_Entry h0 h1, List.nodup_nil, fun b hb => by cases hb⟩
structure NodeD where
 Id : Int
 Body : List UInt8
 Safe : List UInt8
@[reducible] def NodeD.tup (d : NodeD) : Int × (List UInt8) × (List UInt8) := (d.Id, d.Body, d.Safe)
instance : Rep NodeD := Rep.via NodeD.tup
instance : Cnt NodeD := ⟨fun d => Cnt.cnt d.Body + Cnt.cnt d.Safe⟩
instance : Mk NodeD := ⟨fun s d => { Id := ((s : Nat) : Int), Body := Mk.mkE (s + 1) d.Body, Safe := Mk.mkE (s + 1 + Mk.nE d.Body) d.Safe }, fun d => 1 + Mk.nE d.Body + Mk.nE d.Safe⟩
theorem open_Node {w : World} {bs : List Nat} {cs : List Value} {d : NodeD} (h : pt w bs cs d) : ∃ (b1 b2 : List Nat) (a1 : Option Addr) (l1 k1 : Nat) (a2 : Option Addr) (l2 k2 : Nat), bs = b1 ++ b2 ∧ cs = [.int .i64 d.Id, .slice a1 l1 k1, .slice a2 l2 k2] ∧ I64 d.Id ∧ Slc w b1 a1 l1 k1 d.Body ∧ Slc w b2 a2 l2 k2 d.Safe := by
 obtain ⟨_, _, _, _, rfl, rfl, ⟨rfl, rfl, h0⟩, ⟨_, _, _, _, rfl, rfl, ⟨a1, l1, k1, rfl, h1⟩, ⟨a2, l2, k2, rfl, h2⟩⟩⟩ := h
 exact ⟨_, _, a1, l1, k1, a2, l2, k2, by simp only [List.nil_append, List.append_nil, List.append_assoc], rfl, h0, h1, h2⟩
theorem mk_Node {w : World} {d : NodeD} {b1 : List Nat} {a1 : Option Addr} {l1 k1 : Nat} {b2 : List Nat} {a2 : Option Addr} {l2 k2 : Nat} (h0 : I64 d.Id) (h1 : Slc w b1 a1 l1 k1 d.Body) (h2 : Slc w b2 a2 l2 k2 d.Safe) : pt w (b1 ++ b2) [.int .i64 d.Id, .slice a1 l1 k1, .slice a2 l2 k2] d := by
 have h : pt w _ _ d.tup := (pt_cons (pt_i h0) (pt_cons (pt_slice.2 h1) (pt_slice.2 h2)))
 first | exact h | (simp only [List.nil_append, List.append_nil, List.cons_append, List.append_assoc] at h; exact h)
theorem own_Node {lo : Nat} {w : World} {d : NodeD} {b1 : List Nat} {a1 : Option Addr} {l1 k1 : Nat} {b2 : List Nat} {a2 : Option Addr} {l2 k2 : Nat} (h0 : I64 d.Id) (h1 : Own lo w b1 [.slice a1 l1 k1] d.Body) (h2 : Own lo w b2 [.slice a2 l2 k2] d.Safe) (e12 : ∀ x ∈ b1, x ∉ b2) : Own lo w (b1 ++ b2) [.int .i64 d.Id, .slice a1 l1 k1, .slice a2 l2 k2] d := by
 exact ⟨mk_Node h0 (pt_slice.1 h1.1) (pt_slice.1 h2.1), nodup2 h1.2.1 (h2.2.1) (fun x hx hm => e12 x hx hm), fun b hb => (List.mem_append.1 hb).elim (fun hb => h1.2.2 b hb) (fun hb => h2.2.2 b hb)⟩
theorem parts_Node {lo : Nat} {w : World} {d : NodeD} {cs : List Value} {b1 : List Nat} {a1 : Option Addr} {l1 k1 : Nat} {b2 : List Nat} {a2 : Option Addr} {l2 k2 : Nat} (h : Own lo w (b1 ++ b2) cs d) (h1 : Slc w b1 a1 l1 k1 d.Body) (h2 : Slc w b2 a2 l2 k2 d.Safe) : Own lo w b1 [.slice a1 l1 k1] d.Body ∧ Own lo w b2 [.slice a2 l2 k2] d.Safe ∧ (∀ x ∈ b1, x ∉ b2) := by
 obtain ⟨_, hn, hf⟩ := h
 have n0 := List.nodup_append.1 hn
 exact ⟨⟨pt_slice.2 h1, n0.1, fun b hb => hf b (List.mem_append_left _ hb)⟩, ⟨pt_slice.2 h2, n0.2.1, fun b hb => hf b (List.mem_append_right _ (hb))⟩, fun x hx hm => n0.2.2 x hx x (hm) rfl⟩
structure LinkD where
 Name : ByteArray
 Id : Int
@[reducible] def LinkD.tup (d : LinkD) : ByteArray × Int := (d.Name, d.Id)
instance : Rep LinkD := Rep.via LinkD.tup
instance : Cnt LinkD := ⟨fun d => Cnt.cnt d.Name⟩
instance : Mk LinkD := ⟨fun s _ => { Name := markText (s), Id := ((s + 1 : Nat) : Int) }, fun _ => 1 + 1⟩
theorem open_Link {w : World} {bs : List Nat} {cs : List Value} {d : LinkD} (h : pt w bs cs d) : bs = [] ∧ cs = [.string d.Name, .int .i64 d.Id] ∧ d.Name.size ≤ maxLen ∧ I64 d.Id := by
 obtain ⟨_, _, _, _, rfl, rfl, ⟨rfl, rfl, h0⟩, ⟨rfl, rfl, h1⟩⟩ := h
 exact ⟨rfl, rfl, h0, h1⟩
theorem mk_Link {w : World} {d : LinkD}  (h0 : d.Name.size ≤ maxLen) (h1 : I64 d.Id) : pt w ([]) [.string d.Name, .int .i64 d.Id] d := by
 have h : pt w _ _ d.tup := (pt_cons (pt_s h0) (pt_i h1))
 first | exact h | (simp only [List.nil_append, List.append_nil, List.cons_append, List.append_assoc] at h; exact h)
theorem own_Link {lo : Nat} {w : World} {d : LinkD}  (h0 : d.Name.size ≤ maxLen) (h1 : I64 d.Id)  : Own lo w ([]) [.string d.Name, .int .i64 d.Id] d := by
 exact ⟨mk_Link h0 h1, List.nodup_nil, fun b hb => by cases hb⟩
structure TurnD where
 Kind : Int
 Name : ByteArray
 To : ByteArray
 Id : Int
@[reducible] def TurnD.tup (d : TurnD) : Int × ByteArray × ByteArray × Int := (d.Kind, d.Name, d.To, d.Id)
instance : Rep TurnD := Rep.via TurnD.tup
instance : Cnt TurnD := ⟨fun d => Cnt.cnt d.Name + Cnt.cnt d.To⟩
instance : Mk TurnD := ⟨fun s _ => { Kind := ((s : Nat) : Int), Name := markText (s + 1), To := markText (s + 1 + 1), Id := ((s + 1 + 1 + 1 : Nat) : Int) }, fun _ => 1 + 1 + 1 + 1⟩
theorem open_Turn {w : World} {bs : List Nat} {cs : List Value} {d : TurnD} (h : pt w bs cs d) : bs = [] ∧ cs = [.int .i64 d.Kind, .string d.Name, .string d.To, .int .i64 d.Id] ∧ I64 d.Kind ∧ d.Name.size ≤ maxLen ∧ d.To.size ≤ maxLen ∧ I64 d.Id := by
 obtain ⟨_, _, _, _, rfl, rfl, ⟨rfl, rfl, h0⟩, ⟨_, _, _, _, rfl, rfl, ⟨rfl, rfl, h1⟩, ⟨_, _, _, _, rfl, rfl, ⟨rfl, rfl, h2⟩, ⟨rfl, rfl, h3⟩⟩⟩⟩ := h
 exact ⟨rfl, rfl, h0, h1, h2, h3⟩
theorem mk_Turn {w : World} {d : TurnD}  (h0 : I64 d.Kind) (h1 : d.Name.size ≤ maxLen) (h2 : d.To.size ≤ maxLen) (h3 : I64 d.Id) : pt w ([]) [.int .i64 d.Kind, .string d.Name, .string d.To, .int .i64 d.Id] d := by
 have h : pt w _ _ d.tup := (pt_cons (pt_i h0) (pt_cons (pt_s h1) (pt_cons (pt_s h2) (pt_i h3))))
 first | exact h | (simp only [List.nil_append, List.append_nil, List.cons_append, List.append_assoc] at h; exact h)
theorem own_Turn {lo : Nat} {w : World} {d : TurnD}  (h0 : I64 d.Kind) (h1 : d.Name.size ≤ maxLen) (h2 : d.To.size ≤ maxLen) (h3 : I64 d.Id)  : Own lo w ([]) [.int .i64 d.Kind, .string d.Name, .string d.To, .int .i64 d.Id] d := by
 exact ⟨mk_Turn h0 h1 h2 h3, List.nodup_nil, fun b hb => by cases hb⟩
structure DiskD where
 Room : Int
 Fuse : Int
 Next : Int
 Nodes : List NodeD
 Kept : List LinkD
 Turns : List TurnD
@[reducible] def DiskD.tup (d : DiskD) : Int × Int × Int × (List NodeD) × (List LinkD) × (List TurnD) := (d.Room, d.Fuse, d.Next, d.Nodes, d.Kept, d.Turns)
instance : Rep DiskD := Rep.via DiskD.tup
instance : Cnt DiskD := ⟨fun d => Cnt.cnt d.Nodes + Cnt.cnt d.Kept + Cnt.cnt d.Turns⟩
def DiskD.nkv (d : DiskD) : Nat := Mk.nE d.Nodes + Mk.nE d.Kept + Mk.nE d.Turns
def DiskD.mkv (s : Nat) (d : DiskD) : DiskD := { d with Nodes := Mk.mkE (s) d.Nodes, Kept := Mk.mkE (s + Mk.nE d.Nodes) d.Kept, Turns := Mk.mkE (s + Mk.nE d.Nodes + Mk.nE d.Kept) d.Turns }
theorem open_Disk {w : World} {bs : List Nat} {cs : List Value} {d : DiskD} (h : pt w bs cs d) : ∃ (b3 b4 b5 : List Nat) (a3 : Option Addr) (l3 k3 : Nat) (a4 : Option Addr) (l4 k4 : Nat) (a5 : Option Addr) (l5 k5 : Nat), bs = b3 ++ (b4 ++ b5) ∧ cs = [.int .i64 d.Room, .int .i64 d.Fuse, .int .i64 d.Next, .slice a3 l3 k3, .slice a4 l4 k4, .slice a5 l5 k5] ∧ I64 d.Room ∧ I64 d.Fuse ∧ I64 d.Next ∧ Slc w b3 a3 l3 k3 d.Nodes ∧ Slc w b4 a4 l4 k4 d.Kept ∧ Slc w b5 a5 l5 k5 d.Turns := by
 obtain ⟨_, _, _, _, rfl, rfl, ⟨rfl, rfl, h0⟩, ⟨_, _, _, _, rfl, rfl, ⟨rfl, rfl, h1⟩, ⟨_, _, _, _, rfl, rfl, ⟨rfl, rfl, h2⟩, ⟨_, _, _, _, rfl, rfl, ⟨a3, l3, k3, rfl, h3⟩, ⟨_, _, _, _, rfl, rfl, ⟨a4, l4, k4, rfl, h4⟩, ⟨a5, l5, k5, rfl, h5⟩⟩⟩⟩⟩⟩ := h
 exact ⟨_, _, _, a3, l3, k3, a4, l4, k4, a5, l5, k5, by simp only [List.nil_append, List.append_nil, List.append_assoc], rfl, h0, h1, h2, h3, h4, h5⟩
theorem mk_Disk {w : World} {d : DiskD} {b3 : List Nat} {a3 : Option Addr} {l3 k3 : Nat} {b4 : List Nat} {a4 : Option Addr} {l4 k4 : Nat} {b5 : List Nat} {a5 : Option Addr} {l5 k5 : Nat} (h0 : I64 d.Room) (h1 : I64 d.Fuse) (h2 : I64 d.Next) (h3 : Slc w b3 a3 l3 k3 d.Nodes) (h4 : Slc w b4 a4 l4 k4 d.Kept) (h5 : Slc w b5 a5 l5 k5 d.Turns) : pt w (b3 ++ (b4 ++ b5)) [.int .i64 d.Room, .int .i64 d.Fuse, .int .i64 d.Next, .slice a3 l3 k3, .slice a4 l4 k4, .slice a5 l5 k5] d := by
 have h : pt w _ _ d.tup := (pt_cons (pt_i h0) (pt_cons (pt_i h1) (pt_cons (pt_i h2) (pt_cons (pt_slice.2 h3) (pt_cons (pt_slice.2 h4) (pt_slice.2 h5))))))
 first | exact h | (simp only [List.nil_append, List.append_nil, List.cons_append, List.append_assoc] at h; exact h)
theorem own_Disk {lo : Nat} {w : World} {d : DiskD} {b3 : List Nat} {a3 : Option Addr} {l3 k3 : Nat} {b4 : List Nat} {a4 : Option Addr} {l4 k4 : Nat} {b5 : List Nat} {a5 : Option Addr} {l5 k5 : Nat} (h0 : I64 d.Room) (h1 : I64 d.Fuse) (h2 : I64 d.Next) (h3 : Own lo w b3 [.slice a3 l3 k3] d.Nodes) (h4 : Own lo w b4 [.slice a4 l4 k4] d.Kept) (h5 : Own lo w b5 [.slice a5 l5 k5] d.Turns) (e34 : ∀ x ∈ b3, x ∉ b4) (e35 : ∀ x ∈ b3, x ∉ b5) (e45 : ∀ x ∈ b4, x ∉ b5) : Own lo w (b3 ++ (b4 ++ b5)) [.int .i64 d.Room, .int .i64 d.Fuse, .int .i64 d.Next, .slice a3 l3 k3, .slice a4 l4 k4, .slice a5 l5 k5] d := by
 exact ⟨mk_Disk h0 h1 h2 (pt_slice.1 h3.1) (pt_slice.1 h4.1) (pt_slice.1 h5.1), nodup2 h3.2.1 (nodup2 h4.2.1 (h5.2.1) (fun x hx hm => e45 x hx hm)) (fun x hx hm => (List.mem_append.1 hm).elim (fun hm => e34 x hx hm) (fun hm => e35 x hx hm)), fun b hb => (List.mem_append.1 hb).elim (fun hb => h3.2.2 b hb) (fun hb => (List.mem_append.1 hb).elim (fun hb => h4.2.2 b hb) (fun hb => h5.2.2 b hb))⟩
theorem parts_Disk {lo : Nat} {w : World} {d : DiskD} {cs : List Value} {b3 : List Nat} {a3 : Option Addr} {l3 k3 : Nat} {b4 : List Nat} {a4 : Option Addr} {l4 k4 : Nat} {b5 : List Nat} {a5 : Option Addr} {l5 k5 : Nat} (h : Own lo w (b3 ++ (b4 ++ b5)) cs d) (h3 : Slc w b3 a3 l3 k3 d.Nodes) (h4 : Slc w b4 a4 l4 k4 d.Kept) (h5 : Slc w b5 a5 l5 k5 d.Turns) : Own lo w b3 [.slice a3 l3 k3] d.Nodes ∧ Own lo w b4 [.slice a4 l4 k4] d.Kept ∧ Own lo w b5 [.slice a5 l5 k5] d.Turns ∧ (∀ x ∈ b3, x ∉ b4) ∧ (∀ x ∈ b3, x ∉ b5) ∧ (∀ x ∈ b4, x ∉ b5) := by
 obtain ⟨_, hn, hf⟩ := h
 have n0 := List.nodup_append.1 hn
 have hn := n0.2.1
 have n1 := List.nodup_append.1 hn
 exact ⟨⟨pt_slice.2 h3, n0.1, fun b hb => hf b (List.mem_append_left _ hb)⟩, ⟨pt_slice.2 h4, n1.1, fun b hb => hf b (List.mem_append_right _ (List.mem_append_left _ hb))⟩, ⟨pt_slice.2 h5, n1.2.1, fun b hb => hf b (List.mem_append_right _ (List.mem_append_right _ (hb)))⟩, fun x hx hm => n0.2.2 x hx x (List.mem_append_left _ hm) rfl, fun x hx hm => n0.2.2 x hx x (List.mem_append_right _ (hm)) rfl, fun x hx hm => n1.2.2 x hx x (hm) rfl⟩
structure StoreD where
 Disk : DiskD
 Keep : Int
 Size : Int
 Ents : List EntryD
 Len : Int
@[reducible] def StoreD.tup (d : StoreD) : DiskD × Int × Int × (List EntryD) × Int := (d.Disk, d.Keep, d.Size, d.Ents, d.Len)
instance : Rep StoreD := Rep.via StoreD.tup
instance : Cnt StoreD := ⟨fun d => Cnt.cnt d.Disk + Cnt.cnt d.Ents⟩
def StoreD.nkv (d : StoreD) : Nat := d.Disk.nkv + Mk.nE d.Ents
def StoreD.mkv (s : Nat) (d : StoreD) : StoreD := { d with Disk := d.Disk.mkv (s), Ents := Mk.mkE (s + d.Disk.nkv) d.Ents }
theorem open_Store {w : World} {bs : List Nat} {cs : List Value} {d : StoreD} (h : pt w bs cs d) : ∃ (b3 b4 b5 b8 : List Nat) (a3 : Option Addr) (l3 k3 : Nat) (a4 : Option Addr) (l4 k4 : Nat) (a5 : Option Addr) (l5 k5 : Nat) (a8 : Option Addr) (l8 k8 : Nat), bs = b3 ++ (b4 ++ (b5 ++ b8)) ∧ cs = [.int .i64 d.Disk.Room, .int .i64 d.Disk.Fuse, .int .i64 d.Disk.Next, .slice a3 l3 k3, .slice a4 l4 k4, .slice a5 l5 k5, .int .i64 d.Keep, .int .i64 d.Size, .slice a8 l8 k8, .int .i64 d.Len] ∧ I64 d.Disk.Room ∧ I64 d.Disk.Fuse ∧ I64 d.Disk.Next ∧ Slc w b3 a3 l3 k3 d.Disk.Nodes ∧ Slc w b4 a4 l4 k4 d.Disk.Kept ∧ Slc w b5 a5 l5 k5 d.Disk.Turns ∧ I64 d.Keep ∧ I64 d.Size ∧ Slc w b8 a8 l8 k8 d.Ents ∧ I64 d.Len := by
 obtain ⟨_, _, _, _, rfl, rfl, g0, ⟨_, _, _, _, rfl, rfl, ⟨rfl, rfl, h6⟩, ⟨_, _, _, _, rfl, rfl, ⟨rfl, rfl, h7⟩, ⟨_, _, _, _, rfl, rfl, ⟨a8, l8, k8, rfl, h8⟩, ⟨rfl, rfl, h9⟩⟩⟩⟩⟩ := h
 obtain ⟨b3, b4, b5, a3, l3, k3, a4, l4, k4, a5, l5, k5, rfl, rfl, h0, h1, h2, h3, h4, h5⟩ := open_Disk g0
 exact ⟨_, _, _, _, a3, l3, k3, a4, l4, k4, a5, l5, k5, a8, l8, k8, by simp only [List.nil_append, List.append_nil, List.append_assoc], rfl, h0, h1, h2, h3, h4, h5, h6, h7, h8, h9⟩
theorem mk_Store {w : World} {d : StoreD} {b3 : List Nat} {a3 : Option Addr} {l3 k3 : Nat} {b4 : List Nat} {a4 : Option Addr} {l4 k4 : Nat} {b5 : List Nat} {a5 : Option Addr} {l5 k5 : Nat} {b8 : List Nat} {a8 : Option Addr} {l8 k8 : Nat} (h0 : I64 d.Disk.Room) (h1 : I64 d.Disk.Fuse) (h2 : I64 d.Disk.Next) (h3 : Slc w b3 a3 l3 k3 d.Disk.Nodes) (h4 : Slc w b4 a4 l4 k4 d.Disk.Kept) (h5 : Slc w b5 a5 l5 k5 d.Disk.Turns) (h6 : I64 d.Keep) (h7 : I64 d.Size) (h8 : Slc w b8 a8 l8 k8 d.Ents) (h9 : I64 d.Len) : pt w (b3 ++ (b4 ++ (b5 ++ b8))) [.int .i64 d.Disk.Room, .int .i64 d.Disk.Fuse, .int .i64 d.Disk.Next, .slice a3 l3 k3, .slice a4 l4 k4, .slice a5 l5 k5, .int .i64 d.Keep, .int .i64 d.Size, .slice a8 l8 k8, .int .i64 d.Len] d := by
 have h : pt w _ _ d.tup := (pt_cons (mk_Disk h0 h1 h2 h3 h4 h5) (pt_cons (pt_i h6) (pt_cons (pt_i h7) (pt_cons (pt_slice.2 h8) (pt_i h9)))))
 first | exact h | (simp only [List.nil_append, List.append_nil, List.cons_append, List.append_assoc] at h; exact h)
theorem own_Store {lo : Nat} {w : World} {d : StoreD} {b3 : List Nat} {a3 : Option Addr} {l3 k3 : Nat} {b4 : List Nat} {a4 : Option Addr} {l4 k4 : Nat} {b5 : List Nat} {a5 : Option Addr} {l5 k5 : Nat} {b8 : List Nat} {a8 : Option Addr} {l8 k8 : Nat} (h0 : I64 d.Disk.Room) (h1 : I64 d.Disk.Fuse) (h2 : I64 d.Disk.Next) (h3 : Own lo w b3 [.slice a3 l3 k3] d.Disk.Nodes) (h4 : Own lo w b4 [.slice a4 l4 k4] d.Disk.Kept) (h5 : Own lo w b5 [.slice a5 l5 k5] d.Disk.Turns) (h6 : I64 d.Keep) (h7 : I64 d.Size) (h8 : Own lo w b8 [.slice a8 l8 k8] d.Ents) (h9 : I64 d.Len) (e34 : ∀ x ∈ b3, x ∉ b4) (e35 : ∀ x ∈ b3, x ∉ b5) (e38 : ∀ x ∈ b3, x ∉ b8) (e45 : ∀ x ∈ b4, x ∉ b5) (e48 : ∀ x ∈ b4, x ∉ b8) (e58 : ∀ x ∈ b5, x ∉ b8) : Own lo w (b3 ++ (b4 ++ (b5 ++ b8))) [.int .i64 d.Disk.Room, .int .i64 d.Disk.Fuse, .int .i64 d.Disk.Next, .slice a3 l3 k3, .slice a4 l4 k4, .slice a5 l5 k5, .int .i64 d.Keep, .int .i64 d.Size, .slice a8 l8 k8, .int .i64 d.Len] d := by
 exact ⟨mk_Store h0 h1 h2 (pt_slice.1 h3.1) (pt_slice.1 h4.1) (pt_slice.1 h5.1) h6 h7 (pt_slice.1 h8.1) h9, nodup2 h3.2.1 (nodup2 h4.2.1 (nodup2 h5.2.1 (h8.2.1) (fun x hx hm => e58 x hx hm)) (fun x hx hm => (List.mem_append.1 hm).elim (fun hm => e45 x hx hm) (fun hm => e48 x hx hm))) (fun x hx hm => (List.mem_append.1 hm).elim (fun hm => e34 x hx hm) (fun hm => (List.mem_append.1 hm).elim (fun hm => e35 x hx hm) (fun hm => e38 x hx hm))), fun b hb => (List.mem_append.1 hb).elim (fun hb => h3.2.2 b hb) (fun hb => (List.mem_append.1 hb).elim (fun hb => h4.2.2 b hb) (fun hb => (List.mem_append.1 hb).elim (fun hb => h5.2.2 b hb) (fun hb => h8.2.2 b hb)))⟩
theorem parts_Store {lo : Nat} {w : World} {d : StoreD} {cs : List Value} {b3 : List Nat} {a3 : Option Addr} {l3 k3 : Nat} {b4 : List Nat} {a4 : Option Addr} {l4 k4 : Nat} {b5 : List Nat} {a5 : Option Addr} {l5 k5 : Nat} {b8 : List Nat} {a8 : Option Addr} {l8 k8 : Nat} (h : Own lo w (b3 ++ (b4 ++ (b5 ++ b8))) cs d) (h3 : Slc w b3 a3 l3 k3 d.Disk.Nodes) (h4 : Slc w b4 a4 l4 k4 d.Disk.Kept) (h5 : Slc w b5 a5 l5 k5 d.Disk.Turns) (h8 : Slc w b8 a8 l8 k8 d.Ents) : Own lo w b3 [.slice a3 l3 k3] d.Disk.Nodes ∧ Own lo w b4 [.slice a4 l4 k4] d.Disk.Kept ∧ Own lo w b5 [.slice a5 l5 k5] d.Disk.Turns ∧ Own lo w b8 [.slice a8 l8 k8] d.Ents ∧ (∀ x ∈ b3, x ∉ b4) ∧ (∀ x ∈ b3, x ∉ b5) ∧ (∀ x ∈ b3, x ∉ b8) ∧ (∀ x ∈ b4, x ∉ b5) ∧ (∀ x ∈ b4, x ∉ b8) ∧ (∀ x ∈ b5, x ∉ b8) := by
 obtain ⟨_, hn, hf⟩ := h
 have n0 := List.nodup_append.1 hn
 have hn := n0.2.1
 have n1 := List.nodup_append.1 hn
 have hn := n1.2.1
 have n2 := List.nodup_append.1 hn
 exact ⟨⟨pt_slice.2 h3, n0.1, fun b hb => hf b (List.mem_append_left _ hb)⟩, ⟨pt_slice.2 h4, n1.1, fun b hb => hf b (List.mem_append_right _ (List.mem_append_left _ hb))⟩, ⟨pt_slice.2 h5, n2.1, fun b hb => hf b (List.mem_append_right _ (List.mem_append_right _ (List.mem_append_left _ hb)))⟩, ⟨pt_slice.2 h8, n2.2.1, fun b hb => hf b (List.mem_append_right _ (List.mem_append_right _ (List.mem_append_right _ (hb))))⟩, fun x hx hm => n0.2.2 x hx x (List.mem_append_left _ hm) rfl, fun x hx hm => n0.2.2 x hx x (List.mem_append_right _ (List.mem_append_left _ hm)) rfl, fun x hx hm => n0.2.2 x hx x (List.mem_append_right _ (List.mem_append_right _ (hm))) rfl, fun x hx hm => n1.2.2 x hx x (List.mem_append_left _ hm) rfl, fun x hx hm => n1.2.2 x hx x (List.mem_append_right _ (hm)) rfl, fun x hx hm => n2.2.2 x hx x (hm) rfl⟩
end Go.G6
end
section
set_option linter.unusedSimpArgs false
set_option linter.unusedVariables false
namespace Go.G6
open Go.RowKit
theorem keep_cell {w5 W W' : World} {p : Addr} {v : Value} (hb : Below W.heap.size W W') (h1 : Below w5.heap.size w5 W) (hA : W.cell? p = some v) (l1 : p.block < w5.heap.size) : W'.cell? p = some v :=
 (hb.cell (by have := h1.size; omega)).trans hA
theorem digits_zero : digitsOf 0 = [] := by rw [digitsOf]; simp
theorem digits_len : ∀ (n k : Nat), k < 10 ^ n → (digitsOf k).length ≤ n
 | 0, k, h => by have : k = 0 := by simpa using h
                 subst this; rw [digitsOf]; simp
 | n + 1, k, h => by
  rw [digitsOf]
  split
  ·simp
  ·have := digits_len n (k / 10) (by rw [Nat.div_lt_iff_lt_mul (by omega)]; rwa [Nat.pow_succ] at h)
   simp; omega
theorem markText_le {k : Nat} (h : k ≤ 1152921504606846976) : (markText k).size ≤ maxLen := by
 have h1 := digits_len 19 k (by omega)
 have : (markText k).size = (109 :: (if k = 0 then [48] else digitsOf k)).length := by simp [markText, ByteArray.size]
 rw [this]
 unfold maxLen
 split <;> simp <;> omega
end Go.G6
namespace Go.Proofs.YtdjcjilipgpnmaaGreat
open Go.RowKit Go.G6
set_option maxHeartbeats 1600000
set_option maxRecDepth 10000
theorem markText_any (K : Nat) (w : World) (hK : K ≤ 1152921504606846976) :
  Calls Tryz.prog 81 #[.int .i64 K] w fun e w' => e = .returned (.string (markText K)) ∧ Below w.heap.size w w' := by
 go_enter Tryz.func81, Tryz.ntmps81
 by_cases h0 : K = 0
 ·subst h0
  go_wp2
  go_ret
  exact ⟨by simp [markText], Below.refl _ _⟩
 ·go_wp2
  go_loopw [0, 3] (fun v o wr => ∃ (j : Nat) (l : List UInt8), j ≤ K ∧ v = .int .i64 j ∧ o = .string ⟨l.toArray⟩ ∧ digitsOf K = digitsOf j ++ l ∧ Below w.heap.size w wr) (fun v _ _ => (intOf v).toNat)
  case atStart => exact ⟨K, [], Nat.le_refl _, rfl, rfl, by simp, Below.refl _ _⟩
  case round =>
   obtain ⟨j, l, hj, rfl, rfl, hd, hb⟩ := hrel
   have HB := hid hb; clear hb
   have hl19 : l.length ≤ 19 := by
    have := digits_len 19 K (by omega)
    rw [hd] at this; simp at this; omega
   have HD := hid hd; clear hd
   rcases j with _ | j
   ·go_wp2
    go_ret
    refine ⟨?_, HB.out⟩
    have hd := HD.out
    rw [digits_zero] at hd
    simp only [List.nil_append] at hd
    show Ending.returned (.string ((⟨#[109]⟩ : ByteArray) ++ ⟨l.toArray⟩)) = _
    rw [markText, if_neg h0, hd]
    congr 2
   ·have e1 : ((UInt8.ofNat (48 + (j + 1) % 10)).toNat : Int) = 48 + ((j : Int) + 1) % 10 := by rw [u8_ofNat]; omega
    have hcv : (convert 54 9 (.slice (some ⟨wr.heap.size, 0, none⟩) 1 1)).run Tryz.prog (wr.alloc (.cells #[.int .u8 (48 + ((j : Int) + 1) % 10)] 5)) = .ok (.string ⟨#[UInt8.ofNat (48 + (j + 1) % 10)]⟩) (wr.alloc (.cells #[.int .u8 (48 + ((j : Int) + 1) % 10)] 5)) :=
     run_convert_bytes_back (P := Tryz.prog) _ 54 9 5 ⟨wr.heap.size, 0, none⟩ 1 [UInt8.ofNat (48 + (j + 1) % 10)] Tryz.underlying54 Tryz.underlying5 Tryz.underlying9 (fun i hi => by
      match i, hi with
      | 0, _ =>
       rw [← e1]
       simp [Addr.add])
    have HN : Hid (digitsOf K = digitsOf ((j + 1) / 10) ++ (UInt8.ofNat (48 + (j + 1) % 10) :: l)) := hid (by
     rw [HD.out]
     conv => lhs; rw [digitsOf, dif_neg (Nat.succ_ne_zero _)]
     simp)
    clear HD
    go_wp2
    refine ⟨⟨(j + 1) / 10, UInt8.ofNat (48 + (j + 1) % 10) :: l, by omega, by have : (((j + 1) / 10 : Nat) : Int) = ((j : Int) + 1) / 10 := by omega
                                                                              rw [this], ?_, HN.out, HB.out.alloc (by have := HB.out.size; omega) _⟩, by simp [intOf]; omega⟩
    congr 1
    apply ByteArray.ext
    simp
end Go.Proofs.YtdjcjilipgpnmaaGreat
end
section
set_option linter.unusedSimpArgs false
set_option linter.unusedVariables false
namespace Go.Proofs.YtdjcjilipgpnmaaGreat
open Go.RowKit Go.G6
set_option maxHeartbeats 400000
set_option maxRecDepth 10000
theorem szByteS {w : World} {b1 : List Nat} {a1 : Option Addr} {len1 cap1 : Nat} {xs : List UInt8} (left : Int) (h1 : Slc w b1 a1 len1 cap1 xs) (hl : 0 ≤ left) (hl2 : left ≤ 1048576) :
  Calls Tryz.prog 115 #[.slice a1 len1 cap1, .int .i64 left] w fun e w' => e = .returned (.int .i64 (szr left (Cnt.cnt xs))) ∧ Below w.heap.size w w' := by
 obtain rfl := h1.len_eq
 have hm := h1.max
 have Hc := hid (cnt_bytes xs)
 go_enter Tryz.func115, Tryz.ntmps115
 by_cases hc : (xs.length : Int) ≤ left
 ·go_wp2
  go_ret
  exact ⟨ret_int (by rw [Hc.out, szr_pos hc]), Below.refl _ _⟩
 ·go_wp2
  go_ret
  exact ⟨ret_int (by rw [Hc.out, szr_neg (by omega)]), Below.refl _ _⟩
theorem infoByteS : (Tryz.prog.info? 5).map (fun i => (i.zero, i.size, i.bytes)) = some (some (.int .u8 0), 1, 1) := by kernel_rfl
theorem toByteS {w : World} {bs : List Nat} {a : Option Addr} {len cap : Nat} {xs : List UInt8} (h : Slc w bs a len cap xs) (hn : xs.length ≤ 1048576) :
  Calls Tryz.prog 119 #[.slice a len cap] w (RetS w xs) := by
 obtain rfl := h.len_eq
 obtain ⟨i0, hi, hz0, hz1, hz2⟩ := info_parts infoByteS
 go_enter Tryz.func119, Tryz.ntmps119
 go_wp2_with (at_make; refine wpList_make_full _ rfl _ _ 54 rfl w.heap.size 5 i0 (.int .u8 0) 1 Tryz.underlying54 hi hz0 hz1 _ _ _ _ xs.length rfl rfl rfl rfl ?c1 ?c2 ?c3 ?_)
 case c1 => rw [hz2]; omega
 case c2 => unfold maxLen; omega
 case c3 => omega
 intro w1 hown hgr
 have hb0 : Below w.heap.size w w1 := (Below.refl _ _).grown hgr (Nat.le_refl _) (fun k hk => by cases hk)
 go_wp2
 go_loopw [4] (fun i wr => ∃ k : Nat, ∃ cells, k ≤ xs.length ∧ i = .int .i64 k ∧ wr.ownsRow w.heap.size 5 1 (.slice (some ⟨w.heap.size, 0, none⟩) xs.length xs.length) xs.length cells ∧ cells.take k = (xs.take k).map Scal.val ∧ Below w.heap.size w wr) (fun i _ => xs.length - (intOf i).toNat)
 case atStart => exact ⟨0, _, Nat.zero_le _, rfl, hown, by simp, hb0⟩
 case round =>
  obtain ⟨k, cells, hk, rfl, hown1, htk, hb1⟩ := hrel
  have Hown := hid hown1; have Htk := hid htk; have Hb := hid hb1
  clear hown1 htk hown hgr hb0
  by_cases hlt : k < xs.length
  ·obtain ⟨b, off, rfl, hbw, hck0, _⟩ := h.at k hlt
   have hck1 : wr.cell? ⟨b, off + k, none⟩ = some (.int .u8 (xs[k].toNat : Int)) := by rw [hb1.cell (p := ⟨b, off + k, none⟩) hbw]; exact hck0
   have hlen : cells.length = xs.length := by have := Hown.out.1; omega
   have hst : wr.cell? ⟨w.heap.size, k, none⟩ = some (cells[k]'(by omega)) := by rw [Hown.out.cellAt k (by omega)]; exact List.getElem?_eq_getElem _
   have hfr : wr.frozen? ⟨w.heap.size, k, none⟩ = false := Hown.out.frozenAt k
   clear hck0 hb1
   go_wp2
   refine ⟨⟨k + 1, cells.set k (.int .u8 (xs[k].toNat : Int)), by omega, rfl, (Hown.out.stored k _).1, ?_, Hb.out.setCell (Nat.le_refl _) _⟩, by simp [intOf]; omega⟩
   rw [take_set_succ _ _ _ (by omega), Htk.out, take_map_succ _ _ _ hlt]
   rfl
  ·obtain rfl : k = xs.length := by omega
   go_wp2
   go_ret
   have hc : cells = xs.map Scal.val := by have := Htk.out; rwa [List.take_of_length_le (by have := Hown.out.1; omega), List.take_of_length_le (Nat.le_refl _)] at this
   have := Hown.out
   rw [hc] at this
   obtain ⟨bs', hO⟩ := own_scal this h.oks
   exact ⟨_, _, _, bs', rfl, hO, Hb.out⟩
theorem eqByteS {w : World} {b1 b2 : List Nat} {a1 a2 : Option Addr} {len1 len2 cap1 cap2 : Nat} {xs : List UInt8} (h1 : Slc w b1 a1 len1 cap1 xs) (h2 : Slc w b2 a2 len2 cap2 xs) :
  Calls Tryz.prog 126 #[.slice a1 len1 cap1, .slice a2 len2 cap2] w fun e w' => e = .returned (.bool true) ∧ Below w.heap.size w w' := by
 obtain rfl := h1.len_eq
 obtain rfl := h2.len_eq
 have hm := h1.max
 go_enter Tryz.func126, Tryz.ntmps126
 go_wp2_with fail
 go_loopw [5] (fun i wr => ∃ k : Nat, k ≤ xs.length ∧ i = .int .i64 k ∧ Below w.heap.size w wr) (fun i _ => xs.length - (intOf i).toNat)
 case atStart => exact ⟨0, Nat.zero_le _, rfl, Below.refl _ _⟩
 case round =>
  obtain ⟨k, hk, rfl, hb⟩ := hrel
  have Hb := hid hb
  by_cases hlt : k < xs.length
  ·obtain ⟨b, off, rfl, hbw, hck, _⟩ := h1.at k hlt
   obtain ⟨b', off', rfl, hbw', hck', _⟩ := h2.at k hlt
   have hc1 : wr.cell? ⟨b, off + k, none⟩ = some (.int .u8 (xs[k].toNat : Int)) := by rw [hb.cell (p := ⟨b, off + k, none⟩) hbw]; exact hck
   have hc2 : wr.cell? ⟨b', off' + k, none⟩ = some (.int .u8 (xs[k].toNat : Int)) := by rw [hb.cell (p := ⟨b', off' + k, none⟩) hbw']; exact hck'
   clear hck hck' hb
   have hlt' : (k : Int) < (xs.length : Int) := by omega
   go_wp2
   go_quiet (fail)
   go_wp2
   exact ⟨⟨k + 1, by omega, rfl, Hb.out.drewN _⟩, by simp [intOf]; omega⟩
  ·clear hb
   go_wp2
   go_ret
   exact ⟨rfl, Hb.out⟩
theorem markByteS {lo : Nat} {w : World} {bs : List Nat} {a : Option Addr} {len cap : Nat} {xs : List UInt8} (h : Own lo w bs [.slice a len cap] xs) (s : Nat) (hs : s + Mk.nE xs ≤ topK) :
  Calls Tryz.prog 113 #[.slice a len cap, .int .i64 (s : Int)] w (RetM lo w bs [.slice a len cap] (Mk.mkE s xs) (s + Mk.nE xs)) := by
 have hS := pt_slice.1 h.1
 obtain rfl := hS.len_eq
 unfold topK at hs
 have hne : ∀ l : List UInt8, nL Mk.nE l = l.length := fun l => nL_const _ l fun _ => rfl
 have hs : s + xs.length ≤ 1152921504606846976 := by rw [← hne]; exact hs
 clear hS
 go_enter Tryz.func113, Tryz.ntmps113
 go_wp2_with fail
 have Hne := hid hne; clear hne
 go_loopw [1, 5] (fun q i wr => ∃ k : Nat, k ≤ xs.length ∧ i = .int .i64 k ∧ q = .int .i64 ((s + k : Nat) : Int) ∧ Own lo wr bs [.slice a xs.length cap] (mkTo Mk.mkE Mk.nE s k xs) ∧ Tch bs w wr) (fun _ i _ => xs.length - (intOf i).toNat)
 case atStart => exact ⟨0, Nat.zero_le _, rfl, rfl, by rw [mkTo_zero]; exact h, Tch.refl _ _⟩
 case round =>
  obtain ⟨k, hk, rfl, rfl, hO, hT⟩ := hrel
  have HT := hid hT; clear hT
  by_cases hlt : k < xs.length
  ·obtain ⟨b, off, rfl, hbb, hck, hfr, hset⟩ := hO.setScal k (by rw [mkTo_length]; exact hlt) (Mk.mkE (s + k) xs[k]) trivial
   have hck1 : wr.cell? ⟨b, off + k, none⟩ = some _ := hck
   clear hck hO
   have Hset := hid hset; clear hset
   have Hbb := hid hbb; clear hbb
   have Hu := hid (u8_ofNat (s + k))
   go_wp2
   refine ⟨⟨k + 1, by omega, rfl, by simp; omega, ?_, HT.out.setCell Hbb.out _⟩, by simp [intOf]; omega⟩
   have := mkTo_succ Mk.mkE Mk.nE s k xs hlt
   rw [Hne.out, List.length_take, Nat.min_eq_left hk] at this
   rw [← this]
   have e := Hu.out
   rw [show (((s + k : Nat) : Int)) = (s : Int) + k by omega] at e
   rw [← e]
   exact Hset.out
  ·obtain rfl : k = xs.length := by omega
   have HO := hid hO; clear hO
   go_wp2
   go_ret
   refine ⟨?_, ?_, HT.out⟩
   ·show _ = Ending.returned (.int .i64 ((s + nL Mk.nE xs : Nat) : Int))
    rw [Hne.out]
    simp
   ·have := HO.out
    rwa [mkTo_all] at this
theorem heldByteS {w : World} {bs : List Nat} {a : Option Addr} {len cap : Nat} {xs : List UInt8} (s : Nat) (h : Slc w bs a len cap (Mk.mkE s xs)) (hs : s + Mk.nE xs ≤ topK) :
  Calls Tryz.prog 114 #[.slice a len cap, .int .i64 (s : Int)] w fun e w' => e = .returned (.int .i64 ((s + Mk.nE xs : Nat) : Int)) ∧ Below w.heap.size w w' := by
 have hl : len = xs.length := by rw [h.len_eq]; exact mkL_length _ _ _ _
 subst hl
 unfold topK at hs
 have Hne := hid (fun l : List UInt8 => nL_const Mk.nE l fun _ => rfl)
 have hs : s + xs.length ≤ 1152921504606846976 := by rw [← Hne.out]; exact hs
 go_enter Tryz.func114, Tryz.ntmps114
 go_wp2_with fail
 go_loopw [1, 5] (fun q i wr => ∃ k : Nat, k ≤ xs.length ∧ i = .int .i64 k ∧ q = .int .i64 ((s + k : Nat) : Int) ∧ Below w.heap.size w wr) (fun _ i _ => xs.length - (intOf i).toNat)
 case atStart => exact ⟨0, Nat.zero_le _, rfl, rfl, Below.refl _ _⟩
 case round =>
  obtain ⟨k, hk, rfl, rfl, hb⟩ := hrel
  have Hb := hid hb
  by_cases hlt : k < xs.length
  ·obtain ⟨b, off, rfl, hbw, hck, _⟩ := h.at k (by show k < (mkL _ _ _ _).length; rw [mkL_length]; exact hlt)
   have he := mkL_get Mk.mkE Mk.nE s k xs hlt
   rw [Hne.out, List.length_take, Nat.min_eq_left hk] at he
   have hck1 : wr.cell? ⟨b, off + k, none⟩ = some (Scal.val (Mk.mkE (s + k) xs[k] : UInt8)) := by
    rw [hb.cell (p := ⟨b, off + k, none⟩) hbw, hck]
    exact congrArg (fun x => some (Scal.val x)) he
   clear hck he hb
   have hck2 : wr.cell? ⟨b, off + k, none⟩ = some (.int .u8 (((s : Int) + k) % 256)) := by rw [hck1]; exact congrArg (fun x => some (Value.int .u8 x)) ((u8_ofNat (s + k)).trans (by omega))
   clear hck1
   go_wp2
   exact ⟨⟨k + 1, by omega, rfl, by simp; omega, Hb.out⟩, by simp [intOf]; omega⟩
  ·obtain rfl : k = xs.length := by omega
   clear hb
   go_wp2
   go_ret
   refine ⟨?_, Hb.out⟩
   show _ = Ending.returned (.int .i64 ((s + nL Mk.nE xs : Nat) : Int))
   rw [Hne.out]
   simp
end Go.Proofs.YtdjcjilipgpnmaaGreat
end
section
set_option linter.unusedSimpArgs false
set_option linter.unusedVariables false
namespace Go.G6
def inB (n lo hi : Int) : Bool := decide (lo ≤ n ∧ n ≤ hi)
end Go.G6
namespace Go.G6
theorem nE_bytes (xs : List UInt8) : Mk.nE xs ≤ Cnt.cnt xs := by rw [cnt_bytes]; exact Nat.le_of_eq (nL_const _ _ fun _ => rfl)
end Go.G6
end
section
set_option linter.unusedSimpArgs false
set_option linter.unusedVariables false
namespace Go.Proofs.YtdjcjilipgpnmaaGreat
open Go.RowKit Go.G6
set_option maxHeartbeats 400000
set_option maxRecDepth 10000
theorem i_in (n lo hi : Int) (w : World) :
  Calls Tryz.prog 26 #[.int .i64 n, .int .i64 lo, .int .i64 hi] w fun e w' => e = .returned (.bool (inB n lo hi)) ∧ w = w' := by
 go_enter Tryz.func26, Tryz.ntmps26
 go_wp2
 all_goals (go_ret; exact ⟨ret_bool (by grind [inB]), rfl⟩)
end Go.Proofs.YtdjcjilipgpnmaaGreat
end
section
set_option linter.unusedSimpArgs false
set_option linter.unusedVariables false
namespace Go.Proofs.YtdjcjilipgpnmaaGreat
open Go.RowKit Go.G6
set_option maxHeartbeats 400000
set_option maxRecDepth 10000
theorem i_isLower (n : Int) (w : World) :
  Calls Tryz.prog 120 #[.int .i64 n] w fun e w' => e = .returned (.bool (inB n 97 122)) ∧ w = w' := by
 go_enter Tryz.func120, Tryz.ntmps120
 go_wp2_with (go_at_call 26; refine (i_in _ _ _ _).mono ?_; rintro e w' ⟨rfl, rfl⟩)
 all_goals (go_ret; exact ⟨rfl, rfl⟩)
end Go.Proofs.YtdjcjilipgpnmaaGreat
end
section
set_option linter.unusedSimpArgs false
set_option linter.unusedVariables false
namespace Go.G6
open Go.RowKit Rep Go.ChangeShapes Go.WideShapes
/-- Whatever reads as a value of type t is readable as α. -/
def Opn (P : Program) (t : TypeId) (α : Type) [Rep α] : Prop :=
 P.cellsOf t = Rep.size α ∧ ∀ {H : Type} (enc : TypeId × Value → H) (W : World) (spare : Nat → Bool) (held : Bool) (fuel : Nat) (cs : List Value) (x : DataW H × List MemPlace),
  DataW.trod enc P W 0 spare held fuel t cs = some x → ∃ bs, ∃ d : α, pt W bs cs d
theorem wf_range {n : Int} (h : (Lit.int .i64 n).wf = true) : I64 n := by
 simp [Lit.wf, IntKind.min, IntKind.max, IntKind.signed, IntKind.bits] at h
 unfold I64; omega
theorem opn_int {P : Program} {t : TypeId} (ht : P.underlying t = some (.int .i64)) (hc : P.cellsOf t = 1) : Opn P t Int := by
 refine ⟨hc, fun {H} enc W spare held fuel cs x h => ?_⟩
 obtain ⟨n, rfl, _, hw⟩ := DataW.trod_int ht h
 exact ⟨[], n, rfl, rfl, wf_range hw⟩
theorem opn_byte {P : Program} {t : TypeId} (ht : P.underlying t = some (.int .u8)) (hc : P.cellsOf t = 1) : Opn P t UInt8 := by
 refine ⟨hc, fun {H} enc W spare held fuel cs x h => ?_⟩
 obtain ⟨n, rfl, _, hw⟩ := DataW.trod_int ht h
 simp [Lit.wf, IntKind.min, IntKind.max, IntKind.signed, IntKind.bits] at hw
 refine ⟨[], UInt8.ofNat n.toNat, rfl, ?_⟩
 show [Value.int .u8 n] = [Value.int .u8 ((UInt8.ofNat n.toNat).toNat : Int)]
 rw [u8_ofNat, Int.toNat_of_nonneg hw.1, Int.emod_eq_of_lt hw.1 (by omega)]
theorem opn_string {P : Program} {t : TypeId} (ht : P.underlying t = some .string) (hc : P.cellsOf t = 1) : Opn P t ByteArray := by
 refine ⟨hc, fun {H} enc W spare held fuel cs x h => ?_⟩
 obtain ⟨n, rfl, _, hm⟩ := DataW.trod_string ht h
 exact ⟨[], n, rfl, rfl, hm⟩
theorem cells_at {w : World} {a : Addr} {n : Nat} {cs : List Value} (h : w.cells? 0 a n = some cs) : cs.length = n ∧ ∀ j v, cs[j]? = some v → w.cell? (a.add j) = some v := by
 unfold World.cells? at h
 rw [if_pos (Nat.zero_le _)] at h
 have hl := mapM_some_length h
 rw [List.length_range] at hl
 refine ⟨hl, fun j v hv => ?_⟩
 have hj := (List.getElem?_eq_some_iff.1 hv).1
 rw [mapM_some_get h j j (List.getElem?_range (by omega))]
 exact hv
theorem opn_list {P : Program} {t e : TypeId} {α : Type} [Rep α] (ht : P.underlying t = some (.slice e)) (hc : P.cellsOf t = 1) (he : Opn P e α) : Opn P t (List α) := by
 refine ⟨hc, fun {H} enc W spare held fuel cs x h => ?_⟩
 rcases Go.Deep.open_slice ht h with ⟨rfl, _⟩ | ⟨a, len, cap, m, n, D, Pl, rfl, _, hl, hm, hmm, _, hel⟩
 ·exact ⟨[], [], none, 0, 0, rfl, rfl, Nat.le_refl _, Nat.zero_le _, .inl ⟨rfl, rfl, fun _ => rfl⟩⟩
 ·have hlm : len ≤ m := by rw [hmm]; split <;> omega
  by_cases h0 : len = 0
  ·subst h0
   exact ⟨[], [], some a, 0, cap, rfl, rfl, hl, hm, .inl ⟨rfl, rfl, fun h => by cases h⟩⟩
  obtain ⟨b, off, spot⟩ := a
  have hsz := he.1
  have hpos := Rep.pos (α := α)
  have hspot : spot = none := by
   obtain ⟨cs', h1, h2⟩ := hel 0 (by omega)
   have hcl := cells_at h1
   have := hcl.2 0 _ (List.getElem?_eq_getElem (by omega))
   rw [Nat.zero_mul] at this
   simpa [Addr.add] using World.cell?_spot this
  subst hspot
  have hadd : ∀ i, (⟨b, off, none⟩ : Addr).add i = ⟨b, off + i, none⟩ := fun i => by unfold Addr.add; split <;> simp_all
  have key : ∀ k, k ≤ len → ∃ bss cells, ∃ xs : List α, xs.length = k ∧ Elems W bss cells xs ∧ At W b off cells := by
   intro k
   induction k with
   | zero => intro _; exact ⟨[], [], [], rfl, rfl, fun j v hv => by simp at hv⟩
   | succ k ih =>
    intro hk
    obtain ⟨bss, cells, xs, hxl, hE, hA⟩ := ih (by omega)
    obtain ⟨cs', h1, h2⟩ := hel k (by omega)
    obtain ⟨bs', d, hp⟩ := he.2 _ _ _ _ _ _ _ h2
    refine ⟨bss ++ [bs'], cells ++ cs', xs ++ [d], by simp [hxl], hE.snoc hp, hA.append ?_⟩
    intro j v hv
    have := (cells_at h1).2 j v hv
    rw [hadd, hsz] at this
    have hcl := hE.length.2
    rw [hxl] at hcl
    rw [hcl]
    have e2 : (⟨b, off + k * size α, none⟩ : Addr).add j = ⟨b, off + k * size α + j, none⟩ := by unfold Addr.add; split <;> simp_all
    rwa [e2] at this
  obtain ⟨bss, cells, xs, hxl, hE, hA⟩ := key len (Nat.le_refl _)
  have hlt : b < W.heap.size := by
   have hcl := hE.length.2
   have : 0 < cells.length := by rw [hcl, hxl]; exact Nat.mul_pos (by omega) hpos
   exact World.block_lt_of_cell? W _ (hA.cell 0 this)
  exact ⟨b :: bss.flatten, xs, some ⟨b, off, none⟩, len, cap, rfl, hxl.symm, hl, hm, .inr ⟨by intro e; rw [e] at hxl; simp at hxl; omega, b, off, bss, cells, rfl, hlt, rfl, hE, hA⟩⟩
/-- The fields of a structure, from the last to the first. -/
def FO (W : World) (cs : List Value) (off : Nat) (α : Type) [Rep α] : Prop := ∃ bs, ∃ d : α, pt W bs (cs.drop off) d
theorem fo_last {W : World} {cs : List Value} {off s : Nat} {α : Type} [Rep α] (h : ∃ bs, ∃ d : α, pt W bs ((cs.drop off).take s) d) (hl : cs.length ≤ off + s) : FO W cs off α := by
 rw [List.take_of_length_le (by simp; omega)] at h
 exact h
theorem fo_cons {W : World} {cs : List Value} {off s : Nat} {α β : Type} [Rep α] [Rep β] (h : ∃ bs, ∃ d : α, pt W bs ((cs.drop off).take s) d) (h2 : FO W cs (off + s) β) : FO W cs off (α × β) := by
 obtain ⟨b1, d1, p1⟩ := h
 obtain ⟨b2, d2, p2⟩ := h2
 refine ⟨b1 ++ b2, (d1, d2), b1, b2, _, _, rfl, ?_, p1, p2⟩
 rw [← List.drop_drop, List.take_append_drop]
theorem opn_field {P : Program} {W : World} {H : Type} {enc : TypeId × Value → H} {spare : Nat → Bool} {held : Bool} {n : Nat} {t : TypeId} {cs : List Value} {α : Type} [Rep α] {xs : List (DataW H × List MemPlace)} {i : Nat} {off : Nat} (ho : Opn P t α)
  (h : DataW.trod enc P W 0 spare held n t ((cs.drop off).take (P.cellsOf t)) = xs[i]?) (hi : i < xs.length) : ∃ bs, ∃ d : α, pt W bs ((cs.drop off).take (Rep.size α)) d := by
 rw [List.getElem?_eq_getElem hi] at h
 have := ho.2 _ _ _ _ _ _ _ h
 rwa [ho.1] at this
end Go.G6
end
section
set_option linter.unusedSimpArgs false
set_option linter.unusedVariables false
namespace Go.Proofs.YtdjcjilipgpnmaaGreat
open Go.RowKit Go.G6
theorem opn_i : Opn Tryz.prog 3 Int := opn_int Tryz.underlying3 (by kernel_rfl)
theorem opn_u : Opn Tryz.prog 5 UInt8 := opn_byte Tryz.underlying5 (by kernel_rfl)
theorem opn_s : Opn Tryz.prog 9 ByteArray := opn_string Tryz.underlying9 (by kernel_rfl)
theorem opn_lu : Opn Tryz.prog 54 (List UInt8) := opn_list Tryz.underlying54 (by kernel_rfl) opn_u
theorem opn_Entry : Opn Tryz.prog 81 EntryD := by
 have hc : Tryz.prog.cellsOf 81 = 2 := by kernel_rfl
 refine ⟨hc, fun {H} enc W spare held fuel cs x h => ?_⟩
 obtain ⟨xs, n, _, _, hl, hx, hf⟩ := DataW.trod_struct Tryz.underlying81 h
 rw [hc] at hl
 have f0 := opn_field (off := 0) opn_i (hf 0 _ rfl) (by rw [hx]; decide)
 have f1 := opn_field (off := 1) opn_s (hf 1 _ rfl) (by rw [hx]; decide)
 have hF : FO W cs 0 ((Int) × (ByteArray)) := (fo_cons f0 (fo_last (s := Rep.size (ByteArray)) f1 (by rw [hl]; decide)))
 obtain ⟨bs, d, hp⟩ := hF
 exact ⟨bs, ⟨d.1, d.2⟩, hp⟩
theorem opn_lEntry : Opn Tryz.prog 27 (List EntryD) := opn_list Tryz.underlying27 (by kernel_rfl) opn_Entry
theorem opn_Node : Opn Tryz.prog 120 NodeD := by
 have hc : Tryz.prog.cellsOf 120 = 3 := by kernel_rfl
 refine ⟨hc, fun {H} enc W spare held fuel cs x h => ?_⟩
 obtain ⟨xs, n, _, _, hl, hx, hf⟩ := DataW.trod_struct Tryz.underlying120 h
 rw [hc] at hl
 have f0 := opn_field (off := 0) opn_i (hf 0 _ rfl) (by rw [hx]; decide)
 have f1 := opn_field (off := 1) opn_lu (hf 1 _ rfl) (by rw [hx]; decide)
 have f2 := opn_field (off := 2) opn_lu (hf 2 _ rfl) (by rw [hx]; decide)
 have hF : FO W cs 0 ((Int) × (List UInt8) × (List UInt8)) := (fo_cons f0 (fo_cons f1 (fo_last (s := Rep.size (List UInt8)) f2 (by rw [hl]; decide))))
 obtain ⟨bs, d, hp⟩ := hF
 exact ⟨bs, ⟨d.1, d.2.1, d.2.2⟩, hp⟩
theorem opn_lNode : Opn Tryz.prog 22 (List NodeD) := opn_list Tryz.underlying22 (by kernel_rfl) opn_Node
theorem opn_Link : Opn Tryz.prog 123 LinkD := by
 have hc : Tryz.prog.cellsOf 123 = 2 := by kernel_rfl
 refine ⟨hc, fun {H} enc W spare held fuel cs x h => ?_⟩
 obtain ⟨xs, n, _, _, hl, hx, hf⟩ := DataW.trod_struct Tryz.underlying123 h
 rw [hc] at hl
 have f0 := opn_field (off := 0) opn_s (hf 0 _ rfl) (by rw [hx]; decide)
 have f1 := opn_field (off := 1) opn_i (hf 1 _ rfl) (by rw [hx]; decide)
 have hF : FO W cs 0 ((ByteArray) × (Int)) := (fo_cons f0 (fo_last (s := Rep.size (Int)) f1 (by rw [hl]; decide)))
 obtain ⟨bs, d, hp⟩ := hF
 exact ⟨bs, ⟨d.1, d.2⟩, hp⟩
theorem opn_lLink : Opn Tryz.prog 23 (List LinkD) := opn_list Tryz.underlying23 (by kernel_rfl) opn_Link
theorem opn_Turn : Opn Tryz.prog 125 TurnD := by
 have hc : Tryz.prog.cellsOf 125 = 4 := by kernel_rfl
 refine ⟨hc, fun {H} enc W spare held fuel cs x h => ?_⟩
 obtain ⟨xs, n, _, _, hl, hx, hf⟩ := DataW.trod_struct Tryz.underlying125 h
 rw [hc] at hl
 have f0 := opn_field (off := 0) opn_i (hf 0 _ rfl) (by rw [hx]; decide)
 have f1 := opn_field (off := 1) opn_s (hf 1 _ rfl) (by rw [hx]; decide)
 have f2 := opn_field (off := 2) opn_s (hf 2 _ rfl) (by rw [hx]; decide)
 have f3 := opn_field (off := 3) opn_i (hf 3 _ rfl) (by rw [hx]; decide)
 have hF : FO W cs 0 ((Int) × (ByteArray) × (ByteArray) × (Int)) := (fo_cons f0 (fo_cons f1 (fo_cons f2 (fo_last (s := Rep.size (Int)) f3 (by rw [hl]; decide)))))
 obtain ⟨bs, d, hp⟩ := hF
 exact ⟨bs, ⟨d.1, d.2.1, d.2.2.1, d.2.2.2⟩, hp⟩
theorem opn_lTurn : Opn Tryz.prog 24 (List TurnD) := opn_list Tryz.underlying24 (by kernel_rfl) opn_Turn
theorem opn_Disk : Opn Tryz.prog 26 DiskD := by
 have hc : Tryz.prog.cellsOf 26 = 6 := by kernel_rfl
 refine ⟨hc, fun {H} enc W spare held fuel cs x h => ?_⟩
 obtain ⟨xs, n, _, _, hl, hx, hf⟩ := DataW.trod_struct Tryz.underlying26 h
 rw [hc] at hl
 have f0 := opn_field (off := 0) opn_i (hf 0 _ rfl) (by rw [hx]; decide)
 have f1 := opn_field (off := 1) opn_i (hf 1 _ rfl) (by rw [hx]; decide)
 have f2 := opn_field (off := 2) opn_i (hf 2 _ rfl) (by rw [hx]; decide)
 have f3 := opn_field (off := 3) opn_lNode (hf 3 _ rfl) (by rw [hx]; decide)
 have f4 := opn_field (off := 4) opn_lLink (hf 4 _ rfl) (by rw [hx]; decide)
 have f5 := opn_field (off := 5) opn_lTurn (hf 5 _ rfl) (by rw [hx]; decide)
 have hF : FO W cs 0 ((Int) × (Int) × (Int) × (List NodeD) × (List LinkD) × (List TurnD)) := (fo_cons f0 (fo_cons f1 (fo_cons f2 (fo_cons f3 (fo_cons f4 (fo_last (s := Rep.size (List TurnD)) f5 (by rw [hl]; decide)))))))
 obtain ⟨bs, d, hp⟩ := hF
 exact ⟨bs, ⟨d.1, d.2.1, d.2.2.1, d.2.2.2.1, d.2.2.2.2.1, d.2.2.2.2.2⟩, hp⟩
theorem opn_Store : Opn Tryz.prog 29 StoreD := by
 have hc : Tryz.prog.cellsOf 29 = 10 := by kernel_rfl
 refine ⟨hc, fun {H} enc W spare held fuel cs x h => ?_⟩
 obtain ⟨xs, n, _, _, hl, hx, hf⟩ := DataW.trod_struct Tryz.underlying29 h
 rw [hc] at hl
 have f0 := opn_field (off := 0) opn_Disk (hf 0 _ rfl) (by rw [hx]; decide)
 have f1 := opn_field (off := 6) opn_i (hf 1 _ rfl) (by rw [hx]; decide)
 have f2 := opn_field (off := 7) opn_i (hf 2 _ rfl) (by rw [hx]; decide)
 have f3 := opn_field (off := 8) opn_lEntry (hf 3 _ rfl) (by rw [hx]; decide)
 have f4 := opn_field (off := 9) opn_i (hf 4 _ rfl) (by rw [hx]; decide)
 have hF : FO W cs 0 ((DiskD) × (Int) × (Int) × (List EntryD) × (Int)) := (fo_cons f0 (fo_cons f1 (fo_cons f2 (fo_cons f3 (fo_last (s := Rep.size (Int)) f4 (by rw [hl]; decide))))))
 obtain ⟨bs, d, hp⟩ := hF
 exact ⟨bs, ⟨d.1, d.2.1, d.2.2.1, d.2.2.2.1, d.2.2.2.2⟩, hp⟩
end Go.Proofs.YtdjcjilipgpnmaaGreat
end
