/- The structures of the program, as data that can be read. -/
import Derived.Test.YtgcdgkiefbbhkaaBase
set_option linter.unusedSimpArgs false
set_option linter.unusedVariables false
namespace Go.G6
open Go.RowKit Rep

@[reducible] def Rep.via {α β : Type} [Rep β] (f : α → β) : Rep α where
  size := Rep.size β
  pos := Rep.pos
  pt w bs cs a := Rep.pt w bs cs (f a)
  len h := Rep.len (α := β) h
  one h := Rep.one (α := β) h
  lt h := Rep.lt (α := β) h
  keep h hk := Rep.keep (α := β) h hk

theorem pt_cons {α β : Type} [Rep α] [Rep β] {w : World} {b1 b2 : List Nat} {c1 c2 : List Value} {x : α} {y : β} (h1 : pt w b1 c1 x) (h2 : pt w b2 c2 y) : pt w (b1 ++ b2) (c1 ++ c2) (x, y) := ⟨b1, b2, c1, c2, rfl, rfl, h1, h2⟩
theorem pt_i {w : World} {n : Int} (h : I64 n) : pt w [] [.int .i64 n] n := ⟨rfl, rfl, h⟩
theorem pt_b {w : World} {n : Bool} : pt w [] [.bool n] n := ⟨rfl, rfl⟩
theorem pt_s {w : World} {n : ByteArray} (h : n.size ≤ maxLen) : pt w [] [.string n] n := ⟨rfl, rfl, h⟩
theorem nodup2 {α : Type} {a b : List α} (ha : a.Nodup) (hb : b.Nodup) (h : ∀ x ∈ a, x ∉ b) : (a ++ b).Nodup := List.nodup_append.2 ⟨ha, hb, fun x hx _ hy e => h x hx (e ▸ hy)⟩

structure KeyD where
  Kind : Int
  R : Int
@[reducible] def KeyD.tup (d : KeyD) : Int × Int := (d.Kind, d.R)
instance : Rep KeyD := Rep.via KeyD.tup
instance : Cnt KeyD := ⟨fun _ => 0⟩
def KeyD.nkv (_d : KeyD) : Nat := 0
def KeyD.mkv (_s : Nat) (d : KeyD) : KeyD := d
instance : Mk KeyD := ⟨fun s _ => { Kind := ((s : Nat) : Int), R := ((s + 1 : Nat) : Int) }, fun _ => 1 + 1⟩
theorem open_Key {w : World} {bs : List Nat} {cs : List Value} {d : KeyD} (h : pt w bs cs d) : bs = [] ∧ cs = [.int .i64 d.Kind, .int .i64 d.R] ∧ I64 d.Kind ∧ I64 d.R := by
  obtain ⟨_, _, _, _, rfl, rfl, ⟨rfl, rfl, h0⟩, ⟨rfl, rfl, h1⟩⟩ := h
  exact ⟨rfl, rfl, h0, h1⟩
theorem mk_Key {w : World} {d : KeyD}  (h0 : I64 d.Kind) (h1 : I64 d.R) : pt w ([]) [.int .i64 d.Kind, .int .i64 d.R] d := by
  have h : pt w _ _ d.tup := (pt_cons (pt_i h0) (pt_i h1))
  first | exact h | (simp only [List.nil_append, List.append_nil, List.cons_append, List.append_assoc] at h; exact h)
theorem own_Key {lo : Nat} {w : World} {d : KeyD}  (h0 : I64 d.Kind) (h1 : I64 d.R)  : Own lo w ([]) [.int .i64 d.Kind, .int .i64 d.R] d := by
  exact ⟨mk_Key h0 h1, List.nodup_nil, fun b hb => by cases hb⟩

structure LineD where
  Text : List Int
  At : Int
@[reducible] def LineD.tup (d : LineD) : (List Int) × Int := (d.Text, d.At)
instance : Rep LineD := Rep.via LineD.tup
instance : Cnt LineD := ⟨fun d => Cnt.cnt d.Text⟩
def LineD.nkv (d : LineD) : Nat := Mk.nE d.Text
def LineD.mkv (s : Nat) (d : LineD) : LineD := { d with Text := Mk.mkE (s) d.Text }
instance : Mk LineD := ⟨fun s d => { Text := Mk.mkE (s) d.Text, At := ((s + Mk.nE d.Text : Nat) : Int) }, fun d => Mk.nE d.Text + 1⟩
theorem open_Line {w : World} {bs : List Nat} {cs : List Value} {d : LineD} (h : pt w bs cs d) : ∃ (a0 : Option Addr) (l0 k0 : Nat), cs = [.slice a0 l0 k0, .int .i64 d.At] ∧ Slc w bs a0 l0 k0 d.Text ∧ I64 d.At := by
  obtain ⟨_, _, _, _, rfl, rfl, ⟨a0, l0, k0, rfl, h0⟩, ⟨rfl, rfl, h1⟩⟩ := h
  exact ⟨a0, l0, k0, rfl, by simpa only [List.nil_append, List.append_nil] using h0, h1⟩
theorem mk_Line {w : World} {d : LineD} {b0 : List Nat} {a0 : Option Addr} {l0 k0 : Nat} (h0 : Slc w b0 a0 l0 k0 d.Text) (h1 : I64 d.At) : pt w (b0) [.slice a0 l0 k0, .int .i64 d.At] d := by
  have h : pt w _ _ d.tup := (pt_cons (pt_slice.2 h0) (pt_i h1))
  first | exact h | (simp only [List.nil_append, List.append_nil, List.cons_append, List.append_assoc] at h; exact h)
theorem own_Line {lo : Nat} {w : World} {d : LineD} {b0 : List Nat} {a0 : Option Addr} {l0 k0 : Nat} (h0 : Own lo w b0 [.slice a0 l0 k0] d.Text) (h1 : I64 d.At)  : Own lo w (b0) [.slice a0 l0 k0, .int .i64 d.At] d := by
  exact ⟨mk_Line (pt_slice.1 h0.1) h1, h0.2.1, h0.2.2⟩
theorem parts_Line {lo : Nat} {w : World} {d : LineD} {cs : List Value} {b0 : List Nat} {a0 : Option Addr} {l0 k0 : Nat} (h : Own lo w (b0) cs d) (h0 : Slc w b0 a0 l0 k0 d.Text) : Own lo w b0 [.slice a0 l0 k0] d.Text := by
  obtain ⟨_, hn, hf⟩ := h
  exact ⟨pt_slice.2 h0, hn, fun b hb => hf b (hb)⟩

structure PieceD where
  Text : List Int
@[reducible] def PieceD.tup (d : PieceD) : (List Int) := (d.Text)
instance : Rep PieceD := Rep.via PieceD.tup
instance : Cnt PieceD := ⟨fun d => Cnt.cnt d.Text⟩
def PieceD.nkv (d : PieceD) : Nat := Mk.nE d.Text
def PieceD.mkv (s : Nat) (d : PieceD) : PieceD := { d with Text := Mk.mkE (s) d.Text }
instance : Mk PieceD := ⟨fun s d => { Text := Mk.mkE (s) d.Text }, fun d => Mk.nE d.Text⟩
theorem open_Piece {w : World} {bs : List Nat} {cs : List Value} {d : PieceD} (h : pt w bs cs d) : ∃ (a0 : Option Addr) (l0 k0 : Nat), cs = [.slice a0 l0 k0] ∧ Slc w bs a0 l0 k0 d.Text := by
  obtain ⟨a0, l0, k0, rfl, h0⟩ := h
  exact ⟨a0, l0, k0, rfl, by simpa only [List.nil_append, List.append_nil] using h0⟩
theorem mk_Piece {w : World} {d : PieceD} {b0 : List Nat} {a0 : Option Addr} {l0 k0 : Nat} (h0 : Slc w b0 a0 l0 k0 d.Text) : pt w (b0) [.slice a0 l0 k0] d := by
  have h : pt w _ _ d.tup := (pt_slice.2 h0)
  first | exact h | (simp only [List.nil_append, List.append_nil, List.cons_append, List.append_assoc] at h; exact h)
theorem own_Piece {lo : Nat} {w : World} {d : PieceD} {b0 : List Nat} {a0 : Option Addr} {l0 k0 : Nat} (h0 : Own lo w b0 [.slice a0 l0 k0] d.Text)  : Own lo w (b0) [.slice a0 l0 k0] d := by
  exact ⟨mk_Piece (pt_slice.1 h0.1), h0.2.1, h0.2.2⟩
theorem parts_Piece {lo : Nat} {w : World} {d : PieceD} {cs : List Value} {b0 : List Nat} {a0 : Option Addr} {l0 k0 : Nat} (h : Own lo w (b0) cs d) (h0 : Slc w b0 a0 l0 k0 d.Text) : Own lo w b0 [.slice a0 l0 k0] d.Text := by
  obtain ⟨_, hn, hf⟩ := h
  exact ⟨pt_slice.2 h0, hn, fun b hb => hf b (hb)⟩

structure RingD where
  Pieces : List PieceD
@[reducible] def RingD.tup (d : RingD) : (List PieceD) := (d.Pieces)
instance : Rep RingD := Rep.via RingD.tup
instance : Cnt RingD := ⟨fun d => Cnt.cnt d.Pieces⟩
def RingD.nkv (d : RingD) : Nat := Mk.nE d.Pieces
def RingD.mkv (s : Nat) (d : RingD) : RingD := { d with Pieces := Mk.mkE (s) d.Pieces }
theorem open_Ring {w : World} {bs : List Nat} {cs : List Value} {d : RingD} (h : pt w bs cs d) : ∃ (a0 : Option Addr) (l0 k0 : Nat), cs = [.slice a0 l0 k0] ∧ Slc w bs a0 l0 k0 d.Pieces := by
  obtain ⟨a0, l0, k0, rfl, h0⟩ := h
  exact ⟨a0, l0, k0, rfl, by simpa only [List.nil_append, List.append_nil] using h0⟩
theorem mk_Ring {w : World} {d : RingD} {b0 : List Nat} {a0 : Option Addr} {l0 k0 : Nat} (h0 : Slc w b0 a0 l0 k0 d.Pieces) : pt w (b0) [.slice a0 l0 k0] d := by
  have h : pt w _ _ d.tup := (pt_slice.2 h0)
  first | exact h | (simp only [List.nil_append, List.append_nil, List.cons_append, List.append_assoc] at h; exact h)
theorem own_Ring {lo : Nat} {w : World} {d : RingD} {b0 : List Nat} {a0 : Option Addr} {l0 k0 : Nat} (h0 : Own lo w b0 [.slice a0 l0 k0] d.Pieces)  : Own lo w (b0) [.slice a0 l0 k0] d := by
  exact ⟨mk_Ring (pt_slice.1 h0.1), h0.2.1, h0.2.2⟩
theorem parts_Ring {lo : Nat} {w : World} {d : RingD} {cs : List Value} {b0 : List Nat} {a0 : Option Addr} {l0 k0 : Nat} (h : Own lo w (b0) cs d) (h0 : Slc w b0 a0 l0 k0 d.Pieces) : Own lo w b0 [.slice a0 l0 k0] d.Pieces := by
  obtain ⟨_, hn, hf⟩ := h
  exact ⟨pt_slice.2 h0, hn, fun b hb => hf b (hb)⟩

structure UndoD where
  Lines : List LineD
@[reducible] def UndoD.tup (d : UndoD) : (List LineD) := (d.Lines)
instance : Rep UndoD := Rep.via UndoD.tup
instance : Cnt UndoD := ⟨fun d => Cnt.cnt d.Lines⟩
def UndoD.nkv (d : UndoD) : Nat := Mk.nE d.Lines
def UndoD.mkv (s : Nat) (d : UndoD) : UndoD := { d with Lines := Mk.mkE (s) d.Lines }
theorem open_Undo {w : World} {bs : List Nat} {cs : List Value} {d : UndoD} (h : pt w bs cs d) : ∃ (a0 : Option Addr) (l0 k0 : Nat), cs = [.slice a0 l0 k0] ∧ Slc w bs a0 l0 k0 d.Lines := by
  obtain ⟨a0, l0, k0, rfl, h0⟩ := h
  exact ⟨a0, l0, k0, rfl, by simpa only [List.nil_append, List.append_nil] using h0⟩
theorem mk_Undo {w : World} {d : UndoD} {b0 : List Nat} {a0 : Option Addr} {l0 k0 : Nat} (h0 : Slc w b0 a0 l0 k0 d.Lines) : pt w (b0) [.slice a0 l0 k0] d := by
  have h : pt w _ _ d.tup := (pt_slice.2 h0)
  first | exact h | (simp only [List.nil_append, List.append_nil, List.cons_append, List.append_assoc] at h; exact h)
theorem own_Undo {lo : Nat} {w : World} {d : UndoD} {b0 : List Nat} {a0 : Option Addr} {l0 k0 : Nat} (h0 : Own lo w b0 [.slice a0 l0 k0] d.Lines)  : Own lo w (b0) [.slice a0 l0 k0] d := by
  exact ⟨mk_Undo (pt_slice.1 h0.1), h0.2.1, h0.2.2⟩
theorem parts_Undo {lo : Nat} {w : World} {d : UndoD} {cs : List Value} {b0 : List Nat} {a0 : Option Addr} {l0 k0 : Nat} (h : Own lo w (b0) cs d) (h0 : Slc w b0 a0 l0 k0 d.Lines) : Own lo w b0 [.slice a0 l0 k0] d.Lines := by
  obtain ⟨_, hn, hf⟩ := h
  exact ⟨pt_slice.2 h0, hn, fun b hb => hf b (hb)⟩

structure HistD where
  First : Int
  Lines : List ByteArray
@[reducible] def HistD.tup (d : HistD) : Int × (List ByteArray) := (d.First, d.Lines)
instance : Rep HistD := Rep.via HistD.tup
instance : Cnt HistD := ⟨fun d => Cnt.cnt d.Lines⟩
def HistD.nkv (d : HistD) : Nat := Mk.nE d.Lines
def HistD.mkv (s : Nat) (d : HistD) : HistD := { d with Lines := Mk.mkE (s) d.Lines }
theorem open_Hist {w : World} {bs : List Nat} {cs : List Value} {d : HistD} (h : pt w bs cs d) : ∃ (a1 : Option Addr) (l1 k1 : Nat), cs = [.int .i64 d.First, .slice a1 l1 k1] ∧ I64 d.First ∧ Slc w bs a1 l1 k1 d.Lines := by
  obtain ⟨_, _, _, _, rfl, rfl, ⟨rfl, rfl, h0⟩, ⟨a1, l1, k1, rfl, h1⟩⟩ := h
  exact ⟨a1, l1, k1, rfl, h0, by simpa only [List.nil_append, List.append_nil] using h1⟩
theorem mk_Hist {w : World} {d : HistD} {b1 : List Nat} {a1 : Option Addr} {l1 k1 : Nat} (h0 : I64 d.First) (h1 : Slc w b1 a1 l1 k1 d.Lines) : pt w (b1) [.int .i64 d.First, .slice a1 l1 k1] d := by
  have h : pt w _ _ d.tup := (pt_cons (pt_i h0) (pt_slice.2 h1))
  first | exact h | (simp only [List.nil_append, List.append_nil, List.cons_append, List.append_assoc] at h; exact h)
theorem own_Hist {lo : Nat} {w : World} {d : HistD} {b1 : List Nat} {a1 : Option Addr} {l1 k1 : Nat} (h0 : I64 d.First) (h1 : Own lo w b1 [.slice a1 l1 k1] d.Lines)  : Own lo w (b1) [.int .i64 d.First, .slice a1 l1 k1] d := by
  exact ⟨mk_Hist h0 (pt_slice.1 h1.1), h1.2.1, h1.2.2⟩
theorem parts_Hist {lo : Nat} {w : World} {d : HistD} {cs : List Value} {b1 : List Nat} {a1 : Option Addr} {l1 k1 : Nat} (h : Own lo w (b1) cs d) (h1 : Slc w b1 a1 l1 k1 d.Lines) : Own lo w b1 [.slice a1 l1 k1] d.Lines := by
  obtain ⟨_, hn, hf⟩ := h
  exact ⟨pt_slice.2 h1, hn, fun b hb => hf b (hb)⟩

structure GridD where
  W : Int
  H : Int
  Cells : List Int
  X : Int
  Y : Int
  Wrap : Bool
@[reducible] def GridD.tup (d : GridD) : Int × Int × (List Int) × Int × Int × Bool := (d.W, d.H, d.Cells, d.X, d.Y, d.Wrap)
instance : Rep GridD := Rep.via GridD.tup
instance : Cnt GridD := ⟨fun d => Cnt.cnt d.Cells⟩
def GridD.nkv (d : GridD) : Nat := Mk.nE d.Cells
def GridD.mkv (s : Nat) (d : GridD) : GridD := { d with Cells := Mk.mkE (s) d.Cells }
theorem open_Grid {w : World} {bs : List Nat} {cs : List Value} {d : GridD} (h : pt w bs cs d) : ∃ (a2 : Option Addr) (l2 k2 : Nat), cs = [.int .i64 d.W, .int .i64 d.H, .slice a2 l2 k2, .int .i64 d.X, .int .i64 d.Y, .bool d.Wrap] ∧ I64 d.W ∧ I64 d.H ∧ Slc w bs a2 l2 k2 d.Cells ∧ I64 d.X ∧ I64 d.Y := by
  obtain ⟨_, _, _, _, rfl, rfl, ⟨rfl, rfl, h0⟩, ⟨_, _, _, _, rfl, rfl, ⟨rfl, rfl, h1⟩, ⟨_, _, _, _, rfl, rfl, ⟨a2, l2, k2, rfl, h2⟩, ⟨_, _, _, _, rfl, rfl, ⟨rfl, rfl, h3⟩, ⟨_, _, _, _, rfl, rfl, ⟨rfl, rfl, h4⟩, ⟨rfl, rfl⟩⟩⟩⟩⟩⟩ := h
  exact ⟨a2, l2, k2, rfl, h0, h1, by simpa only [List.nil_append, List.append_nil] using h2, h3, h4⟩
theorem mk_Grid {w : World} {d : GridD} {b2 : List Nat} {a2 : Option Addr} {l2 k2 : Nat} (h0 : I64 d.W) (h1 : I64 d.H) (h2 : Slc w b2 a2 l2 k2 d.Cells) (h3 : I64 d.X) (h4 : I64 d.Y) : pt w (b2) [.int .i64 d.W, .int .i64 d.H, .slice a2 l2 k2, .int .i64 d.X, .int .i64 d.Y, .bool d.Wrap] d := by
  have h : pt w _ _ d.tup := (pt_cons (pt_i h0) (pt_cons (pt_i h1) (pt_cons (pt_slice.2 h2) (pt_cons (pt_i h3) (pt_cons (pt_i h4) (pt_b))))))
  first | exact h | (simp only [List.nil_append, List.append_nil, List.cons_append, List.append_assoc] at h; exact h)
theorem own_Grid {lo : Nat} {w : World} {d : GridD} {b2 : List Nat} {a2 : Option Addr} {l2 k2 : Nat} (h0 : I64 d.W) (h1 : I64 d.H) (h2 : Own lo w b2 [.slice a2 l2 k2] d.Cells) (h3 : I64 d.X) (h4 : I64 d.Y)  : Own lo w (b2) [.int .i64 d.W, .int .i64 d.H, .slice a2 l2 k2, .int .i64 d.X, .int .i64 d.Y, .bool d.Wrap] d := by
  exact ⟨mk_Grid h0 h1 (pt_slice.1 h2.1) h3 h4, h2.2.1, h2.2.2⟩
theorem parts_Grid {lo : Nat} {w : World} {d : GridD} {cs : List Value} {b2 : List Nat} {a2 : Option Addr} {l2 k2 : Nat} (h : Own lo w (b2) cs d) (h2 : Slc w b2 a2 l2 k2 d.Cells) : Own lo w b2 [.slice a2 l2 k2] d.Cells := by
  obtain ⟨_, hn, hf⟩ := h
  exact ⟨pt_slice.2 h2, hn, fun b hb => hf b (hb)⟩

structure VtD where
  Grid : GridD
  State : Int
  Args : List Int
  Part : List UInt8
  Bells : Int
@[reducible] def VtD.tup (d : VtD) : GridD × Int × (List Int) × (List UInt8) × Int := (d.Grid, d.State, d.Args, d.Part, d.Bells)
instance : Rep VtD := Rep.via VtD.tup
instance : Cnt VtD := ⟨fun d => Cnt.cnt d.Grid + Cnt.cnt d.Args + Cnt.cnt d.Part⟩
def VtD.nkv (d : VtD) : Nat := d.Grid.nkv + Mk.nE d.Args + Mk.nE d.Part
def VtD.mkv (s : Nat) (d : VtD) : VtD := { d with Grid := d.Grid.mkv (s), Args := Mk.mkE (s + d.Grid.nkv) d.Args, Part := Mk.mkE (s + d.Grid.nkv + Mk.nE d.Args) d.Part }
theorem open_Vt {w : World} {bs : List Nat} {cs : List Value} {d : VtD} (h : pt w bs cs d) : ∃ (b2 b7 b8 : List Nat) (a2 : Option Addr) (l2 k2 : Nat) (a7 : Option Addr) (l7 k7 : Nat) (a8 : Option Addr) (l8 k8 : Nat), bs = b2 ++ (b7 ++ b8) ∧ cs = [.int .i64 d.Grid.W, .int .i64 d.Grid.H, .slice a2 l2 k2, .int .i64 d.Grid.X, .int .i64 d.Grid.Y, .bool d.Grid.Wrap, .int .i64 d.State, .slice a7 l7 k7, .slice a8 l8 k8, .int .i64 d.Bells] ∧ I64 d.Grid.W ∧ I64 d.Grid.H ∧ Slc w b2 a2 l2 k2 d.Grid.Cells ∧ I64 d.Grid.X ∧ I64 d.Grid.Y ∧ I64 d.State ∧ Slc w b7 a7 l7 k7 d.Args ∧ Slc w b8 a8 l8 k8 d.Part ∧ I64 d.Bells := by
  obtain ⟨_, _, _, _, rfl, rfl, g0, ⟨_, _, _, _, rfl, rfl, ⟨rfl, rfl, h6⟩, ⟨_, _, _, _, rfl, rfl, ⟨a7, l7, k7, rfl, h7⟩, ⟨_, _, _, _, rfl, rfl, ⟨a8, l8, k8, rfl, h8⟩, ⟨rfl, rfl, h9⟩⟩⟩⟩⟩ := h
  obtain ⟨a2, l2, k2, rfl, h0, h1, h2, h3, h4⟩ := open_Grid g0
  exact ⟨_, _, _, a2, l2, k2, a7, l7, k7, a8, l8, k8, by simp only [List.nil_append, List.append_nil, List.append_assoc], rfl, h0, h1, h2, h3, h4, h6, h7, h8, h9⟩
theorem mk_Vt {w : World} {d : VtD} {b2 : List Nat} {a2 : Option Addr} {l2 k2 : Nat} {b7 : List Nat} {a7 : Option Addr} {l7 k7 : Nat} {b8 : List Nat} {a8 : Option Addr} {l8 k8 : Nat} (h0 : I64 d.Grid.W) (h1 : I64 d.Grid.H) (h2 : Slc w b2 a2 l2 k2 d.Grid.Cells) (h3 : I64 d.Grid.X) (h4 : I64 d.Grid.Y) (h6 : I64 d.State) (h7 : Slc w b7 a7 l7 k7 d.Args) (h8 : Slc w b8 a8 l8 k8 d.Part) (h9 : I64 d.Bells) : pt w (b2 ++ (b7 ++ b8)) [.int .i64 d.Grid.W, .int .i64 d.Grid.H, .slice a2 l2 k2, .int .i64 d.Grid.X, .int .i64 d.Grid.Y, .bool d.Grid.Wrap, .int .i64 d.State, .slice a7 l7 k7, .slice a8 l8 k8, .int .i64 d.Bells] d := by
  have h : pt w _ _ d.tup := (pt_cons (mk_Grid h0 h1 h2 h3 h4) (pt_cons (pt_i h6) (pt_cons (pt_slice.2 h7) (pt_cons (pt_slice.2 h8) (pt_i h9)))))
  first | exact h | (simp only [List.nil_append, List.append_nil, List.cons_append, List.append_assoc] at h; exact h)
theorem own_Vt {lo : Nat} {w : World} {d : VtD} {b2 : List Nat} {a2 : Option Addr} {l2 k2 : Nat} {b7 : List Nat} {a7 : Option Addr} {l7 k7 : Nat} {b8 : List Nat} {a8 : Option Addr} {l8 k8 : Nat} (h0 : I64 d.Grid.W) (h1 : I64 d.Grid.H) (h2 : Own lo w b2 [.slice a2 l2 k2] d.Grid.Cells) (h3 : I64 d.Grid.X) (h4 : I64 d.Grid.Y) (h6 : I64 d.State) (h7 : Own lo w b7 [.slice a7 l7 k7] d.Args) (h8 : Own lo w b8 [.slice a8 l8 k8] d.Part) (h9 : I64 d.Bells) (e27 : ∀ x ∈ b2, x ∉ b7) (e28 : ∀ x ∈ b2, x ∉ b8) (e78 : ∀ x ∈ b7, x ∉ b8) : Own lo w (b2 ++ (b7 ++ b8)) [.int .i64 d.Grid.W, .int .i64 d.Grid.H, .slice a2 l2 k2, .int .i64 d.Grid.X, .int .i64 d.Grid.Y, .bool d.Grid.Wrap, .int .i64 d.State, .slice a7 l7 k7, .slice a8 l8 k8, .int .i64 d.Bells] d := by
  exact ⟨mk_Vt h0 h1 (pt_slice.1 h2.1) h3 h4 h6 (pt_slice.1 h7.1) (pt_slice.1 h8.1) h9, nodup2 h2.2.1 (nodup2 h7.2.1 (h8.2.1) (fun x hx hm => e78 x hx hm)) (fun x hx hm => (List.mem_append.1 hm).elim (fun hm => e27 x hx hm) (fun hm => e28 x hx hm)), fun b hb => (List.mem_append.1 hb).elim (fun hb => h2.2.2 b hb) (fun hb => (List.mem_append.1 hb).elim (fun hb => h7.2.2 b hb) (fun hb => h8.2.2 b hb))⟩
theorem parts_Vt {lo : Nat} {w : World} {d : VtD} {cs : List Value} {b2 : List Nat} {a2 : Option Addr} {l2 k2 : Nat} {b7 : List Nat} {a7 : Option Addr} {l7 k7 : Nat} {b8 : List Nat} {a8 : Option Addr} {l8 k8 : Nat} (h : Own lo w (b2 ++ (b7 ++ b8)) cs d) (h2 : Slc w b2 a2 l2 k2 d.Grid.Cells) (h7 : Slc w b7 a7 l7 k7 d.Args) (h8 : Slc w b8 a8 l8 k8 d.Part) : Own lo w b2 [.slice a2 l2 k2] d.Grid.Cells ∧ Own lo w b7 [.slice a7 l7 k7] d.Args ∧ Own lo w b8 [.slice a8 l8 k8] d.Part ∧ (∀ x ∈ b2, x ∉ b7) ∧ (∀ x ∈ b2, x ∉ b8) ∧ (∀ x ∈ b7, x ∉ b8) := by
  obtain ⟨_, hn, hf⟩ := h
  have n0 := List.nodup_append.1 hn
  have hn := n0.2.1
  have n1 := List.nodup_append.1 hn
  exact ⟨⟨pt_slice.2 h2, n0.1, fun b hb => hf b (List.mem_append_left _ hb)⟩, ⟨pt_slice.2 h7, n1.1, fun b hb => hf b (List.mem_append_right _ (List.mem_append_left _ hb))⟩, ⟨pt_slice.2 h8, n1.2.1, fun b hb => hf b (List.mem_append_right _ (List.mem_append_right _ (hb)))⟩, fun x hx hm => n0.2.2 x hx x (List.mem_append_left _ hm) rfl, fun x hx hm => n0.2.2 x hx x (List.mem_append_right _ (hm)) rfl, fun x hx hm => n1.2.2 x hx x (hm) rfl⟩

structure DecD where
  State : Int
  Part : List UInt8
@[reducible] def DecD.tup (d : DecD) : Int × (List UInt8) := (d.State, d.Part)
instance : Rep DecD := Rep.via DecD.tup
instance : Cnt DecD := ⟨fun d => Cnt.cnt d.Part⟩
def DecD.nkv (d : DecD) : Nat := Mk.nE d.Part
def DecD.mkv (s : Nat) (d : DecD) : DecD := { d with Part := Mk.mkE (s) d.Part }
theorem open_Dec {w : World} {bs : List Nat} {cs : List Value} {d : DecD} (h : pt w bs cs d) : ∃ (a1 : Option Addr) (l1 k1 : Nat), cs = [.int .i64 d.State, .slice a1 l1 k1] ∧ I64 d.State ∧ Slc w bs a1 l1 k1 d.Part := by
  obtain ⟨_, _, _, _, rfl, rfl, ⟨rfl, rfl, h0⟩, ⟨a1, l1, k1, rfl, h1⟩⟩ := h
  exact ⟨a1, l1, k1, rfl, h0, by simpa only [List.nil_append, List.append_nil] using h1⟩
theorem mk_Dec {w : World} {d : DecD} {b1 : List Nat} {a1 : Option Addr} {l1 k1 : Nat} (h0 : I64 d.State) (h1 : Slc w b1 a1 l1 k1 d.Part) : pt w (b1) [.int .i64 d.State, .slice a1 l1 k1] d := by
  have h : pt w _ _ d.tup := (pt_cons (pt_i h0) (pt_slice.2 h1))
  first | exact h | (simp only [List.nil_append, List.append_nil, List.cons_append, List.append_assoc] at h; exact h)
theorem own_Dec {lo : Nat} {w : World} {d : DecD} {b1 : List Nat} {a1 : Option Addr} {l1 k1 : Nat} (h0 : I64 d.State) (h1 : Own lo w b1 [.slice a1 l1 k1] d.Part)  : Own lo w (b1) [.int .i64 d.State, .slice a1 l1 k1] d := by
  exact ⟨mk_Dec h0 (pt_slice.1 h1.1), h1.2.1, h1.2.2⟩
theorem parts_Dec {lo : Nat} {w : World} {d : DecD} {cs : List Value} {b1 : List Nat} {a1 : Option Addr} {l1 k1 : Nat} (h : Own lo w (b1) cs d) (h1 : Slc w b1 a1 l1 k1 d.Part) : Own lo w b1 [.slice a1 l1 k1] d.Part := by
  obtain ⟨_, hn, hf⟩ := h
  exact ⟨pt_slice.2 h1, hn, fun b hb => hf b (hb)⟩

structure EntryD where
  Num : Int
  Text : ByteArray
@[reducible] def EntryD.tup (d : EntryD) : Int × ByteArray := (d.Num, d.Text)
instance : Rep EntryD := Rep.via EntryD.tup
instance : Cnt EntryD := ⟨fun d => Cnt.cnt d.Text⟩
def EntryD.nkv (_d : EntryD) : Nat := 0
def EntryD.mkv (_s : Nat) (d : EntryD) : EntryD := d
instance : Mk EntryD := ⟨fun s _ => { Num := ((s : Nat) : Int), Text := markText (s + 1) }, fun _ => 1 + 1⟩
theorem open_Entry {w : World} {bs : List Nat} {cs : List Value} {d : EntryD} (h : pt w bs cs d) : bs = [] ∧ cs = [.int .i64 d.Num, .string d.Text] ∧ I64 d.Num ∧ d.Text.size ≤ maxLen := by
  obtain ⟨_, _, _, _, rfl, rfl, ⟨rfl, rfl, h0⟩, ⟨rfl, rfl, h1⟩⟩ := h
  exact ⟨rfl, rfl, h0, h1⟩
theorem mk_Entry {w : World} {d : EntryD}  (h0 : I64 d.Num) (h1 : d.Text.size ≤ maxLen) : pt w ([]) [.int .i64 d.Num, .string d.Text] d := by
  have h : pt w _ _ d.tup := (pt_cons (pt_i h0) (pt_s h1))
  first | exact h | (simp only [List.nil_append, List.append_nil, List.cons_append, List.append_assoc] at h; exact h)
theorem own_Entry {lo : Nat} {w : World} {d : EntryD}  (h0 : I64 d.Num) (h1 : d.Text.size ≤ maxLen)  : Own lo w ([]) [.int .i64 d.Num, .string d.Text] d := by
  exact ⟨mk_Entry h0 h1, List.nodup_nil, fun b hb => by cases hb⟩

structure NodeD where
  Id : Int
  Body : List UInt8
  Safe : List UInt8
@[reducible] def NodeD.tup (d : NodeD) : Int × (List UInt8) × (List UInt8) := (d.Id, d.Body, d.Safe)
instance : Rep NodeD := Rep.via NodeD.tup
instance : Cnt NodeD := ⟨fun d => Cnt.cnt d.Body + Cnt.cnt d.Safe⟩
def NodeD.nkv (d : NodeD) : Nat := Mk.nE d.Body + Mk.nE d.Safe
def NodeD.mkv (s : Nat) (d : NodeD) : NodeD := { d with Body := Mk.mkE (s) d.Body, Safe := Mk.mkE (s + Mk.nE d.Body) d.Safe }
instance : Mk NodeD := ⟨fun s d => { Id := ((s : Nat) : Int), Body := Mk.mkE (s + 1) d.Body, Safe := Mk.mkE (s + 1 + Mk.nE d.Body) d.Safe }, fun d => 1 + Mk.nE d.Body + Mk.nE d.Safe⟩
theorem open_Node {w : World} {bs : List Nat} {cs : List Value} {d : NodeD} (h : pt w bs cs d) : ∃ (b1 b2 : List Nat) (a1 : Option Addr) (l1 k1 : Nat) (a2 : Option Addr) (l2 k2 : Nat), bs = b1 ++ b2 ∧ cs = [.int .i64 d.Id, .slice a1 l1 k1, .slice a2 l2 k2] ∧ I64 d.Id ∧ Slc w b1 a1 l1 k1 d.Body ∧ Slc w b2 a2 l2 k2 d.Safe := by
  obtain ⟨_, _, _, _, rfl, rfl, ⟨rfl, rfl, h0⟩, ⟨_, _, _, _, rfl, rfl, ⟨a1, l1, k1, rfl, h1⟩, ⟨a2, l2, k2, rfl, h2⟩⟩⟩ := h
  exact ⟨_, _, a1, l1, k1, a2, l2, k2, by simp only [List.nil_append, List.append_nil, List.append_assoc], rfl, h0, h1, h2⟩
theorem mk_Node {w : World} {d : NodeD} {b1 : List Nat} {a1 : Option Addr} {l1 k1 : Nat} {b2 : List Nat} {a2 : Option Addr} {l2 k2 : Nat} (h0 : I64 d.Id) (h1 : Slc w b1 a1 l1 k1 d.Body) (h2 : Slc w b2 a2 l2 k2 d.Safe) : pt w (b1 ++ b2) [.int .i64 d.Id, .slice a1 l1 k1, .slice a2 l2 k2] d := by
  have h : pt w _ _ d.tup := (pt_cons (pt_i h0) (pt_cons (pt_slice.2 h1) (pt_slice.2 h2)))
  first | exact h | (simp only [List.nil_append, List.append_nil, List.cons_append, List.append_assoc] at h; exact h)
theorem own_Node {lo : Nat} {w : World} {d : NodeD} {b1 : List Nat} {a1 : Option Addr} {l1 k1 : Nat} {b2 : List Nat} {a2 : Option Addr} {l2 k2 : Nat} (h0 : I64 d.Id) (h1 : Own lo w b1 [.slice a1 l1 k1] d.Body) (h2 : Own lo w b2 [.slice a2 l2 k2] d.Safe) (e12 : ∀ x ∈ b1, x ∉ b2) : Own lo w (b1 ++ b2) [.int .i64 d.Id, .slice a1 l1 k1, .slice a2 l2 k2] d := by
  exact ⟨mk_Node h0 (pt_slice.1 h1.1) (pt_slice.1 h2.1), nodup2 h1.2.1 (h2.2.1) (fun x hx hm => e12 x hx hm), fun b hb => (List.mem_append.1 hb).elim (fun hb => h1.2.2 b hb) (fun hb => h2.2.2 b hb)⟩
theorem parts_Node {lo : Nat} {w : World} {d : NodeD} {cs : List Value} {b1 : List Nat} {a1 : Option Addr} {l1 k1 : Nat} {b2 : List Nat} {a2 : Option Addr} {l2 k2 : Nat} (h : Own lo w (b1 ++ b2) cs d) (h1 : Slc w b1 a1 l1 k1 d.Body) (h2 : Slc w b2 a2 l2 k2 d.Safe) : Own lo w b1 [.slice a1 l1 k1] d.Body ∧ Own lo w b2 [.slice a2 l2 k2] d.Safe ∧ (∀ x ∈ b1, x ∉ b2) := by
  obtain ⟨_, hn, hf⟩ := h
  have n0 := List.nodup_append.1 hn
  exact ⟨⟨pt_slice.2 h1, n0.1, fun b hb => hf b (List.mem_append_left _ hb)⟩, ⟨pt_slice.2 h2, n0.2.1, fun b hb => hf b (List.mem_append_right _ (hb))⟩, fun x hx hm => n0.2.2 x hx x (hm) rfl⟩

structure LinkD where
  Name : ByteArray
  Id : Int
@[reducible] def LinkD.tup (d : LinkD) : ByteArray × Int := (d.Name, d.Id)
instance : Rep LinkD := Rep.via LinkD.tup
instance : Cnt LinkD := ⟨fun d => Cnt.cnt d.Name⟩
def LinkD.nkv (_d : LinkD) : Nat := 0
def LinkD.mkv (_s : Nat) (d : LinkD) : LinkD := d
instance : Mk LinkD := ⟨fun s _ => { Name := markText (s), Id := ((s + 1 : Nat) : Int) }, fun _ => 1 + 1⟩
theorem open_Link {w : World} {bs : List Nat} {cs : List Value} {d : LinkD} (h : pt w bs cs d) : bs = [] ∧ cs = [.string d.Name, .int .i64 d.Id] ∧ d.Name.size ≤ maxLen ∧ I64 d.Id := by
  obtain ⟨_, _, _, _, rfl, rfl, ⟨rfl, rfl, h0⟩, ⟨rfl, rfl, h1⟩⟩ := h
  exact ⟨rfl, rfl, h0, h1⟩
theorem mk_Link {w : World} {d : LinkD}  (h0 : d.Name.size ≤ maxLen) (h1 : I64 d.Id) : pt w ([]) [.string d.Name, .int .i64 d.Id] d := by
  have h : pt w _ _ d.tup := (pt_cons (pt_s h0) (pt_i h1))
  first | exact h | (simp only [List.nil_append, List.append_nil, List.cons_append, List.append_assoc] at h; exact h)
theorem own_Link {lo : Nat} {w : World} {d : LinkD}  (h0 : d.Name.size ≤ maxLen) (h1 : I64 d.Id)  : Own lo w ([]) [.string d.Name, .int .i64 d.Id] d := by
  exact ⟨mk_Link h0 h1, List.nodup_nil, fun b hb => by cases hb⟩

structure TurnD where
  Kind : Int
  Name : ByteArray
  To : ByteArray
  Id : Int
@[reducible] def TurnD.tup (d : TurnD) : Int × ByteArray × ByteArray × Int := (d.Kind, d.Name, d.To, d.Id)
instance : Rep TurnD := Rep.via TurnD.tup
instance : Cnt TurnD := ⟨fun d => Cnt.cnt d.Name + Cnt.cnt d.To⟩
def TurnD.nkv (_d : TurnD) : Nat := 0
def TurnD.mkv (_s : Nat) (d : TurnD) : TurnD := d
instance : Mk TurnD := ⟨fun s _ => { Kind := ((s : Nat) : Int), Name := markText (s + 1), To := markText (s + 1 + 1), Id := ((s + 1 + 1 + 1 : Nat) : Int) }, fun _ => 1 + 1 + 1 + 1⟩
theorem open_Turn {w : World} {bs : List Nat} {cs : List Value} {d : TurnD} (h : pt w bs cs d) : bs = [] ∧ cs = [.int .i64 d.Kind, .string d.Name, .string d.To, .int .i64 d.Id] ∧ I64 d.Kind ∧ d.Name.size ≤ maxLen ∧ d.To.size ≤ maxLen ∧ I64 d.Id := by
  obtain ⟨_, _, _, _, rfl, rfl, ⟨rfl, rfl, h0⟩, ⟨_, _, _, _, rfl, rfl, ⟨rfl, rfl, h1⟩, ⟨_, _, _, _, rfl, rfl, ⟨rfl, rfl, h2⟩, ⟨rfl, rfl, h3⟩⟩⟩⟩ := h
  exact ⟨rfl, rfl, h0, h1, h2, h3⟩
theorem mk_Turn {w : World} {d : TurnD}  (h0 : I64 d.Kind) (h1 : d.Name.size ≤ maxLen) (h2 : d.To.size ≤ maxLen) (h3 : I64 d.Id) : pt w ([]) [.int .i64 d.Kind, .string d.Name, .string d.To, .int .i64 d.Id] d := by
  have h : pt w _ _ d.tup := (pt_cons (pt_i h0) (pt_cons (pt_s h1) (pt_cons (pt_s h2) (pt_i h3))))
  first | exact h | (simp only [List.nil_append, List.append_nil, List.cons_append, List.append_assoc] at h; exact h)
theorem own_Turn {lo : Nat} {w : World} {d : TurnD}  (h0 : I64 d.Kind) (h1 : d.Name.size ≤ maxLen) (h2 : d.To.size ≤ maxLen) (h3 : I64 d.Id)  : Own lo w ([]) [.int .i64 d.Kind, .string d.Name, .string d.To, .int .i64 d.Id] d := by
  exact ⟨mk_Turn h0 h1 h2 h3, List.nodup_nil, fun b hb => by cases hb⟩

structure DiskD where
  Room : Int
  Fuse : Int
  Next : Int
  Nodes : List NodeD
  Kept : List LinkD
  Turns : List TurnD
@[reducible] def DiskD.tup (d : DiskD) : Int × Int × Int × (List NodeD) × (List LinkD) × (List TurnD) := (d.Room, d.Fuse, d.Next, d.Nodes, d.Kept, d.Turns)
instance : Rep DiskD := Rep.via DiskD.tup
instance : Cnt DiskD := ⟨fun d => Cnt.cnt d.Nodes + Cnt.cnt d.Kept + Cnt.cnt d.Turns⟩
def DiskD.nkv (d : DiskD) : Nat := Mk.nE d.Nodes + Mk.nE d.Kept + Mk.nE d.Turns
def DiskD.mkv (s : Nat) (d : DiskD) : DiskD := { d with Nodes := Mk.mkE (s) d.Nodes, Kept := Mk.mkE (s + Mk.nE d.Nodes) d.Kept, Turns := Mk.mkE (s + Mk.nE d.Nodes + Mk.nE d.Kept) d.Turns }
theorem open_Disk {w : World} {bs : List Nat} {cs : List Value} {d : DiskD} (h : pt w bs cs d) : ∃ (b3 b4 b5 : List Nat) (a3 : Option Addr) (l3 k3 : Nat) (a4 : Option Addr) (l4 k4 : Nat) (a5 : Option Addr) (l5 k5 : Nat), bs = b3 ++ (b4 ++ b5) ∧ cs = [.int .i64 d.Room, .int .i64 d.Fuse, .int .i64 d.Next, .slice a3 l3 k3, .slice a4 l4 k4, .slice a5 l5 k5] ∧ I64 d.Room ∧ I64 d.Fuse ∧ I64 d.Next ∧ Slc w b3 a3 l3 k3 d.Nodes ∧ Slc w b4 a4 l4 k4 d.Kept ∧ Slc w b5 a5 l5 k5 d.Turns := by
  obtain ⟨_, _, _, _, rfl, rfl, ⟨rfl, rfl, h0⟩, ⟨_, _, _, _, rfl, rfl, ⟨rfl, rfl, h1⟩, ⟨_, _, _, _, rfl, rfl, ⟨rfl, rfl, h2⟩, ⟨_, _, _, _, rfl, rfl, ⟨a3, l3, k3, rfl, h3⟩, ⟨_, _, _, _, rfl, rfl, ⟨a4, l4, k4, rfl, h4⟩, ⟨a5, l5, k5, rfl, h5⟩⟩⟩⟩⟩⟩ := h
  exact ⟨_, _, _, a3, l3, k3, a4, l4, k4, a5, l5, k5, by simp only [List.nil_append, List.append_nil, List.append_assoc], rfl, h0, h1, h2, h3, h4, h5⟩
theorem mk_Disk {w : World} {d : DiskD} {b3 : List Nat} {a3 : Option Addr} {l3 k3 : Nat} {b4 : List Nat} {a4 : Option Addr} {l4 k4 : Nat} {b5 : List Nat} {a5 : Option Addr} {l5 k5 : Nat} (h0 : I64 d.Room) (h1 : I64 d.Fuse) (h2 : I64 d.Next) (h3 : Slc w b3 a3 l3 k3 d.Nodes) (h4 : Slc w b4 a4 l4 k4 d.Kept) (h5 : Slc w b5 a5 l5 k5 d.Turns) : pt w (b3 ++ (b4 ++ b5)) [.int .i64 d.Room, .int .i64 d.Fuse, .int .i64 d.Next, .slice a3 l3 k3, .slice a4 l4 k4, .slice a5 l5 k5] d := by
  have h : pt w _ _ d.tup := (pt_cons (pt_i h0) (pt_cons (pt_i h1) (pt_cons (pt_i h2) (pt_cons (pt_slice.2 h3) (pt_cons (pt_slice.2 h4) (pt_slice.2 h5))))))
  first | exact h | (simp only [List.nil_append, List.append_nil, List.cons_append, List.append_assoc] at h; exact h)
theorem own_Disk {lo : Nat} {w : World} {d : DiskD} {b3 : List Nat} {a3 : Option Addr} {l3 k3 : Nat} {b4 : List Nat} {a4 : Option Addr} {l4 k4 : Nat} {b5 : List Nat} {a5 : Option Addr} {l5 k5 : Nat} (h0 : I64 d.Room) (h1 : I64 d.Fuse) (h2 : I64 d.Next) (h3 : Own lo w b3 [.slice a3 l3 k3] d.Nodes) (h4 : Own lo w b4 [.slice a4 l4 k4] d.Kept) (h5 : Own lo w b5 [.slice a5 l5 k5] d.Turns) (e34 : ∀ x ∈ b3, x ∉ b4) (e35 : ∀ x ∈ b3, x ∉ b5) (e45 : ∀ x ∈ b4, x ∉ b5) : Own lo w (b3 ++ (b4 ++ b5)) [.int .i64 d.Room, .int .i64 d.Fuse, .int .i64 d.Next, .slice a3 l3 k3, .slice a4 l4 k4, .slice a5 l5 k5] d := by
  exact ⟨mk_Disk h0 h1 h2 (pt_slice.1 h3.1) (pt_slice.1 h4.1) (pt_slice.1 h5.1), nodup2 h3.2.1 (nodup2 h4.2.1 (h5.2.1) (fun x hx hm => e45 x hx hm)) (fun x hx hm => (List.mem_append.1 hm).elim (fun hm => e34 x hx hm) (fun hm => e35 x hx hm)), fun b hb => (List.mem_append.1 hb).elim (fun hb => h3.2.2 b hb) (fun hb => (List.mem_append.1 hb).elim (fun hb => h4.2.2 b hb) (fun hb => h5.2.2 b hb))⟩
theorem parts_Disk {lo : Nat} {w : World} {d : DiskD} {cs : List Value} {b3 : List Nat} {a3 : Option Addr} {l3 k3 : Nat} {b4 : List Nat} {a4 : Option Addr} {l4 k4 : Nat} {b5 : List Nat} {a5 : Option Addr} {l5 k5 : Nat} (h : Own lo w (b3 ++ (b4 ++ b5)) cs d) (h3 : Slc w b3 a3 l3 k3 d.Nodes) (h4 : Slc w b4 a4 l4 k4 d.Kept) (h5 : Slc w b5 a5 l5 k5 d.Turns) : Own lo w b3 [.slice a3 l3 k3] d.Nodes ∧ Own lo w b4 [.slice a4 l4 k4] d.Kept ∧ Own lo w b5 [.slice a5 l5 k5] d.Turns ∧ (∀ x ∈ b3, x ∉ b4) ∧ (∀ x ∈ b3, x ∉ b5) ∧ (∀ x ∈ b4, x ∉ b5) := by
  obtain ⟨_, hn, hf⟩ := h
  have n0 := List.nodup_append.1 hn
  have hn := n0.2.1
  have n1 := List.nodup_append.1 hn
  exact ⟨⟨pt_slice.2 h3, n0.1, fun b hb => hf b (List.mem_append_left _ hb)⟩, ⟨pt_slice.2 h4, n1.1, fun b hb => hf b (List.mem_append_right _ (List.mem_append_left _ hb))⟩, ⟨pt_slice.2 h5, n1.2.1, fun b hb => hf b (List.mem_append_right _ (List.mem_append_right _ (hb)))⟩, fun x hx hm => n0.2.2 x hx x (List.mem_append_left _ hm) rfl, fun x hx hm => n0.2.2 x hx x (List.mem_append_right _ (hm)) rfl, fun x hx hm => n1.2.2 x hx x (hm) rfl⟩

structure StoreD where
  Disk : DiskD
  Keep : Int
  Size : Int
  Ents : List EntryD
  Len : Int
@[reducible] def StoreD.tup (d : StoreD) : DiskD × Int × Int × (List EntryD) × Int := (d.Disk, d.Keep, d.Size, d.Ents, d.Len)
instance : Rep StoreD := Rep.via StoreD.tup
instance : Cnt StoreD := ⟨fun d => Cnt.cnt d.Disk + Cnt.cnt d.Ents⟩
def StoreD.nkv (d : StoreD) : Nat := d.Disk.nkv + Mk.nE d.Ents
def StoreD.mkv (s : Nat) (d : StoreD) : StoreD := { d with Disk := d.Disk.mkv (s), Ents := Mk.mkE (s + d.Disk.nkv) d.Ents }
theorem open_Store {w : World} {bs : List Nat} {cs : List Value} {d : StoreD} (h : pt w bs cs d) : ∃ (b3 b4 b5 b8 : List Nat) (a3 : Option Addr) (l3 k3 : Nat) (a4 : Option Addr) (l4 k4 : Nat) (a5 : Option Addr) (l5 k5 : Nat) (a8 : Option Addr) (l8 k8 : Nat), bs = b3 ++ (b4 ++ (b5 ++ b8)) ∧ cs = [.int .i64 d.Disk.Room, .int .i64 d.Disk.Fuse, .int .i64 d.Disk.Next, .slice a3 l3 k3, .slice a4 l4 k4, .slice a5 l5 k5, .int .i64 d.Keep, .int .i64 d.Size, .slice a8 l8 k8, .int .i64 d.Len] ∧ I64 d.Disk.Room ∧ I64 d.Disk.Fuse ∧ I64 d.Disk.Next ∧ Slc w b3 a3 l3 k3 d.Disk.Nodes ∧ Slc w b4 a4 l4 k4 d.Disk.Kept ∧ Slc w b5 a5 l5 k5 d.Disk.Turns ∧ I64 d.Keep ∧ I64 d.Size ∧ Slc w b8 a8 l8 k8 d.Ents ∧ I64 d.Len := by
  obtain ⟨_, _, _, _, rfl, rfl, g0, ⟨_, _, _, _, rfl, rfl, ⟨rfl, rfl, h6⟩, ⟨_, _, _, _, rfl, rfl, ⟨rfl, rfl, h7⟩, ⟨_, _, _, _, rfl, rfl, ⟨a8, l8, k8, rfl, h8⟩, ⟨rfl, rfl, h9⟩⟩⟩⟩⟩ := h
  obtain ⟨b3, b4, b5, a3, l3, k3, a4, l4, k4, a5, l5, k5, rfl, rfl, h0, h1, h2, h3, h4, h5⟩ := open_Disk g0
  exact ⟨_, _, _, _, a3, l3, k3, a4, l4, k4, a5, l5, k5, a8, l8, k8, by simp only [List.nil_append, List.append_nil, List.append_assoc], rfl, h0, h1, h2, h3, h4, h5, h6, h7, h8, h9⟩
theorem mk_Store {w : World} {d : StoreD} {b3 : List Nat} {a3 : Option Addr} {l3 k3 : Nat} {b4 : List Nat} {a4 : Option Addr} {l4 k4 : Nat} {b5 : List Nat} {a5 : Option Addr} {l5 k5 : Nat} {b8 : List Nat} {a8 : Option Addr} {l8 k8 : Nat} (h0 : I64 d.Disk.Room) (h1 : I64 d.Disk.Fuse) (h2 : I64 d.Disk.Next) (h3 : Slc w b3 a3 l3 k3 d.Disk.Nodes) (h4 : Slc w b4 a4 l4 k4 d.Disk.Kept) (h5 : Slc w b5 a5 l5 k5 d.Disk.Turns) (h6 : I64 d.Keep) (h7 : I64 d.Size) (h8 : Slc w b8 a8 l8 k8 d.Ents) (h9 : I64 d.Len) : pt w (b3 ++ (b4 ++ (b5 ++ b8))) [.int .i64 d.Disk.Room, .int .i64 d.Disk.Fuse, .int .i64 d.Disk.Next, .slice a3 l3 k3, .slice a4 l4 k4, .slice a5 l5 k5, .int .i64 d.Keep, .int .i64 d.Size, .slice a8 l8 k8, .int .i64 d.Len] d := by
  have h : pt w _ _ d.tup := (pt_cons (mk_Disk h0 h1 h2 h3 h4 h5) (pt_cons (pt_i h6) (pt_cons (pt_i h7) (pt_cons (pt_slice.2 h8) (pt_i h9)))))
  first | exact h | (simp only [List.nil_append, List.append_nil, List.cons_append, List.append_assoc] at h; exact h)
theorem own_Store {lo : Nat} {w : World} {d : StoreD} {b3 : List Nat} {a3 : Option Addr} {l3 k3 : Nat} {b4 : List Nat} {a4 : Option Addr} {l4 k4 : Nat} {b5 : List Nat} {a5 : Option Addr} {l5 k5 : Nat} {b8 : List Nat} {a8 : Option Addr} {l8 k8 : Nat} (h0 : I64 d.Disk.Room) (h1 : I64 d.Disk.Fuse) (h2 : I64 d.Disk.Next) (h3 : Own lo w b3 [.slice a3 l3 k3] d.Disk.Nodes) (h4 : Own lo w b4 [.slice a4 l4 k4] d.Disk.Kept) (h5 : Own lo w b5 [.slice a5 l5 k5] d.Disk.Turns) (h6 : I64 d.Keep) (h7 : I64 d.Size) (h8 : Own lo w b8 [.slice a8 l8 k8] d.Ents) (h9 : I64 d.Len) (e34 : ∀ x ∈ b3, x ∉ b4) (e35 : ∀ x ∈ b3, x ∉ b5) (e38 : ∀ x ∈ b3, x ∉ b8) (e45 : ∀ x ∈ b4, x ∉ b5) (e48 : ∀ x ∈ b4, x ∉ b8) (e58 : ∀ x ∈ b5, x ∉ b8) : Own lo w (b3 ++ (b4 ++ (b5 ++ b8))) [.int .i64 d.Disk.Room, .int .i64 d.Disk.Fuse, .int .i64 d.Disk.Next, .slice a3 l3 k3, .slice a4 l4 k4, .slice a5 l5 k5, .int .i64 d.Keep, .int .i64 d.Size, .slice a8 l8 k8, .int .i64 d.Len] d := by
  exact ⟨mk_Store h0 h1 h2 (pt_slice.1 h3.1) (pt_slice.1 h4.1) (pt_slice.1 h5.1) h6 h7 (pt_slice.1 h8.1) h9, nodup2 h3.2.1 (nodup2 h4.2.1 (nodup2 h5.2.1 (h8.2.1) (fun x hx hm => e58 x hx hm)) (fun x hx hm => (List.mem_append.1 hm).elim (fun hm => e45 x hx hm) (fun hm => e48 x hx hm))) (fun x hx hm => (List.mem_append.1 hm).elim (fun hm => e34 x hx hm) (fun hm => (List.mem_append.1 hm).elim (fun hm => e35 x hx hm) (fun hm => e38 x hx hm))), fun b hb => (List.mem_append.1 hb).elim (fun hb => h3.2.2 b hb) (fun hb => (List.mem_append.1 hb).elim (fun hb => h4.2.2 b hb) (fun hb => (List.mem_append.1 hb).elim (fun hb => h5.2.2 b hb) (fun hb => h8.2.2 b hb)))⟩
theorem parts_Store {lo : Nat} {w : World} {d : StoreD} {cs : List Value} {b3 : List Nat} {a3 : Option Addr} {l3 k3 : Nat} {b4 : List Nat} {a4 : Option Addr} {l4 k4 : Nat} {b5 : List Nat} {a5 : Option Addr} {l5 k5 : Nat} {b8 : List Nat} {a8 : Option Addr} {l8 k8 : Nat} (h : Own lo w (b3 ++ (b4 ++ (b5 ++ b8))) cs d) (h3 : Slc w b3 a3 l3 k3 d.Disk.Nodes) (h4 : Slc w b4 a4 l4 k4 d.Disk.Kept) (h5 : Slc w b5 a5 l5 k5 d.Disk.Turns) (h8 : Slc w b8 a8 l8 k8 d.Ents) : Own lo w b3 [.slice a3 l3 k3] d.Disk.Nodes ∧ Own lo w b4 [.slice a4 l4 k4] d.Disk.Kept ∧ Own lo w b5 [.slice a5 l5 k5] d.Disk.Turns ∧ Own lo w b8 [.slice a8 l8 k8] d.Ents ∧ (∀ x ∈ b3, x ∉ b4) ∧ (∀ x ∈ b3, x ∉ b5) ∧ (∀ x ∈ b3, x ∉ b8) ∧ (∀ x ∈ b4, x ∉ b5) ∧ (∀ x ∈ b4, x ∉ b8) ∧ (∀ x ∈ b5, x ∉ b8) := by
  obtain ⟨_, hn, hf⟩ := h
  have n0 := List.nodup_append.1 hn
  have hn := n0.2.1
  have n1 := List.nodup_append.1 hn
  have hn := n1.2.1
  have n2 := List.nodup_append.1 hn
  exact ⟨⟨pt_slice.2 h3, n0.1, fun b hb => hf b (List.mem_append_left _ hb)⟩, ⟨pt_slice.2 h4, n1.1, fun b hb => hf b (List.mem_append_right _ (List.mem_append_left _ hb))⟩, ⟨pt_slice.2 h5, n2.1, fun b hb => hf b (List.mem_append_right _ (List.mem_append_right _ (List.mem_append_left _ hb)))⟩, ⟨pt_slice.2 h8, n2.2.1, fun b hb => hf b (List.mem_append_right _ (List.mem_append_right _ (List.mem_append_right _ (hb))))⟩, fun x hx hm => n0.2.2 x hx x (List.mem_append_left _ hm) rfl, fun x hx hm => n0.2.2 x hx x (List.mem_append_right _ (List.mem_append_left _ hm)) rfl, fun x hx hm => n0.2.2 x hx x (List.mem_append_right _ (List.mem_append_right _ (hm))) rfl, fun x hx hm => n1.2.2 x hx x (List.mem_append_left _ hm) rfl, fun x hx hm => n1.2.2 x hx x (List.mem_append_right _ (hm)) rfl, fun x hx hm => n2.2.2 x hx x (hm) rfl⟩

structure TrialD where
  Up : Bool
  Keep : Int
  Size : Int
  Store : StoreD
  Disk : DiskD
  Sure : List EntryD
  Maybe : List EntryD
@[reducible] def TrialD.tup (d : TrialD) : Bool × Int × Int × StoreD × DiskD × (List EntryD) × (List EntryD) := (d.Up, d.Keep, d.Size, d.Store, d.Disk, d.Sure, d.Maybe)
instance : Rep TrialD := Rep.via TrialD.tup
instance : Cnt TrialD := ⟨fun d => Cnt.cnt d.Store + Cnt.cnt d.Disk + Cnt.cnt d.Sure + Cnt.cnt d.Maybe⟩
def TrialD.nkv (d : TrialD) : Nat := d.Store.nkv + d.Disk.nkv + Mk.nE d.Sure + Mk.nE d.Maybe
def TrialD.mkv (s : Nat) (d : TrialD) : TrialD := { d with Store := d.Store.mkv (s), Disk := d.Disk.mkv (s + d.Store.nkv), Sure := Mk.mkE (s + d.Store.nkv + d.Disk.nkv) d.Sure, Maybe := Mk.mkE (s + d.Store.nkv + d.Disk.nkv + Mk.nE d.Sure) d.Maybe }
theorem open_Trial {w : World} {bs : List Nat} {cs : List Value} {d : TrialD} (h : pt w bs cs d) : ∃ (b6 b7 b8 b11 b16 b17 b18 b19 b20 : List Nat) (a6 : Option Addr) (l6 k6 : Nat) (a7 : Option Addr) (l7 k7 : Nat) (a8 : Option Addr) (l8 k8 : Nat) (a11 : Option Addr) (l11 k11 : Nat) (a16 : Option Addr) (l16 k16 : Nat) (a17 : Option Addr) (l17 k17 : Nat) (a18 : Option Addr) (l18 k18 : Nat) (a19 : Option Addr) (l19 k19 : Nat) (a20 : Option Addr) (l20 k20 : Nat), bs = b6 ++ (b7 ++ (b8 ++ (b11 ++ (b16 ++ (b17 ++ (b18 ++ (b19 ++ b20))))))) ∧ cs = [.bool d.Up, .int .i64 d.Keep, .int .i64 d.Size, .int .i64 d.Store.Disk.Room, .int .i64 d.Store.Disk.Fuse, .int .i64 d.Store.Disk.Next, .slice a6 l6 k6, .slice a7 l7 k7, .slice a8 l8 k8, .int .i64 d.Store.Keep, .int .i64 d.Store.Size, .slice a11 l11 k11, .int .i64 d.Store.Len, .int .i64 d.Disk.Room, .int .i64 d.Disk.Fuse, .int .i64 d.Disk.Next, .slice a16 l16 k16, .slice a17 l17 k17, .slice a18 l18 k18, .slice a19 l19 k19, .slice a20 l20 k20] ∧ I64 d.Keep ∧ I64 d.Size ∧ I64 d.Store.Disk.Room ∧ I64 d.Store.Disk.Fuse ∧ I64 d.Store.Disk.Next ∧ Slc w b6 a6 l6 k6 d.Store.Disk.Nodes ∧ Slc w b7 a7 l7 k7 d.Store.Disk.Kept ∧ Slc w b8 a8 l8 k8 d.Store.Disk.Turns ∧ I64 d.Store.Keep ∧ I64 d.Store.Size ∧ Slc w b11 a11 l11 k11 d.Store.Ents ∧ I64 d.Store.Len ∧ I64 d.Disk.Room ∧ I64 d.Disk.Fuse ∧ I64 d.Disk.Next ∧ Slc w b16 a16 l16 k16 d.Disk.Nodes ∧ Slc w b17 a17 l17 k17 d.Disk.Kept ∧ Slc w b18 a18 l18 k18 d.Disk.Turns ∧ Slc w b19 a19 l19 k19 d.Sure ∧ Slc w b20 a20 l20 k20 d.Maybe := by
  obtain ⟨_, _, _, _, rfl, rfl, ⟨rfl, rfl⟩, ⟨_, _, _, _, rfl, rfl, ⟨rfl, rfl, h1⟩, ⟨_, _, _, _, rfl, rfl, ⟨rfl, rfl, h2⟩, ⟨_, _, _, _, rfl, rfl, g3, ⟨_, _, _, _, rfl, rfl, g13, ⟨_, _, _, _, rfl, rfl, ⟨a19, l19, k19, rfl, h19⟩, ⟨a20, l20, k20, rfl, h20⟩⟩⟩⟩⟩⟩⟩ := h
  obtain ⟨b6, b7, b8, b11, a6, l6, k6, a7, l7, k7, a8, l8, k8, a11, l11, k11, rfl, rfl, h3, h4, h5, h6, h7, h8, h9, h10, h11, h12⟩ := open_Store g3
  obtain ⟨b16, b17, b18, a16, l16, k16, a17, l17, k17, a18, l18, k18, rfl, rfl, h13, h14, h15, h16, h17, h18⟩ := open_Disk g13
  exact ⟨_, _, _, _, _, _, _, _, _, a6, l6, k6, a7, l7, k7, a8, l8, k8, a11, l11, k11, a16, l16, k16, a17, l17, k17, a18, l18, k18, a19, l19, k19, a20, l20, k20, by simp only [List.nil_append, List.append_nil, List.append_assoc], rfl, h1, h2, h3, h4, h5, h6, h7, h8, h9, h10, h11, h12, h13, h14, h15, h16, h17, h18, h19, h20⟩
theorem mk_Trial {w : World} {d : TrialD} {b6 : List Nat} {a6 : Option Addr} {l6 k6 : Nat} {b7 : List Nat} {a7 : Option Addr} {l7 k7 : Nat} {b8 : List Nat} {a8 : Option Addr} {l8 k8 : Nat} {b11 : List Nat} {a11 : Option Addr} {l11 k11 : Nat} {b16 : List Nat} {a16 : Option Addr} {l16 k16 : Nat} {b17 : List Nat} {a17 : Option Addr} {l17 k17 : Nat} {b18 : List Nat} {a18 : Option Addr} {l18 k18 : Nat} {b19 : List Nat} {a19 : Option Addr} {l19 k19 : Nat} {b20 : List Nat} {a20 : Option Addr} {l20 k20 : Nat} (h1 : I64 d.Keep) (h2 : I64 d.Size) (h3 : I64 d.Store.Disk.Room) (h4 : I64 d.Store.Disk.Fuse) (h5 : I64 d.Store.Disk.Next) (h6 : Slc w b6 a6 l6 k6 d.Store.Disk.Nodes) (h7 : Slc w b7 a7 l7 k7 d.Store.Disk.Kept) (h8 : Slc w b8 a8 l8 k8 d.Store.Disk.Turns) (h9 : I64 d.Store.Keep) (h10 : I64 d.Store.Size) (h11 : Slc w b11 a11 l11 k11 d.Store.Ents) (h12 : I64 d.Store.Len) (h13 : I64 d.Disk.Room) (h14 : I64 d.Disk.Fuse) (h15 : I64 d.Disk.Next) (h16 : Slc w b16 a16 l16 k16 d.Disk.Nodes) (h17 : Slc w b17 a17 l17 k17 d.Disk.Kept) (h18 : Slc w b18 a18 l18 k18 d.Disk.Turns) (h19 : Slc w b19 a19 l19 k19 d.Sure) (h20 : Slc w b20 a20 l20 k20 d.Maybe) : pt w (b6 ++ (b7 ++ (b8 ++ (b11 ++ (b16 ++ (b17 ++ (b18 ++ (b19 ++ b20)))))))) [.bool d.Up, .int .i64 d.Keep, .int .i64 d.Size, .int .i64 d.Store.Disk.Room, .int .i64 d.Store.Disk.Fuse, .int .i64 d.Store.Disk.Next, .slice a6 l6 k6, .slice a7 l7 k7, .slice a8 l8 k8, .int .i64 d.Store.Keep, .int .i64 d.Store.Size, .slice a11 l11 k11, .int .i64 d.Store.Len, .int .i64 d.Disk.Room, .int .i64 d.Disk.Fuse, .int .i64 d.Disk.Next, .slice a16 l16 k16, .slice a17 l17 k17, .slice a18 l18 k18, .slice a19 l19 k19, .slice a20 l20 k20] d := by
  have h : pt w _ _ d.tup := (pt_cons (pt_b) (pt_cons (pt_i h1) (pt_cons (pt_i h2) (pt_cons (mk_Store h3 h4 h5 h6 h7 h8 h9 h10 h11 h12) (pt_cons (mk_Disk h13 h14 h15 h16 h17 h18) (pt_cons (pt_slice.2 h19) (pt_slice.2 h20)))))))
  first | exact h | (simp only [List.nil_append, List.append_nil, List.cons_append, List.append_assoc] at h; exact h)
theorem own_Trial {lo : Nat} {w : World} {d : TrialD} {b6 : List Nat} {a6 : Option Addr} {l6 k6 : Nat} {b7 : List Nat} {a7 : Option Addr} {l7 k7 : Nat} {b8 : List Nat} {a8 : Option Addr} {l8 k8 : Nat} {b11 : List Nat} {a11 : Option Addr} {l11 k11 : Nat} {b16 : List Nat} {a16 : Option Addr} {l16 k16 : Nat} {b17 : List Nat} {a17 : Option Addr} {l17 k17 : Nat} {b18 : List Nat} {a18 : Option Addr} {l18 k18 : Nat} {b19 : List Nat} {a19 : Option Addr} {l19 k19 : Nat} {b20 : List Nat} {a20 : Option Addr} {l20 k20 : Nat} (h1 : I64 d.Keep) (h2 : I64 d.Size) (h3 : I64 d.Store.Disk.Room) (h4 : I64 d.Store.Disk.Fuse) (h5 : I64 d.Store.Disk.Next) (h6 : Own lo w b6 [.slice a6 l6 k6] d.Store.Disk.Nodes) (h7 : Own lo w b7 [.slice a7 l7 k7] d.Store.Disk.Kept) (h8 : Own lo w b8 [.slice a8 l8 k8] d.Store.Disk.Turns) (h9 : I64 d.Store.Keep) (h10 : I64 d.Store.Size) (h11 : Own lo w b11 [.slice a11 l11 k11] d.Store.Ents) (h12 : I64 d.Store.Len) (h13 : I64 d.Disk.Room) (h14 : I64 d.Disk.Fuse) (h15 : I64 d.Disk.Next) (h16 : Own lo w b16 [.slice a16 l16 k16] d.Disk.Nodes) (h17 : Own lo w b17 [.slice a17 l17 k17] d.Disk.Kept) (h18 : Own lo w b18 [.slice a18 l18 k18] d.Disk.Turns) (h19 : Own lo w b19 [.slice a19 l19 k19] d.Sure) (h20 : Own lo w b20 [.slice a20 l20 k20] d.Maybe) (e67 : ∀ x ∈ b6, x ∉ b7) (e68 : ∀ x ∈ b6, x ∉ b8) (e611 : ∀ x ∈ b6, x ∉ b11) (e616 : ∀ x ∈ b6, x ∉ b16) (e617 : ∀ x ∈ b6, x ∉ b17) (e618 : ∀ x ∈ b6, x ∉ b18) (e619 : ∀ x ∈ b6, x ∉ b19) (e620 : ∀ x ∈ b6, x ∉ b20) (e78 : ∀ x ∈ b7, x ∉ b8) (e711 : ∀ x ∈ b7, x ∉ b11) (e716 : ∀ x ∈ b7, x ∉ b16) (e717 : ∀ x ∈ b7, x ∉ b17) (e718 : ∀ x ∈ b7, x ∉ b18) (e719 : ∀ x ∈ b7, x ∉ b19) (e720 : ∀ x ∈ b7, x ∉ b20) (e811 : ∀ x ∈ b8, x ∉ b11) (e816 : ∀ x ∈ b8, x ∉ b16) (e817 : ∀ x ∈ b8, x ∉ b17) (e818 : ∀ x ∈ b8, x ∉ b18) (e819 : ∀ x ∈ b8, x ∉ b19) (e820 : ∀ x ∈ b8, x ∉ b20) (e1116 : ∀ x ∈ b11, x ∉ b16) (e1117 : ∀ x ∈ b11, x ∉ b17) (e1118 : ∀ x ∈ b11, x ∉ b18) (e1119 : ∀ x ∈ b11, x ∉ b19) (e1120 : ∀ x ∈ b11, x ∉ b20) (e1617 : ∀ x ∈ b16, x ∉ b17) (e1618 : ∀ x ∈ b16, x ∉ b18) (e1619 : ∀ x ∈ b16, x ∉ b19) (e1620 : ∀ x ∈ b16, x ∉ b20) (e1718 : ∀ x ∈ b17, x ∉ b18) (e1719 : ∀ x ∈ b17, x ∉ b19) (e1720 : ∀ x ∈ b17, x ∉ b20) (e1819 : ∀ x ∈ b18, x ∉ b19) (e1820 : ∀ x ∈ b18, x ∉ b20) (e1920 : ∀ x ∈ b19, x ∉ b20) : Own lo w (b6 ++ (b7 ++ (b8 ++ (b11 ++ (b16 ++ (b17 ++ (b18 ++ (b19 ++ b20)))))))) [.bool d.Up, .int .i64 d.Keep, .int .i64 d.Size, .int .i64 d.Store.Disk.Room, .int .i64 d.Store.Disk.Fuse, .int .i64 d.Store.Disk.Next, .slice a6 l6 k6, .slice a7 l7 k7, .slice a8 l8 k8, .int .i64 d.Store.Keep, .int .i64 d.Store.Size, .slice a11 l11 k11, .int .i64 d.Store.Len, .int .i64 d.Disk.Room, .int .i64 d.Disk.Fuse, .int .i64 d.Disk.Next, .slice a16 l16 k16, .slice a17 l17 k17, .slice a18 l18 k18, .slice a19 l19 k19, .slice a20 l20 k20] d := by
  exact ⟨mk_Trial h1 h2 h3 h4 h5 (pt_slice.1 h6.1) (pt_slice.1 h7.1) (pt_slice.1 h8.1) h9 h10 (pt_slice.1 h11.1) h12 h13 h14 h15 (pt_slice.1 h16.1) (pt_slice.1 h17.1) (pt_slice.1 h18.1) (pt_slice.1 h19.1) (pt_slice.1 h20.1), nodup2 h6.2.1 (nodup2 h7.2.1 (nodup2 h8.2.1 (nodup2 h11.2.1 (nodup2 h16.2.1 (nodup2 h17.2.1 (nodup2 h18.2.1 (nodup2 h19.2.1 (h20.2.1) (fun x hx hm => e1920 x hx hm)) (fun x hx hm => (List.mem_append.1 hm).elim (fun hm => e1819 x hx hm) (fun hm => e1820 x hx hm))) (fun x hx hm => (List.mem_append.1 hm).elim (fun hm => e1718 x hx hm) (fun hm => (List.mem_append.1 hm).elim (fun hm => e1719 x hx hm) (fun hm => e1720 x hx hm)))) (fun x hx hm => (List.mem_append.1 hm).elim (fun hm => e1617 x hx hm) (fun hm => (List.mem_append.1 hm).elim (fun hm => e1618 x hx hm) (fun hm => (List.mem_append.1 hm).elim (fun hm => e1619 x hx hm) (fun hm => e1620 x hx hm))))) (fun x hx hm => (List.mem_append.1 hm).elim (fun hm => e1116 x hx hm) (fun hm => (List.mem_append.1 hm).elim (fun hm => e1117 x hx hm) (fun hm => (List.mem_append.1 hm).elim (fun hm => e1118 x hx hm) (fun hm => (List.mem_append.1 hm).elim (fun hm => e1119 x hx hm) (fun hm => e1120 x hx hm)))))) (fun x hx hm => (List.mem_append.1 hm).elim (fun hm => e811 x hx hm) (fun hm => (List.mem_append.1 hm).elim (fun hm => e816 x hx hm) (fun hm => (List.mem_append.1 hm).elim (fun hm => e817 x hx hm) (fun hm => (List.mem_append.1 hm).elim (fun hm => e818 x hx hm) (fun hm => (List.mem_append.1 hm).elim (fun hm => e819 x hx hm) (fun hm => e820 x hx hm))))))) (fun x hx hm => (List.mem_append.1 hm).elim (fun hm => e78 x hx hm) (fun hm => (List.mem_append.1 hm).elim (fun hm => e711 x hx hm) (fun hm => (List.mem_append.1 hm).elim (fun hm => e716 x hx hm) (fun hm => (List.mem_append.1 hm).elim (fun hm => e717 x hx hm) (fun hm => (List.mem_append.1 hm).elim (fun hm => e718 x hx hm) (fun hm => (List.mem_append.1 hm).elim (fun hm => e719 x hx hm) (fun hm => e720 x hx hm)))))))) (fun x hx hm => (List.mem_append.1 hm).elim (fun hm => e67 x hx hm) (fun hm => (List.mem_append.1 hm).elim (fun hm => e68 x hx hm) (fun hm => (List.mem_append.1 hm).elim (fun hm => e611 x hx hm) (fun hm => (List.mem_append.1 hm).elim (fun hm => e616 x hx hm) (fun hm => (List.mem_append.1 hm).elim (fun hm => e617 x hx hm) (fun hm => (List.mem_append.1 hm).elim (fun hm => e618 x hx hm) (fun hm => (List.mem_append.1 hm).elim (fun hm => e619 x hx hm) (fun hm => e620 x hx hm)))))))), fun b hb => (List.mem_append.1 hb).elim (fun hb => h6.2.2 b hb) (fun hb => (List.mem_append.1 hb).elim (fun hb => h7.2.2 b hb) (fun hb => (List.mem_append.1 hb).elim (fun hb => h8.2.2 b hb) (fun hb => (List.mem_append.1 hb).elim (fun hb => h11.2.2 b hb) (fun hb => (List.mem_append.1 hb).elim (fun hb => h16.2.2 b hb) (fun hb => (List.mem_append.1 hb).elim (fun hb => h17.2.2 b hb) (fun hb => (List.mem_append.1 hb).elim (fun hb => h18.2.2 b hb) (fun hb => (List.mem_append.1 hb).elim (fun hb => h19.2.2 b hb) (fun hb => h20.2.2 b hb))))))))⟩
theorem parts_Trial {lo : Nat} {w : World} {d : TrialD} {cs : List Value} {b6 : List Nat} {a6 : Option Addr} {l6 k6 : Nat} {b7 : List Nat} {a7 : Option Addr} {l7 k7 : Nat} {b8 : List Nat} {a8 : Option Addr} {l8 k8 : Nat} {b11 : List Nat} {a11 : Option Addr} {l11 k11 : Nat} {b16 : List Nat} {a16 : Option Addr} {l16 k16 : Nat} {b17 : List Nat} {a17 : Option Addr} {l17 k17 : Nat} {b18 : List Nat} {a18 : Option Addr} {l18 k18 : Nat} {b19 : List Nat} {a19 : Option Addr} {l19 k19 : Nat} {b20 : List Nat} {a20 : Option Addr} {l20 k20 : Nat} (h : Own lo w (b6 ++ (b7 ++ (b8 ++ (b11 ++ (b16 ++ (b17 ++ (b18 ++ (b19 ++ b20)))))))) cs d) (h6 : Slc w b6 a6 l6 k6 d.Store.Disk.Nodes) (h7 : Slc w b7 a7 l7 k7 d.Store.Disk.Kept) (h8 : Slc w b8 a8 l8 k8 d.Store.Disk.Turns) (h11 : Slc w b11 a11 l11 k11 d.Store.Ents) (h16 : Slc w b16 a16 l16 k16 d.Disk.Nodes) (h17 : Slc w b17 a17 l17 k17 d.Disk.Kept) (h18 : Slc w b18 a18 l18 k18 d.Disk.Turns) (h19 : Slc w b19 a19 l19 k19 d.Sure) (h20 : Slc w b20 a20 l20 k20 d.Maybe) : Own lo w b6 [.slice a6 l6 k6] d.Store.Disk.Nodes ∧ Own lo w b7 [.slice a7 l7 k7] d.Store.Disk.Kept ∧ Own lo w b8 [.slice a8 l8 k8] d.Store.Disk.Turns ∧ Own lo w b11 [.slice a11 l11 k11] d.Store.Ents ∧ Own lo w b16 [.slice a16 l16 k16] d.Disk.Nodes ∧ Own lo w b17 [.slice a17 l17 k17] d.Disk.Kept ∧ Own lo w b18 [.slice a18 l18 k18] d.Disk.Turns ∧ Own lo w b19 [.slice a19 l19 k19] d.Sure ∧ Own lo w b20 [.slice a20 l20 k20] d.Maybe ∧ (∀ x ∈ b6, x ∉ b7) ∧ (∀ x ∈ b6, x ∉ b8) ∧ (∀ x ∈ b6, x ∉ b11) ∧ (∀ x ∈ b6, x ∉ b16) ∧ (∀ x ∈ b6, x ∉ b17) ∧ (∀ x ∈ b6, x ∉ b18) ∧ (∀ x ∈ b6, x ∉ b19) ∧ (∀ x ∈ b6, x ∉ b20) ∧ (∀ x ∈ b7, x ∉ b8) ∧ (∀ x ∈ b7, x ∉ b11) ∧ (∀ x ∈ b7, x ∉ b16) ∧ (∀ x ∈ b7, x ∉ b17) ∧ (∀ x ∈ b7, x ∉ b18) ∧ (∀ x ∈ b7, x ∉ b19) ∧ (∀ x ∈ b7, x ∉ b20) ∧ (∀ x ∈ b8, x ∉ b11) ∧ (∀ x ∈ b8, x ∉ b16) ∧ (∀ x ∈ b8, x ∉ b17) ∧ (∀ x ∈ b8, x ∉ b18) ∧ (∀ x ∈ b8, x ∉ b19) ∧ (∀ x ∈ b8, x ∉ b20) ∧ (∀ x ∈ b11, x ∉ b16) ∧ (∀ x ∈ b11, x ∉ b17) ∧ (∀ x ∈ b11, x ∉ b18) ∧ (∀ x ∈ b11, x ∉ b19) ∧ (∀ x ∈ b11, x ∉ b20) ∧ (∀ x ∈ b16, x ∉ b17) ∧ (∀ x ∈ b16, x ∉ b18) ∧ (∀ x ∈ b16, x ∉ b19) ∧ (∀ x ∈ b16, x ∉ b20) ∧ (∀ x ∈ b17, x ∉ b18) ∧ (∀ x ∈ b17, x ∉ b19) ∧ (∀ x ∈ b17, x ∉ b20) ∧ (∀ x ∈ b18, x ∉ b19) ∧ (∀ x ∈ b18, x ∉ b20) ∧ (∀ x ∈ b19, x ∉ b20) := by
  obtain ⟨_, hn, hf⟩ := h
  have n0 := List.nodup_append.1 hn
  have hn := n0.2.1
  have n1 := List.nodup_append.1 hn
  have hn := n1.2.1
  have n2 := List.nodup_append.1 hn
  have hn := n2.2.1
  have n3 := List.nodup_append.1 hn
  have hn := n3.2.1
  have n4 := List.nodup_append.1 hn
  have hn := n4.2.1
  have n5 := List.nodup_append.1 hn
  have hn := n5.2.1
  have n6 := List.nodup_append.1 hn
  have hn := n6.2.1
  have n7 := List.nodup_append.1 hn
  exact ⟨⟨pt_slice.2 h6, n0.1, fun b hb => hf b (List.mem_append_left _ hb)⟩, ⟨pt_slice.2 h7, n1.1, fun b hb => hf b (List.mem_append_right _ (List.mem_append_left _ hb))⟩, ⟨pt_slice.2 h8, n2.1, fun b hb => hf b (List.mem_append_right _ (List.mem_append_right _ (List.mem_append_left _ hb)))⟩, ⟨pt_slice.2 h11, n3.1, fun b hb => hf b (List.mem_append_right _ (List.mem_append_right _ (List.mem_append_right _ (List.mem_append_left _ hb))))⟩, ⟨pt_slice.2 h16, n4.1, fun b hb => hf b (List.mem_append_right _ (List.mem_append_right _ (List.mem_append_right _ (List.mem_append_right _ (List.mem_append_left _ hb)))))⟩, ⟨pt_slice.2 h17, n5.1, fun b hb => hf b (List.mem_append_right _ (List.mem_append_right _ (List.mem_append_right _ (List.mem_append_right _ (List.mem_append_right _ (List.mem_append_left _ hb))))))⟩, ⟨pt_slice.2 h18, n6.1, fun b hb => hf b (List.mem_append_right _ (List.mem_append_right _ (List.mem_append_right _ (List.mem_append_right _ (List.mem_append_right _ (List.mem_append_right _ (List.mem_append_left _ hb)))))))⟩, ⟨pt_slice.2 h19, n7.1, fun b hb => hf b (List.mem_append_right _ (List.mem_append_right _ (List.mem_append_right _ (List.mem_append_right _ (List.mem_append_right _ (List.mem_append_right _ (List.mem_append_right _ (List.mem_append_left _ hb))))))))⟩, ⟨pt_slice.2 h20, n7.2.1, fun b hb => hf b (List.mem_append_right _ (List.mem_append_right _ (List.mem_append_right _ (List.mem_append_right _ (List.mem_append_right _ (List.mem_append_right _ (List.mem_append_right _ (List.mem_append_right _ (hb)))))))))⟩, fun x hx hm => n0.2.2 x hx x (List.mem_append_left _ hm) rfl, fun x hx hm => n0.2.2 x hx x (List.mem_append_right _ (List.mem_append_left _ hm)) rfl, fun x hx hm => n0.2.2 x hx x (List.mem_append_right _ (List.mem_append_right _ (List.mem_append_left _ hm))) rfl, fun x hx hm => n0.2.2 x hx x (List.mem_append_right _ (List.mem_append_right _ (List.mem_append_right _ (List.mem_append_left _ hm)))) rfl, fun x hx hm => n0.2.2 x hx x (List.mem_append_right _ (List.mem_append_right _ (List.mem_append_right _ (List.mem_append_right _ (List.mem_append_left _ hm))))) rfl, fun x hx hm => n0.2.2 x hx x (List.mem_append_right _ (List.mem_append_right _ (List.mem_append_right _ (List.mem_append_right _ (List.mem_append_right _ (List.mem_append_left _ hm)))))) rfl, fun x hx hm => n0.2.2 x hx x (List.mem_append_right _ (List.mem_append_right _ (List.mem_append_right _ (List.mem_append_right _ (List.mem_append_right _ (List.mem_append_right _ (List.mem_append_left _ hm))))))) rfl, fun x hx hm => n0.2.2 x hx x (List.mem_append_right _ (List.mem_append_right _ (List.mem_append_right _ (List.mem_append_right _ (List.mem_append_right _ (List.mem_append_right _ (List.mem_append_right _ (hm)))))))) rfl, fun x hx hm => n1.2.2 x hx x (List.mem_append_left _ hm) rfl, fun x hx hm => n1.2.2 x hx x (List.mem_append_right _ (List.mem_append_left _ hm)) rfl, fun x hx hm => n1.2.2 x hx x (List.mem_append_right _ (List.mem_append_right _ (List.mem_append_left _ hm))) rfl, fun x hx hm => n1.2.2 x hx x (List.mem_append_right _ (List.mem_append_right _ (List.mem_append_right _ (List.mem_append_left _ hm)))) rfl, fun x hx hm => n1.2.2 x hx x (List.mem_append_right _ (List.mem_append_right _ (List.mem_append_right _ (List.mem_append_right _ (List.mem_append_left _ hm))))) rfl, fun x hx hm => n1.2.2 x hx x (List.mem_append_right _ (List.mem_append_right _ (List.mem_append_right _ (List.mem_append_right _ (List.mem_append_right _ (List.mem_append_left _ hm)))))) rfl, fun x hx hm => n1.2.2 x hx x (List.mem_append_right _ (List.mem_append_right _ (List.mem_append_right _ (List.mem_append_right _ (List.mem_append_right _ (List.mem_append_right _ (hm))))))) rfl, fun x hx hm => n2.2.2 x hx x (List.mem_append_left _ hm) rfl, fun x hx hm => n2.2.2 x hx x (List.mem_append_right _ (List.mem_append_left _ hm)) rfl, fun x hx hm => n2.2.2 x hx x (List.mem_append_right _ (List.mem_append_right _ (List.mem_append_left _ hm))) rfl, fun x hx hm => n2.2.2 x hx x (List.mem_append_right _ (List.mem_append_right _ (List.mem_append_right _ (List.mem_append_left _ hm)))) rfl, fun x hx hm => n2.2.2 x hx x (List.mem_append_right _ (List.mem_append_right _ (List.mem_append_right _ (List.mem_append_right _ (List.mem_append_left _ hm))))) rfl, fun x hx hm => n2.2.2 x hx x (List.mem_append_right _ (List.mem_append_right _ (List.mem_append_right _ (List.mem_append_right _ (List.mem_append_right _ (hm)))))) rfl, fun x hx hm => n3.2.2 x hx x (List.mem_append_left _ hm) rfl, fun x hx hm => n3.2.2 x hx x (List.mem_append_right _ (List.mem_append_left _ hm)) rfl, fun x hx hm => n3.2.2 x hx x (List.mem_append_right _ (List.mem_append_right _ (List.mem_append_left _ hm))) rfl, fun x hx hm => n3.2.2 x hx x (List.mem_append_right _ (List.mem_append_right _ (List.mem_append_right _ (List.mem_append_left _ hm)))) rfl, fun x hx hm => n3.2.2 x hx x (List.mem_append_right _ (List.mem_append_right _ (List.mem_append_right _ (List.mem_append_right _ (hm))))) rfl, fun x hx hm => n4.2.2 x hx x (List.mem_append_left _ hm) rfl, fun x hx hm => n4.2.2 x hx x (List.mem_append_right _ (List.mem_append_left _ hm)) rfl, fun x hx hm => n4.2.2 x hx x (List.mem_append_right _ (List.mem_append_right _ (List.mem_append_left _ hm))) rfl, fun x hx hm => n4.2.2 x hx x (List.mem_append_right _ (List.mem_append_right _ (List.mem_append_right _ (hm)))) rfl, fun x hx hm => n5.2.2 x hx x (List.mem_append_left _ hm) rfl, fun x hx hm => n5.2.2 x hx x (List.mem_append_right _ (List.mem_append_left _ hm)) rfl, fun x hx hm => n5.2.2 x hx x (List.mem_append_right _ (List.mem_append_right _ (hm))) rfl, fun x hx hm => n6.2.2 x hx x (List.mem_append_left _ hm) rfl, fun x hx hm => n6.2.2 x hx x (List.mem_append_right _ (hm)) rfl, fun x hx hm => n7.2.2 x hx x (hm) rfl⟩

end Go.G6
