/- What the functions compute, in plain terms. -/
import Derived.Test.YtgcdgkiefbbhkaaDoorTypes
set_option linter.unusedSimpArgs false
set_option linter.unusedVariables false
namespace Go.G6
def inB (n lo hi : Int) : Bool := decide (lo ≤ n ∧ n ≤ hi)
def runeOk (r : Int) : Bool := decide (0 ≤ r ∧ r ≤ 1114111 ∧ ¬(55296 ≤ r ∧ r ≤ 57343))
def printable (r : Int) : Bool := decide (0 ≤ r ∧ r ≤ 1114111 ∧ ¬(55296 ≤ r ∧ r ≤ 57343) ∧ 32 ≤ r ∧ ¬(127 ≤ r ∧ r ≤ 159))
def typed (r : Int) : Bool := printable r || decide (r = 9 ∨ r = 10)
def allTyped (l : List Int) : Bool := l.all typed
def lineOk (l : LineD) : Bool := decide (l.Text.length ≤ 400) && allTyped l.Text && decide (0 ≤ l.At ∧ l.At ≤ l.Text.length)
theorem drop_all {α : Type} (p : α → Bool) (xs : List α) (k : Nat) (h : k < xs.length) : (xs.drop k).all p = (p xs[k] && (xs.drop (k+1)).all p) := by
  rw [List.drop_eq_getElem_cons h]; rfl
end Go.G6
namespace Go.G6
def classOf (r : Int) : Int := if r = 9 ∨ r = 10 ∨ r = 32 then 0 else if (97 ≤ r ∧ r ≤ 122) ∨ (65 ≤ r ∧ r ≤ 90) ∨ (48 ≤ r ∧ r ≤ 57) ∨ r = 95 ∨ (159 < r ∧ printable r = true) then 1 else 2
def classBig (r : Int) (big : Bool) : Int := if big = true ∧ classOf r = 2 then 1 else classOf r
def clampN (x : Int) (n : Nat) : Nat := (max 0 (min x n)).toNat
theorem clampN_le (x : Int) (n : Nat) : clampN x n ≤ n := by unfold clampN; omega
theorem clampN_eq (x : Int) (n : Nat) : max 0 (min x (n : Int)) = (clampN x n : Int) := by unfold clampN; omega

/-- On from a place, as long as p holds. -/
def skipOn {α : Type} (p : α → Bool) (t : List α) (k : Nat) : Nat := k + ((t.drop k).takeWhile p).length
theorem skipOn_yes {α : Type} {p : α → Bool} {t : List α} {k : Nat} (h : k < t.length) (hp : p t[k] = true) : skipOn p t k = skipOn p t (k + 1) := by
  unfold skipOn; rw [List.drop_eq_getElem_cons h, List.takeWhile_cons, if_pos hp, List.length_cons]; omega
theorem skipOn_no {α : Type} {p : α → Bool} {t : List α} {k : Nat} (h : k < t.length) (hp : p t[k] = false) : skipOn p t k = k := by
  unfold skipOn; rw [List.drop_eq_getElem_cons h, List.takeWhile_cons, if_neg (by simp [hp])]; simp
theorem skipOn_end {α : Type} {p : α → Bool} {t : List α} {k : Nat} (h : t.length ≤ k) : skipOn p t k = k := by
  unfold skipOn; rw [List.drop_of_length_le h]; simp
theorem skipOn_le {α : Type} {p : α → Bool} {t : List α} {k : Nat} (h : k ≤ t.length) : skipOn p t k ≤ t.length := by
  unfold skipOn
  have := (List.takeWhile_sublist p (l := t.drop k)).length_le
  simp at this; omega
/-- Back from a place, as long as p holds. -/
def skipBack {α : Type} (p : α → Bool) (t : List α) : Nat → Nat
  | 0 => 0
  | k + 1 => if h : k < t.length then (if p t[k] = true then skipBack p t k else k + 1) else k + 1
theorem skipBack_yes {α : Type} {p : α → Bool} {t : List α} {k : Nat} (h : k < t.length) (hp : p t[k] = true) : skipBack p t (k + 1) = skipBack p t k := by
  show (if h : k < t.length then (if p t[k] = true then skipBack p t k else k + 1) else k + 1) = _
  rw [dif_pos h, if_pos hp]
theorem skipBack_no {α : Type} {p : α → Bool} {t : List α} {k : Nat} (h : k < t.length) (hp : p t[k] = false) : skipBack p t (k + 1) = k + 1 := by
  show (if h : k < t.length then (if p t[k] = true then skipBack p t k else k + 1) else k + 1) = _
  rw [dif_pos h, if_neg (by simp [hp])]
theorem skipBack_le {α : Type} (p : α → Bool) (t : List α) : ∀ k, skipBack p t k ≤ k
  | 0 => Nat.le_refl _
  | k + 1 => by
    show (if h : k < t.length then (if p t[k] = true then skipBack p t k else k + 1) else k + 1) ≤ _
    have := skipBack_le p t k
    split <;> (try split) <;> omega
def isW (r : Int) : Bool := decide (classOf r = 1)
def wordOn (t : List Int) (x : Int) : Nat := skipOn isW t (skipOn (fun r => !isW r) t (clampN x t.length))
def wordBack (t : List Int) (x : Int) : Nat := skipBack isW t (skipBack (fun r => !isW r) t (clampN x t.length))

/-- The first place from k on, below n, where q holds. -/
def findUp (q : Nat → Bool) (n k : Nat) : Int := if _h : k < n then (if q k then (k : Int) else findUp q n (k + 1)) else -1
termination_by n - k
theorem findUp_lt {q : Nat → Bool} {n k : Nat} (h : k < n) : findUp q n k = if q k then (k : Int) else findUp q n (k + 1) := by rw [findUp, dif_pos h]
theorem findUp_end {q : Nat → Bool} {n k : Nat} (h : n ≤ k) : findUp q n k = -1 := by rw [findUp, dif_neg (by omega)]
/-- The last place below k, where q holds. -/
def findDown (q : Nat → Bool) : Nat → Int
  | 0 => -1
  | k + 1 => if q k then (k : Int) else findDown q k
end Go.G6
namespace Go.G6
theorem skipOn_ge {α : Type} (p : α → Bool) (t : List α) (k : Nat) : k ≤ skipOn p t k := Nat.le_add_right _ _
def digitSemi (x : UInt8) : Bool := decide ((48 ≤ x.toNat ∧ x.toNat ≤ 57) ∨ x.toNat = 59)
def costFrom (b : List UInt8) (k n : Nat) : Nat :=
  if _h : k < b.length then
    if b[k].toNat ≠ 27 then costFrom b (k + 1) (n + 1)
    else if _h2 : k + 1 < b.length then (if b[k + 1].toNat = 91 then costFrom b (skipOn digitSemi b (k + 2) + 1) n else costFrom b (k + 1) n)
    else costFrom b (k + 1) n
  else n
termination_by b.length + 2 - k
decreasing_by
  · omega
  · have := skipOn_ge digitSemi b (k + 2); omega
  · omega
  · omega
theorem cost_end {b : List UInt8} {k n : Nat} (h : b.length ≤ k) : costFrom b k n = n := by rw [costFrom, dif_neg (by omega)]
theorem cost_ne {b : List UInt8} {k n : Nat} (h : k < b.length) (hc : b[k].toNat ≠ 27) : costFrom b k n = costFrom b (k + 1) (n + 1) := by rw [costFrom, dif_pos h, if_pos hc]
theorem cost_last {b : List UInt8} {k n : Nat} (h : k < b.length) (hc : b[k].toNat = 27) (h2 : b.length ≤ k + 1) : costFrom b k n = costFrom b (k + 1) n := by
  rw [costFrom, dif_pos h, if_neg (by simp [hc]), dif_neg (by omega)]
theorem cost_lone {b : List UInt8} {k n : Nat} (h : k < b.length) (hc : b[k].toNat = 27) (h2 : k + 1 < b.length) (h3 : b[k + 1].toNat ≠ 91) : costFrom b k n = costFrom b (k + 1) n := by
  rw [costFrom, dif_pos h, if_neg (by simp [hc]), dif_pos h2, if_neg h3]
theorem cost_seq {b : List UInt8} {k n : Nat} (h : k < b.length) (hc : b[k].toNat = 27) (h2 : k + 1 < b.length) (h3 : b[k + 1].toNat = 91) : costFrom b k n = costFrom b (skipOn digitSemi b (k + 2) + 1) n := by
  rw [costFrom, dif_pos h, if_neg (by simp [hc]), dif_pos h2, if_pos h3]
def emitCost (b : List UInt8) : Nat := costFrom b 0 0

def histOk (h : HistD) : Bool := decide (1 ≤ h.First ∧ h.First ≤ 1000000000) && decide (h.Lines.length ≤ 60) && h.Lines.all (fun s => decide (1 ≤ s.size ∧ s.size ≤ 1000))
def gridNewOk (w h : Int) : Bool := decide (2 ≤ w ∧ w ≤ 200 ∧ 1 ≤ h ∧ h ≤ 200 ∧ w * h ≤ 8000)
def grid0 : GridD := ⟨0, 0, [], 0, 0, false⟩
def gridNew (w h : Int) : GridD := if gridNewOk w h then ⟨w, h, List.replicate (w * h).toNat 32, 0, 0, false⟩ else grid0
def histGetOk (h : HistD) (n : Int) : Bool := histOk h && decide (h.First ≤ n ∧ n ≤ h.First + h.Lines.length - 1)
def histGet (h : HistD) (n : Int) : ByteArray := if histGetOk h n then h.Lines.getD (n - h.First).toNat ByteArray.empty else ByteArray.empty
def histLast (h : HistD) : Int := if histOk h && decide (0 < h.Lines.length) then h.First + h.Lines.length - 1 else 0
def keyOk (k : KeyD) : Bool :=
  if k.Kind = 1 then printable k.R
  else if k.Kind = 2 then decide (k.R = 95 ∨ (97 ≤ k.R ∧ k.R ≤ 122 ∧ k.R ≠ 104 ∧ k.R ≠ 105 ∧ k.R ≠ 106 ∧ k.R ≠ 109))
  else if k.Kind = 3 then decide (33 ≤ k.R ∧ k.R ≤ 126)
  else decide (4 ≤ k.Kind ∧ k.Kind ≤ 16 ∧ k.R = 0)
def byteKey (b : Int) : KeyD :=
  if ¬ (0 ≤ b ∧ b ≤ 127) then ⟨0, 0⟩
  else if b = 8 ∨ b = 127 then ⟨5, 0⟩
  else if b = 9 then ⟨6, 0⟩
  else if b = 10 ∨ b = 13 then ⟨4, 0⟩
  else if b = 27 then ⟨7, 0⟩
  else if b = 31 then ⟨2, 95⟩
  else if 1 ≤ b ∧ b ≤ 26 then ⟨2, b + 96⟩
  else if 32 ≤ b then ⟨1, b⟩
  else ⟨16, 0⟩
end Go.G6
namespace Go.G6
theorem byteKey_range (b : Int) (h : I64 b) : I64 (byteKey b).Kind ∧ I64 (byteKey b).R := by
  unfold I64 at *
  unfold byteKey
  (repeat' split) <;> simp <;> omega
end Go.G6
namespace Go.G6
def histPut (d : HistD) (s : ByteArray) : HistD := if 60 < d.Lines.length + 1 then ⟨d.First + 1, (d.Lines ++ [s]).drop 1⟩ else ⟨d.First, d.Lines ++ [s]⟩
def histAddOk (d : HistD) (s : ByteArray) : Bool := histOk d && histOk (histPut d s)
def histAdd (d : HistD) (s : ByteArray) : HistD := if histAddOk d s then histPut d s else ⟨0, []⟩
end Go.G6
namespace Go.G6
def line0 : LineD := ⟨[], 0⟩
def lineIf (d : LineD) (ok : Bool) : LineD := if ok && lineOk d then d else line0
def goToD (d : LineD) (x : Int) : LineD := ⟨d.Text, clampN x d.Text.length⟩
def lineGo (d : LineD) (x : Int) : LineD := if lineOk d then goToD d x else line0
theorem lineOk_bounds {d : LineD} (h : lineOk d = true) : d.Text.length ≤ 400 ∧ 0 ≤ d.At ∧ d.At ≤ d.Text.length := by simp [lineOk] at h; omega
theorem lineOk_goTo {d : LineD} (x : Int) (h : lineOk d = true) : lineOk (goToD d x) = true := by
  have := clampN_le x d.Text.length
  unfold lineOk at h ⊢
  rw [Bool.and_eq_true] at h ⊢
  refine ⟨h.1, ?_⟩
  show decide (0 ≤ ((clampN x d.Text.length : Nat) : Int) ∧ ((clampN x d.Text.length : Nat) : Int) ≤ (d.Text.length : Int)) = true
  rw [decide_eq_true_eq]; omega
end Go.G6
namespace Go.G6
theorem line_nkv (d : LineD) : d.nkv = d.Text.length := nL_const _ _ fun _ => rfl
theorem lineGo_top (d : LineD) (x : Int) (h : d.Text.length ≤ 1048576) : 1 + (lineGo d x).nkv ≤ topK := by
  rw [line_nkv]; unfold lineGo topK; split <;> simp [goToD, line0] <;> omega
end Go.G6
namespace Go.G6
theorem nE_ints (xs : List Int) : Mk.nE xs ≤ Cnt.cnt xs := by rw [cnt_ints]; exact Nat.le_of_eq (nL_const _ _ fun _ => rfl)
theorem nE_bytes (xs : List UInt8) : Mk.nE xs ≤ Cnt.cnt xs := by rw [cnt_bytes]; exact Nat.le_of_eq (nL_const _ _ fun _ => rfl)
theorem nE_strs (xs : List ByteArray) : Mk.nE xs ≤ Cnt.cnt xs := by
  have : Mk.nE xs = xs.length := nL_const _ _ fun _ => rfl
  rw [this, cnt_list]; omega
theorem nkv_le_Line (d : LineD) : d.nkv ≤ Cnt.cnt d := nE_ints d.Text
theorem nL_le_cnt {α : Type} [Cnt α] (n : α → Nat) (xs : List α) (h : ∀ x, n x ≤ Cnt.cnt x + 1) : nL n xs ≤ Cnt.cnt xs := by
  rw [cnt_list]
  induction xs with
  | nil => simp [nL]
  | cons x xs ih =>
    have := h x
    simp only [nL, List.map_cons, List.sum_cons, List.length_cons] at *
    omega
theorem nkv_le_Ring (d : RingD) : d.nkv ≤ Cnt.cnt d := nL_le_cnt Mk.nE d.Pieces fun p => by
  have : Mk.nE p.Text ≤ Cnt.cnt p.Text := nE_ints p.Text
  show Mk.nE p.Text ≤ Cnt.cnt p.Text + 1
  omega
theorem nkv_le_Undo (d : UndoD) : d.nkv ≤ Cnt.cnt d := nL_le_cnt Mk.nE d.Lines fun p => by
  have : Mk.nE p.Text ≤ Cnt.cnt p.Text := nE_ints p.Text
  show Mk.nE p.Text + 1 ≤ Cnt.cnt p.Text + 1
  omega
theorem nkv_le_Hist (d : HistD) : d.nkv ≤ Cnt.cnt d := nE_strs d.Lines
theorem nkv_le_Grid (d : GridD) : d.nkv ≤ Cnt.cnt d := nE_ints d.Cells
theorem nkv_le_Vt (d : VtD) : d.nkv ≤ Cnt.cnt d := by
  have h1 := nkv_le_Grid d.Grid
  have h2 := nE_ints d.Args
  have h3 := nE_bytes d.Part
  show d.Grid.nkv + Mk.nE d.Args + Mk.nE d.Part ≤ Cnt.cnt d.Grid + Cnt.cnt d.Args + Cnt.cnt d.Part
  omega
end Go.G6
namespace Go.G6
def putD (d : LineD) (t : List Int) : LineD := ⟨d.Text.take d.At.toNat ++ t ++ d.Text.drop d.At.toNat, d.At + t.length⟩
def linePutOk (d : LineD) (t : List Int) : Bool := lineOk d && lineOk (putD d t)
def linePut (d : LineD) (t : List Int) : LineD := if linePutOk d t then putD d t else line0
theorem putD_len (d : LineD) (t : List Int) : (putD d t).Text.length = d.Text.length + t.length := by
  simp only [putD, List.length_append, List.length_take, List.length_drop]; omega
theorem linePut_top (d : LineD) (t : List Int) : 1 + (linePut d t).nkv ≤ topK := by
  rw [line_nkv]; unfold linePut; split
  · rename_i h
    simp only [linePutOk, Bool.and_eq_true] at h
    have := (lineOk_bounds h.2).1
    unfold topK; omega
  · simp [line0, topK]
def spanOk (d : LineD) (x y : Int) : Bool := lineOk d && decide (0 ≤ x ∧ x ≤ y ∧ y ≤ d.Text.length)
def cutAt (d : LineD) (x y : Int) : Int := if y ≤ d.At then d.At - (y - x) else if x < d.At then x else d.At
def cutD (d : LineD) (x y : Int) : LineD := ⟨d.Text.take x.toNat ++ d.Text.drop y.toNat, cutAt d x y⟩
def lineCut (d : LineD) (x y : Int) : LineD := if spanOk d x y then cutD d x y else line0
def lineCut2 (d : LineD) (x y : Int) : List Int := if spanOk d x y then (d.Text.take y.toNat).drop x.toNat else []
end Go.G6
