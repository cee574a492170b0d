/- The text of a key (printed by genkeytext.py). -/
import Derived.Test.YtgcdgkiefbbhkaaDoorKey
import Derived.Test.YtgcdgkiefbbhkaaDoorText
import Derived.Test.YtgcdgkiefbbhkaaDoorLate
import Derived.Test.YtgcdgkiefbbhkaaDoorCopy
import Derived.Deep.DeepCutAuto
import Derived.Shelf.LaysM
import Derived.Shelf.Strings.SplitShaped
set_option linter.unusedSimpArgs false
set_option linter.unusedVariables false
namespace Go.G6
open Go Go.RowKit
def keyNames : List ByteArray := [⟨#[69, 78, 84, 69, 82]⟩, ⟨#[66, 65, 67, 75]⟩, ⟨#[84, 65, 66]⟩, ⟨#[69, 83, 67]⟩, ⟨#[85, 80]⟩, ⟨#[68, 79, 87, 78]⟩, ⟨#[82, 73, 71, 72, 84]⟩, ⟨#[76, 69, 70, 84]⟩, ⟨#[72, 79, 77, 69]⟩, ⟨#[69, 78, 68]⟩, ⟨#[68, 69, 76, 69, 84, 69]⟩, ⟨#[77, 66, 65, 67, 75]⟩, ⟨#[66, 65, 68]⟩]
def keyText (d : KeyD) : ByteArray := if keyOk d = true then (if d.Kind = 1 then (if d.R = 32 then ⟨#[83, 80, 67]⟩ else textOf [d.R]) else if d.Kind = 2 then ⟨#[67, 45]⟩ ++ textOf [d.R] else if d.Kind = 3 then ⟨#[77, 45]⟩ ++ textOf [d.R] else keyNames.getD (d.Kind - 4).toNat ByteArray.empty) else ByteArray.empty
theorem mlk {w W : World} {g : Nat} (h : ∃ m, w.cell? ⟨g, 0, none⟩ = some (.int .i64 m)) (hb : Below w.heap.size w W) : ∃ m, W.cell? ⟨g, 0, none⟩ = some (.int .i64 m) := by
  obtain ⟨m, hm⟩ := h
  exact ⟨m, (hb.cell (World.block_lt_of_cell? w _ hm)).trans hm⟩
theorem textOf_one (r : Int) : (textOf [r]).size ≤ 4 := by
  have := textList_len [r]
  simpa [textOf, ByteArray.size] using this
end Go.G6
namespace Go.Proofs.YtgcdgkiefbbhkaaDoor
open Go.Shelf
def laysS_ren : Go.Shelf.Ren := ⟨fun | 146 => 25 | 221 => 45 | 268 => 58 | 138 => 59 | 143 => 60 | 195 => 66 | 197 => 67 | 218 => 68 | 219 => 69 | 260 => 71 | 217 => 72 | 225 => 73 | 224 => 74 | 267 => 75 | 266 => 80 | 314 => 81 | n => n, fun | 9 => 9 | 31 => 50 | 3 => 3 | 4 => 4 | 0 => 0 | 105 => 76 | 21 => 21 | 5 => 5 | 46 => 82 | 119 => 89 | 139 => 92 | 138 => 91 | 146 => 94 | 51 => 93 | n => n, fun | 1 => 0 | 3 => 1 | 4 => 2 | n => n⟩
theorem laysS : Go.Proofs.LaysM.n146 Tryd.prog laysS_ren := {
  mixed := by kernel_rfl
  f138 := Tryd.func59.trans (congrArg some (by kernel_rfl))
  f143 := Tryd.func60.trans (congrArg some (by kernel_rfl))
  f146 := Tryd.func25.trans (congrArg some (by kernel_rfl))
  f195 := Tryd.func66.trans (congrArg some (by kernel_rfl))
  f197 := Tryd.func67.trans (congrArg some (by kernel_rfl))
  f217 := Tryd.func72.trans (congrArg some (by kernel_rfl))
  f218 := Tryd.func68.trans (congrArg some (by kernel_rfl))
  f219 := Tryd.func69.trans (congrArg some (by kernel_rfl))
  f221 := Tryd.func45.trans (congrArg some (by kernel_rfl))
  f224 := Tryd.func74.trans (congrArg some (by kernel_rfl))
  f225 := Tryd.func73.trans (congrArg some (by kernel_rfl))
  f260 := Tryd.func71.trans (congrArg some (by kernel_rfl))
  f266 := Tryd.func80.trans (congrArg some (by kernel_rfl))
  f267 := Tryd.func75.trans (congrArg some (by kernel_rfl))
  f268 := Tryd.func58.trans (congrArg some (by kernel_rfl))
  f314 := Tryd.func81.trans (congrArg some (by kernel_rfl))
  t0 := Tryd.underlying0
  a0 := Tryd.isAgg0
  z0 := Tryd.sizeOf0
  v0 := Tryd.zeroValue0
  t3 := Tryd.underlying3
  a3 := Tryd.isAgg3
  z3 := Tryd.sizeOf3
  v3 := Tryd.zeroValue3
  t4 := Tryd.underlying4
  a4 := Tryd.isAgg4
  z4 := Tryd.sizeOf4
  v4 := Tryd.zeroValue4
  t5 := Tryd.underlying5
  a5 := Tryd.isAgg5
  z5 := Tryd.sizeOf5
  v5 := Tryd.zeroValue5
  t9 := Tryd.underlying9
  a9 := Tryd.isAgg9
  z9 := Tryd.sizeOf9
  v9 := Tryd.zeroValue9
  t21 := Tryd.underlying21
  a21 := Tryd.isAgg21
  z21 := Tryd.sizeOf21
  v21 := Tryd.zeroValue21
  t31 := Tryd.underlying50
  a31 := Tryd.isAgg50
  z31 := Tryd.sizeOf50
  v31 := Tryd.zeroValue50
  t46 := Tryd.underlying82
  a46 := Tryd.isAgg82
  z46 := Tryd.sizeOf82
  v46 := Tryd.zeroValue82
  t51 := Tryd.underlying93
  a51 := Tryd.isAgg93
  z51 := Tryd.sizeOf93
  v51 := Tryd.zeroValue93
  t105 := Tryd.underlying76
  a105 := Tryd.isAgg76
  z105 := Tryd.sizeOf76
  v105 := Tryd.zeroValue76
  t119 := Tryd.underlying89
  a119 := Tryd.isAgg89
  z119 := Tryd.sizeOf89
  t138 := Tryd.underlying91
  a138 := Tryd.isAgg91
  z138 := Tryd.sizeOf91
  v138 := Tryd.zeroValue91
  t139 := Tryd.underlying92
  a139 := Tryd.isAgg92
  z139 := Tryd.sizeOf92
  v139 := Tryd.zeroValue92
  t146 := Tryd.underlying94
  a146 := Tryd.isAgg94
  z146 := Tryd.sizeOf94
  v146 := Tryd.zeroValue94
  g1 := by kernel_rfl
  g3 := by kernel_rfl
  g4 := by kernel_rfl
  i0 := by kernel_rfl
  i3 := by kernel_rfl
  i4 := by kernel_rfl
  i5 := by kernel_rfl
  i9 := by kernel_rfl
  i21 := by kernel_rfl
  i31 := by kernel_rfl
  i46 := by kernel_rfl
  i51 := by kernel_rfl
  i105 := by kernel_rfl
  i138 := by kernel_rfl
  i139 := by kernel_rfl
  i146 := by kernel_rfl
  m1 := by kernel_rfl
  s1_3 := fun w h => Go.Proofs.cell_of_shapedOpen_int (zero := #[.int .i64 0]) (t := 3) h (of_decide_eq_true (by kernel_rfl)) (by kernel_rfl) rfl (by kernel_rfl) (by kernel_rfl) Tryd.underlying3
  m3 := by kernel_rfl
  m4 := by kernel_rfl }
open Go.RowKit Go.G6
set_option maxHeartbeats 3000000
set_option maxRecDepth 10000
theorem split_names : Lib.countB ⟨#[69, 78, 84, 69, 82, 32, 66, 65, 67, 75, 32, 84, 65, 66, 32, 69, 83, 67, 32, 85, 80, 32, 68, 79, 87, 78, 32, 82, 73, 71, 72, 84, 32, 76, 69, 70, 84, 32, 72, 79, 77, 69, 32, 69, 78, 68, 32, 68, 69, 76, 69, 84, 69, 32, 77, 66, 65, 67, 75, 32, 66, 65, 68]⟩ ⟨#[32]⟩ = 12 ∧ Lib.splitB ⟨#[32]⟩ 0 12 ⟨#[69, 78, 84, 69, 82, 32, 66, 65, 67, 75, 32, 84, 65, 66, 32, 69, 83, 67, 32, 85, 80, 32, 68, 79, 87, 78, 32, 82, 73, 71, 72, 84, 32, 76, 69, 70, 84, 32, 72, 79, 77, 69, 32, 69, 78, 68, 32, 68, 69, 76, 69, 84, 69, 32, 77, 66, 65, 67, 75, 32, 66, 65, 68]⟩ = keyNames := by constructor <;> kernel_rfl
theorem c_Split (w : World) (hm : ∃ m, w.cell? ⟨laysS_ren.g 1, 0, none⟩ = some (.int .i64 m)) :
    Calls Tryd.prog 25 #[.string ⟨#[69, 78, 84, 69, 82, 32, 66, 65, 67, 75, 32, 84, 65, 66, 32, 69, 83, 67, 32, 85, 80, 32, 68, 79, 87, 78, 32, 82, 73, 71, 72, 84, 32, 76, 69, 70, 84, 32, 72, 79, 77, 69, 32, 69, 78, 68, 32, 68, 69, 76, 69, 84, 69, 32, 77, 66, 65, 67, 75, 32, 66, 65, 68]⟩, .string ⟨#[32]⟩] w fun e w' => e = .returned (.slice (some ⟨w.heap.size, 0, none⟩) 13 13) ∧ w' = w.alloc (.cells (keyNames.map Value.string).toArray 9) := by
  obtain ⟨m, hm⟩ := hm
  refine (Any.strings_Split { laysS with } laysS.i9 ⟨#[69, 78, 84, 69, 82, 32, 66, 65, 67, 75, 32, 84, 65, 66, 32, 69, 83, 67, 32, 85, 80, 32, 68, 79, 87, 78, 32, 82, 73, 71, 72, 84, 32, 76, 69, 70, 84, 32, 72, 79, 77, 69, 32, 69, 78, 68, 32, 68, 69, 76, 69, 84, 69, 32, 77, 66, 65, 67, 75, 32, 66, 65, 68]⟩ ⟨#[32]⟩ m w (by decide) hm (by decide)).mono fun e w' h => ?_
  rw [split_names.1, split_names.2] at h
  exact h
theorem slc_one {w : World} {R : Int} (h : I64 R) : Slc (w.alloc (.cells #[.int .i64 R] 3)) [w.heap.size] (some ⟨w.heap.size, 0, none⟩) 1 1 [R] := by
  refine ⟨rfl, Nat.le_refl _, by decide, .inr ⟨by simp, w.heap.size, 0, [[]], [.int .i64 R], rfl, by simp, rfl, ⟨[.int .i64 R], [], rfl, ⟨rfl, rfl, h⟩, rfl⟩, ?_⟩⟩
  intro j v hv
  rw [Nat.zero_add, World.cell?_alloc_new]
  simpa using hv
theorem s_l11Names (w : World) : Calls Tryd.prog 29 #[] w fun e w' => e = .returned (.slice (some ⟨w.heap.size, 0, none⟩) 13 13) ∧ w' = w.alloc (.cells (keyNames.map Value.string).toArray 9) := by
  go_enter Tryd.func29, Tryd.ntmps29
  go_wp2
  go_ret
  exact ⟨rfl, rfl⟩
theorem i_KeyText {w : World} {bs : List Nat} {cs : List Value} {d : KeyD} (h : Rep.pt w bs cs d) (hm : ∃ m, w.cell? ⟨laysS_ren.g 1, 0, none⟩ = some (.int .i64 m)) :
    Calls Tryd.prog 12 #[.agg cs.toArray] w fun e w' => e = .returned (.string (keyText d)) ∧ Below w.heap.size w w' := by
  have H := hid h
  obtain ⟨rfl, rfl, h0, h1⟩ := open_Key h
  clear h
  cases hk : keyOk d
  · have HZ : Hid (keyText d = ByteArray.empty) := hid (by simp [keyText, hk])
    have Hk := hid hk; clear hk
    go_enter Tryd.func12, Tryd.ntmps12
    go_wp2_with fail
    refine (i_KeyOk (grow H.out ?_)).mono ?_
    · exact (Below.refl _ _).alloc (Nat.le_refl _) _
    rintro e w1 ⟨rfl, hb⟩
    have B0 : Bx w1 (w.heap.size) _ := Bx.below (b := w.heap.size) hb (by first | omega | (simp; done) | (simp; omega)) (by repeat (first  | (apply Bx.new; (focus (first | (simp; done) | (simp; omega) | omega))) | (apply Bx.alloc; rotate_left; (focus (first | (simp; done) | (simp; omega) | omega))) | (apply Bx.setOther; rotate_left; (focus (first | (simp; done) | (simp; omega) | omega))) | apply Bx.setSame))
    have B0o := B0.out
    have B0f := B0.fr
    have HB := hid (below_call ((Below.refl _ _).alloc (Nat.le_refl _) _) hb)
    have hs1 : w.heap.size < w1.heap.size := by have := hb.size; simp at this; omega
    have hs2 : ¬ w.heap.size = w1.heap.size := by omega
    clear hb
    rw [Hk.out]
    go_wp2
    go_ret
    exact ⟨by rw [HZ.out]; rfl, HB.out⟩
  have HZ : Hid (keyText d = if d.Kind = 1 then (if d.R = 32 then ⟨#[83, 80, 67]⟩ else textOf [d.R]) else if d.Kind = 2 then ⟨#[67, 45]⟩ ++ textOf [d.R] else if d.Kind = 3 then ⟨#[77, 45]⟩ ++ textOf [d.R] else keyNames.getD (d.Kind - 4).toNat ByteArray.empty) := hid (by simp [keyText, hk])
  have hK := hk
  simp only [keyOk] at hK
  obtain ⟨K, R⟩ := d
  simp only at HZ h0 h1 hK
  have Hk := hid hk; clear hk
  by_cases c1 : K = 1
  · subst c1
    clear hK h0
    by_cases c9 : R = 32
    · subst c9
      have E : Hid (keyText ⟨1, 32⟩ = ⟨#[83, 80, 67]⟩) := hid (by rw [HZ.out]; rfl)
      clear h1
      go_enter Tryd.func12, Tryd.ntmps12
      go_wp2_with fail
      refine (i_KeyOk (grow H.out ?_)).mono ?_
      · exact (Below.refl _ _).alloc (Nat.le_refl _) _
      rintro e w1 ⟨rfl, hb⟩
      have B0 : Bx w1 (w.heap.size) _ := Bx.below (b := w.heap.size) hb (by first | omega | (simp; done) | (simp; omega)) (by repeat (first  | (apply Bx.new; (focus (first | (simp; done) | (simp; omega) | omega))) | (apply Bx.alloc; rotate_left; (focus (first | (simp; done) | (simp; omega) | omega))) | (apply Bx.setOther; rotate_left; (focus (first | (simp; done) | (simp; omega) | omega))) | apply Bx.setSame))
      have B0o := B0.out
      have B0f := B0.fr
      have HB := hid (below_call ((Below.refl _ _).alloc (Nat.le_refl _) _) hb)
      have hs1 : w.heap.size < w1.heap.size := by have := hb.size; simp at this; omega
      have hs2 : ¬ w.heap.size = w1.heap.size := by omega
      clear hb
      rw [Hk.out]
      go_wp2
      go_ret
      exact ⟨by rw [E.out]; rfl, HB.out⟩
    · have E : Hid (keyText ⟨1, R⟩ = textOf [R]) := hid (by rw [HZ.out, if_pos rfl, if_neg c9])
      have HR : Hid (I64 R) := hid h1
      have c8 : (R == 32) = false := by rw [beq_eq_false_iff_ne]; exact c9
      clear h1
      go_enter Tryd.func12, Tryd.ntmps12
      go_wp2_with fail
      refine (i_KeyOk (grow H.out ?_)).mono ?_
      · exact (Below.refl _ _).alloc (Nat.le_refl _) _
      rintro e w1 ⟨rfl, hb⟩
      have B0 : Bx w1 (w.heap.size) _ := Bx.below (b := w.heap.size) hb (by first | omega | (simp; done) | (simp; omega)) (by repeat (first  | (apply Bx.new; (focus (first | (simp; done) | (simp; omega) | omega))) | (apply Bx.alloc; rotate_left; (focus (first | (simp; done) | (simp; omega) | omega))) | (apply Bx.setOther; rotate_left; (focus (first | (simp; done) | (simp; omega) | omega))) | apply Bx.setSame))
      have B0o := B0.out
      have B0f := B0.fr
      have HB := hid (below_call ((Below.refl _ _).alloc (Nat.le_refl _) _) hb)
      have hs1 : w.heap.size < w1.heap.size := by have := hb.size; simp at this; omega
      have hs2 : ¬ w.heap.size = w1.heap.size := by omega
      clear hb
      rw [Hk.out]
      go_wp2_with fail
      refine (i_TextOf (xs := [R]) (slc_one (w := w1) HR.out) (by simp)).mono ?_
      rintro e w2 ⟨rfl, hb⟩
      have HB2 := hid ((HB.out.alloc HB.out.size (.cells #[.int .i64 R] 3)).trans (hb.mono (by have := HB.out.size; simp; omega)))
      clear hb
      rw [← E.out]
      go_wp2
      go_ret
      exact ⟨rfl, HB2.out⟩
  by_cases c2 : K = 2
  · subst c2
    have E : Hid (keyText ⟨2, R⟩ = ⟨#[67, 45]⟩ ++ textOf [R]) := hid (by rw [HZ.out]; simp)
    have HR : Hid (I64 R) := hid h1
    obtain ⟨X, hX⟩ : ∃ X, X = textOf [R] := ⟨_, rfl⟩
    have sX : X.size ≤ 4 := by rw [hX]; exact textOf_one R
    have CT := hid (fun (W : World) (bs : List Nat) (a : Option Addr) (h : Slc W bs a 1 1 [R]) => by have := i_TextOf h (by simp); rw [← hX] at this; exact this)
    rw [← hX] at E
    clear h1 hK h0 hX
    go_enter Tryd.func12, Tryd.ntmps12
    go_wp2_with fail
    refine (i_KeyOk (grow H.out ?_)).mono ?_
    · exact (Below.refl _ _).alloc (Nat.le_refl _) _
    rintro e w1 ⟨rfl, hb⟩
    have B0 : Bx w1 (w.heap.size) _ := Bx.below (b := w.heap.size) hb (by first | omega | (simp; done) | (simp; omega)) (by repeat (first  | (apply Bx.new; (focus (first | (simp; done) | (simp; omega) | omega))) | (apply Bx.alloc; rotate_left; (focus (first | (simp; done) | (simp; omega) | omega))) | (apply Bx.setOther; rotate_left; (focus (first | (simp; done) | (simp; omega) | omega))) | apply Bx.setSame))
    have B0o := B0.out
    have B0f := B0.fr
    have HB := hid (below_call ((Below.refl _ _).alloc (Nat.le_refl _) _) hb)
    have hs1 : w.heap.size < w1.heap.size := by have := hb.size; simp at this; omega
    have hs2 : ¬ w.heap.size = w1.heap.size := by omega
    clear hb
    rw [Hk.out]
    go_wp2_with fail
    refine (CT.out _ _ _ (slc_one (w := w1) HR.out)).mono ?_
    rintro e w2 ⟨rfl, hb⟩
    have HB2 := hid ((HB.out.alloc HB.out.size (.cells #[.int .i64 R] 3)).trans (hb.mono (by have := HB.out.size; simp; omega)))
    clear hb
    go_wp2
    go_ret
    exact ⟨by rw [E.out]; rfl, HB2.out⟩
  by_cases c3 : K = 3
  · subst c3
    have E : Hid (keyText ⟨3, R⟩ = ⟨#[77, 45]⟩ ++ textOf [R]) := hid (by rw [HZ.out]; simp)
    have HR : Hid (I64 R) := hid h1
    obtain ⟨X, hX⟩ : ∃ X, X = textOf [R] := ⟨_, rfl⟩
    have sX : X.size ≤ 4 := by rw [hX]; exact textOf_one R
    have CT := hid (fun (W : World) (bs : List Nat) (a : Option Addr) (h : Slc W bs a 1 1 [R]) => by have := i_TextOf h (by simp); rw [← hX] at this; exact this)
    rw [← hX] at E
    clear h1 hK h0 hX
    go_enter Tryd.func12, Tryd.ntmps12
    go_wp2_with fail
    refine (i_KeyOk (grow H.out ?_)).mono ?_
    · exact (Below.refl _ _).alloc (Nat.le_refl _) _
    rintro e w1 ⟨rfl, hb⟩
    have B0 : Bx w1 (w.heap.size) _ := Bx.below (b := w.heap.size) hb (by first | omega | (simp; done) | (simp; omega)) (by repeat (first  | (apply Bx.new; (focus (first | (simp; done) | (simp; omega) | omega))) | (apply Bx.alloc; rotate_left; (focus (first | (simp; done) | (simp; omega) | omega))) | (apply Bx.setOther; rotate_left; (focus (first | (simp; done) | (simp; omega) | omega))) | apply Bx.setSame))
    have B0o := B0.out
    have B0f := B0.fr
    have HB := hid (below_call ((Below.refl _ _).alloc (Nat.le_refl _) _) hb)
    have hs1 : w.heap.size < w1.heap.size := by have := hb.size; simp at this; omega
    have hs2 : ¬ w.heap.size = w1.heap.size := by omega
    clear hb
    rw [Hk.out]
    go_wp2_with fail
    refine (CT.out _ _ _ (slc_one (w := w1) HR.out)).mono ?_
    rintro e w2 ⟨rfl, hb⟩
    have HB2 := hid ((HB.out.alloc HB.out.size (.cells #[.int .i64 R] 3)).trans (hb.mono (by have := HB.out.size; simp; omega)))
    clear hb
    go_wp2
    go_ret
    exact ⟨by rw [E.out]; rfl, HB2.out⟩
  have hR : R = 0 ∧ 4 ≤ K ∧ K ≤ 16 := by simp [c1, c2, c3] at hK; omega
  obtain ⟨rfl, hK1, hK2⟩ := hR
  obtain ⟨k, hk13, rfl⟩ : ∃ k : Nat, k < 13 ∧ K = (k : Int) + 4 := ⟨(K - 4).toNat, by omega, by omega⟩
  clear hK h0 h1 hK1 hK2 c1 c2 c3
  obtain ⟨nm, hnm⟩ : ∃ nm, nm = keyNames[k]'hk13 := ⟨_, rfl⟩
  have E : Hid (keyText ⟨(k : Int) + 4, 0⟩ = nm) := hid (by
    rw [HZ.out, if_neg (by omega), if_neg (by omega), if_neg (by omega), show ((k : Int) + 4 - 4).toNat = k by omega, hnm, List.getD_eq_getElem?_getD, List.getElem?_eq_getElem hk13]; rfl)
  have CA := hid (show ((keyNames.map Value.string).toArray)[k]? = some (.string nm) by rw [List.getElem?_toArray, List.getElem?_map, List.getElem?_eq_getElem hk13, hnm]; rfl)
  have t1 : ((k : Int) + 4 == 1) = false := by rw [beq_eq_false_iff_ne]; omega
  have t2 : ((k : Int) + 4 == 2) = false := by rw [beq_eq_false_iff_ne]; omega
  have t3 : ((k : Int) + 4 == 3) = false := by rw [beq_eq_false_iff_ne]; omega
  have hw0 : IntKind.i64.wrap (k : Int) = (k : Int) := wrapI (by omega)
  have hlt : (k : Int) < 13 := by omega
  clear hnm
  go_enter Tryd.func12, Tryd.ntmps12
  go_wp2_with fail
  refine (i_KeyOk (grow H.out ?_)).mono ?_
  · exact (Below.refl _ _).alloc (Nat.le_refl _) _
  rintro e w1 ⟨rfl, hb⟩
  have B0 : Bx w1 (w.heap.size) _ := Bx.below (b := w.heap.size) hb (by first | omega | (simp; done) | (simp; omega)) (by repeat (first  | (apply Bx.new; (focus (first | (simp; done) | (simp; omega) | omega))) | (apply Bx.alloc; rotate_left; (focus (first | (simp; done) | (simp; omega) | omega))) | (apply Bx.setOther; rotate_left; (focus (first | (simp; done) | (simp; omega) | omega))) | apply Bx.setSame))
  have B0o := B0.out
  have B0f := B0.fr
  have HB := hid (below_call ((Below.refl _ _).alloc (Nat.le_refl _) _) hb)
  have hs1 : w.heap.size < w1.heap.size := by have := hb.size; simp at this; omega
  have hs2 : ¬ w.heap.size = w1.heap.size := by omega
  clear hb
  rw [Hk.out]
  go_upto_region 12 with fail
  refine late_start (fun W => W.cell? ⟨w.heap.size, 0, none⟩ = some (.int .i64 ((k : Int) + 4))) 99 (by kernel_rfl) ?_ (fun hS => ?_)
  · exact B0o 0
  refine late_take (i := 1) (v := ?_) rfl (by kernel_rfl) (fun _ _ _ h => h) (by rfl) ?_ (by assumption) ?_
  rotate_left
  · (intro w9 hS9; (try dsimp only at hS9); (try go_split_ands); go_simp <;> with_reducible rfl)
  try simp only [Act.put, List.setIfInBounds_toArray, List.set_cons_zero, List.set_cons_succ]
  refine late_take (i := 2) (v := ?_) rfl (by kernel_rfl) (fun _ _ _ h => h) (by rfl) ?_ (by assumption) ?_
  rotate_left
  · (intro w9 hS9; (try dsimp only at hS9); (try go_split_ands); go_simp <;> with_reducible rfl)
  try simp only [Act.put, List.setIfInBounds_toArray, List.set_cons_zero, List.set_cons_succ]
  refine late_take (i := 3) (v := ?_) rfl (by kernel_rfl) (fun _ _ _ h => h) (by rfl) ?_ (by assumption) ?_
  rotate_left
  · (intro w9 hS9; (try dsimp only at hS9); (try go_split_ands); go_simp <;> with_reducible rfl)
  try simp only [Act.put, List.setIfInBounds_toArray, List.set_cons_zero, List.set_cons_succ]
  refine late_one (i := 0) rfl (by kernel_rfl) (fun K9 hK9 => ?_)
  go_simp
  refine (c_Split _ (by obtain ⟨m, hm⟩ := hm; exact ⟨m, (HB.out.cell (World.block_lt_of_cell? w _ hm)).trans hm⟩)).mono ?_
  rintro e w2 ⟨rfl, hw2⟩
  have hb : Below w1.drew.heap.size w1.drew w2 := by rw [hw2]; exact (Below.refl _ _).alloc (Nat.le_refl _) _
  have hcell : w2.cell? ⟨w1.heap.size, k, none⟩ = some (.string nm) := by rw [hw2]; exact (World.cell?_alloc_new _ _ _ k).trans CA.out
  have HB2 := hid ((HB.out.drew).trans (hb.mono HB.out.size))
  refine hK9.out _ _ (fun _ => ?_) (fun hS9 => ?_)
  · (try dsimp only); exact (hb.cell (World.block_lt_of_cell? _ _ hS)).trans hS
  replace hS := hS9 (by decide)
  clear hK9 K9 hS9
  try simp only [Act.put, List.setIfInBounds_toArray, List.set_cons_zero, List.set_cons_succ]
  clear hw2 hb
  refine late_one (i := 4) rfl (by kernel_rfl) (fun K9 hK9 => ?_)
  go_simp
  refine hK9.out _ _ (fun _ => ?_) (fun hS9 => ?_)
  · (try dsimp only); exact hS
  replace hS := hS9 (by decide)
  clear hK9 K9 hS9
  try simp only [Act.put, List.setIfInBounds_toArray, List.set_cons_zero, List.set_cons_succ]
  refine late_one (i := 5) rfl (by kernel_rfl) (fun K9 hK9 => ?_)
  go_simp
  refine hK9.out _ _ (fun _ => ?_) (fun hS9 => ?_)
  · (try dsimp only); exact hS
  replace hS := hS9 (by decide)
  clear hK9 K9 hS9
  try simp only [Act.put, List.setIfInBounds_toArray, List.set_cons_zero, List.set_cons_succ]
  refine late_one (i := 6) rfl (by kernel_rfl) (fun K9 hK9 => ?_)
  go_simp
  refine hK9.out _ _ (fun _ => ?_) (fun hS9 => ?_)
  · (try dsimp only); exact hS
  replace hS := hS9 (by decide)
  clear hK9 K9 hS9
  try simp only [Act.put, List.setIfInBounds_toArray, List.set_cons_zero, List.set_cons_succ]
  refine late_done (by kernel_rfl) ?_ _
  clear hS
  go_wp2
  go_ret
  exact ⟨by rw [E.out]; rfl, HB2.out⟩
theorem s_KeyText {w : World} {bs : List Nat} {cs : List Value} {d : KeyD} (h : Rep.pt w bs cs d) :
    Calls Tryd.prog 10 #[.agg cs.toArray] w fun e w' => e = .returned (.string (keyText d)) ∧ Below w.heap.size w w' := by
  have H := hid h
  obtain ⟨rfl, rfl, h0, h1⟩ := open_Key h
  clear h
  cases hk : keyOk d
  · have HZ : Hid (keyText d = ByteArray.empty) := hid (by simp [keyText, hk])
    have Hk := hid hk; clear hk
    go_enter Tryd.func10, Tryd.ntmps10
    go_wp2_with fail
    refine (s_KeyOk (grow H.out ?_)).mono ?_
    · exact (Below.refl _ _).alloc (Nat.le_refl _) _
    rintro e w1 ⟨rfl, hb⟩
    have B0 : Bx w1 (w.heap.size) _ := Bx.below (b := w.heap.size) hb (by first | omega | (simp; done) | (simp; omega)) (by repeat (first  | (apply Bx.new; (focus (first | (simp; done) | (simp; omega) | omega))) | (apply Bx.alloc; rotate_left; (focus (first | (simp; done) | (simp; omega) | omega))) | (apply Bx.setOther; rotate_left; (focus (first | (simp; done) | (simp; omega) | omega))) | apply Bx.setSame))
    have B0o := B0.out
    have B0f := B0.fr
    have HB := hid (below_call ((Below.refl _ _).alloc (Nat.le_refl _) _) hb)
    have hs1 : w.heap.size < w1.heap.size := by have := hb.size; simp at this; omega
    have hs2 : ¬ w.heap.size = w1.heap.size := by omega
    clear hb
    rw [Hk.out]
    go_wp2
    go_ret
    exact ⟨by rw [HZ.out]; rfl, HB.out⟩
  have HZ : Hid (keyText d = if d.Kind = 1 then (if d.R = 32 then ⟨#[83, 80, 67]⟩ else textOf [d.R]) else if d.Kind = 2 then ⟨#[67, 45]⟩ ++ textOf [d.R] else if d.Kind = 3 then ⟨#[77, 45]⟩ ++ textOf [d.R] else keyNames.getD (d.Kind - 4).toNat ByteArray.empty) := hid (by simp [keyText, hk])
  have hK := hk
  simp only [keyOk] at hK
  obtain ⟨K, R⟩ := d
  simp only at HZ h0 h1 hK
  have Hk := hid hk; clear hk
  by_cases c1 : K = 1
  · subst c1
    clear hK h0
    by_cases c9 : R = 32
    · subst c9
      have E : Hid (keyText ⟨1, 32⟩ = ⟨#[83, 80, 67]⟩) := hid (by rw [HZ.out]; rfl)
      clear h1
      go_enter Tryd.func10, Tryd.ntmps10
      go_wp2_with fail
      refine (s_KeyOk (grow H.out ?_)).mono ?_
      · exact (Below.refl _ _).alloc (Nat.le_refl _) _
      rintro e w1 ⟨rfl, hb⟩
      have B0 : Bx w1 (w.heap.size) _ := Bx.below (b := w.heap.size) hb (by first | omega | (simp; done) | (simp; omega)) (by repeat (first  | (apply Bx.new; (focus (first | (simp; done) | (simp; omega) | omega))) | (apply Bx.alloc; rotate_left; (focus (first | (simp; done) | (simp; omega) | omega))) | (apply Bx.setOther; rotate_left; (focus (first | (simp; done) | (simp; omega) | omega))) | apply Bx.setSame))
      have B0o := B0.out
      have B0f := B0.fr
      have HB := hid (below_call ((Below.refl _ _).alloc (Nat.le_refl _) _) hb)
      have hs1 : w.heap.size < w1.heap.size := by have := hb.size; simp at this; omega
      have hs2 : ¬ w.heap.size = w1.heap.size := by omega
      clear hb
      rw [Hk.out]
      go_wp2
      go_ret
      exact ⟨by rw [E.out]; rfl, HB.out⟩
    · have E : Hid (keyText ⟨1, R⟩ = textOf [R]) := hid (by rw [HZ.out, if_pos rfl, if_neg c9])
      have HR : Hid (I64 R) := hid h1
      have c8 : (R == 32) = false := by rw [beq_eq_false_iff_ne]; exact c9
      clear h1
      go_enter Tryd.func10, Tryd.ntmps10
      go_wp2_with fail
      refine (s_KeyOk (grow H.out ?_)).mono ?_
      · exact (Below.refl _ _).alloc (Nat.le_refl _) _
      rintro e w1 ⟨rfl, hb⟩
      have B0 : Bx w1 (w.heap.size) _ := Bx.below (b := w.heap.size) hb (by first | omega | (simp; done) | (simp; omega)) (by repeat (first  | (apply Bx.new; (focus (first | (simp; done) | (simp; omega) | omega))) | (apply Bx.alloc; rotate_left; (focus (first | (simp; done) | (simp; omega) | omega))) | (apply Bx.setOther; rotate_left; (focus (first | (simp; done) | (simp; omega) | omega))) | apply Bx.setSame))
      have B0o := B0.out
      have B0f := B0.fr
      have HB := hid (below_call ((Below.refl _ _).alloc (Nat.le_refl _) _) hb)
      have hs1 : w.heap.size < w1.heap.size := by have := hb.size; simp at this; omega
      have hs2 : ¬ w.heap.size = w1.heap.size := by omega
      clear hb
      rw [Hk.out]
      go_wp2_with fail
      refine (s_TextOf (xs := [R]) (slc_one (w := w1) HR.out) (by simp)).mono ?_
      rintro e w2 ⟨rfl, hb⟩
      have HB2 := hid ((HB.out.alloc HB.out.size (.cells #[.int .i64 R] 3)).trans (hb.mono (by have := HB.out.size; simp; omega)))
      clear hb
      rw [← E.out]
      go_wp2
      go_ret
      exact ⟨rfl, HB2.out⟩
  by_cases c2 : K = 2
  · subst c2
    have E : Hid (keyText ⟨2, R⟩ = ⟨#[67, 45]⟩ ++ textOf [R]) := hid (by rw [HZ.out]; simp)
    have HR : Hid (I64 R) := hid h1
    obtain ⟨X, hX⟩ : ∃ X, X = textOf [R] := ⟨_, rfl⟩
    have sX : X.size ≤ 4 := by rw [hX]; exact textOf_one R
    have CT := hid (fun (W : World) (bs : List Nat) (a : Option Addr) (h : Slc W bs a 1 1 [R]) => by have := s_TextOf h (by simp); rw [← hX] at this; exact this)
    rw [← hX] at E
    clear h1 hK h0 hX
    go_enter Tryd.func10, Tryd.ntmps10
    go_wp2_with fail
    refine (s_KeyOk (grow H.out ?_)).mono ?_
    · exact (Below.refl _ _).alloc (Nat.le_refl _) _
    rintro e w1 ⟨rfl, hb⟩
    have B0 : Bx w1 (w.heap.size) _ := Bx.below (b := w.heap.size) hb (by first | omega | (simp; done) | (simp; omega)) (by repeat (first  | (apply Bx.new; (focus (first | (simp; done) | (simp; omega) | omega))) | (apply Bx.alloc; rotate_left; (focus (first | (simp; done) | (simp; omega) | omega))) | (apply Bx.setOther; rotate_left; (focus (first | (simp; done) | (simp; omega) | omega))) | apply Bx.setSame))
    have B0o := B0.out
    have B0f := B0.fr
    have HB := hid (below_call ((Below.refl _ _).alloc (Nat.le_refl _) _) hb)
    have hs1 : w.heap.size < w1.heap.size := by have := hb.size; simp at this; omega
    have hs2 : ¬ w.heap.size = w1.heap.size := by omega
    clear hb
    rw [Hk.out]
    go_wp2_with fail
    refine (CT.out _ _ _ (slc_one (w := w1) HR.out)).mono ?_
    rintro e w2 ⟨rfl, hb⟩
    have HB2 := hid ((HB.out.alloc HB.out.size (.cells #[.int .i64 R] 3)).trans (hb.mono (by have := HB.out.size; simp; omega)))
    clear hb
    go_wp2
    go_ret
    exact ⟨by rw [E.out]; rfl, HB2.out⟩
  by_cases c3 : K = 3
  · subst c3
    have E : Hid (keyText ⟨3, R⟩ = ⟨#[77, 45]⟩ ++ textOf [R]) := hid (by rw [HZ.out]; simp)
    have HR : Hid (I64 R) := hid h1
    obtain ⟨X, hX⟩ : ∃ X, X = textOf [R] := ⟨_, rfl⟩
    have sX : X.size ≤ 4 := by rw [hX]; exact textOf_one R
    have CT := hid (fun (W : World) (bs : List Nat) (a : Option Addr) (h : Slc W bs a 1 1 [R]) => by have := s_TextOf h (by simp); rw [← hX] at this; exact this)
    rw [← hX] at E
    clear h1 hK h0 hX
    go_enter Tryd.func10, Tryd.ntmps10
    go_wp2_with fail
    refine (s_KeyOk (grow H.out ?_)).mono ?_
    · exact (Below.refl _ _).alloc (Nat.le_refl _) _
    rintro e w1 ⟨rfl, hb⟩
    have B0 : Bx w1 (w.heap.size) _ := Bx.below (b := w.heap.size) hb (by first | omega | (simp; done) | (simp; omega)) (by repeat (first  | (apply Bx.new; (focus (first | (simp; done) | (simp; omega) | omega))) | (apply Bx.alloc; rotate_left; (focus (first | (simp; done) | (simp; omega) | omega))) | (apply Bx.setOther; rotate_left; (focus (first | (simp; done) | (simp; omega) | omega))) | apply Bx.setSame))
    have B0o := B0.out
    have B0f := B0.fr
    have HB := hid (below_call ((Below.refl _ _).alloc (Nat.le_refl _) _) hb)
    have hs1 : w.heap.size < w1.heap.size := by have := hb.size; simp at this; omega
    have hs2 : ¬ w.heap.size = w1.heap.size := by omega
    clear hb
    rw [Hk.out]
    go_wp2_with fail
    refine (CT.out _ _ _ (slc_one (w := w1) HR.out)).mono ?_
    rintro e w2 ⟨rfl, hb⟩
    have HB2 := hid ((HB.out.alloc HB.out.size (.cells #[.int .i64 R] 3)).trans (hb.mono (by have := HB.out.size; simp; omega)))
    clear hb
    go_wp2
    go_ret
    exact ⟨by rw [E.out]; rfl, HB2.out⟩
  have hR : R = 0 ∧ 4 ≤ K ∧ K ≤ 16 := by simp [c1, c2, c3] at hK; omega
  obtain ⟨rfl, hK1, hK2⟩ := hR
  obtain ⟨k, hk13, rfl⟩ : ∃ k : Nat, k < 13 ∧ K = (k : Int) + 4 := ⟨(K - 4).toNat, by omega, by omega⟩
  clear hK h0 h1 hK1 hK2 c1 c2 c3
  obtain ⟨nm, hnm⟩ : ∃ nm, nm = keyNames[k]'hk13 := ⟨_, rfl⟩
  have E : Hid (keyText ⟨(k : Int) + 4, 0⟩ = nm) := hid (by
    rw [HZ.out, if_neg (by omega), if_neg (by omega), if_neg (by omega), show ((k : Int) + 4 - 4).toNat = k by omega, hnm, List.getD_eq_getElem?_getD, List.getElem?_eq_getElem hk13]; rfl)
  have CA := hid (show ((keyNames.map Value.string).toArray)[k]? = some (.string nm) by rw [List.getElem?_toArray, List.getElem?_map, List.getElem?_eq_getElem hk13, hnm]; rfl)
  have t1 : ((k : Int) + 4 == 1) = false := by rw [beq_eq_false_iff_ne]; omega
  have t2 : ((k : Int) + 4 == 2) = false := by rw [beq_eq_false_iff_ne]; omega
  have t3 : ((k : Int) + 4 == 3) = false := by rw [beq_eq_false_iff_ne]; omega
  have hw0 : IntKind.i64.wrap (k : Int) = (k : Int) := wrapI (by omega)
  have hlt : (k : Int) < 13 := by omega
  clear hnm
  go_enter Tryd.func10, Tryd.ntmps10
  go_wp2_with fail
  refine (s_KeyOk (grow H.out ?_)).mono ?_
  · exact (Below.refl _ _).alloc (Nat.le_refl _) _
  rintro e w1 ⟨rfl, hb⟩
  have B0 : Bx w1 (w.heap.size) _ := Bx.below (b := w.heap.size) hb (by first | omega | (simp; done) | (simp; omega)) (by repeat (first  | (apply Bx.new; (focus (first | (simp; done) | (simp; omega) | omega))) | (apply Bx.alloc; rotate_left; (focus (first | (simp; done) | (simp; omega) | omega))) | (apply Bx.setOther; rotate_left; (focus (first | (simp; done) | (simp; omega) | omega))) | apply Bx.setSame))
  have B0o := B0.out
  have B0f := B0.fr
  have HB := hid (below_call ((Below.refl _ _).alloc (Nat.le_refl _) _) hb)
  have hs1 : w.heap.size < w1.heap.size := by have := hb.size; simp at this; omega
  have hs2 : ¬ w.heap.size = w1.heap.size := by omega
  clear hb
  rw [Hk.out]
  go_upto_region 12 with fail
  refine late_start (fun W => W.cell? ⟨w.heap.size, 0, none⟩ = some (.int .i64 ((k : Int) + 4))) 99 (by kernel_rfl) ?_ (fun hS => ?_)
  · exact B0o 0
  refine late_take (i := 1) (v := ?_) rfl (by kernel_rfl) (fun _ _ _ h => h) (by rfl) ?_ (by assumption) ?_
  rotate_left
  · (intro w9 hS9; (try dsimp only at hS9); (try go_split_ands); go_simp <;> with_reducible rfl)
  try simp only [Act.put, List.setIfInBounds_toArray, List.set_cons_zero, List.set_cons_succ]
  refine late_take (i := 2) (v := ?_) rfl (by kernel_rfl) (fun _ _ _ h => h) (by rfl) ?_ (by assumption) ?_
  rotate_left
  · (intro w9 hS9; (try dsimp only at hS9); (try go_split_ands); go_simp <;> with_reducible rfl)
  try simp only [Act.put, List.setIfInBounds_toArray, List.set_cons_zero, List.set_cons_succ]
  refine late_take (i := 3) (v := ?_) rfl (by kernel_rfl) (fun _ _ _ h => h) (by rfl) ?_ (by assumption) ?_
  rotate_left
  · (intro w9 hS9; (try dsimp only at hS9); (try go_split_ands); go_simp <;> with_reducible rfl)
  try simp only [Act.put, List.setIfInBounds_toArray, List.set_cons_zero, List.set_cons_succ]
  refine late_one (i := 0) rfl (by kernel_rfl) (fun K9 hK9 => ?_)
  go_simp
  refine (s_l11Names _).mono ?_
  rintro e w2 ⟨rfl, hw2⟩
  have hb : Below w1.drew.heap.size w1.drew w2 := by rw [hw2]; exact (Below.refl _ _).alloc (Nat.le_refl _) _
  have hcell : w2.cell? ⟨w1.heap.size, k, none⟩ = some (.string nm) := by rw [hw2]; exact (World.cell?_alloc_new _ _ _ k).trans CA.out
  have HB2 := hid ((HB.out.drew).trans (hb.mono HB.out.size))
  refine hK9.out _ _ (fun _ => ?_) (fun hS9 => ?_)
  · (try dsimp only); exact (hb.cell (World.block_lt_of_cell? _ _ hS)).trans hS
  replace hS := hS9 (by decide)
  clear hK9 K9 hS9
  try simp only [Act.put, List.setIfInBounds_toArray, List.set_cons_zero, List.set_cons_succ]
  clear hw2 hb
  refine late_one (i := 4) rfl (by kernel_rfl) (fun K9 hK9 => ?_)
  go_simp
  refine hK9.out _ _ (fun _ => ?_) (fun hS9 => ?_)
  · (try dsimp only); exact hS
  replace hS := hS9 (by decide)
  clear hK9 K9 hS9
  try simp only [Act.put, List.setIfInBounds_toArray, List.set_cons_zero, List.set_cons_succ]
  refine late_one (i := 5) rfl (by kernel_rfl) (fun K9 hK9 => ?_)
  go_simp
  refine hK9.out _ _ (fun _ => ?_) (fun hS9 => ?_)
  · (try dsimp only); exact hS
  replace hS := hS9 (by decide)
  clear hK9 K9 hS9
  try simp only [Act.put, List.setIfInBounds_toArray, List.set_cons_zero, List.set_cons_succ]
  refine late_one (i := 6) rfl (by kernel_rfl) (fun K9 hK9 => ?_)
  go_simp
  refine hK9.out _ _ (fun _ => ?_) (fun hS9 => ?_)
  · (try dsimp only); exact hS
  replace hS := hS9 (by decide)
  clear hK9 K9 hS9
  try simp only [Act.put, List.setIfInBounds_toArray, List.set_cons_zero, List.set_cons_succ]
  refine late_done (by kernel_rfl) ?_ _
  clear hS
  go_wp2
  go_ret
  exact ⟨by rw [E.out]; rfl, HB2.out⟩
end Go.Proofs.YtgcdgkiefbbhkaaDoor
