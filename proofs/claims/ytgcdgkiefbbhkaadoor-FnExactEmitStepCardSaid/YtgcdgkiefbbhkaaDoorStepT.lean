/- Moving the cursor by as few bytes as possible: the reference, whole. -/
import Derived.Test.YtgcdgkiefbbhkaaDoorStepS
set_option linter.unusedSimpArgs false
set_option linter.unusedVariables false
namespace Go.G6
open Go Go.RowKit Rep
/-- The grid's box and the best way so far. -/
def SpSt (b0 : Nat) (c0 : Array Value) (w W : World) (a : Option Addr) (l c : Nat) (best : List UInt8) : Prop := Bx W b0 c0 ∧ b0 < W.heap.size ∧ (∃ bs, Slc W bs a l c best) ∧ Below w.heap.size w W
theorem SpSt.below {b0 : Nat} {c0 : Array Value} {w W W' : World} {a : Option Addr} {l c : Nat} {best : List UInt8} (h : SpSt b0 c0 w W a l c best) (hb : Below W.heap.size W W') : SpSt b0 c0 w W' a l c best := by
  obtain ⟨h1, h2, ⟨bs, h3⟩, h4⟩ := h
  exact ⟨h1.below hb h2, Nat.lt_of_lt_of_le h2 hb.size, ⟨bs, h3.grow hb⟩, h4.trans (hb.mono h4.size)⟩
theorem SpSt.next {b0 : Nat} {c0 : Array Value} {w W W' : World} {a a' : Option Addr} {l c l' c' : Nat} {best best' : List UInt8} {bs : List Nat} (h : SpSt b0 c0 w W a l c best) (hb : Below W.heap.size W W') (hs : Slc W' bs a' l' c' best') : SpSt b0 c0 w W' a' l' c' best' :=
  ⟨(h.below hb).1, (h.below hb).2.1, ⟨bs, hs⟩, (h.below hb).2.2.2⟩
theorem esc_cat (X : ByteArray) (k : UInt8) : (⟨#[27, 91]⟩ ++ X ++ ⟨#[k]⟩ : ByteArray).data.toList = escB (X ++ ⟨#[k]⟩) := by simp [escB]
theorem rep_succ (k : Nat) : List.replicate k (8 : UInt8) ++ [8] = List.replicate (k + 1) 8 := List.replicate_succ'.symm
theorem slc_cr {e : TypeId} (W : World) {N : Nat} (hN : N = W.heap.size) : Slc (W.alloc (.cells #[.int .u8 13] e)) [N] (some ⟨N, 0, none⟩) 1 1 ([13] : List UInt8) := pt_slice.1 (own_cr (lo := 0) W (Nat.zero_le _) hN).1
theorem slc_none {e : TypeId} (W : World) {N : Nat} : Slc (W.alloc (.cells #[] e)) [] (some ⟨N, 0, none⟩) 0 0 ([] : List UInt8) := ⟨rfl, Nat.le_refl _, Nat.zero_le _, .inl ⟨rfl, rfl, fun h => by cases h⟩⟩
end Go.G6
namespace Go.Proofs.YtgcdgkiefbbhkaaDoor
open Go.RowKit Go.G6
set_option maxHeartbeats 3000000
set_option maxRecDepth 10000
theorem s_EmitStep {w : World} {bs : List Nat} {cs : List Value} {d : GridD} (h : Rep.pt w bs cs d) (x : Int) (hx : I64 x) (y : Int) (hy : I64 y) :
    Calls Tryd.prog 19 #[.agg cs.toArray, .int .i64 x, .int .i64 y] w (RetSPB w (emitStep d x y) (.bool (stepOk d x y))) := by
  have hcv : ∀ (W : World) (s : ByteArray), (convert 9 32 (.string s)).run Tryd.prog W = .ok (.slice (some ⟨W.heap.size, 0, none⟩) s.size (grownCap W s.size 0 5)) (W.drew.alloc (.cells (bytesRow s (grownCap W s.size 0 5)) 5 ((bytesRow s (grownCap W s.size 0 5)).size, (bytesRow s (grownCap W s.size 0 5)).size + 1))) := fun W s => run_bytes_of_string W _ _ _ s Tryd.underlying9 Tryd.underlying32 Tryd.underlying5
  have H := hid h
  obtain ⟨a2, l2, k2, rfl, h0, h1, h2, h3, h4⟩ := open_Grid h
  obtain rfl := h2.len_eq
  have hm := h2.max
  obtain ⟨iB, hiB, hzB0, hzB1, hzB2⟩ := info_parts info_byte
  clear h h2
  cases hg : gridOk d
  · have HG := hid hg
    have E : Hid (emitStep d x y = [] ∧ stepOk d x y = false) := hid (by simp [emitStep, stepOk, hg])
    clear hg
    go_enter Tryd.func19, Tryd.ntmps19
    go_wp2_with fail
    refine (s_GridOk (grow H.out ((Below.refl _ _).alloc (Nat.le_refl _) _))).mono ?_
    rintro e w1 ⟨rfl, hb⟩
    have HBX := hid (((Bx.new w #[.int .i64 d.W, .int .i64 d.H, .slice a2 d.Cells.length k2, .int .i64 d.X, .int .i64 d.Y, .bool d.Wrap] 43 rfl).below hb (by simp)))
    have B0o := HBX.out.out
    have HB := hid (below_call ((Below.refl _ _).alloc (Nat.le_refl _) _) hb)
    have hz1 : w.heap.size < w1.heap.size := by have := hb.size; simp at this; omega
    clear hb
    rw [HG.out]
    go_wp2
    go_ret2
    exact ⟨none, 0, 0, [], by rw [E.out.2]; rfl, by rw [E.out.1]; exact (own_nil 0 _).1, HB.out⟩
  have HG := hid hg
  have HSH := hid (gridOk_shape hg)
  have HPS := hid (gridOk_pos hg)
  have HB0 := hid (show ¬ (0 ≤ x ∧ x < d.W ∧ 0 ≤ y ∧ y < d.H) → emitStep d x y = [] ∧ stepOk d x y = false from fun h => by simp [emitStep, stepOk, gridIn]; omega)
  have HB1 := hid (show (0 ≤ x ∧ x < d.W ∧ 0 ≤ y ∧ y < d.H) → emitStep d x y = stepB d x y ∧ stepOk d x y = true from fun h => by
    have hok : stepOk d x y = true := by simp [stepOk, gridIn, hg]; omega
    exact ⟨by unfold emitStep; rw [if_pos hok], hok⟩)
  clear hg
  by_cases c1 : x < 0
  · have E := hid (HB0.out (by omega))
    go_enter Tryd.func19, Tryd.ntmps19
    go_wp2_with fail
    refine (s_GridOk (grow H.out ((Below.refl _ _).alloc (Nat.le_refl _) _))).mono ?_
    rintro e w1 ⟨rfl, hb⟩
    have HBX := hid (((Bx.new w #[.int .i64 d.W, .int .i64 d.H, .slice a2 d.Cells.length k2, .int .i64 d.X, .int .i64 d.Y, .bool d.Wrap] 43 rfl).below hb (by simp)))
    have B0o := HBX.out.out
    have HB := hid (below_call ((Below.refl _ _).alloc (Nat.le_refl _) _) hb)
    have hz1 : w.heap.size < w1.heap.size := by have := hb.size; simp at this; omega
    clear hb
    rw [HG.out]
    go_wp2
    go_ret2
    exact ⟨none, 0, 0, [], by rw [E.out.2]; rfl, by rw [E.out.1]; exact (own_nil 0 _).1, HB.out⟩
  by_cases c2 : ¬ x < d.W
  · have E := hid (HB0.out (by omega))
    have c2x : d.W ≤ x := by omega
    go_enter Tryd.func19, Tryd.ntmps19
    go_wp2_with fail
    refine (s_GridOk (grow H.out ((Below.refl _ _).alloc (Nat.le_refl _) _))).mono ?_
    rintro e w1 ⟨rfl, hb⟩
    have HBX := hid (((Bx.new w #[.int .i64 d.W, .int .i64 d.H, .slice a2 d.Cells.length k2, .int .i64 d.X, .int .i64 d.Y, .bool d.Wrap] 43 rfl).below hb (by simp)))
    have B0o := HBX.out.out
    have HB := hid (below_call ((Below.refl _ _).alloc (Nat.le_refl _) _) hb)
    have hz1 : w.heap.size < w1.heap.size := by have := hb.size; simp at this; omega
    clear hb
    rw [HG.out]
    go_wp2
    go_ret2
    exact ⟨none, 0, 0, [], by rw [E.out.2]; rfl, by rw [E.out.1]; exact (own_nil 0 _).1, HB.out⟩
  have c2y : ¬ d.W ≤ x := by omega
  by_cases c3 : y < 0
  · have E := hid (HB0.out (by omega))
    go_enter Tryd.func19, Tryd.ntmps19
    go_wp2_with fail
    refine (s_GridOk (grow H.out ((Below.refl _ _).alloc (Nat.le_refl _) _))).mono ?_
    rintro e w1 ⟨rfl, hb⟩
    have HBX := hid (((Bx.new w #[.int .i64 d.W, .int .i64 d.H, .slice a2 d.Cells.length k2, .int .i64 d.X, .int .i64 d.Y, .bool d.Wrap] 43 rfl).below hb (by simp)))
    have B0o := HBX.out.out
    have HB := hid (below_call ((Below.refl _ _).alloc (Nat.le_refl _) _) hb)
    have hz1 : w.heap.size < w1.heap.size := by have := hb.size; simp at this; omega
    clear hb
    rw [HG.out]
    go_wp2
    go_ret2
    exact ⟨none, 0, 0, [], by rw [E.out.2]; rfl, by rw [E.out.1]; exact (own_nil 0 _).1, HB.out⟩
  by_cases c4 : ¬ y < d.H
  · have E := hid (HB0.out (by omega))
    have c4x : d.H ≤ y := by omega
    go_enter Tryd.func19, Tryd.ntmps19
    go_wp2_with fail
    refine (s_GridOk (grow H.out ((Below.refl _ _).alloc (Nat.le_refl _) _))).mono ?_
    rintro e w1 ⟨rfl, hb⟩
    have HBX := hid (((Bx.new w #[.int .i64 d.W, .int .i64 d.H, .slice a2 d.Cells.length k2, .int .i64 d.X, .int .i64 d.Y, .bool d.Wrap] 43 rfl).below hb (by simp)))
    have B0o := HBX.out.out
    have HB := hid (below_call ((Below.refl _ _).alloc (Nat.le_refl _) _) hb)
    have hz1 : w.heap.size < w1.heap.size := by have := hb.size; simp at this; omega
    clear hb
    rw [HG.out]
    go_wp2
    go_ret2
    exact ⟨none, 0, 0, [], by rw [E.out.2]; rfl, by rw [E.out.1]; exact (own_nil 0 _).1, HB.out⟩
  have c4y : ¬ d.H ≤ y := by omega
  have E := hid (HB1.out (by omega))
  clear HB0 HB1
  have q1 : 0 ≤ x ∧ x ≤ 199 := by have := HSH.out; omega
  have q2 : 0 ≤ y ∧ y ≤ 199 := by have := HSH.out; omega
  have q3 : 0 ≤ d.X ∧ d.X ≤ 199 := by have := HSH.out; have := HPS.out; omega
  have hwa : wrap64 (d.X - x) = d.X - x := IntWalk.wrap64_in _ (by omega)
  have hwb : wrap64 (x - d.X) = x - d.X := IntWalk.wrap64_in _ (by omega)
  obtain ⟨X1, hX1⟩ : ∃ X : ByteArray, X = numText (d.X - x) := ⟨_, rfl⟩
  obtain ⟨X2, hX2⟩ : ∃ X : ByteArray, X = numText (x - d.X) := ⟨_, rfl⟩
  obtain ⟨S1, hS1⟩ : ∃ S : ByteArray, ⟨#[27, 91]⟩ ++ X1 ++ ⟨#[68]⟩ = S := ⟨_, rfl⟩
  obtain ⟨S2, hS2⟩ : ∃ S : ByteArray, ⟨#[27, 91]⟩ ++ X2 ++ ⟨#[67]⟩ = S := ⟨_, rfl⟩
  have sX1 : X1.size ≤ 21 := by rw [hX1]; exact numText_size _
  have sX2 : X2.size ≤ 21 := by rw [hX2]; exact numText_size _
  have HM1 : Hid (S1.size ≤ maxLen) := hid (by rw [← hS1]; have q1 : (⟨#[68]⟩ : ByteArray).size = 1 := rfl; have q3 : (⟨#[27, 91]⟩ : ByteArray).size = 2 := rfl; simp; unfold maxLen; omega)
  have HM2 : Hid (S2.size ≤ maxLen) := hid (by rw [← hS2]; have q1 : (⟨#[67]⟩ : ByteArray).size = 1 := rfl; have q3 : (⟨#[27, 91]⟩ : ByteArray).size = 2 := rfl; simp; unfold maxLen; omega)
  have HS1 := hid (show S1.data.toList = wayD d x by rw [← hS1, esc_cat, hX1]; rfl)
  have HS2 := hid (show S2.data.toList = wayC d x by rw [← hS2, esc_cat, hX2]; rfl)
  have CX1 := hid (fun (W : World) => by have := s_NumText (d.X - x) W; rw [← hX1] at this; exact this)
  have CX2 := hid (fun (W : World) => by have := s_NumText (x - d.X) W; rw [← hX2] at this; exact this)
  clear hX1 hX2
  have hl0 := E
  by_cases hy0 : y = d.Y
  rotate_left
  · have hyb : (y == d.Y) = false := by rw [beq_eq_false_iff_ne]; exact hy0
    have HF := hid (show stepB d x y = stepW false false d x y by unfold stepB; rw [show decide (y = d.Y) = false by simpa using hy0]; rfl)
    go_enter Tryd.func19, Tryd.ntmps19
    go_wp2_with fail
    refine (s_GridOk (grow H.out ((Below.refl _ _).alloc (Nat.le_refl _) _))).mono ?_
    rintro e w1 ⟨rfl, hb⟩
    have HBX := hid (((Bx.new w #[.int .i64 d.W, .int .i64 d.H, .slice a2 d.Cells.length k2, .int .i64 d.X, .int .i64 d.Y, .bool d.Wrap] 43 rfl).below hb (by simp)))
    have B0o := HBX.out.out
    have HB := hid (below_call ((Below.refl _ _).alloc (Nat.le_refl _) _) hb)
    have hz1 : w.heap.size < w1.heap.size := by have := hb.size; simp at this; omega
    clear hb
    rw [HG.out]
    go_wp2_with fail
    refine (s_EmitGoto x hx y hy w1).mono ?_
    rintro e v0 ⟨a0, l0, c0, b0, rfl, hO, hb⟩
    have HST := hid (show SpSt w.heap.size #[.int .i64 d.W, .int .i64 d.H, .slice a2 d.Cells.length k2, .int .i64 d.X, .int .i64 d.Y, .bool d.Wrap] w v0 a0 l0 c0 (gotoB x y) from ⟨HBX.out.below hb hz1, Nat.lt_of_lt_of_le hz1 hb.size, ⟨b0, pt_slice.1 hO⟩, HB.out.trans (hb.mono HB.out.size)⟩)
    clear hO hb HB HBX B0o hz1
    have B0o := HST.out.1.out
    go_wp2_with fail
    refine (CX1.out _).mono ?_
    rintro e v1 ⟨rfl, hb⟩
    have HST := hid (HST.out.below hb)
    clear hb B0o
    have B0o := HST.out.1.out
    have hzv1 : w.heap.size < v1.heap.size := HST.out.2.1
    have hzw1 : ¬ w.heap.size = v1.heap.size := by omega
    obtain ⟨bS, hS⟩ := slc_bytes (w := v1) S1 (grownCap v1 S1.size 0 5) 5 ((bytesRow S1 (grownCap v1 S1.size 0 5)).size, (bytesRow S1 (grownCap v1 S1.size 0 5)).size + 1) rfl rfl (grownCap_ge _ _ _ _) (grownCap_le_maxLen _ _ _ _ HM1.out)
    have HSN := hid (show Slc ((v1.alloc (.cells (bytesRow S1 (grownCap v1 S1.size 0 5)) 5 ((bytesRow S1 (grownCap v1 S1.size 0 5)).size, (bytesRow S1 (grownCap v1 S1.size 0 5)).size + 1))).drew) bS _ _ _ _ from hS.grow ⟨rfl, rfl, rfl, Nat.le_refl _, fun _ _ => rfl⟩)
    have HBN := hid ((Below.refl v1.heap.size v1).alloc (Nat.le_refl _) (.cells (bytesRow S1 (grownCap v1 S1.size 0 5)) 5 ((bytesRow S1 (grownCap v1 S1.size 0 5)).size, (bytesRow S1 (grownCap v1 S1.size 0 5)).size + 1)))
    clear hS
    go_wp2_with fail
    refine (s_l10Shorter HSN.out _ ((HST.out.below (HBN.out.drew)).2.2.1.choose_spec)).mono ?_
    rintro e u1 ⟨⟨pa1, pl1, pc1, pb1, rfl, hsl⟩, hu⟩
    rw [HS1.out] at hsl
    have HST := hid (HST.out.next (hu ▸ HBN.out.drew) hsl)
    have hln := hid (hsl.max)
    clear hu hsl HSN HBN B0o
    have B0o := HST.out.1.out
    go_wp2_with fail
    refine (CX2.out _).mono ?_
    rintro e v2 ⟨rfl, hb⟩
    have HST := hid (HST.out.below hb)
    clear hb B0o
    have B0o := HST.out.1.out
    have hzv2 : w.heap.size < v2.heap.size := HST.out.2.1
    have hzw2 : ¬ w.heap.size = v2.heap.size := by omega
    obtain ⟨bS, hS⟩ := slc_bytes (w := v2) S2 (grownCap v2 S2.size 0 5) 5 ((bytesRow S2 (grownCap v2 S2.size 0 5)).size, (bytesRow S2 (grownCap v2 S2.size 0 5)).size + 1) rfl rfl (grownCap_ge _ _ _ _) (grownCap_le_maxLen _ _ _ _ HM2.out)
    have HSN := hid (show Slc ((v2.alloc (.cells (bytesRow S2 (grownCap v2 S2.size 0 5)) 5 ((bytesRow S2 (grownCap v2 S2.size 0 5)).size, (bytesRow S2 (grownCap v2 S2.size 0 5)).size + 1))).drew) bS _ _ _ _ from hS.grow ⟨rfl, rfl, rfl, Nat.le_refl _, fun _ _ => rfl⟩)
    have HBN := hid ((Below.refl v2.heap.size v2).alloc (Nat.le_refl _) (.cells (bytesRow S2 (grownCap v2 S2.size 0 5)) 5 ((bytesRow S2 (grownCap v2 S2.size 0 5)).size, (bytesRow S2 (grownCap v2 S2.size 0 5)).size + 1)))
    clear hS
    go_wp2_with fail
    refine (s_l10Shorter HSN.out _ ((HST.out.below (HBN.out.drew)).2.2.1.choose_spec)).mono ?_
    rintro e u2 ⟨⟨pa2, pl2, pc2, pb2, rfl, hsl⟩, hu⟩
    rw [HS2.out] at hsl
    have HST := hid (HST.out.next (hu ▸ HBN.out.drew) hsl)
    have hln := hid (hsl.max)
    clear hu hsl HSN HBN B0o
    have B0o := HST.out.1.out
    obtain ⟨N, hN⟩ : ∃ N, N = (d.X - x).toNat := ⟨_, rfl⟩
    have hN9 : N ≤ 199 := by omega
    have HN := hid (show (x < d.X → (N : Int) = d.X - x) ∧ (d.X ≤ x → N = 0) by omega)
    have HWB := hid (show List.replicate N (8 : UInt8) = wayB d x by rw [hN]; rfl)
    clear hN
    obtain ⟨B2, hB2⟩ : ∃ B, B = (shorter (wayC d x) false (shorter (wayD d x) false (gotoB x y))) := ⟨_, rfl⟩
    have HST2 := hid (show SpSt w.heap.size #[.int .i64 d.W, .int .i64 d.H, .slice a2 d.Cells.length k2, .int .i64 d.X, .int .i64 d.Y, .bool d.Wrap] w u2 pa2 pl2 pc2 B2 by rw [hB2]; exact HST.out)
    have HB2 := hid hB2
    clear HST B0o hB2
    have B0o := HST2.out.1.out
    have hz2 : w.heap.size < u2.heap.size := HST2.out.2.1
    go_wp2_with fail
    go_loopw [11, 12] (fun p i wr => ∃ (k : Nat) (pa : Option Addr) (pc : Nat) (pb : List Nat), k ≤ N ∧ p = .slice pa k pc ∧ i = .int .i64 (x + k) ∧ OwnL u2.heap.size wr 5 (.slice pa k pc) pb (List.replicate k (8 : UInt8)) ∧ Below u2.heap.size u2 wr ∧ u2.heap.size < wr.heap.size) (fun _ i _ => (d.X - intOf i).toNat)
    case atStart => exact ⟨0, _, _, _, Nat.zero_le _, rfl, by simp, ownL_empty rfl (Nat.le_refl _), (Below.refl _ _).alloc (Nat.le_refl _) _, by simp⟩
    case round =>
      clear B0o
      obtain ⟨k, pa, pc, pb, hk, rfl, rfl, hO, hb, hz⟩ := hrel
      have HO := hid hO; have HB := hid hb
      have B0o := (HST2.out.below hb).1.out
      clear hO hb
      have hr8 : (List.replicate k (8 : UInt8)).length = k := List.length_replicate
      by_cases hlt : x + (k : Int) < d.X
      · have hw8 : wrap64 (x + (k : Int) + 1) = x + (k : Int) + 1 := IntWalk.wrap64_in _ (by omega)
        have hkN : k < N := by have := HN.out.1 (by omega); omega
        have HLB := hid (fun b hb9 => (HO.out.lts b hb9).1)
        have HR8 := hid hr8
        clear hr8
        go_wp2_with (at_builtin; refine wp_append rfl _ _ 32 rfl 5 iB (.int .u8 0) 1 Tryd.underlying32 hiB hzB0 hzB1 hzB2 rfl (lo := u2.heap.size) (bs := pb) (xs := List.replicate k (8 : UInt8)) rfl ?own (b2 := []) (ys := [8]) rfl ?src List.nodup_nil ?q1 ?q2 ?q3 ?q4 ?_)
        case own => exact HO.out.alloc _
        case src => exact src_new (cs := [.int .u8 8]) (y := (8 : UInt8)) (by exact ⟨rfl, rfl⟩) rfl _ _
        case q1 => simp
        case q2 => simp; omega
        case q3 => simp; omega
        case q4 => simp; omega
        intro p9 c9 w9 b9 hO9 hT9 hm9
        rw [rep_succ] at hO9
        have HB9 := hid (((HB.out.alloc (by omega) (.cells #[.int .u8 8] 5)).trans (hT9.below (by simp; omega) (fun b hb9 => HLB.out b hb9))))
        have HO9 := hid hO9
        have hz9 : u2.heap.size < w9.heap.size := by have := hT9.size; simp at this; omega
        clear hO9 hT9 hm9 B0o
        have HO9 := hid (show OwnL u2.heap.size w9 5 (.slice p9 (k + 1) c9) b9 (List.replicate (k + 1) (8 : UInt8)) by have := HO9.out; first | exact this | (rw [HR8.out] at this; exact this))
        try rw [HR8.out]
        go_wp2
        exact ⟨⟨k + 1, p9, c9, b9, by omega, rfl, by rw [show x + (k : Int) + 1 = x + ((k + 1 : Nat) : Int) by omega], HO9.out, HB9.out, hz9⟩, by simp [intOf]; omega⟩
      · obtain rfl : k = N := by
          by_cases h9 : x < d.X
          · have := HN.out.1 h9; omega
          · have := HN.out.2 (by omega); omega
        have HST := hid (HST2.out.below HB.out)
        obtain ⟨bx, _, hOw⟩ := HO.out.own
        have HSB := hid (pt_slice.1 hOw.1)
        clear hOw HST2
        go_wp2_with fail
        refine (s_l10Shorter HSB.out _ HST.out.2.2.1.choose_spec).mono ?_
        rintro e u3 ⟨⟨pa3, pl3, pc3, pb3, rfl, hsl⟩, rfl⟩
        rw [HWB.out] at hsl
        have HST := hid (HST.out.next (Below.refl _ _) hsl)
        clear hsl HSB B0o
        have B0o := HST.out.1.out
        have HST := hid (HST.out.below ((Below.refl _ _).alloc (Nat.le_refl _) (.cells #[.int .u8 13] 5)))
        have HCR := hid (slc_cr (e := 5) u3 rfl)
        go_wp2_with fail
        refine (s_l10Shorter HCR.out _ HST.out.2.2.1.choose_spec).mono ?_
        rintro e u4 ⟨⟨pa4, pl4, pc4, pb4, rfl, hsl⟩, hu⟩
        have hb4 : Below (u3.alloc (.cells #[.int .u8 13] 5)).heap.size (u3.alloc (.cells #[.int .u8 13] 5)) u4 := hu ▸ Below.refl _ _
        have HST := hid (HST.out.next hb4 hsl)
        clear hsl hu B0o HCR
        have B0o := HST.out.1.out
        have HSTu := HST; clear hb4
        have HST := hid (HST.out.below ((Below.refl _ _).alloc (Nat.le_refl _) (.cells #[] 5)))
        have hzu4 : w.heap.size < u4.heap.size := HSTu.out.2.1
        have hzu4n : ¬ w.heap.size = u4.heap.size := by omega
        have HCN := hid (slc_none (e := 5) u4 (N := u4.heap.size))
        go_wp2_with fail
        refine (s_l10Shorter HCN.out _ HST.out.2.2.1.choose_spec).mono ?_
        rintro e u5 ⟨⟨pa5, pl5, pc5, pb5, rfl, hsl⟩, hu⟩
        have hb5 : Below (u4.alloc (.cells #[] 5)).heap.size (u4.alloc (.cells #[] 5)) u5 := hu ▸ Below.refl _ _
        have HST := hid (HST.out.next hb5 hsl)
        clear hsl hu hb5 B0o HCN
        go_wp2
        go_ret2
        obtain ⟨_, _, ⟨bz, hz⟩, hbz⟩ := HST.out
        refine ⟨_, _, _, bz, by rw [E.out.2]; rfl, ?_, hbz⟩
        rw [E.out.1, HF.out]
        rw [HB2.out] at hz
        exact pt_slice.2 hz
  subst hy0
  rcases Bool.eq_false_or_eq_true d.Wrap with hw | hw
  · have HF := hid (show stepB d x d.Y = stepW true false d x d.Y by unfold stepB; rw [hw]; simp)
    have HW := hid hw; clear hw
    go_enter Tryd.func19, Tryd.ntmps19
    go_wp2_with fail
    refine (s_GridOk (grow H.out ((Below.refl _ _).alloc (Nat.le_refl _) _))).mono ?_
    rintro e w1 ⟨rfl, hb⟩
    have HBX := hid (((Bx.new w #[.int .i64 d.W, .int .i64 d.H, .slice a2 d.Cells.length k2, .int .i64 d.X, .int .i64 d.Y, .bool d.Wrap] 43 rfl).below hb (by simp)))
    have B0o := HBX.out.out
    have HB := hid (below_call ((Below.refl _ _).alloc (Nat.le_refl _) _) hb)
    have hz1 : w.heap.size < w1.heap.size := by have := hb.size; simp at this; omega
    clear hb
    rw [HG.out]
    have hw := HW.out
    go_wp2_with fail
    refine (s_EmitGoto x hx d.Y hy w1).mono ?_
    rintro e v0 ⟨a0, l0, c0, b0, rfl, hO, hb⟩
    have HST := hid (show SpSt w.heap.size #[.int .i64 d.W, .int .i64 d.H, .slice a2 d.Cells.length k2, .int .i64 d.X, .int .i64 d.Y, .bool d.Wrap] w v0 a0 l0 c0 (gotoB x d.Y) from ⟨HBX.out.below hb hz1, Nat.lt_of_lt_of_le hz1 hb.size, ⟨b0, pt_slice.1 hO⟩, HB.out.trans (hb.mono HB.out.size)⟩)
    clear hO hb HB HBX B0o hz1
    have B0o := HST.out.1.out
    go_wp2_with fail
    refine (CX1.out _).mono ?_
    rintro e v1 ⟨rfl, hb⟩
    have HST := hid (HST.out.below hb)
    clear hb B0o
    have B0o := HST.out.1.out
    have hzv1 : w.heap.size < v1.heap.size := HST.out.2.1
    have hzw1 : ¬ w.heap.size = v1.heap.size := by omega
    obtain ⟨bS, hS⟩ := slc_bytes (w := v1) S1 (grownCap v1 S1.size 0 5) 5 ((bytesRow S1 (grownCap v1 S1.size 0 5)).size, (bytesRow S1 (grownCap v1 S1.size 0 5)).size + 1) rfl rfl (grownCap_ge _ _ _ _) (grownCap_le_maxLen _ _ _ _ HM1.out)
    have HSN := hid (show Slc ((v1.alloc (.cells (bytesRow S1 (grownCap v1 S1.size 0 5)) 5 ((bytesRow S1 (grownCap v1 S1.size 0 5)).size, (bytesRow S1 (grownCap v1 S1.size 0 5)).size + 1))).drew) bS _ _ _ _ from hS.grow ⟨rfl, rfl, rfl, Nat.le_refl _, fun _ _ => rfl⟩)
    have HBN := hid ((Below.refl v1.heap.size v1).alloc (Nat.le_refl _) (.cells (bytesRow S1 (grownCap v1 S1.size 0 5)) 5 ((bytesRow S1 (grownCap v1 S1.size 0 5)).size, (bytesRow S1 (grownCap v1 S1.size 0 5)).size + 1)))
    clear hS
    go_wp2_with fail
    refine (s_l10Shorter HSN.out _ ((HST.out.below (HBN.out.drew)).2.2.1.choose_spec)).mono ?_
    rintro e u1 ⟨⟨pa1, pl1, pc1, pb1, rfl, hsl⟩, hu⟩
    rw [HS1.out] at hsl
    have HST := hid (HST.out.next (hu ▸ HBN.out.drew) hsl)
    have hln := hid (hsl.max)
    clear hu hsl HSN HBN B0o
    have B0o := HST.out.1.out
    go_wp2_with fail
    refine (CX2.out _).mono ?_
    rintro e v2 ⟨rfl, hb⟩
    have HST := hid (HST.out.below hb)
    clear hb B0o
    have B0o := HST.out.1.out
    have hzv2 : w.heap.size < v2.heap.size := HST.out.2.1
    have hzw2 : ¬ w.heap.size = v2.heap.size := by omega
    obtain ⟨bS, hS⟩ := slc_bytes (w := v2) S2 (grownCap v2 S2.size 0 5) 5 ((bytesRow S2 (grownCap v2 S2.size 0 5)).size, (bytesRow S2 (grownCap v2 S2.size 0 5)).size + 1) rfl rfl (grownCap_ge _ _ _ _) (grownCap_le_maxLen _ _ _ _ HM2.out)
    have HSN := hid (show Slc ((v2.alloc (.cells (bytesRow S2 (grownCap v2 S2.size 0 5)) 5 ((bytesRow S2 (grownCap v2 S2.size 0 5)).size, (bytesRow S2 (grownCap v2 S2.size 0 5)).size + 1))).drew) bS _ _ _ _ from hS.grow ⟨rfl, rfl, rfl, Nat.le_refl _, fun _ _ => rfl⟩)
    have HBN := hid ((Below.refl v2.heap.size v2).alloc (Nat.le_refl _) (.cells (bytesRow S2 (grownCap v2 S2.size 0 5)) 5 ((bytesRow S2 (grownCap v2 S2.size 0 5)).size, (bytesRow S2 (grownCap v2 S2.size 0 5)).size + 1)))
    clear hS
    go_wp2_with fail
    refine (s_l10Shorter HSN.out _ ((HST.out.below (HBN.out.drew)).2.2.1.choose_spec)).mono ?_
    rintro e u2 ⟨⟨pa2, pl2, pc2, pb2, rfl, hsl⟩, hu⟩
    rw [HS2.out] at hsl
    have HST := hid (HST.out.next (hu ▸ HBN.out.drew) hsl)
    have hln := hid (hsl.max)
    clear hu hsl HSN HBN B0o
    have B0o := HST.out.1.out
    obtain ⟨N, hN⟩ : ∃ N, N = (d.X - x).toNat := ⟨_, rfl⟩
    have hN9 : N ≤ 199 := by omega
    have HN := hid (show (x < d.X → (N : Int) = d.X - x) ∧ (d.X ≤ x → N = 0) by omega)
    have HWB := hid (show List.replicate N (8 : UInt8) = wayB d x by rw [hN]; rfl)
    clear hN
    obtain ⟨B2, hB2⟩ : ∃ B, B = (shorter (wayC d x) false (shorter (wayD d x) false (gotoB x d.Y))) := ⟨_, rfl⟩
    have HST2 := hid (show SpSt w.heap.size #[.int .i64 d.W, .int .i64 d.H, .slice a2 d.Cells.length k2, .int .i64 d.X, .int .i64 d.Y, .bool d.Wrap] w u2 pa2 pl2 pc2 B2 by rw [hB2]; exact HST.out)
    have HB2 := hid hB2
    clear HST B0o hB2
    have B0o := HST2.out.1.out
    have hz2 : w.heap.size < u2.heap.size := HST2.out.2.1
    go_wp2_with fail
    go_loopw [11, 12] (fun p i wr => ∃ (k : Nat) (pa : Option Addr) (pc : Nat) (pb : List Nat), k ≤ N ∧ p = .slice pa k pc ∧ i = .int .i64 (x + k) ∧ OwnL u2.heap.size wr 5 (.slice pa k pc) pb (List.replicate k (8 : UInt8)) ∧ Below u2.heap.size u2 wr ∧ u2.heap.size < wr.heap.size) (fun _ i _ => (d.X - intOf i).toNat)
    case atStart => exact ⟨0, _, _, _, Nat.zero_le _, rfl, by simp, ownL_empty rfl (Nat.le_refl _), (Below.refl _ _).alloc (Nat.le_refl _) _, by simp⟩
    case round =>
      clear B0o
      obtain ⟨k, pa, pc, pb, hk, rfl, rfl, hO, hb, hz⟩ := hrel
      have HO := hid hO; have HB := hid hb
      have B0o := (HST2.out.below hb).1.out
      clear hO hb
      have hr8 : (List.replicate k (8 : UInt8)).length = k := List.length_replicate
      by_cases hlt : x + (k : Int) < d.X
      · have hw8 : wrap64 (x + (k : Int) + 1) = x + (k : Int) + 1 := IntWalk.wrap64_in _ (by omega)
        have hkN : k < N := by have := HN.out.1 (by omega); omega
        have HLB := hid (fun b hb9 => (HO.out.lts b hb9).1)
        have HR8 := hid hr8
        clear hr8
        go_wp2_with (at_builtin; refine wp_append rfl _ _ 32 rfl 5 iB (.int .u8 0) 1 Tryd.underlying32 hiB hzB0 hzB1 hzB2 rfl (lo := u2.heap.size) (bs := pb) (xs := List.replicate k (8 : UInt8)) rfl ?own (b2 := []) (ys := [8]) rfl ?src List.nodup_nil ?q1 ?q2 ?q3 ?q4 ?_)
        case own => exact HO.out.alloc _
        case src => exact src_new (cs := [.int .u8 8]) (y := (8 : UInt8)) (by exact ⟨rfl, rfl⟩) rfl _ _
        case q1 => simp
        case q2 => simp; omega
        case q3 => simp; omega
        case q4 => simp; omega
        intro p9 c9 w9 b9 hO9 hT9 hm9
        rw [rep_succ] at hO9
        have HB9 := hid (((HB.out.alloc (by omega) (.cells #[.int .u8 8] 5)).trans (hT9.below (by simp; omega) (fun b hb9 => HLB.out b hb9))))
        have HO9 := hid hO9
        have hz9 : u2.heap.size < w9.heap.size := by have := hT9.size; simp at this; omega
        clear hO9 hT9 hm9 B0o
        have HO9 := hid (show OwnL u2.heap.size w9 5 (.slice p9 (k + 1) c9) b9 (List.replicate (k + 1) (8 : UInt8)) by have := HO9.out; first | exact this | (rw [HR8.out] at this; exact this))
        try rw [HR8.out]
        go_wp2
        exact ⟨⟨k + 1, p9, c9, b9, by omega, rfl, by rw [show x + (k : Int) + 1 = x + ((k + 1 : Nat) : Int) by omega], HO9.out, HB9.out, hz9⟩, by simp [intOf]; omega⟩
      · obtain rfl : k = N := by
          by_cases h9 : x < d.X
          · have := HN.out.1 h9; omega
          · have := HN.out.2 (by omega); omega
        have HST := hid (HST2.out.below HB.out)
        obtain ⟨bx, _, hOw⟩ := HO.out.own
        have HSB := hid (pt_slice.1 hOw.1)
        clear hOw HST2
        go_wp2_with fail
        refine (s_l10Shorter HSB.out _ HST.out.2.2.1.choose_spec).mono ?_
        rintro e u3 ⟨⟨pa3, pl3, pc3, pb3, rfl, hsl⟩, rfl⟩
        rw [HWB.out] at hsl
        have HST := hid (HST.out.next (Below.refl _ _) hsl)
        clear hsl HSB B0o
        have B0o := HST.out.1.out
        have HST := hid (HST.out.below ((Below.refl _ _).alloc (Nat.le_refl _) (.cells #[.int .u8 13] 5)))
        have HCR := hid (slc_cr (e := 5) u3 rfl)
        go_wp2_with fail
        refine (s_l10Shorter HCR.out _ HST.out.2.2.1.choose_spec).mono ?_
        rintro e u4 ⟨⟨pa4, pl4, pc4, pb4, rfl, hsl⟩, hu⟩
        have hb4 : Below (u3.alloc (.cells #[.int .u8 13] 5)).heap.size (u3.alloc (.cells #[.int .u8 13] 5)) u4 := hu ▸ Below.refl _ _
        have HST := hid (HST.out.next hb4 hsl)
        clear hsl hu B0o HCR
        have B0o := HST.out.1.out
        have HSTu := HST; clear hb4
        have HST := hid (HST.out.below ((Below.refl _ _).alloc (Nat.le_refl _) (.cells #[] 5)))
        have hzu4 : w.heap.size < u4.heap.size := HSTu.out.2.1
        have hzu4n : ¬ w.heap.size = u4.heap.size := by omega
        have HCN := hid (slc_none (e := 5) u4 (N := u4.heap.size))
        go_wp2_with fail
        refine (s_l10Shorter HCN.out _ HST.out.2.2.1.choose_spec).mono ?_
        rintro e u5 ⟨⟨pa5, pl5, pc5, pb5, rfl, hsl⟩, hu⟩
        have hb5 : Below (u4.alloc (.cells #[] 5)).heap.size (u4.alloc (.cells #[] 5)) u5 := hu ▸ Below.refl _ _
        have HST := hid (HST.out.next hb5 hsl)
        clear hsl hu hb5 B0o HCN
        go_wp2
        go_ret2
        obtain ⟨_, _, ⟨bz, hz⟩, hbz⟩ := HST.out
        refine ⟨_, _, _, bz, by rw [E.out.2]; rfl, ?_, hbz⟩
        rw [E.out.1, HF.out]
        rw [HB2.out] at hz
        exact pt_slice.2 hz
  have HF := hid (show stepB d x d.Y = stepW true true d x d.Y by unfold stepB; rw [hw]; simp)
  by_cases hpos : x < d.X
  · skip
    have HW := hid hw; clear hw
    have HP := hid hpos; clear hpos
    go_enter Tryd.func19, Tryd.ntmps19
    go_wp2_with fail
    refine (s_GridOk (grow H.out ((Below.refl _ _).alloc (Nat.le_refl _) _))).mono ?_
    rintro e w1 ⟨rfl, hb⟩
    have HBX := hid (((Bx.new w #[.int .i64 d.W, .int .i64 d.H, .slice a2 d.Cells.length k2, .int .i64 d.X, .int .i64 d.Y, .bool d.Wrap] 43 rfl).below hb (by simp)))
    have B0o := HBX.out.out
    have HB := hid (below_call ((Below.refl _ _).alloc (Nat.le_refl _) _) hb)
    have hz1 : w.heap.size < w1.heap.size := by have := hb.size; simp at this; omega
    clear hb
    rw [HG.out]
    have hw := HW.out
    go_wp2_with fail
    refine (s_EmitGoto x hx d.Y hy w1).mono ?_
    rintro e v0 ⟨a0, l0, c0, b0, rfl, hO, hb⟩
    have HST := hid (show SpSt w.heap.size #[.int .i64 d.W, .int .i64 d.H, .slice a2 d.Cells.length k2, .int .i64 d.X, .int .i64 d.Y, .bool d.Wrap] w v0 a0 l0 c0 (gotoB x d.Y) from ⟨HBX.out.below hb hz1, Nat.lt_of_lt_of_le hz1 hb.size, ⟨b0, pt_slice.1 hO⟩, HB.out.trans (hb.mono HB.out.size)⟩)
    clear hO hb HB HBX B0o hz1
    have B0o := HST.out.1.out
    go_wp2_with fail
    refine (CX1.out _).mono ?_
    rintro e v1 ⟨rfl, hb⟩
    have HST := hid (HST.out.below hb)
    clear hb B0o
    have B0o := HST.out.1.out
    have hzv1 : w.heap.size < v1.heap.size := HST.out.2.1
    have hzw1 : ¬ w.heap.size = v1.heap.size := by omega
    obtain ⟨bS, hS⟩ := slc_bytes (w := v1) S1 (grownCap v1 S1.size 0 5) 5 ((bytesRow S1 (grownCap v1 S1.size 0 5)).size, (bytesRow S1 (grownCap v1 S1.size 0 5)).size + 1) rfl rfl (grownCap_ge _ _ _ _) (grownCap_le_maxLen _ _ _ _ HM1.out)
    have HSN := hid (show Slc ((v1.alloc (.cells (bytesRow S1 (grownCap v1 S1.size 0 5)) 5 ((bytesRow S1 (grownCap v1 S1.size 0 5)).size, (bytesRow S1 (grownCap v1 S1.size 0 5)).size + 1))).drew) bS _ _ _ _ from hS.grow ⟨rfl, rfl, rfl, Nat.le_refl _, fun _ _ => rfl⟩)
    have HBN := hid ((Below.refl v1.heap.size v1).alloc (Nat.le_refl _) (.cells (bytesRow S1 (grownCap v1 S1.size 0 5)) 5 ((bytesRow S1 (grownCap v1 S1.size 0 5)).size, (bytesRow S1 (grownCap v1 S1.size 0 5)).size + 1)))
    clear hS
    go_wp2_with fail
    refine (s_l10Shorter HSN.out _ ((HST.out.below (HBN.out.drew)).2.2.1.choose_spec)).mono ?_
    rintro e u1 ⟨⟨pa1, pl1, pc1, pb1, rfl, hsl⟩, hu⟩
    rw [HS1.out] at hsl
    have HST := hid (HST.out.next (hu ▸ HBN.out.drew) hsl)
    have hln := hid (hsl.max)
    clear hu hsl HSN HBN B0o
    have B0o := HST.out.1.out
    go_wp2_with fail
    refine (CX2.out _).mono ?_
    rintro e v2 ⟨rfl, hb⟩
    have HST := hid (HST.out.below hb)
    clear hb B0o
    have B0o := HST.out.1.out
    have hzv2 : w.heap.size < v2.heap.size := HST.out.2.1
    have hzw2 : ¬ w.heap.size = v2.heap.size := by omega
    obtain ⟨bS, hS⟩ := slc_bytes (w := v2) S2 (grownCap v2 S2.size 0 5) 5 ((bytesRow S2 (grownCap v2 S2.size 0 5)).size, (bytesRow S2 (grownCap v2 S2.size 0 5)).size + 1) rfl rfl (grownCap_ge _ _ _ _) (grownCap_le_maxLen _ _ _ _ HM2.out)
    have HSN := hid (show Slc ((v2.alloc (.cells (bytesRow S2 (grownCap v2 S2.size 0 5)) 5 ((bytesRow S2 (grownCap v2 S2.size 0 5)).size, (bytesRow S2 (grownCap v2 S2.size 0 5)).size + 1))).drew) bS _ _ _ _ from hS.grow ⟨rfl, rfl, rfl, Nat.le_refl _, fun _ _ => rfl⟩)
    have HBN := hid ((Below.refl v2.heap.size v2).alloc (Nat.le_refl _) (.cells (bytesRow S2 (grownCap v2 S2.size 0 5)) 5 ((bytesRow S2 (grownCap v2 S2.size 0 5)).size, (bytesRow S2 (grownCap v2 S2.size 0 5)).size + 1)))
    clear hS
    go_wp2_with fail
    refine (s_l10Shorter HSN.out _ ((HST.out.below (HBN.out.drew)).2.2.1.choose_spec)).mono ?_
    rintro e u2 ⟨⟨pa2, pl2, pc2, pb2, rfl, hsl⟩, hu⟩
    rw [HS2.out] at hsl
    have HST := hid (HST.out.next (hu ▸ HBN.out.drew) hsl)
    have hln := hid (hsl.max)
    clear hu hsl HSN HBN B0o
    have B0o := HST.out.1.out
    obtain ⟨N, hN⟩ : ∃ N, N = (d.X - x).toNat := ⟨_, rfl⟩
    have hN9 : N ≤ 199 := by omega
    have HN := hid (show (x < d.X → (N : Int) = d.X - x) ∧ (d.X ≤ x → N = 0) by omega)
    have HWB := hid (show List.replicate N (8 : UInt8) = wayB d x by rw [hN]; rfl)
    clear hN
    obtain ⟨B2, hB2⟩ : ∃ B, B = (shorter (wayC d x) (decide (d.X < x)) (shorter (wayD d x) (decide (x < d.X)) (gotoB x d.Y))) := ⟨_, rfl⟩
    have HST2 := hid (show SpSt w.heap.size #[.int .i64 d.W, .int .i64 d.H, .slice a2 d.Cells.length k2, .int .i64 d.X, .int .i64 d.Y, .bool d.Wrap] w u2 pa2 pl2 pc2 B2 by rw [hB2]; exact HST.out)
    have HB2 := hid hB2
    clear HST B0o hB2
    have B0o := HST2.out.1.out
    have hz2 : w.heap.size < u2.heap.size := HST2.out.2.1
    go_wp2_with fail
    go_loopw [11, 12] (fun p i wr => ∃ (k : Nat) (pa : Option Addr) (pc : Nat) (pb : List Nat), k ≤ N ∧ p = .slice pa k pc ∧ i = .int .i64 (x + k) ∧ OwnL u2.heap.size wr 5 (.slice pa k pc) pb (List.replicate k (8 : UInt8)) ∧ Below u2.heap.size u2 wr ∧ u2.heap.size < wr.heap.size) (fun _ i _ => (d.X - intOf i).toNat)
    case atStart => exact ⟨0, _, _, _, Nat.zero_le _, rfl, by simp, ownL_empty rfl (Nat.le_refl _), (Below.refl _ _).alloc (Nat.le_refl _) _, by simp⟩
    case round =>
      clear B0o
      obtain ⟨k, pa, pc, pb, hk, rfl, rfl, hO, hb, hz⟩ := hrel
      have HO := hid hO; have HB := hid hb
      have B0o := (HST2.out.below hb).1.out
      clear hO hb
      have hr8 : (List.replicate k (8 : UInt8)).length = k := List.length_replicate
      by_cases hlt : x + (k : Int) < d.X
      · have hw8 : wrap64 (x + (k : Int) + 1) = x + (k : Int) + 1 := IntWalk.wrap64_in _ (by omega)
        have hkN : k < N := by have := HN.out.1 (by omega); omega
        have HLB := hid (fun b hb9 => (HO.out.lts b hb9).1)
        have HR8 := hid hr8
        clear hr8
        go_wp2_with (at_builtin; refine wp_append rfl _ _ 32 rfl 5 iB (.int .u8 0) 1 Tryd.underlying32 hiB hzB0 hzB1 hzB2 rfl (lo := u2.heap.size) (bs := pb) (xs := List.replicate k (8 : UInt8)) rfl ?own (b2 := []) (ys := [8]) rfl ?src List.nodup_nil ?q1 ?q2 ?q3 ?q4 ?_)
        case own => exact HO.out.alloc _
        case src => exact src_new (cs := [.int .u8 8]) (y := (8 : UInt8)) (by exact ⟨rfl, rfl⟩) rfl _ _
        case q1 => simp
        case q2 => simp; omega
        case q3 => simp; omega
        case q4 => simp; omega
        intro p9 c9 w9 b9 hO9 hT9 hm9
        rw [rep_succ] at hO9
        have HB9 := hid (((HB.out.alloc (by omega) (.cells #[.int .u8 8] 5)).trans (hT9.below (by simp; omega) (fun b hb9 => HLB.out b hb9))))
        have HO9 := hid hO9
        have hz9 : u2.heap.size < w9.heap.size := by have := hT9.size; simp at this; omega
        clear hO9 hT9 hm9 B0o
        have HO9 := hid (show OwnL u2.heap.size w9 5 (.slice p9 (k + 1) c9) b9 (List.replicate (k + 1) (8 : UInt8)) by have := HO9.out; first | exact this | (rw [HR8.out] at this; exact this))
        try rw [HR8.out]
        go_wp2
        exact ⟨⟨k + 1, p9, c9, b9, by omega, rfl, by rw [show x + (k : Int) + 1 = x + ((k + 1 : Nat) : Int) by omega], HO9.out, HB9.out, hz9⟩, by simp [intOf]; omega⟩
      · obtain rfl : k = N := by
          by_cases h9 : x < d.X
          · have := HN.out.1 h9; omega
          · have := HN.out.2 (by omega); omega
        have HST := hid (HST2.out.below HB.out)
        obtain ⟨bx, _, hOw⟩ := HO.out.own
        have HSB := hid (pt_slice.1 hOw.1)
        clear hOw HST2
        have hk1 : 1 ≤ (k : Int) := by have := HN.out.1 HP.out; have := HP.out; omega
        go_wp2_with fail
        refine (s_l10Shorter HSB.out _ HST.out.2.2.1.choose_spec).mono ?_
        rintro e u3 ⟨⟨pa3, pl3, pc3, pb3, rfl, hsl⟩, rfl⟩
        rw [HWB.out] at hsl
        have HST := hid (HST.out.next (Below.refl _ _) hsl)
        clear hsl HSB B0o
        have B0o := HST.out.1.out
        have HST := hid (HST.out.below ((Below.refl _ _).alloc (Nat.le_refl _) (.cells #[.int .u8 13] 5)))
        have HCR := hid (slc_cr (e := 5) u3 rfl)
        go_wp2_with fail
        refine (s_l10Shorter HCR.out _ HST.out.2.2.1.choose_spec).mono ?_
        rintro e u4 ⟨⟨pa4, pl4, pc4, pb4, rfl, hsl⟩, hu⟩
        have hb4 : Below (u3.alloc (.cells #[.int .u8 13] 5)).heap.size (u3.alloc (.cells #[.int .u8 13] 5)) u4 := hu ▸ Below.refl _ _
        have HST := hid (HST.out.next hb4 hsl)
        clear hsl hu B0o HCR
        have B0o := HST.out.1.out
        have HSTu := HST; clear hb4
        have HST := hid (HST.out.below ((Below.refl _ _).alloc (Nat.le_refl _) (.cells #[] 5)))
        have hzu4 : w.heap.size < u4.heap.size := HSTu.out.2.1
        have hzu4n : ¬ w.heap.size = u4.heap.size := by omega
        have HCN := hid (slc_none (e := 5) u4 (N := u4.heap.size))
        go_wp2_with fail
        refine (s_l10Shorter HCN.out _ HST.out.2.2.1.choose_spec).mono ?_
        rintro e u5 ⟨⟨pa5, pl5, pc5, pb5, rfl, hsl⟩, hu⟩
        have hb5 : Below (u4.alloc (.cells #[] 5)).heap.size (u4.alloc (.cells #[] 5)) u5 := hu ▸ Below.refl _ _
        have HST := hid (HST.out.next hb5 hsl)
        clear hsl hu hb5 B0o HCN
        go_wp2
        go_ret2
        obtain ⟨_, _, ⟨bz, hz⟩, hbz⟩ := HST.out
        refine ⟨_, _, _, bz, by rw [E.out.2]; rfl, ?_, hbz⟩
        rw [E.out.1, HF.out]
        rw [HB2.out] at hz
        unfold stepW
        rw [show decide (1 ≤ d.X - x ∧ d.X - x ≤ 3) = decide ((k : Int) ≤ 3) by have := HN.out.1 HP.out; rw [decide_eq_decide]; omega]
        exact pt_slice.2 hz
  · skip
    have HW := hid hw; clear hw
    have HP := hid hpos; clear hpos
    go_enter Tryd.func19, Tryd.ntmps19
    go_wp2_with fail
    refine (s_GridOk (grow H.out ((Below.refl _ _).alloc (Nat.le_refl _) _))).mono ?_
    rintro e w1 ⟨rfl, hb⟩
    have HBX := hid (((Bx.new w #[.int .i64 d.W, .int .i64 d.H, .slice a2 d.Cells.length k2, .int .i64 d.X, .int .i64 d.Y, .bool d.Wrap] 43 rfl).below hb (by simp)))
    have B0o := HBX.out.out
    have HB := hid (below_call ((Below.refl _ _).alloc (Nat.le_refl _) _) hb)
    have hz1 : w.heap.size < w1.heap.size := by have := hb.size; simp at this; omega
    clear hb
    rw [HG.out]
    have hw := HW.out
    go_wp2_with fail
    refine (s_EmitGoto x hx d.Y hy w1).mono ?_
    rintro e v0 ⟨a0, l0, c0, b0, rfl, hO, hb⟩
    have HST := hid (show SpSt w.heap.size #[.int .i64 d.W, .int .i64 d.H, .slice a2 d.Cells.length k2, .int .i64 d.X, .int .i64 d.Y, .bool d.Wrap] w v0 a0 l0 c0 (gotoB x d.Y) from ⟨HBX.out.below hb hz1, Nat.lt_of_lt_of_le hz1 hb.size, ⟨b0, pt_slice.1 hO⟩, HB.out.trans (hb.mono HB.out.size)⟩)
    clear hO hb HB HBX B0o hz1
    have B0o := HST.out.1.out
    go_wp2_with fail
    refine (CX1.out _).mono ?_
    rintro e v1 ⟨rfl, hb⟩
    have HST := hid (HST.out.below hb)
    clear hb B0o
    have B0o := HST.out.1.out
    have hzv1 : w.heap.size < v1.heap.size := HST.out.2.1
    have hzw1 : ¬ w.heap.size = v1.heap.size := by omega
    obtain ⟨bS, hS⟩ := slc_bytes (w := v1) S1 (grownCap v1 S1.size 0 5) 5 ((bytesRow S1 (grownCap v1 S1.size 0 5)).size, (bytesRow S1 (grownCap v1 S1.size 0 5)).size + 1) rfl rfl (grownCap_ge _ _ _ _) (grownCap_le_maxLen _ _ _ _ HM1.out)
    have HSN := hid (show Slc ((v1.alloc (.cells (bytesRow S1 (grownCap v1 S1.size 0 5)) 5 ((bytesRow S1 (grownCap v1 S1.size 0 5)).size, (bytesRow S1 (grownCap v1 S1.size 0 5)).size + 1))).drew) bS _ _ _ _ from hS.grow ⟨rfl, rfl, rfl, Nat.le_refl _, fun _ _ => rfl⟩)
    have HBN := hid ((Below.refl v1.heap.size v1).alloc (Nat.le_refl _) (.cells (bytesRow S1 (grownCap v1 S1.size 0 5)) 5 ((bytesRow S1 (grownCap v1 S1.size 0 5)).size, (bytesRow S1 (grownCap v1 S1.size 0 5)).size + 1)))
    clear hS
    go_wp2_with fail
    refine (s_l10Shorter HSN.out _ ((HST.out.below (HBN.out.drew)).2.2.1.choose_spec)).mono ?_
    rintro e u1 ⟨⟨pa1, pl1, pc1, pb1, rfl, hsl⟩, hu⟩
    rw [HS1.out] at hsl
    have HST := hid (HST.out.next (hu ▸ HBN.out.drew) hsl)
    have hln := hid (hsl.max)
    clear hu hsl HSN HBN B0o
    have B0o := HST.out.1.out
    go_wp2_with fail
    refine (CX2.out _).mono ?_
    rintro e v2 ⟨rfl, hb⟩
    have HST := hid (HST.out.below hb)
    clear hb B0o
    have B0o := HST.out.1.out
    have hzv2 : w.heap.size < v2.heap.size := HST.out.2.1
    have hzw2 : ¬ w.heap.size = v2.heap.size := by omega
    obtain ⟨bS, hS⟩ := slc_bytes (w := v2) S2 (grownCap v2 S2.size 0 5) 5 ((bytesRow S2 (grownCap v2 S2.size 0 5)).size, (bytesRow S2 (grownCap v2 S2.size 0 5)).size + 1) rfl rfl (grownCap_ge _ _ _ _) (grownCap_le_maxLen _ _ _ _ HM2.out)
    have HSN := hid (show Slc ((v2.alloc (.cells (bytesRow S2 (grownCap v2 S2.size 0 5)) 5 ((bytesRow S2 (grownCap v2 S2.size 0 5)).size, (bytesRow S2 (grownCap v2 S2.size 0 5)).size + 1))).drew) bS _ _ _ _ from hS.grow ⟨rfl, rfl, rfl, Nat.le_refl _, fun _ _ => rfl⟩)
    have HBN := hid ((Below.refl v2.heap.size v2).alloc (Nat.le_refl _) (.cells (bytesRow S2 (grownCap v2 S2.size 0 5)) 5 ((bytesRow S2 (grownCap v2 S2.size 0 5)).size, (bytesRow S2 (grownCap v2 S2.size 0 5)).size + 1)))
    clear hS
    go_wp2_with fail
    refine (s_l10Shorter HSN.out _ ((HST.out.below (HBN.out.drew)).2.2.1.choose_spec)).mono ?_
    rintro e u2 ⟨⟨pa2, pl2, pc2, pb2, rfl, hsl⟩, hu⟩
    rw [HS2.out] at hsl
    have HST := hid (HST.out.next (hu ▸ HBN.out.drew) hsl)
    have hln := hid (hsl.max)
    clear hu hsl HSN HBN B0o
    have B0o := HST.out.1.out
    obtain ⟨N, hN⟩ : ∃ N, N = (d.X - x).toNat := ⟨_, rfl⟩
    have hN9 : N ≤ 199 := by omega
    have HN := hid (show (x < d.X → (N : Int) = d.X - x) ∧ (d.X ≤ x → N = 0) by omega)
    have HWB := hid (show List.replicate N (8 : UInt8) = wayB d x by rw [hN]; rfl)
    clear hN
    obtain ⟨B2, hB2⟩ : ∃ B, B = (shorter (wayC d x) (decide (d.X < x)) (shorter (wayD d x) (decide (x < d.X)) (gotoB x d.Y))) := ⟨_, rfl⟩
    have HST2 := hid (show SpSt w.heap.size #[.int .i64 d.W, .int .i64 d.H, .slice a2 d.Cells.length k2, .int .i64 d.X, .int .i64 d.Y, .bool d.Wrap] w u2 pa2 pl2 pc2 B2 by rw [hB2]; exact HST.out)
    have HB2 := hid hB2
    clear HST B0o hB2
    have B0o := HST2.out.1.out
    have hz2 : w.heap.size < u2.heap.size := HST2.out.2.1
    go_wp2_with fail
    go_loopw [11, 12] (fun p i wr => ∃ (k : Nat) (pa : Option Addr) (pc : Nat) (pb : List Nat), k ≤ N ∧ p = .slice pa k pc ∧ i = .int .i64 (x + k) ∧ OwnL u2.heap.size wr 5 (.slice pa k pc) pb (List.replicate k (8 : UInt8)) ∧ Below u2.heap.size u2 wr ∧ u2.heap.size < wr.heap.size) (fun _ i _ => (d.X - intOf i).toNat)
    case atStart => exact ⟨0, _, _, _, Nat.zero_le _, rfl, by simp, ownL_empty rfl (Nat.le_refl _), (Below.refl _ _).alloc (Nat.le_refl _) _, by simp⟩
    case round =>
      clear B0o
      obtain ⟨k, pa, pc, pb, hk, rfl, rfl, hO, hb, hz⟩ := hrel
      have HO := hid hO; have HB := hid hb
      have B0o := (HST2.out.below hb).1.out
      clear hO hb
      have hr8 : (List.replicate k (8 : UInt8)).length = k := List.length_replicate
      by_cases hlt : x + (k : Int) < d.X
      · have hw8 : wrap64 (x + (k : Int) + 1) = x + (k : Int) + 1 := IntWalk.wrap64_in _ (by omega)
        have hkN : k < N := by have := HN.out.1 (by omega); omega
        have HLB := hid (fun b hb9 => (HO.out.lts b hb9).1)
        have HR8 := hid hr8
        clear hr8
        go_wp2_with (at_builtin; refine wp_append rfl _ _ 32 rfl 5 iB (.int .u8 0) 1 Tryd.underlying32 hiB hzB0 hzB1 hzB2 rfl (lo := u2.heap.size) (bs := pb) (xs := List.replicate k (8 : UInt8)) rfl ?own (b2 := []) (ys := [8]) rfl ?src List.nodup_nil ?q1 ?q2 ?q3 ?q4 ?_)
        case own => exact HO.out.alloc _
        case src => exact src_new (cs := [.int .u8 8]) (y := (8 : UInt8)) (by exact ⟨rfl, rfl⟩) rfl _ _
        case q1 => simp
        case q2 => simp; omega
        case q3 => simp; omega
        case q4 => simp; omega
        intro p9 c9 w9 b9 hO9 hT9 hm9
        rw [rep_succ] at hO9
        have HB9 := hid (((HB.out.alloc (by omega) (.cells #[.int .u8 8] 5)).trans (hT9.below (by simp; omega) (fun b hb9 => HLB.out b hb9))))
        have HO9 := hid hO9
        have hz9 : u2.heap.size < w9.heap.size := by have := hT9.size; simp at this; omega
        clear hO9 hT9 hm9 B0o
        have HO9 := hid (show OwnL u2.heap.size w9 5 (.slice p9 (k + 1) c9) b9 (List.replicate (k + 1) (8 : UInt8)) by have := HO9.out; first | exact this | (rw [HR8.out] at this; exact this))
        try rw [HR8.out]
        go_wp2
        exact ⟨⟨k + 1, p9, c9, b9, by omega, rfl, by rw [show x + (k : Int) + 1 = x + ((k + 1 : Nat) : Int) by omega], HO9.out, HB9.out, hz9⟩, by simp [intOf]; omega⟩
      · obtain rfl : k = N := by
          by_cases h9 : x < d.X
          · have := HN.out.1 h9; omega
          · have := HN.out.2 (by omega); omega
        have HST := hid (HST2.out.below HB.out)
        obtain ⟨bx, _, hOw⟩ := HO.out.own
        have HSB := hid (pt_slice.1 hOw.1)
        clear hOw HST2
        obtain rfl : k = 0 := HN.out.2 (by have := HP.out; omega)
        go_wp2_with fail
        refine (s_l10Shorter HSB.out _ HST.out.2.2.1.choose_spec).mono ?_
        rintro e u3 ⟨⟨pa3, pl3, pc3, pb3, rfl, hsl⟩, rfl⟩
        rw [HWB.out] at hsl
        have HST := hid (HST.out.next (Below.refl _ _) hsl)
        clear hsl HSB B0o
        have B0o := HST.out.1.out
        have HST := hid (HST.out.below ((Below.refl _ _).alloc (Nat.le_refl _) (.cells #[.int .u8 13] 5)))
        have HCR := hid (slc_cr (e := 5) u3 rfl)
        go_wp2_with fail
        refine (s_l10Shorter HCR.out _ HST.out.2.2.1.choose_spec).mono ?_
        rintro e u4 ⟨⟨pa4, pl4, pc4, pb4, rfl, hsl⟩, hu⟩
        have hb4 : Below (u3.alloc (.cells #[.int .u8 13] 5)).heap.size (u3.alloc (.cells #[.int .u8 13] 5)) u4 := hu ▸ Below.refl _ _
        have HST := hid (HST.out.next hb4 hsl)
        clear hsl hu B0o HCR
        have B0o := HST.out.1.out
        have HSTu := HST; clear hb4
        have HST := hid (HST.out.below ((Below.refl _ _).alloc (Nat.le_refl _) (.cells #[] 5)))
        have hzu4 : w.heap.size < u4.heap.size := HSTu.out.2.1
        have hzu4n : ¬ w.heap.size = u4.heap.size := by omega
        have HCN := hid (slc_none (e := 5) u4 (N := u4.heap.size))
        go_wp2_with fail
        refine (s_l10Shorter HCN.out _ HST.out.2.2.1.choose_spec).mono ?_
        rintro e u5 ⟨⟨pa5, pl5, pc5, pb5, rfl, hsl⟩, hu⟩
        have hb5 : Below (u4.alloc (.cells #[] 5)).heap.size (u4.alloc (.cells #[] 5)) u5 := hu ▸ Below.refl _ _
        have HST := hid (HST.out.next hb5 hsl)
        clear hsl hu hb5 B0o HCN
        go_wp2
        go_ret2
        obtain ⟨_, _, ⟨bz, hz⟩, hbz⟩ := HST.out
        refine ⟨_, _, _, bz, by rw [E.out.2]; rfl, ?_, hbz⟩
        rw [E.out.1, HF.out]
        rw [HB2.out] at hz
        unfold stepW
        rw [show decide (1 ≤ d.X - x ∧ d.X - x ≤ 3) = false by have := HP.out; simp; omega]
        exact pt_slice.2 hz
end Go.Proofs.YtgcdgkiefbbhkaaDoor
