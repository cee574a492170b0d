/- Copies of slices. -/
import Derived.Test.YtgcdgkiefbbhkaaProg
import Derived.Test.YtgcdgkiefbbhkaaApp
set_option linter.unusedSimpArgs false
set_option linter.unusedVariables false
namespace Go.Proofs.Ytgcdgkiefbbhkaa
open Go.RowKit Go.G6
set_option maxHeartbeats 800000
set_option maxRecDepth 10000
theorem info_int : (Try.prog.info? 3).map (fun i => (i.zero, i.size, i.bytes)) = some (some (.int .i64 0), 1, 8) := by kernel_rfl
theorem info_byte : (Try.prog.info? 5).map (fun i => (i.zero, i.size, i.bytes)) = some (some (.int .u8 0), 1, 1) := by kernel_rfl
theorem i_copyInts {w : World} {bs : List Nat} {a : Option Addr} {len cap : Nat} {xs : List Int} (h : Slc w bs a len cap xs) (hn : xs.length ≤ 16777216) :
    Calls Try.prog 59 #[.slice a len cap] w (RetL w 3 xs) := by
  obtain rfl := h.len_eq
  obtain ⟨i0, hi, hz0, hz1, hz2⟩ := info_parts info_int
  go_enter Try.func59, Try.ntmps59
  go_wp2_with (at_builtin; refine wp_append rfl _ _ 54 rfl 3 i0 (.int .i64 0) 8 Try.underlying54 hi hz0 hz1 hz2 rfl (lo := w.heap.size) (xs := ([] : List Int)) rfl (OwnL.nil _ _ _) (b2 := []) rfl h.src List.nodup_nil ?q1 ?q2 ?q3 ?q4 ?_)
  case q1 => first | (intro b hb; cases hb) | omega | (simp; done) | (simp; omega) | exact HB1.out.size | exact HB2.out.size
  case q2 => first | (intro b hb; cases hb) | omega | (simp; done) | (simp; omega) | exact HB1.out.size | exact HB2.out.size
  case q3 => first | (intro b hb; cases hb) | omega | (simp; done) | (simp; omega) | exact HB1.out.size | exact HB2.out.size
  case q4 => first | (intro b hb; cases hb) | omega | (simp; done) | (simp; omega) | exact HB1.out.size | exact HB2.out.size
  intro p k w1 bs' hO hT hb
  go_wp2
  go_ret
  exact ⟨_, _, rfl, by simpa using hO, hT.below (Nat.le_refl _) (by simp)⟩
theorem s_l13Join {w : World} {bs1 bs2 bs3 : List Nat} {a1 a2 a3 : Option Addr} {len1 len2 len3 cap1 cap2 cap3 : Nat} {x1 x2 x3 : List Int} (h1 : Slc w bs1 a1 len1 cap1 x1) (h2 : Slc w bs2 a2 len2 cap2 x2) (h3 : Slc w bs3 a3 len3 cap3 x3)
    (n1 : x1.length ≤ 16777216) (n2 : x2.length ≤ 16777216) (n3 : x3.length ≤ 16777216) :
    Calls Try.prog 55 #[.slice a1 len1 cap1, .slice a2 len2 cap2, .slice a3 len3 cap3] w (RetL w 3 (x1 ++ x2 ++ x3)) := by
  obtain rfl := h1.len_eq
  obtain rfl := h2.len_eq
  obtain rfl := h3.len_eq
  obtain ⟨i0, hi, hz0, hz1, hz2⟩ := info_parts info_int
  have hO0 : OwnL w.heap.size (w.alloc (.cells #[] 3)) 3 (.slice (some ⟨w.heap.size, 0, none⟩) 0 0) [w.heap.size] ([] : List Int) := OwnL.lit w _ _ _ rfl (by simp) (Nat.le_refl _) (by simp) rfl
  have hB0 : Below w.heap.size w (w.alloc (.cells #[] 3)) := (Below.refl _ _).alloc (Nat.le_refl _) _
  have HO := hid hO0; have HB := hid hB0
  clear hO0 hB0
  go_enter Try.func55, Try.ntmps55
  go_wp2_with (at_builtin; refine wp_append rfl _ _ 54 rfl 3 i0 (.int .i64 0) 8 Try.underlying54 hi hz0 hz1 hz2 rfl rfl HO.out (b2 := []) rfl (h1.grow HB.out).src List.nodup_nil ?q1 ?q2 ?q3 ?q4 ?_)
  case q1 => first | (intro b hb; cases hb) | omega | (simp; done) | (simp; omega) | exact HB1.out.size | exact HB2.out.size
  case q2 => first | (intro b hb; cases hb) | omega | (simp; done) | (simp; omega) | exact HB1.out.size | exact HB2.out.size
  case q3 => first | (intro b hb; cases hb) | omega | (simp; done) | (simp; omega) | exact HB1.out.size | exact HB2.out.size
  case q4 => first | (intro b hb; cases hb) | omega | (simp; done) | (simp; omega) | exact HB1.out.size | exact HB2.out.size
  intro p1 k1 w1 b1 hO hT hb
  have HB1 := hid (below_tch HB.out hT (by simp))
  have HO1 := hid hO
  clear hO hT hb HO HB
  go_wp2_with (at_builtin; refine wp_append rfl _ _ 54 rfl 3 i0 (.int .i64 0) 8 Try.underlying54 hi hz0 hz1 hz2 rfl rfl HO1.out (b2 := []) rfl (h2.grow HB1.out).src List.nodup_nil ?q1 ?q2 ?q3 ?q4 ?_)
  case q1 => first | (intro b hb; cases hb) | omega | (simp; done) | (simp; omega) | exact HB1.out.size | exact HB2.out.size
  case q2 => first | (intro b hb; cases hb) | omega | (simp; done) | (simp; omega) | exact HB1.out.size | exact HB2.out.size
  case q3 => first | (intro b hb; cases hb) | omega | (simp; done) | (simp; omega) | exact HB1.out.size | exact HB2.out.size
  case q4 => first | (intro b hb; cases hb) | omega | (simp; done) | (simp; omega) | exact HB1.out.size | exact HB2.out.size
  intro p2 k2 w2 b2 hO hT hb
  have HB2 := hid (below_tch HB1.out hT HO1.out.lts)
  have HO2 := hid hO
  clear hO hT hb HO1 HB1
  go_wp2_with (at_builtin; refine wp_append rfl _ _ 54 rfl 3 i0 (.int .i64 0) 8 Try.underlying54 hi hz0 hz1 hz2 rfl rfl HO2.out (b2 := []) rfl (h3.grow HB2.out).src List.nodup_nil ?q1 ?q2 ?q3 ?q4 ?_)
  case q1 => first | (intro b hb; cases hb) | omega | (simp; done) | (simp; omega) | exact HB1.out.size | exact HB2.out.size
  case q2 => first | (intro b hb; cases hb) | omega | (simp; done) | (simp; omega) | exact HB1.out.size | exact HB2.out.size
  case q3 => first | (intro b hb; cases hb) | omega | (simp; done) | (simp; omega) | exact HB1.out.size | exact HB2.out.size
  case q4 => first | (intro b hb; cases hb) | omega | (simp; done) | (simp; omega) | exact HB1.out.size | exact HB2.out.size
  intro p3 k3 w3 b3 hO hT hb
  have HB3 := hid (below_tch HB2.out hT HO2.out.lts)
  have HO3 := hid hO
  clear hO hT hb HO2 HB2
  go_wp2
  go_ret
  exact ⟨_, _, rfl, by simpa using HO3.out, HB3.out⟩
end Go.Proofs.Ytgcdgkiefbbhkaa
