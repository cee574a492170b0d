/- Copies of slices. -/
import Derived.Test.YtcgpgdndnfoabaaProg
import Derived.Test.YtcgpgdndnfoabaaApp
set_option linter.unusedSimpArgs false
set_option linter.unusedVariables false
namespace Go.Proofs.Ytcgpgdndnfoabaa
open Go.RowKit Go.G6
set_option maxHeartbeats 800000
set_option maxRecDepth 10000
theorem info_int : (Try.prog.info? 3).map (fun i => (i.zero, i.size, i.bytes)) = some (some (.int .i64 0), 1, 8) := by kernel_rfl
theorem info_byte : (Try.prog.info? 5).map (fun i => (i.zero, i.size, i.bytes)) = some (some (.int .u8 0), 1, 1) := by kernel_rfl
theorem i_copyInts {w : World} {bs : List Nat} {a : Option Addr} {len cap : Nat} {xs : List Int} (h : Slc w bs a len cap xs) (hn : xs.length ≤ 16777216) :
    Calls Try.prog 79 #[.slice a len cap] w (RetL w 3 xs) := by
  obtain rfl := h.len_eq
  obtain ⟨i0, hi, hz0, hz1, hz2⟩ := info_parts info_int
  go_enter Try.func79, Try.ntmps79
  go_wp2_with (at_builtin; refine wp_append rfl _ _ 22 rfl 3 i0 (.int .i64 0) 8 Try.underlying22 hi hz0 hz1 hz2 rfl (lo := w.heap.size) (xs := ([] : List Int)) rfl (OwnL.nil _ _ _) (b2 := []) rfl h.src List.nodup_nil ?q1 ?q2 ?q3 ?q4 ?_)
  case q1 => first | (intro b hb; cases hb) | omega | (simp; done) | (simp; omega) | exact HB1.out.size | exact HB2.out.size
  case q2 => first | (intro b hb; cases hb) | omega | (simp; done) | (simp; omega) | exact HB1.out.size | exact HB2.out.size
  case q3 => first | (intro b hb; cases hb) | omega | (simp; done) | (simp; omega) | exact HB1.out.size | exact HB2.out.size
  case q4 => first | (intro b hb; cases hb) | omega | (simp; done) | (simp; omega) | exact HB1.out.size | exact HB2.out.size
  intro p k w1 bs' hO hT hb
  go_wp2
  go_ret
  exact ⟨_, _, rfl, by simpa using hO, hT.below (Nat.le_refl _) (by simp)⟩
end Go.Proofs.Ytcgpgdndnfoabaa
