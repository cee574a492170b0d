/- The last entries. -/
import Derived.Test.YtdfpjchneofndaaEnts
import Derived.Lib.MinMax
set_option linter.unusedSimpArgs false
set_option linter.unusedVariables false
namespace Go.G6
open Go Go.RowKit Rep
theorem elems_entry {w : World} {ys : List EntryD} {bss : List (List Nat)} {cells : List Value} (h : Elems w bss cells ys) : ∀ b ∈ bss, b = [] := by
  intro b hb
  obtain ⟨i, hi, rfl⟩ := List.getElem_of_mem hb
  have hl := h.length.1
  obtain ⟨cs, bs, hp, he, _⟩ := h.get i (by omega)
  rw [List.getElem?_eq_getElem hi] at he
  rw [Option.some.inj he]
  exact (open_Entry hp).1
theorem Slc.srcE {w : World} {bs : List Nat} {a : Option Addr} {m c : Nat} {ys : List EntryD} (h : Slc w bs a m c ys) : Src w [] a m c ys := by
  obtain ⟨h1, h2, h3, ⟨rfl, rfl, h5⟩ | ⟨_, b, off, bss, cells, rfl, _, _, hE, hA⟩⟩ := h
  · refine ⟨h1, ?_⟩
    cases a with
    | none => exact .inl ⟨rfl, h5 rfl, rfl, rfl⟩
    | some ad => exact .inr ⟨ad, [], [], rfl, rfl, rfl, by simp⟩
  · refine ⟨h1, .inr ⟨_, bss, cells, rfl, hE, (flat_nil (elems_entry hE)).symm, fun j u hj => ?_⟩⟩
    rw [add_none]
    exact hA j u hj
def lastOf (l : List EntryD) : List EntryD := l.drop (l.length - min 60 l.length)
theorem lastOf_len (l : List EntryD) : (lastOf l).length = min 60 l.length := by unfold lastOf; rw [List.length_drop]; omega
end Go.G6
namespace Go.Proofs.Ytdfpjchneofndaa
open Go.RowKit Go.G6
set_option maxHeartbeats 3000000
set_option maxRecDepth 10000
theorem i_LastOf {w : World} {bs : List Nat} {a : Option Addr} {len cap : Nat} {l : List EntryD} (h : Slc w bs a len cap l) :
    Calls Try.prog 89 #[.slice a len cap, .int .i64 60] w fun e w' => ∃ v bs', e = .returned v ∧ OwnL w.heap.size w' 127 v bs' (lastOf l) ∧ Below w.heap.size w w' := by
  obtain rfl := h.len_eq
  have m1 := h.max
  obtain ⟨i0, hi, hz0, hz1, hz2⟩ := info_parts info_EntryF
  obtain ⟨N, hN⟩ : ∃ N : Nat, N = min 60 l.length := ⟨_, rfl⟩
  have hmx : max 0 (min 60 (l.length : Int)) = (N : Int) := by omega
  have ek : ((l.length : Int) - (N : Int)).toNat = l.length - N := by omega
  obtain ⟨p6, bS, hcut, _, _, hSc⟩ := h.cut_l 39 Try.underlying39 hi hz1 ((l.length : Int) - (N : Int)) (by omega) (by omega)
  rw [ek] at hcut hSc
  have hL : lastOf l = l.drop (l.length - N) := by unfold lastOf; rw [← hN]
  rw [← hL] at hSc
  have hLl : (lastOf l).length ≤ 60 := by rw [lastOf_len]; omega
  have HSc := hid hSc
  have hNl : (N : Int) ≤ (l.length : Int) := by omega
  clear ek hSc hL hN h
  go_enter Try.func89, Try.ntmps89
  go_upto_region 2 with fail
  go_wp2_with (at_builtin; refine wp_append rfl _ _ 39 rfl 127 i0 (.agg #[.int .i64 0, .string ByteArray.empty]) 24 Try.underlying39 hi hz0 hz1 hz2 rfl (lo := w.heap.size) (bs := []) (xs := ([] : List EntryD)) rfl (OwnL.nil _ _ _) (b2 := []) (ys := lastOf l) rfl HSc.out.srcE List.nodup_nil ?q1 ?q2 ?q3 ?q4 ?_)
  case q1 => simp
  case q2 => first | omega | (simp; omega)
  case q3 => first | omega | (simp; omega)
  case q4 => exact Nat.le_refl _
  intro p2 c2 w2 b3 hO2 hT hm
  have HB2 := hid (hT.below (B := w.heap.size) (Nat.le_refl _) (by simp))
  have HO2 := hid hO2
  clear hO2 hT hm
  go_wp2
  go_ret
  exact ⟨_, b3, rfl, HO2.out, HB2.out⟩
theorem s_LastOf {w : World} {bs : List Nat} {a : Option Addr} {len cap : Nat} {l : List EntryD} (h : Slc w bs a len cap l) :
    Calls Try.prog 86 #[.slice a len cap, .int .i64 60] w fun e w' => ∃ v bs', e = .returned v ∧ OwnL w.heap.size w' 127 v bs' (lastOf l) ∧ Below w.heap.size w w' := by
  obtain rfl := h.len_eq
  have m1 := h.max
  obtain ⟨i0, hi, hz0, hz1, hz2⟩ := info_parts info_EntryF
  obtain ⟨N, hN⟩ : ∃ N : Nat, N = min 60 l.length := ⟨_, rfl⟩
  have ek : ((l.length : Int) - (N : Int)).toNat = l.length - N := by omega
  obtain ⟨p6, bS, hcut, _, _, hSc⟩ := h.cut_l 39 Try.underlying39 hi hz1 ((l.length : Int) - (N : Int)) (by omega) (by omega)
  rw [ek] at hcut hSc
  have hL : lastOf l = l.drop (l.length - N) := by unfold lastOf; rw [← hN]
  rw [← hL] at hSc
  have hLl : (lastOf l).length ≤ 60 := by rw [lastOf_len]; omega
  have HSc := hid hSc
  have HO0 := hid (ownL_empty (α := EntryD) (lo := w.heap.size) (w := w) (e := 127) rfl (Nat.le_refl _))
  clear ek hSc hL h
  by_cases h60 : (l.length : Int) < 60
  · have hNe : N = l.length := by omega
    subst hNe
    clear hN
    have hs0 := HSc.out
    simp only [Int.sub_self, Nat.sub_self, Nat.sub_zero] at hcut hs0
    replace HSc := hid hs0
    clear hs0
    go_enter Try.func86, Try.ntmps86
    go_wp2_with (at_builtin; refine wp_append rfl _ _ 39 rfl 127 i0 (.agg #[.int .i64 0, .string ByteArray.empty]) 24 Try.underlying39 hi hz0 hz1 hz2 rfl (lo := w.heap.size) (xs := ([] : List EntryD)) rfl HO0.out (b2 := []) (ys := lastOf l) rfl (HSc.out.grow ((Below.refl _ _).alloc (Nat.le_refl _) _)).srcE List.nodup_nil ?q1 ?q2 ?q3 ?q4 ?_)
    try (case q1 => simp)
    case q2 => first | omega | (simp; omega)
    case q3 => first | omega | (simp; omega)
    try (case q4 => simp)
    intro p2 c2 w2 b3 hO2 hT hm
    have HB2 := hid (((Below.refl w.heap.size w).alloc (Nat.le_refl _) _).trans (hT.below (B := w.heap.size) (by simp) (by simp)))
    have HO2 := hid hO2
    clear hO2 hT hm
    go_wp2
    go_ret
    exact ⟨_, b3, rfl, HO2.out, HB2.out⟩
  · have hNe : N = 60 := by omega
    subst hNe
    clear hN
    rw [show ((60 : Nat) : Int) = 60 from rfl] at hcut
    go_enter Try.func86, Try.ntmps86
    go_wp2_with (at_builtin; refine wp_append rfl _ _ 39 rfl 127 i0 (.agg #[.int .i64 0, .string ByteArray.empty]) 24 Try.underlying39 hi hz0 hz1 hz2 rfl (lo := w.heap.size) (xs := ([] : List EntryD)) rfl HO0.out (b2 := []) (ys := lastOf l) rfl (HSc.out.grow ((Below.refl _ _).alloc (Nat.le_refl _) _)).srcE List.nodup_nil ?q1 ?q2 ?q3 ?q4 ?_)
    try (case q1 => simp)
    case q2 => first | omega | (simp; omega)
    case q3 => first | omega | (simp; omega)
    try (case q4 => simp)
    intro p2 c2 w2 b3 hO2 hT hm
    have HB2 := hid (((Below.refl w.heap.size w).alloc (Nat.le_refl _) _).trans (hT.below (B := w.heap.size) (by simp) (by simp)))
    have HO2 := hid hO2
    clear hO2 hT hm
    go_wp2
    go_ret
    exact ⟨_, b3, rfl, HO2.out, HB2.out⟩
end Go.Proofs.Ytdfpjchneofndaa
