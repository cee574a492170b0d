/- Going to a cell by escape sequences. -/
import Derived.Test.YtgcdgkiefbbhkaaDoorNum
import Derived.Lib.AppendStr
set_option linter.unusedSimpArgs false
set_option linter.unusedVariables false
namespace Go.G6
open Go Go.RowKit Rep
theorem numText_size (n : Int) : (numText n).size ≤ 21 := by
  unfold numText
  split
  · rename_i h
    have h2 : 0 ≤ n ∧ n ≤ 4294967295 := by unfold inB at h; simpa using h
    have := Lib.itoa_length_le n (by omega) (by omega)
    simpa [ByteArray.size] using this
  · decide
def escB (s : ByteArray) : List UInt8 := 27 :: 91 :: s.data.toList
def gotoB (x y : Int) : List UInt8 := if inB x 0 199 && inB y 0 199 then 27 :: 91 :: ((numText (y + 1)).data.toList ++ 59 :: ((numText (x + 1)).data.toList ++ [72])) else []
theorem gotoB_len (x y : Int) : (gotoB x y).length ≤ 46 := by
  unfold gotoB
  split
  · have h1 := numText_size (y + 1); have h2 := numText_size (x + 1)
    simp; omega
  · simp
theorem ownL_bytes {lo : Nat} {w : World} {e : TypeId} {v : Value} {n : Nat} {cells : List Value} (l : List UInt8) (hl : n = l.length) (hc : cells = l.map fun b => Value.int .u8 b.toNat) (h : w.ownsRow lo e 1 v n cells) : OwnL lo w e v v.ownBlock.toList l := by
  subst hl hc
  refine ⟨_, l.map fun _ => [], h, elems_scal (fun _ _ => trivial), ?_, ?_, ?_⟩
  · rw [flat_nil (by simp), List.append_nil]
  · cases v.ownBlock <;> simp
  · intro b hb
    have hv := ownBlock_mem.1 hb
    rcases h.2 with ⟨rfl, _⟩ | ⟨g, cap, cur, rfl, hg, hgg, _⟩
    · simp [Value.ownBlock] at hv
    · simp [Value.ownBlock] at hv
      subst hv
      exact ⟨hg, cur, e, hgg⟩
end Go.G6
namespace Go.Proofs.YtgcdgkiefbbhkaaDoor
open Go.RowKit Go.G6
set_option maxHeartbeats 3000000
set_option maxRecDepth 10000
theorem i_escape (s : ByteArray) (hs : s.size ≤ 1000000) (w : World) : Calls Tryd.prog 34 #[.string s] w (RetL w 5 (escB s)) := by
  obtain ⟨i0, hi, hz0, hz1, hz2⟩ := info_parts info_byte
  have hown : (w.alloc (.cells #[.int .u8 27, .int .u8 91] 5)).ownsRow w.heap.size 5 1 (.slice (some ⟨w.heap.size, 0, none⟩) 2 2) 2 [.int .u8 27, .int .u8 91] := World.ownsRow_lit w #[.int .u8 27, .int .u8 91] 2 (Nat.le_refl _) (by decide) rfl
  have HO := hid hown; clear hown
  have hmx : 2 + s.size ≤ maxLen := by unfold maxLen; omega
  have HM := hid hmx; clear hmx
  have HS := hid hs; clear hs
  go_enter Tryd.func34, Tryd.ntmps34
  go_wp2_with (at_builtin; refine Lib.wpList_append_own_string _ rfl _ _ 32 9 rfl w.heap.size 5 i0 Tryd.underlying32 Tryd.underlying9 hi hz0 hz1 hz2 _ 2 _ rfl HO.out s rfl HM.out ?q1 ?q2 ?_)
  case q1 => have := HS.out; omega
  case q2 => simp
  intro v' w' hO hg hv
  have HB := hid (show Below w.heap.size w w' from by
    have hT : Tch [w.heap.size] (w.alloc (.cells #[.int .u8 27, .int .u8 91] 5)) w' := ⟨hg.os, hg.tape, hg.output, hg.size, fun k hk hn => hg.block k hk (by simpa [Value.ownBlock] using hn)⟩
    exact ((Below.refl _ _).alloc (Nat.le_refl _) _).trans (hT.below (by simp) (by simp)))
  have HR := hid (ownL_bytes (escB s) (by show 2 + s.size = s.data.toList.length + 1 + 1; rw [Array.length_toList]; show 2 + s.data.size = _; omega) rfl hO)
  clear hO hg hv
  go_wp2
  go_ret
  exact ⟨_, _, rfl, HR.out, HB.out⟩
theorem i_EmitGoto (x : Int) (hx : I64 x) (y : Int) (hy : I64 y) (w : World) (ht : Lib.TabIs Tryd.prog w "internal/strconv.uint64pow10" .u64 Lib.pow10Tab) :
    Calls Tryd.prog 14 #[.int .i64 x, .int .i64 y] w (RetL w 5 (gotoB x y)) := by
  have HT := hid ht; clear ht
  cases hk : (inB x 0 199 && inB y 0 199)
  · have HZ := hid (show gotoB x y = [] by unfold gotoB; rw [hk]; rfl)
    clear hx hy
    go_enter Tryd.func14, Tryd.ntmps14
    cases h1 : inB x 0 199
    · clear hk
      go_wp2_with (go_at_call 33; refine (i_in _ _ _ _).mono ?_; rintro e w' ⟨rfl, rfl⟩)
      go_ret
      exact ⟨_, [], rfl, by rw [HZ.out]; exact OwnL.nil _ _ _, Below.refl _ _⟩
    · have h2 : inB y 0 199 = false := by simpa [h1] using hk
      clear hk
      go_wp2_with (go_at_call 33; refine (i_in _ _ _ _).mono ?_; rintro e w' ⟨rfl, rfl⟩)
      go_ret
      exact ⟨_, [], rfl, by rw [HZ.out]; exact OwnL.nil _ _ _, Below.refl _ _⟩
  · have HZ0 := hid (show gotoB x y = 27 :: 91 :: ((numText (y + 1)).data.toList ++ 59 :: ((numText (x + 1)).data.toList ++ [72])) by unfold gotoB; rw [hk]; rfl)
    have h12 : inB x 0 199 = true ∧ inB y 0 199 = true := by simpa using hk
    have b1 : 0 ≤ x ∧ x ≤ 199 := by have := h12.1; unfold inB at this; simpa using this
    have b2 : 0 ≤ y ∧ y ≤ 199 := by have := h12.2; unfold inB at this; simpa using this
    obtain ⟨h1, h2⟩ := h12
    obtain ⟨X, hX⟩ : ∃ X : ByteArray, X = numText (x + 1) := ⟨_, rfl⟩
    obtain ⟨Y, hY⟩ : ∃ Y : ByteArray, Y = numText (y + 1) := ⟨_, rfl⟩
    have sX : X.size ≤ 21 := by rw [hX]; exact numText_size _
    have sY : Y.size ≤ 21 := by rw [hY]; exact numText_size _
    have CX := hid (fun (W : World) (h : Lib.TabIs Tryd.prog W "internal/strconv.uint64pow10" .u64 Lib.pow10Tab) => by have := i_NumText (x + 1) (by unfold I64; omega) W h; rw [← hX] at this; exact this)
    have CY := hid (fun (W : World) (h : Lib.TabIs Tryd.prog W "internal/strconv.uint64pow10" .u64 Lib.pow10Tab) => by have := i_NumText (y + 1) (by unfold I64; omega) W h; rw [← hY] at this; exact this)
    have HZ := hid (show gotoB x y = escB (Y ++ ⟨#[59]⟩ ++ X ++ ⟨#[72]⟩) by rw [HZ0.out, hX, hY]; simp [escB])
    have hwx : IntKind.i64.wrap (x + 1) = x + 1 := wrapI (by omega)
    have hwy : IntKind.i64.wrap (y + 1) = y + 1 := wrapI (by omega)
    clear hk hx hy HZ0 hX hY
    go_enter Tryd.func14, Tryd.ntmps14
    go_wp2_with (go_at_call 33; refine (i_in _ _ _ _).mono ?_; rintro e w' ⟨rfl, rfl⟩)
    refine (CY.out _ HT.out).mono ?_
    rintro e w1 ⟨rfl, hb⟩
    have HB1 := hid hb
    clear hb h1 h2
    go_wp2_with fail
    refine (CX.out _ (tab_below HT.out HB1.out)).mono ?_
    rintro e w2 ⟨rfl, hb⟩
    have HB2 := hid (HB1.out.trans (hb.mono HB1.out.size))
    clear hb
    go_wp2_with fail
    refine (i_escape _ ?_ _).mono ?_
    · have q1 : (⟨#[59]⟩ : ByteArray).size = 1 := rfl
      have q2 : (⟨#[72]⟩ : ByteArray).size = 1 := rfl
      simp; omega
    rintro e w3 ⟨v, b3, rfl, hO, hb⟩
    have HB3 := hid (HB2.out.trans (hb.mono HB2.out.size))
    have HO := hid (hO.mono HB2.out.size)
    clear hb hO
    go_wp2
    go_ret
    exact ⟨_, _, rfl, by rw [HZ.out]; exact HO.out, HB3.out⟩
theorem s_EmitGoto (x : Int) (hx : I64 x) (y : Int) (hy : I64 y) (w : World) :
    Calls Tryd.prog 13 #[.int .i64 x, .int .i64 y] w (RetSP w (gotoB x y)) := by
  cases hk : (inB x 0 199 && inB y 0 199)
  · have HZ := hid (show gotoB x y = [] by unfold gotoB; rw [hk]; rfl)
    have hn : ¬ (0 ≤ x ∧ x ≤ 199 ∧ 0 ≤ y ∧ y ≤ 199) := by intro h; unfold inB at hk; simp at hk; omega
    clear hx hy hk
    go_enter Tryd.func13, Tryd.ntmps13
    go_wp2
    all_goals first | omega | (go_ret; exact RetL.retSP (e := 5) (w := w) ⟨_, [], rfl, by rw [HZ.out]; exact OwnL.nil _ _ _, Below.refl _ _⟩)
  · have HZ0 := hid (show gotoB x y = 27 :: 91 :: ((numText (y + 1)).data.toList ++ 59 :: ((numText (x + 1)).data.toList ++ [72])) by unfold gotoB; rw [hk]; rfl)
    have h12 : inB x 0 199 = true ∧ inB y 0 199 = true := by simpa using hk
    have b1 : 0 ≤ x ∧ x ≤ 199 := by have := h12.1; unfold inB at this; simpa using this
    have b2 : 0 ≤ y ∧ y ≤ 199 := by have := h12.2; unfold inB at this; simpa using this
    obtain ⟨X, hX⟩ : ∃ X : ByteArray, X = numText (x + 1) := ⟨_, rfl⟩
    obtain ⟨Y, hY⟩ : ∃ Y : ByteArray, Y = numText (y + 1) := ⟨_, rfl⟩
    have sX : X.size ≤ 21 := by rw [hX]; exact numText_size _
    have sY : Y.size ≤ 21 := by rw [hY]; exact numText_size _
    have CX := hid (fun (W : World) => by have := s_NumText (x + 1) W; rw [← hX] at this; exact this)
    have CY := hid (fun (W : World) => by have := s_NumText (y + 1) W; rw [← hY] at this; exact this)
    obtain ⟨s, hs⟩ : ∃ s : ByteArray, s = ⟨#[27, 91]⟩ ++ Y ++ ⟨#[59]⟩ ++ X ++ ⟨#[72]⟩ := ⟨_, rfl⟩
    have HZ := hid (show gotoB x y = s.data.toList by rw [HZ0.out, hs, hX, hY]; simp)
    have q1 : (⟨#[59]⟩ : ByteArray).size = 1 := rfl
    have q2 : (⟨#[72]⟩ : ByteArray).size = 1 := rfl
    have q3 : (⟨#[27, 91]⟩ : ByteArray).size = 2 := rfl
    have ss : s.size ≤ 46 := by rw [hs]; simp; omega
    have hcv : ∀ (W : World) (s : ByteArray), (convert 9 32 (.string s)).run Tryd.prog W = .ok (.slice (some ⟨W.heap.size, 0, none⟩) s.size (grownCap W s.size 0 5)) (W.drew.alloc (.cells (bytesRow s (grownCap W s.size 0 5)) 5 ((bytesRow s (grownCap W s.size 0 5)).size, (bytesRow s (grownCap W s.size 0 5)).size + 1))) := fun W s => run_bytes_of_string W _ _ _ s Tryd.underlying9 Tryd.underlying32 Tryd.underlying5
    have hwx : IntKind.i64.wrap (x + 1) = x + 1 := wrapI (by omega)
    have hwy : IntKind.i64.wrap (y + 1) = y + 1 := wrapI (by omega)
    clear hk hx hy HZ0 hX hY
    go_enter Tryd.func13, Tryd.ntmps13
    go_wp2_with fail
    refine (CY.out _).mono ?_
    rintro e w1 ⟨rfl, hb⟩
    have HB1 := hid hb
    clear hb
    go_wp2_with fail
    refine (CX.out _).mono ?_
    rintro e w2 ⟨rfl, hb⟩
    have HB2 := hid (HB1.out.trans (hb.mono HB1.out.size))
    clear hb
    have HM : Hid (s.size ≤ maxLen) := hid (by unfold maxLen; omega)
    have hs2 := hs.symm
    clear hs
    go_wp2
    go_ret
    rw [HZ.out]
    exact retSP_bytes s _ _ _ (by first | rfl | simp) rfl rfl (grownCap_ge _ _ _ _) (grownCap_le_maxLen _ _ _ _ HM.out) HB2.out
theorem i_EmitGotoS (x : Int) (hx : I64 x) (y : Int) (hy : I64 y) (w : World) (ht : Lib.TabIs Tryd.prog w "internal/strconv.uint64pow10" .u64 Lib.pow10Tab) :
    Calls Tryd.prog 14 #[.int .i64 x, .int .i64 y] w (RetS w (gotoB x y)) := (i_EmitGoto x hx y hy w ht).mono fun _ _ h => h.retS
end Go.Proofs.YtgcdgkiefbbhkaaDoor
