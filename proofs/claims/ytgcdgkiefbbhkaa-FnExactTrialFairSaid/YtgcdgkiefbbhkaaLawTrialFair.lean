/- The law on TrialFair, over values whose cells stay letters. -/
import Derived.Test.YtgcdgkiefbbhkaaHelpE
import Derived.Test.YtgcdgkiefbbhkaaFairI
import Derived.Test.YtgcdgkiefbbhkaaFairS
import Derived.Test.YtgcdgkiefbbhkaaMid
import Derived.Deep.DeepCutAuto
set_option linter.unusedSimpArgs false
set_option linter.unusedVariables false
namespace Go.Proofs.Ytgcdgkiefbbhkaa
open Go.RowKit Go.G6
set_option maxHeartbeats 4000000
set_option maxRecDepth 10000
theorem lawTrialFair {w : World} {bs_0 : List Nat} {cs_0 : List Value} {d_0 : TrialD} (g_0 : Rep.pt w bs_0 cs_0 d_0) :
    Calls Try.prog 3 #[.agg cs_0.toArray] w fun e w' => e = .returned (.bool true) ∧ Below w.heap.size w w' := by
  have hl0 : cs_0.length = 21 := Rep.len g_0
  have I0 := hid (show (Try.prog.info? 31).map (·.size) = some cs_0.length by rw [hl0]; kernel_rfl)
  have G := hid g_0; clear g_0
  have HB := hid ((Below.refl w.heap.size w).alloc (Nat.le_refl _) (.cells cs_0.toArray 31))
  have B := hid (show Bx (w.alloc (.cells cs_0.toArray 31)) w.heap.size cs_0.toArray from Bx.new _ _ _ rfl)
  clear hl0
  go_enter Try.func3, Try.ntmps3
  go_wp2_with (first | (refine wpList_load_mid rfl 31 _ rfl w.heap.size 0 rfl cs_0 _ B.out.all Try.underlying31 rfl I0.out ?_))
  refine (szTrial 1048576 (grow G.out HB.out) (by omega) (by omega)).mono ?_
  rintro e w1 ⟨rfl, hb⟩
  have B1 := hid (Bx.below hb B.out.f.lt B.out)
  have HB1 := hid (HB.out.trans (hb.mono HB.out.size))
  clear hb B HB
  by_cases hn : (Cnt.cnt d_0 : Int) ≤ 1048576
  rotate_left
  · rw [szr_neg (by omega)]
    go_wp2
    go_ret
    exact ⟨rfl, HB1.out⟩
  rw [szr_pos hn]
  have HN : Hid (Cnt.cnt d_0 ≤ 1048576) := hid (by omega)
  have hnn : ¬ (1048576 - (Cnt.cnt d_0 : Int)) < 0 := by omega
  clear hn
  go_wp2_with (first | (refine wpList_load_mid rfl 31 _ rfl w.heap.size 0 rfl cs_0 _ B1.out.all Try.underlying31 rfl I0.out ?_))
  refine (toTrial (grow G.out HB1.out) HN.out).mono ?_
  rintro e w2 ⟨cs2, bs2, rfl, hO2, hb⟩
  have B2 := hid (Bx.below hb B1.out.f.lt B1.out)
  have HB2 := hid (HB1.out.trans (hb.mono HB1.out.size))
  clear hb B1 HB1
  go_wp2_with fail
  refine (s_TrialFair hO2.1).mono ?_
  rintro e w3 ⟨rfl, hb⟩
  have B3 := hid (Bx.below hb B2.out.f.lt B2.out)
  have HB3 := hid (HB2.out.trans (hb.mono HB2.out.size))
  clear hb B2 HB2 hO2
  go_wp2_with (first | (refine wpList_load_mid rfl 31 _ rfl w.heap.size 0 rfl cs_0 _ B3.out.all Try.underlying31 rfl I0.out ?_))
  refine (toTrial (grow G.out HB3.out) HN.out).mono ?_
  rintro e w4 ⟨cs4, bs4, rfl, hO4, hb⟩
  have B4 := hid (Bx.below hb B3.out.f.lt B3.out)
  have HB4 := hid (HB3.out.trans (hb.mono HB3.out.size))
  clear hb B3 HB3
  have hl4 : cs4.length = 21 := Rep.len hO4.1
  have I4 := hid (show (Try.prog.info? 43).map (·.size) = some cs4.length by rw [hl4]; kernel_rfl)
  have J4 := hid (show (Try.prog.info? 43).map (·.size) = some cs4.toArray.size by rw [List.size_toArray, hl4]; kernel_rfl)
  have C4 := hid (all_oneCell_toArray (Rep.one hO4.1))
  have O4 := hid hO4.1; clear hO4
  have Z4 := hid (show (w4.alloc (.cells #[.bool false, .int .i64 0, .int .i64 0, .int .i64 0, .int .i64 0, .int .i64 0, .slice none 0 0, .slice none 0 0, .slice none 0 0, .int .i64 0, .int .i64 0, .slice none 0 0, .int .i64 0, .int .i64 0, .int .i64 0, .int .i64 0, .slice none 0 0, .slice none 0 0, .slice none 0 0, .slice none 0 0, .slice none 0 0] 43)).there w4.heap.size 0 cs4.toArray.size from (Bx.new _ _ _ rfl).there 0 _ (by rw [List.size_toArray, hl4]; exact Nat.le_refl 21))
  have HL4 := hid hl4; clear hl4
  go_upto_region 7 with (refine wpList_store_mid rfl 43 _ _ rfl w4.heap.size 0 cs4.toArray rfl rfl Z4.out J4.out C4.out ?_)
  refine late_genw (fun w5 hw5 => ?_)
  have X5 := hid (show Bx w5 w4.heap.size cs4.toArray by rw [hw5]; exact (Bx.new _ _ _ rfl).setAll cs4 (by rw [HL4.out]; rfl))
  have B5 := hid (show Bx w5 w.heap.size cs_0.toArray by rw [hw5]; exact (B4.out.alloc B4.out.f.lt _).setOtherAll (by have := B4.out.f.lt; have := HB4.out.size; first | omega | exact Nat.ne_of_lt B4.out.f.lt) _ _)
  have K5 := hid (show Below w4.heap.size w4 w5 by rw [hw5]; exact Below.setCells _ (Nat.le_refl _) _ _ ((Below.refl _ _).alloc (Nat.le_refl _) _))
  have HB5 := hid (HB4.out.trans (K5.out.mono HB4.out.size))
  have O5 := hid (grow O4.out K5.out)
  clear hw5 Z4 C4 J4 O4 B4 HB4 K5
  go_wp2_with (first | (refine wpList_load_mid rfl 43 _ rfl w4.heap.size 0 rfl cs4 _ X5.out.all Try.underlying43 rfl I4.out ?_))
  refine (i_TrialFair O5.out).mono ?_
  rintro e w6 ⟨rfl, hb⟩
  have X6 := hid (Bx.below hb X5.out.f.lt X5.out)
  have B6 := hid (Bx.below hb B5.out.f.lt B5.out)
  have HB6 := hid (HB5.out.trans (hb.mono HB5.out.size))
  have O6 := hid (grow O5.out hb)
  clear hb X5 B5 HB5 O5
  cases hq : trialFair d_0
  all_goals
    clear hq
    go_upto_region 10 with fail
    refine late_start (fun W => W.rangeAt w4.heap.size 0 cs4 ∧ W.rangeAt w.heap.size 0 cs_0 ∧ Below w6.heap.size w6 W) 99 (by kernel_rfl) ?_ (fun hS => ?_)
    · exact ⟨(World.rangeAt_drew _ _ _ _).2 X6.out.all, (World.rangeAt_drew _ _ _ _).2 B6.out.all, (Below.refl _ _).drew⟩
    refine late_take (i := 0) (v := .agg cs4.toArray) rfl (by kernel_rfl) (fun _ _ _ h => h) (by rfl) (fun W hW => exec_load_mid 43 _ rfl w4.heap.size 0 rfl cs4 _ hW.1 Try.underlying43 rfl I4.out) hS ?_
    try simp only [Act.put, List.setIfInBounds_toArray, List.set_cons_zero, List.set_cons_succ]
    refine late_take (i := 1) (v := .agg cs_0.toArray) rfl (by kernel_rfl) (fun _ _ _ h => h) (by rfl) (fun W hW => exec_load_mid 31 _ rfl w.heap.size 0 rfl cs_0 _ hW.2.1 Try.underlying31 rfl I0.out) hS ?_
    try simp only [Act.put, List.setIfInBounds_toArray, List.set_cons_zero, List.set_cons_succ]
    refine late_one (i := 2) rfl (by kernel_rfl) (fun K9 hK9 => ?_)
    go_simp
    refine (toTrial (grow G.out (HB6.out.drew)) HN.out).mono ?_
    rintro e w7 ⟨cs7, bs7, rfl, hO7, hb⟩
    refine hK9.out _ _ (fun _ => ?_) (fun hS9 => ?_)
    · (try dsimp only); exact ⟨range_below hS.1 hb, range_below hS.2.1 hb, hS.2.2.trans (hb.mono hS.2.2.size)⟩
    replace hS := hS9 (by decide)
    clear hK9 K9 hS9
    try simp only [Act.put, List.setIfInBounds_toArray, List.set_cons_zero, List.set_cons_succ]
    have hb7 : Below w6.heap.size w6 w7 := hS.2.2
    have O7 := hid (grow O6.out hb7)
    refine late_one (i := 3) rfl (by kernel_rfl) (fun K9 hK9 => ?_)
    go_simp
    refine (eqTrial O7.out hO7.1).mono ?_
    rintro e w8 ⟨rfl, hb8⟩
    refine hK9.out _ _ (fun _ => ?_) (fun hS9 => ?_)
    · (try dsimp only); exact ⟨range_below hS.1 hb8, range_below hS.2.1 hb8, hS.2.2.trans (hb8.mono hS.2.2.size)⟩
    replace hS := hS9 (by decide)
    clear hK9 K9 hS9
    try simp only [Act.put, List.setIfInBounds_toArray, List.set_cons_zero, List.set_cons_succ]
    refine late_one (i := 4) rfl (by kernel_rfl) (fun K9 hK9 => ?_)
    go_simp
    refine hK9.out _ _ (fun _ => ?_) (fun hS9 => ?_)
    · (try dsimp only); exact ⟨hS.1, hS.2.1, hS.2.2⟩
    replace hS := hS9 (by decide)
    clear hK9 K9 hS9
    try simp only [Act.put, List.setIfInBounds_toArray, List.set_cons_zero, List.set_cons_succ]
    refine late_done (by kernel_rfl) ?_ _
    have HBf := hid (HB6.out.trans (hS.2.2.mono HB6.out.size))
    clear hS
    go_wp2
    go_ret
    exact ⟨rfl, HBf.out⟩
end Go.Proofs.Ytgcdgkiefbbhkaa
