/- The law on TrialNew (printed by gennew.py). -/
import Derived.Test.YtgcdgkiefbbhkaaNewS
set_option linter.unusedSimpArgs false
set_option linter.unusedVariables false
namespace Go.Proofs.Ytgcdgkiefbbhkaa
open Go.RowKit Go.G6
set_option maxHeartbeats 8000000
set_option maxRecDepth 10000
theorem lawTrialNew {w : World} (d_0 : Int) (h0_0 : I64 d_0) (d_1 : Int) (h0_1 : I64 d_1) (d_2 : Int) (h0_2 : I64 d_2) :
    Calls Try.prog 4 #[.int .i64 d_0, .int .i64 d_1, .int .i64 d_2] w fun e w' => e = .returned (.bool true) ∧ Below w.heap.size w w' := by
  have hI : ∀ x : Int, I64 x → I64 (if tnOk d_0 d_1 d_2 then x else 0) := by intro x hx; split; exact hx; simp [I64]
  obtain ⟨K, hK⟩ : ∃ x : Int, x = (if tnOk d_0 d_1 d_2 then d_1 else 0) := ⟨_, rfl⟩
  have iK : I64 K := by rw [hK]; exact hI _ h0_1
  obtain ⟨Z, hZ⟩ : ∃ x : Int, x = (if tnOk d_0 d_1 d_2 then d_2 else 0) := ⟨_, rfl⟩
  have iZ : I64 Z := by rw [hZ]; exact hI _ h0_2
  obtain ⟨R, hR⟩ : ∃ x : Int, x = (if tnOk d_0 d_1 d_2 then d_0 else 0) := ⟨_, rfl⟩
  have iR : I64 R := by rw [hR]; exact hI _ h0_0
  obtain ⟨F, hF⟩ : ∃ x : Int, x = (if tnOk d_0 d_1 d_2 then (-1) else 0) := ⟨_, rfl⟩
  have iF : I64 F := by rw [hF]; exact hI _ (by simp [I64])
  obtain ⟨N, hN⟩ : ∃ x : Int, x = (if tnOk d_0 d_1 d_2 then 1 else 0) := ⟨_, rfl⟩
  have iN : I64 N := by rw [hN]; exact hI _ (by simp [I64])
  obtain ⟨ok, hok⟩ : ∃ b : Bool, b = tnOk d_0 d_1 d_2 := ⟨_, rfl⟩
  have qs : ∀ w : World, Calls Try.prog 12 #[.int .i64 d_0, .int .i64 d_1, .int .i64 d_2] w fun e w' => e = .returned (.tuple #[.agg #[.bool false, .int .i64 (K), .int .i64 (Z), .int .i64 (0), .int .i64 (0), .int .i64 (0), .slice none 0 0, .slice none 0 0, .slice none 0 0, .int .i64 (0), .int .i64 (0), .slice none 0 0, .int .i64 (0), .int .i64 (R), .int .i64 (F), .int .i64 (N), .slice none 0 0, .slice none 0 0, .slice none 0 0, .slice none 0 0, .slice none 0 0], .bool ok]) ∧ Below w.heap.size w w' := fun w => by have h := s_TrialNew d_0 d_1 d_2 w; rw [← hK, ← hZ, ← hR, ← hF, ← hN, ← hok] at h; exact h
  have qi : ∀ w : World, Calls Try.prog 13 #[.int .i64 d_0, .int .i64 d_1, .int .i64 d_2] w fun e w' => e = .returned (.tuple #[.agg #[.bool false, .int .i64 (K), .int .i64 (Z), .int .i64 (0), .int .i64 (0), .int .i64 (0), .slice none 0 0, .slice none 0 0, .slice none 0 0, .int .i64 (0), .int .i64 (0), .slice none 0 0, .int .i64 (0), .int .i64 (R), .int .i64 (F), .int .i64 (N), .slice none 0 0, .slice none 0 0, .slice none 0 0, .slice none 0 0, .slice none 0 0], .bool ok]) ∧ Below w.heap.size w w' := fun w => by have h := i_TrialNew d_0 d_1 d_2 w; rw [← hK, ← hZ, ← hR, ← hF, ← hN, ← hok] at h; exact h
  have iz : I64 (0 : Int) := by simp [I64]
  have qp : ∀ w : World, ∃ bs : List Nat, Rep.pt w bs #[.bool false, .int .i64 (K), .int .i64 (Z), .int .i64 (0), .int .i64 (0), .int .i64 (0), .slice none 0 0, .slice none 0 0, .slice none 0 0, .int .i64 (0), .int .i64 (0), .slice none 0 0, .int .i64 (0), .int .i64 (R), .int .i64 (F), .int .i64 (N), .slice none 0 0, .slice none 0 0, .slice none 0 0, .slice none 0 0, .slice none 0 0].toList ({ Up := false, Keep := K, Size := Z, Store := { Disk := { Room := 0, Fuse := 0, Next := 0, Nodes := [], Kept := [], Turns := [] }, Keep := 0, Size := 0, Ents := [], Len := 0 }, Disk := { Room := R, Fuse := F, Next := N, Nodes := [], Kept := [], Turns := [] }, Sure := [], Maybe := [] } : TrialD) := fun w => ⟨_, mk_Trial (d := { Up := false, Keep := K, Size := Z, Store := { Disk := { Room := 0, Fuse := 0, Next := 0, Nodes := [], Kept := [], Turns := [] }, Keep := 0, Size := 0, Ents := [], Len := 0 }, Disk := { Room := R, Fuse := F, Next := N, Nodes := [], Kept := [], Turns := [] }, Sure := [], Maybe := [] }) iK iZ iz iz iz (slc_nil w) (slc_nil w) (slc_nil w) iz iz (slc_nil w) iz iR iF iN (slc_nil w) (slc_nil w) (slc_nil w) (slc_nil w) (slc_nil w)⟩
  have qe : ∀ w : World, Calls Try.prog 11 #[.agg #[.bool false, .int .i64 (K), .int .i64 (Z), .int .i64 (0), .int .i64 (0), .int .i64 (0), .slice none 0 0, .slice none 0 0, .slice none 0 0, .int .i64 (0), .int .i64 (0), .slice none 0 0, .int .i64 (0), .int .i64 (R), .int .i64 (F), .int .i64 (N), .slice none 0 0, .slice none 0 0, .slice none 0 0, .slice none 0 0, .slice none 0 0], .agg #[.bool false, .int .i64 (K), .int .i64 (Z), .int .i64 (0), .int .i64 (0), .int .i64 (0), .slice none 0 0, .slice none 0 0, .slice none 0 0, .int .i64 (0), .int .i64 (0), .slice none 0 0, .int .i64 (0), .int .i64 (R), .int .i64 (F), .int .i64 (N), .slice none 0 0, .slice none 0 0, .slice none 0 0, .slice none 0 0, .slice none 0 0]] w fun e w' => e = .returned (.bool true) ∧ Below w.heap.size w w' := fun w => by obtain ⟨b, hb⟩ := qp w; exact eqTrial hb hb
  have qm : ∀ w : World, Calls Try.prog 14 #[.agg #[.bool false, .int .i64 (K), .int .i64 (Z), .int .i64 (0), .int .i64 (0), .int .i64 (0), .slice none 0 0, .slice none 0 0, .slice none 0 0, .int .i64 (0), .int .i64 (0), .slice none 0 0, .int .i64 (0), .int .i64 (R), .int .i64 (F), .int .i64 (N), .slice none 0 0, .slice none 0 0, .slice none 0 0, .slice none 0 0, .slice none 0 0], .int .i64 1] w fun e w' => e = .returned (.int .i64 1) ∧ Below w.heap.size w w' := fun w => nil_markTrial _ _ _ _ _ _ w
  have qh : ∀ w : World, Calls Try.prog 15 #[.agg #[.bool false, .int .i64 (K), .int .i64 (Z), .int .i64 (0), .int .i64 (0), .int .i64 (0), .slice none 0 0, .slice none 0 0, .slice none 0 0, .int .i64 (0), .int .i64 (0), .slice none 0 0, .int .i64 (0), .int .i64 (R), .int .i64 (F), .int .i64 (N), .slice none 0 0, .slice none 0 0, .slice none 0 0, .slice none 0 0, .slice none 0 0], .int .i64 1] w fun e w' => e = .returned (.int .i64 1) ∧ Below w.heap.size w w' := fun w => nil_heldTrial _ _ _ _ _ _ (by omega) w
  obtain ⟨cs, hcs, hl⟩ : ∃ cs : List Value, #[.bool false, .int .i64 (K), .int .i64 (Z), .int .i64 (0), .int .i64 (0), .int .i64 (0), .slice none 0 0, .slice none 0 0, .slice none 0 0, .int .i64 (0), .int .i64 (0), .slice none 0 0, .int .i64 (0), .int .i64 (R), .int .i64 (F), .int .i64 (N), .slice none 0 0, .slice none 0 0, .slice none 0 0, .slice none 0 0, .slice none 0 0] = cs.toArray ∧ cs.length = 21 := ⟨[.bool false, .int .i64 (K), .int .i64 (Z), .int .i64 (0), .int .i64 (0), .int .i64 (0), .slice none 0 0, .slice none 0 0, .slice none 0 0, .int .i64 (0), .int .i64 (0), .slice none 0 0, .int .i64 (0), .int .i64 (R), .int .i64 (F), .int .i64 (N), .slice none 0 0, .slice none 0 0, .slice none 0 0, .slice none 0 0, .slice none 0 0], rfl, rfl⟩
  have hc1 : cs.toArray.all (·.oneCell') = true := by rw [← hcs]; simp [Value.oneCell']
  rw [hcs] at qs qi qe qm qh
  have HC1 := hid hc1
  have HC2 := hid (show (Try.prog.info? 43).map (·.size) = some cs.toArray.size by rw [List.size_toArray, hl]; kernel_rfl)
  have I4 := hid (show (Try.prog.info? 43).map (·.size) = some cs.length by rw [hl]; kernel_rfl)
  have HL := hid hl
  have HB := hid (Below.refl w.heap.size w)
  have QS := hid qs; have QI := hid qi; have QE := hid qe; have QM := hid qm; have QH := hid qh
  clear qs qi qe qp qm qh hI hK hZ hR hF hN hok iK iZ iR iF iN iz h0_0 h0_1 h0_2 hcs hl hc1
  go_enter Try.func4, Try.ntmps4
  go_wp2_with fail
  refine (QS.out _).mono ?_
  rintro e w1 ⟨rfl, hb⟩
  replace HB := hid (HB.out.trans (hb.mono HB.out.size))
  clear hb
  have TH := hid (show (w1.alloc (.cells #[.bool false, .int .i64 (0), .int .i64 (0), .int .i64 (0), .int .i64 (0), .int .i64 (0), .slice none 0 0, .slice none 0 0, .slice none 0 0, .int .i64 (0), .int .i64 (0), .slice none 0 0, .int .i64 (0), .int .i64 (0), .int .i64 (0), .int .i64 (0), .slice none 0 0, .slice none 0 0, .slice none 0 0, .slice none 0 0, .slice none 0 0] 43)).there w1.heap.size 0 (cs.toArray : Array Value).size from (Bx.new _ _ _ rfl).there 0 _ (by rw [List.size_toArray, HL.out]; exact Nat.le_refl 21))
  go_upto_region 2 with (refine wpList_store_mid rfl 43 _ _ rfl w1.heap.size 0 cs.toArray rfl rfl TH.out HC2.out HC1.out ?_)
  refine late_genw (fun w2 hw2 => ?_)
  clear TH
  as_aux_lemma =>
    have hb : Below w1.heap.size w1 w2 := by rw [hw2]; exact Below.setCells _ (Nat.le_refl _) _ _ ((Below.refl _ _).alloc (Nat.le_refl _) _)
    have B7 := hid (show Bx w2 w1.heap.size cs.toArray by rw [hw2]; exact (Bx.new _ _ _ rfl).setAll cs (by rw [HL.out]; rfl))
    replace HB := hid (HB.out.trans (hb.mono HB.out.size))
    clear hw2 hb
    go_wp2_with fail
    refine (QI.out _).mono ?_
    rintro e w3 ⟨rfl, hb⟩
    replace B7 := hid (Bx.below hb B7.out.f.lt B7.out)
    replace HB := hid (HB.out.trans (hb.mono HB.out.size))
    clear hb
    have TH := hid (show (w3.alloc (.cells #[.bool false, .int .i64 (0), .int .i64 (0), .int .i64 (0), .int .i64 (0), .int .i64 (0), .slice none 0 0, .slice none 0 0, .slice none 0 0, .int .i64 (0), .int .i64 (0), .slice none 0 0, .int .i64 (0), .int .i64 (0), .int .i64 (0), .int .i64 (0), .slice none 0 0, .slice none 0 0, .slice none 0 0, .slice none 0 0, .slice none 0 0] 43)).there w3.heap.size 0 (cs.toArray : Array Value).size from (Bx.new _ _ _ rfl).there 0 _ (by rw [List.size_toArray, HL.out]; exact Nat.le_refl 21))
    go_upto_region 3 with (refine wpList_store_mid rfl 43 _ _ rfl w3.heap.size 0 cs.toArray rfl rfl TH.out HC2.out HC1.out ?_)
    refine late_genw (fun w4 hw4 => ?_)
    clear TH
    as_aux_lemma =>
      have hb : Below w3.heap.size w3 w4 := by rw [hw4]; exact Below.setCells _ (Nat.le_refl _) _ _ ((Below.refl _ _).alloc (Nat.le_refl _) _)
      have B9 := hid (show Bx w4 w3.heap.size cs.toArray by rw [hw4]; exact (Bx.new _ _ _ rfl).setAll cs (by rw [HL.out]; rfl))
      replace B7 := hid (Bx.below hb B7.out.f.lt B7.out)
      replace HB := hid (HB.out.trans (hb.mono HB.out.size))
      clear hw4 hb
      go_wp2_with (first | (refine wpList_load_mid rfl 43 _ rfl w1.heap.size 0 rfl cs _ B7.out.all Try.underlying43 rfl I4.out ?_) | (refine wpList_load_mid rfl 43 _ rfl w3.heap.size 0 rfl cs _ B9.out.all Try.underlying43 rfl I4.out ?_))
      refine (QE.out _).mono ?_
      rintro e w5 ⟨rfl, hb⟩
      replace B7 := hid (Bx.below hb B7.out.f.lt B7.out)
      replace B9 := hid (Bx.below hb B9.out.f.lt B9.out)
      replace HB := hid (HB.out.trans (hb.mono HB.out.size))
      clear hb
      go_wp2_with (first | (refine wpList_load_mid rfl 43 _ rfl w3.heap.size 0 rfl cs _ B9.out.all Try.underlying43 rfl I4.out ?_))
      refine (QM.out _).mono ?_
      rintro e w6 ⟨rfl, hb⟩
      replace B7 := hid (Bx.below hb B7.out.f.lt B7.out)
      replace B9 := hid (Bx.below hb B9.out.f.lt B9.out)
      replace HB := hid (HB.out.trans (hb.mono HB.out.size))
      clear hb
      go_wp2_with (first | (refine wpList_load_mid rfl 43 _ rfl w3.heap.size 0 rfl cs _ B9.out.all Try.underlying43 rfl I4.out ?_))
      refine (QH.out _).mono ?_
      rintro e w7 ⟨rfl, hb⟩
      replace B7 := hid (Bx.below hb B7.out.f.lt B7.out)
      replace B9 := hid (Bx.below hb B9.out.f.lt B9.out)
      replace HB := hid (HB.out.trans (hb.mono HB.out.size))
      clear hb
      go_wp2_with fail
      refine (QI.out _).mono ?_
      rintro e w8 ⟨rfl, hb⟩
      replace B7 := hid (Bx.below hb B7.out.f.lt B7.out)
      replace B9 := hid (Bx.below hb B9.out.f.lt B9.out)
      replace HB := hid (HB.out.trans (hb.mono HB.out.size))
      clear hb
      have TH := hid (show (w8.alloc (.cells #[.bool false, .int .i64 (0), .int .i64 (0), .int .i64 (0), .int .i64 (0), .int .i64 (0), .slice none 0 0, .slice none 0 0, .slice none 0 0, .int .i64 (0), .int .i64 (0), .slice none 0 0, .int .i64 (0), .int .i64 (0), .int .i64 (0), .int .i64 (0), .slice none 0 0, .slice none 0 0, .slice none 0 0, .slice none 0 0, .slice none 0 0] 43)).there w8.heap.size 0 (cs.toArray : Array Value).size from (Bx.new _ _ _ rfl).there 0 _ (by rw [List.size_toArray, HL.out]; exact Nat.le_refl 21))
      go_upto_region 14 with (refine wpList_store_mid rfl 43 _ _ rfl w8.heap.size 0 cs.toArray rfl rfl TH.out HC2.out HC1.out ?_)
      refine late_genw (fun w9 hw9 => ?_)
      clear TH
      as_aux_lemma =>
        have hb : Below w8.heap.size w8 w9 := by rw [hw9]; exact Below.setCells _ (Nat.le_refl _) _ _ ((Below.refl _ _).alloc (Nat.le_refl _) _)
        have B13 := hid (show Bx w9 w8.heap.size cs.toArray by rw [hw9]; exact (Bx.new _ _ _ rfl).setAll cs (by rw [HL.out]; rfl))
        replace B7 := hid (Bx.below hb B7.out.f.lt B7.out)
        replace B9 := hid (Bx.below hb B9.out.f.lt B9.out)
        replace HB := hid (HB.out.trans (hb.mono HB.out.size))
        clear hw9 hb
        go_wp2_with (first | (refine wpList_load_mid rfl 43 _ rfl w1.heap.size 0 rfl cs _ B7.out.all Try.underlying43 rfl I4.out ?_) | (refine wpList_load_mid rfl 43 _ rfl w8.heap.size 0 rfl cs _ B13.out.all Try.underlying43 rfl I4.out ?_))
        refine (QE.out _).mono ?_
        rintro e w10 ⟨rfl, hb⟩
        replace B7 := hid (Bx.below hb B7.out.f.lt B7.out)
        replace B9 := hid (Bx.below hb B9.out.f.lt B9.out)
        replace B13 := hid (Bx.below hb B13.out.f.lt B13.out)
        replace HB := hid (HB.out.trans (hb.mono HB.out.size))
        clear hb
        go_wp2_with (first | (refine wpList_load_mid rfl 43 _ rfl w3.heap.size 0 rfl cs _ B9.out.all Try.underlying43 rfl I4.out ?_))
        refine (QH.out _).mono ?_
        rintro e w11 ⟨rfl, hb⟩
        replace B7 := hid (Bx.below hb B7.out.f.lt B7.out)
        replace B9 := hid (Bx.below hb B9.out.f.lt B9.out)
        replace B13 := hid (Bx.below hb B13.out.f.lt B13.out)
        replace HB := hid (HB.out.trans (hb.mono HB.out.size))
        clear hb
        go_wp2
        go_ret
        exact ⟨rfl, HB.out⟩
end Go.Proofs.Ytgcdgkiefbbhkaa
