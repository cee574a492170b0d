/- The key that a text names: the reference's walk. -/
import Derived.Test.YtgcdgkiefbbhkaaDoorKeyTi
set_option linter.unusedSimpArgs false
set_option linter.unusedVariables false
namespace Go.Proofs.YtgcdgkiefbbhkaaDoor
open Go.RowKit Go.G6
set_option maxHeartbeats 3000000
set_option maxRecDepth 10000
theorem s_TextKey (s : ByteArray) (hs : s.size ≤ maxLen) (w : World) :
    Calls Tryd.prog 7 #[.string s] w (RetAB w (textKey s).1 (.bool (textKey s).2)) := by
  go_enter Tryd.func7, Tryd.ntmps7
  go_wp2_with fail
  go_loopw [4] (fun i wr => ∃ k : Nat, k ≤ 13 ∧ i = .int .i64 ((k : Int) + 4) ∧ (∀ j, j < k → keyNames.getD j ByteArray.empty ≠ s) ∧ Bx wr w.heap.size #[.int .i64 0, .int .i64 0] ∧ Below w.heap.size w wr ∧ w.heap.size < wr.heap.size) (fun i _ => 17 - (intOf i).toNat)
  case atStart => exact ⟨0, by omega, rfl, fun j h => by omega, Bx.new _ _ _ rfl, (Below.refl _ _).alloc (Nat.le_refl _) _, by simp⟩
  case round =>
    obtain ⟨k, hk, rfl, hr, hB0, hB, hz⟩ := hrel
    have H := hid hr; clear hr
    have HB := hid hB; clear hB
    have HB0 := hid hB0; clear hB0
    by_cases hlt : k < 13
    · have hle : (k : Int) + 4 ≤ 16 := by omega
      have hw0 : IntKind.i64.wrap ((k : Int) + 4) = (k : Int) + 4 := wrapI (by omega)
      go_wp2_with fail
      refine (s_KeyText (mk_Key (d := ⟨(k : Int) + 4, 0⟩) (by simp only [I64]; omega) (by simp [I64]))).mono ?_
      rintro e w2 ⟨rfl, hb⟩
      have B2o := (HB0.out.below hb hz).out; have B2f := (HB0.out.below hb hz).fr
      have HB02 := hid (HB0.out.below hb hz)
      have HB2 := hid (HB.out.trans (hb.mono HB.out.size))
      have hz2 : w.heap.size < w2.heap.size := by have := hb.size; omega
      rw [keyText_name k hlt]
      clear hb HB0 HB
      obtain ⟨nm, hnm⟩ : ∃ nm, nm = keyNames.getD k ByteArray.empty := ⟨_, rfl⟩
      rw [← hnm]
      by_cases he : nm = s
      · have HE := hid (tk_name hlt H.out (hnm.symm.trans he))
        have hq : (nm.toList == s.toList) = true := by rw [he]; exact tl_eq s
        clear hnm he
        go_wp2
        refine bodyPost_ret (v := .tuple #[.agg #[.int .i64 ((k : Int) + 4), .int .i64 0], .bool true]) (by simp [results, Tryd.results7, go_sem, B2o]) rfl ?_
        rw [HE.out]
        exact ⟨[_, _], [], rfl, own_Key (d := ⟨(k : Int) + 4, 0⟩) (by simp only [I64]; omega) (by simp [I64]), (HB2.out.setCell (Nat.le_refl _) _).setCell (Nat.le_refl _) _⟩
      · have hne := tl_ne he
        have HE := hid (show ∀ j, j < k + 1 → keyNames.getD j ByteArray.empty ≠ s by
          intro j hj
          rcases Nat.lt_or_ge j k with h1 | h1
          · exact H.out j h1
          · obtain rfl : j = k := by omega
            rw [← hnm]; exact he)
        have hw1 : IntKind.i64.wrap ((k : Int) + 4 + 1) = (k : Int) + 4 + 1 := wrapI (by omega)
        clear hnm he B2o B2f
        go_wp2
        exact ⟨⟨k + 1, by omega, by go_num, HE.out, HB02.out, HB2.out, hz2⟩, by simp [intOf]; omega⟩
    · obtain rfl : k = 13 := by omega
      have HR := hid (tk_rest H.out)
      clear H hlt hk
      go_wp2_with fail
      refine (s_RunesOf s hs _).mono ?_
      rintro e w2 ⟨v, b2, rfl, hO, hb⟩
      obtain ⟨a2, c2, b3, rfl, _, hS⟩ := hO.slc
      have HB2 := hid (HB.out.trans (hb.mono HB.out.size))
      have HBX := hid (HB0.out.below hb hz)
      have B2o := (HB0.out.below hb hz).out; have B2f := (HB0.out.below hb hz).fr
      have hz2 : w.heap.size < w2.heap.size := by have := hb.size; omega
      clear hO hb HB HB0 hz
      by_cases hnil : runesL s = []
      · have HE : Hid (textKey s = (key0, false)) := hid (by rw [HR.out, if_pos hnil])
        have hl0 : (runesL s).length = 0 := by rw [hnil]; rfl
        rw [hl0] at hS ⊢
        clear hnil hl0 HR
        cases hok : runesOk s
        all_goals
          go_wp2
          refine bodyPost_ret (v := .tuple #[.agg #[.int .i64 0, .int .i64 0], .bool false]) (by simp [results, Tryd.results7, go_sem, B2o]) rfl ?_
          rw [HE.out]
          exact ⟨[_, _], [], rfl, own_Key (d := key0) (by simp [I64, key0]) (by simp [I64, key0]), (HB2.out.setCell (Nat.le_refl _) _).setCell (Nat.le_refl _) _⟩
      have hrest := hid (show textKey s = tkRest s (runesL s) by rw [HR.out, if_neg hnil])
      have hok := runesOk_of hnil
      have hpos : 0 < (runesL s).length := by
        rcases hl : runesL s with _ | ⟨a, b⟩
        · exact absurd hl hnil
        · simp
      have hne0 : (((runesL s).length : Int) == 0) = false := by rw [beq_eq_false_iff_ne]; omega
      have hlm := hS.max
      obtain ⟨b, off, rfl, hbw, hck, ha⟩ := hS.at ((runesL s).length - 1) (by omega)
      obtain ⟨r, hr⟩ : ∃ r, r = (runesL s)[(runesL s).length - 1] := ⟨_, rfl⟩
      rw [← hr] at hck ha
      have HL := hid (show s ≠ spc → tkLast s (runesL s) = r by
        intro h
        unfold tkLast
        rw [if_neg h, List.getLastD_eq_getLast?, List.getLast?_eq_getElem?, List.getElem?_eq_getElem (show (runesL s).length - 1 < (runesL s).length by omega), hr]; rfl)
      have HY := hid (fun (T k : Int) (hT : tkLast s (runesL s) = T) (h1 : 1 ≤ k) (h3 : k ≤ 3) (hj : ∀ j, 1 ≤ j → j < k → keyText ⟨j, T⟩ ≠ s) (h : keyText ⟨k, T⟩ = s) => show textKey s = (⟨k, T⟩, true) by
        subst hT; exact hrest.out.trans (tk_yes hnil h1 h3 hj h))
      have HNO := hid (fun (T : Int) (hT : tkLast s (runesL s) = T) (hj : ∀ j, 1 ≤ j → j ≤ 3 → keyText ⟨j, T⟩ ≠ s) => show textKey s = (key0, false) by
        subst hT; exact hrest.out.trans (tk_no hnil hj))
      obtain ⟨m, hm⟩ : ∃ m, m + 1 = (runesL s).length := ⟨(runesL s).length - 1, by omega⟩
      clear HR hr hnil hrest hpos
      rw [← hm] at hck hne0 hlm hS ⊢
      rw [Nat.add_sub_cancel] at hck
      have hc : w2.cell? ⟨b, off + m, none⟩ = some (.int .i64 r) := hck
      have hwm : IntKind.i64.wrap (((m + 1 : Nat) : Int) - 1) = (m : Int) := by rw [wrapI (by omega)]; omega
      have HA : Hid (I64 r) := hid ha
      clear hS hck hm ha
      by_cases hsp : s = spc
      · have HT := hid (show tkLast s (runesL s) = 32 from if_pos hsp)
        have hsc : (s.toList == [83, 80, 67]) = true := by rw [hsp, Go.ByteArray.toList_eq]; rfl
        have HY := hid (fun k => HY.out 32 k HT.out)
        have HNO := hid (HNO.out 32 HT.out)
        clear hsp HT HL
        go_wp2_with fail
        go_loopw [8] (fun i wr => ∃ k : Nat, 1 ≤ k ∧ k ≤ 4 ∧ i = .int .i64 (k : Int) ∧ (∀ j : Int, 1 ≤ j → j < k → keyText ⟨j, 32⟩ ≠ s) ∧ Bx wr w.heap.size #[.int .i64 0, .int .i64 0] ∧ Below w.heap.size w wr ∧ w.heap.size < wr.heap.size) (fun i _ => 4 - (intOf i).toNat)
        case atStart => exact ⟨1, by omega, by omega, rfl, fun j h1 h2 => by omega, HBX.out, HB2.out, hz2⟩
        case round =>
          clear HB2 HBX hz2 B2o B2f
          obtain ⟨k, hk0, hk, rfl, hr, hB0, hB, hz⟩ := hrel
          have H := hid hr; clear hr
          have HB := hid hB; clear hB
          have HB0 := hid hB0; clear hB0
          by_cases hlt : k < 4
          · have hle : (k : Int) ≤ 3 := by omega
            go_wp2_with fail
            refine (s_KeyText (mk_Key (d := ⟨(k : Int), 32⟩) (by simp only [I64]; omega) (by simp [I64]))).mono ?_
            rintro e w4 ⟨rfl, hb⟩
            have B4o := (HB0.out.below hb hz).out; have B4f := (HB0.out.below hb hz).fr
            have HB04 := hid (HB0.out.below hb hz)
            have HB4 := hid (HB.out.trans (hb.mono HB.out.size))
            have hz4 : w.heap.size < w4.heap.size := by have := hb.size; omega
            clear hb HB0 HB
            obtain ⟨X, hX⟩ : ∃ X, X = keyText ⟨(k : Int), 32⟩ := ⟨_, rfl⟩
            rw [← hX]
            by_cases he : X = s
            · have HE := hid (HY.out k (by omega) hle H.out (hX.symm.trans he))
              have hq : (X.toList == s.toList) = true := by rw [he]; exact tl_eq s
              clear hX he
              go_wp2
              refine bodyPost_ret (v := .tuple #[.agg #[.int .i64 (k : Int), .int .i64 32], .bool true]) (by simp [results, Tryd.results7, go_sem, B4o]) rfl ?_
              rw [HE.out]
              exact ⟨[_, _], [], rfl, own_Key (d := ⟨(k : Int), 32⟩) (by simp only [I64]; omega) (by simp [I64]), (HB4.out.setCell (Nat.le_refl _) _).setCell (Nat.le_refl _) _⟩
            · have hne := tl_ne he
              have HE := hid (show ∀ j : Int, 1 ≤ j → j < ((k + 1 : Nat) : Int) → keyText ⟨j, 32⟩ ≠ s by
                intro j h1 h2
                rcases Int.lt_or_le j k with h3 | h3
                · exact H.out j h1 h3
                · obtain rfl : j = k := by omega
                  rw [← hX]; exact he)
              clear hX he B4o B4f
              go_wp2
              refine ⟨⟨_, _, _, _, _, _, _, _, _, _, _, _, _, _, _, ⟨k + 1, by omega, by omega, ?_, HE.out, HB04.out, HB4.out, hz4⟩, rfl⟩, ?_⟩
              · go_num
              · simp [intOf]; omega
          · have HE := hid (HNO.out fun j h1 h2 => H.out j h1 (by omega))
            have hlt' : ¬ (k : Int) ≤ 3 := by omega
            have B2o := HB0.out.out; have B2f := HB0.out.fr
            clear H hlt
            go_wp2
            refine bodyPost_ret (v := .tuple #[.agg #[.int .i64 0, .int .i64 0], .bool false]) (by simp [results, Tryd.results7, go_sem, B2o]) rfl ?_
            rw [HE.out]
            exact ⟨[_, _], [], rfl, own_Key (d := key0) (by simp [I64, key0]) (by simp [I64, key0]), (HB.out.setCell (Nat.le_refl _) _).setCell (Nat.le_refl _) _⟩
      · have HT := hid (HL.out hsp)
        have hsc : (s.toList == [83, 80, 67]) = false := by have := tl_ne hsp; rwa [Go.ByteArray.toList_eq spc] at this
        have HY := hid (fun k => HY.out r k HT.out)
        have HNO := hid (HNO.out r HT.out)
        clear hsp HT HL
        go_wp2_with fail
        go_loopw [8] (fun i wr => ∃ k : Nat, 1 ≤ k ∧ k ≤ 4 ∧ i = .int .i64 (k : Int) ∧ (∀ j : Int, 1 ≤ j → j < k → keyText ⟨j, r⟩ ≠ s) ∧ Bx wr w.heap.size #[.int .i64 0, .int .i64 0] ∧ Below w.heap.size w wr ∧ w.heap.size < wr.heap.size) (fun i _ => 4 - (intOf i).toNat)
        case atStart => exact ⟨1, by omega, by omega, rfl, fun j h1 h2 => by omega, HBX.out, HB2.out, hz2⟩
        case round =>
          clear HB2 HBX hz2 B2o B2f
          obtain ⟨k, hk0, hk, rfl, hr, hB0, hB, hz⟩ := hrel
          have H := hid hr; clear hr
          have HB := hid hB; clear hB
          have HB0 := hid hB0; clear hB0
          by_cases hlt : k < 4
          · have hle : (k : Int) ≤ 3 := by omega
            go_wp2_with fail
            refine (s_KeyText (mk_Key (d := ⟨(k : Int), r⟩) (by simp only [I64]; omega) HA.out)).mono ?_
            rintro e w4 ⟨rfl, hb⟩
            have B4o := (HB0.out.below hb hz).out; have B4f := (HB0.out.below hb hz).fr
            have HB04 := hid (HB0.out.below hb hz)
            have HB4 := hid (HB.out.trans (hb.mono HB.out.size))
            have hz4 : w.heap.size < w4.heap.size := by have := hb.size; omega
            clear hb HB0 HB
            obtain ⟨X, hX⟩ : ∃ X, X = keyText ⟨(k : Int), r⟩ := ⟨_, rfl⟩
            rw [← hX]
            by_cases he : X = s
            · have HE := hid (HY.out k (by omega) hle H.out (hX.symm.trans he))
              have hq : (X.toList == s.toList) = true := by rw [he]; exact tl_eq s
              clear hX he
              go_wp2
              refine bodyPost_ret (v := .tuple #[.agg #[.int .i64 (k : Int), .int .i64 r], .bool true]) (by simp [results, Tryd.results7, go_sem, B4o]) rfl ?_
              rw [HE.out]
              exact ⟨[_, _], [], rfl, own_Key (d := ⟨(k : Int), r⟩) (by simp only [I64]; omega) HA.out, (HB4.out.setCell (Nat.le_refl _) _).setCell (Nat.le_refl _) _⟩
            · have hne := tl_ne he
              have HE := hid (show ∀ j : Int, 1 ≤ j → j < ((k + 1 : Nat) : Int) → keyText ⟨j, r⟩ ≠ s by
                intro j h1 h2
                rcases Int.lt_or_le j k with h3 | h3
                · exact H.out j h1 h3
                · obtain rfl : j = k := by omega
                  rw [← hX]; exact he)
              clear hX he B4o B4f
              go_wp2
              refine ⟨⟨_, _, _, _, _, _, _, _, _, _, _, _, _, _, _, ⟨k + 1, by omega, by omega, ?_, HE.out, HB04.out, HB4.out, hz4⟩, rfl⟩, ?_⟩
              · go_num
              · simp [intOf]; omega
          · have HE := hid (HNO.out fun j h1 h2 => H.out j h1 (by omega))
            have hlt' : ¬ (k : Int) ≤ 3 := by omega
            have B2o := HB0.out.out; have B2f := HB0.out.fr
            clear H hlt
            go_wp2
            refine bodyPost_ret (v := .tuple #[.agg #[.int .i64 0, .int .i64 0], .bool false]) (by simp [results, Tryd.results7, go_sem, B2o]) rfl ?_
            rw [HE.out]
            exact ⟨[_, _], [], rfl, own_Key (d := key0) (by simp [I64, key0]) (by simp [I64, key0]), (HB.out.setCell (Nat.le_refl _) _).setCell (Nat.le_refl _) _⟩
end Go.Proofs.YtgcdgkiefbbhkaaDoor
