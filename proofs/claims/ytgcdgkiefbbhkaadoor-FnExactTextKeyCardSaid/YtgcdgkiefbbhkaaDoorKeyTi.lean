/- The key that a text names: the program's walk. -/
import Derived.Test.YtgcdgkiefbbhkaaDoorKeyTk
set_option linter.unusedSimpArgs false
set_option linter.unusedVariables false
namespace Go.G6
open Go.RowKit Rep
theorem key_ok64 {k : KeyD} (h : keyOk k = true) : I64 k.Kind ∧ I64 k.R := by
  by_cases h1 : k.Kind = 1
  · have h2 := keyOk_rune h (by omega) (by omega)
    simp [runeOk] at h2; unfold I64; omega
  by_cases h2 : k.Kind = 2
  · have h2 := keyOk_rune h (by omega) (by omega)
    simp [runeOk] at h2; unfold I64; omega
  by_cases h3 : k.Kind = 3
  · have h2 := keyOk_rune h (by omega) (by omega)
    simp [runeOk] at h2; unfold I64; omega
  unfold keyOk at h
  rw [if_neg h1, if_neg h2, if_neg h3] at h
  simp at h; unfold I64; omega
theorem tkRest_64 (s : ByteArray) (l : List Int) (hs : s ≠ ByteArray.empty) : I64 (tkRest s l).1.Kind ∧ I64 (tkRest s l).1.R := by
  unfold tkRest
  split
  · simp [I64]
  split
  · rename_i h
    refine key_ok64 ?_
    rcases hk : keyOk (tkCand s l) with _ | _
    · unfold keyText at h
      rw [hk, if_neg (by simp)] at h
      exact absurd h.symm hs
    · rfl
  · simp [I64, key0]
theorem textKey_64 (s : ByteArray) : I64 (textKey s).1.Kind ∧ I64 (textKey s).1.R := by
  unfold textKey
  split
  · have h := tkAt_range s
    simp only [I64]; omega
  split
  · simp [I64, key0]
  · rename_i h
    exact tkRest_64 s _ (by rintro rfl; exact h runesL_nil)
end Go.G6
namespace Go.Proofs.YtgcdgkiefbbhkaaDoor
open Go.RowKit Go.G6
set_option maxHeartbeats 3000000
set_option maxRecDepth 10000
theorem i_TextKey (s : ByteArray) (hs : s.size ≤ maxLen) (w : World) (hm : ∃ m, w.cell? ⟨laysS_ren.g 1, 0, none⟩ = some (.int .i64 m)) :
    Calls Tryd.prog 8 #[.string s] w (RetAB w (textKey s).1 (.bool (textKey s).2)) := by
  go_enter Tryd.func8, Tryd.ntmps8
  go_wp2_with fail
  refine (c_Split _ (mlk hm ?_)).mono ?_
  · exact (Below.refl _ _).alloc (Nat.le_refl _) _
  rintro e w1 ⟨rfl, hw1⟩
  have HB0 := hid (show Bx w1 w.heap.size #[.int .i64 0, .int .i64 0] by rw [hw1]; exact (Bx.new _ _ _ rfl).alloc (by simp) _)
  have HN := hid (show ∀ k, k < 13 → w1.cell? ⟨w.heap.size + 1, k, none⟩ = some (.string (keyNames.getD k ByteArray.empty)) by
    intro k hk
    rw [hw1, show w.heap.size + 1 = (w.alloc (.cells #[.int .i64 0, .int .i64 0] 23)).heap.size by simp, World.cell?_alloc_new]
    rw [List.getElem?_toArray, List.getElem?_map, List.getElem?_eq_getElem (by exact hk), List.getD_eq_getElem?_getD, List.getElem?_eq_getElem (by exact hk)]; rfl)
  have HB := hid (show Below w.heap.size w w1 by rw [hw1]; exact ((Below.refl _ _).alloc (Nat.le_refl _) _).alloc (by simp) _)
  have hz1 : w1.heap.size = w.heap.size + 2 := by rw [hw1]; simp
  have B0o := HB0.out.out; have B0f := HB0.out.fr
  clear hw1
  go_wp2_with fail
  go_loop [11] (fun i => ∃ k : Nat, k ≤ 13 ∧ i = .int .i64 k ∧ (∀ j, j < k → keyNames.getD j ByteArray.empty ≠ s)) (fun i => 13 - (intOf i).toNat)
  case atStart => exact ⟨0, by omega, rfl, fun j h => by omega⟩
  case round =>
    obtain ⟨k, hk, rfl, hr⟩ := hrel
    have H := hid hr; clear hr
    by_cases hlt : k < 13
    · have hc := HN.out k hlt
      obtain ⟨nm, hnm⟩ : ∃ nm, nm = keyNames.getD k ByteArray.empty := ⟨_, rfl⟩
      rw [← hnm] at hc
      by_cases he : nm = s
      · have HE := hid (tk_name hlt H.out (hnm.symm.trans he))
        subst he
        clear hnm hm
        go_wp2
        refine bodyPost_ret (v := .tuple #[.agg #[.int .i64 (4 + (k : Int)), .int .i64 0], .bool true]) (by simp [results, Tryd.results8, go_sem, B0o]) rfl ?_
        rw [HE.out]
        exact ⟨[_, _], [], by rw [show (4 + (k : Int)) = (k : Int) + 4 by omega], own_Key (d := ⟨(k : Int) + 4, 0⟩) (by simp only [I64]; omega) (by simp [I64]), HB.out.setCell (Nat.le_refl _) _ |>.setCell (Nat.le_refl _) _⟩
      · have hne := tl_ne he
        have HE := hid (show ∀ j, j < k + 1 → keyNames.getD j ByteArray.empty ≠ s by
          intro j hj
          rcases Nat.lt_or_ge j k with h1 | h1
          · exact H.out j h1
          · obtain rfl : j = k := by omega
            rw [← hnm]; exact he)
        clear hnm he
        go_wp2
        exact ⟨⟨k + 1, by omega, rfl, HE.out⟩, by simp [intOf]; omega⟩
    · obtain rfl : k = 13 := by omega
      have HR := hid (tk_rest H.out)
      clear H HN hlt hk
      go_wp2_with fail
      refine (i_RunesOf s hs _).mono ?_
      rintro e w2 ⟨v, b2, rfl, hO, hb⟩
      obtain ⟨a2, c2, b3, rfl, _, hS⟩ := hO.slc
      have HB2 := hid (HB.out.trans (hb.mono HB.out.size))
      have HBX := hid (HB0.out.below hb (by omega))
      have B2o := (HB0.out.below hb (by omega)).out; have B2f := (HB0.out.below hb (by omega)).fr
      have hz2 : w.heap.size < w2.heap.size := by have := hb.size; omega
      have hz3 : ¬ w.heap.size = w2.heap.size := by omega
      have HM := hid (mlk hm HB2.out)
      clear hO hb HB HB0 B0o B0f hz1 hm
      by_cases hnil : runesL s = []
      · have HE : Hid (textKey s = (key0, false)) := hid (by rw [HR.out, if_pos hnil])
        have hl0 : (runesL s).length = 0 := by rw [hnil]; rfl
        rw [hl0] at hS ⊢
        clear hnil hl0 HR
        cases hok : runesOk s
        all_goals
          go_wp2
          refine bodyPost_ret (v := .tuple #[.agg #[.int .i64 0, .int .i64 0], .bool false]) (by simp [results, Tryd.results8, go_sem, B2o, hz2, hz3]) rfl ?_
          rw [HE.out]
          exact ⟨[_, _], [], rfl, own_Key (d := key0) (by simp [I64, key0]) (by simp [I64, key0]), (((HB2.out.setCell (Nat.le_refl _) _).setCell (Nat.le_refl _) _).alloc (by simp; omega) _)⟩
      have hrest := hid (show textKey s = tkRest s (runesL s) by rw [HR.out, if_neg hnil])
      have hok := runesOk_of hnil
      have h64 := hid (hS.oks)
      have hpos : 0 < (runesL s).length := by
        rcases hl : runesL s with _ | ⟨a, b⟩
        · exact absurd hl hnil
        · simp
      have hne0 : (((runesL s).length : Int) == 0) = false := by rw [beq_eq_false_iff_ne]; omega
      have hlm := hS.max
      have h2s : 2 ≤ (runesL s).length → 2 ≤ s.size := fun h => Nat.le_trans h (runesL_size s)
      clear HR
      by_cases hsp : s = spc
      · have HE : Hid (textKey s = (⟨1, 32⟩, true)) := hid (by rw [hrest.out]; unfold tkRest; rw [if_pos hsp])
        have hsc : (s.toList == [83, 80, 67]) = true := by rw [hsp, Go.ByteArray.toList_eq]; rfl
        clear hsp hnil hrest
        go_wp2
        refine bodyPost_ret (v := .tuple #[.agg #[.int .i64 1, .int .i64 32], .bool true]) (by simp [results, Tryd.results8, go_sem, B2o, hz2, hz3]) rfl ?_
        rw [HE.out]
        exact ⟨[_, _], [], rfl, own_Key (d := ⟨1, 32⟩) (by simp [I64, key0]) (by simp [I64, key0]), (((HB2.out.setCell (Nat.le_refl _) _).setCell (Nat.le_refl _) _).alloc (by simp; omega) _)⟩
      have hsc : (s.toList == [83, 80, 67]) = false := by have := tl_ne hsp; rwa [Go.ByteArray.toList_eq spc] at this
      have HT := hid (show textKey s = if keyText (tkCand s (runesL s)) = s then (tkCand s (runesL s), true) else (key0, false) by rw [hrest.out]; unfold tkRest; rw [if_neg hsp])
      clear hsp hrest
      generalize hl : runesL s = l at *
      by_cases hl1 : l.length = 1
      · obtain ⟨a, rfl⟩ := List.length_eq_one_iff.1 hl1
        obtain ⟨b, off, rfl, hbw, hck, ha⟩ := hS.at 0 (by simp)
        have hc : w2.cell? ⟨b, off, none⟩ = some (.int .i64 a) := hck
        have HC := hid (show tkCand s [a] = ⟨1, a⟩ from rfl)
        have HA : Hid (I64 a) := hid ha
        rw [HC.out] at HT
        clear hck ha hnil hl h64 hpos hne0 hlm hl1 h2s
        go_wp2_with fail
        refine (i_KeyText (mk_Key (d := ⟨1, a⟩) (by simp [I64]) HA.out) (mlk HM.out ((Below.refl _ _).alloc (Nat.le_refl _) _))).mono ?_
        rintro e w3 ⟨rfl, hb⟩
        have B3o := ((HBX.out.alloc hz2 _).below hb (by simp; omega)).out; have B3f := ((HBX.out.alloc hz2 _).below hb (by simp; omega)).fr
        have C3o := ((Bx.new w2 #[.int .i64 1, .int .i64 a] 23 rfl).below hb (by simp)).out
        have HB3 := hid ((HB2.out.alloc HB2.out.size (.cells #[.int .i64 1, .int .i64 a] 23)).trans (hb.mono (by simp; omega)))
        clear hb HB2 HBX hz2 hz3 B2o B2f hsc
        obtain ⟨X, hX⟩ : ∃ X, X = keyText ⟨1, a⟩ := ⟨_, rfl⟩
        rw [← hX] at HT ⊢
        by_cases he : X = s
        · have HE : Hid (textKey s = (⟨1, a⟩, true)) := hid (by rw [HT.out, if_pos he])
          have hq : (X.toList == s.toList) = true := by rw [he]; exact tl_eq s
          clear hX he HT
          go_wp2
          refine bodyPost_ret (v := .tuple #[.agg #[.int .i64 1, .int .i64 a], .bool true]) (by simp [results, Tryd.results8, go_sem, B3o]) rfl ?_
          rw [HE.out]
          exact ⟨[_, _], [], rfl, own_Key (d := ⟨1, a⟩) (by simp [I64]) HA.out, ((HB3.out.setCell (Nat.le_refl _) _).setCell (Nat.le_refl _) _)⟩
        · have HE : Hid (textKey s = (key0, false)) := hid (by rw [HT.out, if_neg he])
          have hq : (X.toList == s.toList) = false := tl_ne he
          clear hX he HT
          go_wp2
          refine bodyPost_ret (v := .tuple #[.agg #[.int .i64 0, .int .i64 0], .bool false]) (by simp [results, Tryd.results8, go_sem, B3o]) rfl ?_
          rw [HE.out]
          exact ⟨[_, _], [], rfl, own_Key (d := key0) (by simp [I64, key0]) (by simp [I64, key0]), ((HB3.out.setCell (Nat.le_refl _) _).setCell (Nat.le_refl _) _)⟩
      have hne1 : ((l.length : Int) == 1) = false := by rw [beq_eq_false_iff_ne]; omega
      by_cases hl3 : l.length = 3
      rotate_left
      · have hne3 : ((l.length : Int) == 3) = false := by rw [beq_eq_false_iff_ne]; omega
        have HC := hid (show tkCand s l = ⟨0, 0⟩ by unfold tkCand; rw [if_neg hl1, if_neg (fun h => hl3 h.1), if_neg (fun h => hl3 h.1)]; rfl)
        rw [HC.out] at HT
        clear hnil hl h64 hpos hl1 hl3 h2s
        go_wp2_with fail
        refine (i_KeyText (mk_Key (d := ⟨0, 0⟩) (by simp [I64]) (by simp [I64])) (mlk HM.out ((Below.refl _ _).alloc (Nat.le_refl _) _))).mono ?_
        rintro e w3 ⟨rfl, hb⟩
        have B3o := ((HBX.out.alloc hz2 _).below hb (by simp; omega)).out; have B3f := ((HBX.out.alloc hz2 _).below hb (by simp; omega)).fr
        have C3o := ((Bx.new w2 #[.int .i64 0, .int .i64 0] 23 rfl).below hb (by simp)).out
        have HB3 := hid ((HB2.out.alloc HB2.out.size (.cells #[.int .i64 0, .int .i64 0] 23)).trans (hb.mono (by simp; omega)))
        clear hb HB2 HBX hz2 hz3 B2o B2f hsc
        obtain ⟨X, hX⟩ : ∃ X, X = keyText ⟨0, 0⟩ := ⟨_, rfl⟩
        rw [← hX] at HT ⊢
        by_cases he : X = s
        · have HE : Hid (textKey s = (⟨0, 0⟩, true)) := hid (by rw [HT.out, if_pos he])
          have hq : (X.toList == s.toList) = true := by rw [he]; exact tl_eq s
          clear hX he HT
          go_wp2
          refine bodyPost_ret (v := .tuple #[.agg #[.int .i64 0, .int .i64 0], .bool true]) (by simp [results, Tryd.results8, go_sem, B3o]) rfl ?_
          rw [HE.out]
          exact ⟨[_, _], [], rfl, own_Key (d := ⟨0, 0⟩) (by simp [I64]) (by simp [I64]), ((HB3.out.setCell (Nat.le_refl _) _).setCell (Nat.le_refl _) _)⟩
        · have HE : Hid (textKey s = (key0, false)) := hid (by rw [HT.out, if_neg he])
          have hq : (X.toList == s.toList) = false := tl_ne he
          clear hX he HT
          go_wp2
          refine bodyPost_ret (v := .tuple #[.agg #[.int .i64 0, .int .i64 0], .bool false]) (by simp [results, Tryd.results8, go_sem, B3o]) rfl ?_
          rw [HE.out]
          exact ⟨[_, _], [], rfl, own_Key (d := key0) (by simp [I64, key0]) (by simp [I64, key0]), ((HB3.out.setCell (Nat.le_refl _) _).setCell (Nat.le_refl _) _)⟩
      obtain ⟨x0, x1, a, rfl⟩ := len3 hl3
      obtain ⟨b, off, rfl, hbw, hck, ha⟩ := hS.at 2 (by simp)
      have hc : w2.cell? ⟨b, off + 2, none⟩ = some (.int .i64 a) := hck
      have HA : Hid (I64 a) := hid ha
      have h2t := ext2 s
      have h2i : (2 : Int) ≤ (s.size : Int) := by have := h2s (by simp); omega
      have hn31 : ¬ ((3 : Int) == 1) = true := by decide
      clear hck ha hnil hl h64 hpos hne0 hlm hl1 hl3 h2s hne1
      by_cases k2 : s.data.toList.take 2 = [67, 45]
      · have HC := hid (show tkCand s [x0, x1, a] = ⟨2, a⟩ by unfold tkCand; rw [if_neg (by simp), if_pos ⟨rfl, k2⟩]; rfl)
        have e2 : ((s.extract 0 2).toList == [67, 45]) = true := by rw [h2t, k2]; rfl
        rw [HC.out] at HT
        clear h2t k2 hn31
        go_wp2_with fail
        clear h2i e2
        refine (i_KeyText (mk_Key (d := ⟨2, a⟩) (by simp [I64]) HA.out) (mlk HM.out ((Below.refl _ _).alloc (Nat.le_refl _) _))).mono ?_
        rintro e w3 ⟨rfl, hb⟩
        have B3o := ((HBX.out.alloc hz2 _).below hb (by simp; omega)).out; have B3f := ((HBX.out.alloc hz2 _).below hb (by simp; omega)).fr
        have C3o := ((Bx.new w2 #[.int .i64 2, .int .i64 a] 23 rfl).below hb (by simp)).out
        have HB3 := hid ((HB2.out.alloc HB2.out.size (.cells #[.int .i64 2, .int .i64 a] 23)).trans (hb.mono (by simp; omega)))
        clear hb HB2 HBX hz2 hz3 B2o B2f hsc
        obtain ⟨X, hX⟩ : ∃ X, X = keyText ⟨2, a⟩ := ⟨_, rfl⟩
        rw [← hX] at HT ⊢
        by_cases he : X = s
        · have HE : Hid (textKey s = (⟨2, a⟩, true)) := hid (by rw [HT.out, if_pos he])
          have hq : (X.toList == s.toList) = true := by rw [he]; exact tl_eq s
          clear hX he HT
          go_wp2
          refine bodyPost_ret (v := .tuple #[.agg #[.int .i64 2, .int .i64 a], .bool true]) (by simp [results, Tryd.results8, go_sem, B3o]) rfl ?_
          rw [HE.out]
          exact ⟨[_, _], [], rfl, own_Key (d := ⟨2, a⟩) (by simp [I64]) HA.out, ((HB3.out.setCell (Nat.le_refl _) _).setCell (Nat.le_refl _) _)⟩
        · have HE : Hid (textKey s = (key0, false)) := hid (by rw [HT.out, if_neg he])
          have hq : (X.toList == s.toList) = false := tl_ne he
          clear hX he HT
          go_wp2
          refine bodyPost_ret (v := .tuple #[.agg #[.int .i64 0, .int .i64 0], .bool false]) (by simp [results, Tryd.results8, go_sem, B3o]) rfl ?_
          rw [HE.out]
          exact ⟨[_, _], [], rfl, own_Key (d := key0) (by simp [I64, key0]) (by simp [I64, key0]), ((HB3.out.setCell (Nat.le_refl _) _).setCell (Nat.le_refl _) _)⟩
      by_cases k3 : s.data.toList.take 2 = [77, 45]
      · have HC := hid (show tkCand s [x0, x1, a] = ⟨3, a⟩ by unfold tkCand; rw [if_neg (by simp), if_neg (fun h => k2 h.2), if_pos ⟨rfl, k3⟩]; rfl)
        have e2 : ((s.extract 0 2).toList == [67, 45]) = false := by rw [h2t, beq_eq_false_iff_ne]; exact k2
        have e3 : ((s.extract 0 2).toList == [77, 45]) = true := by rw [h2t, k3]; rfl
        rw [HC.out] at HT
        clear h2t k3 k2 hn31
        go_wp2_with fail
        clear h2i e2 e3
        refine (i_KeyText (mk_Key (d := ⟨3, a⟩) (by simp [I64]) HA.out) (mlk HM.out ((Below.refl _ _).alloc (Nat.le_refl _) _))).mono ?_
        rintro e w3 ⟨rfl, hb⟩
        have B3o := ((HBX.out.alloc hz2 _).below hb (by simp; omega)).out; have B3f := ((HBX.out.alloc hz2 _).below hb (by simp; omega)).fr
        have C3o := ((Bx.new w2 #[.int .i64 3, .int .i64 a] 23 rfl).below hb (by simp)).out
        have HB3 := hid ((HB2.out.alloc HB2.out.size (.cells #[.int .i64 3, .int .i64 a] 23)).trans (hb.mono (by simp; omega)))
        clear hb HB2 HBX hz2 hz3 B2o B2f hsc
        obtain ⟨X, hX⟩ : ∃ X, X = keyText ⟨3, a⟩ := ⟨_, rfl⟩
        rw [← hX] at HT ⊢
        by_cases he : X = s
        · have HE : Hid (textKey s = (⟨3, a⟩, true)) := hid (by rw [HT.out, if_pos he])
          have hq : (X.toList == s.toList) = true := by rw [he]; exact tl_eq s
          clear hX he HT
          go_wp2
          refine bodyPost_ret (v := .tuple #[.agg #[.int .i64 3, .int .i64 a], .bool true]) (by simp [results, Tryd.results8, go_sem, B3o]) rfl ?_
          rw [HE.out]
          exact ⟨[_, _], [], rfl, own_Key (d := ⟨3, a⟩) (by simp [I64]) HA.out, ((HB3.out.setCell (Nat.le_refl _) _).setCell (Nat.le_refl _) _)⟩
        · have HE : Hid (textKey s = (key0, false)) := hid (by rw [HT.out, if_neg he])
          have hq : (X.toList == s.toList) = false := tl_ne he
          clear hX he HT
          go_wp2
          refine bodyPost_ret (v := .tuple #[.agg #[.int .i64 0, .int .i64 0], .bool false]) (by simp [results, Tryd.results8, go_sem, B3o]) rfl ?_
          rw [HE.out]
          exact ⟨[_, _], [], rfl, own_Key (d := key0) (by simp [I64, key0]) (by simp [I64, key0]), ((HB3.out.setCell (Nat.le_refl _) _).setCell (Nat.le_refl _) _)⟩
      have HC := hid (show tkCand s [x0, x1, a] = ⟨0, 0⟩ by unfold tkCand; rw [if_neg (by simp), if_neg (fun h => k2 h.2), if_neg (fun h => k3 h.2)]; rfl)
      have e2 : ((s.extract 0 2).toList == [67, 45]) = false := by rw [h2t, beq_eq_false_iff_ne]; exact k2
      have e3 : ((s.extract 0 2).toList == [77, 45]) = false := by rw [h2t, beq_eq_false_iff_ne]; exact k3
      rw [HC.out] at HT
      clear h2t k2 k3 hn31
      go_wp2_with fail
      clear h2i e2 e3
      refine (i_KeyText (mk_Key (d := ⟨0, 0⟩) (by simp [I64]) (by simp [I64])) (mlk HM.out ((Below.refl _ _).alloc (Nat.le_refl _) _))).mono ?_
      rintro e w3 ⟨rfl, hb⟩
      have B3o := ((HBX.out.alloc hz2 _).below hb (by simp; omega)).out; have B3f := ((HBX.out.alloc hz2 _).below hb (by simp; omega)).fr
      have C3o := ((Bx.new w2 #[.int .i64 0, .int .i64 0] 23 rfl).below hb (by simp)).out
      have HB3 := hid ((HB2.out.alloc HB2.out.size (.cells #[.int .i64 0, .int .i64 0] 23)).trans (hb.mono (by simp; omega)))
      clear hb HB2 HBX hz2 hz3 B2o B2f hsc
      obtain ⟨X, hX⟩ : ∃ X, X = keyText ⟨0, 0⟩ := ⟨_, rfl⟩
      rw [← hX] at HT ⊢
      by_cases he : X = s
      · have HE : Hid (textKey s = (⟨0, 0⟩, true)) := hid (by rw [HT.out, if_pos he])
        have hq : (X.toList == s.toList) = true := by rw [he]; exact tl_eq s
        clear hX he HT
        go_wp2
        refine bodyPost_ret (v := .tuple #[.agg #[.int .i64 0, .int .i64 0], .bool true]) (by simp [results, Tryd.results8, go_sem, B3o]) rfl ?_
        rw [HE.out]
        exact ⟨[_, _], [], rfl, own_Key (d := ⟨0, 0⟩) (by simp [I64]) (by simp [I64]), ((HB3.out.setCell (Nat.le_refl _) _).setCell (Nat.le_refl _) _)⟩
      · have HE : Hid (textKey s = (key0, false)) := hid (by rw [HT.out, if_neg he])
        have hq : (X.toList == s.toList) = false := tl_ne he
        clear hX he HT
        go_wp2
        refine bodyPost_ret (v := .tuple #[.agg #[.int .i64 0, .int .i64 0], .bool false]) (by simp [results, Tryd.results8, go_sem, B3o]) rfl ?_
        rw [HE.out]
        exact ⟨[_, _], [], rfl, own_Key (d := key0) (by simp [I64, key0]) (by simp [I64, key0]), ((HB3.out.setCell (Nat.le_refl _) _).setCell (Nat.le_refl _) _)⟩
end Go.Proofs.YtgcdgkiefbbhkaaDoor
