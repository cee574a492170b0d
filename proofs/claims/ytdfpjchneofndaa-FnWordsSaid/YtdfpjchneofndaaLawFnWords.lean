/- FnWords: word motions reach their targets. -/
import Derived.Test.YtdfpjchneofndaaDrawM
import Derived.Test.YtdfpjchneofndaaWordsL
set_option linter.unusedSimpArgs false
set_option linter.unusedVariables false
namespace Go.Proofs.Ytdfpjchneofndaa
open Go.RowKit Go.G6
set_option maxHeartbeats 4000000
set_option maxRecDepth 10000
theorem lawFnWords {w : World} {bs_0 : List Nat} {a0_0 : Option Addr} {l0_0 k0_0 : Nat} {d_0 : List UInt8} (g_0 : Slc w bs_0 a0_0 l0_0 k0_0 d_0) :
    Calls Try.prog 7 #[.slice a0_0 l0_0 k0_0] w fun e w' => e = .returned (.bool true) ∧ Below w.heap.size w w' := by
  obtain rfl := g_0.len_eq
  have hm_0 := g_0.max
  have G_0 := hid g_0; clear g_0
  go_enter Try.func7, Try.ntmps7
  by_cases hn_0 : (d_0.length : Int) ≤ 1048576
  rotate_left
  · go_wp2
    go_ret
    exact ⟨rfl, Below.refl _ _⟩
  go_wp2_with fail
  refine (s_MakeLine G_0.out).mono ?_
  rintro e w1 ⟨v, b1, t, a, v2, b2, ts, x, y, rfl, hO, hty, hl, hat, hO2, hty2, hl2, hxy, hy, hd, hb⟩
  obtain ⟨pa, pc, rfl⟩ := hO.slice
  obtain ⟨pa', pc', bx, ev, hbx, hS⟩ := hO.slc
  obtain ⟨rfl, rfl⟩ : pa = pa' ∧ pc = pc' := by simpa using ev
  have hxt : x ≤ t.length := by omega
  clear ev hbx hO hO2 hty hty2 hl2 hxy hy hd hat
  go_upto_region 6 with fail
  refine late_genw (fun w2 hw2 => ?_)
  have HS := hid (show Slc w2 bx pa t.length pc t by rw [hw2]; exact hS.grow ((Below.refl _ _).alloc (Nat.le_refl _) _))
  have HB := hid (show Below w.heap.size w w2 by rw [hw2]; exact hb.alloc hb.size _)
  clear hw2 hb hS
  have hx64 : I64 (x : Int) := (by unfold I64; omega)
  have H1 := wordOn_facts t x hxt
  have H2 := wordBack_facts t x hxt
  obtain ⟨on, hon⟩ : ∃ k, k = wordOn t (x : Int) := ⟨_, rfl⟩
  obtain ⟨bk, hbk⟩ : ∃ k, k = wordBack t (x : Int) := ⟨_, rfl⟩
  rw [← hon] at H1; rw [← hbk] at H2
  have HON := hid hon; have HBK := hid hbk
  clear hon hbk
  go_wp2_with fail
  refine (i_WordOn HS.out (x : Int) hx64).mono ?_
  rintro e w3 ⟨rfl, hb⟩
  have HS3 := hid (HS.out.grow hb); have HB3 := hid (HB.out.trans (hb.mono HB.out.size))
  clear hb HS HB
  rw [← HON.out]
  go_wp2_with fail
  refine (i_WordBack HS3.out (x : Int) hx64).mono ?_
  rintro e w4 ⟨rfl, hb⟩
  have HS4 := hid (HS3.out.grow hb); have HB4 := hid (HB3.out.trans (hb.mono HB3.out.size))
  clear hb HS3 HB3
  rw [← HBK.out]
  obtain ⟨on1, on2, on3, on4⟩ := H1
  obtain ⟨bk1, bk2⟩ := H2
  go_upto_region 8 with fail
  go_cut [70] (fun v W => v = .bool false ∧ W = w4)
  case first =>
    as_aux_lemma =>
      have e1 : ¬ (on : Int) < (x : Int) := by omega
      have e2 : ¬ (t.length : Int) < (on : Int) := by omega
      have e3 : ¬ (x : Int) < (bk : Int) := by omega
      by_cases hlt : x < t.length
      rotate_left
      · have e4 : ¬ (x : Int) < (t.length : Int) := by omega
        clear on3 on4 bk2
        go_wp2
        go_meet
        exact ⟨rfl, rfl⟩
      have e4 : (x : Int) < (t.length : Int) := by omega
      obtain ⟨b, off, ea, _, hck, hok⟩ := HS4.out.at x hlt
      have hck1 : w4.cell? ⟨b, off + x, none⟩ = some (.int .i64 t[x]) := hck
      obtain rfl := ea
      have h9 := on3 hlt
      clear hck hok on3 on4 bk2
      cases hc : (classOf t[x] == 1)
      · clear h9
        go_wp2_with (go_at_call 43; refine (i_ClassOf _ _).mono ?_; rintro e w' ⟨rfl, rfl⟩)
        go_meet
        exact ⟨rfl, rfl⟩
      · have h10 := h9 (by simpa using hc)
        have e5 : ((on : Int) == (x : Int)) = false := by rw [beq_eq_false_iff_ne]; omega
        clear h9 h10
        go_wp2_with (go_at_call 43; refine (i_ClassOf _ _).mono ?_; rintro e w' ⟨rfl, rfl⟩)
        go_meet
        exact ⟨rfl, rfl⟩
  case rest =>
    obtain ⟨rfl, rfl⟩ := hcut
    clear on3
    go_upto_region 10 with fail
    go_cut [104] (fun v W => v = .bool false ∧ W = wc)
    case first =>
      as_aux_lemma =>
        by_cases g1 : x < on
        rotate_left
        · have e1 : ¬ (x : Int) < (on : Int) := by omega
          clear on4 g1
          by_cases f1 : 0 < bk
          rotate_left
          · have e3 : ¬ (0 : Int) < (bk : Int) := by omega
            clear bk2 f1
            go_wp2_with (go_at_call 43; refine (i_ClassOf _ _).mono ?_; rintro e w' ⟨rfl, rfl⟩)
            go_meet
            exact ⟨rfl, rfl⟩
          have e3 : (0 : Int) < (bk : Int) := by omega
          by_cases f2 : bk < x
          rotate_left
          · have e4 : ¬ (bk : Int) < (x : Int) := by omega
            clear bk2 f1 f2
            go_wp2_with (go_at_call 43; refine (i_ClassOf _ _).mono ?_; rintro e w' ⟨rfl, rfl⟩)
            go_meet
            exact ⟨rfl, rfl⟩
          have e4 : (bk : Int) < (x : Int) := by omega
          have hbl : bk - 1 < t.length := by omega
          obtain ⟨b, off, ea, _, hck, hok⟩ := HS4.out.at (bk - 1) hbl
          have hck2 : wc.cell? ⟨b, off + (bk - 1), none⟩ = some (.int .i64 t[bk - 1]) := hck
          obtain rfl := ea
          have h8 := bk2 f1 hbl
          have hd : (classOf t[bk - 1] == 1) = false := by rw [beq_eq_false_iff_ne]; exact h8
          clear hck hok bk2 h8
          go_wp2_with (go_at_call 43; refine (i_ClassOf _ _).mono ?_; rintro e w' ⟨rfl, rfl⟩)
          go_meet
          exact ⟨rfl, rfl⟩
        have e1 : (x : Int) < (on : Int) := by omega
        by_cases g2 : on < t.length
        rotate_left
        · have e2 : ¬ (on : Int) < (t.length : Int) := by omega
          clear on4 g1 g2
          by_cases f1 : 0 < bk
          rotate_left
          · have e3 : ¬ (0 : Int) < (bk : Int) := by omega
            clear bk2 f1
            go_wp2_with (go_at_call 43; refine (i_ClassOf _ _).mono ?_; rintro e w' ⟨rfl, rfl⟩)
            go_meet
            exact ⟨rfl, rfl⟩
          have e3 : (0 : Int) < (bk : Int) := by omega
          by_cases f2 : bk < x
          rotate_left
          · have e4 : ¬ (bk : Int) < (x : Int) := by omega
            clear bk2 f1 f2
            go_wp2_with (go_at_call 43; refine (i_ClassOf _ _).mono ?_; rintro e w' ⟨rfl, rfl⟩)
            go_meet
            exact ⟨rfl, rfl⟩
          have e4 : (bk : Int) < (x : Int) := by omega
          have hbl : bk - 1 < t.length := by omega
          obtain ⟨b, off, ea, _, hck, hok⟩ := HS4.out.at (bk - 1) hbl
          have hck2 : wc.cell? ⟨b, off + (bk - 1), none⟩ = some (.int .i64 t[bk - 1]) := hck
          obtain rfl := ea
          have h8 := bk2 f1 hbl
          have hd : (classOf t[bk - 1] == 1) = false := by rw [beq_eq_false_iff_ne]; exact h8
          clear hck hok bk2 h8
          go_wp2_with (go_at_call 43; refine (i_ClassOf _ _).mono ?_; rintro e w' ⟨rfl, rfl⟩)
          go_meet
          exact ⟨rfl, rfl⟩
        have e2 : (on : Int) < (t.length : Int) := by omega
        obtain ⟨b, off, ea, _, hck, hok⟩ := HS4.out.at on g2
        have hck1 : wc.cell? ⟨b, off + on, none⟩ = some (.int .i64 t[on]) := hck
        obtain rfl := ea
        have h9 := on4 g2
        clear hck hok on4
        have hc : (classOf t[on] == 1) = false := by rw [beq_eq_false_iff_ne]; exact h9
        clear h9
        by_cases f1 : 0 < bk
        rotate_left
        · have e3 : ¬ (0 : Int) < (bk : Int) := by omega
          clear bk2 f1
          go_wp2_with (go_at_call 43; refine (i_ClassOf _ _).mono ?_; rintro e w' ⟨rfl, rfl⟩)
          go_meet
          exact ⟨rfl, rfl⟩
        have e3 : (0 : Int) < (bk : Int) := by omega
        by_cases f2 : bk < x
        rotate_left
        · have e4 : ¬ (bk : Int) < (x : Int) := by omega
          clear bk2 f1 f2
          go_wp2_with (go_at_call 43; refine (i_ClassOf _ _).mono ?_; rintro e w' ⟨rfl, rfl⟩)
          go_meet
          exact ⟨rfl, rfl⟩
        have e4 : (bk : Int) < (x : Int) := by omega
        have hbl : bk - 1 < t.length := by omega
        obtain ⟨b, off, ea, _, hck, hok⟩ := HS4.out.at (bk - 1) hbl
        have hck2 : wc.cell? ⟨b, off + (bk - 1), none⟩ = some (.int .i64 t[bk - 1]) := hck
        obtain ⟨rfl, rfl⟩ : _ = b ∧ _ = off := by simpa using ea
        have h8 := bk2 f1 hbl
        have hd : (classOf t[bk - 1] == 1) = false := by rw [beq_eq_false_iff_ne]; exact h8
        clear hck hok bk2 h8 ea
        go_wp2_with (go_at_call 43; refine (i_ClassOf _ _).mono ?_; rintro e w' ⟨rfl, rfl⟩)
        go_meet
        exact ⟨rfl, rfl⟩
    case rest =>
      obtain ⟨rfl, rfl⟩ := hcut
      clear on4 bk2 on1 on2 bk1 HON HBK
      have HX0 := hid (Bx.new wc #[.bool false, .bool true] 4 rfl)
      have HS5 := hid (HS4.out.grow ((Below.refl _ _).alloc (Nat.le_refl _) (.cells #[.bool false, .bool true] 4)))
      have HB5 := hid (HB4.out.alloc HB4.out.size (.cells #[.bool false, .bool true] 4))
      go_wp2_with fail
      go_loopw [107] (fun i wr => ∃ k : Nat, k ≤ 2 ∧ i = .int .i64 (k : Int) ∧ Slc wr bx pa t.length pc t ∧ Bx wr wc.heap.size #[.bool false, .bool true] ∧ Below w.heap.size w wr ∧ wc.heap.size < wr.heap.size) (fun i _ => 2 - (intOf i).toNat)
      case atStart => exact ⟨0, by omega, rfl, HS5.out, HX0.out, HB5.out, by simp⟩
      case round =>
        obtain ⟨k, hk, rfl, hS, hX, hb, hsz⟩ := hrel
        have HSr := hid hS; have HXr := hid hX; have HBr := hid hb
        clear hS hb HS4 HB4 HX0 HS5 HB5
        by_cases h2 : k = 2
        · subst h2
          clear hX
          go_wp2_with fail
          refine (i_WordOn HSr.out ((t.length : Int) + 5) (by unfold I64; omega)).mono ?_
          rintro e w5 ⟨rfl, hb⟩
          have HS6 := hid (HSr.out.grow hb); have HB6 := hid (HBr.out.trans (hb.mono HBr.out.size))
          clear hb
          rw [wordOn_past t (x := (t.length : Int) + 5) (by omega)]
          go_wp2_with fail
          refine (i_WordBack HS6.out (-3) (by simp [I64])).mono ?_
          rintro e w6 ⟨rfl, hb⟩
          have HB7 := hid (HB6.out.trans (hb.mono HB6.out.size))
          clear hb
          rw [wordBack_before t (x := -3) (by omega)]
          go_wp2_with fail
          obtain ⟨q1, q2, bz, ev, hbz, hSz⟩ := (OwnL.lit (α := Int) (lo := w6.heap.size) w6 3 #[.int .i64 97, .int .i64 98, .int .i64 32] [97, 98, 32] rfl (by intro x hx; simp at hx; rcases hx with rfl | rfl | rfl <;> (show I64 _; simp [I64])) (Nat.le_refl _) (by simp [maxLen]) rfl).slc
          obtain ⟨rfl, rfl⟩ : some ⟨w6.heap.size, 0, none⟩ = q1 ∧ 3 = q2 := by simpa using ev
          refine (i_WordOn hSz 0 (by simp [I64])).mono ?_
          rintro e w7 ⟨rfl, hb⟩
          have HB8 := hid ((HB7.out.alloc HB7.out.size _).trans (hb.mono (by have := HB7.out.size; simp; omega)))
          clear hb hSz ev hbz
          rw [wordOn_ab]
          go_wp2
          go_ret
          exact ⟨rfl, HB8.out⟩
        obtain ⟨big, hbig⟩ : ∃ big : Bool, (#[.bool false, .bool true] : Array Value)[k]? = some (.bool big) := by
          rcases (by omega : k = 0 ∨ k = 1) with rfl | rfl
          · exact ⟨false, rfl⟩
          · exact ⟨true, rfl⟩
        have c0 : wr.cell? ⟨wc.heap.size, k, none⟩ = some (.bool big) := (hX.out k).trans hbig
        have hk2 : (k : Int) < 2 := by omega
        have H3 := viOn_facts t x big hxt
        have H4 := viBack_facts t x big hxt
        have H5 := viEnd_facts t x big hxt
        obtain ⟨on1, hon1⟩ : ∃ k, k = viOn t (x : Int) big := ⟨_, rfl⟩
        obtain ⟨bk1, hbk1⟩ : ∃ k, k = viBack t (x : Int) big := ⟨_, rfl⟩
        obtain ⟨en1, hen1⟩ : ∃ k, k = viEnd t (x : Int) big := ⟨_, rfl⟩
        rw [← hon1] at H3; rw [← hbk1] at H4; rw [← hen1] at H5
        have HON := hid hon1; have HBK := hid hbk1; have HEN := hid hen1
        clear hon1 hbk1 hen1 hX hbig h2
        go_wp2_with fail
        refine (i_ViWordOn HSr.out (x : Int) hx64 big (by omega)).mono ?_
        rintro e w5 ⟨rfl, hb⟩
        have HS6 := hid (HSr.out.grow hb); have HB6 := hid (HBr.out.trans (hb.mono HBr.out.size)); have HX6 := hid (Bx.below hb hsz HXr.out); have hsz6 := Nat.lt_of_lt_of_le hsz hb.size
        clear hb HSr HBr HXr c0 hsz
        rw [← HON.out]
        go_wp2_with fail
        refine (i_ViWordBack HS6.out (x : Int) hx64 big (by omega)).mono ?_
        rintro e w6 ⟨rfl, hb⟩
        have HS7 := hid (HS6.out.grow hb); have HB7 := hid (HB6.out.trans (hb.mono HB6.out.size)); have HX7 := hid (Bx.below hb hsz6 HX6.out); have hsz7 := Nat.lt_of_lt_of_le hsz6 hb.size
        clear hb HS6 HB6 HX6 hsz6
        rw [← HBK.out]
        go_wp2_with fail
        refine (i_ViWordEnd HS7.out (x : Int) hx64 big (by omega)).mono ?_
        rintro e w7 ⟨rfl, hb⟩
        have HS8 := hid (HS7.out.grow hb); have HB8 := hid (HB7.out.trans (hb.mono HB7.out.size)); have HX8 := hid (Bx.below hb hsz7 HX7.out); have hsz8 := Nat.lt_of_lt_of_le hsz7 hb.size
        clear hb HS7 HB7 HX7 hsz7
        rw [← HEN.out]
        obtain ⟨on1a, on1b, on1c, on1d⟩ := H3
        obtain ⟨bk1a, bk1b⟩ := H4
        go_upto_region 18 with fail
        go_cut [180] (fun v W => v = .bool false ∧ W = w7)
        case first =>
          as_aux_lemma =>
            have e1 : ¬ (on1 : Int) < (x : Int) := by omega
            have e2 : ¬ (t.length : Int) < (on1 : Int) := by omega
            have e3 : ¬ (x : Int) < (bk1 : Int) := by omega
            have e4 : ∀ (_ : (x : Int) < (t.length : Int)), ((on1 : Int) == (x : Int)) = false := by intro h; rw [beq_eq_false_iff_ne]; have := on1c (by omega); omega
            have e5 : ∀ (_ : 0 < (x : Int)), ((bk1 : Int) == (x : Int)) = false := by intro h; rw [beq_eq_false_iff_ne]; have := bk1b (by omega); omega
            have E4 := hid e4; have E5 := hid e5
            clear e4 e5 on1c bk1b
            have hfin : ∀ b : Bool, on1 < t.length → b = true → b = true := fun _ _ h => h
            clear hfin
            have hcell : ∀ h : on1 < t.length, ∃ b off, pa = some ⟨b, off, none⟩ ∧ w7.cell? ⟨b, off + on1, none⟩ = some (.int .i64 t[on1]) ∧ (classOf t[on1] == 0) = false := by
              intro h
              obtain ⟨b, off, ea, _, hck, hok⟩ := HS8.out.at on1 h
              refine ⟨b, off, ea, hck, ?_⟩
              rw [beq_eq_false_iff_ne]; exact on1d h
            have HC := hid hcell
            clear hcell on1d
            by_cases f1 : x < t.length
            · have n1 : (x : Int) < (t.length : Int) := by omega
              have n0 : (0 : Int) < (t.length : Int) := by omega
              have n2 := E4.out n1
              obtain ⟨m1, m2⟩ := H5 (by omega)
              have m3 : ¬ en1 < 0 := by omega
              have m4 : ¬ (t.length : Int) ≤ en1 := by omega
              clear H5 m1 m2
              by_cases f2 : 0 < x
              · have n3 : (0 : Int) < (x : Int) := by omega
                have n4 := E5.out n3
                by_cases f3 : on1 < t.length
                · obtain ⟨b, off, rfl, hck, hcl⟩ := HC.out f3
                  have n5 : (on1 : Int) < (t.length : Int) := by omega
                  go_wp2_with (go_at_call 43; refine (i_ClassOf _ _).mono ?_; rintro e w' ⟨rfl, rfl⟩)
                  go_meet
                  exact ⟨rfl, rfl⟩
                · have n5 : ¬ (on1 : Int) < (t.length : Int) := by omega
                  go_wp2_with (go_at_call 43; refine (i_ClassOf _ _).mono ?_; rintro e w' ⟨rfl, rfl⟩)
                  go_meet
                  exact ⟨rfl, rfl⟩
              · have n3 : ¬ (0 : Int) < (x : Int) := by omega
                by_cases f3 : on1 < t.length
                · obtain ⟨b, off, rfl, hck, hcl⟩ := HC.out f3
                  have n5 : (on1 : Int) < (t.length : Int) := by omega
                  go_wp2_with (go_at_call 43; refine (i_ClassOf _ _).mono ?_; rintro e w' ⟨rfl, rfl⟩)
                  go_meet
                  exact ⟨rfl, rfl⟩
                · have n5 : ¬ (on1 : Int) < (t.length : Int) := by omega
                  go_wp2_with (go_at_call 43; refine (i_ClassOf _ _).mono ?_; rintro e w' ⟨rfl, rfl⟩)
                  go_meet
                  exact ⟨rfl, rfl⟩
            · have n1 : ¬ (x : Int) < (t.length : Int) := by omega
              have n5 : ¬ (on1 : Int) < (t.length : Int) := by omega
              by_cases f2 : 0 < x
              · have n3 : (0 : Int) < (x : Int) := by omega
                have n4 := E5.out n3
                have n0 : (0 : Int) < (t.length : Int) := by omega
                obtain ⟨m1, m2⟩ := H5 (by omega)
                have m3 : ¬ en1 < 0 := by omega
                have m4 : ¬ (t.length : Int) ≤ en1 := by omega
                clear H5 m1 m2
                go_wp2_with (go_at_call 43; refine (i_ClassOf _ _).mono ?_; rintro e w' ⟨rfl, rfl⟩)
                go_meet
                exact ⟨rfl, rfl⟩
              · have n3 : ¬ (0 : Int) < (x : Int) := by omega
                have n0 : ¬ (0 : Int) < (t.length : Int) := by omega
                clear H5
                go_wp2_with (go_at_call 43; refine (i_ClassOf _ _).mono ?_; rintro e w' ⟨rfl, rfl⟩)
                go_meet
                exact ⟨rfl, rfl⟩
        case rest =>
          obtain ⟨rfl, rfl⟩ := hcut
          clear on1d on1c bk1b H5
          go_wp2
          exact ⟨⟨k + 1, by omega, rfl, HS8.out, HX8.out, HB8.out, hsz8⟩, by simp [intOf]; omega⟩
end Go.Proofs.Ytdfpjchneofndaa
