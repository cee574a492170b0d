/- A rune read out of bytes, by the reference (printed by genread.py). -/
import Derived.Test.YtgcdgkiefbbhkaaDoorRead
import Derived.Deep.DeepCutAuto
set_option linter.unusedSimpArgs false
set_option linter.unusedVariables false
namespace Go.Proofs.YtgcdgkiefbbhkaaDoor
open Go.RowKit Go.G6
set_option maxHeartbeats 30000000
set_option maxRecDepth 10000
theorem s_RuneRead {w : World} {bs : List Nat} {a : Option Addr} {len cap : Nat} {xs : List UInt8} (h : Slc w bs a len cap xs) (k : Nat) (hk : k < xs.length) :
    Calls Tryd.prog 44 #[.slice a len cap, .int .i64 (k : Int)] w fun e w' => e = .returned (.tuple #[.int .i64 (rdR (xs.drop k)), .int .i64 ((rdL (xs.drop k) : Nat) : Int)]) ∧ Below w.heap.size w w' := by
  obtain rfl := h.len_eq
  obtain ⟨i0, hi, hz0, hz1, hz2⟩ := info_parts info_byte
  have H := hid h
  have hmx := h.max
  obtain ⟨b, off, ea, hck⟩ := h.byte k hk
  obtain ⟨c, hc⟩ : ∃ c : Int, c = (xs[k].toNat : Int) := ⟨_, rfl⟩
  rw [← hc] at hck
  have hx0 : bI (xs.drop k) 0 = c := by rw [hc]; exact bI_drop (j := 0) hk
  have hcr : 0 ≤ c ∧ c < 256 := by rw [← hx0]; exact bI_range _ _
  have hkl : (k : Int) < (xs.length : Int) := by omega
  have hdl : (xs.drop k).length = xs.length - k := List.length_drop
  have HX0 := hid hx0; have HDL := hid hdl; clear hc hx0 hdl h
  obtain rfl := ea
  obtain ⟨K, hK⟩ : ∃ K : Int, K = (k : Int) := ⟨_, rfl⟩
  rw [← hK] at hkl ⊢
  have hK0 : 0 ≤ K := by omega
  have hKn : K.toNat = k := by omega
  have hK1 : ¬ K < 0 := by omega
  have hK2 : ¬ K ≥ (xs.length : Int) := by omega
  clear hK
  have hw2 : wrap64 ((xs.length : Int) - K) = (xs.length : Int) - K := IntWalk.wrap64_in _ (by omega)
  have hw4 : IntKind.i64.wrap ((xs.length : Int) - K) = (xs.length : Int) - K := wrapI (by omega)
  go_enter Tryd.func44, Tryd.ntmps44
  go_wp2_with fail
  go_loopw [6] (fun sz wr => ∃ s : Nat, 1 ≤ s ∧ s ≤ 5 ∧ s ≤ xs.length - k + 1 ∧ sz = .int .i64 (s : Int) ∧ (rdOk (xs.drop k) = true → s ≤ rdN (bI (xs.drop k) 0)) ∧ Below w.heap.size w wr) (fun sz _ => 6 - (intOf sz).toNat)
  case atStart => exact ⟨1, by omega, by omega, by omega, rfl, fun h => by simp only [rdOk, Bool.and_eq_true, decide_eq_true_eq] at h; exact h.1.1, Below.refl _ _⟩
  case round =>
    obtain ⟨s, hs1, hs5, hsl, rfl, hN, hb⟩ := hrel
    have HB := hid hb; clear hb
    by_cases hs4 : s ≤ 4
    rotate_left
    · have hg : ¬ (s : Int) ≤ 4 := by omega
      have E := hid (rd_no (x := xs.drop k) (by
        cases hko : rdOk (xs.drop k)
        · rfl
        · have q1 := hN hko; have q2 := rdN_le (bI (xs.drop k) 0); simp only [rdOk, Bool.and_eq_true, decide_eq_true_eq] at hko; have q3 := hko.1.2; rw [HDL.out] at q3; omega))
      clear hN
      go_wp2
      refine bodyPost_ret (v := .tuple #[.int .i64 (0), .int .i64 (0)]) (by simp [results, Tryd.results44, go_sem]) rfl ?_
      exact ⟨by rw [E.out.1, E.out.2]; rfl, HB.out⟩
    by_cases hsn : s ≤ xs.length - k
    rotate_left
    · have hg0 : (s : Int) ≤ 4 := by omega
      have hg : ¬ (s : Int) ≤ (xs.length : Int) - K := by omega
      have E := hid (rd_no (x := xs.drop k) (by
        cases hko : rdOk (xs.drop k)
        · rfl
        · have q1 := hN hko; have q2 := rdN_le (bI (xs.drop k) 0); simp only [rdOk, Bool.and_eq_true, decide_eq_true_eq] at hko; have q3 := hko.1.2; rw [HDL.out] at q3; omega))
      clear hN
      go_wp2
      refine bodyPost_ret (v := .tuple #[.int .i64 (0), .int .i64 (0)]) (by simp [results, Tryd.results44, go_sem]) rfl ?_
      exact ⟨by rw [E.out.1, E.out.2]; rfl, HB.out⟩
    rcases (by omega : s = 1 ∨ s = 2 ∨ s = 3 ∨ s = 4) with rfl | rfl | rfl | rfl
    · have hg : (1 : Int) ≤ (xs.length : Int) - K := by omega
      obtain ⟨p2, bs2, hcut2, _, _, hS2⟩ := H.out.cut_lh 32 Tryd.underlying32 hi hz1 K (K + 1) (by omega) (by omega) (by omega)
      simp only [hKn, show (K + 1).toNat = k + 1 by omega, show k + 1 - k = 1 by omega] at hcut2 hS2
      have hlist : (xs.take (k + 1)).drop k = (xs.drop k).take 1 := by rw [List.drop_take]; congr 1; omega
      rw [hlist] at hS2
      have HP2 := hid (show wrap64 (K + 1) = K + 1 from IntWalk.wrap64_in _ (by omega))
      have HP4 := hid (show IntKind.i64.wrap (K + 1) = K + 1 from wrapI (by omega))
      have hck9 : wr.cell? ⟨b, off + k, none⟩ = some (.int .u8 c) := (HB.out.cell (World.block_lt_of_cell? w _ hck)).trans hck
      have HS2 := hid hS2; clear hS2 hlist
      go_wp2_with fail
      go_loopw [7, 8] (fun r i wi => ∃ (j : Nat) (v : Int), 1 ≤ j ∧ j ≤ 1 ∧ i = .int .i64 (j : Int) ∧ r = .int .i64 v ∧ rdB (j - 1) v ∧ rdF (xs.drop k) (1 - j) j v = rdVal 1 (xs.drop k) ∧ Below w.heap.size w wi) (fun _ i _ => 1 - (intOf i).toNat)
      case atStart => exact ⟨1, c - 0, by omega, by omega, rfl, by first | rfl | simp, by unfold rdB; omega, by rw [rdVal, HX0.out]; rfl, by first | exact HB.out | exact HB.out.alloc HB.out.size _⟩
      case round =>
        rename World => wi
        obtain ⟨j, v, hj1, hj, rfl, rfl, hB, hF, hbi⟩ := hrel
        have hv := rdB_le hB (by omega)
        have HBI := hid hbi; clear hbi
        by_cases hlt : j < 1
        rotate_left
        · obtain rfl : j = 1 := by omega
          have hF2 : v = rdVal 1 (xs.drop k) := hF
          have HF := hid hF2; clear hF hF2 hB
          go_wp2_with fail
          refine (s_RuneBytes v (by unfold I64; omega) _).mono ?_
          rintro e w1 ⟨v1, b1, rfl, hO1, hst⟩
          obtain ⟨a1, c1, b1x, rfl, _, hS1⟩ := hO1.slc
          have HB1 := hid (HBI.out.trans (hst.mono HBI.out.size))
          have hcv1 := hS1.text (P := Tryd.prog) 32 9 5 Tryd.underlying32 Tryd.underlying5 Tryd.underlying9
          have hcv2 := (HS2.out.grow HB1.out).text (P := Tryd.prog) 32 9 5 Tryd.underlying32 Tryd.underlying5 Tryd.underlying9
          clear hO1 hst
          have HSx := hid hS1; clear hS1
          by_cases hlen : (runeBytes v).length = 1
          rotate_left
          · have hleq : (((runeBytes v).length : Int) == 1) = false := by rw [beq_eq_false_iff_ne]; omega
            have hh : rdHit 1 (xs.drop k) = false := by
              rw [rdHit, ← HF.out, beq_eq_false_iff_ne]; intro e; apply hlen; rw [e, List.length_take, HDL.out]; omega
            clear hcv1 hcv2 hcut2
            have hp2 := HP2.out; have hp4 := HP4.out
            go_upto_region 14 with fail
            go_quiet (fail)
            go_wp2
            exact ⟨⟨1 + 1, by omega, by omega, by omega, by first | rfl | simp, rd_next hN (by first | exact hh | exact HH.out), ⟨HB1.out.os, HB1.out.tape, HB1.out.output, HB1.out.size, HB1.out.block⟩⟩, by simp [intOf]⟩
          have hleq : (((runeBytes v).length : Int) == 1) = true := by rw [beq_iff_eq]; omega
          clear hcv1 hcv2
          rw [hlen] at HSx ⊢
          cases hh : rdHit 1 (xs.drop k)
          · have hne := hh; rw [rdHit, ← HF.out, beq_eq_false_iff_ne] at hne
            have hne5 := hh; rw [rdHit, ← HF.out] at hne5
            have hp2 := HP2.out; have hp4 := HP4.out
            go_upto_region 14 with fail
            go_wp2_with fail
            refine late_start (fun W => Below w1.heap.size w1 W) 99 (by kernel_rfl) ?_ (fun hS => ?_)
            · exact (Below.refl _ _).drew
            refine late_genw (fun U0 hU => ?_)
            rw [← hU] at hS
            clear hU
            refine late_take (i := 0) (v := ?_) rfl (by kernel_rfl) (fun _ _ _ h => h) (by kernel_rfl) ?_ (by assumption) ?_
            rotate_left
            · (intro w9 hS9; (try dsimp only at hS9); (try go_split_ands); go_simp <;> with_reducible rfl)
            try simp only [Act.put, List.setIfInBounds_toArray, List.set_cons_zero, List.set_cons_succ]
            refine late_take (i := 1) (v := ?_) rfl (by kernel_rfl) (fun _ _ _ h => h) (by kernel_rfl) ?_ (by assumption) ?_
            rotate_left
            · (intro w9 hS9; (try dsimp only at hS9); (try go_split_ands); go_simp <;> with_reducible rfl)
            try simp only [Act.put, List.setIfInBounds_toArray, List.set_cons_zero, List.set_cons_succ]
            refine late_take (i := 2) (v := ?_) rfl (by kernel_rfl) (fun _ _ _ h => h) (by kernel_rfl) ?_ (by assumption) ?_
            rotate_left
            · (intro w9 hS9; (try dsimp only at hS9); (try go_split_ands); go_simp <;> with_reducible rfl)
            try simp only [Act.put, List.setIfInBounds_toArray, List.set_cons_zero, List.set_cons_succ]
            refine late_take (i := 3) (v := ?_) rfl (by kernel_rfl) (fun _ _ _ h => h) (by kernel_rfl) ?_ (by assumption) ?_
            rotate_left
            · (intro w9 hS9; (try dsimp only at hS9); (try go_split_ands); go_simp <;> with_reducible rfl)
            try simp only [Act.put, List.setIfInBounds_toArray, List.set_cons_zero, List.set_cons_succ]
            refine late_take (i := 4) (v := ?_) rfl (by kernel_rfl) (fun _ _ _ h => h) (by kernel_rfl) ?_ (by assumption) ?_
            rotate_left
            · (intro w9 hS9; (try dsimp only at hS9); (try go_split_ands); go_simp <;> with_reducible rfl)
            try simp only [Act.put, List.setIfInBounds_toArray, List.set_cons_zero, List.set_cons_succ]
            refine late_take (i := 5) (v := ?_) rfl (by kernel_rfl) (fun _ _ _ h => h) (by kernel_rfl) ?_ (by assumption) ?_
            rotate_left
            · (intro w9 hS9; (try dsimp only at hS9); (try go_split_ands); go_simp <;> with_reducible rfl)
            try simp only [Act.put, List.setIfInBounds_toArray, List.set_cons_zero, List.set_cons_succ]
            refine late_take (i := 6) (v := ?_) rfl (by kernel_rfl) (fun _ _ _ h => h) (by kernel_rfl) ?_ (by assumption) ?_
            rotate_left
            · (intro w9 hS9; have q9 := (HSx.out.grow hS9).text (P := Tryd.prog) 32 9 5 Tryd.underlying32 Tryd.underlying5 Tryd.underlying9; go_simp <;> with_reducible rfl)
            try simp only [Act.put, List.setIfInBounds_toArray, List.set_cons_zero, List.set_cons_succ]
            refine late_take (i := 7) (v := ?_) rfl (by kernel_rfl) (fun _ _ _ h => h) (by kernel_rfl) ?_ (by assumption) ?_
            rotate_left
            · (intro w9 hS9; (try dsimp only at hS9); (try go_split_ands); go_simp <;> with_reducible rfl)
            try simp only [Act.put, List.setIfInBounds_toArray, List.set_cons_zero, List.set_cons_succ]
            refine late_take (i := 8) (v := ?_) rfl (by kernel_rfl) (fun _ _ _ h => h) (by kernel_rfl) ?_ (by assumption) ?_
            rotate_left
            · (intro w9 hS9; (try dsimp only at hS9); (try go_split_ands); go_simp <;> with_reducible rfl)
            try simp only [Act.put, List.setIfInBounds_toArray, List.set_cons_zero, List.set_cons_succ]
            refine late_take (i := 9) (v := ?_) rfl (by kernel_rfl) (fun _ _ _ h => h) (by kernel_rfl) ?_ (by assumption) ?_
            rotate_left
            · (intro w9 hS9; (try dsimp only at hS9); (try go_split_ands); go_simp <;> with_reducible rfl)
            try simp only [Act.put, List.setIfInBounds_toArray, List.set_cons_zero, List.set_cons_succ]
            refine late_take (i := 10) (v := ?_) rfl (by kernel_rfl) (fun _ _ _ h => h) (by kernel_rfl) ?_ (by assumption) ?_
            rotate_left
            · (intro w9 hS9; (try dsimp only at hS9); (try go_split_ands); go_simp <;> with_reducible rfl)
            try simp only [Act.put, List.setIfInBounds_toArray, List.set_cons_zero, List.set_cons_succ]
            refine late_take (i := 11) (v := ?_) rfl (by kernel_rfl) (fun _ _ _ h => h) (by kernel_rfl) ?_ (by assumption) ?_
            rotate_left
            · (intro w9 hS9; (try dsimp only at hS9); (try go_split_ands); go_simp <;> with_reducible rfl)
            try simp only [Act.put, List.setIfInBounds_toArray, List.set_cons_zero, List.set_cons_succ]
            refine late_take (i := 12) (v := ?_) rfl (by kernel_rfl) (fun _ _ _ h => h) (by kernel_rfl) ?_ (by assumption) ?_
            rotate_left
            · (intro w9 hS9; (try dsimp only at hS9); (try go_split_ands); go_simp <;> with_reducible rfl)
            try simp only [Act.put, List.setIfInBounds_toArray, List.set_cons_zero, List.set_cons_succ]
            refine late_take (i := 13) (v := ?_) rfl (by kernel_rfl) (fun _ _ _ h => h) (by kernel_rfl) ?_ (by assumption) ?_
            rotate_left
            · (intro w9 hS9; have q9 := ((HS2.out.grow HB1.out).grow hS9).text (P := Tryd.prog) 32 9 5 Tryd.underlying32 Tryd.underlying5 Tryd.underlying9; go_simp <;> with_reducible rfl)
            try simp only [Act.put, List.setIfInBounds_toArray, List.set_cons_zero, List.set_cons_succ]
            refine late_take (i := 14) (v := ?_) rfl (by kernel_rfl) (fun _ _ _ h => h) (by kernel_rfl) ?_ (by assumption) ?_
            rotate_left
            · (intro w9 hS9; (try dsimp only at hS9); (try go_split_ands); go_simp <;> with_reducible rfl)
            try simp only [Act.put, List.setIfInBounds_toArray, List.set_cons_zero, List.set_cons_succ]
            refine late_one (i := 15) rfl (by kernel_rfl) (fun K9 hK9 => ?_)
            go_simp
            refine hK9.out _ _ (fun _ => ?_) (fun hS9 => ?_)
            · (try dsimp only); exact hS
            replace hS := hS9 (by decide)
            clear hK9 K9 hS9
            try simp only [Act.put, List.setIfInBounds_toArray, List.set_cons_zero, List.set_cons_succ]
            refine late_done (by kernel_rfl) ?_ _
            have HH := hid hh
            try clear hp2
            try clear hp4
            try clear hcut2
            try clear hne
            try clear hh
            try clear hN9
            go_wp2
            exact ⟨⟨1 + 1, by omega, by omega, by omega, by first | rfl | simp, rd_next hN (by first | exact hh | exact HH.out), HB1.out.trans (hS.mono HB1.out.size)⟩, by simp [intOf]⟩
          · have hne := hh; rw [rdHit, ← HF.out, beq_iff_eq] at hne
            have E := hid (rd_hit (rd_key (by omega) (by rw [HDL.out]; omega) hh) (by omega) (by rw [HDL.out]; omega) hh)
            rw [hne] at HSx
            have hp2 := HP2.out; have hp4 := HP4.out
            go_upto_region 14 with fail
            go_wp2_with fail
            refine late_start (fun W => Below w1.heap.size w1 W) 99 (by kernel_rfl) ?_ (fun hS => ?_)
            · exact (Below.refl _ _).drew
            refine late_genw (fun U0 hU => ?_)
            rw [← hU] at hS
            clear hU
            refine late_take (i := 0) (v := ?_) rfl (by kernel_rfl) (fun _ _ _ h => h) (by kernel_rfl) ?_ (by assumption) ?_
            rotate_left
            · (intro w9 hS9; (try dsimp only at hS9); (try go_split_ands); go_simp <;> with_reducible rfl)
            try simp only [Act.put, List.setIfInBounds_toArray, List.set_cons_zero, List.set_cons_succ]
            refine late_take (i := 1) (v := ?_) rfl (by kernel_rfl) (fun _ _ _ h => h) (by kernel_rfl) ?_ (by assumption) ?_
            rotate_left
            · (intro w9 hS9; (try dsimp only at hS9); (try go_split_ands); go_simp <;> with_reducible rfl)
            try simp only [Act.put, List.setIfInBounds_toArray, List.set_cons_zero, List.set_cons_succ]
            refine late_take (i := 2) (v := ?_) rfl (by kernel_rfl) (fun _ _ _ h => h) (by kernel_rfl) ?_ (by assumption) ?_
            rotate_left
            · (intro w9 hS9; (try dsimp only at hS9); (try go_split_ands); go_simp <;> with_reducible rfl)
            try simp only [Act.put, List.setIfInBounds_toArray, List.set_cons_zero, List.set_cons_succ]
            refine late_take (i := 3) (v := ?_) rfl (by kernel_rfl) (fun _ _ _ h => h) (by kernel_rfl) ?_ (by assumption) ?_
            rotate_left
            · (intro w9 hS9; (try dsimp only at hS9); (try go_split_ands); go_simp <;> with_reducible rfl)
            try simp only [Act.put, List.setIfInBounds_toArray, List.set_cons_zero, List.set_cons_succ]
            refine late_take (i := 4) (v := ?_) rfl (by kernel_rfl) (fun _ _ _ h => h) (by kernel_rfl) ?_ (by assumption) ?_
            rotate_left
            · (intro w9 hS9; (try dsimp only at hS9); (try go_split_ands); go_simp <;> with_reducible rfl)
            try simp only [Act.put, List.setIfInBounds_toArray, List.set_cons_zero, List.set_cons_succ]
            refine late_take (i := 5) (v := ?_) rfl (by kernel_rfl) (fun _ _ _ h => h) (by kernel_rfl) ?_ (by assumption) ?_
            rotate_left
            · (intro w9 hS9; (try dsimp only at hS9); (try go_split_ands); go_simp <;> with_reducible rfl)
            try simp only [Act.put, List.setIfInBounds_toArray, List.set_cons_zero, List.set_cons_succ]
            refine late_take (i := 6) (v := ?_) rfl (by kernel_rfl) (fun _ _ _ h => h) (by kernel_rfl) ?_ (by assumption) ?_
            rotate_left
            · (intro w9 hS9; have q9 := (HSx.out.grow hS9).text (P := Tryd.prog) 32 9 5 Tryd.underlying32 Tryd.underlying5 Tryd.underlying9; go_simp <;> with_reducible rfl)
            try simp only [Act.put, List.setIfInBounds_toArray, List.set_cons_zero, List.set_cons_succ]
            refine late_take (i := 7) (v := ?_) rfl (by kernel_rfl) (fun _ _ _ h => h) (by kernel_rfl) ?_ (by assumption) ?_
            rotate_left
            · (intro w9 hS9; (try dsimp only at hS9); (try go_split_ands); go_simp <;> with_reducible rfl)
            try simp only [Act.put, List.setIfInBounds_toArray, List.set_cons_zero, List.set_cons_succ]
            refine late_take (i := 8) (v := ?_) rfl (by kernel_rfl) (fun _ _ _ h => h) (by kernel_rfl) ?_ (by assumption) ?_
            rotate_left
            · (intro w9 hS9; (try dsimp only at hS9); (try go_split_ands); go_simp <;> with_reducible rfl)
            try simp only [Act.put, List.setIfInBounds_toArray, List.set_cons_zero, List.set_cons_succ]
            refine late_take (i := 9) (v := ?_) rfl (by kernel_rfl) (fun _ _ _ h => h) (by kernel_rfl) ?_ (by assumption) ?_
            rotate_left
            · (intro w9 hS9; (try dsimp only at hS9); (try go_split_ands); go_simp <;> with_reducible rfl)
            try simp only [Act.put, List.setIfInBounds_toArray, List.set_cons_zero, List.set_cons_succ]
            refine late_take (i := 10) (v := ?_) rfl (by kernel_rfl) (fun _ _ _ h => h) (by kernel_rfl) ?_ (by assumption) ?_
            rotate_left
            · (intro w9 hS9; (try dsimp only at hS9); (try go_split_ands); go_simp <;> with_reducible rfl)
            try simp only [Act.put, List.setIfInBounds_toArray, List.set_cons_zero, List.set_cons_succ]
            refine late_take (i := 11) (v := ?_) rfl (by kernel_rfl) (fun _ _ _ h => h) (by kernel_rfl) ?_ (by assumption) ?_
            rotate_left
            · (intro w9 hS9; (try dsimp only at hS9); (try go_split_ands); go_simp <;> with_reducible rfl)
            try simp only [Act.put, List.setIfInBounds_toArray, List.set_cons_zero, List.set_cons_succ]
            refine late_take (i := 12) (v := ?_) rfl (by kernel_rfl) (fun _ _ _ h => h) (by kernel_rfl) ?_ (by assumption) ?_
            rotate_left
            · (intro w9 hS9; (try dsimp only at hS9); (try go_split_ands); go_simp <;> with_reducible rfl)
            try simp only [Act.put, List.setIfInBounds_toArray, List.set_cons_zero, List.set_cons_succ]
            refine late_take (i := 13) (v := ?_) rfl (by kernel_rfl) (fun _ _ _ h => h) (by kernel_rfl) ?_ (by assumption) ?_
            rotate_left
            · (intro w9 hS9; have q9 := ((HS2.out.grow HB1.out).grow hS9).text (P := Tryd.prog) 32 9 5 Tryd.underlying32 Tryd.underlying5 Tryd.underlying9; go_simp <;> with_reducible rfl)
            try simp only [Act.put, List.setIfInBounds_toArray, List.set_cons_zero, List.set_cons_succ]
            refine late_take (i := 14) (v := ?_) rfl (by kernel_rfl) (fun _ _ _ h => h) (by kernel_rfl) ?_ (by assumption) ?_
            rotate_left
            · (intro w9 hS9; (try dsimp only at hS9); (try go_split_ands); go_simp <;> with_reducible rfl)
            try simp only [Act.put, List.setIfInBounds_toArray, List.set_cons_zero, List.set_cons_succ]
            refine late_one (i := 15) rfl (by kernel_rfl) (fun K9 hK9 => ?_)
            go_simp
            refine hK9.out _ _ (fun _ => ?_) (fun hS9 => ?_)
            · (try dsimp only); exact hS
            replace hS := hS9 (by decide)
            clear hK9 K9 hS9
            try simp only [Act.put, List.setIfInBounds_toArray, List.set_cons_zero, List.set_cons_succ]
            refine late_done (by kernel_rfl) ?_ _
            have HH := hid hh
            try clear hp2
            try clear hp4
            try clear hcut2
            try clear hne
            try clear hh
            try clear hN9
            go_wp2
            refine bodyPost_ret (v := .tuple #[.int .i64 v, .int .i64 1]) (by simp [results, Tryd.results44, go_sem]) rfl ?_
            exact ⟨by rw [E.out.1, E.out.2, HF.out]; rfl, HB1.out.trans (hS.mono HB1.out.size)⟩
        exfalso; omega
    · have hg : (2 : Int) ≤ (xs.length : Int) - K := by omega
      obtain ⟨p2, bs2, hcut2, _, _, hS2⟩ := H.out.cut_lh 32 Tryd.underlying32 hi hz1 K (K + 2) (by omega) (by omega) (by omega)
      simp only [hKn, show (K + 2).toNat = k + 2 by omega, show k + 2 - k = 2 by omega] at hcut2 hS2
      have hlist : (xs.take (k + 2)).drop k = (xs.drop k).take 2 := by rw [List.drop_take]; congr 1; omega
      rw [hlist] at hS2
      have HP2 := hid (show wrap64 (K + 2) = K + 2 from IntWalk.wrap64_in _ (by omega))
      have HP4 := hid (show IntKind.i64.wrap (K + 2) = K + 2 from wrapI (by omega))
      have hck9 : wr.cell? ⟨b, off + k, none⟩ = some (.int .u8 c) := (HB.out.cell (World.block_lt_of_cell? w _ hck)).trans hck
      have hw5 : wrap64 (c - 192) = c - 192 := IntWalk.wrap64_in _ (by omega)
      have hw6 : IntKind.i64.wrap (c - 192) = c - 192 := wrapI (by omega)
      have HS2 := hid hS2; clear hS2 hlist
      go_wp2_with fail
      go_loopw [7, 8] (fun r i wi => ∃ (j : Nat) (v : Int), 1 ≤ j ∧ j ≤ 2 ∧ i = .int .i64 (j : Int) ∧ r = .int .i64 v ∧ rdB (j - 1) v ∧ rdF (xs.drop k) (2 - j) j v = rdVal 2 (xs.drop k) ∧ Below w.heap.size w wi) (fun _ i _ => 2 - (intOf i).toNat)
      case atStart => exact ⟨1, c - 192, by omega, by omega, rfl, rfl, by unfold rdB; omega, by rw [rdVal, HX0.out]; rfl, by first | exact HB.out | exact HB.out.alloc HB.out.size _⟩
      case round =>
        rename World => wi
        obtain ⟨j, v, hj1, hj, rfl, rfl, hB, hF, hbi⟩ := hrel
        have hv := rdB_le hB (by omega)
        have HBI := hid hbi; clear hbi
        by_cases hlt : j < 2
        rotate_left
        · obtain rfl : j = 2 := by omega
          have hF2 : v = rdVal 2 (xs.drop k) := hF
          have HF := hid hF2; clear hF hF2 hB
          go_wp2_with fail
          refine (s_RuneBytes v (by unfold I64; omega) _).mono ?_
          rintro e w1 ⟨v1, b1, rfl, hO1, hst⟩
          obtain ⟨a1, c1, b1x, rfl, _, hS1⟩ := hO1.slc
          have HB1 := hid (HBI.out.trans (hst.mono HBI.out.size))
          have hcv1 := hS1.text (P := Tryd.prog) 32 9 5 Tryd.underlying32 Tryd.underlying5 Tryd.underlying9
          have hcv2 := (HS2.out.grow HB1.out).text (P := Tryd.prog) 32 9 5 Tryd.underlying32 Tryd.underlying5 Tryd.underlying9
          clear hO1 hst
          have HSx := hid hS1; clear hS1
          by_cases hlen : (runeBytes v).length = 2
          rotate_left
          · have hleq : (((runeBytes v).length : Int) == 2) = false := by rw [beq_eq_false_iff_ne]; omega
            have hh : rdHit 2 (xs.drop k) = false := by
              rw [rdHit, ← HF.out, beq_eq_false_iff_ne]; intro e; apply hlen; rw [e, List.length_take, HDL.out]; omega
            clear hcv1 hcv2 hcut2
            have hp2 := HP2.out; have hp4 := HP4.out
            go_upto_region 14 with fail
            go_quiet (fail)
            go_wp2
            exact ⟨⟨2 + 1, by omega, by omega, by omega, by first | rfl | simp, rd_next hN (by first | exact hh | exact HH.out), ⟨HB1.out.os, HB1.out.tape, HB1.out.output, HB1.out.size, HB1.out.block⟩⟩, by simp [intOf]⟩
          have hleq : (((runeBytes v).length : Int) == 2) = true := by rw [beq_iff_eq]; omega
          clear hcv1 hcv2
          rw [hlen] at HSx ⊢
          cases hh : rdHit 2 (xs.drop k)
          · have hne := hh; rw [rdHit, ← HF.out, beq_eq_false_iff_ne] at hne
            have hne5 := hh; rw [rdHit, ← HF.out] at hne5
            have hp2 := HP2.out; have hp4 := HP4.out
            go_upto_region 14 with fail
            go_wp2_with fail
            refine late_start (fun W => Below w1.heap.size w1 W) 99 (by kernel_rfl) ?_ (fun hS => ?_)
            · exact (Below.refl _ _).drew
            refine late_genw (fun U0 hU => ?_)
            rw [← hU] at hS
            clear hU
            refine late_take (i := 0) (v := ?_) rfl (by kernel_rfl) (fun _ _ _ h => h) (by kernel_rfl) ?_ (by assumption) ?_
            rotate_left
            · (intro w9 hS9; (try dsimp only at hS9); (try go_split_ands); go_simp <;> with_reducible rfl)
            try simp only [Act.put, List.setIfInBounds_toArray, List.set_cons_zero, List.set_cons_succ]
            refine late_take (i := 1) (v := ?_) rfl (by kernel_rfl) (fun _ _ _ h => h) (by kernel_rfl) ?_ (by assumption) ?_
            rotate_left
            · (intro w9 hS9; (try dsimp only at hS9); (try go_split_ands); go_simp <;> with_reducible rfl)
            try simp only [Act.put, List.setIfInBounds_toArray, List.set_cons_zero, List.set_cons_succ]
            refine late_take (i := 2) (v := ?_) rfl (by kernel_rfl) (fun _ _ _ h => h) (by kernel_rfl) ?_ (by assumption) ?_
            rotate_left
            · (intro w9 hS9; (try dsimp only at hS9); (try go_split_ands); go_simp <;> with_reducible rfl)
            try simp only [Act.put, List.setIfInBounds_toArray, List.set_cons_zero, List.set_cons_succ]
            refine late_take (i := 3) (v := ?_) rfl (by kernel_rfl) (fun _ _ _ h => h) (by kernel_rfl) ?_ (by assumption) ?_
            rotate_left
            · (intro w9 hS9; (try dsimp only at hS9); (try go_split_ands); go_simp <;> with_reducible rfl)
            try simp only [Act.put, List.setIfInBounds_toArray, List.set_cons_zero, List.set_cons_succ]
            refine late_take (i := 4) (v := ?_) rfl (by kernel_rfl) (fun _ _ _ h => h) (by kernel_rfl) ?_ (by assumption) ?_
            rotate_left
            · (intro w9 hS9; (try dsimp only at hS9); (try go_split_ands); go_simp <;> with_reducible rfl)
            try simp only [Act.put, List.setIfInBounds_toArray, List.set_cons_zero, List.set_cons_succ]
            refine late_take (i := 5) (v := ?_) rfl (by kernel_rfl) (fun _ _ _ h => h) (by kernel_rfl) ?_ (by assumption) ?_
            rotate_left
            · (intro w9 hS9; (try dsimp only at hS9); (try go_split_ands); go_simp <;> with_reducible rfl)
            try simp only [Act.put, List.setIfInBounds_toArray, List.set_cons_zero, List.set_cons_succ]
            refine late_take (i := 6) (v := ?_) rfl (by kernel_rfl) (fun _ _ _ h => h) (by kernel_rfl) ?_ (by assumption) ?_
            rotate_left
            · (intro w9 hS9; have q9 := (HSx.out.grow hS9).text (P := Tryd.prog) 32 9 5 Tryd.underlying32 Tryd.underlying5 Tryd.underlying9; go_simp <;> with_reducible rfl)
            try simp only [Act.put, List.setIfInBounds_toArray, List.set_cons_zero, List.set_cons_succ]
            refine late_take (i := 7) (v := ?_) rfl (by kernel_rfl) (fun _ _ _ h => h) (by kernel_rfl) ?_ (by assumption) ?_
            rotate_left
            · (intro w9 hS9; (try dsimp only at hS9); (try go_split_ands); go_simp <;> with_reducible rfl)
            try simp only [Act.put, List.setIfInBounds_toArray, List.set_cons_zero, List.set_cons_succ]
            refine late_take (i := 8) (v := ?_) rfl (by kernel_rfl) (fun _ _ _ h => h) (by kernel_rfl) ?_ (by assumption) ?_
            rotate_left
            · (intro w9 hS9; (try dsimp only at hS9); (try go_split_ands); go_simp <;> with_reducible rfl)
            try simp only [Act.put, List.setIfInBounds_toArray, List.set_cons_zero, List.set_cons_succ]
            refine late_take (i := 9) (v := ?_) rfl (by kernel_rfl) (fun _ _ _ h => h) (by kernel_rfl) ?_ (by assumption) ?_
            rotate_left
            · (intro w9 hS9; (try dsimp only at hS9); (try go_split_ands); go_simp <;> with_reducible rfl)
            try simp only [Act.put, List.setIfInBounds_toArray, List.set_cons_zero, List.set_cons_succ]
            refine late_take (i := 10) (v := ?_) rfl (by kernel_rfl) (fun _ _ _ h => h) (by kernel_rfl) ?_ (by assumption) ?_
            rotate_left
            · (intro w9 hS9; (try dsimp only at hS9); (try go_split_ands); go_simp <;> with_reducible rfl)
            try simp only [Act.put, List.setIfInBounds_toArray, List.set_cons_zero, List.set_cons_succ]
            refine late_take (i := 11) (v := ?_) rfl (by kernel_rfl) (fun _ _ _ h => h) (by kernel_rfl) ?_ (by assumption) ?_
            rotate_left
            · (intro w9 hS9; (try dsimp only at hS9); (try go_split_ands); go_simp <;> with_reducible rfl)
            try simp only [Act.put, List.setIfInBounds_toArray, List.set_cons_zero, List.set_cons_succ]
            refine late_take (i := 12) (v := ?_) rfl (by kernel_rfl) (fun _ _ _ h => h) (by kernel_rfl) ?_ (by assumption) ?_
            rotate_left
            · (intro w9 hS9; (try dsimp only at hS9); (try go_split_ands); go_simp <;> with_reducible rfl)
            try simp only [Act.put, List.setIfInBounds_toArray, List.set_cons_zero, List.set_cons_succ]
            refine late_take (i := 13) (v := ?_) rfl (by kernel_rfl) (fun _ _ _ h => h) (by kernel_rfl) ?_ (by assumption) ?_
            rotate_left
            · (intro w9 hS9; have q9 := ((HS2.out.grow HB1.out).grow hS9).text (P := Tryd.prog) 32 9 5 Tryd.underlying32 Tryd.underlying5 Tryd.underlying9; go_simp <;> with_reducible rfl)
            try simp only [Act.put, List.setIfInBounds_toArray, List.set_cons_zero, List.set_cons_succ]
            refine late_take (i := 14) (v := ?_) rfl (by kernel_rfl) (fun _ _ _ h => h) (by kernel_rfl) ?_ (by assumption) ?_
            rotate_left
            · (intro w9 hS9; (try dsimp only at hS9); (try go_split_ands); go_simp <;> with_reducible rfl)
            try simp only [Act.put, List.setIfInBounds_toArray, List.set_cons_zero, List.set_cons_succ]
            refine late_one (i := 15) rfl (by kernel_rfl) (fun K9 hK9 => ?_)
            go_simp
            refine hK9.out _ _ (fun _ => ?_) (fun hS9 => ?_)
            · (try dsimp only); exact hS
            replace hS := hS9 (by decide)
            clear hK9 K9 hS9
            try simp only [Act.put, List.setIfInBounds_toArray, List.set_cons_zero, List.set_cons_succ]
            refine late_done (by kernel_rfl) ?_ _
            have HH := hid hh
            try clear hp2
            try clear hp4
            try clear hcut2
            try clear hne
            try clear hh
            try clear hN9
            go_wp2
            exact ⟨⟨2 + 1, by omega, by omega, by omega, by first | rfl | simp, rd_next hN (by first | exact hh | exact HH.out), HB1.out.trans (hS.mono HB1.out.size)⟩, by simp [intOf]⟩
          · have hne := hh; rw [rdHit, ← HF.out, beq_iff_eq] at hne
            have E := hid (rd_hit (rd_key (by omega) (by rw [HDL.out]; omega) hh) (by omega) (by rw [HDL.out]; omega) hh)
            rw [hne] at HSx
            have hp2 := HP2.out; have hp4 := HP4.out
            go_upto_region 14 with fail
            go_wp2_with fail
            refine late_start (fun W => Below w1.heap.size w1 W) 99 (by kernel_rfl) ?_ (fun hS => ?_)
            · exact (Below.refl _ _).drew
            refine late_genw (fun U0 hU => ?_)
            rw [← hU] at hS
            clear hU
            refine late_take (i := 0) (v := ?_) rfl (by kernel_rfl) (fun _ _ _ h => h) (by kernel_rfl) ?_ (by assumption) ?_
            rotate_left
            · (intro w9 hS9; (try dsimp only at hS9); (try go_split_ands); go_simp <;> with_reducible rfl)
            try simp only [Act.put, List.setIfInBounds_toArray, List.set_cons_zero, List.set_cons_succ]
            refine late_take (i := 1) (v := ?_) rfl (by kernel_rfl) (fun _ _ _ h => h) (by kernel_rfl) ?_ (by assumption) ?_
            rotate_left
            · (intro w9 hS9; (try dsimp only at hS9); (try go_split_ands); go_simp <;> with_reducible rfl)
            try simp only [Act.put, List.setIfInBounds_toArray, List.set_cons_zero, List.set_cons_succ]
            refine late_take (i := 2) (v := ?_) rfl (by kernel_rfl) (fun _ _ _ h => h) (by kernel_rfl) ?_ (by assumption) ?_
            rotate_left
            · (intro w9 hS9; (try dsimp only at hS9); (try go_split_ands); go_simp <;> with_reducible rfl)
            try simp only [Act.put, List.setIfInBounds_toArray, List.set_cons_zero, List.set_cons_succ]
            refine late_take (i := 3) (v := ?_) rfl (by kernel_rfl) (fun _ _ _ h => h) (by kernel_rfl) ?_ (by assumption) ?_
            rotate_left
            · (intro w9 hS9; (try dsimp only at hS9); (try go_split_ands); go_simp <;> with_reducible rfl)
            try simp only [Act.put, List.setIfInBounds_toArray, List.set_cons_zero, List.set_cons_succ]
            refine late_take (i := 4) (v := ?_) rfl (by kernel_rfl) (fun _ _ _ h => h) (by kernel_rfl) ?_ (by assumption) ?_
            rotate_left
            · (intro w9 hS9; (try dsimp only at hS9); (try go_split_ands); go_simp <;> with_reducible rfl)
            try simp only [Act.put, List.setIfInBounds_toArray, List.set_cons_zero, List.set_cons_succ]
            refine late_take (i := 5) (v := ?_) rfl (by kernel_rfl) (fun _ _ _ h => h) (by kernel_rfl) ?_ (by assumption) ?_
            rotate_left
            · (intro w9 hS9; (try dsimp only at hS9); (try go_split_ands); go_simp <;> with_reducible rfl)
            try simp only [Act.put, List.setIfInBounds_toArray, List.set_cons_zero, List.set_cons_succ]
            refine late_take (i := 6) (v := ?_) rfl (by kernel_rfl) (fun _ _ _ h => h) (by kernel_rfl) ?_ (by assumption) ?_
            rotate_left
            · (intro w9 hS9; have q9 := (HSx.out.grow hS9).text (P := Tryd.prog) 32 9 5 Tryd.underlying32 Tryd.underlying5 Tryd.underlying9; go_simp <;> with_reducible rfl)
            try simp only [Act.put, List.setIfInBounds_toArray, List.set_cons_zero, List.set_cons_succ]
            refine late_take (i := 7) (v := ?_) rfl (by kernel_rfl) (fun _ _ _ h => h) (by kernel_rfl) ?_ (by assumption) ?_
            rotate_left
            · (intro w9 hS9; (try dsimp only at hS9); (try go_split_ands); go_simp <;> with_reducible rfl)
            try simp only [Act.put, List.setIfInBounds_toArray, List.set_cons_zero, List.set_cons_succ]
            refine late_take (i := 8) (v := ?_) rfl (by kernel_rfl) (fun _ _ _ h => h) (by kernel_rfl) ?_ (by assumption) ?_
            rotate_left
            · (intro w9 hS9; (try dsimp only at hS9); (try go_split_ands); go_simp <;> with_reducible rfl)
            try simp only [Act.put, List.setIfInBounds_toArray, List.set_cons_zero, List.set_cons_succ]
            refine late_take (i := 9) (v := ?_) rfl (by kernel_rfl) (fun _ _ _ h => h) (by kernel_rfl) ?_ (by assumption) ?_
            rotate_left
            · (intro w9 hS9; (try dsimp only at hS9); (try go_split_ands); go_simp <;> with_reducible rfl)
            try simp only [Act.put, List.setIfInBounds_toArray, List.set_cons_zero, List.set_cons_succ]
            refine late_take (i := 10) (v := ?_) rfl (by kernel_rfl) (fun _ _ _ h => h) (by kernel_rfl) ?_ (by assumption) ?_
            rotate_left
            · (intro w9 hS9; (try dsimp only at hS9); (try go_split_ands); go_simp <;> with_reducible rfl)
            try simp only [Act.put, List.setIfInBounds_toArray, List.set_cons_zero, List.set_cons_succ]
            refine late_take (i := 11) (v := ?_) rfl (by kernel_rfl) (fun _ _ _ h => h) (by kernel_rfl) ?_ (by assumption) ?_
            rotate_left
            · (intro w9 hS9; (try dsimp only at hS9); (try go_split_ands); go_simp <;> with_reducible rfl)
            try simp only [Act.put, List.setIfInBounds_toArray, List.set_cons_zero, List.set_cons_succ]
            refine late_take (i := 12) (v := ?_) rfl (by kernel_rfl) (fun _ _ _ h => h) (by kernel_rfl) ?_ (by assumption) ?_
            rotate_left
            · (intro w9 hS9; (try dsimp only at hS9); (try go_split_ands); go_simp <;> with_reducible rfl)
            try simp only [Act.put, List.setIfInBounds_toArray, List.set_cons_zero, List.set_cons_succ]
            refine late_take (i := 13) (v := ?_) rfl (by kernel_rfl) (fun _ _ _ h => h) (by kernel_rfl) ?_ (by assumption) ?_
            rotate_left
            · (intro w9 hS9; have q9 := ((HS2.out.grow HB1.out).grow hS9).text (P := Tryd.prog) 32 9 5 Tryd.underlying32 Tryd.underlying5 Tryd.underlying9; go_simp <;> with_reducible rfl)
            try simp only [Act.put, List.setIfInBounds_toArray, List.set_cons_zero, List.set_cons_succ]
            refine late_take (i := 14) (v := ?_) rfl (by kernel_rfl) (fun _ _ _ h => h) (by kernel_rfl) ?_ (by assumption) ?_
            rotate_left
            · (intro w9 hS9; (try dsimp only at hS9); (try go_split_ands); go_simp <;> with_reducible rfl)
            try simp only [Act.put, List.setIfInBounds_toArray, List.set_cons_zero, List.set_cons_succ]
            refine late_one (i := 15) rfl (by kernel_rfl) (fun K9 hK9 => ?_)
            go_simp
            refine hK9.out _ _ (fun _ => ?_) (fun hS9 => ?_)
            · (try dsimp only); exact hS
            replace hS := hS9 (by decide)
            clear hK9 K9 hS9
            try simp only [Act.put, List.setIfInBounds_toArray, List.set_cons_zero, List.set_cons_succ]
            refine late_done (by kernel_rfl) ?_ _
            have HH := hid hh
            try clear hp2
            try clear hp4
            try clear hcut2
            try clear hne
            try clear hh
            try clear hN9
            go_wp2
            refine bodyPost_ret (v := .tuple #[.int .i64 v, .int .i64 2]) (by simp [results, Tryd.results44, go_sem]) rfl ?_
            exact ⟨by rw [E.out.1, E.out.2, HF.out]; rfl, HB1.out.trans (hS.mono HB1.out.size)⟩
        obtain ⟨b3, off3, ea, hck3⟩ := (H.out.grow HBI.out).byte (k + j) (by omega)
        simp only [Option.some.injEq, Addr.mk.injEq, and_true] at ea
        obtain ⟨rfl, rfl⟩ := ea
        obtain ⟨y, hy⟩ : ∃ y : Int, y = bI (xs.drop k) j := ⟨_, rfl⟩
        have hyr := bI_range (xs.drop k) j
        rw [← hy] at hyr
        have hcell : wi.cell? ⟨b, off + (k + j), none⟩ = some (.int .u8 y) := by rw [hck3, hy, bI_drop (by omega)]
        clear hck3
        have hji : (j : Int) < 2 := by omega
        obtain ⟨j2, hj2⟩ : ∃ j2, j = j2 + 1 := ⟨j - 1, by omega⟩
        have hm : rdB (j + 1 - 1) (v * 64 + y - 128) := by
          rw [hj2] at hB ⊢; exact rdB_step hB (by omega) hyr
        have hm2 := rdB_le hm (by omega)
        obtain ⟨m, hmk⟩ : ∃ m : Nat, m = k + j := ⟨_, rfl⟩
        rw [← hmk] at hcell
        have hix3 : (m : Int) < (xs.length : Int) := by omega
        have hix0 : K + (j : Int) = (m : Int) := by omega
        clear hmk hj2
        have ha1 : wrap64 (v * 64) = v * 64 := IntWalk.wrap64_in _ (by omega)
        have ha2 : wrap64 (v * 64 + y) = v * 64 + y := IntWalk.wrap64_in _ (by omega)
        have ha3 : wrap64 (v * 64 + y - 128) = v * 64 + y - 128 := IntWalk.wrap64_in _ (by omega)
        have HF2 : Hid (rdF (xs.drop k) (2 - (j + 1)) (j + 1) (v * 64 + y - 128) = rdVal 2 (xs.drop k)) := hid (by rw [← hF, show 2 - j = (2 - (j + 1)) + 1 by omega, rdF, hy])
        have HM := hid hm
        clear hF hm hB hy
        go_wp2
        exact ⟨⟨j + 1, v * 64 + y - 128, by omega, by omega, by first | rfl | simp, rfl, HM.out, HF2.out, HBI.out⟩, by simp [intOf]; omega⟩
    · have hg : (3 : Int) ≤ (xs.length : Int) - K := by omega
      obtain ⟨p2, bs2, hcut2, _, _, hS2⟩ := H.out.cut_lh 32 Tryd.underlying32 hi hz1 K (K + 3) (by omega) (by omega) (by omega)
      simp only [hKn, show (K + 3).toNat = k + 3 by omega, show k + 3 - k = 3 by omega] at hcut2 hS2
      have hlist : (xs.take (k + 3)).drop k = (xs.drop k).take 3 := by rw [List.drop_take]; congr 1; omega
      rw [hlist] at hS2
      have HP2 := hid (show wrap64 (K + 3) = K + 3 from IntWalk.wrap64_in _ (by omega))
      have HP4 := hid (show IntKind.i64.wrap (K + 3) = K + 3 from wrapI (by omega))
      have hck9 : wr.cell? ⟨b, off + k, none⟩ = some (.int .u8 c) := (HB.out.cell (World.block_lt_of_cell? w _ hck)).trans hck
      have hw5 : wrap64 (c - 224) = c - 224 := IntWalk.wrap64_in _ (by omega)
      have hw6 : IntKind.i64.wrap (c - 224) = c - 224 := wrapI (by omega)
      have HS2 := hid hS2; clear hS2 hlist
      go_wp2_with fail
      go_loopw [7, 8] (fun r i wi => ∃ (j : Nat) (v : Int), 1 ≤ j ∧ j ≤ 3 ∧ i = .int .i64 (j : Int) ∧ r = .int .i64 v ∧ rdB (j - 1) v ∧ rdF (xs.drop k) (3 - j) j v = rdVal 3 (xs.drop k) ∧ Below w.heap.size w wi) (fun _ i _ => 3 - (intOf i).toNat)
      case atStart => exact ⟨1, c - 224, by omega, by omega, rfl, rfl, by unfold rdB; omega, by rw [rdVal, HX0.out]; rfl, by first | exact HB.out | exact HB.out.alloc HB.out.size _⟩
      case round =>
        rename World => wi
        obtain ⟨j, v, hj1, hj, rfl, rfl, hB, hF, hbi⟩ := hrel
        have hv := rdB_le hB (by omega)
        have HBI := hid hbi; clear hbi
        by_cases hlt : j < 3
        rotate_left
        · obtain rfl : j = 3 := by omega
          have hF2 : v = rdVal 3 (xs.drop k) := hF
          have HF := hid hF2; clear hF hF2 hB
          go_wp2_with fail
          refine (s_RuneBytes v (by unfold I64; omega) _).mono ?_
          rintro e w1 ⟨v1, b1, rfl, hO1, hst⟩
          obtain ⟨a1, c1, b1x, rfl, _, hS1⟩ := hO1.slc
          have HB1 := hid (HBI.out.trans (hst.mono HBI.out.size))
          have hcv1 := hS1.text (P := Tryd.prog) 32 9 5 Tryd.underlying32 Tryd.underlying5 Tryd.underlying9
          have hcv2 := (HS2.out.grow HB1.out).text (P := Tryd.prog) 32 9 5 Tryd.underlying32 Tryd.underlying5 Tryd.underlying9
          clear hO1 hst
          have HSx := hid hS1; clear hS1
          by_cases hlen : (runeBytes v).length = 3
          rotate_left
          · have hleq : (((runeBytes v).length : Int) == 3) = false := by rw [beq_eq_false_iff_ne]; omega
            have hh : rdHit 3 (xs.drop k) = false := by
              rw [rdHit, ← HF.out, beq_eq_false_iff_ne]; intro e; apply hlen; rw [e, List.length_take, HDL.out]; omega
            clear hcv1 hcv2 hcut2
            have hp2 := HP2.out; have hp4 := HP4.out
            go_upto_region 14 with fail
            go_quiet (fail)
            go_wp2
            exact ⟨⟨3 + 1, by omega, by omega, by omega, by first | rfl | simp, rd_next hN (by first | exact hh | exact HH.out), ⟨HB1.out.os, HB1.out.tape, HB1.out.output, HB1.out.size, HB1.out.block⟩⟩, by simp [intOf]⟩
          have hleq : (((runeBytes v).length : Int) == 3) = true := by rw [beq_iff_eq]; omega
          clear hcv1 hcv2
          rw [hlen] at HSx ⊢
          cases hh : rdHit 3 (xs.drop k)
          · have hne := hh; rw [rdHit, ← HF.out, beq_eq_false_iff_ne] at hne
            have hne5 := hh; rw [rdHit, ← HF.out] at hne5
            have hp2 := HP2.out; have hp4 := HP4.out
            go_upto_region 14 with fail
            go_wp2_with fail
            refine late_start (fun W => Below w1.heap.size w1 W) 99 (by kernel_rfl) ?_ (fun hS => ?_)
            · exact (Below.refl _ _).drew
            refine late_genw (fun U0 hU => ?_)
            rw [← hU] at hS
            clear hU
            refine late_take (i := 0) (v := ?_) rfl (by kernel_rfl) (fun _ _ _ h => h) (by kernel_rfl) ?_ (by assumption) ?_
            rotate_left
            · (intro w9 hS9; (try dsimp only at hS9); (try go_split_ands); go_simp <;> with_reducible rfl)
            try simp only [Act.put, List.setIfInBounds_toArray, List.set_cons_zero, List.set_cons_succ]
            refine late_take (i := 1) (v := ?_) rfl (by kernel_rfl) (fun _ _ _ h => h) (by kernel_rfl) ?_ (by assumption) ?_
            rotate_left
            · (intro w9 hS9; (try dsimp only at hS9); (try go_split_ands); go_simp <;> with_reducible rfl)
            try simp only [Act.put, List.setIfInBounds_toArray, List.set_cons_zero, List.set_cons_succ]
            refine late_take (i := 2) (v := ?_) rfl (by kernel_rfl) (fun _ _ _ h => h) (by kernel_rfl) ?_ (by assumption) ?_
            rotate_left
            · (intro w9 hS9; (try dsimp only at hS9); (try go_split_ands); go_simp <;> with_reducible rfl)
            try simp only [Act.put, List.setIfInBounds_toArray, List.set_cons_zero, List.set_cons_succ]
            refine late_take (i := 3) (v := ?_) rfl (by kernel_rfl) (fun _ _ _ h => h) (by kernel_rfl) ?_ (by assumption) ?_
            rotate_left
            · (intro w9 hS9; (try dsimp only at hS9); (try go_split_ands); go_simp <;> with_reducible rfl)
            try simp only [Act.put, List.setIfInBounds_toArray, List.set_cons_zero, List.set_cons_succ]
            refine late_take (i := 4) (v := ?_) rfl (by kernel_rfl) (fun _ _ _ h => h) (by kernel_rfl) ?_ (by assumption) ?_
            rotate_left
            · (intro w9 hS9; (try dsimp only at hS9); (try go_split_ands); go_simp <;> with_reducible rfl)
            try simp only [Act.put, List.setIfInBounds_toArray, List.set_cons_zero, List.set_cons_succ]
            refine late_take (i := 5) (v := ?_) rfl (by kernel_rfl) (fun _ _ _ h => h) (by kernel_rfl) ?_ (by assumption) ?_
            rotate_left
            · (intro w9 hS9; (try dsimp only at hS9); (try go_split_ands); go_simp <;> with_reducible rfl)
            try simp only [Act.put, List.setIfInBounds_toArray, List.set_cons_zero, List.set_cons_succ]
            refine late_take (i := 6) (v := ?_) rfl (by kernel_rfl) (fun _ _ _ h => h) (by kernel_rfl) ?_ (by assumption) ?_
            rotate_left
            · (intro w9 hS9; have q9 := (HSx.out.grow hS9).text (P := Tryd.prog) 32 9 5 Tryd.underlying32 Tryd.underlying5 Tryd.underlying9; go_simp <;> with_reducible rfl)
            try simp only [Act.put, List.setIfInBounds_toArray, List.set_cons_zero, List.set_cons_succ]
            refine late_take (i := 7) (v := ?_) rfl (by kernel_rfl) (fun _ _ _ h => h) (by kernel_rfl) ?_ (by assumption) ?_
            rotate_left
            · (intro w9 hS9; (try dsimp only at hS9); (try go_split_ands); go_simp <;> with_reducible rfl)
            try simp only [Act.put, List.setIfInBounds_toArray, List.set_cons_zero, List.set_cons_succ]
            refine late_take (i := 8) (v := ?_) rfl (by kernel_rfl) (fun _ _ _ h => h) (by kernel_rfl) ?_ (by assumption) ?_
            rotate_left
            · (intro w9 hS9; (try dsimp only at hS9); (try go_split_ands); go_simp <;> with_reducible rfl)
            try simp only [Act.put, List.setIfInBounds_toArray, List.set_cons_zero, List.set_cons_succ]
            refine late_take (i := 9) (v := ?_) rfl (by kernel_rfl) (fun _ _ _ h => h) (by kernel_rfl) ?_ (by assumption) ?_
            rotate_left
            · (intro w9 hS9; (try dsimp only at hS9); (try go_split_ands); go_simp <;> with_reducible rfl)
            try simp only [Act.put, List.setIfInBounds_toArray, List.set_cons_zero, List.set_cons_succ]
            refine late_take (i := 10) (v := ?_) rfl (by kernel_rfl) (fun _ _ _ h => h) (by kernel_rfl) ?_ (by assumption) ?_
            rotate_left
            · (intro w9 hS9; (try dsimp only at hS9); (try go_split_ands); go_simp <;> with_reducible rfl)
            try simp only [Act.put, List.setIfInBounds_toArray, List.set_cons_zero, List.set_cons_succ]
            refine late_take (i := 11) (v := ?_) rfl (by kernel_rfl) (fun _ _ _ h => h) (by kernel_rfl) ?_ (by assumption) ?_
            rotate_left
            · (intro w9 hS9; (try dsimp only at hS9); (try go_split_ands); go_simp <;> with_reducible rfl)
            try simp only [Act.put, List.setIfInBounds_toArray, List.set_cons_zero, List.set_cons_succ]
            refine late_take (i := 12) (v := ?_) rfl (by kernel_rfl) (fun _ _ _ h => h) (by kernel_rfl) ?_ (by assumption) ?_
            rotate_left
            · (intro w9 hS9; (try dsimp only at hS9); (try go_split_ands); go_simp <;> with_reducible rfl)
            try simp only [Act.put, List.setIfInBounds_toArray, List.set_cons_zero, List.set_cons_succ]
            refine late_take (i := 13) (v := ?_) rfl (by kernel_rfl) (fun _ _ _ h => h) (by kernel_rfl) ?_ (by assumption) ?_
            rotate_left
            · (intro w9 hS9; have q9 := ((HS2.out.grow HB1.out).grow hS9).text (P := Tryd.prog) 32 9 5 Tryd.underlying32 Tryd.underlying5 Tryd.underlying9; go_simp <;> with_reducible rfl)
            try simp only [Act.put, List.setIfInBounds_toArray, List.set_cons_zero, List.set_cons_succ]
            refine late_take (i := 14) (v := ?_) rfl (by kernel_rfl) (fun _ _ _ h => h) (by kernel_rfl) ?_ (by assumption) ?_
            rotate_left
            · (intro w9 hS9; (try dsimp only at hS9); (try go_split_ands); go_simp <;> with_reducible rfl)
            try simp only [Act.put, List.setIfInBounds_toArray, List.set_cons_zero, List.set_cons_succ]
            refine late_one (i := 15) rfl (by kernel_rfl) (fun K9 hK9 => ?_)
            go_simp
            refine hK9.out _ _ (fun _ => ?_) (fun hS9 => ?_)
            · (try dsimp only); exact hS
            replace hS := hS9 (by decide)
            clear hK9 K9 hS9
            try simp only [Act.put, List.setIfInBounds_toArray, List.set_cons_zero, List.set_cons_succ]
            refine late_done (by kernel_rfl) ?_ _
            have HH := hid hh
            try clear hp2
            try clear hp4
            try clear hcut2
            try clear hne
            try clear hh
            try clear hN9
            go_wp2
            exact ⟨⟨3 + 1, by omega, by omega, by omega, by first | rfl | simp, rd_next hN (by first | exact hh | exact HH.out), HB1.out.trans (hS.mono HB1.out.size)⟩, by simp [intOf]⟩
          · have hne := hh; rw [rdHit, ← HF.out, beq_iff_eq] at hne
            have E := hid (rd_hit (rd_key (by omega) (by rw [HDL.out]; omega) hh) (by omega) (by rw [HDL.out]; omega) hh)
            rw [hne] at HSx
            have hp2 := HP2.out; have hp4 := HP4.out
            go_upto_region 14 with fail
            go_wp2_with fail
            refine late_start (fun W => Below w1.heap.size w1 W) 99 (by kernel_rfl) ?_ (fun hS => ?_)
            · exact (Below.refl _ _).drew
            refine late_genw (fun U0 hU => ?_)
            rw [← hU] at hS
            clear hU
            refine late_take (i := 0) (v := ?_) rfl (by kernel_rfl) (fun _ _ _ h => h) (by kernel_rfl) ?_ (by assumption) ?_
            rotate_left
            · (intro w9 hS9; (try dsimp only at hS9); (try go_split_ands); go_simp <;> with_reducible rfl)
            try simp only [Act.put, List.setIfInBounds_toArray, List.set_cons_zero, List.set_cons_succ]
            refine late_take (i := 1) (v := ?_) rfl (by kernel_rfl) (fun _ _ _ h => h) (by kernel_rfl) ?_ (by assumption) ?_
            rotate_left
            · (intro w9 hS9; (try dsimp only at hS9); (try go_split_ands); go_simp <;> with_reducible rfl)
            try simp only [Act.put, List.setIfInBounds_toArray, List.set_cons_zero, List.set_cons_succ]
            refine late_take (i := 2) (v := ?_) rfl (by kernel_rfl) (fun _ _ _ h => h) (by kernel_rfl) ?_ (by assumption) ?_
            rotate_left
            · (intro w9 hS9; (try dsimp only at hS9); (try go_split_ands); go_simp <;> with_reducible rfl)
            try simp only [Act.put, List.setIfInBounds_toArray, List.set_cons_zero, List.set_cons_succ]
            refine late_take (i := 3) (v := ?_) rfl (by kernel_rfl) (fun _ _ _ h => h) (by kernel_rfl) ?_ (by assumption) ?_
            rotate_left
            · (intro w9 hS9; (try dsimp only at hS9); (try go_split_ands); go_simp <;> with_reducible rfl)
            try simp only [Act.put, List.setIfInBounds_toArray, List.set_cons_zero, List.set_cons_succ]
            refine late_take (i := 4) (v := ?_) rfl (by kernel_rfl) (fun _ _ _ h => h) (by kernel_rfl) ?_ (by assumption) ?_
            rotate_left
            · (intro w9 hS9; (try dsimp only at hS9); (try go_split_ands); go_simp <;> with_reducible rfl)
            try simp only [Act.put, List.setIfInBounds_toArray, List.set_cons_zero, List.set_cons_succ]
            refine late_take (i := 5) (v := ?_) rfl (by kernel_rfl) (fun _ _ _ h => h) (by kernel_rfl) ?_ (by assumption) ?_
            rotate_left
            · (intro w9 hS9; (try dsimp only at hS9); (try go_split_ands); go_simp <;> with_reducible rfl)
            try simp only [Act.put, List.setIfInBounds_toArray, List.set_cons_zero, List.set_cons_succ]
            refine late_take (i := 6) (v := ?_) rfl (by kernel_rfl) (fun _ _ _ h => h) (by kernel_rfl) ?_ (by assumption) ?_
            rotate_left
            · (intro w9 hS9; have q9 := (HSx.out.grow hS9).text (P := Tryd.prog) 32 9 5 Tryd.underlying32 Tryd.underlying5 Tryd.underlying9; go_simp <;> with_reducible rfl)
            try simp only [Act.put, List.setIfInBounds_toArray, List.set_cons_zero, List.set_cons_succ]
            refine late_take (i := 7) (v := ?_) rfl (by kernel_rfl) (fun _ _ _ h => h) (by kernel_rfl) ?_ (by assumption) ?_
            rotate_left
            · (intro w9 hS9; (try dsimp only at hS9); (try go_split_ands); go_simp <;> with_reducible rfl)
            try simp only [Act.put, List.setIfInBounds_toArray, List.set_cons_zero, List.set_cons_succ]
            refine late_take (i := 8) (v := ?_) rfl (by kernel_rfl) (fun _ _ _ h => h) (by kernel_rfl) ?_ (by assumption) ?_
            rotate_left
            · (intro w9 hS9; (try dsimp only at hS9); (try go_split_ands); go_simp <;> with_reducible rfl)
            try simp only [Act.put, List.setIfInBounds_toArray, List.set_cons_zero, List.set_cons_succ]
            refine late_take (i := 9) (v := ?_) rfl (by kernel_rfl) (fun _ _ _ h => h) (by kernel_rfl) ?_ (by assumption) ?_
            rotate_left
            · (intro w9 hS9; (try dsimp only at hS9); (try go_split_ands); go_simp <;> with_reducible rfl)
            try simp only [Act.put, List.setIfInBounds_toArray, List.set_cons_zero, List.set_cons_succ]
            refine late_take (i := 10) (v := ?_) rfl (by kernel_rfl) (fun _ _ _ h => h) (by kernel_rfl) ?_ (by assumption) ?_
            rotate_left
            · (intro w9 hS9; (try dsimp only at hS9); (try go_split_ands); go_simp <;> with_reducible rfl)
            try simp only [Act.put, List.setIfInBounds_toArray, List.set_cons_zero, List.set_cons_succ]
            refine late_take (i := 11) (v := ?_) rfl (by kernel_rfl) (fun _ _ _ h => h) (by kernel_rfl) ?_ (by assumption) ?_
            rotate_left
            · (intro w9 hS9; (try dsimp only at hS9); (try go_split_ands); go_simp <;> with_reducible rfl)
            try simp only [Act.put, List.setIfInBounds_toArray, List.set_cons_zero, List.set_cons_succ]
            refine late_take (i := 12) (v := ?_) rfl (by kernel_rfl) (fun _ _ _ h => h) (by kernel_rfl) ?_ (by assumption) ?_
            rotate_left
            · (intro w9 hS9; (try dsimp only at hS9); (try go_split_ands); go_simp <;> with_reducible rfl)
            try simp only [Act.put, List.setIfInBounds_toArray, List.set_cons_zero, List.set_cons_succ]
            refine late_take (i := 13) (v := ?_) rfl (by kernel_rfl) (fun _ _ _ h => h) (by kernel_rfl) ?_ (by assumption) ?_
            rotate_left
            · (intro w9 hS9; have q9 := ((HS2.out.grow HB1.out).grow hS9).text (P := Tryd.prog) 32 9 5 Tryd.underlying32 Tryd.underlying5 Tryd.underlying9; go_simp <;> with_reducible rfl)
            try simp only [Act.put, List.setIfInBounds_toArray, List.set_cons_zero, List.set_cons_succ]
            refine late_take (i := 14) (v := ?_) rfl (by kernel_rfl) (fun _ _ _ h => h) (by kernel_rfl) ?_ (by assumption) ?_
            rotate_left
            · (intro w9 hS9; (try dsimp only at hS9); (try go_split_ands); go_simp <;> with_reducible rfl)
            try simp only [Act.put, List.setIfInBounds_toArray, List.set_cons_zero, List.set_cons_succ]
            refine late_one (i := 15) rfl (by kernel_rfl) (fun K9 hK9 => ?_)
            go_simp
            refine hK9.out _ _ (fun _ => ?_) (fun hS9 => ?_)
            · (try dsimp only); exact hS
            replace hS := hS9 (by decide)
            clear hK9 K9 hS9
            try simp only [Act.put, List.setIfInBounds_toArray, List.set_cons_zero, List.set_cons_succ]
            refine late_done (by kernel_rfl) ?_ _
            have HH := hid hh
            try clear hp2
            try clear hp4
            try clear hcut2
            try clear hne
            try clear hh
            try clear hN9
            go_wp2
            refine bodyPost_ret (v := .tuple #[.int .i64 v, .int .i64 3]) (by simp [results, Tryd.results44, go_sem]) rfl ?_
            exact ⟨by rw [E.out.1, E.out.2, HF.out]; rfl, HB1.out.trans (hS.mono HB1.out.size)⟩
        obtain ⟨b3, off3, ea, hck3⟩ := (H.out.grow HBI.out).byte (k + j) (by omega)
        simp only [Option.some.injEq, Addr.mk.injEq, and_true] at ea
        obtain ⟨rfl, rfl⟩ := ea
        obtain ⟨y, hy⟩ : ∃ y : Int, y = bI (xs.drop k) j := ⟨_, rfl⟩
        have hyr := bI_range (xs.drop k) j
        rw [← hy] at hyr
        have hcell : wi.cell? ⟨b, off + (k + j), none⟩ = some (.int .u8 y) := by rw [hck3, hy, bI_drop (by omega)]
        clear hck3
        have hji : (j : Int) < 3 := by omega
        obtain ⟨j2, hj2⟩ : ∃ j2, j = j2 + 1 := ⟨j - 1, by omega⟩
        have hm : rdB (j + 1 - 1) (v * 64 + y - 128) := by
          rw [hj2] at hB ⊢; exact rdB_step hB (by omega) hyr
        have hm2 := rdB_le hm (by omega)
        obtain ⟨m, hmk⟩ : ∃ m : Nat, m = k + j := ⟨_, rfl⟩
        rw [← hmk] at hcell
        have hix3 : (m : Int) < (xs.length : Int) := by omega
        have hix0 : K + (j : Int) = (m : Int) := by omega
        clear hmk hj2
        have ha1 : wrap64 (v * 64) = v * 64 := IntWalk.wrap64_in _ (by omega)
        have ha2 : wrap64 (v * 64 + y) = v * 64 + y := IntWalk.wrap64_in _ (by omega)
        have ha3 : wrap64 (v * 64 + y - 128) = v * 64 + y - 128 := IntWalk.wrap64_in _ (by omega)
        have HF2 : Hid (rdF (xs.drop k) (3 - (j + 1)) (j + 1) (v * 64 + y - 128) = rdVal 3 (xs.drop k)) := hid (by rw [← hF, show 3 - j = (3 - (j + 1)) + 1 by omega, rdF, hy])
        have HM := hid hm
        clear hF hm hB hy
        go_wp2
        exact ⟨⟨j + 1, v * 64 + y - 128, by omega, by omega, by first | rfl | simp, rfl, HM.out, HF2.out, HBI.out⟩, by simp [intOf]; omega⟩
    · have hg : (4 : Int) ≤ (xs.length : Int) - K := by omega
      obtain ⟨p2, bs2, hcut2, _, _, hS2⟩ := H.out.cut_lh 32 Tryd.underlying32 hi hz1 K (K + 4) (by omega) (by omega) (by omega)
      simp only [hKn, show (K + 4).toNat = k + 4 by omega, show k + 4 - k = 4 by omega] at hcut2 hS2
      have hlist : (xs.take (k + 4)).drop k = (xs.drop k).take 4 := by rw [List.drop_take]; congr 1; omega
      rw [hlist] at hS2
      have HP2 := hid (show wrap64 (K + 4) = K + 4 from IntWalk.wrap64_in _ (by omega))
      have HP4 := hid (show IntKind.i64.wrap (K + 4) = K + 4 from wrapI (by omega))
      have hck9 : wr.cell? ⟨b, off + k, none⟩ = some (.int .u8 c) := (HB.out.cell (World.block_lt_of_cell? w _ hck)).trans hck
      have hw5 : wrap64 (c - 240) = c - 240 := IntWalk.wrap64_in _ (by omega)
      have hw6 : IntKind.i64.wrap (c - 240) = c - 240 := wrapI (by omega)
      have HS2 := hid hS2; clear hS2 hlist
      go_wp2_with fail
      go_loopw [7, 8] (fun r i wi => ∃ (j : Nat) (v : Int), 1 ≤ j ∧ j ≤ 4 ∧ i = .int .i64 (j : Int) ∧ r = .int .i64 v ∧ rdB (j - 1) v ∧ rdF (xs.drop k) (4 - j) j v = rdVal 4 (xs.drop k) ∧ Below w.heap.size w wi) (fun _ i _ => 4 - (intOf i).toNat)
      case atStart => exact ⟨1, c - 240, by omega, by omega, rfl, rfl, by unfold rdB; omega, by rw [rdVal, HX0.out]; rfl, by first | exact HB.out | exact HB.out.alloc HB.out.size _⟩
      case round =>
        rename World => wi
        obtain ⟨j, v, hj1, hj, rfl, rfl, hB, hF, hbi⟩ := hrel
        have hv := rdB_le hB (by omega)
        have HBI := hid hbi; clear hbi
        by_cases hlt : j < 4
        rotate_left
        · obtain rfl : j = 4 := by omega
          have hF2 : v = rdVal 4 (xs.drop k) := hF
          have HF := hid hF2; clear hF hF2 hB
          go_wp2_with fail
          refine (s_RuneBytes v (by unfold I64; omega) _).mono ?_
          rintro e w1 ⟨v1, b1, rfl, hO1, hst⟩
          obtain ⟨a1, c1, b1x, rfl, _, hS1⟩ := hO1.slc
          have HB1 := hid (HBI.out.trans (hst.mono HBI.out.size))
          have hcv1 := hS1.text (P := Tryd.prog) 32 9 5 Tryd.underlying32 Tryd.underlying5 Tryd.underlying9
          have hcv2 := (HS2.out.grow HB1.out).text (P := Tryd.prog) 32 9 5 Tryd.underlying32 Tryd.underlying5 Tryd.underlying9
          clear hO1 hst
          have HSx := hid hS1; clear hS1
          by_cases hlen : (runeBytes v).length = 4
          rotate_left
          · have hleq : (((runeBytes v).length : Int) == 4) = false := by rw [beq_eq_false_iff_ne]; omega
            have hh : rdHit 4 (xs.drop k) = false := by
              rw [rdHit, ← HF.out, beq_eq_false_iff_ne]; intro e; apply hlen; rw [e, List.length_take, HDL.out]; omega
            clear hcv1 hcv2 hcut2
            have hp2 := HP2.out; have hp4 := HP4.out
            go_upto_region 14 with fail
            go_quiet (fail)
            go_wp2
            exact ⟨⟨4 + 1, by omega, by omega, by omega, by first | rfl | simp, rd_next hN (by first | exact hh | exact HH.out), ⟨HB1.out.os, HB1.out.tape, HB1.out.output, HB1.out.size, HB1.out.block⟩⟩, by simp [intOf]⟩
          have hleq : (((runeBytes v).length : Int) == 4) = true := by rw [beq_iff_eq]; omega
          clear hcv1 hcv2
          rw [hlen] at HSx ⊢
          cases hh : rdHit 4 (xs.drop k)
          · have hne := hh; rw [rdHit, ← HF.out, beq_eq_false_iff_ne] at hne
            have hne5 := hh; rw [rdHit, ← HF.out] at hne5
            have hp2 := HP2.out; have hp4 := HP4.out
            go_upto_region 14 with fail
            go_wp2_with fail
            refine late_start (fun W => Below w1.heap.size w1 W) 99 (by kernel_rfl) ?_ (fun hS => ?_)
            · exact (Below.refl _ _).drew
            refine late_genw (fun U0 hU => ?_)
            rw [← hU] at hS
            clear hU
            refine late_take (i := 0) (v := ?_) rfl (by kernel_rfl) (fun _ _ _ h => h) (by kernel_rfl) ?_ (by assumption) ?_
            rotate_left
            · (intro w9 hS9; (try dsimp only at hS9); (try go_split_ands); go_simp <;> with_reducible rfl)
            try simp only [Act.put, List.setIfInBounds_toArray, List.set_cons_zero, List.set_cons_succ]
            refine late_take (i := 1) (v := ?_) rfl (by kernel_rfl) (fun _ _ _ h => h) (by kernel_rfl) ?_ (by assumption) ?_
            rotate_left
            · (intro w9 hS9; (try dsimp only at hS9); (try go_split_ands); go_simp <;> with_reducible rfl)
            try simp only [Act.put, List.setIfInBounds_toArray, List.set_cons_zero, List.set_cons_succ]
            refine late_take (i := 2) (v := ?_) rfl (by kernel_rfl) (fun _ _ _ h => h) (by kernel_rfl) ?_ (by assumption) ?_
            rotate_left
            · (intro w9 hS9; (try dsimp only at hS9); (try go_split_ands); go_simp <;> with_reducible rfl)
            try simp only [Act.put, List.setIfInBounds_toArray, List.set_cons_zero, List.set_cons_succ]
            refine late_take (i := 3) (v := ?_) rfl (by kernel_rfl) (fun _ _ _ h => h) (by kernel_rfl) ?_ (by assumption) ?_
            rotate_left
            · (intro w9 hS9; (try dsimp only at hS9); (try go_split_ands); go_simp <;> with_reducible rfl)
            try simp only [Act.put, List.setIfInBounds_toArray, List.set_cons_zero, List.set_cons_succ]
            refine late_take (i := 4) (v := ?_) rfl (by kernel_rfl) (fun _ _ _ h => h) (by kernel_rfl) ?_ (by assumption) ?_
            rotate_left
            · (intro w9 hS9; (try dsimp only at hS9); (try go_split_ands); go_simp <;> with_reducible rfl)
            try simp only [Act.put, List.setIfInBounds_toArray, List.set_cons_zero, List.set_cons_succ]
            refine late_take (i := 5) (v := ?_) rfl (by kernel_rfl) (fun _ _ _ h => h) (by kernel_rfl) ?_ (by assumption) ?_
            rotate_left
            · (intro w9 hS9; (try dsimp only at hS9); (try go_split_ands); go_simp <;> with_reducible rfl)
            try simp only [Act.put, List.setIfInBounds_toArray, List.set_cons_zero, List.set_cons_succ]
            refine late_take (i := 6) (v := ?_) rfl (by kernel_rfl) (fun _ _ _ h => h) (by kernel_rfl) ?_ (by assumption) ?_
            rotate_left
            · (intro w9 hS9; have q9 := (HSx.out.grow hS9).text (P := Tryd.prog) 32 9 5 Tryd.underlying32 Tryd.underlying5 Tryd.underlying9; go_simp <;> with_reducible rfl)
            try simp only [Act.put, List.setIfInBounds_toArray, List.set_cons_zero, List.set_cons_succ]
            refine late_take (i := 7) (v := ?_) rfl (by kernel_rfl) (fun _ _ _ h => h) (by kernel_rfl) ?_ (by assumption) ?_
            rotate_left
            · (intro w9 hS9; (try dsimp only at hS9); (try go_split_ands); go_simp <;> with_reducible rfl)
            try simp only [Act.put, List.setIfInBounds_toArray, List.set_cons_zero, List.set_cons_succ]
            refine late_take (i := 8) (v := ?_) rfl (by kernel_rfl) (fun _ _ _ h => h) (by kernel_rfl) ?_ (by assumption) ?_
            rotate_left
            · (intro w9 hS9; (try dsimp only at hS9); (try go_split_ands); go_simp <;> with_reducible rfl)
            try simp only [Act.put, List.setIfInBounds_toArray, List.set_cons_zero, List.set_cons_succ]
            refine late_take (i := 9) (v := ?_) rfl (by kernel_rfl) (fun _ _ _ h => h) (by kernel_rfl) ?_ (by assumption) ?_
            rotate_left
            · (intro w9 hS9; (try dsimp only at hS9); (try go_split_ands); go_simp <;> with_reducible rfl)
            try simp only [Act.put, List.setIfInBounds_toArray, List.set_cons_zero, List.set_cons_succ]
            refine late_take (i := 10) (v := ?_) rfl (by kernel_rfl) (fun _ _ _ h => h) (by kernel_rfl) ?_ (by assumption) ?_
            rotate_left
            · (intro w9 hS9; (try dsimp only at hS9); (try go_split_ands); go_simp <;> with_reducible rfl)
            try simp only [Act.put, List.setIfInBounds_toArray, List.set_cons_zero, List.set_cons_succ]
            refine late_take (i := 11) (v := ?_) rfl (by kernel_rfl) (fun _ _ _ h => h) (by kernel_rfl) ?_ (by assumption) ?_
            rotate_left
            · (intro w9 hS9; (try dsimp only at hS9); (try go_split_ands); go_simp <;> with_reducible rfl)
            try simp only [Act.put, List.setIfInBounds_toArray, List.set_cons_zero, List.set_cons_succ]
            refine late_take (i := 12) (v := ?_) rfl (by kernel_rfl) (fun _ _ _ h => h) (by kernel_rfl) ?_ (by assumption) ?_
            rotate_left
            · (intro w9 hS9; (try dsimp only at hS9); (try go_split_ands); go_simp <;> with_reducible rfl)
            try simp only [Act.put, List.setIfInBounds_toArray, List.set_cons_zero, List.set_cons_succ]
            refine late_take (i := 13) (v := ?_) rfl (by kernel_rfl) (fun _ _ _ h => h) (by kernel_rfl) ?_ (by assumption) ?_
            rotate_left
            · (intro w9 hS9; have q9 := ((HS2.out.grow HB1.out).grow hS9).text (P := Tryd.prog) 32 9 5 Tryd.underlying32 Tryd.underlying5 Tryd.underlying9; go_simp <;> with_reducible rfl)
            try simp only [Act.put, List.setIfInBounds_toArray, List.set_cons_zero, List.set_cons_succ]
            refine late_take (i := 14) (v := ?_) rfl (by kernel_rfl) (fun _ _ _ h => h) (by kernel_rfl) ?_ (by assumption) ?_
            rotate_left
            · (intro w9 hS9; (try dsimp only at hS9); (try go_split_ands); go_simp <;> with_reducible rfl)
            try simp only [Act.put, List.setIfInBounds_toArray, List.set_cons_zero, List.set_cons_succ]
            refine late_one (i := 15) rfl (by kernel_rfl) (fun K9 hK9 => ?_)
            go_simp
            refine hK9.out _ _ (fun _ => ?_) (fun hS9 => ?_)
            · (try dsimp only); exact hS
            replace hS := hS9 (by decide)
            clear hK9 K9 hS9
            try simp only [Act.put, List.setIfInBounds_toArray, List.set_cons_zero, List.set_cons_succ]
            refine late_done (by kernel_rfl) ?_ _
            have HH := hid hh
            try clear hp2
            try clear hp4
            try clear hcut2
            try clear hne
            try clear hh
            try clear hN9
            go_wp2
            exact ⟨⟨4 + 1, by omega, by omega, by omega, by first | rfl | simp, rd_next hN (by first | exact hh | exact HH.out), HB1.out.trans (hS.mono HB1.out.size)⟩, by simp [intOf]⟩
          · have hne := hh; rw [rdHit, ← HF.out, beq_iff_eq] at hne
            have E := hid (rd_hit (rd_key (by omega) (by rw [HDL.out]; omega) hh) (by omega) (by rw [HDL.out]; omega) hh)
            rw [hne] at HSx
            have hp2 := HP2.out; have hp4 := HP4.out
            go_upto_region 14 with fail
            go_wp2_with fail
            refine late_start (fun W => Below w1.heap.size w1 W) 99 (by kernel_rfl) ?_ (fun hS => ?_)
            · exact (Below.refl _ _).drew
            refine late_genw (fun U0 hU => ?_)
            rw [← hU] at hS
            clear hU
            refine late_take (i := 0) (v := ?_) rfl (by kernel_rfl) (fun _ _ _ h => h) (by kernel_rfl) ?_ (by assumption) ?_
            rotate_left
            · (intro w9 hS9; (try dsimp only at hS9); (try go_split_ands); go_simp <;> with_reducible rfl)
            try simp only [Act.put, List.setIfInBounds_toArray, List.set_cons_zero, List.set_cons_succ]
            refine late_take (i := 1) (v := ?_) rfl (by kernel_rfl) (fun _ _ _ h => h) (by kernel_rfl) ?_ (by assumption) ?_
            rotate_left
            · (intro w9 hS9; (try dsimp only at hS9); (try go_split_ands); go_simp <;> with_reducible rfl)
            try simp only [Act.put, List.setIfInBounds_toArray, List.set_cons_zero, List.set_cons_succ]
            refine late_take (i := 2) (v := ?_) rfl (by kernel_rfl) (fun _ _ _ h => h) (by kernel_rfl) ?_ (by assumption) ?_
            rotate_left
            · (intro w9 hS9; (try dsimp only at hS9); (try go_split_ands); go_simp <;> with_reducible rfl)
            try simp only [Act.put, List.setIfInBounds_toArray, List.set_cons_zero, List.set_cons_succ]
            refine late_take (i := 3) (v := ?_) rfl (by kernel_rfl) (fun _ _ _ h => h) (by kernel_rfl) ?_ (by assumption) ?_
            rotate_left
            · (intro w9 hS9; (try dsimp only at hS9); (try go_split_ands); go_simp <;> with_reducible rfl)
            try simp only [Act.put, List.setIfInBounds_toArray, List.set_cons_zero, List.set_cons_succ]
            refine late_take (i := 4) (v := ?_) rfl (by kernel_rfl) (fun _ _ _ h => h) (by kernel_rfl) ?_ (by assumption) ?_
            rotate_left
            · (intro w9 hS9; (try dsimp only at hS9); (try go_split_ands); go_simp <;> with_reducible rfl)
            try simp only [Act.put, List.setIfInBounds_toArray, List.set_cons_zero, List.set_cons_succ]
            refine late_take (i := 5) (v := ?_) rfl (by kernel_rfl) (fun _ _ _ h => h) (by kernel_rfl) ?_ (by assumption) ?_
            rotate_left
            · (intro w9 hS9; (try dsimp only at hS9); (try go_split_ands); go_simp <;> with_reducible rfl)
            try simp only [Act.put, List.setIfInBounds_toArray, List.set_cons_zero, List.set_cons_succ]
            refine late_take (i := 6) (v := ?_) rfl (by kernel_rfl) (fun _ _ _ h => h) (by kernel_rfl) ?_ (by assumption) ?_
            rotate_left
            · (intro w9 hS9; have q9 := (HSx.out.grow hS9).text (P := Tryd.prog) 32 9 5 Tryd.underlying32 Tryd.underlying5 Tryd.underlying9; go_simp <;> with_reducible rfl)
            try simp only [Act.put, List.setIfInBounds_toArray, List.set_cons_zero, List.set_cons_succ]
            refine late_take (i := 7) (v := ?_) rfl (by kernel_rfl) (fun _ _ _ h => h) (by kernel_rfl) ?_ (by assumption) ?_
            rotate_left
            · (intro w9 hS9; (try dsimp only at hS9); (try go_split_ands); go_simp <;> with_reducible rfl)
            try simp only [Act.put, List.setIfInBounds_toArray, List.set_cons_zero, List.set_cons_succ]
            refine late_take (i := 8) (v := ?_) rfl (by kernel_rfl) (fun _ _ _ h => h) (by kernel_rfl) ?_ (by assumption) ?_
            rotate_left
            · (intro w9 hS9; (try dsimp only at hS9); (try go_split_ands); go_simp <;> with_reducible rfl)
            try simp only [Act.put, List.setIfInBounds_toArray, List.set_cons_zero, List.set_cons_succ]
            refine late_take (i := 9) (v := ?_) rfl (by kernel_rfl) (fun _ _ _ h => h) (by kernel_rfl) ?_ (by assumption) ?_
            rotate_left
            · (intro w9 hS9; (try dsimp only at hS9); (try go_split_ands); go_simp <;> with_reducible rfl)
            try simp only [Act.put, List.setIfInBounds_toArray, List.set_cons_zero, List.set_cons_succ]
            refine late_take (i := 10) (v := ?_) rfl (by kernel_rfl) (fun _ _ _ h => h) (by kernel_rfl) ?_ (by assumption) ?_
            rotate_left
            · (intro w9 hS9; (try dsimp only at hS9); (try go_split_ands); go_simp <;> with_reducible rfl)
            try simp only [Act.put, List.setIfInBounds_toArray, List.set_cons_zero, List.set_cons_succ]
            refine late_take (i := 11) (v := ?_) rfl (by kernel_rfl) (fun _ _ _ h => h) (by kernel_rfl) ?_ (by assumption) ?_
            rotate_left
            · (intro w9 hS9; (try dsimp only at hS9); (try go_split_ands); go_simp <;> with_reducible rfl)
            try simp only [Act.put, List.setIfInBounds_toArray, List.set_cons_zero, List.set_cons_succ]
            refine late_take (i := 12) (v := ?_) rfl (by kernel_rfl) (fun _ _ _ h => h) (by kernel_rfl) ?_ (by assumption) ?_
            rotate_left
            · (intro w9 hS9; (try dsimp only at hS9); (try go_split_ands); go_simp <;> with_reducible rfl)
            try simp only [Act.put, List.setIfInBounds_toArray, List.set_cons_zero, List.set_cons_succ]
            refine late_take (i := 13) (v := ?_) rfl (by kernel_rfl) (fun _ _ _ h => h) (by kernel_rfl) ?_ (by assumption) ?_
            rotate_left
            · (intro w9 hS9; have q9 := ((HS2.out.grow HB1.out).grow hS9).text (P := Tryd.prog) 32 9 5 Tryd.underlying32 Tryd.underlying5 Tryd.underlying9; go_simp <;> with_reducible rfl)
            try simp only [Act.put, List.setIfInBounds_toArray, List.set_cons_zero, List.set_cons_succ]
            refine late_take (i := 14) (v := ?_) rfl (by kernel_rfl) (fun _ _ _ h => h) (by kernel_rfl) ?_ (by assumption) ?_
            rotate_left
            · (intro w9 hS9; (try dsimp only at hS9); (try go_split_ands); go_simp <;> with_reducible rfl)
            try simp only [Act.put, List.setIfInBounds_toArray, List.set_cons_zero, List.set_cons_succ]
            refine late_one (i := 15) rfl (by kernel_rfl) (fun K9 hK9 => ?_)
            go_simp
            refine hK9.out _ _ (fun _ => ?_) (fun hS9 => ?_)
            · (try dsimp only); exact hS
            replace hS := hS9 (by decide)
            clear hK9 K9 hS9
            try simp only [Act.put, List.setIfInBounds_toArray, List.set_cons_zero, List.set_cons_succ]
            refine late_done (by kernel_rfl) ?_ _
            have HH := hid hh
            try clear hp2
            try clear hp4
            try clear hcut2
            try clear hne
            try clear hh
            try clear hN9
            go_wp2
            refine bodyPost_ret (v := .tuple #[.int .i64 v, .int .i64 4]) (by simp [results, Tryd.results44, go_sem]) rfl ?_
            exact ⟨by rw [E.out.1, E.out.2, HF.out]; rfl, HB1.out.trans (hS.mono HB1.out.size)⟩
        obtain ⟨b3, off3, ea, hck3⟩ := (H.out.grow HBI.out).byte (k + j) (by omega)
        simp only [Option.some.injEq, Addr.mk.injEq, and_true] at ea
        obtain ⟨rfl, rfl⟩ := ea
        obtain ⟨y, hy⟩ : ∃ y : Int, y = bI (xs.drop k) j := ⟨_, rfl⟩
        have hyr := bI_range (xs.drop k) j
        rw [← hy] at hyr
        have hcell : wi.cell? ⟨b, off + (k + j), none⟩ = some (.int .u8 y) := by rw [hck3, hy, bI_drop (by omega)]
        clear hck3
        have hji : (j : Int) < 4 := by omega
        obtain ⟨j2, hj2⟩ : ∃ j2, j = j2 + 1 := ⟨j - 1, by omega⟩
        have hm : rdB (j + 1 - 1) (v * 64 + y - 128) := by
          rw [hj2] at hB ⊢; exact rdB_step hB (by omega) hyr
        have hm2 := rdB_le hm (by omega)
        obtain ⟨m, hmk⟩ : ∃ m : Nat, m = k + j := ⟨_, rfl⟩
        rw [← hmk] at hcell
        have hix3 : (m : Int) < (xs.length : Int) := by omega
        have hix0 : K + (j : Int) = (m : Int) := by omega
        clear hmk hj2
        have ha1 : wrap64 (v * 64) = v * 64 := IntWalk.wrap64_in _ (by omega)
        have ha2 : wrap64 (v * 64 + y) = v * 64 + y := IntWalk.wrap64_in _ (by omega)
        have ha3 : wrap64 (v * 64 + y - 128) = v * 64 + y - 128 := IntWalk.wrap64_in _ (by omega)
        have HF2 : Hid (rdF (xs.drop k) (4 - (j + 1)) (j + 1) (v * 64 + y - 128) = rdVal 4 (xs.drop k)) := hid (by rw [← hF, show 4 - j = (4 - (j + 1)) + 1 by omega, rdF, hy])
        have HM := hid hm
        clear hF hm hB hy
        go_wp2
        exact ⟨⟨j + 1, v * 64 + y - 128, by omega, by omega, by first | rfl | simp, rfl, HM.out, HF2.out, HBI.out⟩, by simp [intOf]; omega⟩
end Go.Proofs.YtgcdgkiefbbhkaaDoor
