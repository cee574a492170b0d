/- TrialFair: the program's walk (printed by genfair.py). -/
import Derived.Test.YtgcdgkiefbbhkaaFair
import Derived.Test.YtgcdgkiefbbhkaaLate
import Derived.Test.YtgcdgkiefbbhkaaHelpD
import Derived.Deep.DeepCutAuto
import Derived.Lib.MinMax
set_option linter.unusedSimpArgs false
set_option linter.unusedVariables false
namespace Go.Proofs.Ytgcdgkiefbbhkaa
open Go.RowKit Go.G6
set_option maxHeartbeats 6000000
set_option maxRecDepth 10000
theorem i_TrialFair {w : World} {bs : List Nat} {cs : List Value} {d : TrialD} (h : Rep.pt w bs cs d) :
    Calls Try.prog 10 #[.agg cs.toArray] w fun e w' => e = .returned (.bool (trialFair d)) ∧ Below w.heap.size w w' := by
  obtain ⟨b6, b7, b8, b11, b16, b17, b18, b19, b20, a6, l6, k6, a7, l7, k7, a8, l8, k8, a11, l11, k11, a16, l16, k16, a17, l17, k17, a18, l18, k18, a19, l19, k19, a20, l20, k20, rfl, rfl, h1, h2, h3, h4, h5, h6, h7, h8, h9, h10, h11, h12, h13, h14, h15, h16, h17, h18, h19, h20⟩ := open_Trial h
  obtain rfl := h11.len_eq
  obtain rfl := h19.len_eq
  have m1 := h11.max; have m2 := h19.max
  have HE := hid h11; have HS := hid h19
  have hKI : I64 d.Keep := h1
  unfold I64 at hKI
  clear h1 h2 h3 h4 h5 h6 h7 h8 h9 h10 h11 h12 h13 h14 h15 h16 h17 h18 h19 h20 h
  have HB := hid (show Below w.heap.size w (w.alloc (.cells #[.bool d.Up, .int .i64 d.Keep, .int .i64 d.Size, .int .i64 d.Store.Disk.Room, .int .i64 d.Store.Disk.Fuse, .int .i64 d.Store.Disk.Next, .slice a6 l6 k6, .slice a7 l7 k7, .slice a8 l8 k8, .int .i64 d.Store.Keep, .int .i64 d.Store.Size, .slice a11 d.Store.Ents.length k11, .int .i64 d.Store.Len, .int .i64 d.Disk.Room, .int .i64 d.Disk.Fuse, .int .i64 d.Disk.Next, .slice a16 l16 k16, .slice a17 l17 k17, .slice a18 l18 k18, .slice a19 d.Sure.length k19, .slice a20 l20 k20] 43)) from (Below.refl _ _).alloc (Nat.le_refl _) _)
  have HX := hid (show Bx (w.alloc (.cells #[.bool d.Up, .int .i64 d.Keep, .int .i64 d.Size, .int .i64 d.Store.Disk.Room, .int .i64 d.Store.Disk.Fuse, .int .i64 d.Store.Disk.Next, .slice a6 l6 k6, .slice a7 l7 k7, .slice a8 l8 k8, .int .i64 d.Store.Keep, .int .i64 d.Store.Size, .slice a11 d.Store.Ents.length k11, .int .i64 d.Store.Len, .int .i64 d.Disk.Room, .int .i64 d.Disk.Fuse, .int .i64 d.Disk.Next, .slice a16 l16 k16, .slice a17 l17 k17, .slice a18 l18 k18, .slice a19 d.Sure.length k19, .slice a20 l20 k20] 43)) w.heap.size #[.bool d.Up, .int .i64 d.Keep, .int .i64 d.Size, .int .i64 d.Store.Disk.Room, .int .i64 d.Store.Disk.Fuse, .int .i64 d.Store.Disk.Next, .slice a6 l6 k6, .slice a7 l7 k7, .slice a8 l8 k8, .int .i64 d.Store.Keep, .int .i64 d.Store.Size, .slice a11 d.Store.Ents.length k11, .int .i64 d.Store.Len, .int .i64 d.Disk.Room, .int .i64 d.Disk.Fuse, .int .i64 d.Disk.Next, .slice a16 l16 k16, .slice a17 l17 k17, .slice a18 l18 k18, .slice a19 d.Sure.length k19, .slice a20 l20 k20] from Bx.new _ _ _ rfl)
  cases hu : d.Up
  · have E := hid (show trialFair d = true by unfold trialFair; rw [hu]; rfl)
    go_enter Try.func10, Try.ntmps10
    go_wp2
    go_ret
    exact ⟨ret_bool (by rw [E.out]), (Below.refl _ _).alloc (Nat.le_refl _) _⟩
  rw [hu] at HX HB
  have E0 := hid (show trialFair d = (decide (d.Store.Ents.length ≤ d.Sure.length) && (sameE d.Store.Ents (d.Sure.drop (d.Sure.length - d.Store.Ents.length)) && (decide (d.Store.Ents.length = d.Sure.length) || decide (d.Keep ≤ (d.Store.Ents.length : Int))))) by unfold trialFair; rw [hu]; rfl)
  clear hu
  go_enter Try.func10, Try.ntmps10
  go_upto_region 1 with fail
  refine late_genw (fun w1 hw1 => ?_)
  rw [← hw1] at HB HX
  clear hw1
  by_cases hSL : d.Sure.length < d.Store.Ents.length
  · have E := hid (show trialFair d = false by rw [E0.out, decide_eq_false (by omega)]; rfl)
    have h1 : (d.Sure.length : Int) - (d.Store.Ents.length : Int) < 0 := by omega
    have x := HX.out.out
    go_wp2
    go_ret
    exact ⟨ret_bool (by rw [E.out]), HB.out⟩
  by_cases hC : d.Store.Ents.length < d.Sure.length ∧ (d.Store.Ents.length : Int) < d.Keep
  · obtain ⟨hc1, hc2⟩ := hC
    have E := hid (show trialFair d = false by rw [E0.out, decide_eq_false (p := d.Store.Ents.length = d.Sure.length) (by omega), decide_eq_false (p := d.Keep ≤ (d.Store.Ents.length : Int)) (by omega)]; simp)
    have h1 : ¬ (d.Sure.length : Int) - (d.Store.Ents.length : Int) < 0 := by omega
    have h2 : 0 < (d.Sure.length : Int) - (d.Store.Ents.length : Int) := by omega
    have x := HX.out.out
    go_wp2
    go_ret
    exact ⟨ret_bool (by rw [E.out]), HB.out⟩
  have E1 := hid (show trialFair d = sameE d.Store.Ents (d.Sure.drop (d.Sure.length - d.Store.Ents.length)) by
    rw [E0.out, decide_eq_true (p := d.Store.Ents.length ≤ d.Sure.length) (by omega)]
    have : (decide (d.Store.Ents.length = d.Sure.length) || decide (d.Keep ≤ (d.Store.Ents.length : Int))) = true := by
      simp only [Bool.or_eq_true, decide_eq_true_eq]; omega
    rw [this]; simp)
  obtain ⟨n, hn⟩ : ∃ n : Nat, d.Sure.length = n + d.Store.Ents.length := ⟨d.Sure.length - d.Store.Ents.length, by omega⟩
  have hdl : (d.Sure.drop (d.Sure.length - d.Store.Ents.length)).length = d.Store.Ents.length := by rw [List.length_drop]; omega
  obtain ⟨f, hf⟩ : ∃ f : Nat → Bool, f = fun k => entEq (d.Store.Ents.getD k zEnt) ((d.Sure.drop (d.Sure.length - d.Store.Ents.length)).getD k zEnt) := ⟨_, rfl⟩
  have H0 := hid (show trialFair d = allB f d.Store.Ents.length 0 by rw [E1.out, sameE, decide_eq_true hdl.symm, hf]; rfl)
  have HF := hid (show ∀ k (h1 : k < d.Store.Ents.length) (h2 : n + k < d.Sure.length), f k = entEq d.Store.Ents[k] d.Sure[n + k] by
    intro k h1 h2
    rw [hf, show d.Sure.length - d.Store.Ents.length = n by omega]
    simp [List.getD, List.getElem?_drop, h1, h2])
  clear hf hdl E0 E1
  have HN := hid hn
  have hni : (d.Sure.length : Int) - (d.Store.Ents.length : Int) = (n : Int) := by omega
  have hnb : (n : Int) + (d.Store.Ents.length : Int) ≤ 9223372036854775807 := by omega
  have x := HX.out.out
  clear hn
  go_upto_region 4 with fail
  clear x
  go_cut [31] (fun v W => v = .bool false ∧ W = w1)
  case first =>
    have x := HX.out.out
    have hn := HN.out
    have h1 : ¬ (n : Int) < 0 := by omega
    have h3 : n ≠ 0 → ¬ (d.Store.Ents.length : Int) < d.Keep := by intro hz; omega
    clear hn hC hSL
    by_cases hz : n = 0
    · subst hz
      clear h3
      go_wp2
      go_meet
      exact ⟨rfl, rfl⟩
    · have h2 : 0 < (n : Int) := by omega
      replace h3 := h3 hz
      clear hz
      go_wp2
      go_meet
      exact ⟨rfl, rfl⟩
  case rest =>
    obtain ⟨rfl, rfl⟩ := hcut
    clear hC hSL
    have x := HX.out.out
    go_wp2_with fail
    clear x
    go_loopw [36] (fun v wr => ∃ k : Nat, k ≤ d.Store.Ents.length ∧ v = .int .i64 (k : Int) ∧ trialFair d = allB f (d.Store.Ents.length - k) k ∧ Bx wr w.heap.size #[.bool true, .int .i64 d.Keep, .int .i64 d.Size, .int .i64 d.Store.Disk.Room, .int .i64 d.Store.Disk.Fuse, .int .i64 d.Store.Disk.Next, .slice a6 l6 k6, .slice a7 l7 k7, .slice a8 l8 k8, .int .i64 d.Store.Keep, .int .i64 d.Store.Size, .slice a11 d.Store.Ents.length k11, .int .i64 d.Store.Len, .int .i64 d.Disk.Room, .int .i64 d.Disk.Fuse, .int .i64 d.Disk.Next, .slice a16 l16 k16, .slice a17 l17 k17, .slice a18 l18 k18, .slice a19 d.Sure.length k19, .slice a20 l20 k20] ∧ Below w.heap.size w wr) (fun v _ => d.Store.Ents.length - (intOf v).toNat)
    case atStart => exact ⟨0, Nat.zero_le _, rfl, H0.out, HX.out, HB.out⟩
    case round =>
      obtain ⟨k, hk, rfl, hr, hX, hb⟩ := hrel
      have HR := hid hr; have HXr := hid hX; have HBr := hid hb
      have hwr := hX.f.lt
      clear hr hX HX HB H0
      by_cases hlt : k < d.Store.Ents.length
      rotate_left
      · have E := hid (show trialFair d = true by rw [HR.out, show d.Store.Ents.length - k = 0 by omega]; rfl)
        have hki : ¬ (k : Int) < (d.Store.Ents.length : Int) := by omega
        clear hlt hk
        go_wp2
        go_ret
        exact ⟨ret_bool (by rw [E.out]), HBr.out⟩
      have hks : n + k < d.Sure.length := by have := HN.out; omega
      obtain ⟨b1, o1, cs1, _, e1, _, hp1, _, hA1⟩ := (HE.out.grow hb).elem k hlt
      obtain ⟨b2, o2, cs2, _, e2, _, hp2, _, hA2⟩ := (HS.out.grow hb).elem (n + k) hks
      obtain ⟨_, rfl, q1, q2⟩ := open_Entry hp1
      obtain ⟨_, rfl, q3, q4⟩ := open_Entry hp2
      subst e1
      subst e2
      have c0 : wr.cell? ⟨b1, o1 + k * 2, none⟩ = some _ := hA1 0 _ rfl
      have c1 : wr.cell? ⟨b1, o1 + k * 2 + 1, none⟩ = some _ := hA1 1 _ rfl
      have c2 : wr.cell? ⟨b2, o2 + (n + k) * 2, none⟩ = some _ := hA2 0 _ rfl
      have c3 : wr.cell? ⟨b2, o2 + (n + k) * 2 + 1, none⟩ = some _ := hA2 1 _ rfl
      have hst := show allB f (d.Store.Ents.length - k) k = (f k && allB f (d.Store.Ents.length - (k + 1)) (k + 1)) by rw [show d.Store.Ents.length - k = (d.Store.Ents.length - (k + 1)) + 1 by omega]; rfl
      rw [HF.out k hlt hks] at hst
      have HST := hid hst
      have hki : (k : Int) < (d.Store.Ents.length : Int) := by omega
      have hki2 : (n : Int) + (k : Int) < (d.Sure.length : Int) := by omega
      clear hst hA1 hA2 hp1 hp2 hb q1 q2 q3 q4
      obtain ⟨x, hx⟩ : ∃ x, x = d.Store.Ents[k] := ⟨_, rfl⟩
      obtain ⟨y, hy⟩ : ∃ y, y = d.Sure[n + k] := ⟨_, rfl⟩
      rw [← hx] at HST c0 c1
      rw [← hy] at HST c2 c3
      clear hx hy
      have xb := HXr.out.out
      go_upto_region 9 with fail
      refine late_genw (fun w2 hw2 => ?_)
      clear xb
      have hbb : Below wr.heap.size wr w2 := by rw [hw2]; exact (Below.refl _ _).alloc (Nat.le_refl _) _
      have HX2 := hid (Bx.below hbb hwr HXr.out)
      have HB2 := hid (HBr.out.trans (hbb.mono HBr.out.size))
      have X5 := hid (show Bx w2 wr.heap.size #[.int .i64 x.Num, .string x.Text] by rw [hw2]; exact Bx.new _ _ _ rfl)
      replace c2 := (hbb.cell (World.block_lt_of_cell? wr _ c2)).trans c2
      replace c3 := (hbb.cell (World.block_lt_of_cell? wr _ c3)).trans c3
      clear hw2 hbb HXr HBr c0 c1
      have xb := HX2.out.out; have x5 := X5.out.out
      have hidx : ((n : Int) + (k : Int)).toNat = n + k := by omega
      cases hn : (y.Num == x.Num)
      · have E := hid (show trialFair d = false by rw [HR.out, HST.out, entEq, decide_eq_false (by rw [beq_eq_false_iff_ne] at hn; exact fun h => hn h.symm)]; rfl)
        go_wp2_with fail
        go_quiet (fail)
        go_wp2
        go_ret
        exact ⟨ret_bool (by rw [E.out]), HB2.out.drewN _⟩
      have hnn : x.Num = y.Num := by rw [beq_iff_eq] at hn; exact hn.symm
      cases ht : (y.Text.toList == x.Text.toList)
      · have ht2 := entText ht
        rw [BEq.comm] at ht2
        have E := hid (show trialFair d = false by rw [HR.out, HST.out, entEq, ht2, Bool.and_false]; rfl)
        clear hnn ht2
        go_wp2_with fail
        go_quiet (fail)
        go_wp2
        go_ret
        exact ⟨ret_bool (by rw [E.out]), HB2.out.drewN _⟩
      · have ht2 := entText ht
        rw [BEq.comm] at ht2
        have E := hid (show trialFair d = allB f (d.Store.Ents.length - (k + 1)) (k + 1) by rw [HR.out, HST.out, entEq, ht2, decide_eq_true hnn]; rfl)
        clear hnn ht2
        go_wp2_with fail
        go_quiet (fail)
        go_wp2
        exact ⟨⟨k + 1, by omega, rfl, E.out, HX2.out.drewN _, HB2.out.drewN _⟩, by simp [intOf]; omega⟩
end Go.Proofs.Ytgcdgkiefbbhkaa
