/- Two runes exchanged, by the program. -/
import Derived.Test.YtdfpjchneofndaaSwapD
set_option linter.unusedSimpArgs false
set_option linter.unusedVariables false
namespace Go.Proofs.Ytdfpjchneofndaa
open Go.RowKit Go.G6
set_option maxHeartbeats 3000000
set_option maxRecDepth 10000
theorem i_LineSwap {w : World} {bs : List Nat} {cs : List Value} {d : LineD} (h : Rep.pt w bs cs d) :
    Calls Try.prog 65 #[.agg cs.toArray] w (RetAB w (lineSwap d) (.bool (lineSwapOk d))) := by
  have H := hid h
  obtain ⟨a0, l0, k0, rfl, h0, h1⟩ := open_Line h
  obtain rfl := h0.len_eq
  have hmx := h0.max
  clear h
  obtain ⟨i0, hi, hz0, hz1, hz2⟩ := info_parts info_int
  cases hk : lineOk d
  · have HZ : Hid (lineSwapOk d = false ∧ lineSwap d = line0) := hid (by simp [lineSwap, lineSwapOk, hk])
    have Hk := hid hk; clear hk
    go_enter Try.func65, Try.ntmps65
    go_wp2_with fail
    refine (i_LineOk (grow H.out ?_)).mono ?_
    · exact (((Below.refl _ _).alloc (Nat.le_refl _) _).alloc (by simp) _)
    rintro e w1 ⟨rfl, hb⟩
    have B0 : Bx w1 (w.heap.size) _ := Bx.below (b := w.heap.size) hb (by first | omega | (simp; done) | (simp; omega)) (by repeat (first  | (apply Bx.new; (focus (first | (simp; done) | (simp; omega) | omega))) | (apply Bx.alloc; rotate_left; (focus (first | (simp; done) | (simp; omega) | omega))) | (apply Bx.setOther; rotate_left; (focus (first | (simp; done) | (simp; omega) | omega))) | apply Bx.setSame))
    have B0o := B0.out
    have B0f := B0.fr
    have B1 : Bx w1 (w.heap.size + 1) _ := Bx.below (b := w.heap.size + 1) hb (by first | omega | (simp; done) | (simp; omega)) (by repeat (first  | (apply Bx.new; (focus (first | (simp; done) | (simp; omega) | omega))) | (apply Bx.alloc; rotate_left; (focus (first | (simp; done) | (simp; omega) | omega))) | (apply Bx.setOther; rotate_left; (focus (first | (simp; done) | (simp; omega) | omega))) | apply Bx.setSame))
    have B1o := B1.out
    have B1f := B1.fr
    have HB := hid (below_call (((Below.refl _ _).alloc (Nat.le_refl _) _).alloc (by simp) _) hb)
    have hs1 : w.heap.size + 2 ≤ w1.heap.size := by have := hb.size; simpa using this
    clear hb
    rw [Hk.out]
    go_wp2
    refine bodyPost_ret (v := .tuple #[.agg #[.slice none 0 0, .int .i64 0], .bool false]) (by simp [results, Try.results65, go_sem, B1o]) rfl ?_
    refine ⟨[.slice none 0 0, .int .i64 0], [], by first | rfl | rw [HZ.out.1], ?_, (HB.out.setCell (by simp) _).setCell (by simp) _⟩
    rw [HZ.out.2]; exact own_line0 _ _
  have hq := lineOk_bounds hk
  by_cases h2 : d.Text.length < 2
  · have h3 : ¬ 2 ≤ d.Text.length := by omega
    have HZ : Hid (lineSwapOk d = false ∧ lineSwap d = line0) := hid (by simp [lineSwap, lineSwapOk, h3])
    have h2i : (d.Text.length : Int) < 2 := by omega
    have Hk := hid hk; clear hk h3
    go_enter Try.func65, Try.ntmps65
    go_wp2_with fail
    refine (i_LineOk (grow H.out ?_)).mono ?_
    · exact (((Below.refl _ _).alloc (Nat.le_refl _) _).alloc (by simp) _)
    rintro e w1 ⟨rfl, hb⟩
    have B0 : Bx w1 (w.heap.size) _ := Bx.below (b := w.heap.size) hb (by first | omega | (simp; done) | (simp; omega)) (by repeat (first  | (apply Bx.new; (focus (first | (simp; done) | (simp; omega) | omega))) | (apply Bx.alloc; rotate_left; (focus (first | (simp; done) | (simp; omega) | omega))) | (apply Bx.setOther; rotate_left; (focus (first | (simp; done) | (simp; omega) | omega))) | apply Bx.setSame))
    have B0o := B0.out
    have B0f := B0.fr
    have B1 : Bx w1 (w.heap.size + 1) _ := Bx.below (b := w.heap.size + 1) hb (by first | omega | (simp; done) | (simp; omega)) (by repeat (first  | (apply Bx.new; (focus (first | (simp; done) | (simp; omega) | omega))) | (apply Bx.alloc; rotate_left; (focus (first | (simp; done) | (simp; omega) | omega))) | (apply Bx.setOther; rotate_left; (focus (first | (simp; done) | (simp; omega) | omega))) | apply Bx.setSame))
    have B1o := B1.out
    have B1f := B1.fr
    have HB := hid (below_call (((Below.refl _ _).alloc (Nat.le_refl _) _).alloc (by simp) _) hb)
    have hs1 : w.heap.size + 2 ≤ w1.heap.size := by have := hb.size; simpa using this
    clear hb
    rw [Hk.out]
    go_wp2
    refine bodyPost_ret (v := .tuple #[.agg #[.slice none 0 0, .int .i64 0], .bool false]) (by simp [results, Try.results65, go_sem, B1o]) rfl ?_
    refine ⟨[.slice none 0 0, .int .i64 0], [], by first | rfl | rw [HZ.out.1], ?_, (HB.out.setCell (by simp) _).setCell (by simp) _⟩
    rw [HZ.out.2]; exact own_line0 _ _
  by_cases hA : d.At = 0
  · have HZ : Hid (lineSwapOk d = false ∧ lineSwap d = line0) := hid (by simp [lineSwap, lineSwapOk, hA])
    have h2i : ¬ (d.Text.length : Int) < 2 := by omega
    have hA2 : (d.At == 0) = true := by rw [beq_iff_eq]; exact hA
    have Hk := hid hk; clear hk hA
    go_enter Try.func65, Try.ntmps65
    go_wp2_with fail
    refine (i_LineOk (grow H.out ?_)).mono ?_
    · exact (((Below.refl _ _).alloc (Nat.le_refl _) _).alloc (by simp) _)
    rintro e w1 ⟨rfl, hb⟩
    have B0 : Bx w1 (w.heap.size) _ := Bx.below (b := w.heap.size) hb (by first | omega | (simp; done) | (simp; omega)) (by repeat (first  | (apply Bx.new; (focus (first | (simp; done) | (simp; omega) | omega))) | (apply Bx.alloc; rotate_left; (focus (first | (simp; done) | (simp; omega) | omega))) | (apply Bx.setOther; rotate_left; (focus (first | (simp; done) | (simp; omega) | omega))) | apply Bx.setSame))
    have B0o := B0.out
    have B0f := B0.fr
    have B1 : Bx w1 (w.heap.size + 1) _ := Bx.below (b := w.heap.size + 1) hb (by first | omega | (simp; done) | (simp; omega)) (by repeat (first  | (apply Bx.new; (focus (first | (simp; done) | (simp; omega) | omega))) | (apply Bx.alloc; rotate_left; (focus (first | (simp; done) | (simp; omega) | omega))) | (apply Bx.setOther; rotate_left; (focus (first | (simp; done) | (simp; omega) | omega))) | apply Bx.setSame))
    have B1o := B1.out
    have B1f := B1.fr
    have HB := hid (below_call (((Below.refl _ _).alloc (Nat.le_refl _) _).alloc (by simp) _) hb)
    have hs1 : w.heap.size + 2 ≤ w1.heap.size := by have := hb.size; simpa using this
    clear hb
    rw [Hk.out]
    go_wp2
    refine bodyPost_ret (v := .tuple #[.agg #[.slice none 0 0, .int .i64 0], .bool false]) (by simp [results, Try.results65, go_sem, B1o]) rfl ?_
    refine ⟨[.slice none 0 0, .int .i64 0], [], by first | rfl | rw [HZ.out.1], ?_, (HB.out.setCell (by simp) _).setCell (by simp) _⟩
    rw [HZ.out.2]; exact own_line0 _ _
  have hA2 : (d.At == 0) = false := by rw [beq_eq_false_iff_ne]; exact hA
  have h2i : ¬ (d.Text.length : Int) < 2 := by omega
  have hok : lineSwapOk d = true := by simp only [lineSwapOk, hk, Bool.true_and, Bool.and_eq_true, decide_eq_true_eq]; omega
  have HZ : Hid (lineSwapOk d = true ∧ lineSwap d = swapD d) := hid ⟨hok, by simp [lineSwap, hok]⟩
  obtain ⟨k, hkd⟩ : ∃ k, k = swapK d := ⟨_, rfl⟩
  have hk1 : 1 ≤ k ∧ k < d.Text.length ∧ (k : Int) = min d.At ((d.Text.length : Int) - 1) := by rw [hkd]; unfold swapK; omega
  obtain ⟨hk1, hk2, hk3⟩ := hk1
  have hn4 := hq.1
  have HK := hid hkd
  have Hk := hid hk; clear hk hok hkd hA
  have hsub : wrap64 ((d.Text.length : Int) - 1) = (d.Text.length : Int) - 1 := IntWalk.wrap64_in _ (by omega)
  have hmin : min d.At ((d.Text.length : Int) - 1) = (k : Int) := hk3.symm
  have HK3 := hid hk3; clear hk3
  have hp1 : wrap64 ((k : Int) + 1) = (k : Int) + 1 := IntWalk.wrap64_in _ (by omega)
  have hm1 : wrap64 ((k : Int) - 1) = ((k - 1 : Nat) : Int) := by rw [IntWalk.wrap64_in _ (by omega)]; omega
  have hm2 : IntKind.i64.wrap ((k : Int) - 1) = ((k - 1 : Nat) : Int) := by rw [wrapI (by omega)]; omega
  have hx1 : I64 ((k : Int) + 1) := by unfold I64; omega
  have hcl : clampN ((k : Int) + 1) d.Text.length = k + 1 := by unfold clampN; omega
  go_enter Try.func65, Try.ntmps65
  go_wp2_with fail
  refine (i_LineOk (grow H.out ?_)).mono ?_
  · exact (((Below.refl _ _).alloc (Nat.le_refl _) _).alloc (by simp) _)
  rintro e w1 ⟨rfl, hb⟩
  have B0 : Bx w1 (w.heap.size) _ := Bx.below (b := w.heap.size) hb (by first | omega | (simp; done) | (simp; omega)) (by repeat (first  | (apply Bx.new; (focus (first | (simp; done) | (simp; omega) | omega))) | (apply Bx.alloc; rotate_left; (focus (first | (simp; done) | (simp; omega) | omega))) | (apply Bx.setOther; rotate_left; (focus (first | (simp; done) | (simp; omega) | omega))) | apply Bx.setSame))
  have B0o := B0.out
  have B0f := B0.fr
  have B1 : Bx w1 (w.heap.size + 1) _ := Bx.below (b := w.heap.size + 1) hb (by first | omega | (simp; done) | (simp; omega)) (by repeat (first  | (apply Bx.new; (focus (first | (simp; done) | (simp; omega) | omega))) | (apply Bx.alloc; rotate_left; (focus (first | (simp; done) | (simp; omega) | omega))) | (apply Bx.setOther; rotate_left; (focus (first | (simp; done) | (simp; omega) | omega))) | apply Bx.setSame))
  have B1o := B1.out
  have B1f := B1.fr
  have HB := hid (below_call (((Below.refl _ _).alloc (Nat.le_refl _) _).alloc (by simp) _) hb)
  have hs1 : w.heap.size + 2 ≤ w1.heap.size := by have := hb.size; simpa using this
  clear hb
  rw [Hk.out]
  go_wp2_with fail
  refine (i_goTo (grow H.out HB.out) ((k : Int) + 1) hx1 (by omega)).mono ?_
  rintro e w2 ⟨v2, b2, rfl, hO, hb⟩
  rw [hcl, show ((k + 1 : Nat) : Int) = (k : Int) + 1 by omega]
  obtain ⟨p2, c2, rfl⟩ := hO.slice
  obtain ⟨bx, hbx, hOw⟩ := hO.own
  have hL := hO.lts
  replace B0 : Bx w2 (w.heap.size) _ := Bx.below (b := w.heap.size) hb (by first | omega | (simp; done) | (simp; omega)) (by repeat (first  | exact B0 | exact B1 | (apply Bx.new; (focus (first | (simp; done) | (simp; omega) | omega))) | (apply Bx.alloc; rotate_left; (focus (first | (simp; done) | (simp; omega) | omega))) | (apply Bx.setOther; rotate_left; (focus (first | (simp; done) | (simp; omega) | omega))) | apply Bx.setSame))
  replace B0o := B0.out
  replace B0f := B0.fr
  replace B1 : Bx w2 (w.heap.size + 1) _ := Bx.below (b := w.heap.size + 1) hb (by first | omega | (simp; done) | (simp; omega)) (by repeat (first  | exact B0 | exact B1 | (apply Bx.new; (focus (first | (simp; done) | (simp; omega) | omega))) | (apply Bx.alloc; rotate_left; (focus (first | (simp; done) | (simp; omega) | omega))) | (apply Bx.setOther; rotate_left; (focus (first | (simp; done) | (simp; omega) | omega))) | apply Bx.setSame))
  replace B1o := B1.out
  replace B1f := B1.fr
  have HB2 := hid (below_call HB.out hb)
  have hs2 : w1.heap.size ≤ w2.heap.size := hb.size
  clear hb
  obtain ⟨va, ha9⟩ : ∃ va, va = d.Text[k] := ⟨_, rfl⟩
  obtain ⟨vb, hb9⟩ : ∃ vb, vb = d.Text[k - 1] := ⟨_, rfl⟩
  obtain ⟨b, off, rfl, hbw, hca, hoa⟩ := h0.at k hk2
  obtain ⟨_, _, eb, _, hcb, hob⟩ := h0.at (k - 1) (by omega)
  simp only [Option.some.injEq, Addr.mk.injEq, and_true] at eb
  obtain ⟨rfl, rfl⟩ := eb
  obtain ⟨g, go, rfl, hgb, hg1, hgf1, hO1⟩ := hOw.setScal (k - 1) (by omega) d.Text[k] hoa
  obtain ⟨_, _, eg, _, hg2, hgf2, hO2⟩ := hO1.setScal k (by simp; omega) d.Text[k - 1] hob
  simp only [Option.some.injEq, Addr.mk.injEq, and_true] at eg
  obtain ⟨rfl, rfl⟩ := eg
  have hgl := hL g (hbx g hgb)
  have HL := hid (fun b hb => hL b (hbx b hb))
  have HOw := hid hOw
  have Hoa := hid hoa; have Hob := hid hob
  clear hO hOw hL hO1 hO2 hg2 hgf2
  obtain ⟨_, _, eg, _, hg2, hgf2, _⟩ := HOw.out.setScal k hk2 d.Text[k - 1] Hob.out
  simp only [Option.some.injEq, Addr.mk.injEq, and_true] at eg
  obtain ⟨rfl, rfl⟩ := eg
  have e1 : (w2.alloc (.cells #[.slice (some ⟨g, go, none⟩) d.Text.length c2, .int .i64 ((k : Int) + 1)] 81)).cell? ⟨w2.heap.size, 0, none⟩ = some (.slice (some ⟨g, go, none⟩) d.Text.length c2) := World.cell?_alloc_new _ _ _ 0
  have e1x : (w2.alloc (.cells #[.slice (some ⟨g, go, none⟩) d.Text.length c2, .int .i64 ((k : Int) + 1)] 81)).cell? ⟨w2.heap.size, 1, none⟩ = some (.int .i64 ((k : Int) + 1)) := World.cell?_alloc_new _ _ _ 1
  have hg3 : ¬ g = w2.heap.size := by omega
  have HBu := hid (HB2.out.alloc HB2.out.size (.cells #[.slice (some ⟨g, go, none⟩) d.Text.length c2, .int .i64 ((k : Int) + 1)] 81))
  have e0 : (w2.alloc (.cells #[.slice (some ⟨g, go, none⟩) d.Text.length c2, .int .i64 ((k : Int) + 1)] 81)).cell? ⟨w.heap.size, 0, none⟩ = some (.slice (some ⟨b, off, none⟩) d.Text.length k0) := (B0.alloc (by omega) _).out 0
  have ea : (w2.alloc (.cells #[.slice (some ⟨g, go, none⟩) d.Text.length c2, .int .i64 ((k : Int) + 1)] 81)).cell? ⟨b, off + k, none⟩ = some (.int .i64 d.Text[k]) := (HBu.out.cell (p := ⟨b, off + k, none⟩) hbw).trans hca
  have eb : (w2.alloc (.cells #[.slice (some ⟨g, go, none⟩) d.Text.length c2, .int .i64 ((k : Int) + 1)] 81)).cell? ⟨b, off + (k - 1), none⟩ = some (.int .i64 d.Text[k - 1]) := (HBu.out.cell (p := ⟨b, off + (k - 1), none⟩) hbw).trans hcb
  have eg1 : (w2.alloc (.cells #[.slice (some ⟨g, go, none⟩) d.Text.length c2, .int .i64 ((k : Int) + 1)] 81)).cell? ⟨g, go + (k - 1), none⟩ = some _ := (World.cell?_alloc_lt _ _ ⟨g, go + (k - 1), none⟩ hgl.2).trans hg1
  have eg2 : (w2.alloc (.cells #[.slice (some ⟨g, go, none⟩) d.Text.length c2, .int .i64 ((k : Int) + 1)] 81)).cell? ⟨g, go + k, none⟩ = some _ := (World.cell?_alloc_lt _ _ ⟨g, go + k, none⟩ hgl.2).trans hg2
  have BU1 : Bx (w2.alloc (.cells #[.slice (some ⟨g, go, none⟩) d.Text.length c2, .int .i64 ((k : Int) + 1)] 81)) (w.heap.size + 1) _ := B1.alloc (by omega) _
  have q1 := BU1.out; have q1f := BU1.fr
  have hkn : (k : Int) < (d.Text.length : Int) := by omega
  have hkm : ((k - 1 : Nat) : Int) < (d.Text.length : Int) := by omega
  have hFg := ((HOw.out.2.2 g hgb).2.keep (Below.heap_alloc w2 (.cells #[.slice (some ⟨g, go, none⟩) d.Text.length c2, .int .i64 ((k : Int) + 1)] 81) g hgl.2) : Fr (w2.alloc (.cells #[.slice (some ⟨g, go, none⟩) d.Text.length c2, .int .i64 ((k : Int) + 1)] 81)) g)
  have ef1 := hFg.frozen (go + (k - 1)); have ef2 := hFg.frozen (go + k)
  have hkk : ¬ k - 1 = k := by omega
  have hkk2 : ¬ k = k - 1 := by omega
  have hne : ¬ g = b := by omega
  have hn1 : ¬ g = w.heap.size + 1 := by omega
  clear hca hcb
  have hFw := ((HOw.out.2.2 g hgb).2)
  have hw1f := hFw.frozen (go + (k - 1)); have hw2f := hFw.frozen (go + k)
  have hg1x : w2.cell? ⟨g, go + (k - 1), none⟩ = some (.int .i64 d.Text[k - 1]) := hg1
  have hg2x : w2.cell? ⟨g, go + k, none⟩ = some (.int .i64 d.Text[k]) := hg2
  have HOU := HOw.out.alloc (.cells #[.slice (some ⟨g, go, none⟩) d.Text.length c2, .int .i64 ((k : Int) + 1)] 81)
  have hswL : swapL d.Text k = (d.Text.set (k - 1) d.Text[k]).set k d.Text[k - 1] := by simp [swapL, List.getD, hk2, show k - 1 < d.Text.length by omega]
  obtain ⟨_, _, eg, _, _, _, o1⟩ := HOU.setScal (k - 1) (by omega) d.Text[k] Hoa.out
  simp only [Option.some.injEq, Addr.mk.injEq, and_true] at eg
  obtain ⟨rfl, rfl⟩ := eg
  obtain ⟨_, _, eg, _, _, _, o2⟩ := o1.setScal k (by simp; omega) d.Text[k - 1] Hob.out
  simp only [Option.some.injEq, Addr.mk.injEq, and_true] at eg
  obtain ⟨rfl, rfl⟩ := eg
  rw [← hswL] at o2
  obtain ⟨_, _, eg, _, _, _, o3⟩ := HOU.setScal k hk2 d.Text[k - 1] Hob.out
  simp only [Option.some.injEq, Addr.mk.injEq, and_true] at eg
  obtain ⟨rfl, rfl⟩ := eg
  obtain ⟨_, _, eg, _, _, _, o4⟩ := o3.setScal (k - 1) (by simp; omega) d.Text[k] Hoa.out
  simp only [Option.some.injEq, Addr.mk.injEq, and_true] at eg
  obtain ⟨rfl, rfl⟩ := eg
  rw [List.set_comm _ _ (by omega), ← hswL] at o4
  have HOa := hid o2; have HOb := hid o4
  have HB9 : Hid (Below w.heap.size w (w2.alloc (.cells #[.slice (some ⟨g, go, none⟩) d.Text.length c2, .int .i64 ((k : Int) + 1)] 81))) := hid HBu.out
  clear HOU hswL o1 o2 o3 o4
  go_wp2_with fail
  clear hg1x hg2x hw1f hw2f hg1 hg2 hFw
  generalize hU : (w2.alloc (.cells #[.slice (some ⟨g, go, none⟩) d.Text.length c2, .int .i64 ((k : Int) + 1)] 81)) = U at *
  go_region_held3 (fun W => Below w.heap.size w W ∧ W.cell? ⟨w2.heap.size, 0, none⟩ = some (.slice (some ⟨g, go, none⟩) d.Text.length c2) ∧ W.cell? ⟨w.heap.size, 0, none⟩ = some (.slice (some ⟨b, off, none⟩) d.Text.length k0) ∧ W.cell? ⟨b, off + k, none⟩ = some (.int .i64 d.Text[k]) ∧ W.cell? ⟨b, off + (k - 1), none⟩ = some (.int .i64 d.Text[k - 1])) (first | exact ⟨HBu.out.drew, e1, e0, ea, eb⟩ | assumption | exact held4_drew (held4_set _ (held4_set _ ⟨HBu.out, e1, e0, ea, eb⟩ (by first | (simp; done) | (simp; omega)) (by first | (simp; done) | (simp; omega)) (by first | (simp; done) | (simp; omega)) (by first | (simp; done) | (simp; omega)) (by first | (simp; done) | (simp; omega))) (by first | (simp; done) | (simp; omega)) (by first | (simp; done) | (simp; omega)) (by first | (simp; done) | (simp; omega)) (by first | (simp; done) | (simp; omega)) (by first | (simp; done) | (simp; omega))) | exact held4_drew (held4_set _ ⟨HBu.out, e1, e0, ea, eb⟩ (by first | (simp; done) | (simp; omega)) (by first | (simp; done) | (simp; omega)) (by first | (simp; done) | (simp; omega)) (by first | (simp; done) | (simp; omega)) (by first | (simp; done) | (simp; omega)))) (fail)
  all_goals
    go_wp2
    refine bodyPost_ret (v := .tuple #[.agg #[.slice (some ⟨g, go, none⟩) d.Text.length c2, .int .i64 ((k : Int) + 1)], .bool true]) (by simp [results, Try.results65, go_sem, q1]) rfl ?_
    refine ⟨[.slice (some ⟨g, go, none⟩) d.Text.length c2, .int .i64 ((k : Int) + 1)], bx, by rw [HZ.out.1], ?_, ?_⟩
    · rw [HZ.out.2]
      refine Own.mono (lo := w1.heap.size) ?_ (by omega)
      have e9 : swapD d = ⟨swapL d.Text k, (k : Int) + 1⟩ := by rw [HK.out]; rfl
      rw [e9]
      refine own_Line (d := ⟨swapL d.Text k, (k : Int) + 1⟩) ?_ (by show I64 ((k : Int) + 1); unfold I64; omega)
      repeat (first | exact HOa.out | exact HOb.out | exact HOa.out.drew | exact HOb.out.drew | refine Own.drew ?_ | refine Own.setCell' _ ?_ (fun b hb => by have := HL.out b hb; simp; omega))
    · repeat (first | exact HB9.out | refine Below.drew ?_ | refine Below.setCell ?_ (by simp; try omega) _)
end Go.Proofs.Ytdfpjchneofndaa
