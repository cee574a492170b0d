/- Clearing: the reference's (printed by genclear.py). -/
import Derived.Test.YtffinfpnmohnaaaGridClL
set_option linter.unusedSimpArgs false
set_option linter.unusedVariables false
namespace Go.Proofs.Ytffinfpnmohnaaa
open Go.RowKit Go.G6
set_option maxHeartbeats 3000000
set_option maxRecDepth 10000
theorem s_GridClear {w : World} {bs : List Nat} {cs : List Value} {d : GridD} (h : Rep.pt w bs cs d) (f : Int) (hf : I64 f) (t : Int) (ht : I64 t) :
    Calls Try.prog 34 #[.agg cs.toArray, .int .i64 f, .int .i64 t] w (RetA w (gridClear d f t)) := by
  have H := hid h
  obtain ⟨a2, l2, k2, rfl, h0, h1, h2, h3, h4⟩ := open_Grid h
  obtain rfl := h2.len_eq
  have H2 := hid h2
  clear h h2
  have INI : ∀ o1 o2, Below w.heap.size w ((w.alloc o1).alloc o2) := fun o1 o2 => ((Below.refl _ _).alloc (Nat.le_refl _) _).alloc (by simp) _
  have HI := hid INI; clear INI
  cases hg : gridOk d
  · have E : Hid (gridClear d f t = grid0) := hid (by simp [gridClear, hg])
    have HG := hid hg; clear hg
    go_enter Try.func34, Try.ntmps34
    go_wp2_with fail
    refine (s_GridOk (grow H.out (HI.out _ _))).mono ?_
    rintro e w1 ⟨rfl, hb⟩
    have B1 : Bx w1 (w.heap.size + 1) _ := Bx.below (b := w.heap.size + 1) hb (by first | omega | (simp; done) | (simp; omega)) (by repeat (first  | (apply Bx.new; (focus (first | (simp; done) | (simp; omega) | omega))) | (apply Bx.alloc; rotate_left; (focus (first | (simp; done) | (simp; omega) | omega))) | (apply Bx.setOther; rotate_left; (focus (first | (simp; done) | (simp; omega) | omega))) | apply Bx.setSame))
    have B1o := B1.out
    have B1f := B1.fr
    have HB := hid (below_call (HI.out _ _) hb)
    clear hb
    rw [HG.out]
    go_wp2
    refine bodyPost_ret (v := .agg #[.int .i64 0, .int .i64 0, .slice none 0 0, .int .i64 0, .int .i64 0, .bool false]) (by simp [results, Try.results34, go_sem, B1o]) rfl ?_
    refine ⟨_, [], rfl, ?_, ?_⟩
    · rw [E.out]
      exact own_Grid (d := grid0) (by simp [I64, grid0]) (by simp [I64, grid0]) (own_nil _ _) (by simp [I64, grid0]) (by simp [I64, grid0])
    · (repeat (first | with_reducible exact HB.out | ((with_reducible apply Below.setCell); rotate_left; (first | exact Nat.le_refl _ | exact Nat.le_succ _ | (simp; done)))))
  have hs := gridOk_shape hg
  have E : Hid (gridClear d f t = clearD d f t) := hid (by simp [gridClear, hg])
  have HS := hid hs
  have HG := hid hg; clear hg hs
  go_enter Try.func34, Try.ntmps34
  go_wp2_with fail
  refine (s_GridOk (grow H.out (HI.out _ _))).mono ?_
  rintro e w1 ⟨rfl, hb⟩
  have B0 : Bx w1 (w.heap.size) _ := Bx.below (b := w.heap.size) hb (by first | omega | (simp; done) | (simp; omega)) (by repeat (first  | (apply Bx.new; (focus (first | (simp; done) | (simp; omega) | omega))) | (apply Bx.alloc; rotate_left; (focus (first | (simp; done) | (simp; omega) | omega))) | (apply Bx.setOther; rotate_left; (focus (first | (simp; done) | (simp; omega) | omega))) | apply Bx.setSame))
  have B0o := B0.out
  have B0f := B0.fr
  have B1 : Bx w1 (w.heap.size + 1) _ := Bx.below (b := w.heap.size + 1) hb (by first | omega | (simp; done) | (simp; omega)) (by repeat (first  | (apply Bx.new; (focus (first | (simp; done) | (simp; omega) | omega))) | (apply Bx.alloc; rotate_left; (focus (first | (simp; done) | (simp; omega) | omega))) | (apply Bx.setOther; rotate_left; (focus (first | (simp; done) | (simp; omega) | omega))) | apply Bx.setSame))
  have B1o := B1.out
  have B1f := B1.fr
  have hs1 : w.heap.size + 2 ≤ w1.heap.size := by have := hb.size; simpa using this
  have HB1 := hid (below_call (HI.out _ _) hb)
  clear hb
  rw [HG.out]
  go_wp2_with fail
  refine (s_l08Copy (grow H.out HB1.out) (by have := HS.out; omega)).mono ?_
  rintro e w2 ⟨v2, b2, rfl, hO, hb⟩
  obtain ⟨p2, k2', rfl⟩ := hO.slice
  obtain ⟨bx, hbx, hOw⟩ := hO.own
  have hL := hO.lts
  replace B0 : Bx w2 (w.heap.size) _ := Bx.below (b := w.heap.size) hb (by first | omega | (simp; done) | (simp; omega)) (by repeat (first  | exact B0 | exact B1 | (apply Bx.new; (focus (first | (simp; done) | (simp; omega) | omega))) | (apply Bx.alloc; rotate_left; (focus (first | (simp; done) | (simp; omega) | omega))) | (apply Bx.setOther; rotate_left; (focus (first | (simp; done) | (simp; omega) | omega))) | apply Bx.setSame))
  replace B0o := B0.out
  replace B0f := B0.fr
  replace B1 : Bx w2 (w.heap.size + 1) _ := Bx.below (b := w.heap.size + 1) hb (by first | omega | (simp; done) | (simp; omega)) (by repeat (first  | exact B0 | exact B1 | (apply Bx.new; (focus (first | (simp; done) | (simp; omega) | omega))) | (apply Bx.alloc; rotate_left; (focus (first | (simp; done) | (simp; omega) | omega))) | (apply Bx.setOther; rotate_left; (focus (first | (simp; done) | (simp; omega) | omega))) | apply Bx.setSame))
  replace B1o := B1.out
  replace B1f := B1.fr
  have hs2 : w1.heap.size ≤ w2.heap.size := hb.size
  have HB2 := hid (below_call HB1.out hb)
  have HOw := hid hOw; have HL := hid (fun b hb => hL b (hbx b hb))
  clear hb hO hOw hL
  have hss : w.heap.size + 2 ≤ w2.heap.size := by omega
  have hlt0 : w.heap.size < w2.heap.size := by omega
  have hlt1 : w.heap.size + 1 < w2.heap.size := by omega
  have hn8 : d.Cells.length ≤ 8000 := by have := HS.out; omega
  have BU0 := B0.alloc hlt0 (.cells #[.int .i64 d.W, .int .i64 d.H, .slice p2 d.Cells.length k2', .int .i64 d.X, .int .i64 d.Y, .bool d.Wrap] 41)
  have BU1 := B1.alloc hlt1 (.cells #[.int .i64 d.W, .int .i64 d.H, .slice p2 d.Cells.length k2', .int .i64 d.X, .int .i64 d.Y, .bool d.Wrap] 41)
  have BU3 := Bx.new w2 #[.int .i64 d.W, .int .i64 d.H, .slice p2 d.Cells.length k2', .int .i64 d.X, .int .i64 d.Y, .bool d.Wrap] 41 rfl
  have HBU := hid (And.intro BU0 (And.intro BU1 BU3))
  clear BU0 BU1 BU3
  go_wp2_with fail
  go_loopw [20] (fun i wr => ∃ k : Nat, k ≤ d.Cells.length ∧ i = .int .i64 (k : Int) ∧ Own w1.heap.size wr bx [.slice p2 d.Cells.length k2'] (gcTo d f t k) ∧ Bx wr w.heap.size #[.int .i64 d.W, .int .i64 d.H, .slice a2 d.Cells.length k2, .int .i64 d.X, .int .i64 d.Y, .bool d.Wrap] ∧ Bx wr (w.heap.size + 1) #[.int .i64 0, .int .i64 0, .slice none 0 0, .int .i64 0, .int .i64 0, .bool false] ∧ Bx wr w2.heap.size #[.int .i64 d.W, .int .i64 d.H, .slice p2 d.Cells.length k2', .int .i64 d.X, .int .i64 d.Y, .bool d.Wrap] ∧ Below w.heap.size w wr ∧ w2.heap.size < wr.heap.size) (fun i _ => d.Cells.length - (intOf i).toNat)
  case atStart => exact ⟨0, Nat.zero_le _, rfl, by rw [gcTo_zero]; exact HOw.out.alloc _, HBU.out.1, HBU.out.2.1, HBU.out.2.2, HB2.out.alloc HB2.out.size _, by simp⟩
  case round =>
    obtain ⟨k, hk, rfl, hO, hX0, hX1, hX3, hb, hsz⟩ := hrel
    have HO := hid hO; have HX0 := hid hX0; have HX1 := hid hX1; have HX3 := hid hX3; have HBr := hid hb
    by_cases hlt : k < d.Cells.length
    rotate_left
    · obtain rfl : k = d.Cells.length := by omega
      have x1 := hX1.out; have x1f := hX1.fr; have x3 := hX3.out
      clear hO hb hX0 hX1 hX3
      go_wp2
      refine bodyPost_ret (v := .agg #[.int .i64 d.W, .int .i64 d.H, .slice p2 d.Cells.length k2', .int .i64 d.X, .int .i64 d.Y, .bool d.Wrap]) (by simp [results, Try.results34, go_sem, x1]) rfl ?_
      refine ⟨#[.int .i64 d.W, .int .i64 d.H, .slice p2 d.Cells.length k2', .int .i64 d.X, .int .i64 d.Y, .bool d.Wrap].toList, bx, rfl, ?_, ?_⟩
      · rw [E.out]
        have hO := HO.out
        rw [gcTo_all] at hO
        refine own_Grid (d := clearD d f t) h0 h1 ?_ h3 h4
        rw [show (clearD d f t).Cells = gcCells d.Cells f t from rfl]
        refine Own.mono (lo := w1.heap.size) ?_ (by omega)
        (repeat ((with_reducible apply Own.setCell); rotate_left; (show w.heap.size + 1 < w1.heap.size; omega)))
        exact hO
      · (repeat (first | with_reducible exact HBr.out | ((with_reducible apply Below.setCell); rotate_left; (first | exact Nat.le_refl _ | exact Nat.le_succ _ | (simp; done)))))
    obtain ⟨r, hr⟩ : ∃ r, r = d.Cells.getD k 0 := ⟨_, rfl⟩
    obtain ⟨b0, o0, rfl, hbw0, hck0, _⟩ := H2.out.at k hlt
    have hck0 : w.cell? ⟨b0, o0 + k, none⟩ = some (.int .i64 r) := by rw [hr, show d.Cells.getD k 0 = d.Cells[k] by simp [hlt]]; exact hck0
    have hc0 : wr.cell? ⟨b0, o0 + k, none⟩ = some (.int .i64 r) := (hb.cell (p := ⟨b0, o0 + k, none⟩) hbw0).trans hck0
    have HCK := hid hck0; have HBW := hid hbw0; clear hck0 hbw0
    have x0 := hX0.out
    clear hX0 hX1 hX3 hb hO
    obtain ⟨ot, hot⟩ : ∃ ot, ot = gcOther d.Cells k := ⟨_, rfl⟩
    obtain ⟨wd, hwd⟩ : ∃ wd, wd = width r := ⟨_, rfl⟩
    have hkill : gcKill d.Cells f t k = (decide (f ≤ (k : Int) ∧ (k : Int) < t) || decide (f ≤ ot ∧ ot < t)) := by rw [hot]; rfl
    have hstep := gcTo_step (d := d) (f := f) (t := t) hlt
    rw [hkill] at hstep
    have HST := hid hstep
    clear hstep hkill
    have hlk : k < (gcTo d f t k).length := by rw [gcTo_len]; exact hlt
    have hki : (k : Int) < (d.Cells.length : Int) := by omega
    have hcase : (r = -1 ∧ ¬ wd = 2 ∧ ot = (k : Int) - 1) ∨ (¬ r = -1 ∧ wd = 2 ∧ ot = (k : Int) + 1) ∨ (¬ r = -1 ∧ ¬ wd = 2 ∧ ot = (k : Int)) := by
      rw [gcOther, ← hr, ← hwd] at hot
      by_cases q2 : wd = 2
      · rw [if_pos q2] at hot; exact .inr (.inl ⟨fun q => by rw [q, width_half] at hwd; omega, q2, hot⟩)
      · rw [if_neg q2] at hot
        by_cases q1 : r = -1
        · rw [if_pos q1] at hot; exact .inl ⟨q1, q2, hot⟩
        · rw [if_neg q1] at hot; exact .inr (.inr ⟨q1, q2, hot⟩)
    have HWD := hid hwd.symm
    clear hr hot hwd
    rcases hcase with hcase | hcase | hcase
    · obtain ⟨q1, q2, q3⟩ := hcase
      have hr1 : (r == -1) = true := by first | (rw [beq_iff_eq]; exact q1) | (rw [beq_eq_false_iff_ne]; exact q1)
      have hw2 : (wd == 2) = false := by first | (rw [beq_iff_eq]; exact q2) | (rw [beq_eq_false_iff_ne]; exact q2)
      rw [q3] at HST
      have HWR := hid (show wrap64 ((k : Int) - 1) = (k : Int) - 1 from IntWalk.wrap64_in _ (by omega))
      have Q3 := hid q3
      clear q1 q2 q3
      have hd : (f ≤ (k : Int) ∧ (k : Int) < t) ∨ (¬ f ≤ (k : Int) ∧ ¬ f ≤ (k : Int) - 1) ∨ (f ≤ (k : Int) ∧ ¬ (k : Int) < t ∧ ¬ f ≤ (k : Int) - 1) ∨ (f ≤ (k : Int) ∧ ¬ (k : Int) < t ∧ f ≤ (k : Int) - 1 ∧ ¬ (k : Int) - 1 < t) ∨ (f ≤ (k : Int) ∧ ¬ (k : Int) < t ∧ f ≤ (k : Int) - 1 ∧ (k : Int) - 1 < t) := by omega
      rcases hd with hd | hd | hd | hd | hd
      · obtain ⟨c0, c1⟩ := hd
        have HN := hid (show gcTo d f t (k + 1) = (gcTo d f t k).set k 32 from by rw [HST.out, if_pos (by simp only [Bool.or_eq_true, decide_eq_true_eq]; omega)])
        have hwr := HWR.out
        go_wp2_with fail
        refine (s_Width _ _).mono ?_
        rintro e w3 ⟨rfl, hb3⟩
        have HB3 := hid (HBr.out.trans (hb3.mono HBr.out.size))
        have HO3 := hid (HO.out.grow hb3)
        have HX03 := hid (Bx.below hb3 (by omega) HX0.out); have HX13 := hid (Bx.below hb3 (by omega) HX1.out); have HX33 := hid (Bx.below hb3 hsz HX3.out)
        have hs3 := hb3.size
        rw [HWD.out]
        obtain ⟨b, off, rfl, hbb, hck, hfr, hO1⟩ := HO3.out.setScal k hlk (32 : Int) (by show I64 32; simp [I64])
        have hbl := HL.out b hbb
        have hn0 : ¬ w.heap.size = b := by omega
        have hn1 : ¬ w.heap.size + 1 = b := by omega
        have hn3 : ¬ w2.heap.size = b := by omega
        have hck1 : w3.cell? ⟨b, off + k, none⟩ = some _ := hck
        have HOx := hid hO1
        have y3 := HX33.out.out
        clear hck hO1 hb3
        go_wp2
        exact ⟨⟨k + 1, by omega, rfl, by rw [HN.out]; exact HOx.out, HX03.out.setOther (by simpa using hn0) _, HX13.out.setOther (by simpa using hn1) _, HX33.out.setOther (by simpa using hn3) _, HB3.out.setCell (by simp; omega) _, by simp; omega⟩, by simp [intOf]; omega⟩
      · obtain ⟨c0, c1⟩ := hd
        have HN := hid (show gcTo d f t (k + 1) = gcTo d f t k from by rw [HST.out, if_neg (by simp only [Bool.or_eq_true, decide_eq_true_eq]; omega)])
        have hwr := HWR.out
        go_wp2_with fail
        refine (s_Width _ _).mono ?_
        rintro e w3 ⟨rfl, hb3⟩
        have HB3 := hid (HBr.out.trans (hb3.mono HBr.out.size))
        have HO3 := hid (HO.out.grow hb3)
        have HX03 := hid (Bx.below hb3 (by omega) HX0.out); have HX13 := hid (Bx.below hb3 (by omega) HX1.out); have HX33 := hid (Bx.below hb3 hsz HX3.out)
        have hs3 := hb3.size
        rw [HWD.out]
        clear hb3
        go_wp2
        exact ⟨⟨k + 1, by omega, rfl, by rw [HN.out]; exact HO3.out, HX03.out, HX13.out, HX33.out, HB3.out, by omega⟩, by simp [intOf]; omega⟩
      · obtain ⟨c0, c1, c2⟩ := hd
        have HN := hid (show gcTo d f t (k + 1) = gcTo d f t k from by rw [HST.out, if_neg (by simp only [Bool.or_eq_true, decide_eq_true_eq]; omega)])
        have hwr := HWR.out
        go_wp2_with fail
        refine (s_Width _ _).mono ?_
        rintro e w3 ⟨rfl, hb3⟩
        have HB3 := hid (HBr.out.trans (hb3.mono HBr.out.size))
        have HO3 := hid (HO.out.grow hb3)
        have HX03 := hid (Bx.below hb3 (by omega) HX0.out); have HX13 := hid (Bx.below hb3 (by omega) HX1.out); have HX33 := hid (Bx.below hb3 hsz HX3.out)
        have hs3 := hb3.size
        rw [HWD.out]
        clear hb3
        go_wp2
        exact ⟨⟨k + 1, by omega, rfl, by rw [HN.out]; exact HO3.out, HX03.out, HX13.out, HX33.out, HB3.out, by omega⟩, by simp [intOf]; omega⟩
      · obtain ⟨c0, c1, c2, c3⟩ := hd
        have HN := hid (show gcTo d f t (k + 1) = gcTo d f t k from by rw [HST.out, if_neg (by simp only [Bool.or_eq_true, decide_eq_true_eq]; omega)])
        have hwr := HWR.out
        go_wp2_with fail
        refine (s_Width _ _).mono ?_
        rintro e w3 ⟨rfl, hb3⟩
        have HB3 := hid (HBr.out.trans (hb3.mono HBr.out.size))
        have HO3 := hid (HO.out.grow hb3)
        have HX03 := hid (Bx.below hb3 (by omega) HX0.out); have HX13 := hid (Bx.below hb3 (by omega) HX1.out); have HX33 := hid (Bx.below hb3 hsz HX3.out)
        have hs3 := hb3.size
        rw [HWD.out]
        clear hb3
        go_wp2
        exact ⟨⟨k + 1, by omega, rfl, by rw [HN.out]; exact HO3.out, HX03.out, HX13.out, HX33.out, HB3.out, by omega⟩, by simp [intOf]; omega⟩
      · obtain ⟨c0, c1, c2, c3⟩ := hd
        have HN := hid (show gcTo d f t (k + 1) = (gcTo d f t k).set k 32 from by rw [HST.out, if_pos (by simp only [Bool.or_eq_true, decide_eq_true_eq]; omega)])
        have hwr := HWR.out
        go_wp2_with fail
        refine (s_Width _ _).mono ?_
        rintro e w3 ⟨rfl, hb3⟩
        have HB3 := hid (HBr.out.trans (hb3.mono HBr.out.size))
        have HO3 := hid (HO.out.grow hb3)
        have HX03 := hid (Bx.below hb3 (by omega) HX0.out); have HX13 := hid (Bx.below hb3 (by omega) HX1.out); have HX33 := hid (Bx.below hb3 hsz HX3.out)
        have hs3 := hb3.size
        rw [HWD.out]
        obtain ⟨b, off, rfl, hbb, hck, hfr, hO1⟩ := HO3.out.setScal k hlk (32 : Int) (by show I64 32; simp [I64])
        have hbl := HL.out b hbb
        have hn0 : ¬ w.heap.size = b := by omega
        have hn1 : ¬ w.heap.size + 1 = b := by omega
        have hn3 : ¬ w2.heap.size = b := by omega
        have hck1 : w3.cell? ⟨b, off + k, none⟩ = some _ := hck
        have HOx := hid hO1
        have y3 := HX33.out.out
        clear hck hO1 hb3
        go_wp2
        exact ⟨⟨k + 1, by omega, rfl, by rw [HN.out]; exact HOx.out, HX03.out.setOther (by simpa using hn0) _, HX13.out.setOther (by simpa using hn1) _, HX33.out.setOther (by simpa using hn3) _, HB3.out.setCell (by simp; omega) _, by simp; omega⟩, by simp [intOf]; omega⟩
    · obtain ⟨q1, q2, q3⟩ := hcase
      have hr1 : (r == -1) = false := by first | (rw [beq_iff_eq]; exact q1) | (rw [beq_eq_false_iff_ne]; exact q1)
      have hw2 : (wd == 2) = true := by first | (rw [beq_iff_eq]; exact q2) | (rw [beq_eq_false_iff_ne]; exact q2)
      rw [q3] at HST
      have HWR := hid (show wrap64 ((k : Int) + 1) = (k : Int) + 1 from IntWalk.wrap64_in _ (by omega))
      have Q3 := hid q3
      clear q1 q2 q3
      have hd : (f ≤ (k : Int) ∧ (k : Int) < t) ∨ (¬ f ≤ (k : Int) ∧ ¬ f ≤ (k : Int) + 1) ∨ (¬ f ≤ (k : Int) ∧ f ≤ (k : Int) + 1 ∧ ¬ (k : Int) + 1 < t) ∨ (¬ f ≤ (k : Int) ∧ f ≤ (k : Int) + 1 ∧ (k : Int) + 1 < t) ∨ (f ≤ (k : Int) ∧ ¬ (k : Int) < t ∧ f ≤ (k : Int) + 1 ∧ ¬ (k : Int) + 1 < t) := by omega
      rcases hd with hd | hd | hd | hd | hd
      · obtain ⟨c0, c1⟩ := hd
        have HN := hid (show gcTo d f t (k + 1) = (gcTo d f t k).set k 32 from by rw [HST.out, if_pos (by simp only [Bool.or_eq_true, decide_eq_true_eq]; omega)])
        have hwr := HWR.out
        go_wp2_with fail
        refine (s_Width _ _).mono ?_
        rintro e w3 ⟨rfl, hb3⟩
        have HB3 := hid (HBr.out.trans (hb3.mono HBr.out.size))
        have HO3 := hid (HO.out.grow hb3)
        have HX03 := hid (Bx.below hb3 (by omega) HX0.out); have HX13 := hid (Bx.below hb3 (by omega) HX1.out); have HX33 := hid (Bx.below hb3 hsz HX3.out)
        have hs3 := hb3.size
        rw [HWD.out]
        obtain ⟨b, off, rfl, hbb, hck, hfr, hO1⟩ := HO3.out.setScal k hlk (32 : Int) (by show I64 32; simp [I64])
        have hbl := HL.out b hbb
        have hn0 : ¬ w.heap.size = b := by omega
        have hn1 : ¬ w.heap.size + 1 = b := by omega
        have hn3 : ¬ w2.heap.size = b := by omega
        have hck1 : w3.cell? ⟨b, off + k, none⟩ = some _ := hck
        have HOx := hid hO1
        have y3 := HX33.out.out
        clear hck hO1 hb3
        go_wp2
        exact ⟨⟨k + 1, by omega, rfl, by rw [HN.out]; exact HOx.out, HX03.out.setOther (by simpa using hn0) _, HX13.out.setOther (by simpa using hn1) _, HX33.out.setOther (by simpa using hn3) _, HB3.out.setCell (by simp; omega) _, by simp; omega⟩, by simp [intOf]; omega⟩
      · obtain ⟨c0, c1⟩ := hd
        have HN := hid (show gcTo d f t (k + 1) = gcTo d f t k from by rw [HST.out, if_neg (by simp only [Bool.or_eq_true, decide_eq_true_eq]; omega)])
        have hwr := HWR.out
        go_wp2_with fail
        refine (s_Width _ _).mono ?_
        rintro e w3 ⟨rfl, hb3⟩
        have HB3 := hid (HBr.out.trans (hb3.mono HBr.out.size))
        have HO3 := hid (HO.out.grow hb3)
        have HX03 := hid (Bx.below hb3 (by omega) HX0.out); have HX13 := hid (Bx.below hb3 (by omega) HX1.out); have HX33 := hid (Bx.below hb3 hsz HX3.out)
        have hs3 := hb3.size
        rw [HWD.out]
        clear hb3
        go_wp2
        exact ⟨⟨k + 1, by omega, rfl, by rw [HN.out]; exact HO3.out, HX03.out, HX13.out, HX33.out, HB3.out, by omega⟩, by simp [intOf]; omega⟩
      · obtain ⟨c0, c1, c2⟩ := hd
        have HN := hid (show gcTo d f t (k + 1) = gcTo d f t k from by rw [HST.out, if_neg (by simp only [Bool.or_eq_true, decide_eq_true_eq]; omega)])
        have hwr := HWR.out
        go_wp2_with fail
        refine (s_Width _ _).mono ?_
        rintro e w3 ⟨rfl, hb3⟩
        have HB3 := hid (HBr.out.trans (hb3.mono HBr.out.size))
        have HO3 := hid (HO.out.grow hb3)
        have HX03 := hid (Bx.below hb3 (by omega) HX0.out); have HX13 := hid (Bx.below hb3 (by omega) HX1.out); have HX33 := hid (Bx.below hb3 hsz HX3.out)
        have hs3 := hb3.size
        rw [HWD.out]
        clear hb3
        go_wp2
        exact ⟨⟨k + 1, by omega, rfl, by rw [HN.out]; exact HO3.out, HX03.out, HX13.out, HX33.out, HB3.out, by omega⟩, by simp [intOf]; omega⟩
      · obtain ⟨c0, c1, c2⟩ := hd
        have HN := hid (show gcTo d f t (k + 1) = (gcTo d f t k).set k 32 from by rw [HST.out, if_pos (by simp only [Bool.or_eq_true, decide_eq_true_eq]; omega)])
        have hwr := HWR.out
        go_wp2_with fail
        refine (s_Width _ _).mono ?_
        rintro e w3 ⟨rfl, hb3⟩
        have HB3 := hid (HBr.out.trans (hb3.mono HBr.out.size))
        have HO3 := hid (HO.out.grow hb3)
        have HX03 := hid (Bx.below hb3 (by omega) HX0.out); have HX13 := hid (Bx.below hb3 (by omega) HX1.out); have HX33 := hid (Bx.below hb3 hsz HX3.out)
        have hs3 := hb3.size
        rw [HWD.out]
        obtain ⟨b, off, rfl, hbb, hck, hfr, hO1⟩ := HO3.out.setScal k hlk (32 : Int) (by show I64 32; simp [I64])
        have hbl := HL.out b hbb
        have hn0 : ¬ w.heap.size = b := by omega
        have hn1 : ¬ w.heap.size + 1 = b := by omega
        have hn3 : ¬ w2.heap.size = b := by omega
        have hck1 : w3.cell? ⟨b, off + k, none⟩ = some _ := hck
        have HOx := hid hO1
        have y3 := HX33.out.out
        clear hck hO1 hb3
        go_wp2
        exact ⟨⟨k + 1, by omega, rfl, by rw [HN.out]; exact HOx.out, HX03.out.setOther (by simpa using hn0) _, HX13.out.setOther (by simpa using hn1) _, HX33.out.setOther (by simpa using hn3) _, HB3.out.setCell (by simp; omega) _, by simp; omega⟩, by simp [intOf]; omega⟩
      · obtain ⟨c0, c1, c2, c3⟩ := hd
        have HN := hid (show gcTo d f t (k + 1) = gcTo d f t k from by rw [HST.out, if_neg (by simp only [Bool.or_eq_true, decide_eq_true_eq]; omega)])
        have hwr := HWR.out
        go_wp2_with fail
        refine (s_Width _ _).mono ?_
        rintro e w3 ⟨rfl, hb3⟩
        have HB3 := hid (HBr.out.trans (hb3.mono HBr.out.size))
        have HO3 := hid (HO.out.grow hb3)
        have HX03 := hid (Bx.below hb3 (by omega) HX0.out); have HX13 := hid (Bx.below hb3 (by omega) HX1.out); have HX33 := hid (Bx.below hb3 hsz HX3.out)
        have hs3 := hb3.size
        rw [HWD.out]
        clear hb3
        go_wp2
        exact ⟨⟨k + 1, by omega, rfl, by rw [HN.out]; exact HO3.out, HX03.out, HX13.out, HX33.out, HB3.out, by omega⟩, by simp [intOf]; omega⟩
    · obtain ⟨q1, q2, q3⟩ := hcase
      have hr1 : (r == -1) = false := by first | (rw [beq_iff_eq]; exact q1) | (rw [beq_eq_false_iff_ne]; exact q1)
      have hw2 : (wd == 2) = false := by first | (rw [beq_iff_eq]; exact q2) | (rw [beq_eq_false_iff_ne]; exact q2)
      rw [q3] at HST
      have Q3 := hid q3
      clear q1 q2 q3
      have hd : (f ≤ (k : Int) ∧ (k : Int) < t) ∨ (¬ f ≤ (k : Int)) ∨ (f ≤ (k : Int) ∧ ¬ (k : Int) < t) := by omega
      rcases hd with hd | hd | hd
      · obtain ⟨c0, c1⟩ := hd
        have HN := hid (show gcTo d f t (k + 1) = (gcTo d f t k).set k 32 from by rw [HST.out, if_pos (by simp only [Bool.or_eq_true, decide_eq_true_eq]; omega)])
        go_wp2_with fail
        refine (s_Width _ _).mono ?_
        rintro e w3 ⟨rfl, hb3⟩
        have HB3 := hid (HBr.out.trans (hb3.mono HBr.out.size))
        have HO3 := hid (HO.out.grow hb3)
        have HX03 := hid (Bx.below hb3 (by omega) HX0.out); have HX13 := hid (Bx.below hb3 (by omega) HX1.out); have HX33 := hid (Bx.below hb3 hsz HX3.out)
        have hs3 := hb3.size
        rw [HWD.out]
        obtain ⟨b, off, rfl, hbb, hck, hfr, hO1⟩ := HO3.out.setScal k hlk (32 : Int) (by show I64 32; simp [I64])
        have hbl := HL.out b hbb
        have hn0 : ¬ w.heap.size = b := by omega
        have hn1 : ¬ w.heap.size + 1 = b := by omega
        have hn3 : ¬ w2.heap.size = b := by omega
        have hck1 : w3.cell? ⟨b, off + k, none⟩ = some _ := hck
        have HOx := hid hO1
        have y3 := HX33.out.out
        clear hck hO1 hb3
        go_wp2
        exact ⟨⟨k + 1, by omega, rfl, by rw [HN.out]; exact HOx.out, HX03.out.setOther (by simpa using hn0) _, HX13.out.setOther (by simpa using hn1) _, HX33.out.setOther (by simpa using hn3) _, HB3.out.setCell (by simp; omega) _, by simp; omega⟩, by simp [intOf]; omega⟩
      · have c0 := hd
        have HN := hid (show gcTo d f t (k + 1) = gcTo d f t k from by rw [HST.out, if_neg (by simp only [Bool.or_eq_true, decide_eq_true_eq]; omega)])
        clear hd
        go_wp2_with fail
        refine (s_Width _ _).mono ?_
        rintro e w3 ⟨rfl, hb3⟩
        have HB3 := hid (HBr.out.trans (hb3.mono HBr.out.size))
        have HO3 := hid (HO.out.grow hb3)
        have HX03 := hid (Bx.below hb3 (by omega) HX0.out); have HX13 := hid (Bx.below hb3 (by omega) HX1.out); have HX33 := hid (Bx.below hb3 hsz HX3.out)
        have hs3 := hb3.size
        rw [HWD.out]
        clear hb3
        go_wp2
        exact ⟨⟨k + 1, by omega, rfl, by rw [HN.out]; exact HO3.out, HX03.out, HX13.out, HX33.out, HB3.out, by omega⟩, by simp [intOf]; omega⟩
      · obtain ⟨c0, c1⟩ := hd
        have HN := hid (show gcTo d f t (k + 1) = gcTo d f t k from by rw [HST.out, if_neg (by simp only [Bool.or_eq_true, decide_eq_true_eq]; omega)])
        go_wp2_with fail
        refine (s_Width _ _).mono ?_
        rintro e w3 ⟨rfl, hb3⟩
        have HB3 := hid (HBr.out.trans (hb3.mono HBr.out.size))
        have HO3 := hid (HO.out.grow hb3)
        have HX03 := hid (Bx.below hb3 (by omega) HX0.out); have HX13 := hid (Bx.below hb3 (by omega) HX1.out); have HX33 := hid (Bx.below hb3 hsz HX3.out)
        have hs3 := hb3.size
        rw [HWD.out]
        clear hb3
        go_wp2
        exact ⟨⟨k + 1, by omega, rfl, by rw [HN.out]; exact HO3.out, HX03.out, HX13.out, HX33.out, HB3.out, by omega⟩, by simp [intOf]; omega⟩
end Go.Proofs.Ytffinfpnmohnaaa
