/- toTrial, world by world (printed by gentrial.py). -/
import Derived.Test.YtgcdgkiefbbhkaaHelpD
import Derived.Test.YtgcdgkiefbbhkaaLate
import Derived.Test.YtgcdgkiefbbhkaaMid
import Derived.Deep.DeepCutAuto
set_option linter.unusedSimpArgs false
set_option linter.unusedVariables false
namespace Go.G6
open Go Go.RowKit
theorem Bx.setTo {w : World} {b : Nat} {c : Array Value} (h : Bx w b c) (o : Nat) (v : Value) {c9 : Array Value} (hc : c.setIfInBounds o v = c9) : Bx (w.setCell ⟨b, o, none⟩ v) b c9 := hc ▸ h.setSame o v
theorem apartB {b c : List Nat} {m m' M : Nat} (h : ∀ x ∈ b, x < m) (hl : m ≤ m') (h' : ∀ x ∈ c, m' ≤ x ∧ x < M) : ∀ x ∈ b, x ∉ c := fun x hx hx' => by have := h x hx; have := (h' x hx').1; omega
end Go.G6
namespace Go.Proofs.Ytgcdgkiefbbhkaa
open Go.RowKit Go.G6
set_option maxHeartbeats 40000000
set_option maxRecDepth 10000
theorem toTrial {w : World} {bs : List Nat} {cs : List Value} {d : TrialD} (h : Rep.pt w bs cs d) (hn : Cnt.cnt d ≤ 1048576) :
    Calls Try.prog 9 #[.agg cs.toArray] w (RetA w d) := by
  obtain ⟨b6, b7, b8, b11, b16, b17, b18, b19, b20, a6, l6, k6, a7, l7, k7, a8, l8, k8, a11, l11, k11, a16, l16, k16, a17, l17, k17, a18, l18, k18, a19, l19, k19, a20, l20, k20, rfl, rfl, h1, h2, h3, h4, h5, h6, h7, h8, h9, h10, h11, h12, h13, h14, h15, h16, h17, h18, h19, h20⟩ := open_Trial h
  have hn : Cnt.cnt d.Store + Cnt.cnt d.Disk + Cnt.cnt d.Sure + Cnt.cnt d.Maybe ≤ 1048576 := hn
  have hn1 : Cnt.cnt d.Store ≤ 1048576 := by omega
  have hn2 : Cnt.cnt d.Disk ≤ 1048576 := by omega
  have hn3 : Cnt.cnt d.Sure ≤ 1048576 := by omega
  have hn4 : Cnt.cnt d.Maybe ≤ 1048576 := by omega
  clear h hn
  have H1 := hid h1; clear h1
  have H2 := hid h2; clear h2
  have H3 := hid h3; clear h3
  have H4 := hid h4; clear h4
  have H5 := hid h5; clear h5
  have H6 := hid h6; clear h6
  have H7 := hid h7; clear h7
  have H8 := hid h8; clear h8
  have H9 := hid h9; clear h9
  have H10 := hid h10; clear h10
  have H11 := hid h11; clear h11
  have H12 := hid h12; clear h12
  have H13 := hid h13; clear h13
  have H14 := hid h14; clear h14
  have H15 := hid h15; clear h15
  have H16 := hid h16; clear h16
  have H17 := hid h17; clear h17
  have H18 := hid h18; clear h18
  have H19 := hid h19; clear h19
  have H20 := hid h20; clear h20
  go_enter Try.func9, Try.ntmps9
  go_upto_region 5 with fail
  refine late_genw (fun W0 hW0 => ?_)
  as_aux_lemma =>
    have HB := hid (show Below w.heap.size w W0 by as_aux_lemma => (rw [hW0]; exact ((((Below.refl _ _).alloc (Nat.le_refl _) _).alloc (by first | omega | (simp; done) | (simp; omega)) _).alloc (by first | omega | (simp; done) | (simp; omega)) _)))
    have X1 := hid (show Bx W0 w.heap.size #[.bool d.Up, .int .i64 d.Keep, .int .i64 d.Size, .int .i64 d.Store.Disk.Room, .int .i64 d.Store.Disk.Fuse, .int .i64 d.Store.Disk.Next, .slice a6 l6 k6, .slice a7 l7 k7, .slice a8 l8 k8, .int .i64 d.Store.Keep, .int .i64 d.Store.Size, .slice a11 l11 k11, .int .i64 d.Store.Len, .int .i64 d.Disk.Room, .int .i64 d.Disk.Fuse, .int .i64 d.Disk.Next, .slice a16 l16 k16, .slice a17 l17 k17, .slice a18 l18 k18, .slice a19 l19 k19, .slice a20 l20 k20] by as_aux_lemma => (rw [hW0]; exact (((Bx.new _ _ _ rfl).alloc (by first | omega | (simp; done) | (simp; omega)) _).alloc (by first | omega | (simp; done) | (simp; omega)) _)))
    have X2 := hid (show Bx W0 (w.heap.size + 1) #[.bool false, .int .i64 0, .int .i64 0, .int .i64 0, .int .i64 0, .int .i64 0, .slice none 0 0, .slice none 0 0, .slice none 0 0, .int .i64 0, .int .i64 0, .slice none 0 0, .int .i64 0, .int .i64 0, .int .i64 0, .int .i64 0, .slice none 0 0, .slice none 0 0, .slice none 0 0, .slice none 0 0, .slice none 0 0] by as_aux_lemma => (rw [hW0]; exact ((Bx.new _ _ _ (by first | omega | (simp; done) | (simp; omega))).alloc (by first | omega | (simp; done) | (simp; omega)) _)))
    have X3 := hid (show Bx W0 (w.heap.size + 1 + 1) #[.bool d.Up, .int .i64 d.Keep, .int .i64 d.Size, .int .i64 0, .int .i64 0, .int .i64 0, .slice none 0 0, .slice none 0 0, .slice none 0 0, .int .i64 0, .int .i64 0, .slice none 0 0, .int .i64 0, .int .i64 0, .int .i64 0, .int .i64 0, .slice none 0 0, .slice none 0 0, .slice none 0 0, .slice none 0 0, .slice none 0 0] by as_aux_lemma => (rw [hW0]; exact (Bx.new _ _ _ (by first | omega | (simp; done) | (simp; omega)))))
    have hz : w.heap.size + 3 ≤ W0.heap.size := by rw [hW0]; simp
    have hle0 := hid (show w.heap.size ≤ W0.heap.size by omega)
    clear hW0
    as_aux_lemma =>
      go_wp2_with (first | (refine wpList_load_mid rfl 29 _ rfl w.heap.size 3 rfl [.int .i64 d.Store.Disk.Room, .int .i64 d.Store.Disk.Fuse, .int .i64 d.Store.Disk.Next, .slice a6 l6 k6, .slice a7 l7 k7, .slice a8 l8 k8, .int .i64 d.Store.Keep, .int .i64 d.Store.Size, .slice a11 l11 k11, .int .i64 d.Store.Len] _ (X1.out.mid 3 10 rfl) Try.underlying29 rfl (by kernel_rfl) ?_))
      refine (toStore (grow (mk_Store (d := d.Store) H3.out H4.out H5.out H6.out H7.out H8.out H9.out H10.out H11.out H12.out) HB.out) hn1).mono ?_
      rintro e v1 ⟨cs', bs', rfl, hO, hb⟩
      obtain ⟨b6', b7', b8', b11', a6', l6', k6', a7', l7', k7', a8', l8', k8', a11', l11', k11', rfl, rfl, h0', h1', h2', h3', h4', h5', h6', h7', h8', h9'⟩ := open_Store hO.1
      have hP := parts_Store hO h3' h4' h5' h8'
      obtain ⟨hO6, hO7, hO8, hO11, e6_7, e6_8, e6_11, e7_8, e7_11, e8_11⟩ := hP
      have E6_7 := hid e6_7; clear e6_7
      have E6_8 := hid e6_8; clear e6_8
      have E6_11 := hid e6_11; clear e6_11
      have E7_8 := hid e7_8; clear e7_8
      have E7_11 := hid e7_11; clear e7_11
      have E8_11 := hid e8_11; clear e8_11
      clear hO
      as_aux_lemma =>
        have hlt1 : w.heap.size < W0.heap.size := by omega
        have hlt2 : w.heap.size + 1 < W0.heap.size := by omega
        have hlt3 : w.heap.size + 1 + 1 < W0.heap.size := by omega
        have hz1 := hb.size
        have Y1 := Bx.below hb hlt1 X1.out; have Y2 := Bx.below hb hlt2 X2.out; have Y3 := Bx.below hb hlt3 X3.out
        have HBv := hid (HB.out.trans (hb.mono HB.out.size))
        have O6 := hid hO6; clear hO6
        have N6 := hid (show ∀ x ∈ b6', W0.heap.size ≤ x ∧ x < v1.heap.size from fun x hx => ⟨(O6.out.2.2 x hx).1, Rep.lt O6.out.1 x hx⟩)
        have O7 := hid hO7; clear hO7
        have N7 := hid (show ∀ x ∈ b7', W0.heap.size ≤ x ∧ x < v1.heap.size from fun x hx => ⟨(O7.out.2.2 x hx).1, Rep.lt O7.out.1 x hx⟩)
        have O8 := hid hO8; clear hO8
        have N8 := hid (show ∀ x ∈ b8', W0.heap.size ≤ x ∧ x < v1.heap.size from fun x hx => ⟨(O8.out.2.2 x hx).1, Rep.lt O8.out.1 x hx⟩)
        have O11 := hid hO11; clear hO11
        have N11 := hid (show ∀ x ∈ b11', W0.heap.size ≤ x ∧ x < v1.heap.size from fun x hx => ⟨(O11.out.2.2 x hx).1, Rep.lt O11.out.1 x hx⟩)
        have Z1 := hid Y1; have Z2 := hid Y2; have Z3 := hid Y3
        have TH := hid (Y3.there 3 10 (by simp))
        have HC1 := hid (show (#[.int .i64 d.Store.Disk.Room, .int .i64 d.Store.Disk.Fuse, .int .i64 d.Store.Disk.Next, .slice a6' l6' k6', .slice a7' l7' k7', .slice a8' l8' k8', .int .i64 d.Store.Keep, .int .i64 d.Store.Size, .slice a11' l11' k11', .int .i64 d.Store.Len] : Array Value).all (·.oneCell') = true by simp [Value.oneCell'])
        have HC2 := hid (show (Try.prog.info? 41).map (·.size) = some (#[.int .i64 d.Store.Disk.Room, .int .i64 d.Store.Disk.Fuse, .int .i64 d.Store.Disk.Next, .slice a6' l6' k6', .slice a7' l7' k7', .slice a8' l8' k8', .int .i64 d.Store.Keep, .int .i64 d.Store.Size, .slice a11' l11' k11', .int .i64 d.Store.Len] : Array Value).size by kernel_rfl)
        clear Y1 Y2 Y3 hb X1 X2 X3 HB hlt1 hlt2 hlt3
        go_upto_region 6 with (refine wpList_store_mid rfl 41 _ _ rfl (w.heap.size + 1 + 1) 3 #[.int .i64 d.Store.Disk.Room, .int .i64 d.Store.Disk.Fuse, .int .i64 d.Store.Disk.Next, .slice a6' l6' k6', .slice a7' l7' k7', .slice a8' l8' k8', .int .i64 d.Store.Keep, .int .i64 d.Store.Size, .slice a11' l11' k11', .int .i64 d.Store.Len] rfl rfl TH.out HC2.out HC1.out ?_)
        refine late_genw (fun W1 hW1 => ?_)
        as_aux_lemma =>
          clear TH HC1 HC2
          have HB := hid (show Below w.heap.size w W1 by as_aux_lemma => (rw [hW1]; exact Below.setCells _ (by omega) _ _ HBv.out))
          have HT := hid (show Tch [w.heap.size + 1 + 1] v1 W1 by as_aux_lemma => (rw [hW1]; exact Tch.setCells _ (by simp) _ _ (Tch.refl _ _)))
          have X1 := hid (show Bx W1 w.heap.size #[.bool d.Up, .int .i64 d.Keep, .int .i64 d.Size, .int .i64 d.Store.Disk.Room, .int .i64 d.Store.Disk.Fuse, .int .i64 d.Store.Disk.Next, .slice a6 l6 k6, .slice a7 l7 k7, .slice a8 l8 k8, .int .i64 d.Store.Keep, .int .i64 d.Store.Size, .slice a11 l11 k11, .int .i64 d.Store.Len, .int .i64 d.Disk.Room, .int .i64 d.Disk.Fuse, .int .i64 d.Disk.Next, .slice a16 l16 k16, .slice a17 l17 k17, .slice a18 l18 k18, .slice a19 l19 k19, .slice a20 l20 k20] by as_aux_lemma => (rw [hW1]; exact Z1.out.setOtherAll (by omega) _ _))
          have X2 := hid (show Bx W1 (w.heap.size + 1) #[.bool false, .int .i64 0, .int .i64 0, .int .i64 0, .int .i64 0, .int .i64 0, .slice none 0 0, .slice none 0 0, .slice none 0 0, .int .i64 0, .int .i64 0, .slice none 0 0, .int .i64 0, .int .i64 0, .int .i64 0, .int .i64 0, .slice none 0 0, .slice none 0 0, .slice none 0 0, .slice none 0 0, .slice none 0 0] by as_aux_lemma => (rw [hW1]; exact Z2.out.setOtherAll (by omega) _ _))
          have X3 := hid (show Bx W1 (w.heap.size + 1 + 1) #[.bool d.Up, .int .i64 d.Keep, .int .i64 d.Size, .int .i64 d.Store.Disk.Room, .int .i64 d.Store.Disk.Fuse, .int .i64 d.Store.Disk.Next, .slice a6' l6' k6', .slice a7' l7' k7', .slice a8' l8' k8', .int .i64 d.Store.Keep, .int .i64 d.Store.Size, .slice a11' l11' k11', .int .i64 d.Store.Len, .int .i64 0, .int .i64 0, .int .i64 0, .slice none 0 0, .slice none 0 0, .slice none 0 0, .slice none 0 0, .slice none 0 0] by as_aux_lemma => (rw [hW1]; exact Z3.out.setMid 3 [.int .i64 d.Store.Disk.Room, .int .i64 d.Store.Disk.Fuse, .int .i64 d.Store.Disk.Next, .slice a6' l6' k6', .slice a7' l7' k7', .slice a8' l8' k8', .int .i64 d.Store.Keep, .int .i64 d.Store.Size, .slice a11' l11' k11', .int .i64 d.Store.Len] (c9 := #[.bool d.Up, .int .i64 d.Keep, .int .i64 d.Size, .int .i64 d.Store.Disk.Room, .int .i64 d.Store.Disk.Fuse, .int .i64 d.Store.Disk.Next, .slice a6' l6' k6', .slice a7' l7' k7', .slice a8' l8' k8', .int .i64 d.Store.Keep, .int .i64 d.Store.Size, .slice a11' l11' k11', .int .i64 d.Store.Len, .int .i64 0, .int .i64 0, .int .i64 0, .slice none 0 0, .slice none 0 0, .slice none 0 0, .slice none 0 0, .slice none 0 0]) rfl (by simp)))
          have hz : w.heap.size + 3 ≤ W1.heap.size := by have := HT.out.size; omega
          have O6 := hid (O6.out.keep fun x hx => HT.out.block x (N6.out x hx).2 (by have := (N6.out x hx).1; simp; omega))
          have O7 := hid (O7.out.keep fun x hx => HT.out.block x (N7.out x hx).2 (by have := (N7.out x hx).1; simp; omega))
          have O8 := hid (O8.out.keep fun x hx => HT.out.block x (N8.out x hx).2 (by have := (N8.out x hx).1; simp; omega))
          have O11 := hid (O11.out.keep fun x hx => HT.out.block x (N11.out x hx).2 (by have := (N11.out x hx).1; simp; omega))
          have N6 := hid (show ∀ x ∈ b6', W0.heap.size ≤ x ∧ x < W1.heap.size from fun x hx => ⟨(N6.out x hx).1, Nat.lt_of_lt_of_le (N6.out x hx).2 (by have := HT.out.size; omega)⟩)
          have N7 := hid (show ∀ x ∈ b7', W0.heap.size ≤ x ∧ x < W1.heap.size from fun x hx => ⟨(N7.out x hx).1, Nat.lt_of_lt_of_le (N7.out x hx).2 (by have := HT.out.size; omega)⟩)
          have N8 := hid (show ∀ x ∈ b8', W0.heap.size ≤ x ∧ x < W1.heap.size from fun x hx => ⟨(N8.out x hx).1, Nat.lt_of_lt_of_le (N8.out x hx).2 (by have := HT.out.size; omega)⟩)
          have N11 := hid (show ∀ x ∈ b11', W0.heap.size ≤ x ∧ x < W1.heap.size from fun x hx => ⟨(N11.out x hx).1, Nat.lt_of_lt_of_le (N11.out x hx).2 (by have := HT.out.size; omega)⟩)
          have hle1 := hid (show w.heap.size ≤ W1.heap.size by omega)
          have D6 := hid (show ∀ x ∈ b6', x < W1.heap.size from fun x hx => (N6.out x hx).2)
          have D7 := hid (show ∀ x ∈ b7', x < W1.heap.size from fun x hx => (N7.out x hx).2)
          have D8 := hid (show ∀ x ∈ b8', x < W1.heap.size from fun x hx => (N8.out x hx).2)
          have D11 := hid (show ∀ x ∈ b11', x < W1.heap.size from fun x hx => (N11.out x hx).2)
          have hzz1 : W0.heap.size ≤ W1.heap.size := by have := HT.out.size; omega
          clear hW1 HBv Z1 Z2 Z3 HT hz1
          as_aux_lemma =>
            go_wp2_with (first | (refine wpList_load_mid rfl 26 _ rfl w.heap.size 13 rfl [.int .i64 d.Disk.Room, .int .i64 d.Disk.Fuse, .int .i64 d.Disk.Next, .slice a16 l16 k16, .slice a17 l17 k17, .slice a18 l18 k18] _ (X1.out.mid 13 6 rfl) Try.underlying26 rfl (by kernel_rfl) ?_))
            refine (toDisk (grow (mk_Disk (d := d.Disk) H13.out H14.out H15.out H16.out H17.out H18.out) HB.out) hn2).mono ?_
            rintro e v2 ⟨cs', bs', rfl, hO, hb⟩
            obtain ⟨b16', b17', b18', a16', l16', k16', a17', l17', k17', a18', l18', k18', rfl, rfl, h0', h1', h2', h3', h4', h5'⟩ := open_Disk hO.1
            have hP := parts_Disk hO h3' h4' h5'
            obtain ⟨hO16, hO17, hO18, e16_17, e16_18, e17_18⟩ := hP
            have E16_17 := hid e16_17; clear e16_17
            have E16_18 := hid e16_18; clear e16_18
            have E17_18 := hid e17_18; clear e17_18
            clear hO
            as_aux_lemma =>
              have hlt1 : w.heap.size < W1.heap.size := by omega
              have hlt2 : w.heap.size + 1 < W1.heap.size := by omega
              have hlt3 : w.heap.size + 1 + 1 < W1.heap.size := by omega
              have hz2 := hb.size
              have Y1 := Bx.below hb hlt1 X1.out; have Y2 := Bx.below hb hlt2 X2.out; have Y3 := Bx.below hb hlt3 X3.out
              have HBv := hid (HB.out.trans (hb.mono HB.out.size))
              have O6 := hid (O6.out.grow hb)
              have O7 := hid (O7.out.grow hb)
              have O8 := hid (O8.out.grow hb)
              have O11 := hid (O11.out.grow hb)
              have O16 := hid hO16; clear hO16
              have N16 := hid (show ∀ x ∈ b16', W1.heap.size ≤ x ∧ x < v2.heap.size from fun x hx => ⟨(O16.out.2.2 x hx).1, Rep.lt O16.out.1 x hx⟩)
              have O17 := hid hO17; clear hO17
              have N17 := hid (show ∀ x ∈ b17', W1.heap.size ≤ x ∧ x < v2.heap.size from fun x hx => ⟨(O17.out.2.2 x hx).1, Rep.lt O17.out.1 x hx⟩)
              have O18 := hid hO18; clear hO18
              have N18 := hid (show ∀ x ∈ b18', W1.heap.size ≤ x ∧ x < v2.heap.size from fun x hx => ⟨(O18.out.2.2 x hx).1, Rep.lt O18.out.1 x hx⟩)
              have Z1 := hid Y1; have Z2 := hid Y2; have Z3 := hid Y3
              have TH := hid (Y3.there 13 6 (by simp))
              have HC1 := hid (show (#[.int .i64 d.Disk.Room, .int .i64 d.Disk.Fuse, .int .i64 d.Disk.Next, .slice a16' l16' k16', .slice a17' l17' k17', .slice a18' l18' k18'] : Array Value).all (·.oneCell') = true by simp [Value.oneCell'])
              have HC2 := hid (show (Try.prog.info? 38).map (·.size) = some (#[.int .i64 d.Disk.Room, .int .i64 d.Disk.Fuse, .int .i64 d.Disk.Next, .slice a16' l16' k16', .slice a17' l17' k17', .slice a18' l18' k18'] : Array Value).size by kernel_rfl)
              clear Y1 Y2 Y3 hb X1 X2 X3 HB hlt1 hlt2 hlt3
              go_upto_region 7 with (refine wpList_store_mid rfl 38 _ _ rfl (w.heap.size + 1 + 1) 13 #[.int .i64 d.Disk.Room, .int .i64 d.Disk.Fuse, .int .i64 d.Disk.Next, .slice a16' l16' k16', .slice a17' l17' k17', .slice a18' l18' k18'] rfl rfl TH.out HC2.out HC1.out ?_)
              refine late_genw (fun W2 hW2 => ?_)
              as_aux_lemma =>
                clear TH HC1 HC2
                have HB := hid (show Below w.heap.size w W2 by as_aux_lemma => (rw [hW2]; exact Below.setCells _ (by omega) _ _ HBv.out))
                have HT := hid (show Tch [w.heap.size + 1 + 1] v2 W2 by as_aux_lemma => (rw [hW2]; exact Tch.setCells _ (by simp) _ _ (Tch.refl _ _)))
                have X1 := hid (show Bx W2 w.heap.size #[.bool d.Up, .int .i64 d.Keep, .int .i64 d.Size, .int .i64 d.Store.Disk.Room, .int .i64 d.Store.Disk.Fuse, .int .i64 d.Store.Disk.Next, .slice a6 l6 k6, .slice a7 l7 k7, .slice a8 l8 k8, .int .i64 d.Store.Keep, .int .i64 d.Store.Size, .slice a11 l11 k11, .int .i64 d.Store.Len, .int .i64 d.Disk.Room, .int .i64 d.Disk.Fuse, .int .i64 d.Disk.Next, .slice a16 l16 k16, .slice a17 l17 k17, .slice a18 l18 k18, .slice a19 l19 k19, .slice a20 l20 k20] by as_aux_lemma => (rw [hW2]; exact Z1.out.setOtherAll (by omega) _ _))
                have X2 := hid (show Bx W2 (w.heap.size + 1) #[.bool false, .int .i64 0, .int .i64 0, .int .i64 0, .int .i64 0, .int .i64 0, .slice none 0 0, .slice none 0 0, .slice none 0 0, .int .i64 0, .int .i64 0, .slice none 0 0, .int .i64 0, .int .i64 0, .int .i64 0, .int .i64 0, .slice none 0 0, .slice none 0 0, .slice none 0 0, .slice none 0 0, .slice none 0 0] by as_aux_lemma => (rw [hW2]; exact Z2.out.setOtherAll (by omega) _ _))
                have X3 := hid (show Bx W2 (w.heap.size + 1 + 1) #[.bool d.Up, .int .i64 d.Keep, .int .i64 d.Size, .int .i64 d.Store.Disk.Room, .int .i64 d.Store.Disk.Fuse, .int .i64 d.Store.Disk.Next, .slice a6' l6' k6', .slice a7' l7' k7', .slice a8' l8' k8', .int .i64 d.Store.Keep, .int .i64 d.Store.Size, .slice a11' l11' k11', .int .i64 d.Store.Len, .int .i64 d.Disk.Room, .int .i64 d.Disk.Fuse, .int .i64 d.Disk.Next, .slice a16' l16' k16', .slice a17' l17' k17', .slice a18' l18' k18', .slice none 0 0, .slice none 0 0] by as_aux_lemma => (rw [hW2]; exact Z3.out.setMid 13 [.int .i64 d.Disk.Room, .int .i64 d.Disk.Fuse, .int .i64 d.Disk.Next, .slice a16' l16' k16', .slice a17' l17' k17', .slice a18' l18' k18'] (c9 := #[.bool d.Up, .int .i64 d.Keep, .int .i64 d.Size, .int .i64 d.Store.Disk.Room, .int .i64 d.Store.Disk.Fuse, .int .i64 d.Store.Disk.Next, .slice a6' l6' k6', .slice a7' l7' k7', .slice a8' l8' k8', .int .i64 d.Store.Keep, .int .i64 d.Store.Size, .slice a11' l11' k11', .int .i64 d.Store.Len, .int .i64 d.Disk.Room, .int .i64 d.Disk.Fuse, .int .i64 d.Disk.Next, .slice a16' l16' k16', .slice a17' l17' k17', .slice a18' l18' k18', .slice none 0 0, .slice none 0 0]) rfl (by simp)))
                have hz : w.heap.size + 3 ≤ W2.heap.size := by have := HT.out.size; omega
                have O6 := hid (O6.out.keep fun x hx => HT.out.block x (Nat.lt_of_lt_of_le (N6.out x hx).2 (by omega)) (by have := (N6.out x hx).1; simp; omega))
                have O7 := hid (O7.out.keep fun x hx => HT.out.block x (Nat.lt_of_lt_of_le (N7.out x hx).2 (by omega)) (by have := (N7.out x hx).1; simp; omega))
                have O8 := hid (O8.out.keep fun x hx => HT.out.block x (Nat.lt_of_lt_of_le (N8.out x hx).2 (by omega)) (by have := (N8.out x hx).1; simp; omega))
                have O11 := hid (O11.out.keep fun x hx => HT.out.block x (Nat.lt_of_lt_of_le (N11.out x hx).2 (by omega)) (by have := (N11.out x hx).1; simp; omega))
                have O16 := hid (O16.out.keep fun x hx => HT.out.block x (N16.out x hx).2 (by have := (N16.out x hx).1; simp; omega))
                have O17 := hid (O17.out.keep fun x hx => HT.out.block x (N17.out x hx).2 (by have := (N17.out x hx).1; simp; omega))
                have O18 := hid (O18.out.keep fun x hx => HT.out.block x (N18.out x hx).2 (by have := (N18.out x hx).1; simp; omega))
                have N6 := hid (show ∀ x ∈ b6', W0.heap.size ≤ x ∧ x < W2.heap.size from fun x hx => ⟨(N6.out x hx).1, Nat.lt_of_lt_of_le (N6.out x hx).2 (by have := HT.out.size; omega)⟩)
                have N7 := hid (show ∀ x ∈ b7', W0.heap.size ≤ x ∧ x < W2.heap.size from fun x hx => ⟨(N7.out x hx).1, Nat.lt_of_lt_of_le (N7.out x hx).2 (by have := HT.out.size; omega)⟩)
                have N8 := hid (show ∀ x ∈ b8', W0.heap.size ≤ x ∧ x < W2.heap.size from fun x hx => ⟨(N8.out x hx).1, Nat.lt_of_lt_of_le (N8.out x hx).2 (by have := HT.out.size; omega)⟩)
                have N11 := hid (show ∀ x ∈ b11', W0.heap.size ≤ x ∧ x < W2.heap.size from fun x hx => ⟨(N11.out x hx).1, Nat.lt_of_lt_of_le (N11.out x hx).2 (by have := HT.out.size; omega)⟩)
                have N16 := hid (show ∀ x ∈ b16', W1.heap.size ≤ x ∧ x < W2.heap.size from fun x hx => ⟨(N16.out x hx).1, Nat.lt_of_lt_of_le (N16.out x hx).2 (by have := HT.out.size; omega)⟩)
                have N17 := hid (show ∀ x ∈ b17', W1.heap.size ≤ x ∧ x < W2.heap.size from fun x hx => ⟨(N17.out x hx).1, Nat.lt_of_lt_of_le (N17.out x hx).2 (by have := HT.out.size; omega)⟩)
                have N18 := hid (show ∀ x ∈ b18', W1.heap.size ≤ x ∧ x < W2.heap.size from fun x hx => ⟨(N18.out x hx).1, Nat.lt_of_lt_of_le (N18.out x hx).2 (by have := HT.out.size; omega)⟩)
                have hle2 := hid (show w.heap.size ≤ W2.heap.size by omega)
                have D16 := hid (show ∀ x ∈ b16', x < W2.heap.size from fun x hx => (N16.out x hx).2)
                have D17 := hid (show ∀ x ∈ b17', x < W2.heap.size from fun x hx => (N17.out x hx).2)
                have D18 := hid (show ∀ x ∈ b18', x < W2.heap.size from fun x hx => (N18.out x hx).2)
                have hzz2 : W1.heap.size ≤ W2.heap.size := by have := HT.out.size; omega
                clear hW2 HBv Z1 Z2 Z3 HT hz2
                as_aux_lemma =>
                  have x1 := X1.out.out
                  go_wp2_with fail
                  clear x1
                  refine (toEntryS (Slc.grow H19.out HB.out) hn3).mono ?_
                  rintro e v3 ⟨a19', l19', k19', b19', rfl, hO19, hb⟩
                  have hlt1 : w.heap.size < W2.heap.size := by omega
                  have hlt2 : w.heap.size + 1 < W2.heap.size := by omega
                  have hlt3 : w.heap.size + 1 + 1 < W2.heap.size := by omega
                  have hz3 := hb.size
                  have Y1 := Bx.below hb hlt1 X1.out; have Y2 := Bx.below hb hlt2 X2.out; have Y3 := Bx.below hb hlt3 X3.out
                  have HBv := hid (HB.out.trans (hb.mono HB.out.size))
                  have O6 := hid (O6.out.grow hb)
                  have O7 := hid (O7.out.grow hb)
                  have O8 := hid (O8.out.grow hb)
                  have O11 := hid (O11.out.grow hb)
                  have O16 := hid (O16.out.grow hb)
                  have O17 := hid (O17.out.grow hb)
                  have O18 := hid (O18.out.grow hb)
                  have O19 := hid hO19; clear hO19
                  have N19 := hid (show ∀ x ∈ b19', W2.heap.size ≤ x ∧ x < v3.heap.size from fun x hx => ⟨(O19.out.2.2 x hx).1, Rep.lt O19.out.1 x hx⟩)
                  have Z1 := hid Y1; have Z2 := hid Y2; have Z3 := hid Y3
                  have y3f := Y3.fr; have y3 := Y3.out
                  clear Y1 Y2 Y3 hb X1 X2 X3 HB hlt1 hlt2 hlt3
                  go_upto_region 8 with fail
                  refine late_genw (fun W3 hW3 => ?_)
                  as_aux_lemma =>
                    clear y3 y3f
                    have HB := hid (show Below w.heap.size w W3 by as_aux_lemma => (rw [hW3]; exact (HBv.out.setCell (by first | omega | (simp; done) | (simp; omega)) _)))
                    have HT := hid (show Tch [w.heap.size + 1 + 1] v3 W3 by as_aux_lemma => (rw [hW3]; exact ((Tch.refl _ _).setCell (by simp) _)))
                    have X1 := hid (show Bx W3 w.heap.size #[.bool d.Up, .int .i64 d.Keep, .int .i64 d.Size, .int .i64 d.Store.Disk.Room, .int .i64 d.Store.Disk.Fuse, .int .i64 d.Store.Disk.Next, .slice a6 l6 k6, .slice a7 l7 k7, .slice a8 l8 k8, .int .i64 d.Store.Keep, .int .i64 d.Store.Size, .slice a11 l11 k11, .int .i64 d.Store.Len, .int .i64 d.Disk.Room, .int .i64 d.Disk.Fuse, .int .i64 d.Disk.Next, .slice a16 l16 k16, .slice a17 l17 k17, .slice a18 l18 k18, .slice a19 l19 k19, .slice a20 l20 k20] by as_aux_lemma => (rw [hW3]; exact (Z1.out.setOther (by first | omega | (simp; done) | (simp; omega)) _)))
                    have X2 := hid (show Bx W3 (w.heap.size + 1) #[.bool false, .int .i64 0, .int .i64 0, .int .i64 0, .int .i64 0, .int .i64 0, .slice none 0 0, .slice none 0 0, .slice none 0 0, .int .i64 0, .int .i64 0, .slice none 0 0, .int .i64 0, .int .i64 0, .int .i64 0, .int .i64 0, .slice none 0 0, .slice none 0 0, .slice none 0 0, .slice none 0 0, .slice none 0 0] by as_aux_lemma => (rw [hW3]; exact (Z2.out.setOther (by first | omega | (simp; done) | (simp; omega)) _)))
                    have X3 := hid (show Bx W3 (w.heap.size + 1 + 1) #[.bool d.Up, .int .i64 d.Keep, .int .i64 d.Size, .int .i64 d.Store.Disk.Room, .int .i64 d.Store.Disk.Fuse, .int .i64 d.Store.Disk.Next, .slice a6' l6' k6', .slice a7' l7' k7', .slice a8' l8' k8', .int .i64 d.Store.Keep, .int .i64 d.Store.Size, .slice a11' l11' k11', .int .i64 d.Store.Len, .int .i64 d.Disk.Room, .int .i64 d.Disk.Fuse, .int .i64 d.Disk.Next, .slice a16' l16' k16', .slice a17' l17' k17', .slice a18' l18' k18', .slice a19' l19' k19', .slice none 0 0] by as_aux_lemma => (rw [hW3]; exact (Z3.out.setTo 19 _ (c9 := #[.bool d.Up, .int .i64 d.Keep, .int .i64 d.Size, .int .i64 d.Store.Disk.Room, .int .i64 d.Store.Disk.Fuse, .int .i64 d.Store.Disk.Next, .slice a6' l6' k6', .slice a7' l7' k7', .slice a8' l8' k8', .int .i64 d.Store.Keep, .int .i64 d.Store.Size, .slice a11' l11' k11', .int .i64 d.Store.Len, .int .i64 d.Disk.Room, .int .i64 d.Disk.Fuse, .int .i64 d.Disk.Next, .slice a16' l16' k16', .slice a17' l17' k17', .slice a18' l18' k18', .slice a19' l19' k19', .slice none 0 0]) rfl)))
                    have hz : w.heap.size + 3 ≤ W3.heap.size := by have := HT.out.size; omega
                    have O6 := hid (O6.out.keep fun x hx => HT.out.block x (Nat.lt_of_lt_of_le (N6.out x hx).2 (by omega)) (by have := (N6.out x hx).1; simp; omega))
                    have O7 := hid (O7.out.keep fun x hx => HT.out.block x (Nat.lt_of_lt_of_le (N7.out x hx).2 (by omega)) (by have := (N7.out x hx).1; simp; omega))
                    have O8 := hid (O8.out.keep fun x hx => HT.out.block x (Nat.lt_of_lt_of_le (N8.out x hx).2 (by omega)) (by have := (N8.out x hx).1; simp; omega))
                    have O11 := hid (O11.out.keep fun x hx => HT.out.block x (Nat.lt_of_lt_of_le (N11.out x hx).2 (by omega)) (by have := (N11.out x hx).1; simp; omega))
                    have O16 := hid (O16.out.keep fun x hx => HT.out.block x (Nat.lt_of_lt_of_le (N16.out x hx).2 (by omega)) (by have := (N16.out x hx).1; simp; omega))
                    have O17 := hid (O17.out.keep fun x hx => HT.out.block x (Nat.lt_of_lt_of_le (N17.out x hx).2 (by omega)) (by have := (N17.out x hx).1; simp; omega))
                    have O18 := hid (O18.out.keep fun x hx => HT.out.block x (Nat.lt_of_lt_of_le (N18.out x hx).2 (by omega)) (by have := (N18.out x hx).1; simp; omega))
                    have O19 := hid (O19.out.keep fun x hx => HT.out.block x (N19.out x hx).2 (by have := (N19.out x hx).1; simp; omega))
                    have N6 := hid (show ∀ x ∈ b6', W0.heap.size ≤ x ∧ x < W3.heap.size from fun x hx => ⟨(N6.out x hx).1, Nat.lt_of_lt_of_le (N6.out x hx).2 (by have := HT.out.size; omega)⟩)
                    have N7 := hid (show ∀ x ∈ b7', W0.heap.size ≤ x ∧ x < W3.heap.size from fun x hx => ⟨(N7.out x hx).1, Nat.lt_of_lt_of_le (N7.out x hx).2 (by have := HT.out.size; omega)⟩)
                    have N8 := hid (show ∀ x ∈ b8', W0.heap.size ≤ x ∧ x < W3.heap.size from fun x hx => ⟨(N8.out x hx).1, Nat.lt_of_lt_of_le (N8.out x hx).2 (by have := HT.out.size; omega)⟩)
                    have N11 := hid (show ∀ x ∈ b11', W0.heap.size ≤ x ∧ x < W3.heap.size from fun x hx => ⟨(N11.out x hx).1, Nat.lt_of_lt_of_le (N11.out x hx).2 (by have := HT.out.size; omega)⟩)
                    have N16 := hid (show ∀ x ∈ b16', W1.heap.size ≤ x ∧ x < W3.heap.size from fun x hx => ⟨(N16.out x hx).1, Nat.lt_of_lt_of_le (N16.out x hx).2 (by have := HT.out.size; omega)⟩)
                    have N17 := hid (show ∀ x ∈ b17', W1.heap.size ≤ x ∧ x < W3.heap.size from fun x hx => ⟨(N17.out x hx).1, Nat.lt_of_lt_of_le (N17.out x hx).2 (by have := HT.out.size; omega)⟩)
                    have N18 := hid (show ∀ x ∈ b18', W1.heap.size ≤ x ∧ x < W3.heap.size from fun x hx => ⟨(N18.out x hx).1, Nat.lt_of_lt_of_le (N18.out x hx).2 (by have := HT.out.size; omega)⟩)
                    have N19 := hid (show ∀ x ∈ b19', W2.heap.size ≤ x ∧ x < W3.heap.size from fun x hx => ⟨(N19.out x hx).1, Nat.lt_of_lt_of_le (N19.out x hx).2 (by have := HT.out.size; omega)⟩)
                    have hle3 := hid (show w.heap.size ≤ W3.heap.size by omega)
                    have D19 := hid (show ∀ x ∈ b19', x < W3.heap.size from fun x hx => (N19.out x hx).2)
                    have hzz3 : W2.heap.size ≤ W3.heap.size := by have := HT.out.size; omega
                    clear hW3 HBv Z1 Z2 Z3 HT hz3
                    as_aux_lemma =>
                      have x1 := X1.out.out
                      go_wp2_with fail
                      clear x1
                      refine (toEntryS (Slc.grow H20.out HB.out) hn4).mono ?_
                      rintro e v4 ⟨a20', l20', k20', b20', rfl, hO20, hb⟩
                      have hlt1 : w.heap.size < W3.heap.size := by omega
                      have hlt2 : w.heap.size + 1 < W3.heap.size := by omega
                      have hlt3 : w.heap.size + 1 + 1 < W3.heap.size := by omega
                      have hz4 := hb.size
                      have Y1 := Bx.below hb hlt1 X1.out; have Y2 := Bx.below hb hlt2 X2.out; have Y3 := Bx.below hb hlt3 X3.out
                      have HBv := hid (HB.out.trans (hb.mono HB.out.size))
                      have O6 := hid (O6.out.grow hb)
                      have O7 := hid (O7.out.grow hb)
                      have O8 := hid (O8.out.grow hb)
                      have O11 := hid (O11.out.grow hb)
                      have O16 := hid (O16.out.grow hb)
                      have O17 := hid (O17.out.grow hb)
                      have O18 := hid (O18.out.grow hb)
                      have O19 := hid (O19.out.grow hb)
                      have O20 := hid hO20; clear hO20
                      have N20 := hid (show ∀ x ∈ b20', W3.heap.size ≤ x ∧ x < v4.heap.size from fun x hx => ⟨(O20.out.2.2 x hx).1, Rep.lt O20.out.1 x hx⟩)
                      have Z1 := hid Y1; have Z2 := hid Y2; have Z3 := hid Y3
                      have y3f := Y3.fr; have y3 := Y3.out
                      clear Y1 Y2 Y3 hb X1 X2 X3 HB hlt1 hlt2 hlt3
                      go_upto_region 9 with fail
                      refine late_genw (fun W4 hW4 => ?_)
                      as_aux_lemma =>
                        clear y3 y3f
                        have HB := hid (show Below w.heap.size w W4 by as_aux_lemma => (rw [hW4]; exact (HBv.out.setCell (by first | omega | (simp; done) | (simp; omega)) _)))
                        have HT := hid (show Tch [w.heap.size + 1 + 1] v4 W4 by as_aux_lemma => (rw [hW4]; exact ((Tch.refl _ _).setCell (by simp) _)))
                        have X1 := hid (show Bx W4 w.heap.size #[.bool d.Up, .int .i64 d.Keep, .int .i64 d.Size, .int .i64 d.Store.Disk.Room, .int .i64 d.Store.Disk.Fuse, .int .i64 d.Store.Disk.Next, .slice a6 l6 k6, .slice a7 l7 k7, .slice a8 l8 k8, .int .i64 d.Store.Keep, .int .i64 d.Store.Size, .slice a11 l11 k11, .int .i64 d.Store.Len, .int .i64 d.Disk.Room, .int .i64 d.Disk.Fuse, .int .i64 d.Disk.Next, .slice a16 l16 k16, .slice a17 l17 k17, .slice a18 l18 k18, .slice a19 l19 k19, .slice a20 l20 k20] by as_aux_lemma => (rw [hW4]; exact (Z1.out.setOther (by first | omega | (simp; done) | (simp; omega)) _)))
                        have X2 := hid (show Bx W4 (w.heap.size + 1) #[.bool false, .int .i64 0, .int .i64 0, .int .i64 0, .int .i64 0, .int .i64 0, .slice none 0 0, .slice none 0 0, .slice none 0 0, .int .i64 0, .int .i64 0, .slice none 0 0, .int .i64 0, .int .i64 0, .int .i64 0, .int .i64 0, .slice none 0 0, .slice none 0 0, .slice none 0 0, .slice none 0 0, .slice none 0 0] by as_aux_lemma => (rw [hW4]; exact (Z2.out.setOther (by first | omega | (simp; done) | (simp; omega)) _)))
                        have X3 := hid (show Bx W4 (w.heap.size + 1 + 1) #[.bool d.Up, .int .i64 d.Keep, .int .i64 d.Size, .int .i64 d.Store.Disk.Room, .int .i64 d.Store.Disk.Fuse, .int .i64 d.Store.Disk.Next, .slice a6' l6' k6', .slice a7' l7' k7', .slice a8' l8' k8', .int .i64 d.Store.Keep, .int .i64 d.Store.Size, .slice a11' l11' k11', .int .i64 d.Store.Len, .int .i64 d.Disk.Room, .int .i64 d.Disk.Fuse, .int .i64 d.Disk.Next, .slice a16' l16' k16', .slice a17' l17' k17', .slice a18' l18' k18', .slice a19' l19' k19', .slice a20' l20' k20'] by as_aux_lemma => (rw [hW4]; exact (Z3.out.setTo 20 _ (c9 := #[.bool d.Up, .int .i64 d.Keep, .int .i64 d.Size, .int .i64 d.Store.Disk.Room, .int .i64 d.Store.Disk.Fuse, .int .i64 d.Store.Disk.Next, .slice a6' l6' k6', .slice a7' l7' k7', .slice a8' l8' k8', .int .i64 d.Store.Keep, .int .i64 d.Store.Size, .slice a11' l11' k11', .int .i64 d.Store.Len, .int .i64 d.Disk.Room, .int .i64 d.Disk.Fuse, .int .i64 d.Disk.Next, .slice a16' l16' k16', .slice a17' l17' k17', .slice a18' l18' k18', .slice a19' l19' k19', .slice a20' l20' k20']) rfl)))
                        have hz : w.heap.size + 3 ≤ W4.heap.size := by have := HT.out.size; omega
                        have O6 := hid (O6.out.keep fun x hx => HT.out.block x (Nat.lt_of_lt_of_le (N6.out x hx).2 (by omega)) (by have := (N6.out x hx).1; simp; omega))
                        have O7 := hid (O7.out.keep fun x hx => HT.out.block x (Nat.lt_of_lt_of_le (N7.out x hx).2 (by omega)) (by have := (N7.out x hx).1; simp; omega))
                        have O8 := hid (O8.out.keep fun x hx => HT.out.block x (Nat.lt_of_lt_of_le (N8.out x hx).2 (by omega)) (by have := (N8.out x hx).1; simp; omega))
                        have O11 := hid (O11.out.keep fun x hx => HT.out.block x (Nat.lt_of_lt_of_le (N11.out x hx).2 (by omega)) (by have := (N11.out x hx).1; simp; omega))
                        have O16 := hid (O16.out.keep fun x hx => HT.out.block x (Nat.lt_of_lt_of_le (N16.out x hx).2 (by omega)) (by have := (N16.out x hx).1; simp; omega))
                        have O17 := hid (O17.out.keep fun x hx => HT.out.block x (Nat.lt_of_lt_of_le (N17.out x hx).2 (by omega)) (by have := (N17.out x hx).1; simp; omega))
                        have O18 := hid (O18.out.keep fun x hx => HT.out.block x (Nat.lt_of_lt_of_le (N18.out x hx).2 (by omega)) (by have := (N18.out x hx).1; simp; omega))
                        have O19 := hid (O19.out.keep fun x hx => HT.out.block x (Nat.lt_of_lt_of_le (N19.out x hx).2 (by omega)) (by have := (N19.out x hx).1; simp; omega))
                        have O20 := hid (O20.out.keep fun x hx => HT.out.block x (N20.out x hx).2 (by have := (N20.out x hx).1; simp; omega))
                        have N6 := hid (show ∀ x ∈ b6', W0.heap.size ≤ x ∧ x < W4.heap.size from fun x hx => ⟨(N6.out x hx).1, Nat.lt_of_lt_of_le (N6.out x hx).2 (by have := HT.out.size; omega)⟩)
                        have N7 := hid (show ∀ x ∈ b7', W0.heap.size ≤ x ∧ x < W4.heap.size from fun x hx => ⟨(N7.out x hx).1, Nat.lt_of_lt_of_le (N7.out x hx).2 (by have := HT.out.size; omega)⟩)
                        have N8 := hid (show ∀ x ∈ b8', W0.heap.size ≤ x ∧ x < W4.heap.size from fun x hx => ⟨(N8.out x hx).1, Nat.lt_of_lt_of_le (N8.out x hx).2 (by have := HT.out.size; omega)⟩)
                        have N11 := hid (show ∀ x ∈ b11', W0.heap.size ≤ x ∧ x < W4.heap.size from fun x hx => ⟨(N11.out x hx).1, Nat.lt_of_lt_of_le (N11.out x hx).2 (by have := HT.out.size; omega)⟩)
                        have N16 := hid (show ∀ x ∈ b16', W1.heap.size ≤ x ∧ x < W4.heap.size from fun x hx => ⟨(N16.out x hx).1, Nat.lt_of_lt_of_le (N16.out x hx).2 (by have := HT.out.size; omega)⟩)
                        have N17 := hid (show ∀ x ∈ b17', W1.heap.size ≤ x ∧ x < W4.heap.size from fun x hx => ⟨(N17.out x hx).1, Nat.lt_of_lt_of_le (N17.out x hx).2 (by have := HT.out.size; omega)⟩)
                        have N18 := hid (show ∀ x ∈ b18', W1.heap.size ≤ x ∧ x < W4.heap.size from fun x hx => ⟨(N18.out x hx).1, Nat.lt_of_lt_of_le (N18.out x hx).2 (by have := HT.out.size; omega)⟩)
                        have N19 := hid (show ∀ x ∈ b19', W2.heap.size ≤ x ∧ x < W4.heap.size from fun x hx => ⟨(N19.out x hx).1, Nat.lt_of_lt_of_le (N19.out x hx).2 (by have := HT.out.size; omega)⟩)
                        have N20 := hid (show ∀ x ∈ b20', W3.heap.size ≤ x ∧ x < W4.heap.size from fun x hx => ⟨(N20.out x hx).1, Nat.lt_of_lt_of_le (N20.out x hx).2 (by have := HT.out.size; omega)⟩)
                        have hle4 := hid (show w.heap.size ≤ W4.heap.size by omega)
                        have D20 := hid (show ∀ x ∈ b20', x < W4.heap.size from fun x hx => (N20.out x hx).2)
                        have hzz4 : W3.heap.size ≤ W4.heap.size := by have := HT.out.size; omega
                        clear hW4 HBv Z1 Z2 Z3 HT hz4
                        as_aux_lemma =>
                          have HC1 := hid (show (#[.bool d.Up, .int .i64 d.Keep, .int .i64 d.Size, .int .i64 d.Store.Disk.Room, .int .i64 d.Store.Disk.Fuse, .int .i64 d.Store.Disk.Next, .slice a6' l6' k6', .slice a7' l7' k7', .slice a8' l8' k8', .int .i64 d.Store.Keep, .int .i64 d.Store.Size, .slice a11' l11' k11', .int .i64 d.Store.Len, .int .i64 d.Disk.Room, .int .i64 d.Disk.Fuse, .int .i64 d.Disk.Next, .slice a16' l16' k16', .slice a17' l17' k17', .slice a18' l18' k18', .slice a19' l19' k19', .slice a20' l20' k20'] : Array Value).all (·.oneCell') = true by simp [Value.oneCell'])
                          have HC2 := hid (show (Try.prog.info? 43).map (·.size) = some (#[.bool d.Up, .int .i64 d.Keep, .int .i64 d.Size, .int .i64 d.Store.Disk.Room, .int .i64 d.Store.Disk.Fuse, .int .i64 d.Store.Disk.Next, .slice a6' l6' k6', .slice a7' l7' k7', .slice a8' l8' k8', .int .i64 d.Store.Keep, .int .i64 d.Store.Size, .slice a11' l11' k11', .int .i64 d.Store.Len, .int .i64 d.Disk.Room, .int .i64 d.Disk.Fuse, .int .i64 d.Disk.Next, .slice a16' l16' k16', .slice a17' l17' k17', .slice a18' l18' k18', .slice a19' l19' k19', .slice a20' l20' k20'] : Array Value).size by kernel_rfl)
                          go_wp2_with (first | (refine wpList_load_mid rfl 43 _ rfl (w.heap.size + 1 + 1) 0 rfl [.bool d.Up, .int .i64 d.Keep, .int .i64 d.Size, .int .i64 d.Store.Disk.Room, .int .i64 d.Store.Disk.Fuse, .int .i64 d.Store.Disk.Next, .slice a6' l6' k6', .slice a7' l7' k7', .slice a8' l8' k8', .int .i64 d.Store.Keep, .int .i64 d.Store.Size, .slice a11' l11' k11', .int .i64 d.Store.Len, .int .i64 d.Disk.Room, .int .i64 d.Disk.Fuse, .int .i64 d.Disk.Next, .slice a16' l16' k16', .slice a17' l17' k17', .slice a18' l18' k18', .slice a19' l19' k19', .slice a20' l20' k20'] _ (X3.out.whole) Try.underlying43 rfl (by kernel_rfl) ?_) | (refine wpList_store_mid rfl 43 _ _ rfl (w.heap.size + 1) 0 #[.bool d.Up, .int .i64 d.Keep, .int .i64 d.Size, .int .i64 d.Store.Disk.Room, .int .i64 d.Store.Disk.Fuse, .int .i64 d.Store.Disk.Next, .slice a6' l6' k6', .slice a7' l7' k7', .slice a8' l8' k8', .int .i64 d.Store.Keep, .int .i64 d.Store.Size, .slice a11' l11' k11', .int .i64 d.Store.Len, .int .i64 d.Disk.Room, .int .i64 d.Disk.Fuse, .int .i64 d.Disk.Next, .slice a16' l16' k16', .slice a17' l17' k17', .slice a18' l18' k18', .slice a19' l19' k19', .slice a20' l20' k20'] rfl rfl (X2.out.there 0 21 (Nat.le_refl _)) HC2.out HC1.out ?_))
                          refine late_genw (fun W5 hW5 => ?_)
                          as_aux_lemma =>
                            have V2 : Bx W5 (w.heap.size + 1) #[.bool d.Up, .int .i64 d.Keep, .int .i64 d.Size, .int .i64 d.Store.Disk.Room, .int .i64 d.Store.Disk.Fuse, .int .i64 d.Store.Disk.Next, .slice a6' l6' k6', .slice a7' l7' k7', .slice a8' l8' k8', .int .i64 d.Store.Keep, .int .i64 d.Store.Size, .slice a11' l11' k11', .int .i64 d.Store.Len, .int .i64 d.Disk.Room, .int .i64 d.Disk.Fuse, .int .i64 d.Disk.Next, .slice a16' l16' k16', .slice a17' l17' k17', .slice a18' l18' k18', .slice a19' l19' k19', .slice a20' l20' k20'] := by as_aux_lemma => (rw [hW5]; exact X2.out.setAll [.bool d.Up, .int .i64 d.Keep, .int .i64 d.Size, .int .i64 d.Store.Disk.Room, .int .i64 d.Store.Disk.Fuse, .int .i64 d.Store.Disk.Next, .slice a6' l6' k6', .slice a7' l7' k7', .slice a8' l8' k8', .int .i64 d.Store.Keep, .int .i64 d.Store.Size, .slice a11' l11' k11', .int .i64 d.Store.Len, .int .i64 d.Disk.Room, .int .i64 d.Disk.Fuse, .int .i64 d.Disk.Next, .slice a16' l16' k16', .slice a17' l17' k17', .slice a18' l18' k18', .slice a19' l19' k19', .slice a20' l20' k20'] rfl)
                            have HT := hid (show Tch [w.heap.size + 1] W4 W5 by as_aux_lemma => (rw [hW5]; exact Tch.setCells _ (by simp) _ _ (Tch.refl _ _)))
                            have HBn := hid (show Below w.heap.size w W5 by as_aux_lemma => (rw [hW5]; exact Below.setCells _ (by omega) _ _ HB.out))
                            clear hW5
                            have HV2 := hid V2
                            clear V2
                            have K6 := hid (show Own w.heap.size W5 b6' [.slice a6' l6' k6'] d.Store.Disk.Nodes from Own.mono (O6.out.keep fun x hx => HT.out.block x (N6.out x hx).2 (by have := (N6.out x hx).1; simp; omega)) hle0.out)
                            have K7 := hid (show Own w.heap.size W5 b7' [.slice a7' l7' k7'] d.Store.Disk.Kept from Own.mono (O7.out.keep fun x hx => HT.out.block x (N7.out x hx).2 (by have := (N7.out x hx).1; simp; omega)) hle0.out)
                            have K8 := hid (show Own w.heap.size W5 b8' [.slice a8' l8' k8'] d.Store.Disk.Turns from Own.mono (O8.out.keep fun x hx => HT.out.block x (N8.out x hx).2 (by have := (N8.out x hx).1; simp; omega)) hle0.out)
                            have K11 := hid (show Own w.heap.size W5 b11' [.slice a11' l11' k11'] d.Store.Ents from Own.mono (O11.out.keep fun x hx => HT.out.block x (N11.out x hx).2 (by have := (N11.out x hx).1; simp; omega)) hle0.out)
                            have K16 := hid (show Own w.heap.size W5 b16' [.slice a16' l16' k16'] d.Disk.Nodes from Own.mono (O16.out.keep fun x hx => HT.out.block x (N16.out x hx).2 (by have := (N16.out x hx).1; simp; omega)) hle1.out)
                            have K17 := hid (show Own w.heap.size W5 b17' [.slice a17' l17' k17'] d.Disk.Kept from Own.mono (O17.out.keep fun x hx => HT.out.block x (N17.out x hx).2 (by have := (N17.out x hx).1; simp; omega)) hle1.out)
                            have K18 := hid (show Own w.heap.size W5 b18' [.slice a18' l18' k18'] d.Disk.Turns from Own.mono (O18.out.keep fun x hx => HT.out.block x (N18.out x hx).2 (by have := (N18.out x hx).1; simp; omega)) hle1.out)
                            have K19 := hid (show Own w.heap.size W5 b19' [.slice a19' l19' k19'] d.Sure from Own.mono (O19.out.keep fun x hx => HT.out.block x (N19.out x hx).2 (by have := (N19.out x hx).1; simp; omega)) hle2.out)
                            have K20 := hid (show Own w.heap.size W5 b20' [.slice a20' l20' k20'] d.Maybe from Own.mono (O20.out.keep fun x hx => HT.out.block x (N20.out x hx).2 (by have := (N20.out x hx).1; simp; omega)) hle3.out)
                            clear O6 O7 O8 O11 O16 O17 O18 O19 O20
                            refine bodyPost_ret (results_mid Try.results9 rfl [.bool d.Up, .int .i64 d.Keep, .int .i64 d.Size, .int .i64 d.Store.Disk.Room, .int .i64 d.Store.Disk.Fuse, .int .i64 d.Store.Disk.Next, .slice a6' l6' k6', .slice a7' l7' k7', .slice a8' l8' k8', .int .i64 d.Store.Keep, .int .i64 d.Store.Size, .slice a11' l11' k11', .int .i64 d.Store.Len, .int .i64 d.Disk.Room, .int .i64 d.Disk.Fuse, .int .i64 d.Disk.Next, .slice a16' l16' k16', .slice a17' l17' k17', .slice a18' l18' k18', .slice a19' l19' k19', .slice a20' l20' k20'] HV2.out.whole Try.underlying43 rfl (by kernel_rfl)) rfl ?_
                            refine ⟨[.bool d.Up, .int .i64 d.Keep, .int .i64 d.Size, .int .i64 d.Store.Disk.Room, .int .i64 d.Store.Disk.Fuse, .int .i64 d.Store.Disk.Next, .slice a6' l6' k6', .slice a7' l7' k7', .slice a8' l8' k8', .int .i64 d.Store.Keep, .int .i64 d.Store.Size, .slice a11' l11' k11', .int .i64 d.Store.Len, .int .i64 d.Disk.Room, .int .i64 d.Disk.Fuse, .int .i64 d.Disk.Next, .slice a16' l16' k16', .slice a17' l17' k17', .slice a18' l18' k18', .slice a19' l19' k19', .slice a20' l20' k20'], b6' ++ (b7' ++ (b8' ++ (b11' ++ (b16' ++ (b17' ++ (b18' ++ (b19' ++ b20'))))))), rfl, ?_, HBn.out⟩
                            have h1_1 : W1.heap.size ≤ W1.heap.size := by omega
                            have h1_2 : W1.heap.size ≤ W2.heap.size := by omega
                            have h1_3 : W1.heap.size ≤ W3.heap.size := by omega
                            have h2_2 : W2.heap.size ≤ W2.heap.size := by omega
                            have h2_3 : W2.heap.size ≤ W3.heap.size := by omega
                            have h3_3 : W3.heap.size ≤ W3.heap.size := by omega
                            exact own_Trial (lo := w.heap.size) (w := W5) (d := d) H1.out H2.out H3.out H4.out H5.out K6.out K7.out K8.out H9.out H10.out K11.out H12.out H13.out H14.out H15.out K16.out K17.out K18.out K19.out K20.out E6_7.out E6_8.out E6_11.out (apartB D6.out h1_1 N16.out) (apartB D6.out h1_1 N17.out) (apartB D6.out h1_1 N18.out) (apartB D6.out h1_2 N19.out) (apartB D6.out h1_3 N20.out) E7_8.out E7_11.out (apartB D7.out h1_1 N16.out) (apartB D7.out h1_1 N17.out) (apartB D7.out h1_1 N18.out) (apartB D7.out h1_2 N19.out) (apartB D7.out h1_3 N20.out) E8_11.out (apartB D8.out h1_1 N16.out) (apartB D8.out h1_1 N17.out) (apartB D8.out h1_1 N18.out) (apartB D8.out h1_2 N19.out) (apartB D8.out h1_3 N20.out) (apartB D11.out h1_1 N16.out) (apartB D11.out h1_1 N17.out) (apartB D11.out h1_1 N18.out) (apartB D11.out h1_2 N19.out) (apartB D11.out h1_3 N20.out) E16_17.out E16_18.out (apartB D16.out h2_2 N19.out) (apartB D16.out h2_3 N20.out) E17_18.out (apartB D17.out h2_2 N19.out) (apartB D17.out h2_3 N20.out) (apartB D18.out h2_2 N19.out) (apartB D18.out h2_3 N20.out) (apartB D19.out h3_3 N20.out)
end Go.Proofs.Ytgcdgkiefbbhkaa
