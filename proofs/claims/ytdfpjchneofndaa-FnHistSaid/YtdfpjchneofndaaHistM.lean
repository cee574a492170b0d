/- Histories that are made anew. -/
import Derived.Test.YtdfpjchneofndaaHist
import Derived.Test.YtdfpjchneofndaaCopy
import Derived.Deep.RegionHeld3
import Derived.Deep.DeepCutAuto
set_option linter.unusedSimpArgs false
set_option linter.unusedVariables false
namespace Go.Proofs.Ytdfpjchneofndaa
open Go.RowKit Go.G6
set_option maxHeartbeats 800000
set_option maxRecDepth 10000
theorem i_copyHist {w : World} {bs : List Nat} {cs : List Value} {d : HistD} (h : Rep.pt w bs cs d) (hn : d.Lines.length ≤ 16777216) :
    Calls Try.prog 120 #[.agg cs.toArray] w fun e w' => ∃ v bs', e = .returned (.agg #[.int .i64 d.First, v]) ∧ OwnL w.heap.size w' 9 v bs' d.Lines ∧ Below w.heap.size w w' := by
  obtain ⟨a1, l1, k1, rfl, h0, h1⟩ := open_Hist h
  obtain rfl := h1.len_eq
  obtain ⟨i0, hi, hz0, hz1, hz2⟩ := info_parts info_str
  clear h
  have H0 := hid (held2_new w #[.int .i64 d.First, .slice a1 d.Lines.length k1] #[.int .i64 0, .slice none 0 0] 54 54)
  go_enter Try.func120, Try.ntmps120
  go_wp2
  go_region_held3 (fun W => Below w.heap.size w W ∧ w.heap.size + 2 ≤ W.heap.size ∧ (∀ o, W.cell? ⟨w.heap.size, o, none⟩ = #[.int .i64 d.First, .slice a1 d.Lines.length k1][o]?)) (first | exact held1_of2 (held2_drew H0.out) | assumption | exact held1_set _ (held1_set _ (by assumption) (by simp) (by simp)) (by simp) (by simp)) (first | (refine step_append rfl _ _ 52 rfl 9 i0 (.string ByteArray.empty) 16 Try.underlying52 hi hz0 hz1 hz2 rfl (lo := w.heap.size + 2) (xs := ([] : List ByteArray)) rfl (OwnL.nil _ _ _) (b2 := []) rfl (h1.grow (by go_split_ands; assumption)).src List.nodup_nil (by simp) (by simp; omega) (by simp; omega) (by go_split_ands; assumption) ?_; intro p k w1 bs' hO hT hb; have q := held2_tch (held2_drew H0.out) hT (by simp); have q1 := held1_of2 q; have HO := hid hO; clear hO hT hb; obtain ⟨_, _, q2, q3, q4⟩ := q; simp only [List.length_nil, Nat.zero_add, List.nil_append] at HO ⊢))
  have Hb : Hid (Below w.heap.size w w1) := hid q1.1
  have d0 := q3 0
  have d1 := q3 1
  clear q1 q2 q3
  simp at d0 d1
  go_wp2
  refine bodyPost_ret (v := .agg #[.int .i64 d.First, .slice p d.Lines.length k]) (by simp [results, Try.results120, go_sem, d0, d1]) rfl ?_
  exact ⟨_, _, rfl, ((HO.out.setLow (by simp) _).setLow (by simp) _).mono (by omega), (Hb.out.setCell (by simp) _).setCell (by simp) _⟩
theorem i_HistAdd {w : World} {bs : List Nat} {cs : List Value} {d : HistD} (h : Rep.pt w bs cs d) (s : ByteArray) (hs : s.size ≤ maxLen) :
    Calls Try.prog 48 #[.agg cs.toArray, .string s] w (RetAB w (histAdd d s) (.bool (histAddOk d s))) := by
  have H := hid h
  obtain ⟨a1, l1, k1, rfl, h0, h1⟩ := open_Hist h
  obtain rfl := h1.len_eq
  obtain ⟨i0, hi, hz0, hz1, hz2⟩ := info_parts info_str
  clear h
  cases hk : histOk d
  · have HZ : Hid (histAddOk d s = false ∧ histAdd d s = ⟨0, []⟩) := hid (by simp [histAddOk, histAdd, hk])
    have Hk := hid hk; clear hk
    go_enter Try.func48, Try.ntmps48
    go_wp2_with fail
    refine (i_HistOk (grow H.out ?_)).mono ?_
    · exact ((Below.refl _ _).alloc (Nat.le_refl _) _).alloc (by simp) _
    rintro e w1 ⟨rfl, hb⟩
    have B1 : Bx w1 (w.heap.size + 1) _ := Bx.below (b := w.heap.size + 1) hb (by first | omega | (simp; done) | (simp; omega)) (by repeat (first  | (apply Bx.new; (focus (first | (simp; done) | (simp; omega) | omega))) | (apply Bx.alloc; rotate_left; (focus (first | (simp; done) | (simp; omega) | omega))) | (apply Bx.setOther; rotate_left; (focus (first | (simp; done) | (simp; omega) | omega))) | apply Bx.setSame))
    have B1o := B1.out
    have B1f := B1.fr
    have HB := hid (below_call (((Below.refl _ _).alloc (Nat.le_refl _) _).alloc (by simp) _) hb)
    clear hb
    rw [Hk.out]
    go_wp2
    refine bodyPost_ret (v := .tuple #[.agg #[.int .i64 0, .slice none 0 0], .bool false]) (by simp [results, Try.results48, go_sem, B1o]) rfl ?_
    refine ⟨[.int .i64 0, .slice none 0 0], [], by rw [HZ.out.1], ?_, ?_⟩
    · rw [HZ.out.2]; exact own_Hist (d := ⟨0, []⟩) (by simp [I64]) (own_nil _ _)
    · exact (HB.out.setCell (by simp) _).setCell (by simp) _
  have hb1 : 1 ≤ d.First ∧ d.First ≤ 1000000000 ∧ d.Lines.length ≤ 60 := by simp [histOk] at hk; omega
  obtain ⟨hb1, hb2, hb3⟩ := hb1
  have Hk := hid hk; clear hk
  go_enter Try.func48, Try.ntmps48
  go_wp2_with fail
  refine (i_HistOk (grow H.out ?_)).mono ?_
  · exact ((Below.refl _ _).alloc (Nat.le_refl _) _).alloc (by simp) _
  rintro e w1 ⟨rfl, hb⟩
  have B0 : Bx w1 (w.heap.size) _ := Bx.below (b := w.heap.size) hb (by first | omega | (simp; done) | (simp; omega)) (by repeat (first  | (apply Bx.new; (focus (first | (simp; done) | (simp; omega) | omega))) | (apply Bx.alloc; rotate_left; (focus (first | (simp; done) | (simp; omega) | omega))) | (apply Bx.setOther; rotate_left; (focus (first | (simp; done) | (simp; omega) | omega))) | apply Bx.setSame))
  have B0o := B0.out
  have B0f := B0.fr
  have B1 : Bx w1 (w.heap.size + 1) _ := Bx.below (b := w.heap.size + 1) hb (by first | omega | (simp; done) | (simp; omega)) (by repeat (first  | (apply Bx.new; (focus (first | (simp; done) | (simp; omega) | omega))) | (apply Bx.alloc; rotate_left; (focus (first | (simp; done) | (simp; omega) | omega))) | (apply Bx.setOther; rotate_left; (focus (first | (simp; done) | (simp; omega) | omega))) | apply Bx.setSame))
  have B1o := B1.out
  have B1f := B1.fr
  have HB1 := hid (below_call (((Below.refl _ _).alloc (Nat.le_refl _) _).alloc (by simp) _) hb)
  have hs1 : w.heap.size + 2 ≤ w1.heap.size := by have := hb.size; simpa using this
  clear hb
  rw [Hk.out]
  go_wp2_with fail
  refine (i_copyHist (grow H.out HB1.out) (by omega)).mono ?_
  rintro e w2 ⟨v2, b2, rfl, hO, hb⟩
  obtain ⟨p2, k2, rfl⟩ := hO.slice
  replace B1 : Bx w2 (w.heap.size + 1) _ := Bx.below (b := w.heap.size + 1) hb (by first | omega | (simp; done) | (simp; omega)) (by repeat (first  | exact B0 | exact B1 | (apply Bx.new; (focus (first | (simp; done) | (simp; omega) | omega))) | (apply Bx.alloc; rotate_left; (focus (first | (simp; done) | (simp; omega) | omega))) | (apply Bx.setOther; rotate_left; (focus (first | (simp; done) | (simp; omega) | omega))) | apply Bx.setSame))
  replace B1o := B1.out
  replace B1f := B1.fr
  have HO2 := hid hO
  have HB2 := hid (below_call HB1.out hb)
  have hs2 : w1.heap.size ≤ w2.heap.size := hb.size
  clear hb hO
  go_wp2_with (at_builtin; refine wp_append rfl _ _ 52 rfl 9 i0 (.string ByteArray.empty) 16 Try.underlying52 hi hz0 hz1 hz2 rfl (lo := w1.heap.size) (bs := b2) (xs := d.Lines) rfl ?own (b2 := []) (ys := [s]) rfl ?src List.nodup_nil ?q1 ?q2 ?q3 ?q4 ?_)
  case own => repeat (first | exact HO2.out | refine OwnL.alloc ?_ _ | refine OwnL.setCell ?_ (fun b hb => by have := HO2.out.lts b hb; simp; try omega) _)
  case src => exact src_new (pt_s hs) (by simp) _ _
  case q1 => simp
  case q2 => (first | omega | (simp; omega) | (simp; done))
  case q3 => (first | omega | (simp; omega) | (simp; done))
  case q4 => (first | omega | (simp; omega) | (simp; done) | (have := HB2.out.size; first | omega | (simp; omega)))
  intro p3 k3 w3 b3 hO hT hm
  have HO3 := hid hO
  have HB3 := hid (below_tch (((HB2.out.alloc (by have := HB2.out.size; omega) _).alloc (by have := HB2.out.size; simp; omega) _)) hT (fun x hx => by have := HO2.out.lts x hx; simp; omega))
  have R3 : Hid (∀ b ∈ b3, w1.heap.size ≤ b ∧ b ≠ w2.heap.size) := hid fun b hb => by
    have h1 := (HO3.out.lts b hb).1
    have h2 := hm b hb
    try simp at h2
    rcases h2 with h | h
    · have := HO2.out.lts b h; omega
    · omega
  have hz3 := hT.size; simp at hz3
  replace B1 : Bx w3 (w.heap.size + 1) _ := Bx.tch (b := w.heap.size + 1) hT (by first | omega | (simp; done) | (simp; omega)) (fun hm => by have := HO2.out.lts _ hm; first | omega | (simp at this; done) | (simp at this; omega)) (by repeat (first  | exact B0 | exact B1 | (apply Bx.new; (focus (first | (simp; done) | (simp; omega) | omega))) | (apply Bx.alloc; rotate_left; (focus (first | (simp; done) | (simp; omega) | omega))) | (apply Bx.setOther; rotate_left; (focus (first | (simp; done) | (simp; omega) | omega))) | apply Bx.setSame))
  replace B1o := B1.out
  replace B1f := B1.fr
  have B2 : Bx w3 (w2.heap.size) _ := Bx.tch (b := w2.heap.size) hT (by first | omega | (simp; done) | (simp; omega)) (fun hm => by have := HO2.out.lts _ hm; first | omega | (simp at this; done) | (simp at this; omega)) (by repeat (first  | exact B0 | exact B1 | (apply Bx.new; (focus (first | (simp; done) | (simp; omega) | omega))) | (apply Bx.alloc; rotate_left; (focus (first | (simp; done) | (simp; omega) | omega))) | (apply Bx.setOther; rotate_left; (focus (first | (simp; done) | (simp; omega) | omega))) | apply Bx.setSame))
  have B2o := B2.out
  have B2f := B2.fr
  obtain ⟨b3x, hb3x, hOw⟩ := HO3.out.own
  clear hO hT hm
  by_cases h60 : 60 < d.Lines.length + 1
  · obtain ⟨p4, bS, hcut, hbS, hnS, hS⟩ := hOw.slc.cut_l 52 Try.underlying52 hi hz1 1 (by omega) (by simp; try omega)
    simp only [Int.toNat_one, Nat.add_sub_cancel] at hcut hS
    have HS := hid (hOw.cutS hbS hnS hS)
    have RS : Hid (∀ b ∈ bS, w1.heap.size ≤ b ∧ b ≠ w2.heap.size) := hid fun b hb => R3.out b (hb3x b (hbS b hb))
    clear hS hbS hnS hOw
    have Hp : Hid (histPut d s = ⟨d.First + 1, (d.Lines ++ [s]).drop 1⟩) := hid (by simp [histPut, h60])
    go_wp2_with fail
    refine (i_HistOk (d := ⟨d.First + 1, (d.Lines ++ [s]).drop 1⟩) (mk_Hist (d := ⟨d.First + 1, (d.Lines ++ [s]).drop 1⟩) (b1 := bS) ?g1 ?g2)).mono ?_
    case g1 => unfold I64; simp only; omega
    case g2 => exact pt_slice.1 (by repeat (first | exact HS.out.1 | refine Rep.keep ?_ (fun b hb => Below.heap_setCell _ _ _ _ (by have := RS.out b hb; simp; try omega))))
    rintro e w5 ⟨rfl, hb⟩
    replace B1 : Bx w5 (w.heap.size + 1) _ := Bx.below (b := w.heap.size + 1) hb (by first | omega | (simp; done) | (simp; omega)) (by repeat (first  | exact B0 | exact B1 | exact B2 | (apply Bx.new; (focus (first | (simp; done) | (simp; omega) | omega))) | (apply Bx.alloc; rotate_left; (focus (first | (simp; done) | (simp; omega) | omega))) | (apply Bx.setOther; rotate_left; (focus (first | (simp; done) | (simp; omega) | omega))) | apply Bx.setSame))
    replace B1o := B1.out
    replace B1f := B1.fr
    replace B2 : Bx w5 (w2.heap.size) _ := Bx.below (b := w2.heap.size) hb (by first | omega | (simp; done) | (simp; omega)) (by repeat (first  | exact B0 | exact B1 | exact B2 | (apply Bx.new; (focus (first | (simp; done) | (simp; omega) | omega))) | (apply Bx.alloc; rotate_left; (focus (first | (simp; done) | (simp; omega) | omega))) | (apply Bx.setOther; rotate_left; (focus (first | (simp; done) | (simp; omega) | omega))) | apply Bx.setSame))
    replace B2o := B2.out
    replace B2f := B2.fr
    have HB5 : Hid (Below w.heap.size w w5) := hid (below_call (by repeat (first | exact HB3.out | refine Below.setCell ?_ (by simp; try omega) _)) hb)
    have HO5 : Hid (Own w1.heap.size w5 bS [.slice p4 d.Lines.length (k3 - 1)] (⟨d.First + 1, (d.Lines ++ [s]).drop 1⟩ : HistD).Lines) := hid (Own.grow (by repeat (first | exact HS.out | refine Own.setCell' _ ?_ (fun b hb => by have := RS.out b hb; simp; try omega))) hb)
    clear hb
    cases hk2 : histOk ⟨d.First + 1, (d.Lines ++ [s]).drop 1⟩
    · have h1 : histAddOk d s = false := by simp only [histAddOk, Hp.out, Hk.out, hk2, Bool.and_false]
      have HZ : Hid (histAddOk d s = false ∧ histAdd d s = ⟨0, []⟩) := hid ⟨h1, by rw [histAdd, h1]; rfl⟩
      clear h1 hk2
      go_wp2
      refine bodyPost_ret (v := .tuple #[.agg #[.int .i64 0, .slice none 0 0], .bool false]) (by simp [results, Try.results48, go_sem, B1o]) rfl ?_
      refine ⟨[.int .i64 0, .slice none 0 0], [], by rw [HZ.out.1], ?_, ?_⟩
      · rw [HZ.out.2]; exact own_Hist (d := ⟨0, []⟩) (by simp [I64]) (own_nil _ _)
      · exact (HB5.out.setCell (by simp) _).setCell (by simp) _
    · have h1 : histAddOk d s = true := by simp only [histAddOk, Hp.out, Hk.out, hk2, Bool.and_self]
      have HZ : Hid (histAddOk d s = true ∧ histAdd d s = ⟨d.First + 1, (d.Lines ++ [s]).drop 1⟩) := hid ⟨h1, by rw [histAdd, h1, Hp.out]; rfl⟩
      clear h1 hk2
      go_wp2
      refine bodyPost_ret (v := .tuple #[.agg #[.int .i64 (d.First + 1), .slice p4 d.Lines.length (k3 - 1)], .bool true]) (by simp [results, Try.results48, go_sem, B1o]) rfl ?_
      refine ⟨[.int .i64 (d.First + 1), .slice p4 d.Lines.length (k3 - 1)], bS, by rw [HZ.out.1], ?_, ?_⟩
      · rw [HZ.out.2]
        refine own_Hist (d := ⟨d.First + 1, (d.Lines ++ [s]).drop 1⟩) (by unfold I64; simp only; omega) ?_
        exact (Own.setCell' _ (Own.setCell' _ HO5.out (fun b hb => by have := RS.out b hb; simp; try omega)) (fun b hb => by have := RS.out b hb; simp; try omega)).mono (by omega)
      · exact (HB5.out.setCell (by simp) _).setCell (by simp) _
  · have HS := hid hOw
    have RS : Hid (∀ b ∈ b3x, w1.heap.size ≤ b ∧ b ≠ w2.heap.size) := hid fun b hb => R3.out b (hb3x b hb)
    clear hOw
    have Hp : Hid (histPut d s = ⟨d.First, d.Lines ++ [s]⟩) := hid (by simp [histPut, h60])
    go_wp2_with fail
    refine (i_HistOk (d := ⟨d.First, d.Lines ++ [s]⟩) (mk_Hist (d := ⟨d.First, d.Lines ++ [s]⟩) (b1 := b3x) ?g1 ?g2)).mono ?_
    case g1 => unfold I64; simp only; omega
    case g2 => exact pt_slice.1 (by repeat (first | exact HS.out.1 | refine Rep.keep ?_ (fun b hb => Below.heap_setCell _ _ _ _ (by have := RS.out b hb; simp; try omega))))
    rintro e w5 ⟨rfl, hb⟩
    replace B1 : Bx w5 (w.heap.size + 1) _ := Bx.below (b := w.heap.size + 1) hb (by first | omega | (simp; done) | (simp; omega)) (by repeat (first  | exact B0 | exact B1 | exact B2 | (apply Bx.new; (focus (first | (simp; done) | (simp; omega) | omega))) | (apply Bx.alloc; rotate_left; (focus (first | (simp; done) | (simp; omega) | omega))) | (apply Bx.setOther; rotate_left; (focus (first | (simp; done) | (simp; omega) | omega))) | apply Bx.setSame))
    replace B1o := B1.out
    replace B1f := B1.fr
    replace B2 : Bx w5 (w2.heap.size) _ := Bx.below (b := w2.heap.size) hb (by first | omega | (simp; done) | (simp; omega)) (by repeat (first  | exact B0 | exact B1 | exact B2 | (apply Bx.new; (focus (first | (simp; done) | (simp; omega) | omega))) | (apply Bx.alloc; rotate_left; (focus (first | (simp; done) | (simp; omega) | omega))) | (apply Bx.setOther; rotate_left; (focus (first | (simp; done) | (simp; omega) | omega))) | apply Bx.setSame))
    replace B2o := B2.out
    replace B2f := B2.fr
    have HB5 : Hid (Below w.heap.size w w5) := hid (below_call (by repeat (first | exact HB3.out | refine Below.setCell ?_ (by simp; try omega) _)) hb)
    have HO5 : Hid (Own w1.heap.size w5 b3x [.slice p3 (d.Lines.length + 1) k3] (⟨d.First, d.Lines ++ [s]⟩ : HistD).Lines) := hid (Own.grow (by repeat (first | exact HS.out | refine Own.setCell' _ ?_ (fun b hb => by have := RS.out b hb; simp; try omega))) hb)
    clear hb
    cases hk2 : histOk ⟨d.First, d.Lines ++ [s]⟩
    · have h1 : histAddOk d s = false := by simp only [histAddOk, Hp.out, Hk.out, hk2, Bool.and_false]
      have HZ : Hid (histAddOk d s = false ∧ histAdd d s = ⟨0, []⟩) := hid ⟨h1, by rw [histAdd, h1]; rfl⟩
      clear h1 hk2
      go_wp2
      refine bodyPost_ret (v := .tuple #[.agg #[.int .i64 0, .slice none 0 0], .bool false]) (by simp [results, Try.results48, go_sem, B1o]) rfl ?_
      refine ⟨[.int .i64 0, .slice none 0 0], [], by rw [HZ.out.1], ?_, ?_⟩
      · rw [HZ.out.2]; exact own_Hist (d := ⟨0, []⟩) (by simp [I64]) (own_nil _ _)
      · exact (HB5.out.setCell (by simp) _).setCell (by simp) _
    · have h1 : histAddOk d s = true := by simp only [histAddOk, Hp.out, Hk.out, hk2, Bool.and_self]
      have HZ : Hid (histAddOk d s = true ∧ histAdd d s = ⟨d.First, d.Lines ++ [s]⟩) := hid ⟨h1, by rw [histAdd, h1, Hp.out]; rfl⟩
      clear h1 hk2
      go_wp2
      refine bodyPost_ret (v := .tuple #[.agg #[.int .i64 d.First, .slice p3 (d.Lines.length + 1) k3], .bool true]) (by simp [results, Try.results48, go_sem, B1o]) rfl ?_
      refine ⟨[.int .i64 d.First, .slice p3 (d.Lines.length + 1) k3], b3x, by rw [HZ.out.1], ?_, ?_⟩
      · rw [HZ.out.2]
        refine own_Hist (d := ⟨d.First, d.Lines ++ [s]⟩) (by unfold I64; simp only; omega) ?_
        exact (Own.setCell' _ (Own.setCell' _ HO5.out (fun b hb => by have := RS.out b hb; simp; try omega)) (fun b hb => by have := RS.out b hb; simp; try omega)).mono (by omega)
      · exact (HB5.out.setCell (by simp) _).setCell (by simp) _
end Go.Proofs.Ytdfpjchneofndaa
