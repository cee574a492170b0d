/- Draws: undo lists. -/
import Derived.Test.YtdfpjchneofndaaDrawM
import Derived.Test.YtdfpjchneofndaaUndoQ
import Derived.Test.YtdfpjchneofndaaLineL
set_option linter.unusedSimpArgs false
set_option linter.unusedVariables false
namespace Go.G6
open Go Go.RowKit
theorem undoPut_ok {d : UndoD} {l : LineD} (h : undoOk d = true) (hl : lineOk l = true) : undoPutOk d l = true ∧ undoOk (undoPut d l) = true := by
  have h1 : undoPutOk d l = true := by unfold undoPutOk; rw [h, hl]; rfl
  refine ⟨h1, ?_⟩
  unfold undoPut
  rw [if_pos h1]
  split
  · exact h
  · have h2 := h
    simp only [undoOk, Bool.and_eq_true, decide_eq_true_eq, List.all_eq_true] at h2 ⊢
    have hall : ∀ x ∈ d.Lines ++ [l], lineOk x = true := by
      intro x hx
      rcases List.mem_append.1 hx with hx | hx
      · exact h2.1 x hx
      · simp at hx; subst hx; exact hl
    show (∀ x ∈ undoNew d l, lineOk x = true) ∧ (undoNew d l).length ≤ 20
    unfold undoNew
    split
    · exact ⟨fun x hx => hall x (List.mem_of_mem_drop hx), by simp; omega⟩
    · exact ⟨hall, by simp; omega⟩
end Go.G6
namespace Go.Proofs.Ytdfpjchneofndaa
open Go.RowKit Go.G6
set_option maxHeartbeats 1600000
set_option maxRecDepth 10000
theorem s_MakeUndo {w : World} {bs : List Nat} {a : Option Addr} {len cap : Nat} {xs : List UInt8} (h : Slc w bs a len cap xs) :
    Calls Try.prog 58 #[.slice a len cap] w fun e w' => ∃ (b1 : List Nat) (a1 : Option Addr) (l1 k1 : Nat) (us : List LineD) (b2 : List Nat) (a2 : Option Addr) (k2 : Nat) (ys : List Int) (at0 : Nat), e = .returned (.tuple #[.agg #[.slice a1 l1 k1], .agg #[.slice a2 ys.length k2, .int .i64 (at0 : Int)]]) ∧ Slc w' b1 a1 l1 k1 us ∧ undoOk ⟨us⟩ = true ∧ Slc w' b2 a2 ys.length k2 ys ∧ (∀ r ∈ ys, typed r = true) ∧ ys.length ≤ 16 ∧ at0 ≤ ys.length ∧ Below w.heap.size w w' := by
  have HS := hid h; clear h
  go_enter Try.func58, Try.ntmps58
  go_wp2_with fail
  have hb0 : Below w.heap.size w ((w.alloc (.cells #[.slice none 0 0] 106)).alloc (.cells #[.slice none 0 0, .int .i64 0] 81)) := ((Below.refl _ _).alloc (Nat.le_refl _) _).alloc (by simp) _
  refine (s_l01New (HS.out.grow hb0)).mono ?_
  rintro e w1 ⟨p, hp0, rfl, hc1, hb⟩
  have hp1 : w.heap.size + 2 ≤ p := by simpa using hp0
  have HB := hid (below_call hb0 hb)
  have X := hid (Bx.below (b := w.heap.size) hb (by simp; omega) ((Bx.new w #[.slice none 0 0] 106 rfl).alloc (by simp) _))
  have V := hid (Bx.below (b := w.heap.size + 1) hb (by simp) (Bx.new (w.alloc (.cells #[.slice none 0 0] 106)) #[.slice none 0 0, .int .i64 0] 81 (by simp)))
  have HC1 := hid hc1
  have hpw := hc1.lt
  clear hb hc1 HS hp0 hb0
  obtain ⟨B, hB⟩ : ∃ B, B = w1.heap.size := ⟨_, rfl⟩
  rw [← hB] at HC1
  have hBp : p < B := HC1.out.lt
  go_upto_region 3 with fail
  refine late_genw (fun w2 hw2 => ?_)
  have hbb : Below w1.heap.size w1 w2 := by rw [hw2]; exact (Below.refl _ _).alloc (Nat.le_refl _) _
  have Y2 := hid (show Bx w2 w1.heap.size #[.slice none 0 0] by rw [hw2]; exact Bx.new _ _ _ rfl)
  have X2 := hid (Bx.below hbb X.out.f.lt X.out)
  have V2 := hid (Bx.below hbb V.out.f.lt V.out)
  have HB2 := hid (HB.out.trans (hbb.mono HB.out.size))
  have HC2 := hid (HC1.out.grow hbb)
  have hs2 : w1.heap.size + 1 = w2.heap.size := by rw [hw2]; simp
  clear hw2 hbb HC1 X V HB
  go_wp2_with fail
  refine (s_l01Below HC2.out 24 (by omega) (by omega)).mono ?_
  rintro e w3 ⟨n, hn, rfl, hc1, hT⟩
  have hs3 := hT.size
  have X3 := hid (Bx.tch (b := w.heap.size) hT (by omega) (by simp; omega) X2.out)
  have V3 := hid (Bx.tch (b := w.heap.size + 1) hT (by omega) (by simp; omega) V2.out)
  have Y3 := hid (Bx.tch (b := w1.heap.size) hT (by omega) (by simp; omega) Y2.out)
  have HB3 := hid (HB2.out.trans (hT.below HB2.out.size (by simp; omega)))
  have HC3 := hid hc1
  clear hc1 hT HC2 X2 V2 Y2 HB2
  go_wp2_with fail
  go_loopw [6] (fun i wr => ∃ (k : Nat) (bs : List Nat) (a : Option Addr) (l c : Nat) (us : List LineD), i = .int .i64 (k : Int) ∧ k ≤ 24 ∧ undoOk ⟨us⟩ = true ∧ Bx wr w.heap.size #[.slice none 0 0] ∧ Bx wr (w.heap.size + 1) #[.slice none 0 0, .int .i64 0] ∧ Bx wr w1.heap.size #[.slice a l c] ∧ Slc wr bs a l c us ∧ (∀ b ∈ bs, w1.heap.size < b) ∧ Cur B wr p xs ∧ Below w.heap.size w wr) (fun i _ => (intOf i).toNat)
  case atStart => exact ⟨n, [], none, 0, 0, [], rfl, by omega, rfl, X3.out, V3.out, Y3.out, slc_nil _, by simp, HC3.out, HB3.out⟩
  case round =>
    obtain ⟨k, bs, a, l, c, us, rfl, hk24, hU, hX, hV, hY, hS, hbs, hC, hBl⟩ := hrel
    obtain rfl := hS.len_eq
    have HXr := hid hX; have HVr := hid hV; have HYr := hid hY; have HSr := hid hS; have HCr := hid hC; have HBr := hid hBl; have HU := hid hU; have HBS := hid hbs
    have hY1 := hY.f.lt; have hX1 := hX.f.lt
    clear hX hV hY hS hbs hC hBl hU X3 V3 Y3 HB3 HC3
    by_cases hk : k = 0
    · subst hk
      go_wp2_with fail
      refine (s_l13Draw HCr.out).mono ?_
      rintro e w4 ⟨v, b1, ys, at0, rfl, hO, hty, hl, hat, hc2, hT⟩
      obtain ⟨pa, pc, bx, rfl, hbx, hSy⟩ := hO.slc
      have hs4 := hT.size
      have X4 := hid (Bx.tch (b := w.heap.size) hT (by omega) (by simp; omega) HXr.out)
      have V4 := hid (Bx.tch (b := w.heap.size + 1) hT (by omega) (by simp; omega) HVr.out)
      have Y4 := hid (Bx.tch (b := w1.heap.size) hT (by omega) (by simp; omega) HYr.out)
      have HB4 := hid (HBr.out.trans (hT.below HBr.out.size (by simp; omega)))
      have S4 := hid (HSr.out.tch hT (fun b hb hm => by have := HBS.out b hb; simp at hm; omega))
      have T4 := hid hSy
      have TB := hid (fun b (hb : b ∈ bx) => (hO.lts b (hbx b hb)).1)
      have HTY := hid hty
      clear hT hO hbx hSy hty hc2 HXr HVr HYr HSr HBr HCr
      go_upto_region 9 with fail
      refine late_genw (fun w5 hw5 => ?_)
      have hbb : Below w4.heap.size w4 w5 := by rw [hw5]; exact (Below.refl _ _).alloc (Nat.le_refl _) _
      have Z5 := hid (show Bx w5 w4.heap.size #[.slice pa ys.length pc, .int .i64 (at0 : Int)] by rw [hw5]; exact Bx.new _ _ _ rfl)
      have X5 := hid (Bx.below hbb X4.out.f.lt X4.out)
      have V5 := hid (Bx.below hbb V4.out.f.lt V4.out)
      have Y5 := hid (Bx.below hbb Y4.out.f.lt Y4.out)
      have HB5 := hid (HB4.out.trans (hbb.mono HB4.out.size))
      have S5 := hid (S4.out.grow hbb)
      have T5 := hid (T4.out.grow hbb)
      clear hw5 hbb X4 V4 Y4 HB4 S4 T4
      have y0 : w5.cell? ⟨w1.heap.size, 0, none⟩ = some (.slice a us.length c) := Y5.out.out 0
      have z0 : w5.cell? ⟨w4.heap.size, 0, none⟩ = some (.slice pa ys.length pc) := Z5.out.out 0
      have z1 : w5.cell? ⟨w4.heap.size, 1, none⟩ = some (.int .i64 (at0 : Int)) := Z5.out.out 1
      have x5 := X5.out.out; have x5f := X5.out.fr; have v5 := V5.out.out; have v5f := V5.out.fr
      have hx8 := X5.out.f.lt; have hv8 := V5.out.f.lt
      go_wp2_with fail
      refine late_start (fun W => W.cell? ⟨w1.heap.size, 0, none⟩ = some (.slice a us.length c) ∧ W.cell? ⟨w4.heap.size, 0, none⟩ = some (.slice pa ys.length pc) ∧ W.cell? ⟨w4.heap.size, 1, none⟩ = some (.int .i64 (at0 : Int))) 99 (by kernel_rfl) ?_ (fun hS => ?_)
      · exact ⟨y0, z0, z1⟩
      clear y0 z0 z1
      refine late_take (i := 0) (v := ?_) rfl (by kernel_rfl) (fun _ _ _ h => h) (by rfl) ?_ (by assumption) ?_
      rotate_left
      · (intro w9 hS9; (try dsimp only at hS9); (try go_split_ands); go_simp <;> with_reducible rfl)
      try simp only [Act.put, List.setIfInBounds_toArray, List.set_cons_zero, List.set_cons_succ]
      refine late_take (i := 1) (v := ?_) rfl (by kernel_rfl) (fun _ _ _ h => h) (by rfl) ?_ (by assumption) ?_
      rotate_left
      · (intro w9 hS9; (try dsimp only at hS9); (try go_split_ands); go_simp <;> with_reducible rfl)
      try simp only [Act.put, List.setIfInBounds_toArray, List.set_cons_zero, List.set_cons_succ]
      refine late_one (i := 2) rfl (by kernel_rfl) (fun K9 hK9 => ?_)
      go_simp
      refine hK9.out _ _ (fun _ => ?_) (fun hS9 => ?_)
      · (try dsimp only); exact ⟨(World.cell?_setCell_far _ _ _ _ (by simp; omega)).trans hS.1, (World.cell?_setCell_far _ _ _ _ (by simp; omega)).trans hS.2.1, (World.cell?_setCell_far _ _ _ _ (by simp; omega)).trans hS.2.2⟩
      replace hS := hS9 (by decide)
      clear hK9 K9 hS9
      try simp only [Act.put, List.setIfInBounds_toArray, List.set_cons_zero, List.set_cons_succ]
      refine late_one (i := 3) rfl (by kernel_rfl) (fun K9 hK9 => ?_)
      go_simp
      refine hK9.out _ _ (fun _ => ?_) (fun hS9 => ?_)
      · (try dsimp only); exact ⟨(World.cell?_setCell_far _ _ _ _ (by simp; omega)).trans ((World.cell?_setCell_far _ _ _ _ (by simp; omega)).trans hS.1), (World.cell?_setCell_far _ _ _ _ (by simp; omega)).trans ((World.cell?_setCell_far _ _ _ _ (by simp; omega)).trans hS.2.1), (World.cell?_setCell_far _ _ _ _ (by simp; omega)).trans ((World.cell?_setCell_far _ _ _ _ (by simp; omega)).trans hS.2.2)⟩
      replace hS := hS9 (by decide)
      clear hK9 K9 hS9
      try simp only [Act.put, List.setIfInBounds_toArray, List.set_cons_zero, List.set_cons_succ]
      refine late_done (by kernel_rfl) ?_ _
      go_wp2
      refine bodyPost_ret (v := .tuple #[.agg #[.slice a us.length c], .agg #[.slice pa ys.length pc, .int .i64 (at0 : Int)]]) (by simp [results, Try.results58, go_sem, x5, v5]) rfl ?_
      have hT9 := ((((Tch.refl [w.heap.size, w.heap.size + 1] w5).setCell (p := ⟨w.heap.size, 0, none⟩) (by simp) (.slice a us.length c)).setCell (p := ⟨w.heap.size + 1, 0, none⟩) (by simp) (.slice pa ys.length pc)).setCell (p := ⟨w.heap.size + 1, 1, none⟩) (by simp) (.int .i64 (at0 : Int))).drew
      refine ⟨bs, a, us.length, c, us, bx, pa, pc, ys, at0, rfl, ?_, HU.out, ?_, HTY.out, hl, hat, ?_⟩
      · exact S5.out.tch hT9 (fun b hb hm => by have := HBS.out b hb; simp at hm; omega)
      · exact T5.out.tch hT9 (fun b hb hm => by have := TB.out b hb; simp at hm; omega)
      · exact HB5.out.trans (hT9.below HB5.out.size (by simp))
    obtain ⟨k, rfl⟩ : ∃ j, k = j + 1 := ⟨k - 1, by omega⟩
    have hk0 : (0 : Int) < ((k + 1 : Nat) : Int) := by omega
    go_wp2_with fail
    refine (s_l13Runes HCr.out 3 (by omega)).mono ?_
    rintro e w2 ⟨v, b1, ts, rfl, hO, hty, hl, hc2, hT⟩
    obtain ⟨pa, pc, bx, rfl, hbx, hSy⟩ := hO.slc
    have hs2 := hT.size
    have X2 := hid (Bx.tch (b := w.heap.size) hT (by omega) (by simp; omega) HXr.out)
    have V2 := hid (Bx.tch (b := w.heap.size + 1) hT (by omega) (by simp; omega) HVr.out)
    have Y2 := hid (Bx.tch (b := w1.heap.size) hT (by omega) (by simp; omega) HYr.out)
    have HB2 := hid (HBr.out.trans (hT.below HBr.out.size (by simp; omega)))
    have S2 := hid (HSr.out.tch hT (fun b hb hm => by have := HBS.out b hb; simp at hm; omega))
    have TS2 := hid hSy
    have TB := hid (fun b (hb : b ∈ bx) => (hO.lts b (hbx b hb)).1)
    have HTY := hid hty
    have HC2 := hid hc2
    clear hT hO hbx hSy hty hc2 HXr HVr HYr HSr HBr HCr
    have y := Y2.out.out
    have y0 : w2.cell? ⟨w1.heap.size, 0, none⟩ = some (.slice a us.length c) := y 0
    clear y
    go_wp2_with fail
    refine late_start (fun _ => True) 99 (by kernel_rfl) ?_ (fun hS => ?_)
    · trivial
    refine late_take (i := 1) (v := ?_) rfl (by kernel_rfl) (fun _ _ _ h => h) (by rfl) ?_ (by assumption) ?_
    rotate_left
    · (intro w9 hS9; (try dsimp only at hS9); (try go_split_ands); go_simp <;> with_reducible rfl)
    try simp only [Act.put, List.setIfInBounds_toArray, List.set_cons_zero, List.set_cons_succ]
    refine late_take (i := 2) (v := ?_) rfl (by kernel_rfl) (fun _ _ _ h => h) (by rfl) ?_ (by assumption) ?_
    rotate_left
    · (intro w9 hS9; (try dsimp only at hS9); (try go_split_ands); go_simp <;> with_reducible rfl)
    try simp only [Act.put, List.setIfInBounds_toArray, List.set_cons_zero, List.set_cons_succ]
    refine late_take (i := 3) (v := ?_) rfl (by kernel_rfl) (fun _ _ _ h => h) (by rfl) ?_ (by assumption) ?_
    rotate_left
    · (intro w9 hS9; (try dsimp only at hS9); (try go_split_ands); go_simp <;> with_reducible rfl)
    try simp only [Act.put, List.setIfInBounds_toArray, List.set_cons_zero, List.set_cons_succ]
    refine late_take (i := 4) (v := ?_) rfl (by kernel_rfl) (fun _ _ _ h => h) (by rfl) ?_ (by assumption) ?_
    rotate_left
    · (intro w9 hS9; (try dsimp only at hS9); (try go_split_ands); go_simp <;> with_reducible rfl)
    try simp only [Act.put, List.setIfInBounds_toArray, List.set_cons_zero, List.set_cons_succ]
    refine late_take (i := 5) (v := ?_) rfl (by kernel_rfl) (fun _ _ _ h => h) (by rfl) ?_ (by assumption) ?_
    rotate_left
    · (intro w9 hS9; (try dsimp only at hS9); (try go_split_ands); go_simp <;> with_reducible rfl)
    try simp only [Act.put, List.setIfInBounds_toArray, List.set_cons_zero, List.set_cons_succ]
    refine late_two (i := 0) (j := 6) rfl rfl (by kernel_rfl) (fun K9 hK9 => ?_) (fun K9 hK9 => ?_)
    · go_simp
      refine hK9.out _ _ (fun _ => ?_) (fun hS9 => ?_)
      · (try dsimp only); skip
      replace hS := hS9 (by decide)
      clear hK9 K9 hS9
      try simp only [Act.put, List.setIfInBounds_toArray, List.set_cons_zero, List.set_cons_succ]
      clear y0
      refine late_one (i := 6) rfl (by kernel_rfl) (fun K9 hK9 => ?_)
      go_simp
      rw [show IntKind.i64.wrap ((ts.length : Int) + 1) = (ts.length : Int) + 1 from wrapI (by omega)]
      have HCd : Cur B w2.drew p xs := HC2.out.grow ⟨rfl, rfl, rfl, Nat.le_refl _, fun _ _ => rfl⟩
      refine (s_l01Below HCd ((ts.length : Int) + 1) (by omega) (by omega)).mono ?_
      rintro e w5 ⟨q, hq, rfl, hc5, hT5⟩
      have hs5 : w2.heap.size ≤ w5.heap.size := hT5.size
      have X5 := hid (Bx.tch (b := w.heap.size) hT5 (by show w.heap.size < w2.heap.size; omega) (by simp; omega) X2.out.drew)
      have V5 := hid (Bx.tch (b := w.heap.size + 1) hT5 (by show w.heap.size + 1 < w2.heap.size; omega) (by simp; omega) V2.out.drew)
      have Y5 := hid (Bx.tch (b := w1.heap.size) hT5 (by show w1.heap.size < w2.heap.size; omega) (by simp; omega) Y2.out.drew)
      have S5 := hid (Slc.tch (S2.out.keepL (w' := w2.drew) fun _ _ => rfl) hT5 (fun b hb hm => by have := HBS.out b hb; simp at hm; omega))
      have TS5 := hid (Slc.tch (TS2.out.keepL (w' := w2.drew) fun _ _ => rfl) hT5 (fun b hb hm => by have := TB.out b hb; simp at hm; omega))
      have B5 := hid ((HB2.out.drew).trans (hT5.below (show w.heap.size ≤ w2.heap.size by omega) (by simp; omega)))
      have C5 := hid hc5
      go_wp2_with fail
      refine hK9.out _ _ (fun _ => ?_) (fun hS9 => ?_)
      · (try dsimp only); skip
      replace hS := hS9 (by decide)
      clear hK9 K9 hS9
      try simp only [Act.put, List.setIfInBounds_toArray, List.set_cons_zero, List.set_cons_succ]
      clear hT5 hc5 HCd X2 V2 Y2 S2 TS2 HB2 HC2
      have hlk : lineOk ⟨ts, (q : Int)⟩ = true := lineOk_mk HTY.out (by omega) (by omega)
      have hadd := undoPut_ok HU.out hlk
      have HA := hid hadd
      clear hadd hlk
      refine late_take (i := 7) (v := ?_) rfl (by kernel_rfl) (fun _ _ _ h => h) (by rfl) ?_ (by assumption) ?_
      rotate_left
      · (intro w9 hS9; (try dsimp only at hS9); (try go_split_ands); go_simp <;> with_reducible rfl)
      try simp only [Act.put, List.setIfInBounds_toArray, List.set_cons_zero, List.set_cons_succ]
      refine late_one (i := 8) rfl (by kernel_rfl) (fun K9 hK9 => ?_)
      go_simp
      refine (s_UndoPut (mk_Undo (d := ⟨us⟩) S5.out) (mk_Line (d := ⟨ts, (q : Int)⟩) TS5.out (by unfold I64; show _ ≤ (q : Int) ∧ (q : Int) ≤ _; omega))).mono ?_
      rintro e w6 ⟨cs6, b6, rfl, hO, hb⟩
      rw [HA.out.1]
      obtain ⟨a6, l6, k6, rfl, s6⟩ := open_Undo hO.1
      have hs6 := hb.size
      have X6 := hid (Bx.below hb X5.out.f.lt X5.out)
      have V6 := hid (Bx.below hb V5.out.f.lt V5.out)
      have Y6 := hid (Bx.below hb Y5.out.f.lt Y5.out)
      have S6 := hid s6
      have B6 := hid (fun b hb' => (hO.2.2 b hb').1)
      have D6 := hid (B5.out.trans (hb.mono B5.out.size))
      have C6 := hid (C5.out.grow hb)
      go_wp2_with fail
      refine hK9.out _ _ (fun _ => ?_) (fun hS9 => ?_)
      · (try dsimp only); skip
      replace hS := hS9 (by decide)
      clear hK9 K9 hS9
      try simp only [Act.put, List.setIfInBounds_toArray, List.set_cons_zero, List.set_cons_succ]
      clear hb hO s6 X5 V5 Y5 S5 TS5 B5 C5
      have y6 := Y6.out.out; have y6f := Y6.out.fr
      refine late_take (i := 9) (v := ?_) rfl (by kernel_rfl) (fun _ _ _ h => h) (by rfl) ?_ (by assumption) ?_
      rotate_left
      · (intro w9 hS9; (try dsimp only at hS9); (try go_split_ands); go_simp <;> with_reducible rfl)
      try simp only [Act.put, List.setIfInBounds_toArray, List.set_cons_zero, List.set_cons_succ]
      refine late_take (i := 10) (v := ?_) rfl (by kernel_rfl) (fun _ _ _ h => h) (by rfl) ?_ (by assumption) ?_
      rotate_left
      · (intro w9 hS9; (try dsimp only at hS9); (try go_split_ands); go_simp <;> with_reducible rfl)
      try simp only [Act.put, List.setIfInBounds_toArray, List.set_cons_zero, List.set_cons_succ]
      refine late_take (i := 11) (v := ?_) rfl (by kernel_rfl) (fun _ _ _ h => h) (by rfl) ?_ (by assumption) ?_
      rotate_left
      · (intro w9 hS9; (try dsimp only at hS9); (try go_split_ands); go_simp <;> with_reducible rfl)
      try simp only [Act.put, List.setIfInBounds_toArray, List.set_cons_zero, List.set_cons_succ]
      refine late_one (i := 12) rfl (by kernel_rfl) (fun K9 hK9 => ?_)
      go_simp
      refine hK9.out _ _ (fun _ => ?_) (fun hS9 => ?_)
      · (try dsimp only); skip
      replace hS := hS9 (by decide)
      clear hK9 K9 hS9
      try simp only [Act.put, List.setIfInBounds_toArray, List.set_cons_zero, List.set_cons_succ]
      refine late_done (by kernel_rfl) ?_ _
      go_wp2
      refine ⟨⟨k, b6, a6, l6, k6, _, rfl, by omega, HA.out.2, ?_, ?_, ?_, ?_, ?_, ?_, ?_⟩, by simp [intOf]⟩
      · exact X6.out.setOther (by simp; omega) _
      · exact V6.out.setOther (by simp; omega) _
      · exact Y6.out.setSame 0 _
      · exact S6.out.tch ((Tch.refl [w1.heap.size] w6).setCell (by simp) _) (fun b hb hm => by have := B6.out b hb; simp at hm; omega)
      · exact fun b hb => by have := B6.out b hb; omega
      · exact Cur.tchUp C6.out ((Tch.refl [w1.heap.size] w6).setCell (by simp) _) (by simp; omega)
      · exact D6.out.setCell (by simp; omega) _
    · clear y0
      go_simp
      rw [show IntKind.i64.wrap ((ts.length : Int) + 1) = (ts.length : Int) + 1 from wrapI (by omega)]
      have HCd : Cur B w2.drew p xs := HC2.out.grow ⟨rfl, rfl, rfl, Nat.le_refl _, fun _ _ => rfl⟩
      refine (s_l01Below HCd ((ts.length : Int) + 1) (by omega) (by omega)).mono ?_
      rintro e w5 ⟨q, hq, rfl, hc5, hT5⟩
      have hs5 : w2.heap.size ≤ w5.heap.size := hT5.size
      have X5 := hid (Bx.tch (b := w.heap.size) hT5 (by show w.heap.size < w2.heap.size; omega) (by simp; omega) X2.out.drew)
      have V5 := hid (Bx.tch (b := w.heap.size + 1) hT5 (by show w.heap.size + 1 < w2.heap.size; omega) (by simp; omega) V2.out.drew)
      have Y5 := hid (Bx.tch (b := w1.heap.size) hT5 (by show w1.heap.size < w2.heap.size; omega) (by simp; omega) Y2.out.drew)
      have S5 := hid (Slc.tch (S2.out.keepL (w' := w2.drew) fun _ _ => rfl) hT5 (fun b hb hm => by have := HBS.out b hb; simp at hm; omega))
      have TS5 := hid (Slc.tch (TS2.out.keepL (w' := w2.drew) fun _ _ => rfl) hT5 (fun b hb hm => by have := TB.out b hb; simp at hm; omega))
      have B5 := hid ((HB2.out.drew).trans (hT5.below (show w.heap.size ≤ w2.heap.size by omega) (by simp; omega)))
      have C5 := hid hc5
      go_wp2_with fail
      refine hK9.out _ _ (fun _ => ?_) (fun hS9 => ?_)
      · (try dsimp only); skip
      replace hS := hS9 (by decide)
      clear hK9 K9 hS9
      try simp only [Act.put, List.setIfInBounds_toArray, List.set_cons_zero, List.set_cons_succ]
      clear hT5 hc5 HCd X2 V2 Y2 S2 TS2 HB2 HC2
      have y5 := Y5.out.out
      refine late_take (i := 7) (v := ?_) rfl (by kernel_rfl) (fun _ _ _ h => h) (by rfl) ?_ (by assumption) ?_
      rotate_left
      · (intro w9 hS9; (try dsimp only at hS9); (try go_split_ands); go_simp <;> with_reducible rfl)
      try simp only [Act.put, List.setIfInBounds_toArray, List.set_cons_zero, List.set_cons_succ]
      refine late_one (i := 0) rfl (by kernel_rfl) (fun K9 hK9 => ?_)
      go_simp
      refine hK9.out _ _ (fun _ => ?_) (fun hS9 => ?_)
      · (try dsimp only); skip
      replace hS := hS9 (by decide)
      clear hK9 K9 hS9
      try simp only [Act.put, List.setIfInBounds_toArray, List.set_cons_zero, List.set_cons_succ]
      clear y5
      have hlk : lineOk ⟨ts, (q : Int)⟩ = true := lineOk_mk HTY.out (by omega) (by omega)
      have hadd := undoPut_ok HU.out hlk
      have HA := hid hadd
      clear hadd hlk
      refine late_one (i := 8) rfl (by kernel_rfl) (fun K9 hK9 => ?_)
      go_simp
      refine (s_UndoPut (mk_Undo (d := ⟨us⟩) S5.out) (mk_Line (d := ⟨ts, (q : Int)⟩) TS5.out (by unfold I64; show _ ≤ (q : Int) ∧ (q : Int) ≤ _; omega))).mono ?_
      rintro e w6 ⟨cs6, b6, rfl, hO, hb⟩
      rw [HA.out.1]
      obtain ⟨a6, l6, k6, rfl, s6⟩ := open_Undo hO.1
      have hs6 := hb.size
      have X6 := hid (Bx.below hb X5.out.f.lt X5.out)
      have V6 := hid (Bx.below hb V5.out.f.lt V5.out)
      have Y6 := hid (Bx.below hb Y5.out.f.lt Y5.out)
      have S6 := hid s6
      have B6 := hid (fun b hb' => (hO.2.2 b hb').1)
      have D6 := hid (B5.out.trans (hb.mono B5.out.size))
      have C6 := hid (C5.out.grow hb)
      go_wp2_with fail
      refine hK9.out _ _ (fun _ => ?_) (fun hS9 => ?_)
      · (try dsimp only); skip
      replace hS := hS9 (by decide)
      clear hK9 K9 hS9
      try simp only [Act.put, List.setIfInBounds_toArray, List.set_cons_zero, List.set_cons_succ]
      clear hb hO s6 X5 V5 Y5 S5 TS5 B5 C5
      have y6 := Y6.out.out; have y6f := Y6.out.fr
      refine late_take (i := 9) (v := ?_) rfl (by kernel_rfl) (fun _ _ _ h => h) (by rfl) ?_ (by assumption) ?_
      rotate_left
      · (intro w9 hS9; (try dsimp only at hS9); (try go_split_ands); go_simp <;> with_reducible rfl)
      try simp only [Act.put, List.setIfInBounds_toArray, List.set_cons_zero, List.set_cons_succ]
      refine late_take (i := 10) (v := ?_) rfl (by kernel_rfl) (fun _ _ _ h => h) (by rfl) ?_ (by assumption) ?_
      rotate_left
      · (intro w9 hS9; (try dsimp only at hS9); (try go_split_ands); go_simp <;> with_reducible rfl)
      try simp only [Act.put, List.setIfInBounds_toArray, List.set_cons_zero, List.set_cons_succ]
      refine late_take (i := 11) (v := ?_) rfl (by kernel_rfl) (fun _ _ _ h => h) (by rfl) ?_ (by assumption) ?_
      rotate_left
      · (intro w9 hS9; (try dsimp only at hS9); (try go_split_ands); go_simp <;> with_reducible rfl)
      try simp only [Act.put, List.setIfInBounds_toArray, List.set_cons_zero, List.set_cons_succ]
      refine late_one (i := 12) rfl (by kernel_rfl) (fun K9 hK9 => ?_)
      go_simp
      refine hK9.out _ _ (fun _ => ?_) (fun hS9 => ?_)
      · (try dsimp only); skip
      replace hS := hS9 (by decide)
      clear hK9 K9 hS9
      try simp only [Act.put, List.setIfInBounds_toArray, List.set_cons_zero, List.set_cons_succ]
      refine late_done (by kernel_rfl) ?_ _
      go_wp2
      refine ⟨⟨k, b6, a6, l6, k6, _, rfl, by omega, HA.out.2, ?_, ?_, ?_, ?_, ?_, ?_, ?_⟩, by simp [intOf]⟩
      · exact X6.out.setOther (by simp; omega) _
      · exact V6.out.setOther (by simp; omega) _
      · exact Y6.out.setSame 0 _
      · exact S6.out.tch ((Tch.refl [w1.heap.size] w6).setCell (by simp) _) (fun b hb hm => by have := B6.out b hb; simp at hm; omega)
      · exact fun b hb => by have := B6.out b hb; omega
      · exact Cur.tchUp C6.out ((Tch.refl [w1.heap.size] w6).setCell (by simp) _) (by simp; omega)
      · exact D6.out.setCell (by simp; omega) _
end Go.Proofs.Ytdfpjchneofndaa
