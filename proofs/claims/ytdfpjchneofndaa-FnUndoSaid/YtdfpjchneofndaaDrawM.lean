/- Draws: lines. -/
import Derived.Test.YtdfpjchneofndaaDraw
set_option linter.unusedSimpArgs false
set_option linter.unusedVariables false
namespace Go.Proofs.Ytdfpjchneofndaa
open Go.RowKit Go.G6
set_option maxHeartbeats 1600000
set_option maxRecDepth 10000
theorem s_MakeLine {w : World} {bs : List Nat} {a : Option Addr} {len cap : Nat} {xs : List UInt8} (h : Slc w bs a len cap xs) :
    Calls Try.prog 40 #[.slice a len cap] w fun e w' => ∃ v b1 ys, ∃ at0 : Nat, ∃ v2 b2 ts, ∃ x y : Nat, e = .returned (.tuple #[.agg #[v, .int .i64 (at0 : Int)], v2, .int .i64 (x : Int), .int .i64 (y : Int)]) ∧
      OwnL w.heap.size w' 3 v b1 ys ∧ (∀ r ∈ ys, typed r = true) ∧ ys.length ≤ 16 ∧ at0 ≤ ys.length ∧ OwnL w.heap.size w' 3 v2 b2 ts ∧ (∀ r ∈ ts, typed r = true) ∧ ts.length ≤ 5 ∧ x ≤ y ∧ y ≤ ys.length ∧ (∀ b ∈ b1, b ∉ b2) ∧ Below w.heap.size w w' := by
  have HS := hid h; clear h
  go_enter Try.func40, Try.ntmps40
  go_wp2_with fail
  refine (s_l01New (HS.out.grow ((Below.refl _ _).alloc (Nat.le_refl _) _))).mono ?_
  rintro e w1 ⟨p, hp0, rfl, hc1, hb⟩
  have hp1 : w.heap.size + 1 ≤ p := by simpa using hp0
  have HB := hid (below_call ((Below.refl _ _).alloc (Nat.le_refl _) _) hb)
  have X := hid (Bx.below (b := w.heap.size) hb (by simp) (Bx.new w _ _ rfl))
  have HC1 := hid hc1
  have hpw := hc1.lt
  clear hb hc1 HS hp0
  obtain ⟨B, hB⟩ : ∃ B, B = w1.heap.size := ⟨_, rfl⟩
  rw [← hB] at HC1
  have hBp : p < B := HC1.out.lt
  go_wp2_with fail
  refine (s_l13Draw HC1.out).mono ?_
  rintro e w2 ⟨v, b1, ys, at0, rfl, hO, hty, hl, hat, hc2, hT⟩
  obtain ⟨pa, pc, rfl⟩ := hO.slice
  have hs2 := hT.size
  have X2 := hid (Bx.tch (b := w.heap.size) hT (by omega) (by simp; omega) X.out)
  have HB2 := hid (HB.out.trans (hT.below HB.out.size (by simp; omega)))
  have HO := hid (hO.mono (Nat.le_trans (Nat.le_succ _) (by omega : w.heap.size + 1 ≤ w1.heap.size)) |>.alloc (.cells #[.slice pa ys.length pc, .int .i64 (at0 : Int)] 81))
  have HL := hid hO.lts
  have HC2 := hid hc2; have HTY := hid hty
  clear hO hc2 hty hT HC1 X HB
  have X3 := hid (X2.out.alloc (by omega) (.cells #[.slice pa ys.length pc, .int .i64 (at0 : Int)] 81))
  have Y := hid (Bx.new w2 #[.slice pa ys.length pc, .int .i64 (at0 : Int)] 81 rfl)
  have HB3 := hid (HB2.out.alloc HB2.out.size (.cells #[.slice pa ys.length pc, .int .i64 (at0 : Int)] 81))
  have HC3 := hid (HC2.out.grow ((Below.refl _ _).alloc (Nat.le_refl _) (.cells #[.slice pa ys.length pc, .int .i64 (at0 : Int)] 81)))
  clear HC2 X2 HB2
  go_upto_region 3 with fail
  refine late_genw (fun w3 hw3 => ?_)
  rw [← hw3] at HO X3 Y HB3 HC3
  have hs3 : w2.heap.size + 1 = w3.heap.size := by rw [hw3]; simp
  clear hw3
  have y3 := Y.out.out
  go_wp2_with fail
  refine (s_l01Below HC3.out ((ys.length : Int) + 1) (by omega) (by omega)).mono ?_
  rintro e w4 ⟨x, hx, rfl, hc4, hT4⟩
  have hs4 := hT4.size
  have HO4 := hid (HO.out.tch hT4 (fun b hb hm => by have := (HL.out b hb).1; simp at hm; omega))
  have X4 := hid (Bx.tch (b := w.heap.size) hT4 (by omega) (by simp; omega) X3.out)
  have Y4 := hid (Bx.tch (b := w2.heap.size) hT4 (by omega) (by simp; omega) Y.out)
  have HB4 := hid (HB3.out.trans (hT4.below HB3.out.size (by simp; omega)))
  have HC4 := hid hc4
  clear hT4 hc4 HO X3 Y HB3 HC3 y3
  have y4 := Y4.out.out
  go_wp2_with fail
  refine (s_l01Below HC4.out ((ys.length : Int) - (x : Int) + 1) (by omega) (by omega)).mono ?_
  rintro e w5 ⟨y, hy, rfl, hc5, hT5⟩
  have hs5 := hT5.size
  have HO5 := hid (HO4.out.tch hT5 (fun b hb hm => by have := (HL.out b hb).1; simp at hm; omega))
  have X5 := hid (Bx.tch (b := w.heap.size) hT5 (by omega) (by simp; omega) X4.out)
  have Y5 := hid (Bx.tch (b := w2.heap.size) hT5 (by omega) (by simp; omega) Y4.out)
  have HB5 := hid (HB4.out.trans (hT5.below HB4.out.size (by simp; omega)))
  have HC5 := hid hc5
  clear hT5 hc5 HO4 X4 Y4 HB4 HC4 y4
  have y5 := Y5.out.out
  have z0 : w5.cell? ⟨w2.heap.size, 0, none⟩ = some (.slice pa ys.length pc) := y5 0
  have z1 : w5.cell? ⟨w2.heap.size, 1, none⟩ = some (.int .i64 (at0 : Int)) := y5 1
  clear y5
  go_wp2_with fail
  refine late_start (fun W => W.cell? ⟨w2.heap.size, 0, none⟩ = some (.slice pa ys.length pc) ∧ W.cell? ⟨w2.heap.size, 1, none⟩ = some (.int .i64 (at0 : Int))) 99 (by kernel_rfl) ?_ (fun hS => ?_)
  · exact ⟨z0, z1⟩
  clear z0 z1 Y5
  refine late_take (i := 0) (v := ?_) rfl (by kernel_rfl) (fun _ _ _ h => h) (by rfl) ?_ (by assumption) ?_
  rotate_left
  · (intro w9 hS9; (try dsimp only at hS9); (try go_split_ands); go_simp <;> with_reducible rfl)
  try simp only [Act.put, List.setIfInBounds_toArray, List.set_cons_zero, List.set_cons_succ]
  refine late_take (i := 1) (v := ?_) rfl (by kernel_rfl) (fun _ _ _ h => h) (by rfl) ?_ (by assumption) ?_
  rotate_left
  · (intro w9 hS9; (try dsimp only at hS9); (try go_split_ands); go_simp <;> with_reducible rfl)
  try simp only [Act.put, List.setIfInBounds_toArray, List.set_cons_zero, List.set_cons_succ]
  refine late_take (i := 3) (v := ?_) rfl (by kernel_rfl) (fun _ _ _ h => h) (by rfl) ?_ (by assumption) ?_
  rotate_left
  · (intro w9 hS9; (try dsimp only at hS9); (try go_split_ands); go_simp <;> with_reducible rfl)
  try simp only [Act.put, List.setIfInBounds_toArray, List.set_cons_zero, List.set_cons_succ]
  refine late_take (i := 4) (v := ?_) rfl (by kernel_rfl) (fun _ _ _ h => h) (by rfl) ?_ (by assumption) ?_
  rotate_left
  · (intro w9 hS9; (try dsimp only at hS9); (try go_split_ands); go_simp <;> with_reducible rfl)
  try simp only [Act.put, List.setIfInBounds_toArray, List.set_cons_zero, List.set_cons_succ]
  refine late_one (i := 2) rfl (by kernel_rfl) (fun K9 hK9 => ?_)
  go_simp
  have HC5' : Cur B w5.drew p xs := HC5.out.grow ⟨rfl, rfl, rfl, Nat.le_refl _, fun _ _ => rfl⟩
  refine (s_l13Runes HC5' 5 (by omega)).mono ?_
  rintro e w6 ⟨v2, b2, ts, rfl, hO6, hty6, hl6, hc6, hT6⟩
  have hs6 : w5.heap.size ≤ w6.heap.size := hT6.size
  have HO6 := hid (HO5.out.drew.tch hT6 (fun b hb hm => by have := (HL.out b hb).1; simp at hm; omega))
  have X6 := hid (Bx.tch (b := w.heap.size) hT6 (by show w.heap.size < w5.heap.size; omega) (by simp; omega) X5.out.drew)
  have HB6 := hid ((HB5.out.drew).trans (hT6.below (show w.heap.size ≤ w5.heap.size by omega) (by simp; omega)))
  have HQ := hid (show OwnL w5.heap.size w6 3 v2 b2 ts from hO6)
  have HD := hid (fun b (hb : b ∈ b1) (h2 : b ∈ b2) => show False by have q1 := (HL.out b hb).2; have q2 := (HQ.out.lts b h2).1; omega)
  have HTY6 := hid hty6
  go_wp2_with fail
  refine hK9.out _ _ (fun _ => ?_) (fun hS9 => ?_)
  · (try dsimp only); exact ⟨cellc hT6 hS.1 (by simp; omega), cellc hT6 hS.2 (by simp; omega)⟩
  replace hS := hS9 (by decide)
  clear hK9 K9 hS9
  try simp only [Act.put, List.setIfInBounds_toArray, List.set_cons_zero, List.set_cons_succ]
  clear hT6 hO6 hty6 hc6 HC5 HO5 X5 HB5
  have x6 := X6.out.out; have x6f := X6.out.fr
  refine late_one (i := 5) rfl (by kernel_rfl) (fun K9 hK9 => ?_)
  go_simp
  refine hK9.out _ _ (fun _ => ?_) (fun hS9 => ?_)
  · (try dsimp only); exact ⟨(World.cell?_setCell_far _ _ _ _ (by simp; omega)).trans ((World.cell?_setCell_far _ _ _ _ (by simp; omega)).trans hS.1), (World.cell?_setCell_far _ _ _ _ (by simp; omega)).trans ((World.cell?_setCell_far _ _ _ _ (by simp; omega)).trans hS.2)⟩
  replace hS := hS9 (by decide)
  clear hK9 K9 hS9
  try simp only [Act.put, List.setIfInBounds_toArray, List.set_cons_zero, List.set_cons_succ]
  refine late_take (i := 6) (v := ?_) rfl (by kernel_rfl) (fun _ _ _ h => h) (by rfl) ?_ (by assumption) ?_
  rotate_left
  · (intro w9 hS9; (try dsimp only at hS9); (try go_split_ands); go_simp <;> with_reducible rfl)
  try simp only [Act.put, List.setIfInBounds_toArray, List.set_cons_zero, List.set_cons_succ]
  refine late_take (i := 7) (v := ?_) rfl (by kernel_rfl) (fun _ _ _ h => h) (by rfl) ?_ (by assumption) ?_
  rotate_left
  · (intro w9 hS9; (try dsimp only at hS9); (try go_split_ands); go_simp <;> with_reducible rfl)
  try simp only [Act.put, List.setIfInBounds_toArray, List.set_cons_zero, List.set_cons_succ]
  refine late_one (i := 8) rfl (by kernel_rfl) (fun K9 hK9 => ?_)
  go_simp
  refine hK9.out _ _ (fun _ => ?_) (fun hS9 => ?_)
  · (try dsimp only); exact hS
  replace hS := hS9 (by decide)
  clear hK9 K9 hS9
  try simp only [Act.put, List.setIfInBounds_toArray, List.set_cons_zero, List.set_cons_succ]
  refine late_done (by kernel_rfl) ?_ _
  go_wp2
  refine bodyPost_ret (v := .tuple #[.agg #[.slice pa ys.length pc, .int .i64 (at0 : Int)], v2, .int .i64 (x : Int), .int .i64 ((x : Int) + (y : Int))]) (by simp [results, Try.results40, go_sem, x6]) rfl ?_
  refine ⟨_, b1, ys, at0, v2, b2, ts, x, x + y, rfl, ?_, HTY.out, hl, hat, ?_, HTY6.out, hl6, by omega, by omega, HD.out, ?_⟩
  · exact (HO6.out.setCell (fun b hb => by have := (HL.out b hb).1; simp; omega) _).setCell (fun b hb => by have := (HL.out b hb).1; simp; omega) _
  · exact ((HQ.out.mono (by omega)).setCell (fun b hb => by have := (HQ.out.lts b hb).1; simp; omega) _).setCell (fun b hb => by have := (HQ.out.lts b hb).1; simp; omega) _
  · exact (HB6.out.setCell (by simp) _).setCell (by simp) _
end Go.Proofs.Ytdfpjchneofndaa
