/- Draws: histories. -/
import Derived.Test.YtdfpjchneofndaaDraw
import Derived.Test.YtdfpjchneofndaaHistS
set_option linter.unusedSimpArgs false
set_option linter.unusedVariables false
namespace Go.G6
open Go Go.RowKit
def textTab : List ByteArray := [⟨#[108, 115]⟩, ⟨#[101, 99, 104, 111, 32, 97]⟩, ⟨#[99, 97, 116, 32, 98]⟩, ⟨#[97, 32, 124, 32, 98]⟩, ⟨#[120, 61, 49]⟩, ⟨#[105, 102, 32, 97, 59, 32, 116, 104, 101, 110, 32, 98, 59, 32, 102, 105]⟩, ⟨#[101, 99, 104, 111, 32, 39, 97, 10, 98, 39]⟩, ⟨#[109, 97, 107, 101]⟩, ⟨#[108, 115, 32, 45, 108]⟩, ⟨#[101, 99, 104, 111, 32, 195, 169]⟩, ⟨#[103, 105, 116, 32, 108, 111, 103]⟩, ⟨#[119]⟩]
theorem textTab_at {q : Nat} (h : q < 12) : ∃ s : ByteArray, (1 ≤ s.size ∧ s.size ≤ 16) ∧ (textTab.map Value.string).toArray[q]? = some (.string s) := by
  have hl : q < textTab.length := h
  refine ⟨textTab[q], ?_, by simp [hl]⟩
  have : ∀ s ∈ textTab, 1 ≤ s.size ∧ s.size ≤ 16 := by decide
  exact this _ (List.getElem_mem hl)
/-- A drawn history: k more lines may come. -/
def HGood (d : HistD) (k : Nat) : Prop := 1 ≤ d.First ∧ d.First + (k : Int) ≤ 100 ∧ d.Lines.length ≤ 60 ∧ ∀ s ∈ d.Lines, 1 ≤ s.size ∧ s.size ≤ 16
theorem HGood.ok {d : HistD} {k : Nat} (h : HGood d k) : histOk d = true := by
  obtain ⟨h1, h2, h3, h4⟩ := h
  unfold histOk
  simp only [Bool.and_eq_true, decide_eq_true_eq, List.all_eq_true]
  exact ⟨⟨⟨h1, by omega⟩, h3⟩, fun s hs => by have := h4 s hs; omega⟩
theorem HGood.put {d : HistD} {k : Nat} {s : ByteArray} (h : HGood d (k + 1)) (hs : 1 ≤ s.size ∧ s.size ≤ 16) : HGood (histPut d s) k := by
  obtain ⟨h1, h2, h3, h4⟩ := h
  have hm : ∀ q ∈ d.Lines ++ [s], 1 ≤ q.size ∧ q.size ≤ 16 := by
    intro q hq
    rcases List.mem_append.1 hq with hq | hq
    · exact h4 q hq
    · simp at hq; subst hq; exact hs
  unfold histPut
  split
  · refine ⟨by show 1 ≤ d.First + 1; omega, by show d.First + 1 + (k : Int) ≤ 100; omega, by simp; omega, fun q hq => hm q (List.mem_of_mem_drop hq)⟩
  · refine ⟨h1, by show d.First + (k : Int) ≤ 100; omega, by simp; omega, hm⟩
theorem HGood.add {d : HistD} {k : Nat} {s : ByteArray} (h : HGood d (k + 1)) (hs : 1 ≤ s.size ∧ s.size ≤ 16) : histAddOk d s = true ∧ histAdd d s = histPut d s := by
  have h1 : histAddOk d s = true := by unfold histAddOk; rw [h.ok, (h.put hs).ok]; rfl
  exact ⟨h1, by rw [histAdd, if_pos h1]⟩
end Go.G6
namespace Go.Proofs.Ytdfpjchneofndaa
open Go.RowKit Go.G6
set_option maxHeartbeats 1600000
set_option maxRecDepth 10000
theorem s_l05Text {B p : Nat} {w : World} {xs : List UInt8} (hc : Cur B w p xs) :
    Calls Try.prog 119 #[.pointer (some ⟨p, 0, none⟩)] w fun e w' => ∃ s : ByteArray, (1 ≤ s.size ∧ s.size ≤ 16) ∧ e = .returned (.string s) ∧ Cur B w' p xs ∧ Tch [p] w w' := by
  have HC := hid hc; clear hc
  go_enter Try.func119, Try.ntmps119
  go_wp2_with fail
  refine (s_l01Below (B := B) (p := p) (xs := xs) (HC.out.grow ((Below.refl _ _).alloc (Nat.le_refl _) _)) 12 (by omega) (by omega)).mono ?_
  rintro e w2 ⟨q, hq, rfl, hc1, hT⟩
  have hp := HC.out.lt
  have hB := HC.out.le
  obtain ⟨s, hs, hcell⟩ := textTab_at (q := q) (by omega)
  have hX := Bx.tch (b := w.heap.size) hT (by simp) (by simp; omega) (Bx.new w _ _ rfl)
  have hxc : w2.cell? ⟨w.heap.size, q, none⟩ = some (.string s) := (hX.out q).trans hcell
  have HC2 := hid hc1; have HT2 := hid ((Tch.refl [p] w).alloc _ |>.trans hT)
  have HS := hid hs
  clear hc1 hT hX HC hcell hs
  go_wp2
  go_ret
  exact ⟨s, HS.out, rfl, HC2.out, HT2.out⟩
theorem s_l16Draw {B p : Nat} {w : World} {xs : List UInt8} (hc : Cur B w p xs) :
    Calls Try.prog 118 #[.pointer (some ⟨p, 0, none⟩)] w fun e w' => ∃ (bs : List Nat) (F : Int) (a : Option Addr) (l k : Nat) (ys : List ByteArray), e = .returned (.agg #[.int .i64 F, .slice a l k]) ∧ Slc w' bs a l k ys ∧ (∀ b ∈ bs, w.heap.size ≤ b) ∧ HGood ⟨F, ys⟩ 1 ∧ Cur B w' p xs ∧ Tch [p] w w' := by
  have HC := hid hc; clear hc
  have hp := HC.out.lt
  have hB := HC.out.le
  go_enter Try.func118, Try.ntmps118
  go_wp2_with fail
  refine (s_l01Below (B := B) (p := p) (xs := xs) (HC.out.grow ((Below.refl _ _).alloc (Nat.le_refl _) _)) 5 (by omega) (by omega)).mono ?_
  rintro e w1 ⟨f0, hf0, rfl, hc1, hT⟩
  have X := hid (Bx.tch (b := w.heap.size) hT (by simp) (by simp; omega) (Bx.new w _ _ rfl))
  have HT := hid ((Tch.refl [p] w).alloc _ |>.trans hT)
  have hs1 := hT.size
  simp at hs1
  have HC1 := hid hc1
  clear hc1 hT HC
  go_upto_region 2 with fail
  refine late_genw (fun w2 hw2 => ?_)
  have Y := hid (show Bx w2 w1.heap.size #[.int .i64 (1 + (f0 : Int)), .slice none 0 0] by rw [hw2]; exact Bx.new _ _ _ rfl)
  have X2 := hid (show Bx w2 w.heap.size #[.int .i64 0, .slice none 0 0] by rw [hw2]; exact X.out.alloc (by omega) _)
  have HC2 := hid (show Cur B w2 p xs by rw [hw2]; exact HC1.out.grow ((Below.refl _ _).alloc (Nat.le_refl _) _))
  have HT2 := hid (show Tch [p] w w2 by rw [hw2]; exact HT.out.alloc _)
  have hs2 : w1.heap.size + 1 = w2.heap.size := by rw [hw2]; simp
  clear hw2 HC1 X HT
  go_wp2_with fail
  refine (s_l01Below HC2.out 8 (by omega) (by omega)).mono ?_
  rintro e w3 ⟨n, hn, rfl, hc1, hT⟩
  have hs3 := hT.size
  have X3 := hid (Bx.tch (b := w.heap.size) hT (by omega) (by simp; omega) X2.out)
  have Y3 := hid (Bx.tch (b := w1.heap.size) hT (by omega) (by simp; omega) Y.out)
  have HT3 := hid (HT2.out.trans hT)
  have HC3 := hid hc1
  clear hc1 hT HC2 X2 Y HT2
  go_wp2_with fail
  refine (s_l01Below HC3.out 12 (by omega) (by omega)).mono ?_
  rintro e w4 ⟨z, hz, rfl, hc1, hT⟩
  have hs4 := hT.size
  have X4 := hid (Bx.tch (b := w.heap.size) hT (by omega) (by simp; omega) X3.out)
  have Y4 := hid (Bx.tch (b := w1.heap.size) hT (by omega) (by simp; omega) Y3.out)
  have HT4 := hid (HT3.out.trans hT)
  have HC4 := hid hc1
  clear hc1 hT HC3 X3 Y3 HT3
  go_upto_if 13 with fail
  go_cut [4] (fun v W => ∃ m : Nat, v = .int .i64 (m : Int) ∧ m ≤ 62 ∧ Bx W w.heap.size #[.int .i64 0, .slice none 0 0] ∧ Bx W w1.heap.size #[.int .i64 (1 + (f0 : Int)), .slice none 0 0] ∧ Cur B W p xs ∧ Tch [p] w W)
  case first =>
    by_cases z0 : z = 0
    · subst z0
      go_wp2_with fail
      refine (s_l01Below HC4.out 4 (by omega) (by omega)).mono ?_
      rintro e w5 ⟨q, hq, rfl, hc1, hT⟩
      have hf := hid (show Bx w5 w.heap.size #[.int .i64 0, .slice none 0 0] ∧ Bx w5 w1.heap.size #[.int .i64 (1 + (f0 : Int)), .slice none 0 0] ∧ Cur B w5 p xs ∧ Tch [p] w w5 from ⟨Bx.tch (b := w.heap.size) hT (by omega) (by simp; omega) X4.out, Bx.tch (b := w1.heap.size) hT (by omega) (by simp; omega) Y4.out, hc1, HT4.out.trans hT⟩)
      clear hc1 hT
      go_wp2
      go_meet
      exact ⟨59 + q, by simp, by omega, hf.out⟩
    · have zf : ((z : Int) == 0) = false := by rw [beq_eq_false_iff_ne]; omega
      go_wp2
      go_meet
      exact ⟨n, rfl, by omega, X4.out, Y4.out, HC4.out, HT4.out⟩
  case rest =>
    obtain ⟨m, rfl, hm, hX, hY, hC, hT⟩ := hcut
    have HX := hid hX; have HY := hid hY; have HCm := hid hC; have HTm := hid hT
    clear hX hY hC hT X4 Y4 HC4 HT4
    have hg0 : HGood ⟨1 + (f0 : Int), []⟩ (m + 1) := ⟨by show 1 ≤ 1 + (f0 : Int); omega, by show 1 + (f0 : Int) + ((m + 1 : Nat) : Int) ≤ 100; omega, by simp, by simp⟩
    go_wp2_with fail
    go_loopw [4] (fun i wr => ∃ (k : Nat) (bs : List Nat) (F : Int) (a : Option Addr) (l c : Nat) (ys : List ByteArray), i = .int .i64 (k : Int) ∧ HGood ⟨F, ys⟩ (k + 1) ∧ Bx wr w.heap.size #[.int .i64 0, .slice none 0 0] ∧ Bx wr w1.heap.size #[.int .i64 F, .slice a l c] ∧ Slc wr bs a l c ys ∧ (∀ b ∈ bs, w.heap.size < b ∧ b ≠ w1.heap.size) ∧ Cur B wr p xs ∧ Tch [p] w wr) (fun i _ => (intOf i).toNat)
    case atStart => exact ⟨m, [], _, none, 0, 0, [], rfl, hg0, HX.out, HY.out, slc_nil _, by simp, HCm.out, HTm.out⟩
    case round =>
      obtain ⟨k, bs, F, a, l, c, ys, rfl, hG, hX, hY, hS, hbs, hC, hT⟩ := hrel
      obtain rfl := hS.len_eq
      have HXr := hid hX; have HYr := hid hY; have HSr := hid hS; have HCr := hid hC; have HTr := hid hT; have HG := hid hG; have HBS := hid hbs
      have x0 := hX.out; have xf := hX.fr; have y := hY.out
      have hFI : I64 F := by have h1 : 1 ≤ F := hG.1; have h2 : F + ((k + 1 : Nat) : Int) ≤ 100 := hG.2.1; unfold I64; omega
      have hlen : ys.length ≤ 60 := hG.2.2.1
      have hY1 := hY.f.lt; have hX1 := hX.f.lt
      clear hX hY hS hbs hC hT HX HY HCm HTm hg0 hG
      by_cases hk : k = 0
      · subst hk
        go_wp2
        refine bodyPost_ret (v := .agg #[.int .i64 F, .slice a ys.length c]) (by simp [results, Try.results118, go_sem, x0]) rfl ?_
        refine ⟨bs, F, a, ys.length, c, ys, rfl, ?_, fun b hb => by have := HBS.out b hb; omega, HG.out, ?_, ?_⟩
        · exact HSr.out.tch (((Tch.refl [w.heap.size] wr).setCell (by simp) _).setCell (by simp) _) (fun b hb hm => by have := HBS.out b hb; simp at hm; omega)
        · exact Cur.tchUp HCr.out (((Tch.refl [w.heap.size] wr).setCell (by simp) _).setCell (by simp) _) (by simp; omega)
        · exact keepc HTr.out (((Tch.refl [w.heap.size] wr).setCell (by simp) _).setCell (by simp) _) (fun x hx => .inr (by simp at hx; omega))
      obtain ⟨k, rfl⟩ : ∃ j, k = j + 1 := ⟨k - 1, by omega⟩
      have hk0 : (0 : Int) < ((k + 1 : Nat) : Int) := by omega
      clear x0 xf
      have y0 : wr.cell? ⟨w1.heap.size, 0, none⟩ = some (.int .i64 F) := y 0
      have y1 : wr.cell? ⟨w1.heap.size, 1, none⟩ = some (.slice a ys.length c) := y 1
      clear y
      go_wp2_with fail
      have hk99 : (k : Int) ≤ 100 := by have h1 : 1 ≤ F := HG.out.1; have h2 : F + ((k + 1 + 1 : Nat) : Int) ≤ 100 := HG.out.2.1; omega
      refine late_start (fun _ => True) 99 (by kernel_rfl) ?_ (fun hS => ?_)
      · trivial
      refine late_take (i := 1) (v := ?_) rfl (by kernel_rfl) (fun _ _ _ h => h) (by rfl) ?_ (by assumption) ?_
      rotate_left
      · (intro w9 hS9; (try dsimp only at hS9); (try go_split_ands); go_simp <;> with_reducible rfl)
      try simp only [Act.put, List.setIfInBounds_toArray, List.set_cons_zero, List.set_cons_succ]
      refine late_two (i := 0) (j := 2) rfl rfl (by kernel_rfl) (fun K9 hK9 => ?_) (fun K9 hK9 => ?_)
      · go_simp
        refine hK9.out _ _ (fun _ => ?_) (fun hS9 => ?_)
        · (try dsimp only); skip
        replace hS := hS9 (by decide)
        clear hK9 K9 hS9
        try simp only [Act.put, List.setIfInBounds_toArray, List.set_cons_zero, List.set_cons_succ]
        clear y0 y1
        refine late_one (i := 2) rfl (by kernel_rfl) (fun K9 hK9 => ?_)
        go_simp
        have HCd : Cur B wr.drew p xs := HCr.out.grow ⟨rfl, rfl, rfl, Nat.le_refl _, fun _ _ => rfl⟩
        refine (s_l05Text HCd).mono ?_
        rintro e w5 ⟨s, hs, rfl, hc5, hT5⟩
        have hs5 : wr.heap.size ≤ w5.heap.size := hT5.size
        have X5 := hid (Bx.tch (b := w.heap.size) hT5 (by show w.heap.size < wr.heap.size; exact hX1) (by simp; omega) HXr.out.drew)
        have Y5 := hid (Bx.tch (b := w1.heap.size) hT5 (by show w1.heap.size < wr.heap.size; exact hY1) (by simp; omega) HYr.out.drew)
        have S5 := hid (Slc.tch (HSr.out.keepL (w' := wr.drew) fun _ _ => rfl) hT5 (fun b hb hm => by have := HBS.out b hb; simp at hm; omega))
        have T5 := hid ((HTr.out.drew).trans hT5)
        have C5 := hid hc5
        have HS := hid hs
        go_wp2_with fail
        refine hK9.out _ _ (fun _ => ?_) (fun hS9 => ?_)
        · (try dsimp only); skip
        replace hS := hS9 (by decide)
        clear hK9 K9 hS9
        try simp only [Act.put, List.setIfInBounds_toArray, List.set_cons_zero, List.set_cons_succ]
        clear hT5 hc5 hs HCd HXr HYr HSr HTr HCr
        have hadd := HG.out.add HS.out
        have HA := hid hadd
        clear hadd
        refine late_one (i := 3) rfl (by kernel_rfl) (fun K9 hK9 => ?_)
        go_simp
        refine (s_HistAdd (mk_Hist (d := ⟨F, ys⟩) hFI S5.out) s (by have := HS.out; unfold maxLen; omega) (by show ys.length ≤ 1048576; omega)).mono ?_
        rintro e w6 ⟨cs6, b6, rfl, hO, hb⟩
        rw [HA.out.1]
        rw [HA.out.2] at hO
        have hput := HG.out.put HS.out
        obtain ⟨F6, hF6⟩ : ∃ F6, F6 = (histPut ⟨F, ys⟩ s).First := ⟨_, rfl⟩
        obtain ⟨a6, l6, k6, rfl, i6, s6⟩ := open_Hist hO.1
        have hs6 := hb.size
        have X6 := hid (Bx.below hb X5.out.f.lt X5.out)
        have Y6 := hid (Bx.below hb Y5.out.f.lt Y5.out)
        have S6 := hid s6
        have B6 := hid (fun b hb' => (hO.2.2 b hb').1)
        have T6 := hid (T5.out.trans (Tch.of_below hb))
        have C6 := hid (C5.out.grow hb)
        have P6 := hid hput
        go_wp2_with fail
        refine hK9.out _ _ (fun _ => ?_) (fun hS9 => ?_)
        · (try dsimp only); skip
        replace hS := hS9 (by decide)
        clear hK9 K9 hS9
        try simp only [Act.put, List.setIfInBounds_toArray, List.set_cons_zero, List.set_cons_succ]
        clear hb hO s6 X5 Y5 S5 T5 C5 hput
        have y6 := Y6.out.out; have y6f := Y6.out.fr
        refine late_take (i := 4) (v := ?_) rfl (by kernel_rfl) (fun _ _ _ h => h) (by rfl) ?_ (by assumption) ?_
        rotate_left
        · (intro w9 hS9; (try dsimp only at hS9); (try go_split_ands); go_simp <;> with_reducible rfl)
        try simp only [Act.put, List.setIfInBounds_toArray, List.set_cons_zero, List.set_cons_succ]
        refine late_take (i := 5) (v := ?_) rfl (by kernel_rfl) (fun _ _ _ h => h) (by rfl) ?_ (by assumption) ?_
        rotate_left
        · (intro w9 hS9; (try dsimp only at hS9); (try go_split_ands); go_simp <;> with_reducible rfl)
        try simp only [Act.put, List.setIfInBounds_toArray, List.set_cons_zero, List.set_cons_succ]
        refine late_take (i := 6) (v := ?_) rfl (by kernel_rfl) (fun _ _ _ h => h) (by rfl) ?_ (by assumption) ?_
        rotate_left
        · (intro w9 hS9; (try dsimp only at hS9); (try go_split_ands); go_simp <;> with_reducible rfl)
        try simp only [Act.put, List.setIfInBounds_toArray, List.set_cons_zero, List.set_cons_succ]
        refine late_one (i := 7) rfl (by kernel_rfl) (fun K9 hK9 => ?_)
        go_simp
        refine hK9.out _ _ (fun _ => ?_) (fun hS9 => ?_)
        · (try dsimp only); skip
        replace hS := hS9 (by decide)
        clear hK9 K9 hS9
        try simp only [Act.put, List.setIfInBounds_toArray, List.set_cons_zero, List.set_cons_succ]
        refine late_done (by kernel_rfl) ?_ _
        go_wp2
        refine ⟨⟨k, b6, _, a6, l6, k6, _, rfl, P6.out, ?_, ?_, ?_, ?_, ?_, ?_⟩, by simp [intOf]⟩
        · exact (X6.out.setOther (by simp; omega) _).setOther (by simp; omega) _
        · exact (Y6.out.setSame 0 _).setSame 1 _
        · exact S6.out.tch (((Tch.refl [w1.heap.size] w6).setCell (by simp) _).setCell (by simp) _) (fun b hb hm => by have := B6.out b hb; simp at hm; omega)
        · exact fun b hb => by have := B6.out b hb; omega
        · exact Cur.tchUp C6.out (((Tch.refl [w1.heap.size] w6).setCell (by simp) _).setCell (by simp) _) (by simp; omega)
        · exact keepc T6.out (((Tch.refl [w1.heap.size] w6).setCell (by simp) _).setCell (by simp) _) (fun x hx => .inr (by simp at hx; omega))
      · clear y0 y1
        go_simp
        have HCd : Cur B wr.drew p xs := HCr.out.grow ⟨rfl, rfl, rfl, Nat.le_refl _, fun _ _ => rfl⟩
        refine (s_l05Text HCd).mono ?_
        rintro e w5 ⟨s, hs, rfl, hc5, hT5⟩
        have hs5 : wr.heap.size ≤ w5.heap.size := hT5.size
        have X5 := hid (Bx.tch (b := w.heap.size) hT5 (by show w.heap.size < wr.heap.size; exact hX1) (by simp; omega) HXr.out.drew)
        have Y5 := hid (Bx.tch (b := w1.heap.size) hT5 (by show w1.heap.size < wr.heap.size; exact hY1) (by simp; omega) HYr.out.drew)
        have S5 := hid (Slc.tch (HSr.out.keepL (w' := wr.drew) fun _ _ => rfl) hT5 (fun b hb hm => by have := HBS.out b hb; simp at hm; omega))
        have T5 := hid ((HTr.out.drew).trans hT5)
        have C5 := hid hc5
        have HS := hid hs
        go_wp2_with fail
        refine hK9.out _ _ (fun _ => ?_) (fun hS9 => ?_)
        · (try dsimp only); skip
        replace hS := hS9 (by decide)
        clear hK9 K9 hS9
        try simp only [Act.put, List.setIfInBounds_toArray, List.set_cons_zero, List.set_cons_succ]
        clear hT5 hc5 hs HCd HXr HYr HSr HTr HCr
        have y5 := Y5.out.out
        refine late_one (i := 0) rfl (by kernel_rfl) (fun K9 hK9 => ?_)
        go_simp
        refine hK9.out _ _ (fun _ => ?_) (fun hS9 => ?_)
        · (try dsimp only); skip
        replace hS := hS9 (by decide)
        clear hK9 K9 hS9
        try simp only [Act.put, List.setIfInBounds_toArray, List.set_cons_zero, List.set_cons_succ]
        clear y5
        have hadd := HG.out.add HS.out
        have HA := hid hadd
        clear hadd
        refine late_one (i := 3) rfl (by kernel_rfl) (fun K9 hK9 => ?_)
        go_simp
        refine (s_HistAdd (mk_Hist (d := ⟨F, ys⟩) hFI S5.out) s (by have := HS.out; unfold maxLen; omega) (by show ys.length ≤ 1048576; omega)).mono ?_
        rintro e w6 ⟨cs6, b6, rfl, hO, hb⟩
        rw [HA.out.1]
        rw [HA.out.2] at hO
        have hput := HG.out.put HS.out
        obtain ⟨F6, hF6⟩ : ∃ F6, F6 = (histPut ⟨F, ys⟩ s).First := ⟨_, rfl⟩
        obtain ⟨a6, l6, k6, rfl, i6, s6⟩ := open_Hist hO.1
        have hs6 := hb.size
        have X6 := hid (Bx.below hb X5.out.f.lt X5.out)
        have Y6 := hid (Bx.below hb Y5.out.f.lt Y5.out)
        have S6 := hid s6
        have B6 := hid (fun b hb' => (hO.2.2 b hb').1)
        have T6 := hid (T5.out.trans (Tch.of_below hb))
        have C6 := hid (C5.out.grow hb)
        have P6 := hid hput
        go_wp2_with fail
        refine hK9.out _ _ (fun _ => ?_) (fun hS9 => ?_)
        · (try dsimp only); skip
        replace hS := hS9 (by decide)
        clear hK9 K9 hS9
        try simp only [Act.put, List.setIfInBounds_toArray, List.set_cons_zero, List.set_cons_succ]
        clear hb hO s6 X5 Y5 S5 T5 C5 hput
        have y6 := Y6.out.out; have y6f := Y6.out.fr
        refine late_take (i := 4) (v := ?_) rfl (by kernel_rfl) (fun _ _ _ h => h) (by rfl) ?_ (by assumption) ?_
        rotate_left
        · (intro w9 hS9; (try dsimp only at hS9); (try go_split_ands); go_simp <;> with_reducible rfl)
        try simp only [Act.put, List.setIfInBounds_toArray, List.set_cons_zero, List.set_cons_succ]
        refine late_take (i := 5) (v := ?_) rfl (by kernel_rfl) (fun _ _ _ h => h) (by rfl) ?_ (by assumption) ?_
        rotate_left
        · (intro w9 hS9; (try dsimp only at hS9); (try go_split_ands); go_simp <;> with_reducible rfl)
        try simp only [Act.put, List.setIfInBounds_toArray, List.set_cons_zero, List.set_cons_succ]
        refine late_take (i := 6) (v := ?_) rfl (by kernel_rfl) (fun _ _ _ h => h) (by rfl) ?_ (by assumption) ?_
        rotate_left
        · (intro w9 hS9; (try dsimp only at hS9); (try go_split_ands); go_simp <;> with_reducible rfl)
        try simp only [Act.put, List.setIfInBounds_toArray, List.set_cons_zero, List.set_cons_succ]
        refine late_one (i := 7) rfl (by kernel_rfl) (fun K9 hK9 => ?_)
        go_simp
        refine hK9.out _ _ (fun _ => ?_) (fun hS9 => ?_)
        · (try dsimp only); skip
        replace hS := hS9 (by decide)
        clear hK9 K9 hS9
        try simp only [Act.put, List.setIfInBounds_toArray, List.set_cons_zero, List.set_cons_succ]
        refine late_done (by kernel_rfl) ?_ _
        go_wp2
        refine ⟨⟨k, b6, _, a6, l6, k6, _, rfl, P6.out, ?_, ?_, ?_, ?_, ?_, ?_⟩, by simp [intOf]⟩
        · exact (X6.out.setOther (by simp; omega) _).setOther (by simp; omega) _
        · exact (Y6.out.setSame 0 _).setSame 1 _
        · exact S6.out.tch (((Tch.refl [w1.heap.size] w6).setCell (by simp) _).setCell (by simp) _) (fun b hb hm => by have := B6.out b hb; simp at hm; omega)
        · exact fun b hb => by have := B6.out b hb; omega
        · exact Cur.tchUp C6.out (((Tch.refl [w1.heap.size] w6).setCell (by simp) _).setCell (by simp) _) (by simp; omega)
        · exact keepc T6.out (((Tch.refl [w1.heap.size] w6).setCell (by simp) _).setCell (by simp) _) (fun x hx => .inr (by simp at hx; omega))
theorem s_MakeHist {w : World} {bs : List Nat} {a : Option Addr} {len cap : Nat} {xs : List UInt8} (h : Slc w bs a len cap xs) :
    Calls Try.prog 47 #[.slice a len cap] w fun e w' => ∃ (b1 : List Nat) (F : Int) (a1 : Option Addr) (l1 k1 : Nat) (ys : List ByteArray) (s : ByteArray), e = .returned (.tuple #[.agg #[.int .i64 F, .slice a1 l1 k1], .string s]) ∧ Slc w' b1 a1 l1 k1 ys ∧ HGood ⟨F, ys⟩ 1 ∧ (1 ≤ s.size ∧ s.size ≤ 16) ∧ Below w.heap.size w w' := by
  have HS := hid h; clear h
  go_enter Try.func47, Try.ntmps47
  go_wp2_with fail
  refine (s_l01New (HS.out.grow ((Below.refl _ _).alloc (Nat.le_refl _) _))).mono ?_
  rintro e w1 ⟨p, hp0, rfl, hc1, hb⟩
  have hp1 : w.heap.size + 1 ≤ p := by simpa using hp0
  have HB := hid (below_call ((Below.refl _ _).alloc (Nat.le_refl _) _) hb)
  have X := hid (Bx.below (b := w.heap.size) hb (by simp) (Bx.new w _ _ rfl))
  have HC1 := hid hc1
  have hpw := hc1.lt
  clear hb hc1 HS hp0
  obtain ⟨B, hB⟩ : ∃ B, B = w1.heap.size := ⟨_, rfl⟩
  rw [← hB] at HC1
  have hBp : p < B := HC1.out.lt
  go_wp2_with fail
  refine (s_l16Draw HC1.out).mono ?_
  rintro e w2 ⟨b1, F, a1, l1, k1, ys, rfl, hS, hlo, hG, hc2, hT⟩
  obtain rfl := hS.len_eq
  have hs2 := hT.size
  have X2 := hid (Bx.tch (b := w.heap.size) hT (by omega) (by simp; omega) X.out)
  have HB2 := hid (HB.out.trans (hT.below HB.out.size (by simp; omega)))
  have HSl := hid (hS.grow ((Below.refl _ _).alloc (Nat.le_refl _) (.cells #[.int .i64 F, .slice a1 ys.length k1] 54)))
  have HLT := hid (fun b hb => (hS.lts b hb).2)
  have HLO := hid hlo
  have HG := hid hG
  have HC2 := hid hc2
  clear hc2 hS hlo hG hT HC1 X HB
  have X3 := hid (X2.out.alloc (by omega) (.cells #[.int .i64 F, .slice a1 ys.length k1] 54))
  have Y := hid (Bx.new w2 #[.int .i64 F, .slice a1 ys.length k1] 54 rfl)
  have HB3 := hid (HB2.out.alloc HB2.out.size (.cells #[.int .i64 F, .slice a1 ys.length k1] 54))
  have HC3 := hid (HC2.out.grow ((Below.refl _ _).alloc (Nat.le_refl _) (.cells #[.int .i64 F, .slice a1 ys.length k1] 54)))
  clear HC2 X2 HB2
  go_upto_region 3 with fail
  refine late_genw (fun w5 hw5 => ?_)
  rw [← hw5] at HSl X3 Y HB3 HC3
  have hs3 : w2.heap.size + 1 = w5.heap.size := by rw [hw5]; simp
  clear hw5
  have y5 := Y.out.out
  have z0 : w5.cell? ⟨w2.heap.size, 0, none⟩ = some (.int .i64 F) := y5 0
  have z1 : w5.cell? ⟨w2.heap.size, 1, none⟩ = some (.slice a1 ys.length k1) := y5 1
  clear y5
  go_wp2_with fail
  refine late_start (fun W => W.cell? ⟨w2.heap.size, 0, none⟩ = some (.int .i64 F) ∧ W.cell? ⟨w2.heap.size, 1, none⟩ = some (.slice a1 ys.length k1)) 99 (by kernel_rfl) ?_ (fun hS => ?_)
  · exact ⟨z0, z1⟩
  clear z0 z1 Y
  refine late_take (i := 0) (v := ?_) rfl (by kernel_rfl) (fun _ _ _ h => h) (by rfl) ?_ (by assumption) ?_
  rotate_left
  · (intro w9 hS9; (try dsimp only at hS9); (try go_split_ands); go_simp <;> with_reducible rfl)
  try simp only [Act.put, List.setIfInBounds_toArray, List.set_cons_zero, List.set_cons_succ]
  refine late_take (i := 1) (v := ?_) rfl (by kernel_rfl) (fun _ _ _ h => h) (by rfl) ?_ (by assumption) ?_
  rotate_left
  · (intro w9 hS9; (try dsimp only at hS9); (try go_split_ands); go_simp <;> with_reducible rfl)
  try simp only [Act.put, List.setIfInBounds_toArray, List.set_cons_zero, List.set_cons_succ]
  refine late_one (i := 2) rfl (by kernel_rfl) (fun K9 hK9 => ?_)
  go_simp
  have HC5' : Cur B w5.drew p xs := HC3.out.grow ⟨rfl, rfl, rfl, Nat.le_refl _, fun _ _ => rfl⟩
  refine (s_l05Text HC5').mono ?_
  rintro e w6 ⟨s, hs, rfl, hc6, hT6⟩
  have hs6 : w5.heap.size ≤ w6.heap.size := hT6.size
  have HS6 := hid (Slc.tch (HSl.out.keepL (w' := w5.drew) fun _ _ => rfl) hT6 (fun b hb hm => by have := HLO.out b hb; simp at hm; omega))
  have X6 := hid (Bx.tch (b := w.heap.size) hT6 (by show w.heap.size < w5.heap.size; omega) (by simp; omega) X3.out.drew)
  have HB6 := hid ((HB3.out.drew).trans (hT6.below (show w.heap.size ≤ w5.heap.size by omega) (by simp; omega)))
  have HSS := hid hs
  go_wp2_with fail
  refine hK9.out _ _ (fun _ => ?_) (fun hS9 => ?_)
  · (try dsimp only); exact ⟨cellc hT6 hS.1 (by simp; omega), cellc hT6 hS.2 (by simp; omega)⟩
  replace hS := hS9 (by decide)
  clear hK9 K9 hS9
  try simp only [Act.put, List.setIfInBounds_toArray, List.set_cons_zero, List.set_cons_succ]
  clear hT6 hs hc6 HSl X3 HB3 HC3
  have x6 := X6.out.out; have x6f := X6.out.fr
  refine late_one (i := 3) rfl (by kernel_rfl) (fun K9 hK9 => ?_)
  go_simp
  refine hK9.out _ _ (fun _ => ?_) (fun hS9 => ?_)
  · (try dsimp only); exact ⟨(World.cell?_setCell_far _ _ _ _ (by simp; omega)).trans ((World.cell?_setCell_far _ _ _ _ (by simp; omega)).trans hS.1), (World.cell?_setCell_far _ _ _ _ (by simp; omega)).trans ((World.cell?_setCell_far _ _ _ _ (by simp; omega)).trans hS.2)⟩
  replace hS := hS9 (by decide)
  clear hK9 K9 hS9
  try simp only [Act.put, List.setIfInBounds_toArray, List.set_cons_zero, List.set_cons_succ]
  refine late_one (i := 4) rfl (by kernel_rfl) (fun K9 hK9 => ?_)
  go_simp
  refine hK9.out _ _ (fun _ => ?_) (fun hS9 => ?_)
  · (try dsimp only); exact hS
  replace hS := hS9 (by decide)
  clear hK9 K9 hS9
  try simp only [Act.put, List.setIfInBounds_toArray, List.set_cons_zero, List.set_cons_succ]
  refine late_done (by kernel_rfl) ?_ _
  go_wp2
  refine bodyPost_ret (v := .tuple #[.agg #[.int .i64 F, .slice a1 ys.length k1], .string s]) (by simp [results, Try.results47, go_sem, x6]) rfl ?_
  refine ⟨b1, F, a1, ys.length, k1, ys, s, rfl, ?_, HG.out, HSS.out, ?_⟩
  · exact HS6.out.tch (((Tch.refl [w.heap.size] w6).setCell (by simp) _).setCell (by simp) _) (fun b hb hm => by have := HLO.out b hb; simp at hm; omega)
  · exact (HB6.out.setCell (by simp) _).setCell (by simp) _
end Go.Proofs.Ytdfpjchneofndaa
