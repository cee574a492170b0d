/- A history of entries. -/
import Derived.Test.YtdfpjchneofndaaLastO
import Derived.Test.YtdfpjchneofndaaCopy
set_option linter.unusedSimpArgs false
set_option linter.unusedVariables false
namespace Go.G6
open Go Go.RowKit
def histOfT (l : List EntryD) : List ByteArray := (lastOf l).map (·.Text)
def histOf (l : List EntryD) : HistD := if entriesOk l && decide (l.length ≠ 0) then ⟨((lastOf l).getD 0 zEnt).Num, histOfT l⟩ else ⟨1, []⟩
theorem nE_entries (xs : List EntryD) : Mk.nE xs ≤ 2 * Cnt.cnt xs := by
  have h1 : Mk.nE xs = 2 * xs.length := by
    show nL Mk.nE xs = _
    unfold nL
    induction xs with
    | nil => rfl
    | cons x xs ih => rw [List.map_cons, List.sum_cons, ih, List.length_cons]; show 2 + 2 * xs.length = _; omega
  have h2 := cnt_list xs
  omega
theorem histOf_top (l : List EntryD) : 1 + (histOf l).nkv ≤ topK := by
  have h1 : (histOf l).Lines.length ≤ 60 := by
    unfold histOf
    split
    · show (histOfT l).length ≤ 60
      unfold histOfT; rw [List.length_map, lastOf_len]; omega
    · simp
  show 1 + Mk.nE (histOf l).Lines ≤ topK
  rw [show Mk.nE (histOf l).Lines = (histOf l).Lines.length from nL_const _ _ fun _ => rfl]
  unfold topK; omega
end Go.G6
namespace Go.Proofs.Ytdfpjchneofndaa
open Go.RowKit Go.G6
set_option maxHeartbeats 6000000
set_option maxRecDepth 10000
theorem i_HistOf {w : World} {bs : List Nat} {a : Option Addr} {len cap : Nat} {l : List EntryD} (h : Slc w bs a len cap l) :
    Calls Try.prog 24 #[.slice a len cap] w (RetA w (histOf l)) := by
  obtain rfl := h.len_eq
  have m1 := h.max
  have H := hid h; clear h
  obtain ⟨i0, hi, hz0, hz1, hz2⟩ := info_parts info_str
  have hb0 : Below w.heap.size w ((w.alloc (.cells #[.int .i64 0, .slice none 0 0] 54)).alloc (.cells #[.int .i64 1, .slice none 0 0] 54)) := ((Below.refl _ _).alloc (Nat.le_refl _) _).alloc (by simp) _
  have X0 := hid ((Bx.new w #[.int .i64 0, .slice none 0 0] 54 rfl).alloc (by simp) (.cells #[.int .i64 1, .slice none 0 0] 54))
  have Y0 := hid (Bx.new (w.alloc (.cells #[.int .i64 0, .slice none 0 0] 54)) #[.int .i64 1, .slice none 0 0] 54 (b := w.heap.size + 1) (by simp))
  have HB0 := hid hb0; clear hb0
  have hret : ∀ (F : Int) (v : Value) (bs' : List Nat) (W W1 : World) (ys : List ByteArray), histOf l = ⟨F, ys⟩ → I64 F → OwnL (w.heap.size + 2) W 9 v bs' ys → Below w.heap.size w W → W1 = (W.setCell ⟨w.heap.size, 0, none⟩ (.int .i64 F)).setCell ⟨w.heap.size, 1, none⟩ v → RetA w (histOf l) (.returned (.agg #[.int .i64 F, v])) W1 := by
    rintro F v bs' W W1 ys e hF hO hB rfl
    have hO2 := ((hO.setLow (p := ⟨w.heap.size, 0, none⟩) (by simp) (.int .i64 F)).setLow (p := ⟨w.heap.size, 1, none⟩) (by simp) v).mono (lo' := w.heap.size) (by omega)
    obtain ⟨a', c', rfl⟩ := hO2.slice
    obtain ⟨b2, _, hOw⟩ := hO2.own
    rw [e]
    exact ⟨[.int .i64 F, .slice a' ys.length c'], b2, rfl, own_Hist (d := ⟨F, ys⟩) hF hOw, (hB.setCell (by simp) _).setCell (by simp) _⟩
  have HR := hid hret; clear hret
  cases hk : entriesOk l
  · have E := hid (show histOf l = ⟨1, []⟩ by unfold histOf; rw [hk]; rfl)
    have HK := hid hk; clear hk
    go_enter Try.func24, Try.ntmps24
    go_wp2_with fail
    refine (i_EntriesOk (H.out.grow HB0.out)).mono ?_
    rintro e w1 ⟨rfl, hb⟩
    have X1 := hid (Bx.below hb X0.out.f.lt X0.out)
    have Y1 := hid (Bx.below hb Y0.out.f.lt Y0.out)
    have HB1 := hid (below_call HB0.out hb)
    clear hb
    have x := X1.out.out; have xf := X1.out.fr; have y := Y1.out.out
    rw [HK.out]
    go_wp2
    refine bodyPost_ret (v := .agg #[.int .i64 1, .slice none 0 0]) (by simp [results, Try.results24, go_sem, x]) rfl ?_
    exact HR.out 1 (.slice none 0 0) [] w1 _ [] E.out (by simp [I64]) (OwnL.nil _ _ _) HB1.out rfl
  by_cases hl0 : l.length = 0
  · have E := hid (show histOf l = ⟨1, []⟩ by unfold histOf; rw [hk, decide_eq_false (by omega)]; rfl)
    have HK := hid hk; have hl1 : ((l.length : Int) == 0) = true := by rw [beq_iff_eq]; omega
    clear hk hl0
    go_enter Try.func24, Try.ntmps24
    go_wp2_with fail
    refine (i_EntriesOk (H.out.grow HB0.out)).mono ?_
    rintro e w1 ⟨rfl, hb⟩
    have X1 := hid (Bx.below hb X0.out.f.lt X0.out)
    have Y1 := hid (Bx.below hb Y0.out.f.lt Y0.out)
    have HB1 := hid (below_call HB0.out hb)
    clear hb
    have x := X1.out.out; have xf := X1.out.fr; have y := Y1.out.out
    rw [HK.out]
    go_wp2
    refine bodyPost_ret (v := .agg #[.int .i64 1, .slice none 0 0]) (by simp [results, Try.results24, go_sem, x]) rfl ?_
    exact HR.out 1 (.slice none 0 0) [] w1 _ [] E.out (by simp [I64]) (OwnL.nil _ _ _) HB1.out rfl
  have HK := hid hk
  have hl1 : ((l.length : Int) == 0) = false := by rw [beq_eq_false_iff_ne]; omega
  have hE0 : histOf l = ⟨((lastOf l).getD 0 zEnt).Num, (lastOf l).map (·.Text)⟩ := by unfold histOf histOfT; rw [hk, decide_eq_true hl0]; rfl
  have hLn : 0 < (lastOf l).length ∧ (lastOf l).length ≤ 60 := by rw [lastOf_len]; omega
  clear hk
  go_enter Try.func24, Try.ntmps24
  go_wp2_with fail
  refine (i_EntriesOk (H.out.grow HB0.out)).mono ?_
  rintro e w1 ⟨rfl, hb⟩
  have X1 := hid (Bx.below hb X0.out.f.lt X0.out)
  have Y1 := hid (Bx.below hb Y0.out.f.lt Y0.out)
  have HB1 := hid (below_call HB0.out hb)
  clear hb X0 Y0
  rw [HK.out]
  have hz1' : w.heap.size + 1 < w1.heap.size := Y1.out.f.lt
  go_wp2_with fail
  refine (i_LastOf (H.out.grow HB1.out)).mono ?_
  rintro e w2 ⟨vL, b0, rfl, hOL, hb⟩
  obtain ⟨L, hLe⟩ : ∃ L, L = lastOf l := ⟨_, rfl⟩
  rw [← hLe] at hOL hE0 hLn
  obtain ⟨pL, cL, bL, rfl, hbL, hSL⟩ := hOL.slc
  have HL := hid (fun b (hb : b ∈ bL) => show w1.heap.size ≤ b ∧ b < w2.heap.size from hOL.lts b (hbL b hb))
  have X2 := hid (Bx.below hb X1.out.f.lt X1.out)
  have Y2 := hid (Bx.below hb Y1.out.f.lt Y1.out)
  have HB2 := hid (HB1.out.trans (hb.mono HB1.out.size))
  have S2 := hid hSL
  have hs2 := hb.size
  clear hb hOL hbL hSL X1 Y1 HB1 hLe
  obtain ⟨hL0, hL60⟩ := hLn
  obtain ⟨g1, o1, cs1, _, e1, _, hp1, _, hA1⟩ := S2.out.elem 0 hL0
  obtain ⟨_, rfl, q1, _⟩ := open_Entry hp1
  have c0 : w2.cell? ⟨g1, o1, none⟩ = some (.int .i64 L[0].Num) := by simpa using hA1 0 _ rfl
  obtain ⟨F, hF⟩ : ∃ F, F = L[0].Num := ⟨_, rfl⟩
  rw [← hF] at c0 q1
  have HE := hid (show histOf l = ⟨F, L.map (·.Text)⟩ by rw [hE0, hF]; simp [List.getD, hL0])
  have hFI := q1
  subst e1
  clear hE0 hA1 hp1 hF
  have hli : (0 : Int) < (L.length : Int) := by omega
  have y2 := Y2.out.out; have y2f := Y2.out.fr
  go_upto_region 6 with fail
  refine late_genw (fun w3 hw3 => ?_)
  have X3 := hid (show Bx w3 w.heap.size #[.int .i64 0, .slice none 0 0] by rw [hw3]; exact X2.out.setOther (by simp) _)
  have Y3 := hid (show Bx w3 (w.heap.size + 1) #[.int .i64 F, .slice none 0 0] by rw [hw3]; exact Y2.out.setSame 0 _)
  have S3 := hid (show Slc w3 bL (some ⟨g1, o1, none⟩) L.length cL L by rw [hw3]; exact S2.out.tch ((Tch.refl [w.heap.size + 1] w2).setCell (by simp) _) (fun b hb hm => by have := HL.out b hb; simp at hm; omega))
  have HB3 := hid (show Below w.heap.size w w3 by rw [hw3]; exact HB2.out.setCell (by simp) _)
  have hs3 : w2.heap.size ≤ w3.heap.size := by rw [hw3]; simp
  clear hw3 y2 y2f X2 Y2 S2 HB2 c0 q1
  obtain ⟨pL, hpL⟩ : ∃ pL, pL = (some ⟨g1, o1, none⟩ : Option Addr) := ⟨_, rfl⟩
  rw [← hpL] at S3 ⊢
  clear hpL
  go_wp2_with fail
  go_loopw [26] (fun i wr => ∃ (k : Nat) (v : Value) (b2 : List Nat) (ys : List ByteArray), k ≤ L.length ∧ i = .int .i64 (k : Int) ∧ ys = (L.take k).map (·.Text) ∧ OwnL (w2.heap.size) wr 9 v b2 ys ∧ Bx wr w.heap.size #[.int .i64 0, .slice none 0 0] ∧ Bx wr (w.heap.size + 1) #[.int .i64 F, v] ∧ Slc wr bL pL L.length cL L ∧ Below w.heap.size w wr ∧ w2.heap.size ≤ wr.heap.size) (fun i _ => L.length - (intOf i).toNat)
  case atStart => exact ⟨0, .slice none 0 0, [], [], Nat.zero_le _, rfl, rfl, OwnL.nil _ _ _, X3.out, Y3.out, S3.out, HB3.out, hs3⟩
  case round =>
    obtain ⟨k, v, b2, ys, hkL, rfl, hys, hO, hX, hY, hS, hB, hsr⟩ := hrel
    have HO := hid hO; have HX := hid hX; have HY := hid hY; have HSr := hid hS; have HBr := hid hB
    have hx9 := hX.f.lt; have hy9 := hY.f.lt
    have HYL := hid (show ys.length = k by rw [hys, List.length_map, List.length_take]; omega)
    have HYS := hid hys; clear hys
    obtain ⟨pv, cv, rfl⟩ := hO.slice
    clear hO hX hY hS hB X3 Y3 S3 HB3
    by_cases hlt : k < L.length
    rotate_left
    · have hki : ¬ (k : Int) < (L.length : Int) := by omega
      have hke : k = L.length := by omega
      subst hke
      have hye := HYS.out
      rw [List.take_length] at hye
      subst hye
      have x := HX.out.out; have xf := HX.out.fr; have y := HY.out.out
      obtain ⟨zs, hzs⟩ : ∃ zs, zs = L.map (·.Text) := ⟨_, rfl⟩
      rw [← hzs] at HO HY HE y
      clear HYL HYS hzs
      go_wp2
      refine bodyPost_ret (v := .agg #[.int .i64 F, .slice pv zs.length cv]) (by simp [results, Try.results24, go_sem, x]) rfl ?_
      exact HR.out F _ b2 wr _ _ HE.out hFI (HO.out.mono (by omega)) HBr.out (by simp)
    have hki : (k : Int) < (L.length : Int) := by omega
    obtain ⟨g1, o1, cs1, _, e1, _, hp1, _, hA1⟩ := HSr.out.elem k hlt
    obtain ⟨_, rfl, q1, q2⟩ := open_Entry hp1
    have c0 : wr.cell? ⟨g1, o1 + k * 2, none⟩ = some _ := hA1 0 _ rfl
    have c1 : wr.cell? ⟨g1, o1 + k * 2 + 1, none⟩ = some _ := hA1 1 _ rfl
    obtain ⟨x, hx⟩ : ∃ x, x = L[k] := ⟨_, rfl⟩
    rw [← hx] at c0 c1 q2
    have E := hid (show ys ++ [x.Text] = (L.take (k + 1)).map (·.Text) by rw [HYS.out, hx, take_map_succ _ _ _ hlt])
    subst e1
    clear hA1 hp1 q1 hx
    go_upto_region 9 with fail
    refine late_genw (fun w4 hw4 => ?_)
    have hbb : Below wr.heap.size wr w4 := by rw [hw4]; exact (Below.refl _ _).alloc (Nat.le_refl _) _
    have Z4 := hid (show Bx w4 wr.heap.size #[.int .i64 x.Num, .string x.Text] by rw [hw4]; exact Bx.new _ _ _ rfl)
    have X4 := hid (Bx.below hbb hx9 HX.out)
    have Y4 := hid (Bx.below hbb hy9 HY.out)
    have O4 := hid (HO.out.grow hbb)
    have S4 := hid (HSr.out.grow hbb)
    have HB4 := hid (HBr.out.trans (hbb.mono HBr.out.size))
    have hs4 := hbb.size
    clear hw4 hbb HX HY HO HSr HBr c0 c1
    have z4 := Z4.out.out; have y4 := Y4.out.out; have y4f := Y4.out.fr
    go_wp2_with (at_builtin; refine wp_append rfl _ _ 52 rfl 9 i0 (.string ByteArray.empty) 16 Try.underlying52 hi hz0 hz1 hz2 rfl (lo := w2.heap.size) (bs := b2) (xs := ys) rfl (O4.out.alloc _) (b2 := []) (ys := [x.Text]) rfl ?src List.nodup_nil ?q1 ?q2 ?q3 ?q4 ?_)
    case src => exact src_new (pt_s q2) (by simp) _ _
    case q1 => simp
    case q2 => have := HYL.out; simp; omega
    case q3 => have := HYL.out; simp; omega
    case q4 => simp; omega
    intro p5 c5 w5 b5 hO5 hT hm
    have hup : ∀ b ∈ b2, w2.heap.size ≤ b ∧ b < w4.heap.size := fun b hb => O4.out.lts b hb
    have hT5 : Tch b2 w4 w5 := ((Tch.refl b2 w4).alloc _).trans hT
    have X5 := hid (Bx.tch (b := w.heap.size) hT5 (by omega) (fun hb => by have := hup _ hb; omega) X4.out)
    have Y5 := hid (Bx.tch (b := w.heap.size + 1) hT5 (by omega) (fun hb => by have := hup _ hb; omega) Y4.out)
    have S5 := hid (S4.out.tch hT5 (fun b hb hm => by have := hup b hm; have := HL.out b hb; omega))
    have HB5 := hid (HB4.out.trans (hT5.below HB4.out.size (fun b hb => by have := hup b hb; omega)))
    have O5 := hid (show OwnL (w2.heap.size) w5 9 (.slice p5 (ys.length + [x.Text].length) c5) b5 (ys ++ [x.Text]) from hO5)
    have hs5 := hT5.size
    clear hO5 hT hm hT5 X4 Y4 S4 HB4 O4 z4 y4 y4f Z4
    have y5 := Y5.out.out; have y5f := Y5.out.fr
    go_wp2
    refine ⟨⟨k + 1, _, b5, _, by omega, rfl, E.out, O5.out.setLow (by first | (simp; done) | (simp; omega)) _, ?_, ?_, ?_, ?_, by simp; omega⟩, by simp [intOf]; omega⟩
    · exact X5.out.setOther (by first | (simp; done) | (simp; omega)) _
    · exact Y5.out.setSame 1 _
    · exact S5.out.tch ((Tch.refl [w.heap.size + 1] w5).setCell (by simp) _) (fun b hb hm => by have := HL.out b hb; simp at hm; omega)
    · exact HB5.out.setCell (by first | (simp; done) | (simp; omega)) _
theorem s_HistOf {w : World} {bs : List Nat} {a : Option Addr} {len cap : Nat} {l : List EntryD} (h : Slc w bs a len cap l) :
    Calls Try.prog 22 #[.slice a len cap] w (RetA w (histOf l)) := by
  obtain rfl := h.len_eq
  have m1 := h.max
  have H := hid h; clear h
  obtain ⟨i0, hi, hz0, hz1, hz2⟩ := info_parts info_str
  have X0 := hid (Bx.new w #[.int .i64 0, .slice none 0 0] 54 rfl)
  have HB0 := hid (show Below w.heap.size w (w.alloc (.cells #[.int .i64 0, .slice none 0 0] 54)) from (Below.refl _ _).alloc (Nat.le_refl _) _)
  have hret : ∀ (F : Int) (v : Value) (bs' : List Nat) (W W1 : World) (ys : List ByteArray), histOf l = ⟨F, ys⟩ → I64 F → OwnL (w.heap.size + 1) W 9 v bs' ys → Below w.heap.size w W → W1 = (W.setCell ⟨w.heap.size, 0, none⟩ (.int .i64 F)).setCell ⟨w.heap.size, 1, none⟩ v → RetA w (histOf l) (.returned (.agg #[.int .i64 F, v])) W1 := by
    rintro F v bs' W W1 ys e hF hO hB rfl
    have hO2 := ((hO.setLow (p := ⟨w.heap.size, 0, none⟩) (by simp) (.int .i64 F)).setLow (p := ⟨w.heap.size, 1, none⟩) (by simp) v).mono (lo' := w.heap.size) (by omega)
    obtain ⟨a', c', rfl⟩ := hO2.slice
    obtain ⟨b2, _, hOw⟩ := hO2.own
    rw [e]
    exact ⟨[.int .i64 F, .slice a' ys.length c'], b2, rfl, own_Hist (d := ⟨F, ys⟩) hF hOw, (hB.setCell (by simp) _).setCell (by simp) _⟩
  have HR := hid hret; clear hret
  cases hk : entriesOk l
  · have E := hid (show histOf l = ⟨1, []⟩ by unfold histOf; rw [hk]; rfl)
    have HK := hid hk; clear hk
    go_enter Try.func22, Try.ntmps22
    go_wp2_with fail
    refine (s_EntriesOk (H.out.grow HB0.out)).mono ?_
    rintro e w1 ⟨rfl, hb⟩
    have X1 := hid (Bx.below hb X0.out.f.lt X0.out)
    have HB1 := hid (below_call HB0.out hb)
    clear hb
    have x := X1.out.out; have xf := X1.out.fr
    rw [HK.out]
    go_wp2
    refine bodyPost_ret (v := .agg #[.int .i64 1, .slice none 0 0]) (by simp [results, Try.results22, go_sem, x]) rfl ?_
    exact HR.out 1 (.slice none 0 0) [] w1 _ [] E.out (by simp [I64]) (OwnL.nil _ _ _) HB1.out rfl
  by_cases hl0 : l.length = 0
  · have E := hid (show histOf l = ⟨1, []⟩ by unfold histOf; rw [hk, decide_eq_false (by omega)]; rfl)
    have HK := hid hk; have hl1 : ((l.length : Int) == 0) = true := by rw [beq_iff_eq]; omega
    clear hk hl0
    go_enter Try.func22, Try.ntmps22
    go_wp2_with fail
    refine (s_EntriesOk (H.out.grow HB0.out)).mono ?_
    rintro e w1 ⟨rfl, hb⟩
    have X1 := hid (Bx.below hb X0.out.f.lt X0.out)
    have HB1 := hid (below_call HB0.out hb)
    clear hb
    have x := X1.out.out; have xf := X1.out.fr
    rw [HK.out]
    go_wp2
    refine bodyPost_ret (v := .agg #[.int .i64 1, .slice none 0 0]) (by simp [results, Try.results22, go_sem, x]) rfl ?_
    exact HR.out 1 (.slice none 0 0) [] w1 _ [] E.out (by simp [I64]) (OwnL.nil _ _ _) HB1.out rfl
  have HK := hid hk
  have hl1 : ((l.length : Int) == 0) = false := by rw [beq_eq_false_iff_ne]; omega
  have hE0 : histOf l = ⟨((lastOf l).getD 0 zEnt).Num, (lastOf l).map (·.Text)⟩ := by unfold histOf histOfT; rw [hk, decide_eq_true hl0]; rfl
  have hLn : 0 < (lastOf l).length ∧ (lastOf l).length ≤ 60 := by rw [lastOf_len]; omega
  clear hk
  go_enter Try.func22, Try.ntmps22
  go_wp2_with fail
  refine (s_EntriesOk (H.out.grow HB0.out)).mono ?_
  rintro e w1 ⟨rfl, hb⟩
  have X1 := hid (Bx.below hb X0.out.f.lt X0.out)
  have HB1 := hid (below_call HB0.out hb)
  clear hb X0
  rw [HK.out]
  have hz1' : w.heap.size < w1.heap.size := X1.out.f.lt
  go_wp2_with fail
  refine (s_LastOf (H.out.grow HB1.out)).mono ?_
  rintro e w2 ⟨vL, b0, rfl, hOL, hb⟩
  obtain ⟨L, hLe⟩ : ∃ L, L = lastOf l := ⟨_, rfl⟩
  rw [← hLe] at hOL hE0 hLn
  obtain ⟨pL, cL, bL, rfl, hbL, hSL⟩ := hOL.slc
  have HL := hid (fun b (hb : b ∈ bL) => show w1.heap.size ≤ b ∧ b < w2.heap.size from hOL.lts b (hbL b hb))
  have X2 := hid (Bx.below hb X1.out.f.lt X1.out)
  have HB2 := hid (HB1.out.trans (hb.mono HB1.out.size))
  have S2 := hid hSL
  have hs2 := hb.size
  clear hb hOL hbL hSL X1 HB1 hLe
  obtain ⟨hL0, hL60⟩ := hLn
  obtain ⟨g1, o1, cs1, _, e1, _, hp1, _, hA1⟩ := S2.out.elem 0 hL0
  obtain ⟨_, rfl, q1, _⟩ := open_Entry hp1
  have c0 : w2.cell? ⟨g1, o1, none⟩ = some (.int .i64 L[0].Num) := by simpa using hA1 0 _ rfl
  obtain ⟨F, hF⟩ : ∃ F, F = L[0].Num := ⟨_, rfl⟩
  rw [← hF] at c0 q1
  have HE := hid (show histOf l = ⟨F, L.map (·.Text)⟩ by rw [hE0, hF]; simp [List.getD, hL0])
  have hFI := q1
  subst e1
  clear hE0 hA1 hp1 hF
  have hli : (0 : Int) < (L.length : Int) := by omega
  go_upto_region 5 with fail
  refine late_genw (fun w3 hw3 => ?_)
  have hbb : Below w2.heap.size w2 w3 := by rw [hw3]; exact (Below.refl _ _).alloc (Nat.le_refl _) _
  have X3 := hid (Bx.below hbb X2.out.f.lt X2.out)
  have Y3 := hid (show Bx w3 w2.heap.size #[.int .i64 F, .slice none 0 0] by rw [hw3]; exact Bx.new _ _ _ rfl)
  have S3 := hid (S2.out.grow hbb)
  have HB3 := hid (HB2.out.trans (hbb.mono HB2.out.size))
  have hs3 : w2.heap.size + 1 ≤ w3.heap.size := by rw [hw3]; simp
  clear hw3 hbb X2 S2 HB2 c0 q1
  obtain ⟨pL, hpL⟩ : ∃ pL, pL = (some ⟨g1, o1, none⟩ : Option Addr) := ⟨_, rfl⟩
  rw [← hpL] at S3 ⊢
  clear hpL
  go_wp2_with fail
  go_loopw [25] (fun i wr => ∃ (k : Nat) (v : Value) (b2 : List Nat) (ys : List ByteArray), k ≤ L.length ∧ i = .int .i64 (k : Int) ∧ ys = (L.take k).map (·.Text) ∧ OwnL (w2.heap.size + 1) wr 9 v b2 ys ∧ Bx wr w.heap.size #[.int .i64 0, .slice none 0 0] ∧ Bx wr (w2.heap.size) #[.int .i64 F, v] ∧ Slc wr bL pL L.length cL L ∧ Below w.heap.size w wr ∧ w2.heap.size + 1 ≤ wr.heap.size) (fun i _ => L.length - (intOf i).toNat)
  case atStart => exact ⟨0, .slice none 0 0, [], [], Nat.zero_le _, rfl, rfl, OwnL.nil _ _ _, X3.out, Y3.out, S3.out, HB3.out, hs3⟩
  case round =>
    obtain ⟨k, v, b2, ys, hkL, rfl, hys, hO, hX, hY, hS, hB, hsr⟩ := hrel
    have HO := hid hO; have HX := hid hX; have HY := hid hY; have HSr := hid hS; have HBr := hid hB
    have hx9 := hX.f.lt; have hy9 := hY.f.lt
    have HYL := hid (show ys.length = k by rw [hys, List.length_map, List.length_take]; omega)
    have HYS := hid hys; clear hys
    obtain ⟨pv, cv, rfl⟩ := hO.slice
    clear hO hX hY hS hB X3 Y3 S3 HB3
    by_cases hlt : k < L.length
    rotate_left
    · have hki : ¬ (k : Int) < (L.length : Int) := by omega
      have hke : k = L.length := by omega
      subst hke
      have hye := HYS.out
      rw [List.take_length] at hye
      subst hye
      have x := HX.out.out; have xf := HX.out.fr; have y := HY.out.out
      obtain ⟨zs, hzs⟩ : ∃ zs, zs = L.map (·.Text) := ⟨_, rfl⟩
      rw [← hzs] at HO HY HE y
      clear HYL HYS hzs
      go_wp2
      refine bodyPost_ret (v := .agg #[.int .i64 F, .slice pv zs.length cv]) (by simp [results, Try.results22, go_sem, x]) rfl ?_
      exact HR.out F _ b2 wr _ _ HE.out hFI (HO.out.mono (by omega)) HBr.out (by simp)
    have hki : (k : Int) < (L.length : Int) := by omega
    obtain ⟨g1, o1, cs1, _, e1, _, hp1, _, hA1⟩ := HSr.out.elem k hlt
    obtain ⟨_, rfl, q1, q2⟩ := open_Entry hp1
    have c0 : wr.cell? ⟨g1, o1 + k * 2, none⟩ = some _ := hA1 0 _ rfl
    have c1 : wr.cell? ⟨g1, o1 + k * 2 + 1, none⟩ = some _ := hA1 1 _ rfl
    obtain ⟨x, hx⟩ : ∃ x, x = L[k] := ⟨_, rfl⟩
    rw [← hx] at c0 c1 q2
    have E := hid (show ys ++ [x.Text] = (L.take (k + 1)).map (·.Text) by rw [HYS.out, hx, take_map_succ _ _ _ hlt])
    subst e1
    clear hA1 hp1 q1 hx
    go_upto_region 8 with fail
    refine late_genw (fun w4 hw4 => ?_)
    have hbb : Below wr.heap.size wr w4 := by rw [hw4]; exact (Below.refl _ _).alloc (Nat.le_refl _) _
    have Z4 := hid (show Bx w4 wr.heap.size #[.int .i64 x.Num, .string x.Text] by rw [hw4]; exact Bx.new _ _ _ rfl)
    have X4 := hid (Bx.below hbb hx9 HX.out)
    have Y4 := hid (Bx.below hbb hy9 HY.out)
    have O4 := hid (HO.out.grow hbb)
    have S4 := hid (HSr.out.grow hbb)
    have HB4 := hid (HBr.out.trans (hbb.mono HBr.out.size))
    have hs4 := hbb.size
    clear hw4 hbb HX HY HO HSr HBr c0 c1
    have z4 := Z4.out.out; have y4 := Y4.out.out; have y4f := Y4.out.fr
    go_wp2_with (at_builtin; refine wp_append rfl _ _ 52 rfl 9 i0 (.string ByteArray.empty) 16 Try.underlying52 hi hz0 hz1 hz2 rfl (lo := w2.heap.size + 1) (bs := b2) (xs := ys) rfl (O4.out.alloc _) (b2 := []) (ys := [x.Text]) rfl ?src List.nodup_nil ?q1 ?q2 ?q3 ?q4 ?_)
    case src => exact src_new (pt_s q2) (by simp) _ _
    case q1 => simp
    case q2 => have := HYL.out; simp; omega
    case q3 => have := HYL.out; simp; omega
    case q4 => simp; omega
    intro p5 c5 w5 b5 hO5 hT hm
    have hup : ∀ b ∈ b2, w2.heap.size + 1 ≤ b ∧ b < w4.heap.size := fun b hb => O4.out.lts b hb
    have hT5 : Tch b2 w4 w5 := ((Tch.refl b2 w4).alloc _).trans hT
    have X5 := hid (Bx.tch (b := w.heap.size) hT5 (by omega) (fun hb => by have := hup _ hb; omega) X4.out)
    have Y5 := hid (Bx.tch (b := w2.heap.size) hT5 (by omega) (fun hb => by have := hup _ hb; omega) Y4.out)
    have S5 := hid (S4.out.tch hT5 (fun b hb hm => by have := hup b hm; have := HL.out b hb; omega))
    have HB5 := hid (HB4.out.trans (hT5.below HB4.out.size (fun b hb => by have := hup b hb; omega)))
    have O5 := hid (show OwnL (w2.heap.size + 1) w5 9 (.slice p5 (ys.length + [x.Text].length) c5) b5 (ys ++ [x.Text]) from hO5)
    have hs5 := hT5.size
    clear hO5 hT hm hT5 X4 Y4 S4 HB4 O4 z4 y4 y4f Z4
    have y5 := Y5.out.out; have y5f := Y5.out.fr
    go_wp2
    refine ⟨⟨k + 1, _, b5, _, by omega, rfl, E.out, O5.out.setLow (by first | (simp; done) | (simp; omega)) _, ?_, ?_, ?_, ?_, by simp; omega⟩, by simp [intOf]; omega⟩
    · exact X5.out.setOther (by first | (simp; done) | (simp; omega)) _
    · exact Y5.out.setSame 1 _
    · exact S5.out.tch ((Tch.refl [w2.heap.size] w5).setCell (by simp) _) (fun b hb hm => by have := HL.out b hb; simp at hm; omega)
    · exact HB5.out.setCell (by first | (simp; done) | (simp; omega)) _
end Go.Proofs.Ytdfpjchneofndaa
