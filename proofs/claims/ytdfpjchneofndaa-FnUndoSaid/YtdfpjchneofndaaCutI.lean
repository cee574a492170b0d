/- Runes cut out of a line (printed by gencut.py). -/
import Derived.Test.YtdfpjchneofndaaCase
import Derived.Test.YtdfpjchneofndaaLate
set_option linter.unusedSimpArgs false
set_option linter.unusedVariables false
namespace Go.G6
open Go.RowKit Rep
/-- A structure, a list of numbers, and a scalar. -/
def RetALB {α β : Type} [Rep α] [Rep β] (w : World) (x : α) (ys : List β) (v : Value) (e : Ending) (w' : World) : Prop := ∃ cs bs a l k bs2, e = .returned (.tuple #[.agg cs.toArray, .slice a l k, v]) ∧ Own w.heap.size w' bs cs x ∧ Own w.heap.size w' bs2 [.slice a l k] ys ∧ (∀ b ∈ bs, b ∉ bs2) ∧ Below w.heap.size w w'
theorem cutAt_1 {d : LineD} {x y : Int} (h : y ≤ d.At) : cutAt d x y = d.At - (y - x) := by simp [cutAt, h]
theorem cutAt_2 {d : LineD} {x y : Int} (h : ¬ y ≤ d.At) (h2 : x < d.At) : cutAt d x y = x := by simp [cutAt, h, h2]
theorem cutAt_3 {d : LineD} {x y : Int} (h : ¬ y ≤ d.At) (h2 : ¬ x < d.At) : cutAt d x y = d.At := by simp [cutAt, h, h2]
theorem lineCut_top (d : LineD) (x y : Int) (h : d.Text.length ≤ 1048576) : 1 + (lineCut d x y).nkv ≤ topK := by
  rw [line_nkv]; unfold lineCut topK; split
  · show 1 + (_ ++ _ : List Int).length ≤ _
    rw [List.length_append, List.length_take, List.length_drop]; omega
  · simp [line0]
theorem lineCut2_len (d : LineD) (x y : Int) : (lineCut2 d x y).length ≤ d.Text.length := by
  unfold lineCut2; split
  · rw [List.length_drop, List.length_take]; omega
  · simp
theorem lineCut2_top (d : LineD) (x y : Int) (h : d.Text.length ≤ 1048576) : 1 + (lineCut d x y).nkv + Mk.nE (lineCut2 d x y) ≤ topK := by
  rw [show Mk.nE (lineCut2 d x y) = (lineCut2 d x y).length from nL_const _ _ fun _ => rfl]
  have h2 := lineCut2_len d x y
  rw [line_nkv]; unfold lineCut topK; split
  · show 1 + (_ ++ _ : List Int).length + _ ≤ _
    rw [List.length_append, List.length_take, List.length_drop]; omega
  · simp [line0]; omega
end Go.G6
namespace Go.Proofs.Ytdfpjchneofndaa
open Go.RowKit Go.G6
set_option maxHeartbeats 30000000
set_option maxRecDepth 10000
theorem i_LineCut {w : World} {bs : List Nat} {cs : List Value} {d : LineD} (h : Rep.pt w bs cs d) (x : Int) (hx : I64 x) (y : Int) (hy : I64 y) :
    Calls Try.prog 63 #[.agg cs.toArray, .int .i64 x, .int .i64 y] w (RetALB w (lineCut d x y) (lineCut2 d x y) (.bool (spanOk d x y))) := by
  have H := hid h
  obtain ⟨a0, l0, k0, rfl, h0, h1⟩ := open_Line h
  obtain rfl := h0.len_eq
  clear h
  obtain ⟨i0, hi, hz0, hz1, hz2⟩ := info_parts info_int
  cases hk : inLineB d x y
  · have HZ : Hid (spanOk d x y = false ∧ lineCut d x y = line0 ∧ lineCut2 d x y = []) := hid (by have h9 : spanOk d x y = false := hk; simp [lineCut, lineCut2, h9])
    have Hk := hid hk; clear hk
    go_enter Try.func63, Try.ntmps63
    go_wp2_with fail
    refine (i_inLine (grow H.out ?_) x y).mono ?_
    · exact (((Below.refl _ _).alloc (Nat.le_refl _) _).alloc (by simp) _)
    rintro e w1 ⟨rfl, hb⟩
    have B0 : Bx w1 (w.heap.size) _ := Bx.below (b := w.heap.size) hb (by first | omega | (simp; done) | (simp; omega)) (by repeat (first  | (apply Bx.new; (focus (first | (simp; done) | (simp; omega) | omega))) | (apply Bx.alloc; rotate_left; (focus (first | (simp; done) | (simp; omega) | omega))) | (apply Bx.setOther; rotate_left; (focus (first | (simp; done) | (simp; omega) | omega))) | apply Bx.setSame))
    have B0o := B0.out
    have B0f := B0.fr
    have B1 : Bx w1 (w.heap.size + 1) _ := Bx.below (b := w.heap.size + 1) hb (by first | omega | (simp; done) | (simp; omega)) (by repeat (first  | (apply Bx.new; (focus (first | (simp; done) | (simp; omega) | omega))) | (apply Bx.alloc; rotate_left; (focus (first | (simp; done) | (simp; omega) | omega))) | (apply Bx.setOther; rotate_left; (focus (first | (simp; done) | (simp; omega) | omega))) | apply Bx.setSame))
    have B1o := B1.out
    have B1f := B1.fr
    have HB := hid (below_call (((Below.refl _ _).alloc (Nat.le_refl _) _).alloc (by simp) _) hb)
    clear hb
    rw [Hk.out]
    go_wp2
    refine bodyPost_ret (v := .tuple #[.agg #[.slice none 0 0, .int .i64 0], .slice none 0 0, .bool false]) (by simp [results, Try.results63, go_sem, B1o]) rfl ?_
    refine ⟨[.slice none 0 0, .int .i64 0], [], none, 0, 0, [], by rw [HZ.out.1], ?_, ?_, (fun b hb => by cases hb), (HB.out.setCell (by simp) _).setCell (by simp) _⟩
    · rw [HZ.out.2.1]; exact own_line0 _ _
    · rw [HZ.out.2.2]; exact own_nil _ _
  have hk0 := hk
  simp only [inLineB, Bool.and_eq_true, decide_eq_true_eq] at hk0
  obtain ⟨hlo9, hx0, hxy, hyn⟩ := hk0
  have hq := lineOk_bounds hlo9
  have hn4 := hq.1
  have h9 : spanOk d x y = true := hk
  have HZ : Hid (spanOk d x y = true ∧ lineCut d x y = cutD d x y ∧ lineCut2 d x y = (d.Text.take y.toNat).drop x.toNat) := hid (by simp [lineCut, lineCut2, h9])
  have Hk := hid hk; clear hk h9 hlo9
  obtain ⟨F, rfl⟩ : ∃ F : Nat, x = (F : Int) := ⟨x.toNat, by omega⟩
  obtain ⟨T, rfl⟩ : ∃ T : Nat, y = (T : Int) := ⟨y.toNat, by omega⟩
  obtain ⟨p1, bs1, hcut1, _, _, hS1⟩ := h0.cut_h 65 Try.underlying65 hi hz1 (F : Int) (by omega) (by omega)
  obtain ⟨p2, bs2, hcut2, _, _, hS2⟩ := h0.cut_l 65 Try.underlying65 hi hz1 (T : Int) (by omega) (by omega)
  obtain ⟨p3, bs3, hcut3, _, _, hS3⟩ := h0.cut_lh 65 Try.underlying65 hi hz1 (F : Int) (T : Int) (by omega) (by omega) (by omega)
  simp only [Int.toNat_natCast] at hcut1 hcut2 hcut3 hS1 hS2 hS3
  have HS1 := hid hS1; have HS2 := hid hS2; have HS3 := hid hS3; clear hS1 hS2 hS3
  have HL1 := hid (show (d.Text.take F).length = F by rw [List.length_take]; omega)
  have HL2 := hid (show F + (d.Text.drop T).length = F + (d.Text.length - T) by rw [List.length_drop])
  have HL3 := hid (show ((d.Text.take T).drop F).length = T - F by rw [List.length_drop, List.length_take]; omega)
  have HLt := hid (show (d.Text.take F ++ d.Text.drop T).length = F + (d.Text.length - T) by rw [List.length_append, List.length_take, List.length_drop]; omega)
  have hwA : wrap64 ((T : Int) - (F : Int)) = (T : Int) - (F : Int) := IntWalk.wrap64_in _ (by omega)
  have hwA2 : IntKind.i64.wrap ((T : Int) - (F : Int)) = (T : Int) - (F : Int) := wrapI (by omega)
  have HQ1 := hid hq; clear hq
  go_enter Try.func63, Try.ntmps63
  go_wp2_with fail
  refine (i_inLine (grow H.out ?_) (F : Int) (T : Int)).mono ?_
  · exact (((Below.refl _ _).alloc (Nat.le_refl _) _).alloc (by simp) _)
  rintro e w1 ⟨rfl, hb⟩
  have B0 : Bx w1 (w.heap.size) _ := Bx.below (b := w.heap.size) hb (by first | omega | (simp; done) | (simp; omega)) (by repeat (first  | (apply Bx.new; (focus (first | (simp; done) | (simp; omega) | omega))) | (apply Bx.alloc; rotate_left; (focus (first | (simp; done) | (simp; omega) | omega))) | (apply Bx.setOther; rotate_left; (focus (first | (simp; done) | (simp; omega) | omega))) | apply Bx.setSame))
  have B0o := B0.out
  have B0f := B0.fr
  have B1 : Bx w1 (w.heap.size + 1) _ := Bx.below (b := w.heap.size + 1) hb (by first | omega | (simp; done) | (simp; omega)) (by repeat (first  | (apply Bx.new; (focus (first | (simp; done) | (simp; omega) | omega))) | (apply Bx.alloc; rotate_left; (focus (first | (simp; done) | (simp; omega) | omega))) | (apply Bx.setOther; rotate_left; (focus (first | (simp; done) | (simp; omega) | omega))) | apply Bx.setSame))
  have B1o := B1.out
  have B1f := B1.fr
  have HB := hid (below_call (((Below.refl _ _).alloc (Nat.le_refl _) _).alloc (by simp) _) hb)
  have hs1 : w.heap.size + 2 ≤ w1.heap.size := by have := hb.size; simpa using this
  have HX0 := hid B0; have HX1 := hid B1
  clear hb
  rw [Hk.out]
  go_upto_region 3 with fail
  go_cut [9] (fun v9 W => ∃ g p c bx, v9 = .pointer (some ⟨g, 0, none⟩) ∧ Bx W g #[.slice p (F + (d.Text.length - T)) c, .int .i64 d.At] ∧ OwnL (w.heap.size + 2) W 3 (.slice p (F + (d.Text.length - T)) c) bx (d.Text.take F ++ d.Text.drop T) ∧ (∀ b ∈ bx, b ≠ g) ∧ w.heap.size + 2 ≤ g ∧ g < W.heap.size ∧ Below (w.heap.size + 2) w1 W)
  case first =>
    go_wp2_with fail
    refine late_start (fun W => Below (w.heap.size + 2) w1 W ∧ W.cell? ⟨w.heap.size, 0, none⟩ = some (.slice a0 d.Text.length k0) ∧ W.cell? ⟨w.heap.size, 1, none⟩ = some (.int .i64 d.At)) 14 (by kernel_rfl) ?_ (fun hS => ?_)
    · exact ⟨(Below.refl _ _).drew, HX0.out.out 0, HX0.out.out 1⟩
    refine late_genw (fun U0 hU => ?_)
    rw [← hU] at hS
    have hz00 := hS.1.size
    have hlo : w.heap.size + 2 ≤ U0.heap.size := by omega
    clear hU
    refine late_take (i := 0) (v := ?_) rfl (by kernel_rfl) (fun _ _ _ h => h) (by rfl) ?_ (by assumption) ?_
    rotate_left
    · (intro w9 hS9; (try dsimp only at hS9); (try go_split_ands); go_simp <;> with_reducible rfl)
    try simp only [Act.put, List.setIfInBounds_toArray, List.set_cons_zero, List.set_cons_succ]
    refine late_take (i := 1) (v := ?_) rfl (by kernel_rfl) (fun _ _ _ h => h) (by rfl) ?_ (by assumption) ?_
    rotate_left
    · (intro w9 hS9; (try dsimp only at hS9); (try go_split_ands); go_simp <;> with_reducible rfl)
    try simp only [Act.put, List.setIfInBounds_toArray, List.set_cons_zero, List.set_cons_succ]
    refine late_take (i := 2) (v := ?_) rfl (by kernel_rfl) (fun _ _ _ h => h) (by rfl) ?_ (by assumption) ?_
    rotate_left
    · (intro w9 hS9; (try dsimp only at hS9); (try go_split_ands); go_simp <;> with_reducible rfl)
    try simp only [Act.put, List.setIfInBounds_toArray, List.set_cons_zero, List.set_cons_succ]
    refine late_take (i := 3) (v := ?_) rfl (by kernel_rfl) (fun _ _ _ h => h) (by rfl) ?_ (by assumption) ?_
    rotate_left
    · (intro w9 hS9; (try dsimp only at hS9); (try go_split_ands); go_simp <;> with_reducible rfl)
    try simp only [Act.put, List.setIfInBounds_toArray, List.set_cons_zero, List.set_cons_succ]
    refine late_take (i := 5) (v := ?_) rfl (by kernel_rfl) (fun _ _ _ h => h) (by rfl) ?_ (by assumption) ?_
    rotate_left
    · (intro w9 hS9; (try dsimp only at hS9); (try go_split_ands); go_simp <;> with_reducible rfl)
    try simp only [Act.put, List.setIfInBounds_toArray, List.set_cons_zero, List.set_cons_succ]
    refine late_take (i := 6) (v := ?_) rfl (by kernel_rfl) (fun _ _ _ h => h) (by rfl) ?_ (by assumption) ?_
    rotate_left
    · (intro w9 hS9; (try dsimp only at hS9); (try go_split_ands); go_simp <;> with_reducible rfl)
    try simp only [Act.put, List.setIfInBounds_toArray, List.set_cons_zero, List.set_cons_succ]
    refine late_take (i := 7) (v := ?_) rfl (by kernel_rfl) (fun _ _ _ h => h) (by rfl) ?_ (by assumption) ?_
    rotate_left
    · (intro w9 hS9; (try dsimp only at hS9); (try go_split_ands); go_simp <;> with_reducible rfl)
    try simp only [Act.put, List.setIfInBounds_toArray, List.set_cons_zero, List.set_cons_succ]
    refine late_take (i := 8) (v := ?_) rfl (by kernel_rfl) (fun _ _ _ h => h) (by rfl) ?_ (by assumption) ?_
    rotate_left
    · (intro w9 hS9; (try dsimp only at hS9); (try go_split_ands); go_simp <;> with_reducible rfl)
    try simp only [Act.put, List.setIfInBounds_toArray, List.set_cons_zero, List.set_cons_succ]
    refine late_take (i := 10) (v := ?_) rfl (by kernel_rfl) (fun _ _ _ h => h) (by rfl) ?_ (by assumption) ?_
    rotate_left
    · (intro w9 hS9; (try dsimp only at hS9); (try go_split_ands); go_simp <;> with_reducible rfl)
    try simp only [Act.put, List.setIfInBounds_toArray, List.set_cons_zero, List.set_cons_succ]
    refine late_take (i := 11) (v := ?_) rfl (by kernel_rfl) (fun _ _ _ h => h) (by rfl) ?_ (by assumption) ?_
    rotate_left
    · (intro w9 hS9; (try dsimp only at hS9); (try go_split_ands); go_simp <;> with_reducible rfl)
    try simp only [Act.put, List.setIfInBounds_toArray, List.set_cons_zero, List.set_cons_succ]
    refine late_two (i := 4) (j := 13) rfl rfl (by kernel_rfl) (fun K9 hK9 => ?_) (fun K9 hK9 => ?_)
    · skip
      go_simp
      refine (i_copyInts (HS1.out.grow (HB.out.trans (hS.1.mono (by omega)))) (by rw [HL1.out]; omega)).mono ?_
      rintro e U1 ⟨v, b1, rfl, hO, hst⟩
      obtain ⟨pa, ca, rfl⟩ := hO.slice
      rw [HL1.out] at hO ⊢
      replace hO := hO.mono (lo' := w.heap.size + 2) hlo
      go_wp2_with fail
      refine hK9.out _ _ (fun _ => ?_) (fun hS9 => ?_)
      · (try dsimp only); exact ⟨hS.1.trans (hst.mono hlo), cellc (Tch.of_below (bs := []) hst) hS.2.1 (by simp), cellc (Tch.of_below (bs := []) hst) hS.2.2 (by simp)⟩
      replace hS := hS9 (by decide)
      clear hK9 K9 hS9
      try simp only [Act.put, List.setIfInBounds_toArray, List.set_cons_zero, List.set_cons_succ]
      replace hlo : w.heap.size + 2 ≤ U1.heap.size := Nat.le_trans hlo hst.size
      clear hst
      refine late_two (i := 9) (j := 13) rfl rfl (by kernel_rfl) (fun K9 hK9 => ?_) (fun K9 hK9 => ?_)
      · skip
        refine step_append rfl _ _ 65 rfl 3 i0 (.int .i64 0) 8 Try.underlying65 hi hz0 hz1 hz2 rfl (lo := w.heap.size + 2) (bs := b1) (xs := d.Text.take F) rfl ?own (b2 := []) (ys := d.Text.drop T) rfl ?src List.nodup_nil ?f2 ?q2 ?q3 ?q4 ?_
        case own => exact hO
        case src => exact Slc.src (HS2.out.grow (HB.out.trans (hS.1.mono (by omega))))
        case f2 => simp
        case q2 => rw [HL1.out, List.length_drop]; omega
        case q3 => rw [HL1.out, List.length_drop]; omega
        case q4 => exact hlo
        intro p2 c2 U2 b2 hO2 hT hm
        rw [HL1.out, HL2.out] at hO2 ⊢
        refine hK9.out _ _ (fun _ => ?_) (fun hS9 => ?_)
        · (try dsimp only); exact ⟨hS.1.trans (hT.below hlo (fun x hx => (hO.lts x hx).1)), cellc hT hS.2.1 (fun hm9 => by have := (hO.lts _ hm9).1; (try simp at this); omega), cellc hT hS.2.2 (fun hm9 => by have := (hO.lts _ hm9).1; (try simp at this); omega)⟩
        replace hS := hS9 (by decide)
        clear hK9 K9 hS9
        try simp only [Act.put, List.setIfInBounds_toArray, List.set_cons_zero, List.set_cons_succ]
        replace hlo : w.heap.size + 2 ≤ U2.heap.size := Nat.le_trans hlo hT.size
        clear hO hT hm
        have hO := hO2
        clear hO2
        refine late_take (i := 12) (v := ?_) rfl (by kernel_rfl) (fun _ _ _ h => h) (by rfl) ?_ (by assumption) ?_
        rotate_left
        · (intro w9 hS9; (try dsimp only at hS9); (try go_split_ands); go_simp <;> with_reducible rfl)
        try simp only [Act.put, List.setIfInBounds_toArray, List.set_cons_zero, List.set_cons_succ]
        refine late_one (i := 13) rfl (by kernel_rfl) (fun K9 hK9 => ?_)
        go_simp
        refine late_gen (fun U3 hU => ?_)
        have hst : Below U2.heap.size U2 U3 := by rw [hU]; exact (Below.refl _ _).alloc (Nat.le_refl _) _
        have hbx : Bx U3 U2.heap.size #[.slice none 0 0, .int .i64 0] := by rw [hU]; exact Bx.new _ _ _ rfl
        have hgb : U2.heap.size < U3.heap.size := by rw [hU]; simp
        have hgl : w.heap.size + 2 ≤ U2.heap.size := hlo
        clear hU
        have hnb : ∀ b ∈ b2, b ≠ U2.heap.size := fun b hb => by have := (hO.lts b hb).2; omega
        replace hO := hO.grow hst
        refine hK9.out _ _ (fun _ => ?_) (fun hS9 => ?_)
        · (try dsimp only); exact ⟨hS.1.trans (hst.mono hlo), cellc (Tch.of_below (bs := []) hst) hS.2.1 (by simp), cellc (Tch.of_below (bs := []) hst) hS.2.2 (by simp)⟩
        replace hS := hS9 (by decide)
        clear hK9 K9 hS9
        try simp only [Act.put, List.setIfInBounds_toArray, List.set_cons_zero, List.set_cons_succ]
        replace hlo : w.heap.size + 2 ≤ U3.heap.size := Nat.le_trans hlo hst.size
        clear hst
        refine late_one (i := 14) rfl (by kernel_rfl) (fun K9 hK9 => ?_)
        have bo := hbx.out; have bf := hbx.fr
        go_simp
        refine hK9.out _ _ (fun h => absurd rfl h) (fun _ => ?_)
        clear hK9 K9
        try simp only [Act.put, List.setIfInBounds_toArray, List.set_cons_zero, List.set_cons_succ]
        refine late_done (by kernel_rfl) ?_ _
        go_wp2_with fail
        go_meet
        refine ⟨_, _, _, _, rfl, ?_, (hO.setCell (fun b hb => hnb b hb) _).setCell (fun b hb => hnb b hb) _, hnb, hgl, ?_, ?_⟩
        · exact (Bx.setSame (Bx.setSame hbx 0 _) 1 _)
        · simp; omega
        · exact (hS.1.setCell (by simp; omega) _).setCell (by simp; omega) _
      · skip
        go_simp
        refine late_gen (fun U4 hU => ?_)
        have hst : Below U1.heap.size U1 U4 := by rw [hU]; exact (Below.refl _ _).alloc (Nat.le_refl _) _
        have hbx : Bx U4 U1.heap.size #[.slice none 0 0, .int .i64 0] := by rw [hU]; exact Bx.new _ _ _ rfl
        have hgb : U1.heap.size < U4.heap.size := by rw [hU]; simp
        have hgl : w.heap.size + 2 ≤ U1.heap.size := hlo
        clear hU
        have hnb : ∀ b ∈ b1, b ≠ U1.heap.size := fun b hb => by have := (hO.lts b hb).2; omega
        replace hO := hO.grow hst
        refine hK9.out _ _ (fun _ => ?_) (fun hS9 => ?_)
        · (try dsimp only); exact ⟨hS.1.trans (hst.mono hlo), cellc (Tch.of_below (bs := []) hst) hS.2.1 (by simp), cellc (Tch.of_below (bs := []) hst) hS.2.2 (by simp)⟩
        replace hS := hS9 (by decide)
        clear hK9 K9 hS9
        try simp only [Act.put, List.setIfInBounds_toArray, List.set_cons_zero, List.set_cons_succ]
        replace hlo : w.heap.size + 2 ≤ U4.heap.size := Nat.le_trans hlo hst.size
        clear hst
        refine late_one (i := 9) rfl (by kernel_rfl) (fun K9 hK9 => ?_)
        refine step_append rfl _ _ 65 rfl 3 i0 (.int .i64 0) 8 Try.underlying65 hi hz0 hz1 hz2 rfl (lo := w.heap.size + 2) (bs := b1) (xs := d.Text.take F) rfl ?own (b2 := []) (ys := d.Text.drop T) rfl ?src List.nodup_nil ?f2 ?q2 ?q3 ?q4 ?_
        case own => exact hO
        case src => exact Slc.src (HS2.out.grow (HB.out.trans (hS.1.mono (by omega))))
        case f2 => simp
        case q2 => rw [HL1.out, List.length_drop]; omega
        case q3 => rw [HL1.out, List.length_drop]; omega
        case q4 => exact hlo
        intro p2 c2 U5 b2 hO2 hT hm
        rw [HL1.out, HL2.out] at hO2 ⊢
        have hnb2 : ∀ x ∈ b2, x ≠ U1.heap.size := fun x hx => (hm x hx).elim (fun h => hnb x h) (fun h => h.elim (fun h => by cases h) (fun h => by have := hgb; omega))
        replace hbx := Bx.tch hT hgb (fun h => hnb _ h rfl) hbx
        replace hgb : U1.heap.size < U5.heap.size := Nat.lt_of_lt_of_le hgb hT.size
        refine hK9.out _ _ (fun _ => ?_) (fun hS9 => ?_)
        · (try dsimp only); exact ⟨hS.1.trans (hT.below hlo (fun x hx => (hO.lts x hx).1)), cellc hT hS.2.1 (fun hm9 => by have := (hO.lts _ hm9).1; (try simp at this); omega), cellc hT hS.2.2 (fun hm9 => by have := (hO.lts _ hm9).1; (try simp at this); omega)⟩
        replace hS := hS9 (by decide)
        clear hK9 K9 hS9
        try simp only [Act.put, List.setIfInBounds_toArray, List.set_cons_zero, List.set_cons_succ]
        replace hlo : w.heap.size + 2 ≤ U5.heap.size := Nat.le_trans hlo hT.size
        clear hO hT hm
        have hO := hO2
        clear hO2
        clear hnb
        have hnb := hnb2
        clear hnb2
        refine late_take (i := 12) (v := ?_) rfl (by kernel_rfl) (fun _ _ _ h => h) (by rfl) ?_ (by assumption) ?_
        rotate_left
        · (intro w9 hS9; (try dsimp only at hS9); (try go_split_ands); go_simp <;> with_reducible rfl)
        try simp only [Act.put, List.setIfInBounds_toArray, List.set_cons_zero, List.set_cons_succ]
        refine late_one (i := 14) rfl (by kernel_rfl) (fun K9 hK9 => ?_)
        have bo := hbx.out; have bf := hbx.fr
        go_simp
        refine hK9.out _ _ (fun h => absurd rfl h) (fun _ => ?_)
        clear hK9 K9
        try simp only [Act.put, List.setIfInBounds_toArray, List.set_cons_zero, List.set_cons_succ]
        refine late_done (by kernel_rfl) ?_ _
        go_wp2_with fail
        go_meet
        refine ⟨_, _, _, _, rfl, ?_, (hO.setCell (fun b hb => hnb b hb) _).setCell (fun b hb => hnb b hb) _, hnb, hgl, ?_, ?_⟩
        · exact (Bx.setSame (Bx.setSame hbx 0 _) 1 _)
        · simp; omega
        · exact (hS.1.setCell (by simp; omega) _).setCell (by simp; omega) _
    · skip
      go_simp
      refine late_gen (fun U6 hU => ?_)
      have hst : Below U0.heap.size U0 U6 := by rw [hU]; exact (Below.refl _ _).alloc (Nat.le_refl _) _
      have hbx : Bx U6 U0.heap.size #[.slice none 0 0, .int .i64 0] := by rw [hU]; exact Bx.new _ _ _ rfl
      have hgb : U0.heap.size < U6.heap.size := by rw [hU]; simp
      have hgl : w.heap.size + 2 ≤ U0.heap.size := hlo
      clear hU
      refine hK9.out _ _ (fun _ => ?_) (fun hS9 => ?_)
      · (try dsimp only); exact ⟨hS.1.trans (hst.mono hlo), cellc (Tch.of_below (bs := []) hst) hS.2.1 (by simp), cellc (Tch.of_below (bs := []) hst) hS.2.2 (by simp)⟩
      replace hS := hS9 (by decide)
      clear hK9 K9 hS9
      try simp only [Act.put, List.setIfInBounds_toArray, List.set_cons_zero, List.set_cons_succ]
      replace hlo : w.heap.size + 2 ≤ U6.heap.size := Nat.le_trans hlo hst.size
      clear hst
      refine late_one (i := 4) rfl (by kernel_rfl) (fun K9 hK9 => ?_)
      go_simp
      refine (i_copyInts (HS1.out.grow (HB.out.trans (hS.1.mono (by omega)))) (by rw [HL1.out]; omega)).mono ?_
      rintro e U7 ⟨v, b1, rfl, hO, hst⟩
      obtain ⟨pa, ca, rfl⟩ := hO.slice
      rw [HL1.out] at hO ⊢
      have hnb : ∀ b ∈ b1, b ≠ U0.heap.size := fun b hb => by have := (hO.lts b hb).1; omega
      replace hbx := Bx.below hst hgb hbx
      replace hgb : U0.heap.size < U7.heap.size := Nat.lt_of_lt_of_le hgb hst.size
      replace hO := hO.mono (lo' := w.heap.size + 2) hlo
      go_wp2_with fail
      refine hK9.out _ _ (fun _ => ?_) (fun hS9 => ?_)
      · (try dsimp only); exact ⟨hS.1.trans (hst.mono hlo), cellc (Tch.of_below (bs := []) hst) hS.2.1 (by simp), cellc (Tch.of_below (bs := []) hst) hS.2.2 (by simp)⟩
      replace hS := hS9 (by decide)
      clear hK9 K9 hS9
      try simp only [Act.put, List.setIfInBounds_toArray, List.set_cons_zero, List.set_cons_succ]
      replace hlo : w.heap.size + 2 ≤ U7.heap.size := Nat.le_trans hlo hst.size
      clear hst
      refine late_one (i := 9) rfl (by kernel_rfl) (fun K9 hK9 => ?_)
      refine step_append rfl _ _ 65 rfl 3 i0 (.int .i64 0) 8 Try.underlying65 hi hz0 hz1 hz2 rfl (lo := w.heap.size + 2) (bs := b1) (xs := d.Text.take F) rfl ?own (b2 := []) (ys := d.Text.drop T) rfl ?src List.nodup_nil ?f2 ?q2 ?q3 ?q4 ?_
      case own => exact hO
      case src => exact Slc.src (HS2.out.grow (HB.out.trans (hS.1.mono (by omega))))
      case f2 => simp
      case q2 => rw [HL1.out, List.length_drop]; omega
      case q3 => rw [HL1.out, List.length_drop]; omega
      case q4 => exact hlo
      intro p2 c2 U8 b2 hO2 hT hm
      rw [HL1.out, HL2.out] at hO2 ⊢
      have hnb2 : ∀ x ∈ b2, x ≠ U0.heap.size := fun x hx => (hm x hx).elim (fun h => hnb x h) (fun h => h.elim (fun h => by cases h) (fun h => by have := hgb; omega))
      replace hbx := Bx.tch hT hgb (fun h => hnb _ h rfl) hbx
      replace hgb : U0.heap.size < U8.heap.size := Nat.lt_of_lt_of_le hgb hT.size
      refine hK9.out _ _ (fun _ => ?_) (fun hS9 => ?_)
      · (try dsimp only); exact ⟨hS.1.trans (hT.below hlo (fun x hx => (hO.lts x hx).1)), cellc hT hS.2.1 (fun hm9 => by have := (hO.lts _ hm9).1; (try simp at this); omega), cellc hT hS.2.2 (fun hm9 => by have := (hO.lts _ hm9).1; (try simp at this); omega)⟩
      replace hS := hS9 (by decide)
      clear hK9 K9 hS9
      try simp only [Act.put, List.setIfInBounds_toArray, List.set_cons_zero, List.set_cons_succ]
      replace hlo : w.heap.size + 2 ≤ U8.heap.size := Nat.le_trans hlo hT.size
      clear hO hT hm
      have hO := hO2
      clear hO2
      clear hnb
      have hnb := hnb2
      clear hnb2
      refine late_take (i := 12) (v := ?_) rfl (by kernel_rfl) (fun _ _ _ h => h) (by rfl) ?_ (by assumption) ?_
      rotate_left
      · (intro w9 hS9; (try dsimp only at hS9); (try go_split_ands); go_simp <;> with_reducible rfl)
      try simp only [Act.put, List.setIfInBounds_toArray, List.set_cons_zero, List.set_cons_succ]
      refine late_one (i := 14) rfl (by kernel_rfl) (fun K9 hK9 => ?_)
      have bo := hbx.out; have bf := hbx.fr
      go_simp
      refine hK9.out _ _ (fun h => absurd rfl h) (fun _ => ?_)
      clear hK9 K9
      try simp only [Act.put, List.setIfInBounds_toArray, List.set_cons_zero, List.set_cons_succ]
      refine late_done (by kernel_rfl) ?_ _
      go_wp2_with fail
      go_meet
      refine ⟨_, _, _, _, rfl, ?_, (hO.setCell (fun b hb => hnb b hb) _).setCell (fun b hb => hnb b hb) _, hnb, hgl, ?_, ?_⟩
      · exact (Bx.setSame (Bx.setSame hbx 0 _) 1 _)
      · simp; omega
      · exact (hS.1.setCell (by simp; omega) _).setCell (by simp; omega) _
  case rest =>
    obtain ⟨g, p, c, bx, rfl, hbx, hO, hne, hgl, hgu, hp⟩ := hcut
    rename World => w3
    have X1 := HX1.out.keep (hp.block (w.heap.size + 1) (by omega))
    have X0 := HX0.out.keep (hp.block (w.heap.size) (by omega))
    have X1o := X1.out; have X1f := X1.fr; have X0o := X0.out; have X0f := X0.fr; have go1 := hbx.out; have go2 := hbx.fr
    have HB3 := hid (HB.out.trans (hp.mono (by omega : w.heap.size ≤ w.heap.size + 2)))
    have HO := hid hO; have HX1 := hid X1; have HX0 := hid X0; have HBX := hid hbx
    clear hO hbx X1 X0 hp
    by_cases hA : (T : Int) ≤ d.At
    rotate_left
    by_cases hB : (F : Int) < d.At
    rotate_left
    · have HAt := hid (show cutAt d (F : Int) (T : Int) = d.At from cutAt_3 hA hB)
      have hA2 : ¬ d.At ≥ (T : Int) := hA
      go_upto_region 8 with fail
      go_wp2_with fail
      refine late_start (fun W => Below w.heap.size w W ∧ W.cell? ⟨w.heap.size, 0, none⟩ = some (.slice a0 d.Text.length k0) ∧ W.cell? ⟨g, 0, none⟩ = some (.slice p (F + (d.Text.length - T)) c) ∧ W.cell? ⟨g, 1, none⟩ = some (.int .i64 (d.At))) 9 (by kernel_rfl) ?_ (fun hS => ?_)
      · exact ⟨(HB3.out).drew, HX0.out.out 0, HBX.out.out 0, HBX.out.out 1⟩
      refine late_genw (fun U0 hU => ?_)
      rw [← hU] at hS
      have hO : OwnL (w.heap.size + 2) U0 3 (.slice p (F + (d.Text.length - T)) c) bx (d.Text.take F ++ d.Text.drop T) := by rw [hU]; exact HO.out.drew
      have X1 : Bx U0 (w.heap.size + 1) #[.slice none 0 0, .int .i64 0] := by rw [hU]; exact HX1.out.drew
      have hlo9 : w.heap.size + 2 ≤ U0.heap.size := by rw [hU]; simp; omega
      have hgu9 : g < U0.heap.size := by rw [hU]; simpa using hgu
      clear hU
      refine late_take (i := 0) (v := ?_) rfl (by kernel_rfl) (fun _ _ _ h => h) (by rfl) ?_ (by assumption) ?_
      rotate_left
      · (intro w9 hS9; (try dsimp only at hS9); (try go_split_ands); go_simp <;> with_reducible rfl)
      try simp only [Act.put, List.setIfInBounds_toArray, List.set_cons_zero, List.set_cons_succ]
      refine late_take (i := 1) (v := ?_) rfl (by kernel_rfl) (fun _ _ _ h => h) (by rfl) ?_ (by assumption) ?_
      rotate_left
      · (intro w9 hS9; (try dsimp only at hS9); (try go_split_ands); go_simp <;> with_reducible rfl)
      try simp only [Act.put, List.setIfInBounds_toArray, List.set_cons_zero, List.set_cons_succ]
      refine late_take (i := 2) (v := ?_) rfl (by kernel_rfl) (fun _ _ _ h => h) (by rfl) ?_ (by assumption) ?_
      rotate_left
      · (intro w9 hS9; (try dsimp only at hS9); (try go_split_ands); go_simp <;> with_reducible rfl)
      try simp only [Act.put, List.setIfInBounds_toArray, List.set_cons_zero, List.set_cons_succ]
      refine late_take (i := 3) (v := ?_) rfl (by kernel_rfl) (fun _ _ _ h => h) (by rfl) ?_ (by assumption) ?_
      rotate_left
      · (intro w9 hS9; (try dsimp only at hS9); (try go_split_ands); go_simp <;> with_reducible rfl)
      try simp only [Act.put, List.setIfInBounds_toArray, List.set_cons_zero, List.set_cons_succ]
      refine late_take (i := 4) (v := ?_) rfl (by kernel_rfl) (fun _ _ _ h => h) (by rfl) ?_ (by assumption) ?_
      rotate_left
      · (intro w9 hS9; (try dsimp only at hS9); (try go_split_ands); go_simp <;> with_reducible rfl)
      try simp only [Act.put, List.setIfInBounds_toArray, List.set_cons_zero, List.set_cons_succ]
      refine late_take (i := 5) (v := ?_) rfl (by kernel_rfl) (fun _ _ _ h => h) (by rfl) ?_ (by assumption) ?_
      rotate_left
      · (intro w9 hS9; (try dsimp only at hS9); (try go_split_ands); go_simp <;> with_reducible rfl)
      try simp only [Act.put, List.setIfInBounds_toArray, List.set_cons_zero, List.set_cons_succ]
      refine late_one (i := 6) rfl (by kernel_rfl) (fun K9 hK9 => ?_)
      go_simp
      refine (i_copyInts (HS3.out.grow hS.1) (by rw [HL3.out]; omega)).mono ?_
      rintro e U1 ⟨v, b1, rfl, hO9, hst⟩
      obtain ⟨p9, c9, rfl⟩ := hO9.slice
      rw [HL3.out] at hO9 ⊢
      have hlt9 : ∀ b ∈ bx, b < U0.heap.size := fun b hb => (hO.lts b hb).2
      replace hO := hO.grow hst
      replace X1 := Bx.below hst (by omega) X1
      have X1o := X1.out; have X1f := X1.fr
      go_wp2_with fail
      refine hK9.out _ _ (fun _ => ?_) (fun hS9 => ?_)
      · (try dsimp only); exact ⟨hS.1.trans (hst.mono hS.1.size), cellc (Tch.of_below (bs := []) hst) hS.2.1 (by simp), cellc (Tch.of_below (bs := []) hst) hS.2.2.1 (by simp), cellc (Tch.of_below (bs := []) hst) hS.2.2.2 (by simp)⟩
      replace hS := hS9 (by decide)
      clear hK9 K9 hS9
      try simp only [Act.put, List.setIfInBounds_toArray, List.set_cons_zero, List.set_cons_succ]
      refine late_one (i := 7) rfl (by kernel_rfl) (fun K9 hK9 => ?_)
      go_simp
      refine hK9.out _ _ (fun _ => ?_) (fun hS9 => ?_)
      · (try dsimp only); exact ⟨(hS.1.setCell (by simp) _).setCell (by simp) _, (World.cell?_setCell_far _ _ _ _ (by simp; try omega)).trans ((World.cell?_setCell_far _ _ _ _ (by simp; try omega)).trans hS.2.1), (World.cell?_setCell_far _ _ _ _ (by simp; try omega)).trans ((World.cell?_setCell_far _ _ _ _ (by simp; try omega)).trans hS.2.2.1), (World.cell?_setCell_far _ _ _ _ (by simp; try omega)).trans ((World.cell?_setCell_far _ _ _ _ (by simp; try omega)).trans hS.2.2.2)⟩
      replace hS := hS9 (by decide)
      clear hK9 K9 hS9
      try simp only [Act.put, List.setIfInBounds_toArray, List.set_cons_zero, List.set_cons_succ]
      refine late_take (i := 8) (v := ?_) rfl (by kernel_rfl) (fun _ _ _ h => h) (by rfl) ?_ (by assumption) ?_
      rotate_left
      · (intro w9 hS9; (try dsimp only at hS9); (try go_split_ands); go_simp <;> with_reducible rfl)
      try simp only [Act.put, List.setIfInBounds_toArray, List.set_cons_zero, List.set_cons_succ]
      refine late_one (i := 9) rfl (by kernel_rfl) (fun K9 hK9 => ?_)
      go_simp
      refine hK9.out _ _ (fun h => absurd rfl h) (fun _ => ?_)
      clear hK9 K9
      try simp only [Act.put, List.setIfInBounds_toArray, List.set_cons_zero, List.set_cons_succ]
      refine late_done (by kernel_rfl) ?_ _
      go_wp2
      refine bodyPost_ret (v := .tuple #[.agg #[.slice p (F + (d.Text.length - T)) c, .int .i64 (d.At)], .slice p9 (T - F) c9, .bool true]) (by simp [results, Try.results63, go_sem, X1o]) rfl ?_
      obtain ⟨b6, hb6, hOw⟩ := hO.own
      obtain ⟨b7, hb7, hOw2⟩ := hO9.own
      refine ⟨[.slice p (F + (d.Text.length - T)) c, .int .i64 (d.At)], b6, p9, T - F, c9, b7, by rw [HZ.out.1], ?_, ?_, ?_, ?_⟩
      · rw [HZ.out.2.1]
        refine Own.mono (lo := w.heap.size + 2) ?_ (by omega)
        have e9 : cutD d (F : Int) (T : Int) = ⟨d.Text.take F ++ d.Text.drop T, d.At⟩ := by rw [cutD, HAt.out]; rfl
        rw [e9]
        refine own_Line (d := ⟨d.Text.take F ++ d.Text.drop T, d.At⟩) ?_ (by show I64 (d.At); unfold I64; have := HQ1.out; omega)
        exact Own.setCell' _ (Own.setCell' _ hOw (fun b hb => by have := (hO.lts b (hb6 b hb)).1; simp; omega)) (fun b hb => by have := (hO.lts b (hb6 b hb)).1; simp; omega)
      · rw [HZ.out.2.2]
        refine Own.mono (lo := w.heap.size + 2) ?_ (by omega)
        simp only [Int.toNat_natCast]
        exact Own.setCell' _ (Own.setCell' _ (hOw2.mono hlo9) (fun b hb => by have := (hO9.lts b (hb7 b hb)).1; simp; omega)) (fun b hb => by have := (hO9.lts b (hb7 b hb)).1; simp; omega)
      · exact fun b hb hb2 => by have q1 := hlt9 b (hb6 b hb); have q2 := (hO9.lts b (hb7 b hb2)).1; omega
      · exact hS.1
    · have HAt := hid (show cutAt d (F : Int) (T : Int) = d.At - ((T : Int) - (F : Int)) from cutAt_1 hA)
      have hA2 : d.At ≥ (T : Int) := hA
      have hw3 : wrap64 (d.At - ((T : Int) - (F : Int))) = d.At - ((T : Int) - (F : Int)) := IntWalk.wrap64_in _ (by have := HQ1.out; omega)
      have hw4 : IntKind.i64.wrap (d.At - ((T : Int) - (F : Int))) = d.At - ((T : Int) - (F : Int)) := wrapI (by have := HQ1.out; omega)
      go_upto_region 8 with fail
      go_wp2_with fail
      refine late_start (fun W => Below w.heap.size w W ∧ W.cell? ⟨w.heap.size, 0, none⟩ = some (.slice a0 d.Text.length k0) ∧ W.cell? ⟨g, 0, none⟩ = some (.slice p (F + (d.Text.length - T)) c) ∧ W.cell? ⟨g, 1, none⟩ = some (.int .i64 (d.At - ((T : Int) - (F : Int))))) 9 (by kernel_rfl) ?_ (fun hS => ?_)
      · exact ⟨(HB3.out.setCell (by simp; omega) _).drew, (World.cell?_setCell_far _ _ _ _ (by simp; omega)).trans (HX0.out.out 0), (HBX.out.setSame 1 _).out 0, (HBX.out.setSame 1 _).out 1⟩
      refine late_genw (fun U0 hU => ?_)
      rw [← hU] at hS
      have hO : OwnL (w.heap.size + 2) U0 3 (.slice p (F + (d.Text.length - T)) c) bx (d.Text.take F ++ d.Text.drop T) := by rw [hU]; exact (HO.out.setCell (fun b hb => hne b hb) _).drew
      have X1 : Bx U0 (w.heap.size + 1) #[.slice none 0 0, .int .i64 0] := by rw [hU]; exact (HX1.out.setOther (by simp; omega) _).drew
      have hlo9 : w.heap.size + 2 ≤ U0.heap.size := by rw [hU]; simp; omega
      have hgu9 : g < U0.heap.size := by rw [hU]; simpa using hgu
      clear hU
      refine late_take (i := 0) (v := ?_) rfl (by kernel_rfl) (fun _ _ _ h => h) (by rfl) ?_ (by assumption) ?_
      rotate_left
      · (intro w9 hS9; (try dsimp only at hS9); (try go_split_ands); go_simp <;> with_reducible rfl)
      try simp only [Act.put, List.setIfInBounds_toArray, List.set_cons_zero, List.set_cons_succ]
      refine late_take (i := 1) (v := ?_) rfl (by kernel_rfl) (fun _ _ _ h => h) (by rfl) ?_ (by assumption) ?_
      rotate_left
      · (intro w9 hS9; (try dsimp only at hS9); (try go_split_ands); go_simp <;> with_reducible rfl)
      try simp only [Act.put, List.setIfInBounds_toArray, List.set_cons_zero, List.set_cons_succ]
      refine late_take (i := 2) (v := ?_) rfl (by kernel_rfl) (fun _ _ _ h => h) (by rfl) ?_ (by assumption) ?_
      rotate_left
      · (intro w9 hS9; (try dsimp only at hS9); (try go_split_ands); go_simp <;> with_reducible rfl)
      try simp only [Act.put, List.setIfInBounds_toArray, List.set_cons_zero, List.set_cons_succ]
      refine late_take (i := 3) (v := ?_) rfl (by kernel_rfl) (fun _ _ _ h => h) (by rfl) ?_ (by assumption) ?_
      rotate_left
      · (intro w9 hS9; (try dsimp only at hS9); (try go_split_ands); go_simp <;> with_reducible rfl)
      try simp only [Act.put, List.setIfInBounds_toArray, List.set_cons_zero, List.set_cons_succ]
      refine late_take (i := 4) (v := ?_) rfl (by kernel_rfl) (fun _ _ _ h => h) (by rfl) ?_ (by assumption) ?_
      rotate_left
      · (intro w9 hS9; (try dsimp only at hS9); (try go_split_ands); go_simp <;> with_reducible rfl)
      try simp only [Act.put, List.setIfInBounds_toArray, List.set_cons_zero, List.set_cons_succ]
      refine late_take (i := 5) (v := ?_) rfl (by kernel_rfl) (fun _ _ _ h => h) (by rfl) ?_ (by assumption) ?_
      rotate_left
      · (intro w9 hS9; (try dsimp only at hS9); (try go_split_ands); go_simp <;> with_reducible rfl)
      try simp only [Act.put, List.setIfInBounds_toArray, List.set_cons_zero, List.set_cons_succ]
      refine late_one (i := 6) rfl (by kernel_rfl) (fun K9 hK9 => ?_)
      go_simp
      refine (i_copyInts (HS3.out.grow hS.1) (by rw [HL3.out]; omega)).mono ?_
      rintro e U1 ⟨v, b1, rfl, hO9, hst⟩
      obtain ⟨p9, c9, rfl⟩ := hO9.slice
      rw [HL3.out] at hO9 ⊢
      have hlt9 : ∀ b ∈ bx, b < U0.heap.size := fun b hb => (hO.lts b hb).2
      replace hO := hO.grow hst
      replace X1 := Bx.below hst (by omega) X1
      have X1o := X1.out; have X1f := X1.fr
      go_wp2_with fail
      refine hK9.out _ _ (fun _ => ?_) (fun hS9 => ?_)
      · (try dsimp only); exact ⟨hS.1.trans (hst.mono hS.1.size), cellc (Tch.of_below (bs := []) hst) hS.2.1 (by simp), cellc (Tch.of_below (bs := []) hst) hS.2.2.1 (by simp), cellc (Tch.of_below (bs := []) hst) hS.2.2.2 (by simp)⟩
      replace hS := hS9 (by decide)
      clear hK9 K9 hS9
      try simp only [Act.put, List.setIfInBounds_toArray, List.set_cons_zero, List.set_cons_succ]
      refine late_one (i := 7) rfl (by kernel_rfl) (fun K9 hK9 => ?_)
      go_simp
      refine hK9.out _ _ (fun _ => ?_) (fun hS9 => ?_)
      · (try dsimp only); exact ⟨(hS.1.setCell (by simp) _).setCell (by simp) _, (World.cell?_setCell_far _ _ _ _ (by simp; try omega)).trans ((World.cell?_setCell_far _ _ _ _ (by simp; try omega)).trans hS.2.1), (World.cell?_setCell_far _ _ _ _ (by simp; try omega)).trans ((World.cell?_setCell_far _ _ _ _ (by simp; try omega)).trans hS.2.2.1), (World.cell?_setCell_far _ _ _ _ (by simp; try omega)).trans ((World.cell?_setCell_far _ _ _ _ (by simp; try omega)).trans hS.2.2.2)⟩
      replace hS := hS9 (by decide)
      clear hK9 K9 hS9
      try simp only [Act.put, List.setIfInBounds_toArray, List.set_cons_zero, List.set_cons_succ]
      refine late_take (i := 8) (v := ?_) rfl (by kernel_rfl) (fun _ _ _ h => h) (by rfl) ?_ (by assumption) ?_
      rotate_left
      · (intro w9 hS9; (try dsimp only at hS9); (try go_split_ands); go_simp <;> with_reducible rfl)
      try simp only [Act.put, List.setIfInBounds_toArray, List.set_cons_zero, List.set_cons_succ]
      refine late_one (i := 9) rfl (by kernel_rfl) (fun K9 hK9 => ?_)
      go_simp
      refine hK9.out _ _ (fun h => absurd rfl h) (fun _ => ?_)
      clear hK9 K9
      try simp only [Act.put, List.setIfInBounds_toArray, List.set_cons_zero, List.set_cons_succ]
      refine late_done (by kernel_rfl) ?_ _
      go_wp2
      refine bodyPost_ret (v := .tuple #[.agg #[.slice p (F + (d.Text.length - T)) c, .int .i64 (d.At - ((T : Int) - (F : Int)))], .slice p9 (T - F) c9, .bool true]) (by simp [results, Try.results63, go_sem, X1o]) rfl ?_
      obtain ⟨b6, hb6, hOw⟩ := hO.own
      obtain ⟨b7, hb7, hOw2⟩ := hO9.own
      refine ⟨[.slice p (F + (d.Text.length - T)) c, .int .i64 (d.At - ((T : Int) - (F : Int)))], b6, p9, T - F, c9, b7, by rw [HZ.out.1], ?_, ?_, ?_, ?_⟩
      · rw [HZ.out.2.1]
        refine Own.mono (lo := w.heap.size + 2) ?_ (by omega)
        have e9 : cutD d (F : Int) (T : Int) = ⟨d.Text.take F ++ d.Text.drop T, d.At - ((T : Int) - (F : Int))⟩ := by rw [cutD, HAt.out]; rfl
        rw [e9]
        refine own_Line (d := ⟨d.Text.take F ++ d.Text.drop T, d.At - ((T : Int) - (F : Int))⟩) ?_ (by show I64 (d.At - ((T : Int) - (F : Int))); unfold I64; have := HQ1.out; omega)
        exact Own.setCell' _ (Own.setCell' _ hOw (fun b hb => by have := (hO.lts b (hb6 b hb)).1; simp; omega)) (fun b hb => by have := (hO.lts b (hb6 b hb)).1; simp; omega)
      · rw [HZ.out.2.2]
        refine Own.mono (lo := w.heap.size + 2) ?_ (by omega)
        simp only [Int.toNat_natCast]
        exact Own.setCell' _ (Own.setCell' _ (hOw2.mono hlo9) (fun b hb => by have := (hO9.lts b (hb7 b hb)).1; simp; omega)) (fun b hb => by have := (hO9.lts b (hb7 b hb)).1; simp; omega)
      · exact fun b hb hb2 => by have q1 := hlt9 b (hb6 b hb); have q2 := (hO9.lts b (hb7 b hb2)).1; omega
      · exact hS.1
    · have HAt := hid (show cutAt d (F : Int) (T : Int) = (F : Int) from cutAt_2 hA hB)
      have hA2 : ¬ d.At ≥ (T : Int) := hA
      go_upto_region 8 with fail
      go_wp2_with fail
      refine late_start (fun W => Below w.heap.size w W ∧ W.cell? ⟨w.heap.size, 0, none⟩ = some (.slice a0 d.Text.length k0) ∧ W.cell? ⟨g, 0, none⟩ = some (.slice p (F + (d.Text.length - T)) c) ∧ W.cell? ⟨g, 1, none⟩ = some (.int .i64 ((F : Int)))) 9 (by kernel_rfl) ?_ (fun hS => ?_)
      · exact ⟨(HB3.out.setCell (by simp; omega) _).drew, (World.cell?_setCell_far _ _ _ _ (by simp; omega)).trans (HX0.out.out 0), (HBX.out.setSame 1 _).out 0, (HBX.out.setSame 1 _).out 1⟩
      refine late_genw (fun U0 hU => ?_)
      rw [← hU] at hS
      have hO : OwnL (w.heap.size + 2) U0 3 (.slice p (F + (d.Text.length - T)) c) bx (d.Text.take F ++ d.Text.drop T) := by rw [hU]; exact (HO.out.setCell (fun b hb => hne b hb) _).drew
      have X1 : Bx U0 (w.heap.size + 1) #[.slice none 0 0, .int .i64 0] := by rw [hU]; exact (HX1.out.setOther (by simp; omega) _).drew
      have hlo9 : w.heap.size + 2 ≤ U0.heap.size := by rw [hU]; simp; omega
      have hgu9 : g < U0.heap.size := by rw [hU]; simpa using hgu
      clear hU
      refine late_take (i := 0) (v := ?_) rfl (by kernel_rfl) (fun _ _ _ h => h) (by rfl) ?_ (by assumption) ?_
      rotate_left
      · (intro w9 hS9; (try dsimp only at hS9); (try go_split_ands); go_simp <;> with_reducible rfl)
      try simp only [Act.put, List.setIfInBounds_toArray, List.set_cons_zero, List.set_cons_succ]
      refine late_take (i := 1) (v := ?_) rfl (by kernel_rfl) (fun _ _ _ h => h) (by rfl) ?_ (by assumption) ?_
      rotate_left
      · (intro w9 hS9; (try dsimp only at hS9); (try go_split_ands); go_simp <;> with_reducible rfl)
      try simp only [Act.put, List.setIfInBounds_toArray, List.set_cons_zero, List.set_cons_succ]
      refine late_take (i := 2) (v := ?_) rfl (by kernel_rfl) (fun _ _ _ h => h) (by rfl) ?_ (by assumption) ?_
      rotate_left
      · (intro w9 hS9; (try dsimp only at hS9); (try go_split_ands); go_simp <;> with_reducible rfl)
      try simp only [Act.put, List.setIfInBounds_toArray, List.set_cons_zero, List.set_cons_succ]
      refine late_take (i := 3) (v := ?_) rfl (by kernel_rfl) (fun _ _ _ h => h) (by rfl) ?_ (by assumption) ?_
      rotate_left
      · (intro w9 hS9; (try dsimp only at hS9); (try go_split_ands); go_simp <;> with_reducible rfl)
      try simp only [Act.put, List.setIfInBounds_toArray, List.set_cons_zero, List.set_cons_succ]
      refine late_take (i := 4) (v := ?_) rfl (by kernel_rfl) (fun _ _ _ h => h) (by rfl) ?_ (by assumption) ?_
      rotate_left
      · (intro w9 hS9; (try dsimp only at hS9); (try go_split_ands); go_simp <;> with_reducible rfl)
      try simp only [Act.put, List.setIfInBounds_toArray, List.set_cons_zero, List.set_cons_succ]
      refine late_take (i := 5) (v := ?_) rfl (by kernel_rfl) (fun _ _ _ h => h) (by rfl) ?_ (by assumption) ?_
      rotate_left
      · (intro w9 hS9; (try dsimp only at hS9); (try go_split_ands); go_simp <;> with_reducible rfl)
      try simp only [Act.put, List.setIfInBounds_toArray, List.set_cons_zero, List.set_cons_succ]
      refine late_one (i := 6) rfl (by kernel_rfl) (fun K9 hK9 => ?_)
      go_simp
      refine (i_copyInts (HS3.out.grow hS.1) (by rw [HL3.out]; omega)).mono ?_
      rintro e U1 ⟨v, b1, rfl, hO9, hst⟩
      obtain ⟨p9, c9, rfl⟩ := hO9.slice
      rw [HL3.out] at hO9 ⊢
      have hlt9 : ∀ b ∈ bx, b < U0.heap.size := fun b hb => (hO.lts b hb).2
      replace hO := hO.grow hst
      replace X1 := Bx.below hst (by omega) X1
      have X1o := X1.out; have X1f := X1.fr
      go_wp2_with fail
      refine hK9.out _ _ (fun _ => ?_) (fun hS9 => ?_)
      · (try dsimp only); exact ⟨hS.1.trans (hst.mono hS.1.size), cellc (Tch.of_below (bs := []) hst) hS.2.1 (by simp), cellc (Tch.of_below (bs := []) hst) hS.2.2.1 (by simp), cellc (Tch.of_below (bs := []) hst) hS.2.2.2 (by simp)⟩
      replace hS := hS9 (by decide)
      clear hK9 K9 hS9
      try simp only [Act.put, List.setIfInBounds_toArray, List.set_cons_zero, List.set_cons_succ]
      refine late_one (i := 7) rfl (by kernel_rfl) (fun K9 hK9 => ?_)
      go_simp
      refine hK9.out _ _ (fun _ => ?_) (fun hS9 => ?_)
      · (try dsimp only); exact ⟨(hS.1.setCell (by simp) _).setCell (by simp) _, (World.cell?_setCell_far _ _ _ _ (by simp; try omega)).trans ((World.cell?_setCell_far _ _ _ _ (by simp; try omega)).trans hS.2.1), (World.cell?_setCell_far _ _ _ _ (by simp; try omega)).trans ((World.cell?_setCell_far _ _ _ _ (by simp; try omega)).trans hS.2.2.1), (World.cell?_setCell_far _ _ _ _ (by simp; try omega)).trans ((World.cell?_setCell_far _ _ _ _ (by simp; try omega)).trans hS.2.2.2)⟩
      replace hS := hS9 (by decide)
      clear hK9 K9 hS9
      try simp only [Act.put, List.setIfInBounds_toArray, List.set_cons_zero, List.set_cons_succ]
      refine late_take (i := 8) (v := ?_) rfl (by kernel_rfl) (fun _ _ _ h => h) (by rfl) ?_ (by assumption) ?_
      rotate_left
      · (intro w9 hS9; (try dsimp only at hS9); (try go_split_ands); go_simp <;> with_reducible rfl)
      try simp only [Act.put, List.setIfInBounds_toArray, List.set_cons_zero, List.set_cons_succ]
      refine late_one (i := 9) rfl (by kernel_rfl) (fun K9 hK9 => ?_)
      go_simp
      refine hK9.out _ _ (fun h => absurd rfl h) (fun _ => ?_)
      clear hK9 K9
      try simp only [Act.put, List.setIfInBounds_toArray, List.set_cons_zero, List.set_cons_succ]
      refine late_done (by kernel_rfl) ?_ _
      go_wp2
      refine bodyPost_ret (v := .tuple #[.agg #[.slice p (F + (d.Text.length - T)) c, .int .i64 ((F : Int))], .slice p9 (T - F) c9, .bool true]) (by simp [results, Try.results63, go_sem, X1o]) rfl ?_
      obtain ⟨b6, hb6, hOw⟩ := hO.own
      obtain ⟨b7, hb7, hOw2⟩ := hO9.own
      refine ⟨[.slice p (F + (d.Text.length - T)) c, .int .i64 ((F : Int))], b6, p9, T - F, c9, b7, by rw [HZ.out.1], ?_, ?_, ?_, ?_⟩
      · rw [HZ.out.2.1]
        refine Own.mono (lo := w.heap.size + 2) ?_ (by omega)
        have e9 : cutD d (F : Int) (T : Int) = ⟨d.Text.take F ++ d.Text.drop T, (F : Int)⟩ := by rw [cutD, HAt.out]; rfl
        rw [e9]
        refine own_Line (d := ⟨d.Text.take F ++ d.Text.drop T, (F : Int)⟩) ?_ (by show I64 ((F : Int)); unfold I64; have := HQ1.out; omega)
        exact Own.setCell' _ (Own.setCell' _ hOw (fun b hb => by have := (hO.lts b (hb6 b hb)).1; simp; omega)) (fun b hb => by have := (hO.lts b (hb6 b hb)).1; simp; omega)
      · rw [HZ.out.2.2]
        refine Own.mono (lo := w.heap.size + 2) ?_ (by omega)
        simp only [Int.toNat_natCast]
        exact Own.setCell' _ (Own.setCell' _ (hOw2.mono hlo9) (fun b hb => by have := (hO9.lts b (hb7 b hb)).1; simp; omega)) (fun b hb => by have := (hO9.lts b (hb7 b hb)).1; simp; omega)
      · exact fun b hb hb2 => by have q1 := hlt9 b (hb6 b hb); have q2 := (hO9.lts b (hb7 b hb2)).1; omega
      · exact hS.1
end Go.Proofs.Ytdfpjchneofndaa
