/- Runes put into a line (printed by genput.py). -/
import Derived.Test.YtdfpjchneofndaaLineM
import Derived.Test.YtdfpjchneofndaaLate
set_option linter.unusedSimpArgs false
set_option linter.unusedVariables false
namespace Go.Proofs.Ytdfpjchneofndaa
open Go.RowKit Go.G6
set_option maxHeartbeats 30000000
set_option maxRecDepth 10000
theorem i_LinePut {w : World} {bs bs2 : List Nat} {cs : List Value} {d : LineD} {a2 : Option Addr} {l2 k2 : Nat} {t : List Int} (h : Rep.pt w bs cs d) (h2 : Slc w bs2 a2 l2 k2 t) (hn2 : t.length ≤ 1048576) :
    Calls Try.prog 62 #[.agg cs.toArray, .slice a2 l2 k2] w (RetAB w (linePut d t) (.bool (linePutOk d t))) := by
  have H := hid h
  obtain ⟨a0, l0, k0, rfl, h0, h1⟩ := open_Line h
  obtain rfl := h0.len_eq
  clear h
  have H0 := hid (held2_new w #[.slice a0 d.Text.length k0, .int .i64 d.At] #[.slice none 0 0, .int .i64 0] 81 81)
  have HB1 : Hid (Bx ((w.alloc (.cells #[.slice a0 d.Text.length k0, .int .i64 d.At] 81)).alloc (.cells #[.slice none 0 0, .int .i64 0] 81)) (w.heap.size + 1) #[.slice none 0 0, .int .i64 0]) := hid (Bx.new _ _ _ (by simp))
  obtain rfl := h2.len_eq
  obtain ⟨i0, hi, hz0, hz1, hz2⟩ := info_parts info_int
  cases hk : lineOk d
  · have HZ : Hid (linePutOk d t = false ∧ linePut d t = line0) := hid (by simp [linePutOk, linePut, hk])
    have Hk := hid hk; clear hk
    go_enter Try.func62, Try.ntmps62
    go_wp2_with fail
    refine (i_LineOk (grow H.out ?_)).mono ?_
    · exact ((Below.refl _ _).alloc (Nat.le_refl _) _).alloc (by simp) _
    rintro e w1 ⟨rfl, hb⟩
    have B1 : Bx w1 (w.heap.size + 1) _ := Bx.below (b := w.heap.size + 1) hb (by first | omega | (simp; done) | (simp; omega)) (by repeat (first  | (apply Bx.new; (focus (first | (simp; done) | (simp; omega) | omega))) | (apply Bx.alloc; rotate_left; (focus (first | (simp; done) | (simp; omega) | omega))) | (apply Bx.setOther; rotate_left; (focus (first | (simp; done) | (simp; omega) | omega))) | apply Bx.setSame))
    have B1o := B1.out
    have B1f := B1.fr
    have HB := hid (below_call (((Below.refl _ _).alloc (Nat.le_refl _) _).alloc (by simp) _) hb)
    clear hb
    rw [Hk.out]
    go_wp2
    refine bodyPost_ret (v := .tuple #[.agg #[.slice none 0 0, .int .i64 0], .bool false]) (by simp [results, Try.results62, go_sem, B1o]) rfl ?_
    refine ⟨[.slice none 0 0, .int .i64 0], [], by first | rfl | rw [HZ.out.1], ?_, ?_⟩
    · rw [HZ.out.2]; exact own_line0 _ _
    · (repeat (first | exact HB.out | exact Below.refl _ _ | refine Below.setCell ?_ (by first | omega | (simp; done) | (simp; omega)) _ | refine Below.alloc ?_ (by first | omega | (simp; done) | (simp; omega)) _))
  have hq := lineOk_bounds hk
  have Hk := hid hk; clear hk
  obtain ⟨hq1, hq2, hq3⟩ := hq
  by_cases ht4 : t.length ≤ 400
  rotate_left
  · have HZ : Hid (linePutOk d t = false ∧ linePut d t = line0) := hid (by
      have h1 : linePutOk d t = false := by
        cases hl : linePutOk d t
        · rfl
        · simp only [linePutOk, Bool.and_eq_true] at hl
          have := (lineOk_bounds hl.2).1
          rw [putD_len] at this; omega
      exact ⟨h1, by rw [linePut, h1]; rfl⟩)
    go_enter Try.func62, Try.ntmps62
    go_wp2_with fail
    refine (i_LineOk (grow H.out ?_)).mono ?_
    · exact ((Below.refl _ _).alloc (Nat.le_refl _) _).alloc (by simp) _
    rintro e w1 ⟨rfl, hb⟩
    have B1 : Bx w1 (w.heap.size + 1) _ := Bx.below (b := w.heap.size + 1) hb (by first | omega | (simp; done) | (simp; omega)) (by repeat (first  | (apply Bx.new; (focus (first | (simp; done) | (simp; omega) | omega))) | (apply Bx.alloc; rotate_left; (focus (first | (simp; done) | (simp; omega) | omega))) | (apply Bx.setOther; rotate_left; (focus (first | (simp; done) | (simp; omega) | omega))) | apply Bx.setSame))
    have B1o := B1.out
    have B1f := B1.fr
    have HB := hid (below_call (((Below.refl _ _).alloc (Nat.le_refl _) _).alloc (by simp) _) hb)
    clear hb
    rw [Hk.out]
    go_wp2
    refine bodyPost_ret (v := .tuple #[.agg #[.slice none 0 0, .int .i64 0], .bool false]) (by simp [results, Try.results62, go_sem, B1o]) rfl ?_
    refine ⟨[.slice none 0 0, .int .i64 0], [], by first | rfl | rw [HZ.out.1], ?_, ?_⟩
    · rw [HZ.out.2]; exact own_line0 _ _
    · (repeat (first | exact HB.out | exact Below.refl _ _ | refine Below.setCell ?_ (by first | omega | (simp; done) | (simp; omega)) _ | refine Below.alloc ?_ (by first | omega | (simp; done) | (simp; omega)) _))
  have HZ : Hid (linePutOk d t = lineOk (putD d t)) := hid (by simp [linePutOk, Hk.out])
  obtain ⟨p1, bs1, hcut1, _, _, hS1⟩ := h0.cut_h 65 Try.underlying65 hi hz1 d.At hq2 hq3
  obtain ⟨p3, bs3, hcut3, _, _, hS3⟩ := h0.cut_l 65 Try.underlying65 hi hz1 d.At hq2 hq3
  have HS1 := hid hS1; have HS3 := hid hS3; clear hS1 hS3
  have hlen1 : (d.Text.take d.At.toNat).length = d.At.toNat := by rw [List.length_take]; omega
  have hlen2 : (d.Text.take d.At.toNat ++ t).length + (d.Text.drop d.At.toNat).length = d.Text.length + t.length := by
    rw [List.length_append, List.length_take, List.length_drop]; omega
  have HL1 := hid hlen1; have HL2 := hid hlen2; clear hlen1 hlen2
  have hwr : IntKind.i64.wrap (d.At + (t.length : Int)) = d.At + (t.length : Int) := wrapI (by omega)
  go_enter Try.func62, Try.ntmps62
  go_wp2_with fail
  refine (i_LineOk (grow H.out ?_)).mono ?_
  · exact ((Below.refl _ _).alloc (Nat.le_refl _) _).alloc (by simp) _
  rintro e w1 ⟨rfl, hb⟩
  have B0 : Bx w1 (w.heap.size) _ := Bx.below (b := w.heap.size) hb (by first | omega | (simp; done) | (simp; omega)) (by repeat (first  | (apply Bx.new; (focus (first | (simp; done) | (simp; omega) | omega))) | (apply Bx.alloc; rotate_left; (focus (first | (simp; done) | (simp; omega) | omega))) | (apply Bx.setOther; rotate_left; (focus (first | (simp; done) | (simp; omega) | omega))) | apply Bx.setSame))
  have B0o := B0.out
  have B0f := B0.fr
  have B1 : Bx w1 (w.heap.size + 1) _ := Bx.below (b := w.heap.size + 1) hb (by first | omega | (simp; done) | (simp; omega)) (by repeat (first  | (apply Bx.new; (focus (first | (simp; done) | (simp; omega) | omega))) | (apply Bx.alloc; rotate_left; (focus (first | (simp; done) | (simp; omega) | omega))) | (apply Bx.setOther; rotate_left; (focus (first | (simp; done) | (simp; omega) | omega))) | apply Bx.setSame))
  have B1o := B1.out
  have B1f := B1.fr
  have HB := hid (below_call (((Below.refl _ _).alloc (Nat.le_refl _) _).alloc (by simp) _) hb)
  have hs1 : w.heap.size + 2 ≤ w1.heap.size := by have := hb.size; simpa using this
  have HX0 := hid B0; have HX1 := hid B1
  clear hb
  rw [Hk.out]
  go_upto_region 3 with fail
  go_cut [6] (fun v6 W => ∃ g p c bx, v6 = .pointer (some ⟨g, 0, none⟩) ∧ Bx W g #[.slice p (d.Text.length + t.length) c, .int .i64 (d.At + (t.length : Int))] ∧ OwnL (w.heap.size + 2) W 3 (.slice p (d.Text.length + t.length) c) bx (putD d t).Text ∧ (∀ b ∈ bx, b ≠ g) ∧ w.heap.size + 2 ≤ g ∧ g < W.heap.size ∧ Below (w.heap.size + 2) w1 W)
  case first =>
    go_wp2_with fail
    refine late_start (fun W => Below (w.heap.size + 2) w1 W ∧ W.cell? ⟨w.heap.size, 0, none⟩ = some (.slice a0 d.Text.length k0) ∧ W.cell? ⟨w.heap.size, 1, none⟩ = some (.int .i64 d.At)) 21 (by kernel_rfl) ?_ (fun hS => ?_)
    · exact ⟨(Below.refl _ _).drew, HX0.out.out 0, HX0.out.out 1⟩
    refine late_genw (fun U0 hU => ?_)
    rw [← hU] at hS
    have hz00 := hS.1.size
    have hlo : w.heap.size + 2 ≤ U0.heap.size := by omega
    clear hU
    refine late_take (i := 0) (v := ?_) rfl (by kernel_rfl) (fun _ _ _ h => h) (by rfl) ?_ (by assumption) ?_
    rotate_left
    · (intro w9 hS9; (try dsimp only at hS9); (try go_split_ands); go_simp <;> with_reducible rfl)
    try simp only [Act.put, List.setIfInBounds_toArray, List.set_cons_zero, List.set_cons_succ]
    refine late_take (i := 1) (v := ?_) rfl (by kernel_rfl) (fun _ _ _ h => h) (by rfl) ?_ (by assumption) ?_
    rotate_left
    · (intro w9 hS9; (try dsimp only at hS9); (try go_split_ands); go_simp <;> with_reducible rfl)
    try simp only [Act.put, List.setIfInBounds_toArray, List.set_cons_zero, List.set_cons_succ]
    refine late_take (i := 2) (v := ?_) rfl (by kernel_rfl) (fun _ _ _ h => h) (by rfl) ?_ (by assumption) ?_
    rotate_left
    · (intro w9 hS9; (try dsimp only at hS9); (try go_split_ands); go_simp <;> with_reducible rfl)
    try simp only [Act.put, List.setIfInBounds_toArray, List.set_cons_zero, List.set_cons_succ]
    refine late_take (i := 3) (v := ?_) rfl (by kernel_rfl) (fun _ _ _ h => h) (by rfl) ?_ (by assumption) ?_
    rotate_left
    · (intro w9 hS9; (try dsimp only at hS9); (try go_split_ands); go_simp <;> with_reducible rfl)
    try simp only [Act.put, List.setIfInBounds_toArray, List.set_cons_zero, List.set_cons_succ]
    refine late_take (i := 4) (v := ?_) rfl (by kernel_rfl) (fun _ _ _ h => h) (by rfl) ?_ (by assumption) ?_
    rotate_left
    · (intro w9 hS9; (try dsimp only at hS9); (try go_split_ands); go_simp <;> with_reducible rfl)
    try simp only [Act.put, List.setIfInBounds_toArray, List.set_cons_zero, List.set_cons_succ]
    refine late_take (i := 6) (v := ?_) rfl (by kernel_rfl) (fun _ _ _ h => h) (by rfl) ?_ (by assumption) ?_
    rotate_left
    · (intro w9 hS9; (try dsimp only at hS9); (try go_split_ands); go_simp <;> with_reducible rfl)
    try simp only [Act.put, List.setIfInBounds_toArray, List.set_cons_zero, List.set_cons_succ]
    refine late_take (i := 8) (v := ?_) rfl (by kernel_rfl) (fun _ _ _ h => h) (by rfl) ?_ (by assumption) ?_
    rotate_left
    · (intro w9 hS9; (try dsimp only at hS9); (try go_split_ands); go_simp <;> with_reducible rfl)
    try simp only [Act.put, List.setIfInBounds_toArray, List.set_cons_zero, List.set_cons_succ]
    refine late_take (i := 9) (v := ?_) rfl (by kernel_rfl) (fun _ _ _ h => h) (by rfl) ?_ (by assumption) ?_
    rotate_left
    · (intro w9 hS9; (try dsimp only at hS9); (try go_split_ands); go_simp <;> with_reducible rfl)
    try simp only [Act.put, List.setIfInBounds_toArray, List.set_cons_zero, List.set_cons_succ]
    refine late_take (i := 10) (v := ?_) rfl (by kernel_rfl) (fun _ _ _ h => h) (by rfl) ?_ (by assumption) ?_
    rotate_left
    · (intro w9 hS9; (try dsimp only at hS9); (try go_split_ands); go_simp <;> with_reducible rfl)
    try simp only [Act.put, List.setIfInBounds_toArray, List.set_cons_zero, List.set_cons_succ]
    refine late_take (i := 11) (v := ?_) rfl (by kernel_rfl) (fun _ _ _ h => h) (by rfl) ?_ (by assumption) ?_
    rotate_left
    · (intro w9 hS9; (try dsimp only at hS9); (try go_split_ands); go_simp <;> with_reducible rfl)
    try simp only [Act.put, List.setIfInBounds_toArray, List.set_cons_zero, List.set_cons_succ]
    refine late_take (i := 12) (v := ?_) rfl (by kernel_rfl) (fun _ _ _ h => h) (by rfl) ?_ (by assumption) ?_
    rotate_left
    · (intro w9 hS9; (try dsimp only at hS9); (try go_split_ands); go_simp <;> with_reducible rfl)
    try simp only [Act.put, List.setIfInBounds_toArray, List.set_cons_zero, List.set_cons_succ]
    refine late_take (i := 14) (v := ?_) rfl (by kernel_rfl) (fun _ _ _ h => h) (by rfl) ?_ (by assumption) ?_
    rotate_left
    · (intro w9 hS9; (try dsimp only at hS9); (try go_split_ands); go_simp <;> with_reducible rfl)
    try simp only [Act.put, List.setIfInBounds_toArray, List.set_cons_zero, List.set_cons_succ]
    refine late_take (i := 15) (v := ?_) rfl (by kernel_rfl) (fun _ _ _ h => h) (by rfl) ?_ (by assumption) ?_
    rotate_left
    · (intro w9 hS9; (try dsimp only at hS9); (try go_split_ands); go_simp <;> with_reducible rfl)
    try simp only [Act.put, List.setIfInBounds_toArray, List.set_cons_zero, List.set_cons_succ]
    refine late_take (i := 16) (v := ?_) rfl (by kernel_rfl) (fun _ _ _ h => h) (by rfl) ?_ (by assumption) ?_
    rotate_left
    · (intro w9 hS9; (try dsimp only at hS9); (try go_split_ands); go_simp <;> with_reducible rfl)
    try simp only [Act.put, List.setIfInBounds_toArray, List.set_cons_zero, List.set_cons_succ]
    refine late_take (i := 17) (v := ?_) rfl (by kernel_rfl) (fun _ _ _ h => h) (by rfl) ?_ (by assumption) ?_
    rotate_left
    · (intro w9 hS9; (try dsimp only at hS9); (try go_split_ands); go_simp <;> with_reducible rfl)
    try simp only [Act.put, List.setIfInBounds_toArray, List.set_cons_zero, List.set_cons_succ]
    refine late_take (i := 18) (v := ?_) rfl (by kernel_rfl) (fun _ _ _ h => h) (by rfl) ?_ (by assumption) ?_
    rotate_left
    · (intro w9 hS9; (try dsimp only at hS9); (try go_split_ands); go_simp <;> with_reducible rfl)
    try simp only [Act.put, List.setIfInBounds_toArray, List.set_cons_zero, List.set_cons_succ]
    refine late_two (i := 5) (j := 20) rfl rfl (by kernel_rfl) (fun K9 hK9 => ?_) (fun K9 hK9 => ?_)
    · skip
      go_simp
      refine (i_copyInts (HS1.out.grow (HB.out.trans (hS.1.mono (by omega)))) (by rw [HL1.out]; omega)).mono ?_
      rintro e U1 ⟨v, b1, rfl, hO, hst⟩
      obtain ⟨pa, ca, rfl⟩ := hO.slice
      rw [HL1.out] at hO ⊢
      replace hO := hO.mono (lo' := w.heap.size + 2) hlo
      go_wp2_with fail
      refine hK9.out _ _ (fun _ => ?_) (fun hS9 => ?_)
      · (try dsimp only); exact ⟨hS.1.trans (hst.mono hlo), cellc (Tch.of_below (bs := []) hst) hS.2.1 (by simp), cellc (Tch.of_below (bs := []) hst) hS.2.2 (by simp)⟩
      replace hS := hS9 (by decide)
      clear hK9 K9 hS9
      try simp only [Act.put, List.setIfInBounds_toArray, List.set_cons_zero, List.set_cons_succ]
      replace hlo : w.heap.size + 2 ≤ U1.heap.size := Nat.le_trans hlo hst.size
      clear hst
      refine late_two (i := 7) (j := 20) rfl rfl (by kernel_rfl) (fun K9 hK9 => ?_) (fun K9 hK9 => ?_)
      · skip
        refine step_append rfl _ _ 65 rfl 3 i0 (.int .i64 0) 8 Try.underlying65 hi hz0 hz1 hz2 rfl (lo := w.heap.size + 2) (bs := b1) (xs := d.Text.take d.At.toNat) rfl ?own (b2 := []) (ys := t) rfl ?src List.nodup_nil ?f2 ?q2 ?q3 ?q4 ?_
        case own => exact hO
        case src => exact Slc.src (h2.grow (HB.out.trans (hS.1.mono (by omega))))
        case f2 => simp
        case q2 => rw [HL1.out]; omega
        case q3 => rw [HL1.out]; omega
        case q4 => exact hlo
        intro p2 c2 U2 b2 hO2 hT hm
        rw [HL1.out] at hO2 ⊢
        refine hK9.out _ _ (fun _ => ?_) (fun hS9 => ?_)
        · (try dsimp only); exact ⟨hS.1.trans (hT.below hlo (fun x hx => (hO.lts x hx).1)), cellc hT hS.2.1 (fun hm9 => by have := (hO.lts _ hm9).1; (try simp at this); omega), cellc hT hS.2.2 (fun hm9 => by have := (hO.lts _ hm9).1; (try simp at this); omega)⟩
        replace hS := hS9 (by decide)
        clear hK9 K9 hS9
        try simp only [Act.put, List.setIfInBounds_toArray, List.set_cons_zero, List.set_cons_succ]
        replace hlo : w.heap.size + 2 ≤ U2.heap.size := Nat.le_trans hlo hT.size
        clear hO hT hm
        have hO := hO2
        clear hO2
        refine late_two (i := 13) (j := 20) rfl rfl (by kernel_rfl) (fun K9 hK9 => ?_) (fun K9 hK9 => ?_)
        · skip
          refine step_append rfl _ _ 65 rfl 3 i0 (.int .i64 0) 8 Try.underlying65 hi hz0 hz1 hz2 rfl (lo := w.heap.size + 2) (bs := b2) (xs := d.Text.take d.At.toNat ++ t) rfl ?own (b2 := []) (ys := d.Text.drop d.At.toNat) rfl ?src List.nodup_nil ?f2 ?q2 ?q3 ?q4 ?_
          case own => exact hO
          case src => exact Slc.src (HS3.out.grow (HB.out.trans (hS.1.mono (by omega))))
          case f2 => simp
          case q2 => have := HL2.out; omega
          case q3 => have := HL2.out; omega
          case q4 => exact hlo
          intro p3 c3 U3 b3 hO2 hT hm
          rw [HL2.out] at hO2 ⊢
          refine hK9.out _ _ (fun _ => ?_) (fun hS9 => ?_)
          · (try dsimp only); exact ⟨hS.1.trans (hT.below hlo (fun x hx => (hO.lts x hx).1)), cellc hT hS.2.1 (fun hm9 => by have := (hO.lts _ hm9).1; (try simp at this); omega), cellc hT hS.2.2 (fun hm9 => by have := (hO.lts _ hm9).1; (try simp at this); omega)⟩
          replace hS := hS9 (by decide)
          clear hK9 K9 hS9
          try simp only [Act.put, List.setIfInBounds_toArray, List.set_cons_zero, List.set_cons_succ]
          replace hlo : w.heap.size + 2 ≤ U3.heap.size := Nat.le_trans hlo hT.size
          clear hO hT hm
          have hO := hO2
          clear hO2
          refine late_take (i := 19) (v := ?_) rfl (by kernel_rfl) (fun _ _ _ h => h) (by rfl) ?_ (by assumption) ?_
          rotate_left
          · (intro w9 hS9; (try dsimp only at hS9); (try go_split_ands); go_simp <;> with_reducible rfl)
          try simp only [Act.put, List.setIfInBounds_toArray, List.set_cons_zero, List.set_cons_succ]
          refine late_one (i := 20) rfl (by kernel_rfl) (fun K9 hK9 => ?_)
          go_simp
          refine late_gen (fun U4 hU => ?_)
          have hst : Below U3.heap.size U3 U4 := by rw [hU]; exact (Below.refl _ _).alloc (Nat.le_refl _) _
          have hbx : Bx U4 U3.heap.size #[.slice none 0 0, .int .i64 0] := by rw [hU]; exact Bx.new _ _ _ rfl
          have hgb : U3.heap.size < U4.heap.size := by rw [hU]; simp
          have hgl : w.heap.size + 2 ≤ U3.heap.size := hlo
          clear hU
          have hnb : ∀ b ∈ b3, b ≠ U3.heap.size := fun b hb => by have := (hO.lts b hb).2; omega
          replace hO := hO.grow hst
          refine hK9.out _ _ (fun _ => ?_) (fun hS9 => ?_)
          · (try dsimp only); exact ⟨hS.1.trans (hst.mono hlo), cellc (Tch.of_below (bs := []) hst) hS.2.1 (by simp), cellc (Tch.of_below (bs := []) hst) hS.2.2 (by simp)⟩
          replace hS := hS9 (by decide)
          clear hK9 K9 hS9
          try simp only [Act.put, List.setIfInBounds_toArray, List.set_cons_zero, List.set_cons_succ]
          replace hlo : w.heap.size + 2 ≤ U4.heap.size := Nat.le_trans hlo hst.size
          clear hst
          refine late_one (i := 21) rfl (by kernel_rfl) (fun K9 hK9 => ?_)
          have bo := hbx.out; have bf := hbx.fr
          go_simp
          refine hK9.out _ _ (fun h => absurd rfl h) (fun _ => ?_)
          clear hK9 K9
          try simp only [Act.put, List.setIfInBounds_toArray, List.set_cons_zero, List.set_cons_succ]
          refine late_done (by kernel_rfl) ?_ _
          go_wp2_with fail
          go_meet
          refine ⟨_, _, _, _, rfl, ?_, (hO.setCell (fun b hb => hnb b hb) _).setCell (fun b hb => hnb b hb) _, hnb, hgl, ?_, ?_⟩
          · exact (Bx.setSame (Bx.setSame hbx 0 _) 1 _)
          · simp; omega
          · exact (hS.1.setCell (by simp; omega) _).setCell (by simp; omega) _
        · skip
          go_simp
          refine late_gen (fun U5 hU => ?_)
          have hst : Below U2.heap.size U2 U5 := by rw [hU]; exact (Below.refl _ _).alloc (Nat.le_refl _) _
          have hbx : Bx U5 U2.heap.size #[.slice none 0 0, .int .i64 0] := by rw [hU]; exact Bx.new _ _ _ rfl
          have hgb : U2.heap.size < U5.heap.size := by rw [hU]; simp
          have hgl : w.heap.size + 2 ≤ U2.heap.size := hlo
          clear hU
          have hnb : ∀ b ∈ b2, b ≠ U2.heap.size := fun b hb => by have := (hO.lts b hb).2; omega
          replace hO := hO.grow hst
          refine hK9.out _ _ (fun _ => ?_) (fun hS9 => ?_)
          · (try dsimp only); exact ⟨hS.1.trans (hst.mono hlo), cellc (Tch.of_below (bs := []) hst) hS.2.1 (by simp), cellc (Tch.of_below (bs := []) hst) hS.2.2 (by simp)⟩
          replace hS := hS9 (by decide)
          clear hK9 K9 hS9
          try simp only [Act.put, List.setIfInBounds_toArray, List.set_cons_zero, List.set_cons_succ]
          replace hlo : w.heap.size + 2 ≤ U5.heap.size := Nat.le_trans hlo hst.size
          clear hst
          refine late_one (i := 13) rfl (by kernel_rfl) (fun K9 hK9 => ?_)
          refine step_append rfl _ _ 65 rfl 3 i0 (.int .i64 0) 8 Try.underlying65 hi hz0 hz1 hz2 rfl (lo := w.heap.size + 2) (bs := b2) (xs := d.Text.take d.At.toNat ++ t) rfl ?own (b2 := []) (ys := d.Text.drop d.At.toNat) rfl ?src List.nodup_nil ?f2 ?q2 ?q3 ?q4 ?_
          case own => exact hO
          case src => exact Slc.src (HS3.out.grow (HB.out.trans (hS.1.mono (by omega))))
          case f2 => simp
          case q2 => have := HL2.out; omega
          case q3 => have := HL2.out; omega
          case q4 => exact hlo
          intro p3 c3 U6 b3 hO2 hT hm
          rw [HL2.out] at hO2 ⊢
          have hnb2 : ∀ x ∈ b3, x ≠ U2.heap.size := fun x hx => (hm x hx).elim (fun h => hnb x h) (fun h => h.elim (fun h => by cases h) (fun h => by have := hgb; omega))
          replace hbx := Bx.tch hT hgb (fun h => hnb _ h rfl) hbx
          replace hgb : U2.heap.size < U6.heap.size := Nat.lt_of_lt_of_le hgb hT.size
          refine hK9.out _ _ (fun _ => ?_) (fun hS9 => ?_)
          · (try dsimp only); exact ⟨hS.1.trans (hT.below hlo (fun x hx => (hO.lts x hx).1)), cellc hT hS.2.1 (fun hm9 => by have := (hO.lts _ hm9).1; (try simp at this); omega), cellc hT hS.2.2 (fun hm9 => by have := (hO.lts _ hm9).1; (try simp at this); omega)⟩
          replace hS := hS9 (by decide)
          clear hK9 K9 hS9
          try simp only [Act.put, List.setIfInBounds_toArray, List.set_cons_zero, List.set_cons_succ]
          replace hlo : w.heap.size + 2 ≤ U6.heap.size := Nat.le_trans hlo hT.size
          clear hO hT hm
          have hO := hO2
          clear hO2
          clear hnb
          have hnb := hnb2
          clear hnb2
          refine late_take (i := 19) (v := ?_) rfl (by kernel_rfl) (fun _ _ _ h => h) (by rfl) ?_ (by assumption) ?_
          rotate_left
          · (intro w9 hS9; (try dsimp only at hS9); (try go_split_ands); go_simp <;> with_reducible rfl)
          try simp only [Act.put, List.setIfInBounds_toArray, List.set_cons_zero, List.set_cons_succ]
          refine late_one (i := 21) rfl (by kernel_rfl) (fun K9 hK9 => ?_)
          have bo := hbx.out; have bf := hbx.fr
          go_simp
          refine hK9.out _ _ (fun h => absurd rfl h) (fun _ => ?_)
          clear hK9 K9
          try simp only [Act.put, List.setIfInBounds_toArray, List.set_cons_zero, List.set_cons_succ]
          refine late_done (by kernel_rfl) ?_ _
          go_wp2_with fail
          go_meet
          refine ⟨_, _, _, _, rfl, ?_, (hO.setCell (fun b hb => hnb b hb) _).setCell (fun b hb => hnb b hb) _, hnb, hgl, ?_, ?_⟩
          · exact (Bx.setSame (Bx.setSame hbx 0 _) 1 _)
          · simp; omega
          · exact (hS.1.setCell (by simp; omega) _).setCell (by simp; omega) _
      · skip
        go_simp
        refine late_gen (fun U7 hU => ?_)
        have hst : Below U1.heap.size U1 U7 := by rw [hU]; exact (Below.refl _ _).alloc (Nat.le_refl _) _
        have hbx : Bx U7 U1.heap.size #[.slice none 0 0, .int .i64 0] := by rw [hU]; exact Bx.new _ _ _ rfl
        have hgb : U1.heap.size < U7.heap.size := by rw [hU]; simp
        have hgl : w.heap.size + 2 ≤ U1.heap.size := hlo
        clear hU
        have hnb : ∀ b ∈ b1, b ≠ U1.heap.size := fun b hb => by have := (hO.lts b hb).2; omega
        replace hO := hO.grow hst
        refine hK9.out _ _ (fun _ => ?_) (fun hS9 => ?_)
        · (try dsimp only); exact ⟨hS.1.trans (hst.mono hlo), cellc (Tch.of_below (bs := []) hst) hS.2.1 (by simp), cellc (Tch.of_below (bs := []) hst) hS.2.2 (by simp)⟩
        replace hS := hS9 (by decide)
        clear hK9 K9 hS9
        try simp only [Act.put, List.setIfInBounds_toArray, List.set_cons_zero, List.set_cons_succ]
        replace hlo : w.heap.size + 2 ≤ U7.heap.size := Nat.le_trans hlo hst.size
        clear hst
        refine late_one (i := 7) rfl (by kernel_rfl) (fun K9 hK9 => ?_)
        refine step_append rfl _ _ 65 rfl 3 i0 (.int .i64 0) 8 Try.underlying65 hi hz0 hz1 hz2 rfl (lo := w.heap.size + 2) (bs := b1) (xs := d.Text.take d.At.toNat) rfl ?own (b2 := []) (ys := t) rfl ?src List.nodup_nil ?f2 ?q2 ?q3 ?q4 ?_
        case own => exact hO
        case src => exact Slc.src (h2.grow (HB.out.trans (hS.1.mono (by omega))))
        case f2 => simp
        case q2 => rw [HL1.out]; omega
        case q3 => rw [HL1.out]; omega
        case q4 => exact hlo
        intro p2 c2 U8 b2 hO2 hT hm
        rw [HL1.out] at hO2 ⊢
        have hnb2 : ∀ x ∈ b2, x ≠ U1.heap.size := fun x hx => (hm x hx).elim (fun h => hnb x h) (fun h => h.elim (fun h => by cases h) (fun h => by have := hgb; omega))
        replace hbx := Bx.tch hT hgb (fun h => hnb _ h rfl) hbx
        replace hgb : U1.heap.size < U8.heap.size := Nat.lt_of_lt_of_le hgb hT.size
        refine hK9.out _ _ (fun _ => ?_) (fun hS9 => ?_)
        · (try dsimp only); exact ⟨hS.1.trans (hT.below hlo (fun x hx => (hO.lts x hx).1)), cellc hT hS.2.1 (fun hm9 => by have := (hO.lts _ hm9).1; (try simp at this); omega), cellc hT hS.2.2 (fun hm9 => by have := (hO.lts _ hm9).1; (try simp at this); omega)⟩
        replace hS := hS9 (by decide)
        clear hK9 K9 hS9
        try simp only [Act.put, List.setIfInBounds_toArray, List.set_cons_zero, List.set_cons_succ]
        replace hlo : w.heap.size + 2 ≤ U8.heap.size := Nat.le_trans hlo hT.size
        clear hO hT hm
        have hO := hO2
        clear hO2
        clear hnb
        have hnb := hnb2
        clear hnb2
        refine late_one (i := 13) rfl (by kernel_rfl) (fun K9 hK9 => ?_)
        refine step_append rfl _ _ 65 rfl 3 i0 (.int .i64 0) 8 Try.underlying65 hi hz0 hz1 hz2 rfl (lo := w.heap.size + 2) (bs := b2) (xs := d.Text.take d.At.toNat ++ t) rfl ?own (b2 := []) (ys := d.Text.drop d.At.toNat) rfl ?src List.nodup_nil ?f2 ?q2 ?q3 ?q4 ?_
        case own => exact hO
        case src => exact Slc.src (HS3.out.grow (HB.out.trans (hS.1.mono (by omega))))
        case f2 => simp
        case q2 => have := HL2.out; omega
        case q3 => have := HL2.out; omega
        case q4 => exact hlo
        intro p3 c3 U9 b3 hO2 hT hm
        rw [HL2.out] at hO2 ⊢
        have hnb2 : ∀ x ∈ b3, x ≠ U1.heap.size := fun x hx => (hm x hx).elim (fun h => hnb x h) (fun h => h.elim (fun h => by cases h) (fun h => by have := hgb; omega))
        replace hbx := Bx.tch hT hgb (fun h => hnb _ h rfl) hbx
        replace hgb : U1.heap.size < U9.heap.size := Nat.lt_of_lt_of_le hgb hT.size
        refine hK9.out _ _ (fun _ => ?_) (fun hS9 => ?_)
        · (try dsimp only); exact ⟨hS.1.trans (hT.below hlo (fun x hx => (hO.lts x hx).1)), cellc hT hS.2.1 (fun hm9 => by have := (hO.lts _ hm9).1; (try simp at this); omega), cellc hT hS.2.2 (fun hm9 => by have := (hO.lts _ hm9).1; (try simp at this); omega)⟩
        replace hS := hS9 (by decide)
        clear hK9 K9 hS9
        try simp only [Act.put, List.setIfInBounds_toArray, List.set_cons_zero, List.set_cons_succ]
        replace hlo : w.heap.size + 2 ≤ U9.heap.size := Nat.le_trans hlo hT.size
        clear hO hT hm
        have hO := hO2
        clear hO2
        clear hnb
        have hnb := hnb2
        clear hnb2
        refine late_take (i := 19) (v := ?_) rfl (by kernel_rfl) (fun _ _ _ h => h) (by rfl) ?_ (by assumption) ?_
        rotate_left
        · (intro w9 hS9; (try dsimp only at hS9); (try go_split_ands); go_simp <;> with_reducible rfl)
        try simp only [Act.put, List.setIfInBounds_toArray, List.set_cons_zero, List.set_cons_succ]
        refine late_one (i := 21) rfl (by kernel_rfl) (fun K9 hK9 => ?_)
        have bo := hbx.out; have bf := hbx.fr
        go_simp
        refine hK9.out _ _ (fun h => absurd rfl h) (fun _ => ?_)
        clear hK9 K9
        try simp only [Act.put, List.setIfInBounds_toArray, List.set_cons_zero, List.set_cons_succ]
        refine late_done (by kernel_rfl) ?_ _
        go_wp2_with fail
        go_meet
        refine ⟨_, _, _, _, rfl, ?_, (hO.setCell (fun b hb => hnb b hb) _).setCell (fun b hb => hnb b hb) _, hnb, hgl, ?_, ?_⟩
        · exact (Bx.setSame (Bx.setSame hbx 0 _) 1 _)
        · simp; omega
        · exact (hS.1.setCell (by simp; omega) _).setCell (by simp; omega) _
    · skip
      go_simp
      refine late_gen (fun U10 hU => ?_)
      have hst : Below U0.heap.size U0 U10 := by rw [hU]; exact (Below.refl _ _).alloc (Nat.le_refl _) _
      have hbx : Bx U10 U0.heap.size #[.slice none 0 0, .int .i64 0] := by rw [hU]; exact Bx.new _ _ _ rfl
      have hgb : U0.heap.size < U10.heap.size := by rw [hU]; simp
      have hgl : w.heap.size + 2 ≤ U0.heap.size := hlo
      clear hU
      refine hK9.out _ _ (fun _ => ?_) (fun hS9 => ?_)
      · (try dsimp only); exact ⟨hS.1.trans (hst.mono hlo), cellc (Tch.of_below (bs := []) hst) hS.2.1 (by simp), cellc (Tch.of_below (bs := []) hst) hS.2.2 (by simp)⟩
      replace hS := hS9 (by decide)
      clear hK9 K9 hS9
      try simp only [Act.put, List.setIfInBounds_toArray, List.set_cons_zero, List.set_cons_succ]
      replace hlo : w.heap.size + 2 ≤ U10.heap.size := Nat.le_trans hlo hst.size
      clear hst
      refine late_one (i := 5) rfl (by kernel_rfl) (fun K9 hK9 => ?_)
      go_simp
      refine (i_copyInts (HS1.out.grow (HB.out.trans (hS.1.mono (by omega)))) (by rw [HL1.out]; omega)).mono ?_
      rintro e U11 ⟨v, b1, rfl, hO, hst⟩
      obtain ⟨pa, ca, rfl⟩ := hO.slice
      rw [HL1.out] at hO ⊢
      have hnb : ∀ b ∈ b1, b ≠ U0.heap.size := fun b hb => by have := (hO.lts b hb).1; omega
      replace hbx := Bx.below hst hgb hbx
      replace hgb : U0.heap.size < U11.heap.size := Nat.lt_of_lt_of_le hgb hst.size
      replace hO := hO.mono (lo' := w.heap.size + 2) hlo
      go_wp2_with fail
      refine hK9.out _ _ (fun _ => ?_) (fun hS9 => ?_)
      · (try dsimp only); exact ⟨hS.1.trans (hst.mono hlo), cellc (Tch.of_below (bs := []) hst) hS.2.1 (by simp), cellc (Tch.of_below (bs := []) hst) hS.2.2 (by simp)⟩
      replace hS := hS9 (by decide)
      clear hK9 K9 hS9
      try simp only [Act.put, List.setIfInBounds_toArray, List.set_cons_zero, List.set_cons_succ]
      replace hlo : w.heap.size + 2 ≤ U11.heap.size := Nat.le_trans hlo hst.size
      clear hst
      refine late_one (i := 7) rfl (by kernel_rfl) (fun K9 hK9 => ?_)
      refine step_append rfl _ _ 65 rfl 3 i0 (.int .i64 0) 8 Try.underlying65 hi hz0 hz1 hz2 rfl (lo := w.heap.size + 2) (bs := b1) (xs := d.Text.take d.At.toNat) rfl ?own (b2 := []) (ys := t) rfl ?src List.nodup_nil ?f2 ?q2 ?q3 ?q4 ?_
      case own => exact hO
      case src => exact Slc.src (h2.grow (HB.out.trans (hS.1.mono (by omega))))
      case f2 => simp
      case q2 => rw [HL1.out]; omega
      case q3 => rw [HL1.out]; omega
      case q4 => exact hlo
      intro p2 c2 U12 b2 hO2 hT hm
      rw [HL1.out] at hO2 ⊢
      have hnb2 : ∀ x ∈ b2, x ≠ U0.heap.size := fun x hx => (hm x hx).elim (fun h => hnb x h) (fun h => h.elim (fun h => by cases h) (fun h => by have := hgb; omega))
      replace hbx := Bx.tch hT hgb (fun h => hnb _ h rfl) hbx
      replace hgb : U0.heap.size < U12.heap.size := Nat.lt_of_lt_of_le hgb hT.size
      refine hK9.out _ _ (fun _ => ?_) (fun hS9 => ?_)
      · (try dsimp only); exact ⟨hS.1.trans (hT.below hlo (fun x hx => (hO.lts x hx).1)), cellc hT hS.2.1 (fun hm9 => by have := (hO.lts _ hm9).1; (try simp at this); omega), cellc hT hS.2.2 (fun hm9 => by have := (hO.lts _ hm9).1; (try simp at this); omega)⟩
      replace hS := hS9 (by decide)
      clear hK9 K9 hS9
      try simp only [Act.put, List.setIfInBounds_toArray, List.set_cons_zero, List.set_cons_succ]
      replace hlo : w.heap.size + 2 ≤ U12.heap.size := Nat.le_trans hlo hT.size
      clear hO hT hm
      have hO := hO2
      clear hO2
      clear hnb
      have hnb := hnb2
      clear hnb2
      refine late_one (i := 13) rfl (by kernel_rfl) (fun K9 hK9 => ?_)
      refine step_append rfl _ _ 65 rfl 3 i0 (.int .i64 0) 8 Try.underlying65 hi hz0 hz1 hz2 rfl (lo := w.heap.size + 2) (bs := b2) (xs := d.Text.take d.At.toNat ++ t) rfl ?own (b2 := []) (ys := d.Text.drop d.At.toNat) rfl ?src List.nodup_nil ?f2 ?q2 ?q3 ?q4 ?_
      case own => exact hO
      case src => exact Slc.src (HS3.out.grow (HB.out.trans (hS.1.mono (by omega))))
      case f2 => simp
      case q2 => have := HL2.out; omega
      case q3 => have := HL2.out; omega
      case q4 => exact hlo
      intro p3 c3 U13 b3 hO2 hT hm
      rw [HL2.out] at hO2 ⊢
      have hnb2 : ∀ x ∈ b3, x ≠ U0.heap.size := fun x hx => (hm x hx).elim (fun h => hnb x h) (fun h => h.elim (fun h => by cases h) (fun h => by have := hgb; omega))
      replace hbx := Bx.tch hT hgb (fun h => hnb _ h rfl) hbx
      replace hgb : U0.heap.size < U13.heap.size := Nat.lt_of_lt_of_le hgb hT.size
      refine hK9.out _ _ (fun _ => ?_) (fun hS9 => ?_)
      · (try dsimp only); exact ⟨hS.1.trans (hT.below hlo (fun x hx => (hO.lts x hx).1)), cellc hT hS.2.1 (fun hm9 => by have := (hO.lts _ hm9).1; (try simp at this); omega), cellc hT hS.2.2 (fun hm9 => by have := (hO.lts _ hm9).1; (try simp at this); omega)⟩
      replace hS := hS9 (by decide)
      clear hK9 K9 hS9
      try simp only [Act.put, List.setIfInBounds_toArray, List.set_cons_zero, List.set_cons_succ]
      replace hlo : w.heap.size + 2 ≤ U13.heap.size := Nat.le_trans hlo hT.size
      clear hO hT hm
      have hO := hO2
      clear hO2
      clear hnb
      have hnb := hnb2
      clear hnb2
      refine late_take (i := 19) (v := ?_) rfl (by kernel_rfl) (fun _ _ _ h => h) (by rfl) ?_ (by assumption) ?_
      rotate_left
      · (intro w9 hS9; (try dsimp only at hS9); (try go_split_ands); go_simp <;> with_reducible rfl)
      try simp only [Act.put, List.setIfInBounds_toArray, List.set_cons_zero, List.set_cons_succ]
      refine late_one (i := 21) rfl (by kernel_rfl) (fun K9 hK9 => ?_)
      have bo := hbx.out; have bf := hbx.fr
      go_simp
      refine hK9.out _ _ (fun h => absurd rfl h) (fun _ => ?_)
      clear hK9 K9
      try simp only [Act.put, List.setIfInBounds_toArray, List.set_cons_zero, List.set_cons_succ]
      refine late_done (by kernel_rfl) ?_ _
      go_wp2_with fail
      go_meet
      refine ⟨_, _, _, _, rfl, ?_, (hO.setCell (fun b hb => hnb b hb) _).setCell (fun b hb => hnb b hb) _, hnb, hgl, ?_, ?_⟩
      · exact (Bx.setSame (Bx.setSame hbx 0 _) 1 _)
      · simp; omega
      · exact (hS.1.setCell (by simp; omega) _).setCell (by simp; omega) _
  case rest =>
    obtain ⟨g, p, c, bx, rfl, hbx, hO, hne, hgl, hgu, hp⟩ := hcut
    rename World => w3
    have X1 := HX1.out.keep (hp.block (w.heap.size + 1) (by omega))
    have X1o := X1.out; have X1f := X1.fr; have go1 := hbx.out; have go2 := hbx.fr
    have HB3 : Below w.heap.size w w3 := HB.out.trans (hp.mono (by omega))
    obtain ⟨pq, cq, bq, hv, hsub, hSl⟩ := hO.slc
    rw [putD_len] at hv hSl
    simp only [Value.slice.injEq] at hv
    obtain ⟨rfl, _, rfl⟩ := hv
    have HSl := hid hSl; have HO := hid hO; have HBX := hid hbx; have HX13 := hid X1; have HB3h := hid HB3
    have h64 : I64 (putD d t).At := by show I64 (d.At + (t.length : Int)); unfold I64; omega
    have H64 := hid h64
    have hz3 := hp.size
    clear hO hSl hbx X1 HB3 hp h64
    cases hko : lineOk (putD d t)
    · have HKO := hid hko; clear hko
      have HZ2 : Hid (linePutOk d t = false ∧ linePut d t = line0) := hid (by have h1 : linePutOk d t = false := HZ.out.trans HKO.out; exact ⟨h1, by simp [linePut, h1]⟩)
      go_wp2_with fail
      refine (i_LineOk (d := putD d t) (mk_Line (d := putD d t) HSl.out H64.out)).mono ?_
      rintro e w4 ⟨rfl, hb⟩
      have Y1 := Bx.below hb (b := w.heap.size + 1) (by omega) HX13.out
      have Y1o := Y1.out; have Y1f := Y1.fr
      have G1 := Bx.below hb hgu HBX.out
      have G1o := G1.out; have G1f := G1.fr
      have HB4 := hid (below_call HB3h.out hb)
      have hz4 := hb.size
      have HbX := hid hb
      clear hb
      rw [HKO.out]
      go_wp2
      refine bodyPost_ret (v := .tuple #[.agg #[.slice none 0 0, .int .i64 0], .bool false]) (by simp [results, Try.results62, go_sem, Y1o]) rfl ?_
      refine ⟨[.slice none 0 0, .int .i64 0], [], by rw [HZ2.out.1], ?_, ?_⟩
      · rw [HZ2.out.2]; exact own_line0 _ _
      · repeat (first | exact HB4.out | refine Below.setCell ?_ (by simp; try omega) _)
    · have HKO := hid hko; clear hko
      have HZ2 : Hid (linePutOk d t = true ∧ linePut d t = putD d t) := hid (by have h1 : linePutOk d t = true := HZ.out.trans HKO.out; exact ⟨h1, by simp [linePut, h1]⟩)
      go_wp2_with fail
      refine (i_LineOk (d := putD d t) (mk_Line (d := putD d t) HSl.out H64.out)).mono ?_
      rintro e w4 ⟨rfl, hb⟩
      have Y1 := Bx.below hb (b := w.heap.size + 1) (by omega) HX13.out
      have Y1o := Y1.out; have Y1f := Y1.fr
      have G1 := Bx.below hb hgu HBX.out
      have G1o := G1.out; have G1f := G1.fr
      have HB4 := hid (below_call HB3h.out hb)
      have hz4 := hb.size
      have HbX := hid hb
      clear hb
      rw [HKO.out]
      go_wp2
      refine bodyPost_ret (v := .tuple #[.agg #[.slice p (d.Text.length + t.length) c, .int .i64 (d.At + (t.length : Int))], .bool true]) (by simp [results, Try.results62, go_sem, Y1o]) rfl ?_
      obtain ⟨b6, hb6, hOw⟩ := HO.out.own
      refine ⟨[.slice p (d.Text.length + t.length) c, .int .i64 (d.At + (t.length : Int))], b6, by rw [HZ2.out.1], ?_, ?_⟩
      · rw [HZ2.out.2]
        refine Own.mono (lo := w.heap.size + 2) ?_ (by omega)
        refine own_Line (d := putD d t) ?_ H64.out
        repeat (first | exact hOw.grow HbX.out | refine Own.setCell' _ ?_ (fun b hb => by have := (HO.out.lts b (hb6 b hb)).1; simp; omega))
      · repeat (first | exact HB4.out | refine Below.setCell ?_ (by simp; try omega) _)
end Go.Proofs.Ytdfpjchneofndaa
