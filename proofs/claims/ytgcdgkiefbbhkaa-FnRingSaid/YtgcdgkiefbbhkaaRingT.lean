/- Turning a ring (printed by genring.py). -/
import Derived.Test.YtgcdgkiefbbhkaaRingC
import Derived.Test.YtgcdgkiefbbhkaaRune
import Derived.Test.YtgcdgkiefbbhkaaLst
import Derived.Test.YtgcdgkiefbbhkaaLate
import Derived.Lib.MinMax
set_option linter.unusedSimpArgs false
set_option linter.unusedVariables false
namespace Go.Proofs.Ytgcdgkiefbbhkaa
open Go.RowKit Go.G6
set_option maxHeartbeats 1600000
set_option maxRecDepth 10000
set_option maxHeartbeats 4000000 in
theorem i_RingTurn {w : World} {bs : List Nat} {cs : List Value} {d : RingD} (h : Rep.pt w bs cs d) :
    Calls Try.prog 27 #[.agg cs.toArray] w (RetA w (ringTurn d)) := by
  have H := hid h
  obtain ⟨a0, l0, k0, rfl, h0⟩ := open_Ring h
  obtain rfl := h0.len_eq
  clear h
  obtain ⟨i0, hi, hz0, hz1, hz2⟩ := info_parts info_Piece
  cases hk : ringOk d
  · have HZ : Hid (ringTurn d = ring0) := hid (by simp [ringTurn, hk])
    have Hk := hid hk; clear hk
    go_enter Try.func27, Try.ntmps27
    go_wp2_with fail
    refine (i_RingOk (grow H.out ?_)).mono ?_
    · exact (((Below.refl _ _).alloc (Nat.le_refl _) _).alloc (by simp) _)
    rintro e w1 ⟨rfl, hb⟩
    have B0 : Bx w1 (w.heap.size) _ := Bx.below (b := w.heap.size) hb (by first | omega | (simp; done) | (simp; omega)) (by repeat (first  | (apply Bx.new; (focus (first | (simp; done) | (simp; omega) | omega))) | (apply Bx.alloc; rotate_left; (focus (first | (simp; done) | (simp; omega) | omega))) | (apply Bx.setOther; rotate_left; (focus (first | (simp; done) | (simp; omega) | omega))) | apply Bx.setSame))
    have B0o := B0.out
    have B0f := B0.fr
    have B1 : Bx w1 (w.heap.size + 1) _ := Bx.below (b := w.heap.size + 1) hb (by first | omega | (simp; done) | (simp; omega)) (by repeat (first  | (apply Bx.new; (focus (first | (simp; done) | (simp; omega) | omega))) | (apply Bx.alloc; rotate_left; (focus (first | (simp; done) | (simp; omega) | omega))) | (apply Bx.setOther; rotate_left; (focus (first | (simp; done) | (simp; omega) | omega))) | apply Bx.setSame))
    have B1o := B1.out
    have B1f := B1.fr
    have HB := hid (below_call (((Below.refl _ _).alloc (Nat.le_refl _) _).alloc (by simp) _) hb)
    have hs1 : w.heap.size + 2 ≤ w1.heap.size := by have := hb.size; simpa using this
    clear hb
    rw [Hk.out]
    go_wp2
    refine bodyPost_ret (v := .agg #[.slice none 0 0]) (by simp [results, Try.results27, go_sem, B1o]) rfl ?_
    exact ⟨[.slice none 0 0], [], rfl, by rw [HZ.out]; exact own_Ring (d := ring0) (own_nil _ _), HB.out.setCell (by simp) _⟩
  have Hq := hid (ringOk_bounds hk)
  have HZ : Hid (ringTurn d = turnD d) := hid (by simp [ringTurn, hk])
  have Hk := hid hk; clear hk
  go_enter Try.func27, Try.ntmps27
  go_wp2_with fail
  refine (i_RingOk (grow H.out ?_)).mono ?_
  · exact (((Below.refl _ _).alloc (Nat.le_refl _) _).alloc (by simp) _)
  rintro e w1 ⟨rfl, hb⟩
  have B0 : Bx w1 (w.heap.size) _ := Bx.below (b := w.heap.size) hb (by first | omega | (simp; done) | (simp; omega)) (by repeat (first  | (apply Bx.new; (focus (first | (simp; done) | (simp; omega) | omega))) | (apply Bx.alloc; rotate_left; (focus (first | (simp; done) | (simp; omega) | omega))) | (apply Bx.setOther; rotate_left; (focus (first | (simp; done) | (simp; omega) | omega))) | apply Bx.setSame))
  have B0o := B0.out
  have B0f := B0.fr
  have B1 : Bx w1 (w.heap.size + 1) _ := Bx.below (b := w.heap.size + 1) hb (by first | omega | (simp; done) | (simp; omega)) (by repeat (first  | (apply Bx.new; (focus (first | (simp; done) | (simp; omega) | omega))) | (apply Bx.alloc; rotate_left; (focus (first | (simp; done) | (simp; omega) | omega))) | (apply Bx.setOther; rotate_left; (focus (first | (simp; done) | (simp; omega) | omega))) | apply Bx.setSame))
  have B1o := B1.out
  have B1f := B1.fr
  have HB := hid (below_call (((Below.refl _ _).alloc (Nat.le_refl _) _).alloc (by simp) _) hb)
  have hs1 : w.heap.size + 2 ≤ w1.heap.size := by have := hb.size; simpa using this
  clear hb
  rw [Hk.out]
  go_wp2_with fail
  refine (i_copyRing (grow H.out HB.out) Hq.out.2.1).mono ?_
  rintro e w2 ⟨v2, b2, rfl, hO2, hb⟩
  replace B1 : Bx w2 (w.heap.size + 1) _ := Bx.below (b := w.heap.size + 1) hb (by first | omega | (simp; done) | (simp; omega)) (by repeat (first  | exact B0 | exact B1 | (apply Bx.new; (focus (first | (simp; done) | (simp; omega) | omega))) | (apply Bx.alloc; rotate_left; (focus (first | (simp; done) | (simp; omega) | omega))) | (apply Bx.setOther; rotate_left; (focus (first | (simp; done) | (simp; omega) | omega))) | apply Bx.setSame))
  replace B1o := B1.out
  replace B1f := B1.fr
  have HB2 := hid (below_call HB.out hb)
  have hs2 : w1.heap.size ≤ w2.heap.size := hb.size
  clear hb
  by_cases h00 : d.Pieces.length = 0
  · have hnil : d.Pieces = [] := List.eq_nil_of_length_eq_zero h00
    rw [hnil] at hO2
    have HT : Hid (turnD d = ring0) := hid (by simp [turnD, hnil, ring0])
    obtain ⟨p2, c2, rfl⟩ := hO2.slice
    have HO2 := hid hO2
    clear hO2 hnil h00
    simp only [List.length_nil] at HO2 ⊢
    have hB1l : w.heap.size + 1 < w2.heap.size := by omega
    have B1a := ((B1.setSame 0 (.slice p2 0 c2)).alloc (by simp; omega) (.cells #[.slice p2 0 c2] 58)).out
    go_wp2
    refine bodyPost_ret (v := .agg #[.slice p2 0 c2]) (by simp [results, Try.results27, go_sem, B1o, B1a]) rfl ?_
    obtain ⟨b3, hb3, hOw⟩ := HO2.out.own
    refine ⟨[.slice p2 0 c2], b3, rfl, ?_, ?_⟩
    · rw [HZ.out, HT.out]
      refine Own.mono (lo := w1.heap.size) ?_ (by omega)
      refine own_Ring (d := ring0) ?_
      repeat (first | exact hOw | refine Own.setCell' _ ?_ (fun b hb => by have := HO2.out.lts b (hb3 b hb); simp; omega) | refine Own.alloc ?_ _)
    · repeat (first | exact HB2.out | refine Below.setCell ?_ (by simp; try omega) _ | refine Below.alloc ?_ (by have := HB2.out.size; simp; try omega) _)
  obtain ⟨pc, r, hP⟩ : ∃ pc r, d.Pieces = pc :: r := by
    cases hp : d.Pieces with
    | nil => rw [hp] at h00; simp at h00
    | cons pc r => exact ⟨pc, r, rfl⟩
  have HT : Hid (turnD d = { Pieces := r ++ [pc] }) := hid (by simp [turnD, hP])
  have hr6 : r.length + 1 ≤ 6 := by have := Hq.out.1; rw [hP] at this; simpa using this
  rw [hP] at hO2
  obtain ⟨g, cap, b0, c0, bR, a', rfl, hgb, hOw0, hA0, hcut, hSrc, hnR, hfR, hf0⟩ := hO2.uncons 56 Try.underlying56 hi hz1
  obtain ⟨a1, l1, k1, rfl, g0⟩ := open_Piece hOw0.1
  have hgl := hO2.lts g hgb
  have cg : w2.cell? ⟨g, 0, none⟩ = some (.slice a1 l1 k1) := by have q := hA0 0 _ rfl; simpa using q
  have HS := hid hSrc; have HO0 := hid hOw0; have HfR := hid hfR; have Hf0 := hid hf0; have HnR := hid hnR
  have LR := hid (fun b hb => hO2.lts b (hfR b hb).2.2.1); have L0 := hid (fun b hb => hO2.lts b (hf0 b hb).1)
  clear hSrc hOw0 hfR hf0 hnR hO2 hA0 hgb g0
  obtain ⟨n, hn⟩ : ∃ n, n = r.length + 1 := ⟨_, rfl⟩
  rw [← hn] at hcut ⊢
  have hl0 : (0 : Int) < (n : Int) := by omega
  have hl0n : 0 < n := by omega
  have hl1 : ((n : Int) == 0) = false := by rw [beq_eq_false_iff_ne]; omega
  have hl2 : (1 : Int) ≤ (n : Int) := by omega
  have Hn := hid hn; clear hn
  go_wp2_with fail
  have nB : w2.heap.size ∉ bR := fun hm => by have := (LR.out _ hm).2; omega
  have nG : g ∉ bR := fun hm => (HfR.out _ hm).2.2.2 rfl
  have dB : (w2.alloc (.cells #[.slice (some ⟨g, 0, none⟩) n cap] 58)).cell? ⟨w2.heap.size, 0, none⟩ = some (.slice (some ⟨g, 0, none⟩) n cap) := World.cell?_alloc_new _ _ _ 0
  have dG : (w2.alloc (.cells #[.slice (some ⟨g, 0, none⟩) n cap] 58)).cell? ⟨g, 0, none⟩ = some (.slice a1 l1 k1) := (World.cell?_alloc_lt _ _ ⟨g, 0, none⟩ hgl.2).trans cg
  have hFB : Fr (w2.alloc (.cells #[.slice (some ⟨g, 0, none⟩) n cap] 58)) w2.heap.size := ⟨_, _, heap_alloc_new _ _⟩
  refine late_start (fun W => Tch bR (w2.alloc (.cells #[.slice (some ⟨g, 0, none⟩) n cap] 58)) W ∧ W.cell? ⟨w2.heap.size, 0, none⟩ = some (.slice (some ⟨g, 0, none⟩) n cap) ∧ W.cell? ⟨g, 0, none⟩ = some (.slice a1 l1 k1)) 11 (by kernel_rfl) ?_ (fun hS => ?_)
  · exact ⟨(Tch.refl _ _).drew, dB, dG⟩
  have hw0 : Below w2.heap.size w2 (w2.alloc (.cells #[.slice (some ⟨g, 0, none⟩) n cap] 58)) := (Below.refl _ _).alloc (Nat.le_refl _) _
  refine late_take (i := 0) (v := ?_) rfl (by kernel_rfl) (fun _ _ _ h => h) (by rfl) ?_ (by assumption) ?_
  rotate_left
  · (intro w9 hS9; (try dsimp only at hS9); (try go_split_ands); go_simp <;> with_reducible rfl)
  try simp only [Act.put, List.setIfInBounds_toArray, List.set_cons_zero, List.set_cons_succ]
  refine late_take (i := 1) (v := ?_) rfl (by kernel_rfl) (fun _ _ _ h => h) (by rfl) ?_ (by assumption) ?_
  rotate_left
  · (intro w9 hS9; (try dsimp only at hS9); (try go_split_ands); go_simp <;> with_reducible rfl)
  try simp only [Act.put, List.setIfInBounds_toArray, List.set_cons_zero, List.set_cons_succ]
  refine late_take (i := 2) (v := ?_) rfl (by kernel_rfl) (fun _ _ _ h => h) (by rfl) ?_ (by assumption) ?_
  rotate_left
  · (intro w9 hS9; (try dsimp only at hS9); (try go_split_ands); go_simp <;> with_reducible rfl)
  try simp only [Act.put, List.setIfInBounds_toArray, List.set_cons_zero, List.set_cons_succ]
  refine late_take (i := 4) (v := ?_) rfl (by kernel_rfl) (fun _ _ _ h => h) (by rfl) ?_ (by assumption) ?_
  rotate_left
  · (intro w9 hS9; (try dsimp only at hS9); (try go_split_ands); go_simp <;> with_reducible rfl)
  try simp only [Act.put, List.setIfInBounds_toArray, List.set_cons_zero, List.set_cons_succ]
  refine late_take (i := 5) (v := ?_) rfl (by kernel_rfl) (fun _ _ _ h => h) (by rfl) ?_ (by assumption) ?_
  rotate_left
  · (intro w9 hS9; (try dsimp only at hS9); (try go_split_ands); go_simp <;> with_reducible rfl)
  try simp only [Act.put, List.setIfInBounds_toArray, List.set_cons_zero, List.set_cons_succ]
  refine late_take (i := 6) (v := ?_) rfl (by kernel_rfl) (fun _ _ _ h => h) (by rfl) ?_ (by assumption) ?_
  rotate_left
  · (intro w9 hS9; (try dsimp only at hS9); (try go_split_ands); go_simp <;> with_reducible rfl)
  try simp only [Act.put, List.setIfInBounds_toArray, List.set_cons_zero, List.set_cons_succ]
  refine late_take (i := 7) (v := ?_) rfl (by kernel_rfl) (fun _ _ _ h => h) (by rfl) ?_ (by assumption) ?_
  rotate_left
  · (intro w9 hS9; (try dsimp only at hS9); (try go_split_ands); go_simp <;> with_reducible rfl)
  try simp only [Act.put, List.setIfInBounds_toArray, List.set_cons_zero, List.set_cons_succ]
  refine late_two (i := 3) (j := 8) rfl rfl (by kernel_rfl) (fun K9 hK9 => ?_) (fun K9 hK9 => ?_)
  · skip
    have hw : Below w2.heap.size w2 _ := hw0.drew
    refine step_append rfl _ _ 56 rfl 74 i0 (.agg #[.slice none 0 0]) 24 Try.underlying56 hi hz0 hz1 hz2 rfl (lo := w1.heap.size) (bs := []) (xs := ([] : List PieceD)) rfl ?own (b2 := bR) (ys := r) rfl ?src HnR.out ?f2 ?q2 ?q3 ?q4 ?_
    case own => exact OwnL.nil _ _ _
    case src => exact HS.out.grow hw
    case f2 => exact fun b hb => ⟨(HfR.out b hb).1, (HfR.out b hb).2.1.keep (hw.block b (LR.out b hb).2), by have := LR.out b hb; simp; try omega⟩
    case q2 => simp; omega
    case q3 => simp; omega
    case q4 => first | omega | (simp; omega)
    intro p3 c3 w3 b3 hO3 hT3 hm3
    try simp only [List.nil_append] at hO3
    try simp only [List.length_nil, Nat.zero_add] at hO3
    try simp only [List.length_nil, Nat.zero_add]
    have hw3 : Below w2.heap.size w2 w3 := hw.trans (hT3.below (by simp; try omega) (by simp; try omega))
    have hb3 : ∀ b ∈ b3, b ∈ bR ∨ w2.heap.size + 1 ≤ b := fun b hb => by
      rcases hm3 b hb with h | h | h
      · right; (try simp at h); try omega
      · exact .inl h
      · right; (try simp at h); omega
    have HO3 := hid hO3
    have hz3 : w2.heap.size + 1 ≤ w3.heap.size := by have := hT3.size; simp at this; omega
    refine hK9.out _ _ (fun _ => ?_) (fun hS9 => ?_)
    · (try dsimp only); exact ⟨keepc hS.1 hT3 (fun x hx => by cases hx), cellc hT3 hS.2.1 (by simp), cellc hT3 hS.2.2 (by simp)⟩
    replace hS := hS9 (by decide)
    clear hK9 K9 hS9
    try simp only [Act.put, List.setIfInBounds_toArray, List.set_cons_zero, List.set_cons_succ]
    clear hO3 hm3 hw
    refine late_one (i := 8) rfl (by kernel_rfl) (fun K9 hK9 => ?_)
    go_simp
    refine hK9.out _ _ (fun _ => ?_) (fun hS9 => ?_)
    · (try dsimp only); exact ⟨keepc hS.1 ((Tch.refl [] _).alloc _) (fun x hx => by cases hx), cellc ((Tch.refl [] _).alloc _) hS.2.1 (by simp), cellc ((Tch.refl [] _).alloc _) hS.2.2 (by simp)⟩
    replace hS := hS9 (by decide)
    clear hK9 K9 hS9
    try simp only [Act.put, List.setIfInBounds_toArray, List.set_cons_zero, List.set_cons_succ]
    refine late_one (i := 9) rfl (by kernel_rfl) (fun K9 hK9 => ?_)
    refine step_append rfl _ _ 56 rfl 74 i0 (.agg #[.slice none 0 0]) 24 Try.underlying56 hi hz0 hz1 hz2 rfl (lo := w1.heap.size) (bs := b3) (xs := r) rfl ?own (b2 := b0) (ys := [pc]) rfl ?src HO0.out.2.1 ?f2 ?q2 ?q3 ?q4 ?_
    case own => exact HO3.out.alloc _
    case src => exact src_new (grow HO0.out.1 hw3) rfl _ _
    case f2 => exact fun b hb => ⟨(HO0.out.2.2 b hb).1, (HO0.out.2.2 b hb).2.keep ((hw3.alloc (by omega) _).block b (L0.out b hb).2), fun hm => (hb3 b hm).elim (Hf0.out b hb).2.1 (by have := L0.out b hb; omega)⟩
    case q2 => simp; omega
    case q3 => simp; omega
    case q4 => first | omega | (simp; omega)
    intro p5 c5 w5 b5 hO5 hT5 hm5
    simp only [List.length_cons, List.length_nil, Nat.zero_add] at hO5 ⊢
    refine hK9.out _ _ (fun _ => ?_) (fun hS9 => ?_)
    · (try dsimp only); exact ⟨keepc hS.1 hT5 (fun x hx => (hb3 x hx).imp id (by simp)), cellc hT5 hS.2.1 (fun hm => (hb3 _ hm).elim nB (by first | omega | (simp; done))), cellc hT5 hS.2.2 (fun hm => (hb3 _ hm).elim nG (by have := hgl.2; first | omega | (simp; omega)))⟩
    replace hS := hS9 (by decide)
    clear hK9 K9 hS9
    try simp only [Act.put, List.setIfInBounds_toArray, List.set_cons_zero, List.set_cons_succ]
    refine late_take (i := 10) (v := ?_) rfl (by kernel_rfl) (fun _ _ _ h => h) (by rfl) ?_ (by assumption) ?_
    rotate_left
    · (intro w9 hS9; (try dsimp only at hS9); (try go_split_ands); go_simp <;> with_reducible rfl)
    try simp only [Act.put, List.setIfInBounds_toArray, List.set_cons_zero, List.set_cons_succ]
    refine late_one (i := 11) rfl (by kernel_rfl) (fun K9 hK9 => ?_)
    have HO5 := hid hO5
    have hT := hS.1
    have e1 := hS.2.1
    have hFF := hFB.keep (hT.block _ (by simp) nB)
    have hf := hFF.frozen 0
    have hz5 := hT.size; simp at hz5
    have B1x := B1.keep ((hT.block (w.heap.size + 1) (by simp; omega) (fun hm => by have := (HfR.out _ hm).1; omega)).trans (Below.heap_alloc _ _ _ (by omega)))
    have B1xo := B1x.out; have B1xf := B1x.fr
    have HB5 := hid ((HB2.out.alloc HB2.out.size (.cells #[.slice (some ⟨g, 0, none⟩) n cap] 58)).trans (hT.below (by have := HB2.out.size; simp; omega) (fun b hb => by have := (HfR.out b hb).1; omega)))
    have L5 : Hid (∀ b ∈ b5, b ≠ w2.heap.size ∧ b ≠ w.heap.size + 1) := hid fun b hb => by
      have := (HO5.out.lts b hb).1
      refine ⟨?_, by omega⟩
      rintro rfl
      rcases hm5 _ hb with h | h | h
      · rcases hb3 _ h with h | h
        · exact nB h
        · omega
      · have := (L0.out _ h).2; omega
      · (try simp at h); omega
    clear hO5 hT5 hm5 hT hS hFF HO3 hb3 hw3 hT3
    go_simp
    refine hK9.out _ _ (fun h => absurd rfl h) (fun _ => ?_)
    clear hK9 K9
    try simp only [Act.put, List.setIfInBounds_toArray, List.set_cons_zero, List.set_cons_succ]
    refine late_done (by kernel_rfl) ?_ _
    go_wp2
    refine bodyPost_ret (v := .agg #[.slice p5 (r.length + 1) c5]) (by simp [results, Try.results27, go_sem, B1xo]) rfl ?_
    obtain ⟨b6, hb6, hOw⟩ := HO5.out.own
    refine ⟨[.slice p5 (r.length + 1) c5], b6, rfl, ?_, ?_⟩
    · rw [HZ.out, HT.out]
      refine Own.mono (lo := w1.heap.size) ?_ (by omega)
      refine own_Ring (d := { Pieces := r ++ [pc] }) ?_
      repeat (first | exact (by simpa using hOw) | refine Own.setCell' _ ?_ (fun b hb => by have := L5.out b (hb6 b hb); simp; omega))
    · repeat (first | exact HB5.out | refine Below.setCell ?_ (by simp; try omega) _)
  · skip
    go_simp
    refine hK9.out _ _ (fun _ => ?_) (fun hS9 => ?_)
    · (try dsimp only); exact ⟨keepc hS.1 ((Tch.refl [] _).alloc _) (fun x hx => by cases hx), cellc ((Tch.refl [] _).alloc _) hS.2.1 (by simp), cellc ((Tch.refl [] _).alloc _) hS.2.2 (by simp)⟩
    replace hS := hS9 (by decide)
    clear hK9 K9 hS9
    try simp only [Act.put, List.setIfInBounds_toArray, List.set_cons_zero, List.set_cons_succ]
    refine late_one (i := 3) rfl (by kernel_rfl) (fun K9 hK9 => ?_)
    have hw : Below w2.heap.size w2 _ := (hw0.alloc (by simp; try omega) (.cells #[.slice a1 l1 k1] 74)).drew
    refine step_append rfl _ _ 56 rfl 74 i0 (.agg #[.slice none 0 0]) 24 Try.underlying56 hi hz0 hz1 hz2 rfl (lo := w1.heap.size) (bs := []) (xs := ([] : List PieceD)) rfl ?own (b2 := bR) (ys := r) rfl ?src HnR.out ?f2 ?q2 ?q3 ?q4 ?_
    case own => exact OwnL.nil _ _ _
    case src => exact HS.out.grow hw
    case f2 => exact fun b hb => ⟨(HfR.out b hb).1, (HfR.out b hb).2.1.keep (hw.block b (LR.out b hb).2), by have := LR.out b hb; simp; try omega⟩
    case q2 => simp; omega
    case q3 => simp; omega
    case q4 => first | omega | (simp; omega)
    intro p3 c3 w3 b3 hO3 hT3 hm3
    try simp only [List.nil_append] at hO3
    try simp only [List.length_nil, Nat.zero_add] at hO3
    try simp only [List.length_nil, Nat.zero_add]
    have hw3 : Below w2.heap.size w2 w3 := hw.trans (hT3.below (by simp; try omega) (by simp; try omega))
    have hb3 : ∀ b ∈ b3, b ∈ bR ∨ w2.heap.size + 1 ≤ b := fun b hb => by
      rcases hm3 b hb with h | h | h
      · right; (try simp at h); try omega
      · exact .inl h
      · right; (try simp at h); omega
    have HO3 := hid hO3
    have hz3 : w2.heap.size + 1 ≤ w3.heap.size := by have := hT3.size; simp at this; omega
    have HX : Hid (Src w3 b0 (some ⟨w2.heap.size + 1, 0, none⟩) 1 1 [pc]) := hid (Src.tch (Src.grow (src_new (grow HO0.out.1 hw0) (by simp) _ _) (Below.refl _ _).drew) hT3 (by simp; try omega) (fun b hb => by have := L0.out b hb; simp; try omega))
    refine hK9.out _ _ (fun _ => ?_) (fun hS9 => ?_)
    · (try dsimp only); exact ⟨keepc hS.1 hT3 (fun x hx => by cases hx), cellc hT3 hS.2.1 (by simp), cellc hT3 hS.2.2 (by simp)⟩
    replace hS := hS9 (by decide)
    clear hK9 K9 hS9
    try simp only [Act.put, List.setIfInBounds_toArray, List.set_cons_zero, List.set_cons_succ]
    clear hO3 hm3 hw
    refine late_one (i := 9) rfl (by kernel_rfl) (fun K9 hK9 => ?_)
    refine step_append rfl _ _ 56 rfl 74 i0 (.agg #[.slice none 0 0]) 24 Try.underlying56 hi hz0 hz1 hz2 rfl (lo := w1.heap.size) (bs := b3) (xs := r) rfl ?own (b2 := b0) (ys := [pc]) rfl ?src HO0.out.2.1 ?f2 ?q2 ?q3 ?q4 ?_
    case own => exact HO3.out
    case src => exact HX.out
    case f2 => exact fun b hb => ⟨(HO0.out.2.2 b hb).1, (HO0.out.2.2 b hb).2.keep (hw3.block b (L0.out b hb).2), fun hm => (hb3 b hm).elim (Hf0.out b hb).2.1 (by have := L0.out b hb; omega)⟩
    case q2 => simp; omega
    case q3 => simp; omega
    case q4 => first | omega | (simp; omega)
    intro p5 c5 w5 b5 hO5 hT5 hm5
    simp only [List.length_cons, List.length_nil, Nat.zero_add] at hO5 ⊢
    refine hK9.out _ _ (fun _ => ?_) (fun hS9 => ?_)
    · (try dsimp only); exact ⟨keepc hS.1 hT5 (fun x hx => (hb3 x hx).imp id (by simp)), cellc hT5 hS.2.1 (fun hm => (hb3 _ hm).elim nB (by first | omega | (simp; done))), cellc hT5 hS.2.2 (fun hm => (hb3 _ hm).elim nG (by have := hgl.2; first | omega | (simp; omega)))⟩
    replace hS := hS9 (by decide)
    clear hK9 K9 hS9
    try simp only [Act.put, List.setIfInBounds_toArray, List.set_cons_zero, List.set_cons_succ]
    refine late_take (i := 10) (v := ?_) rfl (by kernel_rfl) (fun _ _ _ h => h) (by rfl) ?_ (by assumption) ?_
    rotate_left
    · (intro w9 hS9; (try dsimp only at hS9); (try go_split_ands); go_simp <;> with_reducible rfl)
    try simp only [Act.put, List.setIfInBounds_toArray, List.set_cons_zero, List.set_cons_succ]
    refine late_one (i := 11) rfl (by kernel_rfl) (fun K9 hK9 => ?_)
    have HO5 := hid hO5
    have hT := hS.1
    have e1 := hS.2.1
    have hFF := hFB.keep (hT.block _ (by simp) nB)
    have hf := hFF.frozen 0
    have hz5 := hT.size; simp at hz5
    have B1x := B1.keep ((hT.block (w.heap.size + 1) (by simp; omega) (fun hm => by have := (HfR.out _ hm).1; omega)).trans (Below.heap_alloc _ _ _ (by omega)))
    have B1xo := B1x.out; have B1xf := B1x.fr
    have HB5 := hid ((HB2.out.alloc HB2.out.size (.cells #[.slice (some ⟨g, 0, none⟩) n cap] 58)).trans (hT.below (by have := HB2.out.size; simp; omega) (fun b hb => by have := (HfR.out b hb).1; omega)))
    have L5 : Hid (∀ b ∈ b5, b ≠ w2.heap.size ∧ b ≠ w.heap.size + 1) := hid fun b hb => by
      have := (HO5.out.lts b hb).1
      refine ⟨?_, by omega⟩
      rintro rfl
      rcases hm5 _ hb with h | h | h
      · rcases hb3 _ h with h | h
        · exact nB h
        · omega
      · have := (L0.out _ h).2; omega
      · (try simp at h); omega
    clear hO5 hT5 hm5 hT hS hFF HO3 hb3 hw3 hT3
    go_simp
    refine hK9.out _ _ (fun h => absurd rfl h) (fun _ => ?_)
    clear hK9 K9
    try simp only [Act.put, List.setIfInBounds_toArray, List.set_cons_zero, List.set_cons_succ]
    refine late_done (by kernel_rfl) ?_ _
    go_wp2
    refine bodyPost_ret (v := .agg #[.slice p5 (r.length + 1) c5]) (by simp [results, Try.results27, go_sem, B1xo]) rfl ?_
    obtain ⟨b6, hb6, hOw⟩ := HO5.out.own
    refine ⟨[.slice p5 (r.length + 1) c5], b6, rfl, ?_, ?_⟩
    · rw [HZ.out, HT.out]
      refine Own.mono (lo := w1.heap.size) ?_ (by omega)
      refine own_Ring (d := { Pieces := r ++ [pc] }) ?_
      repeat (first | exact (by simpa using hOw) | refine Own.setCell' _ ?_ (fun b hb => by have := L5.out b (hb6 b hb); simp; omega))
    · repeat (first | exact HB5.out | refine Below.setCell ?_ (by simp; try omega) _)
end Go.Proofs.Ytgcdgkiefbbhkaa
