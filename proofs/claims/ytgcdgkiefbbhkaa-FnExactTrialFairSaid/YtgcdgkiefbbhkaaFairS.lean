/- TrialFair: the reference's walk (printed by genfair.py). -/
import Derived.Test.YtgcdgkiefbbhkaaFair
import Derived.Test.YtgcdgkiefbbhkaaLate
import Derived.Test.YtgcdgkiefbbhkaaHelpD
import Derived.Deep.DeepCutAuto
import Derived.Lib.MinMax
set_option linter.unusedSimpArgs false
set_option linter.unusedVariables false
namespace Go.G6
open Go Go.RowKit
/-- An operation that its guard shuts out. -/
theorem late_skip {P : Program} {md : Region.Mode} {ops : Array Oper} {Q : Exit → Act → World → Prop} {S : World → Prop} {L : Nat} {i : Nat} {oi : Oper} {fuel : Nat} {listed : Array Bool} {a : Act} {w : World} (hi : ops[i]? = some oi)
    (hs : (Region.noSelect ops && Region.free md ops listed i && (Region.ready md ops listed).contains i && waits md ops L i) = true)
    (hQ : ∀ c a w, Q (.panic c) (a.put oi.dst undef) w → Q (.panic c) a w) (hw : Region.wanted oi (yielded ops a.tmps) = false) (hS : S w)
    (h : wpAnyL P md ops Q S L fuel (listed.setIfInBounds i true) (a.put oi.dst undef) w) : wpAnyL P md ops Q S L (fuel + 1) listed a w := by
  simp only [Bool.and_eq_true] at hs
  exact wpAnyL_first hi (Region.noSelect_spec hs.1.1.1) hQ hs.2 fuel listed a w (Region.free_spec hi hs.1.1.2) (by simpa using hs.1.2) (.inr ⟨hw, rfl⟩) hS h
theorem keepcellF {W V : World} {p : Addr} {v : Value} (hb : Below W.heap.size W V) (h : W.cell? p = some v) : V.cell? p = some v := (hb.cell (World.block_lt_of_cell? W _ h)).trans h
end Go.G6
namespace Go.Proofs.Ytgcdgkiefbbhkaa
open Go.RowKit Go.G6
set_option maxHeartbeats 6000000
set_option maxRecDepth 10000
theorem info_EntryF : (Try.prog.info? 85).map (fun i => (i.zero, i.size, i.bytes)) = some (some (.agg #[.int .i64 0, .string ByteArray.empty]), 2, 24) := by kernel_rfl
theorem s_TrialFair {w : World} {bs : List Nat} {cs : List Value} {d : TrialD} (h : Rep.pt w bs cs d) :
    Calls Try.prog 8 #[.agg cs.toArray] w fun e w' => e = .returned (.bool (trialFair d)) ∧ Below w.heap.size w w' := by
  obtain ⟨b6, b7, b8, b11, b16, b17, b18, b19, b20, a6, l6, k6, a7, l7, k7, a8, l8, k8, a11, l11, k11, a16, l16, k16, a17, l17, k17, a18, l18, k18, a19, l19, k19, a20, l20, k20, rfl, rfl, h1, h2, h3, h4, h5, h6, h7, h8, h9, h10, h11, h12, h13, h14, h15, h16, h17, h18, h19, h20⟩ := open_Trial h
  obtain rfl := h11.len_eq
  obtain rfl := h19.len_eq
  have m1 := h11.max; have m2 := h19.max
  have HE := hid h11; have HS := hid h19
  have hKI : I64 d.Keep := h1
  unfold I64 at hKI
  clear h1 h2 h3 h4 h5 h6 h7 h8 h9 h10 h11 h12 h13 h14 h15 h16 h17 h18 h19 h20 h
  obtain ⟨i0, hi, hz0, hz1, hz2⟩ := info_parts info_EntryF
  have HB := hid (show Below w.heap.size w (w.alloc (.cells #[.bool d.Up, .int .i64 d.Keep, .int .i64 d.Size, .int .i64 d.Store.Disk.Room, .int .i64 d.Store.Disk.Fuse, .int .i64 d.Store.Disk.Next, .slice a6 l6 k6, .slice a7 l7 k7, .slice a8 l8 k8, .int .i64 d.Store.Keep, .int .i64 d.Store.Size, .slice a11 d.Store.Ents.length k11, .int .i64 d.Store.Len, .int .i64 d.Disk.Room, .int .i64 d.Disk.Fuse, .int .i64 d.Disk.Next, .slice a16 l16 k16, .slice a17 l17 k17, .slice a18 l18 k18, .slice a19 d.Sure.length k19, .slice a20 l20 k20] 43)) from (Below.refl _ _).alloc (Nat.le_refl _) _)
  have HX := hid (show Bx (w.alloc (.cells #[.bool d.Up, .int .i64 d.Keep, .int .i64 d.Size, .int .i64 d.Store.Disk.Room, .int .i64 d.Store.Disk.Fuse, .int .i64 d.Store.Disk.Next, .slice a6 l6 k6, .slice a7 l7 k7, .slice a8 l8 k8, .int .i64 d.Store.Keep, .int .i64 d.Store.Size, .slice a11 d.Store.Ents.length k11, .int .i64 d.Store.Len, .int .i64 d.Disk.Room, .int .i64 d.Disk.Fuse, .int .i64 d.Disk.Next, .slice a16 l16 k16, .slice a17 l17 k17, .slice a18 l18 k18, .slice a19 d.Sure.length k19, .slice a20 l20 k20] 43)) w.heap.size #[.bool d.Up, .int .i64 d.Keep, .int .i64 d.Size, .int .i64 d.Store.Disk.Room, .int .i64 d.Store.Disk.Fuse, .int .i64 d.Store.Disk.Next, .slice a6 l6 k6, .slice a7 l7 k7, .slice a8 l8 k8, .int .i64 d.Store.Keep, .int .i64 d.Store.Size, .slice a11 d.Store.Ents.length k11, .int .i64 d.Store.Len, .int .i64 d.Disk.Room, .int .i64 d.Disk.Fuse, .int .i64 d.Disk.Next, .slice a16 l16 k16, .slice a17 l17 k17, .slice a18 l18 k18, .slice a19 d.Sure.length k19, .slice a20 l20 k20] from Bx.new _ _ _ rfl)
  cases hu : d.Up
  · have E := hid (show trialFair d = true by unfold trialFair; rw [hu]; rfl)
    go_enter Try.func8, Try.ntmps8
    go_wp2
    go_ret
    exact ⟨ret_bool (by rw [E.out]), (Below.refl _ _).alloc (Nat.le_refl _) _⟩
  rw [hu] at HX HB
  have E0 := hid (show trialFair d = (decide (d.Store.Ents.length ≤ d.Sure.length) && (sameE d.Store.Ents (d.Sure.drop (d.Sure.length - d.Store.Ents.length)) && (decide (d.Store.Ents.length = d.Sure.length) || decide (d.Keep ≤ (d.Store.Ents.length : Int))))) by unfold trialFair; rw [hu]; rfl)
  clear hu
  go_enter Try.func8, Try.ntmps8
  go_upto_region 1 with fail
  refine late_genw (fun w1 hw1 => ?_)
  rw [← hw1] at HB HX
  clear hw1
  by_cases hSL : d.Sure.length < d.Store.Ents.length
  · have E := hid (show trialFair d = false by rw [E0.out, decide_eq_false (by omega)]; rfl)
    have h1 : ¬ (d.Store.Ents.length : Int) ≤ (d.Sure.length : Int) := by omega
    clear hSL
    have x := HX.out.out
    go_upto_region 4 with fail
    have y1 : w1.cell? ⟨w.heap.size, 1, none⟩ = some (.int .i64 d.Keep) := x 1
    have y2 : w1.cell? ⟨w.heap.size, 11, none⟩ = some (.slice a11 d.Store.Ents.length k11) := x 11
    have y3 : w1.cell? ⟨w.heap.size, 19, none⟩ = some (.slice a19 d.Sure.length k19) := x 19
    clear x
    refine late_start (fun W => W.cell? ⟨w.heap.size, 1, none⟩ = some (.int .i64 d.Keep) ∧ W.cell? ⟨w.heap.size, 11, none⟩ = some (.slice a11 d.Store.Ents.length k11) ∧ W.cell? ⟨w.heap.size, 19, none⟩ = some (.slice a19 d.Sure.length k19)) 99 (by kernel_rfl) ?_ (fun hS => ?_)
    · exact ⟨y1, y2, y3⟩
    clear y1 y2 y3
    refine late_take (i := 0) (v := ?_) rfl (by kernel_rfl) (fun _ _ _ h => h) (by rfl) ?_ (by assumption) ?_
    rotate_left
    · (intro w9 hS9; (try dsimp only at hS9); (try go_split_ands); go_simp <;> with_reducible rfl)
    try simp only [Act.put, List.setIfInBounds_toArray, List.set_cons_zero, List.set_cons_succ]
    refine late_take (i := 1) (v := ?_) rfl (by kernel_rfl) (fun _ _ _ h => h) (by rfl) ?_ (by assumption) ?_
    rotate_left
    · (intro w9 hS9; (try dsimp only at hS9); (try go_split_ands); go_simp <;> with_reducible rfl)
    try simp only [Act.put, List.setIfInBounds_toArray, List.set_cons_zero, List.set_cons_succ]
    refine late_take (i := 2) (v := ?_) rfl (by kernel_rfl) (fun _ _ _ h => h) (by rfl) ?_ (by assumption) ?_
    rotate_left
    · (intro w9 hS9; (try dsimp only at hS9); (try go_split_ands); go_simp <;> with_reducible rfl)
    try simp only [Act.put, List.setIfInBounds_toArray, List.set_cons_zero, List.set_cons_succ]
    refine late_take (i := 3) (v := ?_) rfl (by kernel_rfl) (fun _ _ _ h => h) (by rfl) ?_ (by assumption) ?_
    rotate_left
    · (intro w9 hS9; (try dsimp only at hS9); (try go_split_ands); go_simp <;> with_reducible rfl)
    try simp only [Act.put, List.setIfInBounds_toArray, List.set_cons_zero, List.set_cons_succ]
    refine late_take (i := 4) (v := ?_) rfl (by kernel_rfl) (fun _ _ _ h => h) (by rfl) ?_ (by assumption) ?_
    rotate_left
    · (intro w9 hS9; (try dsimp only at hS9); (try go_split_ands); go_simp <;> with_reducible rfl)
    try simp only [Act.put, List.setIfInBounds_toArray, List.set_cons_zero, List.set_cons_succ]
    refine late_take (i := 5) (v := ?_) rfl (by kernel_rfl) (fun _ _ _ h => h) (by rfl) ?_ (by assumption) ?_
    rotate_left
    · (intro w9 hS9; (try dsimp only at hS9); (try go_split_ands); go_simp <;> with_reducible rfl)
    try simp only [Act.put, List.setIfInBounds_toArray, List.set_cons_zero, List.set_cons_succ]
    refine late_skip (i := 6) rfl (by kernel_rfl) (fun _ _ _ h => h) (by kernel_rfl) (by assumption) ?_
    try simp only [Act.put, List.setIfInBounds_toArray, List.set_cons_zero, List.set_cons_succ]
    refine late_skip (i := 7) rfl (by kernel_rfl) (fun _ _ _ h => h) (by kernel_rfl) (by assumption) ?_
    try simp only [Act.put, List.setIfInBounds_toArray, List.set_cons_zero, List.set_cons_succ]
    refine late_skip (i := 8) rfl (by kernel_rfl) (fun _ _ _ h => h) (by kernel_rfl) (by assumption) ?_
    try simp only [Act.put, List.setIfInBounds_toArray, List.set_cons_zero, List.set_cons_succ]
    refine late_skip (i := 9) rfl (by kernel_rfl) (fun _ _ _ h => h) (by kernel_rfl) (by assumption) ?_
    try simp only [Act.put, List.setIfInBounds_toArray, List.set_cons_zero, List.set_cons_succ]
    refine late_skip (i := 10) rfl (by kernel_rfl) (fun _ _ _ h => h) (by kernel_rfl) (by assumption) ?_
    try simp only [Act.put, List.setIfInBounds_toArray, List.set_cons_zero, List.set_cons_succ]
    refine late_skip (i := 11) rfl (by kernel_rfl) (fun _ _ _ h => h) (by kernel_rfl) (by assumption) ?_
    try simp only [Act.put, List.setIfInBounds_toArray, List.set_cons_zero, List.set_cons_succ]
    refine late_skip (i := 12) rfl (by kernel_rfl) (fun _ _ _ h => h) (by kernel_rfl) (by assumption) ?_
    try simp only [Act.put, List.setIfInBounds_toArray, List.set_cons_zero, List.set_cons_succ]
    refine late_skip (i := 13) rfl (by kernel_rfl) (fun _ _ _ h => h) (by kernel_rfl) (by assumption) ?_
    try simp only [Act.put, List.setIfInBounds_toArray, List.set_cons_zero, List.set_cons_succ]
    refine late_skip (i := 14) rfl (by kernel_rfl) (fun _ _ _ h => h) (by kernel_rfl) (by assumption) ?_
    try simp only [Act.put, List.setIfInBounds_toArray, List.set_cons_zero, List.set_cons_succ]
    refine late_skip (i := 15) rfl (by kernel_rfl) (fun _ _ _ h => h) (by kernel_rfl) (by assumption) ?_
    try simp only [Act.put, List.setIfInBounds_toArray, List.set_cons_zero, List.set_cons_succ]
    refine late_skip (i := 16) rfl (by kernel_rfl) (fun _ _ _ h => h) (by kernel_rfl) (by assumption) ?_
    try simp only [Act.put, List.setIfInBounds_toArray, List.set_cons_zero, List.set_cons_succ]
    refine late_skip (i := 17) rfl (by kernel_rfl) (fun _ _ _ h => h) (by kernel_rfl) (by assumption) ?_
    try simp only [Act.put, List.setIfInBounds_toArray, List.set_cons_zero, List.set_cons_succ]
    refine late_take (i := 18) (v := ?_) rfl (by kernel_rfl) (fun _ _ _ h => h) (by rfl) ?_ (by assumption) ?_
    rotate_left
    · (intro w9 hS9; (try dsimp only at hS9); (try go_split_ands); go_simp <;> with_reducible rfl)
    try simp only [Act.put, List.setIfInBounds_toArray, List.set_cons_zero, List.set_cons_succ]
    refine late_take (i := 19) (v := ?_) rfl (by kernel_rfl) (fun _ _ _ h => h) (by rfl) ?_ (by assumption) ?_
    rotate_left
    · (intro w9 hS9; (try dsimp only at hS9); (try go_split_ands); go_simp <;> with_reducible rfl)
    try simp only [Act.put, List.setIfInBounds_toArray, List.set_cons_zero, List.set_cons_succ]
    refine late_skip (i := 20) rfl (by kernel_rfl) (fun _ _ _ h => h) (by kernel_rfl) (by assumption) ?_
    try simp only [Act.put, List.setIfInBounds_toArray, List.set_cons_zero, List.set_cons_succ]
    refine late_skip (i := 21) rfl (by kernel_rfl) (fun _ _ _ h => h) (by kernel_rfl) (by assumption) ?_
    try simp only [Act.put, List.setIfInBounds_toArray, List.set_cons_zero, List.set_cons_succ]
    refine late_skip (i := 22) rfl (by kernel_rfl) (fun _ _ _ h => h) (by kernel_rfl) (by assumption) ?_
    try simp only [Act.put, List.setIfInBounds_toArray, List.set_cons_zero, List.set_cons_succ]
    refine late_skip (i := 23) rfl (by kernel_rfl) (fun _ _ _ h => h) (by kernel_rfl) (by assumption) ?_
    try simp only [Act.put, List.setIfInBounds_toArray, List.set_cons_zero, List.set_cons_succ]
    refine late_skip (i := 24) rfl (by kernel_rfl) (fun _ _ _ h => h) (by kernel_rfl) (by assumption) ?_
    try simp only [Act.put, List.setIfInBounds_toArray, List.set_cons_zero, List.set_cons_succ]
    refine late_skip (i := 25) rfl (by kernel_rfl) (fun _ _ _ h => h) (by kernel_rfl) (by assumption) ?_
    try simp only [Act.put, List.setIfInBounds_toArray, List.set_cons_zero, List.set_cons_succ]
    refine late_skip (i := 26) rfl (by kernel_rfl) (fun _ _ _ h => h) (by kernel_rfl) (by assumption) ?_
    try simp only [Act.put, List.setIfInBounds_toArray, List.set_cons_zero, List.set_cons_succ]
    refine late_skip (i := 27) rfl (by kernel_rfl) (fun _ _ _ h => h) (by kernel_rfl) (by assumption) ?_
    try simp only [Act.put, List.setIfInBounds_toArray, List.set_cons_zero, List.set_cons_succ]
    refine late_skip (i := 28) rfl (by kernel_rfl) (fun _ _ _ h => h) (by kernel_rfl) (by assumption) ?_
    try simp only [Act.put, List.setIfInBounds_toArray, List.set_cons_zero, List.set_cons_succ]
    refine late_skip (i := 29) rfl (by kernel_rfl) (fun _ _ _ h => h) (by kernel_rfl) (by assumption) ?_
    try simp only [Act.put, List.setIfInBounds_toArray, List.set_cons_zero, List.set_cons_succ]
    refine late_skip (i := 30) rfl (by kernel_rfl) (fun _ _ _ h => h) (by kernel_rfl) (by assumption) ?_
    try simp only [Act.put, List.setIfInBounds_toArray, List.set_cons_zero, List.set_cons_succ]
    refine late_take (i := 31) (v := ?_) rfl (by kernel_rfl) (fun _ _ _ h => h) (by rfl) ?_ (by assumption) ?_
    rotate_left
    · (intro w9 hS9; (try dsimp only at hS9); (try go_split_ands); go_simp <;> with_reducible rfl)
    try simp only [Act.put, List.setIfInBounds_toArray, List.set_cons_zero, List.set_cons_succ]
    refine late_one (i := 32) rfl (by kernel_rfl) (fun K9 hK9 => ?_)
    go_simp
    refine hK9.out _ _ (fun _ => ?_) (fun hS9 => ?_)
    · (try dsimp only); exact hS
    replace hS := hS9 (by decide)
    clear hK9 K9 hS9
    try simp only [Act.put, List.setIfInBounds_toArray, List.set_cons_zero, List.set_cons_succ]
    refine late_done (by kernel_rfl) ?_ _
    go_wp2
    go_ret
    exact ⟨ret_bool (by rw [E.out]), HB.out.drew⟩
  have h1 : (d.Store.Ents.length : Int) ≤ (d.Sure.length : Int) := by omega
  have ek : ((d.Sure.length : Int) - (d.Store.Ents.length : Int)).toNat = d.Sure.length - d.Store.Ents.length := by omega
  obtain ⟨p6, bS, hcut, _, _, hSc⟩ := (HS.out.grow HB.out).cut_l 39 Try.underlying39 hi hz1 ((d.Sure.length : Int) - (d.Store.Ents.length : Int)) (by omega) (by omega)
  rw [ek] at hcut hSc
  have HSc := hid hSc
  have HEw := hid (HE.out.grow HB.out)
  clear ek hSc hSL
  have hw0 : IntKind.i64.wrap ((d.Sure.length : Int) - (d.Store.Ents.length : Int)) = (d.Sure.length : Int) - (d.Store.Ents.length : Int) := wrapI (by omega)
  have x := HX.out.out
  go_upto_region 4 with fail
  have y1 : w1.cell? ⟨w.heap.size, 1, none⟩ = some (.int .i64 d.Keep) := x 1
  have y2 : w1.cell? ⟨w.heap.size, 11, none⟩ = some (.slice a11 d.Store.Ents.length k11) := x 11
  have y3 : w1.cell? ⟨w.heap.size, 19, none⟩ = some (.slice a19 d.Sure.length k19) := x 19
  clear x
  refine late_start (fun W => W.cell? ⟨w.heap.size, 1, none⟩ = some (.int .i64 d.Keep) ∧ W.cell? ⟨w.heap.size, 11, none⟩ = some (.slice a11 d.Store.Ents.length k11) ∧ W.cell? ⟨w.heap.size, 19, none⟩ = some (.slice a19 d.Sure.length k19)) 99 (by kernel_rfl) ?_ (fun hS => ?_)
  · exact ⟨y1, y2, y3⟩
  clear y1 y2 y3
  refine late_take (i := 0) (v := ?_) rfl (by kernel_rfl) (fun _ _ _ h => h) (by rfl) ?_ (by assumption) ?_
  rotate_left
  · (intro w9 hS9; (try dsimp only at hS9); (try go_split_ands); go_simp <;> with_reducible rfl)
  try simp only [Act.put, List.setIfInBounds_toArray, List.set_cons_zero, List.set_cons_succ]
  refine late_take (i := 1) (v := ?_) rfl (by kernel_rfl) (fun _ _ _ h => h) (by rfl) ?_ (by assumption) ?_
  rotate_left
  · (intro w9 hS9; (try dsimp only at hS9); (try go_split_ands); go_simp <;> with_reducible rfl)
  try simp only [Act.put, List.setIfInBounds_toArray, List.set_cons_zero, List.set_cons_succ]
  refine late_take (i := 2) (v := ?_) rfl (by kernel_rfl) (fun _ _ _ h => h) (by rfl) ?_ (by assumption) ?_
  rotate_left
  · (intro w9 hS9; (try dsimp only at hS9); (try go_split_ands); go_simp <;> with_reducible rfl)
  try simp only [Act.put, List.setIfInBounds_toArray, List.set_cons_zero, List.set_cons_succ]
  refine late_take (i := 3) (v := ?_) rfl (by kernel_rfl) (fun _ _ _ h => h) (by rfl) ?_ (by assumption) ?_
  rotate_left
  · (intro w9 hS9; (try dsimp only at hS9); (try go_split_ands); go_simp <;> with_reducible rfl)
  try simp only [Act.put, List.setIfInBounds_toArray, List.set_cons_zero, List.set_cons_succ]
  refine late_take (i := 4) (v := ?_) rfl (by kernel_rfl) (fun _ _ _ h => h) (by rfl) ?_ (by assumption) ?_
  rotate_left
  · (intro w9 hS9; (try dsimp only at hS9); (try go_split_ands); go_simp <;> with_reducible rfl)
  try simp only [Act.put, List.setIfInBounds_toArray, List.set_cons_zero, List.set_cons_succ]
  refine late_take (i := 5) (v := ?_) rfl (by kernel_rfl) (fun _ _ _ h => h) (by rfl) ?_ (by assumption) ?_
  rotate_left
  · (intro w9 hS9; (try dsimp only at hS9); (try go_split_ands); go_simp <;> with_reducible rfl)
  try simp only [Act.put, List.setIfInBounds_toArray, List.set_cons_zero, List.set_cons_succ]
  refine late_take (i := 6) (v := ?_) rfl (by kernel_rfl) (fun _ _ _ h => h) (by kernel_rfl) ?_ (by assumption) ?_
  rotate_left
  · (intro w9 hS9; (try dsimp only at hS9); (try go_split_ands); go_simp <;> with_reducible rfl)
  try simp only [Act.put, List.setIfInBounds_toArray, List.set_cons_zero, List.set_cons_succ]
  refine late_take (i := 7) (v := ?_) rfl (by kernel_rfl) (fun _ _ _ h => h) (by kernel_rfl) ?_ (by assumption) ?_
  rotate_left
  · (intro w9 hS9; (try dsimp only at hS9); (try go_split_ands); go_simp <;> with_reducible rfl)
  try simp only [Act.put, List.setIfInBounds_toArray, List.set_cons_zero, List.set_cons_succ]
  refine late_take (i := 8) (v := ?_) rfl (by kernel_rfl) (fun _ _ _ h => h) (by kernel_rfl) ?_ (by assumption) ?_
  rotate_left
  · (intro w9 hS9; (try dsimp only at hS9); (try go_split_ands); go_simp <;> with_reducible rfl)
  try simp only [Act.put, List.setIfInBounds_toArray, List.set_cons_zero, List.set_cons_succ]
  refine late_take (i := 9) (v := ?_) rfl (by kernel_rfl) (fun _ _ _ h => h) (by kernel_rfl) ?_ (by assumption) ?_
  rotate_left
  · (intro w9 hS9; (try dsimp only at hS9); (try go_split_ands); go_simp <;> with_reducible rfl)
  try simp only [Act.put, List.setIfInBounds_toArray, List.set_cons_zero, List.set_cons_succ]
  refine late_take (i := 10) (v := ?_) rfl (by kernel_rfl) (fun _ _ _ h => h) (by kernel_rfl) ?_ (by assumption) ?_
  rotate_left
  · (intro w9 hS9; (try dsimp only at hS9); (try go_split_ands); go_simp <;> with_reducible rfl)
  try simp only [Act.put, List.setIfInBounds_toArray, List.set_cons_zero, List.set_cons_succ]
  refine late_take (i := 11) (v := ?_) rfl (by kernel_rfl) (fun _ _ _ h => h) (by kernel_rfl) ?_ (by assumption) ?_
  rotate_left
  · (intro w9 hS9; (try dsimp only at hS9); (try go_split_ands); go_simp <;> with_reducible rfl)
  try simp only [Act.put, List.setIfInBounds_toArray, List.set_cons_zero, List.set_cons_succ]
  refine late_take (i := 12) (v := ?_) rfl (by kernel_rfl) (fun _ _ _ h => h) (by kernel_rfl) ?_ (by assumption) ?_
  rotate_left
  · (intro w9 hS9; (try dsimp only at hS9); (try go_split_ands); go_simp <;> with_reducible rfl)
  try simp only [Act.put, List.setIfInBounds_toArray, List.set_cons_zero, List.set_cons_succ]
  refine late_take (i := 13) (v := ?_) rfl (by kernel_rfl) (fun _ _ _ h => h) (by kernel_rfl) ?_ (by assumption) ?_
  rotate_left
  · (intro w9 hS9; (try dsimp only at hS9); (try go_split_ands); go_simp <;> with_reducible rfl)
  try simp only [Act.put, List.setIfInBounds_toArray, List.set_cons_zero, List.set_cons_succ]
  refine late_take (i := 14) (v := ?_) rfl (by kernel_rfl) (fun _ _ _ h => h) (by kernel_rfl) ?_ (by assumption) ?_
  rotate_left
  · (intro w9 hS9; (try dsimp only at hS9); (try go_split_ands); go_simp <;> with_reducible rfl)
  try simp only [Act.put, List.setIfInBounds_toArray, List.set_cons_zero, List.set_cons_succ]
  refine late_take (i := 15) (v := ?_) rfl (by kernel_rfl) (fun _ _ _ h => h) (by kernel_rfl) ?_ (by assumption) ?_
  rotate_left
  · (intro w9 hS9; (try dsimp only at hS9); (try go_split_ands); go_simp <;> with_reducible rfl)
  try simp only [Act.put, List.setIfInBounds_toArray, List.set_cons_zero, List.set_cons_succ]
  refine late_take (i := 16) (v := ?_) rfl (by kernel_rfl) (fun _ _ _ h => h) (by kernel_rfl) ?_ (by assumption) ?_
  rotate_left
  · (intro w9 hS9; (try dsimp only at hS9); (try go_split_ands); go_simp <;> with_reducible rfl)
  try simp only [Act.put, List.setIfInBounds_toArray, List.set_cons_zero, List.set_cons_succ]
  refine late_one (i := 17) rfl (by kernel_rfl) (fun K9 hK9 => ?_)
  go_simp
  clear hcut hw0
  refine (s_l07Same (HEw.out.grow (w' := w1.drew) ((Below.refl _ _).drew)) (HSc.out.grow (w' := w1.drew) ((Below.refl _ _).drew))).mono ?_
  rintro e w6 ⟨rfl, hb⟩
  have HB6 := hid ((HB.out.drew).trans (hb.mono (show w.heap.size ≤ w1.heap.size from HB.out.size)))
  go_wp2_with fail
  refine hK9.out _ _ (fun _ => ?_) (fun hS9 => ?_)
  · (try dsimp only); exact ⟨keepcellF hb hS.1, keepcellF hb hS.2.1, keepcellF hb hS.2.2⟩
  replace hS := hS9 (by decide)
  clear hK9 K9 hS9
  try simp only [Act.put, List.setIfInBounds_toArray, List.set_cons_zero, List.set_cons_succ]
  clear hb
  have E1 := hid (show trialFair d = (sameE d.Store.Ents (d.Sure.drop (d.Sure.length - d.Store.Ents.length)) && (decide (d.Store.Ents.length = d.Sure.length) || decide (d.Keep ≤ (d.Store.Ents.length : Int)))) by rw [E0.out, decide_eq_true (by omega)]; rfl)
  clear E0
  generalize sameE d.Store.Ents (d.Sure.drop (d.Sure.length - d.Store.Ents.length)) = c at E1 ⊢
  cases c
  · have E := hid (show trialFair d = false by rw [E1.out]; rfl)
    refine late_take (i := 18) (v := ?_) rfl (by kernel_rfl) (fun _ _ _ h => h) (by rfl) ?_ (by assumption) ?_
    rotate_left
    · (intro w9 hS9; (try dsimp only at hS9); (try go_split_ands); go_simp <;> with_reducible rfl)
    try simp only [Act.put, List.setIfInBounds_toArray, List.set_cons_zero, List.set_cons_succ]
    refine late_take (i := 19) (v := ?_) rfl (by kernel_rfl) (fun _ _ _ h => h) (by rfl) ?_ (by assumption) ?_
    rotate_left
    · (intro w9 hS9; (try dsimp only at hS9); (try go_split_ands); go_simp <;> with_reducible rfl)
    try simp only [Act.put, List.setIfInBounds_toArray, List.set_cons_zero, List.set_cons_succ]
    refine late_skip (i := 20) rfl (by kernel_rfl) (fun _ _ _ h => h) (by kernel_rfl) (by assumption) ?_
    try simp only [Act.put, List.setIfInBounds_toArray, List.set_cons_zero, List.set_cons_succ]
    refine late_skip (i := 21) rfl (by kernel_rfl) (fun _ _ _ h => h) (by kernel_rfl) (by assumption) ?_
    try simp only [Act.put, List.setIfInBounds_toArray, List.set_cons_zero, List.set_cons_succ]
    refine late_skip (i := 22) rfl (by kernel_rfl) (fun _ _ _ h => h) (by kernel_rfl) (by assumption) ?_
    try simp only [Act.put, List.setIfInBounds_toArray, List.set_cons_zero, List.set_cons_succ]
    refine late_skip (i := 23) rfl (by kernel_rfl) (fun _ _ _ h => h) (by kernel_rfl) (by assumption) ?_
    try simp only [Act.put, List.setIfInBounds_toArray, List.set_cons_zero, List.set_cons_succ]
    refine late_skip (i := 24) rfl (by kernel_rfl) (fun _ _ _ h => h) (by kernel_rfl) (by assumption) ?_
    try simp only [Act.put, List.setIfInBounds_toArray, List.set_cons_zero, List.set_cons_succ]
    refine late_skip (i := 25) rfl (by kernel_rfl) (fun _ _ _ h => h) (by kernel_rfl) (by assumption) ?_
    try simp only [Act.put, List.setIfInBounds_toArray, List.set_cons_zero, List.set_cons_succ]
    refine late_skip (i := 26) rfl (by kernel_rfl) (fun _ _ _ h => h) (by kernel_rfl) (by assumption) ?_
    try simp only [Act.put, List.setIfInBounds_toArray, List.set_cons_zero, List.set_cons_succ]
    refine late_skip (i := 27) rfl (by kernel_rfl) (fun _ _ _ h => h) (by kernel_rfl) (by assumption) ?_
    try simp only [Act.put, List.setIfInBounds_toArray, List.set_cons_zero, List.set_cons_succ]
    refine late_skip (i := 28) rfl (by kernel_rfl) (fun _ _ _ h => h) (by kernel_rfl) (by assumption) ?_
    try simp only [Act.put, List.setIfInBounds_toArray, List.set_cons_zero, List.set_cons_succ]
    refine late_skip (i := 29) rfl (by kernel_rfl) (fun _ _ _ h => h) (by kernel_rfl) (by assumption) ?_
    try simp only [Act.put, List.setIfInBounds_toArray, List.set_cons_zero, List.set_cons_succ]
    refine late_skip (i := 30) rfl (by kernel_rfl) (fun _ _ _ h => h) (by kernel_rfl) (by assumption) ?_
    try simp only [Act.put, List.setIfInBounds_toArray, List.set_cons_zero, List.set_cons_succ]
    refine late_take (i := 31) (v := ?_) rfl (by kernel_rfl) (fun _ _ _ h => h) (by rfl) ?_ (by assumption) ?_
    rotate_left
    · (intro w9 hS9; (try dsimp only at hS9); (try go_split_ands); go_simp <;> with_reducible rfl)
    try simp only [Act.put, List.setIfInBounds_toArray, List.set_cons_zero, List.set_cons_succ]
    refine late_one (i := 32) rfl (by kernel_rfl) (fun K9 hK9 => ?_)
    go_simp
    refine hK9.out _ _ (fun _ => ?_) (fun hS9 => ?_)
    · (try dsimp only); exact hS
    replace hS := hS9 (by decide)
    clear hK9 K9 hS9
    try simp only [Act.put, List.setIfInBounds_toArray, List.set_cons_zero, List.set_cons_succ]
    refine late_done (by kernel_rfl) ?_ _
    go_wp2
    go_ret
    exact ⟨ret_bool (by rw [E.out]), HB6.out⟩
  by_cases he : d.Store.Ents.length = d.Sure.length
  · have E := hid (show trialFair d = true by rw [E1.out, decide_eq_true he]; rfl)
    have hei : ((d.Store.Ents.length : Int) == (d.Sure.length : Int)) = true := by rw [beq_iff_eq]; omega
    clear he
    refine late_take (i := 18) (v := ?_) rfl (by kernel_rfl) (fun _ _ _ h => h) (by rfl) ?_ (by assumption) ?_
    rotate_left
    · (intro w9 hS9; (try dsimp only at hS9); (try go_split_ands); go_simp <;> with_reducible rfl)
    try simp only [Act.put, List.setIfInBounds_toArray, List.set_cons_zero, List.set_cons_succ]
    refine late_take (i := 19) (v := ?_) rfl (by kernel_rfl) (fun _ _ _ h => h) (by rfl) ?_ (by assumption) ?_
    rotate_left
    · (intro w9 hS9; (try dsimp only at hS9); (try go_split_ands); go_simp <;> with_reducible rfl)
    try simp only [Act.put, List.setIfInBounds_toArray, List.set_cons_zero, List.set_cons_succ]
    refine late_take (i := 20) (v := ?_) rfl (by kernel_rfl) (fun _ _ _ h => h) (by kernel_rfl) ?_ (by assumption) ?_
    rotate_left
    · (intro w9 hS9; (try dsimp only at hS9); (try go_split_ands); go_simp <;> with_reducible rfl)
    try simp only [Act.put, List.setIfInBounds_toArray, List.set_cons_zero, List.set_cons_succ]
    refine late_take (i := 21) (v := ?_) rfl (by kernel_rfl) (fun _ _ _ h => h) (by kernel_rfl) ?_ (by assumption) ?_
    rotate_left
    · (intro w9 hS9; (try dsimp only at hS9); (try go_split_ands); go_simp <;> with_reducible rfl)
    try simp only [Act.put, List.setIfInBounds_toArray, List.set_cons_zero, List.set_cons_succ]
    refine late_take (i := 22) (v := ?_) rfl (by kernel_rfl) (fun _ _ _ h => h) (by kernel_rfl) ?_ (by assumption) ?_
    rotate_left
    · (intro w9 hS9; (try dsimp only at hS9); (try go_split_ands); go_simp <;> with_reducible rfl)
    try simp only [Act.put, List.setIfInBounds_toArray, List.set_cons_zero, List.set_cons_succ]
    refine late_take (i := 23) (v := ?_) rfl (by kernel_rfl) (fun _ _ _ h => h) (by kernel_rfl) ?_ (by assumption) ?_
    rotate_left
    · (intro w9 hS9; (try dsimp only at hS9); (try go_split_ands); go_simp <;> with_reducible rfl)
    try simp only [Act.put, List.setIfInBounds_toArray, List.set_cons_zero, List.set_cons_succ]
    refine late_take (i := 24) (v := ?_) rfl (by kernel_rfl) (fun _ _ _ h => h) (by kernel_rfl) ?_ (by assumption) ?_
    rotate_left
    · (intro w9 hS9; (try dsimp only at hS9); (try go_split_ands); go_simp <;> with_reducible rfl)
    try simp only [Act.put, List.setIfInBounds_toArray, List.set_cons_zero, List.set_cons_succ]
    refine late_take (i := 25) (v := ?_) rfl (by kernel_rfl) (fun _ _ _ h => h) (by kernel_rfl) ?_ (by assumption) ?_
    rotate_left
    · (intro w9 hS9; (try dsimp only at hS9); (try go_split_ands); go_simp <;> with_reducible rfl)
    try simp only [Act.put, List.setIfInBounds_toArray, List.set_cons_zero, List.set_cons_succ]
    refine late_skip (i := 26) rfl (by kernel_rfl) (fun _ _ _ h => h) (by kernel_rfl) (by assumption) ?_
    try simp only [Act.put, List.setIfInBounds_toArray, List.set_cons_zero, List.set_cons_succ]
    refine late_skip (i := 27) rfl (by kernel_rfl) (fun _ _ _ h => h) (by kernel_rfl) (by assumption) ?_
    try simp only [Act.put, List.setIfInBounds_toArray, List.set_cons_zero, List.set_cons_succ]
    refine late_skip (i := 28) rfl (by kernel_rfl) (fun _ _ _ h => h) (by kernel_rfl) (by assumption) ?_
    try simp only [Act.put, List.setIfInBounds_toArray, List.set_cons_zero, List.set_cons_succ]
    refine late_skip (i := 29) rfl (by kernel_rfl) (fun _ _ _ h => h) (by kernel_rfl) (by assumption) ?_
    try simp only [Act.put, List.setIfInBounds_toArray, List.set_cons_zero, List.set_cons_succ]
    refine late_take (i := 30) (v := ?_) rfl (by kernel_rfl) (fun _ _ _ h => h) (by kernel_rfl) ?_ (by assumption) ?_
    rotate_left
    · (intro w9 hS9; (try dsimp only at hS9); (try go_split_ands); go_simp <;> with_reducible rfl)
    try simp only [Act.put, List.setIfInBounds_toArray, List.set_cons_zero, List.set_cons_succ]
    refine late_take (i := 31) (v := ?_) rfl (by kernel_rfl) (fun _ _ _ h => h) (by rfl) ?_ (by assumption) ?_
    rotate_left
    · (intro w9 hS9; (try dsimp only at hS9); (try go_split_ands); go_simp <;> with_reducible rfl)
    try simp only [Act.put, List.setIfInBounds_toArray, List.set_cons_zero, List.set_cons_succ]
    refine late_one (i := 32) rfl (by kernel_rfl) (fun K9 hK9 => ?_)
    go_simp
    refine hK9.out _ _ (fun _ => ?_) (fun hS9 => ?_)
    · (try dsimp only); exact hS
    replace hS := hS9 (by decide)
    clear hK9 K9 hS9
    try simp only [Act.put, List.setIfInBounds_toArray, List.set_cons_zero, List.set_cons_succ]
    refine late_done (by kernel_rfl) ?_ _
    go_wp2
    go_ret
    exact ⟨ret_bool (by rw [E.out]), HB6.out⟩
  have hei : ((d.Store.Ents.length : Int) == (d.Sure.length : Int)) = false := by rw [beq_eq_false_iff_ne]; omega
  by_cases hk : d.Keep ≤ (d.Store.Ents.length : Int)
  · have E := hid (show trialFair d = true by rw [E1.out, decide_eq_true hk]; simp)
    clear he
    refine late_take (i := 18) (v := ?_) rfl (by kernel_rfl) (fun _ _ _ h => h) (by rfl) ?_ (by assumption) ?_
    rotate_left
    · (intro w9 hS9; (try dsimp only at hS9); (try go_split_ands); go_simp <;> with_reducible rfl)
    try simp only [Act.put, List.setIfInBounds_toArray, List.set_cons_zero, List.set_cons_succ]
    refine late_take (i := 19) (v := ?_) rfl (by kernel_rfl) (fun _ _ _ h => h) (by rfl) ?_ (by assumption) ?_
    rotate_left
    · (intro w9 hS9; (try dsimp only at hS9); (try go_split_ands); go_simp <;> with_reducible rfl)
    try simp only [Act.put, List.setIfInBounds_toArray, List.set_cons_zero, List.set_cons_succ]
    refine late_take (i := 20) (v := ?_) rfl (by kernel_rfl) (fun _ _ _ h => h) (by kernel_rfl) ?_ (by assumption) ?_
    rotate_left
    · (intro w9 hS9; (try dsimp only at hS9); (try go_split_ands); go_simp <;> with_reducible rfl)
    try simp only [Act.put, List.setIfInBounds_toArray, List.set_cons_zero, List.set_cons_succ]
    refine late_take (i := 21) (v := ?_) rfl (by kernel_rfl) (fun _ _ _ h => h) (by kernel_rfl) ?_ (by assumption) ?_
    rotate_left
    · (intro w9 hS9; (try dsimp only at hS9); (try go_split_ands); go_simp <;> with_reducible rfl)
    try simp only [Act.put, List.setIfInBounds_toArray, List.set_cons_zero, List.set_cons_succ]
    refine late_take (i := 22) (v := ?_) rfl (by kernel_rfl) (fun _ _ _ h => h) (by kernel_rfl) ?_ (by assumption) ?_
    rotate_left
    · (intro w9 hS9; (try dsimp only at hS9); (try go_split_ands); go_simp <;> with_reducible rfl)
    try simp only [Act.put, List.setIfInBounds_toArray, List.set_cons_zero, List.set_cons_succ]
    refine late_take (i := 23) (v := ?_) rfl (by kernel_rfl) (fun _ _ _ h => h) (by kernel_rfl) ?_ (by assumption) ?_
    rotate_left
    · (intro w9 hS9; (try dsimp only at hS9); (try go_split_ands); go_simp <;> with_reducible rfl)
    try simp only [Act.put, List.setIfInBounds_toArray, List.set_cons_zero, List.set_cons_succ]
    refine late_take (i := 24) (v := ?_) rfl (by kernel_rfl) (fun _ _ _ h => h) (by kernel_rfl) ?_ (by assumption) ?_
    rotate_left
    · (intro w9 hS9; (try dsimp only at hS9); (try go_split_ands); go_simp <;> with_reducible rfl)
    try simp only [Act.put, List.setIfInBounds_toArray, List.set_cons_zero, List.set_cons_succ]
    refine late_take (i := 25) (v := ?_) rfl (by kernel_rfl) (fun _ _ _ h => h) (by kernel_rfl) ?_ (by assumption) ?_
    rotate_left
    · (intro w9 hS9; (try dsimp only at hS9); (try go_split_ands); go_simp <;> with_reducible rfl)
    try simp only [Act.put, List.setIfInBounds_toArray, List.set_cons_zero, List.set_cons_succ]
    refine late_take (i := 26) (v := ?_) rfl (by kernel_rfl) (fun _ _ _ h => h) (by kernel_rfl) ?_ (by assumption) ?_
    rotate_left
    · (intro w9 hS9; (try dsimp only at hS9); (try go_split_ands); go_simp <;> with_reducible rfl)
    try simp only [Act.put, List.setIfInBounds_toArray, List.set_cons_zero, List.set_cons_succ]
    refine late_take (i := 27) (v := ?_) rfl (by kernel_rfl) (fun _ _ _ h => h) (by kernel_rfl) ?_ (by assumption) ?_
    rotate_left
    · (intro w9 hS9; (try dsimp only at hS9); (try go_split_ands); go_simp <;> with_reducible rfl)
    try simp only [Act.put, List.setIfInBounds_toArray, List.set_cons_zero, List.set_cons_succ]
    refine late_take (i := 28) (v := ?_) rfl (by kernel_rfl) (fun _ _ _ h => h) (by kernel_rfl) ?_ (by assumption) ?_
    rotate_left
    · (intro w9 hS9; (try dsimp only at hS9); (try go_split_ands); go_simp <;> with_reducible rfl)
    try simp only [Act.put, List.setIfInBounds_toArray, List.set_cons_zero, List.set_cons_succ]
    refine late_take (i := 29) (v := ?_) rfl (by kernel_rfl) (fun _ _ _ h => h) (by kernel_rfl) ?_ (by assumption) ?_
    rotate_left
    · (intro w9 hS9; (try dsimp only at hS9); (try go_split_ands); go_simp <;> with_reducible rfl)
    try simp only [Act.put, List.setIfInBounds_toArray, List.set_cons_zero, List.set_cons_succ]
    refine late_take (i := 30) (v := ?_) rfl (by kernel_rfl) (fun _ _ _ h => h) (by kernel_rfl) ?_ (by assumption) ?_
    rotate_left
    · (intro w9 hS9; (try dsimp only at hS9); (try go_split_ands); go_simp <;> with_reducible rfl)
    try simp only [Act.put, List.setIfInBounds_toArray, List.set_cons_zero, List.set_cons_succ]
    refine late_take (i := 31) (v := ?_) rfl (by kernel_rfl) (fun _ _ _ h => h) (by rfl) ?_ (by assumption) ?_
    rotate_left
    · (intro w9 hS9; (try dsimp only at hS9); (try go_split_ands); go_simp <;> with_reducible rfl)
    try simp only [Act.put, List.setIfInBounds_toArray, List.set_cons_zero, List.set_cons_succ]
    refine late_one (i := 32) rfl (by kernel_rfl) (fun K9 hK9 => ?_)
    go_simp
    refine hK9.out _ _ (fun _ => ?_) (fun hS9 => ?_)
    · (try dsimp only); exact hS
    replace hS := hS9 (by decide)
    clear hK9 K9 hS9
    try simp only [Act.put, List.setIfInBounds_toArray, List.set_cons_zero, List.set_cons_succ]
    refine late_done (by kernel_rfl) ?_ _
    go_wp2
    go_ret
    exact ⟨ret_bool (by rw [E.out]), HB6.out⟩
  · have E := hid (show trialFair d = false by rw [E1.out, decide_eq_false he, decide_eq_false hk]; rfl)
    clear he
    refine late_take (i := 18) (v := ?_) rfl (by kernel_rfl) (fun _ _ _ h => h) (by rfl) ?_ (by assumption) ?_
    rotate_left
    · (intro w9 hS9; (try dsimp only at hS9); (try go_split_ands); go_simp <;> with_reducible rfl)
    try simp only [Act.put, List.setIfInBounds_toArray, List.set_cons_zero, List.set_cons_succ]
    refine late_take (i := 19) (v := ?_) rfl (by kernel_rfl) (fun _ _ _ h => h) (by rfl) ?_ (by assumption) ?_
    rotate_left
    · (intro w9 hS9; (try dsimp only at hS9); (try go_split_ands); go_simp <;> with_reducible rfl)
    try simp only [Act.put, List.setIfInBounds_toArray, List.set_cons_zero, List.set_cons_succ]
    refine late_take (i := 20) (v := ?_) rfl (by kernel_rfl) (fun _ _ _ h => h) (by kernel_rfl) ?_ (by assumption) ?_
    rotate_left
    · (intro w9 hS9; (try dsimp only at hS9); (try go_split_ands); go_simp <;> with_reducible rfl)
    try simp only [Act.put, List.setIfInBounds_toArray, List.set_cons_zero, List.set_cons_succ]
    refine late_take (i := 21) (v := ?_) rfl (by kernel_rfl) (fun _ _ _ h => h) (by kernel_rfl) ?_ (by assumption) ?_
    rotate_left
    · (intro w9 hS9; (try dsimp only at hS9); (try go_split_ands); go_simp <;> with_reducible rfl)
    try simp only [Act.put, List.setIfInBounds_toArray, List.set_cons_zero, List.set_cons_succ]
    refine late_take (i := 22) (v := ?_) rfl (by kernel_rfl) (fun _ _ _ h => h) (by kernel_rfl) ?_ (by assumption) ?_
    rotate_left
    · (intro w9 hS9; (try dsimp only at hS9); (try go_split_ands); go_simp <;> with_reducible rfl)
    try simp only [Act.put, List.setIfInBounds_toArray, List.set_cons_zero, List.set_cons_succ]
    refine late_take (i := 23) (v := ?_) rfl (by kernel_rfl) (fun _ _ _ h => h) (by kernel_rfl) ?_ (by assumption) ?_
    rotate_left
    · (intro w9 hS9; (try dsimp only at hS9); (try go_split_ands); go_simp <;> with_reducible rfl)
    try simp only [Act.put, List.setIfInBounds_toArray, List.set_cons_zero, List.set_cons_succ]
    refine late_take (i := 24) (v := ?_) rfl (by kernel_rfl) (fun _ _ _ h => h) (by kernel_rfl) ?_ (by assumption) ?_
    rotate_left
    · (intro w9 hS9; (try dsimp only at hS9); (try go_split_ands); go_simp <;> with_reducible rfl)
    try simp only [Act.put, List.setIfInBounds_toArray, List.set_cons_zero, List.set_cons_succ]
    refine late_take (i := 25) (v := ?_) rfl (by kernel_rfl) (fun _ _ _ h => h) (by kernel_rfl) ?_ (by assumption) ?_
    rotate_left
    · (intro w9 hS9; (try dsimp only at hS9); (try go_split_ands); go_simp <;> with_reducible rfl)
    try simp only [Act.put, List.setIfInBounds_toArray, List.set_cons_zero, List.set_cons_succ]
    refine late_take (i := 26) (v := ?_) rfl (by kernel_rfl) (fun _ _ _ h => h) (by kernel_rfl) ?_ (by assumption) ?_
    rotate_left
    · (intro w9 hS9; (try dsimp only at hS9); (try go_split_ands); go_simp <;> with_reducible rfl)
    try simp only [Act.put, List.setIfInBounds_toArray, List.set_cons_zero, List.set_cons_succ]
    refine late_take (i := 27) (v := ?_) rfl (by kernel_rfl) (fun _ _ _ h => h) (by kernel_rfl) ?_ (by assumption) ?_
    rotate_left
    · (intro w9 hS9; (try dsimp only at hS9); (try go_split_ands); go_simp <;> with_reducible rfl)
    try simp only [Act.put, List.setIfInBounds_toArray, List.set_cons_zero, List.set_cons_succ]
    refine late_take (i := 28) (v := ?_) rfl (by kernel_rfl) (fun _ _ _ h => h) (by kernel_rfl) ?_ (by assumption) ?_
    rotate_left
    · (intro w9 hS9; (try dsimp only at hS9); (try go_split_ands); go_simp <;> with_reducible rfl)
    try simp only [Act.put, List.setIfInBounds_toArray, List.set_cons_zero, List.set_cons_succ]
    refine late_take (i := 29) (v := ?_) rfl (by kernel_rfl) (fun _ _ _ h => h) (by kernel_rfl) ?_ (by assumption) ?_
    rotate_left
    · (intro w9 hS9; (try dsimp only at hS9); (try go_split_ands); go_simp <;> with_reducible rfl)
    try simp only [Act.put, List.setIfInBounds_toArray, List.set_cons_zero, List.set_cons_succ]
    refine late_take (i := 30) (v := ?_) rfl (by kernel_rfl) (fun _ _ _ h => h) (by kernel_rfl) ?_ (by assumption) ?_
    rotate_left
    · (intro w9 hS9; (try dsimp only at hS9); (try go_split_ands); go_simp <;> with_reducible rfl)
    try simp only [Act.put, List.setIfInBounds_toArray, List.set_cons_zero, List.set_cons_succ]
    refine late_take (i := 31) (v := ?_) rfl (by kernel_rfl) (fun _ _ _ h => h) (by rfl) ?_ (by assumption) ?_
    rotate_left
    · (intro w9 hS9; (try dsimp only at hS9); (try go_split_ands); go_simp <;> with_reducible rfl)
    try simp only [Act.put, List.setIfInBounds_toArray, List.set_cons_zero, List.set_cons_succ]
    refine late_one (i := 32) rfl (by kernel_rfl) (fun K9 hK9 => ?_)
    go_simp
    refine hK9.out _ _ (fun _ => ?_) (fun hS9 => ?_)
    · (try dsimp only); exact hS
    replace hS := hS9 (by decide)
    clear hK9 K9 hS9
    try simp only [Act.put, List.setIfInBounds_toArray, List.set_cons_zero, List.set_cons_succ]
    refine late_done (by kernel_rfl) ?_ _
    go_wp2
    go_ret
    exact ⟨ret_bool (by rw [E.out]), HB6.out⟩
end Go.Proofs.Ytgcdgkiefbbhkaa
