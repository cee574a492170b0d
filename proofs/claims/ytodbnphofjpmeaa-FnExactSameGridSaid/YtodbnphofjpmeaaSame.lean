/- Grids, compared. -/
import Derived.Test.YtodbnphofjpmeaaProg
import Derived.Test.YtodbnphofjpmeaaApp
import Derived.BigQuiet
set_option linter.unusedSimpArgs false
set_option linter.unusedVariables false
namespace Go.G6
open Go.RowKit
def sameGrid (a b : GridD) : Bool := decide (a.W = b.W) && decide (a.H = b.H) && decide (a.Cells = b.Cells) && decide (a.X = b.X) && decide (a.Y = b.Y) && decide (a.Wrap = b.Wrap)
theorem take_same {α : Type} {xs ys : List α} {k : Nat} (h : xs.take k = ys.take k) (h1 : k < xs.length) (h2 : k < ys.length) (e : xs[k] = ys[k]) : xs.take (k + 1) = ys.take (k + 1) := by
  rw [List.take_succ_eq_append_getElem h1, List.take_succ_eq_append_getElem h2, h, e]
theorem ne_at {α : Type} {xs ys : List α} {k : Nat} (h1 : k < xs.length) (h2 : k < ys.length) (e : xs[k] ≠ ys[k]) : xs ≠ ys := by
  rintro rfl; exact e rfl
end Go.G6
namespace Go.Proofs.Ytodbnphofjpmeaa
open Go.RowKit Go.G6
set_option maxHeartbeats 1600000
set_option maxRecDepth 10000
theorem i_sameInts {w : World} {b1 b2 : List Nat} {a1 a2 : Option Addr} {len1 len2 cap1 cap2 : Nat} {xs ys : List Int} (h1 : Slc w b1 a1 len1 cap1 xs) (h2 : Slc w b2 a2 len2 cap2 ys) :
    Calls Try.prog 63 #[.slice a1 len1 cap1, .slice a2 len2 cap2] w fun e w' => e = .returned (.bool (decide (xs = ys))) ∧ Below w.heap.size w w' := by
  obtain rfl := h1.len_eq
  obtain rfl := h2.len_eq
  have hm := h1.max
  have hm2 := h2.max
  by_cases hl : xs.length = ys.length
  rotate_left
  · go_enter Try.func63, Try.ntmps63
    have HL := hid hl
    have hl1 : ((xs.length : Int) != (ys.length : Int)) = true := by rw [bne_iff_ne]; omega
    clear hl
    go_wp2
    go_ret
    exact ⟨ret_bool (by rw [eq_comm, decide_eq_false_iff_not]; rintro rfl; exact HL.out rfl), Below.refl _ _⟩
  have hl1 : ((xs.length : Int) != (ys.length : Int)) = false := by rw [bne_eq_false_iff_eq]; omega
  have HL := hid hl; clear hl
  go_enter Try.func63, Try.ntmps63
  go_wp2_with fail
  go_loopw [13] (fun i wr => ∃ k : Nat, k ≤ xs.length ∧ i = .int .i64 k ∧ xs.take k = ys.take k ∧ Below w.heap.size w wr) (fun i _ => xs.length - (intOf i).toNat)
  case atStart => exact ⟨0, Nat.zero_le _, rfl, rfl, Below.refl _ _⟩
  case round =>
    obtain ⟨k, hk, rfl, ht, hb⟩ := hrel
    have Hb := hid hb
    have HT := hid ht; clear ht
    have hl2 := HL.out
    by_cases hlt : k < xs.length
    · have hlt2 : k < ys.length := by omega
      obtain ⟨b, off, rfl, hbw, hck, _⟩ := h1.at k hlt
      obtain ⟨b', off', rfl, hbw', hck', _⟩ := h2.at k hlt2
      have hc1 : wr.cell? ⟨b, off + k, none⟩ = some (.int .i64 xs[k]) := by rw [hb.cell (p := ⟨b, off + k, none⟩) hbw]; exact hck
      have hc2 : wr.cell? ⟨b', off' + k, none⟩ = some (.int .i64 ys[k]) := by rw [hb.cell (p := ⟨b', off' + k, none⟩) hbw']; exact hck'
      clear hck hck' hb hl2
      have hlt' : (k : Int) < (xs.length : Int) := by omega
      have hlt'' : (k : Int) < (ys.length : Int) := by omega
      by_cases he : xs[k] = ys[k]
      · have he1 : (xs[k] != ys[k]) = false := by rw [bne_eq_false_iff_eq]; exact he
        have HN := hid (take_same HT.out hlt hlt2 he)
        clear he
        go_wp2
        go_quiet (fail)
        go_wp2
        exact ⟨⟨k + 1, by omega, rfl, HN.out, Hb.out.drewN _⟩, by simp [intOf]; omega⟩
      · have he1 : (xs[k] != ys[k]) = true := by rw [bne_iff_ne]; exact he
        have HN := hid (ne_at hlt hlt2 he)
        clear he
        go_wp2
        go_quiet (fail)
        go_wp2
        go_ret
        exact ⟨ret_bool (by rw [eq_comm, decide_eq_false_iff_not]; exact HN.out), Hb.out.drewN _⟩
    · clear hb
      have HN : Hid (xs = ys) := hid (by
        have := HT.out
        rwa [List.take_of_length_le (by omega), List.take_of_length_le (by omega)] at this)
      go_wp2
      go_ret
      exact ⟨ret_bool (by rw [eq_comm, decide_eq_true_eq]; exact HN.out), Hb.out⟩
theorem i_SameGrid {w : World} {b1 b2 : List Nat} {c1 c2 : List Value} {d d' : GridD} (h : Rep.pt w b1 c1 d) (h' : Rep.pt w b2 c2 d') :
    Calls Try.prog 18 #[.agg c1.toArray, .agg c2.toArray] w fun e w' => e = .returned (.bool (sameGrid d d')) ∧ Below w.heap.size w w' := by
  obtain ⟨a2, l2, k2, rfl, h0, h1, h2, h3, h4⟩ := open_Grid h
  obtain ⟨a2', l2', k2', rfl, h0', h1', h2', h3', h4'⟩ := open_Grid h'
  have INI : ∀ o1 o2, Below w.heap.size w ((w.alloc o1).alloc o2) := fun o1 o2 => ((Below.refl _ _).alloc (Nat.le_refl _) _).alloc (by simp) _
  have HI := hid INI; clear INI
  go_enter Try.func18, Try.ntmps18
  go_wp2_with (go_at_call 63; refine (i_sameInts (h2.grow (HI.out _ _)) (h2'.grow (HI.out _ _))).mono ?_; rintro e w1 ⟨rfl, hb⟩; obtain ⟨hc, hf⟩ := bcell hb; have HB := hid (below_call (HI.out _ _) hb); clear hb)
  all_goals
    go_ret
    refine ⟨ret_bool (by first | (simp_all [sameGrid]; done) | (simp_all [sameGrid]; cases d.Wrap <;> cases d'.Wrap <;> rfl)), ?_⟩
    first | exact HB.out | exact HI.out _ _
theorem s_SameGrid {w : World} {b1 b2 : List Nat} {c1 c2 : List Value} {d d' : GridD} (h : Rep.pt w b1 c1 d) (h' : Rep.pt w b2 c2 d') :
    Calls Try.prog 16 #[.agg c1.toArray, .agg c2.toArray] w fun e w' => e = .returned (.bool (sameGrid d d')) ∧ Below w.heap.size w w' := by
  obtain ⟨a2, l2, k2, rfl, h0, h1, h2, h3, h4⟩ := open_Grid h
  obtain ⟨a2', l2', k2', rfl, h0', h1', h2', h3', h4'⟩ := open_Grid h'
  obtain rfl := h2.len_eq
  obtain rfl := h2'.len_eq
  have hm := h2.max
  have hm2 := h2'.max
  have INI : ∀ o1 o2, Below w.heap.size w ((w.alloc o1).alloc o2) := fun o1 o2 => ((Below.refl _ _).alloc (Nat.le_refl _) _).alloc (by simp) _
  have HI := hid INI; clear INI
  have G2 := hid h2; have G2' := hid h2'
  clear h h' h2 h2'
  by_cases hq : d.W = d'.W ∧ d.H = d'.H ∧ d.X = d'.X ∧ d.Y = d'.Y ∧ d.Wrap = d'.Wrap ∧ d.Cells.length = d'.Cells.length
  rotate_left
  · have HQ : Hid (sameGrid d d' = false) := hid (by
      cases hs : sameGrid d d'
      · rfl
      · exfalso; apply hq; simp [sameGrid] at hs; simp_all)
    have Hq := hid hq; clear hq
    have r1 : (d.W != d'.W) = true ∨ (d.W != d'.W) = false := by cases (d.W != d'.W) <;> simp
    have r2 : (d.H != d'.H) = true ∨ (d.H != d'.H) = false := by cases (d.H != d'.H) <;> simp
    have r3 : (d.X != d'.X) = true ∨ (d.X != d'.X) = false := by cases (d.X != d'.X) <;> simp
    have r4 : (d.Y != d'.Y) = true ∨ (d.Y != d'.Y) = false := by cases (d.Y != d'.Y) <;> simp
    have r5 : (d.Wrap != d'.Wrap) = true ∨ (d.Wrap != d'.Wrap) = false := by cases (d.Wrap != d'.Wrap) <;> simp
    have r6 : ((d.Cells.length : Int) != (d'.Cells.length : Int)) = true ∨ ((d.Cells.length : Int) != (d'.Cells.length : Int)) = false := by cases ((d.Cells.length : Int) != (d'.Cells.length : Int)) <;> simp
    have fin : ∀ w', Below w.heap.size w w' → Ending.returned (.bool false) = Ending.returned (.bool (sameGrid d d')) ∧ Below w.heap.size w w' := fun w' h => ⟨by rw [HQ.out], h⟩
    rcases r1 with r1 | r1
    · go_enter Try.func16, Try.ntmps16
      go_wp2_with fail
      go_ret
      exact fin _ (HI.out _ _)
    rcases r2 with r2 | r2
    · go_enter Try.func16, Try.ntmps16
      go_wp2_with fail
      go_ret
      exact fin _ (HI.out _ _)
    rcases r3 with r3 | r3
    · go_enter Try.func16, Try.ntmps16
      go_wp2_with fail
      go_ret
      exact fin _ (HI.out _ _)
    rcases r4 with r4 | r4
    · go_enter Try.func16, Try.ntmps16
      go_wp2_with fail
      go_ret
      exact fin _ (HI.out _ _)
    rcases r5 with r5 | r5
    · have r5a : (d.Wrap ^^ d'.Wrap) = true := by cases h1 : d.Wrap <;> cases h2 : d'.Wrap <;> simp_all
      have r5b : (d.Wrap == d'.Wrap) = false := by cases h1 : d.Wrap <;> cases h2 : d'.Wrap <;> simp_all
      have r5c : ¬ d.Wrap = d'.Wrap := by cases h1 : d.Wrap <;> cases h2 : d'.Wrap <;> simp_all
      go_enter Try.func16, Try.ntmps16
      go_wp2_with fail
      go_ret
      exact fin _ (HI.out _ _)
    have r5a : (d.Wrap ^^ d'.Wrap) = false := by cases h1 : d.Wrap <;> cases h2 : d'.Wrap <;> simp_all
    have r5b : (d.Wrap == d'.Wrap) = true := by cases h1 : d.Wrap <;> cases h2 : d'.Wrap <;> simp_all
    rcases r6 with r6 | r6
    · go_enter Try.func16, Try.ntmps16
      go_wp2_with fail
      go_ret
      exact fin _ (HI.out _ _)
    · exfalso
      apply Hq.out
      rw [bne_eq_false_iff_eq] at r1 r2 r3 r4 r5 r6
      exact ⟨r1, r2, r3, r4, r5, by omega⟩
  obtain ⟨q1, q2, q3, q4, q5, q6⟩ := hq
  have Q6 := hid q6
  have HQ : Hid (sameGrid d d' = decide (d.Cells = d'.Cells)) := hid (by simp [sameGrid, q1, q2, q3, q4, q5])
  have r1 : (d.W != d'.W) = false := by rw [bne_eq_false_iff_eq]; exact q1
  have r2 : (d.H != d'.H) = false := by rw [bne_eq_false_iff_eq]; exact q2
  have r3 : (d.X != d'.X) = false := by rw [bne_eq_false_iff_eq]; exact q3
  have r4 : (d.Y != d'.Y) = false := by rw [bne_eq_false_iff_eq]; exact q4
  have r5 : (d.Wrap != d'.Wrap) = false := by rw [q5]; simp
  have r5a : (d.Wrap ^^ d'.Wrap) = false := by rw [q5]; simp
  have r5b : (d.Wrap == d'.Wrap) = true := by rw [q5]; simp
  have r6 : ((d.Cells.length : Int) != (d'.Cells.length : Int)) = false := by rw [bne_eq_false_iff_eq]; omega
  clear q1 q2 q3 q4 q5 q6
  go_enter Try.func16, Try.ntmps16
  go_wp2_with fail
  go_loopw [51] (fun i wr => ∃ k : Nat, k ≤ d.Cells.length ∧ i = .int .i64 k ∧ d.Cells.take k = d'.Cells.take k ∧ Below (w.heap.size + 2) ((w.alloc (.cells #[.int .i64 d.W, .int .i64 d.H, .slice a2 d.Cells.length k2, .int .i64 d.X, .int .i64 d.Y, .bool d.Wrap] 27)).alloc (.cells #[.int .i64 d'.W, .int .i64 d'.H, .slice a2' d'.Cells.length k2', .int .i64 d'.X, .int .i64 d'.Y, .bool d'.Wrap] 27)) wr) (fun i _ => d.Cells.length - (intOf i).toNat)
  case atStart => exact ⟨0, Nat.zero_le _, rfl, rfl, Below.refl _ _⟩
  case round =>
    obtain ⟨k, hk, rfl, ht, hb⟩ := hrel
    have HT := hid ht; clear ht
    have hl2 := Q6.out
    have B0 : Bx wr w.heap.size _ := Bx.keep (Bx.alloc (Bx.new w _ _ rfl) (by simp) _) (hb.block _ (by omega))
    have B1 : Bx wr (w.heap.size + 1) _ := Bx.keep (Bx.new _ _ _ (by simp)) (hb.block _ (by omega))
    have B0o := B0.out
    have B1o := B1.out
    have HB := hid ((HI.out (.cells #[.int .i64 d.W, .int .i64 d.H, .slice a2 d.Cells.length k2, .int .i64 d.X, .int .i64 d.Y, .bool d.Wrap] 27) (.cells #[.int .i64 d'.W, .int .i64 d'.H, .slice a2' d'.Cells.length k2', .int .i64 d'.X, .int .i64 d'.Y, .bool d'.Wrap] 27)).trans (hb.mono (by omega)))
    have Hb := hid hb; clear hb
    by_cases hlt : k < d.Cells.length
    · have hlt2 : k < d'.Cells.length := by omega
      obtain ⟨b, off, ea, hbw, hck, _⟩ := (G2.out.grow HB.out).at k hlt
      obtain ⟨b', off', ea', hbw', hck', _⟩ := (G2'.out.grow HB.out).at k hlt2
      have hc1 : wr.cell? ⟨b, off + k, none⟩ = some (.int .i64 d.Cells[k]) := hck
      have hc2 : wr.cell? ⟨b', off' + k, none⟩ = some (.int .i64 d'.Cells[k]) := hck'
      obtain rfl := ea
      obtain rfl := ea'
      clear hck hck' hl2
      have hlt' : (k : Int) < (d.Cells.length : Int) := by omega
      have hlt'' : (k : Int) < (d'.Cells.length : Int) := by omega
      by_cases he : d.Cells[k] = d'.Cells[k]
      · have he1 : (d.Cells[k] != d'.Cells[k]) = false := by rw [bne_eq_false_iff_eq]; exact he
        have HN := hid (take_same HT.out hlt hlt2 he)
        clear he
        go_wp2
        go_quiet (fail)
        go_wp2
        exact ⟨⟨k + 1, by omega, rfl, HN.out, Hb.out.drewN _⟩, by simp [intOf]; omega⟩
      · have he1 : (d.Cells[k] != d'.Cells[k]) = true := by rw [bne_iff_ne]; exact he
        have HN := hid (ne_at hlt hlt2 he)
        clear he
        go_wp2
        go_quiet (fail)
        go_wp2
        go_ret
        exact ⟨ret_bool (by rw [HQ.out, eq_comm, decide_eq_false_iff_not]; exact HN.out), HB.out.drewN _⟩
    · have HN : Hid (d.Cells = d'.Cells) := hid (by
        have := HT.out
        rwa [List.take_of_length_le (by omega), List.take_of_length_le (by omega)] at this)
      go_wp2
      go_ret
      exact ⟨ret_bool (by rw [HQ.out, eq_comm, decide_eq_true_eq]; exact HN.out), HB.out⟩
end Go.Proofs.Ytodbnphofjpmeaa
