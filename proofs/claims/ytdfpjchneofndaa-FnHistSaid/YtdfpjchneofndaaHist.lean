/- Histories. -/
import Derived.Test.YtdfpjchneofndaaRune
set_option linter.unusedSimpArgs false
set_option linter.unusedVariables false
namespace Go.Proofs.Ytdfpjchneofndaa
open Go.RowKit Go.G6
set_option maxHeartbeats 800000
set_option maxRecDepth 10000
theorem i_HistOk {w : World} {bs : List Nat} {cs : List Value} {d : HistD} (h : Rep.pt w bs cs d) :
    Calls Try.prog 52 #[.agg cs.toArray] w fun e w' => e = .returned (.bool (histOk d)) ∧ Below w.heap.size w w' := by
  obtain ⟨a1, l1, k1, rfl, h0, h1⟩ := open_Hist h
  obtain rfl := h1.len_eq
  have hm := h1.max
  have H1 := hid (h1.grow ((Below.refl _ _).alloc (Nat.le_refl _) (Obj.cells #[.int .i64 d.First, .slice a1 d.Lines.length k1] 54)))
  clear h h1
  have HB := hid (fun o => (Below.refl w.heap.size w).alloc (Nat.le_refl _) o)
  go_enter Try.func52, Try.ntmps52
  cases hc1 : inB d.First 1 1000000000
  · go_wp2_with (first | (go_at_call 78; refine (i_in _ _ _ _).mono ?_; rintro e w' ⟨rfl, rfl⟩))
    go_ret
    exact ⟨ret_bool (by grind [histOk, inB]), HB.out _⟩
  by_cases hc2 : d.Lines.length ≤ 60
  rotate_left
  · go_wp2_with (first | (go_at_call 78; refine (i_in _ _ _ _).mono ?_; rintro e w' ⟨rfl, rfl⟩))
    go_ret
    exact ⟨ret_bool (by grind [histOk, inB]), HB.out _⟩
  go_wp2_with (first | (go_at_call 78; refine (i_in _ _ _ _).mono ?_; rintro e w' ⟨rfl, rfl⟩))
  go_loop [18] (fun i => ∃ k : Nat, k ≤ d.Lines.length ∧ i = .int .i64 k ∧ d.Lines.all (fun s => decide (1 ≤ s.size ∧ s.size ≤ 1000)) = (d.Lines.drop k).all (fun s => decide (1 ≤ s.size ∧ s.size ≤ 1000))) (fun i => d.Lines.length - (intOf i).toNat)
  case atStart => exact ⟨0, Nat.zero_le _, rfl, rfl⟩
  case round =>
    obtain ⟨k, hk, rfl, hr⟩ := hrel
    have H := hid hr; clear hr
    by_cases hlt : k < d.Lines.length
    · obtain ⟨b, off, rfl, hbw, hck, hok⟩ := H1.out.at k hlt
      have hck1 : (w.alloc (Obj.cells #[.int .i64 d.First, .slice (some ⟨b, off, none⟩) d.Lines.length k1] 54)).cell? ⟨b, off + k, none⟩ = some (.string d.Lines[k]) := hck
      have hok1 : d.Lines[k].size ≤ 9223372036854775807 := hok
      clear hck hok
      go_wp2_with (first | (go_at_call 78; refine (i_in _ _ _ _).mono ?_; rintro e w' ⟨rfl, rfl⟩))
      all_goals have := H.out; have := drop_all (fun s : ByteArray => decide (1 ≤ s.size ∧ s.size ≤ 1000)) d.Lines k hlt
      · go_ret
        exact ⟨ret_bool (by grind [histOk, inB]), HB.out _⟩
      · exact ⟨⟨k + 1, by omega, rfl, by grind [inB]⟩, by simp [intOf]; omega⟩
    · go_wp2
      go_ret
      have := H.out
      rw [List.drop_of_length_le (by omega)] at this
      exact ⟨ret_bool (by grind [histOk, inB]), HB.out _⟩
theorem s_HistOk {w : World} {bs : List Nat} {cs : List Value} {d : HistD} (h : Rep.pt w bs cs d) :
    Calls Try.prog 185 #[.agg cs.toArray] w fun e w' => e = .returned (.bool (histOk d)) ∧ Below w.heap.size w w' := by
  obtain ⟨a1, l1, k1, rfl, h0, h1⟩ := open_Hist h
  obtain rfl := h1.len_eq
  have hm := h1.max
  have H1 := hid (h1.grow ((Below.refl _ _).alloc (Nat.le_refl _) (Obj.cells #[.int .i64 d.First, .slice a1 d.Lines.length k1] 54)))
  clear h h1
  have HB := hid (fun o => (Below.refl w.heap.size w).alloc (Nat.le_refl _) o)
  go_enter Try.func185, Try.ntmps185
  go_wp2_with fail
  go_loop [8] (fun i => ∃ k : Nat, k ≤ d.Lines.length ∧ i = .int .i64 k ∧ d.Lines.all (fun s => decide (1 ≤ s.size ∧ s.size ≤ 1000)) = (d.Lines.drop k).all (fun s => decide (1 ≤ s.size ∧ s.size ≤ 1000))) (fun i => d.Lines.length - (intOf i).toNat)
  case atStart => exact ⟨0, Nat.zero_le _, rfl, rfl⟩
  case round =>
    obtain ⟨k, hk, rfl, hr⟩ := hrel
    have H := hid hr; clear hr
    by_cases hlt : k < d.Lines.length
    · obtain ⟨b, off, rfl, hbw, hck, hok⟩ := H1.out.at k hlt
      have hck1 : (w.alloc (Obj.cells #[.int .i64 d.First, .slice (some ⟨b, off, none⟩) d.Lines.length k1] 54)).cell? ⟨b, off + k, none⟩ = some (.string d.Lines[k]) := hck
      have hok1 : d.Lines[k].size ≤ 9223372036854775807 := hok
      clear hck hok
      go_wp2
      all_goals have := H.out; have := drop_all (fun s : ByteArray => decide (1 ≤ s.size ∧ s.size ≤ 1000)) d.Lines k hlt
      all_goals first | (go_ret; exact ⟨ret_bool (by grind [histOk]), HB.out _⟩) | exact ⟨⟨k + 1, by omega, rfl, by grind⟩, by simp [intOf]; omega⟩
    · go_wp2
      all_goals
        go_ret
        have := H.out
        rw [List.drop_of_length_le (by omega)] at this
        exact ⟨ret_bool (by grind [histOk]), HB.out _⟩
theorem i_HistGet {w : World} {bs : List Nat} {cs : List Value} {d : HistD} (h : Rep.pt w bs cs d) (n : Int) (hn : I64 n) :
    Calls Try.prog 50 #[.agg cs.toArray, .int .i64 n] w fun e w' => e = .returned (.tuple #[.string (histGet d n), .bool (histGetOk d n)]) ∧ Below w.heap.size w w' := by
  have H := hid h
  obtain ⟨a1, l1, k1, rfl, h0, h1⟩ := open_Hist h
  obtain rfl := h1.len_eq
  have hm := h1.max
  clear h
  unfold I64 at hn
  cases hk : histOk d
  · go_enter Try.func50, Try.ntmps50
    have Hk := hid hk
    go_wp2_with fail
    refine (i_HistOk (grow H.out ?_)).mono ?_
    · exact (Below.refl _ _).alloc (Nat.le_refl _) _
    rintro e w1 ⟨rfl, hb⟩
    obtain ⟨hc, hf⟩ := bcell hb
    have HB := hid (below_call ((Below.refl _ _).alloc (Nat.le_refl _) _) hb)
    clear hb
    rw [Hk.out]
    clear hk
    go_wp2
    go_ret2
    exact ⟨by first | (simp [histGet, histGetOk, Hk.out]; done) | (simp [histGet, histGetOk, Hk.out]; rfl), HB.out⟩
  have hb1 : 1 ≤ d.First ∧ d.First ≤ 1000000000 ∧ d.Lines.length ≤ 60 := by simp [histOk] at hk; omega
  obtain ⟨hb1, hb2, hb3⟩ := hb1
  have Hk := hid hk; clear hk
  by_cases hr : d.First ≤ n ∧ n ≤ d.First + d.Lines.length - 1
  rotate_left
  · go_enter Try.func50, Try.ntmps50
    have Hr := hid hr; clear hr
    go_wp2_with fail
    refine (i_HistOk (grow H.out ?_)).mono ?_
    · exact (Below.refl _ _).alloc (Nat.le_refl _) _
    rintro e w1 ⟨rfl, hb⟩
    obtain ⟨hc, hf⟩ := bcell hb
    have HB := hid (below_call ((Below.refl _ _).alloc (Nat.le_refl _) _) hb)
    clear hb
    rw [Hk.out]
    go_wp2_with (first | (go_at_call 78; refine (i_in _ _ _ _).mono ?_; rintro e w' ⟨rfl, rfl⟩))
    all_goals first | (go_ret2; exact ⟨by first | (simp [histGet, histGetOk, Hk.out, Hr.out]; done) | (simp [histGet, histGetOk, Hk.out, Hr.out]; rfl), HB.out⟩) | (exfalso; have := Hr.out; grind [inB])
  obtain ⟨hr1, hr2⟩ := hr
  have hix : (n - d.First).toNat < d.Lines.length := by omega
  obtain ⟨b, off, rfl, hbw, hck, hok⟩ := h1.at _ hix
  have hck1 : w.cell? ⟨b, off + (n - d.First).toNat, none⟩ = some (.string d.Lines[(n - d.First).toNat]) := hck
  have hbw' : b < w.heap.size + 1 := by omega
  have hi0 : 0 ≤ n - d.First := by omega
  have hi1 : n - d.First < (d.Lines.length : Int) := by omega
  clear hck hok
  go_enter Try.func50, Try.ntmps50
  go_wp2_with fail
  refine (i_HistOk (grow H.out ?_)).mono ?_
  · exact (Below.refl _ _).alloc (Nat.le_refl _) _
  rintro e w1 ⟨rfl, hb⟩
  obtain ⟨hc, hf⟩ := bcell hb
  have HB := hid (below_call ((Below.refl _ _).alloc (Nat.le_refl _) _) hb)
  clear hb
  rw [Hk.out]
  go_wp2_with (first | (go_at_call 78; refine (i_in _ _ _ _).mono ?_; rintro e w' ⟨rfl, rfl⟩))
  all_goals first | (go_ret2; exact ⟨by first | (simp [histGet, histGetOk, Hk.out, hr1, hr2, hix, List.getD]; done) | (simp [histGet, histGetOk, Hk.out, hr1, hr2, hix, List.getD]; rfl), HB.out⟩) | (exfalso; grind [inB])
theorem i_HistLast {w : World} {bs : List Nat} {cs : List Value} {d : HistD} (h : Rep.pt w bs cs d) :
    Calls Try.prog 49 #[.agg cs.toArray] w fun e w' => e = .returned (.int .i64 (histLast d)) ∧ Below w.heap.size w w' := by
  have H := hid h
  obtain ⟨a1, l1, k1, rfl, h0, h1⟩ := open_Hist h
  obtain rfl := h1.len_eq
  have hm := h1.max
  clear h
  cases hk : histOk d
  · go_enter Try.func49, Try.ntmps49
    have Hk := hid hk
    go_wp2_with fail
    refine (i_HistOk (grow H.out ?_)).mono ?_
    · exact (Below.refl _ _).alloc (Nat.le_refl _) _
    rintro e w1 ⟨rfl, hb⟩
    obtain ⟨hc, hf⟩ := bcell hb
    have HB := hid (below_call ((Below.refl _ _).alloc (Nat.le_refl _) _) hb)
    clear hb
    rw [Hk.out]
    clear hk
    go_wp2
    go_ret
    exact ⟨ret_int (by simp [histLast, Hk.out]), HB.out⟩
  have hb1 : 1 ≤ d.First ∧ d.First ≤ 1000000000 ∧ d.Lines.length ≤ 60 := by simp [histOk] at hk; omega
  obtain ⟨hb1, hb2, hb3⟩ := hb1
  have Hk := hid hk; clear hk
  by_cases hr : d.Lines.length = 0
  · have hr' : ((d.Lines.length : Int) == 0) = true := by simp [hr]
    have Hr := hid hr; clear hr
    go_enter Try.func49, Try.ntmps49
    go_wp2_with fail
    refine (i_HistOk (grow H.out ?_)).mono ?_
    · exact (Below.refl _ _).alloc (Nat.le_refl _) _
    rintro e w1 ⟨rfl, hb⟩
    obtain ⟨hc, hf⟩ := bcell hb
    have HB := hid (below_call ((Below.refl _ _).alloc (Nat.le_refl _) _) hb)
    clear hb
    rw [Hk.out]
    go_wp2
    go_ret
    exact ⟨ret_int (by simp [histLast, Hk.out, Hr.out]), HB.out⟩
  · have hr' : ((d.Lines.length : Int) == 0) = false := by rw [beq_eq_false_iff_ne]; omega
    go_enter Try.func49, Try.ntmps49
    go_wp2_with fail
    refine (i_HistOk (grow H.out ?_)).mono ?_
    · exact (Below.refl _ _).alloc (Nat.le_refl _) _
    rintro e w1 ⟨rfl, hb⟩
    obtain ⟨hc, hf⟩ := bcell hb
    have HB := hid (below_call ((Below.refl _ _).alloc (Nat.le_refl _) _) hb)
    clear hb
    rw [Hk.out]
    go_wp2
    go_ret
    exact ⟨ret_int (by have : 0 < d.Lines.length := by omega
                       simp [histLast, Hk.out, this]), HB.out⟩
end Go.Proofs.Ytdfpjchneofndaa
