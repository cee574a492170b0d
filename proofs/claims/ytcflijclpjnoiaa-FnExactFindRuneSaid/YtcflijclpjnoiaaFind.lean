/- Finding a rune (printed by genfind.py). -/
import Derived.Test.YtcflijclpjnoiaaWords
set_option linter.unusedSimpArgs false
set_option linter.unusedVariables false
namespace Go.G6
/-- Where FindRune comes to from k on. -/
def findRuneAt (t : List Int) (k : Nat) (r how : Int) : Int :=
  if how = 0 then findUp (fun p => decide (t.getD p 0 = r)) t.length (k + 1)
  else if how = 1 then findDown (fun p => decide (t.getD p 0 = r)) k
  else if how = 2 then findUp (fun p => decide (p + 1 < t.length ∧ t.getD (p + 1) 0 = r)) t.length (k + 1)
  else if how = 3 then findDown (fun p => decide (1 ≤ p ∧ t.getD (p - 1) 0 = r)) k
  else -1
def findRune (t : List Int) (x r how : Int) : Int := findRuneAt t (clampN x t.length) r how
end Go.G6
namespace Go.Proofs.Ytcflijclpjnoiaa
open Go.RowKit Go.G6
set_option maxHeartbeats 1600000
set_option maxRecDepth 10000
theorem i_FindRune {w : World} {bs : List Nat} {a : Option Addr} {len cap : Nat} {t : List Int} (h : Slc w bs a len cap t) (x : Int) (hx : I64 x) (r : Int) (hr : I64 r) (how : Int) (hh : I64 how) (hn : t.length ≤ 1048576) :
    Calls Try.prog 43 #[.slice a len cap, .int .i64 x, .int .i64 r, .int .i64 how] w fun e w' => e = .returned (.int .i64 (findRune t x r how)) ∧ Below w.heap.size w w' := by
  obtain rfl := h.len_eq
  have hk0 := clampN_le x t.length
  have Hf : Hid (findRune t x r how = findRuneAt t (clampN x t.length) r how) := hid rfl
  have Hcl := hid (clampN_eq x t.length)
  revert Hf hk0 Hcl
  generalize clampN x t.length = k0
  intro hk0 Hf Hcl
  clear hr
  by_cases h0 : how = 0
  · subst h0
    go_enter Try.func43, Try.ntmps43
    go_wp2_with (first | (go_at_call 62; refine (i_within _ _ _).mono ?_; rintro e w' ⟨rfl, rfl⟩; rw [Hcl.out]))
    go_loop [10] (fun i => ∃ k : Nat, k ≤ t.length + 1 ∧ i = .int .i64 k ∧ findRune t x r 0 = findUp (fun p => decide (t.getD p 0 = r)) t.length k) (fun i => t.length + 1 - (intOf i).toNat)
    case atStart => exact ⟨k0 + 1, by omega, by first | rfl | (rw [IntWalk.wrap64_in _ (by omega)]; rfl) | go_num, by rw [Hf.out]; rfl⟩
    case round =>
      clear Hf
      obtain ⟨k, hk, rfl, hr⟩ := hrel
      have H := hid hr; clear hr
      by_cases hlt : k < t.length
      · obtain ⟨b, off, rfl, hbw, hck, _⟩ := h.at k hlt
        have hck1 : w.cell? ⟨b, off + (k), none⟩ = some (.int .i64 t[k]) := hck
        clear hck
        have HG : Hid (t.getD (k) 0 = t[k]) := hid (by simp [List.getD, hlt])
        by_cases hc : t[k] = r
        · have hcb : (t[k] == r) = true := by simp [hc]
          have HK : Hid (findRune t x r 0 = (k : Int)) := hid (by rw [H.out, findUp_lt hlt, if_pos (by simp only [decide_eq_true_eq]; first | exact HG.out.trans hc | exact ⟨hl2, HG.out.trans hc⟩)])
          clear hc H
          go_wp2
          all_goals (go_ret; exact ⟨ret_int (by have := HK.out; first | omega | (rw [this])), Below.refl _ _⟩)
        · have hcb : (t[k] == r) = false := by simp [hc]
          have HK : Hid (findRune t x r 0 = findUp (fun p => decide (t.getD p 0 = r)) t.length (k + 1)) := hid (by rw [H.out, findUp_lt hlt, if_neg (by simp only [decide_eq_true_eq]; intro hh; first | exact hc (HG.out.symm.trans hh) | exact hc (HG.out.symm.trans hh.2))])
          clear hc H
          go_wp2
          exact ⟨⟨k + 1, by omega, rfl, HK.out⟩, by simp [intOf]; try omega⟩
      · have HK : Hid (findRune t x r 0 = -1) := hid (by rw [H.out, findUp_end (by omega)])
        clear H
        go_wp2
        go_ret
        exact ⟨ret_int (by have := HK.out; first | omega | (rw [this])), Below.refl _ _⟩
  by_cases h1 : how = 1
  · subst h1
    go_enter Try.func43, Try.ntmps43
    go_wp2_with (first | (go_at_call 62; refine (i_within _ _ _).mono ?_; rintro e w' ⟨rfl, rfl⟩; rw [Hcl.out]))
    go_loop [11] (fun i => ∃ (k : Nat) (v : Int), k ≤ t.length ∧ i = .int .i64 v ∧ v + 1 = k ∧ findRune t x r 1 = findDown (fun p => decide (t.getD p 0 = r)) k) (fun i => (intOf i + 1).toNat)
    case atStart => exact ⟨k0, k0 - 1, by omega, rfl, by omega, by rw [Hf.out]; rfl⟩
    case round =>
      clear Hf
      obtain ⟨k, v, hk, rfl, hv, hr⟩ := hrel
      have H := hid hr; clear hr
      rcases k with _ | k
      · have HK : Hid (findRune t x r 1 = -1) := hid (by rw [H.out]; rfl)
        clear H
        obtain rfl : v = -1 := by omega
        go_wp2
        go_ret
        exact ⟨ret_int (by have := HK.out; first | omega | (rw [this])), Below.refl _ _⟩
      · obtain rfl : v = (k : Int) := by omega
        obtain ⟨b, off, rfl, hbw, hck, _⟩ := h.at k (by omega)
        have hck1 : w.cell? ⟨b, off + k, none⟩ = some (.int .i64 t[k]) := hck
        clear hck
        have HG : Hid (t.getD k 0 = t[k]) := hid (by have : k < t.length := (by omega); simp [List.getD, this])
        by_cases hc : t[k] = r
        · have hcb : (t[k] == r) = true := by simp [hc]
          have HK : Hid (findRune t x r 1 = ((k : Nat) : Int)) := hid (by rw [H.out, findDown, if_pos (by simp only [decide_eq_true_eq]; first | exact HG.out.trans hc | exact ⟨by omega, HG.out.trans hc⟩)])
          clear hc H
          go_wp2
          all_goals (go_ret; exact ⟨ret_int (by have := HK.out; first | omega | (rw [this])), Below.refl _ _⟩)
        · have hcb : (t[k] == r) = false := by simp [hc]
          have HK : Hid (findRune t x r 1 = findDown (fun p => decide (t.getD p 0 = r)) k) := hid (by rw [H.out, findDown, if_neg (by simp only [decide_eq_true_eq]; intro hh; first | exact hc (HG.out.symm.trans hh) | exact hc (HG.out.symm.trans hh.2))])
          clear hc H
          go_wp2
          exact ⟨⟨k, ((k : Nat) : Int) - 1, by omega, by go_num, by omega, HK.out⟩, by simp [intOf]; try omega⟩
  by_cases h2 : how = 2
  · subst h2
    go_enter Try.func43, Try.ntmps43
    go_wp2_with (first | (go_at_call 62; refine (i_within _ _ _).mono ?_; rintro e w' ⟨rfl, rfl⟩; rw [Hcl.out]))
    go_loop [12] (fun i => ∃ k : Nat, k ≤ t.length + 1 ∧ i = .int .i64 k ∧ findRune t x r 2 = findUp (fun p => decide (p + 1 < t.length ∧ t.getD (p + 1) 0 = r)) t.length k) (fun i => t.length + 1 - (intOf i).toNat)
    case atStart => exact ⟨k0 + 1, by omega, by first | rfl | (rw [IntWalk.wrap64_in _ (by omega)]; rfl) | go_num, by rw [Hf.out]; rfl⟩
    case round =>
      clear Hf
      obtain ⟨k, hk, rfl, hr⟩ := hrel
      have H := hid hr; clear hr
      by_cases hlt : k < t.length
      · by_cases hl2 : k + 1 < t.length
        · obtain ⟨b, off, rfl, hbw, hck, _⟩ := h.at (k + 1) hl2
          have hck1 : w.cell? ⟨b, off + (k + 1), none⟩ = some (.int .i64 t[k + 1]) := hck
          clear hck
          have HG : Hid (t.getD (k + 1) 0 = t[k + 1]) := hid (by simp [List.getD, hl2])
          by_cases hc : t[k + 1] = r
          · have hcb : (t[k + 1] == r) = true := by simp [hc]
            have HK : Hid (findRune t x r 2 = (k : Int)) := hid (by rw [H.out, findUp_lt hlt, if_pos (by simp only [decide_eq_true_eq]; first | exact HG.out.trans hc | exact ⟨hl2, HG.out.trans hc⟩)])
            clear hc H
            go_wp2
            all_goals (go_ret; exact ⟨ret_int (by have := HK.out; first | omega | (rw [this])), Below.refl _ _⟩)
          · have hcb : (t[k + 1] == r) = false := by simp [hc]
            have HK : Hid (findRune t x r 2 = findUp (fun p => decide (p + 1 < t.length ∧ t.getD (p + 1) 0 = r)) t.length (k + 1)) := hid (by rw [H.out, findUp_lt hlt, if_neg (by simp only [decide_eq_true_eq]; intro hh; first | exact hc (HG.out.symm.trans hh) | exact hc (HG.out.symm.trans hh.2))])
            clear hc H
            go_wp2
            exact ⟨⟨k + 1, by omega, rfl, HK.out⟩, by simp [intOf]; try omega⟩
        · have HK : Hid (findRune t x r 2 = findUp (fun p => decide (p + 1 < t.length ∧ t.getD (p + 1) 0 = r)) t.length (k + 1)) := hid (by rw [H.out, findUp_lt hlt, if_neg (by simp only [decide_eq_true_eq]; omega)])
          replace HK : Hid (findRune t x r 2 = -1) := hid (by rw [HK.out, findUp_end (by omega)])
          clear H
          go_wp2
          all_goals (first | (exfalso; omega) | (go_ret; exact ⟨ret_int (by have := HK.out; first | omega | (rw [this])), Below.refl _ _⟩))
      · have HK : Hid (findRune t x r 2 = -1) := hid (by rw [H.out, findUp_end (by omega)])
        clear H
        go_wp2
        go_ret
        exact ⟨ret_int (by have := HK.out; first | omega | (rw [this])), Below.refl _ _⟩
  by_cases h3 : how = 3
  · subst h3
    go_enter Try.func43, Try.ntmps43
    go_wp2_with (first | (go_at_call 62; refine (i_within _ _ _).mono ?_; rintro e w' ⟨rfl, rfl⟩; rw [Hcl.out]))
    go_loop [13] (fun i => ∃ (k : Nat) (v : Int), k ≤ t.length ∧ i = .int .i64 v ∧ v + 1 = k ∧ findRune t x r 3 = findDown (fun p => decide (1 ≤ p ∧ t.getD (p - 1) 0 = r)) k) (fun i => (intOf i + 1).toNat)
    case atStart => exact ⟨k0, k0 - 1, by omega, rfl, by omega, by rw [Hf.out]; rfl⟩
    case round =>
      clear Hf
      obtain ⟨k, v, hk, rfl, hv, hr⟩ := hrel
      have H := hid hr; clear hr
      rcases k with _ | k
      · have HK : Hid (findRune t x r 3 = -1) := hid (by rw [H.out]; rfl)
        clear H
        obtain rfl : v = -1 := by omega
        go_wp2
        go_ret
        exact ⟨ret_int (by have := HK.out; first | omega | (rw [this])), Below.refl _ _⟩
      · obtain rfl : v = (k : Int) := by omega
        rcases k with _ | k
        · have HK : Hid (findRune t x r 3 = findDown (fun p => decide (1 ≤ p ∧ t.getD (p - 1) 0 = r)) 0) := hid (by rw [H.out]; rfl)
          clear H
          go_wp2
          go_ret
          exact ⟨ret_int (by rw [HK.out]; rfl), Below.refl _ _⟩
        · obtain ⟨b, off, rfl, hbw, hck, _⟩ := h.at k (by omega)
          have hck1 : w.cell? ⟨b, off + k, none⟩ = some (.int .i64 t[k]) := hck
          clear hck
          have HG : Hid (t.getD k 0 = t[k]) := hid (by have : k < t.length := (by omega); simp [List.getD, this])
          by_cases hc : t[k] = r
          · have hcb : (t[k] == r) = true := by simp [hc]
            have HK : Hid (findRune t x r 3 = (((k + 1) : Nat) : Int)) := hid (by rw [H.out, findDown, if_pos (by simp only [decide_eq_true_eq]; first | exact HG.out.trans hc | exact ⟨by omega, HG.out.trans hc⟩)])
            clear hc H
            go_wp2
            all_goals (go_ret; exact ⟨ret_int (by have := HK.out; first | omega | (rw [this])), Below.refl _ _⟩)
          · have hcb : (t[k] == r) = false := by simp [hc]
            have HK : Hid (findRune t x r 3 = findDown (fun p => decide (1 ≤ p ∧ t.getD (p - 1) 0 = r)) (k + 1)) := hid (by rw [H.out, findDown, if_neg (by simp only [decide_eq_true_eq]; intro hh; first | exact hc (HG.out.symm.trans hh) | exact hc (HG.out.symm.trans hh.2))])
            clear hc H
            go_wp2
            exact ⟨⟨(k + 1), (((k + 1) : Nat) : Int) - 1, by omega, by go_num, by omega, HK.out⟩, by simp [intOf]; try omega⟩
  have HK : Hid (findRune t x r how = -1) := hid (by rw [Hf.out]; simp [findRuneAt, h0, h1, h2, h3])
  clear Hf
  go_enter Try.func43, Try.ntmps43
  go_wp2_with (first | (go_at_call 62; refine (i_within _ _ _).mono ?_; rintro e w' ⟨rfl, rfl⟩; rw [Hcl.out]))
  all_goals (first | (exfalso; omega) | (go_ret; exact ⟨ret_int (by have := HK.out; omega), Below.refl _ _⟩))
theorem s_FindRune {w : World} {bs : List Nat} {a : Option Addr} {len cap : Nat} {t : List Int} (h : Slc w bs a len cap t) (x : Int) (hx : I64 x) (r : Int) (hr : I64 r) (how : Int) (hh : I64 how) (hn : t.length ≤ 1048576) :
    Calls Try.prog 42 #[.slice a len cap, .int .i64 x, .int .i64 r, .int .i64 how] w fun e w' => e = .returned (.int .i64 (findRune t x r how)) ∧ Below w.heap.size w w' := by
  obtain rfl := h.len_eq
  have hk0 := clampN_le x t.length
  have Hf : Hid (findRune t x r how = findRuneAt t (clampN x t.length) r how) := hid rfl
  have Hcl := hid (clampN_eq x t.length)
  revert Hf hk0 Hcl
  generalize clampN x t.length = k0
  intro hk0 Hf Hcl
  clear hr
  by_cases h0 : how = 0
  · subst h0
    go_enter Try.func42, Try.ntmps42
    go_wp2_with (first | (go_at_call 60; refine (s_l08Clamp _ _ _ (by omega)).mono ?_; rintro e w' ⟨rfl, rfl⟩; rw [Hcl.out]))
    go_loop [11, 12] (fun i j => ∃ k : Nat, k ≤ t.length + 1 ∧ i = .int .i64 k ∧ findRune t x r 0 = findUp (fun p => decide (t.getD p 0 = r)) t.length k) (fun i j => t.length + 1 - (intOf i).toNat)
    case atStart => exact ⟨k0 + 1, by omega, by first | rfl | (rw [IntWalk.wrap64_in _ (by omega)]; rfl) | go_num, by rw [Hf.out]; rfl⟩
    case round =>
      clear Hf
      obtain ⟨k, hk, rfl, hr⟩ := hrel
      have H := hid hr; clear hr
      by_cases hlt : k < t.length
      · obtain ⟨b, off, rfl, hbw, hck, _⟩ := h.at k hlt
        have hck1 : w.cell? ⟨b, off + (k), none⟩ = some (.int .i64 t[k]) := hck
        clear hck
        have HG : Hid (t.getD (k) 0 = t[k]) := hid (by simp [List.getD, hlt])
        by_cases hc : t[k] = r
        · have hcb : (t[k] == r) = true := by simp [hc]
          have HK : Hid (findRune t x r 0 = (k : Int)) := hid (by rw [H.out, findUp_lt hlt, if_pos (by simp only [decide_eq_true_eq]; first | exact HG.out.trans hc | exact ⟨hl2, HG.out.trans hc⟩)])
          clear hc H
          go_wp2
          all_goals (go_ret; exact ⟨ret_int (by have := HK.out; first | omega | (rw [this])), Below.refl _ _⟩)
        · have hcb : (t[k] == r) = false := by simp [hc]
          have HK : Hid (findRune t x r 0 = findUp (fun p => decide (t.getD p 0 = r)) t.length (k + 1)) := hid (by rw [H.out, findUp_lt hlt, if_neg (by simp only [decide_eq_true_eq]; intro hh; first | exact hc (HG.out.symm.trans hh) | exact hc (HG.out.symm.trans hh.2))])
          clear hc H
          go_wp2
          exact ⟨⟨k + 1, by omega, rfl, HK.out⟩, by simp [intOf]; try omega⟩
      · have HK : Hid (findRune t x r 0 = -1) := hid (by rw [H.out, findUp_end (by omega)])
        clear H
        go_wp2
        go_ret
        exact ⟨ret_int (by have := HK.out; first | omega | (rw [this])), Below.refl _ _⟩
  by_cases h1 : how = 1
  · subst h1
    go_enter Try.func42, Try.ntmps42
    go_wp2_with (first | (go_at_call 60; refine (s_l08Clamp _ _ _ (by omega)).mono ?_; rintro e w' ⟨rfl, rfl⟩; rw [Hcl.out]))
    go_loop [11, 12] (fun i j => ∃ (k : Nat) (v : Int), k ≤ t.length ∧ i = .int .i64 v ∧ v + 1 = k ∧ findRune t x r 1 = findDown (fun p => decide (t.getD p 0 = r)) k) (fun i j => (intOf i + 1).toNat)
    case atStart => exact ⟨k0, k0 - 1, by omega, rfl, by omega, by rw [Hf.out]; rfl⟩
    case round =>
      clear Hf
      obtain ⟨k, v, hk, rfl, hv, hr⟩ := hrel
      have H := hid hr; clear hr
      rcases k with _ | k
      · have HK : Hid (findRune t x r 1 = -1) := hid (by rw [H.out]; rfl)
        clear H
        obtain rfl : v = -1 := by omega
        go_wp2
        go_ret
        exact ⟨ret_int (by have := HK.out; first | omega | (rw [this])), Below.refl _ _⟩
      · obtain rfl : v = (k : Int) := by omega
        obtain ⟨b, off, rfl, hbw, hck, _⟩ := h.at k (by omega)
        have hck1 : w.cell? ⟨b, off + k, none⟩ = some (.int .i64 t[k]) := hck
        clear hck
        have HG : Hid (t.getD k 0 = t[k]) := hid (by have : k < t.length := (by omega); simp [List.getD, this])
        by_cases hc : t[k] = r
        · have hcb : (t[k] == r) = true := by simp [hc]
          have HK : Hid (findRune t x r 1 = ((k : Nat) : Int)) := hid (by rw [H.out, findDown, if_pos (by simp only [decide_eq_true_eq]; first | exact HG.out.trans hc | exact ⟨by omega, HG.out.trans hc⟩)])
          clear hc H
          go_wp2
          all_goals (go_ret; exact ⟨ret_int (by have := HK.out; first | omega | (rw [this])), Below.refl _ _⟩)
        · have hcb : (t[k] == r) = false := by simp [hc]
          have HK : Hid (findRune t x r 1 = findDown (fun p => decide (t.getD p 0 = r)) k) := hid (by rw [H.out, findDown, if_neg (by simp only [decide_eq_true_eq]; intro hh; first | exact hc (HG.out.symm.trans hh) | exact hc (HG.out.symm.trans hh.2))])
          clear hc H
          go_wp2
          exact ⟨⟨k, ((k : Nat) : Int) - 1, by omega, by go_num, by omega, HK.out⟩, by simp [intOf]; try omega⟩
  by_cases h2 : how = 2
  · subst h2
    go_enter Try.func42, Try.ntmps42
    go_wp2_with (first | (go_at_call 60; refine (s_l08Clamp _ _ _ (by omega)).mono ?_; rintro e w' ⟨rfl, rfl⟩; rw [Hcl.out]))
    go_loop [11, 12] (fun i j => ∃ k : Nat, k ≤ t.length + 1 ∧ i = .int .i64 k ∧ findRune t x r 2 = findUp (fun p => decide (p + 1 < t.length ∧ t.getD (p + 1) 0 = r)) t.length k) (fun i j => t.length + 1 - (intOf i).toNat)
    case atStart => exact ⟨k0 + 1, by omega, by first | rfl | (rw [IntWalk.wrap64_in _ (by omega)]; rfl) | go_num, by rw [Hf.out]; rfl⟩
    case round =>
      clear Hf
      obtain ⟨k, hk, rfl, hr⟩ := hrel
      have H := hid hr; clear hr
      by_cases hlt : k < t.length
      · by_cases hl2 : k + 1 < t.length
        · obtain ⟨b, off, rfl, hbw, hck, _⟩ := h.at (k + 1) hl2
          have hck1 : w.cell? ⟨b, off + (k + 1), none⟩ = some (.int .i64 t[k + 1]) := hck
          clear hck
          have HG : Hid (t.getD (k + 1) 0 = t[k + 1]) := hid (by simp [List.getD, hl2])
          by_cases hc : t[k + 1] = r
          · have hcb : (t[k + 1] == r) = true := by simp [hc]
            have HK : Hid (findRune t x r 2 = (k : Int)) := hid (by rw [H.out, findUp_lt hlt, if_pos (by simp only [decide_eq_true_eq]; first | exact HG.out.trans hc | exact ⟨hl2, HG.out.trans hc⟩)])
            clear hc H
            go_wp2
            all_goals (go_ret; exact ⟨ret_int (by have := HK.out; first | omega | (rw [this])), Below.refl _ _⟩)
          · have hcb : (t[k + 1] == r) = false := by simp [hc]
            have HK : Hid (findRune t x r 2 = findUp (fun p => decide (p + 1 < t.length ∧ t.getD (p + 1) 0 = r)) t.length (k + 1)) := hid (by rw [H.out, findUp_lt hlt, if_neg (by simp only [decide_eq_true_eq]; intro hh; first | exact hc (HG.out.symm.trans hh) | exact hc (HG.out.symm.trans hh.2))])
            clear hc H
            go_wp2
            exact ⟨⟨k + 1, by omega, rfl, HK.out⟩, by simp [intOf]; try omega⟩
        · have HK : Hid (findRune t x r 2 = findUp (fun p => decide (p + 1 < t.length ∧ t.getD (p + 1) 0 = r)) t.length (k + 1)) := hid (by rw [H.out, findUp_lt hlt, if_neg (by simp only [decide_eq_true_eq]; omega)])
          clear H
          go_wp2
          exact ⟨⟨k + 1, by omega, rfl, HK.out⟩, by simp [intOf]; try omega⟩
      · have HK : Hid (findRune t x r 2 = -1) := hid (by rw [H.out, findUp_end (by omega)])
        clear H
        go_wp2
        go_ret
        exact ⟨ret_int (by have := HK.out; first | omega | (rw [this])), Below.refl _ _⟩
  by_cases h3 : how = 3
  · subst h3
    go_enter Try.func42, Try.ntmps42
    go_wp2_with (first | (go_at_call 60; refine (s_l08Clamp _ _ _ (by omega)).mono ?_; rintro e w' ⟨rfl, rfl⟩; rw [Hcl.out]))
    go_loop [11, 12] (fun i j => ∃ (k : Nat) (v : Int), k ≤ t.length ∧ i = .int .i64 v ∧ v + 1 = k ∧ findRune t x r 3 = findDown (fun p => decide (1 ≤ p ∧ t.getD (p - 1) 0 = r)) k) (fun i j => (intOf i + 1).toNat)
    case atStart => exact ⟨k0, k0 - 1, by omega, rfl, by omega, by rw [Hf.out]; rfl⟩
    case round =>
      clear Hf
      obtain ⟨k, v, hk, rfl, hv, hr⟩ := hrel
      have H := hid hr; clear hr
      rcases k with _ | k
      · have HK : Hid (findRune t x r 3 = -1) := hid (by rw [H.out]; rfl)
        clear H
        obtain rfl : v = -1 := by omega
        go_wp2
        go_ret
        exact ⟨ret_int (by have := HK.out; first | omega | (rw [this])), Below.refl _ _⟩
      · obtain rfl : v = (k : Int) := by omega
        rcases k with _ | k
        · have HK : Hid (findRune t x r 3 = findDown (fun p => decide (1 ≤ p ∧ t.getD (p - 1) 0 = r)) 0) := hid (by rw [H.out]; rfl)
          clear H
          go_wp2
          exact ⟨⟨0, -1, by omega, rfl, by omega, HK.out⟩, by simp [intOf]⟩
        · obtain ⟨b, off, rfl, hbw, hck, _⟩ := h.at k (by omega)
          have hck1 : w.cell? ⟨b, off + k, none⟩ = some (.int .i64 t[k]) := hck
          clear hck
          have hk1 : (k : Int) + 1 + -1 = k := by omega
          have hk2 : ((k : Int) + 1 + -1).toNat = k := by omega
          have HG : Hid (t.getD k 0 = t[k]) := hid (by have : k < t.length := (by omega); simp [List.getD, this])
          by_cases hc : t[k] = r
          · have hcb : (t[k] == r) = true := by simp [hc]
            have HK : Hid (findRune t x r 3 = (((k + 1) : Nat) : Int)) := hid (by rw [H.out, findDown, if_pos (by simp only [decide_eq_true_eq]; first | exact HG.out.trans hc | exact ⟨by omega, HG.out.trans hc⟩)])
            clear hc H
            go_wp2
            all_goals (go_ret; exact ⟨ret_int (by have := HK.out; first | omega | (rw [this])), Below.refl _ _⟩)
          · have hcb : (t[k] == r) = false := by simp [hc]
            have HK : Hid (findRune t x r 3 = findDown (fun p => decide (1 ≤ p ∧ t.getD (p - 1) 0 = r)) (k + 1)) := hid (by rw [H.out, findDown, if_neg (by simp only [decide_eq_true_eq]; intro hh; first | exact hc (HG.out.symm.trans hh) | exact hc (HG.out.symm.trans hh.2))])
            clear hc H
            go_wp2
            exact ⟨⟨(k + 1), (((k + 1) : Nat) : Int) - 1, by omega, by go_num, by omega, HK.out⟩, by simp [intOf]; try omega⟩
  have HK : Hid (findRune t x r how = -1) := hid (by rw [Hf.out]; simp [findRuneAt, h0, h1, h2, h3])
  clear Hf
  go_enter Try.func42, Try.ntmps42
  go_wp2_with (first | (go_at_call 60; refine (s_l08Clamp _ _ _ (by omega)).mono ?_; rintro e w' ⟨rfl, rfl⟩; rw [Hcl.out]))
  all_goals (first | (exfalso; omega) | (go_ret; exact ⟨ret_int (by have := HK.out; omega), Below.refl _ _⟩))
end Go.Proofs.Ytcflijclpjnoiaa
