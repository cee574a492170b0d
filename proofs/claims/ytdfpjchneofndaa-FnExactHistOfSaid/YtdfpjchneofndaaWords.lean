/- Classes of runes and word motions. -/
import Derived.Test.YtdfpjchneofndaaRune
import Derived.WalkLawsBesides
set_option linter.unusedSimpArgs false
set_option linter.unusedVariables false
namespace Go.Proofs.Ytdfpjchneofndaa
open Go.RowKit Go.G6
set_option maxHeartbeats 400000
set_option maxRecDepth 10000
theorem i_isLower (n : Int) (w : World) :
    Calls Try.prog 112 #[.int .i64 n] w fun e w' => e = .returned (.bool (inB n 97 122)) ∧ w = w' := by
  go_enter Try.func112, Try.ntmps112
  go_wp2_with (go_at_call 78; refine (i_in _ _ _ _).mono ?_; rintro e w' ⟨rfl, rfl⟩)
  all_goals (go_ret; exact ⟨rfl, rfl⟩)
theorem i_isUpper (n : Int) (w : World) :
    Calls Try.prog 113 #[.int .i64 n] w fun e w' => e = .returned (.bool (inB n 65 90)) ∧ w = w' := by
  go_enter Try.func113, Try.ntmps113
  go_wp2_with (go_at_call 78; refine (i_in _ _ _ _).mono ?_; rintro e w' ⟨rfl, rfl⟩)
  all_goals (go_ret; exact ⟨rfl, rfl⟩)
theorem i_isDigit (n : Int) (w : World) :
    Calls Try.prog 114 #[.int .i64 n] w fun e w' => e = .returned (.bool (inB n 48 57)) ∧ w = w' := by
  go_enter Try.func114, Try.ntmps114
  go_wp2_with (go_at_call 78; refine (i_in _ _ _ _).mono ?_; rintro e w' ⟨rfl, rfl⟩)
  all_goals (go_ret; exact ⟨rfl, rfl⟩)
theorem i_ClassOf (n : Int) (w : World) :
    Calls Try.prog 43 #[.int .i64 n] w fun e w' => e = .returned (.int .i64 (classOf n)) ∧ w = w' := by
  go_enter Try.func43, Try.ntmps43
  go_wp2_with (first | (go_at_call 112; refine (i_isLower _ _).mono ?_; rintro e w' ⟨rfl, rfl⟩) | (go_at_call 113; refine (i_isUpper _ _).mono ?_; rintro e w' ⟨rfl, rfl⟩) | (go_at_call 114; refine (i_isDigit _ _).mono ?_; rintro e w' ⟨rfl, rfl⟩) | (go_at_call 115; refine (i_printable _ _).mono ?_; rintro e w' ⟨rfl, rfl⟩))
  all_goals (go_ret; exact ⟨ret_int (by grind [inB, classOf]), rfl⟩)
theorem i_within (n m : Int) (w : World) :
    Calls Try.prog 111 #[.int .i64 n, .int .i64 m] w fun e w' => e = .returned (.int .i64 (max 0 (min n m))) ∧ w = w' := by
  go_enter Try.func111, Try.ntmps111
  go_wp2
  all_goals (go_ret; exact ⟨ret_int (by first | rfl | omega), rfl⟩)
theorem i_WordOn {w : World} {bs : List Nat} {a : Option Addr} {len cap : Nat} {t : List Int} (h : Slc w bs a len cap t) (x : Int) (hx : I64 x) :
    Calls Try.prog 41 #[.slice a len cap, .int .i64 x] w fun e w' => e = .returned (.int .i64 (wordOn t x : Int)) ∧ Below w.heap.size w w' := by
  obtain rfl := h.len_eq
  have hm := h.max
  go_enter Try.func41, Try.ntmps41
  go_wp2_with (go_at_call 111; refine (i_within _ _ _).mono ?_; rintro e w' ⟨rfl, rfl⟩)
  rw [clampN_eq]
  have hk0 := clampN_le x t.length
  have Hw : Hid (wordOn t x = skipOn isW t (skipOn (fun r => !isW r) t (clampN x t.length))) := hid rfl
  revert Hw hk0
  generalize clampN x t.length = k0
  intro hk0 Hw
  go_loop [1] (fun i => ∃ k : Nat, k ≤ t.length ∧ i = .int .i64 k ∧ wordOn t x = skipOn isW t (skipOn (fun r => !isW r) t k)) (fun i => t.length - (intOf i).toNat)
  case atStart => exact ⟨k0, hk0, rfl, Hw.out⟩
  case round =>
    clear Hw
    obtain ⟨k, hk, rfl, hr⟩ := hrel
    have H := hid hr; clear hr
    by_cases hlt : k < t.length
    · obtain ⟨b, off, rfl, hbw, hck, _⟩ := h.at k hlt
      have hck1 : w.cell? ⟨b, off + k, none⟩ = some (.int .i64 t[k]) := hck
      clear hck
      by_cases hc : classOf t[k] = 1
      · have hc1 : (classOf t[k] != 1) = false := by simp [hc]
        have HK : Hid (wordOn t x = skipOn isW t k) := hid (by rw [H.out, skipOn_no hlt (by simp [isW, hc])])
        have Hc := hid hc; clear hc
        go_wp2_with (first | (go_at_call 43; refine (i_ClassOf _ _).mono ?_; rintro e w' ⟨rfl, rfl⟩))
        clear hc1 Hc hck1
        go_loop [1] (fun i => ∃ k : Nat, k ≤ t.length ∧ i = .int .i64 k ∧ wordOn t x = skipOn isW t k) (fun i => t.length - (intOf i).toNat)
        case atStart => exact ⟨k, hk, rfl, HK.out⟩
        case round =>
          clear HK H
          obtain ⟨k2, hk2, rfl, hr⟩ := hrel
          have H := hid hr; clear hr
          by_cases hlt : k2 < t.length
          · obtain ⟨b, off, ea, hbw, hck, _⟩ := h.at k2 hlt
            have hck1 : w.cell? ⟨b, off + k2, none⟩ = some (.int .i64 t[k2]) := hck
            clear hck
            first | (obtain rfl := ea) | (simp only [Option.some.injEq, Addr.mk.injEq, and_true] at ea; obtain ⟨rfl, rfl⟩ := ea)
            by_cases hc : classOf t[k2] = 1
            · have hc1 : (classOf t[k2] == 1) = true := by simp [hc]
              have Hc := hid hc; clear hc
              go_wp2_with (first | (go_at_call 43; refine (i_ClassOf _ _).mono ?_; rintro e w' ⟨rfl, rfl⟩))
              exact ⟨⟨k2 + 1, by omega, rfl, by rw [H.out, skipOn_yes hlt (by simp [isW, Hc.out])]⟩, by simp [intOf]; try omega⟩
            · have hc1 : (classOf t[k2] == 1) = false := by simp [hc]
              have Hc := hid hc; clear hc
              go_wp2_with (first | (go_at_call 43; refine (i_ClassOf _ _).mono ?_; rintro e w' ⟨rfl, rfl⟩))
              go_ret
              exact ⟨ret_int (by rw [H.out, skipOn_no hlt (by simp [isW, Hc.out])]), Below.refl _ _⟩
          · go_wp2
            go_ret
            exact ⟨ret_int (by rw [H.out, skipOn_end (by omega)]), Below.refl _ _⟩
      · have hc1 : (classOf t[k] != 1) = true := by simp [hc]
        have Hc := hid hc; clear hc
        go_wp2_with (first | (go_at_call 43; refine (i_ClassOf _ _).mono ?_; rintro e w' ⟨rfl, rfl⟩))
        exact ⟨⟨k + 1, by omega, rfl, by rw [H.out, skipOn_yes hlt (by simp [isW, Hc.out])]⟩, by simp [intOf]; try omega⟩
    · have HK : Hid (wordOn t x = skipOn isW t k) := hid (by rw [H.out, skipOn_end (p := fun r => !isW r) (by omega)])
      go_wp2
      go_loop [1] (fun i => ∃ k : Nat, k ≤ t.length ∧ i = .int .i64 k ∧ wordOn t x = skipOn isW t k) (fun i => t.length - (intOf i).toNat)
      case atStart => exact ⟨k, hk, rfl, HK.out⟩
      case round =>
        clear HK H
        obtain ⟨k2, hk2, rfl, hr⟩ := hrel
        have H := hid hr; clear hr
        by_cases hlt : k2 < t.length
        · obtain ⟨b, off, ea, hbw, hck, _⟩ := h.at k2 hlt
          have hck1 : w.cell? ⟨b, off + k2, none⟩ = some (.int .i64 t[k2]) := hck
          clear hck
          first | (obtain rfl := ea) | (simp only [Option.some.injEq, Addr.mk.injEq, and_true] at ea; obtain ⟨rfl, rfl⟩ := ea)
          by_cases hc : classOf t[k2] = 1
          · have hc1 : (classOf t[k2] == 1) = true := by simp [hc]
            have Hc := hid hc; clear hc
            go_wp2_with (first | (go_at_call 43; refine (i_ClassOf _ _).mono ?_; rintro e w' ⟨rfl, rfl⟩))
            exact ⟨⟨k2 + 1, by omega, rfl, by rw [H.out, skipOn_yes hlt (by simp [isW, Hc.out])]⟩, by simp [intOf]; try omega⟩
          · have hc1 : (classOf t[k2] == 1) = false := by simp [hc]
            have Hc := hid hc; clear hc
            go_wp2_with (first | (go_at_call 43; refine (i_ClassOf _ _).mono ?_; rintro e w' ⟨rfl, rfl⟩))
            go_ret
            exact ⟨ret_int (by rw [H.out, skipOn_no hlt (by simp [isW, Hc.out])]), Below.refl _ _⟩
        · go_wp2
          go_ret
          exact ⟨ret_int (by rw [H.out, skipOn_end (by omega)]), Below.refl _ _⟩
theorem i_WordBack {w : World} {bs : List Nat} {a : Option Addr} {len cap : Nat} {t : List Int} (h : Slc w bs a len cap t) (x : Int) (hx : I64 x) :
    Calls Try.prog 42 #[.slice a len cap, .int .i64 x] w fun e w' => e = .returned (.int .i64 (wordBack t x : Int)) ∧ Below w.heap.size w w' := by
  obtain rfl := h.len_eq
  have hm := h.max
  go_enter Try.func42, Try.ntmps42
  go_wp2_with (go_at_call 111; refine (i_within _ _ _).mono ?_; rintro e w' ⟨rfl, rfl⟩)
  rw [clampN_eq]
  have hk0 := clampN_le x t.length
  have Hw : Hid (wordBack t x = skipBack isW t (skipBack (fun r => !isW r) t (clampN x t.length))) := hid rfl
  revert Hw hk0
  generalize clampN x t.length = k0
  intro hk0 Hw
  go_loop [1] (fun i => ∃ k : Nat, k ≤ t.length ∧ i = .int .i64 k ∧ wordBack t x = skipBack isW t (skipBack (fun r => !isW r) t k)) (fun i => (intOf i).toNat)
  case atStart => exact ⟨k0, hk0, rfl, Hw.out⟩
  case round =>
    clear Hw
    obtain ⟨k, hk, rfl, hr⟩ := hrel
    have H := hid hr; clear hr
    rcases k with _ | k
    · have HK : Hid (wordBack t x = skipBack isW t 0) := hid (by rw [H.out]; rfl)
      obtain ⟨k, rfl⟩ : ∃ k, k = 0 := ⟨0, rfl⟩
      go_wp2
      go_loop [1] (fun i => ∃ k : Nat, k ≤ t.length ∧ i = .int .i64 k ∧ wordBack t x = skipBack isW t k) (fun i => (intOf i).toNat)
      case atStart => exact ⟨_, by omega, rfl, HK.out⟩
      case round =>
        clear HK H
        obtain ⟨k2, hk2, rfl, hr⟩ := hrel
        have H := hid hr; clear hr
        rcases k2 with _ | k2
        · go_wp2
          go_ret
          exact ⟨ret_int (by rw [H.out]; rfl), Below.refl _ _⟩
        · obtain ⟨b, off, ea, hbw, hck, _⟩ := h.at k2 (by omega)
          have hck1 : w.cell? ⟨b, off + k2, none⟩ = some (.int .i64 t[k2]) := hck
          clear hck
          first | (obtain rfl := ea) | (simp only [Option.some.injEq, Addr.mk.injEq, and_true] at ea; obtain ⟨rfl, rfl⟩ := ea)
          by_cases hc : classOf t[k2] = 1
          · have hc1 : (classOf t[k2] == 1) = true := by simp [hc]
            have Hc := hid hc; clear hc
            go_wp2_with (first | (go_at_call 43; refine (i_ClassOf _ _).mono ?_; rintro e w' ⟨rfl, rfl⟩))
            exact ⟨⟨k2, by omega, by go_num, by rw [H.out, skipBack_yes (by omega) (by simp [isW, Hc.out])]⟩, by simp [intOf]; try omega⟩
          · have hc1 : (classOf t[k2] == 1) = false := by simp [hc]
            have Hc := hid hc; clear hc
            go_wp2_with (first | (go_at_call 43; refine (i_ClassOf _ _).mono ?_; rintro e w' ⟨rfl, rfl⟩))
            go_ret
            exact ⟨ret_int (by rw [H.out, skipBack_no (by omega) (by simp [isW, Hc.out])]; simp), Below.refl _ _⟩
    · obtain ⟨b, off, rfl, hbw, hck, _⟩ := h.at k (by omega)
      have hck1 : w.cell? ⟨b, off + k, none⟩ = some (.int .i64 t[k]) := hck
      clear hck
      by_cases hc : classOf t[k] = 1
      · have hc1 : (classOf t[k] != 1) = false := by simp [hc]
        have HK : Hid (wordBack t x = skipBack isW t (k + 1)) := hid (by rw [H.out, skipBack_no (p := fun r => !isW r) (by omega) (by simp [isW, hc])])
        have Hc := hid hc; clear hc
        go_wp2_with (first | (go_at_call 43; refine (i_ClassOf _ _).mono ?_; rintro e w' ⟨rfl, rfl⟩))
        clear hc1 Hc hck1
        go_loop [1] (fun i => ∃ k : Nat, k ≤ t.length ∧ i = .int .i64 k ∧ wordBack t x = skipBack isW t k) (fun i => (intOf i).toNat)
        case atStart => exact ⟨_, by omega, rfl, HK.out⟩
        case round =>
          clear HK H
          obtain ⟨k2, hk2, rfl, hr⟩ := hrel
          have H := hid hr; clear hr
          rcases k2 with _ | k2
          · go_wp2
            go_ret
            exact ⟨ret_int (by rw [H.out]; rfl), Below.refl _ _⟩
          · obtain ⟨b, off, ea, hbw, hck, _⟩ := h.at k2 (by omega)
            have hck1 : w.cell? ⟨b, off + k2, none⟩ = some (.int .i64 t[k2]) := hck
            clear hck
            first | (obtain rfl := ea) | (simp only [Option.some.injEq, Addr.mk.injEq, and_true] at ea; obtain ⟨rfl, rfl⟩ := ea)
            by_cases hc : classOf t[k2] = 1
            · have hc1 : (classOf t[k2] == 1) = true := by simp [hc]
              have Hc := hid hc; clear hc
              go_wp2_with (first | (go_at_call 43; refine (i_ClassOf _ _).mono ?_; rintro e w' ⟨rfl, rfl⟩))
              exact ⟨⟨k2, by omega, by go_num, by rw [H.out, skipBack_yes (by omega) (by simp [isW, Hc.out])]⟩, by simp [intOf]; try omega⟩
            · have hc1 : (classOf t[k2] == 1) = false := by simp [hc]
              have Hc := hid hc; clear hc
              go_wp2_with (first | (go_at_call 43; refine (i_ClassOf _ _).mono ?_; rintro e w' ⟨rfl, rfl⟩))
              go_ret
              exact ⟨ret_int (by rw [H.out, skipBack_no (by omega) (by simp [isW, Hc.out])]; simp), Below.refl _ _⟩
      · have hc1 : (classOf t[k] != 1) = true := by simp [hc]
        have Hc := hid hc; clear hc
        go_wp2_with (first | (go_at_call 43; refine (i_ClassOf _ _).mono ?_; rintro e w' ⟨rfl, rfl⟩))
        exact ⟨⟨k, by omega, by go_num, by rw [H.out, skipBack_yes (by omega) (by simp [isW, Hc.out])]⟩, by simp [intOf]; try omega⟩
end Go.Proofs.Ytdfpjchneofndaa
