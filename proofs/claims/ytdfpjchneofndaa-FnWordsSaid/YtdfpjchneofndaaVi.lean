/- vi's words (printed by genvi.py). -/
import Derived.Test.YtdfpjchneofndaaWords
set_option linter.unusedSimpArgs false
set_option linter.unusedVariables false
namespace Go.G6
def viEq (big : Bool) (c : Int) (r : Int) : Bool := decide (classBig r big = c)
def viRun (t : List Int) (big : Bool) (k : Nat) : Nat := if h : k < t.length then (if classBig t[k] big = 0 then k else skipOn (viEq big (classBig t[k] big)) t k) else k
def viOnAt (t : List Int) (k : Nat) (big : Bool) : Nat := skipOn (viEq big 0) t (viRun t big k)
def viOn (t : List Int) (x : Int) (big : Bool) : Nat := viOnAt t (clampN x t.length) big
def viBack2 (t : List Int) (big : Bool) : Nat → Nat
  | 0 => 0
  | k + 1 => if h : k < t.length then skipBack (viEq big (classBig t[k] big)) t (k + 1) else k + 1
def viBackAt (t : List Int) (k : Nat) (big : Bool) : Nat := viBack2 t big (skipBack (viEq big 0) t k)
def viBack (t : List Int) (x : Int) (big : Bool) : Nat := viBackAt t (clampN x t.length) big
def viEnd2 (t : List Int) (big : Bool) (k : Nat) : Int := if h : k < t.length then (skipOn (viEq big (classBig t[k] big)) t k : Int) - 1 else (t.length : Int) - 1
def viEndAt (t : List Int) (k : Nat) (big : Bool) : Int := if t.length = 0 then 0 else viEnd2 t big (skipOn (viEq big 0) t (k + 1))
def viEnd (t : List Int) (x : Int) (big : Bool) : Int := viEndAt t (clampN x t.length) big
end Go.G6
namespace Go.Proofs.Ytdfpjchneofndaa
open Go.RowKit Go.G6
set_option maxHeartbeats 1600000
set_option maxRecDepth 10000
theorem i_classAt {w : World} {bs : List Nat} {a : Option Addr} {len cap : Nat} {t : List Int} (h : Slc w bs a len cap t) (k : Nat) (hk : k < t.length) (big : Bool) :
    Calls Try.prog 116 #[.slice a len cap, .int .i64 k, .bool big] w fun e w' => e = .returned (.int .i64 (classBig t[k] big)) ∧ w = w' := by
  obtain rfl := h.len_eq
  have hm := h.max
  obtain ⟨b, off, ea, hbw, hck, _⟩ := h.at k hk
  have hck1 : w.cell? ⟨b, off + k, none⟩ = some (.int .i64 t[k]) := hck
  clear hck
  obtain rfl := ea
  go_enter Try.func116, Try.ntmps116
  cases big
  · have E : Hid (classBig t[k] false = classOf t[k]) := hid (by simp [classBig])
    go_wp2_with (first | (go_at_call 43; refine (i_ClassOf _ _).mono ?_; rintro e w' ⟨rfl, rfl⟩))
    go_ret
    exact ⟨ret_int (by rw [E.out]), rfl⟩
  · by_cases hc : classOf t[k] = 2
    · have hc1 : (classOf t[k] == 2) = true := by simp [hc]
      have E : Hid (classBig t[k] true = 1) := hid (by simp [classBig, hc])
      clear hc
      go_wp2_with (first | (go_at_call 43; refine (i_ClassOf _ _).mono ?_; rintro e w' ⟨rfl, rfl⟩))
      go_ret
      exact ⟨ret_int (by rw [E.out]), rfl⟩
    · have hc1 : (classOf t[k] == 2) = false := by simp [hc]
      have E : Hid (classBig t[k] true = classOf t[k]) := hid (by simp [classBig, hc])
      clear hc
      go_wp2_with (first | (go_at_call 43; refine (i_ClassOf _ _).mono ?_; rintro e w' ⟨rfl, rfl⟩))
      go_ret
      exact ⟨ret_int (by rw [E.out]), rfl⟩
theorem i_runEnd {w : World} {bs : List Nat} {a : Option Addr} {len cap : Nat} {t : List Int} (h : Slc w bs a len cap t) (k : Nat) (hk : k < t.length) (big : Bool) (hn : t.length ≤ 1048576) :
    Calls Try.prog 117 #[.slice a len cap, .int .i64 k, .bool big] w fun e w' => e = .returned (.int .i64 (skipOn (viEq big (classBig t[k] big)) t k : Int)) ∧ w = w' := by
  obtain rfl := h.len_eq
  go_enter Try.func117, Try.ntmps117
  go_wp2_with (go_at_call 116; refine (i_classAt h k (by omega) big).mono ?_; rintro e w' ⟨rfl, rfl⟩)
  have H0 : Hid (skipOn (viEq big (classBig t[k] big)) t k = skipOn (viEq big (classBig t[k] big)) t k) := hid rfl
  go_loop [1] (fun i => ∃ q : Nat, q ≤ t.length ∧ i = .int .i64 q ∧ (skipOn (viEq big (classBig t[k] big)) t k) = (skipOn (viEq big (classBig t[k] big)) t q)) (fun i => t.length + 1 - (intOf i).toNat)
  case atStart => exact ⟨k, by omega, by first | rfl | (rw [IntWalk.wrap64_in _ (by omega)]; rfl), H0.out⟩
  case round =>
    clear H0
    obtain ⟨k1, hkk1, rfl, hr⟩ := hrel
    have Hk1 := hid hr; clear hr
    by_cases hlt1 : k1 < t.length
    · obtain ⟨b, off, ea, hbw, hck, _⟩ := h.at k1 hlt1
      have hck1 : w.cell? ⟨b, off + k1, none⟩ = some (.int .i64 t[k1]) := hck
      clear hck
      first | (obtain rfl := ea) | (simp only [Option.some.injEq, Addr.mk.injEq, and_true] at ea; obtain ⟨rfl, rfl⟩ := ea)
      by_cases hc : classBig t[k1] big = classBig t[k] big
      · have hc1 : (classBig t[k1] big == classBig t[k] big) = true := by simp [hc]
        have hc2 : (classBig t[k1] big != classBig t[k] big) = false := by simp [hc]
        have HKk1 : Hid ((skipOn (viEq big (classBig t[k] big)) t k) = (skipOn (viEq big (classBig t[k] big)) t (k1 + 1))) := hid (by rw [Hk1.out, skipOn_yes (p := (viEq big (classBig t[k] big))) hlt1 (by simp [viEq, hc])])
        clear hc Hk1
        go_wp2_with (go_at_call 116; refine (i_classAt h k1 (by omega) big).mono ?_; rintro e w' ⟨rfl, rfl⟩)
        exact ⟨⟨k1 + 1, by omega, rfl, HKk1.out⟩, by simp [intOf]; try omega⟩
      · have hc1 : (classBig t[k1] big == classBig t[k] big) = false := by simp [hc]
        have hc2 : (classBig t[k1] big != classBig t[k] big) = true := by simp [hc]
        have HKk1 : Hid ((skipOn (viEq big (classBig t[k] big)) t k) = k1) := hid (by rw [Hk1.out, skipOn_no (p := (viEq big (classBig t[k] big))) hlt1 (by simp [viEq, hc])])
        clear hc Hk1
        go_wp2_with (go_at_call 116; refine (i_classAt h k1 (by omega) big).mono ?_; rintro e w' ⟨rfl, rfl⟩)
        go_ret
        exact ⟨ret_int (by rw [HKk1.out]), rfl⟩
    · have HKk1 : Hid ((skipOn (viEq big (classBig t[k] big)) t k) = k1) := hid (by rw [Hk1.out, skipOn_end (p := (viEq big (classBig t[k] big))) (by omega)])
      clear Hk1
      go_wp2
      go_ret
      exact ⟨ret_int (by rw [HKk1.out]), rfl⟩
theorem i_ViWordOn {w : World} {bs : List Nat} {a : Option Addr} {len cap : Nat} {t : List Int} (h : Slc w bs a len cap t) (x : Int) (hx : I64 x) (big : Bool) (hn : t.length ≤ 1048576) :
    Calls Try.prog 44 #[.slice a len cap, .int .i64 x, .bool big] w fun e w' => e = .returned (.int .i64 (viOn t x big : Int)) ∧ Below w.heap.size w w' := by
  obtain rfl := h.len_eq
  have hk0 := clampN_le x t.length
  have Hf : Hid (viOn t x big = viOnAt t (clampN x t.length) big) := hid rfl
  have Hcl := hid (clampN_eq x t.length)
  revert Hf hk0 Hcl
  generalize clampN x t.length = k0
  intro hk0 Hf Hcl
  by_cases hlt0 : k0 < t.length
  · obtain ⟨b, off, ea, hbw, hck, _⟩ := h.at k0 hlt0
    have hck1 : w.cell? ⟨b, off + k0, none⟩ = some (.int .i64 t[k0]) := hck
    clear hck
    first | (obtain rfl := ea) | (simp only [Option.some.injEq, Addr.mk.injEq, and_true] at ea; obtain ⟨rfl, rfl⟩ := ea)
    by_cases hc0 : classBig t[k0] big = 0
    · have HZ : Hid (viOn t x big = skipOn (viEq big 0) t k0) := hid (by rw [Hf.out, viOnAt, viRun, dif_pos hlt0, if_pos hc0])
      have hq1 : (classBig t[k0] big == 0) = true := by simp [hc0]
      have hq2 : (classBig t[k0] big != 0) = false := by simp [hc0]
      clear Hf hc0
      go_enter Try.func44, Try.ntmps44
      go_wp2_with (first | (go_at_call 111; refine (i_within _ _ _).mono ?_; rintro e w' ⟨rfl, rfl⟩; rw [Hcl.out]) | (go_at_call 116; refine (i_classAt h k0 (by omega) big).mono ?_; rintro e w' ⟨rfl, rfl⟩) | (go_at_call 117; refine (i_runEnd h k0 hlt0 big hn).mono ?_; rintro e w' ⟨rfl, rfl⟩; rw [Hkr.out]))
      go_loop [1] (fun i => ∃ q : Nat, q ≤ t.length ∧ i = .int .i64 q ∧ viOn t x big = (skipOn (viEq big 0) t q)) (fun i => t.length + 1 - (intOf i).toNat)
      case atStart => exact ⟨k0, by omega, by first | rfl | (rw [IntWalk.wrap64_in _ (by omega)]; rfl), HZ.out⟩
      case round =>
        clear HZ
        obtain ⟨k2, hkk2, rfl, hr⟩ := hrel
        have Hk2 := hid hr; clear hr
        by_cases hlt2 : k2 < t.length
        · obtain ⟨b, off, ea, hbw, hck, _⟩ := h.at k2 hlt2
          have hck1 : w.cell? ⟨b, off + k2, none⟩ = some (.int .i64 t[k2]) := hck
          clear hck
          first | (obtain rfl := ea) | (simp only [Option.some.injEq, Addr.mk.injEq, and_true] at ea; obtain ⟨rfl, rfl⟩ := ea)
          by_cases hc : classBig t[k2] big = 0
          · have hc1 : (classBig t[k2] big == 0) = true := by simp [hc]
            have hc2 : (classBig t[k2] big != 0) = false := by simp [hc]
            have HKk2 : Hid (viOn t x big = (skipOn (viEq big 0) t (k2 + 1))) := hid (by rw [Hk2.out, skipOn_yes (p := (viEq big 0)) hlt2 (by simp [viEq, hc])])
            clear hc Hk2
            go_wp2_with (go_at_call 116; refine (i_classAt h k2 (by omega) big).mono ?_; rintro e w' ⟨rfl, rfl⟩)
            exact ⟨⟨k2 + 1, by omega, rfl, HKk2.out⟩, by simp [intOf]; try omega⟩
          · have hc1 : (classBig t[k2] big == 0) = false := by simp [hc]
            have hc2 : (classBig t[k2] big != 0) = true := by simp [hc]
            have HKk2 : Hid (viOn t x big = k2) := hid (by rw [Hk2.out, skipOn_no (p := (viEq big 0)) hlt2 (by simp [viEq, hc])])
            clear hc Hk2
            go_wp2_with (go_at_call 116; refine (i_classAt h k2 (by omega) big).mono ?_; rintro e w' ⟨rfl, rfl⟩)
            go_ret
            exact ⟨ret_int (by rw [HKk2.out]), Below.refl _ _⟩
        · have HKk2 : Hid (viOn t x big = k2) := hid (by rw [Hk2.out, skipOn_end (p := (viEq big 0)) (by omega)])
          clear Hk2
          go_wp2
          go_ret
          exact ⟨ret_int (by rw [HKk2.out]), Below.refl _ _⟩
    · have HZ : Hid (viOn t x big = skipOn (viEq big 0) t (skipOn (viEq big (classBig t[k0] big)) t k0)) := hid (by rw [Hf.out, viOnAt, viRun, dif_pos hlt0, if_neg hc0])
      have hq1 : (classBig t[k0] big == 0) = false := by simp [hc0]
      have hq2 : (classBig t[k0] big != 0) = true := by simp [hc0]
      clear Hf hc0
      have hle := skipOn_le (p := viEq big (classBig t[k0] big)) (t := t) (k := k0) (by omega)
      obtain ⟨kr, Hkr⟩ : ∃ kr, Hid (skipOn (viEq big (classBig t[k0] big)) t k0 = kr) := ⟨_, hid rfl⟩
      rw [Hkr.out] at hle
      replace HZ : Hid (viOn t x big = skipOn (viEq big 0) t kr) := hid (by rw [HZ.out, Hkr.out])
      go_enter Try.func44, Try.ntmps44
      go_wp2_with (first | (go_at_call 111; refine (i_within _ _ _).mono ?_; rintro e w' ⟨rfl, rfl⟩; rw [Hcl.out]) | (go_at_call 116; refine (i_classAt h k0 (by omega) big).mono ?_; rintro e w' ⟨rfl, rfl⟩) | (go_at_call 117; refine (i_runEnd h k0 hlt0 big hn).mono ?_; rintro e w' ⟨rfl, rfl⟩; rw [Hkr.out]))
      go_loop [1] (fun i => ∃ q : Nat, q ≤ t.length ∧ i = .int .i64 q ∧ viOn t x big = (skipOn (viEq big 0) t q)) (fun i => t.length + 1 - (intOf i).toNat)
      case atStart => exact ⟨kr, by omega, by first | rfl | (rw [IntWalk.wrap64_in _ (by omega)]; rfl), HZ.out⟩
      case round =>
        clear HZ
        obtain ⟨k3, hkk3, rfl, hr⟩ := hrel
        have Hk3 := hid hr; clear hr
        by_cases hlt3 : k3 < t.length
        · obtain ⟨b, off, ea, hbw, hck, _⟩ := h.at k3 hlt3
          have hck1 : w.cell? ⟨b, off + k3, none⟩ = some (.int .i64 t[k3]) := hck
          clear hck
          first | (obtain rfl := ea) | (simp only [Option.some.injEq, Addr.mk.injEq, and_true] at ea; obtain ⟨rfl, rfl⟩ := ea)
          by_cases hc : classBig t[k3] big = 0
          · have hc1 : (classBig t[k3] big == 0) = true := by simp [hc]
            have hc2 : (classBig t[k3] big != 0) = false := by simp [hc]
            have HKk3 : Hid (viOn t x big = (skipOn (viEq big 0) t (k3 + 1))) := hid (by rw [Hk3.out, skipOn_yes (p := (viEq big 0)) hlt3 (by simp [viEq, hc])])
            clear hc Hk3
            go_wp2_with (go_at_call 116; refine (i_classAt h k3 (by omega) big).mono ?_; rintro e w' ⟨rfl, rfl⟩)
            exact ⟨⟨k3 + 1, by omega, rfl, HKk3.out⟩, by simp [intOf]; try omega⟩
          · have hc1 : (classBig t[k3] big == 0) = false := by simp [hc]
            have hc2 : (classBig t[k3] big != 0) = true := by simp [hc]
            have HKk3 : Hid (viOn t x big = k3) := hid (by rw [Hk3.out, skipOn_no (p := (viEq big 0)) hlt3 (by simp [viEq, hc])])
            clear hc Hk3
            go_wp2_with (go_at_call 116; refine (i_classAt h k3 (by omega) big).mono ?_; rintro e w' ⟨rfl, rfl⟩)
            go_ret
            exact ⟨ret_int (by rw [HKk3.out]), Below.refl _ _⟩
        · have HKk3 : Hid (viOn t x big = k3) := hid (by rw [Hk3.out, skipOn_end (p := (viEq big 0)) (by omega)])
          clear Hk3
          go_wp2
          go_ret
          exact ⟨ret_int (by rw [HKk3.out]), Below.refl _ _⟩
  · have HZ : Hid (viOn t x big = skipOn (viEq big 0) t k0) := hid (by rw [Hf.out, viOnAt, viRun, dif_neg hlt0])
    clear Hf
    go_enter Try.func44, Try.ntmps44
    go_wp2_with (first | (go_at_call 111; refine (i_within _ _ _).mono ?_; rintro e w' ⟨rfl, rfl⟩; rw [Hcl.out]))
    go_loop [1] (fun i => ∃ q : Nat, q ≤ t.length ∧ i = .int .i64 q ∧ viOn t x big = (skipOn (viEq big 0) t q)) (fun i => t.length + 1 - (intOf i).toNat)
    case atStart => exact ⟨k0, by omega, by first | rfl | (rw [IntWalk.wrap64_in _ (by omega)]; rfl), HZ.out⟩
    case round =>
      clear HZ
      obtain ⟨k4, hkk4, rfl, hr⟩ := hrel
      have Hk4 := hid hr; clear hr
      by_cases hlt4 : k4 < t.length
      · obtain ⟨b, off, ea, hbw, hck, _⟩ := h.at k4 hlt4
        have hck1 : w.cell? ⟨b, off + k4, none⟩ = some (.int .i64 t[k4]) := hck
        clear hck
        first | (obtain rfl := ea) | (simp only [Option.some.injEq, Addr.mk.injEq, and_true] at ea; obtain ⟨rfl, rfl⟩ := ea)
        by_cases hc : classBig t[k4] big = 0
        · have hc1 : (classBig t[k4] big == 0) = true := by simp [hc]
          have hc2 : (classBig t[k4] big != 0) = false := by simp [hc]
          have HKk4 : Hid (viOn t x big = (skipOn (viEq big 0) t (k4 + 1))) := hid (by rw [Hk4.out, skipOn_yes (p := (viEq big 0)) hlt4 (by simp [viEq, hc])])
          clear hc Hk4
          go_wp2_with (go_at_call 116; refine (i_classAt h k4 (by omega) big).mono ?_; rintro e w' ⟨rfl, rfl⟩)
          exact ⟨⟨k4 + 1, by omega, rfl, HKk4.out⟩, by simp [intOf]; try omega⟩
        · have hc1 : (classBig t[k4] big == 0) = false := by simp [hc]
          have hc2 : (classBig t[k4] big != 0) = true := by simp [hc]
          have HKk4 : Hid (viOn t x big = k4) := hid (by rw [Hk4.out, skipOn_no (p := (viEq big 0)) hlt4 (by simp [viEq, hc])])
          clear hc Hk4
          go_wp2_with (go_at_call 116; refine (i_classAt h k4 (by omega) big).mono ?_; rintro e w' ⟨rfl, rfl⟩)
          go_ret
          exact ⟨ret_int (by rw [HKk4.out]), Below.refl _ _⟩
      · have HKk4 : Hid (viOn t x big = k4) := hid (by rw [Hk4.out, skipOn_end (p := (viEq big 0)) (by omega)])
        clear Hk4
        go_wp2
        go_ret
        exact ⟨ret_int (by rw [HKk4.out]), Below.refl _ _⟩
theorem i_ViWordBack {w : World} {bs : List Nat} {a : Option Addr} {len cap : Nat} {t : List Int} (h : Slc w bs a len cap t) (x : Int) (hx : I64 x) (big : Bool) (hn : t.length ≤ 1048576) :
    Calls Try.prog 45 #[.slice a len cap, .int .i64 x, .bool big] w fun e w' => e = .returned (.int .i64 (viBack t x big : Int)) ∧ Below w.heap.size w w' := by
  obtain rfl := h.len_eq
  have hk0 := clampN_le x t.length
  have Hf : Hid (viBack t x big = viBackAt t (clampN x t.length) big) := hid rfl
  have Hcl := hid (clampN_eq x t.length)
  revert Hf hk0 Hcl
  generalize clampN x t.length = k0
  intro hk0 Hf Hcl
  go_enter Try.func45, Try.ntmps45
  go_wp2_with (first | (go_at_call 111; refine (i_within _ _ _).mono ?_; rintro e w' ⟨rfl, rfl⟩; rw [Hcl.out]))
  go_loop [1] (fun i => ∃ q : Nat, q ≤ t.length ∧ i = .int .i64 q ∧ viBack t x big = viBack2 t big (skipBack (viEq big 0) t q)) (fun i => (intOf i).toNat)
  case atStart => exact ⟨k0, by omega, by first | rfl | go_num, Hf.out⟩
  case round =>
    clear Hf
    obtain ⟨k9, hkk9, rfl, hr⟩ := hrel
    have Hk9 := hid hr; clear hr
    rcases k9 with _ | k9
    · have HKk9 : Hid (viBack t x big = viBack2 t big 0) := hid (by rw [Hk9.out]; rfl)
      clear Hk9
      go_wp2
      go_ret
      exact ⟨ret_int (by rw [HKk9.out]; rfl), Below.refl _ _⟩
    · obtain ⟨b, off, ea, hbw, hck, _⟩ := h.at k9 (by omega)
      have hck1 : w.cell? ⟨b, off + k9, none⟩ = some (.int .i64 t[k9]) := hck
      clear hck
      first | (obtain rfl := ea) | (simp only [Option.some.injEq, Addr.mk.injEq, and_true] at ea; obtain ⟨rfl, rfl⟩ := ea)
      by_cases hc : classBig t[k9] big = 0
      · have hc1 : (classBig t[k9] big == 0) = true := by simp [hc]
        have hc2 : (classBig t[k9] big != 0) = false := by simp [hc]
        have HKk9 : Hid (viBack t x big = viBack2 t big (skipBack (viEq big 0) t k9)) := hid (by rw [Hk9.out, skipBack_yes (p := (viEq big 0)) (by omega) (by simp [viEq, hc])])
        clear hc Hk9
        go_wp2_with (go_at_call 116; refine (i_classAt h k9 (by omega) big).mono ?_; rintro e w' ⟨rfl, rfl⟩)
        exact ⟨⟨k9, by omega, by go_num, HKk9.out⟩, by simp [intOf]; try omega⟩
      · have hc1 : (classBig t[k9] big == 0) = false := by simp [hc]
        have hc2 : (classBig t[k9] big != 0) = true := by simp [hc]
        have HKk9 : Hid (viBack t x big = viBack2 t big (k9 + 1)) := hid (by rw [Hk9.out, skipBack_no (p := (viEq big 0)) (by omega) (by simp [viEq, hc])])
        clear hc Hk9
        have HL : Hid (viBack t x big = skipBack (viEq big (classBig t[k9] big)) t (k9 + 1)) := hid (by rw [HKk9.out, viBack2, dif_pos (by omega)])
        clear HKk9
        go_wp2_with (go_at_call 116; refine (i_classAt h k9 (by omega) big).mono ?_; rintro e w' ⟨rfl, rfl⟩)
        go_loop [1] (fun i => ∃ q : Nat, q ≤ t.length ∧ i = .int .i64 q ∧ viBack t x big = (skipBack (viEq big (classBig t[k9] big)) t q)) (fun i => (intOf i).toNat)
        case atStart => exact ⟨k9 + 1, by omega, by first | rfl | go_num, HL.out⟩
        case round =>
          clear HL
          obtain ⟨k10, hkk10, rfl, hr⟩ := hrel
          have Hk10 := hid hr; clear hr
          rcases k10 with _ | k10
          · have HKk10 : Hid (viBack t x big = 0) := hid (by rw [Hk10.out]; rfl)
            clear Hk10
            go_wp2
            go_ret
            exact ⟨ret_int (by rw [HKk10.out]; try simp), Below.refl _ _⟩
          · obtain ⟨b, off, ea, hbw, hck, _⟩ := h.at k10 (by omega)
            have hck1 : w.cell? ⟨b, off + k10, none⟩ = some (.int .i64 t[k10]) := hck
            clear hck
            first | (obtain rfl := ea) | (simp only [Option.some.injEq, Addr.mk.injEq, and_true] at ea; obtain ⟨rfl, rfl⟩ := ea)
            by_cases hc : classBig t[k10] big = classBig t[k9] big
            · have hc1 : (classBig t[k10] big == classBig t[k9] big) = true := by simp [hc]
              have hc2 : (classBig t[k10] big != classBig t[k9] big) = false := by simp [hc]
              have HKk10 : Hid (viBack t x big = (skipBack (viEq big (classBig t[k9] big)) t k10)) := hid (by rw [Hk10.out, skipBack_yes (p := (viEq big (classBig t[k9] big))) (by omega) (by simp [viEq, hc])])
              clear hc Hk10
              go_wp2_with (go_at_call 116; refine (i_classAt h k10 (by omega) big).mono ?_; rintro e w' ⟨rfl, rfl⟩)
              exact ⟨⟨k10, by omega, by go_num, HKk10.out⟩, by simp [intOf]; try omega⟩
            · have hc1 : (classBig t[k10] big == classBig t[k9] big) = false := by simp [hc]
              have hc2 : (classBig t[k10] big != classBig t[k9] big) = true := by simp [hc]
              have HKk10 : Hid (viBack t x big = (k10 + 1)) := hid (by rw [Hk10.out, skipBack_no (p := (viEq big (classBig t[k9] big))) (by omega) (by simp [viEq, hc])])
              clear hc Hk10
              go_wp2_with (go_at_call 116; refine (i_classAt h k10 (by omega) big).mono ?_; rintro e w' ⟨rfl, rfl⟩)
              go_ret
              exact ⟨ret_int (by rw [HKk10.out]; try simp), Below.refl _ _⟩
theorem i_ViWordEnd {w : World} {bs : List Nat} {a : Option Addr} {len cap : Nat} {t : List Int} (h : Slc w bs a len cap t) (x : Int) (hx : I64 x) (big : Bool) (hn : t.length ≤ 1048576) :
    Calls Try.prog 46 #[.slice a len cap, .int .i64 x, .bool big] w fun e w' => e = .returned (.int .i64 (viEnd t x big)) ∧ Below w.heap.size w w' := by
  obtain rfl := h.len_eq
  have hk0 := clampN_le x t.length
  have Hf : Hid (viEnd t x big = viEndAt t (clampN x t.length) big) := hid rfl
  have Hcl := hid (clampN_eq x t.length)
  revert Hf hk0 Hcl
  generalize clampN x t.length = k0
  intro hk0 Hf Hcl
  by_cases hz : t.length = 0
  · have HZ : Hid (viEnd t x big = 0) := hid (by rw [Hf.out, viEndAt, if_pos hz])
    clear Hf
    go_enter Try.func46, Try.ntmps46
    go_wp2_with (first | (go_at_call 111; refine (i_within _ _ _).mono ?_; rintro e w' ⟨rfl, rfl⟩; try rw [Hcl.out]))
    go_ret
    exact ⟨ret_int (by rw [HZ.out]), Below.refl _ _⟩
  · have Hz : Hid (viEnd t x big = viEnd2 t big (skipOn (viEq big 0) t (k0 + 1))) := hid (by rw [Hf.out, viEndAt, if_neg hz])
    clear Hf
    go_enter Try.func46, Try.ntmps46
    go_wp2_with (first | (go_at_call 111; refine (i_within _ _ _).mono ?_; rintro e w' ⟨rfl, rfl⟩; try rw [Hcl.out]))
    go_loop [1] (fun i => ∃ q : Nat, q ≤ t.length + 1 ∧ i = .int .i64 q ∧ viEnd t x big = viEnd2 t big (skipOn (viEq big 0) t q)) (fun i => t.length + 1 - (intOf i).toNat)
    case atStart => exact ⟨k0 + 1, by omega, by first | rfl | (rw [IntWalk.wrap64_in _ (by omega)]; rfl), Hz.out⟩
    case round =>
      clear Hz
      obtain ⟨k13, hkk13, rfl, hr⟩ := hrel
      have Hk13 := hid hr; clear hr
      by_cases hlt13 : k13 < t.length
      · obtain ⟨b, off, ea, hbw, hck, _⟩ := h.at k13 hlt13
        have hck1 : w.cell? ⟨b, off + k13, none⟩ = some (.int .i64 t[k13]) := hck
        clear hck
        first | (obtain rfl := ea) | (simp only [Option.some.injEq, Addr.mk.injEq, and_true] at ea; obtain ⟨rfl, rfl⟩ := ea)
        have hle := skipOn_le (p := viEq big (classBig t[k13] big)) (t := t) (k := k13) (by omega)
        by_cases hc : classBig t[k13] big = 0
        · have hc1 : (classBig t[k13] big == 0) = true := by simp [hc]
          have hc2 : (classBig t[k13] big != 0) = false := by simp [hc]
          have HKk13 : Hid (viEnd t x big = viEnd2 t big (skipOn (viEq big 0) t (k13 + 1))) := hid (by rw [Hk13.out, skipOn_yes (p := (viEq big 0)) hlt13 (by simp [viEq, hc])])
          clear hc Hk13
          go_wp2_with (first | (go_at_call 116; refine (i_classAt h k13 (by omega) big).mono ?_; rintro e w' ⟨rfl, rfl⟩) | (go_at_call 117; refine (i_runEnd h k13 (by omega) big hn).mono ?_; rintro e w' ⟨rfl, rfl⟩))
          exact ⟨⟨k13 + 1, by omega, rfl, HKk13.out⟩, by simp [intOf]; try omega⟩
        · have hc1 : (classBig t[k13] big == 0) = false := by simp [hc]
          have hc2 : (classBig t[k13] big != 0) = true := by simp [hc]
          have HKk13 : Hid (viEnd t x big = viEnd2 t big k13) := hid (by rw [Hk13.out, skipOn_no (p := (viEq big 0)) hlt13 (by simp [viEq, hc])])
          clear hc Hk13
          go_wp2_with (first | (go_at_call 116; refine (i_classAt h k13 (by omega) big).mono ?_; rintro e w' ⟨rfl, rfl⟩) | (go_at_call 117; refine (i_runEnd h k13 (by omega) big hn).mono ?_; rintro e w' ⟨rfl, rfl⟩))
          go_ret
          exact ⟨ret_int (by rw [HKk13.out, viEnd2, dif_pos hlt13]), Below.refl _ _⟩
      · have HKk13 : Hid (viEnd t x big = viEnd2 t big k13) := hid (by rw [Hk13.out, skipOn_end (p := (viEq big 0)) (by omega)])
        clear Hk13
        go_wp2
        go_ret
        exact ⟨ret_int (by rw [HKk13.out, viEnd2, dif_neg hlt13]), Below.refl _ _⟩
end Go.Proofs.Ytdfpjchneofndaa
