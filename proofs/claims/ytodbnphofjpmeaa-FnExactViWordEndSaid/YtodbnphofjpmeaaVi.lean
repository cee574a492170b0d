/- vi's words (printed by genvi.py). -/
import Derived.Test.YtodbnphofjpmeaaWords
set_option linter.unusedSimpArgs false
set_option linter.unusedVariables false
namespace Go.G6
def viEq (big : Bool) (c : Int) (r : Int) : Bool := decide (classBig r big = c)
def viRun (t : List Int) (big : Bool) (k : Nat) : Nat := if h : k < t.length then (if classBig t[k] big = 0 then k else skipOn (viEq big (classBig t[k] big)) t k) else k
def viOnAt (t : List Int) (k : Nat) (big : Bool) : Nat := skipOn (viEq big 0) t (viRun t big k)
def viOn (t : List Int) (x : Int) (big : Bool) : Nat := viOnAt t (clampN x t.length) big
def viBack2 (t : List Int) (big : Bool) : Nat → Nat
  | 0 => 0
  | k + 1 => if h : k < t.length then skipBack (viEq big (classBig t[k] big)) t (k + 1) else k + 1
def viBackAt (t : List Int) (k : Nat) (big : Bool) : Nat := viBack2 t big (skipBack (viEq big 0) t k)
def viBack (t : List Int) (x : Int) (big : Bool) : Nat := viBackAt t (clampN x t.length) big
def viEnd2 (t : List Int) (big : Bool) (k : Nat) : Int := if h : k < t.length then (skipOn (viEq big (classBig t[k] big)) t k : Int) - 1 else (t.length : Int) - 1
def viEndAt (t : List Int) (k : Nat) (big : Bool) : Int := if t.length = 0 then 0 else viEnd2 t big (skipOn (viEq big 0) t (k + 1))
def viEnd (t : List Int) (x : Int) (big : Bool) : Int := viEndAt t (clampN x t.length) big
end Go.G6
namespace Go.Proofs.Ytodbnphofjpmeaa
open Go.RowKit Go.G6
set_option maxHeartbeats 1600000
set_option maxRecDepth 10000
theorem i_classAt {w : World} {bs : List Nat} {a : Option Addr} {len cap : Nat} {t : List Int} (h : Slc w bs a len cap t) (k : Nat) (hk : k < t.length) (big : Bool) :
    Calls Try.prog 67 #[.slice a len cap, .int .i64 k, .bool big] w fun e w' => e = .returned (.int .i64 (classBig t[k] big)) ∧ w = w' := by
  obtain rfl := h.len_eq
  have hm := h.max
  obtain ⟨b, off, ea, hbw, hck, _⟩ := h.at k hk
  have hck1 : w.cell? ⟨b, off + k, none⟩ = some (.int .i64 t[k]) := hck
  clear hck
  obtain rfl := ea
  go_enter Try.func67, Try.ntmps67
  cases big
  · have E : Hid (classBig t[k] false = classOf t[k]) := hid (by simp [classBig])
    go_wp2_with (first | (go_at_call 100; refine (i_ClassOf _ _).mono ?_; rintro e w' ⟨rfl, rfl⟩))
    go_ret
    exact ⟨ret_int (by rw [E.out]), rfl⟩
  · by_cases hc : classOf t[k] = 2
    · have hc1 : (classOf t[k] == 2) = true := by simp [hc]
      have E : Hid (classBig t[k] true = 1) := hid (by simp [classBig, hc])
      clear hc
      go_wp2_with (first | (go_at_call 100; refine (i_ClassOf _ _).mono ?_; rintro e w' ⟨rfl, rfl⟩))
      go_ret
      exact ⟨ret_int (by rw [E.out]), rfl⟩
    · have hc1 : (classOf t[k] == 2) = false := by simp [hc]
      have E : Hid (classBig t[k] true = classOf t[k]) := hid (by simp [classBig, hc])
      clear hc
      go_wp2_with (first | (go_at_call 100; refine (i_ClassOf _ _).mono ?_; rintro e w' ⟨rfl, rfl⟩))
      go_ret
      exact ⟨ret_int (by rw [E.out]), rfl⟩
theorem s_l14Class (r : Int) (big : Bool) (w : World) :
    Calls Try.prog 65 #[.int .i64 r, .bool big] w fun e w' => e = .returned (.int .i64 (classBig r big)) ∧ w = w' := by
  go_enter Try.func65, Try.ntmps65
  cases big
  · have E : Hid (classBig r false = classOf r) := hid (by simp [classBig])
    go_wp2_with (first | (go_at_call 99; refine (s_ClassOf _ _).mono ?_; rintro e w' ⟨rfl, rfl⟩))
    go_ret
    exact ⟨ret_int (by rw [E.out]), rfl⟩
  · by_cases hc : classOf r = 2
    · have hc1 : (classOf r == 2) = true := by simp [hc]
      have E : Hid (classBig r true = 1) := hid (by simp [classBig, hc])
      clear hc
      go_wp2_with (first | (go_at_call 99; refine (s_ClassOf _ _).mono ?_; rintro e w' ⟨rfl, rfl⟩))
      go_ret
      exact ⟨ret_int (by rw [E.out]), rfl⟩
    · have hc1 : (classOf r == 2) = false := by simp [hc]
      have E : Hid (classBig r true = classOf r) := hid (by simp [classBig, hc])
      clear hc
      go_wp2_with (first | (go_at_call 99; refine (s_ClassOf _ _).mono ?_; rintro e w' ⟨rfl, rfl⟩))
      go_ret
      exact ⟨ret_int (by rw [E.out]), rfl⟩
theorem i_runEnd {w : World} {bs : List Nat} {a : Option Addr} {len cap : Nat} {t : List Int} (h : Slc w bs a len cap t) (k : Nat) (hk : k < t.length) (big : Bool) (hn : t.length ≤ 1048576) :
    Calls Try.prog 68 #[.slice a len cap, .int .i64 k, .bool big] w fun e w' => e = .returned (.int .i64 (skipOn (viEq big (classBig t[k] big)) t k : Int)) ∧ w = w' := by
  obtain rfl := h.len_eq
  go_enter Try.func68, Try.ntmps68
  go_wp2_with (go_at_call 67; refine (i_classAt h k (by omega) big).mono ?_; rintro e w' ⟨rfl, rfl⟩)
  have H0 : Hid (skipOn (viEq big (classBig t[k] big)) t k = skipOn (viEq big (classBig t[k] big)) t k) := hid rfl
  go_loop [1] (fun i => ∃ q : Nat, q ≤ t.length ∧ i = .int .i64 q ∧ (skipOn (viEq big (classBig t[k] big)) t k) = (skipOn (viEq big (classBig t[k] big)) t q)) (fun i => t.length + 1 - (intOf i).toNat)
  case atStart => exact ⟨k, by omega, by first | rfl | (rw [IntWalk.wrap64_in _ (by omega)]; rfl), H0.out⟩
  case round =>
    clear H0
    obtain ⟨k1, hkk1, rfl, hr⟩ := hrel
    have Hk1 := hid hr; clear hr
    by_cases hlt1 : k1 < t.length
    · obtain ⟨b, off, ea, hbw, hck, _⟩ := h.at k1 hlt1
      have hck1 : w.cell? ⟨b, off + k1, none⟩ = some (.int .i64 t[k1]) := hck
      clear hck
      first | (obtain rfl := ea) | (simp only [Option.some.injEq, Addr.mk.injEq, and_true] at ea; obtain ⟨rfl, rfl⟩ := ea)
      by_cases hc : classBig t[k1] big = classBig t[k] big
      · have hc1 : (classBig t[k1] big == classBig t[k] big) = true := by simp [hc]
        have hc2 : (classBig t[k1] big != classBig t[k] big) = false := by simp [hc]
        have HKk1 : Hid ((skipOn (viEq big (classBig t[k] big)) t k) = (skipOn (viEq big (classBig t[k] big)) t (k1 + 1))) := hid (by rw [Hk1.out, skipOn_yes (p := (viEq big (classBig t[k] big))) hlt1 (by simp [viEq, hc])])
        clear hc Hk1
        go_wp2_with (go_at_call 67; refine (i_classAt h k1 (by omega) big).mono ?_; rintro e w' ⟨rfl, rfl⟩)
        exact ⟨⟨k1 + 1, by omega, rfl, HKk1.out⟩, by simp [intOf]; try omega⟩
      · have hc1 : (classBig t[k1] big == classBig t[k] big) = false := by simp [hc]
        have hc2 : (classBig t[k1] big != classBig t[k] big) = true := by simp [hc]
        have HKk1 : Hid ((skipOn (viEq big (classBig t[k] big)) t k) = k1) := hid (by rw [Hk1.out, skipOn_no (p := (viEq big (classBig t[k] big))) hlt1 (by simp [viEq, hc])])
        clear hc Hk1
        go_wp2_with (go_at_call 67; refine (i_classAt h k1 (by omega) big).mono ?_; rintro e w' ⟨rfl, rfl⟩)
        go_ret
        exact ⟨ret_int (by rw [HKk1.out]), rfl⟩
    · have HKk1 : Hid ((skipOn (viEq big (classBig t[k] big)) t k) = k1) := hid (by rw [Hk1.out, skipOn_end (p := (viEq big (classBig t[k] big))) (by omega)])
      clear Hk1
      go_wp2
      go_ret
      exact ⟨ret_int (by rw [HKk1.out]), rfl⟩
theorem i_ViWordOn {w : World} {bs : List Nat} {a : Option Addr} {len cap : Nat} {t : List Int} (h : Slc w bs a len cap t) (x : Int) (hx : I64 x) (big : Bool) (hn : t.length ≤ 1048576) :
    Calls Try.prog 25 #[.slice a len cap, .int .i64 x, .bool big] w fun e w' => e = .returned (.int .i64 (viOn t x big : Int)) ∧ Below w.heap.size w w' := by
  obtain rfl := h.len_eq
  have hk0 := clampN_le x t.length
  have Hf : Hid (viOn t x big = viOnAt t (clampN x t.length) big) := hid rfl
  have Hcl := hid (clampN_eq x t.length)
  revert Hf hk0 Hcl
  generalize clampN x t.length = k0
  intro hk0 Hf Hcl
  by_cases hlt0 : k0 < t.length
  · obtain ⟨b, off, ea, hbw, hck, _⟩ := h.at k0 hlt0
    have hck1 : w.cell? ⟨b, off + k0, none⟩ = some (.int .i64 t[k0]) := hck
    clear hck
    first | (obtain rfl := ea) | (simp only [Option.some.injEq, Addr.mk.injEq, and_true] at ea; obtain ⟨rfl, rfl⟩ := ea)
    by_cases hc0 : classBig t[k0] big = 0
    · have HZ : Hid (viOn t x big = skipOn (viEq big 0) t k0) := hid (by rw [Hf.out, viOnAt, viRun, dif_pos hlt0, if_pos hc0])
      have hq1 : (classBig t[k0] big == 0) = true := by simp [hc0]
      have hq2 : (classBig t[k0] big != 0) = false := by simp [hc0]
      clear Hf hc0
      go_enter Try.func25, Try.ntmps25
      go_wp2_with (first | (go_at_call 66; refine (i_within _ _ _).mono ?_; rintro e w' ⟨rfl, rfl⟩; rw [Hcl.out]) | (go_at_call 67; refine (i_classAt h k0 (by omega) big).mono ?_; rintro e w' ⟨rfl, rfl⟩) | (go_at_call 68; refine (i_runEnd h k0 hlt0 big hn).mono ?_; rintro e w' ⟨rfl, rfl⟩; rw [Hkr.out]))
      go_loop [1] (fun i => ∃ q : Nat, q ≤ t.length ∧ i = .int .i64 q ∧ viOn t x big = (skipOn (viEq big 0) t q)) (fun i => t.length + 1 - (intOf i).toNat)
      case atStart => exact ⟨k0, by omega, by first | rfl | (rw [IntWalk.wrap64_in _ (by omega)]; rfl), HZ.out⟩
      case round =>
        clear HZ
        obtain ⟨k2, hkk2, rfl, hr⟩ := hrel
        have Hk2 := hid hr; clear hr
        by_cases hlt2 : k2 < t.length
        · obtain ⟨b, off, ea, hbw, hck, _⟩ := h.at k2 hlt2
          have hck1 : w.cell? ⟨b, off + k2, none⟩ = some (.int .i64 t[k2]) := hck
          clear hck
          first | (obtain rfl := ea) | (simp only [Option.some.injEq, Addr.mk.injEq, and_true] at ea; obtain ⟨rfl, rfl⟩ := ea)
          by_cases hc : classBig t[k2] big = 0
          · have hc1 : (classBig t[k2] big == 0) = true := by simp [hc]
            have hc2 : (classBig t[k2] big != 0) = false := by simp [hc]
            have HKk2 : Hid (viOn t x big = (skipOn (viEq big 0) t (k2 + 1))) := hid (by rw [Hk2.out, skipOn_yes (p := (viEq big 0)) hlt2 (by simp [viEq, hc])])
            clear hc Hk2
            go_wp2_with (go_at_call 67; refine (i_classAt h k2 (by omega) big).mono ?_; rintro e w' ⟨rfl, rfl⟩)
            exact ⟨⟨k2 + 1, by omega, rfl, HKk2.out⟩, by simp [intOf]; try omega⟩
          · have hc1 : (classBig t[k2] big == 0) = false := by simp [hc]
            have hc2 : (classBig t[k2] big != 0) = true := by simp [hc]
            have HKk2 : Hid (viOn t x big = k2) := hid (by rw [Hk2.out, skipOn_no (p := (viEq big 0)) hlt2 (by simp [viEq, hc])])
            clear hc Hk2
            go_wp2_with (go_at_call 67; refine (i_classAt h k2 (by omega) big).mono ?_; rintro e w' ⟨rfl, rfl⟩)
            go_ret
            exact ⟨ret_int (by rw [HKk2.out]), Below.refl _ _⟩
        · have HKk2 : Hid (viOn t x big = k2) := hid (by rw [Hk2.out, skipOn_end (p := (viEq big 0)) (by omega)])
          clear Hk2
          go_wp2
          go_ret
          exact ⟨ret_int (by rw [HKk2.out]), Below.refl _ _⟩
    · have HZ : Hid (viOn t x big = skipOn (viEq big 0) t (skipOn (viEq big (classBig t[k0] big)) t k0)) := hid (by rw [Hf.out, viOnAt, viRun, dif_pos hlt0, if_neg hc0])
      have hq1 : (classBig t[k0] big == 0) = false := by simp [hc0]
      have hq2 : (classBig t[k0] big != 0) = true := by simp [hc0]
      clear Hf hc0
      have hle := skipOn_le (p := viEq big (classBig t[k0] big)) (t := t) (k := k0) (by omega)
      obtain ⟨kr, Hkr⟩ : ∃ kr, Hid (skipOn (viEq big (classBig t[k0] big)) t k0 = kr) := ⟨_, hid rfl⟩
      rw [Hkr.out] at hle
      replace HZ : Hid (viOn t x big = skipOn (viEq big 0) t kr) := hid (by rw [HZ.out, Hkr.out])
      go_enter Try.func25, Try.ntmps25
      go_wp2_with (first | (go_at_call 66; refine (i_within _ _ _).mono ?_; rintro e w' ⟨rfl, rfl⟩; rw [Hcl.out]) | (go_at_call 67; refine (i_classAt h k0 (by omega) big).mono ?_; rintro e w' ⟨rfl, rfl⟩) | (go_at_call 68; refine (i_runEnd h k0 hlt0 big hn).mono ?_; rintro e w' ⟨rfl, rfl⟩; rw [Hkr.out]))
      go_loop [1] (fun i => ∃ q : Nat, q ≤ t.length ∧ i = .int .i64 q ∧ viOn t x big = (skipOn (viEq big 0) t q)) (fun i => t.length + 1 - (intOf i).toNat)
      case atStart => exact ⟨kr, by omega, by first | rfl | (rw [IntWalk.wrap64_in _ (by omega)]; rfl), HZ.out⟩
      case round =>
        clear HZ
        obtain ⟨k3, hkk3, rfl, hr⟩ := hrel
        have Hk3 := hid hr; clear hr
        by_cases hlt3 : k3 < t.length
        · obtain ⟨b, off, ea, hbw, hck, _⟩ := h.at k3 hlt3
          have hck1 : w.cell? ⟨b, off + k3, none⟩ = some (.int .i64 t[k3]) := hck
          clear hck
          first | (obtain rfl := ea) | (simp only [Option.some.injEq, Addr.mk.injEq, and_true] at ea; obtain ⟨rfl, rfl⟩ := ea)
          by_cases hc : classBig t[k3] big = 0
          · have hc1 : (classBig t[k3] big == 0) = true := by simp [hc]
            have hc2 : (classBig t[k3] big != 0) = false := by simp [hc]
            have HKk3 : Hid (viOn t x big = (skipOn (viEq big 0) t (k3 + 1))) := hid (by rw [Hk3.out, skipOn_yes (p := (viEq big 0)) hlt3 (by simp [viEq, hc])])
            clear hc Hk3
            go_wp2_with (go_at_call 67; refine (i_classAt h k3 (by omega) big).mono ?_; rintro e w' ⟨rfl, rfl⟩)
            exact ⟨⟨k3 + 1, by omega, rfl, HKk3.out⟩, by simp [intOf]; try omega⟩
          · have hc1 : (classBig t[k3] big == 0) = false := by simp [hc]
            have hc2 : (classBig t[k3] big != 0) = true := by simp [hc]
            have HKk3 : Hid (viOn t x big = k3) := hid (by rw [Hk3.out, skipOn_no (p := (viEq big 0)) hlt3 (by simp [viEq, hc])])
            clear hc Hk3
            go_wp2_with (go_at_call 67; refine (i_classAt h k3 (by omega) big).mono ?_; rintro e w' ⟨rfl, rfl⟩)
            go_ret
            exact ⟨ret_int (by rw [HKk3.out]), Below.refl _ _⟩
        · have HKk3 : Hid (viOn t x big = k3) := hid (by rw [Hk3.out, skipOn_end (p := (viEq big 0)) (by omega)])
          clear Hk3
          go_wp2
          go_ret
          exact ⟨ret_int (by rw [HKk3.out]), Below.refl _ _⟩
  · have HZ : Hid (viOn t x big = skipOn (viEq big 0) t k0) := hid (by rw [Hf.out, viOnAt, viRun, dif_neg hlt0])
    clear Hf
    go_enter Try.func25, Try.ntmps25
    go_wp2_with (first | (go_at_call 66; refine (i_within _ _ _).mono ?_; rintro e w' ⟨rfl, rfl⟩; rw [Hcl.out]))
    go_loop [1] (fun i => ∃ q : Nat, q ≤ t.length ∧ i = .int .i64 q ∧ viOn t x big = (skipOn (viEq big 0) t q)) (fun i => t.length + 1 - (intOf i).toNat)
    case atStart => exact ⟨k0, by omega, by first | rfl | (rw [IntWalk.wrap64_in _ (by omega)]; rfl), HZ.out⟩
    case round =>
      clear HZ
      obtain ⟨k4, hkk4, rfl, hr⟩ := hrel
      have Hk4 := hid hr; clear hr
      by_cases hlt4 : k4 < t.length
      · obtain ⟨b, off, ea, hbw, hck, _⟩ := h.at k4 hlt4
        have hck1 : w.cell? ⟨b, off + k4, none⟩ = some (.int .i64 t[k4]) := hck
        clear hck
        first | (obtain rfl := ea) | (simp only [Option.some.injEq, Addr.mk.injEq, and_true] at ea; obtain ⟨rfl, rfl⟩ := ea)
        by_cases hc : classBig t[k4] big = 0
        · have hc1 : (classBig t[k4] big == 0) = true := by simp [hc]
          have hc2 : (classBig t[k4] big != 0) = false := by simp [hc]
          have HKk4 : Hid (viOn t x big = (skipOn (viEq big 0) t (k4 + 1))) := hid (by rw [Hk4.out, skipOn_yes (p := (viEq big 0)) hlt4 (by simp [viEq, hc])])
          clear hc Hk4
          go_wp2_with (go_at_call 67; refine (i_classAt h k4 (by omega) big).mono ?_; rintro e w' ⟨rfl, rfl⟩)
          exact ⟨⟨k4 + 1, by omega, rfl, HKk4.out⟩, by simp [intOf]; try omega⟩
        · have hc1 : (classBig t[k4] big == 0) = false := by simp [hc]
          have hc2 : (classBig t[k4] big != 0) = true := by simp [hc]
          have HKk4 : Hid (viOn t x big = k4) := hid (by rw [Hk4.out, skipOn_no (p := (viEq big 0)) hlt4 (by simp [viEq, hc])])
          clear hc Hk4
          go_wp2_with (go_at_call 67; refine (i_classAt h k4 (by omega) big).mono ?_; rintro e w' ⟨rfl, rfl⟩)
          go_ret
          exact ⟨ret_int (by rw [HKk4.out]), Below.refl _ _⟩
      · have HKk4 : Hid (viOn t x big = k4) := hid (by rw [Hk4.out, skipOn_end (p := (viEq big 0)) (by omega)])
        clear Hk4
        go_wp2
        go_ret
        exact ⟨ret_int (by rw [HKk4.out]), Below.refl _ _⟩
theorem s_ViWordOn {w : World} {bs : List Nat} {a : Option Addr} {len cap : Nat} {t : List Int} (h : Slc w bs a len cap t) (x : Int) (hx : I64 x) (big : Bool) (hn : t.length ≤ 1048576) :
    Calls Try.prog 24 #[.slice a len cap, .int .i64 x, .bool big] w fun e w' => e = .returned (.int .i64 (viOn t x big : Int)) ∧ Below w.heap.size w w' := by
  obtain rfl := h.len_eq
  have hk0 := clampN_le x t.length
  have Hf : Hid (viOn t x big = viOnAt t (clampN x t.length) big) := hid rfl
  have Hcl := hid (clampN_eq x t.length)
  revert Hf hk0 Hcl
  generalize clampN x t.length = k0
  intro hk0 Hf Hcl
  by_cases hlt0 : k0 < t.length
  · obtain ⟨b, off, ea, hbw, hck, _⟩ := h.at k0 hlt0
    have hck1 : w.cell? ⟨b, off + k0, none⟩ = some (.int .i64 t[k0]) := hck
    clear hck
    first | (obtain rfl := ea) | (simp only [Option.some.injEq, Addr.mk.injEq, and_true] at ea; obtain ⟨rfl, rfl⟩ := ea)
    by_cases hc0 : classBig t[k0] big = 0
    · have HZ : Hid (viOn t x big = skipOn (viEq big 0) t k0) := hid (by rw [Hf.out, viOnAt, viRun, dif_pos hlt0, if_pos hc0])
      have hq1 : (classBig t[k0] big == 0) = true := by simp [hc0]
      have hq2 : (classBig t[k0] big != 0) = false := by simp [hc0]
      clear Hf hc0
      go_enter Try.func24, Try.ntmps24
      go_wp2_with (first | (go_at_call 64; refine (s_l08Clamp _ _ _ (by omega)).mono ?_; rintro e w' ⟨rfl, rfl⟩; rw [Hcl.out]) | (go_at_call 65; refine (s_l14Class _ _ _).mono ?_; rintro e w' ⟨rfl, rfl⟩))
      go_loop [1] (fun i => i = .int .i64 k0) (fun i => (intOf i).toNat)
      case atStart => rfl
      case round =>
        obtain rfl := hrel
        go_wp2
        go_loop [1] (fun i => ∃ q : Nat, q ≤ t.length ∧ i = .int .i64 q ∧ viOn t x big = (skipOn (viEq big 0) t q)) (fun i => t.length + 1 - (intOf i).toNat)
        case atStart => exact ⟨k0, by omega, by first | rfl | (rw [IntWalk.wrap64_in _ (by omega)]; rfl), HZ.out⟩
        case round =>
          clear HZ
          obtain ⟨k5, hkk5, rfl, hr⟩ := hrel
          have Hk5 := hid hr; clear hr
          by_cases hlt5 : k5 < t.length
          · obtain ⟨b, off, ea, hbw, hck, _⟩ := h.at k5 hlt5
            have hck1 : w.cell? ⟨b, off + k5, none⟩ = some (.int .i64 t[k5]) := hck
            clear hck
            first | (obtain rfl := ea) | (simp only [Option.some.injEq, Addr.mk.injEq, and_true] at ea; obtain ⟨rfl, rfl⟩ := ea)
            by_cases hc : classBig t[k5] big = 0
            · have hc1 : (classBig t[k5] big == 0) = true := by simp [hc]
              have hc2 : (classBig t[k5] big != 0) = false := by simp [hc]
              have HKk5 : Hid (viOn t x big = (skipOn (viEq big 0) t (k5 + 1))) := hid (by rw [Hk5.out, skipOn_yes (p := (viEq big 0)) hlt5 (by simp [viEq, hc])])
              clear hc Hk5
              go_wp2_with (go_at_call 65; refine (s_l14Class _ _ _).mono ?_; rintro e w' ⟨rfl, rfl⟩)
              exact ⟨⟨k5 + 1, by omega, rfl, HKk5.out⟩, by simp [intOf]; try omega⟩
            · have hc1 : (classBig t[k5] big == 0) = false := by simp [hc]
              have hc2 : (classBig t[k5] big != 0) = true := by simp [hc]
              have HKk5 : Hid (viOn t x big = k5) := hid (by rw [Hk5.out, skipOn_no (p := (viEq big 0)) hlt5 (by simp [viEq, hc])])
              clear hc Hk5
              go_wp2_with (go_at_call 65; refine (s_l14Class _ _ _).mono ?_; rintro e w' ⟨rfl, rfl⟩)
              go_ret
              exact ⟨ret_int (by rw [HKk5.out]), Below.refl _ _⟩
          · have HKk5 : Hid (viOn t x big = k5) := hid (by rw [Hk5.out, skipOn_end (p := (viEq big 0)) (by omega)])
            clear Hk5
            go_wp2
            go_ret
            exact ⟨ret_int (by rw [HKk5.out]), Below.refl _ _⟩
    · have HZ : Hid (viOn t x big = skipOn (viEq big 0) t (skipOn (viEq big (classBig t[k0] big)) t k0)) := hid (by rw [Hf.out, viOnAt, viRun, dif_pos hlt0, if_neg hc0])
      have hq1 : (classBig t[k0] big == 0) = false := by simp [hc0]
      have hq2 : (classBig t[k0] big != 0) = true := by simp [hc0]
      clear Hf hc0
      go_enter Try.func24, Try.ntmps24
      go_wp2_with (first | (go_at_call 64; refine (s_l08Clamp _ _ _ (by omega)).mono ?_; rintro e w' ⟨rfl, rfl⟩; rw [Hcl.out]) | (go_at_call 65; refine (s_l14Class _ _ _).mono ?_; rintro e w' ⟨rfl, rfl⟩))
      go_loop [1] (fun i => ∃ q : Nat, q ≤ t.length ∧ i = .int .i64 q ∧ viOn t x big = skipOn (viEq big 0) t (skipOn (viEq big (classBig t[k0] big)) t q)) (fun i => t.length + 1 - (intOf i).toNat)
      case atStart => exact ⟨k0, by omega, by first | rfl | (rw [IntWalk.wrap64_in _ (by omega)]; rfl), HZ.out⟩
      case round =>
        clear HZ
        obtain ⟨k6, hkk6, rfl, hr⟩ := hrel
        have Hk6 := hid hr; clear hr
        by_cases hlt6 : k6 < t.length
        · obtain ⟨b, off, ea, hbw, hck, _⟩ := h.at k6 hlt6
          have hck1 : w.cell? ⟨b, off + k6, none⟩ = some (.int .i64 t[k6]) := hck
          clear hck
          first | (obtain rfl := ea) | (simp only [Option.some.injEq, Addr.mk.injEq, and_true] at ea; obtain ⟨rfl, rfl⟩ := ea)
          by_cases hc : classBig t[k6] big = classBig t[k0] big
          · have hc1 : (classBig t[k6] big == classBig t[k0] big) = true := by simp [hc]
            have hc2 : (classBig t[k6] big != classBig t[k0] big) = false := by simp [hc]
            have HKk6 : Hid (viOn t x big = skipOn (viEq big 0) t (skipOn (viEq big (classBig t[k0] big)) t (k6 + 1))) := hid (by rw [Hk6.out, skipOn_yes (p := (viEq big (classBig t[k0] big))) hlt6 (by simp [viEq, hc])])
            clear hc Hk6
            go_wp2_with (go_at_call 65; refine (s_l14Class _ _ _).mono ?_; rintro e w' ⟨rfl, rfl⟩)
            exact ⟨⟨k6 + 1, by omega, rfl, HKk6.out⟩, by simp [intOf]; try omega⟩
          · have hc1 : (classBig t[k6] big == classBig t[k0] big) = false := by simp [hc]
            have hc2 : (classBig t[k6] big != classBig t[k0] big) = true := by simp [hc]
            have HKk6 : Hid (viOn t x big = skipOn (viEq big 0) t k6) := hid (by rw [Hk6.out, skipOn_no (p := (viEq big (classBig t[k0] big))) hlt6 (by simp [viEq, hc])])
            clear hc Hk6
            go_wp2_with (go_at_call 65; refine (s_l14Class _ _ _).mono ?_; rintro e w' ⟨rfl, rfl⟩)
            go_loop [1] (fun i => ∃ q : Nat, q ≤ t.length ∧ i = .int .i64 q ∧ viOn t x big = (skipOn (viEq big 0) t q)) (fun i => t.length + 1 - (intOf i).toNat)
            case atStart => exact ⟨k6, by omega, by first | rfl | (rw [IntWalk.wrap64_in _ (by omega)]; rfl), HKk6.out⟩
            case round =>
              clear HKk6
              obtain ⟨k7, hkk7, rfl, hr⟩ := hrel
              have Hk7 := hid hr; clear hr
              by_cases hlt7 : k7 < t.length
              · obtain ⟨b, off, ea, hbw, hck, _⟩ := h.at k7 hlt7
                have hck1 : w.cell? ⟨b, off + k7, none⟩ = some (.int .i64 t[k7]) := hck
                clear hck
                first | (obtain rfl := ea) | (simp only [Option.some.injEq, Addr.mk.injEq, and_true] at ea; obtain ⟨rfl, rfl⟩ := ea)
                by_cases hc : classBig t[k7] big = 0
                · have hc1 : (classBig t[k7] big == 0) = true := by simp [hc]
                  have hc2 : (classBig t[k7] big != 0) = false := by simp [hc]
                  have HKk7 : Hid (viOn t x big = (skipOn (viEq big 0) t (k7 + 1))) := hid (by rw [Hk7.out, skipOn_yes (p := (viEq big 0)) hlt7 (by simp [viEq, hc])])
                  clear hc Hk7
                  go_wp2_with (go_at_call 65; refine (s_l14Class _ _ _).mono ?_; rintro e w' ⟨rfl, rfl⟩)
                  exact ⟨⟨k7 + 1, by omega, rfl, HKk7.out⟩, by simp [intOf]; try omega⟩
                · have hc1 : (classBig t[k7] big == 0) = false := by simp [hc]
                  have hc2 : (classBig t[k7] big != 0) = true := by simp [hc]
                  have HKk7 : Hid (viOn t x big = k7) := hid (by rw [Hk7.out, skipOn_no (p := (viEq big 0)) hlt7 (by simp [viEq, hc])])
                  clear hc Hk7
                  go_wp2_with (go_at_call 65; refine (s_l14Class _ _ _).mono ?_; rintro e w' ⟨rfl, rfl⟩)
                  go_ret
                  exact ⟨ret_int (by rw [HKk7.out]), Below.refl _ _⟩
              · have HKk7 : Hid (viOn t x big = k7) := hid (by rw [Hk7.out, skipOn_end (p := (viEq big 0)) (by omega)])
                clear Hk7
                go_wp2
                go_ret
                exact ⟨ret_int (by rw [HKk7.out]), Below.refl _ _⟩
        · have HKk6 : Hid (viOn t x big = skipOn (viEq big 0) t k6) := hid (by rw [Hk6.out, skipOn_end (p := (viEq big (classBig t[k0] big))) (by omega)])
          clear Hk6
          go_wp2
          go_loop [1] (fun i => ∃ q : Nat, q ≤ t.length ∧ i = .int .i64 q ∧ viOn t x big = (skipOn (viEq big 0) t q)) (fun i => t.length + 1 - (intOf i).toNat)
          case atStart => exact ⟨k6, by omega, by first | rfl | (rw [IntWalk.wrap64_in _ (by omega)]; rfl), HKk6.out⟩
          case round =>
            clear HKk6
            obtain ⟨k8, hkk8, rfl, hr⟩ := hrel
            have Hk8 := hid hr; clear hr
            by_cases hlt8 : k8 < t.length
            · obtain ⟨b, off, ea, hbw, hck, _⟩ := h.at k8 hlt8
              have hck1 : w.cell? ⟨b, off + k8, none⟩ = some (.int .i64 t[k8]) := hck
              clear hck
              first | (obtain rfl := ea) | (simp only [Option.some.injEq, Addr.mk.injEq, and_true] at ea; obtain ⟨rfl, rfl⟩ := ea)
              by_cases hc : classBig t[k8] big = 0
              · have hc1 : (classBig t[k8] big == 0) = true := by simp [hc]
                have hc2 : (classBig t[k8] big != 0) = false := by simp [hc]
                have HKk8 : Hid (viOn t x big = (skipOn (viEq big 0) t (k8 + 1))) := hid (by rw [Hk8.out, skipOn_yes (p := (viEq big 0)) hlt8 (by simp [viEq, hc])])
                clear hc Hk8
                go_wp2_with (go_at_call 65; refine (s_l14Class _ _ _).mono ?_; rintro e w' ⟨rfl, rfl⟩)
                exact ⟨⟨k8 + 1, by omega, rfl, HKk8.out⟩, by simp [intOf]; try omega⟩
              · have hc1 : (classBig t[k8] big == 0) = false := by simp [hc]
                have hc2 : (classBig t[k8] big != 0) = true := by simp [hc]
                have HKk8 : Hid (viOn t x big = k8) := hid (by rw [Hk8.out, skipOn_no (p := (viEq big 0)) hlt8 (by simp [viEq, hc])])
                clear hc Hk8
                go_wp2_with (go_at_call 65; refine (s_l14Class _ _ _).mono ?_; rintro e w' ⟨rfl, rfl⟩)
                go_ret
                exact ⟨ret_int (by rw [HKk8.out]), Below.refl _ _⟩
            · have HKk8 : Hid (viOn t x big = k8) := hid (by rw [Hk8.out, skipOn_end (p := (viEq big 0)) (by omega)])
              clear Hk8
              go_wp2
              go_ret
              exact ⟨ret_int (by rw [HKk8.out]), Below.refl _ _⟩
  · have HZ : Hid (viOn t x big = k0) := hid (by rw [Hf.out, viOnAt, viRun, dif_neg hlt0, skipOn_end (by omega)])
    clear Hf
    go_enter Try.func24, Try.ntmps24
    go_wp2_with (first | (go_at_call 64; refine (s_l08Clamp _ _ _ (by omega)).mono ?_; rintro e w' ⟨rfl, rfl⟩; rw [Hcl.out]))
    go_ret
    exact ⟨ret_int (by rw [HZ.out]), Below.refl _ _⟩
theorem i_ViWordBack {w : World} {bs : List Nat} {a : Option Addr} {len cap : Nat} {t : List Int} (h : Slc w bs a len cap t) (x : Int) (hx : I64 x) (big : Bool) (hn : t.length ≤ 1048576) :
    Calls Try.prog 22 #[.slice a len cap, .int .i64 x, .bool big] w fun e w' => e = .returned (.int .i64 (viBack t x big : Int)) ∧ Below w.heap.size w w' := by
  obtain rfl := h.len_eq
  have hk0 := clampN_le x t.length
  have Hf : Hid (viBack t x big = viBackAt t (clampN x t.length) big) := hid rfl
  have Hcl := hid (clampN_eq x t.length)
  revert Hf hk0 Hcl
  generalize clampN x t.length = k0
  intro hk0 Hf Hcl
  go_enter Try.func22, Try.ntmps22
  go_wp2_with (first | (go_at_call 66; refine (i_within _ _ _).mono ?_; rintro e w' ⟨rfl, rfl⟩; rw [Hcl.out]))
  go_loop [1] (fun i => ∃ q : Nat, q ≤ t.length ∧ i = .int .i64 q ∧ viBack t x big = viBack2 t big (skipBack (viEq big 0) t q)) (fun i => (intOf i).toNat)
  case atStart => exact ⟨k0, by omega, by first | rfl | go_num, Hf.out⟩
  case round =>
    clear Hf
    obtain ⟨k9, hkk9, rfl, hr⟩ := hrel
    have Hk9 := hid hr; clear hr
    rcases k9 with _ | k9
    · have HKk9 : Hid (viBack t x big = viBack2 t big 0) := hid (by rw [Hk9.out]; rfl)
      clear Hk9
      go_wp2
      go_ret
      exact ⟨ret_int (by rw [HKk9.out]; rfl), Below.refl _ _⟩
    · obtain ⟨b, off, ea, hbw, hck, _⟩ := h.at k9 (by omega)
      have hck1 : w.cell? ⟨b, off + k9, none⟩ = some (.int .i64 t[k9]) := hck
      clear hck
      first | (obtain rfl := ea) | (simp only [Option.some.injEq, Addr.mk.injEq, and_true] at ea; obtain ⟨rfl, rfl⟩ := ea)
      by_cases hc : classBig t[k9] big = 0
      · have hc1 : (classBig t[k9] big == 0) = true := by simp [hc]
        have hc2 : (classBig t[k9] big != 0) = false := by simp [hc]
        have HKk9 : Hid (viBack t x big = viBack2 t big (skipBack (viEq big 0) t k9)) := hid (by rw [Hk9.out, skipBack_yes (p := (viEq big 0)) (by omega) (by simp [viEq, hc])])
        clear hc Hk9
        go_wp2_with (go_at_call 67; refine (i_classAt h k9 (by omega) big).mono ?_; rintro e w' ⟨rfl, rfl⟩)
        exact ⟨⟨k9, by omega, by go_num, HKk9.out⟩, by simp [intOf]; try omega⟩
      · have hc1 : (classBig t[k9] big == 0) = false := by simp [hc]
        have hc2 : (classBig t[k9] big != 0) = true := by simp [hc]
        have HKk9 : Hid (viBack t x big = viBack2 t big (k9 + 1)) := hid (by rw [Hk9.out, skipBack_no (p := (viEq big 0)) (by omega) (by simp [viEq, hc])])
        clear hc Hk9
        have HL : Hid (viBack t x big = skipBack (viEq big (classBig t[k9] big)) t (k9 + 1)) := hid (by rw [HKk9.out, viBack2, dif_pos (by omega)])
        clear HKk9
        go_wp2_with (go_at_call 67; refine (i_classAt h k9 (by omega) big).mono ?_; rintro e w' ⟨rfl, rfl⟩)
        go_loop [1] (fun i => ∃ q : Nat, q ≤ t.length ∧ i = .int .i64 q ∧ viBack t x big = (skipBack (viEq big (classBig t[k9] big)) t q)) (fun i => (intOf i).toNat)
        case atStart => exact ⟨k9 + 1, by omega, by first | rfl | go_num, HL.out⟩
        case round =>
          clear HL
          obtain ⟨k10, hkk10, rfl, hr⟩ := hrel
          have Hk10 := hid hr; clear hr
          rcases k10 with _ | k10
          · have HKk10 : Hid (viBack t x big = 0) := hid (by rw [Hk10.out]; rfl)
            clear Hk10
            go_wp2
            go_ret
            exact ⟨ret_int (by rw [HKk10.out]; try simp), Below.refl _ _⟩
          · obtain ⟨b, off, ea, hbw, hck, _⟩ := h.at k10 (by omega)
            have hck1 : w.cell? ⟨b, off + k10, none⟩ = some (.int .i64 t[k10]) := hck
            clear hck
            first | (obtain rfl := ea) | (simp only [Option.some.injEq, Addr.mk.injEq, and_true] at ea; obtain ⟨rfl, rfl⟩ := ea)
            by_cases hc : classBig t[k10] big = classBig t[k9] big
            · have hc1 : (classBig t[k10] big == classBig t[k9] big) = true := by simp [hc]
              have hc2 : (classBig t[k10] big != classBig t[k9] big) = false := by simp [hc]
              have HKk10 : Hid (viBack t x big = (skipBack (viEq big (classBig t[k9] big)) t k10)) := hid (by rw [Hk10.out, skipBack_yes (p := (viEq big (classBig t[k9] big))) (by omega) (by simp [viEq, hc])])
              clear hc Hk10
              go_wp2_with (go_at_call 67; refine (i_classAt h k10 (by omega) big).mono ?_; rintro e w' ⟨rfl, rfl⟩)
              exact ⟨⟨k10, by omega, by go_num, HKk10.out⟩, by simp [intOf]; try omega⟩
            · have hc1 : (classBig t[k10] big == classBig t[k9] big) = false := by simp [hc]
              have hc2 : (classBig t[k10] big != classBig t[k9] big) = true := by simp [hc]
              have HKk10 : Hid (viBack t x big = (k10 + 1)) := hid (by rw [Hk10.out, skipBack_no (p := (viEq big (classBig t[k9] big))) (by omega) (by simp [viEq, hc])])
              clear hc Hk10
              go_wp2_with (go_at_call 67; refine (i_classAt h k10 (by omega) big).mono ?_; rintro e w' ⟨rfl, rfl⟩)
              go_ret
              exact ⟨ret_int (by rw [HKk10.out]; try simp), Below.refl _ _⟩
theorem s_ViWordBack {w : World} {bs : List Nat} {a : Option Addr} {len cap : Nat} {t : List Int} (h : Slc w bs a len cap t) (x : Int) (hx : I64 x) (big : Bool) (hn : t.length ≤ 1048576) :
    Calls Try.prog 20 #[.slice a len cap, .int .i64 x, .bool big] w fun e w' => e = .returned (.int .i64 (viBack t x big : Int)) ∧ Below w.heap.size w w' := by
  obtain rfl := h.len_eq
  have hk0 := clampN_le x t.length
  have Hf : Hid (viBack t x big = viBackAt t (clampN x t.length) big) := hid rfl
  have Hcl := hid (clampN_eq x t.length)
  revert Hf hk0 Hcl
  generalize clampN x t.length = k0
  intro hk0 Hf Hcl
  go_enter Try.func20, Try.ntmps20
  go_wp2_with (first | (go_at_call 64; refine (s_l08Clamp _ _ _ (by omega)).mono ?_; rintro e w' ⟨rfl, rfl⟩; rw [Hcl.out]))
  go_loop [1] (fun i => ∃ q : Nat, q ≤ t.length ∧ i = .int .i64 q ∧ viBack t x big = viBack2 t big (skipBack (viEq big 0) t q)) (fun i => (intOf i).toNat)
  case atStart => exact ⟨k0, by omega, by first | rfl | go_num, Hf.out⟩
  case round =>
    clear Hf
    obtain ⟨k11, hkk11, rfl, hr⟩ := hrel
    have Hk11 := hid hr; clear hr
    rcases k11 with _ | k11
    · have HKk11 : Hid (viBack t x big = viBack2 t big 0) := hid (by rw [Hk11.out]; rfl)
      clear Hk11
      go_wp2
      go_ret
      exact ⟨ret_int (by rw [HKk11.out]; rfl), Below.refl _ _⟩
    · obtain ⟨b, off, ea, hbw, hck, _⟩ := h.at k11 (by omega)
      have hck1 : w.cell? ⟨b, off + k11, none⟩ = some (.int .i64 t[k11]) := hck
      clear hck
      first | (obtain rfl := ea) | (simp only [Option.some.injEq, Addr.mk.injEq, and_true] at ea; obtain ⟨rfl, rfl⟩ := ea)
      by_cases hc : classBig t[k11] big = 0
      · have hc1 : (classBig t[k11] big == 0) = true := by simp [hc]
        have hc2 : (classBig t[k11] big != 0) = false := by simp [hc]
        have HKk11 : Hid (viBack t x big = viBack2 t big (skipBack (viEq big 0) t k11)) := hid (by rw [Hk11.out, skipBack_yes (p := (viEq big 0)) (by omega) (by simp [viEq, hc])])
        clear hc Hk11
        go_wp2_with (go_at_call 65; refine (s_l14Class _ _ _).mono ?_; rintro e w' ⟨rfl, rfl⟩)
        exact ⟨⟨k11, by omega, by go_num, HKk11.out⟩, by simp [intOf]; try omega⟩
      · have hc1 : (classBig t[k11] big == 0) = false := by simp [hc]
        have hc2 : (classBig t[k11] big != 0) = true := by simp [hc]
        have HKk11 : Hid (viBack t x big = viBack2 t big (k11 + 1)) := hid (by rw [Hk11.out, skipBack_no (p := (viEq big 0)) (by omega) (by simp [viEq, hc])])
        clear hc Hk11
        have HL : Hid (viBack t x big = skipBack (viEq big (classBig t[k11] big)) t (k11 + 1)) := hid (by rw [HKk11.out, viBack2, dif_pos (by omega)])
        clear HKk11
        go_wp2_with (go_at_call 65; refine (s_l14Class _ _ _).mono ?_; rintro e w' ⟨rfl, rfl⟩)
        go_loop [1] (fun i => ∃ q : Nat, q ≤ t.length ∧ i = .int .i64 q ∧ viBack t x big = (skipBack (viEq big (classBig t[k11] big)) t q)) (fun i => (intOf i).toNat)
        case atStart => exact ⟨k11 + 1, by omega, by first | rfl | go_num, HL.out⟩
        case round =>
          clear HL
          obtain ⟨k12, hkk12, rfl, hr⟩ := hrel
          have Hk12 := hid hr; clear hr
          rcases k12 with _ | k12
          · have HKk12 : Hid (viBack t x big = 0) := hid (by rw [Hk12.out]; rfl)
            clear Hk12
            go_wp2
            go_ret
            exact ⟨ret_int (by rw [HKk12.out]; try simp), Below.refl _ _⟩
          · obtain ⟨b, off, ea, hbw, hck, _⟩ := h.at k12 (by omega)
            have hck1 : w.cell? ⟨b, off + k12, none⟩ = some (.int .i64 t[k12]) := hck
            clear hck
            first | (obtain rfl := ea) | (simp only [Option.some.injEq, Addr.mk.injEq, and_true] at ea; obtain ⟨rfl, rfl⟩ := ea)
            by_cases hc : classBig t[k12] big = classBig t[k11] big
            · have hc1 : (classBig t[k12] big == classBig t[k11] big) = true := by simp [hc]
              have hc2 : (classBig t[k12] big != classBig t[k11] big) = false := by simp [hc]
              have HKk12 : Hid (viBack t x big = (skipBack (viEq big (classBig t[k11] big)) t k12)) := hid (by rw [Hk12.out, skipBack_yes (p := (viEq big (classBig t[k11] big))) (by omega) (by simp [viEq, hc])])
              clear hc Hk12
              go_wp2_with (go_at_call 65; refine (s_l14Class _ _ _).mono ?_; rintro e w' ⟨rfl, rfl⟩)
              exact ⟨⟨k12, by omega, by go_num, HKk12.out⟩, by simp [intOf]; try omega⟩
            · have hc1 : (classBig t[k12] big == classBig t[k11] big) = false := by simp [hc]
              have hc2 : (classBig t[k12] big != classBig t[k11] big) = true := by simp [hc]
              have HKk12 : Hid (viBack t x big = (k12 + 1)) := hid (by rw [Hk12.out, skipBack_no (p := (viEq big (classBig t[k11] big))) (by omega) (by simp [viEq, hc])])
              clear hc Hk12
              go_wp2_with (go_at_call 65; refine (s_l14Class _ _ _).mono ?_; rintro e w' ⟨rfl, rfl⟩)
              go_ret
              exact ⟨ret_int (by rw [HKk12.out]; try simp), Below.refl _ _⟩
theorem i_ViWordEnd {w : World} {bs : List Nat} {a : Option Addr} {len cap : Nat} {t : List Int} (h : Slc w bs a len cap t) (x : Int) (hx : I64 x) (big : Bool) (hn : t.length ≤ 1048576) :
    Calls Try.prog 33 #[.slice a len cap, .int .i64 x, .bool big] w fun e w' => e = .returned (.int .i64 (viEnd t x big)) ∧ Below w.heap.size w w' := by
  obtain rfl := h.len_eq
  have hk0 := clampN_le x t.length
  have Hf : Hid (viEnd t x big = viEndAt t (clampN x t.length) big) := hid rfl
  have Hcl := hid (clampN_eq x t.length)
  revert Hf hk0 Hcl
  generalize clampN x t.length = k0
  intro hk0 Hf Hcl
  by_cases hz : t.length = 0
  · have HZ : Hid (viEnd t x big = 0) := hid (by rw [Hf.out, viEndAt, if_pos hz])
    clear Hf
    go_enter Try.func33, Try.ntmps33
    go_wp2_with (first | (go_at_call 66; refine (i_within _ _ _).mono ?_; rintro e w' ⟨rfl, rfl⟩; try rw [Hcl.out]))
    go_ret
    exact ⟨ret_int (by rw [HZ.out]), Below.refl _ _⟩
  · have Hz : Hid (viEnd t x big = viEnd2 t big (skipOn (viEq big 0) t (k0 + 1))) := hid (by rw [Hf.out, viEndAt, if_neg hz])
    clear Hf
    go_enter Try.func33, Try.ntmps33
    go_wp2_with (first | (go_at_call 66; refine (i_within _ _ _).mono ?_; rintro e w' ⟨rfl, rfl⟩; try rw [Hcl.out]))
    go_loop [1] (fun i => ∃ q : Nat, q ≤ t.length + 1 ∧ i = .int .i64 q ∧ viEnd t x big = viEnd2 t big (skipOn (viEq big 0) t q)) (fun i => t.length + 1 - (intOf i).toNat)
    case atStart => exact ⟨k0 + 1, by omega, by first | rfl | (rw [IntWalk.wrap64_in _ (by omega)]; rfl), Hz.out⟩
    case round =>
      clear Hz
      obtain ⟨k13, hkk13, rfl, hr⟩ := hrel
      have Hk13 := hid hr; clear hr
      by_cases hlt13 : k13 < t.length
      · obtain ⟨b, off, ea, hbw, hck, _⟩ := h.at k13 hlt13
        have hck1 : w.cell? ⟨b, off + k13, none⟩ = some (.int .i64 t[k13]) := hck
        clear hck
        first | (obtain rfl := ea) | (simp only [Option.some.injEq, Addr.mk.injEq, and_true] at ea; obtain ⟨rfl, rfl⟩ := ea)
        have hle := skipOn_le (p := viEq big (classBig t[k13] big)) (t := t) (k := k13) (by omega)
        by_cases hc : classBig t[k13] big = 0
        · have hc1 : (classBig t[k13] big == 0) = true := by simp [hc]
          have hc2 : (classBig t[k13] big != 0) = false := by simp [hc]
          have HKk13 : Hid (viEnd t x big = viEnd2 t big (skipOn (viEq big 0) t (k13 + 1))) := hid (by rw [Hk13.out, skipOn_yes (p := (viEq big 0)) hlt13 (by simp [viEq, hc])])
          clear hc Hk13
          go_wp2_with (first | (go_at_call 67; refine (i_classAt h k13 (by omega) big).mono ?_; rintro e w' ⟨rfl, rfl⟩) | (go_at_call 68; refine (i_runEnd h k13 (by omega) big hn).mono ?_; rintro e w' ⟨rfl, rfl⟩))
          exact ⟨⟨k13 + 1, by omega, rfl, HKk13.out⟩, by simp [intOf]; try omega⟩
        · have hc1 : (classBig t[k13] big == 0) = false := by simp [hc]
          have hc2 : (classBig t[k13] big != 0) = true := by simp [hc]
          have HKk13 : Hid (viEnd t x big = viEnd2 t big k13) := hid (by rw [Hk13.out, skipOn_no (p := (viEq big 0)) hlt13 (by simp [viEq, hc])])
          clear hc Hk13
          go_wp2_with (first | (go_at_call 67; refine (i_classAt h k13 (by omega) big).mono ?_; rintro e w' ⟨rfl, rfl⟩) | (go_at_call 68; refine (i_runEnd h k13 (by omega) big hn).mono ?_; rintro e w' ⟨rfl, rfl⟩))
          go_ret
          exact ⟨ret_int (by rw [HKk13.out, viEnd2, dif_pos hlt13]), Below.refl _ _⟩
      · have HKk13 : Hid (viEnd t x big = viEnd2 t big k13) := hid (by rw [Hk13.out, skipOn_end (p := (viEq big 0)) (by omega)])
        clear Hk13
        go_wp2
        go_ret
        exact ⟨ret_int (by rw [HKk13.out, viEnd2, dif_neg hlt13]), Below.refl _ _⟩
theorem s_ViWordEnd {w : World} {bs : List Nat} {a : Option Addr} {len cap : Nat} {t : List Int} (h : Slc w bs a len cap t) (x : Int) (hx : I64 x) (big : Bool) (hn : t.length ≤ 1048576) :
    Calls Try.prog 32 #[.slice a len cap, .int .i64 x, .bool big] w fun e w' => e = .returned (.int .i64 (viEnd t x big)) ∧ Below w.heap.size w w' := by
  obtain rfl := h.len_eq
  have hk0 := clampN_le x t.length
  have Hf : Hid (viEnd t x big = viEndAt t (clampN x t.length) big) := hid rfl
  have Hcl := hid (clampN_eq x t.length)
  revert Hf hk0 Hcl
  generalize clampN x t.length = k0
  intro hk0 Hf Hcl
  by_cases hz : t.length = 0
  · have HZ : Hid (viEnd t x big = 0) := hid (by rw [Hf.out, viEndAt, if_pos hz])
    clear Hf
    go_enter Try.func32, Try.ntmps32
    go_wp2_with (first | (go_at_call 64; refine (s_l08Clamp _ _ _ (by omega)).mono ?_; rintro e w' ⟨rfl, rfl⟩; try rw [Hcl.out]))
    go_loop [1] (fun i => i = .int .i64 (k0 + 1)) (fun i => (intOf i).toNat)
    case atStart => first | rfl | (have e := Hcl.out; rw [hz] at e; rw [← e]; rfl)
    case round =>
      obtain rfl := hrel
      go_wp2_with (first | (go_at_call 64; refine (s_l08Clamp _ _ _ (by omega)).mono ?_; rintro e w' ⟨rfl, rfl⟩; try rw [Hcl.out]))
      go_ret
      exact ⟨ret_int (by rw [HZ.out]; omega), Below.refl _ _⟩
  · have Hz : Hid (viEnd t x big = viEnd2 t big (skipOn (viEq big 0) t (k0 + 1))) := hid (by rw [Hf.out, viEndAt, if_neg hz])
    clear Hf
    go_enter Try.func32, Try.ntmps32
    go_wp2_with (first | (go_at_call 64; refine (s_l08Clamp _ _ _ (by omega)).mono ?_; rintro e w' ⟨rfl, rfl⟩; try rw [Hcl.out]))
    go_loop [1] (fun i => ∃ q : Nat, q ≤ t.length + 1 ∧ i = .int .i64 q ∧ viEnd t x big = viEnd2 t big (skipOn (viEq big 0) t q)) (fun i => t.length + 1 - (intOf i).toNat)
    case atStart => exact ⟨k0 + 1, by omega, by first | rfl | (rw [IntWalk.wrap64_in _ (by omega)]; rfl), Hz.out⟩
    case round =>
      clear Hz
      obtain ⟨k14, hkk14, rfl, hr⟩ := hrel
      have Hk14 := hid hr; clear hr
      by_cases hlt14 : k14 < t.length
      · obtain ⟨b, off, ea, hbw, hck, _⟩ := h.at k14 hlt14
        have hck1 : w.cell? ⟨b, off + k14, none⟩ = some (.int .i64 t[k14]) := hck
        clear hck
        first | (obtain rfl := ea) | (simp only [Option.some.injEq, Addr.mk.injEq, and_true] at ea; obtain ⟨rfl, rfl⟩ := ea)
        by_cases hc : classBig t[k14] big = 0
        · have hc1 : (classBig t[k14] big == 0) = true := by simp [hc]
          have hc2 : (classBig t[k14] big != 0) = false := by simp [hc]
          have HKk14 : Hid (viEnd t x big = viEnd2 t big (skipOn (viEq big 0) t (k14 + 1))) := hid (by rw [Hk14.out, skipOn_yes (p := (viEq big 0)) hlt14 (by simp [viEq, hc])])
          clear hc Hk14
          go_wp2_with (first | (go_at_call 65; refine (s_l14Class _ _ _).mono ?_; rintro e w' ⟨rfl, rfl⟩) | (go_at_call 64; refine (s_l08Clamp _ _ _ (by omega)).mono ?_; rintro e w' ⟨rfl, rfl⟩))
          exact ⟨⟨k14 + 1, by omega, rfl, HKk14.out⟩, by simp [intOf]; try omega⟩
        · have hc1 : (classBig t[k14] big == 0) = false := by simp [hc]
          have hc2 : (classBig t[k14] big != 0) = true := by simp [hc]
          have HKk14 : Hid (viEnd t x big = viEnd2 t big k14) := hid (by rw [Hk14.out, skipOn_no (p := (viEq big 0)) hlt14 (by simp [viEq, hc])])
          clear hc Hk14
          go_wp2_with (first | (go_at_call 65; refine (s_l14Class _ _ _).mono ?_; rintro e w' ⟨rfl, rfl⟩) | (go_at_call 64; refine (s_l08Clamp _ _ _ (by omega)).mono ?_; rintro e w' ⟨rfl, rfl⟩))
          have HL : Hid (viEnd t x big = (skipOn (viEq big (classBig t[k14] big)) t (k14 + 1) : Int) - 1) := hid (by rw [HKk14.out, viEnd2, dif_pos hlt14, skipOn_yes (p := (viEq big (classBig t[k14] big))) hlt14 (by simp [viEq])])
          clear HKk14
          go_loop [1] (fun i => ∃ q : Nat, q < t.length ∧ i = .int .i64 q ∧ viEnd t x big = (skipOn (viEq big (classBig t[k14] big)) t (q + 1) : Int) - 1) (fun i => t.length - (intOf i).toNat)
          case atStart => exact ⟨k14, hlt14, rfl, HL.out⟩
          case round =>
            clear HL
            obtain ⟨q, hq, rfl, hr⟩ := hrel
            have H := hid hr; clear hr
            by_cases hl2 : q + 1 < t.length
            · obtain ⟨b2, off2, ea, hbw2, hck, _⟩ := h.at (q + 1) hl2
              have hck2 : w.cell? ⟨b2, off2 + (q + 1), none⟩ = some (.int .i64 t[q + 1]) := hck
              clear hck
              first | (obtain rfl := ea) | (simp only [Option.some.injEq, Addr.mk.injEq, and_true] at ea; obtain ⟨rfl, rfl⟩ := ea)
              by_cases hc : classBig t[q + 1] big = classBig t[k14] big
              · have hd1 : (classBig t[q + 1] big == classBig t[k14] big) = true := by simp [hc]
                have HK : Hid (viEnd t x big = (skipOn (viEq big (classBig t[k14] big)) t (q + 1 + 1) : Int) - 1) := hid (by rw [H.out, skipOn_yes (p := (viEq big (classBig t[k14] big))) hl2 (by simp [viEq, hc])])
                clear hc H
                go_wp2_with (first | (go_at_call 65; refine (s_l14Class _ _ _).mono ?_; rintro e w' ⟨rfl, rfl⟩) | (go_at_call 64; refine (s_l08Clamp _ _ _ (by omega)).mono ?_; rintro e w' ⟨rfl, rfl⟩))
                exact ⟨⟨q + 1, hl2, rfl, HK.out⟩, by simp [intOf]; try omega⟩
              · have hd1 : (classBig t[q + 1] big == classBig t[k14] big) = false := by simp [hc]
                have HK : Hid (viEnd t x big = ((q + 1 : Nat) : Int) - 1) := hid (by rw [H.out, skipOn_no (p := (viEq big (classBig t[k14] big))) hl2 (by simp [viEq, hc])])
                clear hc H
                go_wp2_with (first | (go_at_call 65; refine (s_l14Class _ _ _).mono ?_; rintro e w' ⟨rfl, rfl⟩) | (go_at_call 64; refine (s_l08Clamp _ _ _ (by omega)).mono ?_; rintro e w' ⟨rfl, rfl⟩))
                go_ret
                exact ⟨ret_int (by rw [HK.out]; omega), Below.refl _ _⟩
            · have HK : Hid (viEnd t x big = ((q + 1 : Nat) : Int) - 1) := hid (by rw [H.out, skipOn_end (p := (viEq big (classBig t[k14] big))) (by omega)])
              clear H
              go_wp2
              go_ret
              exact ⟨ret_int (by rw [HK.out]; omega), Below.refl _ _⟩
      · have HKk14 : Hid (viEnd t x big = viEnd2 t big k14) := hid (by rw [Hk14.out, skipOn_end (p := (viEq big 0)) (by omega)])
        clear Hk14
        go_wp2_with (first | (go_at_call 65; refine (s_l14Class _ _ _).mono ?_; rintro e w' ⟨rfl, rfl⟩) | (go_at_call 64; refine (s_l08Clamp _ _ _ (by omega)).mono ?_; rintro e w' ⟨rfl, rfl⟩))
        go_ret
        exact ⟨ret_int (by rw [HKk14.out, viEnd2, dif_neg hlt14]; omega), Below.refl _ _⟩
end Go.Proofs.Ytodbnphofjpmeaa
