/- The bytes of keys (printed by genkey.py). -/
import Derived.Test.YtodbnphofjpmeaaKey
import Derived.Test.YtodbnphofjpmeaaText
import Derived.Test.YtodbnphofjpmeaaHelpT
set_option linter.unusedSimpArgs false
set_option linter.unusedVariables false
namespace Go.G6
open Go.RowKit
def keyTab (k : Int) : List UInt8 := if k = 4 then [13] else if k = 5 then [127] else if k = 6 then [9] else if k = 7 then [27] else if k = 8 then [27, 91, 65] else if k = 9 then [27, 91, 66] else if k = 10 then [27, 91, 67] else if k = 11 then [27, 91, 68] else if k = 12 then [27, 91, 72] else if k = 13 then [27, 91, 70] else if k = 14 then [27, 91, 51, 126] else if k = 15 then [27, 127] else if k = 16 then [0] else []
def keyB (d : KeyD) : List UInt8 := if keyOk d then (if d.Kind = 1 then runeBytes d.R else if d.Kind = 2 then [b8 (d.R % 32)] else if d.Kind = 3 then [27, b8 d.R] else keyTab d.Kind) else []
theorem keyTab_len (k : Int) : (keyTab k).length ≤ 4 := by
  unfold keyTab
  by_cases h4 : k = 4
  · rw [if_pos h4]; decide
  rw [if_neg h4]
  by_cases h5 : k = 5
  · rw [if_pos h5]; decide
  rw [if_neg h5]
  by_cases h6 : k = 6
  · rw [if_pos h6]; decide
  rw [if_neg h6]
  by_cases h7 : k = 7
  · rw [if_pos h7]; decide
  rw [if_neg h7]
  by_cases h8 : k = 8
  · rw [if_pos h8]; decide
  rw [if_neg h8]
  by_cases h9 : k = 9
  · rw [if_pos h9]; decide
  rw [if_neg h9]
  by_cases h10 : k = 10
  · rw [if_pos h10]; decide
  rw [if_neg h10]
  by_cases h11 : k = 11
  · rw [if_pos h11]; decide
  rw [if_neg h11]
  by_cases h12 : k = 12
  · rw [if_pos h12]; decide
  rw [if_neg h12]
  by_cases h13 : k = 13
  · rw [if_pos h13]; decide
  rw [if_neg h13]
  by_cases h14 : k = 14
  · rw [if_pos h14]; decide
  rw [if_neg h14]
  by_cases h15 : k = 15
  · rw [if_pos h15]; decide
  rw [if_neg h15]
  by_cases h16 : k = 16
  · rw [if_pos h16]; decide
  rw [if_neg h16]
  decide
theorem keyB_len (d : KeyD) : (keyB d).length ≤ 4 := by
  have h1 := runeBytes_len d.R
  have h2 := keyTab_len d.Kind
  by_cases hk : keyOk d = true
  · by_cases c1 : d.Kind = 1
    · simp only [keyB, hk, if_true, c1]; exact h1
    · by_cases c2 : d.Kind = 2
      · simp [keyB, hk, c2]
      · by_cases c3 : d.Kind = 3
        · simp [keyB, hk, c3]
        · simp only [keyB, hk, if_true, if_neg c1, if_neg c2, if_neg c3]; exact h2
  · simp [keyB, hk]
end Go.G6
namespace Go.Proofs.Ytodbnphofjpmeaa
open Go.RowKit Go.G6
set_option maxHeartbeats 1600000
set_option maxRecDepth 10000
theorem i_KeyBytes {w : World} {bs : List Nat} {cs : List Value} {d : KeyD} (h : Rep.pt w bs cs d) :
    Calls Try.prog 39 #[.agg cs.toArray] w (RetL w 5 (keyB d)) := by
  have H := hid h
  obtain ⟨rfl, rfl, h0, h1⟩ := open_Key h
  clear h
  cases hk : keyOk d
  · have HZ : Hid (keyB d = []) := hid (by simp [keyB, hk])
    have Hk := hid hk; clear hk
    go_enter Try.func39, Try.ntmps39
    go_wp2_with fail
    refine (i_KeyOk (grow H.out ?_)).mono ?_
    · exact (Below.refl _ _).alloc (Nat.le_refl _) _
    rintro e w1 ⟨rfl, hb⟩
    have HB := hid (below_call ((Below.refl _ _).alloc (Nat.le_refl _) _) hb)
    clear hb
    rw [Hk.out]
    go_wp2
    go_ret
    exact ⟨_, [], rfl, by rw [HZ.out]; exact OwnL.nil _ _ _, HB.out⟩
  have HZ : Hid (keyB d = if d.Kind = 1 then runeBytes d.R else if d.Kind = 2 then [b8 (d.R % 32)] else if d.Kind = 3 then [27, b8 d.R] else keyTab d.Kind) := hid (by simp [keyB, hk])
  have hK := hk
  simp only [keyOk] at hK
  obtain ⟨K, R⟩ := d
  simp only at HZ h0 h1 hK
  have Hk := hid hk; clear hk
  by_cases c1 : K = 1
  · subst c1
    have hr : I64 R := h1
    go_enter Try.func39, Try.ntmps39
    go_wp2_with fail
    refine (i_KeyOk (grow H.out ?_)).mono ?_
    · exact (Below.refl _ _).alloc (Nat.le_refl _) _
    rintro e w1 ⟨rfl, hb⟩
    have B0 : Bx w1 (w.heap.size) _ := Bx.below (b := w.heap.size) hb (by first | omega | (simp; done) | (simp; omega)) (by repeat (first  | (apply Bx.new; (focus (first | (simp; done) | (simp; omega) | omega))) | (apply Bx.alloc; rotate_left; (focus (first | (simp; done) | (simp; omega) | omega))) | (apply Bx.setOther; rotate_left; (focus (first | (simp; done) | (simp; omega) | omega))) | apply Bx.setSame))
    have B0o := B0.out
    have B0f := B0.fr
    have HB := hid (below_call ((Below.refl _ _).alloc (Nat.le_refl _) _) hb)
    have hs1 : w.heap.size < w1.heap.size := by have := hb.size; simp at this; omega
    have hs2 : ¬ w.heap.size = w1.heap.size := by omega
    clear hb
    rw [Hk.out]
    go_wp2_with fail
    refine (i_RuneBytes _ hr _).mono ?_
    rintro e w2 ⟨v, b2, rfl, hO, hb⟩
    have HO := hid (hO.mono (lo' := w.heap.size) (by have := HB.out.size; omega))
    have HB2 := hid (below_call HB.out hb)
    clear hO hb
    go_wp2
    go_ret
    exact ⟨_, b2, rfl, by rw [HZ.out]; exact HO.out, HB2.out⟩
  by_cases c2 : K = 2
  · subst c2
    have hr : R = 95 ∨ (97 ≤ R ∧ R ≤ 122) := by simp at hK; omega
    clear hK
    by_cases h95 : R = 95
    · subst h95
      have E : Hid (keyB ⟨2, 95⟩ = [31]) := hid (by rw [HZ.out]; decide)
      go_enter Try.func39, Try.ntmps39
      go_wp2_with fail
      refine (i_KeyOk (grow H.out ?_)).mono ?_
      · exact (Below.refl _ _).alloc (Nat.le_refl _) _
      rintro e w1 ⟨rfl, hb⟩
      have B0 : Bx w1 (w.heap.size) _ := Bx.below (b := w.heap.size) hb (by first | omega | (simp; done) | (simp; omega)) (by repeat (first  | (apply Bx.new; (focus (first | (simp; done) | (simp; omega) | omega))) | (apply Bx.alloc; rotate_left; (focus (first | (simp; done) | (simp; omega) | omega))) | (apply Bx.setOther; rotate_left; (focus (first | (simp; done) | (simp; omega) | omega))) | apply Bx.setSame))
      have B0o := B0.out
      have B0f := B0.fr
      have HB := hid (below_call ((Below.refl _ _).alloc (Nat.le_refl _) _) hb)
      have hs1 : w.heap.size < w1.heap.size := by have := hb.size; simp at this; omega
      have hs2 : ¬ w.heap.size = w1.heap.size := by omega
      clear hb
      rw [Hk.out]
      go_wp2
      go_ret
      refine ⟨_, [w1.heap.size], rfl, ?_, HB.out.alloc (by have := HB.out.size; omega) _⟩
      rw [E.out]
      refine OwnL.lit w1 _ _ _ ?_ (fun _ _ => trivial) (by have := HB.out.size; omega) (by simp [maxLen]) rfl
      rfl
    have hr1 : 97 ≤ R ∧ R ≤ 122 := by omega
    obtain ⟨hr1, hr2⟩ := hr1
    have h95b : (R == 95) = false := by rw [beq_eq_false_iff_ne]; exact h95
    have E : Hid (keyB ⟨2, R⟩ = [b8 (R - 96)]) := hid (by rw [HZ.out, if_neg (by decide), if_pos rfl, show R % 32 = R - 96 by omega])
    go_enter Try.func39, Try.ntmps39
    go_wp2_with fail
    refine (i_KeyOk (grow H.out ?_)).mono ?_
    · exact (Below.refl _ _).alloc (Nat.le_refl _) _
    rintro e w1 ⟨rfl, hb⟩
    have B0 : Bx w1 (w.heap.size) _ := Bx.below (b := w.heap.size) hb (by first | omega | (simp; done) | (simp; omega)) (by repeat (first  | (apply Bx.new; (focus (first | (simp; done) | (simp; omega) | omega))) | (apply Bx.alloc; rotate_left; (focus (first | (simp; done) | (simp; omega) | omega))) | (apply Bx.setOther; rotate_left; (focus (first | (simp; done) | (simp; omega) | omega))) | apply Bx.setSame))
    have B0o := B0.out
    have B0f := B0.fr
    have HB := hid (below_call ((Below.refl _ _).alloc (Nat.le_refl _) _) hb)
    have hs1 : w.heap.size < w1.heap.size := by have := hb.size; simp at this; omega
    have hs2 : ¬ w.heap.size = w1.heap.size := by omega
    clear hb
    rw [Hk.out]
    go_wp2
    go_ret
    refine ⟨_, [w1.heap.size], rfl, ?_, HB.out.alloc (by have := HB.out.size; omega) _⟩
    rw [E.out]
    refine OwnL.lit w1 _ _ _ ?_ (fun _ _ => trivial) (by have := HB.out.size; omega) (by simp [maxLen]) rfl
    simp only [List.map_cons, List.map_nil, Scal.val]
    rw [b8_val (by omega) (by omega)]
  by_cases c3 : K = 3
  · subst c3
    have hr : 33 ≤ R ∧ R ≤ 126 := by simp at hK; omega
    clear hK
    obtain ⟨hr1, hr2⟩ := hr
    have E : Hid (keyB ⟨3, R⟩ = [27, b8 R]) := hid (by rw [HZ.out, if_neg (by decide), if_neg (by decide), if_pos rfl])
    go_enter Try.func39, Try.ntmps39
    go_wp2_with fail
    refine (i_KeyOk (grow H.out ?_)).mono ?_
    · exact (Below.refl _ _).alloc (Nat.le_refl _) _
    rintro e w1 ⟨rfl, hb⟩
    have B0 : Bx w1 (w.heap.size) _ := Bx.below (b := w.heap.size) hb (by first | omega | (simp; done) | (simp; omega)) (by repeat (first  | (apply Bx.new; (focus (first | (simp; done) | (simp; omega) | omega))) | (apply Bx.alloc; rotate_left; (focus (first | (simp; done) | (simp; omega) | omega))) | (apply Bx.setOther; rotate_left; (focus (first | (simp; done) | (simp; omega) | omega))) | apply Bx.setSame))
    have B0o := B0.out
    have B0f := B0.fr
    have HB := hid (below_call ((Below.refl _ _).alloc (Nat.le_refl _) _) hb)
    have hs1 : w.heap.size < w1.heap.size := by have := hb.size; simp at this; omega
    have hs2 : ¬ w.heap.size = w1.heap.size := by omega
    clear hb
    rw [Hk.out]
    go_wp2
    go_ret
    refine ⟨_, [w1.heap.size], rfl, ?_, HB.out.alloc (by have := HB.out.size; omega) _⟩
    rw [E.out]
    refine OwnL.lit w1 _ _ _ ?_ (fun _ _ => trivial) (by have := HB.out.size; omega) (by simp [maxLen]) rfl
    simp only [List.map_cons, List.map_nil, Scal.val]
    rw [b8_val (by omega) (by omega)]
    rfl
  have hR : R = 0 ∧ 4 ≤ K ∧ K ≤ 16 := by simp [c1, c2, c3] at hK; omega
  obtain ⟨rfl, hK1, hK2⟩ := hR
  clear hK h0 h1
  by_cases e4 : K = 4
  · subst e4
    have E : Hid (keyB ⟨4, 0⟩ = [13]) := hid (by rw [HZ.out]; decide)
    go_enter Try.func39, Try.ntmps39
    go_wp2_with fail
    refine (i_KeyOk (grow H.out ?_)).mono ?_
    · exact (Below.refl _ _).alloc (Nat.le_refl _) _
    rintro e w1 ⟨rfl, hb⟩
    have B0 : Bx w1 (w.heap.size) _ := Bx.below (b := w.heap.size) hb (by first | omega | (simp; done) | (simp; omega)) (by repeat (first  | (apply Bx.new; (focus (first | (simp; done) | (simp; omega) | omega))) | (apply Bx.alloc; rotate_left; (focus (first | (simp; done) | (simp; omega) | omega))) | (apply Bx.setOther; rotate_left; (focus (first | (simp; done) | (simp; omega) | omega))) | apply Bx.setSame))
    have B0o := B0.out
    have B0f := B0.fr
    have HB := hid (below_call ((Below.refl _ _).alloc (Nat.le_refl _) _) hb)
    have hs1 : w.heap.size < w1.heap.size := by have := hb.size; simp at this; omega
    have hs2 : ¬ w.heap.size = w1.heap.size := by omega
    clear hb
    rw [Hk.out]
    go_wp2
    go_ret
    refine ⟨_, [w1.heap.size], rfl, ?_, HB.out.alloc (by have := HB.out.size; omega) _⟩
    rw [E.out]
    refine OwnL.lit w1 _ _ _ ?_ (fun _ _ => trivial) (by have := HB.out.size; omega) (by simp [maxLen]) rfl
    rfl
  by_cases e5 : K = 5
  · subst e5
    have E : Hid (keyB ⟨5, 0⟩ = [127]) := hid (by rw [HZ.out]; decide)
    go_enter Try.func39, Try.ntmps39
    go_wp2_with fail
    refine (i_KeyOk (grow H.out ?_)).mono ?_
    · exact (Below.refl _ _).alloc (Nat.le_refl _) _
    rintro e w1 ⟨rfl, hb⟩
    have B0 : Bx w1 (w.heap.size) _ := Bx.below (b := w.heap.size) hb (by first | omega | (simp; done) | (simp; omega)) (by repeat (first  | (apply Bx.new; (focus (first | (simp; done) | (simp; omega) | omega))) | (apply Bx.alloc; rotate_left; (focus (first | (simp; done) | (simp; omega) | omega))) | (apply Bx.setOther; rotate_left; (focus (first | (simp; done) | (simp; omega) | omega))) | apply Bx.setSame))
    have B0o := B0.out
    have B0f := B0.fr
    have HB := hid (below_call ((Below.refl _ _).alloc (Nat.le_refl _) _) hb)
    have hs1 : w.heap.size < w1.heap.size := by have := hb.size; simp at this; omega
    have hs2 : ¬ w.heap.size = w1.heap.size := by omega
    clear hb
    rw [Hk.out]
    go_wp2
    go_ret
    refine ⟨_, [w1.heap.size], rfl, ?_, HB.out.alloc (by have := HB.out.size; omega) _⟩
    rw [E.out]
    refine OwnL.lit w1 _ _ _ ?_ (fun _ _ => trivial) (by have := HB.out.size; omega) (by simp [maxLen]) rfl
    rfl
  by_cases e6 : K = 6
  · subst e6
    have E : Hid (keyB ⟨6, 0⟩ = [9]) := hid (by rw [HZ.out]; decide)
    go_enter Try.func39, Try.ntmps39
    go_wp2_with fail
    refine (i_KeyOk (grow H.out ?_)).mono ?_
    · exact (Below.refl _ _).alloc (Nat.le_refl _) _
    rintro e w1 ⟨rfl, hb⟩
    have B0 : Bx w1 (w.heap.size) _ := Bx.below (b := w.heap.size) hb (by first | omega | (simp; done) | (simp; omega)) (by repeat (first  | (apply Bx.new; (focus (first | (simp; done) | (simp; omega) | omega))) | (apply Bx.alloc; rotate_left; (focus (first | (simp; done) | (simp; omega) | omega))) | (apply Bx.setOther; rotate_left; (focus (first | (simp; done) | (simp; omega) | omega))) | apply Bx.setSame))
    have B0o := B0.out
    have B0f := B0.fr
    have HB := hid (below_call ((Below.refl _ _).alloc (Nat.le_refl _) _) hb)
    have hs1 : w.heap.size < w1.heap.size := by have := hb.size; simp at this; omega
    have hs2 : ¬ w.heap.size = w1.heap.size := by omega
    clear hb
    rw [Hk.out]
    go_wp2
    go_ret
    refine ⟨_, [w1.heap.size], rfl, ?_, HB.out.alloc (by have := HB.out.size; omega) _⟩
    rw [E.out]
    refine OwnL.lit w1 _ _ _ ?_ (fun _ _ => trivial) (by have := HB.out.size; omega) (by simp [maxLen]) rfl
    rfl
  by_cases e7 : K = 7
  · subst e7
    have E : Hid (keyB ⟨7, 0⟩ = [27]) := hid (by rw [HZ.out]; decide)
    go_enter Try.func39, Try.ntmps39
    go_wp2_with fail
    refine (i_KeyOk (grow H.out ?_)).mono ?_
    · exact (Below.refl _ _).alloc (Nat.le_refl _) _
    rintro e w1 ⟨rfl, hb⟩
    have B0 : Bx w1 (w.heap.size) _ := Bx.below (b := w.heap.size) hb (by first | omega | (simp; done) | (simp; omega)) (by repeat (first  | (apply Bx.new; (focus (first | (simp; done) | (simp; omega) | omega))) | (apply Bx.alloc; rotate_left; (focus (first | (simp; done) | (simp; omega) | omega))) | (apply Bx.setOther; rotate_left; (focus (first | (simp; done) | (simp; omega) | omega))) | apply Bx.setSame))
    have B0o := B0.out
    have B0f := B0.fr
    have HB := hid (below_call ((Below.refl _ _).alloc (Nat.le_refl _) _) hb)
    have hs1 : w.heap.size < w1.heap.size := by have := hb.size; simp at this; omega
    have hs2 : ¬ w.heap.size = w1.heap.size := by omega
    clear hb
    rw [Hk.out]
    go_wp2
    go_ret
    refine ⟨_, [w1.heap.size], rfl, ?_, HB.out.alloc (by have := HB.out.size; omega) _⟩
    rw [E.out]
    refine OwnL.lit w1 _ _ _ ?_ (fun _ _ => trivial) (by have := HB.out.size; omega) (by simp [maxLen]) rfl
    rfl
  by_cases e8 : K = 8
  · subst e8
    have E : Hid (keyB ⟨8, 0⟩ = [27, 91, 65]) := hid (by rw [HZ.out]; decide)
    go_enter Try.func39, Try.ntmps39
    go_wp2_with fail
    refine (i_KeyOk (grow H.out ?_)).mono ?_
    · exact (Below.refl _ _).alloc (Nat.le_refl _) _
    rintro e w1 ⟨rfl, hb⟩
    have B0 : Bx w1 (w.heap.size) _ := Bx.below (b := w.heap.size) hb (by first | omega | (simp; done) | (simp; omega)) (by repeat (first  | (apply Bx.new; (focus (first | (simp; done) | (simp; omega) | omega))) | (apply Bx.alloc; rotate_left; (focus (first | (simp; done) | (simp; omega) | omega))) | (apply Bx.setOther; rotate_left; (focus (first | (simp; done) | (simp; omega) | omega))) | apply Bx.setSame))
    have B0o := B0.out
    have B0f := B0.fr
    have HB := hid (below_call ((Below.refl _ _).alloc (Nat.le_refl _) _) hb)
    have hs1 : w.heap.size < w1.heap.size := by have := hb.size; simp at this; omega
    have hs2 : ¬ w.heap.size = w1.heap.size := by omega
    clear hb
    rw [Hk.out]
    go_wp2
    go_ret
    refine ⟨_, [w1.heap.size], rfl, ?_, HB.out.alloc (by have := HB.out.size; omega) _⟩
    rw [E.out]
    refine OwnL.lit w1 _ _ _ ?_ (fun _ _ => trivial) (by have := HB.out.size; omega) (by simp [maxLen]) rfl
    rfl
  by_cases e9 : K = 9
  · subst e9
    have E : Hid (keyB ⟨9, 0⟩ = [27, 91, 66]) := hid (by rw [HZ.out]; decide)
    go_enter Try.func39, Try.ntmps39
    go_wp2_with fail
    refine (i_KeyOk (grow H.out ?_)).mono ?_
    · exact (Below.refl _ _).alloc (Nat.le_refl _) _
    rintro e w1 ⟨rfl, hb⟩
    have B0 : Bx w1 (w.heap.size) _ := Bx.below (b := w.heap.size) hb (by first | omega | (simp; done) | (simp; omega)) (by repeat (first  | (apply Bx.new; (focus (first | (simp; done) | (simp; omega) | omega))) | (apply Bx.alloc; rotate_left; (focus (first | (simp; done) | (simp; omega) | omega))) | (apply Bx.setOther; rotate_left; (focus (first | (simp; done) | (simp; omega) | omega))) | apply Bx.setSame))
    have B0o := B0.out
    have B0f := B0.fr
    have HB := hid (below_call ((Below.refl _ _).alloc (Nat.le_refl _) _) hb)
    have hs1 : w.heap.size < w1.heap.size := by have := hb.size; simp at this; omega
    have hs2 : ¬ w.heap.size = w1.heap.size := by omega
    clear hb
    rw [Hk.out]
    go_wp2
    go_ret
    refine ⟨_, [w1.heap.size], rfl, ?_, HB.out.alloc (by have := HB.out.size; omega) _⟩
    rw [E.out]
    refine OwnL.lit w1 _ _ _ ?_ (fun _ _ => trivial) (by have := HB.out.size; omega) (by simp [maxLen]) rfl
    rfl
  by_cases e10 : K = 10
  · subst e10
    have E : Hid (keyB ⟨10, 0⟩ = [27, 91, 67]) := hid (by rw [HZ.out]; decide)
    go_enter Try.func39, Try.ntmps39
    go_wp2_with fail
    refine (i_KeyOk (grow H.out ?_)).mono ?_
    · exact (Below.refl _ _).alloc (Nat.le_refl _) _
    rintro e w1 ⟨rfl, hb⟩
    have B0 : Bx w1 (w.heap.size) _ := Bx.below (b := w.heap.size) hb (by first | omega | (simp; done) | (simp; omega)) (by repeat (first  | (apply Bx.new; (focus (first | (simp; done) | (simp; omega) | omega))) | (apply Bx.alloc; rotate_left; (focus (first | (simp; done) | (simp; omega) | omega))) | (apply Bx.setOther; rotate_left; (focus (first | (simp; done) | (simp; omega) | omega))) | apply Bx.setSame))
    have B0o := B0.out
    have B0f := B0.fr
    have HB := hid (below_call ((Below.refl _ _).alloc (Nat.le_refl _) _) hb)
    have hs1 : w.heap.size < w1.heap.size := by have := hb.size; simp at this; omega
    have hs2 : ¬ w.heap.size = w1.heap.size := by omega
    clear hb
    rw [Hk.out]
    go_wp2
    go_ret
    refine ⟨_, [w1.heap.size], rfl, ?_, HB.out.alloc (by have := HB.out.size; omega) _⟩
    rw [E.out]
    refine OwnL.lit w1 _ _ _ ?_ (fun _ _ => trivial) (by have := HB.out.size; omega) (by simp [maxLen]) rfl
    rfl
  by_cases e11 : K = 11
  · subst e11
    have E : Hid (keyB ⟨11, 0⟩ = [27, 91, 68]) := hid (by rw [HZ.out]; decide)
    go_enter Try.func39, Try.ntmps39
    go_wp2_with fail
    refine (i_KeyOk (grow H.out ?_)).mono ?_
    · exact (Below.refl _ _).alloc (Nat.le_refl _) _
    rintro e w1 ⟨rfl, hb⟩
    have B0 : Bx w1 (w.heap.size) _ := Bx.below (b := w.heap.size) hb (by first | omega | (simp; done) | (simp; omega)) (by repeat (first  | (apply Bx.new; (focus (first | (simp; done) | (simp; omega) | omega))) | (apply Bx.alloc; rotate_left; (focus (first | (simp; done) | (simp; omega) | omega))) | (apply Bx.setOther; rotate_left; (focus (first | (simp; done) | (simp; omega) | omega))) | apply Bx.setSame))
    have B0o := B0.out
    have B0f := B0.fr
    have HB := hid (below_call ((Below.refl _ _).alloc (Nat.le_refl _) _) hb)
    have hs1 : w.heap.size < w1.heap.size := by have := hb.size; simp at this; omega
    have hs2 : ¬ w.heap.size = w1.heap.size := by omega
    clear hb
    rw [Hk.out]
    go_wp2
    go_ret
    refine ⟨_, [w1.heap.size], rfl, ?_, HB.out.alloc (by have := HB.out.size; omega) _⟩
    rw [E.out]
    refine OwnL.lit w1 _ _ _ ?_ (fun _ _ => trivial) (by have := HB.out.size; omega) (by simp [maxLen]) rfl
    rfl
  by_cases e12 : K = 12
  · subst e12
    have E : Hid (keyB ⟨12, 0⟩ = [27, 91, 72]) := hid (by rw [HZ.out]; decide)
    go_enter Try.func39, Try.ntmps39
    go_wp2_with fail
    refine (i_KeyOk (grow H.out ?_)).mono ?_
    · exact (Below.refl _ _).alloc (Nat.le_refl _) _
    rintro e w1 ⟨rfl, hb⟩
    have B0 : Bx w1 (w.heap.size) _ := Bx.below (b := w.heap.size) hb (by first | omega | (simp; done) | (simp; omega)) (by repeat (first  | (apply Bx.new; (focus (first | (simp; done) | (simp; omega) | omega))) | (apply Bx.alloc; rotate_left; (focus (first | (simp; done) | (simp; omega) | omega))) | (apply Bx.setOther; rotate_left; (focus (first | (simp; done) | (simp; omega) | omega))) | apply Bx.setSame))
    have B0o := B0.out
    have B0f := B0.fr
    have HB := hid (below_call ((Below.refl _ _).alloc (Nat.le_refl _) _) hb)
    have hs1 : w.heap.size < w1.heap.size := by have := hb.size; simp at this; omega
    have hs2 : ¬ w.heap.size = w1.heap.size := by omega
    clear hb
    rw [Hk.out]
    go_wp2
    go_ret
    refine ⟨_, [w1.heap.size], rfl, ?_, HB.out.alloc (by have := HB.out.size; omega) _⟩
    rw [E.out]
    refine OwnL.lit w1 _ _ _ ?_ (fun _ _ => trivial) (by have := HB.out.size; omega) (by simp [maxLen]) rfl
    rfl
  by_cases e13 : K = 13
  · subst e13
    have E : Hid (keyB ⟨13, 0⟩ = [27, 91, 70]) := hid (by rw [HZ.out]; decide)
    go_enter Try.func39, Try.ntmps39
    go_wp2_with fail
    refine (i_KeyOk (grow H.out ?_)).mono ?_
    · exact (Below.refl _ _).alloc (Nat.le_refl _) _
    rintro e w1 ⟨rfl, hb⟩
    have B0 : Bx w1 (w.heap.size) _ := Bx.below (b := w.heap.size) hb (by first | omega | (simp; done) | (simp; omega)) (by repeat (first  | (apply Bx.new; (focus (first | (simp; done) | (simp; omega) | omega))) | (apply Bx.alloc; rotate_left; (focus (first | (simp; done) | (simp; omega) | omega))) | (apply Bx.setOther; rotate_left; (focus (first | (simp; done) | (simp; omega) | omega))) | apply Bx.setSame))
    have B0o := B0.out
    have B0f := B0.fr
    have HB := hid (below_call ((Below.refl _ _).alloc (Nat.le_refl _) _) hb)
    have hs1 : w.heap.size < w1.heap.size := by have := hb.size; simp at this; omega
    have hs2 : ¬ w.heap.size = w1.heap.size := by omega
    clear hb
    rw [Hk.out]
    go_wp2
    go_ret
    refine ⟨_, [w1.heap.size], rfl, ?_, HB.out.alloc (by have := HB.out.size; omega) _⟩
    rw [E.out]
    refine OwnL.lit w1 _ _ _ ?_ (fun _ _ => trivial) (by have := HB.out.size; omega) (by simp [maxLen]) rfl
    rfl
  by_cases e14 : K = 14
  · subst e14
    have E : Hid (keyB ⟨14, 0⟩ = [27, 91, 51, 126]) := hid (by rw [HZ.out]; decide)
    go_enter Try.func39, Try.ntmps39
    go_wp2_with fail
    refine (i_KeyOk (grow H.out ?_)).mono ?_
    · exact (Below.refl _ _).alloc (Nat.le_refl _) _
    rintro e w1 ⟨rfl, hb⟩
    have B0 : Bx w1 (w.heap.size) _ := Bx.below (b := w.heap.size) hb (by first | omega | (simp; done) | (simp; omega)) (by repeat (first  | (apply Bx.new; (focus (first | (simp; done) | (simp; omega) | omega))) | (apply Bx.alloc; rotate_left; (focus (first | (simp; done) | (simp; omega) | omega))) | (apply Bx.setOther; rotate_left; (focus (first | (simp; done) | (simp; omega) | omega))) | apply Bx.setSame))
    have B0o := B0.out
    have B0f := B0.fr
    have HB := hid (below_call ((Below.refl _ _).alloc (Nat.le_refl _) _) hb)
    have hs1 : w.heap.size < w1.heap.size := by have := hb.size; simp at this; omega
    have hs2 : ¬ w.heap.size = w1.heap.size := by omega
    clear hb
    rw [Hk.out]
    go_wp2
    go_ret
    refine ⟨_, [w1.heap.size], rfl, ?_, HB.out.alloc (by have := HB.out.size; omega) _⟩
    rw [E.out]
    refine OwnL.lit w1 _ _ _ ?_ (fun _ _ => trivial) (by have := HB.out.size; omega) (by simp [maxLen]) rfl
    rfl
  by_cases e15 : K = 15
  · subst e15
    have E : Hid (keyB ⟨15, 0⟩ = [27, 127]) := hid (by rw [HZ.out]; decide)
    go_enter Try.func39, Try.ntmps39
    go_wp2_with fail
    refine (i_KeyOk (grow H.out ?_)).mono ?_
    · exact (Below.refl _ _).alloc (Nat.le_refl _) _
    rintro e w1 ⟨rfl, hb⟩
    have B0 : Bx w1 (w.heap.size) _ := Bx.below (b := w.heap.size) hb (by first | omega | (simp; done) | (simp; omega)) (by repeat (first  | (apply Bx.new; (focus (first | (simp; done) | (simp; omega) | omega))) | (apply Bx.alloc; rotate_left; (focus (first | (simp; done) | (simp; omega) | omega))) | (apply Bx.setOther; rotate_left; (focus (first | (simp; done) | (simp; omega) | omega))) | apply Bx.setSame))
    have B0o := B0.out
    have B0f := B0.fr
    have HB := hid (below_call ((Below.refl _ _).alloc (Nat.le_refl _) _) hb)
    have hs1 : w.heap.size < w1.heap.size := by have := hb.size; simp at this; omega
    have hs2 : ¬ w.heap.size = w1.heap.size := by omega
    clear hb
    rw [Hk.out]
    go_wp2
    go_ret
    refine ⟨_, [w1.heap.size], rfl, ?_, HB.out.alloc (by have := HB.out.size; omega) _⟩
    rw [E.out]
    refine OwnL.lit w1 _ _ _ ?_ (fun _ _ => trivial) (by have := HB.out.size; omega) (by simp [maxLen]) rfl
    rfl
  obtain rfl : K = 16 := by omega
  · skip
    have E : Hid (keyB ⟨16, 0⟩ = [0]) := hid (by rw [HZ.out]; decide)
    go_enter Try.func39, Try.ntmps39
    go_wp2_with fail
    refine (i_KeyOk (grow H.out ?_)).mono ?_
    · exact (Below.refl _ _).alloc (Nat.le_refl _) _
    rintro e w1 ⟨rfl, hb⟩
    have B0 : Bx w1 (w.heap.size) _ := Bx.below (b := w.heap.size) hb (by first | omega | (simp; done) | (simp; omega)) (by repeat (first  | (apply Bx.new; (focus (first | (simp; done) | (simp; omega) | omega))) | (apply Bx.alloc; rotate_left; (focus (first | (simp; done) | (simp; omega) | omega))) | (apply Bx.setOther; rotate_left; (focus (first | (simp; done) | (simp; omega) | omega))) | apply Bx.setSame))
    have B0o := B0.out
    have B0f := B0.fr
    have HB := hid (below_call ((Below.refl _ _).alloc (Nat.le_refl _) _) hb)
    have hs1 : w.heap.size < w1.heap.size := by have := hb.size; simp at this; omega
    have hs2 : ¬ w.heap.size = w1.heap.size := by omega
    clear hb
    rw [Hk.out]
    go_wp2
    go_ret
    refine ⟨_, [w1.heap.size], rfl, ?_, HB.out.alloc (by have := HB.out.size; omega) _⟩
    rw [E.out]
    refine OwnL.lit w1 _ _ _ ?_ (fun _ _ => trivial) (by have := HB.out.size; omega) (by simp [maxLen]) rfl
    rfl
theorem s_KeyBytes {w : World} {bs : List Nat} {cs : List Value} {d : KeyD} (h : Rep.pt w bs cs d) :
    Calls Try.prog 37 #[.agg cs.toArray] w (RetSP w (keyB d)) := by
  have H := hid h
  obtain ⟨rfl, rfl, h0, h1⟩ := open_Key h
  clear h
  cases hk : keyOk d
  · have HZ : Hid (keyB d = []) := hid (by simp [keyB, hk])
    have Hk := hid hk; clear hk
    go_enter Try.func37, Try.ntmps37
    go_wp2_with fail
    refine (s_KeyOk (grow H.out ?_)).mono ?_
    · exact (Below.refl _ _).alloc (Nat.le_refl _) _
    rintro e w1 ⟨rfl, hb⟩
    have HB := hid (below_call ((Below.refl _ _).alloc (Nat.le_refl _) _) hb)
    clear hb
    rw [Hk.out]
    go_wp2
    go_ret
    exact RetL.retSP (e := 5) (w := w) ⟨_, [], rfl, by rw [HZ.out]; exact OwnL.nil _ _ _, HB.out⟩
  have HZ : Hid (keyB d = if d.Kind = 1 then runeBytes d.R else if d.Kind = 2 then [b8 (d.R % 32)] else if d.Kind = 3 then [27, b8 d.R] else keyTab d.Kind) := hid (by simp [keyB, hk])
  have hK := hk
  simp only [keyOk] at hK
  obtain ⟨K, R⟩ := d
  simp only at HZ h0 h1 hK
  have Hk := hid hk; clear hk
  by_cases c1 : K = 1
  · subst c1
    have hr : I64 R := h1
    go_enter Try.func37, Try.ntmps37
    go_wp2_with fail
    refine (s_KeyOk (grow H.out ?_)).mono ?_
    · exact (Below.refl _ _).alloc (Nat.le_refl _) _
    rintro e w1 ⟨rfl, hb⟩
    have B0 : Bx w1 (w.heap.size) _ := Bx.below (b := w.heap.size) hb (by first | omega | (simp; done) | (simp; omega)) (by repeat (first  | (apply Bx.new; (focus (first | (simp; done) | (simp; omega) | omega))) | (apply Bx.alloc; rotate_left; (focus (first | (simp; done) | (simp; omega) | omega))) | (apply Bx.setOther; rotate_left; (focus (first | (simp; done) | (simp; omega) | omega))) | apply Bx.setSame))
    have B0o := B0.out
    have B0f := B0.fr
    have HB := hid (below_call ((Below.refl _ _).alloc (Nat.le_refl _) _) hb)
    have hs1 : w.heap.size < w1.heap.size := by have := hb.size; simp at this; omega
    have hs2 : ¬ w.heap.size = w1.heap.size := by omega
    clear hb
    rw [Hk.out]
    go_wp2_with fail
    refine (s_RuneBytes _ hr _).mono ?_
    rintro e w2 ⟨v, b2, rfl, hO, hb⟩
    have HO := hid (hO.mono (lo' := w.heap.size) (by have := HB.out.size; omega))
    have HB2 := hid (below_call HB.out hb)
    clear hO hb
    go_wp2
    go_ret
    exact RetL.retSP (e := 5) (w := w) ⟨_, b2, rfl, by rw [HZ.out]; exact HO.out, HB2.out⟩
  by_cases c2 : K = 2
  · subst c2
    have hr : R = 95 ∨ (97 ≤ R ∧ R ≤ 122) := by simp at hK; omega
    clear hK
    have E : Hid (keyB ⟨2, R⟩ = [b8 (R % 32)]) := hid (by rw [HZ.out, if_neg (by decide), if_pos rfl])
    have hr0 : 0 ≤ R := by omega
    go_enter Try.func37, Try.ntmps37
    go_wp2_with fail
    refine (s_KeyOk (grow H.out ?_)).mono ?_
    · exact (Below.refl _ _).alloc (Nat.le_refl _) _
    rintro e w1 ⟨rfl, hb⟩
    have B0 : Bx w1 (w.heap.size) _ := Bx.below (b := w.heap.size) hb (by first | omega | (simp; done) | (simp; omega)) (by repeat (first  | (apply Bx.new; (focus (first | (simp; done) | (simp; omega) | omega))) | (apply Bx.alloc; rotate_left; (focus (first | (simp; done) | (simp; omega) | omega))) | (apply Bx.setOther; rotate_left; (focus (first | (simp; done) | (simp; omega) | omega))) | apply Bx.setSame))
    have B0o := B0.out
    have B0f := B0.fr
    have HB := hid (below_call ((Below.refl _ _).alloc (Nat.le_refl _) _) hb)
    have hs1 : w.heap.size < w1.heap.size := by have := hb.size; simp at this; omega
    have hs2 : ¬ w.heap.size = w1.heap.size := by omega
    clear hb
    rw [Hk.out]
    go_wp2
    go_ret
    refine RetL.retSP (e := 5) (w := w) ⟨_, [w1.heap.size], rfl, ?_, HB.out.alloc (by have := HB.out.size; omega) _⟩
    rw [E.out]
    refine OwnL.lit w1 _ _ _ ?_ (fun _ _ => trivial) (by have := HB.out.size; omega) (by simp [maxLen]) rfl
    simp only [List.map_cons, List.map_nil, Scal.val]
    rw [b8_val (by omega) (by omega)]
  by_cases c3 : K = 3
  · subst c3
    have hr : 33 ≤ R ∧ R ≤ 126 := by simp at hK; omega
    clear hK
    obtain ⟨hr1, hr2⟩ := hr
    have E : Hid (keyB ⟨3, R⟩ = [27, b8 R]) := hid (by rw [HZ.out, if_neg (by decide), if_neg (by decide), if_pos rfl])
    go_enter Try.func37, Try.ntmps37
    go_wp2_with fail
    refine (s_KeyOk (grow H.out ?_)).mono ?_
    · exact (Below.refl _ _).alloc (Nat.le_refl _) _
    rintro e w1 ⟨rfl, hb⟩
    have B0 : Bx w1 (w.heap.size) _ := Bx.below (b := w.heap.size) hb (by first | omega | (simp; done) | (simp; omega)) (by repeat (first  | (apply Bx.new; (focus (first | (simp; done) | (simp; omega) | omega))) | (apply Bx.alloc; rotate_left; (focus (first | (simp; done) | (simp; omega) | omega))) | (apply Bx.setOther; rotate_left; (focus (first | (simp; done) | (simp; omega) | omega))) | apply Bx.setSame))
    have B0o := B0.out
    have B0f := B0.fr
    have HB := hid (below_call ((Below.refl _ _).alloc (Nat.le_refl _) _) hb)
    have hs1 : w.heap.size < w1.heap.size := by have := hb.size; simp at this; omega
    have hs2 : ¬ w.heap.size = w1.heap.size := by omega
    clear hb
    rw [Hk.out]
    go_wp2
    go_ret
    refine RetL.retSP (e := 5) (w := w) ⟨_, [w1.heap.size], rfl, ?_, HB.out.alloc (by have := HB.out.size; omega) _⟩
    rw [E.out]
    refine OwnL.lit w1 _ _ _ ?_ (fun _ _ => trivial) (by have := HB.out.size; omega) (by simp [maxLen]) rfl
    simp only [List.map_cons, List.map_nil, Scal.val]
    rw [b8_val (by omega) (by omega)]
    rfl
  have hR : R = 0 ∧ 4 ≤ K ∧ K ≤ 16 := by simp [c1, c2, c3] at hK; omega
  obtain ⟨rfl, hK1, hK2⟩ := hR
  clear hK h0 h1
  have hcv : ∀ (W : World) (s : ByteArray), (convert 9 34 (.string s)).run Try.prog W = .ok (.slice (some ⟨W.heap.size, 0, none⟩) s.size (grownCap W s.size 0 5)) (W.drew.alloc (.cells (bytesRow s (grownCap W s.size 0 5)) 5 ((bytesRow s (grownCap W s.size 0 5)).size, (bytesRow s (grownCap W s.size 0 5)).size + 1))) := fun W s => run_bytes_of_string W _ _ _ s Try.underlying9 Try.underlying34 Try.underlying5
  by_cases e4 : K = 4
  · subst e4
    have E : Hid (keyB ⟨4, 0⟩ = [13]) := hid (by rw [HZ.out]; decide)
    go_enter Try.func37, Try.ntmps37
    go_wp2_with fail
    refine (s_KeyOk (grow H.out ?_)).mono ?_
    · exact (Below.refl _ _).alloc (Nat.le_refl _) _
    rintro e w1 ⟨rfl, hb⟩
    have B0 : Bx w1 (w.heap.size) _ := Bx.below (b := w.heap.size) hb (by first | omega | (simp; done) | (simp; omega)) (by repeat (first  | (apply Bx.new; (focus (first | (simp; done) | (simp; omega) | omega))) | (apply Bx.alloc; rotate_left; (focus (first | (simp; done) | (simp; omega) | omega))) | (apply Bx.setOther; rotate_left; (focus (first | (simp; done) | (simp; omega) | omega))) | apply Bx.setSame))
    have B0o := B0.out
    have B0f := B0.fr
    have HB := hid (below_call ((Below.refl _ _).alloc (Nat.le_refl _) _) hb)
    have hs1 : w.heap.size < w1.heap.size := by have := hb.size; simp at this; omega
    have hs2 : ¬ w.heap.size = w1.heap.size := by omega
    clear hb
    rw [Hk.out]
    go_wp2
    go_ret
    rw [E.out]
    exact retSP_bytes ⟨#[13]⟩ _ _ _ (by simp) rfl rfl (grownCap_ge _ _ _ _) (grownCap_le_maxLen _ _ _ _ (by simp [maxLen])) (HB.out.alloc HB.out.size _)
  by_cases e5 : K = 5
  · subst e5
    have E : Hid (keyB ⟨5, 0⟩ = [127]) := hid (by rw [HZ.out]; decide)
    go_enter Try.func37, Try.ntmps37
    go_wp2_with fail
    refine (s_KeyOk (grow H.out ?_)).mono ?_
    · exact (Below.refl _ _).alloc (Nat.le_refl _) _
    rintro e w1 ⟨rfl, hb⟩
    have B0 : Bx w1 (w.heap.size) _ := Bx.below (b := w.heap.size) hb (by first | omega | (simp; done) | (simp; omega)) (by repeat (first  | (apply Bx.new; (focus (first | (simp; done) | (simp; omega) | omega))) | (apply Bx.alloc; rotate_left; (focus (first | (simp; done) | (simp; omega) | omega))) | (apply Bx.setOther; rotate_left; (focus (first | (simp; done) | (simp; omega) | omega))) | apply Bx.setSame))
    have B0o := B0.out
    have B0f := B0.fr
    have HB := hid (below_call ((Below.refl _ _).alloc (Nat.le_refl _) _) hb)
    have hs1 : w.heap.size < w1.heap.size := by have := hb.size; simp at this; omega
    have hs2 : ¬ w.heap.size = w1.heap.size := by omega
    clear hb
    rw [Hk.out]
    go_wp2
    go_ret
    rw [E.out]
    exact retSP_bytes ⟨#[127]⟩ _ _ _ (by simp) rfl rfl (grownCap_ge _ _ _ _) (grownCap_le_maxLen _ _ _ _ (by simp [maxLen])) (HB.out.alloc HB.out.size _)
  by_cases e6 : K = 6
  · subst e6
    have E : Hid (keyB ⟨6, 0⟩ = [9]) := hid (by rw [HZ.out]; decide)
    go_enter Try.func37, Try.ntmps37
    go_wp2_with fail
    refine (s_KeyOk (grow H.out ?_)).mono ?_
    · exact (Below.refl _ _).alloc (Nat.le_refl _) _
    rintro e w1 ⟨rfl, hb⟩
    have B0 : Bx w1 (w.heap.size) _ := Bx.below (b := w.heap.size) hb (by first | omega | (simp; done) | (simp; omega)) (by repeat (first  | (apply Bx.new; (focus (first | (simp; done) | (simp; omega) | omega))) | (apply Bx.alloc; rotate_left; (focus (first | (simp; done) | (simp; omega) | omega))) | (apply Bx.setOther; rotate_left; (focus (first | (simp; done) | (simp; omega) | omega))) | apply Bx.setSame))
    have B0o := B0.out
    have B0f := B0.fr
    have HB := hid (below_call ((Below.refl _ _).alloc (Nat.le_refl _) _) hb)
    have hs1 : w.heap.size < w1.heap.size := by have := hb.size; simp at this; omega
    have hs2 : ¬ w.heap.size = w1.heap.size := by omega
    clear hb
    rw [Hk.out]
    go_wp2
    go_ret
    rw [E.out]
    exact retSP_bytes ⟨#[9]⟩ _ _ _ (by simp) rfl rfl (grownCap_ge _ _ _ _) (grownCap_le_maxLen _ _ _ _ (by simp [maxLen])) (HB.out.alloc HB.out.size _)
  by_cases e7 : K = 7
  · subst e7
    have E : Hid (keyB ⟨7, 0⟩ = [27]) := hid (by rw [HZ.out]; decide)
    go_enter Try.func37, Try.ntmps37
    go_wp2_with fail
    refine (s_KeyOk (grow H.out ?_)).mono ?_
    · exact (Below.refl _ _).alloc (Nat.le_refl _) _
    rintro e w1 ⟨rfl, hb⟩
    have B0 : Bx w1 (w.heap.size) _ := Bx.below (b := w.heap.size) hb (by first | omega | (simp; done) | (simp; omega)) (by repeat (first  | (apply Bx.new; (focus (first | (simp; done) | (simp; omega) | omega))) | (apply Bx.alloc; rotate_left; (focus (first | (simp; done) | (simp; omega) | omega))) | (apply Bx.setOther; rotate_left; (focus (first | (simp; done) | (simp; omega) | omega))) | apply Bx.setSame))
    have B0o := B0.out
    have B0f := B0.fr
    have HB := hid (below_call ((Below.refl _ _).alloc (Nat.le_refl _) _) hb)
    have hs1 : w.heap.size < w1.heap.size := by have := hb.size; simp at this; omega
    have hs2 : ¬ w.heap.size = w1.heap.size := by omega
    clear hb
    rw [Hk.out]
    go_wp2
    go_ret
    rw [E.out]
    exact retSP_bytes ⟨#[27]⟩ _ _ _ (by simp) rfl rfl (grownCap_ge _ _ _ _) (grownCap_le_maxLen _ _ _ _ (by simp [maxLen])) (HB.out.alloc HB.out.size _)
  by_cases e8 : K = 8
  · subst e8
    have E : Hid (keyB ⟨8, 0⟩ = [27, 91, 65]) := hid (by rw [HZ.out]; decide)
    go_enter Try.func37, Try.ntmps37
    go_wp2_with fail
    refine (s_KeyOk (grow H.out ?_)).mono ?_
    · exact (Below.refl _ _).alloc (Nat.le_refl _) _
    rintro e w1 ⟨rfl, hb⟩
    have B0 : Bx w1 (w.heap.size) _ := Bx.below (b := w.heap.size) hb (by first | omega | (simp; done) | (simp; omega)) (by repeat (first  | (apply Bx.new; (focus (first | (simp; done) | (simp; omega) | omega))) | (apply Bx.alloc; rotate_left; (focus (first | (simp; done) | (simp; omega) | omega))) | (apply Bx.setOther; rotate_left; (focus (first | (simp; done) | (simp; omega) | omega))) | apply Bx.setSame))
    have B0o := B0.out
    have B0f := B0.fr
    have HB := hid (below_call ((Below.refl _ _).alloc (Nat.le_refl _) _) hb)
    have hs1 : w.heap.size < w1.heap.size := by have := hb.size; simp at this; omega
    have hs2 : ¬ w.heap.size = w1.heap.size := by omega
    clear hb
    rw [Hk.out]
    go_wp2
    go_ret
    rw [E.out]
    exact retSP_bytes ⟨#[27, 91, 65]⟩ _ _ _ (by simp) rfl rfl (grownCap_ge _ _ _ _) (grownCap_le_maxLen _ _ _ _ (by simp [maxLen])) (HB.out.alloc HB.out.size _)
  by_cases e9 : K = 9
  · subst e9
    have E : Hid (keyB ⟨9, 0⟩ = [27, 91, 66]) := hid (by rw [HZ.out]; decide)
    go_enter Try.func37, Try.ntmps37
    go_wp2_with fail
    refine (s_KeyOk (grow H.out ?_)).mono ?_
    · exact (Below.refl _ _).alloc (Nat.le_refl _) _
    rintro e w1 ⟨rfl, hb⟩
    have B0 : Bx w1 (w.heap.size) _ := Bx.below (b := w.heap.size) hb (by first | omega | (simp; done) | (simp; omega)) (by repeat (first  | (apply Bx.new; (focus (first | (simp; done) | (simp; omega) | omega))) | (apply Bx.alloc; rotate_left; (focus (first | (simp; done) | (simp; omega) | omega))) | (apply Bx.setOther; rotate_left; (focus (first | (simp; done) | (simp; omega) | omega))) | apply Bx.setSame))
    have B0o := B0.out
    have B0f := B0.fr
    have HB := hid (below_call ((Below.refl _ _).alloc (Nat.le_refl _) _) hb)
    have hs1 : w.heap.size < w1.heap.size := by have := hb.size; simp at this; omega
    have hs2 : ¬ w.heap.size = w1.heap.size := by omega
    clear hb
    rw [Hk.out]
    go_wp2
    go_ret
    rw [E.out]
    exact retSP_bytes ⟨#[27, 91, 66]⟩ _ _ _ (by simp) rfl rfl (grownCap_ge _ _ _ _) (grownCap_le_maxLen _ _ _ _ (by simp [maxLen])) (HB.out.alloc HB.out.size _)
  by_cases e10 : K = 10
  · subst e10
    have E : Hid (keyB ⟨10, 0⟩ = [27, 91, 67]) := hid (by rw [HZ.out]; decide)
    go_enter Try.func37, Try.ntmps37
    go_wp2_with fail
    refine (s_KeyOk (grow H.out ?_)).mono ?_
    · exact (Below.refl _ _).alloc (Nat.le_refl _) _
    rintro e w1 ⟨rfl, hb⟩
    have B0 : Bx w1 (w.heap.size) _ := Bx.below (b := w.heap.size) hb (by first | omega | (simp; done) | (simp; omega)) (by repeat (first  | (apply Bx.new; (focus (first | (simp; done) | (simp; omega) | omega))) | (apply Bx.alloc; rotate_left; (focus (first | (simp; done) | (simp; omega) | omega))) | (apply Bx.setOther; rotate_left; (focus (first | (simp; done) | (simp; omega) | omega))) | apply Bx.setSame))
    have B0o := B0.out
    have B0f := B0.fr
    have HB := hid (below_call ((Below.refl _ _).alloc (Nat.le_refl _) _) hb)
    have hs1 : w.heap.size < w1.heap.size := by have := hb.size; simp at this; omega
    have hs2 : ¬ w.heap.size = w1.heap.size := by omega
    clear hb
    rw [Hk.out]
    go_wp2
    go_ret
    rw [E.out]
    exact retSP_bytes ⟨#[27, 91, 67]⟩ _ _ _ (by simp) rfl rfl (grownCap_ge _ _ _ _) (grownCap_le_maxLen _ _ _ _ (by simp [maxLen])) (HB.out.alloc HB.out.size _)
  by_cases e11 : K = 11
  · subst e11
    have E : Hid (keyB ⟨11, 0⟩ = [27, 91, 68]) := hid (by rw [HZ.out]; decide)
    go_enter Try.func37, Try.ntmps37
    go_wp2_with fail
    refine (s_KeyOk (grow H.out ?_)).mono ?_
    · exact (Below.refl _ _).alloc (Nat.le_refl _) _
    rintro e w1 ⟨rfl, hb⟩
    have B0 : Bx w1 (w.heap.size) _ := Bx.below (b := w.heap.size) hb (by first | omega | (simp; done) | (simp; omega)) (by repeat (first  | (apply Bx.new; (focus (first | (simp; done) | (simp; omega) | omega))) | (apply Bx.alloc; rotate_left; (focus (first | (simp; done) | (simp; omega) | omega))) | (apply Bx.setOther; rotate_left; (focus (first | (simp; done) | (simp; omega) | omega))) | apply Bx.setSame))
    have B0o := B0.out
    have B0f := B0.fr
    have HB := hid (below_call ((Below.refl _ _).alloc (Nat.le_refl _) _) hb)
    have hs1 : w.heap.size < w1.heap.size := by have := hb.size; simp at this; omega
    have hs2 : ¬ w.heap.size = w1.heap.size := by omega
    clear hb
    rw [Hk.out]
    go_wp2
    go_ret
    rw [E.out]
    exact retSP_bytes ⟨#[27, 91, 68]⟩ _ _ _ (by simp) rfl rfl (grownCap_ge _ _ _ _) (grownCap_le_maxLen _ _ _ _ (by simp [maxLen])) (HB.out.alloc HB.out.size _)
  by_cases e12 : K = 12
  · subst e12
    have E : Hid (keyB ⟨12, 0⟩ = [27, 91, 72]) := hid (by rw [HZ.out]; decide)
    go_enter Try.func37, Try.ntmps37
    go_wp2_with fail
    refine (s_KeyOk (grow H.out ?_)).mono ?_
    · exact (Below.refl _ _).alloc (Nat.le_refl _) _
    rintro e w1 ⟨rfl, hb⟩
    have B0 : Bx w1 (w.heap.size) _ := Bx.below (b := w.heap.size) hb (by first | omega | (simp; done) | (simp; omega)) (by repeat (first  | (apply Bx.new; (focus (first | (simp; done) | (simp; omega) | omega))) | (apply Bx.alloc; rotate_left; (focus (first | (simp; done) | (simp; omega) | omega))) | (apply Bx.setOther; rotate_left; (focus (first | (simp; done) | (simp; omega) | omega))) | apply Bx.setSame))
    have B0o := B0.out
    have B0f := B0.fr
    have HB := hid (below_call ((Below.refl _ _).alloc (Nat.le_refl _) _) hb)
    have hs1 : w.heap.size < w1.heap.size := by have := hb.size; simp at this; omega
    have hs2 : ¬ w.heap.size = w1.heap.size := by omega
    clear hb
    rw [Hk.out]
    go_wp2
    go_ret
    rw [E.out]
    exact retSP_bytes ⟨#[27, 91, 72]⟩ _ _ _ (by simp) rfl rfl (grownCap_ge _ _ _ _) (grownCap_le_maxLen _ _ _ _ (by simp [maxLen])) (HB.out.alloc HB.out.size _)
  by_cases e13 : K = 13
  · subst e13
    have E : Hid (keyB ⟨13, 0⟩ = [27, 91, 70]) := hid (by rw [HZ.out]; decide)
    go_enter Try.func37, Try.ntmps37
    go_wp2_with fail
    refine (s_KeyOk (grow H.out ?_)).mono ?_
    · exact (Below.refl _ _).alloc (Nat.le_refl _) _
    rintro e w1 ⟨rfl, hb⟩
    have B0 : Bx w1 (w.heap.size) _ := Bx.below (b := w.heap.size) hb (by first | omega | (simp; done) | (simp; omega)) (by repeat (first  | (apply Bx.new; (focus (first | (simp; done) | (simp; omega) | omega))) | (apply Bx.alloc; rotate_left; (focus (first | (simp; done) | (simp; omega) | omega))) | (apply Bx.setOther; rotate_left; (focus (first | (simp; done) | (simp; omega) | omega))) | apply Bx.setSame))
    have B0o := B0.out
    have B0f := B0.fr
    have HB := hid (below_call ((Below.refl _ _).alloc (Nat.le_refl _) _) hb)
    have hs1 : w.heap.size < w1.heap.size := by have := hb.size; simp at this; omega
    have hs2 : ¬ w.heap.size = w1.heap.size := by omega
    clear hb
    rw [Hk.out]
    go_wp2
    go_ret
    rw [E.out]
    exact retSP_bytes ⟨#[27, 91, 70]⟩ _ _ _ (by simp) rfl rfl (grownCap_ge _ _ _ _) (grownCap_le_maxLen _ _ _ _ (by simp [maxLen])) (HB.out.alloc HB.out.size _)
  by_cases e14 : K = 14
  · subst e14
    have E : Hid (keyB ⟨14, 0⟩ = [27, 91, 51, 126]) := hid (by rw [HZ.out]; decide)
    go_enter Try.func37, Try.ntmps37
    go_wp2_with fail
    refine (s_KeyOk (grow H.out ?_)).mono ?_
    · exact (Below.refl _ _).alloc (Nat.le_refl _) _
    rintro e w1 ⟨rfl, hb⟩
    have B0 : Bx w1 (w.heap.size) _ := Bx.below (b := w.heap.size) hb (by first | omega | (simp; done) | (simp; omega)) (by repeat (first  | (apply Bx.new; (focus (first | (simp; done) | (simp; omega) | omega))) | (apply Bx.alloc; rotate_left; (focus (first | (simp; done) | (simp; omega) | omega))) | (apply Bx.setOther; rotate_left; (focus (first | (simp; done) | (simp; omega) | omega))) | apply Bx.setSame))
    have B0o := B0.out
    have B0f := B0.fr
    have HB := hid (below_call ((Below.refl _ _).alloc (Nat.le_refl _) _) hb)
    have hs1 : w.heap.size < w1.heap.size := by have := hb.size; simp at this; omega
    have hs2 : ¬ w.heap.size = w1.heap.size := by omega
    clear hb
    rw [Hk.out]
    go_wp2
    go_ret
    rw [E.out]
    exact retSP_bytes ⟨#[27, 91, 51, 126]⟩ _ _ _ (by simp) rfl rfl (grownCap_ge _ _ _ _) (grownCap_le_maxLen _ _ _ _ (by simp [maxLen])) (HB.out.alloc HB.out.size _)
  by_cases e15 : K = 15
  · subst e15
    have E : Hid (keyB ⟨15, 0⟩ = [27, 127]) := hid (by rw [HZ.out]; decide)
    go_enter Try.func37, Try.ntmps37
    go_wp2_with fail
    refine (s_KeyOk (grow H.out ?_)).mono ?_
    · exact (Below.refl _ _).alloc (Nat.le_refl _) _
    rintro e w1 ⟨rfl, hb⟩
    have B0 : Bx w1 (w.heap.size) _ := Bx.below (b := w.heap.size) hb (by first | omega | (simp; done) | (simp; omega)) (by repeat (first  | (apply Bx.new; (focus (first | (simp; done) | (simp; omega) | omega))) | (apply Bx.alloc; rotate_left; (focus (first | (simp; done) | (simp; omega) | omega))) | (apply Bx.setOther; rotate_left; (focus (first | (simp; done) | (simp; omega) | omega))) | apply Bx.setSame))
    have B0o := B0.out
    have B0f := B0.fr
    have HB := hid (below_call ((Below.refl _ _).alloc (Nat.le_refl _) _) hb)
    have hs1 : w.heap.size < w1.heap.size := by have := hb.size; simp at this; omega
    have hs2 : ¬ w.heap.size = w1.heap.size := by omega
    clear hb
    rw [Hk.out]
    go_wp2
    go_ret
    rw [E.out]
    exact retSP_bytes ⟨#[27, 127]⟩ _ _ _ (by simp) rfl rfl (grownCap_ge _ _ _ _) (grownCap_le_maxLen _ _ _ _ (by simp [maxLen])) (HB.out.alloc HB.out.size _)
  obtain rfl : K = 16 := by omega
  · skip
    have E : Hid (keyB ⟨16, 0⟩ = [0]) := hid (by rw [HZ.out]; decide)
    go_enter Try.func37, Try.ntmps37
    go_wp2_with fail
    refine (s_KeyOk (grow H.out ?_)).mono ?_
    · exact (Below.refl _ _).alloc (Nat.le_refl _) _
    rintro e w1 ⟨rfl, hb⟩
    have B0 : Bx w1 (w.heap.size) _ := Bx.below (b := w.heap.size) hb (by first | omega | (simp; done) | (simp; omega)) (by repeat (first  | (apply Bx.new; (focus (first | (simp; done) | (simp; omega) | omega))) | (apply Bx.alloc; rotate_left; (focus (first | (simp; done) | (simp; omega) | omega))) | (apply Bx.setOther; rotate_left; (focus (first | (simp; done) | (simp; omega) | omega))) | apply Bx.setSame))
    have B0o := B0.out
    have B0f := B0.fr
    have HB := hid (below_call ((Below.refl _ _).alloc (Nat.le_refl _) _) hb)
    have hs1 : w.heap.size < w1.heap.size := by have := hb.size; simp at this; omega
    have hs2 : ¬ w.heap.size = w1.heap.size := by omega
    clear hb
    rw [Hk.out]
    go_wp2
    go_ret
    rw [E.out]
    exact retSP_bytes ⟨#[0]⟩ _ _ _ (by simp) rfl rfl (grownCap_ge _ _ _ _) (grownCap_le_maxLen _ _ _ _ (by simp [maxLen])) (HB.out.alloc HB.out.size _)
theorem i_KeyBytesS {w : World} {bs : List Nat} {cs : List Value} {d : KeyD} (h : Rep.pt w bs cs d) :
    Calls Try.prog 39 #[.agg cs.toArray] w (RetS w (keyB d)) := (i_KeyBytes h).mono fun _ _ h => h.retS
end Go.Proofs.Ytodbnphofjpmeaa
