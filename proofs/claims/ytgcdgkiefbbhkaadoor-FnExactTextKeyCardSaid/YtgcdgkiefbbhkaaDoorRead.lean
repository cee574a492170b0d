/- A rune read out of bytes (printed by genread.py). -/
import Derived.Test.YtgcdgkiefbbhkaaDoorText
import Derived.Test.YtgcdgkiefbbhkaaDoorLate
import Derived.Test.YtgcdgkiefbbhkaaDoorRune
import Derived.BigQuiet
set_option linter.unusedSimpArgs false
set_option linter.unusedVariables false
namespace Go.G6
open Go.RowKit Rep
def bI (x : List UInt8) (j : Nat) : Int := ((x.getD j 0).toNat : Int)
theorem bI_range (x : List UInt8) (j : Nat) : 0 ≤ bI x j ∧ bI x j < 256 := by
  unfold bI; have := (x.getD j 0).toNat_lt; omega
theorem bI_drop {xs : List UInt8} {k j : Nat} (h : k + j < xs.length) : bI (xs.drop k) j = (xs[k + j].toNat : Int) := by
  unfold bI; simp [List.getD, List.getElem?_drop, h]
/-- How long a rune is by its first byte. -/
def rdN (c : Int) : Nat := if c < 128 then 1 else if c < 192 then 0 else if c < 224 then 2 else if c < 240 then 3 else if c < 248 then 4 else 0
def rdSub (s : Nat) : Int := if s = 2 then 192 else if s = 3 then 224 else if s = 4 then 240 else 0
def rdF (x : List UInt8) : Nat → Nat → Int → Int
  | 0, _, r => r
  | m + 1, j, r => rdF x m (j + 1) (r * 64 + bI x j - 128)
def rdVal (s : Nat) (x : List UInt8) : Int := rdF x (s - 1) 1 (bI x 0 - rdSub s)
def rdHit (s : Nat) (x : List UInt8) : Bool := runeBytes (rdVal s x) == x.take s
def rdOk (x : List UInt8) : Bool := (decide (1 ≤ rdN (bI x 0)) && decide (rdN (bI x 0) ≤ x.length)) && rdHit (rdN (bI x 0)) x
def rdR (x : List UInt8) : Int := if rdOk x then rdVal (rdN (bI x 0)) x else 0
def rdL (x : List UInt8) : Nat := if rdOk x then rdN (bI x 0) else 0
theorem rdN_le (c : Int) : rdN c ≤ 4 := by unfold rdN; (repeat' split) <;> omega
theorem rd_key {x : List UInt8} {s : Nat} (hs1 : 1 ≤ s) (hl : s ≤ x.length) (h : rdHit s x = true) : rdN (bI x 0) = s := by
  rw [rdHit, beq_iff_eq] at h
  obtain ⟨y, xs, rfl⟩ : ∃ y xs, x = y :: xs := by
    cases x with
    | nil => simp at hl; omega
    | cons y xs => exact ⟨y, xs, rfl⟩
  have hlen : (runeBytes (rdVal s (y :: xs))).length = s := by rw [h, List.length_take]; omega
  have hhd : (runeBytes (rdVal s (y :: xs))).head? = some y := by
    rw [h]
    cases s with
    | zero => omega
    | succ n => rfl
  have hb0 : bI (y :: xs) 0 = (y.toNat : Int) := rfl
  rw [hb0]
  generalize rdVal s (y :: xs) = r at h hlen hhd
  unfold runeBytes at hhd hlen
  by_cases hk : runeOk r = true
  · rw [if_pos hk] at hhd hlen
    have hr : 0 ≤ r ∧ r ≤ 1114111 := by simp [runeOk] at hk; omega
    by_cases h1 : r < 128
    · rw [if_pos h1] at hhd hlen
      simp only [List.head?_cons, Option.some.injEq, List.length_cons, List.length_nil] at hhd hlen
      have q := b8_val (x := r) hr.1 (by omega)
      rw [hhd] at q
      rw [q]; unfold rdN; rw [if_pos h1]; omega
    rw [if_neg h1] at hhd hlen
    by_cases h2 : r < 2048
    · rw [if_pos h2] at hhd hlen
      simp only [List.head?_cons, Option.some.injEq, List.length_cons, List.length_nil] at hhd hlen
      have q := b8_val (x := 192 + r / 64) (by omega) (by omega)
      rw [hhd] at q
      rw [q]; unfold rdN; (repeat' split) <;> omega
    rw [if_neg h2] at hhd hlen
    by_cases h3 : r < 65536
    · rw [if_pos h3] at hhd hlen
      simp only [List.head?_cons, Option.some.injEq, List.length_cons, List.length_nil] at hhd hlen
      have q := b8_val (x := 224 + r / 4096) (by omega) (by omega)
      rw [hhd] at q
      rw [q]; unfold rdN; (repeat' split) <;> omega
    · rw [if_neg h3] at hhd hlen
      simp only [List.head?_cons, Option.some.injEq, List.length_cons, List.length_nil] at hhd hlen
      have q := b8_val (x := 240 + r / 262144) (by omega) (by omega)
      rw [hhd] at q
      rw [q]; unfold rdN; (repeat' split) <;> omega
  · rw [if_neg hk] at hlen
    simp at hlen; omega
theorem rd_one {x : List UInt8} {c : Int} (h0 : bI x 0 = c) (hl : 1 ≤ x.length) (hc : c < 128) : rdR x = c ∧ rdL x = 1 := by
  have hr := bI_range x 0
  have hn : rdN (bI x 0) = 1 := by rw [h0]; unfold rdN; rw [if_pos hc]
  have hv : rdVal 1 x = c := by unfold rdVal rdSub; simp [rdF, h0]
  have hh : rdHit 1 x = true := by
    rw [rdHit, hv, beq_iff_eq]
    obtain ⟨y, xs, rfl⟩ : ∃ y xs, x = y :: xs := by
      cases x with
      | nil => simp at hl
      | cons y xs => exact ⟨y, xs, rfl⟩
    have hy : (y.toNat : Int) = c := h0
    have hk : runeOk c = true := by simp [runeOk]; omega
    rw [runeBytes, if_pos hk, if_pos hc]
    show [b8 c] = [y]
    rw [← hy]; simp [b8]
  have ho : rdOk x = true := by rw [rdOk, hn, hh]; simp; omega
  rw [rdR, rdL, if_pos ho, if_pos ho, hn, hv]; exact ⟨rfl, rfl⟩
theorem rd_none {x : List UInt8} (h : rdN (bI x 0) = 0) : rdR x = 0 ∧ rdL x = 0 := by
  have ho : rdOk x = false := by rw [rdOk, h]; rfl
  rw [rdR, rdL, ho]; exact ⟨rfl, rfl⟩
theorem rd_short {x : List UInt8} (h : x.length < rdN (bI x 0)) : rdR x = 0 ∧ rdL x = 0 := by
  have ho : rdOk x = false := by rw [rdOk, decide_eq_false (by omega : ¬ rdN (bI x 0) ≤ x.length)]; simp
  rw [rdR, rdL, ho]; exact ⟨rfl, rfl⟩
theorem rd_hit {x : List UInt8} {n : Nat} (hn : rdN (bI x 0) = n) (h1 : 1 ≤ n) (hl : n ≤ x.length) (h : rdHit n x = true) : rdR x = rdVal n x ∧ rdL x = n := by
  have ho : rdOk x = true := by rw [rdOk, hn, h]; simp; omega
  rw [rdR, rdL, if_pos ho, if_pos ho, hn]; exact ⟨rfl, rfl⟩
theorem rd_miss {x : List UInt8} {n : Nat} (hn : rdN (bI x 0) = n) (h : rdHit n x = false) : rdR x = 0 ∧ rdL x = 0 := by
  have ho : rdOk x = false := by rw [rdOk, hn, h]; simp
  rw [rdR, rdL, ho]; exact ⟨rfl, rfl⟩
theorem rd_no {x : List UInt8} (h : rdOk x = false) : rdR x = 0 ∧ rdL x = 0 := by rw [rdR, rdL, h]; exact ⟨rfl, rfl⟩
theorem rd_next {x : List UInt8} {s : Nat} (hN : rdOk x = true → s ≤ rdN (bI x 0)) (hh : rdHit s x = false) : rdOk x = true → s + 1 ≤ rdN (bI x 0) := fun h => by
  have q := hN h
  by_cases e : rdN (bI x 0) = s
  · simp only [rdOk, e, hh, Bool.and_false] at h; cases h
  · omega
/-- How great the number is behind j more bytes. -/
def rdB (j : Nat) (v : Int) : Prop := (j = 0 → -300 ≤ v ∧ v ≤ 300) ∧ (j = 1 → -30000 ≤ v ∧ v ≤ 30000) ∧ (j = 2 → -3000000 ≤ v ∧ v ≤ 3000000) ∧ (j = 3 → -300000000 ≤ v ∧ v ≤ 300000000)
theorem rdB_step {j : Nat} {v y : Int} (h : rdB j v) (hj : j < 3) (hy : 0 ≤ y ∧ y < 256) : rdB (j + 1) (v * 64 + y - 128) := by
  obtain ⟨h0, h1, h2, h3⟩ := h
  rcases (by omega : j = 0 ∨ j = 1 ∨ j = 2) with rfl | rfl | rfl
  · have := h0 rfl; unfold rdB; omega
  · have := h1 rfl; unfold rdB; omega
  · have := h2 rfl; unfold rdB; omega
theorem rdB_le {j : Nat} {v : Int} (h : rdB j v) (hj : j ≤ 3) : -300000000 ≤ v ∧ v ≤ 300000000 := by
  obtain ⟨h0, h1, h2, h3⟩ := h
  rcases (by omega : j = 0 ∨ j = 1 ∨ j = 2 ∨ j = 3) with rfl | rfl | rfl | rfl
  · have := h0 rfl; omega
  · have := h1 rfl; omega
  · have := h2 rfl; omega
  · have := h3 rfl; omega
theorem strne {a b : List UInt8} (h : a ≠ b) : (⟨a.toArray⟩ : ByteArray) ≠ ⟨b.toArray⟩ := fun e => h (by simpa using e)
theorem strbe {a b : List UInt8} (h : a ≠ b) : ((⟨a.toArray⟩ : ByteArray) == ⟨b.toArray⟩) = false := by
  show (a.toArray == b.toArray) = false
  rw [beq_eq_false_iff_ne]; exact fun e => h (by simpa using e)
theorem strbn {a b : List UInt8} (h : a ≠ b) : ((⟨a.toArray⟩ : ByteArray) != ⟨b.toArray⟩) = true := by rw [bne, strbe h]; rfl
end Go.G6
namespace Go.Proofs.YtgcdgkiefbbhkaaDoor
open Go.RowKit Go.G6
set_option maxHeartbeats 30000000
set_option maxRecDepth 10000
theorem i_RuneRead {w : World} {bs : List Nat} {a : Option Addr} {len cap : Nat} {xs : List UInt8} (h : Slc w bs a len cap xs) (k : Nat) (hk : k < xs.length) :
    Calls Tryd.prog 46 #[.slice a len cap, .int .i64 (k : Int)] w fun e w' => e = .returned (.tuple #[.int .i64 (rdR (xs.drop k)), .int .i64 ((rdL (xs.drop k) : Nat) : Int)]) ∧ Below w.heap.size w w' := by
  obtain rfl := h.len_eq
  obtain ⟨i0, hi, hz0, hz1, hz2⟩ := info_parts info_byte
  have H := hid h
  have hmx := h.max
  obtain ⟨b, off, ea, hck⟩ := h.byte k hk
  obtain ⟨c, hc⟩ : ∃ c : Int, c = (xs[k].toNat : Int) := ⟨_, rfl⟩
  rw [← hc] at hck
  have hx0 : bI (xs.drop k) 0 = c := by rw [hc]; exact bI_drop (j := 0) hk
  have hcr : 0 ≤ c ∧ c < 256 := by rw [← hx0]; exact bI_range _ _
  have hkl : (k : Int) < (xs.length : Int) := by omega
  have hdl : (xs.drop k).length = xs.length - k := List.length_drop
  have HX0 := hid hx0; have HDL := hid hdl; clear hc hx0 hdl h
  obtain rfl := ea
  obtain ⟨K, hK⟩ : ∃ K : Int, K = (k : Int) := ⟨_, rfl⟩
  rw [← hK] at hkl ⊢
  have hK0 : 0 ≤ K := by omega
  have hKn : K.toNat = k := by omega
  have hK1 : ¬ K < 0 := by omega
  have hK2 : ¬ K ≥ (xs.length : Int) := by omega
  clear hK
  rcases (by omega : c < 128 ∨ (128 ≤ c ∧ c < 192) ∨ 248 ≤ c ∨ (192 ≤ c ∧ c < 224) ∨ (224 ≤ c ∧ c < 240) ∨ (240 ≤ c ∧ c < 248)) with q | q | q | q | q | q
  · have E := hid (rd_one HX0.out (by rw [HDL.out]; omega) q)
    go_enter Tryd.func46, Tryd.ntmps46
    go_wp2
    refine bodyPost_ret (v := .tuple #[.int .i64 (c), .int .i64 (1)]) (by simp [results, Tryd.results46, go_sem]) rfl ?_
    exact ⟨by rw [E.out.1, E.out.2]; rfl, Below.refl _ _⟩
  · have E := hid (rd_none (x := xs.drop k) (by rw [HX0.out]; unfold rdN; (repeat' split) <;> omega))
    have T0 : Hid (inB c 192 223 = false) := hid (by unfold inB; first | exact decide_eq_true (by omega) | exact decide_eq_false (by omega))
    have T1 : Hid (inB c 224 239 = false) := hid (by unfold inB; first | exact decide_eq_true (by omega) | exact decide_eq_false (by omega))
    have T2 : Hid (inB c 240 247 = false) := hid (by unfold inB; first | exact decide_eq_true (by omega) | exact decide_eq_false (by omega))
    have hge : ¬ c < 128 := by omega
    clear q
    go_enter Tryd.func46, Tryd.ntmps46
    go_wp2_with fail
    refine (i_in _ _ _ _).mono ?_
    rintro e w' ⟨rfl, rfl⟩
    rw [T0.out]
    go_wp2_with fail
    refine (i_in _ _ _ _).mono ?_
    rintro e w' ⟨rfl, rfl⟩
    rw [T1.out]
    go_wp2_with fail
    refine (i_in _ _ _ _).mono ?_
    rintro e w' ⟨rfl, rfl⟩
    rw [T2.out]
    go_wp2
    refine bodyPost_ret (v := .tuple #[.int .i64 (0), .int .i64 (0)]) (by simp [results, Tryd.results46, go_sem]) rfl ?_
    exact ⟨by rw [E.out.1, E.out.2]; rfl, Below.refl _ _⟩
  · have E := hid (rd_none (x := xs.drop k) (by rw [HX0.out]; unfold rdN; (repeat' split) <;> omega))
    have T0 : Hid (inB c 192 223 = false) := hid (by unfold inB; first | exact decide_eq_true (by omega) | exact decide_eq_false (by omega))
    have T1 : Hid (inB c 224 239 = false) := hid (by unfold inB; first | exact decide_eq_true (by omega) | exact decide_eq_false (by omega))
    have T2 : Hid (inB c 240 247 = false) := hid (by unfold inB; first | exact decide_eq_true (by omega) | exact decide_eq_false (by omega))
    have hge : ¬ c < 128 := by omega
    clear q
    go_enter Tryd.func46, Tryd.ntmps46
    go_wp2_with fail
    refine (i_in _ _ _ _).mono ?_
    rintro e w' ⟨rfl, rfl⟩
    rw [T0.out]
    go_wp2_with fail
    refine (i_in _ _ _ _).mono ?_
    rintro e w' ⟨rfl, rfl⟩
    rw [T1.out]
    go_wp2_with fail
    refine (i_in _ _ _ _).mono ?_
    rintro e w' ⟨rfl, rfl⟩
    rw [T2.out]
    go_wp2
    refine bodyPost_ret (v := .tuple #[.int .i64 (0), .int .i64 (0)]) (by simp [results, Tryd.results46, go_sem]) rfl ?_
    exact ⟨by rw [E.out.1, E.out.2]; rfl, Below.refl _ _⟩
  · have HN := hid (show rdN (bI (xs.drop k) 0) = 2 by rw [HX0.out]; unfold rdN; (repeat' split) <;> omega)
    have T0 : Hid (inB c 192 223 = true) := hid (by unfold inB; first | exact decide_eq_true (by omega) | exact decide_eq_false (by omega))
    have hge : ¬ c < 128 := by omega
    have hw1 : wrap64 (c - 192) = c - 192 := IntWalk.wrap64_in _ (by omega)
    have hw2 : wrap64 ((xs.length : Int) - 2) = (xs.length : Int) - 2 := IntWalk.wrap64_in _ (by omega)
    have hw3 : IntKind.i64.wrap (c - 192) = c - 192 := wrapI (by omega)
    have hw4 : IntKind.i64.wrap ((xs.length : Int) - 2) = (xs.length : Int) - 2 := wrapI (by omega)
    by_cases hf : K > (xs.length : Int) - 2
    · have E := hid (rd_short (x := xs.drop k) (by rw [HN.out, HDL.out]; omega))
      go_enter Tryd.func46, Tryd.ntmps46
      go_wp2_with fail
      refine (i_in _ _ _ _).mono ?_
      rintro e w' ⟨rfl, rfl⟩
      rw [T0.out]
      go_wp2
      refine bodyPost_ret (v := .tuple #[.int .i64 (0), .int .i64 (0)]) (by simp [results, Tryd.results46, go_sem]) rfl ?_
      exact ⟨by rw [E.out.1, E.out.2]; rfl, Below.refl _ _⟩
    have hkn : k + 2 ≤ xs.length := by omega
    obtain ⟨p1, bs1, hcut1, _, _, hS1⟩ := H.out.cut_lh 32 Tryd.underlying32 hi hz1 (K + 1) (K + 2) (by omega) (by omega) (by omega)
    obtain ⟨p2, bs2, hcut2, _, _, hS2⟩ := H.out.cut_lh 32 Tryd.underlying32 hi hz1 K (K + 2) (by omega) (by omega) (by omega)
    simp only [hKn, show (K + 1).toNat = k + 1 by omega, show (K + 2).toNat = k + 2 by omega, show k + 2 - (k + 1) = 1 by omega, show k + 2 - k = 2 by omega] at hcut1 hcut2 hS1 hS2
    have hlist : (xs.take (k + 2)).drop k = (xs.drop k).take 2 := by rw [List.drop_take]; congr 1; omega
    rw [hlist] at hS2
    have HP1 := hid (show wrap64 (K + 1) = K + 1 from IntWalk.wrap64_in _ (by omega))
    have HP2 := hid (show wrap64 (K + 2) = K + 2 from IntWalk.wrap64_in _ (by omega))
    have HP4 := hid (show IntKind.i64.wrap (K + 2) = K + 2 from wrapI (by omega))
    have HS1 := hid hS1; have HS2 := hid hS2; clear hS1 hS2 hlist
    go_enter Tryd.func46, Tryd.ntmps46
    go_wp2_with fail
    refine (i_in _ _ _ _).mono ?_
    rintro e w' ⟨rfl, rfl⟩
    rw [T0.out]
    have hp1 := HP1.out; have hp2 := HP2.out
    go_wp2_with fail
    clear hp1 hp2
    go_loopw [8, 57] (fun r i wr => ∃ (j : Nat) (v : Int), j ≤ 1 ∧ i = .int .i64 (j : Int) ∧ r = .int .i64 v ∧ rdB j v ∧ rdF (xs.drop k) (1 - j) (j + 1) v = rdVal 2 (xs.drop k) ∧ wr = w) (fun _ i _ => 1 - (intOf i).toNat)
    case atStart => exact ⟨0, c - 192, by omega, rfl, rfl, by unfold rdB; omega, by rw [rdVal, HX0.out]; rfl, rfl⟩
    case round =>
      obtain ⟨j, v, hj, rfl, rfl, hB, hF, rfl⟩ := hrel
      have hv := rdB_le hB (by omega)
      by_cases hlt : j < 1
      rotate_left
      · obtain rfl : j = 1 := by omega
        have hF2 : v = rdVal 2 (xs.drop k) := hF
        have HF := hid hF2; clear hF hF2 hB
        have h64 := hid (show I64 v by unfold I64; omega)
        have hp2 := HP2.out; have hp4 := HP4.out
        go_wp2_with fail
        refine late_start (fun W => Below wr.heap.size wr W) 99 (by kernel_rfl) ?_ (fun hS => ?_)
        · exact (Below.refl _ _).drew
        refine late_genw (fun U0 hU => ?_)
        rw [← hU] at hS
        clear hU
        refine late_take (i := 0) (v := ?_) rfl (by kernel_rfl) (fun _ _ _ h => h) (by rfl) ?_ (by assumption) ?_
        rotate_left
        · (intro w9 hS9; (try dsimp only at hS9); (try go_split_ands); go_simp <;> with_reducible rfl)
        try simp only [Act.put, List.setIfInBounds_toArray, List.set_cons_zero, List.set_cons_succ]
        refine late_take (i := 3) (v := ?_) rfl (by kernel_rfl) (fun _ _ _ h => h) (by rfl) ?_ (by assumption) ?_
        rotate_left
        · (intro w9 hS9; (try dsimp only at hS9); (try go_split_ands); go_simp <;> with_reducible rfl)
        try simp only [Act.put, List.setIfInBounds_toArray, List.set_cons_zero, List.set_cons_succ]
        refine late_take (i := 4) (v := ?_) rfl (by kernel_rfl) (fun _ _ _ h => h) (by rfl) ?_ (by assumption) ?_
        rotate_left
        · (intro w9 hS9; (try dsimp only at hS9); (try go_split_ands); go_simp <;> with_reducible rfl)
        try simp only [Act.put, List.setIfInBounds_toArray, List.set_cons_zero, List.set_cons_succ]
        refine late_take (i := 5) (v := ?_) rfl (by kernel_rfl) (fun _ _ _ h => h) (by rfl) ?_ (by assumption) ?_
        rotate_left
        · (intro w9 hS9; (try dsimp only at hS9); (try go_split_ands); go_simp <;> with_reducible rfl)
        try simp only [Act.put, List.setIfInBounds_toArray, List.set_cons_zero, List.set_cons_succ]
        refine late_take (i := 6) (v := ?_) rfl (by kernel_rfl) (fun _ _ _ h => h) (by rfl) ?_ (by assumption) ?_
        rotate_left
        · (intro w9 hS9; (try dsimp only at hS9); (try go_split_ands); go_simp <;> with_reducible rfl)
        try simp only [Act.put, List.setIfInBounds_toArray, List.set_cons_zero, List.set_cons_succ]
        refine late_take (i := 7) (v := ?_) rfl (by kernel_rfl) (fun _ _ _ h => h) (by rfl) ?_ (by assumption) ?_
        rotate_left
        · (intro w9 hS9; (try dsimp only at hS9); (try go_split_ands); go_simp <;> with_reducible rfl)
        try simp only [Act.put, List.setIfInBounds_toArray, List.set_cons_zero, List.set_cons_succ]
        refine late_take (i := 8) (v := ?_) rfl (by kernel_rfl) (fun _ _ _ h => h) (by rfl) ?_ (by assumption) ?_
        rotate_left
        · (intro w9 hS9; (try dsimp only at hS9); (try go_split_ands); go_simp <;> with_reducible rfl)
        try simp only [Act.put, List.setIfInBounds_toArray, List.set_cons_zero, List.set_cons_succ]
        refine late_take (i := 9) (v := ?_) rfl (by kernel_rfl) (fun _ _ _ h => h) (by rfl) ?_ (by assumption) ?_
        rotate_left
        · (intro w9 hS9; have q9 := (HS2.out.grow hS9).text (P := Tryd.prog) 32 9 5 Tryd.underlying32 Tryd.underlying5 Tryd.underlying9; go_simp <;> with_reducible rfl)
        try simp only [Act.put, List.setIfInBounds_toArray, List.set_cons_zero, List.set_cons_succ]
        refine late_one (i := 1) rfl (by kernel_rfl) (fun K9 hK9 => ?_)
        go_simp
        refine (i_RuneBytes v h64.out _).mono ?_
        rintro e U1 ⟨v1, b1, rfl, hO1, hst⟩
        obtain ⟨a1, c1, b1x, rfl, _, hS1⟩ := hO1.slc
        have hcv := hS1.text (P := Tryd.prog) 32 9 5 Tryd.underlying32 Tryd.underlying5 Tryd.underlying9
        clear hO1 hS1
        go_wp2_with fail
        refine hK9.out _ _ (fun _ => ?_) (fun hS9 => ?_)
        · (try dsimp only); exact hS.trans (hst.mono hS.size)
        replace hS := hS9 (by decide)
        clear hK9 K9 hS9
        try simp only [Act.put, List.setIfInBounds_toArray, List.set_cons_zero, List.set_cons_succ]
        refine late_one (i := 2) rfl (by kernel_rfl) (fun K9 hK9 => ?_)
        go_simp
        refine hK9.out _ _ (fun _ => ?_) (fun hS9 => ?_)
        · (try dsimp only); exact hS
        replace hS := hS9 (by decide)
        clear hK9 K9 hS9
        try simp only [Act.put, List.setIfInBounds_toArray, List.set_cons_zero, List.set_cons_succ]
        refine late_one (i := 10) rfl (by kernel_rfl) (fun K9 hK9 => ?_)
        cases hh : rdHit 2 (xs.drop k)
        · have hne := hh; rw [rdHit, ← HF.out, beq_eq_false_iff_ne] at hne
          have E := hid (rd_miss HN.out hh)
          have hne5 := hh; rw [rdHit, ← HF.out] at hne5
          clear hh
          go_simp
          refine hK9.out _ _ (fun _ => ?_) (fun hS9 => ?_)
          · (try dsimp only); exact hS
          replace hS := hS9 (by decide)
          clear hK9 K9 hS9
          try simp only [Act.put, List.setIfInBounds_toArray, List.set_cons_zero, List.set_cons_succ]
          refine late_done (by kernel_rfl) ?_ _
          go_wp2
          refine bodyPost_ret (v := .tuple #[.int .i64 (0), .int .i64 (0)]) (by simp [results, Tryd.results46, go_sem]) rfl ?_
          exact ⟨by rw [E.out.1, E.out.2]; rfl, hS⟩
        · have hne := hh; rw [rdHit, ← HF.out, beq_iff_eq] at hne
          have E := hid (rd_hit HN.out (by omega) (by rw [HDL.out]; omega) hh)
          rw [hne]
          clear hh hne
          go_simp
          refine hK9.out _ _ (fun _ => ?_) (fun hS9 => ?_)
          · (try dsimp only); exact hS
          replace hS := hS9 (by decide)
          clear hK9 K9 hS9
          try simp only [Act.put, List.setIfInBounds_toArray, List.set_cons_zero, List.set_cons_succ]
          refine late_done (by kernel_rfl) ?_ _
          go_wp2
          refine bodyPost_ret (v := .tuple #[.int .i64 v, .int .i64 2]) (by simp [results, Tryd.results46, go_sem]) rfl ?_
          exact ⟨by rw [E.out.1, E.out.2, HF.out]; rfl, hS⟩
      obtain ⟨b3, off3, ea, hck3⟩ := HS1.out.byte j (by rw [← HS1.out.len_eq]; omega)
      obtain rfl := ea
      obtain ⟨y, hy⟩ : ∃ y : Int, y = bI (xs.drop k) (j + 1) := ⟨_, rfl⟩
      have hyr := bI_range (xs.drop k) (j + 1)
      rw [← hy] at hyr
      have hcell : wr.cell? ⟨b3, off3 + j, none⟩ = some (.int .u8 y) := by rw [hck3, hy, bI_drop (by omega)]; simp [List.getElem_drop, List.getElem_take, Nat.add_comm, Nat.add_left_comm]
      clear hck3
      have hji : (j : Int) < 1 := by omega
      have hm : rdB (j + 1) (v * 64 + y - 128) := rdB_step hB (by omega) hyr
      have hm2 := rdB_le hm (by omega)
      have ha1 : wrap64 (v * 64) = v * 64 := IntWalk.wrap64_in _ (by omega)
      have ha2 : wrap64 (v * 64 + y) = v * 64 + y := IntWalk.wrap64_in _ (by omega)
      have ha3 : wrap64 (v * 64 + y - 128) = v * 64 + y - 128 := IntWalk.wrap64_in _ (by omega)
      have HF2 : Hid (rdF (xs.drop k) (1 - (j + 1)) (j + 1 + 1) (v * 64 + y - 128) = rdVal 2 (xs.drop k)) := hid (by rw [← hF, show 1 - j = (1 - (j + 1)) + 1 by omega, rdF, hy])
      have HM := hid hm
      clear hF hm hB hy
      go_wp2
      exact ⟨⟨j + 1, v * 64 + y - 128, by omega, rfl, rfl, HM.out, HF2.out, by first | rfl | trivial⟩, by simp [intOf]; omega⟩
  · have HN := hid (show rdN (bI (xs.drop k) 0) = 3 by rw [HX0.out]; unfold rdN; (repeat' split) <;> omega)
    have T0 : Hid (inB c 192 223 = false) := hid (by unfold inB; first | exact decide_eq_true (by omega) | exact decide_eq_false (by omega))
    have T1 : Hid (inB c 224 239 = true) := hid (by unfold inB; first | exact decide_eq_true (by omega) | exact decide_eq_false (by omega))
    have hge : ¬ c < 128 := by omega
    have hw1 : wrap64 (c - 224) = c - 224 := IntWalk.wrap64_in _ (by omega)
    have hw2 : wrap64 ((xs.length : Int) - 3) = (xs.length : Int) - 3 := IntWalk.wrap64_in _ (by omega)
    have hw3 : IntKind.i64.wrap (c - 224) = c - 224 := wrapI (by omega)
    have hw4 : IntKind.i64.wrap ((xs.length : Int) - 3) = (xs.length : Int) - 3 := wrapI (by omega)
    by_cases hf : K > (xs.length : Int) - 3
    · have E := hid (rd_short (x := xs.drop k) (by rw [HN.out, HDL.out]; omega))
      go_enter Tryd.func46, Tryd.ntmps46
      go_wp2_with fail
      refine (i_in _ _ _ _).mono ?_
      rintro e w' ⟨rfl, rfl⟩
      rw [T0.out]
      go_wp2_with fail
      refine (i_in _ _ _ _).mono ?_
      rintro e w' ⟨rfl, rfl⟩
      rw [T1.out]
      go_wp2
      refine bodyPost_ret (v := .tuple #[.int .i64 (0), .int .i64 (0)]) (by simp [results, Tryd.results46, go_sem]) rfl ?_
      exact ⟨by rw [E.out.1, E.out.2]; rfl, Below.refl _ _⟩
    have hkn : k + 3 ≤ xs.length := by omega
    obtain ⟨p1, bs1, hcut1, _, _, hS1⟩ := H.out.cut_lh 32 Tryd.underlying32 hi hz1 (K + 1) (K + 3) (by omega) (by omega) (by omega)
    obtain ⟨p2, bs2, hcut2, _, _, hS2⟩ := H.out.cut_lh 32 Tryd.underlying32 hi hz1 K (K + 3) (by omega) (by omega) (by omega)
    simp only [hKn, show (K + 1).toNat = k + 1 by omega, show (K + 3).toNat = k + 3 by omega, show k + 3 - (k + 1) = 2 by omega, show k + 3 - k = 3 by omega] at hcut1 hcut2 hS1 hS2
    have hlist : (xs.take (k + 3)).drop k = (xs.drop k).take 3 := by rw [List.drop_take]; congr 1; omega
    rw [hlist] at hS2
    have HP1 := hid (show wrap64 (K + 1) = K + 1 from IntWalk.wrap64_in _ (by omega))
    have HP2 := hid (show wrap64 (K + 3) = K + 3 from IntWalk.wrap64_in _ (by omega))
    have HP4 := hid (show IntKind.i64.wrap (K + 3) = K + 3 from wrapI (by omega))
    have HS1 := hid hS1; have HS2 := hid hS2; clear hS1 hS2 hlist
    go_enter Tryd.func46, Tryd.ntmps46
    go_wp2_with fail
    refine (i_in _ _ _ _).mono ?_
    rintro e w' ⟨rfl, rfl⟩
    rw [T0.out]
    go_wp2_with fail
    refine (i_in _ _ _ _).mono ?_
    rintro e w' ⟨rfl, rfl⟩
    rw [T1.out]
    have hp1 := HP1.out; have hp2 := HP2.out
    go_wp2_with fail
    clear hp1 hp2
    go_loopw [8, 57] (fun r i wr => ∃ (j : Nat) (v : Int), j ≤ 2 ∧ i = .int .i64 (j : Int) ∧ r = .int .i64 v ∧ rdB j v ∧ rdF (xs.drop k) (2 - j) (j + 1) v = rdVal 3 (xs.drop k) ∧ wr = w) (fun _ i _ => 2 - (intOf i).toNat)
    case atStart => exact ⟨0, c - 224, by omega, rfl, rfl, by unfold rdB; omega, by rw [rdVal, HX0.out]; rfl, rfl⟩
    case round =>
      obtain ⟨j, v, hj, rfl, rfl, hB, hF, rfl⟩ := hrel
      have hv := rdB_le hB (by omega)
      by_cases hlt : j < 2
      rotate_left
      · obtain rfl : j = 2 := by omega
        have hF2 : v = rdVal 3 (xs.drop k) := hF
        have HF := hid hF2; clear hF hF2 hB
        have h64 := hid (show I64 v by unfold I64; omega)
        have hp2 := HP2.out; have hp4 := HP4.out
        go_wp2_with fail
        refine late_start (fun W => Below wr.heap.size wr W) 99 (by kernel_rfl) ?_ (fun hS => ?_)
        · exact (Below.refl _ _).drew
        refine late_genw (fun U0 hU => ?_)
        rw [← hU] at hS
        clear hU
        refine late_take (i := 0) (v := ?_) rfl (by kernel_rfl) (fun _ _ _ h => h) (by rfl) ?_ (by assumption) ?_
        rotate_left
        · (intro w9 hS9; (try dsimp only at hS9); (try go_split_ands); go_simp <;> with_reducible rfl)
        try simp only [Act.put, List.setIfInBounds_toArray, List.set_cons_zero, List.set_cons_succ]
        refine late_take (i := 3) (v := ?_) rfl (by kernel_rfl) (fun _ _ _ h => h) (by rfl) ?_ (by assumption) ?_
        rotate_left
        · (intro w9 hS9; (try dsimp only at hS9); (try go_split_ands); go_simp <;> with_reducible rfl)
        try simp only [Act.put, List.setIfInBounds_toArray, List.set_cons_zero, List.set_cons_succ]
        refine late_take (i := 4) (v := ?_) rfl (by kernel_rfl) (fun _ _ _ h => h) (by rfl) ?_ (by assumption) ?_
        rotate_left
        · (intro w9 hS9; (try dsimp only at hS9); (try go_split_ands); go_simp <;> with_reducible rfl)
        try simp only [Act.put, List.setIfInBounds_toArray, List.set_cons_zero, List.set_cons_succ]
        refine late_take (i := 5) (v := ?_) rfl (by kernel_rfl) (fun _ _ _ h => h) (by rfl) ?_ (by assumption) ?_
        rotate_left
        · (intro w9 hS9; (try dsimp only at hS9); (try go_split_ands); go_simp <;> with_reducible rfl)
        try simp only [Act.put, List.setIfInBounds_toArray, List.set_cons_zero, List.set_cons_succ]
        refine late_take (i := 6) (v := ?_) rfl (by kernel_rfl) (fun _ _ _ h => h) (by rfl) ?_ (by assumption) ?_
        rotate_left
        · (intro w9 hS9; (try dsimp only at hS9); (try go_split_ands); go_simp <;> with_reducible rfl)
        try simp only [Act.put, List.setIfInBounds_toArray, List.set_cons_zero, List.set_cons_succ]
        refine late_take (i := 7) (v := ?_) rfl (by kernel_rfl) (fun _ _ _ h => h) (by rfl) ?_ (by assumption) ?_
        rotate_left
        · (intro w9 hS9; (try dsimp only at hS9); (try go_split_ands); go_simp <;> with_reducible rfl)
        try simp only [Act.put, List.setIfInBounds_toArray, List.set_cons_zero, List.set_cons_succ]
        refine late_take (i := 8) (v := ?_) rfl (by kernel_rfl) (fun _ _ _ h => h) (by rfl) ?_ (by assumption) ?_
        rotate_left
        · (intro w9 hS9; (try dsimp only at hS9); (try go_split_ands); go_simp <;> with_reducible rfl)
        try simp only [Act.put, List.setIfInBounds_toArray, List.set_cons_zero, List.set_cons_succ]
        refine late_take (i := 9) (v := ?_) rfl (by kernel_rfl) (fun _ _ _ h => h) (by rfl) ?_ (by assumption) ?_
        rotate_left
        · (intro w9 hS9; have q9 := (HS2.out.grow hS9).text (P := Tryd.prog) 32 9 5 Tryd.underlying32 Tryd.underlying5 Tryd.underlying9; go_simp <;> with_reducible rfl)
        try simp only [Act.put, List.setIfInBounds_toArray, List.set_cons_zero, List.set_cons_succ]
        refine late_one (i := 1) rfl (by kernel_rfl) (fun K9 hK9 => ?_)
        go_simp
        refine (i_RuneBytes v h64.out _).mono ?_
        rintro e U1 ⟨v1, b1, rfl, hO1, hst⟩
        obtain ⟨a1, c1, b1x, rfl, _, hS1⟩ := hO1.slc
        have hcv := hS1.text (P := Tryd.prog) 32 9 5 Tryd.underlying32 Tryd.underlying5 Tryd.underlying9
        clear hO1 hS1
        go_wp2_with fail
        refine hK9.out _ _ (fun _ => ?_) (fun hS9 => ?_)
        · (try dsimp only); exact hS.trans (hst.mono hS.size)
        replace hS := hS9 (by decide)
        clear hK9 K9 hS9
        try simp only [Act.put, List.setIfInBounds_toArray, List.set_cons_zero, List.set_cons_succ]
        refine late_one (i := 2) rfl (by kernel_rfl) (fun K9 hK9 => ?_)
        go_simp
        refine hK9.out _ _ (fun _ => ?_) (fun hS9 => ?_)
        · (try dsimp only); exact hS
        replace hS := hS9 (by decide)
        clear hK9 K9 hS9
        try simp only [Act.put, List.setIfInBounds_toArray, List.set_cons_zero, List.set_cons_succ]
        refine late_one (i := 10) rfl (by kernel_rfl) (fun K9 hK9 => ?_)
        cases hh : rdHit 3 (xs.drop k)
        · have hne := hh; rw [rdHit, ← HF.out, beq_eq_false_iff_ne] at hne
          have E := hid (rd_miss HN.out hh)
          have hne5 := hh; rw [rdHit, ← HF.out] at hne5
          clear hh
          go_simp
          refine hK9.out _ _ (fun _ => ?_) (fun hS9 => ?_)
          · (try dsimp only); exact hS
          replace hS := hS9 (by decide)
          clear hK9 K9 hS9
          try simp only [Act.put, List.setIfInBounds_toArray, List.set_cons_zero, List.set_cons_succ]
          refine late_done (by kernel_rfl) ?_ _
          go_wp2
          refine bodyPost_ret (v := .tuple #[.int .i64 (0), .int .i64 (0)]) (by simp [results, Tryd.results46, go_sem]) rfl ?_
          exact ⟨by rw [E.out.1, E.out.2]; rfl, hS⟩
        · have hne := hh; rw [rdHit, ← HF.out, beq_iff_eq] at hne
          have E := hid (rd_hit HN.out (by omega) (by rw [HDL.out]; omega) hh)
          rw [hne]
          clear hh hne
          go_simp
          refine hK9.out _ _ (fun _ => ?_) (fun hS9 => ?_)
          · (try dsimp only); exact hS
          replace hS := hS9 (by decide)
          clear hK9 K9 hS9
          try simp only [Act.put, List.setIfInBounds_toArray, List.set_cons_zero, List.set_cons_succ]
          refine late_done (by kernel_rfl) ?_ _
          go_wp2
          refine bodyPost_ret (v := .tuple #[.int .i64 v, .int .i64 3]) (by simp [results, Tryd.results46, go_sem]) rfl ?_
          exact ⟨by rw [E.out.1, E.out.2, HF.out]; rfl, hS⟩
      obtain ⟨b3, off3, ea, hck3⟩ := HS1.out.byte j (by rw [← HS1.out.len_eq]; omega)
      obtain rfl := ea
      obtain ⟨y, hy⟩ : ∃ y : Int, y = bI (xs.drop k) (j + 1) := ⟨_, rfl⟩
      have hyr := bI_range (xs.drop k) (j + 1)
      rw [← hy] at hyr
      have hcell : wr.cell? ⟨b3, off3 + j, none⟩ = some (.int .u8 y) := by rw [hck3, hy, bI_drop (by omega)]; simp [List.getElem_drop, List.getElem_take, Nat.add_comm, Nat.add_left_comm]
      clear hck3
      have hji : (j : Int) < 2 := by omega
      have hm : rdB (j + 1) (v * 64 + y - 128) := rdB_step hB (by omega) hyr
      have hm2 := rdB_le hm (by omega)
      have ha1 : wrap64 (v * 64) = v * 64 := IntWalk.wrap64_in _ (by omega)
      have ha2 : wrap64 (v * 64 + y) = v * 64 + y := IntWalk.wrap64_in _ (by omega)
      have ha3 : wrap64 (v * 64 + y - 128) = v * 64 + y - 128 := IntWalk.wrap64_in _ (by omega)
      have HF2 : Hid (rdF (xs.drop k) (2 - (j + 1)) (j + 1 + 1) (v * 64 + y - 128) = rdVal 3 (xs.drop k)) := hid (by rw [← hF, show 2 - j = (2 - (j + 1)) + 1 by omega, rdF, hy])
      have HM := hid hm
      clear hF hm hB hy
      go_wp2
      exact ⟨⟨j + 1, v * 64 + y - 128, by omega, rfl, rfl, HM.out, HF2.out, by first | rfl | trivial⟩, by simp [intOf]; omega⟩
  · have HN := hid (show rdN (bI (xs.drop k) 0) = 4 by rw [HX0.out]; unfold rdN; (repeat' split) <;> omega)
    have T0 : Hid (inB c 192 223 = false) := hid (by unfold inB; first | exact decide_eq_true (by omega) | exact decide_eq_false (by omega))
    have T1 : Hid (inB c 224 239 = false) := hid (by unfold inB; first | exact decide_eq_true (by omega) | exact decide_eq_false (by omega))
    have T2 : Hid (inB c 240 247 = true) := hid (by unfold inB; first | exact decide_eq_true (by omega) | exact decide_eq_false (by omega))
    have hge : ¬ c < 128 := by omega
    have hw1 : wrap64 (c - 240) = c - 240 := IntWalk.wrap64_in _ (by omega)
    have hw2 : wrap64 ((xs.length : Int) - 4) = (xs.length : Int) - 4 := IntWalk.wrap64_in _ (by omega)
    have hw3 : IntKind.i64.wrap (c - 240) = c - 240 := wrapI (by omega)
    have hw4 : IntKind.i64.wrap ((xs.length : Int) - 4) = (xs.length : Int) - 4 := wrapI (by omega)
    by_cases hf : K > (xs.length : Int) - 4
    · have E := hid (rd_short (x := xs.drop k) (by rw [HN.out, HDL.out]; omega))
      go_enter Tryd.func46, Tryd.ntmps46
      go_wp2_with fail
      refine (i_in _ _ _ _).mono ?_
      rintro e w' ⟨rfl, rfl⟩
      rw [T0.out]
      go_wp2_with fail
      refine (i_in _ _ _ _).mono ?_
      rintro e w' ⟨rfl, rfl⟩
      rw [T1.out]
      go_wp2_with fail
      refine (i_in _ _ _ _).mono ?_
      rintro e w' ⟨rfl, rfl⟩
      rw [T2.out]
      go_wp2
      refine bodyPost_ret (v := .tuple #[.int .i64 (0), .int .i64 (0)]) (by simp [results, Tryd.results46, go_sem]) rfl ?_
      exact ⟨by rw [E.out.1, E.out.2]; rfl, Below.refl _ _⟩
    have hkn : k + 4 ≤ xs.length := by omega
    obtain ⟨p1, bs1, hcut1, _, _, hS1⟩ := H.out.cut_lh 32 Tryd.underlying32 hi hz1 (K + 1) (K + 4) (by omega) (by omega) (by omega)
    obtain ⟨p2, bs2, hcut2, _, _, hS2⟩ := H.out.cut_lh 32 Tryd.underlying32 hi hz1 K (K + 4) (by omega) (by omega) (by omega)
    simp only [hKn, show (K + 1).toNat = k + 1 by omega, show (K + 4).toNat = k + 4 by omega, show k + 4 - (k + 1) = 3 by omega, show k + 4 - k = 4 by omega] at hcut1 hcut2 hS1 hS2
    have hlist : (xs.take (k + 4)).drop k = (xs.drop k).take 4 := by rw [List.drop_take]; congr 1; omega
    rw [hlist] at hS2
    have HP1 := hid (show wrap64 (K + 1) = K + 1 from IntWalk.wrap64_in _ (by omega))
    have HP2 := hid (show wrap64 (K + 4) = K + 4 from IntWalk.wrap64_in _ (by omega))
    have HP4 := hid (show IntKind.i64.wrap (K + 4) = K + 4 from wrapI (by omega))
    have HS1 := hid hS1; have HS2 := hid hS2; clear hS1 hS2 hlist
    go_enter Tryd.func46, Tryd.ntmps46
    go_wp2_with fail
    refine (i_in _ _ _ _).mono ?_
    rintro e w' ⟨rfl, rfl⟩
    rw [T0.out]
    go_wp2_with fail
    refine (i_in _ _ _ _).mono ?_
    rintro e w' ⟨rfl, rfl⟩
    rw [T1.out]
    go_wp2_with fail
    refine (i_in _ _ _ _).mono ?_
    rintro e w' ⟨rfl, rfl⟩
    rw [T2.out]
    have hp1 := HP1.out; have hp2 := HP2.out
    go_wp2_with fail
    clear hp1 hp2
    go_loopw [8, 57] (fun r i wr => ∃ (j : Nat) (v : Int), j ≤ 3 ∧ i = .int .i64 (j : Int) ∧ r = .int .i64 v ∧ rdB j v ∧ rdF (xs.drop k) (3 - j) (j + 1) v = rdVal 4 (xs.drop k) ∧ wr = w) (fun _ i _ => 3 - (intOf i).toNat)
    case atStart => exact ⟨0, c - 240, by omega, rfl, rfl, by unfold rdB; omega, by rw [rdVal, HX0.out]; rfl, rfl⟩
    case round =>
      obtain ⟨j, v, hj, rfl, rfl, hB, hF, rfl⟩ := hrel
      have hv := rdB_le hB (by omega)
      by_cases hlt : j < 3
      rotate_left
      · obtain rfl : j = 3 := by omega
        have hF2 : v = rdVal 4 (xs.drop k) := hF
        have HF := hid hF2; clear hF hF2 hB
        have h64 := hid (show I64 v by unfold I64; omega)
        have hp2 := HP2.out; have hp4 := HP4.out
        go_wp2_with fail
        refine late_start (fun W => Below wr.heap.size wr W) 99 (by kernel_rfl) ?_ (fun hS => ?_)
        · exact (Below.refl _ _).drew
        refine late_genw (fun U0 hU => ?_)
        rw [← hU] at hS
        clear hU
        refine late_take (i := 0) (v := ?_) rfl (by kernel_rfl) (fun _ _ _ h => h) (by rfl) ?_ (by assumption) ?_
        rotate_left
        · (intro w9 hS9; (try dsimp only at hS9); (try go_split_ands); go_simp <;> with_reducible rfl)
        try simp only [Act.put, List.setIfInBounds_toArray, List.set_cons_zero, List.set_cons_succ]
        refine late_take (i := 3) (v := ?_) rfl (by kernel_rfl) (fun _ _ _ h => h) (by rfl) ?_ (by assumption) ?_
        rotate_left
        · (intro w9 hS9; (try dsimp only at hS9); (try go_split_ands); go_simp <;> with_reducible rfl)
        try simp only [Act.put, List.setIfInBounds_toArray, List.set_cons_zero, List.set_cons_succ]
        refine late_take (i := 4) (v := ?_) rfl (by kernel_rfl) (fun _ _ _ h => h) (by rfl) ?_ (by assumption) ?_
        rotate_left
        · (intro w9 hS9; (try dsimp only at hS9); (try go_split_ands); go_simp <;> with_reducible rfl)
        try simp only [Act.put, List.setIfInBounds_toArray, List.set_cons_zero, List.set_cons_succ]
        refine late_take (i := 5) (v := ?_) rfl (by kernel_rfl) (fun _ _ _ h => h) (by rfl) ?_ (by assumption) ?_
        rotate_left
        · (intro w9 hS9; (try dsimp only at hS9); (try go_split_ands); go_simp <;> with_reducible rfl)
        try simp only [Act.put, List.setIfInBounds_toArray, List.set_cons_zero, List.set_cons_succ]
        refine late_take (i := 6) (v := ?_) rfl (by kernel_rfl) (fun _ _ _ h => h) (by rfl) ?_ (by assumption) ?_
        rotate_left
        · (intro w9 hS9; (try dsimp only at hS9); (try go_split_ands); go_simp <;> with_reducible rfl)
        try simp only [Act.put, List.setIfInBounds_toArray, List.set_cons_zero, List.set_cons_succ]
        refine late_take (i := 7) (v := ?_) rfl (by kernel_rfl) (fun _ _ _ h => h) (by rfl) ?_ (by assumption) ?_
        rotate_left
        · (intro w9 hS9; (try dsimp only at hS9); (try go_split_ands); go_simp <;> with_reducible rfl)
        try simp only [Act.put, List.setIfInBounds_toArray, List.set_cons_zero, List.set_cons_succ]
        refine late_take (i := 8) (v := ?_) rfl (by kernel_rfl) (fun _ _ _ h => h) (by rfl) ?_ (by assumption) ?_
        rotate_left
        · (intro w9 hS9; (try dsimp only at hS9); (try go_split_ands); go_simp <;> with_reducible rfl)
        try simp only [Act.put, List.setIfInBounds_toArray, List.set_cons_zero, List.set_cons_succ]
        refine late_take (i := 9) (v := ?_) rfl (by kernel_rfl) (fun _ _ _ h => h) (by rfl) ?_ (by assumption) ?_
        rotate_left
        · (intro w9 hS9; have q9 := (HS2.out.grow hS9).text (P := Tryd.prog) 32 9 5 Tryd.underlying32 Tryd.underlying5 Tryd.underlying9; go_simp <;> with_reducible rfl)
        try simp only [Act.put, List.setIfInBounds_toArray, List.set_cons_zero, List.set_cons_succ]
        refine late_one (i := 1) rfl (by kernel_rfl) (fun K9 hK9 => ?_)
        go_simp
        refine (i_RuneBytes v h64.out _).mono ?_
        rintro e U1 ⟨v1, b1, rfl, hO1, hst⟩
        obtain ⟨a1, c1, b1x, rfl, _, hS1⟩ := hO1.slc
        have hcv := hS1.text (P := Tryd.prog) 32 9 5 Tryd.underlying32 Tryd.underlying5 Tryd.underlying9
        clear hO1 hS1
        go_wp2_with fail
        refine hK9.out _ _ (fun _ => ?_) (fun hS9 => ?_)
        · (try dsimp only); exact hS.trans (hst.mono hS.size)
        replace hS := hS9 (by decide)
        clear hK9 K9 hS9
        try simp only [Act.put, List.setIfInBounds_toArray, List.set_cons_zero, List.set_cons_succ]
        refine late_one (i := 2) rfl (by kernel_rfl) (fun K9 hK9 => ?_)
        go_simp
        refine hK9.out _ _ (fun _ => ?_) (fun hS9 => ?_)
        · (try dsimp only); exact hS
        replace hS := hS9 (by decide)
        clear hK9 K9 hS9
        try simp only [Act.put, List.setIfInBounds_toArray, List.set_cons_zero, List.set_cons_succ]
        refine late_one (i := 10) rfl (by kernel_rfl) (fun K9 hK9 => ?_)
        cases hh : rdHit 4 (xs.drop k)
        · have hne := hh; rw [rdHit, ← HF.out, beq_eq_false_iff_ne] at hne
          have E := hid (rd_miss HN.out hh)
          have hne5 := hh; rw [rdHit, ← HF.out] at hne5
          clear hh
          go_simp
          refine hK9.out _ _ (fun _ => ?_) (fun hS9 => ?_)
          · (try dsimp only); exact hS
          replace hS := hS9 (by decide)
          clear hK9 K9 hS9
          try simp only [Act.put, List.setIfInBounds_toArray, List.set_cons_zero, List.set_cons_succ]
          refine late_done (by kernel_rfl) ?_ _
          go_wp2
          refine bodyPost_ret (v := .tuple #[.int .i64 (0), .int .i64 (0)]) (by simp [results, Tryd.results46, go_sem]) rfl ?_
          exact ⟨by rw [E.out.1, E.out.2]; rfl, hS⟩
        · have hne := hh; rw [rdHit, ← HF.out, beq_iff_eq] at hne
          have E := hid (rd_hit HN.out (by omega) (by rw [HDL.out]; omega) hh)
          rw [hne]
          clear hh hne
          go_simp
          refine hK9.out _ _ (fun _ => ?_) (fun hS9 => ?_)
          · (try dsimp only); exact hS
          replace hS := hS9 (by decide)
          clear hK9 K9 hS9
          try simp only [Act.put, List.setIfInBounds_toArray, List.set_cons_zero, List.set_cons_succ]
          refine late_done (by kernel_rfl) ?_ _
          go_wp2
          refine bodyPost_ret (v := .tuple #[.int .i64 v, .int .i64 4]) (by simp [results, Tryd.results46, go_sem]) rfl ?_
          exact ⟨by rw [E.out.1, E.out.2, HF.out]; rfl, hS⟩
      obtain ⟨b3, off3, ea, hck3⟩ := HS1.out.byte j (by rw [← HS1.out.len_eq]; omega)
      obtain rfl := ea
      obtain ⟨y, hy⟩ : ∃ y : Int, y = bI (xs.drop k) (j + 1) := ⟨_, rfl⟩
      have hyr := bI_range (xs.drop k) (j + 1)
      rw [← hy] at hyr
      have hcell : wr.cell? ⟨b3, off3 + j, none⟩ = some (.int .u8 y) := by rw [hck3, hy, bI_drop (by omega)]; simp [List.getElem_drop, List.getElem_take, Nat.add_comm, Nat.add_left_comm]
      clear hck3
      have hji : (j : Int) < 3 := by omega
      have hm : rdB (j + 1) (v * 64 + y - 128) := rdB_step hB (by omega) hyr
      have hm2 := rdB_le hm (by omega)
      have ha1 : wrap64 (v * 64) = v * 64 := IntWalk.wrap64_in _ (by omega)
      have ha2 : wrap64 (v * 64 + y) = v * 64 + y := IntWalk.wrap64_in _ (by omega)
      have ha3 : wrap64 (v * 64 + y - 128) = v * 64 + y - 128 := IntWalk.wrap64_in _ (by omega)
      have HF2 : Hid (rdF (xs.drop k) (3 - (j + 1)) (j + 1 + 1) (v * 64 + y - 128) = rdVal 4 (xs.drop k)) := hid (by rw [← hF, show 3 - j = (3 - (j + 1)) + 1 by omega, rdF, hy])
      have HM := hid hm
      clear hF hm hB hy
      go_wp2
      exact ⟨⟨j + 1, v * 64 + y - 128, by omega, rfl, rfl, HM.out, HF2.out, by first | rfl | trivial⟩, by simp [intOf]; omega⟩
end Go.Proofs.YtgcdgkiefbbhkaaDoor
