/- Whether bytes begin a rune, by the reference (printed by genbegin.py). -/
import Derived.Test.YtffinfpnmohnaaaReadS
import Derived.Test.YtffinfpnmohnaaaBeginL
import Derived.Test.YtffinfpnmohnaaaCopy
set_option linter.unusedSimpArgs false
set_option linter.unusedVariables false
namespace Go.G6
def lenV' : Value → Nat
  | .slice _ n _ => n
  | _ => 0
end Go.G6
namespace Go.Proofs.Ytffinfpnmohnaaa
open Go.RowKit Go.G6
set_option maxHeartbeats 30000000
set_option maxRecDepth 10000
theorem s_RuneBegin {w : World} {bs : List Nat} {a : Option Addr} {len cap : Nat} {xs : List UInt8} (h : Slc w bs a len cap xs) :
    Calls Try.prog 15 #[.slice a len cap] w fun e w' => e = .returned (.bool (runeBegin xs)) ∧ Below w.heap.size w w' := by
  obtain rfl := h.len_eq
  obtain ⟨i0, hi, hz0, hz1, hz2⟩ := info_parts info_byte
  have H := hid h
  clear h
  by_cases h1 : xs.length < 1
  · have E := hid (show runeBegin xs = false by rw [runeBegin, decide_eq_false (by omega)]; rfl)
    have hli : (xs.length : Int) < 1 := by omega
    clear h1
    go_enter Try.func15, Try.ntmps15
    go_wp2
    go_ret
    exact ⟨ret_bool (by rw [E.out]), Below.refl _ _⟩
  have hli : ¬ (xs.length : Int) < 1 := by omega
  by_cases h3 : 3 < xs.length
  · have E := hid (show runeBegin xs = false by rw [runeBegin, decide_eq_false (by omega)]; rfl)
    have hlj : (xs.length : Int) > 3 := by omega
    clear h1 h3
    go_enter Try.func15, Try.ntmps15
    go_wp2
    go_ret
    exact ⟨ret_bool (by rw [E.out]), Below.refl _ _⟩
  have hlj : ¬ (xs.length : Int) > 3 := by omega
  go_enter Try.func15, Try.ntmps15
  go_wp2_with fail
  go_loopw [3] (fun sz wr => ∃ s : Nat, xs.length + 1 ≤ s ∧ s ≤ 5 ∧ sz = .int .i64 (s : Int) ∧ runeBegin xs = rbAny xs (5 - s) s ∧ Below w.heap.size w wr) (fun sz _ => 6 - (intOf sz).toNat)
  case atStart => exact ⟨xs.length + 1, Nat.le_refl _, by omega, by first | rfl | simp, by rw [runeBegin, decide_eq_true (by omega), Bool.true_and, show 5 - (xs.length + 1) = 4 - xs.length by omega], Below.refl _ _⟩
  case round =>
    obtain ⟨s, hs1, hs5, rfl, hR, hb⟩ := hrel
    have HR := hid hR; have HBr := hid hb; clear hR hb
    by_cases h4 : s = 5
    · have E := hid (show runeBegin xs = false by rw [HR.out, h4]; rfl)
      have hg : ¬ (s : Int) ≤ 4 := by omega
      clear h4
      go_wp2
      go_ret
      exact ⟨ret_bool (by rw [E.out]), HBr.out⟩
    have hg : (s : Int) ≤ 4 := by omega
    have hs4 : s ≤ 4 := by omega
    clear h4
    have HB2 := HBr
    go_wp2_with (at_builtin; refine wp_append rfl _ _ 22 rfl 5 i0 (.int .u8 0) 1 Try.underlying22 hi hz0 hz1 hz2 rfl (lo := w.heap.size) (bs := [wr.heap.size]) (xs := ([] : List UInt8)) rfl ?own (b2 := []) (ys := xs) rfl ?src List.nodup_nil ?q1 ?q2 ?q3 ?q4 ?_)
    case own => exact ownL_empty rfl HBr.out.size
    case src => exact Slc.src (H.out.grow (HBr.out.alloc HBr.out.size _))
    case q1 => simp
    case q2 => (first | omega | (simp; omega) | (simp; done))
    case q3 => (first | omega | (simp; omega) | (simp; done))
    case q4 => (first | omega | (simp; omega) | (simp; done) | (have := HB2.out.size; first | omega | (simp; omega)))
    intro p1 c1 w1 b1 hO hT hm
    try simp only [List.nil_append, List.length_nil, Nat.zero_add] at hO
    try simp only [List.nil_append, List.length_nil, Nat.zero_add]
    have HB1 := hid ((HBr.out.alloc HBr.out.size _).trans (hT.below (by have := HBr.out.size; simp; omega) (fun x hx => by have := HBr.out.size; simp at hx; omega)))
    have HO1 := hid hO
    clear hO hT hm
    replace HB2 := HB1
    go_wp2_with (at_builtin; refine wp_append rfl _ _ 22 rfl 5 i0 (.int .u8 0) 1 Try.underlying22 hi hz0 hz1 hz2 rfl (lo := w.heap.size) (bs := [w1.heap.size]) (xs := ([] : List UInt8)) rfl ?own (b2 := []) (ys := xs) rfl ?src List.nodup_nil ?q1 ?q2 ?q3 ?q4 ?_)
    case own => exact ownL_empty rfl HB1.out.size
    case src => exact Slc.src (H.out.grow (HB1.out.alloc HB1.out.size _))
    case q1 => simp
    case q2 => (first | omega | (simp; omega) | (simp; done))
    case q3 => (first | omega | (simp; omega) | (simp; done))
    case q4 => (first | omega | (simp; omega) | (simp; done) | (have := HB2.out.size; first | omega | (simp; omega)))
    intro p2 c2 w2 b2 hO hT hm
    try simp only [List.nil_append, List.length_nil, Nat.zero_add] at hO
    try simp only [List.nil_append, List.length_nil, Nat.zero_add]
    have HB3 := hid ((HB1.out.alloc HB1.out.size _).trans (hT.below (by have := HB1.out.size; simp; omega) (fun x hx => by have := HB1.out.size; simp at hx; omega)))
    have HL := hid ((HO1.out.alloc _).tch hT (fun x hx hx2 => by have q := (HO1.out.lts x hx).2; simp at hx2; omega))
    have HD := hid (show ∀ x ∈ b1, x ∉ b2 from fun x hx hx2 => by have q := (HO1.out.lts x hx).2; have q2 := hm x hx2; (try simp at q2); omega)
    have HH := hid hO
    clear hO hT hm
    go_wp2_with fail
    go_loopw [4, 5] (fun v4 v5 wi => ∃ (m : Nat) (p1 p2 : Option Addr) (c1 c2 : Nat) (b1 b2 : List Nat), xs.length ≤ m ∧ m ≤ s ∧ v4 = .slice p1 m c1 ∧ v5 = .slice p2 m c2 ∧ OwnL w.heap.size wi 5 (.slice p1 m c1) b1 (fillS 128 xs m) ∧ OwnL w.heap.size wi 5 (.slice p2 m c2) b2 (fillS 191 xs m) ∧ (∀ x ∈ b1, x ∉ b2) ∧ Below w.heap.size w wi) (fun v4 _ _ => s - lenV' v4)
    case atStart => exact ⟨xs.length, p1, p2, c1, c2, b1, b2, Nat.le_refl _, by omega, rfl, rfl, by rw [fillS_zero]; exact HL.out, by rw [fillS_zero]; exact HH.out, HD.out, HB3.out⟩
    case round =>
      rename World => wi
      clear HL HH HD
      obtain ⟨m, p1, p2, c1, c2, b1, b2, hm0, hms, rfl, rfl, hO1, hO2, hD, hb⟩ := hrel
      have HO1 := hid hO1; have HO2 := hid hO2; have HD := hid hD; have HBi := hid hb; clear hO1 hO2 hD hb
      by_cases hlt : m < s
      rotate_left
      · obtain rfl : m = s := by omega
        have hf1 := fillS_len (x := 128) (xs := xs) (s := m) hm0
        have hf2 := fillS_len (x := 191) (xs := xs) (s := m) hm0
        obtain ⟨q1, d1, e1, hv, _, hSl⟩ := HO1.out.slc
        rw [hf1] at hv hSl
        simp only [Value.slice.injEq, true_and] at hv
        obtain ⟨rfl, rfl⟩ := hv
        obtain ⟨q2, d2, e2, hv, _, hSh⟩ := HO2.out.slc
        rw [hf2] at hv hSh
        simp only [Value.slice.injEq, true_and] at hv
        obtain ⟨rfl, rfl⟩ := hv
        have HSl := hid hSl; have HSh := hid hSh; have HF1 := hid hf1; have HF2 := hid hf2; clear hSl hSh hf1 hf2
        go_wp2_with fail
        refine (s_RuneRead HSl.out 0 (by rw [HF1.out]; omega)).mono ?_
        rintro e w3 ⟨rfl, hb⟩
        have HB4 := hid (HBi.out.trans (hb.mono HBi.out.size)); have HSh3 := hid (HSh.out.grow hb)
        clear hb
        rw [List.drop_zero]
        go_wp2_with fail
        refine (s_RuneRead HSh3.out 0 (by rw [HF2.out]; omega)).mono ?_
        rintro e w4 ⟨rfl, hb⟩
        have HB5 := hid (HB4.out.trans (hb.mono HB4.out.size))
        clear hb
        rw [List.drop_zero]
        obtain ⟨n1, hn1⟩ : ∃ n, n = rdL (fillS 128 xs m) := ⟨_, rfl⟩
        obtain ⟨n2, hn2⟩ : ∃ n, n = rdL (fillS 191 xs m) := ⟨_, rfl⟩
        rw [← hn1, ← hn2]
        have hst := show rbAny xs (5 - m) m = (rbHit xs m || rbAny xs (5 - (m + 1)) (m + 1)) by rw [show 5 - m = (5 - (m + 1)) + 1 by omega]; rfl
        have hh : rbHit xs m = (decide (n1 = m) || decide (n2 = m)) := by rw [rbHit, ← hn1, ← hn2]
        have HST := hid hst; have HHit := hid hh; clear hst hh hn1 hn2
        by_cases e1 : n1 = m
        · have E := hid (show runeBegin xs = true by rw [HR.out, HST.out, HHit.out, decide_eq_true e1]; rfl)
          have he : ((n1 : Int) == (m : Int)) = true := by rw [beq_iff_eq]; omega
          clear e1
          go_wp2
          go_ret
          exact ⟨ret_bool (by rw [E.out]), HB5.out⟩
        have he : ((n1 : Int) == (m : Int)) = false := by rw [beq_eq_false_iff_ne]; omega
        by_cases e2 : n2 = m
        · have E := hid (show runeBegin xs = true by rw [HR.out, HST.out, HHit.out, decide_eq_true e2, Bool.or_true]; rfl)
          have he2 : ((n2 : Int) == (m : Int)) = true := by rw [beq_iff_eq]; omega
          clear e1 e2
          go_wp2
          go_ret
          exact ⟨ret_bool (by rw [E.out]), HB5.out⟩
        have he2 : ((n2 : Int) == (m : Int)) = false := by rw [beq_eq_false_iff_ne]; omega
        have HR2 := hid (show runeBegin xs = rbAny xs (5 - (m + 1)) (m + 1) by rw [HR.out, HST.out, HHit.out, decide_eq_false e1, decide_eq_false e2]; rfl)
        clear e1 e2
        go_wp2
        exact ⟨⟨m + 1, by omega, by omega, by first | rfl | simp, HR2.out, HB5.out⟩, by simp [intOf]; omega⟩
      have hmi : (m : Int) < (s : Int) := by omega
      have hf1 := fillS_len (x := 128) (xs := xs) (s := m) hm0
      have hf2 := fillS_len (x := 191) (xs := xs) (s := m) hm0
      have HF1 := hid hf1; have HF2 := hid hf2
      have HB2 := HBi
      go_wp2_with (at_builtin; refine wp_append rfl _ _ 22 rfl 5 i0 (.int .u8 0) 1 Try.underlying22 hi hz0 hz1 hz2 rfl (lo := w.heap.size) (bs := b1) (xs := fillS 128 xs m) rfl ?own (b2 := []) (ys := [(128 : UInt8)]) rfl ?src List.nodup_nil ?q1 ?q2 ?q3 ?q4 ?_)
      case own => repeat (first | exact HO1.out | refine OwnL.alloc ?_ _ | refine OwnL.setCell ?_ (fun b hb => by have := HO1.out.lts b hb; simp; try omega) _)
      case src => exact src_new ((show Rep.pt _ [] [.int .u8 128] (128 : UInt8) from ⟨rfl, rfl⟩)) (by simp) _ _
      case q1 => simp
      case q2 => (first | omega | (simp; omega) | (simp; done))
      case q3 => (first | omega | (simp; omega) | (simp; done))
      case q4 => (first | omega | (simp; omega) | (simp; done) | (have := HB2.out.size; first | omega | (simp; omega)))
      intro p4 c4 w4 b4 hO hT hm
      try rw [hf1] at hO
      try rw [hf1]
      have HB4 := hid (below_tch (HBi.out.alloc HBi.out.size _) hT (fun x hx => by have := HO1.out.lts x hx; simp; omega))
      have HOh := hid ((HO2.out.alloc _).tch hT (fun x hx hx2 => HD.out x hx2 hx))
      have HD4 := hid (show ∀ x ∈ b4, x ∉ b2 from fun x hx hx2 => (hm x hx).elim (fun q => HD.out x q hx2) (fun q => by have := (HO2.out.lts x hx2).2; (try simp at q); omega))
      have HO4 := hid hO
      clear hO hT hm
      replace HB2 := HB4
      go_wp2_with (at_builtin; refine wp_append rfl _ _ 22 rfl 5 i0 (.int .u8 0) 1 Try.underlying22 hi hz0 hz1 hz2 rfl (lo := w.heap.size) (bs := b2) (xs := fillS 191 xs m) rfl ?own (b2 := []) (ys := [(191 : UInt8)]) rfl ?src List.nodup_nil ?q1 ?q2 ?q3 ?q4 ?_)
      case own => repeat (first | exact HOh.out | refine OwnL.alloc ?_ _ | refine OwnL.setCell ?_ (fun b hb => by have := HOh.out.lts b hb; simp; try omega) _)
      case src => exact src_new ((show Rep.pt _ [] [.int .u8 191] (191 : UInt8) from ⟨rfl, rfl⟩)) (by simp) _ _
      case q1 => simp
      case q2 => (first | omega | (simp; omega) | (simp; done))
      case q3 => (first | omega | (simp; omega) | (simp; done))
      case q4 => (first | omega | (simp; omega) | (simp; done) | (have := HB2.out.size; first | omega | (simp; omega)))
      intro p5 c5 w5 b5 hO hT hm
      try rw [hf2] at hO
      try rw [hf2]
      have HB5 := hid (below_tch (HB4.out.alloc HB4.out.size _) hT (fun x hx => by have := HOh.out.lts x hx; simp; omega))
      have HOl := hid ((HO4.out.alloc _).tch hT (fun x hx hx2 => HD4.out x hx hx2))
      have HD5 := hid (show ∀ x ∈ b4, x ∉ b5 from fun x hx hx2 => (hm x hx2).elim (fun q => HD4.out x hx q) (fun q => by have := (HO4.out.lts x hx).2; (try simp at q); omega))
      have HO5 := hid hO
      clear hO hT hm hf1 hf2
      go_wp2
      exact ⟨⟨m + 1, p4, p5, c4, c5, b4, b5, by omega, by omega, rfl, rfl, by rw [fillS_succ hm0]; exact HOl.out, by rw [fillS_succ hm0]; exact HO5.out, HD5.out, HB5.out⟩, by simp [lenV']; omega⟩
end Go.Proofs.Ytffinfpnmohnaaa
