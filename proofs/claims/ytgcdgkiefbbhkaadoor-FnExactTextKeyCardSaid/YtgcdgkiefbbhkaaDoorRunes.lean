/- The runes of a text; the line of a text (printed by genlineof.py). -/
import Derived.Test.YtgcdgkiefbbhkaaDoorReadS
import Derived.Test.YtgcdgkiefbbhkaaDoorLineM
set_option linter.unusedSimpArgs false
set_option linter.unusedVariables false
namespace Go.G6
open Go.RowKit Rep
theorem Slc.keepX {α : Type} [Rep α] {w w' : World} {bs : List Nat} {a : Option Addr} {len cap : Nat} {xs : List α} (h : Slc w bs a len cap xs) (hk : ∀ b ∈ bs, w'.heap[b]? = w.heap[b]?) : Slc w' bs a len cap xs := pt_slice.1 (Rep.keep (pt_slice.2 h) hk)
theorem rdR_range (x : List UInt8) : 0 ≤ rdR x ∧ rdR x ≤ 1114111 := by
  unfold rdR
  split
  · rename_i h
    simp only [rdOk, Bool.and_eq_true, decide_eq_true_eq] at h
    obtain ⟨⟨h1, h2⟩, h3⟩ := h
    rw [rdHit, beq_iff_eq] at h3
    have h4 : (runeBytes (rdVal (rdN (bI x 0)) x)).length = rdN (bI x 0) := by rw [h3, List.length_take]; omega
    cases hk : runeOk (rdVal (rdN (bI x 0)) x)
    · rw [runeBytes, hk] at h4; simp at h4; omega
    · simp [runeOk] at hk; omega
  · omega
theorem rdL_le (x : List UInt8) : rdL x ≤ x.length ∧ rdL x ≤ 4 := by
  unfold rdL
  split
  · rename_i h
    simp only [rdOk, Bool.and_eq_true, decide_eq_true_eq] at h
    exact ⟨h.1.2, rdN_le _⟩
  · omega
def runesR (xs : List UInt8) : Nat → Nat → List Int → Option (List Int)
  | 0, _, acc => some acc
  | n + 1, k, acc => if k < xs.length then (if rdL (xs.drop k) = 0 then none else runesR xs n (k + rdL (xs.drop k)) (acc ++ [rdR (xs.drop k)])) else some acc
def runesOf (s : ByteArray) : Option (List Int) := if 65536 < s.size then none else runesR s.data.toList (s.size + 1) 0 []
def runesOk (s : ByteArray) : Bool := (runesOf s).isSome
def runesL (s : ByteArray) : List Int := (runesOf s).getD []
def lineOfOk (s : ByteArray) : Bool := runesOk s && lineOk ⟨runesL s, ((runesL s).length : Int)⟩
def lineOf (s : ByteArray) : LineD := if lineOfOk s then ⟨runesL s, ((runesL s).length : Int)⟩ else line0
theorem runesR_end {xs : List UInt8} {n k : Nat} {acc : List Int} (h : ¬ k < xs.length) : runesR xs n k acc = some acc := by
  cases n with
  | zero => rfl
  | succ n => rw [runesR, if_neg h]
theorem runesR_bad {xs : List UInt8} {n k : Nat} {acc : List Int} (h : k < xs.length) (h2 : rdL (xs.drop k) = 0) : runesR xs (n + 1) k acc = none := by rw [runesR, if_pos h, if_pos h2]
theorem runesR_go {xs : List UInt8} {n k : Nat} {acc : List Int} (h : k < xs.length) (h2 : rdL (xs.drop k) ≠ 0) : runesR xs (n + 1) k acc = runesR xs n (k + rdL (xs.drop k)) (acc ++ [rdR (xs.drop k)]) := by rw [runesR, if_pos h, if_neg h2]
theorem runesR_len {xs : List UInt8} : ∀ (n k : Nat) (acc r : List Int), runesR xs n k acc = some r → acc.length ≤ k → k ≤ xs.length → r.length ≤ xs.length
  | 0, k, acc, r, h, h1, h2 => by cases h; omega
  | n + 1, k, acc, r, h, h1, h2 => by
    unfold runesR at h
    split at h
    · split at h
      · cases h
      · rename_i h3 h4
        have q := rdL_le (xs.drop k)
        rw [List.length_drop] at q
        exact runesR_len n _ _ r h (by simp; omega) (by omega)
    · cases h; omega
theorem runesL_len (s : ByteArray) : (runesL s).length ≤ 65536 := by
  unfold runesL
  cases h : runesOf s with
  | none => simp
  | some r =>
    unfold runesOf at h
    split at h
    · cases h
    · have q := runesR_len _ _ _ _ h (Nat.le_refl _) (Nat.zero_le _)
      have e : s.data.toList.length = s.size := Array.length_toList
      simp only [Option.getD_some]; omega
theorem lineOf_top (s : ByteArray) : 1 + (lineOf s).nkv ≤ topK := by
  rw [line_nkv]; unfold lineOf topK; split
  · have := runesL_len s; show 1 + (runesL s).length ≤ _; omega
  · simp [line0]
end Go.G6
namespace Go.Proofs.YtgcdgkiefbbhkaaDoor
open Go.RowKit Go.G6
set_option maxHeartbeats 30000000
set_option maxRecDepth 10000
theorem i_RunesOf (s : ByteArray) (hs : s.size ≤ maxLen) (w : World) :
    Calls Tryd.prog 26 #[.string s] w fun e w' => ∃ v bs, e = .returned (.tuple #[v, .bool (runesOk s)]) ∧ OwnL w.heap.size w' 3 v bs (runesL s) ∧ Below w.heap.size w w' := by
  obtain ⟨i0, hi, hz0, hz1, hz2⟩ := info_parts info_int
  by_cases hbig : 65536 < s.size
  · have E := hid (show runesOk s = false ∧ runesL s = [] by simp [runesOk, runesL, runesOf, hbig])
    have hbi : (s.size : Int) > 65536 := by omega
    go_enter Tryd.func26, Tryd.ntmps26
    go_wp2
    refine bodyPost_ret (v := .tuple #[.slice none 0 0, .bool false]) (by simp [results, Tryd.results26, go_sem]) rfl ?_
    exact ⟨.slice none 0 0, [], by rw [E.out.1], by rw [E.out.2]; exact OwnL.nil _ _ _, Below.refl _ _⟩
  have hbi : ¬ (s.size : Int) > 65536 := by omega
  have hsz : s.size ≤ 65536 := by omega
  have hcv : ∀ (W : World) (s : ByteArray), (convert 9 32 (.string s)).run Tryd.prog W = .ok (.slice (some ⟨W.heap.size, 0, none⟩) s.size (grownCap W s.size 0 5)) (W.drew.alloc (.cells (bytesRow s (grownCap W s.size 0 5)) 5 ((bytesRow s (grownCap W s.size 0 5)).size, (bytesRow s (grownCap W s.size 0 5)).size + 1))) := fun W s => run_bytes_of_string W _ _ _ s Tryd.underlying9 Tryd.underlying32 Tryd.underlying5
  obtain ⟨cap, hcap⟩ : ∃ cap, cap = grownCap w s.size 0 5 := ⟨_, rfl⟩
  have hc1 : s.size ≤ cap := by rw [hcap]; exact grownCap_ge _ _ _ _
  have hc2 : cap ≤ maxLen := by rw [hcap]; exact grownCap_le_maxLen _ _ _ _ (by unfold maxLen; omega)
  obtain ⟨bsx, hSb⟩ := slc_bytes (w := w) s cap 5 ((bytesRow s cap).size, (bytesRow s cap).size + 1) rfl rfl hc1 hc2
  have hxl : s.data.toList.length = s.size := Array.length_toList
  have hR0 := hid (show runesOf s = runesR s.data.toList (s.size + 1) 0 [] by rw [runesOf, if_neg hbig])
  obtain ⟨xs, hxs⟩ : ∃ xs, xs = s.data.toList := ⟨_, rfl⟩
  rw [← hxs] at hSb hxl hR0
  have HXB := hid (show ∀ b ∈ bsx, b < w.heap.size + 1 from fun b hb => by have := (hSb.lts b hb).2; simpa using this)
  have HSb := hid hSb; have HXL := hid hxl; have HCAP := hid hcap
  clear hSb hxl hcap hxs hbig
  go_enter Tryd.func26, Tryd.ntmps26
  go_wp2_with fail
  rw [← HCAP.out]
  clear hcv
  go_loopw [4, 6] (fun v i wr => ∃ (k f : Nat) (acc : List Int) (p : Option Addr) (c : Nat) (b2 : List Nat), k ≤ s.size ∧ i = .int .i64 (k : Int) ∧ v = .slice p acc.length c ∧ OwnL (w.heap.size + 1) wr 3 (.slice p acc.length c) b2 acc ∧ acc.length ≤ k ∧ s.size + 1 ≤ k + f ∧ runesOf s = runesR xs f k acc ∧ Slc wr bsx (some ⟨w.heap.size, 0, none⟩) s.size cap xs ∧ Below w.heap.size w wr ∧ w.heap.size + 1 ≤ wr.heap.size) (fun _ i _ => s.size - (intOf i).toNat)
  case atStart => exact ⟨0, s.size + 1, [], none, 0, [], Nat.zero_le _, rfl, rfl, OwnL.nil _ _ _, Nat.le_refl _, by omega, hR0.out, HSb.out.grow ⟨rfl, rfl, rfl, Nat.le_refl _, fun _ _ => rfl⟩, ((Below.refl _ _).alloc (Nat.le_refl _) _).drew, by simp⟩
  case round =>
    obtain ⟨k, f, acc, p, c, b2, hk, rfl, rfl, hO, hal, hf, hR, hSl, hb, hlo⟩ := hrel
    have HO := hid hO; have HBr := hid hb; have HR := hid hR; have HSl := hid hSl; clear hO hb hR hSl
    by_cases hlt : k < s.size
    rotate_left
    · obtain rfl : k = s.size := by omega
      have E := hid (show runesOk s = true ∧ runesL s = acc by rw [runesOk, runesL, HR.out, runesR_end (by rw [HXL.out]; omega)]; exact ⟨rfl, rfl⟩)
      go_wp2
      refine bodyPost_ret (v := .tuple #[.slice p acc.length c, .bool true]) (by simp [results, Tryd.results26, go_sem]) rfl ?_
      exact ⟨_, b2, by rw [E.out.1], by rw [E.out.2]; exact HO.out.mono (by omega), HBr.out⟩
    obtain ⟨f, rfl⟩ : ∃ f2, f = f2 + 1 := ⟨f - 1, by omega⟩
    have hki : (k : Int) < (s.size : Int) := by omega
    have HKX := hid (show k < xs.length by rw [HXL.out]; exact hlt)
    have hr4 := rdL_le (xs.drop k)
    rw [List.length_drop, HXL.out] at hr4
    have hrr := rdR_range (xs.drop k)
    obtain ⟨L, hL⟩ : ∃ L, L = rdL (xs.drop k) := ⟨_, rfl⟩
    obtain ⟨r, hr⟩ : ∃ r, r = rdR (xs.drop k) := ⟨_, rfl⟩
    rw [← hL] at hr4
    rw [← hr] at hrr
    have HLr := hid (And.intro hL hr); clear hL hr
    go_wp2_with fail
    refine (i_RuneRead HSl.out k HKX.out).mono ?_
    rintro e w3 ⟨rfl, hb⟩
    rw [← HLr.out.1, ← HLr.out.2]
    have HO3 := hid (HO.out.grow hb); have HB3 := hid (HBr.out.trans (hb.mono HBr.out.size)); have HS3 := hid (HSl.out.grow hb); have hlo3 := Nat.le_trans hlo hb.size
    clear hb
    by_cases hL0 : L = 0
    · subst hL0
      have E := hid (show runesOk s = false ∧ runesL s = [] by rw [runesOk, runesL, HR.out, runesR_bad HKX.out HLr.out.1.symm]; exact ⟨rfl, rfl⟩)
      go_wp2
      refine bodyPost_ret (v := .tuple #[.slice none 0 0, .bool false]) (by simp [results, Tryd.results26, go_sem]) rfl ?_
      exact ⟨.slice none 0 0, [], by rw [E.out.1], by rw [E.out.2]; exact OwnL.nil _ _ _, HB3.out⟩
    have hLb : ((L : Int) == 0) = false := by rw [beq_eq_false_iff_ne]; omega
    have HR2 := hid (show runesOf s = runesR xs f (k + L) (acc ++ [r]) by rw [HR.out, runesR_go HKX.out (by rw [← HLr.out.1]; exact hL0), ← HLr.out.1, ← HLr.out.2])
    have h64 : I64 r := by unfold I64; omega
    have HB2 := HB3
    go_wp2_with (at_builtin; refine wp_append rfl _ _ 37 rfl 3 i0 (.int .i64 0) 8 Tryd.underlying37 hi hz0 hz1 hz2 rfl (lo := w.heap.size + 1) (bs := b2) (xs := acc) rfl ?own (b2 := []) (ys := [r]) rfl ?src List.nodup_nil ?q1 ?q2 ?q3 ?q4 ?_)
    case own => repeat (first | exact HO3.out | refine OwnL.alloc ?_ _ | refine OwnL.setCell ?_ (fun b hb => by have := HO3.out.lts b hb; simp; try omega) _)
    case src => exact src_new (pt_i h64) (by simp) _ _
    case q1 => simp
    case q2 => (first | omega | (simp; omega) | (simp; done))
    case q3 => (first | omega | (simp; omega) | (simp; done))
    case q4 => (first | omega | (simp; omega) | (simp; done) | (have := HB2.out.size; first | omega | (simp; omega)))
    intro p4 c4 w4 b4 hO hT hm
    have HB4 := hid (below_tch (HB3.out.alloc HB3.out.size _) hT (fun x hx => by have := HO3.out.lts x hx; simp; omega))
    have HS4 := hid ((HS3.out.grow ((Below.refl _ _).alloc (Nat.le_refl _) _)).tch hT (fun x hx hx2 => by have q1 := (HO3.out.lts x hx2).1; have q2 := HXB.out x hx; omega))
    have hz4 := hT.size; simp at hz4
    try simp only [List.length_cons, List.length_nil, Nat.zero_add] at hO
    try simp only [List.length_cons, List.length_nil, Nat.zero_add]
    have HO4 := hid hO
    clear hO hT hm
    obtain ⟨m, hm⟩ : ∃ m : Nat, m = k + L := ⟨_, rfl⟩
    have hix0 : (k : Int) + (L : Int) = (m : Int) := by omega
    rw [← hm] at HR2
    have hmk : m ≤ s.size ∧ k < m := by omega
    have HM := hid (And.intro hm hmk)
    clear hm hmk
    go_wp2
    exact ⟨⟨m, f, acc ++ [r], p4, c4, b4, HM.out.2.1, rfl, by rw [List.length_append]; rfl, by rw [List.length_append]; exact HO4.out, by rw [List.length_append, List.length_cons, List.length_nil]; have := HM.out; omega, by have := HM.out; omega, HR2.out, HS4.out, HB4.out, by omega⟩, by have := HM.out; simp [intOf]; omega⟩
theorem s_RunesOf (s : ByteArray) (hs : s.size ≤ maxLen) (w : World) :
    Calls Tryd.prog 24 #[.string s] w fun e w' => ∃ v bs, e = .returned (.tuple #[v, .bool (runesOk s)]) ∧ OwnL w.heap.size w' 3 v bs (runesL s) ∧ Below w.heap.size w w' := by
  obtain ⟨i0, hi, hz0, hz1, hz2⟩ := info_parts info_int
  by_cases hbig : 65536 < s.size
  · have E := hid (show runesOk s = false ∧ runesL s = [] by simp [runesOk, runesL, runesOf, hbig])
    have hbi : (s.size : Int) > 65536 := by omega
    go_enter Tryd.func24, Tryd.ntmps24
    go_wp2
    refine bodyPost_ret (v := .tuple #[.slice none 0 0, .bool false]) (by simp [results, Tryd.results24, go_sem]) rfl ?_
    exact ⟨.slice none 0 0, [], by rw [E.out.1], by rw [E.out.2]; exact OwnL.nil _ _ _, Below.refl _ _⟩
  have hbi : ¬ (s.size : Int) > 65536 := by omega
  have hsz : s.size ≤ 65536 := by omega
  have hcv : ∀ (W : World) (s : ByteArray), (convert 9 32 (.string s)).run Tryd.prog W = .ok (.slice (some ⟨W.heap.size, 0, none⟩) s.size (grownCap W s.size 0 5)) (W.drew.alloc (.cells (bytesRow s (grownCap W s.size 0 5)) 5 ((bytesRow s (grownCap W s.size 0 5)).size, (bytesRow s (grownCap W s.size 0 5)).size + 1))) := fun W s => run_bytes_of_string W _ _ _ s Tryd.underlying9 Tryd.underlying32 Tryd.underlying5
  obtain ⟨cap, hcap⟩ : ∃ cap, cap = grownCap w s.size 0 5 := ⟨_, rfl⟩
  have hc1 : s.size ≤ cap := by rw [hcap]; exact grownCap_ge _ _ _ _
  have hc2 : cap ≤ maxLen := by rw [hcap]; exact grownCap_le_maxLen _ _ _ _ (by unfold maxLen; omega)
  obtain ⟨bsx, hSb⟩ := slc_bytes (w := w) s cap 5 ((bytesRow s cap).size, (bytesRow s cap).size + 1) rfl rfl hc1 hc2
  have hxl : s.data.toList.length = s.size := Array.length_toList
  have hR0 := hid (show runesOf s = runesR s.data.toList (s.size + 1) 0 [] by rw [runesOf, if_neg hbig])
  obtain ⟨xs, hxs⟩ : ∃ xs, xs = s.data.toList := ⟨_, rfl⟩
  rw [← hxs] at hSb hxl hR0
  have HXB := hid (show ∀ b ∈ bsx, b < w.heap.size + 1 from fun b hb => by have := (hSb.lts b hb).2; simpa using this)
  have HSb := hid hSb; have HXL := hid hxl; have HCAP := hid hcap
  clear hSb hxl hcap hxs hbig
  go_enter Tryd.func24, Tryd.ntmps24
  go_wp2_with fail
  rw [← HCAP.out]
  clear hcv
  go_loopw [5, 6] (fun v i wr => ∃ (k f : Nat) (acc : List Int) (p : Option Addr) (c : Nat) (b2 : List Nat), k ≤ s.size ∧ i = .int .i64 (k : Int) ∧ v = .slice p acc.length c ∧ OwnL (w.heap.size + 1) wr 3 (.slice p acc.length c) b2 acc ∧ acc.length ≤ k ∧ s.size + 1 ≤ k + f ∧ runesOf s = runesR xs f k acc ∧ Slc wr bsx (some ⟨w.heap.size, 0, none⟩) s.size cap xs ∧ Below w.heap.size w wr ∧ w.heap.size + 1 ≤ wr.heap.size) (fun _ i _ => s.size - (intOf i).toNat)
  case atStart => exact ⟨0, s.size + 1, [], some ⟨w.heap.size + 1, 0, none⟩, 0, [w.heap.size + 1], Nat.zero_le _, rfl, rfl, by first | exact ownL_empty (by simp) (by simp) | exact (ownL_empty (by simp) (by simp)).drew, Nat.le_refl _, by omega, hR0.out, (HSb.out.grow ((Below.refl _ _).alloc (Nat.le_refl _) _)).grow ⟨rfl, rfl, rfl, Nat.le_refl _, fun _ _ => rfl⟩, by first | exact (((Below.refl _ _).alloc (Nat.le_refl _) _).alloc (by simp) _).drew | exact (((Below.refl _ _).alloc (Nat.le_refl _) _).drew).alloc (by simp) _, by simp⟩
  case round =>
    obtain ⟨k, f, acc, p, c, b2, hk, rfl, rfl, hO, hal, hf, hR, hSl, hb, hlo⟩ := hrel
    have HO := hid hO; have HBr := hid hb; have HR := hid hR; have HSl := hid hSl; clear hO hb hR hSl
    by_cases hlt : k < s.size
    rotate_left
    · obtain rfl : k = s.size := by omega
      have E := hid (show runesOk s = true ∧ runesL s = acc by rw [runesOk, runesL, HR.out, runesR_end (by rw [HXL.out]; omega)]; exact ⟨rfl, rfl⟩)
      go_wp2
      refine bodyPost_ret (v := .tuple #[.slice p acc.length c, .bool true]) (by simp [results, Tryd.results24, go_sem]) rfl ?_
      exact ⟨_, b2, by rw [E.out.1], by rw [E.out.2]; exact HO.out.mono (by omega), HBr.out⟩
    obtain ⟨f, rfl⟩ : ∃ f2, f = f2 + 1 := ⟨f - 1, by omega⟩
    have hki : (k : Int) < (s.size : Int) := by omega
    have HKX := hid (show k < xs.length by rw [HXL.out]; exact hlt)
    have hr4 := rdL_le (xs.drop k)
    rw [List.length_drop, HXL.out] at hr4
    have hrr := rdR_range (xs.drop k)
    obtain ⟨L, hL⟩ : ∃ L, L = rdL (xs.drop k) := ⟨_, rfl⟩
    obtain ⟨r, hr⟩ : ∃ r, r = rdR (xs.drop k) := ⟨_, rfl⟩
    rw [← hL] at hr4
    rw [← hr] at hrr
    have HLr := hid (And.intro hL hr); clear hL hr
    go_wp2_with fail
    refine (s_RuneRead HSl.out k HKX.out).mono ?_
    rintro e w3 ⟨rfl, hb⟩
    rw [← HLr.out.1, ← HLr.out.2]
    have HO3 := hid (HO.out.grow hb); have HB3 := hid (HBr.out.trans (hb.mono HBr.out.size)); have HS3 := hid (HSl.out.grow hb); have hlo3 := Nat.le_trans hlo hb.size
    clear hb
    by_cases hL0 : L = 0
    · subst hL0
      have E := hid (show runesOk s = false ∧ runesL s = [] by rw [runesOk, runesL, HR.out, runesR_bad HKX.out HLr.out.1.symm]; exact ⟨rfl, rfl⟩)
      go_wp2
      refine bodyPost_ret (v := .tuple #[.slice none 0 0, .bool false]) (by simp [results, Tryd.results24, go_sem]) rfl ?_
      exact ⟨.slice none 0 0, [], by rw [E.out.1], by rw [E.out.2]; exact OwnL.nil _ _ _, HB3.out⟩
    have hLb : ((L : Int) == 0) = false := by rw [beq_eq_false_iff_ne]; omega
    have HR2 := hid (show runesOf s = runesR xs f (k + L) (acc ++ [r]) by rw [HR.out, runesR_go HKX.out (by rw [← HLr.out.1]; exact hL0), ← HLr.out.1, ← HLr.out.2])
    have h64 : I64 r := by unfold I64; omega
    have HB2 := HB3
    go_wp2_with (at_builtin; refine wp_append rfl _ _ 37 rfl 3 i0 (.int .i64 0) 8 Tryd.underlying37 hi hz0 hz1 hz2 rfl (lo := w.heap.size + 1) (bs := b2) (xs := acc) rfl ?own (b2 := []) (ys := [r]) rfl ?src List.nodup_nil ?q1 ?q2 ?q3 ?q4 ?_)
    case own => repeat (first | exact HO3.out | refine OwnL.alloc ?_ _ | refine OwnL.setCell ?_ (fun b hb => by have := HO3.out.lts b hb; simp; try omega) _)
    case src => exact src_new (pt_i h64) (by simp) _ _
    case q1 => simp
    case q2 => (first | omega | (simp; omega) | (simp; done))
    case q3 => (first | omega | (simp; omega) | (simp; done))
    case q4 => (first | omega | (simp; omega) | (simp; done) | (have := HB2.out.size; first | omega | (simp; omega)))
    intro p4 c4 w4 b4 hO hT hm
    have HB4 := hid (below_tch (HB3.out.alloc HB3.out.size _) hT (fun x hx => by have := HO3.out.lts x hx; simp; omega))
    have HS4 := hid ((HS3.out.grow ((Below.refl _ _).alloc (Nat.le_refl _) _)).tch hT (fun x hx hx2 => by have q1 := (HO3.out.lts x hx2).1; have q2 := HXB.out x hx; omega))
    have hz4 := hT.size; simp at hz4
    try simp only [List.length_cons, List.length_nil, Nat.zero_add] at hO
    try simp only [List.length_cons, List.length_nil, Nat.zero_add]
    have HO4 := hid hO
    clear hO hT hm
    obtain ⟨m, hm⟩ : ∃ m : Nat, m = k + L := ⟨_, rfl⟩
    have hix0 : (k : Int) + (L : Int) = (m : Int) := by omega
    rw [← hm] at HR2
    have hmk : m ≤ s.size ∧ k < m := by omega
    have HM := hid (And.intro hm hmk)
    clear hm hmk
    go_wp2
    exact ⟨⟨m, f, acc ++ [r], p4, c4, b4, HM.out.2.1, rfl, by rw [List.length_append]; rfl, by rw [List.length_append]; exact HO4.out, by rw [List.length_append, List.length_cons, List.length_nil]; have := HM.out; omega, by have := HM.out; omega, HR2.out, HS4.out, HB4.out, by omega⟩, by have := HM.out; simp [intOf]; omega⟩
end Go.Proofs.YtgcdgkiefbbhkaaDoor
