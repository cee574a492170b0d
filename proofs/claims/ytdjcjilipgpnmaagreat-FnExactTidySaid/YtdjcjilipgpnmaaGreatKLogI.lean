/- A log's bytes. -/
import Derived.Test.YtdjcjilipgpnmaaGreatKFrmS
import Derived.Test.YtdjcjilipgpnmaaGreatKDirS
set_option linter.unusedSimpArgs false
set_option linter.unusedVariables false
namespace Go.G6
open Go Go.RowKit Rep
theorem entOk_eq (e : EntryD) : entOk e = entryOk e := by
 unfold entOk entryOk inB; rw [Bool.eq_iff_iff]; simp; omega
theorem allB_all (f : Nat → Bool) : ∀ n k, allB f n k = true → ∀ j, k ≤ j → j < k + n → f j = true
 | 0, k, _, j, h1, h2 => absurd h2 (by omega)
 | n + 1, k, h, j, h1, h2 => by
  have h' : f k = true ∧ allB f n (k + 1) = true := by simpa [allB] using h
  by_cases hj : j = k
  ·rw [hj]; exact h'.1
  ·exact allB_all f n (k + 1) h'.2 j (by omega) (by omega)
theorem entriesOk_at {l : List EntryD} (h : entriesOk l = true) (k : Nat) (hk : k < l.length) : entryOk l[k] = true := by
 have := allB_all _ _ _ h k (Nat.zero_le _) (by omega)
 simp [entP, hk] at this
 rw [← entOk_eq]; exact this.1
def logF (l : List EntryD) : List UInt8 := l.flatMap frameB
def logOk (l : List EntryD) : Bool := entriesOk l && decide ((logF l).length ≤ 65536)
def logL (l : List EntryD) : List UInt8 := if logOk l = true then logF l else []
theorem logF_take {l : List EntryD} {k : Nat} (h : k < l.length) : logF (l.take (k + 1)) = logF (l.take k) ++ frameB l[k] := by
 rw [List.take_succ_eq_append_getElem h, logF, List.flatMap_append, List.flatMap_singleton]; rfl
theorem logF_le (l : List EntryD) (k : Nat) : (logF (l.take k)).length ≤ (logF l).length := by
 have : logF l = logF (l.take k) ++ logF (l.drop k) := by
  rw [show logF (l.take k) ++ logF (l.drop k) = logF (l.take k ++ l.drop k) from List.flatMap_append.symm, List.take_append_drop]
 rw [this, List.length_append]; omega
end Go.G6
namespace Go.Proofs.YtdjcjilipgpnmaaGreat
open Go.RowKit Go.G6
set_option maxHeartbeats 6000000
set_option maxRecDepth 10000
theorem s_LogBytes {w : World} {bs : List Nat} {a : Option Addr} {len cap : Nat} {l : List EntryD} (h : Slc w bs a len cap l) :
  Calls Tryz.prog 39 #[.slice a len cap] w fun e w' => ∃ v bs', e = .returned (.tuple #[v, .bool (logOk l)]) ∧ OwnL w.heap.size w' 5 v bs' (logL l) ∧ Below w.heap.size w w' := by
 obtain rfl := h.len_eq
 obtain ⟨i0, hi, hz0, hz1, hz2⟩ := info_parts info_byte
 have m1 := h.max
 have H := hid h; clear h
 cases hk : entriesOk l
 ·have HZ := hid (show logOk l = false ∧ logL l = [] by constructor <;> simp [logOk, logL, hk])
  have Hk := hid hk; clear hk
  go_enter Tryz.func39, Tryz.ntmps39
  go_wp2_with fail
  refine (s_EntriesOk H.out).mono ?_
  rintro e w1 ⟨rfl, hb⟩
  have HB := hid hb
  clear hb
  rw [Hk.out]
  go_wp2
  go_ret2
  exact ⟨_, [], by rw [HZ.out.1]; rfl, by rw [HZ.out.2]; exact OwnL.nil _ _ _, HB.out⟩
 have Hk := hid hk; clear hk
 go_enter Tryz.func39, Tryz.ntmps39
 go_wp2_with fail
 refine (s_EntriesOk H.out).mono ?_
 rintro e w1 ⟨rfl, hb⟩
 have HB := hid (hb.alloc hb.size (.cells #[] 5))
 have hz1s := hb.size
 have HO := hid (show OwnL w.heap.size (w1.alloc (.cells #[] 5)) 5 (.slice (some ⟨w1.heap.size, 0, none⟩) 0 0) [w1.heap.size] ([] : List UInt8) from ownL_empty rfl hb.size)
 clear hb
 rw [Hk.out]
 go_wp2_with fail
 go_loopw [4, 15] (fun o i wr => ∃ (k : Nat) (p : Option Addr) (c : Nat) (b' : List Nat) (m : Nat) (don : List UInt8), k ≤ l.length ∧ m = don.length ∧ m ≤ 65536 ∧ o = .slice p m c ∧ i = .int .i64 (k : Int) ∧ OwnL w.heap.size wr 5 (.slice p m c) b' don ∧ don = logF (l.take k) ∧ Below w.heap.size w wr) (fun _ i _ => l.length - (intOf i).toNat)
 case atStart => exact ⟨0, some ⟨w1.heap.size, 0, none⟩, 0, [w1.heap.size], 0, [], Nat.zero_le _, rfl, by omega, rfl, rfl, HO.out, rfl, HB.out⟩
 case round =>
  obtain ⟨k, p, c, b', m, don, hk, hm, hm6, rfl, rfl, hO, hd, hb⟩ := hrel
  have HOr := hid hO; have HD := hid hd; have HBr := hid hb; have HM := hid hm
  clear hO hd hm HO HB
  by_cases hlt : k < l.length
  rotate_left
  ·obtain rfl : k = l.length := by omega
   have hki : ¬ (l.length : Int) < (l.length : Int) := by omega
   have hE : don = logF l := by rw [HD.out, List.take_length]
   have HE := hid (show logOk l = true ∧ logL l = don by
    have h1 : logOk l = true := by unfold logOk; rw [Hk.out, ← hE, ← HM.out]; simp; omega
    exact ⟨h1, by unfold logL; rw [if_pos h1, hE]⟩)
   clear hE
   go_wp2
   go_ret2
   exact ⟨.slice p m c, by rw [HE.out.1]; rfl, ⟨b', by rw [HE.out.2]; exact HOr.out⟩, HBr.out⟩
  obtain ⟨b1, o1, cs1, _, rfl, _, hp1, _, hA1⟩ := (H.out.grow hb).elem k hlt
  obtain ⟨_, rfl, q1, q2⟩ := open_Entry hp1
  have c0 : wr.cell? ⟨b1, o1 + k * 2, none⟩ = some _ := hA1 0 _ rfl
  have c1 : wr.cell? ⟨b1, o1 + k * 2 + 1, none⟩ = some _ := hA1 1 _ rfl
  have hok := entriesOk_at Hk.out k hlt
  have hst := logF_take hlt
  have hle := logF_le l (k + 1)
  have hki : (k : Int) < (l.length : Int) := by omega
  obtain ⟨x, hx⟩ : ∃ x, x = l[k] := ⟨_, rfl⟩
  rw [← hx] at hst c0 c1 hok q1 q2
  have HST := hid hst; have HOK := hid hok; have HLE := hid hle
  have HPT := fun (W : World) => mk_Entry (w := W) q1 q2
  clear hst hok hle hp1 hA1 hx hb
  go_wp2_with fail
  refine (s_FrameBytes (HPT _)).mono ?_
  rintro e w3 ⟨v3, b3, rfl, hO3, hb3⟩
  rw [HOK.out]
  obtain ⟨p3, c3, rfl⟩ := hO3.slice
  have hB3 := below_call (HBr.out.alloc HBr.out.size _) hb3
  have hgr := ((Below.refl wr.heap.size wr).alloc (Nat.le_refl _) _).trans (hb3.mono (by simp))
  have HO3r := hid (HOr.out.grow hgr)
  have hfx : frameL x = frameB x := by unfold frameL; rw [if_pos HOK.out]
  obtain ⟨_, _, y3, e3, _, s3⟩ := hO3.slc
  obtain ⟨rfl, e2, rfl⟩ := Value.slice.inj e3
  clear e2 e3
  obtain ⟨n3, hn3⟩ : ∃ n, n = (frameL x).length := ⟨_, rfl⟩
  rw [← hn3] at s3
  rw [← hn3]
  have HS3 := hid s3.src
  have hn9 : n3 ≤ 65536 := by
   have h1 := HLE.out
   rw [hn3, hfx, frameB_len]
   have := HOK.out
   simp [entryOk] at this
   omega
  have HN3 := hid (show m + n3 = (don ++ frameL x).length by rw [List.length_append, ← hn3, HM.out])
  have HD3 := hid (show don ++ frameL x = logF (l.take (k + 1)) by rw [HST.out, HD.out, hfx])
  have HB3 := hid hB3
  clear hO3 hb3 hB3 hgr hfx s3 hn3 HOr HBr
  by_cases hfit : m + n3 ≤ 65536
  rotate_left
  ·have hfi : (65536 : Int) - (n3 : Int) < (m : Int) := by omega
   have HE := hid (show logOk l = false ∧ logL l = [] by
    have h1 : logOk l = false := by
     unfold logOk
     have h2 := HLE.out
     rw [← HD3.out, ← HN3.out] at h2
     rw [decide_eq_false (by omega), Bool.and_false]
    exact ⟨h1, by unfold logL; rw [h1]; rfl⟩)
   clear hfit
   go_wp2
   go_ret2
   exact ⟨_, [], by rw [HE.out.1]; rfl, by rw [HE.out.2]; exact OwnL.nil _ _ _, HB3.out⟩
  have hfi : ¬ (65536 : Int) - (n3 : Int) < (m : Int) := by omega
  go_wp2_with (at_builtin; refine wp_append rfl _ _ 54 rfl 5 i0 (.int .u8 0) 1 Tryz.underlying54 hi hz0 hz1 hz2 rfl (lo := w.heap.size) (bs := b') (xs := don) rfl ?own (b2 := []) (ys := frameL x) rfl ?src List.nodup_nil ?q1 ?q2 ?q3 ?q4 ?_)
  case own => exact HO3r.out
  case src => exact HS3.out
  case q1 => simp
  case q2 => have := HN3.out; rw [List.length_append] at this; omega
  case q3 => have := HN3.out; rw [List.length_append] at this; omega
  case q4 => exact HB3.out.size
  intro p4 c4 w4 b4 hO4 hT4 hm4
  have HO4 := hid (show OwnL w.heap.size w4 5 (.slice p4 (m + n3) c4) b4 (don ++ frameL x) by
   have h1 := hO4; rw [← List.length_append, ← HN3.out] at h1; exact h1)
  rw [← List.length_append, ← HN3.out]
  have HB4 := hid (below_tch HB3.out hT4 HO3r.out.lts)
  clear hO4 hT4 hm4 HO3r HB3 hfi
  go_wp2
  exact ⟨⟨k + 1, p4, c4, b4, m + n3, don ++ frameL x, by omega, HN3.out, hfit, rfl, by go_num, HO4.out, HD3.out, HB4.out⟩, by simp [intOf]; try omega⟩
theorem i_LogBytes {w : World} {bs : List Nat} {a : Option Addr} {len cap : Nat} {l : List EntryD} (h : Slc w bs a len cap l) :
  Calls Tryz.prog 41 #[.slice a len cap] w fun e w' => ∃ v bs', e = .returned (.tuple #[v, .bool (logOk l)]) ∧ OwnL w.heap.size w' 5 v bs' (logL l) ∧ Below w.heap.size w w' := by
 obtain rfl := h.len_eq
 obtain ⟨i0, hi, hz0, hz1, hz2⟩ := info_parts info_byte
 have m1 := h.max
 have H := hid h; clear h
 cases hk : entriesOk l
 ·have HZ := hid (show logOk l = false ∧ logL l = [] by constructor <;> simp [logOk, logL, hk])
  have Hk := hid hk; clear hk
  go_enter Tryz.func41, Tryz.ntmps41
  go_wp2_with fail
  refine (i_EntriesOk H.out).mono ?_
  rintro e w1 ⟨rfl, hb⟩
  have HB := hid hb
  clear hb
  rw [Hk.out]
  go_wp2
  go_ret2
  exact ⟨_, [], by rw [HZ.out.1]; rfl, by rw [HZ.out.2]; exact OwnL.nil _ _ _, HB.out⟩
 have Hk := hid hk; clear hk
 go_enter Tryz.func41, Tryz.ntmps41
 go_wp2_with fail
 refine (i_EntriesOk H.out).mono ?_
 rintro e w1 ⟨rfl, hb⟩
 have HB := hid hb
 have hz1s := hb.size
 have HO := hid (OwnL.nil w.heap.size w1 5 (α := UInt8))
 clear hb
 rw [Hk.out]
 go_wp2_with fail
 go_loopw [4, 14] (fun o i wr => ∃ (k : Nat) (p : Option Addr) (c : Nat) (b' : List Nat) (m : Nat) (don : List UInt8), k ≤ l.length ∧ m = don.length ∧ m ≤ 65536 ∧ o = .slice p m c ∧ i = .int .i64 (k : Int) ∧ OwnL w.heap.size wr 5 (.slice p m c) b' don ∧ don = logF (l.take k) ∧ Below w.heap.size w wr) (fun _ i _ => l.length - (intOf i).toNat)
 case atStart => exact ⟨0, none, 0, [], 0, [], Nat.zero_le _, rfl, by omega, rfl, rfl, HO.out, rfl, HB.out⟩
 case round =>
  obtain ⟨k, p, c, b', m, don, hk, hm, hm6, rfl, rfl, hO, hd, hb⟩ := hrel
  have HOr := hid hO; have HD := hid hd; have HBr := hid hb; have HM := hid hm
  clear hO hd hm HO HB
  by_cases hlt : k < l.length
  rotate_left
  ·obtain rfl : k = l.length := by omega
   have hki : ¬ (l.length : Int) < (l.length : Int) := by omega
   have hE : don = logF l := by rw [HD.out, List.take_length]
   have HE := hid (show logOk l = true ∧ logL l = don by
    have h1 : logOk l = true := by unfold logOk; rw [Hk.out, ← hE, ← HM.out]; simp; omega
    exact ⟨h1, by unfold logL; rw [if_pos h1, hE]⟩)
   clear hE
   go_wp2
   go_ret2
   exact ⟨.slice p m c, by rw [HE.out.1]; rfl, ⟨b', by rw [HE.out.2]; exact HOr.out⟩, HBr.out⟩
  obtain ⟨b1, o1, cs1, _, rfl, _, hp1, _, hA1⟩ := (H.out.grow hb).elem k hlt
  obtain ⟨_, rfl, q1, q2⟩ := open_Entry hp1
  have c0 : wr.cell? ⟨b1, o1 + k * 2, none⟩ = some _ := hA1 0 _ rfl
  have c1 : wr.cell? ⟨b1, o1 + k * 2 + 1, none⟩ = some _ := hA1 1 _ rfl
  have hok := entriesOk_at Hk.out k hlt
  have hst := logF_take hlt
  have hle := logF_le l (k + 1)
  have hki : (k : Int) < (l.length : Int) := by omega
  obtain ⟨x, hx⟩ : ∃ x, x = l[k] := ⟨_, rfl⟩
  rw [← hx] at hst c0 c1 hok q1 q2
  have HST := hid hst; have HOK := hid hok; have HLE := hid hle
  have HPT := fun (W : World) => mk_Entry (w := W) q1 q2
  clear hst hok hle hp1 hA1 hx hb
  go_wp2_with fail
  refine (i_FrameBytes (HPT _)).mono ?_
  rintro e w3 ⟨v3, b3, rfl, hO3, hb3⟩
  rw [HOK.out]
  obtain ⟨p3, c3, rfl⟩ := hO3.slice
  have hB3 := below_call (HBr.out.alloc HBr.out.size _) hb3
  have hgr := ((Below.refl wr.heap.size wr).alloc (Nat.le_refl _) _).trans (hb3.mono (by simp))
  have HO3r := hid (HOr.out.grow hgr)
  have hfx : frameL x = frameB x := by unfold frameL; rw [if_pos HOK.out]
  obtain ⟨_, _, y3, e3, _, s3⟩ := hO3.slc
  obtain ⟨rfl, e2, rfl⟩ := Value.slice.inj e3
  clear e2 e3
  obtain ⟨n3, hn3⟩ : ∃ n, n = (frameL x).length := ⟨_, rfl⟩
  rw [← hn3] at s3
  rw [← hn3]
  have HS3 := hid s3.src
  have hn9 : n3 ≤ 65536 := by
   have h1 := HLE.out
   rw [hn3, hfx, frameB_len]
   have := HOK.out
   simp [entryOk] at this
   omega
  have HN3 := hid (show m + n3 = (don ++ frameL x).length by rw [List.length_append, ← hn3, HM.out])
  have HD3 := hid (show don ++ frameL x = logF (l.take (k + 1)) by rw [HST.out, HD.out, hfx])
  have HB3 := hid hB3
  clear hO3 hb3 hB3 hgr hfx s3 hn3 HOr HBr
  go_wp2_with (at_builtin; refine wp_append rfl _ _ 54 rfl 5 i0 (.int .u8 0) 1 Tryz.underlying54 hi hz0 hz1 hz2 rfl (lo := w.heap.size) (bs := b') (xs := don) rfl ?own (b2 := []) (ys := frameL x) rfl ?src List.nodup_nil ?q1 ?q2 ?q3 ?q4 ?_)
  case own => exact HO3r.out
  case src => exact HS3.out
  case q1 => simp
  case q2 => have := HN3.out; rw [List.length_append] at this; omega
  case q3 => have := HN3.out; rw [List.length_append] at this; omega
  case q4 => exact HB3.out.size
  intro p4 c4 w4 b4 hO4 hT4 hm4
  have HO4 := hid (show OwnL w.heap.size w4 5 (.slice p4 (m + n3) c4) b4 (don ++ frameL x) by
   have h1 := hO4; rw [← List.length_append, ← HN3.out] at h1; exact h1)
  rw [← List.length_append, ← HN3.out]
  have HB4 := hid (below_tch HB3.out hT4 HO3r.out.lts)
  clear hO4 hT4 hm4 HO3r HB3
  obtain ⟨mn, hmn⟩ : ∃ mn, mn = m + n3 := ⟨_, rfl⟩
  rw [← hmn] at HO4 HN3 ⊢
  clear hmn
  by_cases hfit : mn ≤ 65536
  rotate_left
  ·have hfi : (65536 : Int) < ((mn : Nat) : Int) := by omega
   have HE := hid (show logOk l = false ∧ logL l = [] by
    have h1 : logOk l = false := by
     unfold logOk
     have h2 := HLE.out
     rw [← HD3.out, ← HN3.out] at h2
     rw [decide_eq_false (by omega), Bool.and_false]
    exact ⟨h1, by unfold logL; rw [h1]; rfl⟩)
   clear hfit
   go_wp2
   go_ret2
   exact ⟨_, [], by rw [HE.out.1]; rfl, by rw [HE.out.2]; exact OwnL.nil _ _ _, HB4.out⟩
  have hfi : ¬ (65536 : Int) < ((mn : Nat) : Int) := by omega
  go_wp2
  exact ⟨⟨k + 1, p4, c4, b4, mn, don ++ frameL x, by omega, HN3.out, hfit, rfl, by go_num, HO4.out, HD3.out, HB4.out⟩, by simp [intOf]; try omega⟩
end Go.Proofs.YtdjcjilipgpnmaaGreat
