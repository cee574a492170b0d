/- Frames of a log: the reference. -/
import Derived.Test.YtdjcjilipgpnmaaGreatKFrmI
set_option linter.unusedSimpArgs false
set_option linter.unusedVariables false
namespace Go.Proofs.YtdjcjilipgpnmaaGreat
open Go.RowKit Go.G6
set_option maxHeartbeats 8000000
set_option maxRecDepth 10000
theorem pow_le4 {s : Nat} (h : s ≤ 4) : 256 ^ s ≤ 4294967296 ∧ 1 ≤ 256 ^ s := by
 obtain rfl | rfl | rfl | rfl | rfl : s = 0 ∨ s = 1 ∨ s = 2 ∨ s = 3 ∨ s = 4 := by omega
 all_goals exact ⟨by decide, by decide⟩
theorem s_l01Pow {w : World} (s : Nat) (hs : s ≤ 4) :
  Calls Tryz.prog 97 #[.int .i64 (s : Int)] w fun e w' => e = .returned (.int .i64 ((256 ^ s : Nat) : Int)) ∧ w = w' := by
 go_enter Tryz.func97, Tryz.ntmps97
 go_wp2_with fail
 go_loop [3, 4] (fun p i => ∃ k q : Nat, k ≤ s ∧ i = .int .i64 (k : Int) ∧ p = .int .i64 (q : Int) ∧ q = 256 ^ k) (fun _ i => s - (intOf i).toNat)
 case atStart => exact ⟨0, 1, Nat.zero_le _, rfl, rfl, rfl⟩
 case round =>
  obtain ⟨k, q, hk, rfl, rfl, hq⟩ := hrel
  have hp := pow_le4 (s := k) (by omega)
  rw [← hq] at hp
  have hp1 := hp.1
  have HQ := hid hq; clear hq hp
  by_cases hlt : k < s
  ·have hlti : (k : Int) < (s : Int) := by omega
   have HN := hid (show q * 256 = 256 ^ (k + 1) by rw [HQ.out, Nat.pow_succ])
   go_wp2
   exact ⟨⟨k + 1, q * 256, by omega, by go_num, by go_num, HN.out⟩, by simp [intOf]; omega⟩
  ·obtain rfl : k = s := by omega
   go_wp2
   go_ret
   exact ⟨ret_int (by rw [HQ.out]; push_cast; rfl), rfl⟩
theorem s_PutNum {w : World} {bs : List Nat} {p0 : Option Addr} {m c0 : Nat} {xs : List UInt8} (h : Slc w bs p0 m c0 xs) (n s : Nat) (hs1 : 1 ≤ s) (hs : s ≤ 4) (hn : n < 256 ^ s) (hx : m + s ≤ 65536) :
  Calls Tryz.prog 52 #[.slice p0 m c0, .int .i64 (n : Int), .int .i64 (s : Int)] w fun e w' => ∃ p' c' bs', e = .returned (.tuple #[.slice p' (m + s) c', .bool true]) ∧ OwnL w.heap.size w' 5 (.slice p' (m + s) c') bs' (xs ++ numB n s) ∧ Below w.heap.size w w' := by
 obtain rfl := h.len_eq
 obtain ⟨i0, hi, hz0, hz1, hz2⟩ := info_parts info_byte
 have H := hid h; clear h
 obtain ⟨P, hP⟩ : ∃ P, P = 256 ^ s := ⟨_, rfl⟩
 have hpl := (pow_le4 hs).1
 rw [← hP] at hn hpl
 have HP := hid hP; clear hP
 have hni : (n : Int) < (P : Int) := by omega
 have hn0 : (0 : Int) ≤ (n : Int) := by omega
 have hsa : ¬ ((s : Int) < 1) := by omega
 have hsb : ¬ ((4 : Int) < (s : Int)) := by omega
 go_enter Tryz.func52, Tryz.ntmps52
 go_wp2_with first | (go_at_call 97; refine (s_l01Pow s hs).mono ?_; rintro e w' ⟨rfl, rfl⟩; rw [← HP.out]) | (at_builtin; refine wp_append rfl _ _ 54 rfl 5 i0 (.int .u8 0) 1 Tryz.underlying54 hi hz0 hz1 hz2 rfl (lo := w.heap.size) (xs := ([] : List UInt8)) rfl (ownL_empty rfl (Nat.le_refl _)) (b2 := []) rfl (H.out.grow ((Below.refl _ _).alloc (Nat.le_refl _) _)).src List.nodup_nil ?q1 ?q2 ?q3 ?q4 ?_)
 case q1 => simp
 case q2 => simp; omega
 case q3 => simp; omega
 case q4 => simp
 intro p1 k1 w1 b1 hO hT hb
 have HB1 := hid (below_tch ((Below.refl w.heap.size w).alloc (Nat.le_refl _) (.cells #[] 5)) hT (by simp))
 have HO1 := hid hO
 clear hO hT hb
 try simp only [List.length_nil, Nat.zero_add, List.nil_append] at HO1
 try simp only [List.length_nil, Nat.zero_add]
 go_wp2_with fail
 go_loopw [8, 9] (fun o k wr => ∃ (r : Nat) (p : Option Addr) (c : Nat) (b' : List Nat) (m : Nat) (don : List UInt8), r ≤ s ∧ m = don.length ∧ m + r = xs.length + s ∧ o = .slice p m c ∧ k = .int .i64 ((r : Int) - 1) ∧ OwnL w.heap.size wr 5 (.slice p m c) b' don ∧ don ++ numB n r = xs ++ numB n s ∧ Below w.heap.size w wr) (fun _ k _ => (intOf k + 1).toNat)
 case atStart => exact ⟨s, p1, k1, b1, xs.length, xs, Nat.le_refl _, rfl, rfl, rfl, by go_num, HO1.out, rfl, HB1.out⟩
 case round =>
  obtain ⟨r, p, c, b', m, don, hr, hm, hmr, rfl, rfl, hO, hd, hB⟩ := hrel
  have HO := hid hO; have HD := hid hd; have HB := hid hB; have HM := hid hm
  clear hO hd hB hm
  by_cases h0 : r = 0
  ·subst h0
   have hd := HD.out
   rw [show numB n 0 = [] from rfl, List.append_nil] at hd
   have hz : m = xs.length + s := by omega
   have HZ := hid (show OwnL w.heap.size wr 5 (.slice p (xs.length + s) c) b' (xs ++ numB n s) by rw [← hz, ← hd]; exact HO.out)
   have hzz := hid hz
   clear hz hd
   go_wp2
   go_ret2
   exact ⟨p, c, b', by rw [← hzz.out]; rfl, HZ.out, HB.out⟩
  obtain ⟨r, rfl⟩ : ∃ q, r = q + 1 := ⟨r - 1, by omega⟩
  have hr4 : r ≤ 4 := by omega
  have hk1 : ((r + 1 : Nat) : Int) - 1 = (r : Int) := by omega
  rw [hk1]
  obtain ⟨R, hR⟩ : ∃ R, R = 256 ^ r := ⟨_, rfl⟩
  have hR1 := (pow_le4 hr4).2
  have hR2 := (pow_le4 hr4).1
  rw [← hR] at hR1 hR2
  have HR := hid hR; clear hR
  obtain ⟨q, hq⟩ : ∃ q, q = n / R := ⟨_, rfl⟩
  have hqn : q ≤ n := by rw [hq]; exact Nat.div_le_self _ _
  have hqi : (n : Int) / (R : Int) = (q : Int) := by rw [hq]; push_cast; rfl
  have hq9 : (q : Int) < 4294967296 := by omega
  obtain ⟨y, hy⟩ : ∃ y, y = UInt8.ofNat (q % 256) := ⟨_, rfl⟩
  have hV2 : (q : Int) % 256 = ((y.toNat : Nat) : Int) := by rw [hy]; have := u8_ofNat (q % 256); omega
  have hy9 := u8_lt y
  have HY := hid (show y = UInt8.ofNat (n / R % 256) by rw [hy, hq])
  clear hy hk1 hq hqn
  go_wp2_with first | (go_at_call 97; refine (s_l01Pow r hr4).mono ?_; rintro e w' ⟨rfl, rfl⟩; rw [← HR.out]) | (at_builtin; refine wp_append rfl _ _ 54 rfl 5 i0 (.int .u8 0) 1 Tryz.underlying54 hi hz0 hz1 hz2 rfl (lo := w.heap.size) (bs := b') (xs := don) rfl ?own (b2 := []) (ys := [y]) rfl ?src List.nodup_nil ?q1 ?q2 ?q3 ?q4 ?_)
  case own => exact HO.out.alloc _
  case src => exact src_new (cs := [.int .u8 ((y.toNat : Nat) : Int)]) (y := y) (b2 := []) (show Rep.pt wr [] [.int .u8 ((y.toNat : Nat) : Int)] y from ⟨rfl, rfl⟩) rfl _ _
  case q1 => simp
  case q2 => have := HM.out; simp; omega
  case q3 => have := HM.out; simp; omega
  case q4 => have := HB.out.size; simp; omega
  intro p4 c4 w4 b4 hO4 hT4 hm4
  have hl4 : don.length = m := HM.out.symm
  try simp only [List.length_cons, List.length_nil, Nat.zero_add] at hO4
  try simp only [List.length_cons, List.length_nil, Nat.zero_add]
  rw [hl4] at hO4
  try rw [hl4]
  have HO4 := hid hO4
  have HB4 := hid (below_tch (HB.out.alloc HB.out.size (.cells #[.int .u8 ((y.toNat : Nat) : Int)] 5)) hT4 (fun b hb9 => by have := HO.out.lts b hb9; simp; omega))
  have HD4 := hid (show (don ++ [y]) ++ numB n r = xs ++ numB n s by rw [← HD.out, List.append_assoc, HY.out, HR.out]; rfl)
  have HM4 := hid (show m + 1 = (don ++ [y]).length by have := HM.out; simp; omega)
  clear hO4 hT4 hm4 hl4 hV2
  go_wp2
  exact ⟨⟨r, p4, c4, b4, m + 1, don ++ [y], by omega, HM4.out, by omega, rfl, by go_num, HO4.out, HD4.out, HB4.out⟩, by simp [intOf]; try omega⟩
theorem s_PutNumM {w : World} {bs : List Nat} {p0 : Option Addr} {m c0 : Nat} {xs : List UInt8} (h : Slc w bs p0 m c0 xs) (n s k : Nat) (hs1 : 1 ≤ s) (hs : s ≤ 4) (hn : n < 256 ^ s) (hx : m + s ≤ 65536) (hk : m + s = k) :
  Calls Tryz.prog 52 #[.slice p0 m c0, .int .i64 (n : Int), .int .i64 (s : Int)] w fun e w' => ∃ p' c' bs', e = .returned (.tuple #[.slice p' k c', .bool true]) ∧ OwnL w.heap.size w' 5 (.slice p' k c') bs' (xs ++ numB n s) ∧ Below w.heap.size w w' := by
 subst hk; exact s_PutNum h n s hs1 hs hn hx
theorem s_EntryOkF {w : World} {bs : List Nat} {cs : List Value} {d : EntryD} (h : Rep.pt w bs cs d) :
  Calls Tryz.prog 51 #[.agg cs.toArray] w fun e w' => e = .returned (.bool (entryOk d)) ∧ Below w.heap.size w w' := by
 obtain ⟨rfl, rfl, h0, h1⟩ := open_Entry h
 have HB := hid ((Below.refl w.heap.size w).alloc (Nat.le_refl _) (.cells #[.int .i64 d.Num, .string d.Text] 53))
 clear h
 obtain ⟨n, T⟩ := d
 simp only at h0 h1 HB ⊢
 by_cases c1 : 1 ≤ n
 ·by_cases c2 : n ≤ 1000000000
  ·by_cases c3 : 1 ≤ T.size
   ·have c3i : (1 : Int) ≤ (T.size : Int) := by omega
    by_cases c4 : T.size ≤ 1000
    ·have c4i : (T.size : Int) ≤ 1000 := by omega
     have HE := hid (show entryOk ⟨n, T⟩ = true by simp [entryOk]; omega)
     go_enter Tryz.func51, Tryz.ntmps51
     go_wp2
     go_ret
     exact ⟨ret_bool (by rw [HE.out]), HB.out⟩
    ·have c4i : ¬ (T.size : Int) ≤ 1000 := by omega
     have HE := hid (show entryOk ⟨n, T⟩ = false by simp [entryOk]; omega)
     go_enter Tryz.func51, Tryz.ntmps51
     go_wp2
     go_ret
     exact ⟨ret_bool (by rw [HE.out]), HB.out⟩
   ·have c3i : ¬ (1 : Int) ≤ (T.size : Int) := by omega
    have HE := hid (show entryOk ⟨n, T⟩ = false by simp [entryOk]; omega)
    go_enter Tryz.func51, Tryz.ntmps51
    go_wp2
    go_ret
    exact ⟨ret_bool (by rw [HE.out]), HB.out⟩
  ·have HE := hid (show entryOk ⟨n, T⟩ = false by simp [entryOk]; omega)
   go_enter Tryz.func51, Tryz.ntmps51
   go_wp2
   go_ret
   exact ⟨ret_bool (by rw [HE.out]), HB.out⟩
 ·have HE := hid (show entryOk ⟨n, T⟩ = false by simp [entryOk]; omega)
  go_enter Tryz.func51, Tryz.ntmps51
  go_wp2
  go_ret
  exact ⟨ret_bool (by rw [HE.out]), HB.out⟩
theorem s_FrameBytes {w : World} {bs : List Nat} {cs : List Value} {d : EntryD} (h : Rep.pt w bs cs d) :
  Calls Tryz.prog 19 #[.agg cs.toArray] w fun e w' => ∃ v bs', e = .returned (.tuple #[v, .bool (entryOk d)]) ∧ OwnL w.heap.size w' 5 v bs' (frameL d) ∧ Below w.heap.size w w' := by
 obtain ⟨i0, hi, hz0, hz1, hz2⟩ := info_parts info_byte
 have H := hid h
 obtain ⟨rfl, rfl, h0, h1⟩ := open_Entry h
 clear h
 cases hk : entryOk d
 ·have HZ := hid (show frameL d = [] by unfold frameL; rw [if_neg (by simp [hk])])
  have Hk := hid hk; clear hk
  go_enter Tryz.func19, Tryz.ntmps19
  go_wp2_with fail
  refine (s_EntryOkF (grow H.out ((Below.refl _ _).alloc (Nat.le_refl _) _))).mono ?_
  rintro e w1 ⟨rfl, hb⟩
  have HB := hid (below_call ((Below.refl _ _).alloc (Nat.le_refl _) _) hb)
  clear hb
  rw [Hk.out]
  go_wp2
  go_ret2
  exact ⟨_, [], rfl, by rw [HZ.out]; exact OwnL.nil _ _ _, HB.out⟩
 have HZ := hid (show frameL d = frameB d by unfold frameL; rw [if_pos hk])
 have hkk : (1 ≤ d.Num ∧ d.Num ≤ 1000000000) ∧ (1 ≤ d.Text.size ∧ d.Text.size ≤ 1000) := by simpa [entryOk] using hk
 have Hk := hid hk; clear hk
 obtain ⟨Num, T⟩ := d
 simp only at hkk h0 h1
 obtain ⟨n, rfl⟩ := Int.eq_ofNat_of_zero_le (show 0 ≤ Num by omega)
 have hn9 : n < 256 ^ 4 := by omega
 have ht9 : T.size ≤ 1000 := by omega
 have ht8 : T.size < 256 ^ 2 := by omega
 clear hkk h0 h1
 go_enter Tryz.func19, Tryz.ntmps19
 go_wp2_with fail
 refine (s_EntryOkF (grow H.out ((Below.refl _ _).alloc (Nat.le_refl _) _))).mono ?_
 rintro e w1 ⟨rfl, hb⟩
 have HB := hid (below_call ((Below.refl _ _).alloc (Nat.le_refl _) _) hb)
 have hz1s : w.heap.size + 1 ≤ w1.heap.size := by have := hb.size; simpa using this
 have c01 : w1.cell? ⟨w.heap.size, 0, none⟩ = some (.int .i64 (n : Int)) ∧ w1.cell? ⟨w.heap.size, 1, none⟩ = some (.string T) :=
  ⟨((Bx.new w #[.int .i64 (n : Int), .string T] 53 rfl).below hb (by simp)).out 0, ((Bx.new w #[.int .i64 (n : Int), .string T] 53 rfl).below hb (by simp)).out 1⟩
 clear hb
 rw [Hk.out]
 have c0 := c01.1; have c1 := c01.2
 go_wp2_with fail
 refine (s_PutNumM (slc_nil _) T.size 2 2 (by decide) (by decide) ht8 (by decide) rfl).mono ?_
 rintro e wB ⟨pB, cB, bB, rfl, hO, hb⟩
 rw [List.nil_append] at hO
 have cB01 := cell2_tch (Tch.of_below (bs := []) hb) c01 (by simp)
 have HBB := hid (HB.out.trans (hb.mono HB.out.size))
 have hzB : w.heap.size + 1 ≤ wB.heap.size := Nat.le_trans hz1s hb.size
 have HOB := hid (show OwnL w.heap.size wB 5 (.slice pB 2 cB) bB (numB T.size 2) from hO.mono HB.out.size)
 clear hO hb HB hz1s c0 c1 c01
 have c0 := cB01.1; have c1 := cB01.2
 go_wp2_with fail
 obtain ⟨aB, kB, yB, eB, _, sB⟩ := HOB.out.slc
 obtain ⟨rfl, e2, rfl⟩ := Value.slice.inj eB
 clear e2
 rw [numB_len] at sB
 refine (s_PutNumM sB n 4 6 (by decide) (by decide) hn9 (by decide) rfl).mono ?_
 rintro e wC ⟨pC, cC, bC, rfl, hO, hb⟩
 have cC01 := cell2_tch (Tch.of_below (bs := []) hb) cB01 (by simp)
 have HBC := hid (HBB.out.trans (hb.mono HBB.out.size))
 have hzC : w.heap.size + 1 ≤ wC.heap.size := Nat.le_trans hzB hb.size
 obtain ⟨hd, hhd⟩ : ∃ hd, hd = headB ⟨(n : Int), T⟩ := ⟨_, rfl⟩
 have HOC := hid (show OwnL (w.heap.size + 1) wC 5 (.slice pC 6 cC) bC hd by rw [hhd]; exact hO.mono hzB)
 clear hO hb HOB HBB hzB c0 c1 cB01 eB sB
 have hl6 : hd.length = 6 := by rw [hhd]; exact headB_len _
 obtain ⟨sm, hsm⟩ : ∃ sm, sm = crc32 (hd ++ T.data.toList) := ⟨_, rfl⟩
 have HSM := hid (show sm = sumB ⟨(n : Int), T⟩ by rw [hsm, hhd]; rfl)
 have HSN := hid hsm
 have hsm9 : sm < 256 ^ 4 := by rw [hsm]; exact crc32_lt _
 have HHD := hid hhd
 have HL6 := hid hl6
 clear hsm hhd hl6
 have c0 := cC01.1; have c1 := cC01.2
 go_wp2_with fail
 refine late_start (fun W => W.cell? ⟨w.heap.size, 0, none⟩ = some (.int .i64 (n : Int)) ∧ W.cell? ⟨w.heap.size, 1, none⟩ = some (.string T)) 99 (by kernel_rfl) ?_ (fun hS => ?_)
 ·exact cC01
 refine late_genw (fun wD hwD => ?_)
 rw [← hwD] at hS
 have HBD := hid (show Below w.heap.size w wD by rw [hwD]; exact HBC.out.drew)
 have HOD := hid (show OwnL (w.heap.size + 1) wD 5 (.slice pC 6 cC) bC hd by rw [hwD]; exact HOC.out.drew)
 have hzD : w.heap.size + 1 ≤ wD.heap.size := by rw [hwD]; exact hzC
 have hcD := hS
 clear hwD HBC HOC hzC c0 c1 cC01
 refine ltk 1 rfl ?_
 try simp only [Act.put, putZ, List.getElem_toArray, List.getElem_cons_zero, List.getElem_cons_succ]
 refine ltk 3 rfl ?_
 try simp only [Act.put, putZ, List.getElem_toArray, List.getElem_cons_zero, List.getElem_cons_succ]
 refine ltk 4 rfl ?_
 try simp only [Act.put, putZ, List.getElem_toArray, List.getElem_cons_zero, List.getElem_cons_succ]
 refine late_one (i := 0) rfl (by kernel_rfl) (fun K9 hK9 => ?_)
 go_simp
 have hDE : Below wD.heap.size wD (wD.alloc (.cells #[] 5)) := (Below.refl _ _).alloc (Nat.le_refl _) _
 have hcE := cell2_tch (Tch.of_below (bs := []) hDE) hS (by simp)
 have hOE : OwnL wD.heap.size (wD.alloc (.cells #[] 5)) 5 (.slice (some ⟨wD.heap.size, 0, none⟩) 0 0) [wD.heap.size] ([] : List UInt8) := ownL_empty rfl (Nat.le_refl _)
 have hsE : (wD.alloc (.cells #[] 5)).heap.size = wD.heap.size + 1 := by simp
 obtain ⟨aD, kD, yD, eD, _, sD⟩ := HOD.out.slc
 obtain ⟨rfl, e2, rfl⟩ := Value.slice.inj eD
 clear e2
 rw [HL6.out] at sD
 have hrE := (sD.grow hDE).src
 clear sD eD
 generalize hwE : wD.alloc (.cells #[] 5) = wE at *
 have HDE := hid hDE; have HOE := hid hOE; have HRE := hid hrE
 have hzE : wD.heap.size ≤ wE.heap.size := hDE.size
 clear hwE hDE hOE hrE hsE
 refine hK9.out _ _ (fun _ => ?_) (fun hS9 => ?_)
 ·(try dsimp only); exact hcE
 replace hS := hS9 (by decide)
 clear hK9 K9 hS9
 try simp only [Act.put, putZ, List.getElem_toArray, List.getElem_cons_zero, List.getElem_cons_succ]
 clear hS
 refine late_one (i := 2) rfl (by kernel_rfl) (fun K9 hK9 => ?_)
 refine step_append rfl _ _ 54 rfl 5 i0 (.int .u8 0) 1 Tryz.underlying54 hi hz0 hz1 hz2 rfl (lo := wD.heap.size) (bs := [wD.heap.size]) (xs := ([] : List UInt8)) rfl ?own (b2 := []) (ys := hd) rfl ?src List.nodup_nil ?q1 ?q2 ?q3 ?q4 ?_
 case own => exact HOE.out
 case src => exact HRE.out
 case q1 => simp
 case q2 => have := HL6.out; simp; omega
 case q3 => have := HL6.out; simp; omega
 case q4 => exact hzE
 intro pF cF wF bF hOF hTF hmF
 have hDF : Below wD.heap.size wD wF := HDE.out.trans (hTF.below HDE.out.size (by simp))
 have hcF := cell2_tch (Tch.of_below (bs := []) hDF) hcD (by simp)
 rw [List.nil_append] at hOF
 rw [List.length_nil, Nat.zero_add, HL6.out] at hOF ⊢
 have HOF := hid hOF; have HDF := hid hDF
 have hzF : wD.heap.size ≤ wF.heap.size := hDF.size
 clear hOF hTF hmF HDE HOE HRE hzE hcE hDF
 refine hK9.out _ _ (fun _ => ?_) (fun hS9 => ?_)
 ·(try dsimp only); exact hcF
 replace hS := hS9 (by decide)
 clear hK9 K9 hS9
 try simp only [Act.put, putZ, List.getElem_toArray, List.getElem_cons_zero, List.getElem_cons_succ]
 clear hS
 refine late_one (i := 5) rfl (by kernel_rfl) (fun K9 hK9 => ?_)
 refine step_append_S rfl _ _ 54 9 rfl 5 i0 Tryz.underlying54 Tryz.underlying9 hi hz0 hz1 hz2 (lo := wD.heap.size) (bs := bF) (xs := hd) rfl ?own rfl ?hl ?hlo ?_
 case own => exact HOF.out
 case hl => have := HL6.out; omega
 case hlo => exact hzF
 intro pG cG wG bG hOG hTG
 have LF := hid (fun b (hb9 : b ∈ bF) => (HOF.out.lts b hb9).1)
 have hDG : Below wD.heap.size wD wG := HDF.out.trans (hTG.below HDF.out.size (fun b hb9 => LF.out b hb9))
 have hcG := cell2_tch (Tch.of_below (bs := []) hDG) hcD (by simp)
 rw [HL6.out] at hOG ⊢
 have HOG := hid hOG; have HDG := hid hDG
 clear hOG hTG LF HOF HDF hDG hcF hzF
 refine hK9.out _ _ (fun _ => ?_) (fun hS9 => ?_)
 ·(try dsimp only); exact hcG
 replace hS := hS9 (by decide)
 clear hK9 K9 hS9
 try simp only [Act.put, putZ, List.getElem_toArray, List.getElem_cons_zero, List.getElem_cons_succ]
 clear hS
 refine late_one (i := 6) rfl (by kernel_rfl) (fun K9 hK9 => ?_)
 go_simp
 obtain ⟨by9, _, hOy⟩ := HOG.out.own
 have hln : (hd ++ T.data.toList).length = 6 + T.size := by rw [List.length_append, HL6.out, Array.length_toList]; rfl
 have hsl : Slc wG by9 pG (6 + T.size) cG (hd ++ T.data.toList) := by have := pt_slice.1 hOy.1; exact this
 refine (s_Crc32 hsl).mono ?_
 rintro e wH ⟨rfl, rfl⟩
 rw [← HSN.out]
 clear hOy hsl hln
 go_wp2_with fail
 refine hK9.out _ _ (fun _ => ?_) (fun hS9 => ?_)
 ·(try dsimp only); exact hcG
 replace hS := hS9 (by decide)
 clear hK9 K9 hS9
 try simp only [Act.put, putZ, List.getElem_toArray, List.getElem_cons_zero, List.getElem_cons_succ]
 clear hS
 refine late_one (i := 7) rfl (by kernel_rfl) (fun K9 hK9 => ?_)
 go_simp
 refine hK9.out _ _ (fun _ => ?_) (fun hS9 => ?_)
 ·(try dsimp only); exact hcG
 replace hS := hS9 (by decide)
 clear hK9 K9 hS9
 try simp only [Act.put, putZ, List.getElem_toArray, List.getElem_cons_zero, List.getElem_cons_succ]
 refine late_done (by kernel_rfl) ?_ _
 clear hS
 have HOI := hid (HOD.out.grow HDG.out)
 have HBI := hid (HBD.out.trans (HDG.out.mono HBD.out.size))
 have hzI : w.heap.size + 1 ≤ wG.heap.size := Nat.le_trans hzD HDG.out.size
 clear HOD HBD HOG HDG hzD hcD
 have c0 := hcG.1; have c1 := hcG.2
 go_wp2_with fail
 obtain ⟨aI, kI, yI, eI, _, sI⟩ := HOI.out.slc
 obtain ⟨rfl, e2, rfl⟩ := Value.slice.inj eI
 clear e2
 rw [HL6.out] at sI
 refine (s_PutNumM sI sm 4 10 (by decide) (by decide) hsm9 (by decide) rfl).mono ?_
 rintro e wJ ⟨pJ, cJ, bJ, rfl, hO, hb⟩
 have hcJ := cell2_tch (Tch.of_below (bs := []) hb) hcG (by simp)
 have HBJ := hid (HBI.out.trans (hb.mono HBI.out.size))
 have hzJ : w.heap.size + 1 ≤ wJ.heap.size := Nat.le_trans hzI hb.size
 obtain ⟨hs, hhs⟩ : ∃ hs, hs = hd ++ numB sm 4 := ⟨_, rfl⟩
 have HHS := hid hhs
 have HOJ := hid (show OwnL (w.heap.size + 1) wJ 5 (.slice pJ 10 cJ) bJ hs by rw [hhs]; exact hO.mono hzI)
 have HLJ := hid (show hs.length = 10 by rw [hhs, List.length_append, HL6.out, numB_len])
 clear hhs
 clear hO hb HBI HOI hzI eI sI c0 c1 hcG
 have c0 := hcJ.1; have c1 := hcJ.2
 go_wp2_with (at_builtin; refine wp_append_S rfl _ _ 54 9 rfl 5 i0 Tryz.underlying54 Tryz.underlying9 hi hz0 hz1 hz2 (lo := w.heap.size + 1) (bs := bJ) (xs := hs) rfl ?own rfl ?hl ?hlo ?_)
 case own => exact HOJ.out
 case hl => have := HLJ.out; omega
 case hlo => exact hzJ
 intro pK cK wK bK hOK hTK
 have LI := hid (fun b (hb9 : b ∈ bJ) => (HOJ.out.lts b hb9).1)
 have HBK := hid (HBJ.out.trans (hTK.below HBJ.out.size (fun b hb9 => by have := LI.out b hb9; omega)))
 rw [HLJ.out] at hOK ⊢
 have HOK := hid hOK
 clear hOK hTK LI HOJ HBJ hzJ c0 c1 hcJ
 go_wp2
 go_ret2
 refine ⟨_, bK, rfl, ?_, HBK.out⟩
 rw [HZ.out, show frameB ⟨(n : Int), T⟩ = hs ++ T.data.toList by rw [HHS.out, HHD.out, HSM.out]; rfl]
 exact HOK.out.mono (by omega)
end Go.Proofs.YtdjcjilipgpnmaaGreat
