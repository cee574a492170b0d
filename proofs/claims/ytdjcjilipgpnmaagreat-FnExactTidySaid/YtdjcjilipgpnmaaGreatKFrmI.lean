/- Frames of a log: the program. -/
import Derived.Test.YtdjcjilipgpnmaaGreatKFrmD
import Derived.Test.YtdjcjilipgpnmaaGreatKAppS
import Derived.Test.YtdjcjilipgpnmaaGreatKText
import Derived.Test.YtdjcjilipgpnmaaGreatKLiftT
import Derived.Deep.DeepCutAuto
set_option linter.unusedSimpArgs false
set_option linter.unusedVariables false
namespace Go.Proofs.YtdjcjilipgpnmaaGreat
open Go.RowKit Go.G6
set_option maxHeartbeats 8000000
set_option maxRecDepth 10000
theorem i_EntryOkF {w : World} {bs : List Nat} {cs : List Value} {d : EntryD} (h : Rep.pt w bs cs d) :
  Calls Tryz.prog 63 #[.agg cs.toArray] w fun e w' => e = .returned (.bool (entryOk d)) ∧ Below w.heap.size w w' := by
 obtain ⟨rfl, rfl, h0, h1⟩ := open_Entry h
 have hE : entryOk d = (inB d.Num 1 1000000000 && inB (d.Text.size : Int) 1 1000) := by
  unfold entryOk inB; rw [Bool.eq_iff_iff]; simp; omega
 have HE := hid hE
 cases q1 : inB d.Num 1 1000000000
 ·go_enter Tryz.func63, Tryz.ntmps63
  go_wp2_with (go_at_call 26; refine (i_in _ _ _ _).mono ?_; rintro e w' ⟨rfl, rfl⟩; rw [q1])
  go_ret
  exact ⟨ret_bool (by rw [HE.out, q1]; rfl), (Below.refl _ _).alloc (Nat.le_refl _) _⟩
 ·go_enter Tryz.func63, Tryz.ntmps63
  go_wp2_with (go_at_call 26; refine (i_in _ _ _ _).mono ?_; rintro e w' ⟨rfl, rfl⟩; try rw [q1])
  go_ret
  exact ⟨ret_bool (by rw [HE.out, q1]; rfl), (Below.refl _ _).alloc (Nat.le_refl _) _⟩
theorem i_putNum {lo : Nat} {w : World} {p0 : Option Addr} {c0 : Nat} {bs : List Nat} {xs : List UInt8} (h : OwnL lo w 5 (.slice p0 xs.length c0) bs xs) (hlo : lo ≤ w.heap.size) (hx : xs.length ≤ 1000000) (n s : Nat) (hn : n < 4294967296) (hs : s ≤ 4) :
  Calls Tryz.prog 64 #[.slice p0 xs.length c0, .int .i64 (n : Int), .int .i64 (s : Int)] w fun e w' => ∃ p' c' bs', e = .returned (.slice p' (xs.length + s) c') ∧ OwnL lo w' 5 (.slice p' (xs.length + s) c') bs' (xs ++ numB n s) ∧ Tch bs w w' ∧ (∀ b ∈ bs', b ∈ bs ∨ w.heap.size ≤ b) := by
 obtain ⟨i0, hi, hz0, hz1, hz2⟩ := info_parts info_byte
 have H := hid h; clear h
 go_enter Tryz.func64, Tryz.ntmps64
 go_wp2_with fail
 go_loopw [0, 7] (fun o k wr => ∃ (r : Nat) (p : Option Addr) (c : Nat) (b' : List Nat) (m : Nat) (don : List UInt8), r ≤ s ∧ m = don.length ∧ m + r = xs.length + s ∧ o = .slice p m c ∧ k = .int .i64 ((r : Int) - 1) ∧ OwnL lo wr 5 (.slice p m c) b' don ∧ don ++ numB n r = xs ++ numB n s ∧ Tch bs w wr ∧ (∀ b ∈ b', b ∈ bs ∨ w.heap.size ≤ b)) (fun _ k _ => (intOf k + 1).toNat)
 case atStart => exact ⟨s, p0, c0, bs, xs.length, xs, Nat.le_refl _, rfl, rfl, rfl, by go_num, H.out, rfl, Tch.refl _ _, fun b hb => .inl hb⟩
 case round =>
  obtain ⟨r, p, c, b', m, don, hr, hm, hmr, rfl, rfl, hO, hd, hT, hb⟩ := hrel
  have HO := hid hO; have HD := hid hd; have HT := hid hT; have HBB := hid hb; have HM := hid hm
  clear hO hd hT hb hm
  by_cases h0 : r = 0
  ·subst h0
   have hd := HD.out
   rw [show numB n 0 = [] from rfl, List.append_nil] at hd
   have hz : m = xs.length + s := by omega
   have HZ := hid (show OwnL lo wr 5 (.slice p (xs.length + s) c) b' (xs ++ numB n s) by rw [← hz, ← hd]; exact HO.out)
   have hzz := hid hz
   clear hz hd
   go_wp2
   go_ret
   exact ⟨p, c, b', by rw [← hzz.out]; rfl, HZ.out, HT.out, HBB.out⟩
  obtain ⟨r, rfl⟩ : ∃ q, r = q + 1 := ⟨r - 1, by omega⟩
  have hr4 : r < 4 := by omega
  have hk0 : (0 : Int) ≤ ((r + 1 : Nat) : Int) - 1 := by omega
  have hk1 : ((r + 1 : Nat) : Int) - 1 = (r : Int) := by omega
  rw [hk1]
  have hV := numB_val (n := n) (s := r) hn hr4
  obtain ⟨y, hy⟩ : ∃ y, y = UInt8.ofNat (n / 256 ^ r % 256) := ⟨_, rfl⟩
  rw [← hy] at hV
  have HY := hid hy
  have hV2 := hV.symm
  clear hy hk1 hV hk0
  go_wp2_with (at_builtin; refine wp_append rfl _ _ 54 rfl 5 i0 (.int .u8 0) 1 Tryz.underlying54 hi hz0 hz1 hz2 rfl (lo := lo) (bs := b') (xs := don) rfl ?own (b2 := []) (ys := [y]) rfl ?src List.nodup_nil ?q1 ?q2 ?q3 ?q4 ?_)
  case own => exact HO.out.alloc _
  case src => exact src_new (cs := [.int .u8 ((y.toNat : Nat) : Int)]) (y := y) (b2 := []) (show Rep.pt wr [] [.int .u8 ((y.toNat : Nat) : Int)] y from ⟨rfl, rfl⟩) rfl _ _
  case q1 => simp
  case q2 => have := HM.out; simp; omega
  case q3 => have := HM.out; simp; omega
  case q4 => have := HT.out.size; simp; omega
  intro p4 c4 w4 b4 hO4 hT4 hm4
  have hl4 : don.length = m := HM.out.symm
  try simp only [List.length_cons, List.length_nil, Nat.zero_add] at hO4
  try simp only [List.length_cons, List.length_nil, Nat.zero_add]
  rw [hl4] at hO4
  try rw [hl4]
  have HO4 := hid hO4
  have HT4 := hid (show Tch bs w w4 from keepc (HT.out.alloc (.cells #[.int .u8 ((y.toNat : Nat) : Int)] 5)) hT4 (fun x hx9 => HBB.out x hx9))
  have HB4 := hid (show ∀ b ∈ b4, b ∈ bs ∨ w.heap.size ≤ b from fun b hb9 => by
   have h9 := hm4 b hb9
   try simp at h9
   rcases h9 with h | h
   ·exact HBB.out b h
   ·exact .inr (by have := HT.out.size; omega))
  have HD4 := hid (show (don ++ [y]) ++ numB n r = xs ++ numB n s by rw [← HD.out, List.append_assoc, HY.out]; rfl)
  have HM4 := hid (show m + 1 = (don ++ [y]).length by have := HM.out; simp; omega)
  clear hO4 hT4 hm4 hl4 hV2
  go_wp2
  exact ⟨⟨r, p4, c4, b4, m + 1, don ++ [y], by omega, HM4.out, by omega, rfl, by go_num, HO4.out, HD4.out, HT4.out, HB4.out⟩, by simp [intOf]; try omega⟩
theorem i_putNumM {lo m : Nat} {w : World} {p0 : Option Addr} {c0 : Nat} {bs : List Nat} {xs : List UInt8} (hm : xs.length = m) (h : OwnL lo w 5 (.slice p0 m c0) bs xs) (hlo : lo ≤ w.heap.size) (hx : m ≤ 1000000) (n s : Nat) (hn : n < 4294967296) (hs : s ≤ 4) :
  Calls Tryz.prog 64 #[.slice p0 m c0, .int .i64 (n : Int), .int .i64 (s : Int)] w fun e w' => ∃ p' c' bs', e = .returned (.slice p' (m + s) c') ∧ OwnL lo w' 5 (.slice p' (m + s) c') bs' (xs ++ numB n s) ∧ Tch bs w w' ∧ (∀ b ∈ bs', b ∈ bs ∨ w.heap.size ≤ b) := by
 subst hm; exact i_putNum h hlo hx n s hn hs
theorem i_FrameBytes {w : World} {bs : List Nat} {cs : List Value} {d : EntryD} (h : Rep.pt w bs cs d) :
  Calls Tryz.prog 29 #[.agg cs.toArray] w fun e w' => ∃ v bs', e = .returned (.tuple #[v, .bool (entryOk d)]) ∧ OwnL w.heap.size w' 5 v bs' (frameL d) ∧ Below w.heap.size w w' := by
 obtain ⟨i0, hi, hz0, hz1, hz2⟩ := info_parts info_byte
 have H := hid h
 obtain ⟨rfl, rfl, h0, h1⟩ := open_Entry h
 clear h
 cases hk : entryOk d
 ·have HZ := hid (show frameL d = [] by unfold frameL; rw [if_neg (by simp [hk])])
  have Hk := hid hk; clear hk
  go_enter Tryz.func29, Tryz.ntmps29
  go_wp2_with fail
  refine (i_EntryOkF (grow H.out ((Below.refl _ _).alloc (Nat.le_refl _) _))).mono ?_
  rintro e w1 ⟨rfl, hb⟩
  have HB := hid (below_call ((Below.refl _ _).alloc (Nat.le_refl _) _) hb)
  clear hb
  rw [Hk.out]
  go_wp2
  go_ret2
  exact ⟨_, [], rfl, by rw [HZ.out]; exact OwnL.nil _ _ _, HB.out⟩
 have HZ := hid (show frameL d = frameB d by unfold frameL; rw [if_pos hk])
 have hkk : (1 ≤ d.Num ∧ d.Num ≤ 1000000000) ∧ (1 ≤ d.Text.size ∧ d.Text.size ≤ 1000) := by simpa [entryOk] using hk
 have Hk := hid hk; clear hk
 obtain ⟨Num, T⟩ := d
 simp only at hkk h0 h1
 obtain ⟨n, rfl⟩ := Int.eq_ofNat_of_zero_le (show 0 ≤ Num by omega)
 have hn9 : n < 4294967296 := by omega
 have ht9 : T.size ≤ 1000 := by omega
 clear hkk h0 h1
 go_enter Tryz.func29, Tryz.ntmps29
 go_wp2_with fail
 refine (i_EntryOkF (grow H.out ((Below.refl _ _).alloc (Nat.le_refl _) _))).mono ?_
 rintro e w1 ⟨rfl, hb⟩
 have HB := hid (below_call ((Below.refl _ _).alloc (Nat.le_refl _) _) hb)
 have hz1s : w.heap.size + 1 ≤ w1.heap.size := by have := hb.size; simpa using this
 have c01 : w1.cell? ⟨w.heap.size, 0, none⟩ = some (.int .i64 (n : Int)) ∧ w1.cell? ⟨w.heap.size, 1, none⟩ = some (.string T) :=
  ⟨((Bx.new w #[.int .i64 (n : Int), .string T] 53 rfl).below hb (by simp)).out 0, ((Bx.new w #[.int .i64 (n : Int), .string T] 53 rfl).below hb (by simp)).out 1⟩
 clear hb
 rw [Hk.out]
 have c0 := c01.1; have c1 := c01.2
 go_wp2_with fail
 refine late_start (fun W => W.cell? ⟨w.heap.size, 0, none⟩ = some (.int .i64 (n : Int)) ∧ W.cell? ⟨w.heap.size, 1, none⟩ = some (.string T)) 99 (by kernel_rfl) ?_ (fun hS => ?_)
 ·exact c01
 refine late_genw (fun wA hwA => ?_)
 rw [← hwA] at hS
 have HBA := hid (show Below w.heap.size w wA by rw [hwA]; exact HB.out.drew)
 have hzA : w.heap.size + 1 ≤ wA.heap.size := by rw [hwA]; exact hz1s
 clear hwA HB c0 c1 c01 hz1s
 refine ltk 0 rfl ?_
 try simp only [Act.put, putZ, List.getElem_toArray, List.getElem_cons_zero, List.getElem_cons_succ]
 refine ltk 1 rfl ?_
 try simp only [Act.put, putZ, List.getElem_toArray, List.getElem_cons_zero, List.getElem_cons_succ]
 refine ltk 2 rfl ?_
 try simp only [Act.put, putZ, List.getElem_toArray, List.getElem_cons_zero, List.getElem_cons_succ]
 refine ltk 4 rfl ?_
 try simp only [Act.put, putZ, List.getElem_toArray, List.getElem_cons_zero, List.getElem_cons_succ]
 refine ltk 5 rfl ?_
 try simp only [Act.put, putZ, List.getElem_toArray, List.getElem_cons_zero, List.getElem_cons_succ]
 refine late_one (i := 3) rfl (by kernel_rfl) (fun K9 hK9 => ?_)
 go_simp
 refine (i_putNum (lo := w.heap.size + 1) (xs := []) (OwnL.nil _ _ _) (by omega) (by simp) T.size 2 (by omega) (by omega)).mono ?_
 rintro e wB ⟨pB, cB, bB, rfl, hO, hT, hbB⟩
 have hc := cell2_tch hT hS (by simp)
 have HBB := hid (HBA.out.trans (hT.below HBA.out.size (by simp)))
 have hzB : w.heap.size + 1 ≤ wB.heap.size := Nat.le_trans hzA hT.size
 rw [List.nil_append] at hO
 have HOB := hid hO
 clear hO hT hbB
 go_wp2_with fail
 refine hK9.out _ _ (fun _ => ?_) (fun hS9 => ?_)
 ·(try dsimp only); exact hc
 replace hS := hS9 (by decide)
 clear hK9 K9 hS9
 try simp only [Act.put, putZ, List.getElem_toArray, List.getElem_cons_zero, List.getElem_cons_succ]
 refine late_one (i := 6) rfl (by kernel_rfl) (fun K9 hK9 => ?_)
 go_simp
 refine (i_putNum (lo := w.heap.size + 1) (xs := numB T.size 2) (by have := HOB.out; simpa [numB_len] using this) hzB (by simp [numB_len]) n 4 hn9 (by omega)).mono ?_
 rintro e wC ⟨pC, cC, bC, rfl, hO, hT, hbC⟩
 have LB := hid (fun b (hb9 : b ∈ bB) => (HOB.out.lts b hb9).1)
 have hc2 := cell2_tch hT hc (fun hm => by have := LB.out _ hm; omega)
 have HBC := hid (HBB.out.trans (hT.below HBB.out.size (fun b hb9 => by have := LB.out b hb9; omega)))
 have hzC : w.heap.size + 1 ≤ wC.heap.size := Nat.le_trans hzB hT.size
 have HOC := hid (show OwnL (w.heap.size + 1) wC 5 (.slice pC 6 cC) bC (headB ⟨(n : Int), T⟩) by have := hO; simpa [numB_len, headB] using this)
 rw [show (numB T.size 2).length + 4 = 6 by rw [numB_len]]
 clear hO hT hbC HOB LB
 go_wp2_with fail
 refine hK9.out _ _ (fun _ => ?_) (fun hS9 => ?_)
 ·(try dsimp only); exact hc2
 replace hS := hS9 (by decide)
 clear hK9 K9 hS9
 try simp only [Act.put, putZ, List.getElem_toArray, List.getElem_cons_zero, List.getElem_cons_succ]
 clear hS
 refine late_one (i := 7) rfl (by kernel_rfl) (fun K9 hK9 => ?_)
 go_simp
 refine hK9.out _ _ (fun _ => ?_) (fun hS9 => ?_)
 ·(try dsimp only); exact hc2
 replace hS := hS9 (by decide)
 clear hK9 K9 hS9
 try simp only [Act.put, putZ, List.getElem_toArray, List.getElem_cons_zero, List.getElem_cons_succ]
 refine late_done (by kernel_rfl) ?_ _
 clear hS hc HBB hzB
 obtain ⟨hd, hhd⟩ : ∃ hd, hd = headB ⟨(n : Int), T⟩ := ⟨_, rfl⟩
 rw [← hhd] at HOC
 have hl6 : hd.length = 6 := by rw [hhd]; exact headB_len _
 obtain ⟨sm, hsm⟩ : ∃ sm, sm = crc32 (hd ++ T.data.toList) := ⟨_, rfl⟩
 have HSM := hid (show sm = sumB ⟨(n : Int), T⟩ by rw [hsm, hhd]; rfl)
 have HSN := hid hsm
 have hsm9 : sm < 4294967296 := by rw [hsm]; exact crc32_lt _
 have HHD := hid hhd
 have HL6 := hid hl6
 clear hsm hhd hl6
 have c0 := hc2.1; have c1 := hc2.2
 go_wp2_with fail
 refine late_start (fun W => W.cell? ⟨w.heap.size, 0, none⟩ = some (.int .i64 (n : Int)) ∧ W.cell? ⟨w.heap.size, 1, none⟩ = some (.string T)) 99 (by kernel_rfl) ?_ (fun hS => ?_)
 ·exact hc2
 refine late_genw (fun wD hwD => ?_)
 rw [← hwD] at hS
 have HBD := hid (show Below w.heap.size w wD by rw [hwD]; exact HBC.out.drew)
 have HOD := hid (show OwnL (w.heap.size + 1) wD 5 (.slice pC 6 cC) bC hd by rw [hwD]; exact HOC.out.drew)
 have hzD : w.heap.size + 1 ≤ wD.heap.size := by rw [hwD]; exact hzC
 have hcD := hS
 clear hwD HBC HOC hzC c0 c1 hc2
 refine ltk 0 rfl ?_
 try simp only [Act.put, putZ, List.getElem_toArray, List.getElem_cons_zero, List.getElem_cons_succ]
 refine ltk 2 rfl ?_
 try simp only [Act.put, putZ, List.getElem_toArray, List.getElem_cons_zero, List.getElem_cons_succ]
 refine ltk 3 rfl ?_
 try simp only [Act.put, putZ, List.getElem_toArray, List.getElem_cons_zero, List.getElem_cons_succ]
 refine late_one (i := 1) rfl (by kernel_rfl) (fun K9 hK9 => ?_)
 go_simp
 obtain ⟨bz, _, hOz⟩ := HOD.out.own
 refine (i_copyBytes (pt_slice.1 hOz.1) (by have := HL6.out; omega)).mono ?_
 rintro e wE ⟨v, bE, rfl, hO, hb⟩
 obtain ⟨pE, cE, rfl⟩ := hO.slice
 have HOE := hid hO; have HBE := hid hb
 have hzE : wD.heap.size ≤ wE.heap.size := hb.size
 have hcE := cell2_tch (Tch.of_below (bs := []) hb) hS (by simp)
 rw [HL6.out]
 clear hO hb hOz
 go_wp2_with fail
 refine hK9.out _ _ (fun _ => ?_) (fun hS9 => ?_)
 ·(try dsimp only); exact hcE
 replace hS := hS9 (by decide)
 clear hK9 K9 hS9
 try simp only [Act.put, putZ, List.getElem_toArray, List.getElem_cons_zero, List.getElem_cons_succ]
 clear hS
 refine late_one (i := 4) rfl (by kernel_rfl) (fun K9 hK9 => ?_)
 refine step_append_S rfl _ _ 54 9 rfl 5 i0 Tryz.underlying54 Tryz.underlying9 hi hz0 hz1 hz2 (lo := wD.heap.size) (bs := bE) (xs := hd) rfl ?own rfl ?hl ?hlo ?_
 case own => have := HOE.out; rw [HL6.out] at this; exact this
 case hl => have := HL6.out; omega
 case hlo => exact hzE
 intro pF cF wF bF hOF hTF
 have LE := hid (fun b (hb9 : b ∈ bE) => (HOE.out.lts b hb9).1)
 have hDF : Below wD.heap.size wD wF := HBE.out.trans (hTF.below HBE.out.size (fun b hb9 => LE.out b hb9))
 have hcF := cell2_tch (Tch.of_below (bs := []) hDF) hcD (by simp)
 rw [HL6.out] at hOF ⊢
 have HOF := hid hOF; have HDF := hid hDF
 clear hOF hTF LE HOE HBE hDF
 refine hK9.out _ _ (fun _ => ?_) (fun hS9 => ?_)
 ·(try dsimp only); exact hcF
 replace hS := hS9 (by decide)
 clear hK9 K9 hS9
 try simp only [Act.put, putZ, List.getElem_toArray, List.getElem_cons_zero, List.getElem_cons_succ]
 clear hS
 refine late_one (i := 5) rfl (by kernel_rfl) (fun K9 hK9 => ?_)
 go_simp
 obtain ⟨by9, _, hOy⟩ := HOF.out.own
 have hln : (hd ++ T.data.toList).length = 6 + T.size := by rw [List.length_append, HL6.out, Array.length_toList]; rfl
 have hsl : Slc wF by9 pF (6 + T.size) cF (hd ++ T.data.toList) := by have := pt_slice.1 hOy.1; exact this
 refine (i_Crc32 hsl).mono ?_
 rintro e wG ⟨rfl, rfl⟩
 rw [← HSN.out]
 clear hOy hsl hln
 go_wp2_with fail
 refine hK9.out _ _ (fun _ => ?_) (fun hS9 => ?_)
 ·(try dsimp only); exact hcF
 replace hS := hS9 (by decide)
 clear hK9 K9 hS9
 try simp only [Act.put, putZ, List.getElem_toArray, List.getElem_cons_zero, List.getElem_cons_succ]
 clear hS
 refine late_one (i := 6) rfl (by kernel_rfl) (fun K9 hK9 => ?_)
 go_simp
 refine hK9.out _ _ (fun _ => ?_) (fun hS9 => ?_)
 ·(try dsimp only); exact hcF
 replace hS := hS9 (by decide)
 clear hK9 K9 hS9
 try simp only [Act.put, putZ, List.getElem_toArray, List.getElem_cons_zero, List.getElem_cons_succ]
 refine late_done (by kernel_rfl) ?_ _
 clear hS
 have HOG := hid (HOD.out.grow HDF.out)
 have HBG := hid (HBD.out.trans (HDF.out.mono HBD.out.size))
 have hzG : w.heap.size + 1 ≤ wF.heap.size := Nat.le_trans hzD HDF.out.size
 clear HOD HBD HOF HDF hzD hzE hcD hcE
 have c0 := hcF.1; have c1 := hcF.2
 go_wp2_with fail
 refine late_start (fun W => W.cell? ⟨w.heap.size, 0, none⟩ = some (.int .i64 (n : Int)) ∧ W.cell? ⟨w.heap.size, 1, none⟩ = some (.string T)) 99 (by kernel_rfl) ?_ (fun hS => ?_)
 ·exact hcF
 refine late_genw (fun wH hwH => ?_)
 rw [← hwH] at hS
 have HBH := hid (show Below w.heap.size w wH by rw [hwH]; exact HBG.out.drew)
 have HOH := hid (show OwnL (w.heap.size + 1) wH 5 (.slice pC 6 cC) bC hd by rw [hwH]; exact HOG.out.drew)
 have hzH : w.heap.size + 1 ≤ wH.heap.size := by rw [hwH]; exact hzG
 clear hwH HBG HOG hzG c0 c1 hcF
 refine ltk 0 rfl ?_
 try simp only [Act.put, putZ, List.getElem_toArray, List.getElem_cons_zero, List.getElem_cons_succ]
 refine ltk 1 rfl ?_
 try simp only [Act.put, putZ, List.getElem_toArray, List.getElem_cons_zero, List.getElem_cons_succ]
 refine ltk 3 rfl ?_
 try simp only [Act.put, putZ, List.getElem_toArray, List.getElem_cons_zero, List.getElem_cons_succ]
 refine ltk 4 rfl ?_
 try simp only [Act.put, putZ, List.getElem_toArray, List.getElem_cons_zero, List.getElem_cons_succ]
 refine late_one (i := 2) rfl (by kernel_rfl) (fun K9 hK9 => ?_)
 go_simp
 refine (i_putNumM (lo := w.heap.size + 1) (m := 6) (xs := hd) HL6.out HOH.out hzH (by decide) sm 4 hsm9 (by decide)).mono ?_
 rintro e wI ⟨pI, cI, bI, rfl, hO, hT, hbI⟩
 have LH := hid (fun b (hb9 : b ∈ bC) => (HOH.out.lts b hb9).1)
 have hcI := cell2_tch hT hS (fun hm => by have := LH.out _ hm; omega)
 have HBI := hid (HBH.out.trans (hT.below HBH.out.size (fun b hb9 => by have := LH.out b hb9; omega)))
 have hzI : w.heap.size + 1 ≤ wI.heap.size := Nat.le_trans hzH hT.size
 have HOI := hid hO
 have HLI := hid (show (hd ++ numB sm 4).length = 10 by rw [List.length_append, HL6.out, numB_len])
 clear hO hT hbI hS HOH HBH LH hzH
 go_wp2_with fail
 refine hK9.out _ _ (fun _ => ?_) (fun hS9 => ?_)
 ·(try dsimp only); exact hcI
 replace hS := hS9 (by decide)
 clear hK9 K9 hS9
 try simp only [Act.put, putZ, List.getElem_toArray, List.getElem_cons_zero, List.getElem_cons_succ]
 clear hS
 refine late_one (i := 5) rfl (by kernel_rfl) (fun K9 hK9 => ?_)
 refine step_append_S rfl _ _ 54 9 rfl 5 i0 Tryz.underlying54 Tryz.underlying9 hi hz0 hz1 hz2 (lo := w.heap.size + 1) (bs := bI) (xs := hd ++ numB sm 4) rfl ?own rfl ?hl ?hlo ?_
 case own => exact HOI.out
 case hl => have := HLI.out; omega
 case hlo => exact hzI
 intro pJ cJ wJ bJ hOJ hTJ
 have LI := hid (fun b (hb9 : b ∈ bI) => (HOI.out.lts b hb9).1)
 have hcJ := cell2_tch hTJ hcI (fun hm => by have := LI.out _ hm; omega)
 have HBJ := hid (HBI.out.trans (hTJ.below HBI.out.size (fun b hb9 => by have := LI.out b hb9; omega)))
 rw [HLI.out] at hOJ ⊢
 have HOJ := hid hOJ
 clear hOJ hTJ LI
 refine hK9.out _ _ (fun _ => ?_) (fun hS9 => ?_)
 ·(try dsimp only); exact hcJ
 replace hS := hS9 (by decide)
 clear hK9 K9 hS9
 try simp only [Act.put, putZ, List.getElem_toArray, List.getElem_cons_zero, List.getElem_cons_succ]
 clear hS
 refine late_one (i := 6) rfl (by kernel_rfl) (fun K9 hK9 => ?_)
 go_simp
 refine hK9.out _ _ (fun _ => ?_) (fun hS9 => ?_)
 ·(try dsimp only); exact hcJ
 replace hS := hS9 (by decide)
 clear hK9 K9 hS9
 try simp only [Act.put, putZ, List.getElem_toArray, List.getElem_cons_zero, List.getElem_cons_succ]
 refine late_one (i := 7) rfl (by kernel_rfl) (fun K9 hK9 => ?_)
 go_simp
 refine hK9.out _ _ (fun _ => ?_) (fun hS9 => ?_)
 ·(try dsimp only); exact hcJ
 replace hS := hS9 (by decide)
 clear hK9 K9 hS9
 try simp only [Act.put, putZ, List.getElem_toArray, List.getElem_cons_zero, List.getElem_cons_succ]
 refine late_done (by kernel_rfl) ?_ _
 clear hS
 go_wp2
 go_ret2
 refine ⟨_, bJ, rfl, ?_, HBJ.out⟩
 rw [HZ.out, show frameB ⟨(n : Int), T⟩ = hd ++ numB sm 4 ++ T.data.toList by rw [HHD.out, HSM.out]; rfl]
 exact HOJ.out.mono (by omega)
end Go.Proofs.YtdjcjilipgpnmaaGreat
