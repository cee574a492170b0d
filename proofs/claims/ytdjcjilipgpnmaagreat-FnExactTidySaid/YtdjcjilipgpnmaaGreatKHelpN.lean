/- Contracts of the laws' helpers on slices of structures (printed by genhelpl.py). -/
import Derived.Test.YtdjcjilipgpnmaaGreatKHelpL
import Derived.Deep.RegionHeld3
set_option linter.unusedSimpArgs false
set_option linter.unusedVariables false
namespace Go.Proofs.YtdjcjilipgpnmaaGreat
open Go.RowKit Go.G6
set_option maxHeartbeats 1600000
set_option maxRecDepth 10000
theorem infoNodeS : (Tryz.prog.info? 104).map (fun i => (i.zero, i.size, i.bytes)) = some (some (.agg #[.int .i64 0, .slice none 0 0, .slice none 0 0]), 3, 56) := by kernel_rfl
def zNode : NodeD := { Id := 0, Body := [], Safe := [] }
theorem pt_zNode (w : World) : Rep.pt w [] [.int .i64 0, .slice none 0 0, .slice none 0 0] zNode := mk_Node (d := zNode) (by simp [I64, maxLen, zNode]) (slc_nil w) (slc_nil w)
theorem toNodeS {w : World} {bs : List Nat} {a : Option Addr} {len cap : Nat} {xs : List NodeD} (h : Slc w bs a len cap xs) (hn : Cnt.cnt xs ≤ 1048576) :
  Calls Tryz.prog 55 #[.slice a len cap] w (RetS w xs) := by
 obtain rfl := h.len_eq
 have hn1 : xs.length + nL Cnt.cnt xs ≤ 1048576 := hn
 obtain ⟨i0, hi, hz0, hz1, hz2⟩ := info_parts infoNodeS
 go_enter Tryz.func55, Tryz.ntmps55
 go_wp2_with (at_make; refine wpList_make_full _ rfl _ _ 31 rfl w.heap.size 104 i0 (.agg #[.int .i64 0, .slice none 0 0, .slice none 0 0]) 3 Tryz.underlying31 hi hz0 hz1 _ _ _ _ xs.length rfl rfl rfl rfl ?c1 ?c2 ?c3 ?_)
 case c1 => rw [hz2]; omega
 case c2 => unfold maxLen; omega
 case c3 => omega
 intro w1 hown hgr
 have hb0 : Below w.heap.size w w1 := (Below.refl _ _).grown hgr (Nat.le_refl _) (fun k hk => by cases hk)
 have hO0 := ownL_made (α := NodeD) (made_row 3 xs.length (by first | exact hown | simpa using hown) rfl) (pt_zNode w1)
 clear hown hgr
 go_wp2
 go_loopw [4] (fun i wr => ∃ (k : Nat) (b2 : List Nat), k ≤ xs.length ∧ i = .int .i64 k ∧ OwnL w.heap.size wr 104 (.slice (some ⟨w.heap.size, 0, none⟩) xs.length xs.length) b2 (xs.take k ++ List.replicate (xs.length - k) zNode) ∧ Below w.heap.size w wr) (fun i _ => xs.length - (intOf i).toNat)
 case atStart => exact ⟨0, _, Nat.zero_le _, rfl, hO0, hb0⟩
 case round =>
  clear hO0 hb0
  obtain ⟨k, b2, hk, rfl, hO, hb⟩ := hrel
  have HO := hid hO; have HB := hid hb; clear hO
  by_cases hlt : k < xs.length
  rotate_left
  ·obtain rfl : k = xs.length := by omega
   have hO := HO.out
   rw [Nat.sub_self, List.take_length, List.replicate_zero, List.append_nil] at hO
   have HO2 := hid hO; clear hO hb HO
   go_wp2
   go_ret
   obtain ⟨b3, _, hOw⟩ := HO2.out.own
   exact ⟨_, _, _, b3, rfl, hOw, HB.out⟩
  have hle : Cnt.cnt xs[k] ≤ 1048576 := by have := nL_mem_le Cnt.cnt xs k hlt; omega
  obtain ⟨b, off, cs, bs', rfl, hbw, hp, _, hA⟩ := (h.grow hb).elem k hlt
  have HP := hid hp
  obtain ⟨b1, b2, a1, l1, k1, a2, l2, k2, rfl, rfl, h0, h1, h2⟩ := open_Node hp
  have c0 : wr.cell? ⟨b, off + k * 3, none⟩ = some _ := hA 0 _ rfl
  have c1 : wr.cell? ⟨b, off + k * 3 + 1, none⟩ = some _ := hA 1 _ rfl
  have c2 : wr.cell? ⟨b, off + k * 3 + 2, none⟩ = some _ := hA 2 _ rfl
  clear hA hp hb
  go_wp2_with fail
  refine (toNode HP.out hle).mono ?_
  rintro e w2 ⟨cs2, b4, rfl, hO2, hb2⟩
  have hlo := hO2.lts
  have HS := hid (HO.out.grow hb2)
  have HB2 := hid (HB.out.trans (hb2.mono HB.out.size))
  have hz := HB.out.size
  obtain ⟨g, cap2, bi, cs3, ev, _, _, hgw, hgf, _, hOi, hAi, hset⟩ := HS.out.setE k (by simp; omega)
  simp only [Value.slice.injEq, Option.some.injEq, Addr.mk.injEq, and_true, true_and] at ev
  obtain ⟨rfl, hcl, rfl⟩ := ev
  clear hcl
  obtain ⟨b1', b2', a1', l1', k1', a2', l2', k2', rfl, rfl, h0', h1', h2'⟩ := open_Node hO2.1
  obtain ⟨b1'', b2'', a1'', l1'', k1'', a2'', l2'', k2'', rfl, rfl, h0'', h1'', h2''⟩ := open_Node hOi.1
  have e0 : w2.cell? ⟨w.heap.size, k * 3, none⟩ = some _ := hAi 0 _ rfl
  have f0 : w2.frozen? ⟨w.heap.size, k * 3, none⟩ = false := hgf.frozen _
  have e1 : w2.cell? ⟨w.heap.size, k * 3 + 1, none⟩ = some _ := hAi 1 _ rfl
  have f1 : w2.frozen? ⟨w.heap.size, k * 3 + 1, none⟩ = false := hgf.frozen _
  have e2 : w2.cell? ⟨w.heap.size, k * 3 + 2, none⟩ = some _ := hAi 2 _ rfl
  have f2 : w2.frozen? ⟨w.heap.size, k * 3 + 2, none⟩ = false := hgf.frozen _
  have hO2x := hO2.mono (lo' := w.heap.size) hz
  obtain ⟨b5, hO5, _⟩ := hset w2 (fun _ _ _ => rfl) _ _ _ hO2x (fun b hb => .inl fun hm => by have := (HO.out.lts b hm).2; have := (hlo b hb).1; omega)
  rw [repl_set _ _ _ hlt] at hO5
  have H5 := hid hO5
  clear hO5 hset hAi hOi hO2 hO2x hb2 hgf hlo hgw
  go_wp2
  exact ⟨⟨k + 1, b5, by omega, rfl, H5.out, Below.setCell (Below.setCell (Below.setCell (HB2.out) (Nat.le_refl _) _) (Nat.le_refl _) _) (Nat.le_refl _) _⟩, by simp [intOf]; omega⟩
theorem szNodeS {w : World} {b1 : List Nat} {a1 : Option Addr} {len1 cap1 : Nat} {xs : List NodeD} (left : Int) (hh : Slc w b1 a1 len1 cap1 xs) (hl : 0 ≤ left) (hl2 : left ≤ 1048576) :
  Calls Tryz.prog 42 #[.slice a1 len1 cap1, .int .i64 left] w fun e w' => e = .returned (.int .i64 (szr left (Cnt.cnt xs))) ∧ Below w.heap.size w w' := by
 obtain rfl := hh.len_eq
 have hm := hh.max
 have Hc := hid (cnt_list xs)
 go_enter Tryz.func42, Tryz.ntmps42
 by_cases hc : (xs.length : Int) ≤ left
 rotate_left
 ·go_wp2
  go_ret
  exact ⟨ret_int (by rw [Hc.out, szr_neg (by omega)]), Below.refl _ _⟩
 go_wp2_with fail
 go_loopw [1, 5] (fun q i wr => ∃ k : Nat, k ≤ xs.length ∧ i = .int .i64 k ∧ q = .int .i64 (left - (xs.length : Int) - (nL Cnt.cnt (xs.take k) : Int)) ∧ (xs.length : Int) + (nL Cnt.cnt (xs.take k) : Int) ≤ left ∧ Below w.heap.size w wr) (fun _ i _ => xs.length - (intOf i).toNat)
 case atStart => exact ⟨0, Nat.zero_le _, rfl, by simp [nL], by simp [nL]; omega, Below.refl _ _⟩
 case round =>
  obtain ⟨k, hk, rfl, rfl, hle, hb⟩ := hrel
  have HB := hid hb
  by_cases hlt : k < xs.length
  ·obtain ⟨b, off, cs, bs', rfl, hbw, hp, _, hA⟩ := (hh.grow hb).elem k hlt
   have HP := hid hp
   obtain ⟨b1, b2, a1, l1, k1, a2, l2, k2, rfl, rfl, h0, h1, h2⟩ := open_Node hp
   have c0 : wr.cell? ⟨b, off + k * 3, none⟩ = some _ := hA 0 _ rfl
   have c1 : wr.cell? ⟨b, off + k * 3 + 1, none⟩ = some _ := hA 1 _ rfl
   have c2 : wr.cell? ⟨b, off + k * 3 + 2, none⟩ = some _ := hA 2 _ rfl
   clear hA hp hb
   have Hs := hid (nL_take_succ Cnt.cnt xs k hlt)
   have Hs2 := hid (nL_take_le Cnt.cnt xs (k + 1))
   have hcn : 0 ≤ left - (xs.length : Int) - (nL Cnt.cnt (xs.take k) : Int) := by omega
   have hcm : left - (xs.length : Int) - (nL Cnt.cnt (xs.take k) : Int) ≤ 1048576 := by omega
   go_wp2_with fail
   refine (szNode _ HP.out hcn hcm).mono ?_
   rintro e w1 ⟨rfl, hb⟩
   have HB1 := hid (HB.out.trans (hb.mono HB.out.size)); clear hb
   by_cases hg : (xs.length : Int) + (nL Cnt.cnt (xs.take k) : Int) + (Cnt.cnt xs[k] : Int) ≤ left
   ·rw [szr_pos (by omega)]
    go_wp2
    refine ⟨⟨k + 1, by omega, rfl, ?_, ?_, HB1.out⟩, by simp [intOf]; omega⟩
    ·have e1 := Hs.out; congr 1; omega
    ·have e1 := Hs.out; omega
   ·rw [szr_neg (by omega)]
    go_wp2
    go_ret
    refine ⟨ret_int ?_, HB1.out⟩
    have e0 := Hs2.out; have e1 := Hs.out
    rw [Hc.out, szr_neg (by omega)]
  ·obtain rfl : k = xs.length := by omega
   clear hb
   go_wp2
   go_ret
   refine ⟨ret_int ?_, HB.out⟩
   rw [List.take_length] at hle
   rw [Hc.out, szr_pos (by omega)]
   rw [List.take_length]; omega
theorem eqNodeS {w : World} {b1 b2 : List Nat} {a1 a2 : Option Addr} {len1 len2 cap1 cap2 : Nat} {xs : List NodeD} (k1 : Slc w b1 a1 len1 cap1 xs) (k2 : Slc w b2 a2 len2 cap2 xs) :
  Calls Tryz.prog 74 #[.slice a1 len1 cap1, .slice a2 len2 cap2] w fun e w' => e = .returned (.bool true) ∧ Below w.heap.size w w' := by
 obtain rfl := k1.len_eq
 obtain rfl := k2.len_eq
 have hm := k1.max
 go_enter Tryz.func74, Tryz.ntmps74
 go_wp2_with fail
 go_loopw [5] (fun i wr => ∃ k : Nat, k ≤ xs.length ∧ i = .int .i64 k ∧ Below w.heap.size w wr) (fun i _ => xs.length - (intOf i).toNat)
 case atStart => exact ⟨0, Nat.zero_le _, rfl, Below.refl _ _⟩
 case round =>
  obtain ⟨k, hk, rfl, hb⟩ := hrel
  have HB := hid hb
  by_cases hlt : k < xs.length
  ·obtain ⟨b, off, cs, bs', rfl, hbw, hp, _, hA⟩ := (k1.grow hb).elem k hlt
   obtain ⟨b', off', cs', bs2', rfl, hbw', hp', _, hA'⟩ := (k2.grow hb).elem k hlt
   have HP := hid hp; have HP' := hid hp'
   obtain ⟨b1, b2, a1, l1, k1, a2, l2, k2, rfl, rfl, h0, h1, h2⟩ := open_Node hp
   obtain ⟨b1', b2', a1', l1', k1', a2', l2', k2', rfl, rfl, h0', h1', h2'⟩ := open_Node hp'
   have c0 : wr.cell? ⟨b, off + k * 3, none⟩ = some _ := hA 0 _ rfl
   have c1 : wr.cell? ⟨b, off + k * 3 + 1, none⟩ = some _ := hA 1 _ rfl
   have c2 : wr.cell? ⟨b, off + k * 3 + 2, none⟩ = some _ := hA 2 _ rfl
   have d0 : wr.cell? ⟨b', off' + k * 3, none⟩ = some _ := hA' 0 _ rfl
   have d1 : wr.cell? ⟨b', off' + k * 3 + 1, none⟩ = some _ := hA' 1 _ rfl
   have d2 : wr.cell? ⟨b', off' + k * 3 + 2, none⟩ = some _ := hA' 2 _ rfl
   have hlt2 : (k : Int) < (xs.length : Int) := by omega
   clear hA hA' hp hp' hb
   go_wp2_with fail
   go_region_held3 (fun W => Below wr.heap.size wr W ∧ W.cell? ⟨b, off + k * 3, none⟩ = some (.int .i64 xs[k].Id) ∧ W.cell? ⟨b, off + k * 3 + 1, none⟩ = some (.slice a1 l1 k1) ∧ W.cell? ⟨b, off + k * 3 + 2, none⟩ = some (.slice a2 l2 k2) ∧ W.cell? ⟨b', off' + k * 3, none⟩ = some (.int .i64 xs[k].Id) ∧ W.cell? ⟨b', off' + k * 3 + 1, none⟩ = some (.slice a1' l1' k1') ∧ W.cell? ⟨b', off' + k * 3 + 2, none⟩ = some (.slice a2' l2' k2')) (first | exact ⟨(Below.refl _ _).drew, c0, c1, c2, d0, d1, d2⟩ | (go_split_ands; exact ⟨Below.trans (by assumption) (Below.mono hb2 (Below.size (by assumption))), keep_cell hb2 (by assumption) (by assumption) hbw, keep_cell hb2 (by assumption) (by assumption) hbw, keep_cell hb2 (by assumption) (by assumption) hbw, keep_cell hb2 (by assumption) (by assumption) hbw', keep_cell hb2 (by assumption) (by assumption) hbw', keep_cell hb2 (by assumption) (by assumption) hbw'⟩)) (first | (go_at_call 110; refine (eqNode (grow HP.out (by go_split_ands; assumption)) (grow HP'.out (by go_split_ands; assumption))).mono ?_; rintro e w1 ⟨rfl, hb2⟩))
   have hp : Below wr.heap.size wr w1 := by go_split_ands; assumption
   have HQ := hid hp; clear hp
   go_wp2
   exact ⟨⟨k + 1, by omega, rfl, HB.out.trans (HQ.out.mono HB.out.size)⟩, by simp [intOf]; omega⟩
  ·clear hb
   go_wp2
   go_ret
   exact ⟨rfl, HB.out⟩
theorem infoLinkS : (Tryz.prog.info? 127).map (fun i => (i.zero, i.size, i.bytes)) = some (some (.agg #[.string ByteArray.empty, .int .i64 0]), 2, 24) := by kernel_rfl
def zLink : LinkD := { Name := ByteArray.empty, Id := 0 }
theorem pt_zLink (w : World) : Rep.pt w [] [.string ByteArray.empty, .int .i64 0] zLink := mk_Link (d := zLink) (by simp [I64, maxLen, zLink]) (by simp [I64, maxLen, zLink])
theorem toLinkS {w : World} {bs : List Nat} {a : Option Addr} {len cap : Nat} {xs : List LinkD} (h : Slc w bs a len cap xs) (hn : Cnt.cnt xs ≤ 1048576) :
  Calls Tryz.prog 56 #[.slice a len cap] w (RetS w xs) := by
 obtain rfl := h.len_eq
 have hn1 : xs.length + nL Cnt.cnt xs ≤ 1048576 := hn
 obtain ⟨i0, hi, hz0, hz1, hz2⟩ := info_parts infoLinkS
 go_enter Tryz.func56, Tryz.ntmps56
 go_wp2_with (at_make; refine wpList_make_full _ rfl _ _ 32 rfl w.heap.size 127 i0 (.agg #[.string ByteArray.empty, .int .i64 0]) 2 Tryz.underlying32 hi hz0 hz1 _ _ _ _ xs.length rfl rfl rfl rfl ?c1 ?c2 ?c3 ?_)
 case c1 => rw [hz2]; omega
 case c2 => unfold maxLen; omega
 case c3 => omega
 intro w1 hown hgr
 have hb0 : Below w.heap.size w w1 := (Below.refl _ _).grown hgr (Nat.le_refl _) (fun k hk => by cases hk)
 have hO0 := ownL_made (α := LinkD) (made_row 2 xs.length (by first | exact hown | simpa using hown) rfl) (pt_zLink w1)
 clear hown hgr
 go_wp2
 go_loopw [4] (fun i wr => ∃ (k : Nat) (b2 : List Nat), k ≤ xs.length ∧ i = .int .i64 k ∧ OwnL w.heap.size wr 127 (.slice (some ⟨w.heap.size, 0, none⟩) xs.length xs.length) b2 (xs.take k ++ List.replicate (xs.length - k) zLink) ∧ Below w.heap.size w wr) (fun i _ => xs.length - (intOf i).toNat)
 case atStart => exact ⟨0, _, Nat.zero_le _, rfl, hO0, hb0⟩
 case round =>
  clear hO0 hb0
  obtain ⟨k, b2, hk, rfl, hO, hb⟩ := hrel
  have HO := hid hO; have HB := hid hb; clear hO
  by_cases hlt : k < xs.length
  rotate_left
  ·obtain rfl : k = xs.length := by omega
   have hO := HO.out
   rw [Nat.sub_self, List.take_length, List.replicate_zero, List.append_nil] at hO
   have HO2 := hid hO; clear hO hb HO
   go_wp2
   go_ret
   obtain ⟨b3, _, hOw⟩ := HO2.out.own
   exact ⟨_, _, _, b3, rfl, hOw, HB.out⟩
  have hle : Cnt.cnt xs[k] ≤ 1048576 := by have := nL_mem_le Cnt.cnt xs k hlt; omega
  obtain ⟨b, off, cs, bs', rfl, hbw, hp, _, hA⟩ := (h.grow hb).elem k hlt
  have HP := hid hp
  obtain ⟨rfl, rfl, h0, h1⟩ := open_Link hp
  have c0 : wr.cell? ⟨b, off + k * 2, none⟩ = some _ := hA 0 _ rfl
  have c1 : wr.cell? ⟨b, off + k * 2 + 1, none⟩ = some _ := hA 1 _ rfl
  clear hA hp hb
  go_wp2_with fail
  refine (toLink HP.out).mono ?_
  rintro e w2 ⟨cs2, b4, rfl, hO2, hb2⟩
  have hlo := hO2.lts
  have HS := hid (HO.out.grow hb2)
  have HB2 := hid (HB.out.trans (hb2.mono HB.out.size))
  have hz := HB.out.size
  obtain ⟨g, cap2, bi, cs3, ev, _, _, hgw, hgf, _, hOi, hAi, hset⟩ := HS.out.setE k (by simp; omega)
  simp only [Value.slice.injEq, Option.some.injEq, Addr.mk.injEq, and_true, true_and] at ev
  obtain ⟨rfl, hcl, rfl⟩ := ev
  clear hcl
  obtain ⟨rfl, rfl, h0', h1'⟩ := open_Link hO2.1
  obtain ⟨_, rfl, _⟩ := open_Link hOi.1
  have e0 : w2.cell? ⟨w.heap.size, k * 2, none⟩ = some _ := hAi 0 _ rfl
  have f0 : w2.frozen? ⟨w.heap.size, k * 2, none⟩ = false := hgf.frozen _
  have e1 : w2.cell? ⟨w.heap.size, k * 2 + 1, none⟩ = some _ := hAi 1 _ rfl
  have f1 : w2.frozen? ⟨w.heap.size, k * 2 + 1, none⟩ = false := hgf.frozen _
  have hO2x := hO2.mono (lo' := w.heap.size) hz
  obtain ⟨b5, hO5, _⟩ := hset w2 (fun _ _ _ => rfl) _ _ _ hO2x (fun b hb => .inl fun hm => by have := (HO.out.lts b hm).2; have := (hlo b hb).1; omega)
  rw [repl_set _ _ _ hlt] at hO5
  have H5 := hid hO5
  clear hO5 hset hAi hOi hO2 hO2x hb2 hgf hlo hgw
  go_wp2
  exact ⟨⟨k + 1, b5, by omega, rfl, H5.out, Below.setCell (Below.setCell (HB2.out) (Nat.le_refl _) _) (Nat.le_refl _) _⟩, by simp [intOf]; omega⟩
theorem szLinkS {w : World} {b1 : List Nat} {a1 : Option Addr} {len1 cap1 : Nat} {xs : List LinkD} (left : Int) (hh : Slc w b1 a1 len1 cap1 xs) (hl : 0 ≤ left) (hl2 : left ≤ 1048576) :
  Calls Tryz.prog 43 #[.slice a1 len1 cap1, .int .i64 left] w fun e w' => e = .returned (.int .i64 (szr left (Cnt.cnt xs))) ∧ Below w.heap.size w w' := by
 obtain rfl := hh.len_eq
 have hm := hh.max
 have Hc := hid (cnt_list xs)
 go_enter Tryz.func43, Tryz.ntmps43
 by_cases hc : (xs.length : Int) ≤ left
 rotate_left
 ·go_wp2
  go_ret
  exact ⟨ret_int (by rw [Hc.out, szr_neg (by omega)]), Below.refl _ _⟩
 go_wp2_with fail
 go_loopw [1, 5] (fun q i wr => ∃ k : Nat, k ≤ xs.length ∧ i = .int .i64 k ∧ q = .int .i64 (left - (xs.length : Int) - (nL Cnt.cnt (xs.take k) : Int)) ∧ (xs.length : Int) + (nL Cnt.cnt (xs.take k) : Int) ≤ left ∧ Below w.heap.size w wr) (fun _ i _ => xs.length - (intOf i).toNat)
 case atStart => exact ⟨0, Nat.zero_le _, rfl, by simp [nL], by simp [nL]; omega, Below.refl _ _⟩
 case round =>
  obtain ⟨k, hk, rfl, rfl, hle, hb⟩ := hrel
  have HB := hid hb
  by_cases hlt : k < xs.length
  ·obtain ⟨b, off, cs, bs', rfl, hbw, hp, _, hA⟩ := (hh.grow hb).elem k hlt
   have HP := hid hp
   obtain ⟨rfl, rfl, h0, h1⟩ := open_Link hp
   have c0 : wr.cell? ⟨b, off + k * 2, none⟩ = some _ := hA 0 _ rfl
   have c1 : wr.cell? ⟨b, off + k * 2 + 1, none⟩ = some _ := hA 1 _ rfl
   clear hA hp hb
   have Hs := hid (nL_take_succ Cnt.cnt xs k hlt)
   have Hs2 := hid (nL_take_le Cnt.cnt xs (k + 1))
   have hcn : 0 ≤ left - (xs.length : Int) - (nL Cnt.cnt (xs.take k) : Int) := by omega
   have hcm : left - (xs.length : Int) - (nL Cnt.cnt (xs.take k) : Int) ≤ 1048576 := by omega
   go_wp2_with fail
   refine (szLink _ HP.out hcn hcm).mono ?_
   rintro e w1 ⟨rfl, hb⟩
   have HB1 := hid (HB.out.trans (hb.mono HB.out.size)); clear hb
   by_cases hg : (xs.length : Int) + (nL Cnt.cnt (xs.take k) : Int) + (Cnt.cnt xs[k] : Int) ≤ left
   ·rw [szr_pos (by omega)]
    go_wp2
    refine ⟨⟨k + 1, by omega, rfl, ?_, ?_, HB1.out⟩, by simp [intOf]; omega⟩
    ·have e1 := Hs.out; congr 1; omega
    ·have e1 := Hs.out; omega
   ·rw [szr_neg (by omega)]
    go_wp2
    go_ret
    refine ⟨ret_int ?_, HB1.out⟩
    have e0 := Hs2.out; have e1 := Hs.out
    rw [Hc.out, szr_neg (by omega)]
  ·obtain rfl : k = xs.length := by omega
   clear hb
   go_wp2
   go_ret
   refine ⟨ret_int ?_, HB.out⟩
   rw [List.take_length] at hle
   rw [Hc.out, szr_pos (by omega)]
   rw [List.take_length]; omega
theorem eqLinkS {w : World} {b1 b2 : List Nat} {a1 a2 : Option Addr} {len1 len2 cap1 cap2 : Nat} {xs : List LinkD} (k1 : Slc w b1 a1 len1 cap1 xs) (k2 : Slc w b2 a2 len2 cap2 xs) :
  Calls Tryz.prog 75 #[.slice a1 len1 cap1, .slice a2 len2 cap2] w fun e w' => e = .returned (.bool true) ∧ Below w.heap.size w w' := by
 obtain rfl := k1.len_eq
 obtain rfl := k2.len_eq
 have hm := k1.max
 go_enter Tryz.func75, Tryz.ntmps75
 go_wp2_with fail
 go_loopw [5] (fun i wr => ∃ k : Nat, k ≤ xs.length ∧ i = .int .i64 k ∧ Below w.heap.size w wr) (fun i _ => xs.length - (intOf i).toNat)
 case atStart => exact ⟨0, Nat.zero_le _, rfl, Below.refl _ _⟩
 case round =>
  obtain ⟨k, hk, rfl, hb⟩ := hrel
  have HB := hid hb
  by_cases hlt : k < xs.length
  ·obtain ⟨b, off, cs, bs', rfl, hbw, hp, _, hA⟩ := (k1.grow hb).elem k hlt
   obtain ⟨b', off', cs', bs2', rfl, hbw', hp', _, hA'⟩ := (k2.grow hb).elem k hlt
   have HP := hid hp; have HP' := hid hp'
   obtain ⟨rfl, rfl, h0, h1⟩ := open_Link hp
   obtain ⟨rfl, rfl, h0', h1'⟩ := open_Link hp'
   have c0 : wr.cell? ⟨b, off + k * 2, none⟩ = some _ := hA 0 _ rfl
   have c1 : wr.cell? ⟨b, off + k * 2 + 1, none⟩ = some _ := hA 1 _ rfl
   have d0 : wr.cell? ⟨b', off' + k * 2, none⟩ = some _ := hA' 0 _ rfl
   have d1 : wr.cell? ⟨b', off' + k * 2 + 1, none⟩ = some _ := hA' 1 _ rfl
   have hlt2 : (k : Int) < (xs.length : Int) := by omega
   clear hA hA' hp hp' hb
   go_wp2_with fail
   go_region_held3 (fun W => Below wr.heap.size wr W ∧ W.cell? ⟨b, off + k * 2, none⟩ = some (.string xs[k].Name) ∧ W.cell? ⟨b, off + k * 2 + 1, none⟩ = some (.int .i64 xs[k].Id) ∧ W.cell? ⟨b', off' + k * 2, none⟩ = some (.string xs[k].Name) ∧ W.cell? ⟨b', off' + k * 2 + 1, none⟩ = some (.int .i64 xs[k].Id)) (first | exact ⟨(Below.refl _ _).drew, c0, c1, d0, d1⟩ | (go_split_ands; exact ⟨Below.trans (by assumption) (Below.mono hb2 (Below.size (by assumption))), keep_cell hb2 (by assumption) (by assumption) hbw, keep_cell hb2 (by assumption) (by assumption) hbw, keep_cell hb2 (by assumption) (by assumption) hbw', keep_cell hb2 (by assumption) (by assumption) hbw'⟩)) (first | (go_at_call 111; refine (eqLink (grow HP.out (by go_split_ands; assumption)) (grow HP'.out (by go_split_ands; assumption))).mono ?_; rintro e w1 ⟨rfl, hb2⟩))
   have hp : Below wr.heap.size wr w1 := by go_split_ands; assumption
   have HQ := hid hp; clear hp
   go_wp2
   exact ⟨⟨k + 1, by omega, rfl, HB.out.trans (HQ.out.mono HB.out.size)⟩, by simp [intOf]; omega⟩
  ·clear hb
   go_wp2
   go_ret
   exact ⟨rfl, HB.out⟩
theorem infoTurnS : (Tryz.prog.info? 106).map (fun i => (i.zero, i.size, i.bytes)) = some (some (.agg #[.int .i64 0, .string ByteArray.empty, .string ByteArray.empty, .int .i64 0]), 4, 48) := by kernel_rfl
def zTurn : TurnD := { Kind := 0, Name := ByteArray.empty, To := ByteArray.empty, Id := 0 }
theorem pt_zTurn (w : World) : Rep.pt w [] [.int .i64 0, .string ByteArray.empty, .string ByteArray.empty, .int .i64 0] zTurn := mk_Turn (d := zTurn) (by simp [I64, maxLen, zTurn]) (by simp [I64, maxLen, zTurn]) (by simp [I64, maxLen, zTurn]) (by simp [I64, maxLen, zTurn])
theorem toTurnS {w : World} {bs : List Nat} {a : Option Addr} {len cap : Nat} {xs : List TurnD} (h : Slc w bs a len cap xs) (hn : Cnt.cnt xs ≤ 1048576) :
  Calls Tryz.prog 57 #[.slice a len cap] w (RetS w xs) := by
 obtain rfl := h.len_eq
 have hn1 : xs.length + nL Cnt.cnt xs ≤ 1048576 := hn
 obtain ⟨i0, hi, hz0, hz1, hz2⟩ := info_parts infoTurnS
 go_enter Tryz.func57, Tryz.ntmps57
 go_wp2_with (at_make; refine wpList_make_full _ rfl _ _ 33 rfl w.heap.size 106 i0 (.agg #[.int .i64 0, .string ByteArray.empty, .string ByteArray.empty, .int .i64 0]) 4 Tryz.underlying33 hi hz0 hz1 _ _ _ _ xs.length rfl rfl rfl rfl ?c1 ?c2 ?c3 ?_)
 case c1 => rw [hz2]; omega
 case c2 => unfold maxLen; omega
 case c3 => omega
 intro w1 hown hgr
 have hb0 : Below w.heap.size w w1 := (Below.refl _ _).grown hgr (Nat.le_refl _) (fun k hk => by cases hk)
 have hO0 := ownL_made (α := TurnD) (made_row 4 xs.length (by first | exact hown | simpa using hown) rfl) (pt_zTurn w1)
 clear hown hgr
 go_wp2
 go_loopw [4] (fun i wr => ∃ (k : Nat) (b2 : List Nat), k ≤ xs.length ∧ i = .int .i64 k ∧ OwnL w.heap.size wr 106 (.slice (some ⟨w.heap.size, 0, none⟩) xs.length xs.length) b2 (xs.take k ++ List.replicate (xs.length - k) zTurn) ∧ Below w.heap.size w wr) (fun i _ => xs.length - (intOf i).toNat)
 case atStart => exact ⟨0, _, Nat.zero_le _, rfl, hO0, hb0⟩
 case round =>
  clear hO0 hb0
  obtain ⟨k, b2, hk, rfl, hO, hb⟩ := hrel
  have HO := hid hO; have HB := hid hb; clear hO
  by_cases hlt : k < xs.length
  rotate_left
  ·obtain rfl : k = xs.length := by omega
   have hO := HO.out
   rw [Nat.sub_self, List.take_length, List.replicate_zero, List.append_nil] at hO
   have HO2 := hid hO; clear hO hb HO
   go_wp2
   go_ret
   obtain ⟨b3, _, hOw⟩ := HO2.out.own
   exact ⟨_, _, _, b3, rfl, hOw, HB.out⟩
  have hle : Cnt.cnt xs[k] ≤ 1048576 := by have := nL_mem_le Cnt.cnt xs k hlt; omega
  obtain ⟨b, off, cs, bs', rfl, hbw, hp, _, hA⟩ := (h.grow hb).elem k hlt
  have HP := hid hp
  obtain ⟨rfl, rfl, h0, h1, h2, h3⟩ := open_Turn hp
  have c0 : wr.cell? ⟨b, off + k * 4, none⟩ = some _ := hA 0 _ rfl
  have c1 : wr.cell? ⟨b, off + k * 4 + 1, none⟩ = some _ := hA 1 _ rfl
  have c2 : wr.cell? ⟨b, off + k * 4 + 2, none⟩ = some _ := hA 2 _ rfl
  have c3 : wr.cell? ⟨b, off + k * 4 + 3, none⟩ = some _ := hA 3 _ rfl
  clear hA hp hb
  go_wp2_with fail
  refine (toTurn HP.out).mono ?_
  rintro e w2 ⟨cs2, b4, rfl, hO2, hb2⟩
  have hlo := hO2.lts
  have HS := hid (HO.out.grow hb2)
  have HB2 := hid (HB.out.trans (hb2.mono HB.out.size))
  have hz := HB.out.size
  obtain ⟨g, cap2, bi, cs3, ev, _, _, hgw, hgf, _, hOi, hAi, hset⟩ := HS.out.setE k (by simp; omega)
  simp only [Value.slice.injEq, Option.some.injEq, Addr.mk.injEq, and_true, true_and] at ev
  obtain ⟨rfl, hcl, rfl⟩ := ev
  clear hcl
  obtain ⟨rfl, rfl, h0', h1', h2', h3'⟩ := open_Turn hO2.1
  obtain ⟨_, rfl, _⟩ := open_Turn hOi.1
  have e0 : w2.cell? ⟨w.heap.size, k * 4, none⟩ = some _ := hAi 0 _ rfl
  have f0 : w2.frozen? ⟨w.heap.size, k * 4, none⟩ = false := hgf.frozen _
  have e1 : w2.cell? ⟨w.heap.size, k * 4 + 1, none⟩ = some _ := hAi 1 _ rfl
  have f1 : w2.frozen? ⟨w.heap.size, k * 4 + 1, none⟩ = false := hgf.frozen _
  have e2 : w2.cell? ⟨w.heap.size, k * 4 + 2, none⟩ = some _ := hAi 2 _ rfl
  have f2 : w2.frozen? ⟨w.heap.size, k * 4 + 2, none⟩ = false := hgf.frozen _
  have e3 : w2.cell? ⟨w.heap.size, k * 4 + 3, none⟩ = some _ := hAi 3 _ rfl
  have f3 : w2.frozen? ⟨w.heap.size, k * 4 + 3, none⟩ = false := hgf.frozen _
  have hO2x := hO2.mono (lo' := w.heap.size) hz
  obtain ⟨b5, hO5, _⟩ := hset w2 (fun _ _ _ => rfl) _ _ _ hO2x (fun b hb => .inl fun hm => by have := (HO.out.lts b hm).2; have := (hlo b hb).1; omega)
  rw [repl_set _ _ _ hlt] at hO5
  have H5 := hid hO5
  clear hO5 hset hAi hOi hO2 hO2x hb2 hgf hlo hgw
  go_wp2
  exact ⟨⟨k + 1, b5, by omega, rfl, H5.out, Below.setCell (Below.setCell (Below.setCell (Below.setCell (HB2.out) (Nat.le_refl _) _) (Nat.le_refl _) _) (Nat.le_refl _) _) (Nat.le_refl _) _⟩, by simp [intOf]; omega⟩
theorem szTurnS {w : World} {b1 : List Nat} {a1 : Option Addr} {len1 cap1 : Nat} {xs : List TurnD} (left : Int) (hh : Slc w b1 a1 len1 cap1 xs) (hl : 0 ≤ left) (hl2 : left ≤ 1048576) :
  Calls Tryz.prog 44 #[.slice a1 len1 cap1, .int .i64 left] w fun e w' => e = .returned (.int .i64 (szr left (Cnt.cnt xs))) ∧ Below w.heap.size w w' := by
 obtain rfl := hh.len_eq
 have hm := hh.max
 have Hc := hid (cnt_list xs)
 go_enter Tryz.func44, Tryz.ntmps44
 by_cases hc : (xs.length : Int) ≤ left
 rotate_left
 ·go_wp2
  go_ret
  exact ⟨ret_int (by rw [Hc.out, szr_neg (by omega)]), Below.refl _ _⟩
 go_wp2_with fail
 go_loopw [1, 5] (fun q i wr => ∃ k : Nat, k ≤ xs.length ∧ i = .int .i64 k ∧ q = .int .i64 (left - (xs.length : Int) - (nL Cnt.cnt (xs.take k) : Int)) ∧ (xs.length : Int) + (nL Cnt.cnt (xs.take k) : Int) ≤ left ∧ Below w.heap.size w wr) (fun _ i _ => xs.length - (intOf i).toNat)
 case atStart => exact ⟨0, Nat.zero_le _, rfl, by simp [nL], by simp [nL]; omega, Below.refl _ _⟩
 case round =>
  obtain ⟨k, hk, rfl, rfl, hle, hb⟩ := hrel
  have HB := hid hb
  by_cases hlt : k < xs.length
  ·obtain ⟨b, off, cs, bs', rfl, hbw, hp, _, hA⟩ := (hh.grow hb).elem k hlt
   have HP := hid hp
   obtain ⟨rfl, rfl, h0, h1, h2, h3⟩ := open_Turn hp
   have c0 : wr.cell? ⟨b, off + k * 4, none⟩ = some _ := hA 0 _ rfl
   have c1 : wr.cell? ⟨b, off + k * 4 + 1, none⟩ = some _ := hA 1 _ rfl
   have c2 : wr.cell? ⟨b, off + k * 4 + 2, none⟩ = some _ := hA 2 _ rfl
   have c3 : wr.cell? ⟨b, off + k * 4 + 3, none⟩ = some _ := hA 3 _ rfl
   clear hA hp hb
   have Hs := hid (nL_take_succ Cnt.cnt xs k hlt)
   have Hs2 := hid (nL_take_le Cnt.cnt xs (k + 1))
   have hcn : 0 ≤ left - (xs.length : Int) - (nL Cnt.cnt (xs.take k) : Int) := by omega
   have hcm : left - (xs.length : Int) - (nL Cnt.cnt (xs.take k) : Int) ≤ 1048576 := by omega
   go_wp2_with fail
   refine (szTurn _ HP.out hcn hcm).mono ?_
   rintro e w1 ⟨rfl, hb⟩
   have HB1 := hid (HB.out.trans (hb.mono HB.out.size)); clear hb
   by_cases hg : (xs.length : Int) + (nL Cnt.cnt (xs.take k) : Int) + (Cnt.cnt xs[k] : Int) ≤ left
   ·rw [szr_pos (by omega)]
    go_wp2
    refine ⟨⟨k + 1, by omega, rfl, ?_, ?_, HB1.out⟩, by simp [intOf]; omega⟩
    ·have e1 := Hs.out; congr 1; omega
    ·have e1 := Hs.out; omega
   ·rw [szr_neg (by omega)]
    go_wp2
    go_ret
    refine ⟨ret_int ?_, HB1.out⟩
    have e0 := Hs2.out; have e1 := Hs.out
    rw [Hc.out, szr_neg (by omega)]
  ·obtain rfl : k = xs.length := by omega
   clear hb
   go_wp2
   go_ret
   refine ⟨ret_int ?_, HB.out⟩
   rw [List.take_length] at hle
   rw [Hc.out, szr_pos (by omega)]
   rw [List.take_length]; omega
theorem eqTurnS {w : World} {b1 b2 : List Nat} {a1 a2 : Option Addr} {len1 len2 cap1 cap2 : Nat} {xs : List TurnD} (k1 : Slc w b1 a1 len1 cap1 xs) (k2 : Slc w b2 a2 len2 cap2 xs) :
  Calls Tryz.prog 76 #[.slice a1 len1 cap1, .slice a2 len2 cap2] w fun e w' => e = .returned (.bool true) ∧ Below w.heap.size w w' := by
 obtain rfl := k1.len_eq
 obtain rfl := k2.len_eq
 have hm := k1.max
 go_enter Tryz.func76, Tryz.ntmps76
 go_wp2_with fail
 go_loopw [5] (fun i wr => ∃ k : Nat, k ≤ xs.length ∧ i = .int .i64 k ∧ Below w.heap.size w wr) (fun i _ => xs.length - (intOf i).toNat)
 case atStart => exact ⟨0, Nat.zero_le _, rfl, Below.refl _ _⟩
 case round =>
  obtain ⟨k, hk, rfl, hb⟩ := hrel
  have HB := hid hb
  by_cases hlt : k < xs.length
  ·obtain ⟨b, off, cs, bs', rfl, hbw, hp, _, hA⟩ := (k1.grow hb).elem k hlt
   obtain ⟨b', off', cs', bs2', rfl, hbw', hp', _, hA'⟩ := (k2.grow hb).elem k hlt
   have HP := hid hp; have HP' := hid hp'
   obtain ⟨rfl, rfl, h0, h1, h2, h3⟩ := open_Turn hp
   obtain ⟨rfl, rfl, h0', h1', h2', h3'⟩ := open_Turn hp'
   have c0 : wr.cell? ⟨b, off + k * 4, none⟩ = some _ := hA 0 _ rfl
   have c1 : wr.cell? ⟨b, off + k * 4 + 1, none⟩ = some _ := hA 1 _ rfl
   have c2 : wr.cell? ⟨b, off + k * 4 + 2, none⟩ = some _ := hA 2 _ rfl
   have c3 : wr.cell? ⟨b, off + k * 4 + 3, none⟩ = some _ := hA 3 _ rfl
   have d0 : wr.cell? ⟨b', off' + k * 4, none⟩ = some _ := hA' 0 _ rfl
   have d1 : wr.cell? ⟨b', off' + k * 4 + 1, none⟩ = some _ := hA' 1 _ rfl
   have d2 : wr.cell? ⟨b', off' + k * 4 + 2, none⟩ = some _ := hA' 2 _ rfl
   have d3 : wr.cell? ⟨b', off' + k * 4 + 3, none⟩ = some _ := hA' 3 _ rfl
   have hlt2 : (k : Int) < (xs.length : Int) := by omega
   clear hA hA' hp hp' hb
   go_wp2_with fail
   go_region_held3 (fun W => Below wr.heap.size wr W ∧ W.cell? ⟨b, off + k * 4, none⟩ = some (.int .i64 xs[k].Kind) ∧ W.cell? ⟨b, off + k * 4 + 1, none⟩ = some (.string xs[k].Name) ∧ W.cell? ⟨b, off + k * 4 + 2, none⟩ = some (.string xs[k].To) ∧ W.cell? ⟨b, off + k * 4 + 3, none⟩ = some (.int .i64 xs[k].Id) ∧ W.cell? ⟨b', off' + k * 4, none⟩ = some (.int .i64 xs[k].Kind) ∧ W.cell? ⟨b', off' + k * 4 + 1, none⟩ = some (.string xs[k].Name) ∧ W.cell? ⟨b', off' + k * 4 + 2, none⟩ = some (.string xs[k].To) ∧ W.cell? ⟨b', off' + k * 4 + 3, none⟩ = some (.int .i64 xs[k].Id)) (first | exact ⟨(Below.refl _ _).drew, c0, c1, c2, c3, d0, d1, d2, d3⟩ | (go_split_ands; exact ⟨Below.trans (by assumption) (Below.mono hb2 (Below.size (by assumption))), keep_cell hb2 (by assumption) (by assumption) hbw, keep_cell hb2 (by assumption) (by assumption) hbw, keep_cell hb2 (by assumption) (by assumption) hbw, keep_cell hb2 (by assumption) (by assumption) hbw, keep_cell hb2 (by assumption) (by assumption) hbw', keep_cell hb2 (by assumption) (by assumption) hbw', keep_cell hb2 (by assumption) (by assumption) hbw', keep_cell hb2 (by assumption) (by assumption) hbw'⟩)) (first | (go_at_call 112; refine (eqTurn (grow HP.out (by go_split_ands; assumption)) (grow HP'.out (by go_split_ands; assumption))).mono ?_; rintro e w1 ⟨rfl, hb2⟩))
   have hp : Below wr.heap.size wr w1 := by go_split_ands; assumption
   have HQ := hid hp; clear hp
   go_wp2
   exact ⟨⟨k + 1, by omega, rfl, HB.out.trans (HQ.out.mono HB.out.size)⟩, by simp [intOf]; omega⟩
  ·clear hb
   go_wp2
   go_ret
   exact ⟨rfl, HB.out⟩
end Go.Proofs.YtdjcjilipgpnmaaGreat
