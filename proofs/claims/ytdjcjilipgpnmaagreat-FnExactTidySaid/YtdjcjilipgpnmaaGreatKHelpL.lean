/- Contracts of the laws' helpers on slices of structures (printed by genhelpl.py). -/
import Derived.Test.YtdjcjilipgpnmaaGreatKHelpT
import Derived.Test.YtdjcjilipgpnmaaGreatKText
import Derived.Deep.RegionHeld3
set_option linter.unusedSimpArgs false
set_option linter.unusedVariables false
namespace Go.G6
open Go.RowKit Rep
theorem nL_mem_le {α : Type} (n : α → Nat) (xs : List α) (k : Nat) (h : k < xs.length) : n xs[k] ≤ nL n xs := by
 have := nL_take_succ n xs k h
 have := nL_take_le n xs (k + 1)
 omega
theorem repl_set {α : Type} (xs : List α) (k : Nat) (z : α) (h : k < xs.length) : (xs.take k ++ List.replicate (xs.length - k) z).set k xs[k] = xs.take (k + 1) ++ List.replicate (xs.length - (k + 1)) z := by
 rw [List.set_append_right _ _ (by simp; omega)]
 rw [show xs.length - k = (xs.length - (k + 1)) + 1 by omega, List.replicate_succ, List.length_take, Nat.min_eq_left (by omega), Nat.sub_self, List.set_cons_zero, List.take_succ_eq_append_getElem h, List.append_assoc]
 rfl
theorem made_flat (z : Array Value) (m : Nat) (hz : z.size = m) (h0 : 0 < m) : ∀ n, (madeCells z (n * m)).toList = (List.replicate n z.toList).flatten := by
 intro n
 subst hz
 induction n with
 | zero => simp [madeCells]
 | succ n ih =>
  rw [List.replicate_succ, List.flatten_cons, ← ih]
  apply List.ext_getElem?
  intro j
  by_cases hj : j < z.size
  ·rw [List.getElem?_append_left (by simpa using hj)]
   have h1 : j < (n + 1) * z.size := by rw [Nat.add_mul]; omega
   simp [madeCells, h1, Nat.mod_eq_of_lt hj, hj]
  ·rw [List.getElem?_append_right (by simpa using hj)]
   by_cases h2 : j < (n + 1) * z.size
   ·have h3 : j - z.size < n * z.size := by rw [Nat.add_mul] at h2; omega
    simp only [madeCells, Array.toList_map, Array.toList_range, List.getElem?_map, Array.length_toList, List.getElem?_range h2, List.getElem?_range h3, Option.map_some]
    rw [Nat.mod_eq_sub_mod (by omega)]
   ·have h3 : ¬ j - z.size < n * z.size := by rw [Nat.add_mul] at h2; omega
    rw [List.getElem?_eq_none (by simp [size_madeCells]; omega), List.getElem?_eq_none (by simp [size_madeCells]; omega)]
theorem made_row {w : World} {lo : Nat} {e : TypeId} {v : Value} {z : Array Value} (m n : Nat) (h : w.ownsRow lo e m v n (madeCells z (n * m)).toList) (hz : z.size = m) (h0 : 0 < m := by decide) : w.ownsRow lo e m v n (List.replicate n z.toList).flatten := by
 rw [← made_flat z m hz h0]; exact h
theorem Own.updS {α : Type} [Rep α] {lo : Nat} {w : World} {bs : List Nat} {a : Option Addr} {len cap : Nat} {xs : List α} {i : Nat} {D : α} (h : Own lo w bs [.slice a len cap] (xs.set i D)) (hi : i < xs.length) :
  ∃ b off cs bi, a = some ⟨b, off, none⟩ ∧ b ∈ bs ∧ b < w.heap.size ∧ Fr w b ∧ (∀ x ∈ bi, x ∈ bs ∧ x ≠ b) ∧ Own lo w bi cs D ∧ At w b (off + i * size α) cs ∧
   (∀ w' x', (∀ k ∈ bs, k ∉ bi → w'.heap[k]? = w.heap[k]?) → Own lo w' bi cs x' → Own lo w' bs [.slice a len cap] (xs.set i x')) ∧
   (∀ j v x', j < size α → pt w bi (cs.set j v) x' → Own lo (w.setCell ⟨b, off + i * size α + j, none⟩ v) bs [.slice a len cap] (xs.set i x')) := by
 obtain ⟨b, off, cs, bi, h1, h2, h3, h4, h5, h6, h7, h8, h9⟩ := h.upd i (by simpa using hi)
 simp only [List.getElem_set_self, List.set_set] at h6 h8 h9
 exact ⟨b, off, cs, bi, h1, h2, h3, h4, h5, h6, h7, h8, h9⟩
end Go.G6
namespace Go.Proofs.YtdjcjilipgpnmaaGreat
open Go.RowKit Go.G6
set_option maxHeartbeats 800000
set_option maxRecDepth 10000
theorem infoEntryS : (Tryz.prog.info? 53).map (fun i => (i.zero, i.size, i.bytes)) = some (some (.agg #[.int .i64 0, .string ByteArray.empty]), 2, 24) := by kernel_rfl
def zEntry : EntryD := { Num := 0, Text := ByteArray.empty }
theorem pt_zEntry (w : World) : Rep.pt w [] [.int .i64 0, .string ByteArray.empty] zEntry := mk_Entry (d := zEntry) (by simp [I64, maxLen, zEntry]) (by simp [I64, maxLen, zEntry])
theorem toEntryS {w : World} {bs : List Nat} {a : Option Addr} {len cap : Nat} {xs : List EntryD} (h : Slc w bs a len cap xs) (hn : Cnt.cnt xs ≤ 1048576) :
  Calls Tryz.prog 24 #[.slice a len cap] w (RetS w xs) := by
 obtain rfl := h.len_eq
 have hn1 : xs.length + nL Cnt.cnt xs ≤ 1048576 := hn
 obtain ⟨i0, hi, hz0, hz1, hz2⟩ := info_parts infoEntryS
 go_enter Tryz.func24, Tryz.ntmps24
 go_wp2_with (at_make; refine wpList_make_full _ rfl _ _ 36 rfl w.heap.size 53 i0 (.agg #[.int .i64 0, .string ByteArray.empty]) 2 Tryz.underlying36 hi hz0 hz1 _ _ _ _ xs.length rfl rfl rfl rfl ?c1 ?c2 ?c3 ?_)
 case c1 => rw [hz2]; omega
 case c2 => unfold maxLen; omega
 case c3 => omega
 intro w1 hown hgr
 have hb0 : Below w.heap.size w w1 := (Below.refl _ _).grown hgr (Nat.le_refl _) (fun k hk => by cases hk)
 have hO0 := ownL_made (α := EntryD) (made_row 2 xs.length (by first | exact hown | simpa using hown) rfl) (pt_zEntry w1)
 clear hown hgr
 go_wp2
 go_loopw [4] (fun i wr => ∃ (k : Nat) (b2 : List Nat), k ≤ xs.length ∧ i = .int .i64 k ∧ OwnL w.heap.size wr 53 (.slice (some ⟨w.heap.size, 0, none⟩) xs.length xs.length) b2 (xs.take k ++ List.replicate (xs.length - k) zEntry) ∧ Below w.heap.size w wr) (fun i _ => xs.length - (intOf i).toNat)
 case atStart => exact ⟨0, _, Nat.zero_le _, rfl, hO0, hb0⟩
 case round =>
  clear hO0 hb0
  obtain ⟨k, b2, hk, rfl, hO, hb⟩ := hrel
  have HO := hid hO; have HB := hid hb; clear hO
  by_cases hlt : k < xs.length
  rotate_left
  ·obtain rfl : k = xs.length := by omega
   have hO := HO.out
   rw [Nat.sub_self, List.take_length, List.replicate_zero, List.append_nil] at hO
   have HO2 := hid hO; clear hO hb HO
   go_wp2
   go_ret
   obtain ⟨b3, _, hOw⟩ := HO2.out.own
   exact ⟨_, _, _, b3, rfl, hOw, HB.out⟩
  have hle : Cnt.cnt xs[k] ≤ 1048576 := by have := nL_mem_le Cnt.cnt xs k hlt; omega
  obtain ⟨b, off, cs, bs', rfl, hbw, hp, _, hA⟩ := (h.grow hb).elem k hlt
  have HP := hid hp
  obtain ⟨rfl, rfl, h0, h1⟩ := open_Entry hp
  have c0 : wr.cell? ⟨b, off + k * 2, none⟩ = some _ := hA 0 _ rfl
  have c1 : wr.cell? ⟨b, off + k * 2 + 1, none⟩ = some _ := hA 1 _ rfl
  clear hA hp hb
  go_wp2_with fail
  refine (toEntry HP.out).mono ?_
  rintro e w2 ⟨cs2, b4, rfl, hO2, hb2⟩
  have hlo := hO2.lts
  have HS := hid (HO.out.grow hb2)
  have HB2 := hid (HB.out.trans (hb2.mono HB.out.size))
  have hz := HB.out.size
  obtain ⟨g, cap2, bi, cs3, ev, _, _, hgw, hgf, _, hOi, hAi, hset⟩ := HS.out.setE k (by simp; omega)
  simp only [Value.slice.injEq, Option.some.injEq, Addr.mk.injEq, and_true, true_and] at ev
  obtain ⟨rfl, hcl, rfl⟩ := ev
  clear hcl
  obtain ⟨rfl, rfl, h0', h1'⟩ := open_Entry hO2.1
  obtain ⟨_, rfl, _⟩ := open_Entry hOi.1
  have e0 : w2.cell? ⟨w.heap.size, k * 2, none⟩ = some _ := hAi 0 _ rfl
  have f0 : w2.frozen? ⟨w.heap.size, k * 2, none⟩ = false := hgf.frozen _
  have e1 : w2.cell? ⟨w.heap.size, k * 2 + 1, none⟩ = some _ := hAi 1 _ rfl
  have f1 : w2.frozen? ⟨w.heap.size, k * 2 + 1, none⟩ = false := hgf.frozen _
  have hO2x := hO2.mono (lo' := w.heap.size) hz
  obtain ⟨b5, hO5, _⟩ := hset w2 (fun _ _ _ => rfl) _ _ _ hO2x (fun b hb => .inl fun hm => by have := (HO.out.lts b hm).2; have := (hlo b hb).1; omega)
  rw [repl_set _ _ _ hlt] at hO5
  have H5 := hid hO5
  clear hO5 hset hAi hOi hO2 hO2x hb2 hgf hlo hgw
  go_wp2
  exact ⟨⟨k + 1, b5, by omega, rfl, H5.out, Below.setCell (Below.setCell (HB2.out) (Nat.le_refl _) _) (Nat.le_refl _) _⟩, by simp [intOf]; omega⟩
theorem szEntryS {w : World} {b1 : List Nat} {a1 : Option Addr} {len1 cap1 : Nat} {xs : List EntryD} (left : Int) (hh : Slc w b1 a1 len1 cap1 xs) (hl : 0 ≤ left) (hl2 : left ≤ 1048576) :
  Calls Tryz.prog 15 #[.slice a1 len1 cap1, .int .i64 left] w fun e w' => e = .returned (.int .i64 (szr left (Cnt.cnt xs))) ∧ Below w.heap.size w w' := by
 obtain rfl := hh.len_eq
 have hm := hh.max
 have Hc := hid (cnt_list xs)
 go_enter Tryz.func15, Tryz.ntmps15
 by_cases hc : (xs.length : Int) ≤ left
 rotate_left
 ·go_wp2
  go_ret
  exact ⟨ret_int (by rw [Hc.out, szr_neg (by omega)]), Below.refl _ _⟩
 go_wp2_with fail
 go_loopw [1, 5] (fun q i wr => ∃ k : Nat, k ≤ xs.length ∧ i = .int .i64 k ∧ q = .int .i64 (left - (xs.length : Int) - (nL Cnt.cnt (xs.take k) : Int)) ∧ (xs.length : Int) + (nL Cnt.cnt (xs.take k) : Int) ≤ left ∧ Below w.heap.size w wr) (fun _ i _ => xs.length - (intOf i).toNat)
 case atStart => exact ⟨0, Nat.zero_le _, rfl, by simp [nL], by simp [nL]; omega, Below.refl _ _⟩
 case round =>
  obtain ⟨k, hk, rfl, rfl, hle, hb⟩ := hrel
  have HB := hid hb
  by_cases hlt : k < xs.length
  ·obtain ⟨b, off, cs, bs', rfl, hbw, hp, _, hA⟩ := (hh.grow hb).elem k hlt
   have HP := hid hp
   obtain ⟨rfl, rfl, h0, h1⟩ := open_Entry hp
   have c0 : wr.cell? ⟨b, off + k * 2, none⟩ = some _ := hA 0 _ rfl
   have c1 : wr.cell? ⟨b, off + k * 2 + 1, none⟩ = some _ := hA 1 _ rfl
   clear hA hp hb
   have Hs := hid (nL_take_succ Cnt.cnt xs k hlt)
   have Hs2 := hid (nL_take_le Cnt.cnt xs (k + 1))
   have hcn : 0 ≤ left - (xs.length : Int) - (nL Cnt.cnt (xs.take k) : Int) := by omega
   have hcm : left - (xs.length : Int) - (nL Cnt.cnt (xs.take k) : Int) ≤ 1048576 := by omega
   go_wp2_with fail
   refine (szEntry _ HP.out hcn hcm).mono ?_
   rintro e w1 ⟨rfl, hb⟩
   have HB1 := hid (HB.out.trans (hb.mono HB.out.size)); clear hb
   by_cases hg : (xs.length : Int) + (nL Cnt.cnt (xs.take k) : Int) + (Cnt.cnt xs[k] : Int) ≤ left
   ·rw [szr_pos (by omega)]
    go_wp2
    refine ⟨⟨k + 1, by omega, rfl, ?_, ?_, HB1.out⟩, by simp [intOf]; omega⟩
    ·have e1 := Hs.out; congr 1; omega
    ·have e1 := Hs.out; omega
   ·rw [szr_neg (by omega)]
    go_wp2
    go_ret
    refine ⟨ret_int ?_, HB1.out⟩
    have e0 := Hs2.out; have e1 := Hs.out
    rw [Hc.out, szr_neg (by omega)]
  ·obtain rfl : k = xs.length := by omega
   clear hb
   go_wp2
   go_ret
   refine ⟨ret_int ?_, HB.out⟩
   rw [List.take_length] at hle
   rw [Hc.out, szr_pos (by omega)]
   rw [List.take_length]; omega
theorem eqEntryS {w : World} {b1 b2 : List Nat} {a1 a2 : Option Addr} {len1 len2 cap1 cap2 : Nat} {xs : List EntryD} (k1 : Slc w b1 a1 len1 cap1 xs) (k2 : Slc w b2 a2 len2 cap2 xs) :
  Calls Tryz.prog 33 #[.slice a1 len1 cap1, .slice a2 len2 cap2] w fun e w' => e = .returned (.bool true) ∧ Below w.heap.size w w' := by
 obtain rfl := k1.len_eq
 obtain rfl := k2.len_eq
 have hm := k1.max
 go_enter Tryz.func33, Tryz.ntmps33
 go_wp2_with fail
 go_loopw [5] (fun i wr => ∃ k : Nat, k ≤ xs.length ∧ i = .int .i64 k ∧ Below w.heap.size w wr) (fun i _ => xs.length - (intOf i).toNat)
 case atStart => exact ⟨0, Nat.zero_le _, rfl, Below.refl _ _⟩
 case round =>
  obtain ⟨k, hk, rfl, hb⟩ := hrel
  have HB := hid hb
  by_cases hlt : k < xs.length
  ·obtain ⟨b, off, cs, bs', rfl, hbw, hp, _, hA⟩ := (k1.grow hb).elem k hlt
   obtain ⟨b', off', cs', bs2', rfl, hbw', hp', _, hA'⟩ := (k2.grow hb).elem k hlt
   have HP := hid hp; have HP' := hid hp'
   obtain ⟨rfl, rfl, h0, h1⟩ := open_Entry hp
   obtain ⟨rfl, rfl, h0', h1'⟩ := open_Entry hp'
   have c0 : wr.cell? ⟨b, off + k * 2, none⟩ = some _ := hA 0 _ rfl
   have c1 : wr.cell? ⟨b, off + k * 2 + 1, none⟩ = some _ := hA 1 _ rfl
   have d0 : wr.cell? ⟨b', off' + k * 2, none⟩ = some _ := hA' 0 _ rfl
   have d1 : wr.cell? ⟨b', off' + k * 2 + 1, none⟩ = some _ := hA' 1 _ rfl
   have hlt2 : (k : Int) < (xs.length : Int) := by omega
   clear hA hA' hp hp' hb
   go_wp2_with fail
   go_region_held3 (fun W => Below wr.heap.size wr W ∧ W.cell? ⟨b, off + k * 2, none⟩ = some (.int .i64 xs[k].Num) ∧ W.cell? ⟨b, off + k * 2 + 1, none⟩ = some (.string xs[k].Text) ∧ W.cell? ⟨b', off' + k * 2, none⟩ = some (.int .i64 xs[k].Num) ∧ W.cell? ⟨b', off' + k * 2 + 1, none⟩ = some (.string xs[k].Text)) (first | exact ⟨(Below.refl _ _).drew, c0, c1, d0, d1⟩ | (go_split_ands; exact ⟨Below.trans (by assumption) (Below.mono hb2 (Below.size (by assumption))), keep_cell hb2 (by assumption) (by assumption) hbw, keep_cell hb2 (by assumption) (by assumption) hbw, keep_cell hb2 (by assumption) (by assumption) hbw', keep_cell hb2 (by assumption) (by assumption) hbw'⟩)) (first | (go_at_call 77; refine (eqEntry (grow HP.out (by go_split_ands; assumption)) (grow HP'.out (by go_split_ands; assumption))).mono ?_; rintro e w1 ⟨rfl, hb2⟩))
   have hp : Below wr.heap.size wr w1 := by go_split_ands; assumption
   have HQ := hid hp; clear hp
   go_wp2
   exact ⟨⟨k + 1, by omega, rfl, HB.out.trans (HQ.out.mono HB.out.size)⟩, by simp [intOf]; omega⟩
  ·clear hb
   go_wp2
   go_ret
   exact ⟨rfl, HB.out⟩
theorem markEntryS {lo : Nat} {w : World} {bs : List Nat} {a : Option Addr} {len cap : Nat} {xs : List EntryD} (h : Own lo w bs [.slice a len cap] xs) (s : Nat) (hs : s + Mk.nE xs ≤ topK) :
  Calls Tryz.prog 35 #[.slice a len cap, .int .i64 (s : Int)] w (RetM lo w bs [.slice a len cap] (Mk.mkE s xs) (s + Mk.nE xs)) := by
 have hS := pt_slice.1 h.1
 obtain rfl := hS.len_eq
 have hm := hS.max
 unfold topK at hs
 have hs : s + nL Mk.nE xs ≤ 1152921504606846976 := hs
 clear hS
 go_enter Tryz.func35, Tryz.ntmps35
 go_wp2_with fail
 go_loopw [1, 5] (fun q i wr => ∃ k : Nat, k ≤ xs.length ∧ i = .int .i64 k ∧ q = .int .i64 ((s + nL Mk.nE (xs.take k) : Nat) : Int) ∧ Own lo wr bs [.slice a xs.length cap] (mkTo Mk.mkE Mk.nE s k xs) ∧ Tch bs w wr) (fun _ i _ => xs.length - (intOf i).toNat)
 case atStart => exact ⟨0, Nat.zero_le _, rfl, by simp [nL], by rw [mkTo_zero]; exact h, Tch.refl _ _⟩
 case round =>
  obtain ⟨k, hk, rfl, rfl, hO, hT⟩ := hrel
  have HT := hid hT; clear hT
  by_cases hlt : k < xs.length
  rotate_left
  ·obtain rfl : k = xs.length := by omega
   have HO := hid hO; clear hO
   go_wp2
   go_ret
   refine ⟨by rw [List.take_length]; rfl, ?_, HT.out⟩
   have := HO.out
   rwa [mkTo_all] at this
  obtain ⟨S, hSd⟩ : ∃ S, S = s + nL Mk.nE (xs.take k) := ⟨_, rfl⟩
  have Hn := hid (nL_take_succ Mk.nE xs k hlt)
  have Hn2 := hid (nL_take_le Mk.nE xs (k + 1))
  have Hm := hid (mkTo_succ Mk.mkE Mk.nE s k xs hlt)
  have hlm : k < (mkTo Mk.mkE Mk.nE s k xs).length := by rw [mkTo_length]; exact hlt
  have hOk : Own lo wr bs [.slice a xs.length cap] ((mkTo Mk.mkE Mk.nE s k xs).set k xs[k]) := by
   rw [← mkTo_get Mk.mkE Mk.nE s k xs hlt, List.set_getElem_self]; exact hO
  rw [← hSd]
  have Hsd := hid hSd; clear hSd hO
  obtain ⟨ys, hys⟩ : ∃ ys, ys = mkTo Mk.mkE Mk.nE s k xs := ⟨_, rfl⟩
  rw [← hys] at hOk hlm
  have Hys := hid hys; clear hys
  obtain ⟨D, hD⟩ : ∃ D, D = xs[k] := ⟨_, rfl⟩
  have HD := hid hD
  have hnE : Mk.nE D = 1 + 1 := rfl
  have hbd : S + Mk.nE D ≤ 1152921504606846976 := by have := Hn.out; have := Hn2.out; have := Hsd.out; rw [hD]; omega
  rw [hnE] at hbd
  rw [← hD] at hOk
  clear hD
  obtain ⟨b, off, cs, bi, ea, hbb, hlw, hfr, hbi, hOi, hA, hupd, hset⟩ := hOk.updS hlm
  subst ea
  obtain ⟨rfl, rfl, h0, h1⟩ := open_Entry hOi.1
  have c0 : wr.cell? ⟨b, off + k * 2, none⟩ = some _ := hA 0 _ rfl
  have f0 : wr.frozen? ⟨b, off + k * 2, none⟩ = false := hfr.frozen _
  have c1 : wr.cell? ⟨b, off + k * 2 + 1, none⟩ = some _ := hA 1 _ rfl
  have f1 : wr.frozen? ⟨b, off + k * 2 + 1, none⟩ = false := hfr.frozen _
  have hOk := hset 0 (.int .i64 ((S : Nat) : Int)) { D with Num := ((S : Nat) : Int) } (by decide) (by
   show Rep.pt _ _ [.int .i64 ((S : Nat) : Int), _] _
   exact mk_Entry (d := { D with Num := ((S : Nat) : Int) }) (by show I64 (((S : Nat) : Int)); unfold I64; omega) h1)
  have HT := hid (HT.out.setCell (p := ⟨b, off + k * 2, none⟩) hbb (.int .i64 ((S : Nat) : Int)))
  clear hupd hOi hset hA hfr h0 h1
  have HOk := hid hOk; clear hOk
  go_wp2_with fail
  refine (markText_any (S + 1) _ (by omega)).mono ?_
  rintro e w1 ⟨rfl, hbm⟩
  have hOk := HOk.out.grow hbm
  have HT : Hid (Tch bs w w1) := hid (HT.out.trans (Tch.of_below hbm))
  clear HOk hbm hbb hbi c0 f0 c1 f1
  obtain ⟨b9, off9, cs, bi, ea9, hbb, hlw, hfr, hbi, hOi, hA, hupd, hset⟩ := hOk.updS hlm
  simp only [Option.some.injEq, Addr.mk.injEq, and_true] at ea9
  obtain ⟨rfl, rfl⟩ := ea9
  obtain ⟨rfl, rfl, h0, h1⟩ := open_Entry hOi.1
  have c0 : w1.cell? ⟨b, off + k * 2, none⟩ = some _ := hA 0 _ rfl
  have f0 : w1.frozen? ⟨b, off + k * 2, none⟩ = false := hfr.frozen _
  have c1 : w1.cell? ⟨b, off + k * 2 + 1, none⟩ = some _ := hA 1 _ rfl
  have f1 : w1.frozen? ⟨b, off + k * 2 + 1, none⟩ = false := hfr.frozen _
  have hOk := hset 1 (.string (markText (S + 1))) { D with Num := ((S : Nat) : Int), Text := markText (S + 1) } (by decide) (by
   show Rep.pt _ _ [_, .string (markText (S + 1))] _
   exact mk_Entry (d := { D with Num := ((S : Nat) : Int), Text := markText (S + 1) }) h0 (by exact markText_le (by omega)))
  have HT := hid (HT.out.setCell (p := ⟨b, off + k * 2 + 1, none⟩) hbb (.string (markText (S + 1))))
  have hfin : Mk.mkE S D = { D with Num := ((S : Nat) : Int), Text := markText (S + 1) } := rfl
  rw [← hfin, show ys.set k (Mk.mkE S D) = mkTo Mk.mkE Mk.nE s (k + 1) xs by rw [HD.out, Hys.out, Hsd.out, Hm.out]] at hOk
  have HOk := hid hOk; clear hOk
  try clear hupd hOi hset hA hfr hbi
  go_wp2
  have hO9 := HOk.out; have hT9 := HT.out
  try simp only [Int.natCast_add, Int.natCast_one] at hO9 hT9
  refine ⟨⟨k + 1, by omega, rfl, ?_, hO9, hT9⟩, by simp [intOf]; omega⟩
  have e1 := Hn.out; have e2 := Hsd.out; rw [← HD.out, hnE] at e1; congr 1; omega
theorem heldEntryS {w : World} {bs : List Nat} {a : Option Addr} {len cap : Nat} {xs : List EntryD} (s : Nat) (h : Slc w bs a len cap (Mk.mkE s xs)) (hs : s + Mk.nE xs ≤ topK) :
  Calls Tryz.prog 37 #[.slice a len cap, .int .i64 (s : Int)] w fun e w' => e = .returned (.int .i64 ((s + Mk.nE xs : Nat) : Int)) ∧ Below w.heap.size w w' := by
 have hl : len = xs.length := by rw [h.len_eq]; exact mkL_length _ _ _ _
 subst hl
 have hm := h.max
 unfold topK at hs
 have hs : s + nL Mk.nE xs ≤ 1152921504606846976 := hs
 go_enter Tryz.func37, Tryz.ntmps37
 go_wp2_with fail
 go_loopw [1, 5] (fun q i wr => ∃ k : Nat, k ≤ xs.length ∧ i = .int .i64 k ∧ q = .int .i64 ((s + nL Mk.nE (xs.take k) : Nat) : Int) ∧ Below w.heap.size w wr) (fun _ i _ => xs.length - (intOf i).toNat)
 case atStart => exact ⟨0, Nat.zero_le _, rfl, by simp [nL], Below.refl _ _⟩
 case round =>
  obtain ⟨k, hk, rfl, rfl, hb⟩ := hrel
  have HB := hid hb
  by_cases hlt : k < xs.length
  rotate_left
  ·obtain rfl : k = xs.length := by omega
   clear hb
   go_wp2
   go_ret
   exact ⟨by rw [List.take_length]; rfl, HB.out⟩
  obtain ⟨b, off, cs, bs', rfl, hbw, hp, _, hA⟩ := (h.grow hb).elem k (by show k < (mkL _ _ _ _).length; rw [mkL_length]; exact hlt)
  rw [show (Mk.mkE s xs)[k]'(by show k < (mkL _ _ _ _).length; rw [mkL_length]; exact hlt) = Mk.mkE (s + nL Mk.nE (xs.take k)) xs[k] from mkL_get Mk.mkE Mk.nE s k xs hlt] at hp
  obtain ⟨S, hSd⟩ : ∃ S, S = s + nL Mk.nE (xs.take k) := ⟨_, rfl⟩
  have Hn := hid (nL_take_succ Mk.nE xs k hlt)
  have Hn2 := hid (nL_take_le Mk.nE xs (k + 1))
  rw [← hSd]
  rw [← hSd] at hp
  have Hsd := hid hSd; clear hSd
  obtain ⟨D, hD⟩ : ∃ D, D = xs[k] := ⟨_, rfl⟩
  have HD := hid hD
  have hnE : Mk.nE D = 1 + 1 := rfl
  have hbd : S + Mk.nE D ≤ 1152921504606846976 := by have := Hn.out; have := Hn2.out; have := Hsd.out; rw [hD]; omega
  rw [hnE] at hbd
  rw [← hD] at hp
  clear hD
  obtain ⟨rfl, rfl, h0, h1⟩ := open_Entry hp
  have c0 : wr.cell? ⟨b, off + k * 2, none⟩ = some (.int .i64 ((S : Nat) : Int)) := hA 0 _ rfl
  have c1 : wr.cell? ⟨b, off + k * 2 + 1, none⟩ = some (.string (markText (S + 1))) := hA 1 _ rfl
  clear hA hp hb
  have hM : ∀ w, Calls Tryz.prog 81 #[.int .i64 ((S : Int) + 1)] w fun e w' => e = .returned (.string (markText (S + 1))) ∧ Below w.heap.size w w' := fun w => by
   have := markText_any (S + 1) w (by omega)
   simpa only [Int.natCast_add, Int.natCast_one] using this
  go_wp2_with fail
  go_region_held3 (fun W => Below wr.heap.size wr W ∧ W.cell? ⟨b, off + k * 2 + 1, none⟩ = some (.string (markText (S + 1)))) (first | exact ⟨(Below.refl _ _).drew, c1⟩ | (go_split_ands; exact ⟨Below.trans (by assumption) (Below.mono hb2 (Below.size (by assumption))), keep_cell hb2 (by assumption) (by assumption) hbw⟩)) (first | (go_at_call 81; refine (hM _).mono ?_; rintro e w1 ⟨rfl, hb2⟩))
  have hp : Below wr.heap.size wr w1 := by go_split_ands; assumption
  have HB := hid (HB.out.trans (hp.mono HB.out.size))
  have c0 := (hp.cell (p := ⟨b, off + k * 2, none⟩) hbw).trans c0
  have c1 := (hp.cell (p := ⟨b, off + k * 2 + 1, none⟩) hbw).trans c1
  have hbw := Nat.lt_of_lt_of_le hbw hp.size
  clear hp hM
  go_wp2
  refine ⟨⟨k + 1, by omega, rfl, ?_, HB.out⟩, by simp [intOf]; omega⟩
  have e1 := Hn.out; have e2 := Hsd.out; rw [← HD.out, hnE] at e1; congr 1; omega
end Go.Proofs.YtdjcjilipgpnmaaGreat
