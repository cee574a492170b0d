/- Contracts of the laws' helpers on the marks of disks, stores (printed by genhelpl.py). -/
import Derived.Test.YtdjcjilipgpnmaaGreatKHelpD
import Derived.Test.YtdjcjilipgpnmaaGreatKHelpL
import Derived.Deep.RegionHeld3
set_option linter.unusedSimpArgs false
set_option linter.unusedVariables false
namespace Go.Proofs.YtdjcjilipgpnmaaGreat
open Go.RowKit Go.G6
set_option maxHeartbeats 4000000
set_option maxRecDepth 10000
theorem markNodeS {lo : Nat} {w : World} {bs : List Nat} {a : Option Addr} {len cap : Nat} {xs : List NodeD} (h : Own lo w bs [.slice a len cap] xs) (s : Nat) (hs : s + Mk.nE xs ≤ topK) :
  Calls Tryz.prog 78 #[.slice a len cap, .int .i64 (s : Int)] w (RetM lo w bs [.slice a len cap] (Mk.mkE s xs) (s + Mk.nE xs)) := by
 have hS := pt_slice.1 h.1
 obtain rfl := hS.len_eq
 have hm := hS.max
 unfold topK at hs
 have hs : s + nL Mk.nE xs ≤ 1152921504606846976 := hs
 clear hS
 go_enter Tryz.func78, Tryz.ntmps78
 go_wp2_with fail
 go_loopw [1, 5] (fun q i wr => ∃ k : Nat, k ≤ xs.length ∧ i = .int .i64 k ∧ q = .int .i64 ((s + nL Mk.nE (xs.take k) : Nat) : Int) ∧ Own lo wr bs [.slice a xs.length cap] (mkTo Mk.mkE Mk.nE s k xs) ∧ Tch bs w wr) (fun _ i _ => xs.length - (intOf i).toNat)
 case atStart => exact ⟨0, Nat.zero_le _, rfl, by simp [nL], by rw [mkTo_zero]; exact h, Tch.refl _ _⟩
 case round =>
  obtain ⟨k, hk, rfl, rfl, hO, hT⟩ := hrel
  have HT := hid hT; clear hT
  by_cases hlt : k < xs.length
  rotate_left
  ·obtain rfl : k = xs.length := by omega
   have HO := hid hO; clear hO
   go_wp2
   go_ret
   refine ⟨by rw [List.take_length]; rfl, ?_, HT.out⟩
   have := HO.out
   rwa [mkTo_all] at this
  obtain ⟨S, hSd⟩ : ∃ S, S = s + nL Mk.nE (xs.take k) := ⟨_, rfl⟩
  have Hn := hid (nL_take_succ Mk.nE xs k hlt)
  have Hn2 := hid (nL_take_le Mk.nE xs (k + 1))
  have Hm := hid (mkTo_succ Mk.mkE Mk.nE s k xs hlt)
  have hlm : k < (mkTo Mk.mkE Mk.nE s k xs).length := by rw [mkTo_length]; exact hlt
  have hOk : Own lo wr bs [.slice a xs.length cap] ((mkTo Mk.mkE Mk.nE s k xs).set k xs[k]) := by
   rw [← mkTo_get Mk.mkE Mk.nE s k xs hlt, List.set_getElem_self]; exact hO
  rw [← hSd]
  have Hsd := hid hSd; clear hSd hO
  obtain ⟨ys, hys⟩ : ∃ ys, ys = mkTo Mk.mkE Mk.nE s k xs := ⟨_, rfl⟩
  rw [← hys] at hOk hlm
  have Hys := hid hys; clear hys
  obtain ⟨D, hD⟩ : ∃ D, D = xs[k] := ⟨_, rfl⟩
  have HD := hid hD
  have hnE : Mk.nE D = 1 + Mk.nE D.Body + Mk.nE D.Safe := rfl
  have hbd : S + Mk.nE D ≤ 1152921504606846976 := by have := Hn.out; have := Hn2.out; have := Hsd.out; rw [hD]; omega
  rw [hnE] at hbd
  rw [← hD] at hOk
  clear hD
  obtain ⟨b, off, cs, bi, ea, hbb, hlw, hfr, hbi, hOi, hA, hupd, hset⟩ := hOk.updS hlm
  subst ea
  obtain ⟨b1, b2, a1, l1, k1, a2, l2, k2, rfl, rfl, h0, h1, h2⟩ := open_Node hOi.1
  have c0 : wr.cell? ⟨b, off + k * 3, none⟩ = some _ := hA 0 _ rfl
  have f0 : wr.frozen? ⟨b, off + k * 3, none⟩ = false := hfr.frozen _
  have c1 : wr.cell? ⟨b, off + k * 3 + 1, none⟩ = some _ := hA 1 _ rfl
  have f1 : wr.frozen? ⟨b, off + k * 3 + 1, none⟩ = false := hfr.frozen _
  have c2 : wr.cell? ⟨b, off + k * 3 + 2, none⟩ = some _ := hA 2 _ rfl
  have f2 : wr.frozen? ⟨b, off + k * 3 + 2, none⟩ = false := hfr.frozen _
  have hOk := hset 0 (.int .i64 ((S : Nat) : Int)) { D with Id := ((S : Nat) : Int) } (by decide) (by
   show Rep.pt _ _ [.int .i64 ((S : Nat) : Int), .slice a1 l1 k1, .slice a2 l2 k2] _
   exact mk_Node (d := { D with Id := ((S : Nat) : Int) }) (by show I64 (((S : Nat) : Int)); unfold I64; omega) h1 h2)
  have HT := hid (HT.out.setCell (p := ⟨b, off + k * 3, none⟩) hbb (.int .i64 ((S : Nat) : Int)))
  clear hupd hOi hset hA hfr hbi hbb hlw h0 h1 h2
  obtain ⟨b9, off9, cs, bi, ea9, hbb, hlw, hfr, hbi, hOi, hA, hupd, hset⟩ := hOk.updS hlm
  simp only [Option.some.injEq, Addr.mk.injEq, and_true] at ea9
  obtain ⟨rfl, rfl⟩ := ea9
  obtain ⟨b1q, b2q, a1q, l1q, k1q, a2q, l2q, k2q, rfl, rfl, h0q, h1q, h2q⟩ := open_Node hOi.1
  have qs1 := hA 1 _ rfl
  rw [World.cell?_setCell_other _ _ _ _ (by intro e; have := congrArg Addr.off e; simp only at this; omega)] at qs1
  have qs1 := (show _ = _ from c1).symm.trans qs1
  simp only [Option.some.injEq, Value.slice.injEq] at qs1
  obtain ⟨rfl, rfl, rfl⟩ := qs1
  have qs2 := hA 2 _ rfl
  rw [World.cell?_setCell_other _ _ _ _ (by intro e; have := congrArg Addr.off e; simp only at this; omega)] at qs2
  have qs2 := (show _ = _ from c2).symm.trans qs2
  simp only [Option.some.injEq, Value.slice.injEq] at qs2
  obtain ⟨rfl, rfl, rfl⟩ := qs2
  have hp0 := parts_Node hOi h1q h2q
  have HP0 := hid hp0; have HU := hid hupd; have HBI := hid hbi; have HLT := hid (fun x hx => (hOk.lts x hx).2); have HBB := hid hbb
  clear hp0 hupd hbi hOi hset hA hOk hfr
  go_wp2_with fail
  refine (markByteS HP0.out.1 (S + 1) (by unfold topK; omega)).mono ?_
  rintro e w1 ⟨rfl, hO1, hT1⟩
  have hO2 := Own.tch HP0.out.2.1 hT1 (fun x hx hm => HP0.out.2.2 x hm hx)
  have hOk := HU.out w1 { D with Id := ((S : Nat) : Int), Body := Mk.mkE (S + 1) D.Body } (fun x hx hn => hT1.block x (HLT.out x hx) (fun hm => hn (List.mem_append_left _ hm))) (own_Node (d := { D with Id := ((S : Nat) : Int), Body := Mk.mkE (S + 1) D.Body }) h0q hO1 hO2 HP0.out.2.2)
  have HT := hid (HT.out.trans (hT1.mono (fun x hx => (HBI.out x (List.mem_append_left _ hx)).1)))
  clear hO1 hO2 hT1 HU HBI HLT HP0 HBB c0 f0 c1 f1 c2 f2
  obtain ⟨b9, off9, cs, bi, ea9, hbb, hlw, hfr, hbi, hOi, hA, hupd, hset⟩ := hOk.updS hlm
  simp only [Option.some.injEq, Addr.mk.injEq, and_true] at ea9
  obtain ⟨rfl, rfl⟩ := ea9
  obtain ⟨b1, b2, a1, l1, k1, a2, l2, k2, rfl, rfl, h0, h1, h2⟩ := open_Node hOi.1
  have c0 : w1.cell? ⟨b, off + k * 3, none⟩ = some _ := hA 0 _ rfl
  have f0 : w1.frozen? ⟨b, off + k * 3, none⟩ = false := hfr.frozen _
  have c1 : w1.cell? ⟨b, off + k * 3 + 1, none⟩ = some _ := hA 1 _ rfl
  have f1 : w1.frozen? ⟨b, off + k * 3 + 1, none⟩ = false := hfr.frozen _
  have c2 : w1.cell? ⟨b, off + k * 3 + 2, none⟩ = some _ := hA 2 _ rfl
  have f2 : w1.frozen? ⟨b, off + k * 3 + 2, none⟩ = false := hfr.frozen _
  have hp0 := parts_Node hOi h1 h2
  have HP0 := hid hp0; have HU := hid hupd; have HBI := hid hbi; have HLT := hid (fun x hx => (hOk.lts x hx).2); have HBB := hid hbb
  clear hp0 hupd hbi hOi hset hA hOk hfr
  go_wp2_with fail
  refine (markByteS HP0.out.2.1 (S + 1 + Mk.nE D.Body) (by unfold topK; omega)).mono ?_
  rintro e w2 ⟨rfl, hO2, hT1⟩
  have hO1 := Own.tch HP0.out.1 hT1 (fun x hx hm => HP0.out.2.2 x hx hm)
  have hOk := HU.out w2 { D with Id := ((S : Nat) : Int), Body := Mk.mkE (S + 1) D.Body, Safe := Mk.mkE (S + 1 + Mk.nE D.Body) D.Safe } (fun x hx hn => hT1.block x (HLT.out x hx) (fun hm => hn (List.mem_append_right _ hm))) (own_Node (d := { D with Id := ((S : Nat) : Int), Body := Mk.mkE (S + 1) D.Body, Safe := Mk.mkE (S + 1 + Mk.nE D.Body) D.Safe }) h0 hO1 hO2 HP0.out.2.2)
  have HT := hid (HT.out.trans (hT1.mono (fun x hx => (HBI.out x (List.mem_append_right _ hx)).1)))
  clear hO1 hO2 hT1 HU HBI HLT HP0 HBB c0 f0 c1 f1 c2 f2
  obtain ⟨b9, off9, cs, bi, ea9, hbb, hlw, hfr, hbi, hOi, hA, hupd, hset⟩ := hOk.updS hlm
  simp only [Option.some.injEq, Addr.mk.injEq, and_true] at ea9
  obtain ⟨rfl, rfl⟩ := ea9
  obtain ⟨b1, b2, a1, l1, k1, a2, l2, k2, rfl, rfl, h0, h1, h2⟩ := open_Node hOi.1
  have c0 : w2.cell? ⟨b, off + k * 3, none⟩ = some _ := hA 0 _ rfl
  have f0 : w2.frozen? ⟨b, off + k * 3, none⟩ = false := hfr.frozen _
  have c1 : w2.cell? ⟨b, off + k * 3 + 1, none⟩ = some _ := hA 1 _ rfl
  have f1 : w2.frozen? ⟨b, off + k * 3 + 1, none⟩ = false := hfr.frozen _
  have c2 : w2.cell? ⟨b, off + k * 3 + 2, none⟩ = some _ := hA 2 _ rfl
  have f2 : w2.frozen? ⟨b, off + k * 3 + 2, none⟩ = false := hfr.frozen _
  have hfin : Mk.mkE S D = { D with Id := ((S : Nat) : Int), Body := Mk.mkE (S + 1) D.Body, Safe := Mk.mkE (S + 1 + Mk.nE D.Body) D.Safe } := rfl
  rw [← hfin, show ys.set k (Mk.mkE S D) = mkTo Mk.mkE Mk.nE s (k + 1) xs by rw [HD.out, Hys.out, Hsd.out, Hm.out]] at hOk
  have HOk := hid hOk; clear hOk
  try clear hupd hOi hset hA hfr hbi
  go_wp2
  have hO9 := HOk.out; have hT9 := HT.out
  try simp only [Int.natCast_add, Int.natCast_one] at hO9 hT9
  refine ⟨⟨k + 1, by omega, rfl, ?_, hO9, hT9⟩, by simp [intOf]; omega⟩
  have e1 := Hn.out; have e2 := Hsd.out; rw [← HD.out, hnE] at e1; congr 1; omega
theorem heldNodeS {w : World} {bs : List Nat} {a : Option Addr} {len cap : Nat} {xs : List NodeD} (s : Nat) (h : Slc w bs a len cap (Mk.mkE s xs)) (hs : s + Mk.nE xs ≤ topK) :
  Calls Tryz.prog 82 #[.slice a len cap, .int .i64 (s : Int)] w fun e w' => e = .returned (.int .i64 ((s + Mk.nE xs : Nat) : Int)) ∧ Below w.heap.size w w' := by
 have hl : len = xs.length := by rw [h.len_eq]; exact mkL_length _ _ _ _
 subst hl
 have hm := h.max
 unfold topK at hs
 have hs : s + nL Mk.nE xs ≤ 1152921504606846976 := hs
 go_enter Tryz.func82, Tryz.ntmps82
 go_wp2_with fail
 go_loopw [1, 5] (fun q i wr => ∃ k : Nat, k ≤ xs.length ∧ i = .int .i64 k ∧ q = .int .i64 ((s + nL Mk.nE (xs.take k) : Nat) : Int) ∧ Below w.heap.size w wr) (fun _ i _ => xs.length - (intOf i).toNat)
 case atStart => exact ⟨0, Nat.zero_le _, rfl, by simp [nL], Below.refl _ _⟩
 case round =>
  obtain ⟨k, hk, rfl, rfl, hb⟩ := hrel
  have HB := hid hb
  by_cases hlt : k < xs.length
  rotate_left
  ·obtain rfl : k = xs.length := by omega
   clear hb
   go_wp2
   go_ret
   exact ⟨by rw [List.take_length]; rfl, HB.out⟩
  obtain ⟨b, off, cs, bs', rfl, hbw, hp, _, hA⟩ := (h.grow hb).elem k (by show k < (mkL _ _ _ _).length; rw [mkL_length]; exact hlt)
  rw [show (Mk.mkE s xs)[k]'(by show k < (mkL _ _ _ _).length; rw [mkL_length]; exact hlt) = Mk.mkE (s + nL Mk.nE (xs.take k)) xs[k] from mkL_get Mk.mkE Mk.nE s k xs hlt] at hp
  obtain ⟨S, hSd⟩ : ∃ S, S = s + nL Mk.nE (xs.take k) := ⟨_, rfl⟩
  have Hn := hid (nL_take_succ Mk.nE xs k hlt)
  have Hn2 := hid (nL_take_le Mk.nE xs (k + 1))
  rw [← hSd]
  rw [← hSd] at hp
  have Hsd := hid hSd; clear hSd
  obtain ⟨D, hD⟩ : ∃ D, D = xs[k] := ⟨_, rfl⟩
  have HD := hid hD
  have hnE : Mk.nE D = 1 + Mk.nE D.Body + Mk.nE D.Safe := rfl
  have hbd : S + Mk.nE D ≤ 1152921504606846976 := by have := Hn.out; have := Hn2.out; have := Hsd.out; rw [hD]; omega
  rw [hnE] at hbd
  rw [← hD] at hp
  clear hD
  obtain ⟨b1, b2, a1, l1, k1, a2, l2, k2, rfl, rfl, h0, h1, h2⟩ := open_Node hp
  have c0 : wr.cell? ⟨b, off + k * 3, none⟩ = some (.int .i64 ((S : Nat) : Int)) := hA 0 _ rfl
  have c1 : wr.cell? ⟨b, off + k * 3 + 1, none⟩ = some (.slice a1 l1 k1) := hA 1 _ rfl
  have c2 : wr.cell? ⟨b, off + k * 3 + 2, none⟩ = some (.slice a2 l2 k2) := hA 2 _ rfl
  clear hA hp hb
  have K0 := hid h1; clear h1
  go_wp2_with fail
  refine (heldByteS (S + 1) (xs := D.Body) K0.out (by unfold topK; omega)).mono ?_
  rintro e w1 ⟨rfl, hb⟩
  have c0 := (hb.cell (p := ⟨b, off + k * 3, none⟩) hbw).trans c0
  have c1 := (hb.cell (p := ⟨b, off + k * 3 + 1, none⟩) hbw).trans c1
  have c2 := (hb.cell (p := ⟨b, off + k * 3 + 2, none⟩) hbw).trans c2
  have HB := hid (HB.out.trans (hb.mono HB.out.size))
  have hbw := Nat.lt_of_lt_of_le hbw hb.size
  have h2 := Slc.grow h2 hb
  clear hb K0
  have K0 := hid h2; clear h2
  go_wp2_with fail
  refine (heldByteS (S + 1 + Mk.nE D.Body) (xs := D.Safe) K0.out (by unfold topK; omega)).mono ?_
  rintro e w2 ⟨rfl, hb⟩
  have c0 := (hb.cell (p := ⟨b, off + k * 3, none⟩) hbw).trans c0
  have c1 := (hb.cell (p := ⟨b, off + k * 3 + 1, none⟩) hbw).trans c1
  have c2 := (hb.cell (p := ⟨b, off + k * 3 + 2, none⟩) hbw).trans c2
  have HB := hid (HB.out.trans (hb.mono HB.out.size))
  have hbw := Nat.lt_of_lt_of_le hbw hb.size
  clear hb K0
  go_wp2
  refine ⟨⟨k + 1, by omega, rfl, ?_, HB.out⟩, by simp [intOf]; omega⟩
  have e1 := Hn.out; have e2 := Hsd.out; rw [← HD.out, hnE] at e1; congr 1; omega
theorem markLinkS {lo : Nat} {w : World} {bs : List Nat} {a : Option Addr} {len cap : Nat} {xs : List LinkD} (h : Own lo w bs [.slice a len cap] xs) (s : Nat) (hs : s + Mk.nE xs ≤ topK) :
  Calls Tryz.prog 79 #[.slice a len cap, .int .i64 (s : Int)] w (RetM lo w bs [.slice a len cap] (Mk.mkE s xs) (s + Mk.nE xs)) := by
 have hS := pt_slice.1 h.1
 obtain rfl := hS.len_eq
 have hm := hS.max
 unfold topK at hs
 have hs : s + nL Mk.nE xs ≤ 1152921504606846976 := hs
 clear hS
 go_enter Tryz.func79, Tryz.ntmps79
 go_wp2_with fail
 go_loopw [1, 5] (fun q i wr => ∃ k : Nat, k ≤ xs.length ∧ i = .int .i64 k ∧ q = .int .i64 ((s + nL Mk.nE (xs.take k) : Nat) : Int) ∧ Own lo wr bs [.slice a xs.length cap] (mkTo Mk.mkE Mk.nE s k xs) ∧ Tch bs w wr) (fun _ i _ => xs.length - (intOf i).toNat)
 case atStart => exact ⟨0, Nat.zero_le _, rfl, by simp [nL], by rw [mkTo_zero]; exact h, Tch.refl _ _⟩
 case round =>
  obtain ⟨k, hk, rfl, rfl, hO, hT⟩ := hrel
  have HT := hid hT; clear hT
  by_cases hlt : k < xs.length
  rotate_left
  ·obtain rfl : k = xs.length := by omega
   have HO := hid hO; clear hO
   go_wp2
   go_ret
   refine ⟨by rw [List.take_length]; rfl, ?_, HT.out⟩
   have := HO.out
   rwa [mkTo_all] at this
  obtain ⟨S, hSd⟩ : ∃ S, S = s + nL Mk.nE (xs.take k) := ⟨_, rfl⟩
  have Hn := hid (nL_take_succ Mk.nE xs k hlt)
  have Hn2 := hid (nL_take_le Mk.nE xs (k + 1))
  have Hm := hid (mkTo_succ Mk.mkE Mk.nE s k xs hlt)
  have hlm : k < (mkTo Mk.mkE Mk.nE s k xs).length := by rw [mkTo_length]; exact hlt
  have hOk : Own lo wr bs [.slice a xs.length cap] ((mkTo Mk.mkE Mk.nE s k xs).set k xs[k]) := by
   rw [← mkTo_get Mk.mkE Mk.nE s k xs hlt, List.set_getElem_self]; exact hO
  rw [← hSd]
  have Hsd := hid hSd; clear hSd hO
  obtain ⟨ys, hys⟩ : ∃ ys, ys = mkTo Mk.mkE Mk.nE s k xs := ⟨_, rfl⟩
  rw [← hys] at hOk hlm
  have Hys := hid hys; clear hys
  obtain ⟨D, hD⟩ : ∃ D, D = xs[k] := ⟨_, rfl⟩
  have HD := hid hD
  have hnE : Mk.nE D = 1 + 1 := rfl
  have hbd : S + Mk.nE D ≤ 1152921504606846976 := by have := Hn.out; have := Hn2.out; have := Hsd.out; rw [hD]; omega
  rw [hnE] at hbd
  rw [← hD] at hOk
  clear hD
  obtain ⟨b, off, cs, bi, ea, hbb, hlw, hfr, hbi, hOi, hA, hupd, hset⟩ := hOk.updS hlm
  subst ea
  obtain ⟨rfl, rfl, h0, h1⟩ := open_Link hOi.1
  have c0 : wr.cell? ⟨b, off + k * 2, none⟩ = some _ := hA 0 _ rfl
  have f0 : wr.frozen? ⟨b, off + k * 2, none⟩ = false := hfr.frozen _
  have c1 : wr.cell? ⟨b, off + k * 2 + 1, none⟩ = some _ := hA 1 _ rfl
  have f1 : wr.frozen? ⟨b, off + k * 2 + 1, none⟩ = false := hfr.frozen _
  clear hupd hOi hset hA hfr h0 h1
  have HOk := hid hOk; clear hOk
  go_wp2_with fail
  refine (markText_any (S) _ (by omega)).mono ?_
  rintro e w1 ⟨rfl, hbm⟩
  have hOk := HOk.out.grow hbm
  have HT : Hid (Tch bs w w1) := hid (HT.out.trans (Tch.of_below hbm))
  clear HOk hbm hbb hbi c0 f0 c1 f1
  obtain ⟨b9, off9, cs, bi, ea9, hbb, hlw, hfr, hbi, hOi, hA, hupd, hset⟩ := hOk.updS hlm
  simp only [Option.some.injEq, Addr.mk.injEq, and_true] at ea9
  obtain ⟨rfl, rfl⟩ := ea9
  obtain ⟨rfl, rfl, h0, h1⟩ := open_Link hOi.1
  have c0 : w1.cell? ⟨b, off + k * 2, none⟩ = some _ := hA 0 _ rfl
  have f0 : w1.frozen? ⟨b, off + k * 2, none⟩ = false := hfr.frozen _
  have c1 : w1.cell? ⟨b, off + k * 2 + 1, none⟩ = some _ := hA 1 _ rfl
  have f1 : w1.frozen? ⟨b, off + k * 2 + 1, none⟩ = false := hfr.frozen _
  have hOk := hset 0 (.string (markText (S))) { D with Name := markText (S) } (by decide) (by
   show Rep.pt _ _ [.string (markText (S)), _] _
   exact mk_Link (d := { D with Name := markText (S) }) (by exact markText_le (by omega)) h1)
  have HT := hid (HT.out.setCell (p := ⟨b, off + k * 2, none⟩) hbb (.string (markText (S))))
  clear hupd hOi hset hA hfr hbi hbb hlw h0 h1
  obtain ⟨b9, off9, cs, bi, ea9, hbb, hlw, hfr, hbi, hOi, hA, hupd, hset⟩ := hOk.updS hlm
  simp only [Option.some.injEq, Addr.mk.injEq, and_true] at ea9
  obtain ⟨rfl, rfl⟩ := ea9
  obtain ⟨rfl, rfl, h0, h1⟩ := open_Link hOi.1
  have hOk := hset 1 (.int .i64 ((S + 1 : Nat) : Int)) { D with Name := markText (S), Id := ((S + 1 : Nat) : Int) } (by decide) (by
   show Rep.pt _ _ [_, .int .i64 ((S + 1 : Nat) : Int)] _
   exact mk_Link (d := { D with Name := markText (S), Id := ((S + 1 : Nat) : Int) }) h0 (by show I64 (((S + 1 : Nat) : Int)); unfold I64; omega))
  have HT := hid (HT.out.setCell (p := ⟨b, off + k * 2 + 1, none⟩) hbb (.int .i64 ((S + 1 : Nat) : Int)))
  have hfin : Mk.mkE S D = { D with Name := markText (S), Id := ((S + 1 : Nat) : Int) } := rfl
  rw [← hfin, show ys.set k (Mk.mkE S D) = mkTo Mk.mkE Mk.nE s (k + 1) xs by rw [HD.out, Hys.out, Hsd.out, Hm.out]] at hOk
  have HOk := hid hOk; clear hOk
  try clear hupd hOi hset hA hfr hbi
  go_wp2
  have hO9 := HOk.out; have hT9 := HT.out
  try simp only [Int.natCast_add, Int.natCast_one] at hO9 hT9
  refine ⟨⟨k + 1, by omega, rfl, ?_, hO9, hT9⟩, by simp [intOf]; omega⟩
  have e1 := Hn.out; have e2 := Hsd.out; rw [← HD.out, hnE] at e1; congr 1; omega
theorem heldLinkS {w : World} {bs : List Nat} {a : Option Addr} {len cap : Nat} {xs : List LinkD} (s : Nat) (h : Slc w bs a len cap (Mk.mkE s xs)) (hs : s + Mk.nE xs ≤ topK) :
  Calls Tryz.prog 83 #[.slice a len cap, .int .i64 (s : Int)] w fun e w' => e = .returned (.int .i64 ((s + Mk.nE xs : Nat) : Int)) ∧ Below w.heap.size w w' := by
 have hl : len = xs.length := by rw [h.len_eq]; exact mkL_length _ _ _ _
 subst hl
 have hm := h.max
 unfold topK at hs
 have hs : s + nL Mk.nE xs ≤ 1152921504606846976 := hs
 go_enter Tryz.func83, Tryz.ntmps83
 go_wp2_with fail
 go_loopw [1, 5] (fun q i wr => ∃ k : Nat, k ≤ xs.length ∧ i = .int .i64 k ∧ q = .int .i64 ((s + nL Mk.nE (xs.take k) : Nat) : Int) ∧ Below w.heap.size w wr) (fun _ i _ => xs.length - (intOf i).toNat)
 case atStart => exact ⟨0, Nat.zero_le _, rfl, by simp [nL], Below.refl _ _⟩
 case round =>
  obtain ⟨k, hk, rfl, rfl, hb⟩ := hrel
  have HB := hid hb
  by_cases hlt : k < xs.length
  rotate_left
  ·obtain rfl : k = xs.length := by omega
   clear hb
   go_wp2
   go_ret
   exact ⟨by rw [List.take_length]; rfl, HB.out⟩
  obtain ⟨b, off, cs, bs', rfl, hbw, hp, _, hA⟩ := (h.grow hb).elem k (by show k < (mkL _ _ _ _).length; rw [mkL_length]; exact hlt)
  rw [show (Mk.mkE s xs)[k]'(by show k < (mkL _ _ _ _).length; rw [mkL_length]; exact hlt) = Mk.mkE (s + nL Mk.nE (xs.take k)) xs[k] from mkL_get Mk.mkE Mk.nE s k xs hlt] at hp
  obtain ⟨S, hSd⟩ : ∃ S, S = s + nL Mk.nE (xs.take k) := ⟨_, rfl⟩
  have Hn := hid (nL_take_succ Mk.nE xs k hlt)
  have Hn2 := hid (nL_take_le Mk.nE xs (k + 1))
  rw [← hSd]
  rw [← hSd] at hp
  have Hsd := hid hSd; clear hSd
  obtain ⟨D, hD⟩ : ∃ D, D = xs[k] := ⟨_, rfl⟩
  have HD := hid hD
  have hnE : Mk.nE D = 1 + 1 := rfl
  have hbd : S + Mk.nE D ≤ 1152921504606846976 := by have := Hn.out; have := Hn2.out; have := Hsd.out; rw [hD]; omega
  rw [hnE] at hbd
  rw [← hD] at hp
  clear hD
  obtain ⟨rfl, rfl, h0, h1⟩ := open_Link hp
  have c0 : wr.cell? ⟨b, off + k * 2, none⟩ = some (.string (markText (S))) := hA 0 _ rfl
  have c1 : wr.cell? ⟨b, off + k * 2 + 1, none⟩ = some (.int .i64 ((S + 1 : Nat) : Int)) := hA 1 _ rfl
  clear hA hp hb
  have hM : ∀ w, Calls Tryz.prog 81 #[.int .i64 ((S : Int))] w fun e w' => e = .returned (.string (markText (S))) ∧ Below w.heap.size w w' := fun w => by
   have := markText_any (S) w (by omega)
   simpa only [Int.natCast_add, Int.natCast_one] using this
  go_wp2_with fail
  go_region_held3 (fun W => Below wr.heap.size wr W ∧ W.cell? ⟨b, off + k * 2, none⟩ = some (.string (markText (S)))) (first | exact ⟨(Below.refl _ _).drew, c0⟩ | (go_split_ands; exact ⟨Below.trans (by assumption) (Below.mono hb2 (Below.size (by assumption))), keep_cell hb2 (by assumption) (by assumption) hbw⟩)) (first | (go_at_call 81; refine (hM _).mono ?_; rintro e w1 ⟨rfl, hb2⟩))
  have hp : Below wr.heap.size wr w1 := by go_split_ands; assumption
  have HB := hid (HB.out.trans (hp.mono HB.out.size))
  have c0 := (hp.cell (p := ⟨b, off + k * 2, none⟩) hbw).trans c0
  have c1 := (hp.cell (p := ⟨b, off + k * 2 + 1, none⟩) hbw).trans c1
  have hbw := Nat.lt_of_lt_of_le hbw hp.size
  clear hp hM
  go_wp2
  refine ⟨⟨k + 1, by omega, rfl, ?_, HB.out⟩, by simp [intOf]; omega⟩
  have e1 := Hn.out; have e2 := Hsd.out; rw [← HD.out, hnE] at e1; congr 1; omega
theorem markTurnS {lo : Nat} {w : World} {bs : List Nat} {a : Option Addr} {len cap : Nat} {xs : List TurnD} (h : Own lo w bs [.slice a len cap] xs) (s : Nat) (hs : s + Mk.nE xs ≤ topK) :
  Calls Tryz.prog 80 #[.slice a len cap, .int .i64 (s : Int)] w (RetM lo w bs [.slice a len cap] (Mk.mkE s xs) (s + Mk.nE xs)) := by
 have hS := pt_slice.1 h.1
 obtain rfl := hS.len_eq
 have hm := hS.max
 unfold topK at hs
 have hs : s + nL Mk.nE xs ≤ 1152921504606846976 := hs
 clear hS
 go_enter Tryz.func80, Tryz.ntmps80
 go_wp2_with fail
 go_loopw [1, 5] (fun q i wr => ∃ k : Nat, k ≤ xs.length ∧ i = .int .i64 k ∧ q = .int .i64 ((s + nL Mk.nE (xs.take k) : Nat) : Int) ∧ Own lo wr bs [.slice a xs.length cap] (mkTo Mk.mkE Mk.nE s k xs) ∧ Tch bs w wr) (fun _ i _ => xs.length - (intOf i).toNat)
 case atStart => exact ⟨0, Nat.zero_le _, rfl, by simp [nL], by rw [mkTo_zero]; exact h, Tch.refl _ _⟩
 case round =>
  obtain ⟨k, hk, rfl, rfl, hO, hT⟩ := hrel
  have HT := hid hT; clear hT
  by_cases hlt : k < xs.length
  rotate_left
  ·obtain rfl : k = xs.length := by omega
   have HO := hid hO; clear hO
   go_wp2
   go_ret
   refine ⟨by rw [List.take_length]; rfl, ?_, HT.out⟩
   have := HO.out
   rwa [mkTo_all] at this
  obtain ⟨S, hSd⟩ : ∃ S, S = s + nL Mk.nE (xs.take k) := ⟨_, rfl⟩
  have Hn := hid (nL_take_succ Mk.nE xs k hlt)
  have Hn2 := hid (nL_take_le Mk.nE xs (k + 1))
  have Hm := hid (mkTo_succ Mk.mkE Mk.nE s k xs hlt)
  have hlm : k < (mkTo Mk.mkE Mk.nE s k xs).length := by rw [mkTo_length]; exact hlt
  have hOk : Own lo wr bs [.slice a xs.length cap] ((mkTo Mk.mkE Mk.nE s k xs).set k xs[k]) := by
   rw [← mkTo_get Mk.mkE Mk.nE s k xs hlt, List.set_getElem_self]; exact hO
  rw [← hSd]
  have Hsd := hid hSd; clear hSd hO
  obtain ⟨ys, hys⟩ : ∃ ys, ys = mkTo Mk.mkE Mk.nE s k xs := ⟨_, rfl⟩
  rw [← hys] at hOk hlm
  have Hys := hid hys; clear hys
  obtain ⟨D, hD⟩ : ∃ D, D = xs[k] := ⟨_, rfl⟩
  have HD := hid hD
  have hnE : Mk.nE D = 1 + 1 + 1 + 1 := rfl
  have hbd : S + Mk.nE D ≤ 1152921504606846976 := by have := Hn.out; have := Hn2.out; have := Hsd.out; rw [hD]; omega
  rw [hnE] at hbd
  rw [← hD] at hOk
  clear hD
  obtain ⟨b, off, cs, bi, ea, hbb, hlw, hfr, hbi, hOi, hA, hupd, hset⟩ := hOk.updS hlm
  subst ea
  obtain ⟨rfl, rfl, h0, h1, h2, h3⟩ := open_Turn hOi.1
  have c0 : wr.cell? ⟨b, off + k * 4, none⟩ = some _ := hA 0 _ rfl
  have f0 : wr.frozen? ⟨b, off + k * 4, none⟩ = false := hfr.frozen _
  have c1 : wr.cell? ⟨b, off + k * 4 + 1, none⟩ = some _ := hA 1 _ rfl
  have f1 : wr.frozen? ⟨b, off + k * 4 + 1, none⟩ = false := hfr.frozen _
  have c2 : wr.cell? ⟨b, off + k * 4 + 2, none⟩ = some _ := hA 2 _ rfl
  have f2 : wr.frozen? ⟨b, off + k * 4 + 2, none⟩ = false := hfr.frozen _
  have c3 : wr.cell? ⟨b, off + k * 4 + 3, none⟩ = some _ := hA 3 _ rfl
  have f3 : wr.frozen? ⟨b, off + k * 4 + 3, none⟩ = false := hfr.frozen _
  have hOk := hset 0 (.int .i64 ((S : Nat) : Int)) { D with Kind := ((S : Nat) : Int) } (by decide) (by
   show Rep.pt _ _ [.int .i64 ((S : Nat) : Int), _, _, _] _
   exact mk_Turn (d := { D with Kind := ((S : Nat) : Int) }) (by show I64 (((S : Nat) : Int)); unfold I64; omega) h1 h2 h3)
  have HT := hid (HT.out.setCell (p := ⟨b, off + k * 4, none⟩) hbb (.int .i64 ((S : Nat) : Int)))
  clear hupd hOi hset hA hfr h0 h1 h2 h3
  have HOk := hid hOk; clear hOk
  go_wp2_with fail
  refine (markText_any (S + 1) _ (by omega)).mono ?_
  rintro e w1 ⟨rfl, hbm⟩
  have hOk := HOk.out.grow hbm
  have HT : Hid (Tch bs w w1) := hid (HT.out.trans (Tch.of_below hbm))
  clear HOk hbm hbb hbi c0 f0 c1 f1 c2 f2 c3 f3
  obtain ⟨b9, off9, cs, bi, ea9, hbb, hlw, hfr, hbi, hOi, hA, hupd, hset⟩ := hOk.updS hlm
  simp only [Option.some.injEq, Addr.mk.injEq, and_true] at ea9
  obtain ⟨rfl, rfl⟩ := ea9
  obtain ⟨rfl, rfl, h0, h1, h2, h3⟩ := open_Turn hOi.1
  have c0 : w1.cell? ⟨b, off + k * 4, none⟩ = some _ := hA 0 _ rfl
  have f0 : w1.frozen? ⟨b, off + k * 4, none⟩ = false := hfr.frozen _
  have c1 : w1.cell? ⟨b, off + k * 4 + 1, none⟩ = some _ := hA 1 _ rfl
  have f1 : w1.frozen? ⟨b, off + k * 4 + 1, none⟩ = false := hfr.frozen _
  have c2 : w1.cell? ⟨b, off + k * 4 + 2, none⟩ = some _ := hA 2 _ rfl
  have f2 : w1.frozen? ⟨b, off + k * 4 + 2, none⟩ = false := hfr.frozen _
  have c3 : w1.cell? ⟨b, off + k * 4 + 3, none⟩ = some _ := hA 3 _ rfl
  have f3 : w1.frozen? ⟨b, off + k * 4 + 3, none⟩ = false := hfr.frozen _
  have hOk := hset 1 (.string (markText (S + 1))) { D with Kind := ((S : Nat) : Int), Name := markText (S + 1) } (by decide) (by
   show Rep.pt _ _ [_, .string (markText (S + 1)), _, _] _
   exact mk_Turn (d := { D with Kind := ((S : Nat) : Int), Name := markText (S + 1) }) h0 (by exact markText_le (by omega)) h2 h3)
  have HT := hid (HT.out.setCell (p := ⟨b, off + k * 4 + 1, none⟩) hbb (.string (markText (S + 1))))
  clear hupd hOi hset hA hfr h0 h1 h2 h3
  have HOk := hid hOk; clear hOk
  go_wp2_with fail
  refine (markText_any (S + 1 + 1) _ (by omega)).mono ?_
  rintro e w2 ⟨rfl, hbm⟩
  have hOk := HOk.out.grow hbm
  have HT : Hid (Tch bs w w2) := hid (HT.out.trans (Tch.of_below hbm))
  clear HOk hbm hbb hbi c0 f0 c1 f1 c2 f2 c3 f3
  obtain ⟨b9, off9, cs, bi, ea9, hbb, hlw, hfr, hbi, hOi, hA, hupd, hset⟩ := hOk.updS hlm
  simp only [Option.some.injEq, Addr.mk.injEq, and_true] at ea9
  obtain ⟨rfl, rfl⟩ := ea9
  obtain ⟨rfl, rfl, h0, h1, h2, h3⟩ := open_Turn hOi.1
  have c0 : w2.cell? ⟨b, off + k * 4, none⟩ = some _ := hA 0 _ rfl
  have f0 : w2.frozen? ⟨b, off + k * 4, none⟩ = false := hfr.frozen _
  have c1 : w2.cell? ⟨b, off + k * 4 + 1, none⟩ = some _ := hA 1 _ rfl
  have f1 : w2.frozen? ⟨b, off + k * 4 + 1, none⟩ = false := hfr.frozen _
  have c2 : w2.cell? ⟨b, off + k * 4 + 2, none⟩ = some _ := hA 2 _ rfl
  have f2 : w2.frozen? ⟨b, off + k * 4 + 2, none⟩ = false := hfr.frozen _
  have c3 : w2.cell? ⟨b, off + k * 4 + 3, none⟩ = some _ := hA 3 _ rfl
  have f3 : w2.frozen? ⟨b, off + k * 4 + 3, none⟩ = false := hfr.frozen _
  have hOk := hset 2 (.string (markText (S + 1 + 1))) { D with Kind := ((S : Nat) : Int), Name := markText (S + 1), To := markText (S + 1 + 1) } (by decide) (by
   show Rep.pt _ _ [_, _, .string (markText (S + 1 + 1)), _] _
   exact mk_Turn (d := { D with Kind := ((S : Nat) : Int), Name := markText (S + 1), To := markText (S + 1 + 1) }) h0 h1 (by exact markText_le (by omega)) h3)
  have HT := hid (HT.out.setCell (p := ⟨b, off + k * 4 + 2, none⟩) hbb (.string (markText (S + 1 + 1))))
  clear hupd hOi hset hA hfr hbi hbb hlw h0 h1 h2 h3
  obtain ⟨b9, off9, cs, bi, ea9, hbb, hlw, hfr, hbi, hOi, hA, hupd, hset⟩ := hOk.updS hlm
  simp only [Option.some.injEq, Addr.mk.injEq, and_true] at ea9
  obtain ⟨rfl, rfl⟩ := ea9
  obtain ⟨rfl, rfl, h0, h1, h2, h3⟩ := open_Turn hOi.1
  have hOk := hset 3 (.int .i64 ((S + 1 + 1 + 1 : Nat) : Int)) { D with Kind := ((S : Nat) : Int), Name := markText (S + 1), To := markText (S + 1 + 1), Id := ((S + 1 + 1 + 1 : Nat) : Int) } (by decide) (by
   show Rep.pt _ _ [_, _, _, .int .i64 ((S + 1 + 1 + 1 : Nat) : Int)] _
   exact mk_Turn (d := { D with Kind := ((S : Nat) : Int), Name := markText (S + 1), To := markText (S + 1 + 1), Id := ((S + 1 + 1 + 1 : Nat) : Int) }) h0 h1 h2 (by show I64 (((S + 1 + 1 + 1 : Nat) : Int)); unfold I64; omega))
  have HT := hid (HT.out.setCell (p := ⟨b, off + k * 4 + 3, none⟩) hbb (.int .i64 ((S + 1 + 1 + 1 : Nat) : Int)))
  have hfin : Mk.mkE S D = { D with Kind := ((S : Nat) : Int), Name := markText (S + 1), To := markText (S + 1 + 1), Id := ((S + 1 + 1 + 1 : Nat) : Int) } := rfl
  rw [← hfin, show ys.set k (Mk.mkE S D) = mkTo Mk.mkE Mk.nE s (k + 1) xs by rw [HD.out, Hys.out, Hsd.out, Hm.out]] at hOk
  have HOk := hid hOk; clear hOk
  try clear hupd hOi hset hA hfr hbi
  go_wp2
  have hO9 := HOk.out; have hT9 := HT.out
  try simp only [Int.natCast_add, Int.natCast_one] at hO9 hT9
  refine ⟨⟨k + 1, by omega, rfl, ?_, hO9, hT9⟩, by simp [intOf]; omega⟩
  have e1 := Hn.out; have e2 := Hsd.out; rw [← HD.out, hnE] at e1; congr 1; omega
theorem heldTurnS {w : World} {bs : List Nat} {a : Option Addr} {len cap : Nat} {xs : List TurnD} (s : Nat) (h : Slc w bs a len cap (Mk.mkE s xs)) (hs : s + Mk.nE xs ≤ topK) :
  Calls Tryz.prog 84 #[.slice a len cap, .int .i64 (s : Int)] w fun e w' => e = .returned (.int .i64 ((s + Mk.nE xs : Nat) : Int)) ∧ Below w.heap.size w w' := by
 have hl : len = xs.length := by rw [h.len_eq]; exact mkL_length _ _ _ _
 subst hl
 have hm := h.max
 unfold topK at hs
 have hs : s + nL Mk.nE xs ≤ 1152921504606846976 := hs
 go_enter Tryz.func84, Tryz.ntmps84
 go_wp2_with fail
 go_loopw [1, 5] (fun q i wr => ∃ k : Nat, k ≤ xs.length ∧ i = .int .i64 k ∧ q = .int .i64 ((s + nL Mk.nE (xs.take k) : Nat) : Int) ∧ Below w.heap.size w wr) (fun _ i _ => xs.length - (intOf i).toNat)
 case atStart => exact ⟨0, Nat.zero_le _, rfl, by simp [nL], Below.refl _ _⟩
 case round =>
  obtain ⟨k, hk, rfl, rfl, hb⟩ := hrel
  have HB := hid hb
  by_cases hlt : k < xs.length
  rotate_left
  ·obtain rfl : k = xs.length := by omega
   clear hb
   go_wp2
   go_ret
   exact ⟨by rw [List.take_length]; rfl, HB.out⟩
  obtain ⟨b, off, cs, bs', rfl, hbw, hp, _, hA⟩ := (h.grow hb).elem k (by show k < (mkL _ _ _ _).length; rw [mkL_length]; exact hlt)
  rw [show (Mk.mkE s xs)[k]'(by show k < (mkL _ _ _ _).length; rw [mkL_length]; exact hlt) = Mk.mkE (s + nL Mk.nE (xs.take k)) xs[k] from mkL_get Mk.mkE Mk.nE s k xs hlt] at hp
  obtain ⟨S, hSd⟩ : ∃ S, S = s + nL Mk.nE (xs.take k) := ⟨_, rfl⟩
  have Hn := hid (nL_take_succ Mk.nE xs k hlt)
  have Hn2 := hid (nL_take_le Mk.nE xs (k + 1))
  rw [← hSd]
  rw [← hSd] at hp
  have Hsd := hid hSd; clear hSd
  obtain ⟨D, hD⟩ : ∃ D, D = xs[k] := ⟨_, rfl⟩
  have HD := hid hD
  have hnE : Mk.nE D = 1 + 1 + 1 + 1 := rfl
  have hbd : S + Mk.nE D ≤ 1152921504606846976 := by have := Hn.out; have := Hn2.out; have := Hsd.out; rw [hD]; omega
  rw [hnE] at hbd
  rw [← hD] at hp
  clear hD
  obtain ⟨rfl, rfl, h0, h1, h2, h3⟩ := open_Turn hp
  have c0 : wr.cell? ⟨b, off + k * 4, none⟩ = some (.int .i64 ((S : Nat) : Int)) := hA 0 _ rfl
  have c1 : wr.cell? ⟨b, off + k * 4 + 1, none⟩ = some (.string (markText (S + 1))) := hA 1 _ rfl
  have c2 : wr.cell? ⟨b, off + k * 4 + 2, none⟩ = some (.string (markText (S + 1 + 1))) := hA 2 _ rfl
  have c3 : wr.cell? ⟨b, off + k * 4 + 3, none⟩ = some (.int .i64 ((S + 1 + 1 + 1 : Nat) : Int)) := hA 3 _ rfl
  clear hA hp hb
  have hM : ∀ w, Calls Tryz.prog 81 #[.int .i64 ((S : Int) + 1)] w fun e w' => e = .returned (.string (markText (S + 1))) ∧ Below w.heap.size w w' := fun w => by
   have := markText_any (S + 1) w (by omega)
   simpa only [Int.natCast_add, Int.natCast_one] using this
  go_wp2_with fail
  go_region_held3 (fun W => Below wr.heap.size wr W ∧ W.cell? ⟨b, off + k * 4 + 1, none⟩ = some (.string (markText (S + 1)))) (first | exact ⟨(Below.refl _ _).drew, c1⟩ | (go_split_ands; exact ⟨Below.trans (by assumption) (Below.mono hb2 (Below.size (by assumption))), keep_cell hb2 (by assumption) (by assumption) hbw⟩)) (first | (go_at_call 81; refine (hM _).mono ?_; rintro e w1 ⟨rfl, hb2⟩))
  have hp : Below wr.heap.size wr w1 := by go_split_ands; assumption
  have HB := hid (HB.out.trans (hp.mono HB.out.size))
  have c0 := (hp.cell (p := ⟨b, off + k * 4, none⟩) hbw).trans c0
  have c1 := (hp.cell (p := ⟨b, off + k * 4 + 1, none⟩) hbw).trans c1
  have c2 := (hp.cell (p := ⟨b, off + k * 4 + 2, none⟩) hbw).trans c2
  have c3 := (hp.cell (p := ⟨b, off + k * 4 + 3, none⟩) hbw).trans c3
  have hbw := Nat.lt_of_lt_of_le hbw hp.size
  clear hp hM
  have hM : ∀ w, Calls Tryz.prog 81 #[.int .i64 ((S : Int) + 1 + 1)] w fun e w' => e = .returned (.string (markText (S + 1 + 1))) ∧ Below w.heap.size w w' := fun w => by
   have := markText_any (S + 1 + 1) w (by omega)
   simpa only [Int.natCast_add, Int.natCast_one] using this
  go_wp2_with fail
  go_region_held3 (fun W => Below w1.heap.size w1 W ∧ W.cell? ⟨b, off + k * 4 + 2, none⟩ = some (.string (markText (S + 1 + 1)))) (first | exact ⟨(Below.refl _ _).drew, c2⟩ | (go_split_ands; exact ⟨Below.trans (by assumption) (Below.mono hb2 (Below.size (by assumption))), keep_cell hb2 (by assumption) (by assumption) hbw⟩)) (first | (go_at_call 81; refine (hM _).mono ?_; rintro e w2 ⟨rfl, hb2⟩))
  have hp : Below w1.heap.size w1 w2 := by go_split_ands; assumption
  have HB := hid (HB.out.trans (hp.mono HB.out.size))
  have c0 := (hp.cell (p := ⟨b, off + k * 4, none⟩) hbw).trans c0
  have c1 := (hp.cell (p := ⟨b, off + k * 4 + 1, none⟩) hbw).trans c1
  have c2 := (hp.cell (p := ⟨b, off + k * 4 + 2, none⟩) hbw).trans c2
  have c3 := (hp.cell (p := ⟨b, off + k * 4 + 3, none⟩) hbw).trans c3
  have hbw := Nat.lt_of_lt_of_le hbw hp.size
  clear hp hM
  go_wp2
  refine ⟨⟨k + 1, by omega, rfl, ?_, HB.out⟩, by simp [intOf]; omega⟩
  have e1 := Hn.out; have e2 := Hsd.out; rw [← HD.out, hnE] at e1; congr 1; omega
theorem markDisk {lo : Nat} {w : World} {d : DiskD} {b3 : List Nat} {a3 : Option Addr} {l3 k3 : Nat} {b4 : List Nat} {a4 : Option Addr} {l4 k4 : Nat} {b5 : List Nat} {a5 : Option Addr} {l5 k5 : Nat} (h3 : Own lo w b3 [.slice a3 l3 k3] d.Nodes) (h4 : Own lo w b4 [.slice a4 l4 k4] d.Kept) (h5 : Own lo w b5 [.slice a5 l5 k5] d.Turns) (e3_4 : ∀ x ∈ b3, x ∉ b4) (e3_5 : ∀ x ∈ b3, x ∉ b5) (e4_5 : ∀ x ∈ b4, x ∉ b5) (s : Nat) (hs : s + d.nkv ≤ topK) :
  Calls Tryz.prog 34 #[.agg #[.int .i64 d.Room, .int .i64 d.Fuse, .int .i64 d.Next, .slice a3 l3 k3, .slice a4 l4 k4, .slice a5 l5 k5], .int .i64 (s : Int)] w fun e w' => e = .returned (.int .i64 ((s + d.nkv : Nat) : Int)) ∧ Own lo w' b3 [.slice a3 l3 k3] (d.mkv s).Nodes ∧ Own lo w' b4 [.slice a4 l4 k4] (d.mkv s).Kept ∧ Own lo w' b5 [.slice a5 l5 k5] (d.mkv s).Turns ∧ Tch (b3 ++ (b4 ++ b5)) w w' := by
 have hs : s + (Mk.nE d.Nodes + Mk.nE d.Kept + Mk.nE d.Turns) ≤ topK := hs
 unfold topK at hs
 have L3 := hid (fun x hx => (h3.lts x hx).2); have H3 := hid h3; clear h3
 have L4 := hid (fun x hx => (h4.lts x hx).2); have H4 := hid h4; clear h4
 have L5 := hid (fun x hx => (h5.lts x hx).2); have H5 := hid h5; clear h5
 have E3_4 := hid e3_4; clear e3_4
 have E3_5 := hid e3_5; clear e3_5
 have E4_5 := hid e4_5; clear e4_5
 have HT : Hid (Tch (b3 ++ (b4 ++ b5)) w w) := hid (Tch.refl _ _)
 go_enter Tryz.func34, Tryz.ntmps34
 go_wp2_with fail
 refine (markNodeS (lo := lo) (Own.alloc H3.out _) (s) (by unfold topK; omega)).mono ?_
 rintro e w1 ⟨rfl, hO3, hT⟩
 have hz1 := hT.size; try simp at hz1
 have H4 := hid (Own.tch (Own.alloc H4.out _) hT (fun x hx hm => E3_4.out x hm hx))
 have H5 := hid (Own.tch (Own.alloc H5.out _) hT (fun x hx hm => E3_5.out x hm hx))
 have hL : ∀ x ∈ b3, x < w.heap.size := fun x hm => L3.out x hm
 have hcc1 := fun o => hT.cell (p := ⟨w.heap.size, o, none⟩) (by simp; try omega) (fun hm => by have := hL _ hm; simp at this)
 have HT := hid ((HT.out.alloc _).trans (hT.mono (by first | (simp +contextual; done) | (intro x hx; simp only [List.mem_append] at hx ⊢; first | (rcases hx with h | h | h <;> simp [h]; done) | (rcases hx with h | h <;> simp [h]; done)))))
 have H3 := hid hO3
 clear hL hT hO3
 go_wp2_with fail
 refine (markLinkS (lo := lo) H4.out (s + Mk.nE d.Nodes) (by unfold topK; omega)).mono ?_
 rintro e w2 ⟨rfl, hO4, hT⟩
 have hz2 := hT.size; try simp at hz2
 have H3 := hid (Own.tch H3.out hT (fun x hx hm => E3_4.out x hx hm))
 have H5 := hid (Own.tch H5.out hT (fun x hx hm => E4_5.out x hm hx))
 have hL : ∀ x ∈ b4, x < w.heap.size := fun x hm => L4.out x hm
 have hcc2 := fun o => hT.cell (p := ⟨w.heap.size, o, none⟩) (by simp; try omega) (fun hm => by have := hL _ hm; simp at this)
 have HT := hid ((HT.out).trans (hT.mono (by first | (simp +contextual; done) | (intro x hx; simp only [List.mem_append] at hx ⊢; first | (rcases hx with h | h | h <;> simp [h]; done) | (rcases hx with h | h <;> simp [h]; done)))))
 have H4 := hid hO4
 clear hL hT hO4
 go_wp2_with fail
 refine (markTurnS (lo := lo) H5.out (s + Mk.nE d.Nodes + Mk.nE d.Kept) (by unfold topK; omega)).mono ?_
 rintro e w3 ⟨rfl, hO5, hT⟩
 have hz3 := hT.size; try simp at hz3
 have H3 := hid (Own.tch H3.out hT (fun x hx hm => E3_5.out x hx hm))
 have H4 := hid (Own.tch H4.out hT (fun x hx hm => E4_5.out x hx hm))
 have hL : ∀ x ∈ b5, x < w.heap.size := fun x hm => L5.out x hm
 have hcc3 := fun o => hT.cell (p := ⟨w.heap.size, o, none⟩) (by simp; try omega) (fun hm => by have := hL _ hm; simp at this)
 have HT := hid ((HT.out).trans (hT.mono (by first | (simp +contextual; done) | (intro x hx; simp only [List.mem_append] at hx ⊢; first | (rcases hx with h | h | h <;> simp [h]; done) | (rcases hx with h | h <;> simp [h]; done)))))
 have H5 := hid hO5
 clear hL hT hO5
 go_wp2
 go_ret
 exact ⟨ret_int (by have e : d.nkv = Mk.nE d.Nodes + Mk.nE d.Kept + Mk.nE d.Turns := rfl; omega), H3.out, H4.out, H5.out, HT.out⟩
theorem heldDisk {w : World} {bs : List Nat} {cs : List Value} {d : DiskD} (s : Nat) (h : Rep.pt w bs cs (d.mkv s)) (hs : s + d.nkv ≤ topK) :
  Calls Tryz.prog 36 #[.agg cs.toArray, .int .i64 (s : Int)] w fun e w' => e = .returned (.int .i64 ((s + d.nkv : Nat) : Int)) ∧ Below w.heap.size w w' := by
 have hs : s + (Mk.nE d.Nodes + Mk.nE d.Kept + Mk.nE d.Turns) ≤ topK := hs
 unfold topK at hs
 obtain ⟨b3, b4, b5, a3, l3, k3, a4, l4, k4, a5, l5, k5, rfl, rfl, h0, h1, h2, h3, h4, h5⟩ := open_Disk h
 go_enter Tryz.func36, Tryz.ntmps36
 have Hb : Hid (Below w.heap.size w w) := hid (Below.refl _ _)
 go_wp2_with fail
 refine (heldNodeS (s) (xs := d.Nodes) (Slc.grow h3 ?_) (by unfold topK; omega)).mono ?_
 ·(repeat (first | refine Below.setCell ?_ (by simp; try omega) _ | refine Below.alloc ?_ (by simp; try omega) _ | exact Below.refl _ _ | exact Hb.out))
 rintro e w1 ⟨rfl, hb⟩
 have hz1 := hb.size
 try simp at hz1
 have hb0 : Below w.heap.size w w1 := by
  refine below_call ?_ hb
  (repeat (first | refine Below.setCell ?_ (by simp; try omega) _ | refine Below.alloc ?_ (by simp; try omega) _ | exact Below.refl _ _ | exact Hb.out))
 obtain ⟨hc1, hf1⟩ := bcell hb
 have Hb := hid hb0
 clear hb hb0
 go_wp2_with fail
 refine (heldLinkS (s + Mk.nE d.Nodes) (xs := d.Kept) (Slc.grow h4 ?_) (by unfold topK; omega)).mono ?_
 ·(repeat (first | refine Below.setCell ?_ (by simp; try omega) _ | refine Below.alloc ?_ (by simp; try omega) _ | exact Below.refl _ _ | exact Hb.out))
 rintro e w2 ⟨rfl, hb⟩
 have hz2 := hb.size
 try simp at hz2
 have hb0 : Below w.heap.size w w2 := by
  refine below_call ?_ hb
  (repeat (first | refine Below.setCell ?_ (by simp; try omega) _ | refine Below.alloc ?_ (by simp; try omega) _ | exact Below.refl _ _ | exact Hb.out))
 obtain ⟨hc2, hf2⟩ := bcell hb
 have Hb := hid hb0
 clear hb hb0
 have hcA2 := fun o => hc2 w.heap.size o (by omega)
 go_wp2_with fail
 refine (heldTurnS (s + Mk.nE d.Nodes + Mk.nE d.Kept) (xs := d.Turns) (Slc.grow h5 ?_) (by unfold topK; omega)).mono ?_
 ·(repeat (first | refine Below.setCell ?_ (by simp; try omega) _ | refine Below.alloc ?_ (by simp; try omega) _ | exact Below.refl _ _ | exact Hb.out))
 rintro e w3 ⟨rfl, hb⟩
 have hz3 := hb.size
 try simp at hz3
 have hb0 : Below w.heap.size w w3 := by
  refine below_call ?_ hb
  (repeat (first | refine Below.setCell ?_ (by simp; try omega) _ | refine Below.alloc ?_ (by simp; try omega) _ | exact Below.refl _ _ | exact Hb.out))
 obtain ⟨hc3, hf3⟩ := bcell hb
 have Hb := hid hb0
 clear hb hb0
 have hcA3 := fun o => hc3 w.heap.size o (by omega)
 go_wp2
 go_ret
 exact ⟨ret_int (by have e : d.nkv = Mk.nE d.Nodes + Mk.nE d.Kept + Mk.nE d.Turns := rfl; omega), Hb.out⟩
theorem markStore {lo : Nat} {w : World} {d : StoreD} {b3 : List Nat} {a3 : Option Addr} {l3 k3 : Nat} {b4 : List Nat} {a4 : Option Addr} {l4 k4 : Nat} {b5 : List Nat} {a5 : Option Addr} {l5 k5 : Nat} {b8 : List Nat} {a8 : Option Addr} {l8 k8 : Nat} (h3 : Own lo w b3 [.slice a3 l3 k3] d.Disk.Nodes) (h4 : Own lo w b4 [.slice a4 l4 k4] d.Disk.Kept) (h5 : Own lo w b5 [.slice a5 l5 k5] d.Disk.Turns) (h8 : Own lo w b8 [.slice a8 l8 k8] d.Ents) (e3_4 : ∀ x ∈ b3, x ∉ b4) (e3_5 : ∀ x ∈ b3, x ∉ b5) (e3_8 : ∀ x ∈ b3, x ∉ b8) (e4_5 : ∀ x ∈ b4, x ∉ b5) (e4_8 : ∀ x ∈ b4, x ∉ b8) (e5_8 : ∀ x ∈ b5, x ∉ b8) (s : Nat) (hs : s + d.nkv ≤ topK) :
  Calls Tryz.prog 10 #[.agg #[.int .i64 d.Disk.Room, .int .i64 d.Disk.Fuse, .int .i64 d.Disk.Next, .slice a3 l3 k3, .slice a4 l4 k4, .slice a5 l5 k5, .int .i64 d.Keep, .int .i64 d.Size, .slice a8 l8 k8, .int .i64 d.Len], .int .i64 (s : Int)] w fun e w' => e = .returned (.int .i64 ((s + d.nkv : Nat) : Int)) ∧ Own lo w' b3 [.slice a3 l3 k3] (d.mkv s).Disk.Nodes ∧ Own lo w' b4 [.slice a4 l4 k4] (d.mkv s).Disk.Kept ∧ Own lo w' b5 [.slice a5 l5 k5] (d.mkv s).Disk.Turns ∧ Own lo w' b8 [.slice a8 l8 k8] (d.mkv s).Ents ∧ Tch (b3 ++ (b4 ++ (b5 ++ b8))) w w' := by
 have hs : s + (d.Disk.nkv + Mk.nE d.Ents) ≤ topK := hs
 unfold topK at hs
 have L3 := hid (fun x hx => (h3.lts x hx).2); have H3 := hid h3; clear h3
 have L4 := hid (fun x hx => (h4.lts x hx).2); have H4 := hid h4; clear h4
 have L5 := hid (fun x hx => (h5.lts x hx).2); have H5 := hid h5; clear h5
 have L8 := hid (fun x hx => (h8.lts x hx).2); have H8 := hid h8; clear h8
 have E3_4 := hid e3_4; clear e3_4
 have E3_5 := hid e3_5; clear e3_5
 have E3_8 := hid e3_8; clear e3_8
 have E4_5 := hid e4_5; clear e4_5
 have E4_8 := hid e4_8; clear e4_8
 have E5_8 := hid e5_8; clear e5_8
 have HT : Hid (Tch (b3 ++ (b4 ++ (b5 ++ b8))) w w) := hid (Tch.refl _ _)
 go_enter Tryz.func10, Tryz.ntmps10
 go_wp2_with fail
 refine (markDisk (lo := lo) (d := d.Disk) (Own.alloc H3.out _) (Own.alloc H4.out _) (Own.alloc H5.out _) E3_4.out E3_5.out E4_5.out (s) (by unfold topK; omega)).mono ?_
 rintro e w1 ⟨rfl, hO3, hO4, hO5, hT⟩
 have hz1 := hT.size; try simp at hz1
 have H8 := hid (Own.tch (Own.alloc H8.out _) hT (fun x hx hm => (List.mem_append.1 hm).elim (fun hm => E3_8.out x hm hx) (fun hm => (List.mem_append.1 hm).elim (fun hm => E4_8.out x hm hx) (fun hm => E5_8.out x hm hx))))
 have hL : ∀ x ∈ b3 ++ (b4 ++ b5), x < w.heap.size := fun x hm => (List.mem_append.1 hm).elim (fun hm => L3.out x hm) (fun hm => (List.mem_append.1 hm).elim (fun hm => L4.out x hm) (fun hm => L5.out x hm))
 have hcc1 := fun o => hT.cell (p := ⟨w.heap.size, o, none⟩) (by simp; try omega) (fun hm => by have := hL _ hm; simp at this)
 have HT := hid ((HT.out.alloc _).trans (hT.mono (by first | (simp +contextual; done) | (intro x hx; simp only [List.mem_append] at hx ⊢; first | (rcases hx with h | h | h <;> simp [h]; done) | (rcases hx with h | h <;> simp [h]; done)))))
 have H3 := hid hO3
 have H4 := hid hO4
 have H5 := hid hO5
 clear hL hT hO3 hO4 hO5
 go_wp2_with fail
 refine (markEntryS (lo := lo) H8.out (s + d.Disk.nkv) (by unfold topK; omega)).mono ?_
 rintro e w2 ⟨rfl, hO8, hT⟩
 have hz2 := hT.size; try simp at hz2
 have H3 := hid (Own.tch H3.out hT (fun x hx hm => E3_8.out x hx hm))
 have H4 := hid (Own.tch H4.out hT (fun x hx hm => E4_8.out x hx hm))
 have H5 := hid (Own.tch H5.out hT (fun x hx hm => E5_8.out x hx hm))
 have hL : ∀ x ∈ b8, x < w.heap.size := fun x hm => L8.out x hm
 have hcc2 := fun o => hT.cell (p := ⟨w.heap.size, o, none⟩) (by simp; try omega) (fun hm => by have := hL _ hm; simp at this)
 have HT := hid ((HT.out).trans (hT.mono (by first | (simp +contextual; done) | (intro x hx; simp only [List.mem_append] at hx ⊢; first | (rcases hx with h | h | h <;> simp [h]; done) | (rcases hx with h | h <;> simp [h]; done)))))
 have H8 := hid hO8
 clear hL hT hO8
 go_wp2
 go_ret
 exact ⟨ret_int (by have e : d.nkv = d.Disk.nkv + Mk.nE d.Ents := rfl; omega), H3.out, H4.out, H5.out, H8.out, HT.out⟩
theorem heldStore {w : World} {bs : List Nat} {cs : List Value} {d : StoreD} (s : Nat) (h : Rep.pt w bs cs (d.mkv s)) (hs : s + d.nkv ≤ topK) :
  Calls Tryz.prog 11 #[.agg cs.toArray, .int .i64 (s : Int)] w fun e w' => e = .returned (.int .i64 ((s + d.nkv : Nat) : Int)) ∧ Below w.heap.size w w' := by
 have hs : s + (d.Disk.nkv + Mk.nE d.Ents) ≤ topK := hs
 unfold topK at hs
 obtain ⟨b3, b4, b5, b8, a3, l3, k3, a4, l4, k4, a5, l5, k5, a8, l8, k8, rfl, rfl, h0, h1, h2, h3, h4, h5, h6, h7, h8, h9⟩ := open_Store h
 go_enter Tryz.func11, Tryz.ntmps11
 have Hb : Hid (Below w.heap.size w w) := hid (Below.refl _ _)
 go_wp2_with fail
 refine (heldDisk (d := d.Disk) (s) (grow (mk_Disk (d := d.Disk.mkv (s)) h0 h1 h2 h3 h4 h5) ?_) (by unfold topK; omega)).mono ?_
 ·(repeat (first | refine Below.setCell ?_ (by simp; try omega) _ | refine Below.alloc ?_ (by simp; try omega) _ | exact Below.refl _ _ | exact Hb.out))
 rintro e w1 ⟨rfl, hb⟩
 have hz1 := hb.size
 try simp at hz1
 have hb0 : Below w.heap.size w w1 := by
  refine below_call ?_ hb
  (repeat (first | refine Below.setCell ?_ (by simp; try omega) _ | refine Below.alloc ?_ (by simp; try omega) _ | exact Below.refl _ _ | exact Hb.out))
 obtain ⟨hc1, hf1⟩ := bcell hb
 have Hb := hid hb0
 clear hb hb0
 go_wp2_with fail
 refine (heldEntryS (s + d.Disk.nkv) (xs := d.Ents) (Slc.grow h8 ?_) (by unfold topK; omega)).mono ?_
 ·(repeat (first | refine Below.setCell ?_ (by simp; try omega) _ | refine Below.alloc ?_ (by simp; try omega) _ | exact Below.refl _ _ | exact Hb.out))
 rintro e w2 ⟨rfl, hb⟩
 have hz2 := hb.size
 try simp at hz2
 have hb0 : Below w.heap.size w w2 := by
  refine below_call ?_ hb
  (repeat (first | refine Below.setCell ?_ (by simp; try omega) _ | refine Below.alloc ?_ (by simp; try omega) _ | exact Below.refl _ _ | exact Hb.out))
 obtain ⟨hc2, hf2⟩ := bcell hb
 have Hb := hid hb0
 clear hb hb0
 have hcA2 := fun o => hc2 w.heap.size o (by omega)
 go_wp2
 go_ret
 exact ⟨ret_int (by have e : d.nkv = d.Disk.nkv + Mk.nE d.Ents := rfl; omega), Hb.out⟩
end Go.Proofs.YtdjcjilipgpnmaaGreat
