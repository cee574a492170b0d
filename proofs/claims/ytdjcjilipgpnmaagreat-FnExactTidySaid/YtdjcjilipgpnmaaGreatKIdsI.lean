/- The links have just the nodes, as the program tests it. -/
import Derived.Test.YtdjcjilipgpnmaaGreatKIdsD
set_option linter.unusedSimpArgs false
set_option linter.unusedVariables false
namespace Go.G6
open Go Go.RowKit Rep
theorem own_keep {P : Program} {K : TypeId} {R : Value → Option (DataW Unit × List MemPlace)} {w w' : World} {b n : Nat} {D : DataW Unit} (h : w.ownsMap P K R b n D) (hk : w'.heap[b]? = w.heap[b]?) : w'.ownsMap P K R b n D := by
 obtain ⟨es, c, hb, r⟩ := h
 exact ⟨es, c, hk.trans hb, r⟩
end Go.G6
namespace Go.Proofs.YtdjcjilipgpnmaaGreat
open Go Go.RowKit Go.G6
set_option maxHeartbeats 3000000
set_option maxRecDepth 10000
theorem i_idsFit {w : World} {bs : List Nat} {cs : List Value} {d : DiskD} (h : Rep.pt w bs cs d) (hk : d.Kept.length ≤ 1000) (ht : d.Turns.length ≤ 1000) :
  Calls Tryz.prog 106 #[.agg cs.toArray] w fun e w' => e = .returned (.bool (idsFitI d)) ∧ Below w.heap.size w w' := by
 obtain ⟨b3, b4, b5, a3, l3, k3, a4, l4, k4, a5, l5, k5, rfl, hcs, h0, h1, h2, h3, h4, h5⟩ := open_Disk h
 obtain rfl := h3.len_eq
 obtain rfl := h4.len_eq
 obtain rfl := h5.len_eq
 have m3 := h3.max; have m4 := h4.max; have m5 := h5.max
 have H3 := hid h3; have H4 := hid h4; have H5 := hid h5
 have HK := hid hk; have HT := hid ht
 have hmm := @run_makeMap Tryz.prog
 have HX := hid (Bx.alloc (Bx.new w cs.toArray 35 rfl) (by simp) (.map #[] 0))
 have M0 := hid (show SetF Tryz.prog 3 3 ((w.alloc (.cells cs.toArray 35)).alloc (.map #[] 0)) (w.heap.size + 1) 0 [] from ⟨_, by have := World.ownsMap_made (H := Unit) (w.alloc (.cells cs.toArray 35)) Tryz.prog 3 (plainElem Tryz.prog 3); simpa using this, seen_nil⟩)
 have hb0 := hid (((Below.refl w.heap.size w).alloc (Nat.le_refl _) (.cells cs.toArray 35)).alloc (by simp) (.map #[] 0))
 have C3 := hid (show cs[3]? = some (.slice a3 d.Nodes.length k3) by rw [hcs]; rfl)
 have C4 := hid (show cs[4]? = some (.slice a4 d.Kept.length k4) by rw [hcs]; rfl)
 have C5 := hid (show cs[5]? = some (.slice a5 d.Turns.length k5) by rw [hcs]; rfl)
 clear h h0 h1 h2 h3 h4 h5 hcs
 obtain ⟨wA, hwA⟩ : ∃ wA, wA = (w.alloc (.cells cs.toArray 35)).alloc (.map #[] 0) := ⟨_, rfl⟩
 rw [← hwA] at hb0 HX M0
 have x4 := bx_at HX.out 4 C4.out
 go_enter Tryz.func106, Tryz.ntmps106
 go_upto_region 2 with fail
 rw [← hwA]
 clear hwA
 go_wp2_with fail
 go_loopw [4, 15] (fun c i wr => ∃ k : Nat, k ≤ d.Kept.length ∧ c = .int .i64 (k : Int) ∧ i = .int .i64 (k : Int) ∧ SetF Tryz.prog 3 3 wr (w.heap.size + 1) k (uniq (idKept (d.Kept.take k))) ∧ Below w.heap.size w wr ∧ Hid (Bx wr w.heap.size cs.toArray)) (fun _ i _ => d.Kept.length - (intOf i).toNat)
 case atStart => exact ⟨0, Nat.zero_le _, rfl, rfl, M0.out, hb0.out, HX⟩
 case round =>
  clear M0 hb0 HX x4
  obtain ⟨k, hk1, rfl, rfl, hM, hb, HX⟩ := hrel
  by_cases hlt : k < d.Kept.length
  ·obtain ⟨b1, o1, cs1, _, rfl, _, hp1, _, hA1⟩ := (H4.out.grow hb).elem k hlt
   obtain ⟨_, rfl, q1, q2⟩ := open_Link hp1
   have c0 : wr.cell? ⟨b1, o1 + k * 2, none⟩ = some _ := hA1 0 _ rfl
   have c1 : wr.cell? ⟨b1, o1 + k * 2 + 1, none⟩ = some _ := hA1 1 _ rfl
   have hki : (k : Int) < (d.Kept.length : Int) := by omega
   have hst := idKept_step hlt
   obtain ⟨x, hx⟩ : ∃ x, x = d.Kept[k] := ⟨_, rfl⟩
   rw [← hx] at hst c0 c1 q1 q2
   have HST := hid (show uniq (idKept (d.Kept.take (k + 1))) = insI (uniq (idKept (d.Kept.take k))) x.Id by rw [hst, uniq_snoc])
   have Q2 := hid q2
   have HM := hid hM; have HB := hid hb
   clear hp1 hA1 hx hb hst hM q1
   go_upto_region 6 with fail
   refine late_genw (fun wq hwq => ?_)
   have hbq : Below wr.heap.size wr wq := by rw [hwq]; first | exact (Below.refl _ _).alloc (Nat.le_refl _) _ | exact Below.setCells _ (Nat.le_refl _) _ _ ((Below.refl _ _).alloc (Nat.le_refl _) _)
   have XQ := hid (show Bx wq wr.heap.size #[.string x.Name, .int .i64 x.Id] by rw [hwq]; exact Bx.new _ _ _ rfl)
   have HBq := hid (HB.out.trans (hbq.mono HB.out.size))
   obtain ⟨D, hown, hD⟩ := HM.out.keep (hbq.block _ HM.out.lt)
   have HO := hid hown; have HD := hid hD
   have e0 := bx_at XQ.out 0 rfl
   have e1 := bx_at XQ.out 1 rfl
   have HXq := hid (Bx.below hbq HX.out.f.lt HX.out)
   clear hwq hbq hown hD c0 c1
   go_wp2_with (first | (at_mapUpdate; refine wpList_mapUpdate_in _ rfl _ _ _ 145 rfl 3 3 keyI Tryz.underlying145 _ (w.heap.size + 1) (k) _ rfl HO.out (by have := HK.out; have := HT.out; unfold maxLen; omega) _ _ _ rfl rfl (key_int Q2.out) _ [] (plainElem_int Tryz.underlying3 (by decide)) ?_; intro w1 hown1 hturn1))
   have HO1 := hid hown1
   have HB1 := hid (HBq.out.trans ((tch_grown hturn1.grown).below HBq.out.size (by simp)))
   have HX1 := hid (HXq.out.keep (hturn1.grown.block _ HXq.out.f.lt (by simp)))
   clear hown1 hturn1
   go_wp2
   exact ⟨⟨k + 1, by omega, by go_num, by go_num, ⟨_, HO1.out, by rw [HST.out]; exact HD.out.put (HO.out.tidy keyI) x.Id⟩, HB1.out, HX1⟩, by simp [intOf]; try omega⟩
  ·obtain rfl : k = d.Kept.length := by omega
   have hki : ¬ (d.Kept.length : Int) < (d.Kept.length : Int) := by omega
   have HM := hid (show SetF Tryz.prog 3 3 wr (w.heap.size + 1) d.Kept.length (uniq (idKept d.Kept)) by rw [List.take_length] at hM; exact hM)
   have HB := hid hb
   have x5 := bx_at HX.out 5 C5.out
   clear hM hb
   go_wp2_with fail
   go_loopw [4, 28] (fun c i wr => ∃ k : Nat, k ≤ d.Turns.length ∧ c = .int .i64 ((idKept d.Kept ++ idTurns (d.Turns.take k)).length : Int) ∧ i = .int .i64 (k : Int) ∧ SetF Tryz.prog 3 3 wr (w.heap.size + 1) (d.Kept.length + k) (uniq (idKept d.Kept ++ idTurns (d.Turns.take k))) ∧ Below w.heap.size w wr ∧ Hid (Bx wr w.heap.size cs.toArray)) (fun _ i _ => d.Turns.length - (intOf i).toNat)
   case atStart => exact ⟨0, Nat.zero_le _, by simp [idTurns, idKept], rfl, by have := HM.out; simpa [idTurns] using this, HB.out, HX⟩
   case round =>
    clear HM HB HX x5
    obtain ⟨k, hk1, rfl, rfl, hM, hb, HX⟩ := hrel
    by_cases hlt : k < d.Turns.length
    ·obtain ⟨b1, o1, cs1, _, rfl, _, hp1, _, hA1⟩ := (H5.out.grow hb).elem k hlt
     obtain ⟨_, rfl, q1, q2, q3, q4⟩ := open_Turn hp1
     have c0 : wr.cell? ⟨b1, o1 + k * 4, none⟩ = some _ := hA1 0 _ rfl
     have c1 : wr.cell? ⟨b1, o1 + k * 4 + 1, none⟩ = some _ := hA1 1 _ rfl
     have c2 : wr.cell? ⟨b1, o1 + k * 4 + 2, none⟩ = some _ := hA1 2 _ rfl
     have c3 : wr.cell? ⟨b1, o1 + k * 4 + 3, none⟩ = some _ := hA1 3 _ rfl
     have hki : (k : Int) < (d.Turns.length : Int) := by omega
     have hst := idTurns_step hlt
     have hl1 := idTurns_len (d.Turns.take k)
     obtain ⟨x, hx⟩ : ∃ x, x = d.Turns[k] := ⟨_, rfl⟩
     rw [← hx] at hst c0 c1 c2 c3 q1 q4
     have HST := hid hst
     have Q4 := hid q4
     have HM := hid hM; have HB := hid hb
     have HLL := hid (show (idKept d.Kept ++ idTurns (d.Turns.take k)).length ≤ 2000 from by
      have h1 : (idKept d.Kept).length = d.Kept.length := by simp [idKept]
      rw [List.length_append, h1]
      rw [List.length_take] at hl1
      omega)
     obtain ⟨L, hL⟩ : ∃ L, L = idKept d.Kept ++ idTurns (d.Turns.take k) := ⟨_, rfl⟩
     rw [← hL] at HM HLL
     rw [← hL]
     have HL := hid hL
     clear hp1 hA1 hx hb hst hM q1 q2 q3 hl1 hL
     by_cases hkd : x.Kind = 1
     ·have HS := hid (show idKept d.Kept ++ idTurns (d.Turns.take (k + 1)) = L ++ [x.Id] by rw [HST.out, if_pos hkd, HL.out, List.append_assoc])
      go_upto_region 13 with fail
      refine late_genw (fun wq hwq => ?_)
      have hbq : Below wr.heap.size wr wq := by rw [hwq]; first | exact (Below.refl _ _).alloc (Nat.le_refl _) _ | exact Below.setCells _ (Nat.le_refl _) _ _ ((Below.refl _ _).alloc (Nat.le_refl _) _)
      have XQ := hid (show Bx wq wr.heap.size #[.int .i64 1, .string x.Name, .string x.To, .int .i64 x.Id] by rw [hwq]; exact Bx.new _ _ _ rfl)
      have HBq := hid (HB.out.trans (hbq.mono HB.out.size))
      obtain ⟨D, hown, hD⟩ := HM.out.keep (hbq.block _ HM.out.lt)
      have HO := hid hown; have HD := hid hD
      have e0 := XQ.out.out
      have hw1 : wrap64 ((L.length : Int) + 1) = ((L ++ [x.Id]).length : Int) := by rw [IntWalk.wrap64_in _ (by have := HLL.out; omega)]; simp
      have HXq := hid (Bx.below hbq HX.out.f.lt HX.out)
      clear hwq hbq hown hD c0 c1 c2 c3
      go_wp2_with (first | (at_mapUpdate; refine wpList_mapUpdate_in _ rfl _ _ _ 145 rfl 3 3 keyI Tryz.underlying145 _ (w.heap.size + 1) (d.Kept.length + k) _ rfl HO.out (by have := HK.out; have := HT.out; unfold maxLen; omega) _ _ _ rfl rfl (key_int Q4.out) _ [] (plainElem_int Tryz.underlying3 (by decide)) ?_; intro w1 hown1 hturn1))
      have HO1 := hid hown1
      have HB1 := hid (HBq.out.trans ((tch_grown hturn1.grown).below HBq.out.size (by simp)))
      have HX1 := hid (HXq.out.keep (hturn1.grown.block _ HXq.out.f.lt (by simp)))
      clear hown1 hturn1
      go_wp2
      exact ⟨⟨k + 1, by omega, by rw [HS.out]; (try rw [hw1]), by go_num, ⟨_, HO1.out, by rw [HS.out, uniq_snoc]; exact HD.out.put (HO.out.tidy keyI) x.Id⟩, HB1.out, HX1⟩, by simp [intOf]; try omega⟩
     ·have HS := hid (show idKept d.Kept ++ idTurns (d.Turns.take (k + 1)) = L by rw [HST.out, if_neg hkd, HL.out])
      go_upto_region 12 with fail
      refine late_genw (fun wq hwq => ?_)
      have hbq : Below wr.heap.size wr wq := by rw [hwq]; first | exact (Below.refl _ _).alloc (Nat.le_refl _) _ | exact Below.setCells _ (Nat.le_refl _) _ _ ((Below.refl _ _).alloc (Nat.le_refl _) _)
      have XQ := hid (show Bx wq wr.heap.size #[.int .i64 x.Kind, .string x.Name, .string x.To, .int .i64 x.Id] by rw [hwq]; exact Bx.new _ _ _ rfl)
      have HBq := hid (HB.out.trans (hbq.mono HB.out.size))
      obtain ⟨D, hown, hD⟩ := HM.out.keep (hbq.block _ HM.out.lt)
      have HO := hid hown; have HD := hid hD
      have e0 := XQ.out.out
      have HXq := hid (Bx.below hbq HX.out.f.lt HX.out)
      clear hwq hbq hown hD c0 c1 c2 c3
      go_wp2
      exact ⟨⟨k + 1, by omega, by rw [HS.out], by go_num, ⟨_, HO.out.mono (Nat.le_succ _), by rw [HS.out]; exact HD.out⟩, HBq.out, HXq⟩, by simp [intOf]; try omega⟩
    ·obtain rfl : k = d.Turns.length := by omega
     have hki : ¬ (d.Turns.length : Int) < (d.Turns.length : Int) := by omega
     rw [List.take_length] at hM ⊢
     have HM := hid (show SetF Tryz.prog 3 3 wr (w.heap.size + 1) (d.Kept.length + d.Turns.length) (uniq (diskIds d)) from hM)
     have HB := hid hb
     obtain ⟨D, hown, hD⟩ := HM.out
     have HO := hid hown; have HD := hid hD
     have x3 := bx_at HX.out 3 C3.out
     obtain ⟨L, hL⟩ : ∃ L, L = diskIds d := ⟨_, rfl⟩
     rw [show idKept d.Kept ++ idTurns d.Turns = L from hL.symm]
     have HL := hid hL
     have hsz := hD.s
     rw [← hL] at hsz
     clear hM hb HM hown hD hL
     by_cases e1 : (uniq L).length = L.length
     rotate_left
     ·have E := hid (show idsFitI d = false by unfold idsFitI; rw [← HL.out, decide_eq_false e1]; rfl)
      have n1 : (((uniq L).length : Int) == (L.length : Int)) = false := by rw [beq_eq_false_iff_ne]; omega
      have n1' : ¬ ((uniq L).length : Int) = (L.length : Int) := by omega
      go_wp2_with (first | (at_len; refine wpList_len_own _ rfl _ 145 rfl 3 3 Tryz.underlying145 _ (w.heap.size + 1) _ D rfl HO.out ?_; rw [hsz]))
      go_ret
      exact ⟨ret_bool (by rw [E.out]), HB.out⟩
     have n1 : (((uniq L).length : Int) == (L.length : Int)) = true := by rw [beq_iff_eq]; omega
     have n1' : ((uniq L).length : Int) = (L.length : Int) := by omega
     by_cases e2 : L.length = d.Nodes.length
     rotate_left
     ·have E := hid (show idsFitI d = false by unfold idsFitI; rw [← HL.out, decide_eq_false e2]; simp)
      have n2 : ((L.length : Int) == (d.Nodes.length : Int)) = false := by rw [beq_eq_false_iff_ne]; omega
      have n2' : ¬ (L.length : Int) = (d.Nodes.length : Int) := by omega
      go_wp2_with (first | (at_len; refine wpList_len_own _ rfl _ 145 rfl 3 3 Tryz.underlying145 _ (w.heap.size + 1) _ D rfl HO.out ?_; rw [hsz]))
      go_ret
      exact ⟨ret_bool (by rw [E.out]), HB.out⟩
     have n2 : ((L.length : Int) == (d.Nodes.length : Int)) = true := by rw [beq_iff_eq]; omega
     have n2' : (L.length : Int) = (d.Nodes.length : Int) := by omega
     have E0 := hid (show idsFitI d = d.Nodes.all (fun n => hasI (uniq L) n.Id) by unfold idsFitI; rw [← HL.out, decide_eq_true e1, decide_eq_true e2]; simp)
     go_wp2_with (first | (at_len; refine wpList_len_own _ rfl _ 145 rfl 3 3 Tryz.underlying145 _ (w.heap.size + 1) _ D rfl HO.out ?_; rw [hsz]))
     obtain ⟨N, hN⟩ : ∃ N, N = d.Kept.length + d.Turns.length := ⟨_, rfl⟩
     rw [← hN] at HO
     clear hN
     go_loopw [55] (fun i wr => ∃ k : Nat, k ≤ d.Nodes.length ∧ i = .int .i64 (k : Int) ∧ Hid (idsFitI d = (d.Nodes.drop k).all (fun n => hasI (uniq L) n.Id)) ∧ Below w.heap.size w wr ∧ Hid (wr.ownsMap (H := Unit) Tryz.prog 3 (plainElem Tryz.prog 3) (w.heap.size + 1) N D)) (fun i _ => d.Nodes.length - (intOf i).toNat)
     case atStart => exact ⟨0, Nat.zero_le _, rfl, E0, HB.out, HO⟩
     case round =>
      clear HB HO HX x3 E0
      obtain ⟨k, hk1, rfl, HR, hb, HO⟩ := hrel
      by_cases hlt : k < d.Nodes.length
      ·obtain ⟨b1, o1, cs1, _, rfl, _, hp1, _, hA1⟩ := (H3.out.grow hb).elem k hlt
       obtain ⟨y1, y2, e1, n1, f1, e2, n2, f2, rfl, rfl, q1, q2, q3⟩ := open_Node hp1
       have c0 : wr.cell? ⟨b1, o1 + k * 3, none⟩ = some _ := hA1 0 _ rfl
       have c1 : wr.cell? ⟨b1, o1 + k * 3 + 1, none⟩ = some _ := hA1 1 _ rfl
       have c2 : wr.cell? ⟨b1, o1 + k * 3 + 2, none⟩ = some _ := hA1 2 _ rfl
       have hki : (k : Int) < (d.Nodes.length : Int) := by omega
       have hst : (d.Nodes.drop k).all (fun n => hasI (uniq L) n.Id) = (hasI (uniq L) d.Nodes[k].Id && (d.Nodes.drop (k + 1)).all (fun n => hasI (uniq L) n.Id)) := by
        rw [List.drop_eq_getElem_cons hlt]; rfl
       obtain ⟨x, hx⟩ : ∃ x, x = d.Nodes[k].Id := ⟨_, rfl⟩
       rw [← hx] at hst c0 q1
       have HST := hid hst; have Q1 := hid q1; have HB := hid hb
       have HAT := hid (show D.atKey (kI x) (i6 0) = i6 (if hasI (uniq L) x = true then 1 else 0) by rw [HL.out]; exact HD.out.a x)
       clear hp1 hA1 hx hb hst q1 q2 q3
       have HOq := hid (HO.out.alloc (.cells #[.int .i64 x, .slice e1 n1 f1, .slice e2 n2 f2] 104))
       have HBq := hid (HB.out.alloc HB.out.size (.cells #[.int .i64 x, .slice e1 n1 f1, .slice e2 n2 f2] 104))
       cases hh : hasI (uniq L) x
       ·have E := hid (show idsFitI d = false by rw [HR.out, HST.out, hh]; rfl)
        rw [hh] at HAT; simp only [if_true, if_false, Bool.false_eq_true, ↓reduceIte] at HAT
        go_wp2_with (first | (at_lookup; refine wpList_lookup_own_int _ rfl _ _ 145 rfl 3 3 .i64 keyI Tryz.underlying145 Tryz.underlying3 (zeroI _) (w.heap.size + 1) _ D rfl HOq.out _ _ rfl (key_int Q1.out) ?_; intro c hat hwc; obtain rfl := i6_inj ((HAT.out).symm.trans hat)))
        go_ret
        exact ⟨ret_bool (by rw [E.out]), HBq.out⟩
       ·have E := hid (show idsFitI d = (d.Nodes.drop (k + 1)).all (fun n => hasI (uniq L) n.Id) by rw [HR.out, HST.out, hh]; rfl)
        rw [hh] at HAT; simp only [if_true, if_false, Bool.false_eq_true, ↓reduceIte] at HAT
        go_wp2_with (first | (at_lookup; refine wpList_lookup_own_int _ rfl _ _ 145 rfl 3 3 .i64 keyI Tryz.underlying145 Tryz.underlying3 (zeroI _) (w.heap.size + 1) _ D rfl HOq.out _ _ rfl (key_int Q1.out) ?_; intro c hat hwc; obtain rfl := i6_inj ((HAT.out).symm.trans hat)))
        exact ⟨⟨k + 1, by omega, by go_num, E, HBq.out, HOq⟩, by simp [intOf]; try omega⟩
      ·obtain rfl : k = d.Nodes.length := by omega
       have hki : ¬ (d.Nodes.length : Int) < (d.Nodes.length : Int) := by omega
       have E := hid (show idsFitI d = true by rw [HR.out, List.drop_length]; rfl)
       have HB := hid hb
       clear hb
       go_wp2
       go_ret
       exact ⟨ret_bool (by rw [E.out]), HB.out⟩
end Go.Proofs.YtdjcjilipgpnmaaGreat
