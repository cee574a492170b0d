/- Only the nodes that a directory links are kept, as the program does it. -/
import Derived.Test.YtdjcjilipgpnmaaGreatPCpyI
import Derived.Test.YtdjcjilipgpnmaaGreatKAddD
set_option linter.unusedSimpArgs false
set_option linter.unusedVariables false
namespace Go.G6
open Go Go.RowKit Rep
theorem hasI_uniq (l : List Int) (n : Int) : hasI (uniq l) n = hasI l n := by
 rw [Bool.eq_iff_iff, hasI_iff, hasI_iff, uniq_mem]
def onlyD (d : DiskD) (kept : List LinkD) : DiskD := { d with Nodes := d.Nodes.filter fun x => hasI (idKept kept) x.Id, Kept := kept, Turns := [] }
end Go.G6
namespace Go.Proofs.YtdjcjilipgpnmaaGreat
open Go Go.RowKit Go.G6
set_option maxHeartbeats 6000000
set_option maxRecDepth 10000
theorem i_only {w : World} {Bs lo : Nat} {d : DiskD} {v3 v4 v5 : Value} {pK : Option Addr} {cK : Nat} {B3 B4 B5 BK : List Nat} {kept : List LinkD} (hX : Bx w Bs (dskC d v3 v4 v5).toArray) (hF : DiskF 104 127 106 5 lo w d v3 v4 v5 B3 B4 B5)
  (hK : OwnL lo w 127 (.slice pK kept.length cK) BK kept) (hB3 : Bs ∉ B3) (hBK : Bs ∉ BK) (hd : ∀ b ∈ B3, b ∉ BK) (hlo : lo ≤ w.heap.size) (hn : d.Nodes.length ≤ 8) (hk : kept.length ≤ 1000) :
  Calls Tryz.prog 72 #[.pointer (some ⟨Bs, 0, none⟩), .slice pK kept.length cK] w fun e w' => e = .returned (.tuple #[]) ∧ ∃ vN BN, Bx w' Bs (dskC (onlyD d kept) vN (.slice pK kept.length cK) (.slice none 0 0)).toArray ∧
   DiskF 104 127 106 5 lo w' (onlyD d kept) vN (.slice pK kept.length cK) (.slice none 0 0) BN BK [] ∧ (∀ b ∈ BN, b ∈ B3 ∨ w.heap.size ≤ b) ∧ Tch [Bs] w w' := by
 obtain ⟨i1, hi1, hz01, hz11, hz21⟩ := info_parts info_NodeF
 obtain ⟨p3, c3, rfl⟩ := hF.n.slice
 rw [List.length_map] at hX hF
 obtain ⟨bsk, _, hS4⟩ := hK.slcL
 have m3 : d.Nodes.length ≤ 9223372036854775807 := by omega
 have m4 : kept.length ≤ 9223372036854775807 := by omega
 have HX := hid hX; have HF := hid hF; have HKK := hid hK; have H4 := hid hS4
 have NB3 := hid hB3; have NBK := hid hBK; have HDD := hid hd; have HN := hid hn; have HK := hid hk; have HLO := hid hlo
 have hmm := @run_makeMap Tryz.prog
 have M0 := hid (show SetF Tryz.prog 3 3 (w.alloc (.map #[] 0)) w.heap.size 0 [] from ⟨_, World.ownsMap_made _ _ _ _, seen_nil⟩)
 have hb0 := hid ((Below.refl w.heap.size w).alloc (Nat.le_refl _) (.map #[] 0))
 clear hX hF hK hS4 hB3 hBK hd hlo hn hk
 go_enter Tryz.func72, Tryz.ntmps72
 go_wp2_with fail
 go_loopw [13] (fun i wr => ∃ k : Nat, k ≤ kept.length ∧ i = .int .i64 (k : Int) ∧ SetF Tryz.prog 3 3 wr w.heap.size k (uniq (idKept (kept.take k))) ∧ Below w.heap.size w wr) (fun i _ => kept.length - (intOf i).toNat)
 case atStart => exact ⟨0, Nat.zero_le _, rfl, M0.out, hb0.out⟩
 case round =>
  clear M0 hb0
  obtain ⟨k, hk1, rfl, hM, hb⟩ := hrel
  by_cases hlt : k < kept.length
  ·obtain ⟨b1, o1, cs1, _, rfl, _, hp1, _, hA1⟩ := (H4.out.grow hb).elem k hlt
   obtain ⟨_, rfl, q1, q2⟩ := open_Link hp1
   have c0 : wr.cell? ⟨b1, o1 + k * 2, none⟩ = some _ := hA1 0 _ rfl
   have c1 : wr.cell? ⟨b1, o1 + k * 2 + 1, none⟩ = some _ := hA1 1 _ rfl
   have hki : (k : Int) < (kept.length : Int) := by omega
   have hst := idKept_step hlt
   obtain ⟨x, hx⟩ : ∃ x, x = kept[k] := ⟨_, rfl⟩
   rw [← hx] at hst c0 c1 q1 q2
   have HST := hid (show uniq (idKept (kept.take (k + 1))) = insI (uniq (idKept (kept.take k))) x.Id by rw [hst, uniq_snoc])
   have Q2 := hid q2
   have HM := hid hM; have HB := hid hb
   clear hp1 hA1 hx hb hst hM q1
   go_upto_region 4 with fail
   refine late_genw (fun wq hwq => ?_)
   have hbq : Below wr.heap.size wr wq := by rw [hwq]; first | exact (Below.refl _ _).alloc (Nat.le_refl _) _ | exact Below.setCells _ (Nat.le_refl _) _ _ ((Below.refl _ _).alloc (Nat.le_refl _) _)
   have XQ := hid (show Bx wq wr.heap.size #[.string x.Name, .int .i64 x.Id] by rw [hwq]; exact Bx.new _ _ _ rfl)
   have HBq := hid (HB.out.trans (hbq.mono HB.out.size))
   obtain ⟨D, hown, hD⟩ := HM.out.keep (hbq.block _ HM.out.lt)
   have HO := hid hown; have HD := hid hD
   have e0 := bx_at XQ.out 0 rfl
   have e1 := bx_at XQ.out 1 rfl
   clear hwq hbq hown hD c0 c1
   go_wp2_with (first | (at_mapUpdate; refine wpList_mapUpdate_in _ rfl _ _ _ 145 rfl 3 3 keyI Tryz.underlying145 _ w.heap.size k _ rfl HO.out (by have := HK.out; unfold maxLen; omega) _ _ _ rfl rfl (key_int Q2.out) _ [] (plainElem_int Tryz.underlying3 (by decide)) ?_; intro w1 hown1 hturn1))
   have HO1 := hid hown1
   have HB1 := hid (HBq.out.trans ((tch_grown hturn1.grown).below HBq.out.size (by simp)))
   clear hown1 hturn1
   go_wp2
   exact ⟨⟨k + 1, by omega, by go_num, ⟨_, HO1.out, by rw [HST.out]; exact HD.out.put (HO.out.tidy keyI) x.Id⟩, HB1.out⟩, by simp [intOf]; try omega⟩
  ·obtain rfl : k = kept.length := by omega
   have hki : ¬ (kept.length : Int) < (kept.length : Int) := by omega
   obtain ⟨D, hown, hD⟩ := hM
   rw [List.take_length] at hD
   obtain ⟨wQ, rfl⟩ : ∃ wQ, wQ = wr := ⟨_, rfl⟩
   have HXQ := hid (Bx.below hb HX.out.f.lt HX.out)
   have NQ := hid (HF.out.n.grow hb)
   have HBQ := hid hb
   have HOM := hid hown; have HD := hid hD
   have BML := hid hown.lt
   have x3 := bx_at HXQ.out 3 (v := .slice p3 d.Nodes.length c3) rfl
   have xl := HXQ.out.f.lt
   clear hb hown hD
   go_wp2_with fail
   obtain ⟨cells, bss, hRow, hEl, hB3e, hnd, hfr⟩ := NQ.out
   have HRow := hid hRow; have HEl := hid hEl; have HB3e := hid hB3e; have HNd := hid hnd
   clear hRow hEl hB3e hnd hfr
   have HFL := hid (show bss.flatten.Nodup ∧ ∀ b ∈ bss.flatten, b ∈ B3 from ⟨(List.nodup_append.1 (HB3e.out ▸ HNd.out)).2.1, fun b hb => by rw [HB3e.out]; exact List.mem_append_right _ hb⟩)
   go_loopw [7, 26] (fun o i wr => ∃ (k : Nat) (p : Option Addr) (c : Nat) (b' : List Nat) (m : Nat) (don : List NodeD), k ≤ d.Nodes.length ∧ Hid (m = don.length) ∧ m ≤ k ∧ o = .slice p m c ∧ i = .int .i64 (k : Int) ∧ Hid (OwnL lo wr 104 (.slice p m c) b' (don.map (NF 5))) ∧ Hid (don = (d.Nodes.take k).filter (fun x => hasI (idKept kept) x.Id)) ∧ Hid (∀ b, (Value.slice p m c).ownBlock = some b → wQ.heap.size ≤ b) ∧ Hid (∀ b ∈ b', wQ.heap.size ≤ b ∨ b ∈ (bss.take k).flatten) ∧ Below wQ.heap.size wQ wr) (fun _ i _ => d.Nodes.length - (intOf i).toNat)
   case atStart => exact ⟨0, none, 0, [], 0, [], Nat.zero_le _, hid rfl, Nat.le_refl _, rfl, rfl, hid (OwnL.nil _ _ _), hid rfl, hid (fun b hb => by simp [Value.ownBlock] at hb), hid (fun b hb => by cases hb), Below.refl _ _⟩
   case round =>
    clear x3 xl
    obtain ⟨k, p, c, b', m, don, hk, HM, hmk, rfl, rfl, HOr, HDn, HOB, HBL, hb⟩ := hrel
    have HBr := hid hb
    have hn8 := HN.out
    by_cases hlt : k < d.Nodes.length
    ·obtain ⟨ck, bk, hpk, hbk, hck⟩ := HEl.out.get k (by rw [List.length_map]; exact hlt)
     obtain ⟨g, hg⟩ : ∃ g, p3 = some ⟨g, 0, none⟩ := by
      rcases HRow.out.2 with ⟨h1, _⟩ | ⟨g, cap, cur, h1, _⟩
      ·have := (Value.slice.inj h1).2.1; omega
      ·exact ⟨g, (Value.slice.inj h1).1⟩
     subst hg
     rw [show (d.Nodes.map (NF 5))[k]'(by rw [List.length_map]; exact hlt) = NF 5 d.Nodes[k] by rw [List.getElem_map]] at hpk
     obtain ⟨x, hx⟩ : ∃ x, x = d.Nodes[k] := ⟨_, rfl⟩
     rw [← hx] at hpk
     obtain ⟨v1, v2, b1, b2, hbk2, rfl, hId, hO1, hO2⟩ := hpk
     obtain ⟨q1, k1, rfl⟩ := hO1.slice
     obtain ⟨q2, k2, rfl⟩ := hO2.slice
     have hcell : ∀ j u, [Value.int .i64 x.Id, .slice q1 x.Body.length k1, .slice q2 x.Safe.length k2][j]? = some u → wQ.cell? ⟨g, k * 3 + j, none⟩ = some u := fun j u hu => by
      have hrow := HRow.out
      rw [List.length_map] at hrow
      have hl := hrow.1
      have h1 := hck j u hu
      have h2 := (List.getElem?_eq_some_iff.1 h1).1
      exact (World.ownsRow.cellAt hrow _ (by rw [← hl]; exact h2)).trans h1
     have hgl : g < wQ.heap.size := by
      have := hcell 0 _ rfl
      have := World.block_lt_of_cell? _ _ this
      simpa using this
     have T := bcell hb
     have c0 : wr.cell? ⟨g, k * 3, none⟩ = some (.int .i64 x.Id) := (T.1 g _ hgl).trans (hcell 0 _ rfl)
     have c1 : wr.cell? ⟨g, k * 3 + 1, none⟩ = some (.slice q1 x.Body.length k1) := (T.1 g _ hgl).trans (hcell 1 _ rfl)
     have c2 : wr.cell? ⟨g, k * 3 + 2, none⟩ = some (.slice q2 x.Safe.length k2) := (T.1 g _ hgl).trans (hcell 2 _ rfl)
     have PX := hid (show nodePt 5 wQ bk [.int .i64 x.Id, .slice q1 x.Body.length k1, .slice q2 x.Safe.length k2] (NF 5 x) from ⟨_, _, b1, b2, hbk2, rfl, hId, hO1, hO2⟩)
     have HBK := hid hbk
     have Q1 := hid hId
     have hki : (k : Int) < (d.Nodes.length : Int) := by omega
     have hst : (d.Nodes.take (k + 1)).filter (fun x => hasI (idKept kept) x.Id) = (d.Nodes.take k).filter (fun x => hasI (idKept kept) x.Id) ++ (if hasI (idKept kept) x.Id then [x] else []) := by
      rw [List.take_succ_eq_append_getElem hlt, List.filter_append, ← hx]
      congr 1
      cases h9 : hasI (idKept kept) x.Id <;> simp [h9]
     have HST := hid hst
     have HAT := hid (show D.atKey (kI x.Id) (i6 0) = i6 (if hasI (idKept kept) x.Id = true then 1 else 0) by rw [HD.out.a x.Id, hasI_uniq])
     clear hbk hck hcell hgl T hId hO1 hO2 hbk2 hst hx hb
     go_upto_region 10 with fail
     refine late_genw (fun wB hwB => ?_)
     have hbb : Below wr.heap.size wr wB := by rw [hwB]; exact (Below.refl _ _).alloc (Nat.le_refl _) _
     have XN := hid (show Bx wB wr.heap.size #[.int .i64 x.Id, .slice q1 x.Body.length k1, .slice q2 x.Safe.length k2] by rw [hwB]; exact Bx.new _ _ _ rfl)
     have OF := hid (HOr.out.grow hbb)
     have BF := hid (HBr.out.trans (hbb.mono HBr.out.size))
     have HOq := hid (own_keep HOM.out (BF.out.block _ BML.out))
     have xn := XN.out.out
     clear hwB hbb HOr HBr c0 c1 c2
     cases hh : hasI (idKept kept) x.Id
     ·have E9 := hid (show don = (d.Nodes.take (k + 1)).filter (fun x => hasI (idKept kept) x.Id) by rw [HST.out, hh, HDn.out]; simp)
      rw [hh] at HAT; simp only [if_true, if_false, Bool.false_eq_true, ↓reduceIte] at HAT
      clear hh
      go_wp2_with (first | (at_lookup; refine wpList_lookup_own_int _ rfl _ _ 145 rfl 3 3 .i64 keyI Tryz.underlying145 Tryz.underlying3 (zeroI _) w.heap.size kept.length D rfl HOq.out _ _ rfl (key_int Q1.out) ?_; intro c hat hwc; obtain rfl := i6_inj ((HAT.out).symm.trans hat)))
      exact ⟨⟨k + 1, p, c, b', m, don, by omega, HM, by omega, rfl, by go_num, OF, E9, HOB, hid (fun b hb => (HBL.out b hb).imp id (fun h => flat_take_le (Nat.le_succ k) h)), BF.out⟩, by simp [intOf]; try omega⟩
     ·have E9 := hid (show don ++ [x] = (d.Nodes.take (k + 1)).filter (fun x => hasI (idKept kept) x.Id) by rw [HST.out, hh, HDn.out]; simp)
      rw [hh] at HAT; simp only [if_true, if_false, Bool.false_eq_true, ↓reduceIte] at HAT
      clear hh
      have PXF := hid (show Rep.pt wB bk [Value.int .i64 x.Id, .slice q1 x.Body.length k1, .slice q2 x.Safe.length k2] (NF 5 x) from ext (show Rep.pt wQ bk _ (NF 5 x) from PX.out) BF.out (Rep.lt (show Rep.pt wQ bk _ (NF 5 x) from PX.out)))
      have BKF := hid (fun b (hb : b ∈ bk) => show b ∈ bss.flatten from List.mem_flatten.2 ⟨bk, List.mem_of_getElem? HBK.out, hb⟩)
      have BKL := hid (fun b (hb : b ∈ bk) => show b < wQ.heap.size from NQ.out.lts b (HFL.out.2 b (BKF.out b hb)) |>.2)
      go_wp2_with (first | (at_lookup; refine wpList_lookup_own_int _ rfl _ _ 145 rfl 3 3 .i64 keyI Tryz.underlying145 Tryz.underlying3 (zeroI _) w.heap.size kept.length D rfl HOq.out _ _ rfl (key_int Q1.out) ?_; intro c hat hwc; obtain rfl := i6_inj ((HAT.out).symm.trans hat)) | (at_builtin; refine wp_append_T rfl _ _ 31 rfl 104 i1 (.agg #[.int .i64 0, .slice none 0 0, .slice none 0 0]) 56 Tryz.underlying31 hi1 hz01 hz11 hz21 rfl (lo := lo) (bs := b') (xs := don.map (NF 5)) rfl (OF.out.alloc _) (b2 := bk) (ys := [NF 5 x]) rfl ?nsrc (flat_get_nodup HFL.out.1 HBK.out) ?nf2 ?na ?nb ?nc ?_))
      case nsrc => exact src_new (cs := [_, _, _]) PXF.out (by simp) _ _
      case nf2 => exact fun b hb => ⟨(NQ.out.lts b (HFL.out.2 b (BKF.out b hb))).1, ((NQ.out.fr b (HFL.out.2 b (BKF.out b hb))).keep (BF.out.block b (BKL.out b hb))).keep (Below.heap_alloc _ _ _ (Nat.lt_of_lt_of_le (BKL.out b hb) BF.out.size)), fun hm => by
       rcases HBL.out b hm with h9 | h9
       ·have := BKL.out b hb; omega
       ·exact flat_take_not HFL.out.1 HBK.out hb h9⟩
      try (case na => have := HM.out; rw [List.length_map, List.length_singleton]; omega)
      try (case nb => have := HM.out; rw [List.length_map, List.length_singleton]; omega)
      try (case nc => have := BF.out.size; have := HBQ.out.size; have := HLO.out; simp; omega)
      intro pN cN wN bN hON hTN hmN hobN
      have hL := show don.length + 1 = m + 1 by rw [HM.out]
      have ON := hid (show OwnL lo wN 104 (.slice pN (m + 1) cN) bN ((don ++ [x]).map (NF 5)) by have h1 := hON; rw [hL] at h1; rw [List.map_append]; exact h1)
      rw [hL] at hobN
      (try rw [List.length_singleton])
      (try rw [List.length_map])
      (try rw [← HM.out])
      have BN := hid (show Below wQ.heap.size wQ wN from (BF.out.alloc BF.out.size _).trans (hTN.below (by have := BF.out.size; simp; omega) (fun b hb => HOB.out b (by simpa using hb))))
      have OBN := hid (show ∀ b, (Value.slice pN (m + 1) cN).ownBlock = some b → wQ.heap.size ≤ b from fun b hb => by
       rcases hobN b hb with h9 | h9
       ·exact HOB.out b h9
       ·have := BF.out.size; (try simp at h9); omega)
      have BLN := hid (show ∀ b ∈ bN, wQ.heap.size ≤ b ∨ b ∈ (bss.take (k + 1)).flatten from fun b hb => by
       rcases hmN b hb with h9 | h9 | h9
       ·exact (HBL.out b h9).imp id (fun h => flat_take_le (Nat.le_succ k) h)
       ·exact .inr (flat_get_take HBK.out h9)
       ·exact .inl (by have := BF.out.size; (try simp at h9); omega))
      have HM9 := hid (show m + 1 = (don ++ [x]).length by rw [List.length_append, HM.out]; rfl)
      clear hON hTN hmN hobN hL xn
      go_wp2
      exact ⟨⟨k + 1, pN, cN, bN, m + 1, don ++ [x], by omega, HM9, by omega, rfl, by go_num, ON, E9, OBN, BLN, BN.out⟩, by simp [intOf]; try omega⟩
    ·obtain rfl : k = d.Nodes.length := by omega
     have hki : ¬ (d.Nodes.length : Int) < (d.Nodes.length : Int) := by omega
     have HD9 := hid (show don = d.Nodes.filter (fun x => hasI (idKept kept) x.Id) by rw [HDn.out, List.take_length])
     have X6r := hid (Bx.below hb HXQ.out.f.lt HXQ.out)
     have BLK := hid (fun b (h9 : b ∈ b') => show wQ.heap.size ≤ b ∨ b ∈ B3 from (HBL.out b h9).imp id (fun h => HFL.out.2 b (flat_take_sub h)))
     have Tr := hid (show Below w.heap.size w wr from HBQ.out.trans (hb.mono HBQ.out.size))
     have KKr := hid (HKK.out.grow Tr.out)
     have SQ := hid HBQ.out.size
     clear hb HBr
     have xo := X6r.out.out; have xf := X6r.out.fr; have xl := X6r.out.f.lt
     go_wp2
     go_end0
     have kS : ∀ k, k ≠ Bs → (((wr.setCell ⟨Bs, 3, none⟩ (.slice p m c)).setCell ⟨Bs, 4, none⟩ (.slice pK kept.length cK)).setCell ⟨Bs, 5, none⟩ (.slice none 0 0)).heap[k]? = wr.heap[k]? := fun k hk => (Below.heap_setCell _ _ _ _ hk).trans ((Below.heap_setCell _ _ _ _ hk).trans (Below.heap_setCell _ _ _ _ hk))
     refine ⟨rfl, .slice p m c, b', ((X6r.out.setSame 3 _).setSame 4 _).setSame 5 _, ⟨HF.out.i0, HF.out.i1, HF.out.i2, ?_, KKr.out.keep (fun b hb => kS b (fun e => NBK.out (e ▸ hb))), OwnL.nil _ _ _, ?_, by simp, by simp⟩, fun b hb => (BLK.out b hb).symm.imp id (fun h => by have := SQ.out; omega), ?_⟩
     ·show OwnL lo _ _ _ b' ((d.Nodes.filter fun x => hasI (idKept kept) x.Id).map (NF 5))
      rw [← HD9.out]
      refine HOr.out.keep fun b hb => kS b (fun e => ?_)
      rcases BLK.out b hb with h9 | h9
      ·have := HX.out.f.lt; have := SQ.out; omega
      ·exact NB3.out (e ▸ h9)
     ·intro b h1 h2
      rcases BLK.out b h1 with h9 | h9
      ·have := (HKK.out.lts b h2).2; have := SQ.out; omega
      ·exact HDD.out b h9 h2
     ·exact ⟨Tr.out.os, Tr.out.tape, Tr.out.output, by simpa using Tr.out.size, fun k hk hn => (kS k (fun e => hn (by simp [e]))).trans (Tr.out.block k hk)⟩
end Go.Proofs.YtdjcjilipgpnmaaGreat
