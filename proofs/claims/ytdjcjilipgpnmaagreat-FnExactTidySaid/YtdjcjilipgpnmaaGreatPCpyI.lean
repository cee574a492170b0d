/- A copy of a disk, as the program makes it. -/
import Derived.Test.YtdjcjilipgpnmaaGreatPLnkI
set_option linter.unusedSimpArgs false
set_option linter.unusedVariables false
namespace Go.Proofs.YtdjcjilipgpnmaaGreat
open Go Go.RowKit Go.G6
set_option maxHeartbeats 6000000
set_option maxRecDepth 10000
theorem i_copyDisk {w : World} {bs : List Nat} {cs : List Value} {d : DiskD} (h : Rep.pt w bs cs d) (hs : Small d) :
  Calls Tryz.prog 62 #[.agg cs.toArray] w (RetDF 104 127 106 5 w d) := by
 obtain ⟨b3, b4, b5, a3, l3, k3, a4, l4, k4, a5, l5, k5, rfl, hcs, h0, h1, h2, h3, h4, h5⟩ := open_Disk h
 obtain rfl := h3.len_eq
 obtain rfl := h4.len_eq
 obtain rfl := h5.len_eq
 obtain ⟨i1, hi1, hz01, hz11, hz21⟩ := info_parts info_NodeF
 obtain ⟨i2, hi2, hz02, hz12, hz22⟩ := info_parts info_LinkF
 obtain ⟨i3, hi3, hz03, hz13, hz23⟩ := info_parts info_TurnF
 have m3 := h3.max; have m4 := h4.max; have m5 := h5.max
 have H3 := hid h3; have H4 := hid h4; have H5 := hid h5; have HS := hid hs
 have J0 := hid h0; have J1 := hid h1; have J2 := hid h2
 have I6 := hid (show (Tryz.prog.info? 35).map (·.size) = some 6 by kernel_rfl)
 have HL := hid (show cs.length = 6 by rw [hcs]; rfl)
 have I0 := hid (show (Tryz.prog.info? 35).map (·.size) = some cs.length by rw [HL.out]; exact I6.out)
 have CS := hid (show cs.toArray.size = 6 by rw [List.size_toArray]; exact HL.out)
 have I2 := hid (show (Tryz.prog.info? 35).map (·.size) = some cs.toArray.size by rw [CS.out]; exact I6.out)
 have HC1 := hid (show cs.toArray.all (·.oneCell') = true by rw [hcs]; simp [Value.oneCell'])
 obtain ⟨Z, hZ⟩ : ∃ Z : Array Value, Z = #[.int .i64 0, .int .i64 0, .int .i64 0, .slice none 0 0, .slice none 0 0, .slice none 0 0] := ⟨_, rfl⟩
 have ZL := hid (show Z.size = 6 by rw [hZ]; rfl)
 have HX := hid (Bx.alloc (Bx.new w cs.toArray 35 rfl) (by simp) (.cells Z 35))
 have HZ := hid (Bx.new (w.alloc (.cells cs.toArray 35)) Z 35 (b := w.heap.size + 1) (by simp))
 have hb0 := hid (((Below.refl w.heap.size w).alloc (Nat.le_refl _) (.cells cs.toArray 35)).alloc (by simp) (.cells Z 35))
 obtain ⟨wA, hwA⟩ : ∃ wA, wA = (w.alloc (.cells cs.toArray 35)).alloc (.cells Z 35) := ⟨_, rfl⟩
 have SA := hid (show wA.heap.size = w.heap.size + 2 by rw [hwA]; simp)
 rw [← hwA] at hb0 HX HZ
 have HN := hid (Bx.new wA Z 35 (b := w.heap.size + 2) (by rw [SA.out]))
 have TH := hid (show (wA.alloc (.cells Z 35)).there (w.heap.size + 2) 0 cs.toArray.size by rw [CS.out]; exact HN.out.there 0 6 (by rw [ZL.out]; exact Nat.le_refl _))
 have HCS := hid hcs
 have HZZ := hid hZ
 clear h h0 h1 h2 h3 h4 h5 hs hcs
 subst hZ
 go_enter Tryz.func62, Tryz.ntmps62
 go_upto_region 1 with fail
 rw [← hwA]
 clear hwA
 go_upto_region 2 with (first | (refine wpList_load_mid rfl 35 _ rfl w.heap.size 0 rfl cs _ HX.out.all Tryz.underlying35 rfl I0.out ?_) | (rw [SA.out]; refine wpList_store_mid rfl 35 _ _ rfl (w.heap.size + 2) 0 cs.toArray rfl rfl TH.out I2.out HC1.out ?_))
 refine late_genw (fun wB hwB => ?_)
 have kB : ∀ k, k < wA.heap.size → wB.heap[k]? = wA.heap[k]? := fun k hk => by rw [hwB]; exact (setCells_heap _ _ _ _ _ (by have := SA.out; omega)).trans (Below.heap_alloc _ _ _ hk)
 have XB := hid (show Bx wB (w.heap.size + 2) #[.int .i64 d.Room, .int .i64 d.Fuse, .int .i64 d.Next, .slice a3 d.Nodes.length k3, .slice a4 d.Kept.length k4, .slice a5 d.Turns.length k5] by
  rw [show (#[.int .i64 d.Room, .int .i64 d.Fuse, .int .i64 d.Next, .slice a3 d.Nodes.length k3, .slice a4 d.Kept.length k4, .slice a5 d.Turns.length k5] : Array Value) = cs.toArray by rw [HCS.out], hwB]
  exact HN.out.setAll cs (by rw [HL.out, ZL.out]))
 have HXB := hid (HX.out.keep (kB _ HX.out.f.lt))
 have HZB := hid (HZ.out.keep (kB _ HZ.out.f.lt))
 have SB := hid (show wB.heap.size = w.heap.size + 3 by rw [hwB, setCells_size]; simp [SA.out])
 have BB := hid (show Below w.heap.size w wB by rw [hwB]; exact Below.setCells _ (by omega) _ _ (hb0.out.alloc hb0.out.size _))
 clear hwB kB HX HZ HN TH hb0
 have xo := XB.out.out; have xf := XB.out.fr; have xl := XB.out.f.lt
 go_upto_region 3 with fail
 refine late_genw (fun wC hwC => ?_)
 have kC : ∀ k, k ≠ w.heap.size + 2 → wC.heap[k]? = wB.heap[k]? := fun k hk => by rw [hwC]; exact Below.heap_setCell _ _ _ _ hk
 have XC := hid (show Bx wC (w.heap.size + 2) #[.int .i64 d.Room, .int .i64 d.Fuse, .int .i64 d.Next, .slice none 0 0, .slice a4 d.Kept.length k4, .slice a5 d.Turns.length k5] by rw [hwC]; exact XB.out.setSame 3 _)
 have HXC := hid (HXB.out.keep (kC _ (by omega)))
 have HZC := hid (HZB.out.keep (kC _ (by omega)))
 have SC := hid (show w.heap.size + 3 ≤ wC.heap.size by rw [hwC]; simp [SB.out])
 have BC := hid (show Below w.heap.size w wC by rw [hwC]; exact BB.out.setCell (by simp) _)
 clear hwC kC XB HXB HZB SB BB xo xf xl
 have x3 := bx_at HXC.out 3 (v := .slice a3 d.Nodes.length k3) (by rw [HCS.out]; rfl)
 go_wp2_with fail
 go_loopw [11] (fun i wr => ∃ (k : Nat) (p : Option Addr) (c : Nat) (b' : List Nat) (m : Nat) (don : List (NodeF 5)), k ≤ d.Nodes.length ∧ Hid (m = don.length) ∧ m = k ∧ i = .int .i64 (k : Int) ∧ Hid (OwnL (w.heap.size + 3) wr 104 (.slice p m c) b' don) ∧ Hid (don = (d.Nodes.take k).map (NF 5)) ∧
  Hid (Bx wr (w.heap.size + 2) #[.int .i64 d.Room, .int .i64 d.Fuse, .int .i64 d.Next, .slice p m c, .slice a4 d.Kept.length k4, .slice a5 d.Turns.length k5]) ∧ Hid (Bx wr w.heap.size cs.toArray) ∧ Hid (Bx wr (w.heap.size + 1) #[.int .i64 0, .int .i64 0, .int .i64 0, .slice none 0 0, .slice none 0 0, .slice none 0 0]) ∧ Below w.heap.size w wr ∧ Hid (w.heap.size + 3 ≤ wr.heap.size)) (fun i _ => d.Nodes.length - (intOf i).toNat)
 case atStart => exact ⟨0, none, 0, [], 0, [], Nat.zero_le _, hid rfl, rfl, rfl, hid (OwnL.nil _ _ _), hid rfl, XC, HXC, HZC, BC.out, SC⟩
 case round =>
  clear XC HXC HZC BC SC x3
  obtain ⟨k, p, c, b', m, don, hk, HM, hmk, rfl, HO, HD, XR, HXR, HZR, hb, SR⟩ := hrel
  obtain rfl : m = k := hmk
  have HBr := hid hb
  have hnn := HS.out.nodes
  by_cases hlt : m < d.Nodes.length
  ·obtain ⟨g1, o1, cs1, _, rfl, _, hp1, _, hA1⟩ := (H3.out.grow hb).elem m hlt
   obtain ⟨y1, y2, e1, n1, f1, e2, n2, f2, _, rfl, q1, q2, q3⟩ := open_Node hp1
   obtain rfl := q2.len_eq
   obtain rfl := q3.len_eq
   have c0 : wr.cell? ⟨g1, o1 + m * 3, none⟩ = some _ := hA1 0 _ rfl
   have c1 : wr.cell? ⟨g1, o1 + m * 3 + 1, none⟩ = some _ := hA1 1 _ rfl
   have c2 : wr.cell? ⟨g1, o1 + m * 3 + 2, none⟩ = some _ := hA1 2 _ rfl
   have hst : (d.Nodes.take m).map (NF 5) ++ [NF 5 d.Nodes[m]] = (d.Nodes.take (m + 1)).map (NF 5) := by rw [List.take_succ_eq_append_getElem hlt, List.map_append]; rfl
   have hbd := HS.out.body d.Nodes[m] (List.getElem_mem hlt)
   have hki : (m : Int) < (d.Nodes.length : Int) := by omega
   obtain ⟨x, hx⟩ : ∃ x, x = d.Nodes[m] := ⟨_, rfl⟩
   rw [← hx] at hst hbd c0 c1 c2 q1 q2 q3
   have HST := hid hst; have HBD := hid hbd; have Q1 := hid q1; have QB := hid (q2.grow (Below.refl _ _)); have QS := hid (q3.grow (Below.refl _ _))
   have QB := hid q2; have QS := hid q3
   clear hst hbd hp1 hA1 hx hb q1 q2 q3
   go_upto_region 6 with fail
   refine late_genw (fun w4 hw4 => ?_)
   have hbb : Below wr.heap.size wr w4 := by rw [hw4]; exact (Below.refl _ _).alloc (Nat.le_refl _) _
   have X := show Bx w4 wr.heap.size #[.int .i64 x.Id, .slice e1 x.Body.length f1, .slice e2 x.Safe.length f2] by rw [hw4]; exact Bx.new _ _ _ rfl
   have y0 : w4.cell? ⟨wr.heap.size, 0, none⟩ = some (.int .i64 x.Id) := X.out 0
   have y1 : w4.cell? ⟨wr.heap.size, 1, none⟩ = some (.slice e1 x.Body.length f1) := X.out 1
   have y2 : w4.cell? ⟨wr.heap.size, 2, none⟩ = some (.slice e2 x.Safe.length f2) := X.out 2
   have x3 := bx_at (Bx.below hbb XR.out.f.lt XR.out) 3 rfl
   have S4 := hid (show w4.heap.size = wr.heap.size + 1 by rw [hw4]; simp)
   have HB4 := hid hbb
   clear hw4 hbb X c0 c1 c2
   go_wp2_with fail
   refine late_start (fun V => V.cell? ⟨w.heap.size + 2, 3, none⟩ = some (.slice p m c) ∧ V.cell? ⟨wr.heap.size, 0, none⟩ = some (.int .i64 x.Id) ∧ V.cell? ⟨wr.heap.size, 1, none⟩ = some (.slice e1 x.Body.length f1) ∧ V.cell? ⟨wr.heap.size, 2, none⟩ = some (.slice e2 x.Safe.length f2)) 14 (by kernel_rfl) ?_ (fun hS => ?_)
   ·exact ⟨x3, y0, y1, y2⟩
   refine late_genw (fun wD hwD => ?_)
   have hbD : Below wr.heap.size wr wD := by rw [hwD]; exact HB4.out.drew
   have ZD := hid (show wD.heap.size = wr.heap.size + 1 by rw [hwD]; exact S4.out)
   rw [← hwD] at hS
   have HBD2 := hid hbD
   clear hwD y0 y1 y2 x3 hbD
   refine ltk 0 rfl ?_
   try simp only [Act.put, putZ, List.getElem_toArray, List.getElem_cons_zero, List.getElem_cons_succ]
   refine ltk 1 rfl ?_
   try simp only [Act.put, putZ, List.getElem_toArray, List.getElem_cons_zero, List.getElem_cons_succ]
   refine ltk 2 rfl ?_
   try simp only [Act.put, putZ, List.getElem_toArray, List.getElem_cons_zero, List.getElem_cons_succ]
   refine ltk 3 rfl ?_
   try simp only [Act.put, putZ, List.getElem_toArray, List.getElem_cons_zero, List.getElem_cons_succ]
   refine ltk 4 rfl ?_
   try simp only [Act.put, putZ, List.getElem_toArray, List.getElem_cons_zero, List.getElem_cons_succ]
   refine ltk 5 rfl ?_
   try simp only [Act.put, putZ, List.getElem_toArray, List.getElem_cons_zero, List.getElem_cons_succ]
   refine ltk 7 rfl ?_
   try simp only [Act.put, putZ, List.getElem_toArray, List.getElem_cons_zero, List.getElem_cons_succ]
   refine ltk 8 rfl ?_
   try simp only [Act.put, putZ, List.getElem_toArray, List.getElem_cons_zero, List.getElem_cons_succ]
   refine late_one (i := 6) rfl (by kernel_rfl) (fun K9 hK9 => ?_)
   go_simp
   refine (i_copyBytes (QB.out.grow HBD2.out) (by have := HBD.out.1; omega)).mono ?_
   rintro e V1 ⟨vA, bA, rfl, hOA, hbA⟩
   obtain ⟨pA, cA, rfl⟩ := hOA.slice
   have FA := hid hOA
   have B1 := hid (HBD2.out.trans (hbA.mono HBD2.out.size))
   have Z1 := hid hbA.size
   go_wp2_with fail
   refine hK9.out _ _ (fun _ => ?_) (fun hS9 => ?_)
   ·(try dsimp only); exact ⟨keepcellF hbA hS.1, keepcellF hbA hS.2.1, keepcellF hbA hS.2.2.1, keepcellF hbA hS.2.2.2⟩
   replace hS := hS9 (by decide)
   clear hK9 K9 hS9
   try simp only [Act.put, putZ, List.getElem_toArray, List.getElem_cons_zero, List.getElem_cons_succ]
   clear hbA hOA
   refine late_one (i := 9) rfl (by kernel_rfl) (fun K9 hK9 => ?_)
   go_simp
   refine (i_copyBytes (QS.out.grow B1.out) (by have := HBD.out.2; omega)).mono ?_
   rintro e V2 ⟨vB, bB, rfl, hOB, hbB⟩
   obtain ⟨pB, cB, rfl⟩ := hOB.slice
   have FB := hid hOB
   have FA2 := hid (FA.out.grow hbB)
   have B2 := hid (B1.out.trans (hbB.mono B1.out.size))
   have Z2 := hid hbB.size
   have LA := hid (fun b (h2 : b ∈ bA) => FA.out.lts b h2)
   have LBB := hid (fun b (h2 : b ∈ bB) => FB.out.lts b h2)
   go_wp2_with fail
   refine hK9.out _ _ (fun _ => ?_) (fun hS9 => ?_)
   ·(try dsimp only); exact ⟨keepcellF hbB hS.1, keepcellF hbB hS.2.1, keepcellF hbB hS.2.2.1, keepcellF hbB hS.2.2.2⟩
   replace hS := hS9 (by decide)
   clear hK9 K9 hS9
   try simp only [Act.put, putZ, List.getElem_toArray, List.getElem_cons_zero, List.getElem_cons_succ]
   clear hbB hOB FA
   have DJ := hid (show ∀ b ∈ bA, b ∉ bB from fun b h1 h2 => by have := LA.out b h1; have := LBB.out b h2; omega)
   have LO := hid (fun b (hb : b ∈ b') => HO.out.lts b hb)
   have O2 := hid (HO.out.grow B2.out)
   refine ltk 10 rfl ?_
   try simp only [Act.put, putZ, List.getElem_toArray, List.getElem_cons_zero, List.getElem_cons_succ]
   refine late_one (i := 11) rfl (by kernel_rfl) (fun K9 hK9 => ?_)
   go_simp
   refine hK9.out _ _ (fun _ => ?_) (fun hS9 => ?_)
   ·(try dsimp only); exact ⟨cellc ((Tch.refl [] _).alloc _) hS.1 (by simp), cellc ((Tch.refl [] _).alloc _) hS.2.1 (by simp), cellc ((Tch.refl [] _).alloc _) hS.2.2.1 (by simp), cellc ((Tch.refl [] _).alloc _) hS.2.2.2 (by simp)⟩
   replace hS := hS9 (by decide)
   clear hK9 K9 hS9
   try simp only [Act.put, putZ, List.getElem_toArray, List.getElem_cons_zero, List.getElem_cons_succ]
   refine late_one (i := 12) rfl (by kernel_rfl) (fun K9 hK9 => ?_)
   refine step_append rfl _ _ 31 rfl 104 i1 (.agg #[.int .i64 0, .slice none 0 0, .slice none 0 0]) 56 Tryz.underlying31 hi1 hz01 hz11 hz21 rfl (lo := w.heap.size + 3) (bs := b') (xs := don) rfl (O2.out.alloc _) (b2 := bA ++ bB) (ys := [NF 5 x]) rfl ?src (nodup2 FA2.out.nodup FB.out.nodup DJ.out) ?f2 ?qa ?qb ?qc ?_
   case src => exact src_new (cs := [_, _, _]) (nf_mk Q1.out (FA2.out.mono (Nat.zero_le _)) (FB.out.mono (Nat.zero_le _))) rfl _ _
   case f2 => exact f2_of DJ.out (FA2.out.mono (by have := SR.out; have := ZD.out; omega)) (FB.out.mono (by have := SR.out; have := ZD.out; have := Z1.out; omega)) (fun b h2 hm => by have h3 := LO.out b hm; have := ZD.out; have := Z1.out; rcases h2 with h2 | h2; (have := LA.out b h2; omega); (have := LBB.out b h2; omega))
   try (case qa => have := HM.out; simp; omega)
   try (case qb => have := HM.out; simp; omega)
   try (case qc => have := SR.out; have := ZD.out; have := Z1.out; have := Z2.out; simp; omega)
   intro p3 c3 V3 b3' hO3 hT3 hm3
   have HLL := hid (show don.length + 1 = m + 1 by rw [HM.out])
   have E9 := hid (show don ++ [NF 5 x] = (d.Nodes.take (m + 1)).map (NF 5) by rw [HD.out, HST.out])
   have HO9 := hid (show OwnL (w.heap.size + 3) V3 104 (.slice p3 (m + 1) c3) b3' (don ++ [NF 5 x]) by have h1 := hO3; rw [List.length_singleton, HLL.out] at h1; exact h1)
   have HM9 := hid (show m + 1 = (don ++ [NF 5 x]).length by rw [List.length_append, HM.out]; rfl)
   (try rw [List.length_singleton])
   rw [HLL.out]
   have kk := fun k (hk : k < wr.heap.size) (hn : k ∉ b') => (hT3.block k (by have := ZD.out; have := Z1.out; have := Z2.out; simp; omega) hn).trans ((Below.heap_alloc _ _ _ (by have := ZD.out; have := Z1.out; have := Z2.out; omega)).trans (B2.out.block k hk))
   have NB2 := hid (show w.heap.size + 2 ∉ b' from fun h => by have := (LO.out _ h).1; omega)
   have NV := hid (show wr.heap.size ∉ b' from fun h => by have := (LO.out _ h).2; omega)
   have X3 := hid (XR.out.keep (kk _ XR.out.f.lt NB2.out))
   have HX3 := hid (HXR.out.keep (kk _ HXR.out.f.lt (fun h => by have := (LO.out _ h).1; omega)))
   have HZ3 := hid (HZR.out.keep (kk _ HZR.out.f.lt (fun h => by have := (LO.out _ h).1; omega)))
   have B3 := hid (below_tch ((HBr.out.trans (B2.out.mono HBr.out.size)).alloc (HBr.out.trans (B2.out.mono HBr.out.size)).size _) hT3 (fun b hb => by have := LO.out b hb; have := ZD.out; have := Z1.out; have := Z2.out; simp; omega))
   have S3 := hid (show w.heap.size + 3 ≤ V3.heap.size by have h1 := hT3.size; have := SR.out; have := ZD.out; have := Z1.out; have := Z2.out; simp at h1; omega)
   refine hK9.out _ _ (fun _ => ?_) (fun hS9 => ?_)
   ·(try dsimp only); exact ⟨cellc hT3 hS.1 NB2.out, cellc hT3 hS.2.1 NV.out, cellc hT3 hS.2.2.1 NV.out, cellc hT3 hS.2.2.2 NV.out⟩
   replace hS := hS9 (by decide)
   clear hK9 K9 hS9
   try simp only [Act.put, putZ, List.getElem_toArray, List.getElem_cons_zero, List.getElem_cons_succ]
   clear hO3 hT3 hm3 kk
   refine ltk 13 rfl ?_
   try simp only [Act.put, putZ, List.getElem_toArray, List.getElem_cons_zero, List.getElem_cons_succ]
   have xf := X3.out.fr; have xl := X3.out.f.lt
   refine late_one (i := 14) rfl (by kernel_rfl) (fun K9 hK9 => ?_)
   go_simp
   refine hK9.out _ _ (fun h => absurd rfl h) (fun _ => ?_)
   clear hK9 K9
   try simp only [Act.put, putZ, List.getElem_toArray, List.getElem_cons_zero, List.getElem_cons_succ]
   refine late_done (by kernel_rfl) ?_ _
   clear hS xf xl
   go_wp2
   have kS : ∀ k, k ≠ w.heap.size + 2 → (V3.setCell ⟨w.heap.size + 2, 3, none⟩ (.slice p3 (m + 1) c3)).heap[k]? = V3.heap[k]? := fun k hk => Below.heap_setCell _ _ _ _ hk
   exact ⟨⟨m + 1, p3, c3, b3', m + 1, don ++ [NF 5 x], by omega, HM9, rfl, by go_num, hid (HO9.out.setCell (fun b hb => by have := (HO9.out.lts b hb).1; simp; omega) _), E9, hid (X3.out.setSame 3 _), hid (HX3.out.keep (kS _ (by omega))), hid (HZ3.out.keep (kS _ (by omega))), B3.out.setCell (by simp) _, hid (by simp; exact S3.out)⟩, by simp [intOf]; try omega⟩
  ·obtain rfl : m = d.Nodes.length := by omega
   have hki : ¬ (d.Nodes.length : Int) < (d.Nodes.length : Int) := by omega
   have HD1 := hid (show don = d.Nodes.map (NF 5) by rw [HD.out, List.take_length])
   have C4 := hid (show cs[4]? = some (.slice a4 d.Kept.length k4) by rw [HCS.out]; rfl)
   have C5 := hid (show cs[5]? = some (.slice a5 d.Turns.length k5) by rw [HCS.out]; rfl)
   have S8 := hid (H4.out.grow hb)
   have LO := hid (fun b (h9 : b ∈ b') => HO.out.lts b h9)
   have y4 := bx_at HXR.out 4 C4.out
   have xo := XR.out.out; have xf := XR.out.fr; have xl := XR.out.f.lt
   clear hb HD
   go_wp2_with (at_builtin; refine wp_append rfl _ _ 32 rfl 127 i2 (.agg #[.string ByteArray.empty, .int .i64 0]) 24 Tryz.underlying32 hi2 hz02 hz12 hz22 rfl (lo := w.heap.size + 3) (xs := ([] : List LinkD)) rfl (OwnL.nil _ _ _) (b2 := []) (ys := d.Kept) rfl S8.out.srcF List.nodup_nil (fun b hb => by cases hb) ?ra ?rb ?rc ?_)
   try (case ra => have := HS.out.kept; simp; omega)
   try (case rb => have := HS.out.kept; simp; omega)
   try (case rc => exact SR.out)
   intro p9 c9 w9 b9 hO9 hT9 hm9
   try rw [List.nil_append, show ([] : List LinkD).length + d.Kept.length = d.Kept.length by simp] at hO9
   (try rw [show ([] : List LinkD).length + d.Kept.length = d.Kept.length by simp])
   have K9 := hid hO9
   have X9 := hid (bx_tchM XR.out hT9 (by simp))
   have HX9 := hid (bx_tchM HXR.out hT9 (by simp))
   have Z9 := hid (bx_tchM HZR.out hT9 (by simp))
   have O9 := hid (HO.out.tch hT9 (fun b h9 hm => by cases hm))
   have B9 := hid (below_tch HBr.out hT9 (fun x hx => by cases hx))
   have D9 := hid (fun b (h9 : b ∈ b9) => show wr.heap.size ≤ b from by have h3 := hm9 b h9; (try simp at h3); omega)
   have N9 := hid (show w.heap.size + 3 ≤ w9.heap.size by have := hT9.size; have := SR.out; omega)
   have W9 := hid (show wr.heap.size ≤ w9.heap.size from hT9.size)
   clear hO9 hT9 hm9 XR HXR HZR HO HBr S8 xo xf xl y4
   have xo := X9.out.out; have xf := X9.out.fr; have xl := X9.out.f.lt
   go_upto_region 9 with fail
   refine late_genw (fun w10 hw10 => ?_)
   have k10 : ∀ k, k ≠ w.heap.size + 2 → w10.heap[k]? = w9.heap[k]? := fun k hk => by rw [hw10]; exact Below.heap_setCell _ _ _ _ hk
   have X10 := hid (show Bx w10 (w.heap.size + 2) #[.int .i64 d.Room, .int .i64 d.Fuse, .int .i64 d.Next, .slice p d.Nodes.length c, .slice p9 d.Kept.length c9, .slice a5 d.Turns.length k5] by rw [hw10]; exact X9.out.setSame 4 _)
   have HX10 := hid (HX9.out.keep (k10 _ (by omega)))
   have Z10 := hid (Z9.out.keep (k10 _ (by omega)))
   have O10 := hid (O9.out.keep (fun b h9 => k10 b (by have := LO.out b h9; omega)))
   have K10 := hid (K9.out.keep (fun b h9 => k10 b (by have := K9.out.lts b h9; omega)))
   have B10 := hid (show Below w.heap.size w w10 by rw [hw10]; exact B9.out.setCell (by simp) _)
   have N10 := hid (show w10.heap.size = w9.heap.size by rw [hw10]; simp)
   clear hw10 k10 X9 HX9 Z9 O9 K9 B9 xo xf xl
   have S10 := hid (H5.out.grow B10.out)
   have y5 := bx_at HX10.out 5 C5.out
   have xo := X10.out.out; have xf := X10.out.fr; have xl := X10.out.f.lt
   go_wp2_with (at_builtin; refine wp_append rfl _ _ 33 rfl 106 i3 (.agg #[.int .i64 0, .string ByteArray.empty, .string ByteArray.empty, .int .i64 0]) 48 Tryz.underlying33 hi3 hz03 hz13 hz23 rfl (lo := w.heap.size + 3) (xs := ([] : List TurnD)) rfl (OwnL.nil _ _ _) (b2 := []) (ys := d.Turns) rfl S10.out.srcF List.nodup_nil (fun b hb => by cases hb) ?sa ?sb ?sc ?_)
   try (case sa => have := HS.out.turns; simp; omega)
   try (case sb => have := HS.out.turns; simp; omega)
   try (case sc => have := N9.out; have := N10.out; omega)
   intro p11 c11 w11 b11 hO11 hT11 hm11
   try rw [List.nil_append, show ([] : List TurnD).length + d.Turns.length = d.Turns.length by simp] at hO11
   (try rw [show ([] : List TurnD).length + d.Turns.length = d.Turns.length by simp])
   have T11 := hid hO11
   have X11 := hid (bx_tchM X10.out hT11 (by simp))
   have Z11 := hid (bx_tchM Z10.out hT11 (by simp))
   have O11 := hid (O10.out.tch hT11 (fun b h9 hm => by cases hm))
   have K11 := hid (K10.out.tch hT11 (fun b h9 hm => by cases hm))
   have B11 := hid (below_tch B10.out hT11 (fun x hx => by cases hx))
   have D11 := hid (fun b (h9 : b ∈ b11) => show w10.heap.size ≤ b from by have h3 := hm11 b h9; (try simp at h3); omega)
   have LK := hid (fun b (h9 : b ∈ b9) => show b < w10.heap.size from (K10.out.lts b h9).2)
   clear hO11 hT11 hm11 X10 HX10 Z10 O10 K10 B10 S10 xo xf xl y5
   have xo := X11.out.out; have xf := X11.out.fr; have xl := X11.out.f.lt
   go_upto_region 10 with fail
   refine late_genw (fun w12 hw12 => ?_)
   have k12 : ∀ k, k ≠ w.heap.size + 2 → w12.heap[k]? = w11.heap[k]? := fun k hk => by rw [hw12]; exact Below.heap_setCell _ _ _ _ hk
   have X12 := hid (show Bx w12 (w.heap.size + 2) [Value.int .i64 d.Room, .int .i64 d.Fuse, .int .i64 d.Next, .slice p d.Nodes.length c, .slice p9 d.Kept.length c9, .slice p11 d.Turns.length c11].toArray by rw [hw12]; exact X11.out.setSame 5 _)
   have Z12 := hid (Z11.out.keep (k12 _ (by omega)))
   have F12 := hid (show DiskF 104 127 106 5 (w.heap.size + 3) w12 d (.slice p d.Nodes.length c) (.slice p9 d.Kept.length c9) (.slice p11 d.Turns.length c11) b' b9 b11 from
    ⟨J0.out, J1.out, J2.out, by rw [← HD1.out]; exact O11.out.keep (fun b h9 => k12 b (by have := (LO.out b h9).1; omega)), K11.out.keep (fun b h9 => k12 b (by have := (K11.out.lts b h9).1; omega)), T11.out.keep (fun b h9 => k12 b (by have := (T11.out.lts b h9).1; omega)),
     fun b h1 h2 => by have := (LO.out b h1).2; have := D9.out b h2; omega, fun b h1 h2 => by have := (LO.out b h1).2; have := D11.out b h2; have := N10.out; have := W9.out; omega, fun b h1 h2 => by have := LK.out b h1; have := D11.out b h2; omega⟩)
   have B12 := hid (show Below w.heap.size w w12 by rw [hw12]; exact B11.out.setCell (by simp) _)
   clear hw12 k12 X11 Z11 O11 K11 T11 B11 xo xf xl LO LK D9 D11 hki HL HC1 I0 I2 CS
   obtain ⟨R, hR⟩ : ∃ R : List Value, R = [Value.int .i64 d.Room, .int .i64 d.Fuse, .int .i64 d.Next, .slice p d.Nodes.length c, .slice p9 d.Kept.length c9, .slice p11 d.Turns.length c11] := ⟨_, rfl⟩
   rw [← hR] at X12
   have HL := hid (show R.length = 6 by rw [hR]; rfl)
   have HC1 := hid (show R.toArray.all (·.oneCell') = true by rw [hR]; simp [Value.oneCell'])
   have HR := hid hR
   have I1 := hid (show (Tryz.prog.info? 35).map (·.size) = some R.length by rw [HL.out]; exact I6.out)
   have CR := hid (show R.toArray.size = 6 by rw [List.size_toArray]; exact HL.out)
   have I2 := hid (show (Tryz.prog.info? 35).map (·.size) = some R.toArray.size by rw [CR.out]; exact I6.out)
   have TH := hid (show w12.there (w.heap.size + 1) 0 R.toArray.size by rw [CR.out]; exact Z12.out.there 0 6 (by simp))
   clear hR
   go_wp2_with (first | (refine wpList_load_mid rfl 35 _ rfl (w.heap.size + 2) 0 rfl R _ X12.out.all Tryz.underlying35 rfl I1.out ?_) | (refine wpList_store_mid rfl 35 _ _ rfl (w.heap.size + 1) 0 R.toArray rfl rfl TH.out I2.out HC1.out ?_))
   have X13 := hid (show Bx (w12.setCells (w.heap.size + 1) 0 R.toArray.toList) (w.heap.size + 1) R.toArray from Z12.out.setAll R (by rw [HL.out]; simp))
   refine bodyPost_ret (v := .agg R.toArray) (results_mid rfl rfl R X13.out.all Tryz.underlying35 rfl I1.out) rfl ?_
   refine ⟨_, _, _, b', b9, b11, by rw [HR.out], (F12.out.mono (by omega)).keep (fun b hb => setCells_heap _ _ _ _ _ ?_), Below.setCells _ (by omega) _ _ B12.out⟩
   have := F12.out.lts b hb
   omega
end Go.Proofs.YtdjcjilipgpnmaaGreat
