/- A copy of a disk, as the reference makes it (printed by gencpys.py). -/
import Derived.Test.YtdjcjilipgpnmaaGreatKNdF
set_option linter.unusedSimpArgs false
set_option linter.unusedVariables false
namespace Go.G6
open Go Go.RowKit Rep
theorem f2_of {α β : Type} [Rep α] [Rep β] {lo : Nat} {w : World} {e1 e2 : TypeId} {v1 v2 : Value} {b1 b2 bs : List Nat} {x1 : List α} {x2 : List β} {t : TypeId} {cs : Array Value} (_hd : ∀ b ∈ b1, b ∉ b2) (h1 : OwnL lo w e1 v1 b1 x1) (h2 : OwnL lo w e2 v2 b2 x2) (hn : ∀ b, b ∈ b1 ∨ b ∈ b2 → b ∉ bs) :
  ∀ b ∈ b1 ++ b2, lo ≤ b ∧ Fr (w.alloc (.cells cs t)) b ∧ b ∉ bs := fun b hb => by
 rcases List.mem_append.1 hb with hb | hb
 ·exact ⟨(h1.lts b hb).1, (h1.fr b hb).keep (Below.heap_alloc _ _ _ (h1.lts b hb).2), hn b (.inl hb)⟩
 ·exact ⟨(h2.lts b hb).1, (h2.fr b hb).keep (Below.heap_alloc _ _ _ (h2.lts b hb).2), hn b (.inr hb)⟩
theorem fresh2 {b1 b2 : List Nat} {N : Nat} (h1 : ∀ b ∈ b1, N ≤ b) (h2 : ∀ b ∈ b2, N ≤ b) : ∀ b, b ∈ b1 ∨ b ∈ b2 → N ≤ b := fun b hb => hb.elim (h1 b) (h2 b)
end Go.G6
namespace Go.Proofs.YtdjcjilipgpnmaaGreat
open Go Go.RowKit Go.G6
set_option maxHeartbeats 6000000
set_option maxRecDepth 10000
theorem s_l03Copy {w : World} {bs : List Nat} {cs : List Value} {d : DiskD} (h : Rep.pt w bs cs d) (hs : Small d) :
  Calls Tryz.prog 50 #[.agg cs.toArray] w (RetDF 104 127 106 5 w d) := by
 obtain ⟨b3, b4, b5, a3, l3, k3, a4, l4, k4, a5, l5, k5, rfl, rfl, h0, h1, h2, h3, h4, h5⟩ := open_Disk h
 obtain rfl := h3.len_eq
 obtain rfl := h4.len_eq
 obtain rfl := h5.len_eq
 obtain ⟨i0, hi, hz0, hz1, hz2⟩ := info_parts info_byte
 obtain ⟨i1, hi1, hz01, hz11, hz21⟩ := info_parts info_NodeF
 obtain ⟨i2, hi2, hz02, hz12, hz22⟩ := info_parts info_LinkF
 obtain ⟨i3, hi3, hz03, hz13, hz23⟩ := info_parts info_TurnF
 have m3 := h3.max; have m4 := h4.max; have m5 := h5.max
 have H3 := hid h3; have H4 := hid h4; have H5 := hid h5; have HS := hid hs
 have J0 := hid h0; have J1 := hid h1; have J2 := hid h2
 clear h h0 h1 h2 h3 h4 h5 hs
 have I0 := hid (show (Tryz.prog.info? 35).map (·.size) = some 6 by kernel_rfl)
 obtain ⟨C, hC⟩ : ∃ C : List Value, C = [.int .i64 d.Room, .int .i64 d.Fuse, .int .i64 d.Next, .slice a3 d.Nodes.length k3, .slice a4 d.Kept.length k4, .slice a5 d.Turns.length k5] := ⟨_, rfl⟩
 obtain ⟨Z, hZ⟩ : ∃ Z : Array Value, Z = #[.int .i64 0, .int .i64 0, .int .i64 0, .slice none 0 0, .slice none 0 0, .slice none 0 0] := ⟨_, rfl⟩
 have HX := hid (Bx.alloc (Bx.new w C.toArray 35 rfl) (by simp) (.cells Z 35))
 have HZ := hid (Bx.new (w.alloc (.cells C.toArray 35)) Z 35 (b := w.heap.size + 1) (by simp))
 have hb0 := hid (((Below.refl w.heap.size w).alloc (Nat.le_refl _) (.cells C.toArray 35)).alloc (by simp) (.cells Z 35))
 obtain ⟨wA, hwA⟩ : ∃ wA, wA = (w.alloc (.cells C.toArray 35)).alloc (.cells Z 35) := ⟨_, rfl⟩
 have hsA : wA.heap.size = w.heap.size + 2 := by rw [hwA]; simp
 rw [← hwA] at hb0 HX HZ
 subst hC
 subst hZ
 have x3 := HX.out.out 3
 have X3 := hid x3; have SA := hid hsA
 go_enter Tryz.func50, Tryz.ntmps50
 go_upto_region 1 with fail
 rw [← hwA]
 clear hwA x3 hsA
 go_upto_region 2 with fail
 refine late_genw (fun w1 hw1 => ?_)
 have hb1 : Below wA.heap.size wA w1 := by rw [hw1]; exact (Below.refl _ _).alloc (Nat.le_refl _) _
 have HO := hid (show OwnL wA.heap.size w1 104 (.slice (some ⟨wA.heap.size, 0, none⟩) 0 0) [wA.heap.size] ([] : List (NodeF 5)) by rw [hw1]; exact ownL_empty rfl (Nat.le_refl _))
 have HB := hid hb1
 have x3 : w1.cell? ⟨w.heap.size, 3, none⟩ = some (.slice a3 d.Nodes.length k3) := ((bcell hb1).1 _ 3 HX.out.f.lt).trans X3.out
 clear hw1 hb1 X3
 go_wp2_with fail
 go_loopw [3, 10] (fun o i wr => ∃ (k : Nat) (p : Option Addr) (c : Nat) (b' : List Nat) (m : Nat) (don : List (NodeF 5)), k ≤ d.Nodes.length ∧ m = don.length ∧ m = k ∧ o = .slice p m c ∧ i = .int .i64 (k : Int) ∧ OwnL wA.heap.size wr 104 (.slice p m c) b' don ∧ don = (d.Nodes.take k).map (NF 5) ∧ Below wA.heap.size wA wr) (fun _ i _ => d.Nodes.length - (intOf i).toNat)
 case atStart => exact ⟨0, some ⟨wA.heap.size, 0, none⟩, 0, [wA.heap.size], 0, [], Nat.zero_le _, rfl, rfl, rfl, rfl, HO.out, rfl, HB.out⟩
 case round =>
  clear HO HB
  obtain ⟨k, p, c, b', m, don, hk, hm, hmk, rfl, rfl, hO, hd, hb⟩ := hrel
  obtain rfl : m = k := hmk
  have HOr := hid hO; have HD := hid hd; have HBr := hid hb; have HM := hid hm
  clear hO hd hm
  have hnn := HS.out.nodes
  by_cases hlt : m < d.Nodes.length
  ·obtain ⟨g1, o1, cs1, _, rfl, _, hp1, _, hA1⟩ := (H3.out.grow (hb0.out.trans (hb.mono hb0.out.size))).elem m hlt
   obtain ⟨y1, y2, e1, n1, f1, e2, n2, f2, _, rfl, q1, q2, q3⟩ := open_Node hp1
   obtain rfl := q2.len_eq
   obtain rfl := q3.len_eq
   have c0 : wr.cell? ⟨g1, o1 + m * 3, none⟩ = some _ := hA1 0 _ rfl
   have c1 : wr.cell? ⟨g1, o1 + m * 3 + 1, none⟩ = some _ := hA1 1 _ rfl
   have c2 : wr.cell? ⟨g1, o1 + m * 3 + 2, none⟩ = some _ := hA1 2 _ rfl
   have hst : (d.Nodes.take m).map (NF 5) ++ [NF 5 d.Nodes[m]] = (d.Nodes.take (m + 1)).map (NF 5) := by rw [List.take_succ_eq_append_getElem hlt, List.map_append]; rfl
   have hbd := HS.out.body d.Nodes[m] (List.getElem_mem hlt)
   have hki : (m : Int) < (d.Nodes.length : Int) := by omega
   obtain ⟨x, hx⟩ : ∃ x, x = d.Nodes[m] := ⟨_, rfl⟩
   rw [← hx] at hst hbd c0 c1 c2 q1 q2 q3
   have HST := hid hst; have HBD := hid hbd; have Q1 := hid q1; have QB := hid q2; have QS := hid q3
   clear hst hbd hp1 hA1 hx hb q1 q2 q3
   go_upto_region 5 with fail
   refine late_genw (fun w4 hw4 => ?_)
   have hbb : Below wr.heap.size wr w4 := by rw [hw4]; exact (Below.refl _ _).alloc (Nat.le_refl _) _
   have X := show Bx w4 wr.heap.size #[.int .i64 x.Id, .slice e1 x.Body.length f1, .slice e2 x.Safe.length f2] by rw [hw4]; exact Bx.new _ _ _ rfl
   have y0 : w4.cell? ⟨wr.heap.size, 0, none⟩ = some (.int .i64 x.Id) := X.out 0
   have y1 : w4.cell? ⟨wr.heap.size, 1, none⟩ = some (.slice e1 x.Body.length f1) := X.out 1
   have y2 : w4.cell? ⟨wr.heap.size, 2, none⟩ = some (.slice e2 x.Safe.length f2) := X.out 2
   have LB := hid (fun b (hb : b ∈ b') => show b < w4.heap.size from Nat.lt_of_lt_of_le (HOr.out.lts b hb).2 hbb.size)
   have hlt4 : wr.heap.size < w4.heap.size := X.f.lt
   have LR := hid hlt4
   have LNBx := hid (show wr.heap.size ∉ b' from fun hm => absurd (HOr.out.lts _ hm).2 (Nat.lt_irrefl _))
   have O4 := hid (HOr.out.grow hbb); have B4 := hid (HBr.out.trans (hbb.mono HBr.out.size))
   have Y4 := hid (QB.out.grow hbb); have S4 := hid (QS.out.grow hbb)
   clear hw4 hbb X c0 c1 c2 HOr HBr QB QS hlt4
   have NO : Hid (wr.heap.size ∉ ([] : List Nat)) := hid (by simp)
   go_wp2_with fail
   refine late_start (fun V => V.cell? ⟨wr.heap.size, 0, none⟩ = some (.int .i64 x.Id) ∧ V.cell? ⟨wr.heap.size, 1, none⟩ = some (.slice e1 x.Body.length f1) ∧ V.cell? ⟨wr.heap.size, 2, none⟩ = some (.slice e2 x.Safe.length f2)) 99 (by kernel_rfl) ?_ (fun hS => ?_)
   ·exact ⟨y0, y1, y2⟩
   refine late_genw (fun wD hwD => ?_)
   have hzD : wD.heap.size = w4.heap.size := by rw [hwD]; rfl
   have hbD : Below w4.heap.size w4 wD := by rw [hwD]; exact (Below.refl _ _).drew
   rw [← hwD] at hS
   have ZD := hid hzD
   have O5 := hid (O4.out.grow hbD); have B5 := hid (B4.out.trans (hbD.mono B4.out.size))
   have Y5 := hid (Y4.out.grow hbD); have S5 := hid (S4.out.grow hbD)
   clear hwD hzD hbD O4 B4 Y4 S4 y0 y1 y2
   refine ltk 0 rfl ?_
   try simp only [Act.put, putZ, List.getElem_toArray, List.getElem_cons_zero, List.getElem_cons_succ]
   refine ltk 1 rfl ?_
   try simp only [Act.put, putZ, List.getElem_toArray, List.getElem_cons_zero, List.getElem_cons_succ]
   refine ltk 2 rfl ?_
   try simp only [Act.put, putZ, List.getElem_toArray, List.getElem_cons_zero, List.getElem_cons_succ]
   refine ltk 4 rfl ?_
   try simp only [Act.put, putZ, List.getElem_toArray, List.getElem_cons_zero, List.getElem_cons_succ]
   refine ltk 5 rfl ?_
   try simp only [Act.put, putZ, List.getElem_toArray, List.getElem_cons_zero, List.getElem_cons_succ]
   refine ltk 8 rfl ?_
   try simp only [Act.put, putZ, List.getElem_toArray, List.getElem_cons_zero, List.getElem_cons_succ]
   refine ltk 9 rfl ?_
   try simp only [Act.put, putZ, List.getElem_toArray, List.getElem_cons_zero, List.getElem_cons_succ]
   have YL := hid (fun b (hb : b ∈ _) => (Y5.out.lts b hb).2)
   have SL := hid (fun b (hb : b ∈ _) => (S5.out.lts b hb).2)
   have LNB := hid (show wr.heap.size ∉ b' from fun hm => LNBx.out hm)
   refine late_two (i := 3) (j := 7) rfl rfl (by kernel_rfl) (fun K9 hK9 => ?_) (fun K9 hK9 => ?_)
   ·skip
    go_simp
    refine hK9.out _ _ (fun _ => ?_) (fun hS9 => ?_)
    ·(try dsimp only); exact ⟨cellc ((Tch.refl [] _).alloc _) hS.1 (by simp), cellc ((Tch.refl [] _).alloc _) hS.2.1 (by simp), cellc ((Tch.refl [] _).alloc _) hS.2.2 (by simp)⟩
    replace hS := hS9 (by decide)
    clear hK9 K9 hS9
    try simp only [Act.put, putZ, List.getElem_toArray, List.getElem_cons_zero, List.getElem_cons_succ]
    refine late_genw (fun V1 hV1 => ?_)
    rw [← hV1] at hS
    have hbV1 : Below wD.heap.size wD V1 := by rw [hV1]; exact (Below.refl _ _).alloc (Nat.le_refl _) _
    have ZV1 := hid (show V1.heap.size = wD.heap.size + 1 by rw [hV1]; simp)
    have EA := hid (show OwnL wA.heap.size V1 5 (.slice (some ⟨wD.heap.size, 0, none⟩) 0 0) [wD.heap.size] ([] : List UInt8) by rw [hV1]; exact ownL_empty rfl B5.out.size)
    have O11 := hid (O5.out.grow hbV1)
    clear O5
    have Y11 := hid (Y5.out.grow hbV1)
    clear Y5
    have S11 := hid (S5.out.grow hbV1)
    clear S5
    have B11 := hid (B5.out.trans (hbV1.mono B5.out.size))
    clear B5
    clear hV1 hbV1
    refine late_two (i := 6) (j := 7) rfl rfl (by kernel_rfl) (fun K9 hK9 => ?_) (fun K9 hK9 => ?_)
    ·as_aux_lemma =>
      refine step_append rfl _ _ 54 rfl 5 i0 (.int .u8 0) 1 Tryz.underlying54 hi hz0 hz1 hz2 rfl (lo := wA.heap.size) (bs := [wD.heap.size]) (xs := ([] : List UInt8)) rfl EA.out (b2 := []) (ys := x.Body) rfl Y11.out.srcF List.nodup_nil (fun b hb => by cases hb) ?qa2 ?qb2 ?qc2 ?_
      try (case qa2 => have := HBD.out; simp; omega)
      try (case qb2 => have := HBD.out; simp; omega)
      try (case qc2 => exact B11.out.size)
      intro p2 c2 V2 b2 hO2 hT2 hm2
      rw [List.nil_append, show ([] : List UInt8).length + x.Body.length = x.Body.length by simp] at hO2
      (try rw [show ([] : List UInt8).length + x.Body.length = x.Body.length by simp])
      have FA2 := hid hO2
      refine hK9.out _ _ (fun _ => ?_) (fun hS9 => ?_)
      ·(try dsimp only); exact ⟨cellc hT2 hS.1 (fun hm => by have h1 := LR.out; have := ZD.out; have := ZV1.out; (try simp at hm); omega), cellc hT2 hS.2.1 (fun hm => by have h1 := LR.out; have := ZD.out; have := ZV1.out; (try simp at hm); omega), cellc hT2 hS.2.2 (fun hm => by have h1 := LR.out; have := ZD.out; have := ZV1.out; (try simp at hm); omega)⟩
      replace hS := hS9 (by decide)
      clear hK9 K9 hS9
      try simp only [Act.put, putZ, List.getElem_toArray, List.getElem_cons_zero, List.getElem_cons_succ]
      have O12 := hid (O11.out.tch hT2 (fun b hb hm => by have h1 := LB.out b hb; have := ZD.out; have := ZV1.out; (try simp at hm); omega))
      clear O11
      have Y12 := hid (Slc.tch Y11.out hT2 (fun b hb hm => by have h1 := YL.out b hb; have := ZD.out; have := ZV1.out; (try simp at hm); omega))
      clear Y11
      have S12 := hid (Slc.tch S11.out hT2 (fun b hb hm => by have h1 := SL.out b hb; have := ZD.out; have := ZV1.out; (try simp at hm); omega))
      clear S11
      have B12 := hid (below_tch B11.out hT2 EA.out.lts)
      clear B11
      have ZV2 := hid (show V1.heap.size ≤ V2.heap.size from hT2.size)
      have LTA := hid (fun b (h2 : b ∈ b2) => show b < V2.heap.size from (FA2.out.lts b h2).2)
      have FRA := hid (fun b (h2 : b ∈ b2) => show w4.heap.size ≤ b from by rcases hm2 _ h2 with h3 | h3 | h3; (have := ZD.out; have := ZV1.out; have := ZV2.out; (try simp at h3); omega); cases h3; (have := ZD.out; have := ZV1.out; have := ZV2.out; omega))
      clear EA hO2 hT2 hm2
      refine late_one (i := 7) rfl (by kernel_rfl) (fun K9 hK9 => ?_)
      go_simp
      refine hK9.out _ _ (fun _ => ?_) (fun hS9 => ?_)
      ·(try dsimp only); exact ⟨cellc ((Tch.refl [] _).alloc _) hS.1 (by simp), cellc ((Tch.refl [] _).alloc _) hS.2.1 (by simp), cellc ((Tch.refl [] _).alloc _) hS.2.2 (by simp)⟩
      replace hS := hS9 (by decide)
      clear hK9 K9 hS9
      try simp only [Act.put, putZ, List.getElem_toArray, List.getElem_cons_zero, List.getElem_cons_succ]
      refine late_genw (fun V3 hV3 => ?_)
      rw [← hV3] at hS
      have hbV3 : Below V2.heap.size V2 V3 := by rw [hV3]; exact (Below.refl _ _).alloc (Nat.le_refl _) _
      have ZV3 := hid (show V3.heap.size = V2.heap.size + 1 by rw [hV3]; simp)
      have EB := hid (show OwnL wA.heap.size V3 5 (.slice (some ⟨V2.heap.size, 0, none⟩) 0 0) [V2.heap.size] ([] : List UInt8) by rw [hV3]; exact ownL_empty rfl B12.out.size)
      have O13 := hid (O12.out.grow hbV3)
      clear O12
      have Y13 := hid (Y12.out.grow hbV3)
      clear Y12
      have S13 := hid (S12.out.grow hbV3)
      clear S12
      have B13 := hid (B12.out.trans (hbV3.mono B12.out.size))
      clear B12
      have FA2x3 := hid (FA2.out.grow hbV3)
      clear FA2
      clear hV3 hbV3
      have NB := hid (show V2.heap.size ∉ b2 from fun h2 => absurd (LTA.out _ h2) (by omega))
      refine late_one (i := 10) rfl (by kernel_rfl) (fun K9 hK9 => ?_)
      refine step_append rfl _ _ 54 rfl 5 i0 (.int .u8 0) 1 Tryz.underlying54 hi hz0 hz1 hz2 rfl (lo := wA.heap.size) (bs := [V2.heap.size]) (xs := ([] : List UInt8)) rfl EB.out (b2 := []) (ys := x.Safe) rfl S13.out.srcF List.nodup_nil (fun b hb => by cases hb) ?qa4 ?qb4 ?qc4 ?_
      try (case qa4 => have := HBD.out; simp; omega)
      try (case qb4 => have := HBD.out; simp; omega)
      try (case qc4 => exact B13.out.size)
      intro p4 c4 V4 b4 hO4 hT4 hm4
      rw [List.nil_append, show ([] : List UInt8).length + x.Safe.length = x.Safe.length by simp] at hO4
      (try rw [show ([] : List UInt8).length + x.Safe.length = x.Safe.length by simp])
      have FB4 := hid hO4
      refine hK9.out _ _ (fun _ => ?_) (fun hS9 => ?_)
      ·(try dsimp only); exact ⟨cellc hT4 hS.1 (fun hm => by have h1 := LR.out; have := ZD.out; have := ZV1.out; have := ZV2.out; have := ZV3.out; (try simp at hm); omega), cellc hT4 hS.2.1 (fun hm => by have h1 := LR.out; have := ZD.out; have := ZV1.out; have := ZV2.out; have := ZV3.out; (try simp at hm); omega), cellc hT4 hS.2.2 (fun hm => by have h1 := LR.out; have := ZD.out; have := ZV1.out; have := ZV2.out; have := ZV3.out; (try simp at hm); omega)⟩
      replace hS := hS9 (by decide)
      clear hK9 K9 hS9
      try simp only [Act.put, putZ, List.getElem_toArray, List.getElem_cons_zero, List.getElem_cons_succ]
      have O14 := hid (O13.out.tch hT4 (fun b hb hm => by have h1 := LB.out b hb; have := ZD.out; have := ZV1.out; have := ZV2.out; have := ZV3.out; (try simp at hm); omega))
      clear O13
      have Y14 := hid (Slc.tch Y13.out hT4 (fun b hb hm => by have h1 := YL.out b hb; have := ZD.out; have := ZV1.out; have := ZV2.out; have := ZV3.out; (try simp at hm); omega))
      clear Y13
      have S14 := hid (Slc.tch S13.out hT4 (fun b hb hm => by have h1 := SL.out b hb; have := ZD.out; have := ZV1.out; have := ZV2.out; have := ZV3.out; (try simp at hm); omega))
      clear S13
      have B14 := hid (below_tch B13.out hT4 EB.out.lts)
      clear B13
      have ND := hid (fun b (hb : b ∈ b2) => show b ≠ V2.heap.size from fun hb9 => by subst hb9; exact absurd hb NB.out)
      have FA2x3x4 := hid (FA2x3.out.tch hT4 (fun b hb hm => by (try simp at hm); exact ND.out b hb hm))
      have DJ := hid (show ∀ b ∈ b2, b ∉ b4 from fun b hb h2 => by rcases hm4 b h2 with h3 | h3 | h3; exact ND.out b hb (by simpa using h3); cases h3; exact absurd (FA2x3.out.lts b hb).2 (by omega))
      clear FA2x3
      have ZV4 := hid (show V3.heap.size ≤ V4.heap.size from hT4.size)
      have FRB := hid (fun b (h2 : b ∈ b4) => show w4.heap.size ≤ b from by rcases hm4 _ h2 with h3 | h3 | h3; (have := ZD.out; have := ZV1.out; have := ZV2.out; have := ZV3.out; have := ZV4.out; (try simp at h3); omega); cases h3; (have := ZD.out; have := ZV1.out; have := ZV2.out; have := ZV3.out; have := ZV4.out; omega))
      clear EB hO4 hT4 hm4
      refine ltk 11 rfl ?_
      try simp only [Act.put, putZ, List.getElem_toArray, List.getElem_cons_zero, List.getElem_cons_succ]
      refine late_one (i := 12) rfl (by kernel_rfl) (fun K9 hK9 => ?_)
      go_simp
      refine hK9.out _ _ (fun _ => ?_) (fun hS9 => ?_)
      ·(try dsimp only); exact ⟨cellc ((Tch.refl [] _).alloc _) hS.1 (by simp), cellc ((Tch.refl [] _).alloc _) hS.2.1 (by simp), cellc ((Tch.refl [] _).alloc _) hS.2.2 (by simp)⟩
      replace hS := hS9 (by decide)
      clear hK9 K9 hS9
      try simp only [Act.put, putZ, List.getElem_toArray, List.getElem_cons_zero, List.getElem_cons_succ]
      refine late_one (i := 13) rfl (by kernel_rfl) (fun K9 hK9 => ?_)
      refine step_append rfl _ _ 31 rfl 104 i1 (.agg #[.int .i64 0, .slice none 0 0, .slice none 0 0]) 56 Tryz.underlying31 hi1 hz01 hz11 hz21 rfl (lo := wA.heap.size) (bs := b') (xs := don) rfl (O14.out.alloc _) (b2 := b2 ++ b4) (ys := [NF 5 x]) rfl ?src5 (nodup2 FA2x3x4.out.nodup FB4.out.nodup DJ.out) ?f25 ?qa5 ?qb5 ?qc5 ?_
      case src5 => exact src_new (cs := [_, _, _]) (nf_mk Q1.out (FA2x3x4.out.mono (Nat.zero_le _)) (FB4.out.mono (Nat.zero_le _))) rfl _ _
      case f25 => exact f2_of DJ.out FA2x3x4.out FB4.out (fun b h2 hm => absurd (LB.out b hm) (by have h3 := (fresh2 FRA.out FRB.out b h2); omega))
      try (case qa5 => have := HM.out; simp; omega)
      try (case qb5 => have := HM.out; simp; omega)
      try (case qc5 => have := B14.out.size; simp; omega)
      intro p5 c5 W5 b5 hO5 hT5 hm5
      have HL := hid (show don.length + 1 = m + 1 by rw [HM.out])
      have E9 := hid (show don ++ [NF 5 x] = (d.Nodes.take (m + 1)).map (NF 5) by rw [HD.out, HST.out])
      have HO9 := hid (show OwnL wA.heap.size W5 104 (.slice p5 (m + 1) c5) b5 (don ++ [NF 5 x]) by have h1 := hO5; rw [List.length_singleton, HL.out] at h1; exact h1)
      (try rw [List.length_singleton])
      rw [HL.out]
      have HB9 := hid (below_tch (B14.out.alloc B14.out.size _) hT5 (O14.out.alloc _).lts)
      refine hK9.out _ _ (fun _ => ?_) (fun hS9 => ?_)
      ·(try dsimp only); exact ⟨cellc hT5 hS.1 (fun hm => absurd hm LNB.out), cellc hT5 hS.2.1 (fun hm => absurd hm LNB.out), cellc hT5 hS.2.2 (fun hm => absurd hm LNB.out)⟩
      replace hS := hS9 (by decide)
      clear hK9 K9 hS9
      try simp only [Act.put, putZ, List.getElem_toArray, List.getElem_cons_zero, List.getElem_cons_succ]
      have HM9 := hid (show m + 1 = (don ++ [NF 5 x]).length by rw [List.length_append, HM.out]; rfl)
      refine ltk 14 rfl ?_
      try simp only [Act.put, putZ, List.getElem_toArray, List.getElem_cons_zero, List.getElem_cons_succ]
      refine late_done (by kernel_rfl) ?_ _
      clear hS hO5 hT5 hm5
      go_wp2
      exact ⟨⟨m + 1, p5, c5, b5, m + 1, don ++ [NF 5 x], by omega, HM9.out, rfl, rfl, by go_num, HO9.out, E9.out, HB9.out⟩, by simp [intOf]; try omega⟩
    ·as_aux_lemma =>
      go_simp
      refine hK9.out _ _ (fun _ => ?_) (fun hS9 => ?_)
      ·(try dsimp only); exact ⟨cellc ((Tch.refl [] _).alloc _) hS.1 (by simp), cellc ((Tch.refl [] _).alloc _) hS.2.1 (by simp), cellc ((Tch.refl [] _).alloc _) hS.2.2 (by simp)⟩
      replace hS := hS9 (by decide)
      clear hK9 K9 hS9
      try simp only [Act.put, putZ, List.getElem_toArray, List.getElem_cons_zero, List.getElem_cons_succ]
      refine late_genw (fun V6 hV6 => ?_)
      rw [← hV6] at hS
      have hbV6 : Below V1.heap.size V1 V6 := by rw [hV6]; exact (Below.refl _ _).alloc (Nat.le_refl _) _
      have ZV6 := hid (show V6.heap.size = V1.heap.size + 1 by rw [hV6]; simp)
      have EB := hid (show OwnL wA.heap.size V6 5 (.slice (some ⟨V1.heap.size, 0, none⟩) 0 0) [V1.heap.size] ([] : List UInt8) by rw [hV6]; exact ownL_empty rfl B11.out.size)
      have O16 := hid (O11.out.grow hbV6)
      clear O11
      have Y16 := hid (Y11.out.grow hbV6)
      clear Y11
      have S16 := hid (S11.out.grow hbV6)
      clear S11
      have B16 := hid (B11.out.trans (hbV6.mono B11.out.size))
      clear B11
      have EAx6 := hid (EA.out.grow hbV6)
      clear EA
      clear hV6 hbV6
      refine late_one (i := 6) rfl (by kernel_rfl) (fun K9 hK9 => ?_)
      refine step_append rfl _ _ 54 rfl 5 i0 (.int .u8 0) 1 Tryz.underlying54 hi hz0 hz1 hz2 rfl (lo := wA.heap.size) (bs := [wD.heap.size]) (xs := ([] : List UInt8)) rfl EAx6.out (b2 := []) (ys := x.Body) rfl Y16.out.srcF List.nodup_nil (fun b hb => by cases hb) ?qa7 ?qb7 ?qc7 ?_
      try (case qa7 => have := HBD.out; simp; omega)
      try (case qb7 => have := HBD.out; simp; omega)
      try (case qc7 => exact B16.out.size)
      intro p7 c7 V7 b7 hO7 hT7 hm7
      rw [List.nil_append, show ([] : List UInt8).length + x.Body.length = x.Body.length by simp] at hO7
      (try rw [show ([] : List UInt8).length + x.Body.length = x.Body.length by simp])
      have FA7 := hid hO7
      refine hK9.out _ _ (fun _ => ?_) (fun hS9 => ?_)
      ·(try dsimp only); exact ⟨cellc hT7 hS.1 (fun hm => by have h1 := LR.out; have := ZD.out; have := ZV1.out; have := ZV6.out; (try simp at hm); omega), cellc hT7 hS.2.1 (fun hm => by have h1 := LR.out; have := ZD.out; have := ZV1.out; have := ZV6.out; (try simp at hm); omega), cellc hT7 hS.2.2 (fun hm => by have h1 := LR.out; have := ZD.out; have := ZV1.out; have := ZV6.out; (try simp at hm); omega)⟩
      replace hS := hS9 (by decide)
      clear hK9 K9 hS9
      try simp only [Act.put, putZ, List.getElem_toArray, List.getElem_cons_zero, List.getElem_cons_succ]
      have O17 := hid (O16.out.tch hT7 (fun b hb hm => by have h1 := LB.out b hb; have := ZD.out; have := ZV1.out; have := ZV6.out; (try simp at hm); omega))
      clear O16
      have Y17 := hid (Slc.tch Y16.out hT7 (fun b hb hm => by have h1 := YL.out b hb; have := ZD.out; have := ZV1.out; have := ZV6.out; (try simp at hm); omega))
      clear Y16
      have S17 := hid (Slc.tch S16.out hT7 (fun b hb hm => by have h1 := SL.out b hb; have := ZD.out; have := ZV1.out; have := ZV6.out; (try simp at hm); omega))
      clear S16
      have B17 := hid (below_tch B16.out hT7 EAx6.out.lts)
      clear B16
      have EBx7 := hid (EB.out.tch hT7 (fun b hb hm => by have := ZD.out; have := ZV1.out; have := ZV6.out; (try simp at hm hb); omega))
      clear EB
      have NB := hid (show V1.heap.size ∉ b7 from fun h2 => by rcases hm7 _ h2 with h3 | h3 | h3; (have := ZD.out; have := ZV1.out; have := ZV6.out; (try simp at h3); omega); cases h3; (have := ZD.out; have := ZV1.out; have := ZV6.out; omega))
      have ZV7 := hid (show V6.heap.size ≤ V7.heap.size from hT7.size)
      have FRA := hid (fun b (h2 : b ∈ b7) => show w4.heap.size ≤ b from by rcases hm7 _ h2 with h3 | h3 | h3; (have := ZD.out; have := ZV1.out; have := ZV6.out; have := ZV7.out; (try simp at h3); omega); cases h3; (have := ZD.out; have := ZV1.out; have := ZV6.out; have := ZV7.out; omega))
      clear EAx6 hO7 hT7 hm7
      refine late_one (i := 10) rfl (by kernel_rfl) (fun K9 hK9 => ?_)
      refine step_append rfl _ _ 54 rfl 5 i0 (.int .u8 0) 1 Tryz.underlying54 hi hz0 hz1 hz2 rfl (lo := wA.heap.size) (bs := [V1.heap.size]) (xs := ([] : List UInt8)) rfl EBx7.out (b2 := []) (ys := x.Safe) rfl S17.out.srcF List.nodup_nil (fun b hb => by cases hb) ?qa8 ?qb8 ?qc8 ?_
      try (case qa8 => have := HBD.out; simp; omega)
      try (case qb8 => have := HBD.out; simp; omega)
      try (case qc8 => exact B17.out.size)
      intro p8 c8 V8 b8 hO8 hT8 hm8
      rw [List.nil_append, show ([] : List UInt8).length + x.Safe.length = x.Safe.length by simp] at hO8
      (try rw [show ([] : List UInt8).length + x.Safe.length = x.Safe.length by simp])
      have FB8 := hid hO8
      refine hK9.out _ _ (fun _ => ?_) (fun hS9 => ?_)
      ·(try dsimp only); exact ⟨cellc hT8 hS.1 (fun hm => by have h1 := LR.out; have := ZD.out; have := ZV1.out; have := ZV6.out; have := ZV7.out; (try simp at hm); omega), cellc hT8 hS.2.1 (fun hm => by have h1 := LR.out; have := ZD.out; have := ZV1.out; have := ZV6.out; have := ZV7.out; (try simp at hm); omega), cellc hT8 hS.2.2 (fun hm => by have h1 := LR.out; have := ZD.out; have := ZV1.out; have := ZV6.out; have := ZV7.out; (try simp at hm); omega)⟩
      replace hS := hS9 (by decide)
      clear hK9 K9 hS9
      try simp only [Act.put, putZ, List.getElem_toArray, List.getElem_cons_zero, List.getElem_cons_succ]
      have O18 := hid (O17.out.tch hT8 (fun b hb hm => by have h1 := LB.out b hb; have := ZD.out; have := ZV1.out; have := ZV6.out; have := ZV7.out; (try simp at hm); omega))
      clear O17
      have Y18 := hid (Slc.tch Y17.out hT8 (fun b hb hm => by have h1 := YL.out b hb; have := ZD.out; have := ZV1.out; have := ZV6.out; have := ZV7.out; (try simp at hm); omega))
      clear Y17
      have S18 := hid (Slc.tch S17.out hT8 (fun b hb hm => by have h1 := SL.out b hb; have := ZD.out; have := ZV1.out; have := ZV6.out; have := ZV7.out; (try simp at hm); omega))
      clear S17
      have B18 := hid (below_tch B17.out hT8 EBx7.out.lts)
      clear B17
      have ND := hid (fun b (hb : b ∈ b7) => show b ≠ V1.heap.size from fun hb9 => by subst hb9; exact absurd hb NB.out)
      have FA7x8 := hid (FA7.out.tch hT8 (fun b hb hm => by (try simp at hm); exact ND.out b hb hm))
      have DJ := hid (show ∀ b ∈ b7, b ∉ b8 from fun b hb h2 => by rcases hm8 b h2 with h3 | h3 | h3; exact ND.out b hb (by simpa using h3); cases h3; exact absurd (FA7.out.lts b hb).2 (by omega))
      clear FA7
      have ZV8 := hid (show V7.heap.size ≤ V8.heap.size from hT8.size)
      have FRB := hid (fun b (h2 : b ∈ b8) => show w4.heap.size ≤ b from by rcases hm8 _ h2 with h3 | h3 | h3; (have := ZD.out; have := ZV1.out; have := ZV6.out; have := ZV7.out; have := ZV8.out; (try simp at h3); omega); cases h3; (have := ZD.out; have := ZV1.out; have := ZV6.out; have := ZV7.out; have := ZV8.out; omega))
      clear EBx7 hO8 hT8 hm8
      refine ltk 11 rfl ?_
      try simp only [Act.put, putZ, List.getElem_toArray, List.getElem_cons_zero, List.getElem_cons_succ]
      refine late_one (i := 12) rfl (by kernel_rfl) (fun K9 hK9 => ?_)
      go_simp
      refine hK9.out _ _ (fun _ => ?_) (fun hS9 => ?_)
      ·(try dsimp only); exact ⟨cellc ((Tch.refl [] _).alloc _) hS.1 (by simp), cellc ((Tch.refl [] _).alloc _) hS.2.1 (by simp), cellc ((Tch.refl [] _).alloc _) hS.2.2 (by simp)⟩
      replace hS := hS9 (by decide)
      clear hK9 K9 hS9
      try simp only [Act.put, putZ, List.getElem_toArray, List.getElem_cons_zero, List.getElem_cons_succ]
      refine late_one (i := 13) rfl (by kernel_rfl) (fun K9 hK9 => ?_)
      refine step_append rfl _ _ 31 rfl 104 i1 (.agg #[.int .i64 0, .slice none 0 0, .slice none 0 0]) 56 Tryz.underlying31 hi1 hz01 hz11 hz21 rfl (lo := wA.heap.size) (bs := b') (xs := don) rfl (O18.out.alloc _) (b2 := b7 ++ b8) (ys := [NF 5 x]) rfl ?src9 (nodup2 FA7x8.out.nodup FB8.out.nodup DJ.out) ?f29 ?qa9 ?qb9 ?qc9 ?_
      case src9 => exact src_new (cs := [_, _, _]) (nf_mk Q1.out (FA7x8.out.mono (Nat.zero_le _)) (FB8.out.mono (Nat.zero_le _))) rfl _ _
      case f29 => exact f2_of DJ.out FA7x8.out FB8.out (fun b h2 hm => absurd (LB.out b hm) (by have h3 := (fresh2 FRA.out FRB.out b h2); omega))
      try (case qa9 => have := HM.out; simp; omega)
      try (case qb9 => have := HM.out; simp; omega)
      try (case qc9 => have := B18.out.size; simp; omega)
      intro p9 c9 W9 b9 hO9 hT9 hm9
      have HL := hid (show don.length + 1 = m + 1 by rw [HM.out])
      have E9 := hid (show don ++ [NF 5 x] = (d.Nodes.take (m + 1)).map (NF 5) by rw [HD.out, HST.out])
      have HO9 := hid (show OwnL wA.heap.size W9 104 (.slice p9 (m + 1) c9) b9 (don ++ [NF 5 x]) by have h1 := hO9; rw [List.length_singleton, HL.out] at h1; exact h1)
      (try rw [List.length_singleton])
      rw [HL.out]
      have HB9 := hid (below_tch (B18.out.alloc B18.out.size _) hT9 (O18.out.alloc _).lts)
      refine hK9.out _ _ (fun _ => ?_) (fun hS9 => ?_)
      ·(try dsimp only); exact ⟨cellc hT9 hS.1 (fun hm => absurd hm LNB.out), cellc hT9 hS.2.1 (fun hm => absurd hm LNB.out), cellc hT9 hS.2.2 (fun hm => absurd hm LNB.out)⟩
      replace hS := hS9 (by decide)
      clear hK9 K9 hS9
      try simp only [Act.put, putZ, List.getElem_toArray, List.getElem_cons_zero, List.getElem_cons_succ]
      have HM9 := hid (show m + 1 = (don ++ [NF 5 x]).length by rw [List.length_append, HM.out]; rfl)
      refine ltk 14 rfl ?_
      try simp only [Act.put, putZ, List.getElem_toArray, List.getElem_cons_zero, List.getElem_cons_succ]
      refine late_done (by kernel_rfl) ?_ _
      clear hS hO9 hT9 hm9
      go_wp2
      exact ⟨⟨m + 1, p9, c9, b9, m + 1, don ++ [NF 5 x], by omega, HM9.out, rfl, rfl, by go_num, HO9.out, E9.out, HB9.out⟩, by simp [intOf]; try omega⟩
   ·as_aux_lemma =>
     go_simp
     refine hK9.out _ _ (fun _ => ?_) (fun hS9 => ?_)
     ·(try dsimp only); exact ⟨cellc ((Tch.refl [] _).alloc _) hS.1 (by simp), cellc ((Tch.refl [] _).alloc _) hS.2.1 (by simp), cellc ((Tch.refl [] _).alloc _) hS.2.2 (by simp)⟩
     replace hS := hS9 (by decide)
     clear hK9 K9 hS9
     try simp only [Act.put, putZ, List.getElem_toArray, List.getElem_cons_zero, List.getElem_cons_succ]
     refine late_genw (fun V10 hV10 => ?_)
     rw [← hV10] at hS
     have hbV10 : Below wD.heap.size wD V10 := by rw [hV10]; exact (Below.refl _ _).alloc (Nat.le_refl _) _
     have ZV10 := hid (show V10.heap.size = wD.heap.size + 1 by rw [hV10]; simp)
     have EB := hid (show OwnL wA.heap.size V10 5 (.slice (some ⟨wD.heap.size, 0, none⟩) 0 0) [wD.heap.size] ([] : List UInt8) by rw [hV10]; exact ownL_empty rfl B5.out.size)
     have O20 := hid (O5.out.grow hbV10)
     clear O5
     have Y20 := hid (Y5.out.grow hbV10)
     clear Y5
     have S20 := hid (S5.out.grow hbV10)
     clear S5
     have B20 := hid (B5.out.trans (hbV10.mono B5.out.size))
     clear B5
     clear hV10 hbV10
     refine late_one (i := 3) rfl (by kernel_rfl) (fun K9 hK9 => ?_)
     go_simp
     refine hK9.out _ _ (fun _ => ?_) (fun hS9 => ?_)
     ·(try dsimp only); exact ⟨cellc ((Tch.refl [] _).alloc _) hS.1 (by simp), cellc ((Tch.refl [] _).alloc _) hS.2.1 (by simp), cellc ((Tch.refl [] _).alloc _) hS.2.2 (by simp)⟩
     replace hS := hS9 (by decide)
     clear hK9 K9 hS9
     try simp only [Act.put, putZ, List.getElem_toArray, List.getElem_cons_zero, List.getElem_cons_succ]
     refine late_genw (fun V11 hV11 => ?_)
     rw [← hV11] at hS
     have hbV11 : Below V10.heap.size V10 V11 := by rw [hV11]; exact (Below.refl _ _).alloc (Nat.le_refl _) _
     have ZV11 := hid (show V11.heap.size = V10.heap.size + 1 by rw [hV11]; simp)
     have EA := hid (show OwnL wA.heap.size V11 5 (.slice (some ⟨V10.heap.size, 0, none⟩) 0 0) [V10.heap.size] ([] : List UInt8) by rw [hV11]; exact ownL_empty rfl B20.out.size)
     have O21 := hid (O20.out.grow hbV11)
     clear O20
     have Y21 := hid (Y20.out.grow hbV11)
     clear Y20
     have S21 := hid (S20.out.grow hbV11)
     clear S20
     have B21 := hid (B20.out.trans (hbV11.mono B20.out.size))
     clear B20
     have EBx11 := hid (EB.out.grow hbV11)
     clear EB
     clear hV11 hbV11
     refine late_one (i := 6) rfl (by kernel_rfl) (fun K9 hK9 => ?_)
     refine step_append rfl _ _ 54 rfl 5 i0 (.int .u8 0) 1 Tryz.underlying54 hi hz0 hz1 hz2 rfl (lo := wA.heap.size) (bs := [V10.heap.size]) (xs := ([] : List UInt8)) rfl EA.out (b2 := []) (ys := x.Body) rfl Y21.out.srcF List.nodup_nil (fun b hb => by cases hb) ?qa12 ?qb12 ?qc12 ?_
     try (case qa12 => have := HBD.out; simp; omega)
     try (case qb12 => have := HBD.out; simp; omega)
     try (case qc12 => exact B21.out.size)
     intro p12 c12 V12 b12 hO12 hT12 hm12
     rw [List.nil_append, show ([] : List UInt8).length + x.Body.length = x.Body.length by simp] at hO12
     (try rw [show ([] : List UInt8).length + x.Body.length = x.Body.length by simp])
     have FA12 := hid hO12
     refine hK9.out _ _ (fun _ => ?_) (fun hS9 => ?_)
     ·(try dsimp only); exact ⟨cellc hT12 hS.1 (fun hm => by have h1 := LR.out; have := ZD.out; have := ZV10.out; have := ZV11.out; (try simp at hm); omega), cellc hT12 hS.2.1 (fun hm => by have h1 := LR.out; have := ZD.out; have := ZV10.out; have := ZV11.out; (try simp at hm); omega), cellc hT12 hS.2.2 (fun hm => by have h1 := LR.out; have := ZD.out; have := ZV10.out; have := ZV11.out; (try simp at hm); omega)⟩
     replace hS := hS9 (by decide)
     clear hK9 K9 hS9
     try simp only [Act.put, putZ, List.getElem_toArray, List.getElem_cons_zero, List.getElem_cons_succ]
     have O22 := hid (O21.out.tch hT12 (fun b hb hm => by have h1 := LB.out b hb; have := ZD.out; have := ZV10.out; have := ZV11.out; (try simp at hm); omega))
     clear O21
     have Y22 := hid (Slc.tch Y21.out hT12 (fun b hb hm => by have h1 := YL.out b hb; have := ZD.out; have := ZV10.out; have := ZV11.out; (try simp at hm); omega))
     clear Y21
     have S22 := hid (Slc.tch S21.out hT12 (fun b hb hm => by have h1 := SL.out b hb; have := ZD.out; have := ZV10.out; have := ZV11.out; (try simp at hm); omega))
     clear S21
     have B22 := hid (below_tch B21.out hT12 EA.out.lts)
     clear B21
     have EBx11x12 := hid (EBx11.out.tch hT12 (fun b hb hm => by have := ZD.out; have := ZV10.out; have := ZV11.out; (try simp at hm hb); omega))
     clear EBx11
     have NB := hid (show wD.heap.size ∉ b12 from fun h2 => by rcases hm12 _ h2 with h3 | h3 | h3; (have := ZD.out; have := ZV10.out; have := ZV11.out; (try simp at h3); omega); cases h3; (have := ZD.out; have := ZV10.out; have := ZV11.out; omega))
     have ZV12 := hid (show V11.heap.size ≤ V12.heap.size from hT12.size)
     have FRA := hid (fun b (h2 : b ∈ b12) => show w4.heap.size ≤ b from by rcases hm12 _ h2 with h3 | h3 | h3; (have := ZD.out; have := ZV10.out; have := ZV11.out; have := ZV12.out; (try simp at h3); omega); cases h3; (have := ZD.out; have := ZV10.out; have := ZV11.out; have := ZV12.out; omega))
     clear EA hO12 hT12 hm12
     refine late_one (i := 10) rfl (by kernel_rfl) (fun K9 hK9 => ?_)
     refine step_append rfl _ _ 54 rfl 5 i0 (.int .u8 0) 1 Tryz.underlying54 hi hz0 hz1 hz2 rfl (lo := wA.heap.size) (bs := [wD.heap.size]) (xs := ([] : List UInt8)) rfl EBx11x12.out (b2 := []) (ys := x.Safe) rfl S22.out.srcF List.nodup_nil (fun b hb => by cases hb) ?qa13 ?qb13 ?qc13 ?_
     try (case qa13 => have := HBD.out; simp; omega)
     try (case qb13 => have := HBD.out; simp; omega)
     try (case qc13 => exact B22.out.size)
     intro p13 c13 V13 b13 hO13 hT13 hm13
     rw [List.nil_append, show ([] : List UInt8).length + x.Safe.length = x.Safe.length by simp] at hO13
     (try rw [show ([] : List UInt8).length + x.Safe.length = x.Safe.length by simp])
     have FB13 := hid hO13
     refine hK9.out _ _ (fun _ => ?_) (fun hS9 => ?_)
     ·(try dsimp only); exact ⟨cellc hT13 hS.1 (fun hm => by have h1 := LR.out; have := ZD.out; have := ZV10.out; have := ZV11.out; have := ZV12.out; (try simp at hm); omega), cellc hT13 hS.2.1 (fun hm => by have h1 := LR.out; have := ZD.out; have := ZV10.out; have := ZV11.out; have := ZV12.out; (try simp at hm); omega), cellc hT13 hS.2.2 (fun hm => by have h1 := LR.out; have := ZD.out; have := ZV10.out; have := ZV11.out; have := ZV12.out; (try simp at hm); omega)⟩
     replace hS := hS9 (by decide)
     clear hK9 K9 hS9
     try simp only [Act.put, putZ, List.getElem_toArray, List.getElem_cons_zero, List.getElem_cons_succ]
     have O23 := hid (O22.out.tch hT13 (fun b hb hm => by have h1 := LB.out b hb; have := ZD.out; have := ZV10.out; have := ZV11.out; have := ZV12.out; (try simp at hm); omega))
     clear O22
     have Y23 := hid (Slc.tch Y22.out hT13 (fun b hb hm => by have h1 := YL.out b hb; have := ZD.out; have := ZV10.out; have := ZV11.out; have := ZV12.out; (try simp at hm); omega))
     clear Y22
     have S23 := hid (Slc.tch S22.out hT13 (fun b hb hm => by have h1 := SL.out b hb; have := ZD.out; have := ZV10.out; have := ZV11.out; have := ZV12.out; (try simp at hm); omega))
     clear S22
     have B23 := hid (below_tch B22.out hT13 EBx11x12.out.lts)
     clear B22
     have ND := hid (fun b (hb : b ∈ b12) => show b ≠ wD.heap.size from fun hb9 => by subst hb9; exact absurd hb NB.out)
     have FA12x13 := hid (FA12.out.tch hT13 (fun b hb hm => by (try simp at hm); exact ND.out b hb hm))
     have DJ := hid (show ∀ b ∈ b12, b ∉ b13 from fun b hb h2 => by rcases hm13 b h2 with h3 | h3 | h3; exact ND.out b hb (by simpa using h3); cases h3; exact absurd (FA12.out.lts b hb).2 (by omega))
     clear FA12
     have ZV13 := hid (show V12.heap.size ≤ V13.heap.size from hT13.size)
     have FRB := hid (fun b (h2 : b ∈ b13) => show w4.heap.size ≤ b from by rcases hm13 _ h2 with h3 | h3 | h3; (have := ZD.out; have := ZV10.out; have := ZV11.out; have := ZV12.out; have := ZV13.out; (try simp at h3); omega); cases h3; (have := ZD.out; have := ZV10.out; have := ZV11.out; have := ZV12.out; have := ZV13.out; omega))
     clear EBx11x12 hO13 hT13 hm13
     refine ltk 11 rfl ?_
     try simp only [Act.put, putZ, List.getElem_toArray, List.getElem_cons_zero, List.getElem_cons_succ]
     refine late_one (i := 12) rfl (by kernel_rfl) (fun K9 hK9 => ?_)
     go_simp
     refine hK9.out _ _ (fun _ => ?_) (fun hS9 => ?_)
     ·(try dsimp only); exact ⟨cellc ((Tch.refl [] _).alloc _) hS.1 (by simp), cellc ((Tch.refl [] _).alloc _) hS.2.1 (by simp), cellc ((Tch.refl [] _).alloc _) hS.2.2 (by simp)⟩
     replace hS := hS9 (by decide)
     clear hK9 K9 hS9
     try simp only [Act.put, putZ, List.getElem_toArray, List.getElem_cons_zero, List.getElem_cons_succ]
     refine late_one (i := 13) rfl (by kernel_rfl) (fun K9 hK9 => ?_)
     refine step_append rfl _ _ 31 rfl 104 i1 (.agg #[.int .i64 0, .slice none 0 0, .slice none 0 0]) 56 Tryz.underlying31 hi1 hz01 hz11 hz21 rfl (lo := wA.heap.size) (bs := b') (xs := don) rfl (O23.out.alloc _) (b2 := b12 ++ b13) (ys := [NF 5 x]) rfl ?src14 (nodup2 FA12x13.out.nodup FB13.out.nodup DJ.out) ?f214 ?qa14 ?qb14 ?qc14 ?_
     case src14 => exact src_new (cs := [_, _, _]) (nf_mk Q1.out (FA12x13.out.mono (Nat.zero_le _)) (FB13.out.mono (Nat.zero_le _))) rfl _ _
     case f214 => exact f2_of DJ.out FA12x13.out FB13.out (fun b h2 hm => absurd (LB.out b hm) (by have h3 := (fresh2 FRA.out FRB.out b h2); omega))
     try (case qa14 => have := HM.out; simp; omega)
     try (case qb14 => have := HM.out; simp; omega)
     try (case qc14 => have := B23.out.size; simp; omega)
     intro p14 c14 W14 b14 hO14 hT14 hm14
     have HL := hid (show don.length + 1 = m + 1 by rw [HM.out])
     have E9 := hid (show don ++ [NF 5 x] = (d.Nodes.take (m + 1)).map (NF 5) by rw [HD.out, HST.out])
     have HO9 := hid (show OwnL wA.heap.size W14 104 (.slice p14 (m + 1) c14) b14 (don ++ [NF 5 x]) by have h1 := hO14; rw [List.length_singleton, HL.out] at h1; exact h1)
     (try rw [List.length_singleton])
     rw [HL.out]
     have HB9 := hid (below_tch (B23.out.alloc B23.out.size _) hT14 (O23.out.alloc _).lts)
     refine hK9.out _ _ (fun _ => ?_) (fun hS9 => ?_)
     ·(try dsimp only); exact ⟨cellc hT14 hS.1 (fun hm => absurd hm LNB.out), cellc hT14 hS.2.1 (fun hm => absurd hm LNB.out), cellc hT14 hS.2.2 (fun hm => absurd hm LNB.out)⟩
     replace hS := hS9 (by decide)
     clear hK9 K9 hS9
     try simp only [Act.put, putZ, List.getElem_toArray, List.getElem_cons_zero, List.getElem_cons_succ]
     have HM9 := hid (show m + 1 = (don ++ [NF 5 x]).length by rw [List.length_append, HM.out]; rfl)
     refine ltk 14 rfl ?_
     try simp only [Act.put, putZ, List.getElem_toArray, List.getElem_cons_zero, List.getElem_cons_succ]
     refine late_done (by kernel_rfl) ?_ _
     clear hS hO14 hT14 hm14
     go_wp2
     exact ⟨⟨m + 1, p14, c14, b14, m + 1, don ++ [NF 5 x], by omega, HM9.out, rfl, rfl, by go_num, HO9.out, E9.out, HB9.out⟩, by simp [intOf]; try omega⟩
  ·obtain rfl : m = d.Nodes.length := by omega
   have hki : ¬ (d.Nodes.length : Int) < (d.Nodes.length : Int) := by omega
   have HD1 := hid (show don = d.Nodes.map (NF 5) by rw [HD.out, List.take_length])
   have HXr := hid (Bx.below hb HX.out.f.lt HX.out)
   have HZr := hid (Bx.below hb HZ.out.f.lt HZ.out)
   have SAr := hid (show w.heap.size + 2 ≤ wr.heap.size by have := SA.out; have := hb.size; omega)
   have LO := hid (fun b (h9 : b ∈ b') => show w.heap.size + 2 ≤ b ∧ b < wr.heap.size by have := SA.out; have := HOr.out.lts b h9; omega)
   have HBw := hid (hb0.out.trans (hb.mono hb0.out.size))
   have xo := HXr.out.out; have xf := HXr.out.fr
   clear hb HX HZ HBr HD
   go_upto_region 8 with fail
   refine late_genw (fun w8 hw8 => ?_)
   have X8 := hid (show Bx w8 w.heap.size #[.int .i64 d.Room, .int .i64 d.Fuse, .int .i64 d.Next, .slice p d.Nodes.length c, .slice a4 d.Kept.length k4, .slice a5 d.Turns.length k5] by rw [hw8]; exact HXr.out.setSame 3 _)
   have Z8 := hid (show Bx w8 (w.heap.size + 1) _ by rw [hw8]; exact HZr.out.setOther (by simp) _)
   have O8 := hid (show OwnL wA.heap.size w8 104 (.slice p d.Nodes.length c) b' don by rw [hw8]; exact HOr.out.setCell (fun b h9 => by have := LO.out b h9; simp; omega) _)
   have B8 := hid (show Below w.heap.size w w8 by rw [hw8]; exact HBw.out.setCell (Nat.le_refl _) _)
   have N8 := hid (show w8.heap.size = wr.heap.size by rw [hw8]; simp)
   clear hw8 HXr HZr HOr HBw xo xf
   have xo := X8.out.out; have xf := X8.out.fr; have lt8 := X8.out.f.lt
   have E8 := hid (show OwnL (w.heap.size + 2) (w8.alloc (.cells #[] 127)) 127 (.slice (some ⟨w8.heap.size, 0, none⟩) 0 0) [w8.heap.size] ([] : List LinkD) from ownL_empty rfl (by have := N8.out; have := SAr.out; omega))
   have S8 := hid (H4.out.grow (B8.out.alloc B8.out.size (.cells #[] 127)))
   go_wp2_with (at_builtin; refine wp_append rfl _ _ 32 rfl 127 i2 (.agg #[.string ByteArray.empty, .int .i64 0]) 24 Tryz.underlying32 hi2 hz02 hz12 hz22 rfl (lo := w.heap.size + 2) (xs := ([] : List LinkD)) rfl E8.out (b2 := []) (ys := d.Kept) rfl S8.out.srcF List.nodup_nil (fun b hb => by cases hb) ?ra ?rb ?rc ?_)
   try (case ra => have := HS.out.kept; simp; omega)
   try (case rb => have := HS.out.kept; simp; omega)
   try (case rc => have := N8.out; have := SAr.out; simp; omega)
   intro p9 c9 w9 b9 hO9 hT9 hm9
   try rw [List.nil_append, show ([] : List LinkD).length + d.Kept.length = d.Kept.length by simp] at hO9
   (try rw [show ([] : List LinkD).length + d.Kept.length = d.Kept.length by simp])
   have K9 := hid hO9
   have X9 := hid (Bx.tch hT9 (by have := N8.out; have := SAr.out; simp; omega) (by have := N8.out; have := SAr.out; simp; omega) (Bx.alloc X8.out (X8.out.f.lt) _))
   have Z9 := hid (Bx.tch hT9 (by have := N8.out; have := SAr.out; simp; omega) (by have := N8.out; have := SAr.out; simp; omega) (Bx.alloc Z8.out (Z8.out.f.lt) _))
   have O9 := hid ((O8.out.alloc (.cells #[] 127)).tch hT9 (fun b h9 hm => by have := LO.out b h9; have := N8.out; (try simp at hm); omega))
   have B9 := hid (below_tch (B8.out.alloc B8.out.size (.cells #[] 127)) hT9 (fun x hx => by have := E8.out.lts x hx; omega))
   have D9 := hid (fun b (h9 : b ∈ b9) => show wr.heap.size ≤ b from by have h3 := hm9 b h9; have := N8.out; (try simp at h3); omega)
   have N9 := hid (show w.heap.size + 2 ≤ w9.heap.size by have := hT9.size; have := SAr.out; have := N8.out; simp at *; omega)
   clear hO9 hT9 hm9 X8 Z8 O8 B8 E8 S8 xo xf lt8
   have xo := X9.out.out; have xf := X9.out.fr
   go_upto_region 9 with fail
   refine late_genw (fun w10 hw10 => ?_)
   have X10 := hid (show Bx w10 w.heap.size #[.int .i64 d.Room, .int .i64 d.Fuse, .int .i64 d.Next, .slice p d.Nodes.length c, .slice p9 d.Kept.length c9, .slice a5 d.Turns.length k5] by rw [hw10]; exact X9.out.setSame 4 _)
   have Z10 := hid (show Bx w10 (w.heap.size + 1) _ by rw [hw10]; exact Z9.out.setOther (by simp) _)
   have O10 := hid (show OwnL wA.heap.size w10 104 (.slice p d.Nodes.length c) b' don by rw [hw10]; exact O9.out.setCell (fun b h9 => by have := LO.out b h9; simp; omega) _)
   have K10 := hid (show OwnL (w.heap.size + 2) w10 127 (.slice p9 d.Kept.length c9) b9 d.Kept by rw [hw10]; exact K9.out.setCell (fun b h9 => by have := (K9.out.lts b h9).1; simp; omega) _)
   have B10 := hid (show Below w.heap.size w w10 by rw [hw10]; exact B9.out.setCell (Nat.le_refl _) _)
   have N10 := hid (show w10.heap.size = w9.heap.size by rw [hw10]; simp)
   clear hw10 X9 Z9 O9 K9 B9 xo xf
   have xo := X10.out.out; have xf := X10.out.fr; have lt10 := X10.out.f.lt
   have E10 := hid (show OwnL (w.heap.size + 2) (w10.alloc (.cells #[] 106)) 106 (.slice (some ⟨w10.heap.size, 0, none⟩) 0 0) [w10.heap.size] ([] : List TurnD) from ownL_empty rfl (by have := N10.out; have := N9.out; omega))
   have S10 := hid (H5.out.grow (B10.out.alloc B10.out.size (.cells #[] 106)))
   go_wp2_with (at_builtin; refine wp_append rfl _ _ 33 rfl 106 i3 (.agg #[.int .i64 0, .string ByteArray.empty, .string ByteArray.empty, .int .i64 0]) 48 Tryz.underlying33 hi3 hz03 hz13 hz23 rfl (lo := w.heap.size + 2) (xs := ([] : List TurnD)) rfl E10.out (b2 := []) (ys := d.Turns) rfl S10.out.srcF List.nodup_nil (fun b hb => by cases hb) ?sa ?sb ?sc ?_)
   try (case sa => have := HS.out.turns; simp; omega)
   try (case sb => have := HS.out.turns; simp; omega)
   try (case sc => have := N10.out; have := N9.out; simp; omega)
   intro p11 c11 w11 b11 hO11 hT11 hm11
   try rw [List.nil_append, show ([] : List TurnD).length + d.Turns.length = d.Turns.length by simp] at hO11
   (try rw [show ([] : List TurnD).length + d.Turns.length = d.Turns.length by simp])
   have T11 := hid hO11
   have X11 := hid (Bx.tch hT11 (by have := N10.out; have := N9.out; simp; omega) (by have := N10.out; have := N9.out; simp; omega) (Bx.alloc X10.out (X10.out.f.lt) _))
   have Z11 := hid (Bx.tch hT11 (by have := N10.out; have := N9.out; simp; omega) (by have := N10.out; have := N9.out; simp; omega) (Bx.alloc Z10.out (Z10.out.f.lt) _))
   have LK := hid (fun b (h9 : b ∈ b9) => show b < w10.heap.size from (K10.out.lts b h9).2)
   have LO2 := hid (fun b (h9 : b ∈ b') => show b < w10.heap.size from (O10.out.lts b h9).2)
   have O11 := hid ((O10.out.alloc (.cells #[] 106)).tch hT11 (fun b h9 hm => by have := LO2.out b h9; (try simp at hm); omega))
   have K11 := hid ((K10.out.alloc (.cells #[] 106)).tch hT11 (fun b h9 hm => by have := LK.out b h9; (try simp at hm); omega))
   have B11 := hid (below_tch (B10.out.alloc B10.out.size (.cells #[] 106)) hT11 (fun x hx => by have := E10.out.lts x hx; omega))
   have D11 := hid (fun b (h9 : b ∈ b11) => show w10.heap.size ≤ b from by have h3 := hm11 b h9; (try simp at h3); omega)
   clear hO11 hT11 hm11 X10 Z10 O10 K10 B10 E10 S10 xo xf lt10
   have xo := X11.out.out; have xf := X11.out.fr
   go_upto_region 10 with fail
   refine late_genw (fun w12 hw12 => ?_)
   have X12 := hid (show Bx w12 w.heap.size [Value.int .i64 d.Room, .int .i64 d.Fuse, .int .i64 d.Next, .slice p d.Nodes.length c, .slice p9 d.Kept.length c9, .slice p11 d.Turns.length c11].toArray by rw [hw12]; exact X11.out.setSame 5 _)
   have Z12 := hid (show Bx w12 (w.heap.size + 1) _ by rw [hw12]; exact Z11.out.setOther (by simp) _)
   have F12 := hid (show DiskF 104 127 106 5 (w.heap.size + 2) w12 d (.slice p d.Nodes.length c) (.slice p9 d.Kept.length c9) (.slice p11 d.Turns.length c11) b' b9 b11 by
    rw [hw12]
    exact ⟨J0.out, J1.out, J2.out, by rw [← HD1.out]; exact (O11.out.mono (by have := SA.out; omega)).setCell (fun b h9 => by have := LO.out b h9; simp; omega) _, K11.out.setCell (fun b h9 => by have := (K11.out.lts b h9).1; simp; omega) _, T11.out.setCell (fun b h9 => by have := (T11.out.lts b h9).1; simp; omega) _,
     fun b h1 h2 => by have := LO.out b h1; have := D9.out b h2; omega, fun b h1 h2 => by have := LO2.out b h1; have := D11.out b h2; omega, fun b h1 h2 => by have := LK.out b h1; have := D11.out b h2; omega⟩)
   have B12 := hid (show Below w.heap.size w w12 by rw [hw12]; exact B11.out.setCell (Nat.le_refl _) _)
   clear hw12 X11 Z11 O11 K11 T11 B11 xo xf LO LO2 LK D9 D11 hki
   obtain ⟨R, hR⟩ : ∃ R : List Value, R = [Value.int .i64 d.Room, .int .i64 d.Fuse, .int .i64 d.Next, .slice p d.Nodes.length c, .slice p9 d.Kept.length c9, .slice p11 d.Turns.length c11] := ⟨_, rfl⟩
   rw [← hR] at X12
   have HL := hid (show R.length = 6 by rw [hR]; rfl)
   have HC1 := hid (show R.toArray.all (·.oneCell') = true by rw [hR]; simp [Value.oneCell'])
   have HR := hid hR
   have I1 := hid (show (Tryz.prog.info? 35).map (·.size) = some R.length by rw [HL.out]; exact I0.out)
   have I2 := hid (show (Tryz.prog.info? 35).map (·.size) = some R.toArray.size by rw [List.size_toArray]; exact I1.out)
   have TH := hid (show w12.there (w.heap.size + 1) 0 R.toArray.size by rw [show R.toArray.size = 6 by rw [List.size_toArray]; exact HL.out]; exact Z12.out.there 0 6 (by simp))
   clear hR
   go_wp2_with (first | (refine wpList_load_mid rfl 35 _ rfl w.heap.size 0 rfl R _ X12.out.all Tryz.underlying35 rfl I1.out ?_) | (refine wpList_store_mid rfl 35 _ _ rfl (w.heap.size + 1) 0 R.toArray rfl rfl TH.out I2.out HC1.out ?_))
   have X13 := hid (show Bx (w12.setCells (w.heap.size + 1) 0 R.toArray.toList) (w.heap.size + 1) R.toArray from Z12.out.setAll R (by rw [HL.out]; simp))
   refine bodyPost_ret (v := .agg R.toArray) (results_mid rfl rfl R X13.out.all Tryz.underlying35 rfl I1.out) rfl ?_
   refine ⟨_, _, _, b', b9, b11, by rw [HR.out], (F12.out.mono (Nat.le_add_right _ _)).keep (fun b hb => setCells_heap _ _ _ _ _ ?_), Below.setCells _ (Nat.le_add_right _ _) _ _ B12.out⟩
   have := F12.out.lts b hb
   omega
end Go.Proofs.YtdjcjilipgpnmaaGreat
