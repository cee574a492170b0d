/- Disks: their ids, their use, the place of a node. -/
import Derived.Test.YtdjcjilipgpnmaaGreatKDirT
import Derived.Test.YtdjcjilipgpnmaaGreatKText
set_option linter.unusedSimpArgs false
set_option linter.unusedVariables false
namespace Go.G6
open Go Go.RowKit Rep
def idKept (l : List LinkD) : List Int := l.map (·.Id)
def idTurns (l : List TurnD) : List Int := (l.filter fun t => decide (t.Kind = 1)).map (·.Id)
def diskIds (d : DiskD) : List Int := idKept d.Kept ++ idTurns d.Turns
theorem idKept_step {l : List LinkD} {k : Nat} (h : k < l.length) : idKept (l.take (k + 1)) = idKept (l.take k) ++ [l[k].Id] := by
 unfold idKept; rw [List.take_succ_eq_append_getElem h, List.map_append]; rfl
theorem idTurns_step {l : List TurnD} {k : Nat} (h : k < l.length) : idTurns (l.take (k + 1)) = if l[k].Kind = 1 then idTurns (l.take k) ++ [l[k].Id] else idTurns (l.take k) := by
 unfold idTurns
 rw [List.take_succ_eq_append_getElem h, List.filter_append, List.map_append]
 split <;> simp [*]
theorem idTurns_len (l : List TurnD) : (idTurns l).length ≤ l.length := by
 unfold idTurns; rw [List.length_map]; exact List.length_filter_le _ _
structure Small (d : DiskD) : Prop where
 nodes : d.Nodes.length ≤ 1048576
 kept : d.Kept.length ≤ 1048576
 turns : d.Turns.length ≤ 1048576
 body : ∀ n ∈ d.Nodes, n.Body.length ≤ 16777216 ∧ n.Safe.length ≤ 16777216
def useOf (l : List NodeD) : Nat := (l.map fun n => max n.Body.length n.Safe.length).sum
def diskUsed (d : DiskD) : Nat := useOf d.Nodes
theorem useOf_step {l : List NodeD} {k : Nat} (h : k < l.length) : useOf (l.take (k + 1)) = useOf (l.take k) + max l[k].Body.length l[k].Safe.length := by
 unfold useOf; rw [List.take_succ_eq_append_getElem h, List.map_append, List.sum_append]; simp
theorem useOf_le : ∀ (l : List NodeD), (∀ n ∈ l, n.Body.length ≤ 16777216 ∧ n.Safe.length ≤ 16777216) → useOf l ≤ l.length * 16777216
 | [], _ => by simp [useOf]
 | x :: l, h => by
  have h1 := useOf_le l fun n hn => h n (by simp [hn])
  have h2 := h x (by simp)
  unfold useOf at *
  simp only [List.map_cons, List.sum_cons, List.length_cons]
  omega
def atI : List NodeD → Int → Nat → Int
 | [], _, _ => -1
 | x :: l, id, k => if x.Id = id then (k : Int) else atI l id (k + 1)
theorem atI_spec : ∀ (l : List NodeD) (id : Int) (k : Nat), atI l id k = -1 ∧ (∀ x ∈ l, x.Id ≠ id) ∨ ∃ j, ∃ h : j < l.length, atI l id k = ((k + j : Nat) : Int) ∧ l[j].Id = id
 | [], id, k => .inl ⟨rfl, by simp⟩
 | x :: l, id, k => by
  unfold atI
  by_cases hx : x.Id = id
  ·rw [if_pos hx]; exact .inr ⟨0, by simp, by simp, hx⟩
  ·rw [if_neg hx]
   rcases atI_spec l id (k + 1) with ⟨h1, h2⟩ | ⟨j, hj, h1, h2⟩
   ·refine .inl ⟨h1, fun y hy => ?_⟩
    rcases List.mem_cons.1 hy with rfl | hy
    ·exact hx
    ·exact h2 y hy
   ·exact .inr ⟨j + 1, by simpa using hj, by rw [h1]; congr 1; omega, by simpa using h2⟩
def nodeAt (d : DiskD) (id : Int) : Int := atI d.Nodes id 0
theorem bx_at {w : World} {b : Nat} {cs : List Value} (h : Bx w b cs.toArray) (o : Nat) {v : Value} (hv : cs[o]? = some v) : w.cell? ⟨b, o, none⟩ = some v := by
 rw [h.out]; simpa using hv
end Go.G6
namespace Go.Proofs.YtdjcjilipgpnmaaGreat
open Go.RowKit Go.G6
set_option maxHeartbeats 3000000
set_option maxRecDepth 10000
theorem info_intF : (Tryz.prog.info? 3).map (fun i => (i.zero, i.size, i.bytes)) = some (some (.int .i64 0), 1, 8) := by kernel_rfl
theorem s_l03Ids {w : World} {bs : List Nat} {cs : List Value} {d : DiskD} (h : Rep.pt w bs cs d) (hk : d.Kept.length ≤ 1048576) (ht : d.Turns.length ≤ 1048576) :
  Calls Tryz.prog 89 #[.agg cs.toArray] w (RetL w 3 (diskIds d)) := by
 obtain ⟨b3, b4, b5, a3, l3, k3, a4, l4, k4, a5, l5, k5, rfl, hcs, h0, h1, h2, h3, h4, h5⟩ := open_Disk h
 obtain rfl := h4.len_eq
 obtain rfl := h5.len_eq
 obtain ⟨i0, hi, hz0, hz1, hz2⟩ := info_parts info_intF
 have m4 := h4.max; have m5 := h5.max
 have H4 := hid h4; have H5 := hid h5
 have HK := hid hk; have HT := hid ht
 have HX := hid (Bx.new w cs.toArray 35 rfl)
 have x4 := bx_at HX.out 4 (v := .slice a4 d.Kept.length k4) (by rw [hcs]; rfl)
 have x5 := bx_at HX.out 5 (v := .slice a5 d.Turns.length k5) (by rw [hcs]; rfl)
 clear h h0 h1 h2 h3 h4 h5 hcs HX
 have hb0 := hid ((Below.refl w.heap.size w).alloc (Nat.le_refl _) (.cells cs.toArray 35))
 obtain ⟨wA, hwA⟩ : ∃ wA, wA = w.alloc (.cells cs.toArray 35) := ⟨_, rfl⟩
 rw [← hwA] at hb0 x4 x5
 go_enter Tryz.func89, Tryz.ntmps89
 go_upto_region 1 with fail
 rw [← hwA]
 clear hwA
 have HO := hid (show OwnL wA.heap.size (wA.alloc (.cells #[] 3)) 3 (.slice (some ⟨wA.heap.size, 0, none⟩) 0 0) [wA.heap.size] ([] : List Int) from ownL_empty rfl (Nat.le_refl _))
 have hB := hid (show Below wA.heap.size wA (wA.alloc (.cells #[] 3)) from (Below.refl _ _).alloc (Nat.le_refl _) _)
 have l4 := World.block_lt_of_cell? _ _ x4
 have X5 := hid x5; have L4 := hid l4
 have x4' := ((bcell hB.out).1 _ 4 l4).trans x4
 clear x4 x5 l4
 go_wp2_with fail
 go_loopw [3, 12] (fun o i wr => ∃ (k : Nat) (p : Option Addr) (c : Nat) (b' : List Nat) (m : Nat) (don : List Int), k ≤ d.Kept.length ∧ m = don.length ∧ m ≤ k ∧ o = .slice p m c ∧ i = .int .i64 (k : Int) ∧ OwnL wA.heap.size wr 3 (.slice p m c) b' don ∧ don = idKept (d.Kept.take k) ∧ Below wA.heap.size wA wr) (fun _ i _ => d.Kept.length - (intOf i).toNat)
 case atStart => exact ⟨0, some ⟨wA.heap.size, 0, none⟩, 0, [wA.heap.size], 0, [], Nat.zero_le _, rfl, Nat.le_refl _, rfl, rfl, HO.out, rfl, hB.out⟩
 case round =>
  obtain ⟨k, p, c, b', m, don, hk, hm, hmk, rfl, rfl, hO, hd, hb⟩ := hrel
  have HOr := hid hO; have HD := hid hd; have HBr := hid hb; have HM := hid hm
  clear hO hd hm HO hB
  by_cases hlt : k < d.Kept.length
  ·obtain ⟨b1, o1, cs1, _, rfl, _, hp1, _, hA1⟩ := (H4.out.grow (hb0.out.trans (hb.mono hb0.out.size))).elem k hlt
   obtain ⟨_, rfl, q1, q2⟩ := open_Link hp1
   have c0 : wr.cell? ⟨b1, o1 + k * 2, none⟩ = some _ := hA1 0 _ rfl
   have c1 : wr.cell? ⟨b1, o1 + k * 2 + 1, none⟩ = some _ := hA1 1 _ rfl
   have hst := idKept_step hlt
   have hki : (k : Int) < (d.Kept.length : Int) := by omega
   obtain ⟨x, hx⟩ : ∃ x, x = d.Kept[k] := ⟨_, rfl⟩
   rw [← hx] at hst c0 c1 q1 q2
   have HST := hid hst; have HK' := hid hki; have Q2 := hid q2
   have HB3 := hid (HBr.out.alloc HBr.out.size (.cells #[.string x.Name, .int .i64 x.Id] 127))
   have HO3 := hid (HOr.out.alloc (.cells #[.string x.Name, .int .i64 x.Id] 127))
   clear hst hp1 hA1 hx hb
   go_wp2_with (at_builtin; refine wp_append rfl _ _ 126 rfl 3 i0 (.int .i64 0) 8 Tryz.underlying126 hi hz0 hz1 hz2 rfl (lo := wA.heap.size) (bs := b') (xs := (don)) rfl ?own3 (b2 := []) (ys := [x.Id]) rfl ?src3 List.nodup_nil (fun b hb => by cases hb) ?qa3 ?qb3 ?qc3 ?_)
   case own3 => exact HO3.out.alloc _
   case src3 => exact src_new (pt_i Q2.out) (by simp) _ _
   case qa3 => have := HM.out; (try simp only [List.length_append, List.length_cons, List.length_nil] at this ⊢); omega
   case qb3 => have := HM.out; (try simp only [List.length_append, List.length_cons, List.length_nil] at this ⊢); omega
   try (case qc3 => have := HB3.out.size; simp at this ⊢; omega)
   intro p4 c4 w4 b4 hO4 hT4 hm4
   have HL4 := hid (show (don).length + 1 = m + 1 by rw [HM.out])
   obtain ⟨d4, hd4⟩ : ∃ d, d = (don) ++ [x.Id] := ⟨_, rfl⟩
   rw [← hd4] at hO4
   have HO4 := hid (show OwnL wA.heap.size w4 3 (.slice p4 (m + 1) c4) b4 d4 by have h1 := hO4; rw [HL4.out] at h1; exact h1)
   rw [HL4.out]
   have HB4 := hid (below_tch (HB3.out.alloc HB3.out.size _) hT4 (HO3.out.alloc _).lts)
   have HM4 := hid (show m + 1 = d4.length by rw [hd4, List.length_append, HM.out]; rfl)
   have HE4 := hid hd4
   have HT4 := hid hT4
   clear hO4 hT4 hm4 HL4 hd4
   go_wp2
   exact ⟨⟨k + 1, p4, c4, b4, m + 1, d4, by omega, HM4.out, by omega, rfl, by go_num, HO4.out, by rw [HE4.out, HST.out, HD.out], HB4.out⟩, by simp [intOf]; try omega⟩
  ·obtain rfl : k = d.Kept.length := by omega
   have hki : ¬ (d.Kept.length : Int) < (d.Kept.length : Int) := by omega
   have HD1 := hid (show don = idKept d.Kept by rw [HD.out, List.take_length])
   have x5' := ((bcell hb).1 _ 5 L4.out).trans X5.out
   clear hb
   go_wp2_with fail
   go_loopw [3, 25] (fun o i wr => ∃ (k : Nat) (p : Option Addr) (c : Nat) (b' : List Nat) (m : Nat) (don : List Int), k ≤ d.Turns.length ∧ m = don.length ∧ m ≤ d.Kept.length + k ∧ o = .slice p m c ∧ i = .int .i64 (k : Int) ∧ OwnL wA.heap.size wr 3 (.slice p m c) b' don ∧ don = idKept d.Kept ++ idTurns (d.Turns.take k) ∧ Below wA.heap.size wA wr) (fun _ i _ => d.Turns.length - (intOf i).toNat)
   case atStart => exact ⟨0, p, c, b', m, don, Nat.zero_le _, HM.out, by omega, rfl, rfl, HOr.out, by rw [HD1.out]; simp [idTurns], HBr.out⟩
   case round =>
    clear HOr HD HBr HM HD1 x5' hmk
    obtain ⟨k, p, c, b', m, don, hk, hm, hmk, rfl, rfl, hO, hd, hb⟩ := hrel
    have HOr := hid hO; have HD := hid hd; have HBr := hid hb; have HM := hid hm
    clear hO hd hm
    by_cases hlt : k < d.Turns.length
    ·obtain ⟨b1, o1, cs1, _, rfl, _, hp1, _, hA1⟩ := (H5.out.grow (hb0.out.trans (hb.mono hb0.out.size))).elem k hlt
     obtain ⟨_, rfl, q1, q2, q3, q4⟩ := open_Turn hp1
     have c0 : wr.cell? ⟨b1, o1 + k * 4, none⟩ = some _ := hA1 0 _ rfl
     have c1 : wr.cell? ⟨b1, o1 + k * 4 + 1, none⟩ = some _ := hA1 1 _ rfl
     have c2 : wr.cell? ⟨b1, o1 + k * 4 + 2, none⟩ = some _ := hA1 2 _ rfl
     have c3 : wr.cell? ⟨b1, o1 + k * 4 + 3, none⟩ = some _ := hA1 3 _ rfl
     have hst := idTurns_step hlt
     have hki : (k : Int) < (d.Turns.length : Int) := by omega
     obtain ⟨x, hx⟩ : ∃ x, x = d.Turns[k] := ⟨_, rfl⟩
     rw [← hx] at hst c0 c1 c2 c3 q1 q2 q3 q4
     have HST := hid hst; have Q4 := hid q4
     have HB3 := hid (HBr.out.alloc HBr.out.size (.cells #[.int .i64 x.Kind, .string x.Name, .string x.To, .int .i64 x.Id] 106))
     have HO3 := hid (HOr.out.alloc (.cells #[.int .i64 x.Kind, .string x.Name, .string x.To, .int .i64 x.Id] 106))
     clear hst hp1 hA1 hx hb
     by_cases hkd : x.Kind = 1
     ·have HKD := hid hkd
      obtain ⟨kd, hkde⟩ : ∃ kd, kd = x.Kind := ⟨_, rfl⟩
      rw [← hkde] at c0 HB3 HO3 hkd
      clear hkde
      subst hkd
      go_wp2_with (at_builtin; refine wp_append rfl _ _ 126 rfl 3 i0 (.int .i64 0) 8 Tryz.underlying126 hi hz0 hz1 hz2 rfl (lo := wA.heap.size) (bs := b') (xs := (don)) rfl ?own4 (b2 := []) (ys := [x.Id]) rfl ?src4 List.nodup_nil (fun b hb => by cases hb) ?qa4 ?qb4 ?qc4 ?_)
      case own4 => exact HO3.out.alloc _
      case src4 => exact src_new (pt_i Q4.out) (by simp) _ _
      case qa4 => have := HM.out; (try simp only [List.length_append, List.length_cons, List.length_nil] at this ⊢); omega
      case qb4 => have := HM.out; (try simp only [List.length_append, List.length_cons, List.length_nil] at this ⊢); omega
      try (case qc4 => have := HB3.out.size; simp at this ⊢; omega)
      intro p4 c4 w4 b4 hO4 hT4 hm4
      have HL4 := hid (show (don).length + 1 = m + 1 by rw [HM.out])
      obtain ⟨d4, hd4⟩ : ∃ d, d = (don) ++ [x.Id] := ⟨_, rfl⟩
      rw [← hd4] at hO4
      have HO4 := hid (show OwnL wA.heap.size w4 3 (.slice p4 (m + 1) c4) b4 d4 by have h1 := hO4; rw [HL4.out] at h1; exact h1)
      rw [HL4.out]
      have HB4 := hid (below_tch (HB3.out.alloc HB3.out.size _) hT4 (HO3.out.alloc _).lts)
      have HM4 := hid (show m + 1 = d4.length by rw [hd4, List.length_append, HM.out]; rfl)
      have HE4 := hid hd4
      have HT4 := hid hT4
      clear hO4 hT4 hm4 HL4 hd4
      go_wp2
      exact ⟨⟨k + 1, p4, c4, b4, m + 1, d4, by omega, HM4.out, by omega, rfl, by go_num, HO4.out, by rw [HE4.out, HST.out, HD.out, if_pos HKD.out, List.append_assoc], HB4.out⟩, by simp [intOf]; try omega⟩
     ·have E := hid (show don = idKept d.Kept ++ idTurns (d.Turns.take (k + 1)) by rw [HST.out, HD.out, if_neg hkd])
      go_wp2
      exact ⟨⟨k + 1, p, c, b', m, don, by omega, HM.out, by omega, rfl, by go_num, HO3.out, E.out, HB3.out⟩, by simp [intOf]; try omega⟩
    ·obtain rfl : k = d.Turns.length := by omega
     have hki : ¬ (d.Turns.length : Int) < (d.Turns.length : Int) := by omega
     have HD1 := hid (show don = diskIds d by rw [HD.out, List.take_length]; rfl)
     clear hb
     go_wp2
     go_ret
     exact ⟨_, b', rfl, by rw [← HD1.out]; exact HOr.out.mono hb0.out.size, hb0.out.trans (HBr.out.mono hb0.out.size)⟩
theorem s_DiskUsed {w : World} {bs : List Nat} {cs : List Value} {d : DiskD} (h : Rep.pt w bs cs d) (hs : Small d) :
  Calls Tryz.prog 93 #[.agg cs.toArray] w fun e w' => e = .returned (.int .i64 (diskUsed d : Int)) ∧ Below w.heap.size w w' := by
 obtain ⟨b3, b4, b5, a3, l3, k3, a4, l4, k4, a5, l5, k5, rfl, hcs, h0, h1, h2, h3, h4, h5⟩ := open_Disk h
 obtain rfl := h3.len_eq
 have m3 := h3.max
 have H3 := hid h3
 have HS := hid hs
 have HX := hid (Bx.new w cs.toArray 35 rfl)
 have x3 := bx_at HX.out 3 (v := .slice a3 d.Nodes.length k3) (by rw [hcs]; rfl)
 clear h h0 h1 h2 h3 h4 h5 hcs HX hs
 have hb0 := hid ((Below.refl w.heap.size w).alloc (Nat.le_refl _) (.cells cs.toArray 35))
 obtain ⟨wA, hwA⟩ : ∃ wA, wA = w.alloc (.cells cs.toArray 35) := ⟨_, rfl⟩
 rw [← hwA] at hb0 x3
 go_enter Tryz.func93, Tryz.ntmps93
 go_upto_region 1 with fail
 rw [← hwA]
 clear hwA
 go_wp2_with fail
 go_loopw [3, 9] (fun o i wr => ∃ (k : Nat) (n : Nat), k ≤ d.Nodes.length ∧ o = .int .i64 (n : Int) ∧ i = .int .i64 (k : Int) ∧ n = useOf (d.Nodes.take k) ∧ Below w.heap.size w wr) (fun _ i _ => d.Nodes.length - (intOf i).toNat)
 case atStart => exact ⟨0, 0, Nat.zero_le _, rfl, rfl, rfl, hb0.out⟩
 case round =>
  obtain ⟨k, n, hk, rfl, rfl, hd, hb⟩ := hrel
  have HD := hid hd; have HBr := hid hb
  clear hd
  by_cases hlt : k < d.Nodes.length
  ·obtain ⟨b1, o1, cs1, _, rfl, _, hp1, _, hA1⟩ := (H3.out.grow hb).elem k hlt
   obtain ⟨y1, y2, e1, n1, f1, e2, n2, f2, rfl, rfl, q1, q2, q3⟩ := open_Node hp1
   have c0 : wr.cell? ⟨b1, o1 + k * 3, none⟩ = some _ := hA1 0 _ rfl
   have c1 : wr.cell? ⟨b1, o1 + k * 3 + 1, none⟩ = some _ := hA1 1 _ rfl
   have c2 : wr.cell? ⟨b1, o1 + k * 3 + 2, none⟩ = some _ := hA1 2 _ rfl
   have hst := useOf_step hlt
   have hbd := HS.out.body d.Nodes[k] (List.getElem_mem hlt)
   have hle := useOf_le (d.Nodes.take (k + 1)) (fun n hn => HS.out.body n (List.mem_of_mem_take hn))
   have hn := HS.out.nodes
   rw [List.length_take] at hle
   have z1 := q2.len_eq; have z2 := q3.len_eq
   have hki : (k : Int) < (d.Nodes.length : Int) := by omega
   obtain ⟨x, hx⟩ : ∃ x, x = d.Nodes[k] := ⟨_, rfl⟩
   rw [← hx] at hst c0 hbd z1 z2
   have HST := hid (show useOf (d.Nodes.take (k + 1)) = n + max n1 n2 by rw [hst, z1, z2, HD.out])
   have HLE := hid (show n + max n1 n2 ≤ 17592186044416 by rw [← HST.out]; omega)
   have HB3 := hid (HBr.out.alloc HBr.out.size (.cells #[.int .i64 x.Id, .slice e1 n1 f1, .slice e2 n2 f2] 104))
   clear hst hp1 hA1 hx hb hbd hle hn z1 z2 q1 q2 q3
   go_wp2_with (go_at_call 100; refine (s_l03Most _ _ _).mono ?_; rintro e w' ⟨rfl, rfl⟩)
   rw [show wrap64 ((n : Int) + max (n1 : Int) (n2 : Int)) = ((n + max n1 n2 : Nat) : Int) by rw [IntWalk.wrap64_in _ (by have := HLE.out; omega)]; omega]
   exact ⟨⟨k + 1, n + max n1 n2, by omega, rfl, by go_num, HST.out.symm, HB3.out⟩, by simp [intOf]; try omega⟩
  ·obtain rfl : k = d.Nodes.length := by omega
   have hki : ¬ (d.Nodes.length : Int) < (d.Nodes.length : Int) := by omega
   have HD1 := hid (show n = diskUsed d by rw [HD.out, List.take_length]; rfl)
   clear hb
   go_wp2
   go_ret
   exact ⟨ret_int (by rw [HD1.out]), HBr.out⟩
theorem s_l03At {w : World} {bs : List Nat} {cs : List Value} {d : DiskD} (h : Rep.pt w bs cs d) (id : Int) :
  Calls Tryz.prog 96 #[.agg cs.toArray, .int .i64 id] w fun e w' => e = .returned (.int .i64 (nodeAt d id)) ∧ Below w.heap.size w w' := by
 obtain ⟨b3, b4, b5, a3, l3, k3, a4, l4, k4, a5, l5, k5, rfl, hcs, h0, h1, h2, h3, h4, h5⟩ := open_Disk h
 obtain rfl := h3.len_eq
 have m3 := h3.max
 have H3 := hid h3
 have HX := hid (Bx.new w cs.toArray 35 rfl)
 have x3 := bx_at HX.out 3 (v := .slice a3 d.Nodes.length k3) (by rw [hcs]; rfl)
 clear h h0 h1 h2 h3 h4 h5 hcs HX
 have hb0 := hid ((Below.refl w.heap.size w).alloc (Nat.le_refl _) (.cells cs.toArray 35))
 obtain ⟨wA, hwA⟩ : ∃ wA, wA = w.alloc (.cells cs.toArray 35) := ⟨_, rfl⟩
 rw [← hwA] at hb0 x3
 go_enter Tryz.func96, Tryz.ntmps96
 go_upto_region 1 with fail
 rw [← hwA]
 clear hwA
 go_wp2_with fail
 go_loopw [10] (fun i wr => ∃ (k : Nat), k ≤ d.Nodes.length ∧ i = .int .i64 (k : Int) ∧ nodeAt d id = atI (d.Nodes.drop k) id k ∧ Below w.heap.size w wr) (fun i _ => d.Nodes.length - (intOf i).toNat)
 case atStart => exact ⟨0, Nat.zero_le _, rfl, rfl, hb0.out⟩
 case round =>
  obtain ⟨k, hk, rfl, hd, hb⟩ := hrel
  have HD := hid hd; have HBr := hid hb
  clear hd
  by_cases hlt : k < d.Nodes.length
  ·obtain ⟨b1, o1, cs1, _, rfl, _, hp1, _, hA1⟩ := (H3.out.grow hb).elem k hlt
   obtain ⟨y1, y2, e1, n1, f1, e2, n2, f2, rfl, rfl, q1, q2, q3⟩ := open_Node hp1
   have c0 : wr.cell? ⟨b1, o1 + k * 3, none⟩ = some _ := hA1 0 _ rfl
   have c1 : wr.cell? ⟨b1, o1 + k * 3 + 1, none⟩ = some _ := hA1 1 _ rfl
   have c2 : wr.cell? ⟨b1, o1 + k * 3 + 2, none⟩ = some _ := hA1 2 _ rfl
   have hst : atI (d.Nodes.drop k) id k = if d.Nodes[k].Id = id then (k : Int) else atI (d.Nodes.drop (k + 1)) id (k + 1) := by
    rw [List.drop_eq_getElem_cons hlt]; rfl
   have hki : (k : Int) < (d.Nodes.length : Int) := by omega
   obtain ⟨x, hx⟩ : ∃ x, x = d.Nodes[k].Id := ⟨_, rfl⟩
   rw [← hx] at hst c0
   have HST := hid hst
   have HB3 := hid (HBr.out.alloc HBr.out.size (.cells #[.int .i64 x, .slice e1 n1 f1, .slice e2 n2 f2] 104))
   clear hst hp1 hA1 hx hb q1 q2 q3
   by_cases hq : x = id
   ·have E := hid (show nodeAt d id = (k : Int) by rw [HD.out, HST.out, if_pos hq])
    go_wp2
    go_ret
    exact ⟨ret_int (by rw [E.out]), by rw [← hq]; exact HB3.out⟩
   ·have E := hid (show nodeAt d id = atI (d.Nodes.drop (k + 1)) id (k + 1) by rw [HD.out, HST.out, if_neg hq])
    go_wp2
    exact ⟨⟨k + 1, by omega, by go_num, E.out, HB3.out⟩, by simp [intOf]; try omega⟩
  ·obtain rfl : k = d.Nodes.length := by omega
   have hki : ¬ (d.Nodes.length : Int) < (d.Nodes.length : Int) := by omega
   have E := hid (show nodeAt d id = -1 by rw [HD.out, List.drop_length]; rfl)
   clear hb
   go_wp2
   go_ret
   exact ⟨ret_int (by rw [E.out]), HBr.out⟩
end Go.Proofs.YtdjcjilipgpnmaaGreat
