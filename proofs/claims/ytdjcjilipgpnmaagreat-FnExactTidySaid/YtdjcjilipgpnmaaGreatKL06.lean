/- Operations on a store's disk, as the reference does them (printed by genl06.py). -/
import Derived.Test.YtdjcjilipgpnmaaGreatKDoS
set_option linter.unusedSimpArgs false
set_option linter.unusedVariables false
namespace Go.G6
open Go Go.RowKit Rep
theorem emp_nil : emp.toList = [] := by rw [Go.ByteArray.toList_eq]; rfl
def hist : ByteArray := ⟨#[104, 105, 115, 116]⟩
def temp : ByteArray := ⟨#[116, 101, 109, 112]⟩
def dskC (d : DiskD) (v3 v4 v5 : Value) : List Value := [.int .i64 d.Room, .int .i64 d.Fuse, .int .i64 d.Next, v3, v4, v5]
/-- A store's box behind an operation on its disk. -/
def StAct (eN eL eT eB : TypeId) (w : World) (Bs : Nat) (T : List Value) (r : DiskD × Int) (e : Ending) (w' : World) : Prop :=
 ∃ v3 v4 v5 B3 B4 B5, e = .returned (.int .i64 r.2) ∧ Bx w' Bs (dskC r.1 v3 v4 v5 ++ T).toArray ∧ DiskF eN eL eT eB w.heap.size w' r.1 v3 v4 v5 B3 B4 B5 ∧ Tch [Bs] w w'
theorem DiskF.one {eN eL eT eB : TypeId} {lo : Nat} {w : World} {d : DiskD} {v3 v4 v5 : Value} {B3 B4 B5 : List Nat} (h : DiskF eN eL eT eB lo w d v3 v4 v5 B3 B4 B5) : (dskC d v3 v4 v5).toArray.all (·.oneCell') = true := by
 obtain ⟨_, _, rfl⟩ := h.n.slice
 obtain ⟨_, _, rfl⟩ := h.k.slice
 obtain ⟨_, _, rfl⟩ := h.t.slice
 simp [dskC, Value.oneCell']
theorem range_left {w : World} {b o : Nat} {R T : List Value} (h : w.rangeAt b o (R ++ T)) : w.rangeAt b o R := fun j v hv => h j v (by rw [List.getElem?_append_left (List.getElem?_eq_some_iff.1 hv).1]; exact hv)
theorem step_store_mid {P : Program} {ops : Array Oper} {op : Oper} {a : Act} {w : World} {K : Act → World → Prop} {Q : Exit → Act → World → Prop} {E : Prop} (hgd : op.guard = none) (ty : TypeId) (x y : Operand) (ho : op.op = .store ty x y)
  (b o : Nat) (cells : Array Value) (hx : a.eval x = .pointer (some ⟨b, o, none⟩)) (hy : a.eval y = .agg cells)
  (ht : w.there b o cells.size) (hi : (P.info? ty).map (·.size) = some cells.size) (h1 : cells.all (·.oneCell') = true)
  (h : K (a.put op.dst undef) (w.setCells b o cells.toList)) : if Region.wanted op (yielded ops a.tmps) = true then Oper.wp P op a w K Q else E := by
 have hw : Region.wanted op (yielded ops a.tmps) = true := by simp [Region.wanted, hgd]
 rw [if_pos hw]
 exact wp_store_mid ty x y ho b o cells hx hy ht hi h1 h
theorem range_set {w : World} {b o g : Nat} {cs vs : List Value} (h : w.rangeAt b o cs) (hn : b ≠ g) : (w.setCells g 0 vs).rangeAt b o cs := fun j v hv => (World.cell?_of_block (a := ⟨b, o + j, none⟩) (setCells_heap g vs 0 w b hn)).trans (h j v hv)
theorem setCells_new {bs : List Nat} {a : World} {g : Nat} : ∀ {w : World}, Tch bs a w → a.heap.size ≤ g → ∀ (cs : List Value) (o : Nat), Tch bs a (w.setCells g o cs)
 | _, h, _, [], _ => h
 | _, h, hg, v :: r, o => setCells_new (h.setNew hg v) hg r (o + 1)
theorem bx_head {w : World} {b : Nat} {R T : List Value} (h : Bx w b (R ++ T).toArray) {R' : List Value} (hl : R.length = 6) (hl' : R'.length = 6) : Bx (w.setCells b 0 R') b (R' ++ T).toArray :=
 h.setMid 0 R' (by simp [hl', ← hl]) (by simp; omega)
theorem there_head {w : World} {b : Nat} {R T : List Value} (h : Bx w b (R ++ T).toArray) (hl : R.length = 6) : w.there b 0 6 := h.there 0 6 (by simp; omega)
end Go.G6
namespace Go.Proofs.YtdjcjilipgpnmaaGreat
open Go Go.RowKit Go.G6
set_option maxHeartbeats 4000000
set_option maxRecDepth 10000
theorem s_l06Put {w : World} {Bs : Nat} {d : DiskD} {R T : List Value} {bs : List Nat} (hX : Bx w Bs (R ++ T).toArray) (hD : Rep.pt w bs R d) (hs : Small d) {nm : ByteArray} (hnl : nm.size ≤ maxLen) (hnm : nameOk nm = true) {data : List UInt8} {bo : List Nat} {ao : Option Addr} {lo co : Nat} (ho : Slc w bo ao lo co data) (hdl : data.length ≤ 1048576) :
  Calls Tryz.prog 20 #[.pointer (some ⟨Bs, 0, none⟩), .string nm, .slice ao lo co] w (StAct 104 127 106 5 w Bs T (diskDo d 2 nm emp 0 data)) := by
 have hcl := Rep.len hD
 have HX := hid hX; have HD := hid hD; have HS := hid hs
 have HL := hid (show R.length = 6 from hcl)
 have I6 := hid (show (Tryz.prog.info? 35).map (·.size) = some 6 by kernel_rfl)
 have I0 := hid (show (Tryz.prog.info? 35).map (·.size) = some R.length by rw [HL.out]; exact I6.out)
 obtain ⟨dr, hdr⟩ : ∃ dr, dr = diskDo d 2 nm emp 0 data := ⟨_, rfl⟩
 rw [← hdr]
 have HDR := hid hdr
 clear hX hD hs hcl hdr
 go_enter Tryz.func20, Tryz.ntmps20
 have XR := hid (range_left HX.out.all)
 have hbo : Tryz.prog.built 67 [(0, .int .i64 2), (1, .string nm), (4, .slice ao lo co)] = some #[.int .i64 2, .string nm, .string emp, .int .i64 0, .slice ao lo co] := by rfl
 have HBO := hid hbo
 clear hbo
 go_wp2_with (first | (refine wpList_load_mid rfl 35 _ rfl Bs 0 rfl R _ XR.out Tryz.underlying35 rfl I0.out ?_) | (refine wpList_build_to rfl 67 _ rfl #[.int .i64 2, .string nm, .string emp, .int .i64 0, .slice ao lo co] [(0, .int .i64 2), (1, .string nm), (4, .slice ao lo co)] rfl HBO.out ?_))
 refine (s_DiskDo HD.out HS.out ⟨by simp, hnl, by decide, fun _ => hnm, fun h => absurd h (by decide), fun _ => emp_nil, fun h => absurd h (by decide), fun _ => rfl, fun h => absurd rfl h⟩ ho hdl).mono ?_
 rintro e w3 ⟨v3, v4, v5, B3, B4, B5, rfl, hDF, hb3⟩
 rw [← HDR.out] at hDF ⊢
 have DF := hid hDF
 have X3 := hid (Bx.below hb3 HX.out.f.lt HX.out)
 have TC := hid (show Tch [] w w3 from (Tch.refl [] w).trans (Tch.of_below hb3))
 clear hDF hb3
 obtain ⟨R', hR'⟩ : ∃ R', R' = dskC dr.1 v3 v4 v5 := ⟨_, rfl⟩
 rw [show (#[Value.int .i64 dr.1.Room, .int .i64 dr.1.Fuse, .int .i64 dr.1.Next, v3, v4, v5] : Array Value) = R'.toArray by rw [hR']; rfl]
 have HL' := hid (show R'.length = 6 by rw [hR']; rfl)
 have HC1 := hid (show R'.toArray.all (·.oneCell') = true by rw [hR']; exact DF.out.one)
 have HR' := hid hR'
 clear hR'
 have HZ3 := hid (show R'.toArray.size = 6 by rw [List.size_toArray]; exact HL'.out)
 have I1 := hid (show (Tryz.prog.info? 35).map (·.size) = some R'.length by rw [HL'.out]; exact I6.out)
 have I2 := hid (show (Tryz.prog.info? 35).map (·.size) = some R'.toArray.size by rw [HZ3.out]; exact I6.out)
 have ZN := hid (Bx.new w3 #[.int .i64 0, .int .i64 0, .int .i64 0, .slice none 0 0, .slice none 0 0, .slice none 0 0] 35 rfl)
 have TH := hid (show (w3.alloc (.cells #[.int .i64 0, .int .i64 0, .int .i64 0, .slice none 0 0, .slice none 0 0, .slice none 0 0] 35)).there w3.heap.size 0 R'.toArray.size by rw [HZ3.out]; exact ZN.out.there 0 6 (by simp))
 go_upto_region 2 with (refine wpList_store_mid rfl 35 _ _ rfl w3.heap.size 0 R'.toArray rfl rfl TH.out I2.out HC1.out ?_)
 refine late_genw (fun wB hwB => ?_)
 have hbb : Below w3.heap.size w3 wB := by rw [hwB]; exact Below.setCells _ (Nat.le_refl _) _ _ ((Below.refl _ _).alloc (Nat.le_refl _) _)
 have XN := hid (show Bx wB w3.heap.size R'.toArray by rw [hwB]; exact ZN.out.setAll R' (by rw [HL'.out]; simp))
 clear TH ZN
 have XB := hid (Bx.below hbb X3.out.f.lt X3.out)
 have TB := hid (show Tch [] w wB from TC.out.trans (Tch.of_below hbb))
 have DFB := hid (DF.out.grow hbb)
 have LB6 := hid (fun b hb => (DF.out.lts b hb).2)
 have NB := hid hbb.size
 clear hwB hbb
 have TH2 := hid (show wB.there Bs 0 R'.toArray.size by rw [HZ3.out]; exact there_head XB.out HL.out)
 go_upto_region 3 with (first | (refine wpList_load_mid rfl 35 _ rfl w3.heap.size 0 rfl R' _ XN.out.all Tryz.underlying35 rfl I1.out ?_) | (refine wpList_store_mid rfl 35 _ _ rfl Bs 0 R'.toArray rfl rfl TH2.out I2.out HC1.out ?_))
 refine late_genw (fun wE hwE => ?_)
 have XE := hid (show Bx wE Bs (dskC dr.1 v3 v4 v5 ++ T).toArray by rw [hwE, ← HR'.out]; exact bx_head XB.out HL.out HL'.out)
 have TE := hid (show Tch [Bs] w wE by rw [hwE]; exact (TB.out.mono (by simp)).setCells Bs (by simp) _ _)
 have DE := hid (show DiskF 104 127 106 5 w.heap.size wE dr.1 v3 v4 v5 B3 B4 B5 by
  rw [hwE]
  refine (DFB.out.mono (Nat.le_refl w.heap.size)).keep fun b hb => setCells_heap _ _ _ _ _ ?_
  have h1 := (DF.out.lts b hb).1
  have h2 := HX.out.f.lt
  have h3 := (Nat.le_refl w.heap.size)
  omega)
 clear hwE
 go_wp2
 go_ret
 exact ⟨v3, v4, v5, B3, B4, B5, rfl, XE.out, DE.out, TE.out⟩
theorem s_l06Cut {w : World} {Bs : Nat} {d : DiskD} {R T : List Value} {bs : List Nat} (hX : Bx w Bs (R ++ T).toArray) (hD : Rep.pt w bs R d) (hs : Small d) {sz : Int} (hsz : I64 sz) :
  Calls Tryz.prog 21 #[.pointer (some ⟨Bs, 0, none⟩), .int .i64 sz] w (StAct 104 127 106 5 w Bs T (diskDo d 4 hist emp sz [])) := by
 have hcl := Rep.len hD
 have HX := hid hX; have HD := hid hD; have HS := hid hs
 have HL := hid (show R.length = 6 from hcl)
 have I6 := hid (show (Tryz.prog.info? 35).map (·.size) = some 6 by kernel_rfl)
 have I0 := hid (show (Tryz.prog.info? 35).map (·.size) = some R.length by rw [HL.out]; exact I6.out)
 obtain ⟨dr, hdr⟩ : ∃ dr, dr = diskDo d 4 hist emp sz [] := ⟨_, rfl⟩
 rw [← hdr]
 have HDR := hid hdr
 clear hX hD hs hcl hdr
 go_enter Tryz.func21, Tryz.ntmps21
 have XR := hid (range_left HX.out.all)
 have hbo : Tryz.prog.built 67 [(0, .int .i64 4), (1, .string hist), (3, .int .i64 sz)] = some #[.int .i64 4, .string hist, .string emp, .int .i64 sz, .slice none 0 0] := by rfl
 have HBO := hid hbo
 clear hbo
 go_wp2_with (first | (refine wpList_load_mid rfl 35 _ rfl Bs 0 rfl R _ XR.out Tryz.underlying35 rfl I0.out ?_) | (refine wpList_build_to rfl 67 _ rfl #[.int .i64 4, .string hist, .string emp, .int .i64 sz, .slice none 0 0] [(0, .int .i64 4), (1, .string hist), (3, .int .i64 sz)] rfl HBO.out ?_))
 refine (s_DiskDo HD.out HS.out ⟨by simp, by decide, by decide, fun _ => by decide, fun h => absurd h (by decide), fun _ => emp_nil, fun h => absurd h (by decide), fun h => absurd rfl h, fun _ => rfl⟩ (slc_nil w) (by simp)).mono ?_
 rintro e w3 ⟨v3, v4, v5, B3, B4, B5, rfl, hDF, hb3⟩
 rw [← HDR.out] at hDF ⊢
 have DF := hid hDF
 have X3 := hid (Bx.below hb3 HX.out.f.lt HX.out)
 have TC := hid (show Tch [] w w3 from (Tch.refl [] w).trans (Tch.of_below hb3))
 clear hDF hb3
 obtain ⟨R', hR'⟩ : ∃ R', R' = dskC dr.1 v3 v4 v5 := ⟨_, rfl⟩
 rw [show (#[Value.int .i64 dr.1.Room, .int .i64 dr.1.Fuse, .int .i64 dr.1.Next, v3, v4, v5] : Array Value) = R'.toArray by rw [hR']; rfl]
 have HL' := hid (show R'.length = 6 by rw [hR']; rfl)
 have HC1 := hid (show R'.toArray.all (·.oneCell') = true by rw [hR']; exact DF.out.one)
 have HR' := hid hR'
 clear hR'
 have HZ3 := hid (show R'.toArray.size = 6 by rw [List.size_toArray]; exact HL'.out)
 have I1 := hid (show (Tryz.prog.info? 35).map (·.size) = some R'.length by rw [HL'.out]; exact I6.out)
 have I2 := hid (show (Tryz.prog.info? 35).map (·.size) = some R'.toArray.size by rw [HZ3.out]; exact I6.out)
 have ZN := hid (Bx.new w3 #[.int .i64 0, .int .i64 0, .int .i64 0, .slice none 0 0, .slice none 0 0, .slice none 0 0] 35 rfl)
 have TH := hid (show (w3.alloc (.cells #[.int .i64 0, .int .i64 0, .int .i64 0, .slice none 0 0, .slice none 0 0, .slice none 0 0] 35)).there w3.heap.size 0 R'.toArray.size by rw [HZ3.out]; exact ZN.out.there 0 6 (by simp))
 go_upto_region 2 with (refine wpList_store_mid rfl 35 _ _ rfl w3.heap.size 0 R'.toArray rfl rfl TH.out I2.out HC1.out ?_)
 refine late_genw (fun wB hwB => ?_)
 have hbb : Below w3.heap.size w3 wB := by rw [hwB]; exact Below.setCells _ (Nat.le_refl _) _ _ ((Below.refl _ _).alloc (Nat.le_refl _) _)
 have XN := hid (show Bx wB w3.heap.size R'.toArray by rw [hwB]; exact ZN.out.setAll R' (by rw [HL'.out]; simp))
 clear TH ZN
 have XB := hid (Bx.below hbb X3.out.f.lt X3.out)
 have TB := hid (show Tch [] w wB from TC.out.trans (Tch.of_below hbb))
 have DFB := hid (DF.out.grow hbb)
 have LB6 := hid (fun b hb => (DF.out.lts b hb).2)
 have NB := hid hbb.size
 clear hwB hbb
 have TH2 := hid (show wB.there Bs 0 R'.toArray.size by rw [HZ3.out]; exact there_head XB.out HL.out)
 go_upto_region 3 with (first | (refine wpList_load_mid rfl 35 _ rfl w3.heap.size 0 rfl R' _ XN.out.all Tryz.underlying35 rfl I1.out ?_) | (refine wpList_store_mid rfl 35 _ _ rfl Bs 0 R'.toArray rfl rfl TH2.out I2.out HC1.out ?_))
 refine late_genw (fun wE hwE => ?_)
 have XE := hid (show Bx wE Bs (dskC dr.1 v3 v4 v5 ++ T).toArray by rw [hwE, ← HR'.out]; exact bx_head XB.out HL.out HL'.out)
 have TE := hid (show Tch [Bs] w wE by rw [hwE]; exact (TB.out.mono (by simp)).setCells Bs (by simp) _ _)
 have DE := hid (show DiskF 104 127 106 5 w.heap.size wE dr.1 v3 v4 v5 B3 B4 B5 by
  rw [hwE]
  refine (DFB.out.mono (Nat.le_refl w.heap.size)).keep fun b hb => setCells_heap _ _ _ _ _ ?_
  have h1 := (DF.out.lts b hb).1
  have h2 := HX.out.f.lt
  have h3 := (Nat.le_refl w.heap.size)
  omega)
 clear hwE
 go_wp2
 go_ret
 exact ⟨v3, v4, v5, B3, B4, B5, rfl, XE.out, DE.out, TE.out⟩
theorem s_l06Do {w : World} {Bs : Nat} {d : DiskD} {R T : List Value} {bs : List Nat} (hX : Bx w Bs (R ++ T).toArray) (hD : Rep.pt w bs R d) (hs : Small d) {kd : Int} {nm : ByteArray} (hv : OpV kd nm (if kd = 5 then hist else emp) 0 []) :
  Calls Tryz.prog 22 #[.pointer (some ⟨Bs, 0, none⟩), .int .i64 kd, .string nm] w (StAct 104 127 106 5 w Bs T (diskDo d kd nm (if kd = 5 then hist else emp) 0 [])) := by
 have hcl := Rep.len hD
 have HX := hid hX; have HD := hid hD; have HS := hid hs
 have HL := hid (show R.length = 6 from hcl)
 have I6 := hid (show (Tryz.prog.info? 35).map (·.size) = some 6 by kernel_rfl)
 have I0 := hid (show (Tryz.prog.info? 35).map (·.size) = some R.length by rw [HL.out]; exact I6.out)
 obtain ⟨dr, hdr⟩ : ∃ dr, dr = diskDo d kd nm (if kd = 5 then hist else emp) 0 [] := ⟨_, rfl⟩
 rw [← hdr]
 have HDR := hid hdr
 have HV := hid hv
 clear hX hD hs hcl hdr hv
 obtain ⟨tt, htt⟩ : ∃ tt, tt = if kd = 5 then hist else emp := ⟨_, rfl⟩
 rw [← htt] at HDR HV
 have HTT := hid htt
 clear htt
 go_enter Tryz.func22, Tryz.ntmps22
 have hlB : Bs < w.heap.size := HX.out.f.lt
 go_upto_region 2 with fail
 refine late_genw (fun w1 hw1 => ?_)
 have hb1 : Below w.heap.size w w1 := by rw [hw1]; exact (Below.refl _ _).alloc (Nat.le_refl _) _
 have XO := hid (show Bx w1 w.heap.size #[.int .i64 kd, .string nm, .string emp, .int .i64 0, .slice none 0 0] by rw [hw1]; exact Bx.new _ _ _ rfl)
 have B1 := hid hb1
 clear hw1 hb1
 have xo := XO.out.out; have xf := XO.out.fr
 go_upto_if 14 with fail
 go_cut [7] (fun v V => v = .pointer (some ⟨w.heap.size, 0, none⟩) ∧ Bx V w.heap.size #[.int .i64 kd, .string nm, .string tt, .int .i64 0, .slice none 0 0] ∧ Below w.heap.size w V)
 case first =>
  by_cases k5 : kd = 5
  ·have HT := hid (show tt = hist by rw [HTT.out, if_pos k5])
   subst k5
   go_wp2
   go_meet
   exact ⟨rfl, by rw [HT.out]; exact XO.out.setSame 2 _, B1.out.setCell (Nat.le_refl _) _⟩
  ·have HT := hid (show tt = emp by rw [HTT.out, if_neg k5])
   go_wp2
   go_meet
   exact ⟨rfl, by rw [HT.out]; exact XO.out, B1.out⟩
 case rest =>
  obtain ⟨rfl, hXO, hB⟩ := hcut
  have XO2 := hid hXO; have B2 := hid hB
  have X2 := hid (Bx.below hB hlB HX.out)
  have hlO : w.heap.size < wc.heap.size := hXO.f.lt
  clear hXO hB xo xf XO B1
  have hInf := hid (show (Tryz.prog.info? 67).map (·.size) = some [Value.int .i64 kd, .string nm, .string tt, .int .i64 0, .slice none 0 0].length by kernel_rfl)
  go_wp2_with fail
  refine late_start (fun V => V.rangeAt Bs 0 R ∧ V.rangeAt w.heap.size 0 [Value.int .i64 kd, .string nm, .string tt, .int .i64 0, .slice none 0 0] ∧ Below wc.heap.size wc V) 99 (by kernel_rfl) ?_ (fun hS => ?_)
  ·exact ⟨(World.rangeAt_drew _ _ _ _).2 (range_left X2.out.all), (World.rangeAt_drew _ _ _ _).2 XO2.out.whole, (Below.refl _ _).drew⟩
  refine late_genw (fun w0 hw0 => ?_)
  rw [← hw0] at hS
  have hszc : wc.heap.size ≤ w0.heap.size := hS.2.2.size
  clear hw0
  refine ltk 0 rfl ?_
  try simp only [Act.put, putZ, List.getElem_toArray, List.getElem_cons_zero, List.getElem_cons_succ]
  refine ltk 1 rfl ?_
  try simp only [Act.put, putZ, List.getElem_toArray, List.getElem_cons_zero, List.getElem_cons_succ]
  refine ltk 2 rfl ?_
  try simp only [Act.put, putZ, List.getElem_toArray, List.getElem_cons_zero, List.getElem_cons_succ]
  refine late_take (i := 3) (v := .agg R.toArray) rfl (by kernel_rfl) (fun _ _ _ h => h) (by rfl) (fun V hV => exec_load_mid 35 _ rfl Bs 0 rfl R _ hV.1 Tryz.underlying35 rfl I0.out) hS ?_
  try simp only [Act.put, putZ, List.getElem_toArray, List.getElem_cons_zero, List.getElem_cons_succ]
  refine late_take (i := 4) (v := .agg [Value.int .i64 kd, .string nm, .string tt, .int .i64 0, .slice none 0 0].toArray) rfl (by kernel_rfl) (fun _ _ _ h => h) (by rfl) (fun V hV => exec_load_mid 67 _ rfl w.heap.size 0 rfl _ _ hV.2.1 Tryz.underlying67 rfl hInf.out) hS ?_
  try simp only [Act.put, putZ, List.getElem_toArray, List.getElem_cons_zero, List.getElem_cons_succ]
  refine late_two (i := 5) (j := 9) rfl rfl (by kernel_rfl) (fun K9 hK9 => ?_) (fun K9 hK9 => ?_)
  ·skip
   go_simp
   have hb0 := hS.2.2
   have HB0 := hid (B2.out.trans (hb0.mono B2.out.size))
   have X0 := hid (Bx.below hb0 X2.out.f.lt X2.out)
   have hsz0 : w.heap.size ≤ w0.heap.size := HB0.out.size
   refine (s_DiskDo (grow HD.out HB0.out) HS.out HV.out (slc_nil w0) (by simp)).mono ?_
   rintro e w3 ⟨v3, v4, v5, B3, B4, B5, rfl, hDF, hb3⟩
   rw [← HDR.out] at hDF ⊢
   have DF := hid hDF
   have X3 := hid (Bx.below hb3 X0.out.f.lt X0.out)
   have TC := hid (show Tch [] w w3 from (Tch.of_below HB0.out).trans (Tch.of_below hb3))
   have hb3x := hb3
   clear hDF hb3
   obtain ⟨R', hR'⟩ : ∃ R', R' = dskC dr.1 v3 v4 v5 := ⟨_, rfl⟩
   rw [show (#[Value.int .i64 dr.1.Room, .int .i64 dr.1.Fuse, .int .i64 dr.1.Next, v3, v4, v5] : Array Value) = R'.toArray by rw [hR']; rfl]
   have HL' := hid (show R'.length = 6 by rw [hR']; rfl)
   have HC1 := hid (show R'.toArray.all (·.oneCell') = true by rw [hR']; exact DF.out.one)
   have HR' := hid hR'
   clear hR'
   have HZ3 := hid (show R'.toArray.size = 6 by rw [List.size_toArray]; exact HL'.out)
   have I1 := hid (show (Tryz.prog.info? 35).map (·.size) = some R'.length by rw [HL'.out]; exact I6.out)
   have I2 := hid (show (Tryz.prog.info? 35).map (·.size) = some R'.toArray.size by rw [HZ3.out]; exact I6.out)
   go_wp2_with fail
   refine hK9.out _ _ (fun _ => ?_) (fun hS9 => ?_)
   ·(try dsimp only); exact ⟨range_below hS.1 hb3x, range_below hS.2.1 hb3x, hS.2.2.trans (hb3x.mono hS.2.2.size)⟩
   replace hS := hS9 (by decide)
   clear hK9 K9 hS9
   try simp only [Act.put, putZ, List.getElem_toArray, List.getElem_cons_zero, List.getElem_cons_succ]
   have L3 := hid (show w0.heap.size ≤ w3.heap.size from hb3x.size)
   clear hb3x
   refine ltk 6 rfl ?_
   try simp only [Act.put, putZ, List.getElem_toArray, List.getElem_cons_zero, List.getElem_cons_succ]
   refine ltk 7 rfl ?_
   try simp only [Act.put, putZ, List.getElem_toArray, List.getElem_cons_zero, List.getElem_cons_succ]
   refine ltk 8 rfl ?_
   try simp only [Act.put, putZ, List.getElem_toArray, List.getElem_cons_zero, List.getElem_cons_succ]
   refine late_one (i := 9) rfl (by kernel_rfl) (fun K9 hK9 => ?_)
   go_simp
   refine hK9.out _ _ (fun _ => ?_) (fun hS9 => ?_)
   ·(try dsimp only); exact ⟨range_below hS.1 ((Below.refl _ _).alloc (Nat.le_refl _) _), range_below hS.2.1 ((Below.refl _ _).alloc (Nat.le_refl _) _), hS.2.2.alloc hS.2.2.size _⟩
   replace hS := hS9 (by decide)
   clear hK9 K9 hS9
   try simp only [Act.put, putZ, List.getElem_toArray, List.getElem_cons_zero, List.getElem_cons_succ]
   have ZN := hid (Bx.new w3 #[.int .i64 0, .int .i64 0, .int .i64 0, .slice none 0 0, .slice none 0 0, .slice none 0 0] 35 rfl)
   have TH := hid (show (w3.alloc (.cells #[.int .i64 0, .int .i64 0, .int .i64 0, .slice none 0 0, .slice none 0 0, .slice none 0 0] 35)).there w3.heap.size 0 R'.toArray.size by rw [HZ3.out]; exact ZN.out.there 0 6 (by simp))
   refine late_one (i := 10) rfl (by kernel_rfl) (fun K9 hK9 => ?_)
   refine step_store_mid rfl 35 _ _ rfl w3.heap.size 0 R'.toArray rfl rfl TH.out I2.out HC1.out ?_
   have hbs : Below w3.heap.size w3 ((w3.alloc (.cells #[.int .i64 0, .int .i64 0, .int .i64 0, .slice none 0 0, .slice none 0 0, .slice none 0 0] 35)).setCells w3.heap.size 0 R'.toArray.toList) := Below.setCells _ (Nat.le_refl _) _ _ ((Below.refl _ _).alloc (Nat.le_refl _) _)
   refine hK9.out _ _ (fun _ => ?_) (fun hS9 => ?_)
   ·(try dsimp only); exact ⟨range_set hS.1 (by have := X2.out.f.lt; have := L3.out; omega), range_set hS.2.1 (by have := L3.out; omega), Below.setCells _ (by have := L3.out; omega) _ _ hS.2.2⟩
   replace hS := hS9 (by decide)
   clear hK9 K9 hS9
   try simp only [Act.put, putZ, List.getElem_toArray, List.getElem_cons_zero, List.getElem_cons_succ]
   refine late_genw (fun wB hwB => ?_)
   rw [← hwB] at hS
   have hbb : Below w3.heap.size w3 wB := by rw [hwB]; exact hbs
   have XN := hid (show Bx wB w3.heap.size R'.toArray by rw [hwB]; exact ZN.out.setAll R' (by rw [HL'.out]; simp))
   clear TH ZN hbs
   refine ltk 11 rfl ?_
   try simp only [Act.put, putZ, List.getElem_toArray, List.getElem_cons_zero, List.getElem_cons_succ]
   refine late_done (by kernel_rfl) ?_ _
   clear hS
   have XB := hid (Bx.below hbb X3.out.f.lt X3.out)
   have TB := hid (show Tch [] w wB from TC.out.trans (Tch.of_below hbb))
   have DFB := hid (DF.out.grow hbb)
   have LB6 := hid (fun b hb => (DF.out.lts b hb).2)
   have NB := hid hbb.size
   clear hwB hbb
   have TH2 := hid (show wB.there Bs 0 R'.toArray.size by rw [HZ3.out]; exact there_head XB.out HL.out)
   go_upto_region 6 with (first | (refine wpList_load_mid rfl 35 _ rfl w3.heap.size 0 rfl R' _ XN.out.all Tryz.underlying35 rfl I1.out ?_) | (refine wpList_store_mid rfl 35 _ _ rfl Bs 0 R'.toArray rfl rfl TH2.out I2.out HC1.out ?_))
   refine late_genw (fun wE hwE => ?_)
   have XE := hid (show Bx wE Bs (dskC dr.1 v3 v4 v5 ++ T).toArray by rw [hwE, ← HR'.out]; exact bx_head XB.out HL.out HL'.out)
   have TE := hid (show Tch [Bs] w wE by rw [hwE]; exact (TB.out.mono (by simp)).setCells Bs (by simp) _ _)
   have DE := hid (show DiskF 104 127 106 5 w.heap.size wE dr.1 v3 v4 v5 B3 B4 B5 by
    rw [hwE]
    refine (DFB.out.mono hsz0).keep fun b hb => setCells_heap _ _ _ _ _ ?_
    have h1 := (DF.out.lts b hb).1
    have h2 := HX.out.f.lt
    have h3 := hsz0
    omega)
   clear hwE
   go_wp2
   go_ret
   exact ⟨v3, v4, v5, B3, B4, B5, rfl, XE.out, DE.out, TE.out⟩
  ·skip
   go_simp
   refine hK9.out _ _ (fun _ => ?_) (fun hS9 => ?_)
   ·(try dsimp only); exact ⟨range_below hS.1 ((Below.refl _ _).alloc (Nat.le_refl _) _), range_below hS.2.1 ((Below.refl _ _).alloc (Nat.le_refl _) _), hS.2.2.alloc hS.2.2.size _⟩
   replace hS := hS9 (by decide)
   clear hK9 K9 hS9
   try simp only [Act.put, putZ, List.getElem_toArray, List.getElem_cons_zero, List.getElem_cons_succ]
   have ZNx := hid (Bx.new w0 #[.int .i64 0, .int .i64 0, .int .i64 0, .slice none 0 0, .slice none 0 0, .slice none 0 0] 35 rfl)
   refine late_genw (fun w00 hw00 => ?_)
   rw [← hw00] at hS ZNx
   have hzz : w0.heap.size < w00.heap.size := by rw [hw00]; simp
   clear hw00
   refine late_one (i := 5) rfl (by kernel_rfl) (fun K9 hK9 => ?_)
   go_simp
   have hb0 := hS.2.2
   have HB0 := hid (B2.out.trans (hb0.mono B2.out.size))
   have X0 := hid (Bx.below hb0 X2.out.f.lt X2.out)
   have hsz0 : w.heap.size ≤ w00.heap.size := HB0.out.size
   have hszw : wc.heap.size ≤ w0.heap.size := hszc
   refine (s_DiskDo (grow HD.out HB0.out) HS.out HV.out (slc_nil w00) (by simp)).mono ?_
   rintro e w3 ⟨v3, v4, v5, B3, B4, B5, rfl, hDF, hb3⟩
   rw [← HDR.out] at hDF ⊢
   have DF := hid hDF
   have X3 := hid (Bx.below hb3 X0.out.f.lt X0.out)
   have TC := hid (show Tch [] w w3 from (Tch.of_below HB0.out).trans (Tch.of_below hb3))
   have hb3x := hb3
   clear hDF hb3
   obtain ⟨R', hR'⟩ : ∃ R', R' = dskC dr.1 v3 v4 v5 := ⟨_, rfl⟩
   rw [show (#[Value.int .i64 dr.1.Room, .int .i64 dr.1.Fuse, .int .i64 dr.1.Next, v3, v4, v5] : Array Value) = R'.toArray by rw [hR']; rfl]
   have HL' := hid (show R'.length = 6 by rw [hR']; rfl)
   have HC1 := hid (show R'.toArray.all (·.oneCell') = true by rw [hR']; exact DF.out.one)
   have HR' := hid hR'
   clear hR'
   have HZ3 := hid (show R'.toArray.size = 6 by rw [List.size_toArray]; exact HL'.out)
   have I1 := hid (show (Tryz.prog.info? 35).map (·.size) = some R'.length by rw [HL'.out]; exact I6.out)
   have I2 := hid (show (Tryz.prog.info? 35).map (·.size) = some R'.toArray.size by rw [HZ3.out]; exact I6.out)
   have ZN := hid (Bx.below hb3x ZNx.out.f.lt ZNx.out)
   go_wp2_with fail
   refine hK9.out _ _ (fun _ => ?_) (fun hS9 => ?_)
   ·(try dsimp only); exact ⟨range_below hS.1 hb3x, range_below hS.2.1 hb3x, hS.2.2.trans (hb3x.mono hS.2.2.size)⟩
   replace hS := hS9 (by decide)
   clear hK9 K9 hS9
   try simp only [Act.put, putZ, List.getElem_toArray, List.getElem_cons_zero, List.getElem_cons_succ]
   have L3 := hid (show w00.heap.size ≤ w3.heap.size from hb3x.size)
   clear hb3x
   refine ltk 6 rfl ?_
   try simp only [Act.put, putZ, List.getElem_toArray, List.getElem_cons_zero, List.getElem_cons_succ]
   refine ltk 7 rfl ?_
   try simp only [Act.put, putZ, List.getElem_toArray, List.getElem_cons_zero, List.getElem_cons_succ]
   refine ltk 8 rfl ?_
   try simp only [Act.put, putZ, List.getElem_toArray, List.getElem_cons_zero, List.getElem_cons_succ]
   have TH := hid (show w3.there w0.heap.size 0 R'.toArray.size by rw [HZ3.out]; exact ZN.out.there 0 6 (by simp))
   refine late_one (i := 10) rfl (by kernel_rfl) (fun K9 hK9 => ?_)
   refine step_store_mid rfl 35 _ _ rfl w0.heap.size 0 R'.toArray rfl rfl TH.out I2.out HC1.out ?_
   have hBw : Bs < wc.heap.size := X2.out.f.lt
   refine hK9.out _ _ (fun _ => ?_) (fun hS9 => ?_)
   ·(try dsimp only); exact ⟨range_set hS.1 (by omega), range_set hS.2.1 (by omega), Below.setCells _ (by omega) _ _ hS.2.2⟩
   replace hS := hS9 (by decide)
   clear hK9 K9 hS9
   try simp only [Act.put, putZ, List.getElem_toArray, List.getElem_cons_zero, List.getElem_cons_succ]
   refine late_genw (fun wB hwB => ?_)
   rw [← hwB] at hS
   have XB := hid (show Bx wB Bs (R ++ T).toArray by rw [hwB]; exact X3.out.setOtherAll (by omega) _ _)
   have TB := hid (show Tch [] w wB by rw [hwB]; exact setCells_new TC.out (by omega) _ _)
   have DFB := hid (show DiskF 104 127 106 5 w00.heap.size wB dr.1 v3 v4 v5 B3 B4 B5 by rw [hwB]; exact DF.out.keep fun b hb => setCells_heap _ _ _ _ _ (by have := (DF.out.lts b hb).1; omega))
   have XN := hid (show Bx wB w0.heap.size R'.toArray by rw [hwB]; exact ZN.out.setAll R' (by rw [HL'.out]; simp))
   have NB := hid (show w3.heap.size ≤ wB.heap.size by rw [hwB, setCells_size]; exact Nat.le_refl _)
   clear TH ZN hwB
   refine ltk 11 rfl ?_
   try simp only [Act.put, putZ, List.getElem_toArray, List.getElem_cons_zero, List.getElem_cons_succ]
   refine late_done (by kernel_rfl) ?_ _
   clear hS
   have TH2 := hid (show wB.there Bs 0 R'.toArray.size by rw [HZ3.out]; exact there_head XB.out HL.out)
   go_upto_region 6 with (first | (refine wpList_load_mid rfl 35 _ rfl w0.heap.size 0 rfl R' _ XN.out.all Tryz.underlying35 rfl I1.out ?_) | (refine wpList_store_mid rfl 35 _ _ rfl Bs 0 R'.toArray rfl rfl TH2.out I2.out HC1.out ?_))
   refine late_genw (fun wE hwE => ?_)
   have XE := hid (show Bx wE Bs (dskC dr.1 v3 v4 v5 ++ T).toArray by rw [hwE, ← HR'.out]; exact bx_head XB.out HL.out HL'.out)
   have TE := hid (show Tch [Bs] w wE by rw [hwE]; exact (TB.out.mono (by simp)).setCells Bs (by simp) _ _)
   have DE := hid (show DiskF 104 127 106 5 w.heap.size wE dr.1 v3 v4 v5 B3 B4 B5 by
    rw [hwE]
    refine (DFB.out.mono hsz0).keep fun b hb => setCells_heap _ _ _ _ _ ?_
    have h1 := (DF.out.lts b hb).1
    have h2 := HX.out.f.lt
    have h3 := hsz0
    omega)
   clear hwE
   go_wp2
   go_ret
   exact ⟨v3, v4, v5, B3, B4, B5, rfl, XE.out, DE.out, TE.out⟩
end Go.Proofs.YtdjcjilipgpnmaaGreat
