/- In a valid disk each name leads to a node. -/
import Derived.Test.YtdjcjilipgpnmaaGreatKDskS
section
set_option linter.unusedSimpArgs false
set_option linter.unusedVariables false
namespace Go.G6
open Go Go.RowKit Rep
/-- Data that go through no block. -/
class Flat (α : Type) [Rep α] : Prop where
 flat : ∀ {w : World} {bs : List Nat} {cs : List Value} {x : α}, pt w bs cs x → bs = []
instance : Flat LinkD := ⟨fun h => (open_Link h).1⟩
instance : Flat TurnD := ⟨fun h => (open_Turn h).1⟩
instance : Flat EntryD := ⟨fun h => (open_Entry h).1⟩
instance : Flat UInt8 := ⟨fun h => h.1⟩
instance : Flat Int := ⟨fun h => h.1⟩
theorem elems_flat {α : Type} [Rep α] [Flat α] {w : World} {bss : List (List Nat)} {cells : List Value} {xs : List α} (h : Elems w bss cells xs) : ∀ b ∈ bss, b = [] := by
 intro b hb
 obtain ⟨i, hi, rfl⟩ := List.getElem_of_mem hb
 have hl := h.length.1
 obtain ⟨cs, bs, hp, he, _⟩ := h.get i (by omega)
 rw [List.getElem?_eq_getElem hi] at he
 rw [Option.some.inj he]
 exact Flat.flat hp
theorem Slc.srcF {α : Type} [Rep α] [Flat α] {w : World} {bs : List Nat} {a : Option Addr} {m c : Nat} {ys : List α} (h : Slc w bs a m c ys) : Src w [] a m c ys := by
 obtain ⟨h1, h2, h3, ⟨rfl, rfl, h5⟩ | ⟨_, b, off, bss, cells, rfl, _, _, hE, hA⟩⟩ := h
 ·refine ⟨h1, ?_⟩
  cases a with
  | none => exact .inl ⟨rfl, h5 rfl, rfl, rfl⟩
  | some ad => exact .inr ⟨ad, [], [], rfl, rfl, rfl, by simp⟩
 ·refine ⟨h1, .inr ⟨_, bss, cells, rfl, hE, (flat_nil (elems_flat hE)).symm, fun j u hj => ?_⟩⟩
  rw [add_none]
  exact hA j u hj
def dirTo (d : DiskD) (k : Nat) : List LinkD := (d.Turns.take k).foldl dirTurn d.Kept
def dirAll (d : DiskD) : List LinkD := d.Turns.foldl dirTurn d.Kept
theorem dirTo_step {d : DiskD} {k : Nat} (h : k < d.Turns.length) : dirTo d (k + 1) = dirTurn (dirTo d k) d.Turns[k] := by
 unfold dirTo; rw [List.take_succ_eq_append_getElem h, List.foldl_append]; rfl
theorem dirTo_len (d : DiskD) (k : Nat) : (dirTo d k).length ≤ d.Kept.length + k := by
 induction k with
 | zero => simp [dirTo]
 | succ k ih =>
  by_cases h : k < d.Turns.length
  ·rw [dirTo_step h]; have := dirTurn_len (dirTo d k) d.Turns[k]; omega
  ·have : dirTo d (k + 1) = dirTo d k := by unfold dirTo; rw [List.take_of_length_le (by omega), List.take_of_length_le (by omega)]
   rw [this]; omega
theorem dirTo_all (d : DiskD) : dirTo d d.Turns.length = dirAll d := by unfold dirTo dirAll; rw [List.take_length]
/-- What a file holds. -/
def readB (d : DiskD) (s : ByteArray) : List UInt8 := ((d.Nodes[(nodeAt d (dirFind (dirAll d) s)).toNat]?).map (·.Body)).getD []
def thereB (d : DiskD) (s : ByteArray) : Bool := !decide (dirFind (dirAll d) s = 0)
end Go.G6
namespace Go.Proofs.YtdjcjilipgpnmaaGreat
open Go.RowKit Go.G6
set_option maxHeartbeats 3000000
set_option maxRecDepth 10000
theorem s_l03Dir {w : World} {bs : List Nat} {cs : List Value} {d : DiskD} (h : Rep.pt w bs cs d) (hk : d.Kept.length ≤ 1000) (ht : d.Turns.length ≤ 1000) :
  Calls Tryz.prog 118 #[.agg cs.toArray, .int .i64 (d.Turns.length : Int)] w (RetL w 127 (dirAll d)) := by
 obtain ⟨b3, b4, b5, a3, l3, k3, a4, l4, k4, a5, l5, k5, rfl, hcs, h0, h1, h2, h3, h4, h5⟩ := open_Disk h
 obtain rfl := h4.len_eq
 obtain rfl := h5.len_eq
 obtain ⟨i0, hi, hz0, hz1, hz2⟩ := info_parts info_LinkF
 have m4 := h4.max; have m5 := h5.max
 have H4 := hid h4; have H5 := hid h5
 have HK := hid hk; have HT := hid ht
 have HX := hid (Bx.new w cs.toArray 35 rfl)
 have x4 := bx_at HX.out 4 (v := .slice a4 d.Kept.length k4) (by rw [hcs]; rfl)
 have x5 := bx_at HX.out 5 (v := .slice a5 d.Turns.length k5) (by rw [hcs]; rfl)
 clear h h0 h1 h2 h3 h4 h5 hcs HX
 have hb0 := hid ((Below.refl w.heap.size w).alloc (Nat.le_refl _) (.cells cs.toArray 35))
 obtain ⟨wA, hwA⟩ : ∃ wA, wA = w.alloc (.cells cs.toArray 35) := ⟨_, rfl⟩
 rw [← hwA] at hb0 x4 x5
 go_enter Tryz.func118, Tryz.ntmps118
 go_upto_region 1 with fail
 rw [← hwA]
 clear hwA
 have HO := hid (show OwnL wA.heap.size (wA.alloc (.cells #[] 127)) 127 (.slice (some ⟨wA.heap.size, 0, none⟩) 0 0) [wA.heap.size] ([] : List LinkD) from ownL_empty rfl (Nat.le_refl _))
 have hB := hid (show Below wA.heap.size wA (wA.alloc (.cells #[] 127)) from (Below.refl _ _).alloc (Nat.le_refl _) _)
 have l4 := World.block_lt_of_cell? _ _ x4
 have X5 := hid x5; have L4 := hid l4
 have x4' := ((bcell hB.out).1 _ 4 l4).trans x4
 have HS4 := hid (H4.out.grow (hb0.out.trans (hB.out.mono hb0.out.size)))
 clear x4 x5 l4
 go_wp2_with (at_builtin; refine wp_append rfl _ _ 32 rfl 127 i0 (.agg #[.string ByteArray.empty, .int .i64 0]) 24 Tryz.underlying32 hi hz0 hz1 hz2 rfl (lo := wA.heap.size) (xs := ([] : List LinkD)) rfl HO.out (b2 := []) (ys := d.Kept) rfl HS4.out.srcF List.nodup_nil (fun b hb => by cases hb) ?q2 ?q3 ?q4 ?_)
 try (case q2 => have := HK.out; simp; omega)
 try (case q3 => have := HK.out; simp; omega)
 try (case q4 => simp)
 intro p1 c1 w1 b1 hO1 hT1 hm1
 have HO1 := hid hO1
 have HB1 := hid (below_tch hB.out hT1 HO.out.lts)
 clear hO1 hT1 hm1 HO hB HS4 x4'
 go_wp2_with fail
 go_loopw [5, 6] (fun o i wr => ∃ (k : Nat) (p : Option Addr) (m c : Nat) (b' : List Nat) (dir : List LinkD), k ≤ d.Turns.length ∧ o = .slice p m c ∧ i = .int .i64 (k : Int) ∧ m = dir.length ∧ OwnL wA.heap.size wr 127 (.slice p m c) b' dir ∧ dir = dirTo d k ∧ Below wA.heap.size wA wr) (fun _ i _ => d.Turns.length - (intOf i).toNat)
 case atStart => exact ⟨0, p1, _, c1, b1, d.Kept, Nat.zero_le _, rfl, rfl, rfl, HO1.out, rfl, HB1.out⟩
 case round =>
  clear HO1 HB1
  obtain ⟨k, p, m, c, b', dir, hk, rfl, rfl, hm, hO, hd, hb⟩ := hrel
  have HOr := hid hO; have HD := hid hd; have HBr := hid hb; have HM := hid hm
  clear hO hd hm
  have hkT := HT.out
  by_cases hlt : k < d.Turns.length
  ·obtain ⟨b1, o1, cs1, _, rfl, _, hp1, _, hA1⟩ := (H5.out.grow (hb0.out.trans (hb.mono hb0.out.size))).elem k hlt
   obtain ⟨_, rfl, q1, q2, q3, q4⟩ := open_Turn hp1
   have c0 : wr.cell? ⟨b1, o1 + k * 4, none⟩ = some _ := hA1 0 _ rfl
   have c1 : wr.cell? ⟨b1, o1 + k * 4 + 1, none⟩ = some _ := hA1 1 _ rfl
   have c2 : wr.cell? ⟨b1, o1 + k * 4 + 2, none⟩ = some _ := hA1 2 _ rfl
   have c3 : wr.cell? ⟨b1, o1 + k * 4 + 3, none⟩ = some _ := hA1 3 _ rfl
   have x5' := ((bcell hb).1 _ 5 L4.out).trans X5.out
   have hst := dirTo_step hlt
   have hln := dirTo_len d k
   have hki : (k : Int) < (d.Turns.length : Int) := by omega
   obtain ⟨x, hx⟩ : ∃ x, x = d.Turns[k] := ⟨_, rfl⟩
   rw [← hx] at hst c0 c1 c2 c3 q1 q2 q3 q4
   have HST := hid hst; have HLN := hid hln
   have PT := fun (W : World) => mk_Turn (w := W) (d := x) q1 q2 q3 q4
   obtain ⟨bS, _, sS⟩ := HOr.out.slcL
   have SS := hid sS
   clear hst hln hp1 hA1 hx hb sS
   go_wp2_with fail
   refine (s_l03Turn SS.out (by have := HLN.out; have := HK.out; rw [HD.out]; omega) (PT _)).mono ?_
   rintro e w6 ⟨v6, b6, rfl, hO6, hb6⟩
   have HB6 := hid (HBr.out.trans (hb6.mono HBr.out.size))
   obtain ⟨p6, c6, rfl⟩ := hO6.slice
   have HO6 := hid (hO6.mono HBr.out.size)
   clear hO6 hb6
   go_wp2
   exact ⟨⟨k + 1, p6, _, c6, b6, dirTurn dir x, by omega, rfl, by go_num, rfl, HO6.out, by rw [HST.out, HD.out], HB6.out⟩, by simp [intOf]; try omega⟩
  ·obtain rfl : k = d.Turns.length := by omega
   have hki : ¬ (d.Turns.length : Int) < (d.Turns.length : Int) := by omega
   have E := hid (show dir = dirAll d by rw [HD.out, dirTo_all])
   clear hb
   go_wp2
   go_ret
   exact ⟨_, b', rfl, by rw [← E.out]; exact HOr.out.mono hb0.out.size, hb0.out.trans (HBr.out.mono hb0.out.size)⟩
theorem s_DiskDir {w : World} {bs : List Nat} {cs : List Value} {d : DiskD} (h : Rep.pt w bs cs d) (hs : Small d) (hok : diskOk d = true) (hR : RangeOk d) :
  Calls Tryz.prog 95 #[.agg cs.toArray] w (RetL w 127 (dirAll d)) := by
 obtain ⟨b3, b4, b5, a3, l3, k3, a4, l4, k4, a5, l5, k5, rfl, hcs, h0, h1, h2, h3, h4, h5⟩ := open_Disk h
 obtain rfl := h5.len_eq
 have H0 := hid h; have HS := hid hs; have HOK := hid hok; have HR := hid hR
 have HX := hid (Bx.new w cs.toArray 35 rfl)
 have I0 := hid (show (Tryz.prog.info? 35).map (·.size) = some cs.length by rw [hcs]; kernel_rfl)
 have x5 := bx_at HX.out 5 (v := .slice a5 d.Turns.length k5) (by rw [hcs]; rfl)
 clear h h0 h1 h2 h3 h4 h5 hcs hs hok hR
 have hb0 := hid ((Below.refl w.heap.size w).alloc (Nat.le_refl _) (.cells cs.toArray 35))
 obtain ⟨wA, hwA⟩ : ∃ wA, wA = w.alloc (.cells cs.toArray 35) := ⟨_, rfl⟩
 rw [← hwA] at hb0 x5 HX
 have L0 := hid (World.block_lt_of_cell? _ _ x5)
 have X5 := hid x5
 go_enter Tryz.func95, Tryz.ntmps95
 go_upto_region 1 with fail
 rw [← hwA]
 clear hwA x5
 go_wp2_with (first | (refine wpList_load_mid rfl 35 _ rfl w.heap.size 0 rfl cs _ HX.out.all Tryz.underlying35 rfl I0.out ?_))
 refine (s_DiskOk (grow H0.out hb0.out) HS.out).mono ?_
 rintro e w1 ⟨rfl, hb1⟩
 rw [HOK.out]
 have HX1 := hid (Bx.below hb1 L0.out HX.out)
 have x5 := ((bcell hb1).1 _ 5 L0.out).trans X5.out
 have HB1 := hid (hb0.out.trans (hb1.mono hb0.out.size))
 clear hb1
 go_wp2_with (first | (refine wpList_load_mid rfl 35 _ rfl w.heap.size 0 rfl cs _ HX1.out.all Tryz.underlying35 rfl I0.out ?_))
 refine (s_l03Dir (grow H0.out HB1.out) (by have := HR.out.r8; omega) (by have := HR.out.r9; omega)).mono ?_
 rintro e w2 ⟨v2, b2, rfl, hO2, hb2⟩
 have HO2 := hid (hO2.mono HB1.out.size); have HB2 := hid (HB1.out.trans (hb2.mono HB1.out.size))
 obtain ⟨p2, c2, rfl⟩ := hO2.slice
 clear hO2 hb2
 go_wp2
 go_ret
 exact ⟨_, b2, rfl, HO2.out, HB2.out⟩
end Go.Proofs.YtdjcjilipgpnmaaGreat
end
section
set_option linter.unusedSimpArgs false
set_option linter.unusedVariables false
namespace Go.G6
open Go Go.RowKit Rep
theorem dirFind_mem : ∀ (l : List LinkD) (s : ByteArray), dirFind l s ≠ 0 → ∃ x ∈ l, x.Id = dirFind l s
 | [], s, h => absurd rfl h
 | x :: l, s, h => by
  unfold dirFind at h ⊢
  cases hq : (x.Name.toList == s.toList)
  ·rw [hq] at h
   simp only [Bool.false_eq_true, if_false] at h ⊢
   obtain ⟨y, hy, he⟩ := dirFind_mem l s h
   exact ⟨y, by simp [hy], he⟩
  ·simp only [if_true]
   exact ⟨x, by simp, rfl⟩
theorem dirLess_mem : ∀ (l : List LinkD) (s : ByteArray), ∀ x ∈ dirLess l s, x ∈ l
 | [], s, x, h => h
 | y :: l, s, x, h => by
  unfold dirLess at h
  split at h
  ·exact List.mem_cons_of_mem _ (dirLess_mem l s x h)
  ·rcases List.mem_cons.1 h with rfl | h
   ·simp
   ·exact List.mem_cons_of_mem _ (dirLess_mem l s x h)
theorem dirWith_mem : ∀ (l : List LinkD) (s : ByteArray) (id : Int), ∀ x ∈ dirWith l s id, x ∈ l ∨ x = ⟨s, id⟩
 | [], s, id, x, h => by simp [dirWith] at h; exact .inr h
 | y :: l, s, id, x, h => by
  unfold dirWith at h
  split at h
  ·rcases List.mem_cons.1 h with rfl | h
   ·exact .inr rfl
   ·exact .inl h
  ·rcases List.mem_cons.1 h with rfl | h
   ·exact .inl (by simp)
   ·rcases dirWith_mem l s id x h with h | h
    ·exact .inl (List.mem_cons_of_mem _ h)
    ·exact .inr h
theorem dirTurn_ids {I : Int → Prop} {l : List LinkD} {t : TurnD} (hl : ∀ x ∈ l, I x.Id) (hf : turnFit l t = true) (ht : t.Kind = 1 → I t.Id) : ∀ x ∈ dirTurn l t, I x.Id := by
 intro x hx
 unfold dirTurn at hx
 split at hx
 ·rename_i hk
  rcases dirWith_mem _ _ _ x hx with h | rfl
  ·exact hl x h
  ·exact ht hk
 ·rename_i hk
  split at hx
  ·rename_i hk5
   rcases dirWith_mem _ _ _ x hx with h | rfl
   ·exact hl x (dirLess_mem _ _ _ (dirLess_mem _ _ _ h))
   ·have h0 : dirFind l t.Name ≠ 0 := by
     unfold turnFit at hf
     rw [if_neg hk, if_pos hk5] at hf
     simp at hf
     omega
    obtain ⟨y, hy, he⟩ := dirFind_mem l t.Name h0
    show I (dirFind l t.Name)
    rw [← he]; exact hl y hy
  ·exact hl x (dirLess_mem _ _ _ hx)
theorem dirFold_ids {I : Int → Prop} : ∀ (ts : List TurnD) (l : List LinkD), (∀ x ∈ l, I x.Id) → turnsOk l ts = true → (∀ t ∈ ts, t.Kind = 1 → I t.Id) → ∀ x ∈ ts.foldl dirTurn l, I x.Id
 | [], l, hl, _, _ => hl
 | t :: ts, l, hl, hok, ht => by
  unfold turnsOk at hok
  simp only [Bool.and_eq_true] at hok
  exact dirFold_ids ts (dirTurn l t) (dirTurn_ids hl hok.1 (ht t (by simp))) hok.2 fun t' h' => ht t' (by simp [h'])
theorem diskOk_parts {d : DiskD} (h : diskOk d = true) : RangeOk d ∧ nodesOk d.Next 0 d.Nodes = true ∧ keptS none d.Kept = true ∧ (diskIds d).length = d.Nodes.length ∧ idsFrom (idNodes d.Nodes) [] (diskIds d) = true ∧ turnsOk d.Kept d.Turns = true ∧ (diskUsed d : Int) ≤ d.Room := by
 unfold diskOk at h
 simp only [Bool.and_eq_true, decide_eq_true_eq] at h
 exact ⟨(rangeB_iff d).1 h.1, h.2.1, h.2.2.1, h.2.2.2.1, h.2.2.2.2.1, h.2.2.2.2.2.1, h.2.2.2.2.2.2⟩
theorem idsFrom_has : ∀ (nodes don l : List Int), idsFrom nodes don l = true → ∀ n ∈ l, hasI nodes n = true
 | nodes, don, [], _, n, hn => by cases hn
 | nodes, don, m :: l, h, n, hn => by
  unfold idsFrom at h
  simp only [Bool.and_eq_true] at h
  rcases List.mem_cons.1 hn with rfl | hn
  ·exact h.1.2
  ·exact idsFrom_has nodes _ l h.2 n hn
theorem hasI_mem {l : List Int} {n : Int} (h : hasI l n = true) : n ∈ l := by
 unfold hasI at h
 obtain ⟨x, hx, he⟩ := List.any_eq_true.1 h
 rw [← of_decide_eq_true he]; exact hx
theorem dirAll_ids {d : DiskD} (h : diskOk d = true) : ∀ x ∈ dirAll d, x.Id ∈ idNodes d.Nodes := by
 obtain ⟨_, _, _, _, h5, h6, _⟩ := diskOk_parts h
 have hin : ∀ n ∈ diskIds d, n ∈ idNodes d.Nodes := fun n hn => hasI_mem (idsFrom_has _ _ _ h5 n hn)
 refine dirFold_ids d.Turns d.Kept (fun x hx => hin _ ?_) h6 (fun t ht hk => hin _ ?_)
 ·unfold diskIds idKept; exact List.mem_append_left _ (List.mem_map_of_mem hx)
 ·unfold diskIds idTurns
  refine List.mem_append_right _ (List.mem_map_of_mem (List.mem_filter.2 ⟨ht, by simpa using hk⟩))
theorem node_of {d : DiskD} (h : diskOk d = true) (s : ByteArray) (h0 : dirFind (dirAll d) s ≠ 0) : ∃ j, ∃ hj : j < d.Nodes.length, nodeAt d (dirFind (dirAll d) s) = (j : Int) ∧ d.Nodes[j].Id = dirFind (dirAll d) s := by
 obtain ⟨x, hx, he⟩ := dirFind_mem _ _ h0
 have hm := dirAll_ids h x hx
 rw [he] at hm
 rcases atI_spec d.Nodes (dirFind (dirAll d) s) 0 with ⟨_, h2⟩ | ⟨j, hj, h1, h2⟩
 ·obtain ⟨n, hn, hne⟩ := List.mem_map.1 hm
  exact absurd hne (h2 n hn)
 ·exact ⟨j, hj, by unfold nodeAt; rw [h1]; congr 1; omega, h2⟩
theorem nodesOk_pos : ∀ (l : List NodeD) (next last : Int), nodesOk next last l = true → 0 ≤ last → ∀ x ∈ l, 0 < x.Id ∧ x.Id < next
 | [], _, _, _, _, x, hx => by cases hx
 | y :: l, next, last, h, h0, x, hx => by
  unfold nodesOk at h
  simp only [Bool.and_eq_true, decide_eq_true_eq] at h
  rcases List.mem_cons.1 hx with rfl | hx
  ·omega
  ·exact nodesOk_pos l next y.Id h.2 (by omega) x hx
theorem find_nonneg {d : DiskD} (h : diskOk d = true) (s : ByteArray) : 0 ≤ dirFind (dirAll d) s := by
 by_cases h0 : dirFind (dirAll d) s = 0
 ·omega
 ·obtain ⟨j, hj, _, h2⟩ := node_of h s h0
  have := nodesOk_pos d.Nodes d.Next 0 (diskOk_parts h).2.1 (by omega) _ (List.getElem_mem hj)
  omega
theorem used_small {d : DiskD} (h : diskOk d = true) : diskUsed d ≤ 60000 := by
 obtain ⟨hR, _, _, _, _, _, h7⟩ := diskOk_parts h
 have := hR.r2; omega
theorem useOf_mem : ∀ (l : List NodeD), ∀ n ∈ l, max n.Body.length n.Safe.length ≤ useOf l
 | [], n, h => by cases h
 | x :: l, n, h => by
  unfold useOf
  simp only [List.map_cons, List.sum_cons]
  rcases List.mem_cons.1 h with rfl | h
  ·omega
  ·have := useOf_mem l n h
   unfold useOf at this; omega
theorem node_small {d : DiskD} (h : diskOk d = true) : ∀ n ∈ d.Nodes, n.Body.length ≤ 60000 ∧ n.Safe.length ≤ 60000 := by
 intro n hn
 have h1 := useOf_mem d.Nodes n hn
 have h2 := used_small h
 unfold diskUsed at h2
 omega
theorem ok_small {d : DiskD} (h : diskOk d = true) : Small d := by
 have hR := (diskOk_parts h).1
 have := hR.r7; have := hR.r8; have := hR.r9
 exact ⟨by omega, by omega, by omega, fun n hn => by have := node_small h n hn; omega⟩
/-- A list of the call's own, and whether it holds. -/
def RetLB {α : Type} [Rep α] (w : World) (e : TypeId) (x : List α) (ok : Bool) (en : Ending) (w' : World) : Prop := ∃ v bs, en = .returned (.tuple #[v, .bool ok]) ∧ OwnL w.heap.size w' e v bs x ∧ Below w.heap.size w w'
def readL (d : DiskD) (s : ByteArray) : List UInt8 := if thereB d s = true then readB d s else []
theorem readB_at {d : DiskD} {s : ByteArray} {j : Nat} (hj : j < d.Nodes.length) (he : nodeAt d (dirFind (dirAll d) s) = (j : Int)) : readB d s = d.Nodes[j].Body := by
 unfold readB; rw [he]; simp [hj]
end Go.G6
end
