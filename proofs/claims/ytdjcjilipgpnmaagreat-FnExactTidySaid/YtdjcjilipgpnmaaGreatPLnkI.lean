/- A directory's links in the order of their names, as the program makes them. -/
import Derived.Test.YtdjcjilipgpnmaaGreatKLnkW
import Derived.Deep.QuietTactic
set_option linter.unusedSimpArgs false
set_option linter.unusedVariables false
namespace Go.G6
open Go Go.RowKit Rep
theorem size_le {P : Program} {K : TypeId} {R : Value → Option (DataW Unit × List MemPlace)} {w : World} {b n : Nat} {D : DataW Unit} (h : w.ownsMap P K R b n D) : Maps.size D ≤ n := by
 obtain ⟨es, c, _, _, hs, rfl⟩ := h
 have := (WideShapes.sorted_perm (es.toList.map (WideElems.rg P K R))).length_eq
 show List.length _ ≤ n
 rw [this]
 simpa using hs
theorem i64_of {n : Int} (h : (Lit.int .i64 n).wf = true) : I64 n := by
 simp [Lit.wf, IntKind.min, IntKind.max, IntKind.signed, IntKind.bits] at h
 unfold I64; omega
theorem bx_tchM {w w' : World} {b : Nat} {c : Array Value} {bs : List Nat} (h : Bx w b c) (hT : Tch bs w w') (hn : b ∉ bs) : Bx w' b c := Bx.tch hT h.f.lt hn h
theorem ranges_keep {P : Program} {K : TypeId} {R : Value → Option (DataW Unit × List MemPlace)} {w w' : World} {b r n : Nat} {D : DataW Unit} {left : Lit → Bool} {cnt : Nat} (h : w.ranges P K R b r n D left cnt) (hb : w'.heap[b]? = w.heap[b]?) (hr : w'.heap[r]? = w.heap[r]?) : w'.ranges P K R b r n D left cnt := by
 obtain ⟨es, clock, since, seen, c0, h1, F, hs, hD, h2, rest⟩ := h
 exact ⟨es, clock, since, seen, c0, hb.trans h1, F, hs, hD, hr.trans h2, rest⟩
end Go.G6
namespace Go.Proofs.YtdjcjilipgpnmaaGreat
open Go.Shelf
def laysG_ren : Go.Shelf.Ren := ⟨fun | 6 => 108 | 10 => 121 | 11 => 122 | 12 => 123 | 13 => 124 | 14 => 125 | 24 => 136 | 25 => 137 | 26 => 138 | 27 => 139 | 28 => 140 | 29 => 141 | 30 => 142 | 31 => 143 | 32 => 144 | 33 => 145 | 34 => 146 | 35 => 147 | 36 => 148 | 37 => 149 | 38 => 150 | 39 => 151 | n => n, fun | 20 => 20 | 26 => 83 | 35 => 158 | 0 => 0 | 37 => 160 | 3 => 3 | 41 => 143 | 44 => 166 | 49 => 142 | 51 => 173 | 4 => 4 | 54 => 176 | 53 => 175 | 58 => 141 | 5 => 5 | 9 => 9 | 60 => 181 | 64 => 185 | 66 => 187 | 67 => 188 | 17 => 17 | 32 => 155 | 33 => 156 | 82 => 203 | 12 => 12 | 75 => 196 | 76 => 197 | 77 => 198 | 78 => 199 | 79 => 200 | 80 => 201 | n => n, fun | n => n⟩
theorem laysG : Go.Proofs.LaysGg.n6 Tryz.prog laysG_ren := {
  mixed := by kernel_rfl
  f6 := Tryz.func108.trans (congrArg some (by kernel_rfl))
  f10 := Tryz.func121.trans (congrArg some (by kernel_rfl))
  f11 := Tryz.func122.trans (congrArg some (by kernel_rfl))
  f12 := Tryz.func123.trans (congrArg some (by kernel_rfl))
  f13 := Tryz.func124.trans (congrArg some (by kernel_rfl))
  f14 := Tryz.func125.trans (congrArg some (by kernel_rfl))
  f24 := Tryz.func136.trans (congrArg some (by kernel_rfl))
  f25 := Tryz.func137.trans (congrArg some (by kernel_rfl))
  f26 := Tryz.func138.trans (congrArg some (by kernel_rfl))
  f27 := Tryz.func139.trans (congrArg some (by kernel_rfl))
  f28 := Tryz.func140.trans (congrArg some (by kernel_rfl))
  f29 := Tryz.func141.trans (congrArg some (by kernel_rfl))
  f30 := Tryz.func142.trans (congrArg some (by kernel_rfl))
  f31 := Tryz.func143.trans (congrArg some (by kernel_rfl))
  f32 := Tryz.func144.trans (congrArg some (by kernel_rfl))
  f33 := Tryz.func145.trans (congrArg some (by kernel_rfl))
  f34 := Tryz.func146.trans (congrArg some (by kernel_rfl))
  f35 := Tryz.func147.trans (congrArg some (by kernel_rfl))
  f36 := Tryz.func148.trans (congrArg some (by kernel_rfl))
  f37 := Tryz.func149.trans (congrArg some (by kernel_rfl))
  f38 := Tryz.func150.trans (congrArg some (by kernel_rfl))
  f39 := Tryz.func151.trans (congrArg some (by kernel_rfl))
  t0 := Tryz.underlying0
  a0 := Tryz.isAgg0
  z0 := Tryz.sizeOf0
  v0 := Tryz.zeroValue0
  i0 := by kernel_rfl
  t3 := Tryz.underlying3
  a3 := Tryz.isAgg3
  z3 := Tryz.sizeOf3
  v3 := Tryz.zeroValue3
  i3 := by kernel_rfl
  t4 := Tryz.underlying4
  a4 := Tryz.isAgg4
  z4 := Tryz.sizeOf4
  v4 := Tryz.zeroValue4
  i4 := by kernel_rfl
  t5 := Tryz.underlying5
  a5 := Tryz.isAgg5
  z5 := Tryz.sizeOf5
  v5 := Tryz.zeroValue5
  i5 := by kernel_rfl
  t9 := Tryz.underlying9
  a9 := Tryz.isAgg9
  z9 := Tryz.sizeOf9
  v9 := Tryz.zeroValue9
  i9 := by kernel_rfl
  t12 := Tryz.underlying12
  a12 := Tryz.isAgg12
  z12 := Tryz.sizeOf12
  v12 := Tryz.zeroValue12
  i12 := by kernel_rfl
  t17 := Tryz.underlying17
  a17 := Tryz.isAgg17
  z17 := Tryz.sizeOf17
  v17 := Tryz.zeroValue17
  i17 := by kernel_rfl
  t20 := Tryz.underlying20
  a20 := Tryz.isAgg20
  z20 := Tryz.sizeOf20
  v20 := Tryz.zeroValue20
  i20 := by kernel_rfl
  t26 := Tryz.underlying83
  a26 := Tryz.isAgg83
  z26 := Tryz.sizeOf83
  v26 := Tryz.zeroValue83
  i26 := by kernel_rfl
  t32 := Tryz.underlying155
  a32 := Tryz.isAgg155
  z32 := Tryz.sizeOf155
  v32 := Tryz.zeroValue155
  i32 := by kernel_rfl
  t33 := Tryz.underlying156
  a33 := Tryz.isAgg156
  z33 := Tryz.sizeOf156
  v33 := Tryz.zeroValue156
  i33 := by kernel_rfl
  t35 := Tryz.underlying158
  a35 := Tryz.isAgg158
  z35 := Tryz.sizeOf158
  v35 := Tryz.zeroValue158
  i35 := by kernel_rfl
  t37 := Tryz.underlying160
  a37 := Tryz.isAgg160
  z37 := Tryz.sizeOf160
  v37 := Tryz.zeroValue160
  i37 := by kernel_rfl
  t41 := Tryz.underlying143
  a41 := Tryz.isAgg143
  z41 := Tryz.sizeOf143
  v41 := Tryz.zeroValue143
  i41 := by kernel_rfl
  t44 := Tryz.underlying166
  a44 := Tryz.isAgg166
  z44 := Tryz.sizeOf166
  v44 := Tryz.zeroValue166
  i44 := by kernel_rfl
  t49 := Tryz.underlying142
  a49 := Tryz.isAgg142
  z49 := Tryz.sizeOf142
  v49 := Tryz.zeroValue142
  i49 := by kernel_rfl
  t51 := Tryz.underlying173
  a51 := Tryz.isAgg173
  z51 := Tryz.sizeOf173
  v51 := Tryz.zeroValue173
  i51 := by kernel_rfl
  t53 := Tryz.underlying175
  a53 := Tryz.isAgg175
  z53 := Tryz.sizeOf175
  v53 := Tryz.zeroValue175
  i53 := by kernel_rfl
  t54 := Tryz.underlying176
  a54 := Tryz.isAgg176
  z54 := Tryz.sizeOf176
  v54 := Tryz.zeroValue176
  i54 := by kernel_rfl
  t58 := Tryz.underlying141
  a58 := Tryz.isAgg141
  z58 := Tryz.sizeOf141
  v58 := Tryz.zeroValue141
  i58 := by kernel_rfl
  t60 := Tryz.underlying181
  a60 := Tryz.isAgg181
  z60 := Tryz.sizeOf181
  v60 := Tryz.zeroValue181
  i60 := by kernel_rfl
  t64 := Tryz.underlying185
  a64 := Tryz.isAgg185
  z64 := Tryz.sizeOf185
  v64 := Tryz.zeroValue185
  i64 := by kernel_rfl
  t66 := Tryz.underlying187
  a66 := Tryz.isAgg187
  z66 := Tryz.sizeOf187
  v66 := Tryz.zeroValue187
  i66 := by kernel_rfl
  t67 := Tryz.underlying188
  a67 := Tryz.isAgg188
  z67 := Tryz.sizeOf188
  v67 := Tryz.zeroValue188
  i67 := by kernel_rfl
  t75 := Tryz.underlying196
  a75 := Tryz.isAgg196
  z75 := Tryz.sizeOf196
  v75 := Tryz.zeroValue196
  i75 := by kernel_rfl
  t76 := Tryz.underlying197
  a76 := Tryz.isAgg197
  z76 := Tryz.sizeOf197
  v76 := Tryz.zeroValue197
  i76 := by kernel_rfl
  t77 := Tryz.underlying198
  a77 := Tryz.isAgg198
  z77 := Tryz.sizeOf198
  v77 := Tryz.zeroValue198
  i77 := by kernel_rfl
  t78 := Tryz.underlying199
  a78 := Tryz.isAgg199
  z78 := Tryz.sizeOf199
  v78 := Tryz.zeroValue199
  i78 := by kernel_rfl
  t79 := Tryz.underlying200
  a79 := Tryz.isAgg200
  z79 := Tryz.sizeOf200
  v79 := Tryz.zeroValue200
  i79 := by kernel_rfl
  t80 := Tryz.underlying201
  a80 := Tryz.isAgg201
  z80 := Tryz.sizeOf201
  v80 := Tryz.zeroValue201
  i80 := by kernel_rfl
  t82 := Tryz.underlying203
  a82 := Tryz.isAgg203
  z82 := Tryz.sizeOf203
  v82 := Tryz.zeroValue203
  i82 := by kernel_rfl }
open Go Go.RowKit Go.G6
set_option maxHeartbeats 3000000
set_option maxRecDepth 10000
noncomputable def svT : TypeInfo := (Tryz.prog.info? 32).get (by kernel_rfl)
noncomputable def svE : TypeInfo := (Tryz.prog.info? 127).get (by kernel_rfl)
theorem svK (n : Nat) (h2 : 2 ≤ n) : Lib.swapperK n svE 25 = 9 := by
 have a : svE.hasPointers = true := by kernel_rfl
 have b : svE.bytes = 24 := by kernel_rfl
 have c : (n == 0) = false := by simp; omega
 have d : (n == 1) = false := by simp; omega
 simp [Lib.swapperK, a, b, c, d]
theorem svK0 : Lib.swapperK 0 svE 25 = 1 := by simp [Lib.swapperK]
theorem svK1 : Lib.swapperK 1 svE 25 = 2 := by simp [Lib.swapperK]
/-- The sort's own 'less'. -/
theorem i_less (blk off c Bs size : Nat) (W : World) (G : Nat → ByteArray) (hs : W.cell? ⟨Bs, 0, none⟩ = some (.slice (some ⟨blk, off, none⟩) size c))
  (hc : ∀ t, t < size → W.cell? ⟨blk, off + t * 2, none⟩ = some (.string (G t))) (i j : Nat) (hi : i < size) (hj : j < size) (_hsz : size < 4611686018427387904) :
  Calls Tryz.prog 109 #[.int .i64 i, .int .i64 j, .pointer (some ⟨Bs, 0, none⟩)] W fun e w' => e = .returned (.bool (Op.bytesLess (G i).toList (G j).toList)) ∧ ∃ q, w' = W.drewN q := by
 have ci := hc i hi
 have cj := hc j hj
 go_enter Tryz.func109, Tryz.ntmps109
 go_wp2
 go_quiet (fail)
 go_wp2
 go_ret
 exact ⟨rfl, nq, rfl⟩
theorem c_sort {W : World} {lo n cap Bs : Nat} {a : Option Addr} {bs : List Nat} {xs l : List LinkD} (h : OwnL lo W 127 (.slice a n cap) bs xs) (hn : n = xs.length) (h8 : xs.length ≤ 8)
  (hB : W.cell? ⟨Bs, 0, none⟩ = some (.slice a n cap)) (hBs : Bs ∉ bs) (hp : xs.Perm l) (ha : Asc l) :
  Calls Tryz.prog 108 #[.iface 32 (.slice a n cap), .func (.func 109) #[] #[.pointer (some ⟨Bs, 0, none⟩)]] W fun e w' => e = .returned (.tuple #[]) ∧ OwnL lo w' 127 (.slice a n cap) bs l ∧ Tch bs W w' := by
 subst hn
 by_cases h2 : xs.length ≤ 1
 ·have e : xs = l := by
   match xs, h2, hp with
   | [], _, hp => exact (List.nil_perm.1 hp).symm
   | [x], _, hp => exact (List.singleton_perm.1 hp).symm ▸ rfl
   | _ :: _ :: _, h2, _ => simp at h2
  subst e
  have hS : Calls Tryz.prog 108 #[.iface 32 (.slice a xs.length cap), .func (.func 109) #[] #[.pointer (some ⟨Bs, 0, none⟩)]] W fun e w' => e = .returned (.tuple #[]) ∧ ∃ os, w' = Go.Sort.grow W os := by
   rcases (show xs.length = 0 ∨ xs.length = 1 by omega) with h0 | h1
   ·rw [h0]
    exact Any.sort_Slice_tiny laysG 32 127 svT svE (by kernel_rfl) (by kernel_rfl) (by kernel_rfl) (by kernel_rfl) 25 (fun _ => by kernel_rfl) a 0 cap (by omega) 127 (by rw [svK0]; kernel_rfl) _ _ _ W
   ·rw [h1]
    exact Any.sort_Slice_tiny laysG 32 127 svT svE (by kernel_rfl) (by kernel_rfl) (by kernel_rfl) (by kernel_rfl) 25 (fun _ => by kernel_rfl) a 1 cap (by omega) 128 (by rw [svK1]; kernel_rfl) _ _ _ W
  refine hS.mono ?_
  rintro e w' ⟨rfl, os, rfl⟩
  have hk : ∀ k, k < W.heap.size → (Go.Sort.grow W os).heap[k]? = W.heap[k]? := fun k hk => Go.Sort.heap_grow_old _ _ hk
  exact ⟨rfl, h.keep fun b hb => hk b (h.lts b hb).2, ⟨rfl, rfl, rfl, by simp, fun k hk' _ => hk k hk'⟩⟩
 ·obtain ⟨g, cur, rfl, rfl, _, hlo, hgg, hnc, hcm, hcs, ht, hok⟩ := own_row h (by omega)
  have hH := row_holds hgg ht
  have hg : g < W.heap.size := (Array.getElem?_eq_some_iff.1 hgg).1
  have hne : Bs ≠ g := by simpa using hBs
  have hlt : Bs < W.heap.size := World.block_lt_of_cell? _ _ hB
  have hless : LessReadsK Tryz.prog 109 #[.pointer (some ⟨Bs, 0, none⟩)] encL 2 ltL g 0 xs.toArray.size W := by
   intro m os dk hs i j hi hj
   have e : Go.Proofs.sortWorldK encL 2 W g 0 m dk os = Go.Sort.putRowK encL 2 (Go.Sort.grow (Go.Sort.ahead W m) os) g 0 dk := by
    unfold Go.Proofs.sortWorldK; rw [Go.Sort.putRowK_grow _ _ (Go.Sort.ahead W m) _ g 0 _ hg]
   have hHg : Go.Sort.HoldsK encL 2 (Go.Sort.grow (Go.Sort.ahead W m) os) g 0 xs.toArray := Go.Sort.holdsK_grow _ _ _ _ g 0 _ hg (Go.Sort.holdsK_ahead _ _ _ _ _ _ _ hH)
   refine i_less g 0 cap Bs xs.toArray.size _ (fun t => dk[t]!.Name) ?_ (fun t ht => ?_) i j hi hj (by simp; omega)
   ·rw [e, Go.Sort.cell?_putRowK_other _ _ _ g 0 dk _ (by exact hne), Go.Sort.cell?_grow _ _ _ (by exact hlt)]
    simpa using hB
   ·rw [e]; exact ((Go.Sort.holdsK_putRowK _ _ _ g 0 _ dk hHg hs).cell (i := t) (c := 0) (by omega) (by omega)).1
  have hS := Any.sort_Slice_small_cells_sorted laysG 32 127 svT svE (by kernel_rfl) (by kernel_rfl) (by kernel_rfl) (by kernel_rfl) 25 (fun _ => by kernel_rfl) encL 2 (fun _ => rfl) (by kernel_rfl) (fun _ => by kernel_rfl)
   (fun x v hv => by simp [encL] at hv; rcases hv with rfl | rfl <;> rfl) ltL swo_ltL 109 _
   (enters_of Tryz.func109 (by kernel_rfl) rfl) g 0 cap xs.toArray (by simp; omega) (by simp; omega) 135 (by rw [svK _ (by simp; omega)]; kernel_rfl) false
   (fun args W => run_callFunc_extern Tryz.func135 (by kernel_rfl) (by kernel_rfl) (by kernel_rfl) (e := Extern.ReflectliteSwapper.swap false) (by kernel_rfl) args W) W hless hH hg
  change Calls Tryz.prog 108 _ _ _ at hS
  rw [show xs.toArray.size = xs.length by simp] at hS
  refine hS.mono ?_
  rintro e w' ⟨rfl, d', m, os, hP, hSo, rfl⟩
  have hd : d'.toList = l := sorted_is (d := xs.toArray) hp ha (by simpa using hP) (by simpa using hSo)
  have hd' : d' = l.toArray := by rw [← hd]
  have hll := hp.length_eq
  rw [hd']
  exact ⟨rfl, row_sorted hll hlo hgg hnc hcm hcs (fun x hx => hok x (hp.mem_iff.2 hx)), tch_sortedK _⟩
theorem info_LinkG : (Tryz.prog.info? 127).map (fun i => (i.zero, i.size, i.bytes)) = some (some (.agg #[.string ByteArray.empty, .int .i64 0]), 2, 24) := by kernel_rfl
theorem i_links {w : World} {b n : Nat} {l : List LinkD} (hm : MapF Tryz.prog 9 3 w b n l) (hn : n ≤ 100000) (ha : Asc l) (h8 : l.length ≤ 8) :
  Calls Tryz.prog 73 #[.map (some b)] w (RetL w 127 l) := by
 obtain ⟨D, hown, hD⟩ := hm
 obtain ⟨i0, hi, hz0, hz1, hz2⟩ := info_parts info_LinkG
 have hsz := size_le hown
 have hlt := hown.lt
 have HO := hid (hown.alloc (.cells #[.slice none 0 0] 32))
 have HD := hid hD; have HA := hid ha
 have hb0 := hid ((Below.refl w.heap.size w).alloc (Nat.le_refl _) (.cells #[.slice none 0 0] 32))
 have HX := hid (Bx.new w #[.slice none 0 0] 32 rfl)
 have S0 := hid (show (w.alloc (.cells #[.slice none 0 0] 32)).heap.size = w.heap.size + 1 by simp)
 obtain ⟨wA, hwA⟩ : ∃ wA, wA = w.alloc (.cells #[.slice none 0 0] 32) := ⟨_, rfl⟩
 rw [← hwA] at HO hb0 HX S0
 clear hown hD ha
 go_enter Tryz.func73, Tryz.ntmps73
 go_upto_region 2 with fail
 rw [← hwA]
 clear hwA
 go_wp2_with (at_range; refine wpList_range_own _ rfl _ 99 rfl 9 3 keyS Tryz.underlying99 (plainElem Tryz.prog 3) b n D rfl HO.out ?_; intro w0 hrg0 hg0 hs0)
 rw [S0.out] at hrg0
 have hbA : Below wA.heap.size wA w0 := ⟨hg0.os, hg0.tape, hg0.output, hg0.size, fun k hk => hg0.block k hk (by simp)⟩
 have HB0 := hid (hb0.out.trans (hbA.mono hb0.out.size))
 have HX0 := hid (Bx.below hbA HX.out.f.lt HX.out)
 have SZ0 := hid (show w0.heap.size = w.heap.size + 2 by have := S0.out; omega)
 have HRG0 := hid hrg0
 clear hbA hg0 hs0 hrg0 HX hb0 HO
 rw [S0.out]
 go_frame
 go_loopw [4] (fun _ wr => ∃ (left : Lit → Bool) (cnt : Nat) (don : List LinkD) (m : Nat) (p : Option Addr) (c : Nat) (b' : List Nat), Hid (wr.ranges (H := Unit) Tryz.prog 9 (plainElem Tryz.prog 3) b (w.heap.size + 1) n D left cnt) ∧ Hid (m = don.length) ∧ Hid (Bx wr w.heap.size #[.slice p m c]) ∧ Hid (OwnL (w.heap.size + 2) wr 127 (.slice p m c) b' don) ∧ Hid (MetD D left don) ∧ Hid (m + cnt ≤ n) ∧ Hid (Below w.heap.size w wr) ∧ Hid (w.heap.size + 2 ≤ wr.heap.size)) (fun _ wr => wr.rangeLeft b (w.heap.size + 1))
 case atStart => exact ⟨_, _, [], 0, none, 0, [], HRG0, hid rfl, HX0, hid (OwnL.nil _ _ _), hid (met_start D), hid (by omega), HB0, hid (by rw [SZ0.out]; exact Nat.le_refl _)⟩
 case round =>
  clear HRG0 HX0 HB0 SZ0 hsz
  obtain ⟨left, cnt, don, m, p, c, b', HRG, HM, HX, HO, HME, HCN, HB, HSZ⟩ := hrel
  go_wp2_with (at_next; refine wpList_next_ranges _ rfl _ rfl 9 keyS (plainElem Tryz.prog 3) Go.Proofs.encStr (Value.int .i64) (fun key kl hk => by obtain ⟨x, hx, _⟩ := Maps.keyOf_str Tryz.underlying9 hk; exact ⟨x, hx⟩) (fun v y hv => by obtain ⟨c, rfl, _⟩ := plainElem_int_inv Tryz.underlying3 hv; exact ⟨c, rfl⟩) b (w.heap.size + 1) n D left cnt rfl HRG.out ?_ ?_)
  ·intro hc0 hl0
   have HP := hid (show don.Perm l from HME.out.perm hl0 HD.out HA.out)
   have h88 : don.length ≤ 8 := by have := HP.out.length_eq; omega
   have x0 := bx_at HX.out 0 rfl
   have NB := hid (show w.heap.size ∉ b' from fun h => by have := (HO.out.lts _ h).1; omega)
   have hmf : ∀ (fn : Fn) (first cap : Array Value) (w : World), (Instr.makeFunc fn first cap).run Tryz.prog w = .ok (.func fn first cap) w := fun _ _ _ _ => rfl
   clear hc0 hl0 HRG HCN HME
   go_wp2_with (go_at_call 108; refine (c_sort HO.out HM.out h88 x0 NB.out HP.out HA.out).mono ?_; rintro e w1 ⟨rfl, hO1, hT1⟩; have x1 := bx_at (bx_tchM HX.out hT1 NB.out) 0 rfl)
   have HO1 := hid hO1
   have HB1 := hid (below_tch HB.out hT1 (fun x hx => by have := HO.out.lts x hx; omega))
   go_ret
   exact ⟨_, b', rfl, HO1.out.mono (by omega), HB1.out⟩
  ·intro x c1 kl y pl w1 cnt1 hkey hlx hv hat hrg1 hlt1 hg1 hs1 hen
   obtain ⟨x', ex, rfl, hxl⟩ := Maps.keyOf_str Tryz.underlying9 hkey
   obtain rfl : x' = x := Go.encStr_inj ex.symm
   obtain ⟨c', ec, hpr, hwc⟩ := plainElem_int_inv Tryz.underlying3 hv
   obtain ⟨rfl, rfl⟩ := Prod.mk.inj hpr
   obtain rfl : c1 = c' := by injection ec
   have hI : I64 c1 := i64_of hwc
   obtain ⟨X, hX⟩ : ∃ X : LinkD, X = ⟨⟨x'.toArray⟩, c1⟩ := ⟨_, rfl⟩
   have hkS : kS X.Name = .string x' := by rw [hX]; rfl
   have hXI : X.Id = c1 := by rw [hX]
   have hXN : X.Name = ⟨x'.toArray⟩ := by rw [hX]
   have PX := hid (fun (W : World) => mk_Link (w := W) (d := X) (by rw [hXN]; show x'.toArray.size ≤ _; simpa using hxl) (by rw [hXI]; exact hI))
   have HME1 := hid (HME.out.step (x := X) (by rw [hkS]; exact hlx) (fun zd => by rw [hkS, hat zd, hXI]; rfl))
   rw [← hkS] at hrg1
   have HRG1 := hid hrg1
   have HLE := hid HRG.out.left_eq
   have HRW := hid HRG.out.lt
   have T1 := tch_grown hg1
   have NB := hid (show w.heap.size ∉ b' from fun h => by have := (HO.out.lts _ h).1; omega)
   have NR := hid (show w.heap.size + 1 ∉ b' from fun h => by have := (HO.out.lts _ h).1; omega)
   have HX1 := hid (bx_tchM HX.out T1 (by simp))
   have HO1 := hid (HO.out.tch T1 (fun b hb hm => NR.out (by simp at hm; exact hm ▸ hb)))
   have HB1 := hid (below_tch HB.out T1 (fun x hx => by have := HRG.out.lt; simp at hx; omega))
   have HSZ1 := hid (show w.heap.size + 2 ≤ w1.heap.size by have := HSZ.out; omega)
   have e1 : Value.string ⟨x'.toArray⟩ = .string X.Name := by rw [hXN]
   change (Instr.entry _).run _ _ = .ok (.tuple #[.string ⟨x'.toArray⟩, .int .i64 c1]) _ at hen
   rw [e1, ← hXI] at hen
   have x0 := bx_at HX1.out 0 rfl
   have f0 := HX1.out.fr
   have l0 := HX1.out.f.lt
   have HCN1 := hid (show m + 1 + cnt1 ≤ n by have := HCN.out; omega)
   have hm1 := HM.out
   obtain ⟨nm, hnm⟩ : ∃ nm, nm = X.Name := ⟨_, rfl⟩
   obtain ⟨idd, hidd⟩ : ∃ i, i = X.Id := ⟨_, rfl⟩
   rw [← hnm, ← hidd] at hen
   rw [← hXI, ← hidd]
   change wpList _ _ _ _ _ _
   rw [show Go.Proofs.encStr x' = .string nm by rw [hnm, hXN]]
   have HNM := hid hnm; have HIDD := hid hidd
   clear hrg1 hg1 hkey hlx hv hat hpr hwc hI hkS hXI hXN hxl ex ec e1 T1 HX HO HRG HME HB hs1 hm1 hX hnm hidd HSZ
   go_wp2_with (at_builtin; refine wp_append rfl _ _ 32 rfl 127 i0 (.agg #[.string ByteArray.empty, .int .i64 0]) 24 Tryz.underlying32 hi hz0 hz1 hz2 rfl (lo := w.heap.size + 2) (bs := b') (xs := don) rfl ?own (b2 := []) (ys := [X]) rfl ?src List.nodup_nil (fun b hb => by cases hb) ?qa ?qb ?qc ?_)
   case own => exact HO1.out.alloc _
   case src => rw [HNM.out, HIDD.out]; exact src_new (PX.out _) (by simp) _ _
   case qa => have := HM.out; have := HCN1.out; simp; omega
   case qb => have := HM.out; have := HCN1.out; simp; omega
   case qc => have := HSZ1.out; simp; omega
   intro p2 k2 w2 b2 hO2 hT2 hm2
   have HMM := hid (show (don ++ [X]).length = m + 1 by rw [List.length_append, ← HM.out]; rfl)
   rw [← HM.out] at hO2 ⊢
   have LB := hid (fun k (hk : k ∈ b') => (HO1.out.lts k hk))
   have HO2 := hid hO2
   have kk := fun k (hk : k < w1.heap.size) (hn : k ∉ b') => (hT2.block k (by simp; omega) hn).trans (Below.heap_alloc _ _ _ hk)
   have HRG2 := hid (ranges_keep HRG1.out (kk b (by have := HSZ1.out; omega) (fun h => by have := LB.out _ h; omega)) (kk (w.heap.size + 1) (by have := HSZ1.out; omega) NR.out))
   have HX2 := hid (HX1.out.keep (kk _ HX1.out.f.lt NB.out))
   have HB2 := hid (below_tch (HB1.out.alloc HB1.out.size _) hT2 (fun x hx => by have := LB.out x hx; simp; omega))
   have HSZ2 := hid (show w1.heap.size + 1 ≤ w2.heap.size by have := hT2.size; simpa using this)
   have MB := hid hm2
   have x0 := bx_at HX2.out 0 rfl
   have f0 := HX2.out.fr
   have l0 := HX2.out.f.lt
   clear hO2 hT2 hm2 kk hen
   go_wp2
   have HRG3 := hid (ranges_keep (w' := w2.setCell ⟨w.heap.size, 0, none⟩ (.slice p2 (m + 1) k2)) HRG2.out (Below.heap_setCell _ _ _ _ (show b ≠ w.heap.size by omega)) (Below.heap_setCell _ _ _ _ (show w.heap.size + 1 ≠ w.heap.size by omega)))
   refine ⟨⟨_, cnt1, don ++ [X], m + 1, p2, k2, b2, HRG3, hid HMM.out.symm, hid (HX2.out.setSame 0 _), hid (HO2.out.setCell (fun b hb => by have := (HO2.out.lts b hb).1; simp; omega) _), HME1, HCN1, hid (HB2.out.setCell (Nat.le_refl _) _), hid (by simp; have := HSZ2.out; have := HSZ1.out; omega)⟩, ?_⟩
   rw [HRG3.out.left_eq, HLE.out]
   exact hlt1
end Go.Proofs.YtdjcjilipgpnmaaGreat
