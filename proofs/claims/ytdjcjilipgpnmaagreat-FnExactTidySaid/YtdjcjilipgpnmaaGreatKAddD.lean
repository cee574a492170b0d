/- What Add and Tidy do to a store, in plain terms. -/
import Derived.Test.YtdjcjilipgpnmaaGreatKL06
import Derived.Test.YtdjcjilipgpnmaaGreatKLogI
import Derived.Test.YtdjcjilipgpnmaaGreatKText
import Derived.Test.YtdjcjilipgpnmaaGreatKDirS
section
set_option linter.unusedSimpArgs false
set_option linter.unusedVariables false
namespace Go.G6
open Go Go.RowKit Rep
theorem store_split {w : World} {bs : List Nat} {cs : List Value} {s : StoreD} (h : pt w bs cs s) : ∃ bD bE R aE lE kE, cs = R ++ [.int .i64 s.Keep, .int .i64 s.Size, .slice aE lE kE, .int .i64 s.Len] ∧ pt w bD R s.Disk ∧ I64 s.Keep ∧ I64 s.Size ∧ Slc w bE aE lE kE s.Ents ∧ I64 s.Len ∧ bs = bD ++ bE := by
 obtain ⟨bD, _, R, _, rfl, rfl, g0, ⟨_, _, _, _, rfl, rfl, ⟨rfl, rfl, h6⟩, ⟨_, _, _, _, rfl, rfl, ⟨rfl, rfl, h7⟩, ⟨bE, _, _, _, rfl, rfl, ⟨a8, l8, k8, rfl, h8⟩, ⟨rfl, rfl, h9⟩⟩⟩⟩⟩ := h
 exact ⟨bD, bE, R, a8, l8, k8, rfl, g0, h6, h7, h8, h9, by simp⟩
def rngKS (keep size : Int) : Bool := decide (1 ≤ keep) && decide (keep ≤ 100) && decide (0 ≤ size) && decide (size ≤ 60000)
def tstr (l : List UInt8) : ByteArray := ⟨l.toArray⟩
theorem tstr_eq (a b : List UInt8) : ((tstr a).toList == (tstr b).toList) = decide (a = b) := by
 rw [Go.ByteArray.toList_eq, Go.ByteArray.toList_eq]
 show (a.toArray.toList == b.toArray.toList) = _
 rw [Bool.eq_iff_iff]; simp
def storeOk (s : StoreD) : Bool :=
 diskOk s.Disk && (rngKS s.Keep s.Size && (entriesOk s.Ents && (if s.Disk.Fuse = 0 then true else
  (thereB s.Disk hist && (logOk s.Ents && (decide (readL s.Disk hist = logL s.Ents) && (decide (s.Len = ((readL s.Disk hist).length : Int)) && !thereB s.Disk temp)))))))
def nextNum (l : List EntryD) : Int := match l.getLast? with | none => 1 | some e => if e.Num < 1 ∨ 1000000000 < e.Num then 0 else e.Num + 1
end Go.G6
namespace Go.Proofs.YtdjcjilipgpnmaaGreat
open Go Go.RowKit Go.G6
set_option maxHeartbeats 4000000
set_option maxRecDepth 10000
theorem s_l06Range (a b : Int) (w : World) : Calls Tryz.prog 47 #[.int .i64 a, .int .i64 b] w fun e w' => e = .returned (.bool (rngKS a b)) ∧ w = w' := by
 go_enter Tryz.func47, Tryz.ntmps47
 go_wp2
 all_goals (go_ret; exact ⟨ret_bool (by first | (simp_all [rngKS]; done) | (simp_all [rngKS]; omega)), rfl⟩)
theorem s_StoreOk {w : World} {bs : List Nat} {cs : List Value} {s : StoreD} (h : Rep.pt w bs cs s) (hs : Small s.Disk) :
  Calls Tryz.prog 16 #[.agg cs.toArray] w fun e w' => e = .returned (.bool (storeOk s)) ∧ Below w.heap.size w w' := by
 obtain ⟨bD, bE, R, aE, lE, kE, rfl, hD, i6, i7, hE, i9, _⟩ := store_split h
 obtain rfl := hE.len_eq
 have hcl := Rep.len hD
 have HD := hid hD; have HS := hid hs; have HE := hid hE
 have HL := hid (show R.length = 6 from hcl)
 have I0 := hid (show (Tryz.prog.info? 35).map (·.size) = some R.length by rw [HL.out]; kernel_rfl)
 obtain ⟨C, hC⟩ : ∃ C : List Value, C = R ++ [.int .i64 s.Keep, .int .i64 s.Size, .slice aE s.Ents.length kE, .int .i64 s.Len] := ⟨_, rfl⟩
 rw [← hC]
 have HX := hid (Bx.new w C.toArray 38 rfl)
 have hl6 : ∀ (j : Nat) v, [Value.int .i64 s.Keep, .int .i64 s.Size, .slice aE s.Ents.length kE, .int .i64 s.Len][j]? = some v → C[6 + j]? = some v := fun j v hv => by
  rw [hC, List.getElem?_append_right (by rw [HL.out]; omega), HL.out, show 6 + j - 6 = j by omega]; exact hv
 have x6 := bx_at HX.out 6 (hl6 0 _ rfl)
 have x7 := bx_at HX.out 7 (hl6 1 _ rfl)
 have x8 := bx_at HX.out 8 (hl6 2 _ rfl)
 have x9 := bx_at HX.out 9 (hl6 3 _ rfl)
 have hcsD : R[1]? = some (.int .i64 s.Disk.Fuse) := by
  obtain ⟨_, _, _, _, _, _, _, _, _, _, _, _, _, hcs, _⟩ := open_Disk hD
  rw [hcs]; rfl
 have x1 := bx_at HX.out 1 (v := .int .i64 s.Disk.Fuse) (by rw [hC, List.getElem?_append_left (by rw [HL.out]; omega)]; exact hcsD)
 have HR := hid (show (w.alloc (.cells C.toArray 38)).rangeAt w.heap.size 0 R from by have := HX.out.all; rw [hC] at this ⊢; exact range_left this)
 have hb0 := hid ((Below.refl w.heap.size w).alloc (Nat.le_refl _) (.cells C.toArray 38))
 obtain ⟨wA, hwA⟩ : ∃ wA, wA = w.alloc (.cells C.toArray 38) := ⟨_, rfl⟩
 rw [← hwA] at hb0 x1 x6 x7 x8 x9 HR HX
 have X1 := hid x1; have X6 := hid x6; have X7 := hid x7; have X8 := hid x8; have X9 := hid x9
 have L0 := hid HX.out.f.lt
 clear h hD hs hE hC hl6 hcsD x1 x6 x7 x8 x9 hcl HX
 go_enter Tryz.func16, Tryz.ntmps16
 go_upto_region 1 with fail
 rw [← hwA]
 clear hwA
 go_wp2_with (first | (refine wpList_load_mid rfl 35 _ rfl w.heap.size 0 rfl R _ HR.out Tryz.underlying35 rfl I0.out ?_))
 refine (s_DiskOk (grow HD.out hb0.out) HS.out).mono ?_
 rintro e w1 ⟨rfl, hb1⟩
 have HB1 := hid (hb0.out.trans (hb1.mono hb0.out.size))
 have x6 := ((bcell hb1).1 _ 6 L0.out).trans X6.out
 have x7 := ((bcell hb1).1 _ 7 L0.out).trans X7.out
 have x8 := ((bcell hb1).1 _ 8 L0.out).trans X8.out
 have AB1 := hid hb1
 clear hb1
 cases hdk : diskOk s.Disk
 ·have E := hid (show storeOk s = false by unfold storeOk; rw [hdk]; rfl)
  clear hdk
  go_wp2
  go_ret
  exact ⟨ret_bool (by rw [E.out]), HB1.out⟩
 have HDK := hid hdk
 clear hdk
 cases hrg : rngKS s.Keep s.Size
 ·have E := hid (show storeOk s = false by unfold storeOk; rw [HDK.out, hrg]; rfl)
  have HRG := hid hrg
  clear hrg
  go_wp2_with (go_at_call 47; refine (s_l06Range _ _ _).mono ?_; rintro e w9 ⟨rfl, rfl⟩; rw [HRG.out])
  go_ret
  exact ⟨ret_bool (by rw [E.out]), HB1.out⟩
 have HRG := hid hrg
 clear hrg
 go_wp2_with (go_at_call 47; refine (s_l06Range _ _ _).mono ?_; rintro e w9 ⟨rfl, rfl⟩; rw [HRG.out])
 refine (s_EntriesOk (HE.out.grow HB1.out)).mono ?_
 rintro e w2 ⟨rfl, hb2⟩
 have AB2 := hid (AB1.out.trans (hb2.mono AB1.out.size))
 have HB2 := hid (HB1.out.trans (hb2.mono HB1.out.size))
 clear hb2 x6 x7 x8
 cases hen : entriesOk s.Ents
 ·have E := hid (show storeOk s = false by unfold storeOk; rw [HDK.out, HRG.out, hen]; rfl)
  clear hen
  go_wp2
  go_ret
  exact ⟨ret_bool (by rw [E.out]), HB2.out⟩
 have HEN := hid hen
 clear hen
 have x1 := ((bcell AB2.out).1 _ 1 L0.out).trans X1.out
 by_cases hfu : s.Disk.Fuse = 0
 ·have E := hid (show storeOk s = true by unfold storeOk; rw [HDK.out, HRG.out, HEN.out, if_pos hfu]; rfl)
  obtain ⟨fu, hfe⟩ : ∃ fu, fu = s.Disk.Fuse := ⟨_, rfl⟩
  rw [← hfe] at x1 hfu
  clear hfe
  subst hfu
  go_wp2
  go_ret
  exact ⟨ret_bool (by rw [E.out]), HB2.out⟩
 have E0 := hid (show storeOk s = (thereB s.Disk hist && (logOk s.Ents && (decide (readL s.Disk hist = logL s.Ents) && (decide (s.Len = ((readL s.Disk hist).length : Int)) && !thereB s.Disk temp)))) by unfold storeOk; rw [HDK.out, HRG.out, HEN.out, if_neg hfu]; rfl)
 have R2 := hid (range_below HR.out AB2.out)
 go_wp2_with (first | (refine wpList_load_mid rfl 35 _ rfl w.heap.size 0 rfl R _ R2.out Tryz.underlying35 rfl I0.out ?_))
 refine (s_DiskRead (grow HD.out HB2.out) HDK.out hist).mono ?_
 rintro e w3 ⟨v3, b3, rfl, hO3, hb3⟩
 have AB3 := hid (AB2.out.trans (hb3.mono AB2.out.size)); have HB3 := hid (HB2.out.trans (hb3.mono HB2.out.size))
 have O3 := hid hO3
 obtain ⟨p3, c3, rfl⟩ := hO3.slice
 have x8 := ((bcell AB3.out).1 _ 8 L0.out).trans X8.out
 clear hO3 hb3 x1
 go_wp2_with fail
 refine (s_LogBytes (HE.out.grow HB3.out)).mono ?_
 rintro e w4 ⟨v4, b4, rfl, hO4, hb4⟩
 have AB4 := hid (AB3.out.trans (hb4.mono AB3.out.size)); have HB4 := hid (HB3.out.trans (hb4.mono HB3.out.size))
 have O34 := hid (O3.out.grow hb4)
 have O4 := hid hO4
 obtain ⟨p4, c4, rfl⟩ := hO4.slice
 have R4 := hid (range_below HR.out AB4.out)
 clear hO4 hb4 x8
 go_wp2_with (first | (refine wpList_load_mid rfl 35 _ rfl w.heap.size 0 rfl R _ R4.out Tryz.underlying35 rfl I0.out ?_))
 refine (s_DiskRead (grow HD.out HB4.out) HDK.out temp).mono ?_
 rintro e w5 ⟨v5, b5, rfl, hO5, hb5⟩
 have AB5 := hid (AB4.out.trans (hb5.mono AB4.out.size)); have HB5 := hid (HB4.out.trans (hb5.mono HB4.out.size))
 have O35 := hid (O34.out.grow hb5); have O45 := hid (O4.out.grow hb5)
 obtain ⟨p5, c5, rfl⟩ := hO5.slice
 have x9 := ((bcell AB5.out).1 _ 9 L0.out).trans X9.out
 clear hO5 hb5
 obtain ⟨_, _, s3⟩ := O35.out.slcL
 obtain ⟨_, _, s4⟩ := O45.out.slcL
 have cv3 := s3.text (P := Tryz.prog) 54 9 5 Tryz.underlying54 Tryz.underlying5 Tryz.underlying9
 have cv4 := s4.text (P := Tryz.prog) 54 9 5 Tryz.underlying54 Tryz.underlying5 Tryz.underlying9
 obtain ⟨rb, hrb⟩ : ∃ rb, rb = readL s.Disk hist := ⟨_, rfl⟩
 obtain ⟨lb, hlb⟩ : ∃ lb, lb = logL s.Ents := ⟨_, rfl⟩
 rw [← hrb] at cv3 ⊢ E0
 rw [← hlb] at cv4 ⊢ E0
 clear s3 s4 hrb hlb
 obtain ⟨X, hX⟩ : ∃ X, X = tstr rb := ⟨_, rfl⟩
 obtain ⟨Y, hY⟩ : ∃ Y, Y = tstr lb := ⟨_, rfl⟩
 have hXY : (X.toList == Y.toList) = decide (rb = lb) := by rw [hX, hY]; exact tstr_eq rb lb
 rw [show (⟨rb.toArray⟩ : ByteArray) = X from hX.symm] at cv3
 rw [show (⟨lb.toArray⟩ : ByteArray) = Y from hY.symm] at cv4
 clear hX hY hfu
 have XY := hid hXY
 clear hXY
 cases h1 : thereB s.Disk hist
 ·have E := hid (show storeOk s = false by rw [E0.out, h1]; rfl)
  clear h1
  go_wp2
  go_ret
  exact ⟨ret_bool (by rw [E.out]), HB5.out⟩
 cases h2 : logOk s.Ents
 ·have E := hid (show storeOk s = false by rw [E0.out, h1, h2]; rfl)
  clear h1 h2
  go_wp2
  go_ret
  exact ⟨ret_bool (by rw [E.out]), HB5.out⟩
 by_cases h3 : rb = lb
 rotate_left
 ·have E := hid (show storeOk s = false by rw [E0.out, h1, h2, decide_eq_false h3]; rfl)
  have hq := XY.out
  rw [decide_eq_false h3] at hq
  clear h1 h2 h3
  go_wp2
  go_ret
  exact ⟨ret_bool (by rw [E.out]), HB5.out⟩
 have hq := XY.out
 rw [decide_eq_true h3] at hq
 by_cases h4 : s.Len = (rb.length : Int)
 rotate_left
 ·have E := hid (show storeOk s = false by rw [E0.out, h1, h2, decide_eq_true h3, decide_eq_false h4]; rfl)
  have hl4 : (s.Len == (rb.length : Int)) = false := by rw [beq_eq_false_iff_ne]; exact h4
  clear h1 h2 h3 h4
  go_wp2
  go_ret
  exact ⟨ret_bool (by rw [E.out]), HB5.out⟩
 have hl4 : (s.Len == (rb.length : Int)) = true := by rw [beq_iff_eq]; exact h4
 cases h5 : thereB s.Disk temp
 ·have E := hid (show storeOk s = true by rw [E0.out, h1, h2, decide_eq_true h3, decide_eq_true h4, h5]; rfl)
  clear h1 h2 h3 h4 h5
  go_wp2
  go_ret
  exact ⟨ret_bool (by rw [E.out]), HB5.out⟩
 ·have E := hid (show storeOk s = false by rw [E0.out, h1, h2, decide_eq_true h3, decide_eq_true h4, h5]; rfl)
  clear h1 h2 h3 h4 h5
  go_wp2
  go_ret
  exact ⟨ret_bool (by rw [E.out]), HB5.out⟩
end Go.Proofs.YtdjcjilipgpnmaaGreat
end
section
set_option linter.unusedSimpArgs false
set_option linter.unusedVariables false
namespace Go.G6
open Go Go.RowKit Rep
def stoT (s : StoreD) (vE : Value) : List Value := [.int .i64 s.Keep, .int .i64 s.Size, vE, .int .i64 s.Len]
structure StoreF (eN eL eT eB eE : TypeId) (lo : Nat) (w : World) (s : StoreD) (v3 v4 v5 vE : Value) (B3 B4 B5 BE : List Nat) : Prop where
 d : DiskF eN eL eT eB lo w s.Disk v3 v4 v5 B3 B4 B5
 e : OwnL lo w eE vE BE s.Ents
 i6 : I64 s.Keep
 i7 : I64 s.Size
 i9 : I64 s.Len
 de : ∀ b, b ∈ B3 ∨ b ∈ B4 ∨ b ∈ B5 → b ∉ BE
def RetSF (eN eL eT eB eE : TypeId) (w : World) (s : StoreD) (e : Ending) (w' : World) : Prop :=
 ∃ v3 v4 v5 vE B3 B4 B5 BE, e = .returned (.agg (dskC s.Disk v3 v4 v5 ++ stoT s vE).toArray) ∧ StoreF eN eL eT eB eE w.heap.size w' s v3 v4 v5 vE B3 B4 B5 BE ∧ Below w.heap.size w w'
theorem StoreF.keep {eN eL eT eB eE : TypeId} {lo : Nat} {w w' : World} {s : StoreD} {v3 v4 v5 vE : Value} {B3 B4 B5 BE : List Nat} (h : StoreF eN eL eT eB eE lo w s v3 v4 v5 vE B3 B4 B5 BE) (hk : ∀ b, (b ∈ B3 ∨ b ∈ B4 ∨ b ∈ B5) ∨ b ∈ BE → w'.heap[b]? = w.heap[b]?) : StoreF eN eL eT eB eE lo w' s v3 v4 v5 vE B3 B4 B5 BE :=
 ⟨h.d.keep fun b hb => hk b (.inl hb), h.e.keep fun b hb => hk b (.inr hb), h.i6, h.i7, h.i9, h.de⟩
theorem StoreF.lts {eN eL eT eB eE : TypeId} {lo : Nat} {w : World} {s : StoreD} {v3 v4 v5 vE : Value} {B3 B4 B5 BE : List Nat} (h : StoreF eN eL eT eB eE lo w s v3 v4 v5 vE B3 B4 B5 BE) : ∀ b, (b ∈ B3 ∨ b ∈ B4 ∨ b ∈ B5) ∨ b ∈ BE → lo ≤ b ∧ b < w.heap.size := by
 rintro b (hb | hb)
 ·exact h.d.lts b hb
 ·exact h.e.lts b hb
theorem StoreF.mono {eN eL eT eB eE : TypeId} {lo lo' : Nat} {w : World} {s : StoreD} {v3 v4 v5 vE : Value} {B3 B4 B5 BE : List Nat} (h : StoreF eN eL eT eB eE lo w s v3 v4 v5 vE B3 B4 B5 BE) (hl : lo' ≤ lo) : StoreF eN eL eT eB eE lo' w s v3 v4 v5 vE B3 B4 B5 BE :=
 ⟨h.d.mono hl, h.e.mono hl, h.i6, h.i7, h.i9, h.de⟩
theorem StoreF.own {eN eL eT eB eE : TypeId} {lo : Nat} {w : World} {s : StoreD} {v3 v4 v5 vE : Value} {B3 B4 B5 BE : List Nat} (h : StoreF eN eL eT eB eE lo w s v3 v4 v5 vE B3 B4 B5 BE) : ∃ bs, Own lo w bs (dskC s.Disk v3 v4 v5 ++ stoT s vE) s := by
 obtain ⟨bD, hD, hm⟩ := h.d.own
 obtain ⟨aE, cE, rfl⟩ := h.e.slice
 obtain ⟨bE, hm2, hE⟩ := h.e.own
 refine ⟨bD ++ bE, ?_, ?_, ?_⟩
 ·have hp : pt w (bD ++ ([] ++ ([] ++ (bE ++ [])))) (dskC s.Disk v3 v4 v5 ++ ([.int .i64 s.Keep] ++ ([.int .i64 s.Size] ++ ([.slice aE s.Ents.length cE] ++ [.int .i64 s.Len])))) s.tup := pt_cons hD.1 (pt_cons (pt_i h.i6) (pt_cons (pt_i h.i7) (pt_cons hE.1 (pt_i h.i9))))
  simp only [List.nil_append, List.append_nil] at hp
  exact hp
 ·exact nodup2 hD.2.1 hE.2.1 (fun x hx h2 => h.de x (hm x hx) (hm2 x h2))
 ·intro b hb
  rcases List.mem_append.1 hb with hb | hb
  ·exact hD.2.2 b hb
  ·exact hE.2.2 b hb
theorem lastI (l : List EntryD) (h : 0 < l.length) : l.getLast? = some (l[l.length - 1]'(by omega)) := by
 rw [List.getLast?_eq_getElem?, List.getElem?_eq_getElem (by omega)]
end Go.G6
namespace Go.Proofs.YtdjcjilipgpnmaaGreat
open Go Go.RowKit Go.G6
set_option maxHeartbeats 4000000
set_option maxRecDepth 10000
theorem s_l06Copy {w : World} {bs : List Nat} {cs : List Value} {s : StoreD} (h : Rep.pt w bs cs s) (hs : Small s.Disk) (hn : s.Ents.length ≤ 1048576) :
  Calls Tryz.prog 17 #[.agg cs.toArray] w (RetSF 104 127 106 5 53 w s) := by
 obtain ⟨bD, bE, R, aE, lE, kE, rfl, hD, i6, i7, hE, i9, _⟩ := store_split h
 obtain rfl := hE.len_eq
 obtain ⟨i0, hi, hz0, hz1, hz2⟩ := info_parts info_EntryF
 have hcl := Rep.len hD
 have HD := hid hD; have HS := hid hs; have HE := hid hE; have HN := hid hn
 have J6 := hid i6; have J7 := hid i7; have J9 := hid i9
 have HL := hid (show R.length = 6 from hcl)
 have I6 := hid (show (Tryz.prog.info? 35).map (·.size) = some 6 by kernel_rfl)
 have I10 := hid (show (Tryz.prog.info? 38).map (·.size) = some 10 by kernel_rfl)
 have I0 := hid (show (Tryz.prog.info? 35).map (·.size) = some R.length by rw [HL.out]; exact I6.out)
 obtain ⟨T, hT⟩ : ∃ T : List Value, T = [.int .i64 s.Keep, .int .i64 s.Size, .slice aE s.Ents.length kE, .int .i64 s.Len] := ⟨_, rfl⟩
 rw [← hT]
 have HX := hid (Bx.alloc (Bx.new w (R ++ T).toArray 38 rfl) (by simp) (.cells #[.int .i64 0, .int .i64 0, .int .i64 0, .slice none 0 0, .slice none 0 0, .slice none 0 0, .int .i64 0, .int .i64 0, .slice none 0 0, .int .i64 0] 38))
 have HZ := hid (Bx.new (w.alloc (.cells (R ++ T).toArray 38)) #[.int .i64 0, .int .i64 0, .int .i64 0, .slice none 0 0, .slice none 0 0, .slice none 0 0, .int .i64 0, .int .i64 0, .slice none 0 0, .int .i64 0] 38 (b := w.heap.size + 1) (by simp))
 have hb0 := hid (((Below.refl w.heap.size w).alloc (Nat.le_refl _) (.cells (R ++ T).toArray 38)).alloc (by simp) (.cells #[.int .i64 0, .int .i64 0, .int .i64 0, .slice none 0 0, .slice none 0 0, .slice none 0 0, .int .i64 0, .int .i64 0, .slice none 0 0, .int .i64 0] 38))
 obtain ⟨wA, hwA⟩ : ∃ wA, wA = (w.alloc (.cells (R ++ T).toArray 38)).alloc (.cells #[.int .i64 0, .int .i64 0, .int .i64 0, .slice none 0 0, .slice none 0 0, .slice none 0 0, .int .i64 0, .int .i64 0, .slice none 0 0, .int .i64 0] 38) := ⟨_, rfl⟩
 have SA := hid (show wA.heap.size = w.heap.size + 2 by rw [hwA]; simp)
 rw [← hwA] at hb0 HX HZ
 have HT := hid hT
 clear h hD hs hE hcl hT hn i6 i7 i9
 go_enter Tryz.func17, Tryz.ntmps17
 go_upto_region 1 with fail
 rw [← hwA]
 clear hwA
 have XR := hid (range_left HX.out.all)
 go_wp2_with (first | (refine wpList_load_mid rfl 35 _ rfl w.heap.size 0 rfl R _ XR.out Tryz.underlying35 rfl I0.out ?_))
 refine (s_l03Copy (grow HD.out hb0.out) HS.out).mono ?_
 rintro e w3 ⟨v3, v4, v5, B3, B4, B5, rfl, hDF, hb3⟩
 have DF := hid hDF
 have X3 := hid (Bx.below hb3 HX.out.f.lt HX.out)
 have Z3 := hid (Bx.below hb3 HZ.out.f.lt HZ.out)
 have HB3 := hid (hb0.out.trans (hb3.mono hb0.out.size))
 have LA := hid (fun b hb => show w.heap.size + 2 ≤ b ∧ b < w3.heap.size by have := SA.out; have := DF.out.lts b hb; omega)
 have S3 := hid (show w.heap.size + 2 ≤ w3.heap.size by have := SA.out; have := hb3.size; omega)
 clear hDF hb3
 obtain ⟨R', hR'⟩ : ∃ R', R' = dskC s.Disk v3 v4 v5 := ⟨_, rfl⟩
 rw [show (#[Value.int .i64 s.Disk.Room, .int .i64 s.Disk.Fuse, .int .i64 s.Disk.Next, v3, v4, v5] : Array Value) = R'.toArray by rw [hR']; rfl]
 have HL' := hid (show R'.length = 6 by rw [hR']; rfl)
 have HC1 := hid (show R'.toArray.all (·.oneCell') = true by rw [hR']; exact DF.out.one)
 have HR' := hid hR'
 clear hR'
 have HZ3 := hid (show R'.toArray.size = 6 by rw [List.size_toArray]; exact HL'.out)
 have I2 := hid (show (Tryz.prog.info? 35).map (·.size) = some R'.toArray.size by rw [HZ3.out]; exact I6.out)
 have TH := hid (show w3.there w.heap.size 0 R'.toArray.size by rw [HZ3.out]; exact there_head X3.out HL.out)
 go_upto_region 2 with (refine wpList_store_mid rfl 35 _ _ rfl w.heap.size 0 R'.toArray rfl rfl TH.out I2.out HC1.out ?_)
 refine late_genw (fun w4 hw4 => ?_)
 have hk4 : ∀ k, k ≠ w.heap.size → w4.heap[k]? = w3.heap[k]? := fun k hk => by rw [hw4]; exact setCells_heap _ _ _ _ _ hk
 have X4 := hid (show Bx w4 w.heap.size (R' ++ T).toArray by rw [hw4]; exact bx_head X3.out HL.out HL'.out)
 have Z4 := hid (Z3.out.keep (hk4 _ (by omega)))
 have DF4 := hid (DF.out.keep (fun b hb => hk4 b (by have := LA.out b hb; omega)))
 have HB4 := hid (show Below w.heap.size w w4 by rw [hw4]; exact Below.setCells _ (Nat.le_refl _) _ _ HB3.out)
 have S4 := hid (show w4.heap.size = w3.heap.size by rw [hw4, setCells_size])
 clear hw4 hk4 HX HZ X3 Z3 TH XR
 have x8 : w4.cell? ⟨w.heap.size, 8, none⟩ = some (.slice aE s.Ents.length kE) := bx_at X4.out 8 (by rw [List.getElem?_append_right (by rw [HL'.out]; omega), HL'.out, HT.out]; rfl)
 have f8 := X4.out.fr 8
 have lt4 := X4.out.f.lt
 have E4 := hid (show OwnL (w.heap.size + 2) (w4.alloc (.cells #[] 53)) 53 (.slice (some ⟨w4.heap.size, 0, none⟩) 0 0) [w4.heap.size] ([] : List EntryD) from ownL_empty rfl (by have := S4.out; have := S3.out; omega))
 have SE := hid (HE.out.grow (HB4.out.alloc HB4.out.size (.cells #[] 53)))
 go_wp2_with (at_builtin; refine wp_append rfl _ _ 36 rfl 53 i0 (.agg #[.int .i64 0, .string ByteArray.empty]) 24 Tryz.underlying36 hi hz0 hz1 hz2 rfl (lo := w.heap.size + 2) (bs := [w4.heap.size]) (xs := ([] : List EntryD)) rfl E4.out (b2 := []) (ys := s.Ents) rfl SE.out.srcF List.nodup_nil (fun b hb => by cases hb) ?ra ?rb ?rc ?_)
 try (case ra => have := HN.out; simp; omega)
 try (case rb => have := HN.out; simp; omega)
 try (case rc => have := S4.out; have := S3.out; simp; omega)
 intro p5 c5 w5 b5 hO5 hT5 hm5
 try rw [List.nil_append, show ([] : List EntryD).length + s.Ents.length = s.Ents.length by simp] at hO5
 (try rw [show ([] : List EntryD).length + s.Ents.length = s.Ents.length by simp])
 have O5 := hid hO5
 have hk5 : ∀ k, k < w4.heap.size → w5.heap[k]? = w4.heap[k]? := fun k hk => (hT5.block k (by simp; omega) (by simp; omega)).trans (Below.heap_alloc _ _ _ hk)
 have X5 := hid (X4.out.keep (hk5 _ X4.out.f.lt))
 have Z5 := hid (Z4.out.keep (hk5 _ Z4.out.f.lt))
 have DF5 := hid (DF4.out.keep (fun b hb => hk5 b (by have := LA.out b hb; have := S4.out; omega)))
 have HB5 := hid (below_tch (HB4.out.alloc HB4.out.size (.cells #[] 53)) hT5 (fun x hx => by have := E4.out.lts x hx; omega))
 have D5 := hid (fun b (hb : b ∈ b5) => show w4.heap.size ≤ b by have h3 := hm5 b hb; (try simp at h3); omega)
 clear hO5 hT5 hm5 hk5 X4 Z4 DF4 HB4 E4 SE x8 f8
 have x8 : w5.cell? ⟨w.heap.size, 8, none⟩ = some (.slice aE s.Ents.length kE) := bx_at X5.out 8 (by rw [List.getElem?_append_right (by rw [HL'.out]; omega), HL'.out, HT.out]; rfl)
 have f8 := X5.out.fr 8
 go_upto_region 3 with fail
 refine late_genw (fun w6 hw6 => ?_)
 obtain ⟨S6, hS6⟩ : ∃ S6, S6 = R' ++ stoT s (.slice p5 s.Ents.length c5) := ⟨_, rfl⟩
 have X6 := hid (show Bx w6 w.heap.size S6.toArray by
  rw [hw6, hS6]
  have h9 := X5.out.setSame 8 (.slice p5 s.Ents.length c5)
  have e9 : (R' ++ T).toArray.setIfInBounds 8 (.slice p5 s.Ents.length c5) = (R' ++ stoT s (.slice p5 s.Ents.length c5)).toArray := by
   rw [HT.out, List.setIfInBounds_toArray, List.set_append_right _ _ (by rw [HL'.out]; omega), HL'.out]; rfl
  rw [e9] at h9
  exact h9)
 have hk6 : ∀ k, k ≠ w.heap.size → w6.heap[k]? = w5.heap[k]? := fun k hk => by rw [hw6]; exact Below.heap_setCell _ _ _ _ hk
 have Z6 := hid (Z5.out.keep (hk6 _ (by omega)))
 have SF := hid (show StoreF 104 127 106 5 53 (w.heap.size + 2) w6 s v3 v4 v5 (.slice p5 s.Ents.length c5) B3 B4 B5 b5 from
  ⟨(DF5.out.mono (by have := SA.out; omega)).keep (fun b hb => hk6 b (by have := LA.out b hb; omega)), O5.out.keep (fun b hb => hk6 b (by have := (O5.out.lts b hb).1; omega)), J6.out, J7.out, J9.out,
   fun b hb h2 => by have := (LA.out b hb).2; have := D5.out b h2; have := S4.out; omega⟩)
 have HB6 := hid (show Below w.heap.size w w6 by rw [hw6]; exact HB5.out.setCell (Nat.le_refl _) _)
 have HS6 := hid hS6
 have HL6 := hid (show S6.length = 10 by rw [hS6, List.length_append, HL'.out]; rfl)
 have HC6 := hid (show S6.toArray.all (·.oneCell') = true by
  rw [hS6, Array.all_eq_true_iff_forall_mem]
  intro v hv
  rw [List.mem_toArray] at hv
  rcases List.mem_append.1 hv with hv | hv
  ·exact Array.all_eq_true_iff_forall_mem.1 HC1.out v (by simpa using hv)
  ·simp [stoT] at hv; rcases hv with rfl | rfl | rfl | rfl <;> rfl)
 have I7 := hid (show (Tryz.prog.info? 38).map (·.size) = some S6.length by rw [HL6.out]; exact I10.out)
 have I8 := hid (show (Tryz.prog.info? 38).map (·.size) = some S6.toArray.size by rw [List.size_toArray, HL6.out]; exact I10.out)
 have TH := hid (show w6.there (w.heap.size + 1) 0 S6.toArray.size by rw [show S6.toArray.size = 10 by rw [List.size_toArray]; exact HL6.out]; exact Z6.out.there 0 10 (by simp))
 clear hw6 hk6 hS6 x8 f8 X5 Z5 DF5 HB5 O5 DF
 go_wp2_with (first | (refine wpList_load_mid rfl 38 _ rfl w.heap.size 0 rfl S6 _ X6.out.all Tryz.underlying38 rfl I7.out ?_) | (refine wpList_store_mid rfl 38 _ _ rfl (w.heap.size + 1) 0 S6.toArray rfl rfl TH.out I8.out HC6.out ?_))
 have X9 := hid (show Bx (w6.setCells (w.heap.size + 1) 0 S6.toArray.toList) (w.heap.size + 1) S6.toArray from Z6.out.setAll S6 (by rw [HL6.out]; simp))
 refine bodyPost_ret (v := .agg S6.toArray) (results_mid rfl rfl S6 X9.out.all Tryz.underlying38 rfl I7.out) rfl ?_
 refine ⟨v3, v4, v5, _, B3, B4, B5, b5, by rw [HS6.out, HR'.out], (SF.out.mono (Nat.le_add_right _ _)).keep (fun b hb => setCells_heap _ _ _ _ _ ?_), Below.setCells _ (Nat.le_add_right _ _) _ _ HB6.out⟩
 have := SF.out.lts b hb
 omega
theorem s_NextNum {w : World} {bs : List Nat} {cs : List Value} {s : StoreD} (h : Rep.pt w bs cs s) :
  Calls Tryz.prog 18 #[.agg cs.toArray] w fun e w' => e = .returned (.int .i64 (nextNum s.Ents)) ∧ Below w.heap.size w w' := by
 obtain ⟨bD, bE, R, aE, lE, kE, rfl, hD, i6, i7, hE, i9, _⟩ := store_split h
 obtain rfl := hE.len_eq
 have hcl := Rep.len hD
 have HE := hid hE
 have HL := hid (show R.length = 6 from hcl)
 have hm := hE.max
 obtain ⟨C, hC⟩ : ∃ C : List Value, C = R ++ [.int .i64 s.Keep, .int .i64 s.Size, .slice aE s.Ents.length kE, .int .i64 s.Len] := ⟨_, rfl⟩
 rw [← hC]
 have HX := hid (Bx.new w C.toArray 38 rfl)
 have x8 := bx_at HX.out 8 (v := .slice aE s.Ents.length kE) (by rw [hC, List.getElem?_append_right (by rw [HL.out]; omega), HL.out]; rfl)
 have hb0 := hid ((Below.refl w.heap.size w).alloc (Nat.le_refl _) (.cells C.toArray 38))
 obtain ⟨wA, hwA⟩ : ∃ wA, wA = w.alloc (.cells C.toArray 38) := ⟨_, rfl⟩
 rw [← hwA] at hb0 x8
 clear h hD hE hC hcl HX
 go_enter Tryz.func18, Tryz.ntmps18
 go_upto_region 1 with fail
 rw [← hwA]
 clear hwA
 by_cases h0 : s.Ents.length = 0
 ·have E := hid (show nextNum s.Ents = 1 by rw [List.eq_nil_of_length_eq_zero h0]; rfl)
  have hl : ((s.Ents.length : Int) == 0) = true := by rw [beq_iff_eq]; omega
  clear h0
  go_wp2
  go_ret
  exact ⟨ret_int (by rw [E.out]), hb0.out⟩
 have hl : ((s.Ents.length : Int) == 0) = false := by rw [beq_eq_false_iff_ne]; omega
 obtain ⟨n, hn⟩ : ∃ n, s.Ents.length = n + 1 := ⟨s.Ents.length - 1, by omega⟩
 have hlast := lastI s.Ents (by omega)
 obtain ⟨g1, o1, cs1, _, rfl, _, hp1, _, hA1⟩ := (HE.out.grow hb0.out).elem n (by omega)
 obtain ⟨_, rfl, q1, q2⟩ := open_Entry hp1
 have c0 : wA.cell? ⟨g1, o1 + n * 2, none⟩ = some _ := hA1 0 _ rfl
 have E0 := hid (show nextNum s.Ents = if (s.Ents[n]'(by omega)).Num < 1 ∨ 1000000000 < (s.Ents[n]'(by omega)).Num then 0 else (s.Ents[n]'(by omega)).Num + 1 by
  unfold nextNum
  rw [hlast]
  simp only [hn, Nat.add_sub_cancel])
 obtain ⟨x, hx⟩ : ∃ x, x = (s.Ents[n]'(by omega)).Num := ⟨_, rfl⟩
 rw [← hx] at c0 E0
 obtain ⟨N, hN⟩ : ∃ N, N = s.Ents.length := ⟨_, rfl⟩
 rw [← hN] at x8 hl hn hm
 rw [show n = N - 1 by omega] at c0
 have hNp : 0 < N := by omega
 clear hA1 hp1 q1 q2 hx hlast h0 hN hn
 by_cases g1 : x < 1
 ·have E := hid (show nextNum s.Ents = 0 by rw [E0.out, if_pos (.inl g1)])
  go_wp2
  go_ret
  exact ⟨ret_int (by rw [E.out]), hb0.out⟩
 by_cases g2 : 1000000000 < x
 ·have E := hid (show nextNum s.Ents = 0 by rw [E0.out, if_pos (.inr g2)])
  go_wp2
  go_ret
  exact ⟨ret_int (by rw [E.out]), hb0.out⟩
 have E := hid (show nextNum s.Ents = x + 1 by rw [E0.out, if_neg (by omega)])
 have V1 := hid (show wrap64 (x + 1) = x + 1 from IntWalk.wrap64_in _ (by omega))
 go_upto_region 6 with fail
 have hw2 := V1.out
 go_wp2
 go_ret
 exact ⟨ret_int (by rw [E.out]), hb0.out⟩
end Go.Proofs.YtdjcjilipgpnmaaGreat
end
section
set_option linter.unusedSimpArgs false
set_option linter.unusedVariables false
namespace Go.G6
open Go Go.RowKit Rep
def zStore : StoreD := ⟨zDisk, 0, 0, [], 0⟩
def withD (s : StoreD) (d : DiskD) : StoreD := { s with Disk := d }
def addR (s : StoreD) (e : EntryD) : StoreD × Int :=
 let r1 := diskDo s.Disk 2 hist emp 0 (frameB e)
 if r1.2 = 5 then
  let r2 := diskDo r1.1 4 hist emp s.Len []
  if r2.2 = 0 then
   let r3 := diskDo r2.1 3 hist emp 0 []
   (withD s r3.1, if r3.2 = 0 then 5 else r3.2)
  else (withD s r2.1, r2.2)
 else if r1.2 = 0 then
  let r2 := diskDo r1.1 3 hist emp 0 []
  if r2.2 = 0 then ({ s with Disk := r2.1, Ents := s.Ents ++ [e], Len := s.Len + ((frameB e).length : Int) }, 0) else (withD s r2.1, r2.2)
 else (withD s r1.1, r1.2)
def addS (s : StoreD) (t : ByteArray) : StoreD × Int :=
 if (storeOk s && (decide (1 ≤ t.size) && decide (t.size ≤ 1000))) = true then
  (if entryOk ⟨nextNum s.Ents, t⟩ = true then addR s ⟨nextNum s.Ents, t⟩ else (s, 3))
 else (zStore, 1)
theorem nextNum_range {l : List EntryD} (h : entriesOk l = true) : 1 ≤ nextNum l ∧ nextNum l ≤ 1000000001 := by
 unfold nextNum
 by_cases h0 : l.length = 0
 ·rw [List.eq_nil_of_length_eq_zero h0]; simp
 ·rw [lastI l (by omega)]
  have h1 := entriesOk_at h (l.length - 1) (by omega)
  unfold entryOk at h1
  simp at h1
  simp only
  split <;> omega
theorem zDisk_small : Small zDisk := ⟨by simp [zDisk], by simp [zDisk], by simp [zDisk], by simp [zDisk]⟩
/-- An operation keeps a disk small. -/
theorem small_do {d : DiskD} (h : Small d) {kd : Int} {nm tt : ByteArray} {sz : Int} {data : List UInt8} (hd : data.length ≤ 1048576) : Small (diskDo d kd nm tt sz data).1 := by
 unfold diskDo
 split
 ·rename_i hok
  simp only [Bool.and_eq_true] at hok
  have hok := hok.1
  split
  ·have hs := node_small hok
   have hR := (diskOk_parts hok).1
   have h7 := hR.r7; have h8 := hR.r8; have h9 := hR.r9
   have hget : ∀ j, (d.Nodes.getD j zNd).Body.length ≤ 60000 ∧ (d.Nodes.getD j zNd).Safe.length ≤ 60000 := fun j => by
    by_cases hj : j < d.Nodes.length
    ·rw [getD_at hj]; exact hs _ (List.getElem_mem hj)
    ·rw [show d.Nodes.getD j zNd = zNd by simp [show d.Nodes.length ≤ j by omega]]; simp [zNd]
   have hset : ∀ n : NodeD, (n.Body.length ≤ 16777216 ∧ n.Safe.length ≤ 16777216) → ∀ j, Small (setN d j n) := fun n hn j => by
    refine ⟨by show (d.Nodes.set j n).length ≤ _; rw [List.length_set]; omega, by show d.Kept.length ≤ _; omega, by show d.Turns.length ≤ _; omega, fun x hx => ?_⟩
    rcases List.mem_or_eq_of_mem_set hx with h9 | rfl
    ·have := hs x h9; omega
    ·exact hn
   have hg := hget (ndAt d nm)
   unfold doD
   simp only
   split
   ·refine ⟨by simp; omega, by show d.Kept.length ≤ _; omega, by simp; omega, fun x hx => ?_⟩
    rcases List.mem_append.1 hx with hx | hx
    ·have := hs x hx; omega
    ·simp at hx; subst hx; simp
   ·split
    ·refine hset _ ⟨?_, ?_⟩ _
     ·show (_ ++ List.take _ data).length ≤ _
      rw [List.length_append, List.length_take]; omega
     ·show List.length _ ≤ _; have := hg.2; simp only [bodyD]; omega
    ·split
     ·refine hset _ ⟨?_, ?_⟩ _ <;> (simp only [safeD]; omega)
     ·split
      ·refine hset _ ⟨?_, ?_⟩ _
       ·simp only [bodyD]; rw [List.length_take]; omega
       ·simp only [bodyD]; omega
      ·split
       ·refine ⟨?_, ?_, by simp, fun x hx => ?_⟩
        ·have := List.length_filter_le (fun x => hasI (idKept (dirAll d)) x.Id) d.Nodes; simp only; omega
        ·have h1 := dirTo_len d d.Turns.length
         rw [dirTo_all] at h1
         simp only; omega
        ·have := hs x (List.mem_filter.1 hx).1; omega
       ·exact ⟨by show d.Nodes.length ≤ _; omega, by show d.Kept.length ≤ _; omega, by simp; omega, fun x hx => by have := hs x hx; omega⟩
  ·exact h
 ·exact zDisk_small
theorem frameB_le {e : EntryD} (h : entryOk e = true) : (frameB e).length ≤ 1010 := by
 rw [frameB_len]
 unfold entryOk at h
 simp at h
 omega
/-- Where an operation goes through, the fuse has not blown. -/
theorem do_fuse {d : DiskD} {kd : Int} {nm tt : ByteArray} {sz : Int} {data : List UInt8} (h : (diskDo d kd nm tt sz data).2 = 0) : diskOk d = true ∧ d.Fuse ≠ 0 := by
 unfold diskDo at h
 split at h
 ·rename_i hok
  simp only [Bool.and_eq_true] at hok
  refine ⟨hok.1, fun h0 => ?_⟩
  have : opCode d kd nm tt sz = 2 := by unfold opCode; rw [if_pos h0]
  rw [this] at h
  simp at h
 ·simp at h
theorem len_small {s : StoreD} (h : storeOk s = true) (h0 : s.Disk.Fuse ≠ 0) : 0 ≤ s.Len ∧ s.Len ≤ 60000 := by
 unfold storeOk at h
 simp only [Bool.and_eq_true, if_neg h0, decide_eq_true_eq] at h
 obtain ⟨h1, _, _, h2, _, _, h3, _⟩ := h
 rw [h3]
 have : (readL s.Disk hist).length ≤ 60000 := by
  unfold readL
  rw [if_pos h2]
  unfold thereB at h2
  simp at h2
  obtain ⟨j, hj, hn, _⟩ := node_of h1 hist h2
  rw [readB_at hj hn]
  exact (node_small h1 _ (List.getElem_mem hj)).1
 omega
/-- A store of the call's own, and a number. -/
def RetSI (eN eL eT eB eE : TypeId) (w : World) (r : StoreD × Int) (e : Ending) (w' : World) : Prop :=
 ∃ v3 v4 v5 vE B3 B4 B5 BE, e = .returned (.tuple #[.agg (dskC r.1.Disk v3 v4 v5 ++ stoT r.1 vE).toArray, .int .i64 r.2]) ∧ StoreF eN eL eT eB eE w.heap.size w' r.1 v3 v4 v5 vE B3 B4 B5 BE ∧ Below w.heap.size w w'
theorem StoreF.one {eN eL eT eB eE : TypeId} {lo : Nat} {w : World} {s : StoreD} {v3 v4 v5 vE : Value} {B3 B4 B5 BE : List Nat} (h : StoreF eN eL eT eB eE lo w s v3 v4 v5 vE B3 B4 B5 BE) : (dskC s.Disk v3 v4 v5 ++ stoT s vE).toArray.all (·.oneCell') = true := by
 obtain ⟨_, _, rfl⟩ := h.d.n.slice
 obtain ⟨_, _, rfl⟩ := h.d.k.slice
 obtain ⟨_, _, rfl⟩ := h.d.t.slice
 obtain ⟨_, _, rfl⟩ := h.e.slice
 simp [dskC, stoT, Value.oneCell']
end Go.G6
namespace Go.Proofs.YtdjcjilipgpnmaaGreat
open Go Go.RowKit Go.G6
set_option maxRecDepth 10000
theorem s_l06DoE {w : World} {Bs : Nat} {d : DiskD} {R T : List Value} {bs : List Nat} (hX : Bx w Bs (R ++ T).toArray) (hD : Rep.pt w bs R d) (hs : Small d) {kd : Int} {nm : ByteArray} (hk : kd ≠ 5) (hv : OpV kd nm emp 0 []) :
  Calls Tryz.prog 22 #[.pointer (some ⟨Bs, 0, none⟩), .int .i64 kd, .string nm] w (StAct 104 127 106 5 w Bs T (diskDo d kd nm emp 0 [])) := by
 have h := s_l06Do hX hD hs (kd := kd) (nm := nm) (by rw [if_neg hk]; exact hv)
 rw [if_neg hk] at h
 exact h
theorem s_l06DoR {w : World} {Bs : Nat} {d : DiskD} {R T : List Value} {bs : List Nat} (hX : Bx w Bs (R ++ T).toArray) (hD : Rep.pt w bs R d) (hs : Small d) {nm : ByteArray} (hv : OpV 5 nm hist 0 []) :
  Calls Tryz.prog 22 #[.pointer (some ⟨Bs, 0, none⟩), .int .i64 5, .string nm] w (StAct 104 127 106 5 w Bs T (diskDo d 5 nm hist 0 [])) := by
 have h := s_l06Do hX hD hs (kd := 5) (nm := nm) (by rw [if_pos rfl]; exact hv)
 rw [if_pos rfl] at h
 exact h
end Go.Proofs.YtdjcjilipgpnmaaGreat
end
