/- The directory, as the reference keeps it. -/
import Derived.Test.YtdjcjilipgpnmaaGreatKText
import Derived.Test.YtdjcjilipgpnmaaGreatKLiftT
import Derived.Lib.MinMax
section
set_option linter.unusedSimpArgs false
set_option linter.unusedVariables false
namespace Go.G6
open Go Go.RowKit
def entOk (e : EntryD) : Bool := inB e.Num 1 1000000000 && inB (e.Text.size : Int) 1 1000
def entP (l : List EntryD) (k : Nat) : Bool := entOk (l.getD k zEnt) && (decide (k = 0) || decide ((l.getD (k - 1) zEnt).Num + 1 = (l.getD k zEnt).Num))
def entriesOk (l : List EntryD) : Bool := allB (entP l) l.length 0
end Go.G6
namespace Go.Proofs.YtdjcjilipgpnmaaGreat
open Go.RowKit Go.G6
set_option maxHeartbeats 6000000
set_option maxRecDepth 10000
theorem i_EntryOk (x : EntryD) (w : World) : Calls Tryz.prog 63 #[.agg #[.int .i64 x.Num, .string x.Text]] w fun e w' => e = .returned (.bool (entOk x)) ∧ Below w.heap.size w w' := by
 go_enter Tryz.func63, Tryz.ntmps63
 go_wp2_with (go_at_call 26; refine (i_in _ _ _ _).mono ?_; rintro e w' ⟨rfl, rfl⟩)
 all_goals (go_ret; exact ⟨ret_bool (by unfold entOk; simp_all), (Below.refl _ _).alloc (Nat.le_refl _) _⟩)
theorem s_EntryOk (x : EntryD) (w : World) : Calls Tryz.prog 51 #[.agg #[.int .i64 x.Num, .string x.Text]] w fun e w' => e = .returned (.bool (entOk x)) ∧ Below w.heap.size w w' := by
 go_enter Tryz.func51, Tryz.ntmps51
 go_wp2
 all_goals (go_ret; exact ⟨ret_bool (by unfold entOk inB; rw [Bool.eq_iff_iff]; simp; omega), (Below.refl _ _).alloc (Nat.le_refl _) _⟩)
theorem i_EntriesOk {w : World} {bs : List Nat} {a : Option Addr} {len cap : Nat} {l : List EntryD} (h : Slc w bs a len cap l) :
  Calls Tryz.prog 60 #[.slice a len cap] w fun e w' => e = .returned (.bool (entriesOk l)) ∧ Below w.heap.size w w' := by
 obtain rfl := h.len_eq
 have m1 := h.max
 have H := hid h; clear h
 have H0 := hid (show entriesOk l = allB (entP l) l.length 0 from rfl)
 obtain ⟨f, hf⟩ : ∃ f, f = entP l := ⟨_, rfl⟩
 rw [← hf] at H0
 have HF := hid hf; clear hf
 go_enter Tryz.func60, Tryz.ntmps60
 go_wp2_with fail
 go_loopw [7] (fun i wr => ∃ k : Nat, k ≤ l.length ∧ i = .int .i64 (k : Int) ∧ entriesOk l = allB f (l.length - k) k ∧ (k = 0 ∨ entOk (l.getD (k - 1) zEnt) = true) ∧ Below w.heap.size w wr) (fun i _ => l.length - (intOf i).toNat)
 case atStart => exact ⟨0, Nat.zero_le _, rfl, H0.out, .inl rfl, Below.refl _ _⟩
 case round =>
  obtain ⟨k, hk, rfl, hr, hpv, hb⟩ := hrel
  have HR := hid hr; have HB := hid hb; have HPV := hid hpv; clear hr hpv
  by_cases hlt : k < l.length
  rotate_left
  ·have hki : ¬ (k : Int) < (l.length : Int) := by omega
   have E := hid (show entriesOk l = true by rw [HR.out, show l.length - k = 0 by omega]; rfl)
   clear hlt hk hb
   go_wp2
   go_ret
   exact ⟨ret_bool (by rw [E.out]), HB.out⟩
  obtain ⟨b1, o1, cs1, _, rfl, _, hp1, _, hA1⟩ := (H.out.grow hb).elem k hlt
  obtain ⟨_, rfl, q1, q2⟩ := open_Entry hp1
  have c0 : wr.cell? ⟨b1, o1 + k * 2, none⟩ = some _ := hA1 0 _ rfl
  have c1 : wr.cell? ⟨b1, o1 + k * 2 + 1, none⟩ = some _ := hA1 1 _ rfl
  have hst := show allB f (l.length - k) k = (f k && allB f (l.length - (k + 1)) (k + 1)) by rw [show l.length - k = (l.length - (k + 1)) + 1 by omega]; rfl
  have hfk : f k = (entOk l[k] && (decide (k = 0) || decide ((l.getD (k - 1) zEnt).Num + 1 = l[k].Num))) := by rw [HF.out]; simp [entP, hlt]
  rw [hfk] at hst
  have hki : (k : Int) < (l.length : Int) := by omega
  have hgk : l.getD k zEnt = l[k] := by simp [hlt]
  obtain ⟨x, hx⟩ : ∃ x, x = l[k] := ⟨_, rfl⟩
  rw [← hx] at hst c0 c1 hgk q1
  have HST := hid hst
  have HGK := hid hgk
  clear hst hfk hp1 q2 hx hgk
  have hprev : ∀ j : Nat, k = j + 1 → ∃ y : EntryD, wr.cell? ⟨b1, o1 + j * 2, none⟩ = some (.int .i64 y.Num) ∧ l.getD j zEnt = y ∧ entOk y = true := by
   intro j hj
   subst hj
   obtain ⟨b2, o2, cs2, _, e2, _, hp2, _, hA2⟩ := (H.out.grow hb).elem j (by omega)
   obtain ⟨rfl, rfl⟩ : b1 = b2 ∧ o1 = o2 := by simpa using e2
   obtain ⟨_, rfl, _, _⟩ := open_Entry hp2
   refine ⟨l[j], hA2 0 _ rfl, by simp [show j < l.length by omega], ?_⟩
   have := HPV.out
   simp [show j < l.length by omega] at this
   exact this
  have HPR := hid hprev
  clear hprev hA1
  go_upto_region 4 with fail
  refine late_genw (fun w2 hw2 => ?_)
  have hbb : Below wr.heap.size wr w2 := by rw [hw2]; exact (Below.refl _ _).alloc (Nat.le_refl _) _
  have X := show Bx w2 wr.heap.size #[.int .i64 x.Num, .string x.Text] by rw [hw2]; exact Bx.new _ _ _ rfl
  have z0 : w2.cell? ⟨wr.heap.size, 0, none⟩ = some (.int .i64 x.Num) := X.out 0
  have z1 : w2.cell? ⟨wr.heap.size, 1, none⟩ = some (.string x.Text) := X.out 1
  have HB2 := hid (HB.out.trans (hbb.mono HB.out.size))
  have HBB := hid hbb
  clear hw2 hbb X c0 c1 hb
  go_wp2_with fail
  cases hok : entOk x
  ·have E := hid (show entriesOk l = false by rw [HR.out, HST.out, hok]; rfl)
   have HOK := hid hok
   refine late_start (fun W => W.cell? ⟨wr.heap.size, 0, none⟩ = some (.int .i64 x.Num) ∧ W.cell? ⟨wr.heap.size, 1, none⟩ = some (.string x.Text)) 99 (by kernel_rfl) ?_ (fun hS => ?_)
   ·exact ⟨z0, z1⟩
   refine ltk 0 rfl ?_
   try simp only [Act.put, putZ, List.getElem_toArray, List.getElem_cons_zero, List.getElem_cons_succ]
   refine late_one (i := 1) rfl (by kernel_rfl) (fun K9 hK9 => ?_)
   go_simp
   refine (i_EntryOk x _).mono ?_
   rintro e w3 ⟨rfl, hb3⟩
   have HB3 := hid ((HB2.out.drew).trans (hb3.mono (show w.heap.size ≤ w2.heap.size from HB2.out.size)))
   rw [HOK.out]
   go_wp2_with fail
   refine hK9.out _ _ (fun _ => ?_) (fun hS9 => ?_)
   ·(try dsimp only); exact ⟨keepcellF hb3 hS.1, keepcellF hb3 hS.2⟩
   replace hS := hS9 (by decide)
   clear hK9 K9 hS9
   try simp only [Act.put, putZ, List.getElem_toArray, List.getElem_cons_zero, List.getElem_cons_succ]
   clear hb3
   refine ltk 2 rfl ?_
   try simp only [Act.put, putZ, List.getElem_toArray, List.getElem_cons_zero, List.getElem_cons_succ]
   refine ltk 3 rfl ?_
   try simp only [Act.put, putZ, List.getElem_toArray, List.getElem_cons_zero, List.getElem_cons_succ]
   refine lsk 4 rfl ?_
   try simp only [Act.put, List.setIfInBounds_toArray, List.set_cons_zero, List.set_cons_succ]
   refine lsk 5 rfl ?_
   try simp only [Act.put, List.setIfInBounds_toArray, List.set_cons_zero, List.set_cons_succ]
   refine lsk 6 rfl ?_
   try simp only [Act.put, List.setIfInBounds_toArray, List.set_cons_zero, List.set_cons_succ]
   refine lsk 7 rfl ?_
   try simp only [Act.put, List.setIfInBounds_toArray, List.set_cons_zero, List.set_cons_succ]
   refine lsk 8 rfl ?_
   try simp only [Act.put, List.setIfInBounds_toArray, List.set_cons_zero, List.set_cons_succ]
   refine lsk 9 rfl ?_
   try simp only [Act.put, List.setIfInBounds_toArray, List.set_cons_zero, List.set_cons_succ]
   refine lsk 10 rfl ?_
   try simp only [Act.put, List.setIfInBounds_toArray, List.set_cons_zero, List.set_cons_succ]
   refine lsk 11 rfl ?_
   try simp only [Act.put, List.setIfInBounds_toArray, List.set_cons_zero, List.set_cons_succ]
   refine lsk 12 rfl ?_
   try simp only [Act.put, List.setIfInBounds_toArray, List.set_cons_zero, List.set_cons_succ]
   refine lsk 13 rfl ?_
   try simp only [Act.put, List.setIfInBounds_toArray, List.set_cons_zero, List.set_cons_succ]
   refine lsk 14 rfl ?_
   try simp only [Act.put, List.setIfInBounds_toArray, List.set_cons_zero, List.set_cons_succ]
   refine lsk 15 rfl ?_
   try simp only [Act.put, List.setIfInBounds_toArray, List.set_cons_zero, List.set_cons_succ]
   refine lsk 16 rfl ?_
   try simp only [Act.put, List.setIfInBounds_toArray, List.set_cons_zero, List.set_cons_succ]
   refine lsk 17 rfl ?_
   try simp only [Act.put, List.setIfInBounds_toArray, List.set_cons_zero, List.set_cons_succ]
   refine late_one (i := 18) rfl (by kernel_rfl) (fun K9 hK9 => ?_)
   go_simp
   refine hK9.out _ _ (fun _ => ?_) (fun hS9 => ?_)
   ·(try dsimp only); exact hS
   replace hS := hS9 (by decide)
   clear hK9 K9 hS9
   try simp only [Act.put, putZ, List.getElem_toArray, List.getElem_cons_zero, List.getElem_cons_succ]
   refine late_done (by kernel_rfl) ?_ _
   go_wp2
   go_ret
   exact ⟨ret_bool (by rw [E.out]), HB3.out⟩
  have HOKx := hid hok
  have HOK := hid (show entOk (l.getD k zEnt) = true by rw [HGK.out]; exact hok)
  by_cases hk0 : k = 0
  ·subst hk0
   have E := hid (show entriesOk l = allB f (l.length - (0 + 1)) (0 + 1) by rw [HR.out, HST.out, hok]; rfl)
   clear hok
   refine late_start (fun W => W.cell? ⟨wr.heap.size, 0, none⟩ = some (.int .i64 x.Num) ∧ W.cell? ⟨wr.heap.size, 1, none⟩ = some (.string x.Text)) 99 (by kernel_rfl) ?_ (fun hS => ?_)
   ·exact ⟨z0, z1⟩
   refine ltk 0 rfl ?_
   try simp only [Act.put, putZ, List.getElem_toArray, List.getElem_cons_zero, List.getElem_cons_succ]
   refine late_one (i := 1) rfl (by kernel_rfl) (fun K9 hK9 => ?_)
   go_simp
   refine (i_EntryOk x _).mono ?_
   rintro e w3 ⟨rfl, hb3⟩
   have HB3 := hid ((HB2.out.drew).trans (hb3.mono (show w.heap.size ≤ w2.heap.size from HB2.out.size)))
   rw [HOKx.out]
   go_wp2_with fail
   refine hK9.out _ _ (fun _ => ?_) (fun hS9 => ?_)
   ·(try dsimp only); exact ⟨keepcellF hb3 hS.1, keepcellF hb3 hS.2⟩
   replace hS := hS9 (by decide)
   clear hK9 K9 hS9
   try simp only [Act.put, putZ, List.getElem_toArray, List.getElem_cons_zero, List.getElem_cons_succ]
   clear hb3
   refine ltk 2 rfl ?_
   try simp only [Act.put, putZ, List.getElem_toArray, List.getElem_cons_zero, List.getElem_cons_succ]
   refine ltk 3 rfl ?_
   try simp only [Act.put, putZ, List.getElem_toArray, List.getElem_cons_zero, List.getElem_cons_succ]
   refine ltq 4 rfl ?_
   try simp only [Act.put, putZ, List.getElem_toArray, List.getElem_cons_zero, List.getElem_cons_succ]
   refine ltq 5 rfl ?_
   try simp only [Act.put, putZ, List.getElem_toArray, List.getElem_cons_zero, List.getElem_cons_succ]
   refine ltq 6 rfl ?_
   try simp only [Act.put, putZ, List.getElem_toArray, List.getElem_cons_zero, List.getElem_cons_succ]
   refine lsk 7 rfl ?_
   try simp only [Act.put, List.setIfInBounds_toArray, List.set_cons_zero, List.set_cons_succ]
   refine lsk 8 rfl ?_
   try simp only [Act.put, List.setIfInBounds_toArray, List.set_cons_zero, List.set_cons_succ]
   refine lsk 9 rfl ?_
   try simp only [Act.put, List.setIfInBounds_toArray, List.set_cons_zero, List.set_cons_succ]
   refine lsk 10 rfl ?_
   try simp only [Act.put, List.setIfInBounds_toArray, List.set_cons_zero, List.set_cons_succ]
   refine lsk 11 rfl ?_
   try simp only [Act.put, List.setIfInBounds_toArray, List.set_cons_zero, List.set_cons_succ]
   refine lsk 12 rfl ?_
   try simp only [Act.put, List.setIfInBounds_toArray, List.set_cons_zero, List.set_cons_succ]
   refine lsk 13 rfl ?_
   try simp only [Act.put, List.setIfInBounds_toArray, List.set_cons_zero, List.set_cons_succ]
   refine lsk 14 rfl ?_
   try simp only [Act.put, List.setIfInBounds_toArray, List.set_cons_zero, List.set_cons_succ]
   refine lsk 15 rfl ?_
   try simp only [Act.put, List.setIfInBounds_toArray, List.set_cons_zero, List.set_cons_succ]
   refine lsk 16 rfl ?_
   try simp only [Act.put, List.setIfInBounds_toArray, List.set_cons_zero, List.set_cons_succ]
   refine ltq 17 rfl ?_
   try simp only [Act.put, putZ, List.getElem_toArray, List.getElem_cons_zero, List.getElem_cons_succ]
   refine late_one (i := 18) rfl (by kernel_rfl) (fun K9 hK9 => ?_)
   go_simp
   refine hK9.out _ _ (fun _ => ?_) (fun hS9 => ?_)
   ·(try dsimp only); exact hS
   replace hS := hS9 (by decide)
   clear hK9 K9 hS9
   try simp only [Act.put, putZ, List.getElem_toArray, List.getElem_cons_zero, List.getElem_cons_succ]
   refine late_done (by kernel_rfl) ?_ _
   go_wp2
   exact ⟨⟨0 + 1, by omega, by first | rfl | (congr 1; omega), E.out, .inr (by rw [Nat.add_sub_cancel]; exact HOK.out), HB3.out⟩, by simp [intOf]; omega⟩
  obtain ⟨j, rfl⟩ : ∃ j, k = j + 1 := ⟨k - 1, by omega⟩
  obtain ⟨y, zy0, hyl, hyok⟩ := HPR.out j rfl
  have hyr : 1 ≤ y.Num ∧ y.Num ≤ 1000000000 := by unfold entOk inB at hyok; simp at hyok; omega
  have hxr : 1 ≤ x.Num ∧ x.Num ≤ 1000000000 := by unfold entOk inB at hok; simp at hok; omega
  have zy : w2.cell? ⟨b1, o1 + j * 2, none⟩ = some (.int .i64 y.Num) := keepcellF HBB.out zy0
  have hw1 : IntKind.i64.wrap ((j : Int) + 1 - 1) = (j : Int) := by rw [wrapI (by omega)]; omega
  have hw2 : IntKind.i64.wrap (j : Int) = (j : Int) := wrapI (by omega)
  have hw3 : IntKind.i64.wrap (y.Num + 1) = y.Num + 1 := wrapI (by omega)
  have hw4 : IntKind.i64.wrap (x.Num - 1) = x.Num - 1 := wrapI (by omega)
  have hji : (j : Int) < (l.length : Int) := by omega
  have hjp : (0 : Int) < (j : Int) + 1 := by omega
  clear zy0 hk0
  by_cases hq : y.Num + 1 = x.Num
  ·have E := hid (show entriesOk l = allB f (l.length - (j + 1 + 1)) (j + 1 + 1) by rw [HR.out, HST.out, hok, Nat.add_sub_cancel, hyl, decide_eq_true hq]; simp)
   have hqe : (y.Num + 1 != x.Num) = false := by rw [bne_eq_false_iff_eq]; omega
   clear hok hyl hq hyok
   refine late_start (fun W => W.cell? ⟨wr.heap.size, 0, none⟩ = some (.int .i64 x.Num) ∧ W.cell? ⟨wr.heap.size, 1, none⟩ = some (.string x.Text) ∧ W.cell? ⟨b1, o1 + j * 2, none⟩ = some (.int .i64 y.Num)) 99 (by kernel_rfl) ?_ (fun hS => ?_)
   ·exact ⟨z0, z1, zy⟩
   refine ltk 0 rfl ?_
   try simp only [Act.put, putZ, List.getElem_toArray, List.getElem_cons_zero, List.getElem_cons_succ]
   refine late_one (i := 1) rfl (by kernel_rfl) (fun K9 hK9 => ?_)
   go_simp
   refine (i_EntryOk x _).mono ?_
   rintro e w3 ⟨rfl, hb3⟩
   have HB3 := hid ((HB2.out.drew).trans (hb3.mono (show w.heap.size ≤ w2.heap.size from HB2.out.size)))
   rw [HOKx.out]
   go_wp2_with fail
   refine hK9.out _ _ (fun _ => ?_) (fun hS9 => ?_)
   ·(try dsimp only); exact ⟨keepcellF hb3 hS.1, keepcellF hb3 hS.2.1, keepcellF hb3 hS.2.2⟩
   replace hS := hS9 (by decide)
   clear hK9 K9 hS9
   try simp only [Act.put, putZ, List.getElem_toArray, List.getElem_cons_zero, List.getElem_cons_succ]
   clear hb3
   refine ltk 2 rfl ?_
   try simp only [Act.put, putZ, List.getElem_toArray, List.getElem_cons_zero, List.getElem_cons_succ]
   refine ltk 3 rfl ?_
   try simp only [Act.put, putZ, List.getElem_toArray, List.getElem_cons_zero, List.getElem_cons_succ]
   refine ltq 4 rfl ?_
   try simp only [Act.put, putZ, List.getElem_toArray, List.getElem_cons_zero, List.getElem_cons_succ]
   refine ltq 5 rfl ?_
   try simp only [Act.put, putZ, List.getElem_toArray, List.getElem_cons_zero, List.getElem_cons_succ]
   refine ltq 6 rfl ?_
   try simp only [Act.put, putZ, List.getElem_toArray, List.getElem_cons_zero, List.getElem_cons_succ]
   refine ltq 7 rfl ?_
   try simp only [Act.put, putZ, List.getElem_toArray, List.getElem_cons_zero, List.getElem_cons_succ]
   refine ltq 8 rfl ?_
   try simp only [Act.put, putZ, List.getElem_toArray, List.getElem_cons_zero, List.getElem_cons_succ]
   refine ltq 9 rfl ?_
   try simp only [Act.put, putZ, List.getElem_toArray, List.getElem_cons_zero, List.getElem_cons_succ]
   refine ltq 10 rfl ?_
   try simp only [Act.put, putZ, List.getElem_toArray, List.getElem_cons_zero, List.getElem_cons_succ]
   refine ltq 11 rfl ?_
   try simp only [Act.put, putZ, List.getElem_toArray, List.getElem_cons_zero, List.getElem_cons_succ]
   refine ltq 12 rfl ?_
   try simp only [Act.put, putZ, List.getElem_toArray, List.getElem_cons_zero, List.getElem_cons_succ]
   refine ltq 13 rfl ?_
   try simp only [Act.put, putZ, List.getElem_toArray, List.getElem_cons_zero, List.getElem_cons_succ]
   refine ltq 14 rfl ?_
   try simp only [Act.put, putZ, List.getElem_toArray, List.getElem_cons_zero, List.getElem_cons_succ]
   refine ltq 15 rfl ?_
   try simp only [Act.put, putZ, List.getElem_toArray, List.getElem_cons_zero, List.getElem_cons_succ]
   refine ltq 16 rfl ?_
   try simp only [Act.put, putZ, List.getElem_toArray, List.getElem_cons_zero, List.getElem_cons_succ]
   refine ltq 17 rfl ?_
   try simp only [Act.put, putZ, List.getElem_toArray, List.getElem_cons_zero, List.getElem_cons_succ]
   refine late_one (i := 18) rfl (by kernel_rfl) (fun K9 hK9 => ?_)
   go_simp
   refine hK9.out _ _ (fun _ => ?_) (fun hS9 => ?_)
   ·(try dsimp only); exact hS
   replace hS := hS9 (by decide)
   clear hK9 K9 hS9
   try simp only [Act.put, putZ, List.getElem_toArray, List.getElem_cons_zero, List.getElem_cons_succ]
   refine late_done (by kernel_rfl) ?_ _
   clear hw1 hw2 hw3 hw4
   go_wp2
   exact ⟨⟨j + 1 + 1, by omega, by first | rfl | (congr 1; omega), E.out, .inr (by rw [Nat.add_sub_cancel]; exact HOK.out), HB3.out⟩, by simp [intOf]; omega⟩
  ·have E := hid (show entriesOk l = false by rw [HR.out, HST.out, hok, Nat.add_sub_cancel, hyl, decide_eq_false hq]; simp)
   have hqe : (y.Num + 1 != x.Num) = true := by rw [bne_iff_ne]; omega
   clear hok hyl hq hyok
   refine late_start (fun W => W.cell? ⟨wr.heap.size, 0, none⟩ = some (.int .i64 x.Num) ∧ W.cell? ⟨wr.heap.size, 1, none⟩ = some (.string x.Text) ∧ W.cell? ⟨b1, o1 + j * 2, none⟩ = some (.int .i64 y.Num)) 99 (by kernel_rfl) ?_ (fun hS => ?_)
   ·exact ⟨z0, z1, zy⟩
   refine ltk 0 rfl ?_
   try simp only [Act.put, putZ, List.getElem_toArray, List.getElem_cons_zero, List.getElem_cons_succ]
   refine late_one (i := 1) rfl (by kernel_rfl) (fun K9 hK9 => ?_)
   go_simp
   refine (i_EntryOk x _).mono ?_
   rintro e w3 ⟨rfl, hb3⟩
   have HB3 := hid ((HB2.out.drew).trans (hb3.mono (show w.heap.size ≤ w2.heap.size from HB2.out.size)))
   rw [HOKx.out]
   go_wp2_with fail
   refine hK9.out _ _ (fun _ => ?_) (fun hS9 => ?_)
   ·(try dsimp only); exact ⟨keepcellF hb3 hS.1, keepcellF hb3 hS.2.1, keepcellF hb3 hS.2.2⟩
   replace hS := hS9 (by decide)
   clear hK9 K9 hS9
   try simp only [Act.put, putZ, List.getElem_toArray, List.getElem_cons_zero, List.getElem_cons_succ]
   clear hb3
   refine ltk 2 rfl ?_
   try simp only [Act.put, putZ, List.getElem_toArray, List.getElem_cons_zero, List.getElem_cons_succ]
   refine ltk 3 rfl ?_
   try simp only [Act.put, putZ, List.getElem_toArray, List.getElem_cons_zero, List.getElem_cons_succ]
   refine ltq 4 rfl ?_
   try simp only [Act.put, putZ, List.getElem_toArray, List.getElem_cons_zero, List.getElem_cons_succ]
   refine ltq 5 rfl ?_
   try simp only [Act.put, putZ, List.getElem_toArray, List.getElem_cons_zero, List.getElem_cons_succ]
   refine ltq 6 rfl ?_
   try simp only [Act.put, putZ, List.getElem_toArray, List.getElem_cons_zero, List.getElem_cons_succ]
   refine ltq 7 rfl ?_
   try simp only [Act.put, putZ, List.getElem_toArray, List.getElem_cons_zero, List.getElem_cons_succ]
   refine ltq 8 rfl ?_
   try simp only [Act.put, putZ, List.getElem_toArray, List.getElem_cons_zero, List.getElem_cons_succ]
   refine ltq 9 rfl ?_
   try simp only [Act.put, putZ, List.getElem_toArray, List.getElem_cons_zero, List.getElem_cons_succ]
   refine ltq 10 rfl ?_
   try simp only [Act.put, putZ, List.getElem_toArray, List.getElem_cons_zero, List.getElem_cons_succ]
   refine ltq 11 rfl ?_
   try simp only [Act.put, putZ, List.getElem_toArray, List.getElem_cons_zero, List.getElem_cons_succ]
   refine ltq 12 rfl ?_
   try simp only [Act.put, putZ, List.getElem_toArray, List.getElem_cons_zero, List.getElem_cons_succ]
   refine ltq 13 rfl ?_
   try simp only [Act.put, putZ, List.getElem_toArray, List.getElem_cons_zero, List.getElem_cons_succ]
   refine ltq 14 rfl ?_
   try simp only [Act.put, putZ, List.getElem_toArray, List.getElem_cons_zero, List.getElem_cons_succ]
   refine ltq 15 rfl ?_
   try simp only [Act.put, putZ, List.getElem_toArray, List.getElem_cons_zero, List.getElem_cons_succ]
   refine ltq 16 rfl ?_
   try simp only [Act.put, putZ, List.getElem_toArray, List.getElem_cons_zero, List.getElem_cons_succ]
   refine ltq 17 rfl ?_
   try simp only [Act.put, putZ, List.getElem_toArray, List.getElem_cons_zero, List.getElem_cons_succ]
   refine late_one (i := 18) rfl (by kernel_rfl) (fun K9 hK9 => ?_)
   go_simp
   refine hK9.out _ _ (fun _ => ?_) (fun hS9 => ?_)
   ·(try dsimp only); exact hS
   replace hS := hS9 (by decide)
   clear hK9 K9 hS9
   try simp only [Act.put, putZ, List.getElem_toArray, List.getElem_cons_zero, List.getElem_cons_succ]
   refine late_done (by kernel_rfl) ?_ _
   clear hw1 hw2 hw3 hw4
   go_wp2
   go_ret
   exact ⟨ret_bool (by rw [E.out]), HB3.out⟩
theorem s_EntriesOk {w : World} {bs : List Nat} {a : Option Addr} {len cap : Nat} {l : List EntryD} (h : Slc w bs a len cap l) :
  Calls Tryz.prog 48 #[.slice a len cap] w fun e w' => e = .returned (.bool (entriesOk l)) ∧ Below w.heap.size w w' := by
 obtain rfl := h.len_eq
 have m1 := h.max
 have H := hid h; clear h
 have H0 := hid (show entriesOk l = allB (entP l) l.length 0 from rfl)
 obtain ⟨f, hf⟩ : ∃ f, f = entP l := ⟨_, rfl⟩
 rw [← hf] at H0
 have HF := hid hf; clear hf
 go_enter Tryz.func48, Tryz.ntmps48
 go_wp2_with fail
 go_loopw [7] (fun i wr => ∃ k : Nat, k ≤ l.length ∧ i = .int .i64 (k : Int) ∧ entriesOk l = allB f (l.length - k) k ∧ (k = 0 ∨ entOk (l.getD (k - 1) zEnt) = true) ∧ Below w.heap.size w wr) (fun i _ => l.length - (intOf i).toNat)
 case atStart => exact ⟨0, Nat.zero_le _, rfl, H0.out, .inl rfl, Below.refl _ _⟩
 case round =>
  obtain ⟨k, hk, rfl, hr, hpv, hb⟩ := hrel
  have HR := hid hr; have HB := hid hb; have HPV := hid hpv; clear hr hpv
  by_cases hlt : k < l.length
  rotate_left
  ·have hki : ¬ (k : Int) < (l.length : Int) := by omega
   have E := hid (show entriesOk l = true by rw [HR.out, show l.length - k = 0 by omega]; rfl)
   clear hlt hk hb
   go_wp2
   go_ret
   exact ⟨ret_bool (by rw [E.out]), HB.out⟩
  obtain ⟨b1, o1, cs1, _, rfl, _, hp1, _, hA1⟩ := (H.out.grow hb).elem k hlt
  obtain ⟨_, rfl, q1, q2⟩ := open_Entry hp1
  have c0 : wr.cell? ⟨b1, o1 + k * 2, none⟩ = some _ := hA1 0 _ rfl
  have c1 : wr.cell? ⟨b1, o1 + k * 2 + 1, none⟩ = some _ := hA1 1 _ rfl
  have hst := show allB f (l.length - k) k = (f k && allB f (l.length - (k + 1)) (k + 1)) by rw [show l.length - k = (l.length - (k + 1)) + 1 by omega]; rfl
  have hfk : f k = (entOk l[k] && (decide (k = 0) || decide ((l.getD (k - 1) zEnt).Num + 1 = l[k].Num))) := by rw [HF.out]; simp [entP, hlt]
  rw [hfk] at hst
  have hki : (k : Int) < (l.length : Int) := by omega
  have hgk : l.getD k zEnt = l[k] := by simp [hlt]
  obtain ⟨x, hx⟩ : ∃ x, x = l[k] := ⟨_, rfl⟩
  rw [← hx] at hst c0 c1 hgk q1
  have HST := hid hst
  have HGK := hid hgk
  clear hst hfk hp1 q2 hx hgk
  have hprev : ∀ j : Nat, k = j + 1 → ∃ y : EntryD, wr.cell? ⟨b1, o1 + j * 2, none⟩ = some (.int .i64 y.Num) ∧ l.getD j zEnt = y ∧ entOk y = true := by
   intro j hj
   subst hj
   obtain ⟨b2, o2, cs2, _, e2, _, hp2, _, hA2⟩ := (H.out.grow hb).elem j (by omega)
   obtain ⟨rfl, rfl⟩ : b1 = b2 ∧ o1 = o2 := by simpa using e2
   obtain ⟨_, rfl, _, _⟩ := open_Entry hp2
   refine ⟨l[j], hA2 0 _ rfl, by simp [show j < l.length by omega], ?_⟩
   have := HPV.out
   simp [show j < l.length by omega] at this
   exact this
  have HPR := hid hprev
  clear hprev hA1
  go_upto_region 4 with fail
  refine late_genw (fun w2 hw2 => ?_)
  have hbb : Below wr.heap.size wr w2 := by rw [hw2]; exact (Below.refl _ _).alloc (Nat.le_refl _) _
  have X := show Bx w2 wr.heap.size #[.int .i64 x.Num, .string x.Text] by rw [hw2]; exact Bx.new _ _ _ rfl
  have z0 : w2.cell? ⟨wr.heap.size, 0, none⟩ = some (.int .i64 x.Num) := X.out 0
  have z1 : w2.cell? ⟨wr.heap.size, 1, none⟩ = some (.string x.Text) := X.out 1
  have HB2 := hid (HB.out.trans (hbb.mono HB.out.size))
  have HBB := hid hbb
  clear hw2 hbb X c0 c1 hb
  go_wp2_with fail
  cases hok : entOk x
  ·have E := hid (show entriesOk l = false by rw [HR.out, HST.out, hok]; rfl)
   have HOK := hid hok
   refine late_start (fun W => W.cell? ⟨wr.heap.size, 0, none⟩ = some (.int .i64 x.Num) ∧ W.cell? ⟨wr.heap.size, 1, none⟩ = some (.string x.Text)) 99 (by kernel_rfl) ?_ (fun hS => ?_)
   ·exact ⟨z0, z1⟩
   refine ltk 0 rfl ?_
   try simp only [Act.put, putZ, List.getElem_toArray, List.getElem_cons_zero, List.getElem_cons_succ]
   refine late_one (i := 1) rfl (by kernel_rfl) (fun K9 hK9 => ?_)
   go_simp
   refine (s_EntryOk x _).mono ?_
   rintro e w3 ⟨rfl, hb3⟩
   have HB3 := hid ((HB2.out.drew).trans (hb3.mono (show w.heap.size ≤ w2.heap.size from HB2.out.size)))
   rw [HOK.out]
   go_wp2_with fail
   refine hK9.out _ _ (fun _ => ?_) (fun hS9 => ?_)
   ·(try dsimp only); exact ⟨keepcellF hb3 hS.1, keepcellF hb3 hS.2⟩
   replace hS := hS9 (by decide)
   clear hK9 K9 hS9
   try simp only [Act.put, putZ, List.getElem_toArray, List.getElem_cons_zero, List.getElem_cons_succ]
   clear hb3
   refine ltk 2 rfl ?_
   try simp only [Act.put, putZ, List.getElem_toArray, List.getElem_cons_zero, List.getElem_cons_succ]
   refine ltk 3 rfl ?_
   try simp only [Act.put, putZ, List.getElem_toArray, List.getElem_cons_zero, List.getElem_cons_succ]
   refine lsk 4 rfl ?_
   try simp only [Act.put, List.setIfInBounds_toArray, List.set_cons_zero, List.set_cons_succ]
   refine lsk 5 rfl ?_
   try simp only [Act.put, List.setIfInBounds_toArray, List.set_cons_zero, List.set_cons_succ]
   refine lsk 6 rfl ?_
   try simp only [Act.put, List.setIfInBounds_toArray, List.set_cons_zero, List.set_cons_succ]
   refine lsk 7 rfl ?_
   try simp only [Act.put, List.setIfInBounds_toArray, List.set_cons_zero, List.set_cons_succ]
   refine lsk 8 rfl ?_
   try simp only [Act.put, List.setIfInBounds_toArray, List.set_cons_zero, List.set_cons_succ]
   refine lsk 9 rfl ?_
   try simp only [Act.put, List.setIfInBounds_toArray, List.set_cons_zero, List.set_cons_succ]
   refine lsk 10 rfl ?_
   try simp only [Act.put, List.setIfInBounds_toArray, List.set_cons_zero, List.set_cons_succ]
   refine lsk 11 rfl ?_
   try simp only [Act.put, List.setIfInBounds_toArray, List.set_cons_zero, List.set_cons_succ]
   refine lsk 12 rfl ?_
   try simp only [Act.put, List.setIfInBounds_toArray, List.set_cons_zero, List.set_cons_succ]
   refine lsk 13 rfl ?_
   try simp only [Act.put, List.setIfInBounds_toArray, List.set_cons_zero, List.set_cons_succ]
   refine lsk 14 rfl ?_
   try simp only [Act.put, List.setIfInBounds_toArray, List.set_cons_zero, List.set_cons_succ]
   refine lsk 15 rfl ?_
   try simp only [Act.put, List.setIfInBounds_toArray, List.set_cons_zero, List.set_cons_succ]
   refine lsk 16 rfl ?_
   try simp only [Act.put, List.setIfInBounds_toArray, List.set_cons_zero, List.set_cons_succ]
   refine lsk 17 rfl ?_
   try simp only [Act.put, List.setIfInBounds_toArray, List.set_cons_zero, List.set_cons_succ]
   refine late_one (i := 18) rfl (by kernel_rfl) (fun K9 hK9 => ?_)
   go_simp
   refine hK9.out _ _ (fun _ => ?_) (fun hS9 => ?_)
   ·(try dsimp only); exact hS
   replace hS := hS9 (by decide)
   clear hK9 K9 hS9
   try simp only [Act.put, putZ, List.getElem_toArray, List.getElem_cons_zero, List.getElem_cons_succ]
   refine late_done (by kernel_rfl) ?_ _
   go_wp2
   go_ret
   exact ⟨ret_bool (by rw [E.out]), HB3.out⟩
  have HOKx := hid hok
  have HOK := hid (show entOk (l.getD k zEnt) = true by rw [HGK.out]; exact hok)
  by_cases hk0 : k = 0
  ·subst hk0
   have E := hid (show entriesOk l = allB f (l.length - (0 + 1)) (0 + 1) by rw [HR.out, HST.out, hok]; rfl)
   clear hok
   refine late_start (fun W => W.cell? ⟨wr.heap.size, 0, none⟩ = some (.int .i64 x.Num) ∧ W.cell? ⟨wr.heap.size, 1, none⟩ = some (.string x.Text)) 99 (by kernel_rfl) ?_ (fun hS => ?_)
   ·exact ⟨z0, z1⟩
   refine ltk 0 rfl ?_
   try simp only [Act.put, putZ, List.getElem_toArray, List.getElem_cons_zero, List.getElem_cons_succ]
   refine late_one (i := 1) rfl (by kernel_rfl) (fun K9 hK9 => ?_)
   go_simp
   refine (s_EntryOk x _).mono ?_
   rintro e w3 ⟨rfl, hb3⟩
   have HB3 := hid ((HB2.out.drew).trans (hb3.mono (show w.heap.size ≤ w2.heap.size from HB2.out.size)))
   rw [HOKx.out]
   go_wp2_with fail
   refine hK9.out _ _ (fun _ => ?_) (fun hS9 => ?_)
   ·(try dsimp only); exact ⟨keepcellF hb3 hS.1, keepcellF hb3 hS.2⟩
   replace hS := hS9 (by decide)
   clear hK9 K9 hS9
   try simp only [Act.put, putZ, List.getElem_toArray, List.getElem_cons_zero, List.getElem_cons_succ]
   clear hb3
   refine ltk 2 rfl ?_
   try simp only [Act.put, putZ, List.getElem_toArray, List.getElem_cons_zero, List.getElem_cons_succ]
   refine ltk 3 rfl ?_
   try simp only [Act.put, putZ, List.getElem_toArray, List.getElem_cons_zero, List.getElem_cons_succ]
   refine ltq 4 rfl ?_
   try simp only [Act.put, putZ, List.getElem_toArray, List.getElem_cons_zero, List.getElem_cons_succ]
   refine ltq 5 rfl ?_
   try simp only [Act.put, putZ, List.getElem_toArray, List.getElem_cons_zero, List.getElem_cons_succ]
   refine ltq 6 rfl ?_
   try simp only [Act.put, putZ, List.getElem_toArray, List.getElem_cons_zero, List.getElem_cons_succ]
   refine lsk 7 rfl ?_
   try simp only [Act.put, List.setIfInBounds_toArray, List.set_cons_zero, List.set_cons_succ]
   refine lsk 8 rfl ?_
   try simp only [Act.put, List.setIfInBounds_toArray, List.set_cons_zero, List.set_cons_succ]
   refine lsk 9 rfl ?_
   try simp only [Act.put, List.setIfInBounds_toArray, List.set_cons_zero, List.set_cons_succ]
   refine lsk 10 rfl ?_
   try simp only [Act.put, List.setIfInBounds_toArray, List.set_cons_zero, List.set_cons_succ]
   refine lsk 11 rfl ?_
   try simp only [Act.put, List.setIfInBounds_toArray, List.set_cons_zero, List.set_cons_succ]
   refine lsk 12 rfl ?_
   try simp only [Act.put, List.setIfInBounds_toArray, List.set_cons_zero, List.set_cons_succ]
   refine lsk 13 rfl ?_
   try simp only [Act.put, List.setIfInBounds_toArray, List.set_cons_zero, List.set_cons_succ]
   refine lsk 14 rfl ?_
   try simp only [Act.put, List.setIfInBounds_toArray, List.set_cons_zero, List.set_cons_succ]
   refine lsk 15 rfl ?_
   try simp only [Act.put, List.setIfInBounds_toArray, List.set_cons_zero, List.set_cons_succ]
   refine lsk 16 rfl ?_
   try simp only [Act.put, List.setIfInBounds_toArray, List.set_cons_zero, List.set_cons_succ]
   refine ltq 17 rfl ?_
   try simp only [Act.put, putZ, List.getElem_toArray, List.getElem_cons_zero, List.getElem_cons_succ]
   refine late_one (i := 18) rfl (by kernel_rfl) (fun K9 hK9 => ?_)
   go_simp
   refine hK9.out _ _ (fun _ => ?_) (fun hS9 => ?_)
   ·(try dsimp only); exact hS
   replace hS := hS9 (by decide)
   clear hK9 K9 hS9
   try simp only [Act.put, putZ, List.getElem_toArray, List.getElem_cons_zero, List.getElem_cons_succ]
   refine late_done (by kernel_rfl) ?_ _
   go_wp2
   exact ⟨⟨0 + 1, by omega, by first | rfl | (congr 1; omega), E.out, .inr (by rw [Nat.add_sub_cancel]; exact HOK.out), HB3.out⟩, by simp [intOf]; omega⟩
  obtain ⟨j, rfl⟩ : ∃ j, k = j + 1 := ⟨k - 1, by omega⟩
  obtain ⟨y, zy0, hyl, hyok⟩ := HPR.out j rfl
  have hyr : 1 ≤ y.Num ∧ y.Num ≤ 1000000000 := by unfold entOk inB at hyok; simp at hyok; omega
  have hxr : 1 ≤ x.Num ∧ x.Num ≤ 1000000000 := by unfold entOk inB at hok; simp at hok; omega
  have zy : w2.cell? ⟨b1, o1 + j * 2, none⟩ = some (.int .i64 y.Num) := keepcellF HBB.out zy0
  have hw1 : IntKind.i64.wrap ((j : Int) + 1 - 1) = (j : Int) := by rw [wrapI (by omega)]; omega
  have hw2 : IntKind.i64.wrap (j : Int) = (j : Int) := wrapI (by omega)
  have hw3 : IntKind.i64.wrap (y.Num + 1) = y.Num + 1 := wrapI (by omega)
  have hw4 : IntKind.i64.wrap (x.Num - 1) = x.Num - 1 := wrapI (by omega)
  have hji : (j : Int) < (l.length : Int) := by omega
  have hjp : (0 : Int) < (j : Int) + 1 := by omega
  clear zy0 hk0
  by_cases hq : y.Num + 1 = x.Num
  ·have E := hid (show entriesOk l = allB f (l.length - (j + 1 + 1)) (j + 1 + 1) by rw [HR.out, HST.out, hok, Nat.add_sub_cancel, hyl, decide_eq_true hq]; simp)
   have hqe : (x.Num - 1 != y.Num) = false := by rw [bne_eq_false_iff_eq]; omega
   clear hok hyl hq hyok
   refine late_start (fun W => W.cell? ⟨wr.heap.size, 0, none⟩ = some (.int .i64 x.Num) ∧ W.cell? ⟨wr.heap.size, 1, none⟩ = some (.string x.Text) ∧ W.cell? ⟨b1, o1 + j * 2, none⟩ = some (.int .i64 y.Num)) 99 (by kernel_rfl) ?_ (fun hS => ?_)
   ·exact ⟨z0, z1, zy⟩
   refine ltk 0 rfl ?_
   try simp only [Act.put, putZ, List.getElem_toArray, List.getElem_cons_zero, List.getElem_cons_succ]
   refine late_one (i := 1) rfl (by kernel_rfl) (fun K9 hK9 => ?_)
   go_simp
   refine (s_EntryOk x _).mono ?_
   rintro e w3 ⟨rfl, hb3⟩
   have HB3 := hid ((HB2.out.drew).trans (hb3.mono (show w.heap.size ≤ w2.heap.size from HB2.out.size)))
   rw [HOKx.out]
   go_wp2_with fail
   refine hK9.out _ _ (fun _ => ?_) (fun hS9 => ?_)
   ·(try dsimp only); exact ⟨keepcellF hb3 hS.1, keepcellF hb3 hS.2.1, keepcellF hb3 hS.2.2⟩
   replace hS := hS9 (by decide)
   clear hK9 K9 hS9
   try simp only [Act.put, putZ, List.getElem_toArray, List.getElem_cons_zero, List.getElem_cons_succ]
   clear hb3
   refine ltk 2 rfl ?_
   try simp only [Act.put, putZ, List.getElem_toArray, List.getElem_cons_zero, List.getElem_cons_succ]
   refine ltk 3 rfl ?_
   try simp only [Act.put, putZ, List.getElem_toArray, List.getElem_cons_zero, List.getElem_cons_succ]
   refine ltq 4 rfl ?_
   try simp only [Act.put, putZ, List.getElem_toArray, List.getElem_cons_zero, List.getElem_cons_succ]
   refine ltq 5 rfl ?_
   try simp only [Act.put, putZ, List.getElem_toArray, List.getElem_cons_zero, List.getElem_cons_succ]
   refine ltq 6 rfl ?_
   try simp only [Act.put, putZ, List.getElem_toArray, List.getElem_cons_zero, List.getElem_cons_succ]
   refine ltq 7 rfl ?_
   try simp only [Act.put, putZ, List.getElem_toArray, List.getElem_cons_zero, List.getElem_cons_succ]
   refine ltq 8 rfl ?_
   try simp only [Act.put, putZ, List.getElem_toArray, List.getElem_cons_zero, List.getElem_cons_succ]
   refine ltq 9 rfl ?_
   try simp only [Act.put, putZ, List.getElem_toArray, List.getElem_cons_zero, List.getElem_cons_succ]
   refine ltq 10 rfl ?_
   try simp only [Act.put, putZ, List.getElem_toArray, List.getElem_cons_zero, List.getElem_cons_succ]
   refine ltq 11 rfl ?_
   try simp only [Act.put, putZ, List.getElem_toArray, List.getElem_cons_zero, List.getElem_cons_succ]
   refine ltq 12 rfl ?_
   try simp only [Act.put, putZ, List.getElem_toArray, List.getElem_cons_zero, List.getElem_cons_succ]
   refine ltq 13 rfl ?_
   try simp only [Act.put, putZ, List.getElem_toArray, List.getElem_cons_zero, List.getElem_cons_succ]
   refine ltq 14 rfl ?_
   try simp only [Act.put, putZ, List.getElem_toArray, List.getElem_cons_zero, List.getElem_cons_succ]
   refine ltq 15 rfl ?_
   try simp only [Act.put, putZ, List.getElem_toArray, List.getElem_cons_zero, List.getElem_cons_succ]
   refine ltq 16 rfl ?_
   try simp only [Act.put, putZ, List.getElem_toArray, List.getElem_cons_zero, List.getElem_cons_succ]
   refine ltq 17 rfl ?_
   try simp only [Act.put, putZ, List.getElem_toArray, List.getElem_cons_zero, List.getElem_cons_succ]
   refine late_one (i := 18) rfl (by kernel_rfl) (fun K9 hK9 => ?_)
   go_simp
   refine hK9.out _ _ (fun _ => ?_) (fun hS9 => ?_)
   ·(try dsimp only); exact hS
   replace hS := hS9 (by decide)
   clear hK9 K9 hS9
   try simp only [Act.put, putZ, List.getElem_toArray, List.getElem_cons_zero, List.getElem_cons_succ]
   refine late_done (by kernel_rfl) ?_ _
   clear hw1 hw2 hw3 hw4
   go_wp2
   exact ⟨⟨j + 1 + 1, by omega, by first | rfl | (congr 1; omega), E.out, .inr (by rw [Nat.add_sub_cancel]; exact HOK.out), HB3.out⟩, by simp [intOf]; omega⟩
  ·have E := hid (show entriesOk l = false by rw [HR.out, HST.out, hok, Nat.add_sub_cancel, hyl, decide_eq_false hq]; simp)
   have hqe : (x.Num - 1 != y.Num) = true := by rw [bne_iff_ne]; omega
   clear hok hyl hq hyok
   refine late_start (fun W => W.cell? ⟨wr.heap.size, 0, none⟩ = some (.int .i64 x.Num) ∧ W.cell? ⟨wr.heap.size, 1, none⟩ = some (.string x.Text) ∧ W.cell? ⟨b1, o1 + j * 2, none⟩ = some (.int .i64 y.Num)) 99 (by kernel_rfl) ?_ (fun hS => ?_)
   ·exact ⟨z0, z1, zy⟩
   refine ltk 0 rfl ?_
   try simp only [Act.put, putZ, List.getElem_toArray, List.getElem_cons_zero, List.getElem_cons_succ]
   refine late_one (i := 1) rfl (by kernel_rfl) (fun K9 hK9 => ?_)
   go_simp
   refine (s_EntryOk x _).mono ?_
   rintro e w3 ⟨rfl, hb3⟩
   have HB3 := hid ((HB2.out.drew).trans (hb3.mono (show w.heap.size ≤ w2.heap.size from HB2.out.size)))
   rw [HOKx.out]
   go_wp2_with fail
   refine hK9.out _ _ (fun _ => ?_) (fun hS9 => ?_)
   ·(try dsimp only); exact ⟨keepcellF hb3 hS.1, keepcellF hb3 hS.2.1, keepcellF hb3 hS.2.2⟩
   replace hS := hS9 (by decide)
   clear hK9 K9 hS9
   try simp only [Act.put, putZ, List.getElem_toArray, List.getElem_cons_zero, List.getElem_cons_succ]
   clear hb3
   refine ltk 2 rfl ?_
   try simp only [Act.put, putZ, List.getElem_toArray, List.getElem_cons_zero, List.getElem_cons_succ]
   refine ltk 3 rfl ?_
   try simp only [Act.put, putZ, List.getElem_toArray, List.getElem_cons_zero, List.getElem_cons_succ]
   refine ltq 4 rfl ?_
   try simp only [Act.put, putZ, List.getElem_toArray, List.getElem_cons_zero, List.getElem_cons_succ]
   refine ltq 5 rfl ?_
   try simp only [Act.put, putZ, List.getElem_toArray, List.getElem_cons_zero, List.getElem_cons_succ]
   refine ltq 6 rfl ?_
   try simp only [Act.put, putZ, List.getElem_toArray, List.getElem_cons_zero, List.getElem_cons_succ]
   refine ltq 7 rfl ?_
   try simp only [Act.put, putZ, List.getElem_toArray, List.getElem_cons_zero, List.getElem_cons_succ]
   refine ltq 8 rfl ?_
   try simp only [Act.put, putZ, List.getElem_toArray, List.getElem_cons_zero, List.getElem_cons_succ]
   refine ltq 9 rfl ?_
   try simp only [Act.put, putZ, List.getElem_toArray, List.getElem_cons_zero, List.getElem_cons_succ]
   refine ltq 10 rfl ?_
   try simp only [Act.put, putZ, List.getElem_toArray, List.getElem_cons_zero, List.getElem_cons_succ]
   refine ltq 11 rfl ?_
   try simp only [Act.put, putZ, List.getElem_toArray, List.getElem_cons_zero, List.getElem_cons_succ]
   refine ltq 12 rfl ?_
   try simp only [Act.put, putZ, List.getElem_toArray, List.getElem_cons_zero, List.getElem_cons_succ]
   refine ltq 13 rfl ?_
   try simp only [Act.put, putZ, List.getElem_toArray, List.getElem_cons_zero, List.getElem_cons_succ]
   refine ltq 14 rfl ?_
   try simp only [Act.put, putZ, List.getElem_toArray, List.getElem_cons_zero, List.getElem_cons_succ]
   refine ltq 15 rfl ?_
   try simp only [Act.put, putZ, List.getElem_toArray, List.getElem_cons_zero, List.getElem_cons_succ]
   refine ltq 16 rfl ?_
   try simp only [Act.put, putZ, List.getElem_toArray, List.getElem_cons_zero, List.getElem_cons_succ]
   refine ltq 17 rfl ?_
   try simp only [Act.put, putZ, List.getElem_toArray, List.getElem_cons_zero, List.getElem_cons_succ]
   refine late_one (i := 18) rfl (by kernel_rfl) (fun K9 hK9 => ?_)
   go_simp
   refine hK9.out _ _ (fun _ => ?_) (fun hS9 => ?_)
   ·(try dsimp only); exact hS
   replace hS := hS9 (by decide)
   clear hK9 K9 hS9
   try simp only [Act.put, putZ, List.getElem_toArray, List.getElem_cons_zero, List.getElem_cons_succ]
   refine late_done (by kernel_rfl) ?_ _
   clear hw1 hw2 hw3 hw4
   go_wp2
   go_ret
   exact ⟨ret_bool (by rw [E.out]), HB3.out⟩
end Go.Proofs.YtdjcjilipgpnmaaGreat
end
section
set_option linter.unusedSimpArgs false
set_option linter.unusedVariables false
namespace Go.G6
open Go Go.RowKit Rep
theorem elems_entry {w : World} {ys : List EntryD} {bss : List (List Nat)} {cells : List Value} (h : Elems w bss cells ys) : ∀ b ∈ bss, b = [] := by
 intro b hb
 obtain ⟨i, hi, rfl⟩ := List.getElem_of_mem hb
 have hl := h.length.1
 obtain ⟨cs, bs, hp, he, _⟩ := h.get i (by omega)
 rw [List.getElem?_eq_getElem hi] at he
 rw [Option.some.inj he]
 exact (open_Entry hp).1
theorem Slc.srcE {w : World} {bs : List Nat} {a : Option Addr} {m c : Nat} {ys : List EntryD} (h : Slc w bs a m c ys) : Src w [] a m c ys := by
 obtain ⟨h1, h2, h3, ⟨rfl, rfl, h5⟩ | ⟨_, b, off, bss, cells, rfl, _, _, hE, hA⟩⟩ := h
 ·refine ⟨h1, ?_⟩
  cases a with
  | none => exact .inl ⟨rfl, h5 rfl, rfl, rfl⟩
  | some ad => exact .inr ⟨ad, [], [], rfl, rfl, rfl, by simp⟩
 ·refine ⟨h1, .inr ⟨_, bss, cells, rfl, hE, (flat_nil (elems_entry hE)).symm, fun j u hj => ?_⟩⟩
  rw [add_none]
  exact hA j u hj
end Go.G6
end
section
set_option linter.unusedSimpArgs false
set_option linter.unusedVariables false
namespace Go.G6
open Go Go.RowKit Rep
def lastN (n : Nat) (l : List EntryD) : List EntryD := l.drop (l.length - min n l.length)
theorem lastN_len (n : Nat) (l : List EntryD) : (lastN n l).length = min n l.length := by unfold lastN; rw [List.length_drop]; omega
end Go.G6
namespace Go.Proofs.YtdjcjilipgpnmaaGreat
open Go.RowKit Go.G6
set_option maxHeartbeats 3000000
set_option maxRecDepth 10000
theorem i_LastN {w : World} {bs : List Nat} {a : Option Addr} {len cap : Nat} {l : List EntryD} (h : Slc w bs a len cap l) (n : Nat) (hn1 : 1 ≤ n) (hn2 : n ≤ 1000) :
  Calls Tryz.prog 40 #[.slice a len cap, .int .i64 (n : Int)] w fun e w' => ∃ v bs', e = .returned v ∧ OwnL w.heap.size w' 53 v bs' (lastN n l) ∧ Below w.heap.size w w' := by
 obtain rfl := h.len_eq
 have m1 := h.max
 obtain ⟨i0, hi, hz0, hz1, hz2⟩ := info_parts info_EntryF
 have hn1i : (1 : Int) ≤ (n : Int) := by omega
 obtain ⟨N, hN⟩ : ∃ N : Nat, N = min n l.length := ⟨_, rfl⟩
 have hmx : max 0 (min (n : Int) (l.length : Int)) = (N : Int) := by omega
 have ek : ((l.length : Int) - (N : Int)).toNat = l.length - N := by omega
 obtain ⟨p6, bS, hcut, _, _, hSc⟩ := h.cut_l 36 Tryz.underlying36 hi hz1 ((l.length : Int) - (N : Int)) (by omega) (by omega)
 rw [ek] at hcut hSc
 have hL : lastN n l = l.drop (l.length - N) := by unfold lastN; rw [← hN]
 rw [← hL] at hSc
 have hLl : (lastN n l).length ≤ 1000 := by rw [lastN_len]; omega
 have HSc := hid hSc
 have hNl : (N : Int) ≤ (l.length : Int) := by omega
 clear ek hSc hL hN h
 go_enter Tryz.func40, Tryz.ntmps40
 go_upto_region 2 with fail
 go_wp2_with (at_builtin; refine wp_append rfl _ _ 36 rfl 53 i0 (.agg #[.int .i64 0, .string ByteArray.empty]) 24 Tryz.underlying36 hi hz0 hz1 hz2 rfl (lo := w.heap.size) (bs := []) (xs := ([] : List EntryD)) rfl (OwnL.nil _ _ _) (b2 := []) (ys := lastN n l) rfl HSc.out.srcE List.nodup_nil ?q1 ?q2 ?q3 ?q4 ?_)
 case q1 => simp
 case q2 => first | omega | (simp; omega)
 case q3 => first | omega | (simp; omega)
 case q4 => exact Nat.le_refl _
 intro p2 c2 w2 b3 hO2 hT hm
 have HB2 := hid (hT.below (B := w.heap.size) (Nat.le_refl _) (by simp))
 have HO2 := hid hO2
 clear hO2 hT hm
 go_wp2
 go_ret
 exact ⟨_, b3, rfl, HO2.out, HB2.out⟩
theorem s_LastN {w : World} {bs : List Nat} {a : Option Addr} {len cap : Nat} {l : List EntryD} (h : Slc w bs a len cap l) (n : Nat) (hn1 : 1 ≤ n) (hn2 : n ≤ 1000) :
  Calls Tryz.prog 38 #[.slice a len cap, .int .i64 (n : Int)] w fun e w' => ∃ v bs', e = .returned v ∧ OwnL w.heap.size w' 53 v bs' (lastN n l) ∧ Below w.heap.size w w' := by
 obtain rfl := h.len_eq
 have m1 := h.max
 obtain ⟨i0, hi, hz0, hz1, hz2⟩ := info_parts info_EntryF
 have hn1i : (1 : Int) ≤ (n : Int) := by omega
 obtain ⟨N, hN⟩ : ∃ N : Nat, N = min n l.length := ⟨_, rfl⟩
 have ek : ((l.length : Int) - (N : Int)).toNat = l.length - N := by omega
 obtain ⟨p6, bS, hcut, _, _, hSc⟩ := h.cut_l 36 Tryz.underlying36 hi hz1 ((l.length : Int) - (N : Int)) (by omega) (by omega)
 rw [ek] at hcut hSc
 have hL : lastN n l = l.drop (l.length - N) := by unfold lastN; rw [← hN]
 rw [← hL] at hSc
 have hLl : (lastN n l).length ≤ 1000 := by rw [lastN_len]; omega
 have HSc := hid hSc
 have HO0 := hid (ownL_empty (α := EntryD) (lo := w.heap.size) (w := w) (e := 53) rfl (Nat.le_refl _))
 clear ek hSc hL h
 by_cases h60 : (l.length : Int) < (n : Int)
 ·have hNe : N = l.length := by omega
  subst hNe
  clear hN
  have hs0 := HSc.out
  simp only [Int.sub_self, Nat.sub_self, Nat.sub_zero] at hcut hs0
  replace HSc := hid hs0
  clear hs0
  go_enter Tryz.func38, Tryz.ntmps38
  go_wp2_with (at_builtin; refine wp_append rfl _ _ 36 rfl 53 i0 (.agg #[.int .i64 0, .string ByteArray.empty]) 24 Tryz.underlying36 hi hz0 hz1 hz2 rfl (lo := w.heap.size) (xs := ([] : List EntryD)) rfl HO0.out (b2 := []) (ys := lastN n l) rfl (HSc.out.grow ((Below.refl _ _).alloc (Nat.le_refl _) _)).srcE List.nodup_nil ?q1 ?q2 ?q3 ?q4 ?_)
  try (case q1 => simp)
  case q2 => first | omega | (simp; omega)
  case q3 => first | omega | (simp; omega)
  try (case q4 => simp)
  intro p2 c2 w2 b3 hO2 hT hm
  have HB2 := hid (((Below.refl w.heap.size w).alloc (Nat.le_refl _) _).trans (hT.below (B := w.heap.size) (by simp) (by simp)))
  have HO2 := hid hO2
  clear hO2 hT hm
  go_wp2
  go_ret
  exact ⟨_, b3, rfl, HO2.out, HB2.out⟩
 ·have hNe : n = N := by omega
  subst hNe
  clear hN
  go_enter Tryz.func38, Tryz.ntmps38
  go_wp2_with (at_builtin; refine wp_append rfl _ _ 36 rfl 53 i0 (.agg #[.int .i64 0, .string ByteArray.empty]) 24 Tryz.underlying36 hi hz0 hz1 hz2 rfl (lo := w.heap.size) (xs := ([] : List EntryD)) rfl HO0.out (b2 := []) (ys := lastN n l) rfl (HSc.out.grow ((Below.refl _ _).alloc (Nat.le_refl _) _)).srcE List.nodup_nil ?q1 ?q2 ?q3 ?q4 ?_)
  try (case q1 => simp)
  case q2 => first | omega | (simp; omega)
  case q3 => first | omega | (simp; omega)
  try (case q4 => simp)
  intro p2 c2 w2 b3 hO2 hT hm
  have HB2 := hid (((Below.refl w.heap.size w).alloc (Nat.le_refl _) _).trans (hT.below (B := w.heap.size) (by simp) (by simp)))
  have HO2 := hid hO2
  clear hO2 hT hm
  go_wp2
  go_ret
  exact ⟨_, b3, rfl, HO2.out, HB2.out⟩
end Go.Proofs.YtdjcjilipgpnmaaGreat
end
section
set_option linter.unusedSimpArgs false
set_option linter.unusedVariables false
namespace Go.G6
open Go Go.RowKit Rep
def lowB (x : UInt8) : Bool := decide (97 ≤ x.toNat ∧ x.toNat ≤ 122)
def nameOk (s : ByteArray) : Bool := decide (1 ≤ s.size ∧ s.size ≤ 12) && s.data.toList.all lowB
theorem all_step (s : ByteArray) {k : Nat} (h : k < s.size) : (s.data.toList.drop k).all lowB = (lowB s[k] && (s.data.toList.drop (k + 1)).all lowB) := by
 rw [List.drop_eq_getElem_cons (by simpa using h), List.all_cons]; rfl
end Go.G6
namespace Go.Proofs.YtdjcjilipgpnmaaGreat
open Go.RowKit Go.G6
set_option maxHeartbeats 3000000
set_option maxRecDepth 10000
theorem s_NameOk (s : ByteArray) (hm : s.size ≤ maxLen) (w : World) :
  Calls Tryz.prog 88 #[.string s] w fun e w' => e = .returned (.bool (nameOk s)) ∧ w = w' := by
 have hm' : s.size ≤ 9223372036854775807 := hm
 clear hm
 by_cases h1 : 1 ≤ s.size
 rotate_left
 ·have hE := hid (show nameOk s = false by unfold nameOk; rw [decide_eq_false (by omega)]; rfl)
  have h1i : (s.size : Int) < 1 := by omega
  go_enter Tryz.func88, Tryz.ntmps88
  go_wp2
  go_ret
  exact ⟨ret_bool (by rw [hE.out]), rfl⟩
 have h1i : ¬ (s.size : Int) < 1 := by omega
 by_cases h2 : s.size ≤ 12
 rotate_left
 ·have hE := hid (show nameOk s = false by unfold nameOk; rw [decide_eq_false (by omega)]; rfl)
  have h2i : (12 : Int) < (s.size : Int) := by omega
  go_enter Tryz.func88, Tryz.ntmps88
  go_wp2
  go_ret
  exact ⟨ret_bool (by rw [hE.out]), rfl⟩
 have h2i : ¬ (12 : Int) < (s.size : Int) := by omega
 go_enter Tryz.func88, Tryz.ntmps88
 go_wp2_with fail
 go_loop [3] (fun i => ∃ k : Nat, k ≤ s.size ∧ i = .int .i64 (k : Int) ∧ Hid (nameOk s = (s.data.toList.drop k).all lowB)) (fun i => s.size - (intOf i).toNat)
 case atStart => exact ⟨0, Nat.zero_le _, rfl, hid (by unfold nameOk; rw [decide_eq_true ⟨h1, h2⟩]; rfl)⟩
 case round =>
  obtain ⟨k, hk, rfl, hr⟩ := hrel
  by_cases hlt : k < s.size
  rotate_left
  ·have hki : ¬ (k : Int) < (s.size : Int) := by omega
   have E := hid (show nameOk s = true by rw [hr.out, List.drop_eq_nil_of_le (by simp; exact Nat.le_of_not_lt hlt)]; rfl)
   go_wp2
   go_ret
   exact ⟨ret_bool (by rw [E.out]), rfl⟩
  have hki : (k : Int) < (s.size : Int) := by omega
  have hst := all_step s hlt
  cases hx : lowB s[k]
  ·have E := hid (show nameOk s = false by rw [hr.out, hst, hx]; rfl)
   have hx' : s[k].toNat < 97 ∨ 122 < s[k].toNat := by simp [lowB] at hx; omega
   clear hst hx
   by_cases hc : s[k].toNat < 97
   ·have hc1 : (s[k].toNat : Int) < 97 := by omega
    clear hx'
    go_wp2
    go_ret
    exact ⟨ret_bool (by rw [E.out]), rfl⟩
   ·have hc1 : ¬ (s[k].toNat : Int) < 97 := by omega
    have hc2 : (122 : Int) < (s[k].toNat : Int) := by omega
    clear hx'
    go_wp2
    go_ret
    exact ⟨ret_bool (by rw [E.out]), rfl⟩
  ·have E := hid (show nameOk s = (s.data.toList.drop (k + 1)).all lowB by rw [hr.out, hst, hx]; rfl)
   have hx' : 97 ≤ s[k].toNat ∧ s[k].toNat ≤ 122 := by simpa [lowB] using hx
   have hc1 : ¬ (s[k].toNat : Int) < 97 := by omega
   have hc2 : ¬ (122 : Int) < (s[k].toNat : Int) := by omega
   clear hst hx hx'
   go_wp2
   exact ⟨⟨k + 1, by omega, by go_num, E⟩, by simp [intOf]; omega⟩
theorem i_NameOk (s : ByteArray) (hm : s.size ≤ maxLen) (w : World) :
  Calls Tryz.prog 104 #[.string s] w fun e w' => e = .returned (.bool (nameOk s)) ∧ w = w' := by
 have hm' : s.size ≤ 9223372036854775807 := hm
 clear hm
 cases hq : inB (s.size : Int) 1 12
 ·have hE := hid (show nameOk s = false by unfold nameOk; simp [inB] at hq; rw [decide_eq_false (by omega)]; rfl)
  have Hq := hid hq; clear hq
  go_enter Tryz.func104, Tryz.ntmps104
  go_wp2_with (go_at_call 26; refine (i_in _ _ _ _).mono ?_; rintro e w' ⟨rfl, rfl⟩; rw [Hq.out])
  go_ret
  exact ⟨ret_bool (by rw [hE.out]), rfl⟩
 have h12 : 1 ≤ s.size ∧ s.size ≤ 12 := by simp [inB] at hq; omega
 have h1 := h12.1; have h2 := h12.2
 have Hq := hid hq; clear hq h12
 go_enter Tryz.func104, Tryz.ntmps104
 go_wp2_with (go_at_call 26; refine (i_in _ _ _ _).mono ?_; rintro e w' ⟨rfl, rfl⟩; rw [Hq.out])
 go_loop [3] (fun i => ∃ k : Nat, k ≤ s.size ∧ i = .int .i64 (k : Int) ∧ Hid (nameOk s = (s.data.toList.drop k).all lowB)) (fun i => s.size - (intOf i).toNat)
 case atStart => exact ⟨0, Nat.zero_le _, rfl, hid (by unfold nameOk; rw [decide_eq_true ⟨h1, h2⟩]; rfl)⟩
 case round =>
  obtain ⟨k, hk, rfl, hr⟩ := hrel
  by_cases hlt : k < s.size
  rotate_left
  ·have hki : ¬ (k : Int) < (s.size : Int) := by omega
   have E := hid (show nameOk s = true by rw [hr.out, List.drop_eq_nil_of_le (by simp; exact Nat.le_of_not_lt hlt)]; rfl)
   go_wp2
   go_ret
   exact ⟨ret_bool (by rw [E.out]), rfl⟩
  have hki : (k : Int) < (s.size : Int) := by omega
  have hst := all_step s hlt
  have hlb : inB (s[k].toNat : Int) 97 122 = lowB s[k] := by unfold inB lowB; rw [Bool.eq_iff_iff]; simp; omega
  cases hx : lowB s[k]
  ·have E := hid (show nameOk s = false by rw [hr.out, hst, hx]; rfl)
   rw [hx] at hlb
   have HL := hid hlb
   clear hst hx hlb
   go_wp2_with fail
   refine (i_isLower _ _).mono ?_
   rintro e w' ⟨rfl, rfl⟩
   have h8 : wrap64 (s[k].toNat : Int) = (s[k].toNat : Int) := IntWalk.wrap64_in _ (by have := s[k].toNat_lt; omega)
   rw [h8]
   rw [HL.out]
   clear h8
   go_wp2
   go_ret
   exact ⟨ret_bool (by rw [E.out]), rfl⟩
  ·have E := hid (show nameOk s = (s.data.toList.drop (k + 1)).all lowB by rw [hr.out, hst, hx]; rfl)
   rw [hx] at hlb
   have HL := hid hlb
   clear hst hx hlb
   go_wp2_with fail
   refine (i_isLower _ _).mono ?_
   rintro e w' ⟨rfl, rfl⟩
   have h8 : wrap64 (s[k].toNat : Int) = (s[k].toNat : Int) := IntWalk.wrap64_in _ (by have := s[k].toNat_lt; omega)
   rw [h8]
   rw [HL.out]
   clear h8
   go_wp2
   exact ⟨⟨k + 1, by omega, by go_num, E⟩, by simp [intOf]; omega⟩
end Go.Proofs.YtdjcjilipgpnmaaGreat
end
section
set_option linter.unusedSimpArgs false
set_option linter.unusedVariables false
namespace Go.G6
open Go Go.RowKit Rep
def dirFind : List LinkD → ByteArray → Int
 | [], _ => 0
 | x :: l, s => if x.Name.toList == s.toList then x.Id else dirFind l s
def hasI (l : List Int) (n : Int) : Bool := l.any fun x => decide (x = n)
end Go.G6
namespace Go.Proofs.YtdjcjilipgpnmaaGreat
open Go.RowKit Go.G6
set_option maxHeartbeats 3000000
set_option maxRecDepth 10000
theorem s_l03Find {w : World} {bs : List Nat} {a : Option Addr} {len cap : Nat} {l : List LinkD} (h : Slc w bs a len cap l) (s : ByteArray) :
  Calls Tryz.prog 94 #[.slice a len cap, .string s] w fun e w' => e = .returned (.int .i64 (dirFind l s)) ∧ Below w.heap.size w w' := by
 obtain rfl := h.len_eq
 have m1 := h.max
 have H := hid h; clear h
 go_enter Tryz.func94, Tryz.ntmps94
 go_wp2_with fail
 go_loopw [9] (fun i wr => ∃ k : Nat, k ≤ l.length ∧ i = .int .i64 (k : Int) ∧ Hid (dirFind l s = dirFind (l.drop k) s) ∧ Below w.heap.size w wr) (fun i _ => l.length - (intOf i).toNat)
 case atStart => exact ⟨0, Nat.zero_le _, rfl, hid rfl, Below.refl _ _⟩
 case round =>
  obtain ⟨k, hk, rfl, HR, hb⟩ := hrel
  have HB := hid hb
  by_cases hlt : k < l.length
  rotate_left
  ·have hki : ¬ (k : Int) < (l.length : Int) := by omega
   have E := hid (show dirFind l s = 0 by rw [HR.out, List.drop_eq_nil_of_le (Nat.le_of_not_lt hlt)]; rfl)
   clear hlt hk hb
   go_wp2
   go_ret
   exact ⟨ret_int (by rw [E.out]), HB.out⟩
  obtain ⟨b1, o1, cs1, _, rfl, _, hp1, _, hA1⟩ := (H.out.grow hb).elem k hlt
  obtain ⟨_, rfl, q1, q2⟩ := open_Link hp1
  have c0 : wr.cell? ⟨b1, o1 + k * 2, none⟩ = some _ := hA1 0 _ rfl
  have c1 : wr.cell? ⟨b1, o1 + k * 2 + 1, none⟩ = some _ := hA1 1 _ rfl
  have hst : dirFind (l.drop k) s = if l[k].Name.toList == s.toList then l[k].Id else dirFind (l.drop (k + 1)) s := by
   rw [List.drop_eq_getElem_cons hlt]; rfl
  have hki : (k : Int) < (l.length : Int) := by omega
  obtain ⟨x, hx⟩ : ∃ x, x = l[k] := ⟨_, rfl⟩
  rw [← hx] at hst c0 c1 q1 q2
  have HST := hid hst
  clear hst hp1 hA1 hx hb
  cases hq : (x.Name.toList == s.toList)
  ·have E := hid (show dirFind l s = dirFind (l.drop (k + 1)) s by rw [HR.out, HST.out, hq]; rfl)
   go_wp2
   exact ⟨⟨k + 1, by omega, by go_num, E, HB.out.alloc HB.out.size _⟩, by simp [intOf]; omega⟩
  ·have E := hid (show dirFind l s = x.Id by rw [HR.out, HST.out, hq]; rfl)
   go_wp2
   go_ret
   exact ⟨ret_int (by rw [E.out]), HB.out.alloc HB.out.size _⟩
theorem s_l03Most (a b : Int) (w : World) :
  Calls Tryz.prog 100 #[.int .i64 a, .int .i64 b] w fun e w' => e = .returned (.int .i64 (max a b)) ∧ w = w' := by
 by_cases h : b < a
 ·have hE := hid (show a = max a b by omega)
  go_enter Tryz.func100, Tryz.ntmps100
  go_wp2
  go_ret
  exact ⟨ret_int hE.out, rfl⟩
 ·have hE := hid (show b = max a b by omega)
  go_enter Tryz.func100, Tryz.ntmps100
  go_wp2
  go_ret
  exact ⟨ret_int hE.out, rfl⟩
theorem s_l03HasInt {w : World} {bs : List Nat} {a : Option Addr} {len cap : Nat} {l : List Int} (h : Slc w bs a len cap l) (n : Int) :
  Calls Tryz.prog 90 #[.slice a len cap, .int .i64 n] w fun e w' => e = .returned (.bool (hasI l n)) ∧ w = w' := by
 obtain rfl := h.len_eq
 have m1 := h.max
 have H := hid h
 go_enter Tryz.func90, Tryz.ntmps90
 go_wp2_with fail
 go_loop [9] (fun i => ∃ k : Nat, k ≤ l.length ∧ i = .int .i64 (k : Int) ∧ Hid (hasI l n = hasI (l.drop k) n)) (fun i => l.length - (intOf i).toNat)
 case atStart => exact ⟨0, Nat.zero_le _, rfl, hid rfl⟩
 case round =>
  obtain ⟨k, hk, rfl, HR⟩ := hrel
  by_cases hlt : k < l.length
  rotate_left
  ·have hki : ¬ (k : Int) < (l.length : Int) := by omega
   have E := hid (show hasI l n = false by rw [HR.out, List.drop_eq_nil_of_le (Nat.le_of_not_lt hlt)]; rfl)
   clear hlt hk h
   go_wp2
   go_ret
   exact ⟨ret_bool (by rw [E.out]), rfl⟩
  obtain ⟨b1, o1, rfl, _, hck, _⟩ := h.at k hlt
  obtain ⟨x, hx⟩ : ∃ x, x = l[k] := ⟨_, rfl⟩
  rw [← hx] at hck
  have c0 : w.cell? ⟨b1, o1 + k, none⟩ = some (.int .i64 x) := hck
  have HST := hid (show hasI (l.drop k) n = (decide (x = n) || hasI (l.drop (k + 1)) n) by rw [List.drop_eq_getElem_cons hlt, hx]; rfl)
  have hki : (k : Int) < (l.length : Int) := by omega
  clear hck hx h
  by_cases hq : x = n
  ·have E := hid (show hasI l n = true by rw [HR.out, HST.out, hq]; simp)
   go_wp2
   go_ret
   exact ⟨ret_bool (by rw [E.out]), rfl⟩
  ·have E := hid (show hasI l n = hasI (l.drop (k + 1)) n by rw [HR.out, HST.out, decide_eq_false hq]; rfl)
   go_wp2
   exact ⟨⟨k + 1, by omega, by go_num, E⟩, by simp [intOf]; omega⟩
end Go.Proofs.YtdjcjilipgpnmaaGreat
end
