/- The directory, as the reference keeps it: its changes. -/
import Derived.Test.YtdjcjilipgpnmaaGreatKDirL
set_option linter.unusedSimpArgs false
set_option linter.unusedVariables false
namespace Go.G6
open Go Go.RowKit Rep
def dirTurn (l : List LinkD) (t : TurnD) : List LinkD :=
 if t.Kind = 1 then dirWith l t.Name t.Id
 else if t.Kind = 5 then dirWith (dirLess (dirLess l t.Name) t.To) t.To (dirFind l t.Name) else dirLess l t.Name
def isE (s : ByteArray) : Bool := s.toList == []
def turnFit (l : List LinkD) (t : TurnD) : Bool :=
 nameOk t.Name && (if t.Kind = 1 then isE t.To && decide (0 < t.Id) && !decide (0 < dirFind l t.Name)
  else if t.Kind = 5 then nameOk t.To && !(t.To.toList == t.Name.toList) && decide (t.Id = 0) && decide (0 < dirFind l t.Name)
  else if t.Kind = 6 then isE t.To && decide (t.Id = 0) && decide (0 < dirFind l t.Name) else false)
theorem dirTurn_len (l : List LinkD) (t : TurnD) : (dirTurn l t).length ≤ l.length + 1 := by
 unfold dirTurn
 have h1 := dirLess_len l t.Name
 have h2 := dirLess_len (dirLess l t.Name) t.To
 split
 ·rw [dirWith_len]; omega
 ·split
  ·rw [dirWith_len]; omega
  ·omega
theorem dirFind_i64 {w : World} {bs : List Nat} {a : Option Addr} {len cap : Nat} {l : List LinkD} (h : Slc w bs a len cap l) (s : ByteArray) : I64 (dirFind l s) := by
 have hall : ∀ x ∈ l, I64 x.Id := by
  intro x hx
  obtain ⟨k, hk, rfl⟩ := List.getElem_of_mem hx
  obtain ⟨b1, o1, cs1, _, rfl, _, hp1, _, hA1⟩ := h.elem k hk
  exact (open_Link hp1).2.2.2
 clear h
 induction l with
 | nil => simp [dirFind, I64]
 | cons x l ih =>
  unfold dirFind
  split
  ·exact hall x (by simp)
  ·exact ih fun y hy => hall y (by simp [hy])
theorem OwnL.slcL {α : Type} [Rep α] {lo : Nat} {w : World} {e : TypeId} {a : Option Addr} {len cap : Nat} {bs : List Nat} {xs : List α} (h : OwnL lo w e (.slice a len cap) bs xs) : ∃ bs', (∀ b ∈ bs', b ∈ bs) ∧ Slc w bs' a len cap xs := by
 obtain ⟨a', cap', bs', e1, h1, h2⟩ := h.slc
 obtain ⟨rfl, rfl, rfl⟩ := Value.slice.inj e1
 exact ⟨bs', h1, h2⟩
end Go.G6
namespace Go.Proofs.YtdjcjilipgpnmaaGreat
open Go.RowKit Go.G6
set_option maxHeartbeats 3000000
set_option maxRecDepth 10000
theorem s_l03Turn {w : World} {bs : List Nat} {a : Option Addr} {len cap : Nat} {l : List LinkD} (h : Slc w bs a len cap l) (hn : l.length ≤ 1000000) {b2 : List Nat} {cs : List Value} {t : TurnD} (ht : Rep.pt w b2 cs t) :
  Calls Tryz.prog 92 #[.slice a len cap, .agg cs.toArray] w (RetL w 127 (dirTurn l t)) := by
 obtain ⟨kd, nm, tt, id⟩ := t
 obtain ⟨rfl, rfl, q1, q2, q3, q4⟩ := open_Turn ht
 simp only at q1 q2 q3 q4 ⊢
 obtain rfl := h.len_eq
 have m1 := h.max
 have H := hid h; clear h ht
 have HN := hid hn
 have Q2 := hid q2; have Q3 := hid q3; have Q4 := hid q4
 have HI := hid (dirFind_i64 H.out nm)
 have hb0 := hid ((Below.refl w.heap.size w).alloc (Nat.le_refl _) (.cells #[.int .i64 kd, .string nm, .string tt, .int .i64 id] 106))
 by_cases k1 : kd = 1
 ·subst k1
  have E := hid (show dirTurn l ⟨1, nm, tt, id⟩ = dirWith l nm id by unfold dirTurn; rw [if_pos rfl])
  go_enter Tryz.func92, Tryz.ntmps92
  go_wp2_with fail
  refine (s_l03With (H.out.grow hb0.out) HN.out nm Q2.out id Q4.out).mono ?_
  rintro e w1 ⟨v, b', rfl, hO, hb⟩
  have HO := hid (hO.mono (show w.heap.size ≤ _ by simp)); have HB := hid (below_call hb0.out hb); clear hO hb
  go_wp2
  go_ret
  exact ⟨_, b', rfl, by rw [E.out]; exact HO.out, HB.out⟩
 by_cases k5 : kd = 5
 ·subst k5
  have E := hid (show dirTurn l ⟨5, nm, tt, id⟩ = dirWith (dirLess (dirLess l nm) tt) tt (dirFind l nm) by unfold dirTurn; rw [if_neg (show ¬ (5 : Int) = 1 by decide), if_pos rfl])
  go_enter Tryz.func92, Tryz.ntmps92
  go_wp2_with fail
  refine (s_l03Find (H.out.grow hb0.out) nm).mono ?_
  rintro e w1 ⟨rfl, hb⟩
  have HB1 := hid (below_call hb0.out hb)
  have T1 := bcell hb; clear hb
  have d1 : w1.cell? ⟨w.heap.size, 1, none⟩ = some (.string nm) := (T1.1 _ 1 (by simp)).trans (by simp)
  have d0 : w1.cell? ⟨w.heap.size, 0, none⟩ = some (.int .i64 5) := (T1.1 _ 0 (by simp)).trans (by simp)
  have d2 : w1.cell? ⟨w.heap.size, 2, none⟩ = some (.string tt) := (T1.1 _ 2 (by simp)).trans (by simp)
  have D0 := hid d0; have D2 := hid d2
  clear T1 d0 d2
  go_wp2_with fail
  refine (s_l03Less (H.out.grow HB1.out) HN.out nm).mono ?_
  rintro e w2 ⟨v2, b2, rfl, hO2, hb2⟩
  have HB2 := hid (below_call HB1.out hb2)
  obtain ⟨p2, c2, rfl⟩ := hO2.slice
  obtain ⟨b3, _, s2⟩ := hO2.slcL
  have LL := hid (dirLess_len l nm)
  have lt1 : w.heap.size < w1.heap.size := by have := World.block_lt_of_cell? _ _ d1; simpa using this
  have T2 := bcell hb2
  have e0 : w2.cell? ⟨w.heap.size, 0, none⟩ = some (.int .i64 5) := (T2.1 _ 0 lt1).trans D0.out
  have e2 : w2.cell? ⟨w.heap.size, 2, none⟩ = some (.string tt) := (T2.1 _ 2 lt1).trans D2.out
  obtain ⟨n2, hn2⟩ : ∃ n, n = (dirLess l nm).length := ⟨_, rfl⟩
  have HN2 := hid hn2
  rw [← hn2] at s2
  rw [← hn2]
  have S2 := hid s2
  clear hO2 hb2 s2 T2 d1 lt1 hn2
  go_wp2_with fail
  refine late_start (fun W => W.cell? ⟨w.heap.size, 2, none⟩ = some (.string tt)) 99 (by kernel_rfl) ?_ (fun hS => ?_)
  ·exact e2
  refine ltk 0 rfl ?_
  try simp only [Act.put, putZ, List.getElem_toArray, List.getElem_cons_zero, List.getElem_cons_succ]
  refine ltk 1 rfl ?_
  try simp only [Act.put, putZ, List.getElem_toArray, List.getElem_cons_zero, List.getElem_cons_succ]
  refine ltk 2 rfl ?_
  try simp only [Act.put, putZ, List.getElem_toArray, List.getElem_cons_zero, List.getElem_cons_succ]
  refine ltk 4 rfl ?_
  try simp only [Act.put, putZ, List.getElem_toArray, List.getElem_cons_zero, List.getElem_cons_succ]
  refine ltk 5 rfl ?_
  try simp only [Act.put, putZ, List.getElem_toArray, List.getElem_cons_zero, List.getElem_cons_succ]
  refine ltk 6 rfl ?_
  try simp only [Act.put, putZ, List.getElem_toArray, List.getElem_cons_zero, List.getElem_cons_succ]
  refine late_one (i := 3) rfl (by kernel_rfl) (fun K9 hK9 => ?_)
  go_simp
  refine (s_l03Less (S2.out.grow ((Below.refl _ _).drew)) (by have := LL.out; have := HN.out; omega) tt).mono ?_
  rintro e w3 ⟨v3, b4, rfl, hO3, hb3⟩
  have HB3 := hid (below_call HB2.out (show Below w2.heap.size w2 w3 from ((Below.refl _ _).drew).trans hb3))
  obtain ⟨p3, c3, rfl⟩ := hO3.slice
  obtain ⟨b5, _, s3⟩ := hO3.slcL
  have LL3 := hid (dirLess_len (dirLess l nm) tt)
  obtain ⟨n3, hn3⟩ : ∃ n, n = (dirLess (dirLess l nm) tt).length := ⟨_, rfl⟩
  rw [← hn3] at s3
  rw [← hn3]
  have S3 := hid s3; have HT3 := hid (Tch.of_below (bs := []) hb3)
  clear hO3 hb3 s3 hn3
  go_wp2_with fail
  refine hK9.out _ _ (fun _ => ?_) (fun hS9 => ?_)
  ·(try dsimp only); exact cellc HT3.out hS (by simp)
  replace hS := hS9 (by decide)
  clear hK9 K9 hS9
  try simp only [Act.put, putZ, List.getElem_toArray, List.getElem_cons_zero, List.getElem_cons_succ]
  refine late_one (i := 7) rfl (by kernel_rfl) (fun K9 hK9 => ?_)
  go_simp
  refine (s_l03With S3.out (by have := LL3.out; have := LL.out; have := HN.out; omega) tt Q3.out _ HI.out).mono ?_
  rintro e w4 ⟨v4, b6, rfl, hO4, hb4⟩
  have HB4 := hid (below_call HB3.out hb4)
  obtain ⟨p4, c4, rfl⟩ := hO4.slice
  obtain ⟨n4, hn4⟩ : ∃ n, n = (dirWith (dirLess (dirLess l nm) tt) tt (dirFind l nm)).length := ⟨_, rfl⟩
  rw [← hn4]
  have HO4 := hid (hO4.mono HB3.out.size)
  have HN4 := hid hn4
  have HT4 := hid (Tch.of_below (bs := []) hb4)
  clear hO4 hb4 hn4
  go_wp2_with fail
  refine hK9.out _ _ (fun _ => ?_) (fun hS9 => ?_)
  ·(try dsimp only); exact cellc HT4.out hS (by simp)
  replace hS := hS9 (by decide)
  clear hK9 K9 hS9
  try simp only [Act.put, putZ, List.getElem_toArray, List.getElem_cons_zero, List.getElem_cons_succ]
  refine ltk 8 rfl ?_
  try simp only [Act.put, putZ, List.getElem_toArray, List.getElem_cons_zero, List.getElem_cons_succ]
  refine late_done (by kernel_rfl) ?_ _
  go_wp2
  go_ret
  exact ⟨_, b6, rfl, by rw [E.out, HN4.out]; exact HO4.out, HB4.out⟩
 ·have E := hid (show dirTurn l ⟨kd, nm, tt, id⟩ = dirLess l nm by unfold dirTurn; rw [if_neg k1, if_neg k5])
  go_enter Tryz.func92, Tryz.ntmps92
  go_wp2_with fail
  refine (s_l03Find (H.out.grow hb0.out) nm).mono ?_
  rintro e w1 ⟨rfl, hb⟩
  have HB1 := hid (below_call hb0.out hb)
  have T1 := bcell hb; clear hb
  have d1 : w1.cell? ⟨w.heap.size, 1, none⟩ = some (.string nm) := (T1.1 _ 1 (by simp)).trans (by simp)
  have d0 : w1.cell? ⟨w.heap.size, 0, none⟩ = some (.int .i64 kd) := (T1.1 _ 0 (by simp)).trans (by simp)
  have D0 := hid d0
  clear T1 d0
  go_wp2_with fail
  refine (s_l03Less (H.out.grow HB1.out) HN.out nm).mono ?_
  rintro e w2 ⟨v2, b2, rfl, hO2, hb2⟩
  have HB2 := hid (below_call HB1.out hb2)
  obtain ⟨p2, c2, rfl⟩ := hO2.slice
  have lt1 : w.heap.size < w1.heap.size := by have := World.block_lt_of_cell? _ _ d1; simpa using this
  have T2 := bcell hb2
  have e0 : w2.cell? ⟨w.heap.size, 0, none⟩ = some (.int .i64 kd) := (T2.1 _ 0 lt1).trans D0.out
  obtain ⟨n2, hn2⟩ : ∃ n, n = (dirLess l nm).length := ⟨_, rfl⟩
  have HN2 := hid hn2
  rw [← hn2]
  have HO2 := hid (hO2.mono HB1.out.size)
  clear hO2 hb2 T2 d1 lt1 hn2
  go_wp2
  go_ret
  exact ⟨_, b2, rfl, by rw [E.out, HN2.out]; exact HO2.out, HB2.out⟩
theorem s_l03TurnOk {w : World} {bs : List Nat} {a : Option Addr} {len cap : Nat} {l : List LinkD} (h : Slc w bs a len cap l) {b2 : List Nat} {cs : List Value} {t : TurnD} (ht : Rep.pt w b2 cs t) :
  Calls Tryz.prog 91 #[.slice a len cap, .agg cs.toArray] w fun e w' => e = .returned (.bool (turnFit l t)) ∧ Below w.heap.size w w' := by
 obtain ⟨kd, nm, tt, id⟩ := t
 obtain ⟨rfl, rfl, q1, q2, q3, q4⟩ := open_Turn ht
 simp only at q1 q2 q3 q4 ⊢
 obtain rfl := h.len_eq
 have m1 := h.max
 have H := hid h; clear h ht
 have Q2 := hid q2; have Q3 := hid q3; have Q4 := hid q4
 have hb0 := hid ((Below.refl w.heap.size w).alloc (Nat.le_refl _) (.cells #[.int .i64 kd, .string nm, .string tt, .int .i64 id] 106))
 cases hnm : nameOk nm
 ·have E := hid (show turnFit l ⟨kd, nm, tt, id⟩ = false by unfold turnFit; rw [hnm]; rfl)
  have HNM := hid hnm; clear hnm
  go_enter Tryz.func91, Tryz.ntmps91
  go_wp2_with fail
  refine (s_NameOk nm Q2.out _).mono ?_
  rintro e w1 ⟨rfl, rfl⟩
  rw [HNM.out]
  go_wp2
  go_ret
  exact ⟨ret_bool (by rw [E.out]), hb0.out⟩
 have HNM := hid hnm; clear hnm
 go_enter Tryz.func91, Tryz.ntmps91
 go_wp2_with fail
 refine (s_NameOk nm Q2.out _).mono ?_
 rintro e w1 ⟨rfl, rfl⟩
 rw [HNM.out]
 go_wp2_with fail
 refine (s_l03Find (H.out.grow hb0.out) nm).mono ?_
 rintro e w2 ⟨rfl, hb⟩
 have HB2 := hid (below_call hb0.out hb)
 have T2 := bcell hb; clear hb
 have d0 : w2.cell? ⟨w.heap.size, 0, none⟩ = some (.int .i64 kd) := (T2.1 _ 0 (by simp)).trans (by simp)
 have d1 : w2.cell? ⟨w.heap.size, 1, none⟩ = some (.string nm) := (T2.1 _ 1 (by simp)).trans (by simp)
 have d2 : w2.cell? ⟨w.heap.size, 2, none⟩ = some (.string tt) := (T2.1 _ 2 (by simp)).trans (by simp)
 have d3 : w2.cell? ⟨w.heap.size, 3, none⟩ = some (.int .i64 id) := (T2.1 _ 3 (by simp)).trans (by simp)
 clear T2
 obtain ⟨fd, hfd⟩ : ∃ fd, fd = dirFind l nm := ⟨_, rfl⟩
 rw [← hfd]
 have HFD := hid hfd; clear hfd
 by_cases k1 : kd = 1
 ·subst k1
  have HT := hid (show turnFit l ⟨1, nm, tt, id⟩ = (isE tt && decide (0 < id) && !decide (0 < fd)) by unfold turnFit; simp only [HNM.out, HFD.out]; rfl)
  go_wp2
  all_goals (go_ret; exact ⟨ret_bool (by rw [HT.out]; first | (simp_all [isE]; done) | (simp_all [isE]; omega)), HB2.out⟩)
 by_cases k5 : kd = 5
 ·subst k5
  have HT := hid (show turnFit l ⟨5, nm, tt, id⟩ = (nameOk tt && !(tt.toList == nm.toList) && decide (id = 0) && decide (0 < fd)) by unfold turnFit; simp only [HNM.out, HFD.out]; rfl)
  go_wp2_with fail
  refine (s_NameOk tt Q3.out _).mono ?_
  rintro e w3 ⟨rfl, rfl⟩
  cases htt : nameOk tt
  ·go_wp2
   all_goals (go_ret; exact ⟨ret_bool (by rw [HT.out]; first | (simp_all [isE]; done) | (simp_all [isE]; omega)), HB2.out⟩)
  ·go_wp2
   all_goals (go_ret; exact ⟨ret_bool (by rw [HT.out]; first | (simp_all [isE]; done) | (simp_all [isE]; omega)), HB2.out⟩)
 by_cases k6 : kd = 6
 ·subst k6
  have HT := hid (show turnFit l ⟨6, nm, tt, id⟩ = (isE tt && decide (id = 0) && decide (0 < fd)) by unfold turnFit; simp only [HNM.out, HFD.out]; rfl)
  go_wp2
  all_goals (go_ret; exact ⟨ret_bool (by rw [HT.out]; first | (simp_all [isE]; done) | (simp_all [isE]; omega)), HB2.out⟩)
 ·have HT := hid (show turnFit l ⟨kd, nm, tt, id⟩ = false by unfold turnFit; simp only [HNM.out, HFD.out]; rw [if_neg k1, if_neg k5, if_neg k6]; rfl)
  go_wp2
  go_ret
  exact ⟨ret_bool (by rw [HT.out]), HB2.out⟩
end Go.Proofs.YtdjcjilipgpnmaaGreat
