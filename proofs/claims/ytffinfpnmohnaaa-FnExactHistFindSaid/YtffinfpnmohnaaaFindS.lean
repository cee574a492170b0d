/- Finding a line of the history: the reference's (printed by genfindh.py). -/
import Derived.Test.YtffinfpnmohnaaaFindL
import Derived.Test.YtffinfpnmohnaaaApp
set_option linter.unusedSimpArgs false
set_option linter.unusedVariables false
namespace Go.Proofs.Ytffinfpnmohnaaa
open Go.RowKit Go.G6
set_option maxHeartbeats 3000000
set_option maxRecDepth 10000
theorem s_l16In (t s : ByteArray) (ht : t.size ≤ 1000) (hs : s.size ≤ 1048576) (st : Bool) (w : World) :
    Calls Try.prog 116 #[.string t, .string s, .bool st] w fun e w' => e = .returned (.bool (hfHit t.data.toList s.data.toList st)) ∧ w = w' := by
  have H0 := hid (hfIn_hit t.data.toList s.data.toList st)
  have hTl : t.data.toList.length = t.size := by simp
  have hSl : s.data.toList.length = s.size := by simp
  have HT := hid hTl; have HS := hid hSl; clear hTl hSl
  go_enter Try.func116, Try.ntmps116
  go_wp2_with fail
  go_loop [7] (fun i => ∃ k : Nat, k ≤ t.size + 1 ∧ i = .int .i64 (k : Int) ∧ hfHit t.data.toList s.data.toList st = hfIn t.data.toList s.data.toList st (t.size + 1 - s.size - k) k) (fun i => t.size + 2 - (intOf i).toNat)
  case atStart => exact ⟨0, by omega, rfl, by rw [← H0.out, HT.out, HS.out]; rfl⟩
  case round =>
    obtain ⟨k, hk, rfl, hr⟩ := hrel
    have HR := hid hr
    clear hr
    have HW := hid (show wrap64 ((k : Int) + (s.size : Int)) = (k : Int) + (s.size : Int) from IntWalk.wrap64_in _ (by omega))
    by_cases hc : k + s.size ≤ t.size
    rotate_left
    · have E := hid (show hfHit t.data.toList s.data.toList st = false by rw [HR.out, show t.size + 1 - s.size - k = 0 by omega]; rfl)
      have hci : ¬ (k : Int) + (s.size : Int) ≤ (t.size : Int) := by omega
      have hw := HW.out
      clear hc
      go_wp2
      go_ret
      exact ⟨ret_bool (by rw [E.out]), rfl⟩
    have hst : hfIn t.data.toList s.data.toList st (t.size + 1 - s.size - k) k = if hfOcc t.data.toList s.data.toList k then true else if st then false else hfIn t.data.toList s.data.toList st (t.size + 1 - s.size - (k + 1)) (k + 1) := by
      rw [show t.size + 1 - s.size - k = (t.size + 1 - s.size - (k + 1)) + 1 by omega]; rfl
    have HST := hid hst
    clear hst
    have hci : (k : Int) + (s.size : Int) ≤ (t.size : Int) := by omega
    have hkn : (0 : Int) ≤ (k : Int) + (s.size : Int) := by omega
    have hkt : (k : Int) ≤ (k : Int) + (s.size : Int) := by omega
    have hto : ((k : Int) + (s.size : Int)).toNat = k + s.size := by omega
    have hw := HW.out
    go_wp2_with fail
    · rename_i hoc _
      rw [hfOcc_str] at hoc
      go_ret
      exact ⟨ret_bool (by rw [HR.out, HST.out, if_pos hoc]), rfl⟩
    · rename_i hoc hsb _
      rw [hfOcc_str] at hoc
      subst hsb
      go_ret
      exact ⟨ret_bool (by rw [HR.out, HST.out, hoc]; rfl), rfl⟩
    · rename_i hoc hsb
      rw [hfOcc_str] at hoc
      subst hsb
      exact ⟨⟨k + 1, by omega, by simp, by rw [HR.out, HST.out, hoc]; rfl⟩, by simp [intOf]; omega⟩
theorem s_HistFind {w : World} {bs : List Nat} {cs : List Value} {d : HistD} (h : Rep.pt w bs cs d) (s : ByteArray) (hs : s.size ≤ 1048576) (fr : Int) (hfr : I64 fr) (st : Int) (hst : I64 st) (start : Bool) :
    Calls Try.prog 51 #[.agg cs.toArray, .string s, .int .i64 fr, .int .i64 st, .bool start] w fun e w' => e = .returned (.int .i64 (histFind d s.data.toList fr st start)) ∧ Below w.heap.size w w' := by
  have H := hid h
  obtain ⟨a1, l1, k1, rfl, h0, h1⟩ := open_Hist h
  obtain rfl := h1.len_eq
  have H1 := hid h1
  have hI := hid (show ∀ o, Below w.heap.size w (w.alloc o) from fun o => (Below.refl _ _).alloc (Nat.le_refl _) o)
  unfold I64 at hfr
  clear h h0 h1 hst
  cases hk : histOk d
  · have E := hid (histFind_bad (s := s.data.toList) (fr := fr) (st := st) (start := start) hk)
    have Hk := hid hk; clear hk
    go_enter Try.func51, Try.ntmps51
    go_wp2_with fail
    refine (s_HistOk (grow H.out (hI.out _))).mono ?_
    rintro e w1 ⟨rfl, hb⟩
    have B0 : Bx w1 (w.heap.size) _ := Bx.below (b := w.heap.size) hb (by first | omega | (simp; done) | (simp; omega)) (by repeat (first  | (apply Bx.new; (focus (first | (simp; done) | (simp; omega) | omega))) | (apply Bx.alloc; rotate_left; (focus (first | (simp; done) | (simp; omega) | omega))) | (apply Bx.setOther; rotate_left; (focus (first | (simp; done) | (simp; omega) | omega))) | apply Bx.setSame))
    have B0o := B0.out
    have B0f := B0.fr
    have HB := hid (below_call (hI.out _) hb)
    clear hb B0
    rw [Hk.out]
    go_wp2
    go_ret
    exact ⟨ret_int (by rw [E.out]), HB.out⟩
  have hb1 : 1 ≤ d.First ∧ d.First ≤ 1000000000 ∧ d.Lines.length ≤ 60 := by simp [histOk] at hk; omega
  have hLs : ∀ k (q : k < d.Lines.length), d.Lines[k].size ≤ 1000 := fun k q => by
    have a : d.Lines.all (fun s => decide (1 ≤ s.size ∧ s.size ≤ 1000)) = true := by unfold histOk at hk; simp only [Bool.and_eq_true] at hk; first | exact hk.2 | exact hk.1 | exact hk.2.2 | exact hk.2.1 | exact hk.1.1 | exact hk.1.2
    have b := List.all_eq_true.1 a _ (List.getElem_mem q)
    simp only [decide_eq_true_eq] at b; exact b.2
  have HLs := hid hLs; clear hLs
  have Hk := hid hk; clear hk
  by_cases hst : st = 1 ∨ st = -1
  rotate_left
  · have E := hid (histFind_step (d := d) (s := s.data.toList) (fr := fr) (start := start) hst)
    have n1 : (st != 1) = true := by rw [bne_iff_ne]; exact fun q => hst (.inl q)
    have n2 : (st != -1) = true := by rw [bne_iff_ne]; exact fun q => hst (.inr q)
    clear hst
    go_enter Try.func51, Try.ntmps51
    go_wp2_with fail
    refine (s_HistOk (grow H.out (hI.out _))).mono ?_
    rintro e w1 ⟨rfl, hb⟩
    have B0 : Bx w1 (w.heap.size) _ := Bx.below (b := w.heap.size) hb (by first | omega | (simp; done) | (simp; omega)) (by repeat (first  | (apply Bx.new; (focus (first | (simp; done) | (simp; omega) | omega))) | (apply Bx.alloc; rotate_left; (focus (first | (simp; done) | (simp; omega) | omega))) | (apply Bx.setOther; rotate_left; (focus (first | (simp; done) | (simp; omega) | omega))) | apply Bx.setSame))
    have B0o := B0.out
    have B0f := B0.fr
    have HB := hid (below_call (hI.out _) hb)
    clear hb B0
    rw [Hk.out]
    go_wp2
    go_ret
    exact ⟨ret_int (by rw [E.out]), HB.out⟩
  obtain ⟨F, hF⟩ : ∃ F, F = d.First := ⟨_, rfl⟩
  rw [← hF] at hb1
  have HFF := hid hF; clear hF
  rcases hst with hst | hst
  · subst hst
    have H0 := hid (show histFind d s.data.toList fr (1) start = hfS (hfQ d s.data.toList fr (1) start) true F d.Lines.length 0 0 by rw [histFind_go Hk.out (by first | exact .inl rfl | exact .inr rfl), HFF.out]; rfl)
    go_enter Try.func51, Try.ntmps51
    go_wp2_with fail
    refine (s_HistOk (grow H.out (hI.out _))).mono ?_
    rintro e w1 ⟨rfl, hb⟩
    have B0 : Bx w1 (w.heap.size) _ := Bx.below (b := w.heap.size) hb (by first | omega | (simp; done) | (simp; omega)) (by repeat (first  | (apply Bx.new; (focus (first | (simp; done) | (simp; omega) | omega))) | (apply Bx.alloc; rotate_left; (focus (first | (simp; done) | (simp; omega) | omega))) | (apply Bx.setOther; rotate_left; (focus (first | (simp; done) | (simp; omega) | omega))) | apply Bx.setSame))
    have B0o := B0.out
    have B0f := B0.fr
    have HB := hid (below_call (hI.out _) hb)
    clear hb B0
    rw [Hk.out]
    rw [← HFF.out] at B0o
    have H11 := hid (H1.out.grow HB.out)
    go_wp2_with fail
    go_loop [11, 29] (fun bv i => ∃ (k : Nat) (best : Int), k ≤ d.Lines.length ∧ i = .int .i64 (k : Int) ∧ bv = .int .i64 best ∧ histFind d s.data.toList fr (1) start = hfS (hfQ d s.data.toList fr (1) start) true F (d.Lines.length - k) k best) (fun _ i => d.Lines.length - (intOf i).toNat)
    case atStart => exact ⟨0, 0, Nat.zero_le _, rfl, rfl, H0.out⟩
    case round =>
      obtain ⟨k, best, hk, rfl, rfl, hr⟩ := hrel
      have HR := hid hr
      clear hr
      by_cases hlt : k < d.Lines.length
      rotate_left
      · have hki : ¬ (k : Int) < (d.Lines.length : Int) := by omega
        have E := hid (show histFind d s.data.toList fr (1) start = best by rw [HR.out, show d.Lines.length - k = 0 by omega]; rfl)
        clear hlt hk
        go_wp2
        go_ret
        exact ⟨ret_int (by rw [E.out]), HB.out⟩
      obtain ⟨b, off, rfl, hck, hsz⟩ := H11.out.str k hlt
      have HLk := hid (HLs.out k hlt)
      have hwn := hid (show wrap64 (F + (k : Int)) = F + (k : Int) from IntWalk.wrap64_in _ (by omega))
      have hq := hfQ_at (d := d) (s := s.data.toList) (fr := fr) (st := 1) (start := start) hlt
      rw [← HFF.out] at hq
      have hsp : hfS (hfQ d s.data.toList fr (1) start) true F (d.Lines.length - k) k best = hfS (hfQ d s.data.toList fr (1) start) true F (d.Lines.length - (k + 1)) (k + 1) (if hfQ d s.data.toList fr (1) start k && (decide (best = 0) || !true) then F + (k : Int) else best) := by
        rw [show d.Lines.length - k = (d.Lines.length - (k + 1)) + 1 by omega]; rfl
      have HSP := hid hsp; have HQ := hid hq; clear hsp hq
      have hki : (k : Int) < (d.Lines.length : Int) := by omega
      obtain ⟨ln, hln⟩ : ∃ ln, ln = d.Lines[k] := ⟨_, rfl⟩
      rw [← hln] at hck HLk HQ
      clear hln hsz
      cases hh : hfHit ln.data.toList s.data.toList start
      · have HH := hid hh; clear hh
        have HN := hid (show histFind d s.data.toList fr (1) start = hfS (hfQ d s.data.toList fr (1) start) true F (d.Lines.length - (k + 1)) (k + 1) best by rw [HR.out, HSP.out, HQ.out, HH.out, Bool.false_and, Bool.false_and]; rfl)
        have hwn1 := hwn.out
        go_wp2_with fail
        refine (s_l16In _ _ HLk.out hs _ _).mono ?_
        rintro e w' ⟨rfl, rfl⟩
        rw [HH.out]
        go_wp2
        exact ⟨⟨k + 1, best, by omega, by simp, rfl, HN.out⟩, by simp [intOf]; omega⟩
      have HH := hid hh; clear hh
      by_cases hc : F + (k : Int) < fr
      · have HO := hid (decide_eq_false (show ¬ ((1 : Int) = 1 → fr ≤ F + (k : Int)) from fun q => by have := q rfl; omega))
        have HN := hid (show histFind d s.data.toList fr (1) start = hfS (hfQ d s.data.toList fr (1) start) true F (d.Lines.length - (k + 1)) (k + 1) best by rw [HR.out, HSP.out, HQ.out, HH.out, HO.out]; simp)
        have hwn1 := hwn.out
        go_wp2_with fail
        refine (s_l16In _ _ HLk.out hs _ _).mono ?_
        rintro e w' ⟨rfl, rfl⟩
        rw [HH.out]
        go_wp2
        exact ⟨⟨k + 1, best, by omega, by simp, rfl, HN.out⟩, by simp [intOf]; omega⟩
      have HO1 := hid (decide_eq_true (show ((1 : Int) = 1 → fr ≤ F + (k : Int)) from fun _ => by omega)); have HO2 := hid (decide_eq_true (show ((1 : Int) = -1 → F + (k : Int) ≤ fr) from fun q => by omega))
      by_cases hb0 : best = 0
      · have hbb : (best == 0) = true := by rw [beq_iff_eq]; exact hb0
        have HBe := hid (decide_eq_true hb0)
        clear hb0
        have HN := hid (show histFind d s.data.toList fr (1) start = hfS (hfQ d s.data.toList fr (1) start) true F (d.Lines.length - (k + 1)) (k + 1) (F + (k : Int)) by rw [HR.out, HSP.out, HQ.out, HH.out, HO1.out, HO2.out, HBe.out]; simp)
        have hwn1 := hwn.out
        go_wp2_with fail
        refine (s_l16In _ _ HLk.out hs _ _).mono ?_
        rintro e w' ⟨rfl, rfl⟩
        rw [HH.out]
        go_wp2
        exact ⟨⟨k + 1, (F + (k : Int)), by omega, by simp, rfl, HN.out⟩, by simp [intOf]; omega⟩
      have hbb : (best == 0) = false := by rw [beq_eq_false_iff_ne]; exact hb0
      have HBe := hid (decide_eq_false hb0)
      clear hb0
      have HN := hid (show histFind d s.data.toList fr (1) start = hfS (hfQ d s.data.toList fr (1) start) true F (d.Lines.length - (k + 1)) (k + 1) best by rw [HR.out, HSP.out, HQ.out, HH.out, HO1.out, HO2.out, HBe.out]; simp)
      have hwn1 := hwn.out
      go_wp2_with fail
      refine (s_l16In _ _ HLk.out hs _ _).mono ?_
      rintro e w' ⟨rfl, rfl⟩
      rw [HH.out]
      go_wp2
      exact ⟨⟨k + 1, best, by omega, by simp, rfl, HN.out⟩, by simp [intOf]; omega⟩
  · subst hst
    have H0 := hid (show histFind d s.data.toList fr (-1) start = hfS (hfQ d s.data.toList fr (-1) start) false F d.Lines.length 0 0 by rw [histFind_go Hk.out (by first | exact .inl rfl | exact .inr rfl), HFF.out]; rfl)
    go_enter Try.func51, Try.ntmps51
    go_wp2_with fail
    refine (s_HistOk (grow H.out (hI.out _))).mono ?_
    rintro e w1 ⟨rfl, hb⟩
    have B0 : Bx w1 (w.heap.size) _ := Bx.below (b := w.heap.size) hb (by first | omega | (simp; done) | (simp; omega)) (by repeat (first  | (apply Bx.new; (focus (first | (simp; done) | (simp; omega) | omega))) | (apply Bx.alloc; rotate_left; (focus (first | (simp; done) | (simp; omega) | omega))) | (apply Bx.setOther; rotate_left; (focus (first | (simp; done) | (simp; omega) | omega))) | apply Bx.setSame))
    have B0o := B0.out
    have B0f := B0.fr
    have HB := hid (below_call (hI.out _) hb)
    clear hb B0
    rw [Hk.out]
    rw [← HFF.out] at B0o
    have H11 := hid (H1.out.grow HB.out)
    go_wp2_with fail
    go_loop [11, 29] (fun bv i => ∃ (k : Nat) (best : Int), k ≤ d.Lines.length ∧ i = .int .i64 (k : Int) ∧ bv = .int .i64 best ∧ histFind d s.data.toList fr (-1) start = hfS (hfQ d s.data.toList fr (-1) start) false F (d.Lines.length - k) k best) (fun _ i => d.Lines.length - (intOf i).toNat)
    case atStart => exact ⟨0, 0, Nat.zero_le _, rfl, rfl, H0.out⟩
    case round =>
      obtain ⟨k, best, hk, rfl, rfl, hr⟩ := hrel
      have HR := hid hr
      clear hr
      by_cases hlt : k < d.Lines.length
      rotate_left
      · have hki : ¬ (k : Int) < (d.Lines.length : Int) := by omega
        have E := hid (show histFind d s.data.toList fr (-1) start = best by rw [HR.out, show d.Lines.length - k = 0 by omega]; rfl)
        clear hlt hk
        go_wp2
        go_ret
        exact ⟨ret_int (by rw [E.out]), HB.out⟩
      obtain ⟨b, off, rfl, hck, hsz⟩ := H11.out.str k hlt
      have HLk := hid (HLs.out k hlt)
      have hwn := hid (show wrap64 (F + (k : Int)) = F + (k : Int) from IntWalk.wrap64_in _ (by omega))
      have hq := hfQ_at (d := d) (s := s.data.toList) (fr := fr) (st := -1) (start := start) hlt
      rw [← HFF.out] at hq
      have hsp : hfS (hfQ d s.data.toList fr (-1) start) false F (d.Lines.length - k) k best = hfS (hfQ d s.data.toList fr (-1) start) false F (d.Lines.length - (k + 1)) (k + 1) (if hfQ d s.data.toList fr (-1) start k && (decide (best = 0) || !false) then F + (k : Int) else best) := by
        rw [show d.Lines.length - k = (d.Lines.length - (k + 1)) + 1 by omega]; rfl
      have HSP := hid hsp; have HQ := hid hq; clear hsp hq
      have hki : (k : Int) < (d.Lines.length : Int) := by omega
      obtain ⟨ln, hln⟩ : ∃ ln, ln = d.Lines[k] := ⟨_, rfl⟩
      rw [← hln] at hck HLk HQ
      clear hln hsz
      cases hh : hfHit ln.data.toList s.data.toList start
      · have HH := hid hh; clear hh
        have HN := hid (show histFind d s.data.toList fr (-1) start = hfS (hfQ d s.data.toList fr (-1) start) false F (d.Lines.length - (k + 1)) (k + 1) best by rw [HR.out, HSP.out, HQ.out, HH.out, Bool.false_and, Bool.false_and]; rfl)
        have hwn1 := hwn.out
        go_wp2_with fail
        refine (s_l16In _ _ HLk.out hs _ _).mono ?_
        rintro e w' ⟨rfl, rfl⟩
        rw [HH.out]
        go_wp2
        exact ⟨⟨k + 1, best, by omega, by simp, rfl, HN.out⟩, by simp [intOf]; omega⟩
      have HH := hid hh; clear hh
      by_cases hc : F + (k : Int) > fr
      · have HO := hid (decide_eq_false (show ¬ ((-1 : Int) = -1 → F + (k : Int) ≤ fr) from fun q => by have := q rfl; omega))
        have HN := hid (show histFind d s.data.toList fr (-1) start = hfS (hfQ d s.data.toList fr (-1) start) false F (d.Lines.length - (k + 1)) (k + 1) best by rw [HR.out, HSP.out, HQ.out, HH.out, HO.out]; simp)
        have hwn1 := hwn.out
        go_wp2_with fail
        refine (s_l16In _ _ HLk.out hs _ _).mono ?_
        rintro e w' ⟨rfl, rfl⟩
        rw [HH.out]
        go_wp2
        exact ⟨⟨k + 1, best, by omega, by simp, rfl, HN.out⟩, by simp [intOf]; omega⟩
      have HO1 := hid (decide_eq_true (show ((-1 : Int) = 1 → fr ≤ F + (k : Int)) from fun q => by omega)); have HO2 := hid (decide_eq_true (show ((-1 : Int) = -1 → F + (k : Int) ≤ fr) from fun _ => by omega))
      by_cases hb0 : best = 0
      · have hbb : (best == 0) = true := by rw [beq_iff_eq]; exact hb0
        have HBe := hid (decide_eq_true hb0)
        clear hb0
        have HN := hid (show histFind d s.data.toList fr (-1) start = hfS (hfQ d s.data.toList fr (-1) start) false F (d.Lines.length - (k + 1)) (k + 1) (F + (k : Int)) by rw [HR.out, HSP.out, HQ.out, HH.out, HO1.out, HO2.out, HBe.out]; simp)
        have hwn1 := hwn.out
        go_wp2_with fail
        refine (s_l16In _ _ HLk.out hs _ _).mono ?_
        rintro e w' ⟨rfl, rfl⟩
        rw [HH.out]
        go_wp2
        exact ⟨⟨k + 1, (F + (k : Int)), by omega, by simp, rfl, HN.out⟩, by simp [intOf]; omega⟩
      have hbb : (best == 0) = false := by rw [beq_eq_false_iff_ne]; exact hb0
      have HBe := hid (decide_eq_false hb0)
      clear hb0
      have HN := hid (show histFind d s.data.toList fr (-1) start = hfS (hfQ d s.data.toList fr (-1) start) false F (d.Lines.length - (k + 1)) (k + 1) (F + (k : Int)) by rw [HR.out, HSP.out, HQ.out, HH.out, HO1.out, HO2.out, HBe.out]; simp)
      have hwn1 := hwn.out
      go_wp2_with fail
      refine (s_l16In _ _ HLk.out hs _ _).mono ?_
      rintro e w' ⟨rfl, rfl⟩
      rw [HH.out]
      go_wp2
      exact ⟨⟨k + 1, (F + (k : Int)), by omega, by simp, rfl, HN.out⟩, by simp [intOf]; omega⟩
end Go.Proofs.Ytffinfpnmohnaaa
