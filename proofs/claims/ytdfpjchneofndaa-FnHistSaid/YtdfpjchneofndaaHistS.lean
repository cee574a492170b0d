/- A line added to a history, by the reference (printed by genhistadd.py). -/
import Derived.Test.YtdfpjchneofndaaHistM
import Derived.Test.YtdfpjchneofndaaLate
set_option linter.unusedSimpArgs false
set_option linter.unusedVariables false
namespace Go.G6
open Go.RowKit Rep
theorem histAdd_top (d : HistD) (s : ByteArray) : 1 + (histAdd d s).nkv ≤ topK := by
  have h1 : (histAdd d s).Lines.length ≤ 60 := by
    unfold histAdd; split
    · rename_i h
      simp only [histAddOk, histOk, Bool.and_eq_true, decide_eq_true_eq] at h
      exact h.2.1.2
    · simp
  show 1 + Mk.nE (histAdd d s).Lines ≤ topK
  rw [show Mk.nE (histAdd d s).Lines = (histAdd d s).Lines.length from nL_const _ _ fun _ => rfl]
  unfold topK; omega
end Go.G6
namespace Go.Proofs.Ytdfpjchneofndaa
open Go.RowKit Go.G6
set_option maxHeartbeats 30000000
set_option maxRecDepth 10000
theorem s_HistAdd {w : World} {bs : List Nat} {cs : List Value} {d : HistD} (h : Rep.pt w bs cs d) (s : ByteArray) (hs : s.size ≤ maxLen) (hn : d.Lines.length ≤ 1048576) :
    Calls Try.prog 161 #[.agg cs.toArray, .string s] w (RetAB w (histAdd d s) (.bool (histAddOk d s))) := by
  have H := hid h
  obtain ⟨a1, l1, k1, rfl, h0, h1⟩ := open_Hist h
  obtain rfl := h1.len_eq
  obtain ⟨i0, hi, hz0, hz1, hz2⟩ := info_parts info_str
  clear h
  have H1 := hid h1; clear h1
  obtain ⟨W0, hW0⟩ : ∃ W0, W0 = (w.alloc (.cells #[.int .i64 d.First, .slice a1 d.Lines.length k1] 54)).alloc (.cells #[.int .i64 0, .slice none 0 0] 54) := ⟨_, rfl⟩
  have HW0 := hid hW0
  have hs1 : w.heap.size + 2 ≤ W0.heap.size := by rw [hW0]; simp
  have HB := hid (show Below w.heap.size w W0 by rw [hW0]; exact ((Below.refl _ _).alloc (Nat.le_refl _) _).alloc (by simp) _)
  have HX0 := hid (show Bx W0 w.heap.size #[.int .i64 d.First, .slice a1 d.Lines.length k1] by rw [hW0]; exact (Bx.new _ _ _ rfl).alloc (by simp) _)
  have HX1 := hid (show Bx W0 (w.heap.size + 1) #[.int .i64 0, .slice none 0 0] by rw [hW0]; exact Bx.new _ _ _ (by simp))
  clear hW0
  go_enter Try.func161, Try.ntmps161
  go_upto_region 1 with fail
  go_cut [6] (fun v6 W => ∃ g p k bx, v6 = .pointer (some ⟨g, 0, none⟩) ∧ Bx W g #[.int .i64 d.First, .slice p (d.Lines.length + 1) k] ∧ OwnL (w.heap.size + 2) W 9 (.slice p (d.Lines.length + 1) k) bx (d.Lines ++ [s]) ∧ (∀ b ∈ bx, b ≠ g) ∧ w.heap.size + 2 ≤ g ∧ g < W.heap.size ∧ Below (w.heap.size + 2) W0 W)
  case first =>
    go_wp2_with fail
    refine late_start (fun W => Below (w.heap.size + 2) W0 W ∧ W.cell? ⟨w.heap.size, 0, none⟩ = some (.int .i64 d.First) ∧ W.cell? ⟨w.heap.size, 1, none⟩ = some (.slice a1 d.Lines.length k1)) 11 (by kernel_rfl) ?_ (fun hS => ?_)
    · rw [← HW0.out]; exact ⟨(Below.refl _ _).drew, HX0.out.out 0, HX0.out.out 1⟩
    refine late_genw (fun U0 hU => ?_)
    rw [← hU] at hS
    have hz00 := hS.1.size
    have hlo : w.heap.size + 2 ≤ U0.heap.size := by omega
    clear hU
    refine late_take (i := 0) (v := ?_) rfl (by kernel_rfl) (fun _ _ _ h => h) (by rfl) ?_ (by assumption) ?_
    rotate_left
    · (intro w9 hS9; (try dsimp only at hS9); (try go_split_ands); go_simp <;> with_reducible rfl)
    try simp only [Act.put, List.setIfInBounds_toArray, List.set_cons_zero, List.set_cons_succ]
    refine late_take (i := 1) (v := ?_) rfl (by kernel_rfl) (fun _ _ _ h => h) (by rfl) ?_ (by assumption) ?_
    rotate_left
    · (intro w9 hS9; (try dsimp only at hS9); (try go_split_ands); go_simp <;> with_reducible rfl)
    try simp only [Act.put, List.setIfInBounds_toArray, List.set_cons_zero, List.set_cons_succ]
    refine late_take (i := 3) (v := ?_) rfl (by kernel_rfl) (fun _ _ _ h => h) (by rfl) ?_ (by assumption) ?_
    rotate_left
    · (intro w9 hS9; (try dsimp only at hS9); (try go_split_ands); go_simp <;> with_reducible rfl)
    try simp only [Act.put, List.setIfInBounds_toArray, List.set_cons_zero, List.set_cons_succ]
    refine late_take (i := 4) (v := ?_) rfl (by kernel_rfl) (fun _ _ _ h => h) (by rfl) ?_ (by assumption) ?_
    rotate_left
    · (intro w9 hS9; (try dsimp only at hS9); (try go_split_ands); go_simp <;> with_reducible rfl)
    try simp only [Act.put, List.setIfInBounds_toArray, List.set_cons_zero, List.set_cons_succ]
    refine late_take (i := 6) (v := ?_) rfl (by kernel_rfl) (fun _ _ _ h => h) (by rfl) ?_ (by assumption) ?_
    rotate_left
    · (intro w9 hS9; (try dsimp only at hS9); (try go_split_ands); go_simp <;> with_reducible rfl)
    try simp only [Act.put, List.setIfInBounds_toArray, List.set_cons_zero, List.set_cons_succ]
    refine late_three (i := 2) (j := 7) (k := 10) rfl rfl rfl (by kernel_rfl) (fun K9 hK9 => ?_) (fun K9 hK9 => ?_) (fun K9 hK9 => ?_)
    · skip
      go_simp
      refine late_gen (fun U1 hU => ?_)
      have hst : Below U0.heap.size U0 U1 := by rw [hU]; exact (Below.refl _ _).alloc (Nat.le_refl _) _
      have hO : OwnL (w.heap.size + 2) U1 9 (.slice (some ⟨U0.heap.size, 0, none⟩) 0 0) [U0.heap.size] ([] : List ByteArray) := by rw [hU]; exact ownL_empty rfl hlo
      clear hU
      refine hK9.out _ _ (fun _ => ?_) (fun hS9 => ?_)
      · (try dsimp only); exact ⟨hS.1.trans (hst.mono hlo), cellc (Tch.of_below (bs := []) hst) hS.2.1 (by simp), cellc (Tch.of_below (bs := []) hst) hS.2.2 (by simp)⟩
      replace hS := hS9 (by decide)
      clear hK9 K9 hS9
      try simp only [Act.put, List.setIfInBounds_toArray, List.set_cons_zero, List.set_cons_succ]
      replace hlo : w.heap.size + 2 ≤ U1.heap.size := Nat.le_trans hlo hst.size
      clear hst
      refine late_three (i := 5) (j := 7) (k := 10) rfl rfl rfl (by kernel_rfl) (fun K9 hK9 => ?_) (fun K9 hK9 => ?_) (fun K9 hK9 => ?_)
      · skip
        refine step_append rfl _ _ 52 rfl 9 i0 (.string ByteArray.empty) 16 Try.underlying52 hi hz0 hz1 hz2 rfl (lo := w.heap.size + 2) (bs := [U0.heap.size]) (xs := ([] : List ByteArray)) rfl ?own (b2 := []) (ys := d.Lines) rfl ?src List.nodup_nil ?f2 ?q2 ?q3 ?q4 ?_
        case own => exact hO
        case src => exact Slc.src (H1.out.grow (HB.out.trans (hS.1.mono (by omega))))
        case f2 => simp
        case q2 => simp; omega
        case q3 => simp; omega
        case q4 => exact hlo
        intro p2 c2 U2 b2 hO2 hT hm
        simp only [List.nil_append, List.length_nil, Nat.zero_add] at hO2 ⊢
        refine hK9.out _ _ (fun _ => ?_) (fun hS9 => ?_)
        · (try dsimp only); exact ⟨hS.1.trans (hT.below hlo (fun x hx => (hO.lts x hx).1)), cellc hT hS.2.1 (fun hm9 => by have := (hO.lts _ hm9).1; (try simp at this); omega), cellc hT hS.2.2 (fun hm9 => by have := (hO.lts _ hm9).1; (try simp at this); omega)⟩
        replace hS := hS9 (by decide)
        clear hK9 K9 hS9
        try simp only [Act.put, List.setIfInBounds_toArray, List.set_cons_zero, List.set_cons_succ]
        replace hlo : w.heap.size + 2 ≤ U2.heap.size := Nat.le_trans hlo hT.size
        clear hO hT hm
        have hO := hO2
        clear hO2
        refine late_two (i := 7) (j := 10) rfl rfl (by kernel_rfl) (fun K9 hK9 => ?_) (fun K9 hK9 => ?_)
        · skip
          go_simp
          refine late_gen (fun U3 hU => ?_)
          have hst : Below U2.heap.size U2 U3 := by rw [hU]; exact (Below.refl _ _).alloc (Nat.le_refl _) _
          have hX9 : Src U3 [] (some ⟨U2.heap.size, 0, none⟩) 1 1 [s] := by rw [hU]; exact src_new (pt_s hs) rfl _ _
          have hXb9 : U2.heap.size < U3.heap.size := by rw [hU]; simp
          have hXn : ∀ b ∈ b2, b ≠ U2.heap.size := fun b hb => Nat.ne_of_lt (hO.lts b hb).2
          replace hO := hO.grow hst
          have hX := hX9; have hXb := hXb9; clear hX9 hXb9
          clear hU
          refine hK9.out _ _ (fun _ => ?_) (fun hS9 => ?_)
          · (try dsimp only); exact ⟨hS.1.trans (hst.mono hlo), cellc (Tch.of_below (bs := []) hst) hS.2.1 (by simp), cellc (Tch.of_below (bs := []) hst) hS.2.2 (by simp)⟩
          replace hS := hS9 (by decide)
          clear hK9 K9 hS9
          try simp only [Act.put, List.setIfInBounds_toArray, List.set_cons_zero, List.set_cons_succ]
          replace hlo : w.heap.size + 2 ≤ U3.heap.size := Nat.le_trans hlo hst.size
          clear hst
          refine late_two (i := 8) (j := 10) rfl rfl (by kernel_rfl) (fun K9 hK9 => ?_) (fun K9 hK9 => ?_)
          · skip
            refine step_append rfl _ _ 52 rfl 9 i0 (.string ByteArray.empty) 16 Try.underlying52 hi hz0 hz1 hz2 rfl (lo := w.heap.size + 2) (bs := b2) (xs := d.Lines) rfl ?own (b2 := []) (ys := [s]) rfl ?src List.nodup_nil ?f2 ?q2 ?q3 ?q4 ?_
            case own => exact hO
            case src => exact hX
            case f2 => simp
            case q2 => simp; omega
            case q3 => simp; omega
            case q4 => exact hlo
            intro p3 c3 U4 b3 hO2 hT hm
            simp only [List.length_cons, List.length_nil, Nat.zero_add] at hO2 ⊢
            have hXn2 : ∀ x ∈ b3, x ≠ U2.heap.size := fun x hx => (hm x hx).elim (fun h => hXn x h) (fun h => h.elim (fun h => by cases h) (fun h => Nat.ne_of_gt (Nat.lt_of_lt_of_le hXb h)))
            replace hX := Src.tch hX hT (fun h => hXn _ h rfl) (fun b h => by cases h)
            replace hXb : U2.heap.size < U4.heap.size := Nat.lt_of_lt_of_le hXb hT.size
            refine hK9.out _ _ (fun _ => ?_) (fun hS9 => ?_)
            · (try dsimp only); exact ⟨hS.1.trans (hT.below hlo (fun x hx => (hO.lts x hx).1)), cellc hT hS.2.1 (fun hm9 => by have := (hO.lts _ hm9).1; (try simp at this); omega), cellc hT hS.2.2 (fun hm9 => by have := (hO.lts _ hm9).1; (try simp at this); omega)⟩
            replace hS := hS9 (by decide)
            clear hK9 K9 hS9
            try simp only [Act.put, List.setIfInBounds_toArray, List.set_cons_zero, List.set_cons_succ]
            replace hlo : w.heap.size + 2 ≤ U4.heap.size := Nat.le_trans hlo hT.size
            clear hO hT hm
            have hO := hO2
            clear hO2
            clear hXn
            have hXn := hXn2
            clear hXn2
            refine late_take (i := 9) (v := ?_) rfl (by kernel_rfl) (fun _ _ _ h => h) (by rfl) ?_ (by assumption) ?_
            rotate_left
            · (intro w9 hS9; (try dsimp only at hS9); (try go_split_ands); go_simp <;> with_reducible rfl)
            try simp only [Act.put, List.setIfInBounds_toArray, List.set_cons_zero, List.set_cons_succ]
            refine late_one (i := 10) rfl (by kernel_rfl) (fun K9 hK9 => ?_)
            go_simp
            refine late_gen (fun U5 hU => ?_)
            have hst : Below U4.heap.size U4 U5 := by rw [hU]; exact (Below.refl _ _).alloc (Nat.le_refl _) _
            have hbx9 : Bx U5 U4.heap.size #[.int .i64 0, .slice none 0 0] := by rw [hU]; exact Bx.new _ _ _ rfl
            have hgb9 : U4.heap.size < U5.heap.size := by rw [hU]; simp
            have hgl : w.heap.size + 2 ≤ U4.heap.size := hlo
            have hnb : ∀ b ∈ b3, b ≠ U4.heap.size := fun b hb => Nat.ne_of_lt (hO.lts b hb).2
            replace hO := hO.grow hst
            replace hX := hX.grow hst
            replace hXb : U2.heap.size < U5.heap.size := Nat.lt_of_lt_of_le hXb hst.size
            have hbx := hbx9; have hgb := hgb9; clear hbx9 hgb9
            clear hU
            refine hK9.out _ _ (fun _ => ?_) (fun hS9 => ?_)
            · (try dsimp only); exact ⟨hS.1.trans (hst.mono hlo), cellc (Tch.of_below (bs := []) hst) hS.2.1 (by simp), cellc (Tch.of_below (bs := []) hst) hS.2.2 (by simp)⟩
            replace hS := hS9 (by decide)
            clear hK9 K9 hS9
            try simp only [Act.put, List.setIfInBounds_toArray, List.set_cons_zero, List.set_cons_succ]
            replace hlo : w.heap.size + 2 ≤ U5.heap.size := Nat.le_trans hlo hst.size
            clear hst
            refine late_one (i := 11) rfl (by kernel_rfl) (fun K9 hK9 => ?_)
            have bo := hbx.out; have bf := hbx.fr
            go_simp
            refine hK9.out _ _ (fun h => absurd rfl h) (fun _ => ?_)
            clear hK9 K9
            try simp only [Act.put, List.setIfInBounds_toArray, List.set_cons_zero, List.set_cons_succ]
            refine late_done (by kernel_rfl) ?_ _
            go_wp2_with fail
            go_meet
            refine ⟨_, _, _, _, rfl, ?_, (hO.setCell (fun b hb => hnb b hb) _).setCell (fun b hb => hnb b hb) _, hnb, hgl, ?_, ?_⟩
            · exact (Bx.setSame (Bx.setSame hbx 0 _) 1 _)
            · simpa using hgb
            · exact (hS.1.setCell (by exact hgl) _).setCell (by exact hgl) _
          · skip
            go_simp
            refine late_gen (fun U6 hU => ?_)
            have hst : Below U3.heap.size U3 U6 := by rw [hU]; exact (Below.refl _ _).alloc (Nat.le_refl _) _
            have hbx9 : Bx U6 U3.heap.size #[.int .i64 0, .slice none 0 0] := by rw [hU]; exact Bx.new _ _ _ rfl
            have hgb9 : U3.heap.size < U6.heap.size := by rw [hU]; simp
            have hgl : w.heap.size + 2 ≤ U3.heap.size := hlo
            have hnb : ∀ b ∈ b2, b ≠ U3.heap.size := fun b hb => Nat.ne_of_lt (hO.lts b hb).2
            replace hO := hO.grow hst
            replace hX := hX.grow hst
            replace hXb : U2.heap.size < U6.heap.size := Nat.lt_of_lt_of_le hXb hst.size
            have hbx := hbx9; have hgb := hgb9; clear hbx9 hgb9
            clear hU
            refine hK9.out _ _ (fun _ => ?_) (fun hS9 => ?_)
            · (try dsimp only); exact ⟨hS.1.trans (hst.mono hlo), cellc (Tch.of_below (bs := []) hst) hS.2.1 (by simp), cellc (Tch.of_below (bs := []) hst) hS.2.2 (by simp)⟩
            replace hS := hS9 (by decide)
            clear hK9 K9 hS9
            try simp only [Act.put, List.setIfInBounds_toArray, List.set_cons_zero, List.set_cons_succ]
            replace hlo : w.heap.size + 2 ≤ U6.heap.size := Nat.le_trans hlo hst.size
            clear hst
            refine late_one (i := 8) rfl (by kernel_rfl) (fun K9 hK9 => ?_)
            refine step_append rfl _ _ 52 rfl 9 i0 (.string ByteArray.empty) 16 Try.underlying52 hi hz0 hz1 hz2 rfl (lo := w.heap.size + 2) (bs := b2) (xs := d.Lines) rfl ?own (b2 := []) (ys := [s]) rfl ?src List.nodup_nil ?f2 ?q2 ?q3 ?q4 ?_
            case own => exact hO
            case src => exact hX
            case f2 => simp
            case q2 => simp; omega
            case q3 => simp; omega
            case q4 => exact hlo
            intro p3 c3 U7 b3 hO2 hT hm
            simp only [List.length_cons, List.length_nil, Nat.zero_add] at hO2 ⊢
            have hnb2 : ∀ x ∈ b3, x ≠ U3.heap.size := fun x hx => (hm x hx).elim (fun h => hnb x h) (fun h => h.elim (fun h => by cases h) (fun h => Nat.ne_of_gt (Nat.lt_of_lt_of_le hgb h)))
            have hXn2 : ∀ x ∈ b3, x ≠ U2.heap.size := fun x hx => (hm x hx).elim (fun h => hXn x h) (fun h => h.elim (fun h => by cases h) (fun h => Nat.ne_of_gt (Nat.lt_of_lt_of_le hXb h)))
            replace hbx := Bx.tch hT hgb (fun h => hnb _ h rfl) hbx
            replace hgb : U3.heap.size < U7.heap.size := Nat.lt_of_lt_of_le hgb hT.size
            replace hX := Src.tch hX hT (fun h => hXn _ h rfl) (fun b h => by cases h)
            replace hXb : U2.heap.size < U7.heap.size := Nat.lt_of_lt_of_le hXb hT.size
            refine hK9.out _ _ (fun _ => ?_) (fun hS9 => ?_)
            · (try dsimp only); exact ⟨hS.1.trans (hT.below hlo (fun x hx => (hO.lts x hx).1)), cellc hT hS.2.1 (fun hm9 => by have := (hO.lts _ hm9).1; (try simp at this); omega), cellc hT hS.2.2 (fun hm9 => by have := (hO.lts _ hm9).1; (try simp at this); omega)⟩
            replace hS := hS9 (by decide)
            clear hK9 K9 hS9
            try simp only [Act.put, List.setIfInBounds_toArray, List.set_cons_zero, List.set_cons_succ]
            replace hlo : w.heap.size + 2 ≤ U7.heap.size := Nat.le_trans hlo hT.size
            clear hO hT hm
            have hO := hO2
            clear hO2
            clear hnb
            have hnb := hnb2
            clear hnb2
            clear hXn
            have hXn := hXn2
            clear hXn2
            refine late_take (i := 9) (v := ?_) rfl (by kernel_rfl) (fun _ _ _ h => h) (by rfl) ?_ (by assumption) ?_
            rotate_left
            · (intro w9 hS9; (try dsimp only at hS9); (try go_split_ands); go_simp <;> with_reducible rfl)
            try simp only [Act.put, List.setIfInBounds_toArray, List.set_cons_zero, List.set_cons_succ]
            refine late_one (i := 11) rfl (by kernel_rfl) (fun K9 hK9 => ?_)
            have bo := hbx.out; have bf := hbx.fr
            go_simp
            refine hK9.out _ _ (fun h => absurd rfl h) (fun _ => ?_)
            clear hK9 K9
            try simp only [Act.put, List.setIfInBounds_toArray, List.set_cons_zero, List.set_cons_succ]
            refine late_done (by kernel_rfl) ?_ _
            go_wp2_with fail
            go_meet
            refine ⟨_, _, _, _, rfl, ?_, (hO.setCell (fun b hb => hnb b hb) _).setCell (fun b hb => hnb b hb) _, hnb, hgl, ?_, ?_⟩
            · exact (Bx.setSame (Bx.setSame hbx 0 _) 1 _)
            · simpa using hgb
            · exact (hS.1.setCell (by exact hgl) _).setCell (by exact hgl) _
        · skip
          go_simp
          refine late_gen (fun U8 hU => ?_)
          have hst : Below U2.heap.size U2 U8 := by rw [hU]; exact (Below.refl _ _).alloc (Nat.le_refl _) _
          have hbx9 : Bx U8 U2.heap.size #[.int .i64 0, .slice none 0 0] := by rw [hU]; exact Bx.new _ _ _ rfl
          have hgb9 : U2.heap.size < U8.heap.size := by rw [hU]; simp
          have hgl : w.heap.size + 2 ≤ U2.heap.size := hlo
          have hnb : ∀ b ∈ b2, b ≠ U2.heap.size := fun b hb => Nat.ne_of_lt (hO.lts b hb).2
          replace hO := hO.grow hst
          have hbx := hbx9; have hgb := hgb9; clear hbx9 hgb9
          clear hU
          refine hK9.out _ _ (fun _ => ?_) (fun hS9 => ?_)
          · (try dsimp only); exact ⟨hS.1.trans (hst.mono hlo), cellc (Tch.of_below (bs := []) hst) hS.2.1 (by simp), cellc (Tch.of_below (bs := []) hst) hS.2.2 (by simp)⟩
          replace hS := hS9 (by decide)
          clear hK9 K9 hS9
          try simp only [Act.put, List.setIfInBounds_toArray, List.set_cons_zero, List.set_cons_succ]
          replace hlo : w.heap.size + 2 ≤ U8.heap.size := Nat.le_trans hlo hst.size
          clear hst
          refine late_one (i := 7) rfl (by kernel_rfl) (fun K9 hK9 => ?_)
          go_simp
          refine late_gen (fun U9 hU => ?_)
          have hst : Below U8.heap.size U8 U9 := by rw [hU]; exact (Below.refl _ _).alloc (Nat.le_refl _) _
          have hX9 : Src U9 [] (some ⟨U8.heap.size, 0, none⟩) 1 1 [s] := by rw [hU]; exact src_new (pt_s hs) rfl _ _
          have hXb9 : U8.heap.size < U9.heap.size := by rw [hU]; simp
          have hXn : ∀ b ∈ b2, b ≠ U8.heap.size := fun b hb => Nat.ne_of_lt (hO.lts b hb).2
          replace hO := hO.grow hst
          replace hbx := Bx.below hst hgb hbx
          replace hgb : U2.heap.size < U9.heap.size := Nat.lt_of_lt_of_le hgb hst.size
          have hX := hX9; have hXb := hXb9; clear hX9 hXb9
          clear hU
          refine hK9.out _ _ (fun _ => ?_) (fun hS9 => ?_)
          · (try dsimp only); exact ⟨hS.1.trans (hst.mono hlo), cellc (Tch.of_below (bs := []) hst) hS.2.1 (by simp), cellc (Tch.of_below (bs := []) hst) hS.2.2 (by simp)⟩
          replace hS := hS9 (by decide)
          clear hK9 K9 hS9
          try simp only [Act.put, List.setIfInBounds_toArray, List.set_cons_zero, List.set_cons_succ]
          replace hlo : w.heap.size + 2 ≤ U9.heap.size := Nat.le_trans hlo hst.size
          clear hst
          refine late_one (i := 8) rfl (by kernel_rfl) (fun K9 hK9 => ?_)
          refine step_append rfl _ _ 52 rfl 9 i0 (.string ByteArray.empty) 16 Try.underlying52 hi hz0 hz1 hz2 rfl (lo := w.heap.size + 2) (bs := b2) (xs := d.Lines) rfl ?own (b2 := []) (ys := [s]) rfl ?src List.nodup_nil ?f2 ?q2 ?q3 ?q4 ?_
          case own => exact hO
          case src => exact hX
          case f2 => simp
          case q2 => simp; omega
          case q3 => simp; omega
          case q4 => exact hlo
          intro p3 c3 U10 b3 hO2 hT hm
          simp only [List.length_cons, List.length_nil, Nat.zero_add] at hO2 ⊢
          have hnb2 : ∀ x ∈ b3, x ≠ U2.heap.size := fun x hx => (hm x hx).elim (fun h => hnb x h) (fun h => h.elim (fun h => by cases h) (fun h => Nat.ne_of_gt (Nat.lt_of_lt_of_le hgb h)))
          have hXn2 : ∀ x ∈ b3, x ≠ U8.heap.size := fun x hx => (hm x hx).elim (fun h => hXn x h) (fun h => h.elim (fun h => by cases h) (fun h => Nat.ne_of_gt (Nat.lt_of_lt_of_le hXb h)))
          replace hbx := Bx.tch hT hgb (fun h => hnb _ h rfl) hbx
          replace hgb : U2.heap.size < U10.heap.size := Nat.lt_of_lt_of_le hgb hT.size
          replace hX := Src.tch hX hT (fun h => hXn _ h rfl) (fun b h => by cases h)
          replace hXb : U8.heap.size < U10.heap.size := Nat.lt_of_lt_of_le hXb hT.size
          refine hK9.out _ _ (fun _ => ?_) (fun hS9 => ?_)
          · (try dsimp only); exact ⟨hS.1.trans (hT.below hlo (fun x hx => (hO.lts x hx).1)), cellc hT hS.2.1 (fun hm9 => by have := (hO.lts _ hm9).1; (try simp at this); omega), cellc hT hS.2.2 (fun hm9 => by have := (hO.lts _ hm9).1; (try simp at this); omega)⟩
          replace hS := hS9 (by decide)
          clear hK9 K9 hS9
          try simp only [Act.put, List.setIfInBounds_toArray, List.set_cons_zero, List.set_cons_succ]
          replace hlo : w.heap.size + 2 ≤ U10.heap.size := Nat.le_trans hlo hT.size
          clear hO hT hm
          have hO := hO2
          clear hO2
          clear hnb
          have hnb := hnb2
          clear hnb2
          clear hXn
          have hXn := hXn2
          clear hXn2
          refine late_take (i := 9) (v := ?_) rfl (by kernel_rfl) (fun _ _ _ h => h) (by rfl) ?_ (by assumption) ?_
          rotate_left
          · (intro w9 hS9; (try dsimp only at hS9); (try go_split_ands); go_simp <;> with_reducible rfl)
          try simp only [Act.put, List.setIfInBounds_toArray, List.set_cons_zero, List.set_cons_succ]
          refine late_one (i := 11) rfl (by kernel_rfl) (fun K9 hK9 => ?_)
          have bo := hbx.out; have bf := hbx.fr
          go_simp
          refine hK9.out _ _ (fun h => absurd rfl h) (fun _ => ?_)
          clear hK9 K9
          try simp only [Act.put, List.setIfInBounds_toArray, List.set_cons_zero, List.set_cons_succ]
          refine late_done (by kernel_rfl) ?_ _
          go_wp2_with fail
          go_meet
          refine ⟨_, _, _, _, rfl, ?_, (hO.setCell (fun b hb => hnb b hb) _).setCell (fun b hb => hnb b hb) _, hnb, hgl, ?_, ?_⟩
          · exact (Bx.setSame (Bx.setSame hbx 0 _) 1 _)
          · simpa using hgb
          · exact (hS.1.setCell (by exact hgl) _).setCell (by exact hgl) _
      · skip
        go_simp
        refine late_gen (fun U11 hU => ?_)
        have hst : Below U1.heap.size U1 U11 := by rw [hU]; exact (Below.refl _ _).alloc (Nat.le_refl _) _
        have hX9 : Src U11 [] (some ⟨U1.heap.size, 0, none⟩) 1 1 [s] := by rw [hU]; exact src_new (pt_s hs) rfl _ _
        have hXb9 : U1.heap.size < U11.heap.size := by rw [hU]; simp
        have hXn : ∀ b ∈ [U0.heap.size], b ≠ U1.heap.size := fun b hb => Nat.ne_of_lt (hO.lts b hb).2
        replace hO := hO.grow hst
        have hX := hX9; have hXb := hXb9; clear hX9 hXb9
        clear hU
        refine hK9.out _ _ (fun _ => ?_) (fun hS9 => ?_)
        · (try dsimp only); exact ⟨hS.1.trans (hst.mono hlo), cellc (Tch.of_below (bs := []) hst) hS.2.1 (by simp), cellc (Tch.of_below (bs := []) hst) hS.2.2 (by simp)⟩
        replace hS := hS9 (by decide)
        clear hK9 K9 hS9
        try simp only [Act.put, List.setIfInBounds_toArray, List.set_cons_zero, List.set_cons_succ]
        replace hlo : w.heap.size + 2 ≤ U11.heap.size := Nat.le_trans hlo hst.size
        clear hst
        refine late_two (i := 5) (j := 10) rfl rfl (by kernel_rfl) (fun K9 hK9 => ?_) (fun K9 hK9 => ?_)
        · skip
          refine step_append rfl _ _ 52 rfl 9 i0 (.string ByteArray.empty) 16 Try.underlying52 hi hz0 hz1 hz2 rfl (lo := w.heap.size + 2) (bs := [U0.heap.size]) (xs := ([] : List ByteArray)) rfl ?own (b2 := []) (ys := d.Lines) rfl ?src List.nodup_nil ?f2 ?q2 ?q3 ?q4 ?_
          case own => exact hO
          case src => exact Slc.src (H1.out.grow (HB.out.trans (hS.1.mono (by omega))))
          case f2 => simp
          case q2 => simp; omega
          case q3 => simp; omega
          case q4 => exact hlo
          intro p2 c2 U12 b2 hO2 hT hm
          simp only [List.nil_append, List.length_nil, Nat.zero_add] at hO2 ⊢
          have hXn2 : ∀ x ∈ b2, x ≠ U1.heap.size := fun x hx => (hm x hx).elim (fun h => hXn x h) (fun h => h.elim (fun h => by cases h) (fun h => Nat.ne_of_gt (Nat.lt_of_lt_of_le hXb h)))
          replace hX := Src.tch hX hT (fun h => hXn _ h rfl) (fun b h => by cases h)
          replace hXb : U1.heap.size < U12.heap.size := Nat.lt_of_lt_of_le hXb hT.size
          refine hK9.out _ _ (fun _ => ?_) (fun hS9 => ?_)
          · (try dsimp only); exact ⟨hS.1.trans (hT.below hlo (fun x hx => (hO.lts x hx).1)), cellc hT hS.2.1 (fun hm9 => by have := (hO.lts _ hm9).1; (try simp at this); omega), cellc hT hS.2.2 (fun hm9 => by have := (hO.lts _ hm9).1; (try simp at this); omega)⟩
          replace hS := hS9 (by decide)
          clear hK9 K9 hS9
          try simp only [Act.put, List.setIfInBounds_toArray, List.set_cons_zero, List.set_cons_succ]
          replace hlo : w.heap.size + 2 ≤ U12.heap.size := Nat.le_trans hlo hT.size
          clear hO hT hm
          have hO := hO2
          clear hO2
          clear hXn
          have hXn := hXn2
          clear hXn2
          refine late_two (i := 8) (j := 10) rfl rfl (by kernel_rfl) (fun K9 hK9 => ?_) (fun K9 hK9 => ?_)
          · skip
            refine step_append rfl _ _ 52 rfl 9 i0 (.string ByteArray.empty) 16 Try.underlying52 hi hz0 hz1 hz2 rfl (lo := w.heap.size + 2) (bs := b2) (xs := d.Lines) rfl ?own (b2 := []) (ys := [s]) rfl ?src List.nodup_nil ?f2 ?q2 ?q3 ?q4 ?_
            case own => exact hO
            case src => exact hX
            case f2 => simp
            case q2 => simp; omega
            case q3 => simp; omega
            case q4 => exact hlo
            intro p3 c3 U13 b3 hO2 hT hm
            simp only [List.length_cons, List.length_nil, Nat.zero_add] at hO2 ⊢
            have hXn2 : ∀ x ∈ b3, x ≠ U1.heap.size := fun x hx => (hm x hx).elim (fun h => hXn x h) (fun h => h.elim (fun h => by cases h) (fun h => Nat.ne_of_gt (Nat.lt_of_lt_of_le hXb h)))
            replace hX := Src.tch hX hT (fun h => hXn _ h rfl) (fun b h => by cases h)
            replace hXb : U1.heap.size < U13.heap.size := Nat.lt_of_lt_of_le hXb hT.size
            refine hK9.out _ _ (fun _ => ?_) (fun hS9 => ?_)
            · (try dsimp only); exact ⟨hS.1.trans (hT.below hlo (fun x hx => (hO.lts x hx).1)), cellc hT hS.2.1 (fun hm9 => by have := (hO.lts _ hm9).1; (try simp at this); omega), cellc hT hS.2.2 (fun hm9 => by have := (hO.lts _ hm9).1; (try simp at this); omega)⟩
            replace hS := hS9 (by decide)
            clear hK9 K9 hS9
            try simp only [Act.put, List.setIfInBounds_toArray, List.set_cons_zero, List.set_cons_succ]
            replace hlo : w.heap.size + 2 ≤ U13.heap.size := Nat.le_trans hlo hT.size
            clear hO hT hm
            have hO := hO2
            clear hO2
            clear hXn
            have hXn := hXn2
            clear hXn2
            refine late_take (i := 9) (v := ?_) rfl (by kernel_rfl) (fun _ _ _ h => h) (by rfl) ?_ (by assumption) ?_
            rotate_left
            · (intro w9 hS9; (try dsimp only at hS9); (try go_split_ands); go_simp <;> with_reducible rfl)
            try simp only [Act.put, List.setIfInBounds_toArray, List.set_cons_zero, List.set_cons_succ]
            refine late_one (i := 10) rfl (by kernel_rfl) (fun K9 hK9 => ?_)
            go_simp
            refine late_gen (fun U14 hU => ?_)
            have hst : Below U13.heap.size U13 U14 := by rw [hU]; exact (Below.refl _ _).alloc (Nat.le_refl _) _
            have hbx9 : Bx U14 U13.heap.size #[.int .i64 0, .slice none 0 0] := by rw [hU]; exact Bx.new _ _ _ rfl
            have hgb9 : U13.heap.size < U14.heap.size := by rw [hU]; simp
            have hgl : w.heap.size + 2 ≤ U13.heap.size := hlo
            have hnb : ∀ b ∈ b3, b ≠ U13.heap.size := fun b hb => Nat.ne_of_lt (hO.lts b hb).2
            replace hO := hO.grow hst
            replace hX := hX.grow hst
            replace hXb : U1.heap.size < U14.heap.size := Nat.lt_of_lt_of_le hXb hst.size
            have hbx := hbx9; have hgb := hgb9; clear hbx9 hgb9
            clear hU
            refine hK9.out _ _ (fun _ => ?_) (fun hS9 => ?_)
            · (try dsimp only); exact ⟨hS.1.trans (hst.mono hlo), cellc (Tch.of_below (bs := []) hst) hS.2.1 (by simp), cellc (Tch.of_below (bs := []) hst) hS.2.2 (by simp)⟩
            replace hS := hS9 (by decide)
            clear hK9 K9 hS9
            try simp only [Act.put, List.setIfInBounds_toArray, List.set_cons_zero, List.set_cons_succ]
            replace hlo : w.heap.size + 2 ≤ U14.heap.size := Nat.le_trans hlo hst.size
            clear hst
            refine late_one (i := 11) rfl (by kernel_rfl) (fun K9 hK9 => ?_)
            have bo := hbx.out; have bf := hbx.fr
            go_simp
            refine hK9.out _ _ (fun h => absurd rfl h) (fun _ => ?_)
            clear hK9 K9
            try simp only [Act.put, List.setIfInBounds_toArray, List.set_cons_zero, List.set_cons_succ]
            refine late_done (by kernel_rfl) ?_ _
            go_wp2_with fail
            go_meet
            refine ⟨_, _, _, _, rfl, ?_, (hO.setCell (fun b hb => hnb b hb) _).setCell (fun b hb => hnb b hb) _, hnb, hgl, ?_, ?_⟩
            · exact (Bx.setSame (Bx.setSame hbx 0 _) 1 _)
            · simpa using hgb
            · exact (hS.1.setCell (by exact hgl) _).setCell (by exact hgl) _
          · skip
            go_simp
            refine late_gen (fun U15 hU => ?_)
            have hst : Below U12.heap.size U12 U15 := by rw [hU]; exact (Below.refl _ _).alloc (Nat.le_refl _) _
            have hbx9 : Bx U15 U12.heap.size #[.int .i64 0, .slice none 0 0] := by rw [hU]; exact Bx.new _ _ _ rfl
            have hgb9 : U12.heap.size < U15.heap.size := by rw [hU]; simp
            have hgl : w.heap.size + 2 ≤ U12.heap.size := hlo
            have hnb : ∀ b ∈ b2, b ≠ U12.heap.size := fun b hb => Nat.ne_of_lt (hO.lts b hb).2
            replace hO := hO.grow hst
            replace hX := hX.grow hst
            replace hXb : U1.heap.size < U15.heap.size := Nat.lt_of_lt_of_le hXb hst.size
            have hbx := hbx9; have hgb := hgb9; clear hbx9 hgb9
            clear hU
            refine hK9.out _ _ (fun _ => ?_) (fun hS9 => ?_)
            · (try dsimp only); exact ⟨hS.1.trans (hst.mono hlo), cellc (Tch.of_below (bs := []) hst) hS.2.1 (by simp), cellc (Tch.of_below (bs := []) hst) hS.2.2 (by simp)⟩
            replace hS := hS9 (by decide)
            clear hK9 K9 hS9
            try simp only [Act.put, List.setIfInBounds_toArray, List.set_cons_zero, List.set_cons_succ]
            replace hlo : w.heap.size + 2 ≤ U15.heap.size := Nat.le_trans hlo hst.size
            clear hst
            refine late_one (i := 8) rfl (by kernel_rfl) (fun K9 hK9 => ?_)
            refine step_append rfl _ _ 52 rfl 9 i0 (.string ByteArray.empty) 16 Try.underlying52 hi hz0 hz1 hz2 rfl (lo := w.heap.size + 2) (bs := b2) (xs := d.Lines) rfl ?own (b2 := []) (ys := [s]) rfl ?src List.nodup_nil ?f2 ?q2 ?q3 ?q4 ?_
            case own => exact hO
            case src => exact hX
            case f2 => simp
            case q2 => simp; omega
            case q3 => simp; omega
            case q4 => exact hlo
            intro p3 c3 U16 b3 hO2 hT hm
            simp only [List.length_cons, List.length_nil, Nat.zero_add] at hO2 ⊢
            have hnb2 : ∀ x ∈ b3, x ≠ U12.heap.size := fun x hx => (hm x hx).elim (fun h => hnb x h) (fun h => h.elim (fun h => by cases h) (fun h => Nat.ne_of_gt (Nat.lt_of_lt_of_le hgb h)))
            have hXn2 : ∀ x ∈ b3, x ≠ U1.heap.size := fun x hx => (hm x hx).elim (fun h => hXn x h) (fun h => h.elim (fun h => by cases h) (fun h => Nat.ne_of_gt (Nat.lt_of_lt_of_le hXb h)))
            replace hbx := Bx.tch hT hgb (fun h => hnb _ h rfl) hbx
            replace hgb : U12.heap.size < U16.heap.size := Nat.lt_of_lt_of_le hgb hT.size
            replace hX := Src.tch hX hT (fun h => hXn _ h rfl) (fun b h => by cases h)
            replace hXb : U1.heap.size < U16.heap.size := Nat.lt_of_lt_of_le hXb hT.size
            refine hK9.out _ _ (fun _ => ?_) (fun hS9 => ?_)
            · (try dsimp only); exact ⟨hS.1.trans (hT.below hlo (fun x hx => (hO.lts x hx).1)), cellc hT hS.2.1 (fun hm9 => by have := (hO.lts _ hm9).1; (try simp at this); omega), cellc hT hS.2.2 (fun hm9 => by have := (hO.lts _ hm9).1; (try simp at this); omega)⟩
            replace hS := hS9 (by decide)
            clear hK9 K9 hS9
            try simp only [Act.put, List.setIfInBounds_toArray, List.set_cons_zero, List.set_cons_succ]
            replace hlo : w.heap.size + 2 ≤ U16.heap.size := Nat.le_trans hlo hT.size
            clear hO hT hm
            have hO := hO2
            clear hO2
            clear hnb
            have hnb := hnb2
            clear hnb2
            clear hXn
            have hXn := hXn2
            clear hXn2
            refine late_take (i := 9) (v := ?_) rfl (by kernel_rfl) (fun _ _ _ h => h) (by rfl) ?_ (by assumption) ?_
            rotate_left
            · (intro w9 hS9; (try dsimp only at hS9); (try go_split_ands); go_simp <;> with_reducible rfl)
            try simp only [Act.put, List.setIfInBounds_toArray, List.set_cons_zero, List.set_cons_succ]
            refine late_one (i := 11) rfl (by kernel_rfl) (fun K9 hK9 => ?_)
            have bo := hbx.out; have bf := hbx.fr
            go_simp
            refine hK9.out _ _ (fun h => absurd rfl h) (fun _ => ?_)
            clear hK9 K9
            try simp only [Act.put, List.setIfInBounds_toArray, List.set_cons_zero, List.set_cons_succ]
            refine late_done (by kernel_rfl) ?_ _
            go_wp2_with fail
            go_meet
            refine ⟨_, _, _, _, rfl, ?_, (hO.setCell (fun b hb => hnb b hb) _).setCell (fun b hb => hnb b hb) _, hnb, hgl, ?_, ?_⟩
            · exact (Bx.setSame (Bx.setSame hbx 0 _) 1 _)
            · simpa using hgb
            · exact (hS.1.setCell (by exact hgl) _).setCell (by exact hgl) _
        · skip
          go_simp
          refine late_gen (fun U17 hU => ?_)
          have hst : Below U11.heap.size U11 U17 := by rw [hU]; exact (Below.refl _ _).alloc (Nat.le_refl _) _
          have hbx9 : Bx U17 U11.heap.size #[.int .i64 0, .slice none 0 0] := by rw [hU]; exact Bx.new _ _ _ rfl
          have hgb9 : U11.heap.size < U17.heap.size := by rw [hU]; simp
          have hgl : w.heap.size + 2 ≤ U11.heap.size := hlo
          have hnb : ∀ b ∈ [U0.heap.size], b ≠ U11.heap.size := fun b hb => Nat.ne_of_lt (hO.lts b hb).2
          replace hO := hO.grow hst
          replace hX := hX.grow hst
          replace hXb : U1.heap.size < U17.heap.size := Nat.lt_of_lt_of_le hXb hst.size
          have hbx := hbx9; have hgb := hgb9; clear hbx9 hgb9
          clear hU
          refine hK9.out _ _ (fun _ => ?_) (fun hS9 => ?_)
          · (try dsimp only); exact ⟨hS.1.trans (hst.mono hlo), cellc (Tch.of_below (bs := []) hst) hS.2.1 (by simp), cellc (Tch.of_below (bs := []) hst) hS.2.2 (by simp)⟩
          replace hS := hS9 (by decide)
          clear hK9 K9 hS9
          try simp only [Act.put, List.setIfInBounds_toArray, List.set_cons_zero, List.set_cons_succ]
          replace hlo : w.heap.size + 2 ≤ U17.heap.size := Nat.le_trans hlo hst.size
          clear hst
          refine late_one (i := 5) rfl (by kernel_rfl) (fun K9 hK9 => ?_)
          refine step_append rfl _ _ 52 rfl 9 i0 (.string ByteArray.empty) 16 Try.underlying52 hi hz0 hz1 hz2 rfl (lo := w.heap.size + 2) (bs := [U0.heap.size]) (xs := ([] : List ByteArray)) rfl ?own (b2 := []) (ys := d.Lines) rfl ?src List.nodup_nil ?f2 ?q2 ?q3 ?q4 ?_
          case own => exact hO
          case src => exact Slc.src (H1.out.grow (HB.out.trans (hS.1.mono (by omega))))
          case f2 => simp
          case q2 => simp; omega
          case q3 => simp; omega
          case q4 => exact hlo
          intro p2 c2 U18 b2 hO2 hT hm
          simp only [List.nil_append, List.length_nil, Nat.zero_add] at hO2 ⊢
          have hnb2 : ∀ x ∈ b2, x ≠ U11.heap.size := fun x hx => (hm x hx).elim (fun h => hnb x h) (fun h => h.elim (fun h => by cases h) (fun h => Nat.ne_of_gt (Nat.lt_of_lt_of_le hgb h)))
          have hXn2 : ∀ x ∈ b2, x ≠ U1.heap.size := fun x hx => (hm x hx).elim (fun h => hXn x h) (fun h => h.elim (fun h => by cases h) (fun h => Nat.ne_of_gt (Nat.lt_of_lt_of_le hXb h)))
          replace hbx := Bx.tch hT hgb (fun h => hnb _ h rfl) hbx
          replace hgb : U11.heap.size < U18.heap.size := Nat.lt_of_lt_of_le hgb hT.size
          replace hX := Src.tch hX hT (fun h => hXn _ h rfl) (fun b h => by cases h)
          replace hXb : U1.heap.size < U18.heap.size := Nat.lt_of_lt_of_le hXb hT.size
          refine hK9.out _ _ (fun _ => ?_) (fun hS9 => ?_)
          · (try dsimp only); exact ⟨hS.1.trans (hT.below hlo (fun x hx => (hO.lts x hx).1)), cellc hT hS.2.1 (fun hm9 => by have := (hO.lts _ hm9).1; (try simp at this); omega), cellc hT hS.2.2 (fun hm9 => by have := (hO.lts _ hm9).1; (try simp at this); omega)⟩
          replace hS := hS9 (by decide)
          clear hK9 K9 hS9
          try simp only [Act.put, List.setIfInBounds_toArray, List.set_cons_zero, List.set_cons_succ]
          replace hlo : w.heap.size + 2 ≤ U18.heap.size := Nat.le_trans hlo hT.size
          clear hO hT hm
          have hO := hO2
          clear hO2
          clear hnb
          have hnb := hnb2
          clear hnb2
          clear hXn
          have hXn := hXn2
          clear hXn2
          refine late_one (i := 8) rfl (by kernel_rfl) (fun K9 hK9 => ?_)
          refine step_append rfl _ _ 52 rfl 9 i0 (.string ByteArray.empty) 16 Try.underlying52 hi hz0 hz1 hz2 rfl (lo := w.heap.size + 2) (bs := b2) (xs := d.Lines) rfl ?own (b2 := []) (ys := [s]) rfl ?src List.nodup_nil ?f2 ?q2 ?q3 ?q4 ?_
          case own => exact hO
          case src => exact hX
          case f2 => simp
          case q2 => simp; omega
          case q3 => simp; omega
          case q4 => exact hlo
          intro p3 c3 U19 b3 hO2 hT hm
          simp only [List.length_cons, List.length_nil, Nat.zero_add] at hO2 ⊢
          have hnb2 : ∀ x ∈ b3, x ≠ U11.heap.size := fun x hx => (hm x hx).elim (fun h => hnb x h) (fun h => h.elim (fun h => by cases h) (fun h => Nat.ne_of_gt (Nat.lt_of_lt_of_le hgb h)))
          have hXn2 : ∀ x ∈ b3, x ≠ U1.heap.size := fun x hx => (hm x hx).elim (fun h => hXn x h) (fun h => h.elim (fun h => by cases h) (fun h => Nat.ne_of_gt (Nat.lt_of_lt_of_le hXb h)))
          replace hbx := Bx.tch hT hgb (fun h => hnb _ h rfl) hbx
          replace hgb : U11.heap.size < U19.heap.size := Nat.lt_of_lt_of_le hgb hT.size
          replace hX := Src.tch hX hT (fun h => hXn _ h rfl) (fun b h => by cases h)
          replace hXb : U1.heap.size < U19.heap.size := Nat.lt_of_lt_of_le hXb hT.size
          refine hK9.out _ _ (fun _ => ?_) (fun hS9 => ?_)
          · (try dsimp only); exact ⟨hS.1.trans (hT.below hlo (fun x hx => (hO.lts x hx).1)), cellc hT hS.2.1 (fun hm9 => by have := (hO.lts _ hm9).1; (try simp at this); omega), cellc hT hS.2.2 (fun hm9 => by have := (hO.lts _ hm9).1; (try simp at this); omega)⟩
          replace hS := hS9 (by decide)
          clear hK9 K9 hS9
          try simp only [Act.put, List.setIfInBounds_toArray, List.set_cons_zero, List.set_cons_succ]
          replace hlo : w.heap.size + 2 ≤ U19.heap.size := Nat.le_trans hlo hT.size
          clear hO hT hm
          have hO := hO2
          clear hO2
          clear hnb
          have hnb := hnb2
          clear hnb2
          clear hXn
          have hXn := hXn2
          clear hXn2
          refine late_take (i := 9) (v := ?_) rfl (by kernel_rfl) (fun _ _ _ h => h) (by rfl) ?_ (by assumption) ?_
          rotate_left
          · (intro w9 hS9; (try dsimp only at hS9); (try go_split_ands); go_simp <;> with_reducible rfl)
          try simp only [Act.put, List.setIfInBounds_toArray, List.set_cons_zero, List.set_cons_succ]
          refine late_one (i := 11) rfl (by kernel_rfl) (fun K9 hK9 => ?_)
          have bo := hbx.out; have bf := hbx.fr
          go_simp
          refine hK9.out _ _ (fun h => absurd rfl h) (fun _ => ?_)
          clear hK9 K9
          try simp only [Act.put, List.setIfInBounds_toArray, List.set_cons_zero, List.set_cons_succ]
          refine late_done (by kernel_rfl) ?_ _
          go_wp2_with fail
          go_meet
          refine ⟨_, _, _, _, rfl, ?_, (hO.setCell (fun b hb => hnb b hb) _).setCell (fun b hb => hnb b hb) _, hnb, hgl, ?_, ?_⟩
          · exact (Bx.setSame (Bx.setSame hbx 0 _) 1 _)
          · simpa using hgb
          · exact (hS.1.setCell (by exact hgl) _).setCell (by exact hgl) _
      · skip
        go_simp
        refine late_gen (fun U20 hU => ?_)
        have hst : Below U1.heap.size U1 U20 := by rw [hU]; exact (Below.refl _ _).alloc (Nat.le_refl _) _
        have hbx9 : Bx U20 U1.heap.size #[.int .i64 0, .slice none 0 0] := by rw [hU]; exact Bx.new _ _ _ rfl
        have hgb9 : U1.heap.size < U20.heap.size := by rw [hU]; simp
        have hgl : w.heap.size + 2 ≤ U1.heap.size := hlo
        have hnb : ∀ b ∈ [U0.heap.size], b ≠ U1.heap.size := fun b hb => Nat.ne_of_lt (hO.lts b hb).2
        replace hO := hO.grow hst
        have hbx := hbx9; have hgb := hgb9; clear hbx9 hgb9
        clear hU
        refine hK9.out _ _ (fun _ => ?_) (fun hS9 => ?_)
        · (try dsimp only); exact ⟨hS.1.trans (hst.mono hlo), cellc (Tch.of_below (bs := []) hst) hS.2.1 (by simp), cellc (Tch.of_below (bs := []) hst) hS.2.2 (by simp)⟩
        replace hS := hS9 (by decide)
        clear hK9 K9 hS9
        try simp only [Act.put, List.setIfInBounds_toArray, List.set_cons_zero, List.set_cons_succ]
        replace hlo : w.heap.size + 2 ≤ U20.heap.size := Nat.le_trans hlo hst.size
        clear hst
        refine late_two (i := 5) (j := 7) rfl rfl (by kernel_rfl) (fun K9 hK9 => ?_) (fun K9 hK9 => ?_)
        · skip
          refine step_append rfl _ _ 52 rfl 9 i0 (.string ByteArray.empty) 16 Try.underlying52 hi hz0 hz1 hz2 rfl (lo := w.heap.size + 2) (bs := [U0.heap.size]) (xs := ([] : List ByteArray)) rfl ?own (b2 := []) (ys := d.Lines) rfl ?src List.nodup_nil ?f2 ?q2 ?q3 ?q4 ?_
          case own => exact hO
          case src => exact Slc.src (H1.out.grow (HB.out.trans (hS.1.mono (by omega))))
          case f2 => simp
          case q2 => simp; omega
          case q3 => simp; omega
          case q4 => exact hlo
          intro p2 c2 U21 b2 hO2 hT hm
          simp only [List.nil_append, List.length_nil, Nat.zero_add] at hO2 ⊢
          have hnb2 : ∀ x ∈ b2, x ≠ U1.heap.size := fun x hx => (hm x hx).elim (fun h => hnb x h) (fun h => h.elim (fun h => by cases h) (fun h => Nat.ne_of_gt (Nat.lt_of_lt_of_le hgb h)))
          replace hbx := Bx.tch hT hgb (fun h => hnb _ h rfl) hbx
          replace hgb : U1.heap.size < U21.heap.size := Nat.lt_of_lt_of_le hgb hT.size
          refine hK9.out _ _ (fun _ => ?_) (fun hS9 => ?_)
          · (try dsimp only); exact ⟨hS.1.trans (hT.below hlo (fun x hx => (hO.lts x hx).1)), cellc hT hS.2.1 (fun hm9 => by have := (hO.lts _ hm9).1; (try simp at this); omega), cellc hT hS.2.2 (fun hm9 => by have := (hO.lts _ hm9).1; (try simp at this); omega)⟩
          replace hS := hS9 (by decide)
          clear hK9 K9 hS9
          try simp only [Act.put, List.setIfInBounds_toArray, List.set_cons_zero, List.set_cons_succ]
          replace hlo : w.heap.size + 2 ≤ U21.heap.size := Nat.le_trans hlo hT.size
          clear hO hT hm
          have hO := hO2
          clear hO2
          clear hnb
          have hnb := hnb2
          clear hnb2
          refine late_one (i := 7) rfl (by kernel_rfl) (fun K9 hK9 => ?_)
          go_simp
          refine late_gen (fun U22 hU => ?_)
          have hst : Below U21.heap.size U21 U22 := by rw [hU]; exact (Below.refl _ _).alloc (Nat.le_refl _) _
          have hX9 : Src U22 [] (some ⟨U21.heap.size, 0, none⟩) 1 1 [s] := by rw [hU]; exact src_new (pt_s hs) rfl _ _
          have hXb9 : U21.heap.size < U22.heap.size := by rw [hU]; simp
          have hXn : ∀ b ∈ b2, b ≠ U21.heap.size := fun b hb => Nat.ne_of_lt (hO.lts b hb).2
          replace hO := hO.grow hst
          replace hbx := Bx.below hst hgb hbx
          replace hgb : U1.heap.size < U22.heap.size := Nat.lt_of_lt_of_le hgb hst.size
          have hX := hX9; have hXb := hXb9; clear hX9 hXb9
          clear hU
          refine hK9.out _ _ (fun _ => ?_) (fun hS9 => ?_)
          · (try dsimp only); exact ⟨hS.1.trans (hst.mono hlo), cellc (Tch.of_below (bs := []) hst) hS.2.1 (by simp), cellc (Tch.of_below (bs := []) hst) hS.2.2 (by simp)⟩
          replace hS := hS9 (by decide)
          clear hK9 K9 hS9
          try simp only [Act.put, List.setIfInBounds_toArray, List.set_cons_zero, List.set_cons_succ]
          replace hlo : w.heap.size + 2 ≤ U22.heap.size := Nat.le_trans hlo hst.size
          clear hst
          refine late_one (i := 8) rfl (by kernel_rfl) (fun K9 hK9 => ?_)
          refine step_append rfl _ _ 52 rfl 9 i0 (.string ByteArray.empty) 16 Try.underlying52 hi hz0 hz1 hz2 rfl (lo := w.heap.size + 2) (bs := b2) (xs := d.Lines) rfl ?own (b2 := []) (ys := [s]) rfl ?src List.nodup_nil ?f2 ?q2 ?q3 ?q4 ?_
          case own => exact hO
          case src => exact hX
          case f2 => simp
          case q2 => simp; omega
          case q3 => simp; omega
          case q4 => exact hlo
          intro p3 c3 U23 b3 hO2 hT hm
          simp only [List.length_cons, List.length_nil, Nat.zero_add] at hO2 ⊢
          have hnb2 : ∀ x ∈ b3, x ≠ U1.heap.size := fun x hx => (hm x hx).elim (fun h => hnb x h) (fun h => h.elim (fun h => by cases h) (fun h => Nat.ne_of_gt (Nat.lt_of_lt_of_le hgb h)))
          have hXn2 : ∀ x ∈ b3, x ≠ U21.heap.size := fun x hx => (hm x hx).elim (fun h => hXn x h) (fun h => h.elim (fun h => by cases h) (fun h => Nat.ne_of_gt (Nat.lt_of_lt_of_le hXb h)))
          replace hbx := Bx.tch hT hgb (fun h => hnb _ h rfl) hbx
          replace hgb : U1.heap.size < U23.heap.size := Nat.lt_of_lt_of_le hgb hT.size
          replace hX := Src.tch hX hT (fun h => hXn _ h rfl) (fun b h => by cases h)
          replace hXb : U21.heap.size < U23.heap.size := Nat.lt_of_lt_of_le hXb hT.size
          refine hK9.out _ _ (fun _ => ?_) (fun hS9 => ?_)
          · (try dsimp only); exact ⟨hS.1.trans (hT.below hlo (fun x hx => (hO.lts x hx).1)), cellc hT hS.2.1 (fun hm9 => by have := (hO.lts _ hm9).1; (try simp at this); omega), cellc hT hS.2.2 (fun hm9 => by have := (hO.lts _ hm9).1; (try simp at this); omega)⟩
          replace hS := hS9 (by decide)
          clear hK9 K9 hS9
          try simp only [Act.put, List.setIfInBounds_toArray, List.set_cons_zero, List.set_cons_succ]
          replace hlo : w.heap.size + 2 ≤ U23.heap.size := Nat.le_trans hlo hT.size
          clear hO hT hm
          have hO := hO2
          clear hO2
          clear hnb
          have hnb := hnb2
          clear hnb2
          clear hXn
          have hXn := hXn2
          clear hXn2
          refine late_take (i := 9) (v := ?_) rfl (by kernel_rfl) (fun _ _ _ h => h) (by rfl) ?_ (by assumption) ?_
          rotate_left
          · (intro w9 hS9; (try dsimp only at hS9); (try go_split_ands); go_simp <;> with_reducible rfl)
          try simp only [Act.put, List.setIfInBounds_toArray, List.set_cons_zero, List.set_cons_succ]
          refine late_one (i := 11) rfl (by kernel_rfl) (fun K9 hK9 => ?_)
          have bo := hbx.out; have bf := hbx.fr
          go_simp
          refine hK9.out _ _ (fun h => absurd rfl h) (fun _ => ?_)
          clear hK9 K9
          try simp only [Act.put, List.setIfInBounds_toArray, List.set_cons_zero, List.set_cons_succ]
          refine late_done (by kernel_rfl) ?_ _
          go_wp2_with fail
          go_meet
          refine ⟨_, _, _, _, rfl, ?_, (hO.setCell (fun b hb => hnb b hb) _).setCell (fun b hb => hnb b hb) _, hnb, hgl, ?_, ?_⟩
          · exact (Bx.setSame (Bx.setSame hbx 0 _) 1 _)
          · simpa using hgb
          · exact (hS.1.setCell (by exact hgl) _).setCell (by exact hgl) _
        · skip
          go_simp
          refine late_gen (fun U24 hU => ?_)
          have hst : Below U20.heap.size U20 U24 := by rw [hU]; exact (Below.refl _ _).alloc (Nat.le_refl _) _
          have hX9 : Src U24 [] (some ⟨U20.heap.size, 0, none⟩) 1 1 [s] := by rw [hU]; exact src_new (pt_s hs) rfl _ _
          have hXb9 : U20.heap.size < U24.heap.size := by rw [hU]; simp
          have hXn : ∀ b ∈ [U0.heap.size], b ≠ U20.heap.size := fun b hb => Nat.ne_of_lt (hO.lts b hb).2
          replace hO := hO.grow hst
          replace hbx := Bx.below hst hgb hbx
          replace hgb : U1.heap.size < U24.heap.size := Nat.lt_of_lt_of_le hgb hst.size
          have hX := hX9; have hXb := hXb9; clear hX9 hXb9
          clear hU
          refine hK9.out _ _ (fun _ => ?_) (fun hS9 => ?_)
          · (try dsimp only); exact ⟨hS.1.trans (hst.mono hlo), cellc (Tch.of_below (bs := []) hst) hS.2.1 (by simp), cellc (Tch.of_below (bs := []) hst) hS.2.2 (by simp)⟩
          replace hS := hS9 (by decide)
          clear hK9 K9 hS9
          try simp only [Act.put, List.setIfInBounds_toArray, List.set_cons_zero, List.set_cons_succ]
          replace hlo : w.heap.size + 2 ≤ U24.heap.size := Nat.le_trans hlo hst.size
          clear hst
          refine late_one (i := 5) rfl (by kernel_rfl) (fun K9 hK9 => ?_)
          refine step_append rfl _ _ 52 rfl 9 i0 (.string ByteArray.empty) 16 Try.underlying52 hi hz0 hz1 hz2 rfl (lo := w.heap.size + 2) (bs := [U0.heap.size]) (xs := ([] : List ByteArray)) rfl ?own (b2 := []) (ys := d.Lines) rfl ?src List.nodup_nil ?f2 ?q2 ?q3 ?q4 ?_
          case own => exact hO
          case src => exact Slc.src (H1.out.grow (HB.out.trans (hS.1.mono (by omega))))
          case f2 => simp
          case q2 => simp; omega
          case q3 => simp; omega
          case q4 => exact hlo
          intro p2 c2 U25 b2 hO2 hT hm
          simp only [List.nil_append, List.length_nil, Nat.zero_add] at hO2 ⊢
          have hnb2 : ∀ x ∈ b2, x ≠ U1.heap.size := fun x hx => (hm x hx).elim (fun h => hnb x h) (fun h => h.elim (fun h => by cases h) (fun h => Nat.ne_of_gt (Nat.lt_of_lt_of_le hgb h)))
          have hXn2 : ∀ x ∈ b2, x ≠ U20.heap.size := fun x hx => (hm x hx).elim (fun h => hXn x h) (fun h => h.elim (fun h => by cases h) (fun h => Nat.ne_of_gt (Nat.lt_of_lt_of_le hXb h)))
          replace hbx := Bx.tch hT hgb (fun h => hnb _ h rfl) hbx
          replace hgb : U1.heap.size < U25.heap.size := Nat.lt_of_lt_of_le hgb hT.size
          replace hX := Src.tch hX hT (fun h => hXn _ h rfl) (fun b h => by cases h)
          replace hXb : U20.heap.size < U25.heap.size := Nat.lt_of_lt_of_le hXb hT.size
          refine hK9.out _ _ (fun _ => ?_) (fun hS9 => ?_)
          · (try dsimp only); exact ⟨hS.1.trans (hT.below hlo (fun x hx => (hO.lts x hx).1)), cellc hT hS.2.1 (fun hm9 => by have := (hO.lts _ hm9).1; (try simp at this); omega), cellc hT hS.2.2 (fun hm9 => by have := (hO.lts _ hm9).1; (try simp at this); omega)⟩
          replace hS := hS9 (by decide)
          clear hK9 K9 hS9
          try simp only [Act.put, List.setIfInBounds_toArray, List.set_cons_zero, List.set_cons_succ]
          replace hlo : w.heap.size + 2 ≤ U25.heap.size := Nat.le_trans hlo hT.size
          clear hO hT hm
          have hO := hO2
          clear hO2
          clear hnb
          have hnb := hnb2
          clear hnb2
          clear hXn
          have hXn := hXn2
          clear hXn2
          refine late_one (i := 8) rfl (by kernel_rfl) (fun K9 hK9 => ?_)
          refine step_append rfl _ _ 52 rfl 9 i0 (.string ByteArray.empty) 16 Try.underlying52 hi hz0 hz1 hz2 rfl (lo := w.heap.size + 2) (bs := b2) (xs := d.Lines) rfl ?own (b2 := []) (ys := [s]) rfl ?src List.nodup_nil ?f2 ?q2 ?q3 ?q4 ?_
          case own => exact hO
          case src => exact hX
          case f2 => simp
          case q2 => simp; omega
          case q3 => simp; omega
          case q4 => exact hlo
          intro p3 c3 U26 b3 hO2 hT hm
          simp only [List.length_cons, List.length_nil, Nat.zero_add] at hO2 ⊢
          have hnb2 : ∀ x ∈ b3, x ≠ U1.heap.size := fun x hx => (hm x hx).elim (fun h => hnb x h) (fun h => h.elim (fun h => by cases h) (fun h => Nat.ne_of_gt (Nat.lt_of_lt_of_le hgb h)))
          have hXn2 : ∀ x ∈ b3, x ≠ U20.heap.size := fun x hx => (hm x hx).elim (fun h => hXn x h) (fun h => h.elim (fun h => by cases h) (fun h => Nat.ne_of_gt (Nat.lt_of_lt_of_le hXb h)))
          replace hbx := Bx.tch hT hgb (fun h => hnb _ h rfl) hbx
          replace hgb : U1.heap.size < U26.heap.size := Nat.lt_of_lt_of_le hgb hT.size
          replace hX := Src.tch hX hT (fun h => hXn _ h rfl) (fun b h => by cases h)
          replace hXb : U20.heap.size < U26.heap.size := Nat.lt_of_lt_of_le hXb hT.size
          refine hK9.out _ _ (fun _ => ?_) (fun hS9 => ?_)
          · (try dsimp only); exact ⟨hS.1.trans (hT.below hlo (fun x hx => (hO.lts x hx).1)), cellc hT hS.2.1 (fun hm9 => by have := (hO.lts _ hm9).1; (try simp at this); omega), cellc hT hS.2.2 (fun hm9 => by have := (hO.lts _ hm9).1; (try simp at this); omega)⟩
          replace hS := hS9 (by decide)
          clear hK9 K9 hS9
          try simp only [Act.put, List.setIfInBounds_toArray, List.set_cons_zero, List.set_cons_succ]
          replace hlo : w.heap.size + 2 ≤ U26.heap.size := Nat.le_trans hlo hT.size
          clear hO hT hm
          have hO := hO2
          clear hO2
          clear hnb
          have hnb := hnb2
          clear hnb2
          clear hXn
          have hXn := hXn2
          clear hXn2
          refine late_take (i := 9) (v := ?_) rfl (by kernel_rfl) (fun _ _ _ h => h) (by rfl) ?_ (by assumption) ?_
          rotate_left
          · (intro w9 hS9; (try dsimp only at hS9); (try go_split_ands); go_simp <;> with_reducible rfl)
          try simp only [Act.put, List.setIfInBounds_toArray, List.set_cons_zero, List.set_cons_succ]
          refine late_one (i := 11) rfl (by kernel_rfl) (fun K9 hK9 => ?_)
          have bo := hbx.out; have bf := hbx.fr
          go_simp
          refine hK9.out _ _ (fun h => absurd rfl h) (fun _ => ?_)
          clear hK9 K9
          try simp only [Act.put, List.setIfInBounds_toArray, List.set_cons_zero, List.set_cons_succ]
          refine late_done (by kernel_rfl) ?_ _
          go_wp2_with fail
          go_meet
          refine ⟨_, _, _, _, rfl, ?_, (hO.setCell (fun b hb => hnb b hb) _).setCell (fun b hb => hnb b hb) _, hnb, hgl, ?_, ?_⟩
          · exact (Bx.setSame (Bx.setSame hbx 0 _) 1 _)
          · simpa using hgb
          · exact (hS.1.setCell (by exact hgl) _).setCell (by exact hgl) _
    · skip
      go_simp
      refine late_gen (fun U27 hU => ?_)
      have hst : Below U0.heap.size U0 U27 := by rw [hU]; exact (Below.refl _ _).alloc (Nat.le_refl _) _
      have hX9 : Src U27 [] (some ⟨U0.heap.size, 0, none⟩) 1 1 [s] := by rw [hU]; exact src_new (pt_s hs) rfl _ _
      have hXb9 : U0.heap.size < U27.heap.size := by rw [hU]; simp
      have hX := hX9; have hXb := hXb9; clear hX9 hXb9
      clear hU
      refine hK9.out _ _ (fun _ => ?_) (fun hS9 => ?_)
      · (try dsimp only); exact ⟨hS.1.trans (hst.mono hlo), cellc (Tch.of_below (bs := []) hst) hS.2.1 (by simp), cellc (Tch.of_below (bs := []) hst) hS.2.2 (by simp)⟩
      replace hS := hS9 (by decide)
      clear hK9 K9 hS9
      try simp only [Act.put, List.setIfInBounds_toArray, List.set_cons_zero, List.set_cons_succ]
      replace hlo : w.heap.size + 2 ≤ U27.heap.size := Nat.le_trans hlo hst.size
      clear hst
      refine late_two (i := 2) (j := 10) rfl rfl (by kernel_rfl) (fun K9 hK9 => ?_) (fun K9 hK9 => ?_)
      · skip
        go_simp
        refine late_gen (fun U28 hU => ?_)
        have hst : Below U27.heap.size U27 U28 := by rw [hU]; exact (Below.refl _ _).alloc (Nat.le_refl _) _
        have hO : OwnL (w.heap.size + 2) U28 9 (.slice (some ⟨U27.heap.size, 0, none⟩) 0 0) [U27.heap.size] ([] : List ByteArray) := by rw [hU]; exact ownL_empty rfl hlo
        have hXn : ∀ b ∈ [U27.heap.size], b ≠ U0.heap.size := fun b hb => by rw [List.mem_singleton.1 hb]; exact Nat.ne_of_gt hXb
        replace hX := hX.grow hst
        replace hXb : U0.heap.size < U28.heap.size := Nat.lt_of_lt_of_le hXb hst.size
        clear hU
        refine hK9.out _ _ (fun _ => ?_) (fun hS9 => ?_)
        · (try dsimp only); exact ⟨hS.1.trans (hst.mono hlo), cellc (Tch.of_below (bs := []) hst) hS.2.1 (by simp), cellc (Tch.of_below (bs := []) hst) hS.2.2 (by simp)⟩
        replace hS := hS9 (by decide)
        clear hK9 K9 hS9
        try simp only [Act.put, List.setIfInBounds_toArray, List.set_cons_zero, List.set_cons_succ]
        replace hlo : w.heap.size + 2 ≤ U28.heap.size := Nat.le_trans hlo hst.size
        clear hst
        refine late_two (i := 5) (j := 10) rfl rfl (by kernel_rfl) (fun K9 hK9 => ?_) (fun K9 hK9 => ?_)
        · skip
          refine step_append rfl _ _ 52 rfl 9 i0 (.string ByteArray.empty) 16 Try.underlying52 hi hz0 hz1 hz2 rfl (lo := w.heap.size + 2) (bs := [U27.heap.size]) (xs := ([] : List ByteArray)) rfl ?own (b2 := []) (ys := d.Lines) rfl ?src List.nodup_nil ?f2 ?q2 ?q3 ?q4 ?_
          case own => exact hO
          case src => exact Slc.src (H1.out.grow (HB.out.trans (hS.1.mono (by omega))))
          case f2 => simp
          case q2 => simp; omega
          case q3 => simp; omega
          case q4 => exact hlo
          intro p2 c2 U29 b2 hO2 hT hm
          simp only [List.nil_append, List.length_nil, Nat.zero_add] at hO2 ⊢
          have hXn2 : ∀ x ∈ b2, x ≠ U0.heap.size := fun x hx => (hm x hx).elim (fun h => hXn x h) (fun h => h.elim (fun h => by cases h) (fun h => Nat.ne_of_gt (Nat.lt_of_lt_of_le hXb h)))
          replace hX := Src.tch hX hT (fun h => hXn _ h rfl) (fun b h => by cases h)
          replace hXb : U0.heap.size < U29.heap.size := Nat.lt_of_lt_of_le hXb hT.size
          refine hK9.out _ _ (fun _ => ?_) (fun hS9 => ?_)
          · (try dsimp only); exact ⟨hS.1.trans (hT.below hlo (fun x hx => (hO.lts x hx).1)), cellc hT hS.2.1 (fun hm9 => by have := (hO.lts _ hm9).1; (try simp at this); omega), cellc hT hS.2.2 (fun hm9 => by have := (hO.lts _ hm9).1; (try simp at this); omega)⟩
          replace hS := hS9 (by decide)
          clear hK9 K9 hS9
          try simp only [Act.put, List.setIfInBounds_toArray, List.set_cons_zero, List.set_cons_succ]
          replace hlo : w.heap.size + 2 ≤ U29.heap.size := Nat.le_trans hlo hT.size
          clear hO hT hm
          have hO := hO2
          clear hO2
          clear hXn
          have hXn := hXn2
          clear hXn2
          refine late_two (i := 8) (j := 10) rfl rfl (by kernel_rfl) (fun K9 hK9 => ?_) (fun K9 hK9 => ?_)
          · skip
            refine step_append rfl _ _ 52 rfl 9 i0 (.string ByteArray.empty) 16 Try.underlying52 hi hz0 hz1 hz2 rfl (lo := w.heap.size + 2) (bs := b2) (xs := d.Lines) rfl ?own (b2 := []) (ys := [s]) rfl ?src List.nodup_nil ?f2 ?q2 ?q3 ?q4 ?_
            case own => exact hO
            case src => exact hX
            case f2 => simp
            case q2 => simp; omega
            case q3 => simp; omega
            case q4 => exact hlo
            intro p3 c3 U30 b3 hO2 hT hm
            simp only [List.length_cons, List.length_nil, Nat.zero_add] at hO2 ⊢
            have hXn2 : ∀ x ∈ b3, x ≠ U0.heap.size := fun x hx => (hm x hx).elim (fun h => hXn x h) (fun h => h.elim (fun h => by cases h) (fun h => Nat.ne_of_gt (Nat.lt_of_lt_of_le hXb h)))
            replace hX := Src.tch hX hT (fun h => hXn _ h rfl) (fun b h => by cases h)
            replace hXb : U0.heap.size < U30.heap.size := Nat.lt_of_lt_of_le hXb hT.size
            refine hK9.out _ _ (fun _ => ?_) (fun hS9 => ?_)
            · (try dsimp only); exact ⟨hS.1.trans (hT.below hlo (fun x hx => (hO.lts x hx).1)), cellc hT hS.2.1 (fun hm9 => by have := (hO.lts _ hm9).1; (try simp at this); omega), cellc hT hS.2.2 (fun hm9 => by have := (hO.lts _ hm9).1; (try simp at this); omega)⟩
            replace hS := hS9 (by decide)
            clear hK9 K9 hS9
            try simp only [Act.put, List.setIfInBounds_toArray, List.set_cons_zero, List.set_cons_succ]
            replace hlo : w.heap.size + 2 ≤ U30.heap.size := Nat.le_trans hlo hT.size
            clear hO hT hm
            have hO := hO2
            clear hO2
            clear hXn
            have hXn := hXn2
            clear hXn2
            refine late_take (i := 9) (v := ?_) rfl (by kernel_rfl) (fun _ _ _ h => h) (by rfl) ?_ (by assumption) ?_
            rotate_left
            · (intro w9 hS9; (try dsimp only at hS9); (try go_split_ands); go_simp <;> with_reducible rfl)
            try simp only [Act.put, List.setIfInBounds_toArray, List.set_cons_zero, List.set_cons_succ]
            refine late_one (i := 10) rfl (by kernel_rfl) (fun K9 hK9 => ?_)
            go_simp
            refine late_gen (fun U31 hU => ?_)
            have hst : Below U30.heap.size U30 U31 := by rw [hU]; exact (Below.refl _ _).alloc (Nat.le_refl _) _
            have hbx9 : Bx U31 U30.heap.size #[.int .i64 0, .slice none 0 0] := by rw [hU]; exact Bx.new _ _ _ rfl
            have hgb9 : U30.heap.size < U31.heap.size := by rw [hU]; simp
            have hgl : w.heap.size + 2 ≤ U30.heap.size := hlo
            have hnb : ∀ b ∈ b3, b ≠ U30.heap.size := fun b hb => Nat.ne_of_lt (hO.lts b hb).2
            replace hO := hO.grow hst
            replace hX := hX.grow hst
            replace hXb : U0.heap.size < U31.heap.size := Nat.lt_of_lt_of_le hXb hst.size
            have hbx := hbx9; have hgb := hgb9; clear hbx9 hgb9
            clear hU
            refine hK9.out _ _ (fun _ => ?_) (fun hS9 => ?_)
            · (try dsimp only); exact ⟨hS.1.trans (hst.mono hlo), cellc (Tch.of_below (bs := []) hst) hS.2.1 (by simp), cellc (Tch.of_below (bs := []) hst) hS.2.2 (by simp)⟩
            replace hS := hS9 (by decide)
            clear hK9 K9 hS9
            try simp only [Act.put, List.setIfInBounds_toArray, List.set_cons_zero, List.set_cons_succ]
            replace hlo : w.heap.size + 2 ≤ U31.heap.size := Nat.le_trans hlo hst.size
            clear hst
            refine late_one (i := 11) rfl (by kernel_rfl) (fun K9 hK9 => ?_)
            have bo := hbx.out; have bf := hbx.fr
            go_simp
            refine hK9.out _ _ (fun h => absurd rfl h) (fun _ => ?_)
            clear hK9 K9
            try simp only [Act.put, List.setIfInBounds_toArray, List.set_cons_zero, List.set_cons_succ]
            refine late_done (by kernel_rfl) ?_ _
            go_wp2_with fail
            go_meet
            refine ⟨_, _, _, _, rfl, ?_, (hO.setCell (fun b hb => hnb b hb) _).setCell (fun b hb => hnb b hb) _, hnb, hgl, ?_, ?_⟩
            · exact (Bx.setSame (Bx.setSame hbx 0 _) 1 _)
            · simpa using hgb
            · exact (hS.1.setCell (by exact hgl) _).setCell (by exact hgl) _
          · skip
            go_simp
            refine late_gen (fun U32 hU => ?_)
            have hst : Below U29.heap.size U29 U32 := by rw [hU]; exact (Below.refl _ _).alloc (Nat.le_refl _) _
            have hbx9 : Bx U32 U29.heap.size #[.int .i64 0, .slice none 0 0] := by rw [hU]; exact Bx.new _ _ _ rfl
            have hgb9 : U29.heap.size < U32.heap.size := by rw [hU]; simp
            have hgl : w.heap.size + 2 ≤ U29.heap.size := hlo
            have hnb : ∀ b ∈ b2, b ≠ U29.heap.size := fun b hb => Nat.ne_of_lt (hO.lts b hb).2
            replace hO := hO.grow hst
            replace hX := hX.grow hst
            replace hXb : U0.heap.size < U32.heap.size := Nat.lt_of_lt_of_le hXb hst.size
            have hbx := hbx9; have hgb := hgb9; clear hbx9 hgb9
            clear hU
            refine hK9.out _ _ (fun _ => ?_) (fun hS9 => ?_)
            · (try dsimp only); exact ⟨hS.1.trans (hst.mono hlo), cellc (Tch.of_below (bs := []) hst) hS.2.1 (by simp), cellc (Tch.of_below (bs := []) hst) hS.2.2 (by simp)⟩
            replace hS := hS9 (by decide)
            clear hK9 K9 hS9
            try simp only [Act.put, List.setIfInBounds_toArray, List.set_cons_zero, List.set_cons_succ]
            replace hlo : w.heap.size + 2 ≤ U32.heap.size := Nat.le_trans hlo hst.size
            clear hst
            refine late_one (i := 8) rfl (by kernel_rfl) (fun K9 hK9 => ?_)
            refine step_append rfl _ _ 52 rfl 9 i0 (.string ByteArray.empty) 16 Try.underlying52 hi hz0 hz1 hz2 rfl (lo := w.heap.size + 2) (bs := b2) (xs := d.Lines) rfl ?own (b2 := []) (ys := [s]) rfl ?src List.nodup_nil ?f2 ?q2 ?q3 ?q4 ?_
            case own => exact hO
            case src => exact hX
            case f2 => simp
            case q2 => simp; omega
            case q3 => simp; omega
            case q4 => exact hlo
            intro p3 c3 U33 b3 hO2 hT hm
            simp only [List.length_cons, List.length_nil, Nat.zero_add] at hO2 ⊢
            have hnb2 : ∀ x ∈ b3, x ≠ U29.heap.size := fun x hx => (hm x hx).elim (fun h => hnb x h) (fun h => h.elim (fun h => by cases h) (fun h => Nat.ne_of_gt (Nat.lt_of_lt_of_le hgb h)))
            have hXn2 : ∀ x ∈ b3, x ≠ U0.heap.size := fun x hx => (hm x hx).elim (fun h => hXn x h) (fun h => h.elim (fun h => by cases h) (fun h => Nat.ne_of_gt (Nat.lt_of_lt_of_le hXb h)))
            replace hbx := Bx.tch hT hgb (fun h => hnb _ h rfl) hbx
            replace hgb : U29.heap.size < U33.heap.size := Nat.lt_of_lt_of_le hgb hT.size
            replace hX := Src.tch hX hT (fun h => hXn _ h rfl) (fun b h => by cases h)
            replace hXb : U0.heap.size < U33.heap.size := Nat.lt_of_lt_of_le hXb hT.size
            refine hK9.out _ _ (fun _ => ?_) (fun hS9 => ?_)
            · (try dsimp only); exact ⟨hS.1.trans (hT.below hlo (fun x hx => (hO.lts x hx).1)), cellc hT hS.2.1 (fun hm9 => by have := (hO.lts _ hm9).1; (try simp at this); omega), cellc hT hS.2.2 (fun hm9 => by have := (hO.lts _ hm9).1; (try simp at this); omega)⟩
            replace hS := hS9 (by decide)
            clear hK9 K9 hS9
            try simp only [Act.put, List.setIfInBounds_toArray, List.set_cons_zero, List.set_cons_succ]
            replace hlo : w.heap.size + 2 ≤ U33.heap.size := Nat.le_trans hlo hT.size
            clear hO hT hm
            have hO := hO2
            clear hO2
            clear hnb
            have hnb := hnb2
            clear hnb2
            clear hXn
            have hXn := hXn2
            clear hXn2
            refine late_take (i := 9) (v := ?_) rfl (by kernel_rfl) (fun _ _ _ h => h) (by rfl) ?_ (by assumption) ?_
            rotate_left
            · (intro w9 hS9; (try dsimp only at hS9); (try go_split_ands); go_simp <;> with_reducible rfl)
            try simp only [Act.put, List.setIfInBounds_toArray, List.set_cons_zero, List.set_cons_succ]
            refine late_one (i := 11) rfl (by kernel_rfl) (fun K9 hK9 => ?_)
            have bo := hbx.out; have bf := hbx.fr
            go_simp
            refine hK9.out _ _ (fun h => absurd rfl h) (fun _ => ?_)
            clear hK9 K9
            try simp only [Act.put, List.setIfInBounds_toArray, List.set_cons_zero, List.set_cons_succ]
            refine late_done (by kernel_rfl) ?_ _
            go_wp2_with fail
            go_meet
            refine ⟨_, _, _, _, rfl, ?_, (hO.setCell (fun b hb => hnb b hb) _).setCell (fun b hb => hnb b hb) _, hnb, hgl, ?_, ?_⟩
            · exact (Bx.setSame (Bx.setSame hbx 0 _) 1 _)
            · simpa using hgb
            · exact (hS.1.setCell (by exact hgl) _).setCell (by exact hgl) _
        · skip
          go_simp
          refine late_gen (fun U34 hU => ?_)
          have hst : Below U28.heap.size U28 U34 := by rw [hU]; exact (Below.refl _ _).alloc (Nat.le_refl _) _
          have hbx9 : Bx U34 U28.heap.size #[.int .i64 0, .slice none 0 0] := by rw [hU]; exact Bx.new _ _ _ rfl
          have hgb9 : U28.heap.size < U34.heap.size := by rw [hU]; simp
          have hgl : w.heap.size + 2 ≤ U28.heap.size := hlo
          have hnb : ∀ b ∈ [U27.heap.size], b ≠ U28.heap.size := fun b hb => Nat.ne_of_lt (hO.lts b hb).2
          replace hO := hO.grow hst
          replace hX := hX.grow hst
          replace hXb : U0.heap.size < U34.heap.size := Nat.lt_of_lt_of_le hXb hst.size
          have hbx := hbx9; have hgb := hgb9; clear hbx9 hgb9
          clear hU
          refine hK9.out _ _ (fun _ => ?_) (fun hS9 => ?_)
          · (try dsimp only); exact ⟨hS.1.trans (hst.mono hlo), cellc (Tch.of_below (bs := []) hst) hS.2.1 (by simp), cellc (Tch.of_below (bs := []) hst) hS.2.2 (by simp)⟩
          replace hS := hS9 (by decide)
          clear hK9 K9 hS9
          try simp only [Act.put, List.setIfInBounds_toArray, List.set_cons_zero, List.set_cons_succ]
          replace hlo : w.heap.size + 2 ≤ U34.heap.size := Nat.le_trans hlo hst.size
          clear hst
          refine late_one (i := 5) rfl (by kernel_rfl) (fun K9 hK9 => ?_)
          refine step_append rfl _ _ 52 rfl 9 i0 (.string ByteArray.empty) 16 Try.underlying52 hi hz0 hz1 hz2 rfl (lo := w.heap.size + 2) (bs := [U27.heap.size]) (xs := ([] : List ByteArray)) rfl ?own (b2 := []) (ys := d.Lines) rfl ?src List.nodup_nil ?f2 ?q2 ?q3 ?q4 ?_
          case own => exact hO
          case src => exact Slc.src (H1.out.grow (HB.out.trans (hS.1.mono (by omega))))
          case f2 => simp
          case q2 => simp; omega
          case q3 => simp; omega
          case q4 => exact hlo
          intro p2 c2 U35 b2 hO2 hT hm
          simp only [List.nil_append, List.length_nil, Nat.zero_add] at hO2 ⊢
          have hnb2 : ∀ x ∈ b2, x ≠ U28.heap.size := fun x hx => (hm x hx).elim (fun h => hnb x h) (fun h => h.elim (fun h => by cases h) (fun h => Nat.ne_of_gt (Nat.lt_of_lt_of_le hgb h)))
          have hXn2 : ∀ x ∈ b2, x ≠ U0.heap.size := fun x hx => (hm x hx).elim (fun h => hXn x h) (fun h => h.elim (fun h => by cases h) (fun h => Nat.ne_of_gt (Nat.lt_of_lt_of_le hXb h)))
          replace hbx := Bx.tch hT hgb (fun h => hnb _ h rfl) hbx
          replace hgb : U28.heap.size < U35.heap.size := Nat.lt_of_lt_of_le hgb hT.size
          replace hX := Src.tch hX hT (fun h => hXn _ h rfl) (fun b h => by cases h)
          replace hXb : U0.heap.size < U35.heap.size := Nat.lt_of_lt_of_le hXb hT.size
          refine hK9.out _ _ (fun _ => ?_) (fun hS9 => ?_)
          · (try dsimp only); exact ⟨hS.1.trans (hT.below hlo (fun x hx => (hO.lts x hx).1)), cellc hT hS.2.1 (fun hm9 => by have := (hO.lts _ hm9).1; (try simp at this); omega), cellc hT hS.2.2 (fun hm9 => by have := (hO.lts _ hm9).1; (try simp at this); omega)⟩
          replace hS := hS9 (by decide)
          clear hK9 K9 hS9
          try simp only [Act.put, List.setIfInBounds_toArray, List.set_cons_zero, List.set_cons_succ]
          replace hlo : w.heap.size + 2 ≤ U35.heap.size := Nat.le_trans hlo hT.size
          clear hO hT hm
          have hO := hO2
          clear hO2
          clear hnb
          have hnb := hnb2
          clear hnb2
          clear hXn
          have hXn := hXn2
          clear hXn2
          refine late_one (i := 8) rfl (by kernel_rfl) (fun K9 hK9 => ?_)
          refine step_append rfl _ _ 52 rfl 9 i0 (.string ByteArray.empty) 16 Try.underlying52 hi hz0 hz1 hz2 rfl (lo := w.heap.size + 2) (bs := b2) (xs := d.Lines) rfl ?own (b2 := []) (ys := [s]) rfl ?src List.nodup_nil ?f2 ?q2 ?q3 ?q4 ?_
          case own => exact hO
          case src => exact hX
          case f2 => simp
          case q2 => simp; omega
          case q3 => simp; omega
          case q4 => exact hlo
          intro p3 c3 U36 b3 hO2 hT hm
          simp only [List.length_cons, List.length_nil, Nat.zero_add] at hO2 ⊢
          have hnb2 : ∀ x ∈ b3, x ≠ U28.heap.size := fun x hx => (hm x hx).elim (fun h => hnb x h) (fun h => h.elim (fun h => by cases h) (fun h => Nat.ne_of_gt (Nat.lt_of_lt_of_le hgb h)))
          have hXn2 : ∀ x ∈ b3, x ≠ U0.heap.size := fun x hx => (hm x hx).elim (fun h => hXn x h) (fun h => h.elim (fun h => by cases h) (fun h => Nat.ne_of_gt (Nat.lt_of_lt_of_le hXb h)))
          replace hbx := Bx.tch hT hgb (fun h => hnb _ h rfl) hbx
          replace hgb : U28.heap.size < U36.heap.size := Nat.lt_of_lt_of_le hgb hT.size
          replace hX := Src.tch hX hT (fun h => hXn _ h rfl) (fun b h => by cases h)
          replace hXb : U0.heap.size < U36.heap.size := Nat.lt_of_lt_of_le hXb hT.size
          refine hK9.out _ _ (fun _ => ?_) (fun hS9 => ?_)
          · (try dsimp only); exact ⟨hS.1.trans (hT.below hlo (fun x hx => (hO.lts x hx).1)), cellc hT hS.2.1 (fun hm9 => by have := (hO.lts _ hm9).1; (try simp at this); omega), cellc hT hS.2.2 (fun hm9 => by have := (hO.lts _ hm9).1; (try simp at this); omega)⟩
          replace hS := hS9 (by decide)
          clear hK9 K9 hS9
          try simp only [Act.put, List.setIfInBounds_toArray, List.set_cons_zero, List.set_cons_succ]
          replace hlo : w.heap.size + 2 ≤ U36.heap.size := Nat.le_trans hlo hT.size
          clear hO hT hm
          have hO := hO2
          clear hO2
          clear hnb
          have hnb := hnb2
          clear hnb2
          clear hXn
          have hXn := hXn2
          clear hXn2
          refine late_take (i := 9) (v := ?_) rfl (by kernel_rfl) (fun _ _ _ h => h) (by rfl) ?_ (by assumption) ?_
          rotate_left
          · (intro w9 hS9; (try dsimp only at hS9); (try go_split_ands); go_simp <;> with_reducible rfl)
          try simp only [Act.put, List.setIfInBounds_toArray, List.set_cons_zero, List.set_cons_succ]
          refine late_one (i := 11) rfl (by kernel_rfl) (fun K9 hK9 => ?_)
          have bo := hbx.out; have bf := hbx.fr
          go_simp
          refine hK9.out _ _ (fun h => absurd rfl h) (fun _ => ?_)
          clear hK9 K9
          try simp only [Act.put, List.setIfInBounds_toArray, List.set_cons_zero, List.set_cons_succ]
          refine late_done (by kernel_rfl) ?_ _
          go_wp2_with fail
          go_meet
          refine ⟨_, _, _, _, rfl, ?_, (hO.setCell (fun b hb => hnb b hb) _).setCell (fun b hb => hnb b hb) _, hnb, hgl, ?_, ?_⟩
          · exact (Bx.setSame (Bx.setSame hbx 0 _) 1 _)
          · simpa using hgb
          · exact (hS.1.setCell (by exact hgl) _).setCell (by exact hgl) _
      · skip
        go_simp
        refine late_gen (fun U37 hU => ?_)
        have hst : Below U27.heap.size U27 U37 := by rw [hU]; exact (Below.refl _ _).alloc (Nat.le_refl _) _
        have hbx9 : Bx U37 U27.heap.size #[.int .i64 0, .slice none 0 0] := by rw [hU]; exact Bx.new _ _ _ rfl
        have hgb9 : U27.heap.size < U37.heap.size := by rw [hU]; simp
        have hgl : w.heap.size + 2 ≤ U27.heap.size := hlo
        replace hX := hX.grow hst
        replace hXb : U0.heap.size < U37.heap.size := Nat.lt_of_lt_of_le hXb hst.size
        have hbx := hbx9; have hgb := hgb9; clear hbx9 hgb9
        clear hU
        refine hK9.out _ _ (fun _ => ?_) (fun hS9 => ?_)
        · (try dsimp only); exact ⟨hS.1.trans (hst.mono hlo), cellc (Tch.of_below (bs := []) hst) hS.2.1 (by simp), cellc (Tch.of_below (bs := []) hst) hS.2.2 (by simp)⟩
        replace hS := hS9 (by decide)
        clear hK9 K9 hS9
        try simp only [Act.put, List.setIfInBounds_toArray, List.set_cons_zero, List.set_cons_succ]
        replace hlo : w.heap.size + 2 ≤ U37.heap.size := Nat.le_trans hlo hst.size
        clear hst
        refine late_one (i := 2) rfl (by kernel_rfl) (fun K9 hK9 => ?_)
        go_simp
        refine late_gen (fun U38 hU => ?_)
        have hst : Below U37.heap.size U37 U38 := by rw [hU]; exact (Below.refl _ _).alloc (Nat.le_refl _) _
        have hO : OwnL (w.heap.size + 2) U38 9 (.slice (some ⟨U37.heap.size, 0, none⟩) 0 0) [U37.heap.size] ([] : List ByteArray) := by rw [hU]; exact ownL_empty rfl hlo
        have hXn : ∀ b ∈ [U37.heap.size], b ≠ U0.heap.size := fun b hb => by rw [List.mem_singleton.1 hb]; exact Nat.ne_of_gt hXb
        have hnb : ∀ b ∈ [U37.heap.size], b ≠ U27.heap.size := fun b hb => by rw [List.mem_singleton.1 hb]; exact Nat.ne_of_gt hgb
        replace hX := hX.grow hst
        replace hXb : U0.heap.size < U38.heap.size := Nat.lt_of_lt_of_le hXb hst.size
        replace hbx := Bx.below hst hgb hbx
        replace hgb : U27.heap.size < U38.heap.size := Nat.lt_of_lt_of_le hgb hst.size
        clear hU
        refine hK9.out _ _ (fun _ => ?_) (fun hS9 => ?_)
        · (try dsimp only); exact ⟨hS.1.trans (hst.mono hlo), cellc (Tch.of_below (bs := []) hst) hS.2.1 (by simp), cellc (Tch.of_below (bs := []) hst) hS.2.2 (by simp)⟩
        replace hS := hS9 (by decide)
        clear hK9 K9 hS9
        try simp only [Act.put, List.setIfInBounds_toArray, List.set_cons_zero, List.set_cons_succ]
        replace hlo : w.heap.size + 2 ≤ U38.heap.size := Nat.le_trans hlo hst.size
        clear hst
        refine late_one (i := 5) rfl (by kernel_rfl) (fun K9 hK9 => ?_)
        refine step_append rfl _ _ 52 rfl 9 i0 (.string ByteArray.empty) 16 Try.underlying52 hi hz0 hz1 hz2 rfl (lo := w.heap.size + 2) (bs := [U37.heap.size]) (xs := ([] : List ByteArray)) rfl ?own (b2 := []) (ys := d.Lines) rfl ?src List.nodup_nil ?f2 ?q2 ?q3 ?q4 ?_
        case own => exact hO
        case src => exact Slc.src (H1.out.grow (HB.out.trans (hS.1.mono (by omega))))
        case f2 => simp
        case q2 => simp; omega
        case q3 => simp; omega
        case q4 => exact hlo
        intro p2 c2 U39 b2 hO2 hT hm
        simp only [List.nil_append, List.length_nil, Nat.zero_add] at hO2 ⊢
        have hnb2 : ∀ x ∈ b2, x ≠ U27.heap.size := fun x hx => (hm x hx).elim (fun h => hnb x h) (fun h => h.elim (fun h => by cases h) (fun h => Nat.ne_of_gt (Nat.lt_of_lt_of_le hgb h)))
        have hXn2 : ∀ x ∈ b2, x ≠ U0.heap.size := fun x hx => (hm x hx).elim (fun h => hXn x h) (fun h => h.elim (fun h => by cases h) (fun h => Nat.ne_of_gt (Nat.lt_of_lt_of_le hXb h)))
        replace hbx := Bx.tch hT hgb (fun h => hnb _ h rfl) hbx
        replace hgb : U27.heap.size < U39.heap.size := Nat.lt_of_lt_of_le hgb hT.size
        replace hX := Src.tch hX hT (fun h => hXn _ h rfl) (fun b h => by cases h)
        replace hXb : U0.heap.size < U39.heap.size := Nat.lt_of_lt_of_le hXb hT.size
        refine hK9.out _ _ (fun _ => ?_) (fun hS9 => ?_)
        · (try dsimp only); exact ⟨hS.1.trans (hT.below hlo (fun x hx => (hO.lts x hx).1)), cellc hT hS.2.1 (fun hm9 => by have := (hO.lts _ hm9).1; (try simp at this); omega), cellc hT hS.2.2 (fun hm9 => by have := (hO.lts _ hm9).1; (try simp at this); omega)⟩
        replace hS := hS9 (by decide)
        clear hK9 K9 hS9
        try simp only [Act.put, List.setIfInBounds_toArray, List.set_cons_zero, List.set_cons_succ]
        replace hlo : w.heap.size + 2 ≤ U39.heap.size := Nat.le_trans hlo hT.size
        clear hO hT hm
        have hO := hO2
        clear hO2
        clear hnb
        have hnb := hnb2
        clear hnb2
        clear hXn
        have hXn := hXn2
        clear hXn2
        refine late_one (i := 8) rfl (by kernel_rfl) (fun K9 hK9 => ?_)
        refine step_append rfl _ _ 52 rfl 9 i0 (.string ByteArray.empty) 16 Try.underlying52 hi hz0 hz1 hz2 rfl (lo := w.heap.size + 2) (bs := b2) (xs := d.Lines) rfl ?own (b2 := []) (ys := [s]) rfl ?src List.nodup_nil ?f2 ?q2 ?q3 ?q4 ?_
        case own => exact hO
        case src => exact hX
        case f2 => simp
        case q2 => simp; omega
        case q3 => simp; omega
        case q4 => exact hlo
        intro p3 c3 U40 b3 hO2 hT hm
        simp only [List.length_cons, List.length_nil, Nat.zero_add] at hO2 ⊢
        have hnb2 : ∀ x ∈ b3, x ≠ U27.heap.size := fun x hx => (hm x hx).elim (fun h => hnb x h) (fun h => h.elim (fun h => by cases h) (fun h => Nat.ne_of_gt (Nat.lt_of_lt_of_le hgb h)))
        have hXn2 : ∀ x ∈ b3, x ≠ U0.heap.size := fun x hx => (hm x hx).elim (fun h => hXn x h) (fun h => h.elim (fun h => by cases h) (fun h => Nat.ne_of_gt (Nat.lt_of_lt_of_le hXb h)))
        replace hbx := Bx.tch hT hgb (fun h => hnb _ h rfl) hbx
        replace hgb : U27.heap.size < U40.heap.size := Nat.lt_of_lt_of_le hgb hT.size
        replace hX := Src.tch hX hT (fun h => hXn _ h rfl) (fun b h => by cases h)
        replace hXb : U0.heap.size < U40.heap.size := Nat.lt_of_lt_of_le hXb hT.size
        refine hK9.out _ _ (fun _ => ?_) (fun hS9 => ?_)
        · (try dsimp only); exact ⟨hS.1.trans (hT.below hlo (fun x hx => (hO.lts x hx).1)), cellc hT hS.2.1 (fun hm9 => by have := (hO.lts _ hm9).1; (try simp at this); omega), cellc hT hS.2.2 (fun hm9 => by have := (hO.lts _ hm9).1; (try simp at this); omega)⟩
        replace hS := hS9 (by decide)
        clear hK9 K9 hS9
        try simp only [Act.put, List.setIfInBounds_toArray, List.set_cons_zero, List.set_cons_succ]
        replace hlo : w.heap.size + 2 ≤ U40.heap.size := Nat.le_trans hlo hT.size
        clear hO hT hm
        have hO := hO2
        clear hO2
        clear hnb
        have hnb := hnb2
        clear hnb2
        clear hXn
        have hXn := hXn2
        clear hXn2
        refine late_take (i := 9) (v := ?_) rfl (by kernel_rfl) (fun _ _ _ h => h) (by rfl) ?_ (by assumption) ?_
        rotate_left
        · (intro w9 hS9; (try dsimp only at hS9); (try go_split_ands); go_simp <;> with_reducible rfl)
        try simp only [Act.put, List.setIfInBounds_toArray, List.set_cons_zero, List.set_cons_succ]
        refine late_one (i := 11) rfl (by kernel_rfl) (fun K9 hK9 => ?_)
        have bo := hbx.out; have bf := hbx.fr
        go_simp
        refine hK9.out _ _ (fun h => absurd rfl h) (fun _ => ?_)
        clear hK9 K9
        try simp only [Act.put, List.setIfInBounds_toArray, List.set_cons_zero, List.set_cons_succ]
        refine late_done (by kernel_rfl) ?_ _
        go_wp2_with fail
        go_meet
        refine ⟨_, _, _, _, rfl, ?_, (hO.setCell (fun b hb => hnb b hb) _).setCell (fun b hb => hnb b hb) _, hnb, hgl, ?_, ?_⟩
        · exact (Bx.setSame (Bx.setSame hbx 0 _) 1 _)
        · simpa using hgb
        · exact (hS.1.setCell (by exact hgl) _).setCell (by exact hgl) _
    · skip
      go_simp
      refine late_gen (fun U41 hU => ?_)
      have hst : Below U0.heap.size U0 U41 := by rw [hU]; exact (Below.refl _ _).alloc (Nat.le_refl _) _
      have hbx9 : Bx U41 U0.heap.size #[.int .i64 0, .slice none 0 0] := by rw [hU]; exact Bx.new _ _ _ rfl
      have hgb9 : U0.heap.size < U41.heap.size := by rw [hU]; simp
      have hgl : w.heap.size + 2 ≤ U0.heap.size := hlo
      have hbx := hbx9; have hgb := hgb9; clear hbx9 hgb9
      clear hU
      refine hK9.out _ _ (fun _ => ?_) (fun hS9 => ?_)
      · (try dsimp only); exact ⟨hS.1.trans (hst.mono hlo), cellc (Tch.of_below (bs := []) hst) hS.2.1 (by simp), cellc (Tch.of_below (bs := []) hst) hS.2.2 (by simp)⟩
      replace hS := hS9 (by decide)
      clear hK9 K9 hS9
      try simp only [Act.put, List.setIfInBounds_toArray, List.set_cons_zero, List.set_cons_succ]
      replace hlo : w.heap.size + 2 ≤ U41.heap.size := Nat.le_trans hlo hst.size
      clear hst
      refine late_two (i := 2) (j := 7) rfl rfl (by kernel_rfl) (fun K9 hK9 => ?_) (fun K9 hK9 => ?_)
      · skip
        go_simp
        refine late_gen (fun U42 hU => ?_)
        have hst : Below U41.heap.size U41 U42 := by rw [hU]; exact (Below.refl _ _).alloc (Nat.le_refl _) _
        have hO : OwnL (w.heap.size + 2) U42 9 (.slice (some ⟨U41.heap.size, 0, none⟩) 0 0) [U41.heap.size] ([] : List ByteArray) := by rw [hU]; exact ownL_empty rfl hlo
        have hnb : ∀ b ∈ [U41.heap.size], b ≠ U0.heap.size := fun b hb => by rw [List.mem_singleton.1 hb]; exact Nat.ne_of_gt hgb
        replace hbx := Bx.below hst hgb hbx
        replace hgb : U0.heap.size < U42.heap.size := Nat.lt_of_lt_of_le hgb hst.size
        clear hU
        refine hK9.out _ _ (fun _ => ?_) (fun hS9 => ?_)
        · (try dsimp only); exact ⟨hS.1.trans (hst.mono hlo), cellc (Tch.of_below (bs := []) hst) hS.2.1 (by simp), cellc (Tch.of_below (bs := []) hst) hS.2.2 (by simp)⟩
        replace hS := hS9 (by decide)
        clear hK9 K9 hS9
        try simp only [Act.put, List.setIfInBounds_toArray, List.set_cons_zero, List.set_cons_succ]
        replace hlo : w.heap.size + 2 ≤ U42.heap.size := Nat.le_trans hlo hst.size
        clear hst
        refine late_two (i := 5) (j := 7) rfl rfl (by kernel_rfl) (fun K9 hK9 => ?_) (fun K9 hK9 => ?_)
        · skip
          refine step_append rfl _ _ 52 rfl 9 i0 (.string ByteArray.empty) 16 Try.underlying52 hi hz0 hz1 hz2 rfl (lo := w.heap.size + 2) (bs := [U41.heap.size]) (xs := ([] : List ByteArray)) rfl ?own (b2 := []) (ys := d.Lines) rfl ?src List.nodup_nil ?f2 ?q2 ?q3 ?q4 ?_
          case own => exact hO
          case src => exact Slc.src (H1.out.grow (HB.out.trans (hS.1.mono (by omega))))
          case f2 => simp
          case q2 => simp; omega
          case q3 => simp; omega
          case q4 => exact hlo
          intro p2 c2 U43 b2 hO2 hT hm
          simp only [List.nil_append, List.length_nil, Nat.zero_add] at hO2 ⊢
          have hnb2 : ∀ x ∈ b2, x ≠ U0.heap.size := fun x hx => (hm x hx).elim (fun h => hnb x h) (fun h => h.elim (fun h => by cases h) (fun h => Nat.ne_of_gt (Nat.lt_of_lt_of_le hgb h)))
          replace hbx := Bx.tch hT hgb (fun h => hnb _ h rfl) hbx
          replace hgb : U0.heap.size < U43.heap.size := Nat.lt_of_lt_of_le hgb hT.size
          refine hK9.out _ _ (fun _ => ?_) (fun hS9 => ?_)
          · (try dsimp only); exact ⟨hS.1.trans (hT.below hlo (fun x hx => (hO.lts x hx).1)), cellc hT hS.2.1 (fun hm9 => by have := (hO.lts _ hm9).1; (try simp at this); omega), cellc hT hS.2.2 (fun hm9 => by have := (hO.lts _ hm9).1; (try simp at this); omega)⟩
          replace hS := hS9 (by decide)
          clear hK9 K9 hS9
          try simp only [Act.put, List.setIfInBounds_toArray, List.set_cons_zero, List.set_cons_succ]
          replace hlo : w.heap.size + 2 ≤ U43.heap.size := Nat.le_trans hlo hT.size
          clear hO hT hm
          have hO := hO2
          clear hO2
          clear hnb
          have hnb := hnb2
          clear hnb2
          refine late_one (i := 7) rfl (by kernel_rfl) (fun K9 hK9 => ?_)
          go_simp
          refine late_gen (fun U44 hU => ?_)
          have hst : Below U43.heap.size U43 U44 := by rw [hU]; exact (Below.refl _ _).alloc (Nat.le_refl _) _
          have hX9 : Src U44 [] (some ⟨U43.heap.size, 0, none⟩) 1 1 [s] := by rw [hU]; exact src_new (pt_s hs) rfl _ _
          have hXb9 : U43.heap.size < U44.heap.size := by rw [hU]; simp
          have hXn : ∀ b ∈ b2, b ≠ U43.heap.size := fun b hb => Nat.ne_of_lt (hO.lts b hb).2
          replace hO := hO.grow hst
          replace hbx := Bx.below hst hgb hbx
          replace hgb : U0.heap.size < U44.heap.size := Nat.lt_of_lt_of_le hgb hst.size
          have hX := hX9; have hXb := hXb9; clear hX9 hXb9
          clear hU
          refine hK9.out _ _ (fun _ => ?_) (fun hS9 => ?_)
          · (try dsimp only); exact ⟨hS.1.trans (hst.mono hlo), cellc (Tch.of_below (bs := []) hst) hS.2.1 (by simp), cellc (Tch.of_below (bs := []) hst) hS.2.2 (by simp)⟩
          replace hS := hS9 (by decide)
          clear hK9 K9 hS9
          try simp only [Act.put, List.setIfInBounds_toArray, List.set_cons_zero, List.set_cons_succ]
          replace hlo : w.heap.size + 2 ≤ U44.heap.size := Nat.le_trans hlo hst.size
          clear hst
          refine late_one (i := 8) rfl (by kernel_rfl) (fun K9 hK9 => ?_)
          refine step_append rfl _ _ 52 rfl 9 i0 (.string ByteArray.empty) 16 Try.underlying52 hi hz0 hz1 hz2 rfl (lo := w.heap.size + 2) (bs := b2) (xs := d.Lines) rfl ?own (b2 := []) (ys := [s]) rfl ?src List.nodup_nil ?f2 ?q2 ?q3 ?q4 ?_
          case own => exact hO
          case src => exact hX
          case f2 => simp
          case q2 => simp; omega
          case q3 => simp; omega
          case q4 => exact hlo
          intro p3 c3 U45 b3 hO2 hT hm
          simp only [List.length_cons, List.length_nil, Nat.zero_add] at hO2 ⊢
          have hnb2 : ∀ x ∈ b3, x ≠ U0.heap.size := fun x hx => (hm x hx).elim (fun h => hnb x h) (fun h => h.elim (fun h => by cases h) (fun h => Nat.ne_of_gt (Nat.lt_of_lt_of_le hgb h)))
          have hXn2 : ∀ x ∈ b3, x ≠ U43.heap.size := fun x hx => (hm x hx).elim (fun h => hXn x h) (fun h => h.elim (fun h => by cases h) (fun h => Nat.ne_of_gt (Nat.lt_of_lt_of_le hXb h)))
          replace hbx := Bx.tch hT hgb (fun h => hnb _ h rfl) hbx
          replace hgb : U0.heap.size < U45.heap.size := Nat.lt_of_lt_of_le hgb hT.size
          replace hX := Src.tch hX hT (fun h => hXn _ h rfl) (fun b h => by cases h)
          replace hXb : U43.heap.size < U45.heap.size := Nat.lt_of_lt_of_le hXb hT.size
          refine hK9.out _ _ (fun _ => ?_) (fun hS9 => ?_)
          · (try dsimp only); exact ⟨hS.1.trans (hT.below hlo (fun x hx => (hO.lts x hx).1)), cellc hT hS.2.1 (fun hm9 => by have := (hO.lts _ hm9).1; (try simp at this); omega), cellc hT hS.2.2 (fun hm9 => by have := (hO.lts _ hm9).1; (try simp at this); omega)⟩
          replace hS := hS9 (by decide)
          clear hK9 K9 hS9
          try simp only [Act.put, List.setIfInBounds_toArray, List.set_cons_zero, List.set_cons_succ]
          replace hlo : w.heap.size + 2 ≤ U45.heap.size := Nat.le_trans hlo hT.size
          clear hO hT hm
          have hO := hO2
          clear hO2
          clear hnb
          have hnb := hnb2
          clear hnb2
          clear hXn
          have hXn := hXn2
          clear hXn2
          refine late_take (i := 9) (v := ?_) rfl (by kernel_rfl) (fun _ _ _ h => h) (by rfl) ?_ (by assumption) ?_
          rotate_left
          · (intro w9 hS9; (try dsimp only at hS9); (try go_split_ands); go_simp <;> with_reducible rfl)
          try simp only [Act.put, List.setIfInBounds_toArray, List.set_cons_zero, List.set_cons_succ]
          refine late_one (i := 11) rfl (by kernel_rfl) (fun K9 hK9 => ?_)
          have bo := hbx.out; have bf := hbx.fr
          go_simp
          refine hK9.out _ _ (fun h => absurd rfl h) (fun _ => ?_)
          clear hK9 K9
          try simp only [Act.put, List.setIfInBounds_toArray, List.set_cons_zero, List.set_cons_succ]
          refine late_done (by kernel_rfl) ?_ _
          go_wp2_with fail
          go_meet
          refine ⟨_, _, _, _, rfl, ?_, (hO.setCell (fun b hb => hnb b hb) _).setCell (fun b hb => hnb b hb) _, hnb, hgl, ?_, ?_⟩
          · exact (Bx.setSame (Bx.setSame hbx 0 _) 1 _)
          · simpa using hgb
          · exact (hS.1.setCell (by exact hgl) _).setCell (by exact hgl) _
        · skip
          go_simp
          refine late_gen (fun U46 hU => ?_)
          have hst : Below U42.heap.size U42 U46 := by rw [hU]; exact (Below.refl _ _).alloc (Nat.le_refl _) _
          have hX9 : Src U46 [] (some ⟨U42.heap.size, 0, none⟩) 1 1 [s] := by rw [hU]; exact src_new (pt_s hs) rfl _ _
          have hXb9 : U42.heap.size < U46.heap.size := by rw [hU]; simp
          have hXn : ∀ b ∈ [U41.heap.size], b ≠ U42.heap.size := fun b hb => Nat.ne_of_lt (hO.lts b hb).2
          replace hO := hO.grow hst
          replace hbx := Bx.below hst hgb hbx
          replace hgb : U0.heap.size < U46.heap.size := Nat.lt_of_lt_of_le hgb hst.size
          have hX := hX9; have hXb := hXb9; clear hX9 hXb9
          clear hU
          refine hK9.out _ _ (fun _ => ?_) (fun hS9 => ?_)
          · (try dsimp only); exact ⟨hS.1.trans (hst.mono hlo), cellc (Tch.of_below (bs := []) hst) hS.2.1 (by simp), cellc (Tch.of_below (bs := []) hst) hS.2.2 (by simp)⟩
          replace hS := hS9 (by decide)
          clear hK9 K9 hS9
          try simp only [Act.put, List.setIfInBounds_toArray, List.set_cons_zero, List.set_cons_succ]
          replace hlo : w.heap.size + 2 ≤ U46.heap.size := Nat.le_trans hlo hst.size
          clear hst
          refine late_one (i := 5) rfl (by kernel_rfl) (fun K9 hK9 => ?_)
          refine step_append rfl _ _ 52 rfl 9 i0 (.string ByteArray.empty) 16 Try.underlying52 hi hz0 hz1 hz2 rfl (lo := w.heap.size + 2) (bs := [U41.heap.size]) (xs := ([] : List ByteArray)) rfl ?own (b2 := []) (ys := d.Lines) rfl ?src List.nodup_nil ?f2 ?q2 ?q3 ?q4 ?_
          case own => exact hO
          case src => exact Slc.src (H1.out.grow (HB.out.trans (hS.1.mono (by omega))))
          case f2 => simp
          case q2 => simp; omega
          case q3 => simp; omega
          case q4 => exact hlo
          intro p2 c2 U47 b2 hO2 hT hm
          simp only [List.nil_append, List.length_nil, Nat.zero_add] at hO2 ⊢
          have hnb2 : ∀ x ∈ b2, x ≠ U0.heap.size := fun x hx => (hm x hx).elim (fun h => hnb x h) (fun h => h.elim (fun h => by cases h) (fun h => Nat.ne_of_gt (Nat.lt_of_lt_of_le hgb h)))
          have hXn2 : ∀ x ∈ b2, x ≠ U42.heap.size := fun x hx => (hm x hx).elim (fun h => hXn x h) (fun h => h.elim (fun h => by cases h) (fun h => Nat.ne_of_gt (Nat.lt_of_lt_of_le hXb h)))
          replace hbx := Bx.tch hT hgb (fun h => hnb _ h rfl) hbx
          replace hgb : U0.heap.size < U47.heap.size := Nat.lt_of_lt_of_le hgb hT.size
          replace hX := Src.tch hX hT (fun h => hXn _ h rfl) (fun b h => by cases h)
          replace hXb : U42.heap.size < U47.heap.size := Nat.lt_of_lt_of_le hXb hT.size
          refine hK9.out _ _ (fun _ => ?_) (fun hS9 => ?_)
          · (try dsimp only); exact ⟨hS.1.trans (hT.below hlo (fun x hx => (hO.lts x hx).1)), cellc hT hS.2.1 (fun hm9 => by have := (hO.lts _ hm9).1; (try simp at this); omega), cellc hT hS.2.2 (fun hm9 => by have := (hO.lts _ hm9).1; (try simp at this); omega)⟩
          replace hS := hS9 (by decide)
          clear hK9 K9 hS9
          try simp only [Act.put, List.setIfInBounds_toArray, List.set_cons_zero, List.set_cons_succ]
          replace hlo : w.heap.size + 2 ≤ U47.heap.size := Nat.le_trans hlo hT.size
          clear hO hT hm
          have hO := hO2
          clear hO2
          clear hnb
          have hnb := hnb2
          clear hnb2
          clear hXn
          have hXn := hXn2
          clear hXn2
          refine late_one (i := 8) rfl (by kernel_rfl) (fun K9 hK9 => ?_)
          refine step_append rfl _ _ 52 rfl 9 i0 (.string ByteArray.empty) 16 Try.underlying52 hi hz0 hz1 hz2 rfl (lo := w.heap.size + 2) (bs := b2) (xs := d.Lines) rfl ?own (b2 := []) (ys := [s]) rfl ?src List.nodup_nil ?f2 ?q2 ?q3 ?q4 ?_
          case own => exact hO
          case src => exact hX
          case f2 => simp
          case q2 => simp; omega
          case q3 => simp; omega
          case q4 => exact hlo
          intro p3 c3 U48 b3 hO2 hT hm
          simp only [List.length_cons, List.length_nil, Nat.zero_add] at hO2 ⊢
          have hnb2 : ∀ x ∈ b3, x ≠ U0.heap.size := fun x hx => (hm x hx).elim (fun h => hnb x h) (fun h => h.elim (fun h => by cases h) (fun h => Nat.ne_of_gt (Nat.lt_of_lt_of_le hgb h)))
          have hXn2 : ∀ x ∈ b3, x ≠ U42.heap.size := fun x hx => (hm x hx).elim (fun h => hXn x h) (fun h => h.elim (fun h => by cases h) (fun h => Nat.ne_of_gt (Nat.lt_of_lt_of_le hXb h)))
          replace hbx := Bx.tch hT hgb (fun h => hnb _ h rfl) hbx
          replace hgb : U0.heap.size < U48.heap.size := Nat.lt_of_lt_of_le hgb hT.size
          replace hX := Src.tch hX hT (fun h => hXn _ h rfl) (fun b h => by cases h)
          replace hXb : U42.heap.size < U48.heap.size := Nat.lt_of_lt_of_le hXb hT.size
          refine hK9.out _ _ (fun _ => ?_) (fun hS9 => ?_)
          · (try dsimp only); exact ⟨hS.1.trans (hT.below hlo (fun x hx => (hO.lts x hx).1)), cellc hT hS.2.1 (fun hm9 => by have := (hO.lts _ hm9).1; (try simp at this); omega), cellc hT hS.2.2 (fun hm9 => by have := (hO.lts _ hm9).1; (try simp at this); omega)⟩
          replace hS := hS9 (by decide)
          clear hK9 K9 hS9
          try simp only [Act.put, List.setIfInBounds_toArray, List.set_cons_zero, List.set_cons_succ]
          replace hlo : w.heap.size + 2 ≤ U48.heap.size := Nat.le_trans hlo hT.size
          clear hO hT hm
          have hO := hO2
          clear hO2
          clear hnb
          have hnb := hnb2
          clear hnb2
          clear hXn
          have hXn := hXn2
          clear hXn2
          refine late_take (i := 9) (v := ?_) rfl (by kernel_rfl) (fun _ _ _ h => h) (by rfl) ?_ (by assumption) ?_
          rotate_left
          · (intro w9 hS9; (try dsimp only at hS9); (try go_split_ands); go_simp <;> with_reducible rfl)
          try simp only [Act.put, List.setIfInBounds_toArray, List.set_cons_zero, List.set_cons_succ]
          refine late_one (i := 11) rfl (by kernel_rfl) (fun K9 hK9 => ?_)
          have bo := hbx.out; have bf := hbx.fr
          go_simp
          refine hK9.out _ _ (fun h => absurd rfl h) (fun _ => ?_)
          clear hK9 K9
          try simp only [Act.put, List.setIfInBounds_toArray, List.set_cons_zero, List.set_cons_succ]
          refine late_done (by kernel_rfl) ?_ _
          go_wp2_with fail
          go_meet
          refine ⟨_, _, _, _, rfl, ?_, (hO.setCell (fun b hb => hnb b hb) _).setCell (fun b hb => hnb b hb) _, hnb, hgl, ?_, ?_⟩
          · exact (Bx.setSame (Bx.setSame hbx 0 _) 1 _)
          · simpa using hgb
          · exact (hS.1.setCell (by exact hgl) _).setCell (by exact hgl) _
      · skip
        go_simp
        refine late_gen (fun U49 hU => ?_)
        have hst : Below U41.heap.size U41 U49 := by rw [hU]; exact (Below.refl _ _).alloc (Nat.le_refl _) _
        have hX9 : Src U49 [] (some ⟨U41.heap.size, 0, none⟩) 1 1 [s] := by rw [hU]; exact src_new (pt_s hs) rfl _ _
        have hXb9 : U41.heap.size < U49.heap.size := by rw [hU]; simp
        replace hbx := Bx.below hst hgb hbx
        replace hgb : U0.heap.size < U49.heap.size := Nat.lt_of_lt_of_le hgb hst.size
        have hX := hX9; have hXb := hXb9; clear hX9 hXb9
        clear hU
        refine hK9.out _ _ (fun _ => ?_) (fun hS9 => ?_)
        · (try dsimp only); exact ⟨hS.1.trans (hst.mono hlo), cellc (Tch.of_below (bs := []) hst) hS.2.1 (by simp), cellc (Tch.of_below (bs := []) hst) hS.2.2 (by simp)⟩
        replace hS := hS9 (by decide)
        clear hK9 K9 hS9
        try simp only [Act.put, List.setIfInBounds_toArray, List.set_cons_zero, List.set_cons_succ]
        replace hlo : w.heap.size + 2 ≤ U49.heap.size := Nat.le_trans hlo hst.size
        clear hst
        refine late_one (i := 2) rfl (by kernel_rfl) (fun K9 hK9 => ?_)
        go_simp
        refine late_gen (fun U50 hU => ?_)
        have hst : Below U49.heap.size U49 U50 := by rw [hU]; exact (Below.refl _ _).alloc (Nat.le_refl _) _
        have hO : OwnL (w.heap.size + 2) U50 9 (.slice (some ⟨U49.heap.size, 0, none⟩) 0 0) [U49.heap.size] ([] : List ByteArray) := by rw [hU]; exact ownL_empty rfl hlo
        have hXn : ∀ b ∈ [U49.heap.size], b ≠ U41.heap.size := fun b hb => by rw [List.mem_singleton.1 hb]; exact Nat.ne_of_gt hXb
        have hnb : ∀ b ∈ [U49.heap.size], b ≠ U0.heap.size := fun b hb => by rw [List.mem_singleton.1 hb]; exact Nat.ne_of_gt hgb
        replace hX := hX.grow hst
        replace hXb : U41.heap.size < U50.heap.size := Nat.lt_of_lt_of_le hXb hst.size
        replace hbx := Bx.below hst hgb hbx
        replace hgb : U0.heap.size < U50.heap.size := Nat.lt_of_lt_of_le hgb hst.size
        clear hU
        refine hK9.out _ _ (fun _ => ?_) (fun hS9 => ?_)
        · (try dsimp only); exact ⟨hS.1.trans (hst.mono hlo), cellc (Tch.of_below (bs := []) hst) hS.2.1 (by simp), cellc (Tch.of_below (bs := []) hst) hS.2.2 (by simp)⟩
        replace hS := hS9 (by decide)
        clear hK9 K9 hS9
        try simp only [Act.put, List.setIfInBounds_toArray, List.set_cons_zero, List.set_cons_succ]
        replace hlo : w.heap.size + 2 ≤ U50.heap.size := Nat.le_trans hlo hst.size
        clear hst
        refine late_one (i := 5) rfl (by kernel_rfl) (fun K9 hK9 => ?_)
        refine step_append rfl _ _ 52 rfl 9 i0 (.string ByteArray.empty) 16 Try.underlying52 hi hz0 hz1 hz2 rfl (lo := w.heap.size + 2) (bs := [U49.heap.size]) (xs := ([] : List ByteArray)) rfl ?own (b2 := []) (ys := d.Lines) rfl ?src List.nodup_nil ?f2 ?q2 ?q3 ?q4 ?_
        case own => exact hO
        case src => exact Slc.src (H1.out.grow (HB.out.trans (hS.1.mono (by omega))))
        case f2 => simp
        case q2 => simp; omega
        case q3 => simp; omega
        case q4 => exact hlo
        intro p2 c2 U51 b2 hO2 hT hm
        simp only [List.nil_append, List.length_nil, Nat.zero_add] at hO2 ⊢
        have hnb2 : ∀ x ∈ b2, x ≠ U0.heap.size := fun x hx => (hm x hx).elim (fun h => hnb x h) (fun h => h.elim (fun h => by cases h) (fun h => Nat.ne_of_gt (Nat.lt_of_lt_of_le hgb h)))
        have hXn2 : ∀ x ∈ b2, x ≠ U41.heap.size := fun x hx => (hm x hx).elim (fun h => hXn x h) (fun h => h.elim (fun h => by cases h) (fun h => Nat.ne_of_gt (Nat.lt_of_lt_of_le hXb h)))
        replace hbx := Bx.tch hT hgb (fun h => hnb _ h rfl) hbx
        replace hgb : U0.heap.size < U51.heap.size := Nat.lt_of_lt_of_le hgb hT.size
        replace hX := Src.tch hX hT (fun h => hXn _ h rfl) (fun b h => by cases h)
        replace hXb : U41.heap.size < U51.heap.size := Nat.lt_of_lt_of_le hXb hT.size
        refine hK9.out _ _ (fun _ => ?_) (fun hS9 => ?_)
        · (try dsimp only); exact ⟨hS.1.trans (hT.below hlo (fun x hx => (hO.lts x hx).1)), cellc hT hS.2.1 (fun hm9 => by have := (hO.lts _ hm9).1; (try simp at this); omega), cellc hT hS.2.2 (fun hm9 => by have := (hO.lts _ hm9).1; (try simp at this); omega)⟩
        replace hS := hS9 (by decide)
        clear hK9 K9 hS9
        try simp only [Act.put, List.setIfInBounds_toArray, List.set_cons_zero, List.set_cons_succ]
        replace hlo : w.heap.size + 2 ≤ U51.heap.size := Nat.le_trans hlo hT.size
        clear hO hT hm
        have hO := hO2
        clear hO2
        clear hnb
        have hnb := hnb2
        clear hnb2
        clear hXn
        have hXn := hXn2
        clear hXn2
        refine late_one (i := 8) rfl (by kernel_rfl) (fun K9 hK9 => ?_)
        refine step_append rfl _ _ 52 rfl 9 i0 (.string ByteArray.empty) 16 Try.underlying52 hi hz0 hz1 hz2 rfl (lo := w.heap.size + 2) (bs := b2) (xs := d.Lines) rfl ?own (b2 := []) (ys := [s]) rfl ?src List.nodup_nil ?f2 ?q2 ?q3 ?q4 ?_
        case own => exact hO
        case src => exact hX
        case f2 => simp
        case q2 => simp; omega
        case q3 => simp; omega
        case q4 => exact hlo
        intro p3 c3 U52 b3 hO2 hT hm
        simp only [List.length_cons, List.length_nil, Nat.zero_add] at hO2 ⊢
        have hnb2 : ∀ x ∈ b3, x ≠ U0.heap.size := fun x hx => (hm x hx).elim (fun h => hnb x h) (fun h => h.elim (fun h => by cases h) (fun h => Nat.ne_of_gt (Nat.lt_of_lt_of_le hgb h)))
        have hXn2 : ∀ x ∈ b3, x ≠ U41.heap.size := fun x hx => (hm x hx).elim (fun h => hXn x h) (fun h => h.elim (fun h => by cases h) (fun h => Nat.ne_of_gt (Nat.lt_of_lt_of_le hXb h)))
        replace hbx := Bx.tch hT hgb (fun h => hnb _ h rfl) hbx
        replace hgb : U0.heap.size < U52.heap.size := Nat.lt_of_lt_of_le hgb hT.size
        replace hX := Src.tch hX hT (fun h => hXn _ h rfl) (fun b h => by cases h)
        replace hXb : U41.heap.size < U52.heap.size := Nat.lt_of_lt_of_le hXb hT.size
        refine hK9.out _ _ (fun _ => ?_) (fun hS9 => ?_)
        · (try dsimp only); exact ⟨hS.1.trans (hT.below hlo (fun x hx => (hO.lts x hx).1)), cellc hT hS.2.1 (fun hm9 => by have := (hO.lts _ hm9).1; (try simp at this); omega), cellc hT hS.2.2 (fun hm9 => by have := (hO.lts _ hm9).1; (try simp at this); omega)⟩
        replace hS := hS9 (by decide)
        clear hK9 K9 hS9
        try simp only [Act.put, List.setIfInBounds_toArray, List.set_cons_zero, List.set_cons_succ]
        replace hlo : w.heap.size + 2 ≤ U52.heap.size := Nat.le_trans hlo hT.size
        clear hO hT hm
        have hO := hO2
        clear hO2
        clear hnb
        have hnb := hnb2
        clear hnb2
        clear hXn
        have hXn := hXn2
        clear hXn2
        refine late_take (i := 9) (v := ?_) rfl (by kernel_rfl) (fun _ _ _ h => h) (by rfl) ?_ (by assumption) ?_
        rotate_left
        · (intro w9 hS9; (try dsimp only at hS9); (try go_split_ands); go_simp <;> with_reducible rfl)
        try simp only [Act.put, List.setIfInBounds_toArray, List.set_cons_zero, List.set_cons_succ]
        refine late_one (i := 11) rfl (by kernel_rfl) (fun K9 hK9 => ?_)
        have bo := hbx.out; have bf := hbx.fr
        go_simp
        refine hK9.out _ _ (fun h => absurd rfl h) (fun _ => ?_)
        clear hK9 K9
        try simp only [Act.put, List.setIfInBounds_toArray, List.set_cons_zero, List.set_cons_succ]
        refine late_done (by kernel_rfl) ?_ _
        go_wp2_with fail
        go_meet
        refine ⟨_, _, _, _, rfl, ?_, (hO.setCell (fun b hb => hnb b hb) _).setCell (fun b hb => hnb b hb) _, hnb, hgl, ?_, ?_⟩
        · exact (Bx.setSame (Bx.setSame hbx 0 _) 1 _)
        · simpa using hgb
        · exact (hS.1.setCell (by exact hgl) _).setCell (by exact hgl) _
  case rest =>
    obtain ⟨g, p, k, bx, rfl, hbx, hO, hne, hgl, hgu, hp⟩ := hcut
    rename World => w3
    have X1 := HX1.out.keep (hp.block (w.heap.size + 1) (by omega))
    have X0 := HX0.out.keep (hp.block (w.heap.size) (by omega))
    have X1o := X1.out; have X1f := X1.fr; have X0o := X0.out; have X0f := X0.fr; have go1 := hbx.out; have go2 := hbx.fr
    have HB3 := hid (HB.out.trans (hp.mono (by omega : w.heap.size ≤ w.heap.size + 2)))
    obtain ⟨b3x, hb3x, hOw⟩ := hO.own
    have R3 : Hid (∀ b ∈ b3x, w.heap.size + 2 ≤ b ∧ b ≠ g) := hid fun b hb => ⟨(hO.lts b (hb3x b hb)).1, hne b (hb3x b hb)⟩
    have HX1 := hid X1; have HX0 := hid X0; have HBX := hid hbx
    clear hO hbx X1 X0 hp
    cases hk : histOk d
    · have Hk := hid hk
      have HZ : Hid (histAddOk d s = false ∧ histAdd d s = ⟨0, []⟩) := hid (by simp [histAddOk, histAdd, hk])
      by_cases h60 : 60 < d.Lines.length + 1
      · have hgt : ((d.Lines.length + 1 : Nat) : Int) > 60 := by omega
        obtain ⟨p4, bS, hcut, hbS, hnS, hS⟩ := hOw.slc.cut_l 52 Try.underlying52 hi hz1 1 (by omega) (by simp; try omega)
        simp only [Int.toNat_one, Nat.add_sub_cancel] at hcut hS
        have HS := hid (hOw.cutS hbS hnS hS)
        have RS : Hid (∀ b ∈ bS, w.heap.size + 2 ≤ b ∧ b ≠ g) := hid fun b hb => R3.out b (hbS b hb)
        clear hS hbS hnS hOw
        go_wp2_with fail
        refine (s_HistOk (grow H.out ?_)).mono ?_
        · exact (by repeat (first | exact HB3.out | refine Below.setCell ?_ (by simp; omega) _))
        rintro e w5 ⟨rfl, hb⟩
        have Y1 := Bx.below hb (b := w.heap.size + 1) (by first | (simp; done) | (simp; omega) | omega) ((HX1.out.setOther (by simp; omega) _).setOther (by simp; omega) _)
        have Y1o := Y1.out; have Y1f := Y1.fr
        have G1 := Bx.below hb (b := g) (by simpa using hgu) (Bx.setSame (Bx.setSame HBX.out 1 _) 0 _)
        have G1o := G1.out; have G1f := G1.fr
        have HB5 := hid (below_call (show Below w.heap.size w _ from (by repeat (first | exact HB3.out | refine Below.setCell ?_ (by simp; omega) _))) hb)
        clear hb
        rw [hk]
        go_wp2
        refine bodyPost_ret (v := .tuple #[.agg #[.int .i64 0, .slice none 0 0], .bool false]) (by simp [results, Try.results161, go_sem, Y1o]) rfl ?_
        refine ⟨[.int .i64 0, .slice none 0 0], [], by rw [HZ.out.1], ?_, (HB5.out.setCell (by simp) _).setCell (by simp) _⟩
        rw [HZ.out.2]; exact own_Hist (d := ⟨0, []⟩) (by simp [I64]) (own_nil _ _)
      · have hgt : ¬ ((d.Lines.length + 1 : Nat) : Int) > 60 := by omega
        have HS := hid hOw
        have RS := R3
        clear hOw
        go_wp2_with fail
        refine (s_HistOk (grow H.out ?_)).mono ?_
        · exact (by repeat (first | exact HB3.out | refine Below.setCell ?_ (by simp; omega) _))
        rintro e w5 ⟨rfl, hb⟩
        have Y1 := Bx.below hb (b := w.heap.size + 1) (by first | (simp; done) | (simp; omega) | omega) HX1.out
        have Y1o := Y1.out; have Y1f := Y1.fr
        have G1 := Bx.below hb (b := g) (by simpa using hgu) HBX.out
        have G1o := G1.out; have G1f := G1.fr
        have HB5 := hid (below_call (show Below w.heap.size w _ from (by repeat (first | exact HB3.out | refine Below.setCell ?_ (by simp; omega) _))) hb)
        clear hb
        rw [hk]
        go_wp2
        refine bodyPost_ret (v := .tuple #[.agg #[.int .i64 0, .slice none 0 0], .bool false]) (by simp [results, Try.results161, go_sem, Y1o]) rfl ?_
        refine ⟨[.int .i64 0, .slice none 0 0], [], by rw [HZ.out.1], ?_, (HB5.out.setCell (by simp) _).setCell (by simp) _⟩
        rw [HZ.out.2]; exact own_Hist (d := ⟨0, []⟩) (by simp [I64]) (own_nil _ _)
    · have Hk := hid hk
      obtain ⟨hb1, hb2, hb3⟩ : 1 ≤ d.First ∧ d.First ≤ 1000000000 ∧ d.Lines.length ≤ 60 := by simp [histOk] at hk; omega
      clear hk
      have hwr : IntKind.i64.wrap (d.First + 1) = d.First + 1 := wrapI (by omega)
      have hwr2 : wrap64 (d.First + 1) = d.First + 1 := IntWalk.wrap64_in _ (by omega)
      by_cases h60 : 60 < d.Lines.length + 1
      · have hgt : ((d.Lines.length + 1 : Nat) : Int) > 60 := by omega
        obtain ⟨p4, bS, hcut, hbS, hnS, hS⟩ := hOw.slc.cut_l 52 Try.underlying52 hi hz1 1 (by omega) (by simp; try omega)
        simp only [Int.toNat_one, Nat.add_sub_cancel] at hcut hS
        have HS := hid (hOw.cutS hbS hnS hS)
        have RS : Hid (∀ b ∈ bS, w.heap.size + 2 ≤ b ∧ b ≠ g) := hid fun b hb => R3.out b (hbS b hb)
        clear hS hbS hnS hOw
        go_wp2_with fail
        refine (s_HistOk (grow H.out ?_)).mono ?_
        · exact (by repeat (first | exact HB3.out | refine Below.setCell ?_ (by simp; omega) _))
        rintro e w5 ⟨rfl, hb⟩
        have Y1 := Bx.below hb (b := w.heap.size + 1) (by first | (simp; done) | (simp; omega) | omega) ((HX1.out.setOther (by simp; omega) _).setOther (by simp; omega) _)
        have Y1o := Y1.out; have Y1f := Y1.fr
        have G1 := Bx.below hb (b := g) (by simpa using hgu) (Bx.setSame (Bx.setSame HBX.out 1 _) 0 _)
        have G1o := G1.out; have G1f := G1.fr
        have HB5 := hid (below_call (show Below w.heap.size w _ from (by repeat (first | exact HB3.out | refine Below.setCell ?_ (by simp; omega) _))) hb)
        have HO5 := hid (Own.grow (Own.setCell' _ (Own.setCell' _ HS.out (fun b hb => by exact (RS.out b hb).2)) (fun b hb => by exact (RS.out b hb).2)) hb)
        have hz5 := hb.size; try simp at hz5
        clear hb
        rw [Hk.out]
        have Hp : Hid (histPut d s = ⟨d.First + 1, (d.Lines ++ [s]).drop 1⟩) := hid (by simp [histPut, h60])
        go_wp2_with fail
        refine (s_HistOk (d := ⟨d.First + 1, (d.Lines ++ [s]).drop 1⟩) (mk_Hist (d := ⟨d.First + 1, (d.Lines ++ [s]).drop 1⟩) (b1 := bS) (by unfold I64; simp only; omega) HO5.out.slc)).mono ?_
        rintro e w6 ⟨rfl, hb⟩
        have Z1 := Bx.below hb (b := w.heap.size + 1) (by omega) Y1
        have Z1o := Z1.out; have Z1f := Z1.fr
        have G2 := Bx.below hb (b := g) (by omega) G1
        have G2o := G2.out; have G2f := G2.fr
        have HB6 := hid (below_call HB5.out hb)
        have HO6 := hid (HO5.out.grow hb)
        clear hb
        cases hk2 : histOk ⟨d.First + 1, (d.Lines ++ [s]).drop 1⟩
        · have h1 : histAddOk d s = false := by simp only [histAddOk, Hp.out, Hk.out, hk2, Bool.and_false]
          have HZ : Hid (histAddOk d s = false ∧ histAdd d s = ⟨0, []⟩) := hid ⟨h1, by rw [histAdd, h1]; rfl⟩
          clear h1 hk2
          go_wp2
          refine bodyPost_ret (v := .tuple #[.agg #[.int .i64 0, .slice none 0 0], .bool false]) (by simp [results, Try.results161, go_sem, Z1o]) rfl ?_
          refine ⟨[.int .i64 0, .slice none 0 0], [], by rw [HZ.out.1], ?_, (HB6.out.setCell (by simp) _).setCell (by simp) _⟩
          rw [HZ.out.2]; exact own_Hist (d := ⟨0, []⟩) (by simp [I64]) (own_nil _ _)
        · have h1 : histAddOk d s = true := by simp only [histAddOk, Hp.out, Hk.out, hk2, Bool.and_self]
          have HZ : Hid (histAddOk d s = true ∧ histAdd d s = ⟨d.First + 1, (d.Lines ++ [s]).drop 1⟩) := hid ⟨h1, by rw [histAdd, h1, Hp.out]; rfl⟩
          clear h1 hk2
          go_wp2
          refine bodyPost_ret (v := .tuple #[.agg #[.int .i64 (d.First + 1), .slice p4 d.Lines.length (k - 1)], .bool true]) (by simp [results, Try.results161, go_sem, Z1o]) rfl ?_
          refine ⟨[.int .i64 (d.First + 1), .slice p4 d.Lines.length (k - 1)], bS, by rw [HZ.out.1], ?_, (HB6.out.setCell (by simp) _).setCell (by simp) _⟩
          rw [HZ.out.2]
          refine own_Hist (d := ⟨d.First + 1, (d.Lines ++ [s]).drop 1⟩) (by unfold I64; simp only; omega) ?_
          exact (Own.setCell' _ (Own.setCell' _ HO6.out (fun b hb => by have := (RS.out b hb).1; simp; omega)) (fun b hb => by have := (RS.out b hb).1; simp; omega)).mono (by omega)
      · have hgt : ¬ ((d.Lines.length + 1 : Nat) : Int) > 60 := by omega
        have HS := hid hOw
        have RS := R3
        clear hOw
        go_wp2_with fail
        refine (s_HistOk (grow H.out ?_)).mono ?_
        · exact (by repeat (first | exact HB3.out | refine Below.setCell ?_ (by simp; omega) _))
        rintro e w5 ⟨rfl, hb⟩
        have Y1 := Bx.below hb (b := w.heap.size + 1) (by first | (simp; done) | (simp; omega) | omega) HX1.out
        have Y1o := Y1.out; have Y1f := Y1.fr
        have G1 := Bx.below hb (b := g) (by simpa using hgu) HBX.out
        have G1o := G1.out; have G1f := G1.fr
        have HB5 := hid (below_call (show Below w.heap.size w _ from (by repeat (first | exact HB3.out | refine Below.setCell ?_ (by simp; omega) _))) hb)
        have HO5 := hid (Own.grow HS.out hb)
        have hz5 := hb.size; try simp at hz5
        clear hb
        rw [Hk.out]
        have Hp : Hid (histPut d s = ⟨d.First, d.Lines ++ [s]⟩) := hid (by simp [histPut, h60])
        go_wp2_with fail
        refine (s_HistOk (d := ⟨d.First, d.Lines ++ [s]⟩) (mk_Hist (d := ⟨d.First, d.Lines ++ [s]⟩) (b1 := b3x) (by unfold I64; simp only; omega) HO5.out.slc)).mono ?_
        rintro e w6 ⟨rfl, hb⟩
        have Z1 := Bx.below hb (b := w.heap.size + 1) (by omega) Y1
        have Z1o := Z1.out; have Z1f := Z1.fr
        have G2 := Bx.below hb (b := g) (by omega) G1
        have G2o := G2.out; have G2f := G2.fr
        have HB6 := hid (below_call HB5.out hb)
        have HO6 := hid (HO5.out.grow hb)
        clear hb
        cases hk2 : histOk ⟨d.First, d.Lines ++ [s]⟩
        · have h1 : histAddOk d s = false := by simp only [histAddOk, Hp.out, Hk.out, hk2, Bool.and_false]
          have HZ : Hid (histAddOk d s = false ∧ histAdd d s = ⟨0, []⟩) := hid ⟨h1, by rw [histAdd, h1]; rfl⟩
          clear h1 hk2
          go_wp2
          refine bodyPost_ret (v := .tuple #[.agg #[.int .i64 0, .slice none 0 0], .bool false]) (by simp [results, Try.results161, go_sem, Z1o]) rfl ?_
          refine ⟨[.int .i64 0, .slice none 0 0], [], by rw [HZ.out.1], ?_, (HB6.out.setCell (by simp) _).setCell (by simp) _⟩
          rw [HZ.out.2]; exact own_Hist (d := ⟨0, []⟩) (by simp [I64]) (own_nil _ _)
        · have h1 : histAddOk d s = true := by simp only [histAddOk, Hp.out, Hk.out, hk2, Bool.and_self]
          have HZ : Hid (histAddOk d s = true ∧ histAdd d s = ⟨d.First, d.Lines ++ [s]⟩) := hid ⟨h1, by rw [histAdd, h1, Hp.out]; rfl⟩
          clear h1 hk2
          go_wp2
          refine bodyPost_ret (v := .tuple #[.agg #[.int .i64 d.First, .slice p (d.Lines.length + 1) k], .bool true]) (by simp [results, Try.results161, go_sem, Z1o]) rfl ?_
          refine ⟨[.int .i64 d.First, .slice p (d.Lines.length + 1) k], b3x, by rw [HZ.out.1], ?_, (HB6.out.setCell (by simp) _).setCell (by simp) _⟩
          rw [HZ.out.2]
          refine own_Hist (d := ⟨d.First, d.Lines ++ [s]⟩) (by unfold I64; simp only; omega) ?_
          exact (Own.setCell' _ (Own.setCell' _ HO6.out (fun b hb => by have := (RS.out b hb).1; simp; omega)) (fun b hb => by have := (RS.out b hb).1; simp; omega)).mono (by omega)
end Go.Proofs.Ytdfpjchneofndaa
