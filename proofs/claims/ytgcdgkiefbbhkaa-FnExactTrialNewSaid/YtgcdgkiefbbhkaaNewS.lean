/- TrialNew, both walks (printed by gennew.py). -/
import Derived.Test.YtgcdgkiefbbhkaaNewT
import Derived.Test.YtgcdgkiefbbhkaaMid
set_option linter.unusedSimpArgs false
set_option linter.unusedVariables false
namespace Go.Proofs.Ytgcdgkiefbbhkaa
open Go.RowKit Go.G6
set_option maxHeartbeats 8000000
set_option maxRecDepth 10000
theorem tn_built0 : Try.prog.built 43 [] = some #[.bool false, .int .i64 (0), .int .i64 (0), .int .i64 (0), .int .i64 (0), .int .i64 (0), .slice none 0 0, .slice none 0 0, .slice none 0 0, .int .i64 (0), .int .i64 (0), .slice none 0 0, .int .i64 (0), .int .i64 (0), .int .i64 (0), .int .i64 (0), .slice none 0 0, .slice none 0 0, .slice none 0 0, .slice none 0 0, .slice none 0 0] := by kernel_rfl
theorem tn_built (keep size room : Int) : Try.prog.built 43 [(1, .int .i64 keep), (2, .int .i64 size), (4, .agg #[.int .i64 room, .int .i64 (-1), .int .i64 1, .slice none 0 0, .slice none 0 0, .slice none 0 0])] = some #[.bool false, .int .i64 (keep), .int .i64 (size), .int .i64 (0), .int .i64 (0), .int .i64 (0), .slice none 0 0, .slice none 0 0, .slice none 0 0, .int .i64 (0), .int .i64 (0), .slice none 0 0, .int .i64 (0), .int .i64 (room), .int .i64 (-1), .int .i64 (1), .slice none 0 0, .slice none 0 0, .slice none 0 0, .slice none 0 0, .slice none 0 0] := by kernel_rfl
theorem i_TrialNew (room keep size : Int) (w : World) : Calls Try.prog 13 #[.int .i64 room, .int .i64 keep, .int .i64 size] w fun e w' => e = .returned (.tuple #[.agg #[.bool false, .int .i64 (if tnOk room keep size then keep else 0), .int .i64 (if tnOk room keep size then size else 0), .int .i64 (0), .int .i64 (0), .int .i64 (0), .slice none 0 0, .slice none 0 0, .slice none 0 0, .int .i64 (0), .int .i64 (0), .slice none 0 0, .int .i64 (0), .int .i64 (if tnOk room keep size then room else 0), .int .i64 (if tnOk room keep size then -1 else 0), .int .i64 (if tnOk room keep size then 1 else 0), .slice none 0 0, .slice none 0 0, .slice none 0 0, .slice none 0 0, .slice none 0 0], .bool (tnOk room keep size)]) ∧ Below w.heap.size w w' := by
  have X := hid (show Bx (w.alloc (.cells #[.bool false, .int .i64 (0), .int .i64 (0), .int .i64 (0), .int .i64 (0), .int .i64 (0), .slice none 0 0, .slice none 0 0, .slice none 0 0, .int .i64 (0), .int .i64 (0), .slice none 0 0, .int .i64 (0), .int .i64 (0), .int .i64 (0), .int .i64 (0), .slice none 0 0, .slice none 0 0, .slice none 0 0, .slice none 0 0, .slice none 0 0] 43)) w.heap.size #[.bool false, .int .i64 (0), .int .i64 (0), .int .i64 (0), .int .i64 (0), .int .i64 (0), .slice none 0 0, .slice none 0 0, .slice none 0 0, .int .i64 (0), .int .i64 (0), .slice none 0 0, .int .i64 (0), .int .i64 (0), .int .i64 (0), .int .i64 (0), .slice none 0 0, .slice none 0 0, .slice none 0 0, .slice none 0 0, .slice none 0 0] from Bx.new _ _ _ rfl)
  cases k1 : inB room 0 60000
  · as_aux_lemma =>
      have HK := hid (show tnOk room keep size = false from by unfold tnOk; rw [k1]; rfl)
      rw [HK.out]
      go_enter Try.func13, Try.ntmps13
      go_wp2_with fail
      refine (i_DiskNew room _).mono ?_
      rintro e w1 ⟨rfl, hb⟩
      have X1 := hid (Bx.below hb X.out.f.lt X.out)
      have HB := hid (below_call ((Below.refl _ _).alloc (Nat.le_refl _) _) hb)
      have hz1 := X1.out.f.lt
      clear hb
      have x := X1.out.out; have xf := X1.out.fr
      rw [k1]
      go_upto_region 2 with fail
      refine late_genw (fun W2 hW2 => ?_)
      have X2 := hid (show Bx W2 w.heap.size #[.bool false, .int .i64 (0), .int .i64 (0), .int .i64 (0), .int .i64 (0), .int .i64 (0), .slice none 0 0, .slice none 0 0, .slice none 0 0, .int .i64 (0), .int .i64 (0), .slice none 0 0, .int .i64 (0), .int .i64 (0), .int .i64 (0), .int .i64 (0), .slice none 0 0, .slice none 0 0, .slice none 0 0, .slice none 0 0, .slice none 0 0] by as_aux_lemma => (rw [hW2]; repeat (first | exact X1.out | refine Bx.alloc ?_ (by first | omega | (simp; done) | (simp; omega)) _ | refine Bx.setOther ?_ (by first | omega | (simp; done) | (simp; omega)) _)))
      have Y2 := hid (show Bx W2 w1.heap.size #[.int .i64 (0), .int .i64 (0), .int .i64 (0), .slice none 0 0, .slice none 0 0, .slice none 0 0] by as_aux_lemma => (rw [hW2]; exact Bx.new w1 #[.int .i64 (0), .int .i64 (0), .int .i64 (0), .slice none 0 0, .slice none 0 0, .slice none 0 0] 38 rfl))
      have HB2 := hid (show Below w.heap.size w W2 by as_aux_lemma => (rw [hW2]; repeat (first | exact HB.out | refine Below.alloc ?_ (by have := HB.out.size; first | omega | (simp; done) | (simp; omega)) _ | refine Below.setCell ?_ (by have := HB.out.size; first | omega | (simp; done) | (simp; omega)) _)))
      clear hW2 x xf hz1
      have HC1 := hid (show (#[.bool false, .int .i64 (0), .int .i64 (0), .int .i64 (0), .int .i64 (0), .int .i64 (0), .slice none 0 0, .slice none 0 0, .slice none 0 0, .int .i64 (0), .int .i64 (0), .slice none 0 0, .int .i64 (0), .int .i64 (0), .int .i64 (0), .int .i64 (0), .slice none 0 0, .slice none 0 0, .slice none 0 0, .slice none 0 0, .slice none 0 0] : Array Value).all (·.oneCell') = true by simp [Value.oneCell'])
      have HC2 := hid (show (Try.prog.info? 43).map (·.size) = some (#[.bool false, .int .i64 (0), .int .i64 (0), .int .i64 (0), .int .i64 (0), .int .i64 (0), .slice none 0 0, .slice none 0 0, .slice none 0 0, .int .i64 (0), .int .i64 (0), .slice none 0 0, .int .i64 (0), .int .i64 (0), .int .i64 (0), .int .i64 (0), .slice none 0 0, .slice none 0 0, .slice none 0 0, .slice none 0 0, .slice none 0 0] : Array Value).size by kernel_rfl)
      have HBD := hid (tn_built0)
      go_wp2_with (first | (go_at_call 44; refine (i_in _ _ _ _).mono ?_; rintro e w' ⟨rfl, rfl⟩) | (refine wpList_build_to rfl 43 _ rfl #[.bool false, .int .i64 (0), .int .i64 (0), .int .i64 (0), .int .i64 (0), .int .i64 (0), .slice none 0 0, .slice none 0 0, .slice none 0 0, .int .i64 (0), .int .i64 (0), .slice none 0 0, .int .i64 (0), .int .i64 (0), .int .i64 (0), .int .i64 (0), .slice none 0 0, .slice none 0 0, .slice none 0 0, .slice none 0 0, .slice none 0 0] [] rfl HBD.out ?_; refine wpList_store_mid rfl 43 _ _ rfl w.heap.size 0 #[.bool false, .int .i64 (0), .int .i64 (0), .int .i64 (0), .int .i64 (0), .int .i64 (0), .slice none 0 0, .slice none 0 0, .slice none 0 0, .int .i64 (0), .int .i64 (0), .slice none 0 0, .int .i64 (0), .int .i64 (0), .int .i64 (0), .int .i64 (0), .slice none 0 0, .slice none 0 0, .slice none 0 0, .slice none 0 0, .slice none 0 0] rfl rfl (X2.out.there 0 21 (Nat.le_refl _)) HC2.out HC1.out ?_) | (refine wpList_store_mid rfl 43 _ _ rfl w.heap.size 0 #[.bool false, .int .i64 (0), .int .i64 (0), .int .i64 (0), .int .i64 (0), .int .i64 (0), .slice none 0 0, .slice none 0 0, .slice none 0 0, .int .i64 (0), .int .i64 (0), .slice none 0 0, .int .i64 (0), .int .i64 (0), .int .i64 (0), .int .i64 (0), .slice none 0 0, .slice none 0 0, .slice none 0 0, .slice none 0 0, .slice none 0 0] rfl rfl (X2.out.there 0 21 (Nat.le_refl _)) HC2.out HC1.out ?_))
      refine late_genw (fun W5 hW5 => ?_)
      have V := hid (show Bx W5 w.heap.size #[.bool false, .int .i64 (0), .int .i64 (0), .int .i64 (0), .int .i64 (0), .int .i64 (0), .slice none 0 0, .slice none 0 0, .slice none 0 0, .int .i64 (0), .int .i64 (0), .slice none 0 0, .int .i64 (0), .int .i64 (0), .int .i64 (0), .int .i64 (0), .slice none 0 0, .slice none 0 0, .slice none 0 0, .slice none 0 0, .slice none 0 0] by as_aux_lemma => (rw [hW5]; exact X2.out.setAll [.bool false, .int .i64 (0), .int .i64 (0), .int .i64 (0), .int .i64 (0), .int .i64 (0), .slice none 0 0, .slice none 0 0, .slice none 0 0, .int .i64 (0), .int .i64 (0), .slice none 0 0, .int .i64 (0), .int .i64 (0), .int .i64 (0), .int .i64 (0), .slice none 0 0, .slice none 0 0, .slice none 0 0, .slice none 0 0, .slice none 0 0] rfl))
      have HBn := hid (show Below w.heap.size w W5 by as_aux_lemma => (rw [hW5]; exact Below.setCells _ (Nat.le_refl _) _ _ HB2.out))
      clear hW5
      refine bodyPost_ret (results_mid_tmp Try.results13 rfl [.bool false, .int .i64 (0), .int .i64 (0), .int .i64 (0), .int .i64 (0), .int .i64 (0), .slice none 0 0, .slice none 0 0, .slice none 0 0, .int .i64 (0), .int .i64 (0), .slice none 0 0, .int .i64 (0), .int .i64 (0), .int .i64 (0), .int .i64 (0), .slice none 0 0, .slice none 0 0, .slice none 0 0, .slice none 0 0, .slice none 0 0] V.out.whole Try.underlying43 rfl (by kernel_rfl)) rfl ?_
      exact ⟨rfl, HBn.out⟩
  cases k2 : inB keep 1 100
  · as_aux_lemma =>
      have HK := hid (show tnOk room keep size = false from by unfold tnOk; rw [k2]; simp)
      rw [HK.out]
      go_enter Try.func13, Try.ntmps13
      go_wp2_with fail
      refine (i_DiskNew room _).mono ?_
      rintro e w1 ⟨rfl, hb⟩
      have X1 := hid (Bx.below hb X.out.f.lt X.out)
      have HB := hid (below_call ((Below.refl _ _).alloc (Nat.le_refl _) _) hb)
      have hz1 := X1.out.f.lt
      clear hb
      have x := X1.out.out; have xf := X1.out.fr
      rw [k1]
      go_upto_region 2 with fail
      refine late_genw (fun W2 hW2 => ?_)
      have X2 := hid (show Bx W2 w.heap.size #[.bool false, .int .i64 (0), .int .i64 (0), .int .i64 (0), .int .i64 (0), .int .i64 (0), .slice none 0 0, .slice none 0 0, .slice none 0 0, .int .i64 (0), .int .i64 (0), .slice none 0 0, .int .i64 (0), .int .i64 (0), .int .i64 (0), .int .i64 (0), .slice none 0 0, .slice none 0 0, .slice none 0 0, .slice none 0 0, .slice none 0 0] by as_aux_lemma => (rw [hW2]; repeat (first | exact X1.out | refine Bx.alloc ?_ (by first | omega | (simp; done) | (simp; omega)) _ | refine Bx.setOther ?_ (by first | omega | (simp; done) | (simp; omega)) _)))
      have Y2 := hid (show Bx W2 w1.heap.size #[.int .i64 (room), .int .i64 (-1), .int .i64 (1), .slice none 0 0, .slice none 0 0, .slice none 0 0] by as_aux_lemma => (rw [hW2]; exact Bx.new w1 #[.int .i64 (room), .int .i64 (-1), .int .i64 (1), .slice none 0 0, .slice none 0 0, .slice none 0 0] 38 rfl))
      have HB2 := hid (show Below w.heap.size w W2 by as_aux_lemma => (rw [hW2]; repeat (first | exact HB.out | refine Below.alloc ?_ (by have := HB.out.size; first | omega | (simp; done) | (simp; omega)) _ | refine Below.setCell ?_ (by have := HB.out.size; first | omega | (simp; done) | (simp; omega)) _)))
      clear hW2 x xf hz1
      have HC1 := hid (show (#[.bool false, .int .i64 (0), .int .i64 (0), .int .i64 (0), .int .i64 (0), .int .i64 (0), .slice none 0 0, .slice none 0 0, .slice none 0 0, .int .i64 (0), .int .i64 (0), .slice none 0 0, .int .i64 (0), .int .i64 (0), .int .i64 (0), .int .i64 (0), .slice none 0 0, .slice none 0 0, .slice none 0 0, .slice none 0 0, .slice none 0 0] : Array Value).all (·.oneCell') = true by simp [Value.oneCell'])
      have HC2 := hid (show (Try.prog.info? 43).map (·.size) = some (#[.bool false, .int .i64 (0), .int .i64 (0), .int .i64 (0), .int .i64 (0), .int .i64 (0), .slice none 0 0, .slice none 0 0, .slice none 0 0, .int .i64 (0), .int .i64 (0), .slice none 0 0, .int .i64 (0), .int .i64 (0), .int .i64 (0), .int .i64 (0), .slice none 0 0, .slice none 0 0, .slice none 0 0, .slice none 0 0, .slice none 0 0] : Array Value).size by kernel_rfl)
      have HBD := hid (tn_built0)
      go_wp2_with (first | (go_at_call 44; refine (i_in _ _ _ _).mono ?_; rintro e w' ⟨rfl, rfl⟩) | (refine wpList_build_to rfl 43 _ rfl #[.bool false, .int .i64 (0), .int .i64 (0), .int .i64 (0), .int .i64 (0), .int .i64 (0), .slice none 0 0, .slice none 0 0, .slice none 0 0, .int .i64 (0), .int .i64 (0), .slice none 0 0, .int .i64 (0), .int .i64 (0), .int .i64 (0), .int .i64 (0), .slice none 0 0, .slice none 0 0, .slice none 0 0, .slice none 0 0, .slice none 0 0] [] rfl HBD.out ?_; refine wpList_store_mid rfl 43 _ _ rfl w.heap.size 0 #[.bool false, .int .i64 (0), .int .i64 (0), .int .i64 (0), .int .i64 (0), .int .i64 (0), .slice none 0 0, .slice none 0 0, .slice none 0 0, .int .i64 (0), .int .i64 (0), .slice none 0 0, .int .i64 (0), .int .i64 (0), .int .i64 (0), .int .i64 (0), .slice none 0 0, .slice none 0 0, .slice none 0 0, .slice none 0 0, .slice none 0 0] rfl rfl (X2.out.there 0 21 (Nat.le_refl _)) HC2.out HC1.out ?_) | (refine wpList_store_mid rfl 43 _ _ rfl w.heap.size 0 #[.bool false, .int .i64 (0), .int .i64 (0), .int .i64 (0), .int .i64 (0), .int .i64 (0), .slice none 0 0, .slice none 0 0, .slice none 0 0, .int .i64 (0), .int .i64 (0), .slice none 0 0, .int .i64 (0), .int .i64 (0), .int .i64 (0), .int .i64 (0), .slice none 0 0, .slice none 0 0, .slice none 0 0, .slice none 0 0, .slice none 0 0] rfl rfl (X2.out.there 0 21 (Nat.le_refl _)) HC2.out HC1.out ?_))
      refine late_genw (fun W5 hW5 => ?_)
      have V := hid (show Bx W5 w.heap.size #[.bool false, .int .i64 (0), .int .i64 (0), .int .i64 (0), .int .i64 (0), .int .i64 (0), .slice none 0 0, .slice none 0 0, .slice none 0 0, .int .i64 (0), .int .i64 (0), .slice none 0 0, .int .i64 (0), .int .i64 (0), .int .i64 (0), .int .i64 (0), .slice none 0 0, .slice none 0 0, .slice none 0 0, .slice none 0 0, .slice none 0 0] by as_aux_lemma => (rw [hW5]; exact X2.out.setAll [.bool false, .int .i64 (0), .int .i64 (0), .int .i64 (0), .int .i64 (0), .int .i64 (0), .slice none 0 0, .slice none 0 0, .slice none 0 0, .int .i64 (0), .int .i64 (0), .slice none 0 0, .int .i64 (0), .int .i64 (0), .int .i64 (0), .int .i64 (0), .slice none 0 0, .slice none 0 0, .slice none 0 0, .slice none 0 0, .slice none 0 0] rfl))
      have HBn := hid (show Below w.heap.size w W5 by as_aux_lemma => (rw [hW5]; exact Below.setCells _ (Nat.le_refl _) _ _ HB2.out))
      clear hW5
      refine bodyPost_ret (results_mid_tmp Try.results13 rfl [.bool false, .int .i64 (0), .int .i64 (0), .int .i64 (0), .int .i64 (0), .int .i64 (0), .slice none 0 0, .slice none 0 0, .slice none 0 0, .int .i64 (0), .int .i64 (0), .slice none 0 0, .int .i64 (0), .int .i64 (0), .int .i64 (0), .int .i64 (0), .slice none 0 0, .slice none 0 0, .slice none 0 0, .slice none 0 0, .slice none 0 0] V.out.whole Try.underlying43 rfl (by kernel_rfl)) rfl ?_
      exact ⟨rfl, HBn.out⟩
  cases k3 : inB size 0 60000
  · as_aux_lemma =>
      have HK := hid (show tnOk room keep size = false from by unfold tnOk; rw [k3]; simp)
      rw [HK.out]
      go_enter Try.func13, Try.ntmps13
      go_wp2_with fail
      refine (i_DiskNew room _).mono ?_
      rintro e w1 ⟨rfl, hb⟩
      have X1 := hid (Bx.below hb X.out.f.lt X.out)
      have HB := hid (below_call ((Below.refl _ _).alloc (Nat.le_refl _) _) hb)
      have hz1 := X1.out.f.lt
      clear hb
      have x := X1.out.out; have xf := X1.out.fr
      rw [k1]
      go_upto_region 2 with fail
      refine late_genw (fun W2 hW2 => ?_)
      have X2 := hid (show Bx W2 w.heap.size #[.bool false, .int .i64 (0), .int .i64 (0), .int .i64 (0), .int .i64 (0), .int .i64 (0), .slice none 0 0, .slice none 0 0, .slice none 0 0, .int .i64 (0), .int .i64 (0), .slice none 0 0, .int .i64 (0), .int .i64 (0), .int .i64 (0), .int .i64 (0), .slice none 0 0, .slice none 0 0, .slice none 0 0, .slice none 0 0, .slice none 0 0] by as_aux_lemma => (rw [hW2]; repeat (first | exact X1.out | refine Bx.alloc ?_ (by first | omega | (simp; done) | (simp; omega)) _ | refine Bx.setOther ?_ (by first | omega | (simp; done) | (simp; omega)) _)))
      have Y2 := hid (show Bx W2 w1.heap.size #[.int .i64 (room), .int .i64 (-1), .int .i64 (1), .slice none 0 0, .slice none 0 0, .slice none 0 0] by as_aux_lemma => (rw [hW2]; exact Bx.new w1 #[.int .i64 (room), .int .i64 (-1), .int .i64 (1), .slice none 0 0, .slice none 0 0, .slice none 0 0] 38 rfl))
      have HB2 := hid (show Below w.heap.size w W2 by as_aux_lemma => (rw [hW2]; repeat (first | exact HB.out | refine Below.alloc ?_ (by have := HB.out.size; first | omega | (simp; done) | (simp; omega)) _ | refine Below.setCell ?_ (by have := HB.out.size; first | omega | (simp; done) | (simp; omega)) _)))
      clear hW2 x xf hz1
      have HC1 := hid (show (#[.bool false, .int .i64 (0), .int .i64 (0), .int .i64 (0), .int .i64 (0), .int .i64 (0), .slice none 0 0, .slice none 0 0, .slice none 0 0, .int .i64 (0), .int .i64 (0), .slice none 0 0, .int .i64 (0), .int .i64 (0), .int .i64 (0), .int .i64 (0), .slice none 0 0, .slice none 0 0, .slice none 0 0, .slice none 0 0, .slice none 0 0] : Array Value).all (·.oneCell') = true by simp [Value.oneCell'])
      have HC2 := hid (show (Try.prog.info? 43).map (·.size) = some (#[.bool false, .int .i64 (0), .int .i64 (0), .int .i64 (0), .int .i64 (0), .int .i64 (0), .slice none 0 0, .slice none 0 0, .slice none 0 0, .int .i64 (0), .int .i64 (0), .slice none 0 0, .int .i64 (0), .int .i64 (0), .int .i64 (0), .int .i64 (0), .slice none 0 0, .slice none 0 0, .slice none 0 0, .slice none 0 0, .slice none 0 0] : Array Value).size by kernel_rfl)
      have HBD := hid (tn_built0)
      go_wp2_with (first | (go_at_call 44; refine (i_in _ _ _ _).mono ?_; rintro e w' ⟨rfl, rfl⟩) | (refine wpList_build_to rfl 43 _ rfl #[.bool false, .int .i64 (0), .int .i64 (0), .int .i64 (0), .int .i64 (0), .int .i64 (0), .slice none 0 0, .slice none 0 0, .slice none 0 0, .int .i64 (0), .int .i64 (0), .slice none 0 0, .int .i64 (0), .int .i64 (0), .int .i64 (0), .int .i64 (0), .slice none 0 0, .slice none 0 0, .slice none 0 0, .slice none 0 0, .slice none 0 0] [] rfl HBD.out ?_; refine wpList_store_mid rfl 43 _ _ rfl w.heap.size 0 #[.bool false, .int .i64 (0), .int .i64 (0), .int .i64 (0), .int .i64 (0), .int .i64 (0), .slice none 0 0, .slice none 0 0, .slice none 0 0, .int .i64 (0), .int .i64 (0), .slice none 0 0, .int .i64 (0), .int .i64 (0), .int .i64 (0), .int .i64 (0), .slice none 0 0, .slice none 0 0, .slice none 0 0, .slice none 0 0, .slice none 0 0] rfl rfl (X2.out.there 0 21 (Nat.le_refl _)) HC2.out HC1.out ?_) | (refine wpList_store_mid rfl 43 _ _ rfl w.heap.size 0 #[.bool false, .int .i64 (0), .int .i64 (0), .int .i64 (0), .int .i64 (0), .int .i64 (0), .slice none 0 0, .slice none 0 0, .slice none 0 0, .int .i64 (0), .int .i64 (0), .slice none 0 0, .int .i64 (0), .int .i64 (0), .int .i64 (0), .int .i64 (0), .slice none 0 0, .slice none 0 0, .slice none 0 0, .slice none 0 0, .slice none 0 0] rfl rfl (X2.out.there 0 21 (Nat.le_refl _)) HC2.out HC1.out ?_))
      refine late_genw (fun W5 hW5 => ?_)
      have V := hid (show Bx W5 w.heap.size #[.bool false, .int .i64 (0), .int .i64 (0), .int .i64 (0), .int .i64 (0), .int .i64 (0), .slice none 0 0, .slice none 0 0, .slice none 0 0, .int .i64 (0), .int .i64 (0), .slice none 0 0, .int .i64 (0), .int .i64 (0), .int .i64 (0), .int .i64 (0), .slice none 0 0, .slice none 0 0, .slice none 0 0, .slice none 0 0, .slice none 0 0] by as_aux_lemma => (rw [hW5]; exact X2.out.setAll [.bool false, .int .i64 (0), .int .i64 (0), .int .i64 (0), .int .i64 (0), .int .i64 (0), .slice none 0 0, .slice none 0 0, .slice none 0 0, .int .i64 (0), .int .i64 (0), .slice none 0 0, .int .i64 (0), .int .i64 (0), .int .i64 (0), .int .i64 (0), .slice none 0 0, .slice none 0 0, .slice none 0 0, .slice none 0 0, .slice none 0 0] rfl))
      have HBn := hid (show Below w.heap.size w W5 by as_aux_lemma => (rw [hW5]; exact Below.setCells _ (Nat.le_refl _) _ _ HB2.out))
      clear hW5
      refine bodyPost_ret (results_mid_tmp Try.results13 rfl [.bool false, .int .i64 (0), .int .i64 (0), .int .i64 (0), .int .i64 (0), .int .i64 (0), .slice none 0 0, .slice none 0 0, .slice none 0 0, .int .i64 (0), .int .i64 (0), .slice none 0 0, .int .i64 (0), .int .i64 (0), .int .i64 (0), .int .i64 (0), .slice none 0 0, .slice none 0 0, .slice none 0 0, .slice none 0 0, .slice none 0 0] V.out.whole Try.underlying43 rfl (by kernel_rfl)) rfl ?_
      exact ⟨rfl, HBn.out⟩
  · as_aux_lemma =>
      have HK := hid (show tnOk room keep size = true from by unfold tnOk; rw [k1, k2, k3]; rfl)
      rw [HK.out]
      go_enter Try.func13, Try.ntmps13
      go_wp2_with fail
      refine (i_DiskNew room _).mono ?_
      rintro e w1 ⟨rfl, hb⟩
      have X1 := hid (Bx.below hb X.out.f.lt X.out)
      have HB := hid (below_call ((Below.refl _ _).alloc (Nat.le_refl _) _) hb)
      have hz1 := X1.out.f.lt
      clear hb
      have x := X1.out.out; have xf := X1.out.fr
      rw [k1]
      go_upto_region 2 with fail
      refine late_genw (fun W2 hW2 => ?_)
      have X2 := hid (show Bx W2 w.heap.size #[.bool false, .int .i64 (0), .int .i64 (0), .int .i64 (0), .int .i64 (0), .int .i64 (0), .slice none 0 0, .slice none 0 0, .slice none 0 0, .int .i64 (0), .int .i64 (0), .slice none 0 0, .int .i64 (0), .int .i64 (0), .int .i64 (0), .int .i64 (0), .slice none 0 0, .slice none 0 0, .slice none 0 0, .slice none 0 0, .slice none 0 0] by as_aux_lemma => (rw [hW2]; repeat (first | exact X1.out | refine Bx.alloc ?_ (by first | omega | (simp; done) | (simp; omega)) _ | refine Bx.setOther ?_ (by first | omega | (simp; done) | (simp; omega)) _)))
      have Y2 := hid (show Bx W2 w1.heap.size #[.int .i64 (room), .int .i64 (-1), .int .i64 (1), .slice none 0 0, .slice none 0 0, .slice none 0 0] by as_aux_lemma => (rw [hW2]; exact Bx.new w1 #[.int .i64 (room), .int .i64 (-1), .int .i64 (1), .slice none 0 0, .slice none 0 0, .slice none 0 0] 38 rfl))
      have HB2 := hid (show Below w.heap.size w W2 by as_aux_lemma => (rw [hW2]; repeat (first | exact HB.out | refine Below.alloc ?_ (by have := HB.out.size; first | omega | (simp; done) | (simp; omega)) _ | refine Below.setCell ?_ (by have := HB.out.size; first | omega | (simp; done) | (simp; omega)) _)))
      clear hW2 x xf hz1
      have HC1 := hid (show (#[.bool false, .int .i64 (keep), .int .i64 (size), .int .i64 (0), .int .i64 (0), .int .i64 (0), .slice none 0 0, .slice none 0 0, .slice none 0 0, .int .i64 (0), .int .i64 (0), .slice none 0 0, .int .i64 (0), .int .i64 (room), .int .i64 (-1), .int .i64 (1), .slice none 0 0, .slice none 0 0, .slice none 0 0, .slice none 0 0, .slice none 0 0] : Array Value).all (·.oneCell') = true by simp [Value.oneCell'])
      have HC2 := hid (show (Try.prog.info? 43).map (·.size) = some (#[.bool false, .int .i64 (keep), .int .i64 (size), .int .i64 (0), .int .i64 (0), .int .i64 (0), .slice none 0 0, .slice none 0 0, .slice none 0 0, .int .i64 (0), .int .i64 (0), .slice none 0 0, .int .i64 (0), .int .i64 (room), .int .i64 (-1), .int .i64 (1), .slice none 0 0, .slice none 0 0, .slice none 0 0, .slice none 0 0, .slice none 0 0] : Array Value).size by kernel_rfl)
      have HBD := hid (tn_built keep size room)
      go_wp2_with (first | (go_at_call 44; refine (i_in _ _ _ _).mono ?_; rintro e w' ⟨rfl, rfl⟩) | (refine wpList_load_mid rfl 38 _ rfl w1.heap.size 0 rfl [.int .i64 (room), .int .i64 (-1), .int .i64 (1), .slice none 0 0, .slice none 0 0, .slice none 0 0] _ (Y2.out.whole) Try.underlying38 rfl (by kernel_rfl) ?_; refine wpList_build_to rfl 43 _ rfl #[.bool false, .int .i64 (keep), .int .i64 (size), .int .i64 (0), .int .i64 (0), .int .i64 (0), .slice none 0 0, .slice none 0 0, .slice none 0 0, .int .i64 (0), .int .i64 (0), .slice none 0 0, .int .i64 (0), .int .i64 (room), .int .i64 (-1), .int .i64 (1), .slice none 0 0, .slice none 0 0, .slice none 0 0, .slice none 0 0, .slice none 0 0] [(1, .int .i64 keep), (2, .int .i64 size), (4, .agg #[.int .i64 room, .int .i64 (-1), .int .i64 1, .slice none 0 0, .slice none 0 0, .slice none 0 0])] rfl HBD.out ?_; refine wpList_store_mid rfl 43 _ _ rfl w.heap.size 0 #[.bool false, .int .i64 (keep), .int .i64 (size), .int .i64 (0), .int .i64 (0), .int .i64 (0), .slice none 0 0, .slice none 0 0, .slice none 0 0, .int .i64 (0), .int .i64 (0), .slice none 0 0, .int .i64 (0), .int .i64 (room), .int .i64 (-1), .int .i64 (1), .slice none 0 0, .slice none 0 0, .slice none 0 0, .slice none 0 0, .slice none 0 0] rfl rfl (X2.out.there 0 21 (Nat.le_refl _)) HC2.out HC1.out ?_) | (refine wpList_store_mid rfl 43 _ _ rfl w.heap.size 0 #[.bool false, .int .i64 (keep), .int .i64 (size), .int .i64 (0), .int .i64 (0), .int .i64 (0), .slice none 0 0, .slice none 0 0, .slice none 0 0, .int .i64 (0), .int .i64 (0), .slice none 0 0, .int .i64 (0), .int .i64 (room), .int .i64 (-1), .int .i64 (1), .slice none 0 0, .slice none 0 0, .slice none 0 0, .slice none 0 0, .slice none 0 0] rfl rfl (X2.out.there 0 21 (Nat.le_refl _)) HC2.out HC1.out ?_))
      refine late_genw (fun W5 hW5 => ?_)
      have V := hid (show Bx W5 w.heap.size #[.bool false, .int .i64 (keep), .int .i64 (size), .int .i64 (0), .int .i64 (0), .int .i64 (0), .slice none 0 0, .slice none 0 0, .slice none 0 0, .int .i64 (0), .int .i64 (0), .slice none 0 0, .int .i64 (0), .int .i64 (room), .int .i64 (-1), .int .i64 (1), .slice none 0 0, .slice none 0 0, .slice none 0 0, .slice none 0 0, .slice none 0 0] by as_aux_lemma => (rw [hW5]; exact X2.out.setAll [.bool false, .int .i64 (keep), .int .i64 (size), .int .i64 (0), .int .i64 (0), .int .i64 (0), .slice none 0 0, .slice none 0 0, .slice none 0 0, .int .i64 (0), .int .i64 (0), .slice none 0 0, .int .i64 (0), .int .i64 (room), .int .i64 (-1), .int .i64 (1), .slice none 0 0, .slice none 0 0, .slice none 0 0, .slice none 0 0, .slice none 0 0] rfl))
      have HBn := hid (show Below w.heap.size w W5 by as_aux_lemma => (rw [hW5]; exact Below.setCells _ (Nat.le_refl _) _ _ HB2.out))
      clear hW5
      refine bodyPost_ret (results_mid_tmp Try.results13 rfl [.bool false, .int .i64 (keep), .int .i64 (size), .int .i64 (0), .int .i64 (0), .int .i64 (0), .slice none 0 0, .slice none 0 0, .slice none 0 0, .int .i64 (0), .int .i64 (0), .slice none 0 0, .int .i64 (0), .int .i64 (room), .int .i64 (-1), .int .i64 (1), .slice none 0 0, .slice none 0 0, .slice none 0 0, .slice none 0 0, .slice none 0 0] V.out.whole Try.underlying43 rfl (by kernel_rfl)) rfl ?_
      exact ⟨rfl, HBn.out⟩
theorem s_TrialNew (room keep size : Int) (w : World) : Calls Try.prog 12 #[.int .i64 room, .int .i64 keep, .int .i64 size] w fun e w' => e = .returned (.tuple #[.agg #[.bool false, .int .i64 (if tnOk room keep size then keep else 0), .int .i64 (if tnOk room keep size then size else 0), .int .i64 (0), .int .i64 (0), .int .i64 (0), .slice none 0 0, .slice none 0 0, .slice none 0 0, .int .i64 (0), .int .i64 (0), .slice none 0 0, .int .i64 (0), .int .i64 (if tnOk room keep size then room else 0), .int .i64 (if tnOk room keep size then -1 else 0), .int .i64 (if tnOk room keep size then 1 else 0), .slice none 0 0, .slice none 0 0, .slice none 0 0, .slice none 0 0, .slice none 0 0], .bool (tnOk room keep size)]) ∧ Below w.heap.size w w' := by
  have X := hid (show Bx (w.alloc (.cells #[.bool false, .int .i64 (0), .int .i64 (0), .int .i64 (0), .int .i64 (0), .int .i64 (0), .slice none 0 0, .slice none 0 0, .slice none 0 0, .int .i64 (0), .int .i64 (0), .slice none 0 0, .int .i64 (0), .int .i64 (0), .int .i64 (0), .int .i64 (0), .slice none 0 0, .slice none 0 0, .slice none 0 0, .slice none 0 0, .slice none 0 0] 43)) w.heap.size #[.bool false, .int .i64 (0), .int .i64 (0), .int .i64 (0), .int .i64 (0), .int .i64 (0), .slice none 0 0, .slice none 0 0, .slice none 0 0, .int .i64 (0), .int .i64 (0), .slice none 0 0, .int .i64 (0), .int .i64 (0), .int .i64 (0), .int .i64 (0), .slice none 0 0, .slice none 0 0, .slice none 0 0, .slice none 0 0, .slice none 0 0] from Bx.new _ _ _ rfl)
  cases k1 : inB room 0 60000
  · as_aux_lemma =>
      have HK := hid (show tnOk room keep size = false from by unfold tnOk; rw [k1]; rfl)
      rw [HK.out]
      go_enter Try.func12, Try.ntmps12
      go_wp2_with fail
      refine (s_DiskNew room _).mono ?_
      rintro e w1 ⟨rfl, hb⟩
      have X1 := hid (Bx.below hb X.out.f.lt X.out)
      have HB := hid (below_call ((Below.refl _ _).alloc (Nat.le_refl _) _) hb)
      have hz1 := X1.out.f.lt
      clear hb
      have x := X1.out.out; have xf := X1.out.fr
      rw [k1]
      go_upto_region 2 with fail
      refine late_genw (fun W2 hW2 => ?_)
      have X2 := hid (show Bx W2 w.heap.size #[.bool false, .int .i64 (0), .int .i64 (0), .int .i64 (0), .int .i64 (0), .int .i64 (0), .slice none 0 0, .slice none 0 0, .slice none 0 0, .int .i64 (0), .int .i64 (0), .slice none 0 0, .int .i64 (0), .int .i64 (0), .int .i64 (0), .int .i64 (0), .slice none 0 0, .slice none 0 0, .slice none 0 0, .slice none 0 0, .slice none 0 0] by as_aux_lemma => (rw [hW2]; repeat (first | exact X1.out | refine Bx.alloc ?_ (by first | omega | (simp; done) | (simp; omega)) _ | refine Bx.setOther ?_ (by first | omega | (simp; done) | (simp; omega)) _)))
      have Y2 := hid (show Bx W2 w1.heap.size #[.int .i64 (0), .int .i64 (0), .int .i64 (0), .slice none 0 0, .slice none 0 0, .slice none 0 0] by as_aux_lemma => (rw [hW2]; exact Bx.new w1 #[.int .i64 (0), .int .i64 (0), .int .i64 (0), .slice none 0 0, .slice none 0 0, .slice none 0 0] 38 rfl))
      have HB2 := hid (show Below w.heap.size w W2 by as_aux_lemma => (rw [hW2]; repeat (first | exact HB.out | refine Below.alloc ?_ (by have := HB.out.size; first | omega | (simp; done) | (simp; omega)) _ | refine Below.setCell ?_ (by have := HB.out.size; first | omega | (simp; done) | (simp; omega)) _)))
      clear hW2 x xf hz1
      have HC1 := hid (show (#[.bool false, .int .i64 (0), .int .i64 (0), .int .i64 (0), .int .i64 (0), .int .i64 (0), .slice none 0 0, .slice none 0 0, .slice none 0 0, .int .i64 (0), .int .i64 (0), .slice none 0 0, .int .i64 (0), .int .i64 (0), .int .i64 (0), .int .i64 (0), .slice none 0 0, .slice none 0 0, .slice none 0 0, .slice none 0 0, .slice none 0 0] : Array Value).all (·.oneCell') = true by simp [Value.oneCell'])
      have HC2 := hid (show (Try.prog.info? 43).map (·.size) = some (#[.bool false, .int .i64 (0), .int .i64 (0), .int .i64 (0), .int .i64 (0), .int .i64 (0), .slice none 0 0, .slice none 0 0, .slice none 0 0, .int .i64 (0), .int .i64 (0), .slice none 0 0, .int .i64 (0), .int .i64 (0), .int .i64 (0), .int .i64 (0), .slice none 0 0, .slice none 0 0, .slice none 0 0, .slice none 0 0, .slice none 0 0] : Array Value).size by kernel_rfl)
      have HBD := hid (tn_built0)
      go_wp2_with (first | (go_at_call 42; refine (s_l06Range _ _ _).mono ?_; rintro e w' ⟨rfl, rfl⟩) | (refine wpList_build_to rfl 43 _ rfl #[.bool false, .int .i64 (0), .int .i64 (0), .int .i64 (0), .int .i64 (0), .int .i64 (0), .slice none 0 0, .slice none 0 0, .slice none 0 0, .int .i64 (0), .int .i64 (0), .slice none 0 0, .int .i64 (0), .int .i64 (0), .int .i64 (0), .int .i64 (0), .slice none 0 0, .slice none 0 0, .slice none 0 0, .slice none 0 0, .slice none 0 0] [] rfl HBD.out ?_; refine wpList_store_mid rfl 43 _ _ rfl w.heap.size 0 #[.bool false, .int .i64 (0), .int .i64 (0), .int .i64 (0), .int .i64 (0), .int .i64 (0), .slice none 0 0, .slice none 0 0, .slice none 0 0, .int .i64 (0), .int .i64 (0), .slice none 0 0, .int .i64 (0), .int .i64 (0), .int .i64 (0), .int .i64 (0), .slice none 0 0, .slice none 0 0, .slice none 0 0, .slice none 0 0, .slice none 0 0] rfl rfl (X2.out.there 0 21 (Nat.le_refl _)) HC2.out HC1.out ?_) | (refine wpList_store_mid rfl 43 _ _ rfl w.heap.size 0 #[.bool false, .int .i64 (0), .int .i64 (0), .int .i64 (0), .int .i64 (0), .int .i64 (0), .slice none 0 0, .slice none 0 0, .slice none 0 0, .int .i64 (0), .int .i64 (0), .slice none 0 0, .int .i64 (0), .int .i64 (0), .int .i64 (0), .int .i64 (0), .slice none 0 0, .slice none 0 0, .slice none 0 0, .slice none 0 0, .slice none 0 0] rfl rfl (X2.out.there 0 21 (Nat.le_refl _)) HC2.out HC1.out ?_))
      refine late_genw (fun W5 hW5 => ?_)
      have V := hid (show Bx W5 w.heap.size #[.bool false, .int .i64 (0), .int .i64 (0), .int .i64 (0), .int .i64 (0), .int .i64 (0), .slice none 0 0, .slice none 0 0, .slice none 0 0, .int .i64 (0), .int .i64 (0), .slice none 0 0, .int .i64 (0), .int .i64 (0), .int .i64 (0), .int .i64 (0), .slice none 0 0, .slice none 0 0, .slice none 0 0, .slice none 0 0, .slice none 0 0] by as_aux_lemma => (rw [hW5]; exact X2.out.setAll [.bool false, .int .i64 (0), .int .i64 (0), .int .i64 (0), .int .i64 (0), .int .i64 (0), .slice none 0 0, .slice none 0 0, .slice none 0 0, .int .i64 (0), .int .i64 (0), .slice none 0 0, .int .i64 (0), .int .i64 (0), .int .i64 (0), .int .i64 (0), .slice none 0 0, .slice none 0 0, .slice none 0 0, .slice none 0 0, .slice none 0 0] rfl))
      have HBn := hid (show Below w.heap.size w W5 by as_aux_lemma => (rw [hW5]; exact Below.setCells _ (Nat.le_refl _) _ _ HB2.out))
      clear hW5
      refine bodyPost_ret (results_mid_tmp Try.results12 rfl [.bool false, .int .i64 (0), .int .i64 (0), .int .i64 (0), .int .i64 (0), .int .i64 (0), .slice none 0 0, .slice none 0 0, .slice none 0 0, .int .i64 (0), .int .i64 (0), .slice none 0 0, .int .i64 (0), .int .i64 (0), .int .i64 (0), .int .i64 (0), .slice none 0 0, .slice none 0 0, .slice none 0 0, .slice none 0 0, .slice none 0 0] V.out.whole Try.underlying43 rfl (by kernel_rfl)) rfl ?_
      exact ⟨rfl, HBn.out⟩
  cases k2 : inB keep 1 100
  · as_aux_lemma =>
      have HK := hid (show tnOk room keep size = false from by unfold tnOk; rw [k2]; simp)
      rw [HK.out]
      go_enter Try.func12, Try.ntmps12
      go_wp2_with fail
      refine (s_DiskNew room _).mono ?_
      rintro e w1 ⟨rfl, hb⟩
      have X1 := hid (Bx.below hb X.out.f.lt X.out)
      have HB := hid (below_call ((Below.refl _ _).alloc (Nat.le_refl _) _) hb)
      have hz1 := X1.out.f.lt
      clear hb
      have x := X1.out.out; have xf := X1.out.fr
      rw [k1]
      go_upto_region 2 with fail
      refine late_genw (fun W2 hW2 => ?_)
      have X2 := hid (show Bx W2 w.heap.size #[.bool false, .int .i64 (0), .int .i64 (0), .int .i64 (0), .int .i64 (0), .int .i64 (0), .slice none 0 0, .slice none 0 0, .slice none 0 0, .int .i64 (0), .int .i64 (0), .slice none 0 0, .int .i64 (0), .int .i64 (0), .int .i64 (0), .int .i64 (0), .slice none 0 0, .slice none 0 0, .slice none 0 0, .slice none 0 0, .slice none 0 0] by as_aux_lemma => (rw [hW2]; repeat (first | exact X1.out | refine Bx.alloc ?_ (by first | omega | (simp; done) | (simp; omega)) _ | refine Bx.setOther ?_ (by first | omega | (simp; done) | (simp; omega)) _)))
      have Y2 := hid (show Bx W2 w1.heap.size #[.int .i64 (room), .int .i64 (-1), .int .i64 (1), .slice none 0 0, .slice none 0 0, .slice none 0 0] by as_aux_lemma => (rw [hW2]; exact Bx.new w1 #[.int .i64 (room), .int .i64 (-1), .int .i64 (1), .slice none 0 0, .slice none 0 0, .slice none 0 0] 38 rfl))
      have HB2 := hid (show Below w.heap.size w W2 by as_aux_lemma => (rw [hW2]; repeat (first | exact HB.out | refine Below.alloc ?_ (by have := HB.out.size; first | omega | (simp; done) | (simp; omega)) _ | refine Below.setCell ?_ (by have := HB.out.size; first | omega | (simp; done) | (simp; omega)) _)))
      clear hW2 x xf hz1
      have HC1 := hid (show (#[.bool false, .int .i64 (0), .int .i64 (0), .int .i64 (0), .int .i64 (0), .int .i64 (0), .slice none 0 0, .slice none 0 0, .slice none 0 0, .int .i64 (0), .int .i64 (0), .slice none 0 0, .int .i64 (0), .int .i64 (0), .int .i64 (0), .int .i64 (0), .slice none 0 0, .slice none 0 0, .slice none 0 0, .slice none 0 0, .slice none 0 0] : Array Value).all (·.oneCell') = true by simp [Value.oneCell'])
      have HC2 := hid (show (Try.prog.info? 43).map (·.size) = some (#[.bool false, .int .i64 (0), .int .i64 (0), .int .i64 (0), .int .i64 (0), .int .i64 (0), .slice none 0 0, .slice none 0 0, .slice none 0 0, .int .i64 (0), .int .i64 (0), .slice none 0 0, .int .i64 (0), .int .i64 (0), .int .i64 (0), .int .i64 (0), .slice none 0 0, .slice none 0 0, .slice none 0 0, .slice none 0 0, .slice none 0 0] : Array Value).size by kernel_rfl)
      have HBD := hid (tn_built0)
      go_wp2_with (first | (go_at_call 42; refine (s_l06Range _ _ _).mono ?_; rintro e w' ⟨rfl, rfl⟩) | (refine wpList_build_to rfl 43 _ rfl #[.bool false, .int .i64 (0), .int .i64 (0), .int .i64 (0), .int .i64 (0), .int .i64 (0), .slice none 0 0, .slice none 0 0, .slice none 0 0, .int .i64 (0), .int .i64 (0), .slice none 0 0, .int .i64 (0), .int .i64 (0), .int .i64 (0), .int .i64 (0), .slice none 0 0, .slice none 0 0, .slice none 0 0, .slice none 0 0, .slice none 0 0] [] rfl HBD.out ?_; refine wpList_store_mid rfl 43 _ _ rfl w.heap.size 0 #[.bool false, .int .i64 (0), .int .i64 (0), .int .i64 (0), .int .i64 (0), .int .i64 (0), .slice none 0 0, .slice none 0 0, .slice none 0 0, .int .i64 (0), .int .i64 (0), .slice none 0 0, .int .i64 (0), .int .i64 (0), .int .i64 (0), .int .i64 (0), .slice none 0 0, .slice none 0 0, .slice none 0 0, .slice none 0 0, .slice none 0 0] rfl rfl (X2.out.there 0 21 (Nat.le_refl _)) HC2.out HC1.out ?_) | (refine wpList_store_mid rfl 43 _ _ rfl w.heap.size 0 #[.bool false, .int .i64 (0), .int .i64 (0), .int .i64 (0), .int .i64 (0), .int .i64 (0), .slice none 0 0, .slice none 0 0, .slice none 0 0, .int .i64 (0), .int .i64 (0), .slice none 0 0, .int .i64 (0), .int .i64 (0), .int .i64 (0), .int .i64 (0), .slice none 0 0, .slice none 0 0, .slice none 0 0, .slice none 0 0, .slice none 0 0] rfl rfl (X2.out.there 0 21 (Nat.le_refl _)) HC2.out HC1.out ?_))
      refine late_genw (fun W5 hW5 => ?_)
      have V := hid (show Bx W5 w.heap.size #[.bool false, .int .i64 (0), .int .i64 (0), .int .i64 (0), .int .i64 (0), .int .i64 (0), .slice none 0 0, .slice none 0 0, .slice none 0 0, .int .i64 (0), .int .i64 (0), .slice none 0 0, .int .i64 (0), .int .i64 (0), .int .i64 (0), .int .i64 (0), .slice none 0 0, .slice none 0 0, .slice none 0 0, .slice none 0 0, .slice none 0 0] by as_aux_lemma => (rw [hW5]; exact X2.out.setAll [.bool false, .int .i64 (0), .int .i64 (0), .int .i64 (0), .int .i64 (0), .int .i64 (0), .slice none 0 0, .slice none 0 0, .slice none 0 0, .int .i64 (0), .int .i64 (0), .slice none 0 0, .int .i64 (0), .int .i64 (0), .int .i64 (0), .int .i64 (0), .slice none 0 0, .slice none 0 0, .slice none 0 0, .slice none 0 0, .slice none 0 0] rfl))
      have HBn := hid (show Below w.heap.size w W5 by as_aux_lemma => (rw [hW5]; exact Below.setCells _ (Nat.le_refl _) _ _ HB2.out))
      clear hW5
      refine bodyPost_ret (results_mid_tmp Try.results12 rfl [.bool false, .int .i64 (0), .int .i64 (0), .int .i64 (0), .int .i64 (0), .int .i64 (0), .slice none 0 0, .slice none 0 0, .slice none 0 0, .int .i64 (0), .int .i64 (0), .slice none 0 0, .int .i64 (0), .int .i64 (0), .int .i64 (0), .int .i64 (0), .slice none 0 0, .slice none 0 0, .slice none 0 0, .slice none 0 0, .slice none 0 0] V.out.whole Try.underlying43 rfl (by kernel_rfl)) rfl ?_
      exact ⟨rfl, HBn.out⟩
  cases k3 : inB size 0 60000
  · as_aux_lemma =>
      have HK := hid (show tnOk room keep size = false from by unfold tnOk; rw [k3]; simp)
      rw [HK.out]
      go_enter Try.func12, Try.ntmps12
      go_wp2_with fail
      refine (s_DiskNew room _).mono ?_
      rintro e w1 ⟨rfl, hb⟩
      have X1 := hid (Bx.below hb X.out.f.lt X.out)
      have HB := hid (below_call ((Below.refl _ _).alloc (Nat.le_refl _) _) hb)
      have hz1 := X1.out.f.lt
      clear hb
      have x := X1.out.out; have xf := X1.out.fr
      rw [k1]
      go_upto_region 2 with fail
      refine late_genw (fun W2 hW2 => ?_)
      have X2 := hid (show Bx W2 w.heap.size #[.bool false, .int .i64 (0), .int .i64 (0), .int .i64 (0), .int .i64 (0), .int .i64 (0), .slice none 0 0, .slice none 0 0, .slice none 0 0, .int .i64 (0), .int .i64 (0), .slice none 0 0, .int .i64 (0), .int .i64 (0), .int .i64 (0), .int .i64 (0), .slice none 0 0, .slice none 0 0, .slice none 0 0, .slice none 0 0, .slice none 0 0] by as_aux_lemma => (rw [hW2]; repeat (first | exact X1.out | refine Bx.alloc ?_ (by first | omega | (simp; done) | (simp; omega)) _ | refine Bx.setOther ?_ (by first | omega | (simp; done) | (simp; omega)) _)))
      have Y2 := hid (show Bx W2 w1.heap.size #[.int .i64 (room), .int .i64 (-1), .int .i64 (1), .slice none 0 0, .slice none 0 0, .slice none 0 0] by as_aux_lemma => (rw [hW2]; exact Bx.new w1 #[.int .i64 (room), .int .i64 (-1), .int .i64 (1), .slice none 0 0, .slice none 0 0, .slice none 0 0] 38 rfl))
      have HB2 := hid (show Below w.heap.size w W2 by as_aux_lemma => (rw [hW2]; repeat (first | exact HB.out | refine Below.alloc ?_ (by have := HB.out.size; first | omega | (simp; done) | (simp; omega)) _ | refine Below.setCell ?_ (by have := HB.out.size; first | omega | (simp; done) | (simp; omega)) _)))
      clear hW2 x xf hz1
      have HC1 := hid (show (#[.bool false, .int .i64 (0), .int .i64 (0), .int .i64 (0), .int .i64 (0), .int .i64 (0), .slice none 0 0, .slice none 0 0, .slice none 0 0, .int .i64 (0), .int .i64 (0), .slice none 0 0, .int .i64 (0), .int .i64 (0), .int .i64 (0), .int .i64 (0), .slice none 0 0, .slice none 0 0, .slice none 0 0, .slice none 0 0, .slice none 0 0] : Array Value).all (·.oneCell') = true by simp [Value.oneCell'])
      have HC2 := hid (show (Try.prog.info? 43).map (·.size) = some (#[.bool false, .int .i64 (0), .int .i64 (0), .int .i64 (0), .int .i64 (0), .int .i64 (0), .slice none 0 0, .slice none 0 0, .slice none 0 0, .int .i64 (0), .int .i64 (0), .slice none 0 0, .int .i64 (0), .int .i64 (0), .int .i64 (0), .int .i64 (0), .slice none 0 0, .slice none 0 0, .slice none 0 0, .slice none 0 0, .slice none 0 0] : Array Value).size by kernel_rfl)
      have HBD := hid (tn_built0)
      go_wp2_with (first | (go_at_call 42; refine (s_l06Range _ _ _).mono ?_; rintro e w' ⟨rfl, rfl⟩) | (refine wpList_build_to rfl 43 _ rfl #[.bool false, .int .i64 (0), .int .i64 (0), .int .i64 (0), .int .i64 (0), .int .i64 (0), .slice none 0 0, .slice none 0 0, .slice none 0 0, .int .i64 (0), .int .i64 (0), .slice none 0 0, .int .i64 (0), .int .i64 (0), .int .i64 (0), .int .i64 (0), .slice none 0 0, .slice none 0 0, .slice none 0 0, .slice none 0 0, .slice none 0 0] [] rfl HBD.out ?_; refine wpList_store_mid rfl 43 _ _ rfl w.heap.size 0 #[.bool false, .int .i64 (0), .int .i64 (0), .int .i64 (0), .int .i64 (0), .int .i64 (0), .slice none 0 0, .slice none 0 0, .slice none 0 0, .int .i64 (0), .int .i64 (0), .slice none 0 0, .int .i64 (0), .int .i64 (0), .int .i64 (0), .int .i64 (0), .slice none 0 0, .slice none 0 0, .slice none 0 0, .slice none 0 0, .slice none 0 0] rfl rfl (X2.out.there 0 21 (Nat.le_refl _)) HC2.out HC1.out ?_) | (refine wpList_store_mid rfl 43 _ _ rfl w.heap.size 0 #[.bool false, .int .i64 (0), .int .i64 (0), .int .i64 (0), .int .i64 (0), .int .i64 (0), .slice none 0 0, .slice none 0 0, .slice none 0 0, .int .i64 (0), .int .i64 (0), .slice none 0 0, .int .i64 (0), .int .i64 (0), .int .i64 (0), .int .i64 (0), .slice none 0 0, .slice none 0 0, .slice none 0 0, .slice none 0 0, .slice none 0 0] rfl rfl (X2.out.there 0 21 (Nat.le_refl _)) HC2.out HC1.out ?_))
      refine late_genw (fun W5 hW5 => ?_)
      have V := hid (show Bx W5 w.heap.size #[.bool false, .int .i64 (0), .int .i64 (0), .int .i64 (0), .int .i64 (0), .int .i64 (0), .slice none 0 0, .slice none 0 0, .slice none 0 0, .int .i64 (0), .int .i64 (0), .slice none 0 0, .int .i64 (0), .int .i64 (0), .int .i64 (0), .int .i64 (0), .slice none 0 0, .slice none 0 0, .slice none 0 0, .slice none 0 0, .slice none 0 0] by as_aux_lemma => (rw [hW5]; exact X2.out.setAll [.bool false, .int .i64 (0), .int .i64 (0), .int .i64 (0), .int .i64 (0), .int .i64 (0), .slice none 0 0, .slice none 0 0, .slice none 0 0, .int .i64 (0), .int .i64 (0), .slice none 0 0, .int .i64 (0), .int .i64 (0), .int .i64 (0), .int .i64 (0), .slice none 0 0, .slice none 0 0, .slice none 0 0, .slice none 0 0, .slice none 0 0] rfl))
      have HBn := hid (show Below w.heap.size w W5 by as_aux_lemma => (rw [hW5]; exact Below.setCells _ (Nat.le_refl _) _ _ HB2.out))
      clear hW5
      refine bodyPost_ret (results_mid_tmp Try.results12 rfl [.bool false, .int .i64 (0), .int .i64 (0), .int .i64 (0), .int .i64 (0), .int .i64 (0), .slice none 0 0, .slice none 0 0, .slice none 0 0, .int .i64 (0), .int .i64 (0), .slice none 0 0, .int .i64 (0), .int .i64 (0), .int .i64 (0), .int .i64 (0), .slice none 0 0, .slice none 0 0, .slice none 0 0, .slice none 0 0, .slice none 0 0] V.out.whole Try.underlying43 rfl (by kernel_rfl)) rfl ?_
      exact ⟨rfl, HBn.out⟩
  · as_aux_lemma =>
      have HK := hid (show tnOk room keep size = true from by unfold tnOk; rw [k1, k2, k3]; rfl)
      rw [HK.out]
      go_enter Try.func12, Try.ntmps12
      go_wp2_with fail
      refine (s_DiskNew room _).mono ?_
      rintro e w1 ⟨rfl, hb⟩
      have X1 := hid (Bx.below hb X.out.f.lt X.out)
      have HB := hid (below_call ((Below.refl _ _).alloc (Nat.le_refl _) _) hb)
      have hz1 := X1.out.f.lt
      clear hb
      have x := X1.out.out; have xf := X1.out.fr
      rw [k1]
      go_upto_region 2 with fail
      refine late_genw (fun W2 hW2 => ?_)
      have X2 := hid (show Bx W2 w.heap.size #[.bool false, .int .i64 (0), .int .i64 (0), .int .i64 (0), .int .i64 (0), .int .i64 (0), .slice none 0 0, .slice none 0 0, .slice none 0 0, .int .i64 (0), .int .i64 (0), .slice none 0 0, .int .i64 (0), .int .i64 (0), .int .i64 (0), .int .i64 (0), .slice none 0 0, .slice none 0 0, .slice none 0 0, .slice none 0 0, .slice none 0 0] by as_aux_lemma => (rw [hW2]; repeat (first | exact X1.out | refine Bx.alloc ?_ (by first | omega | (simp; done) | (simp; omega)) _ | refine Bx.setOther ?_ (by first | omega | (simp; done) | (simp; omega)) _)))
      have Y2 := hid (show Bx W2 w1.heap.size #[.int .i64 (room), .int .i64 (-1), .int .i64 (1), .slice none 0 0, .slice none 0 0, .slice none 0 0] by as_aux_lemma => (rw [hW2]; exact Bx.new w1 #[.int .i64 (room), .int .i64 (-1), .int .i64 (1), .slice none 0 0, .slice none 0 0, .slice none 0 0] 38 rfl))
      have HB2 := hid (show Below w.heap.size w W2 by as_aux_lemma => (rw [hW2]; repeat (first | exact HB.out | refine Below.alloc ?_ (by have := HB.out.size; first | omega | (simp; done) | (simp; omega)) _ | refine Below.setCell ?_ (by have := HB.out.size; first | omega | (simp; done) | (simp; omega)) _)))
      clear hW2 x xf hz1
      have HC1 := hid (show (#[.bool false, .int .i64 (keep), .int .i64 (size), .int .i64 (0), .int .i64 (0), .int .i64 (0), .slice none 0 0, .slice none 0 0, .slice none 0 0, .int .i64 (0), .int .i64 (0), .slice none 0 0, .int .i64 (0), .int .i64 (room), .int .i64 (-1), .int .i64 (1), .slice none 0 0, .slice none 0 0, .slice none 0 0, .slice none 0 0, .slice none 0 0] : Array Value).all (·.oneCell') = true by simp [Value.oneCell'])
      have HC2 := hid (show (Try.prog.info? 43).map (·.size) = some (#[.bool false, .int .i64 (keep), .int .i64 (size), .int .i64 (0), .int .i64 (0), .int .i64 (0), .slice none 0 0, .slice none 0 0, .slice none 0 0, .int .i64 (0), .int .i64 (0), .slice none 0 0, .int .i64 (0), .int .i64 (room), .int .i64 (-1), .int .i64 (1), .slice none 0 0, .slice none 0 0, .slice none 0 0, .slice none 0 0, .slice none 0 0] : Array Value).size by kernel_rfl)
      have HBD := hid (tn_built keep size room)
      go_wp2_with (first | (go_at_call 42; refine (s_l06Range _ _ _).mono ?_; rintro e w' ⟨rfl, rfl⟩) | (refine wpList_load_mid rfl 38 _ rfl w1.heap.size 0 rfl [.int .i64 (room), .int .i64 (-1), .int .i64 (1), .slice none 0 0, .slice none 0 0, .slice none 0 0] _ (Y2.out.whole) Try.underlying38 rfl (by kernel_rfl) ?_; refine wpList_build_to rfl 43 _ rfl #[.bool false, .int .i64 (keep), .int .i64 (size), .int .i64 (0), .int .i64 (0), .int .i64 (0), .slice none 0 0, .slice none 0 0, .slice none 0 0, .int .i64 (0), .int .i64 (0), .slice none 0 0, .int .i64 (0), .int .i64 (room), .int .i64 (-1), .int .i64 (1), .slice none 0 0, .slice none 0 0, .slice none 0 0, .slice none 0 0, .slice none 0 0] [(1, .int .i64 keep), (2, .int .i64 size), (4, .agg #[.int .i64 room, .int .i64 (-1), .int .i64 1, .slice none 0 0, .slice none 0 0, .slice none 0 0])] rfl HBD.out ?_; refine wpList_store_mid rfl 43 _ _ rfl w.heap.size 0 #[.bool false, .int .i64 (keep), .int .i64 (size), .int .i64 (0), .int .i64 (0), .int .i64 (0), .slice none 0 0, .slice none 0 0, .slice none 0 0, .int .i64 (0), .int .i64 (0), .slice none 0 0, .int .i64 (0), .int .i64 (room), .int .i64 (-1), .int .i64 (1), .slice none 0 0, .slice none 0 0, .slice none 0 0, .slice none 0 0, .slice none 0 0] rfl rfl (X2.out.there 0 21 (Nat.le_refl _)) HC2.out HC1.out ?_) | (refine wpList_store_mid rfl 43 _ _ rfl w.heap.size 0 #[.bool false, .int .i64 (keep), .int .i64 (size), .int .i64 (0), .int .i64 (0), .int .i64 (0), .slice none 0 0, .slice none 0 0, .slice none 0 0, .int .i64 (0), .int .i64 (0), .slice none 0 0, .int .i64 (0), .int .i64 (room), .int .i64 (-1), .int .i64 (1), .slice none 0 0, .slice none 0 0, .slice none 0 0, .slice none 0 0, .slice none 0 0] rfl rfl (X2.out.there 0 21 (Nat.le_refl _)) HC2.out HC1.out ?_))
      refine late_genw (fun W5 hW5 => ?_)
      have V := hid (show Bx W5 w.heap.size #[.bool false, .int .i64 (keep), .int .i64 (size), .int .i64 (0), .int .i64 (0), .int .i64 (0), .slice none 0 0, .slice none 0 0, .slice none 0 0, .int .i64 (0), .int .i64 (0), .slice none 0 0, .int .i64 (0), .int .i64 (room), .int .i64 (-1), .int .i64 (1), .slice none 0 0, .slice none 0 0, .slice none 0 0, .slice none 0 0, .slice none 0 0] by as_aux_lemma => (rw [hW5]; exact X2.out.setAll [.bool false, .int .i64 (keep), .int .i64 (size), .int .i64 (0), .int .i64 (0), .int .i64 (0), .slice none 0 0, .slice none 0 0, .slice none 0 0, .int .i64 (0), .int .i64 (0), .slice none 0 0, .int .i64 (0), .int .i64 (room), .int .i64 (-1), .int .i64 (1), .slice none 0 0, .slice none 0 0, .slice none 0 0, .slice none 0 0, .slice none 0 0] rfl))
      have HBn := hid (show Below w.heap.size w W5 by as_aux_lemma => (rw [hW5]; exact Below.setCells _ (Nat.le_refl _) _ _ HB2.out))
      clear hW5
      refine bodyPost_ret (results_mid_tmp Try.results12 rfl [.bool false, .int .i64 (keep), .int .i64 (size), .int .i64 (0), .int .i64 (0), .int .i64 (0), .slice none 0 0, .slice none 0 0, .slice none 0 0, .int .i64 (0), .int .i64 (0), .slice none 0 0, .int .i64 (0), .int .i64 (room), .int .i64 (-1), .int .i64 (1), .slice none 0 0, .slice none 0 0, .slice none 0 0, .slice none 0 0, .slice none 0 0] V.out.whole Try.underlying43 rfl (by kernel_rfl)) rfl ?_
      exact ⟨rfl, HBn.out⟩
end Go.Proofs.Ytgcdgkiefbbhkaa
