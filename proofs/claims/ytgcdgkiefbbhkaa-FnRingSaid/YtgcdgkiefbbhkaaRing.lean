/- Rings of pieces (printed by genring.py). -/
import Derived.Test.YtgcdgkiefbbhkaaCopy
import Derived.Test.YtgcdgkiefbbhkaaRune
import Derived.Test.YtgcdgkiefbbhkaaLst
import Derived.Test.YtgcdgkiefbbhkaaLate
import Derived.Lib.MinMax
set_option linter.unusedSimpArgs false
set_option linter.unusedVariables false
namespace Go.G6
open Go.RowKit
def pieceTyped (t : List Int) : Bool := decide (t.length ≤ 400) && allTyped t
def pieceOk (p : PieceD) : Bool := decide (p.Text.length ≠ 0) && pieceTyped p.Text
def ringOk (d : RingD) : Bool := d.Pieces.all pieceOk && decide (d.Pieces.length ≤ 6)
def ring0 : RingD := { Pieces := [] }
def ringTop (d : RingD) : List Int := if ringOk d then (match d.Pieces with | [] => [] | p :: _ => p.Text) else []
def turnD (d : RingD) : RingD := { Pieces := match d.Pieces with | [] => [] | p :: r => r ++ [p] }
def ringTurn (d : RingD) : RingD := if ringOk d then turnD d else ring0
theorem pieceTyped_len {t : List Int} (h : pieceTyped t = true) : t.length ≤ 400 := by simp [pieceTyped] at h; exact h.1
theorem ringOk_bounds {d : RingD} (h : ringOk d = true) : d.Pieces.length ≤ 6 ∧ Cnt.cnt d ≤ 16777216 ∧ ∀ p ∈ d.Pieces, p.Text.length ≤ 400 := by
  simp only [ringOk, Bool.and_eq_true, decide_eq_true_eq, List.all_eq_true] at h
  have h4 : ∀ p ∈ d.Pieces, p.Text.length ≤ 400 := fun p hp => by
    have := h.1 p hp
    simp only [pieceOk, Bool.and_eq_true] at this
    exact pieceTyped_len this.2
  refine ⟨h.2, ?_, h4⟩
  have h5 : ∀ l : List PieceD, (∀ p ∈ l, p.Text.length ≤ 400) → nL Cnt.cnt l ≤ 400 * l.length := by
    intro l
    induction l with
    | nil => simp [nL]
    | cons p l ih =>
      intro hl
      have h1 := ih fun q hq => hl q (List.mem_cons_of_mem _ hq)
      have h2 := hl p (by simp)
      have h3 : Cnt.cnt p = p.Text.length := cnt_ints _
      have h4 : nL Cnt.cnt (p :: l) = Cnt.cnt p + nL Cnt.cnt l := by simp [nL]
      rw [List.length_cons]; omega
  have := h5 d.Pieces h4
  show d.Pieces.length + nL Cnt.cnt d.Pieces ≤ _
  omega
theorem ringTop_get {d : RingD} (h : ringOk d = true) (hl : 0 < d.Pieces.length) : ringTop d = d.Pieces[0].Text := by
  obtain ⟨ps⟩ := d
  cases ps with
  | nil => simp at hl
  | cons p r => simp [ringTop, h]
theorem ringTop_len (d : RingD) : (ringTop d).length ≤ 400 := by
  cases hk : ringOk d
  · simp [ringTop, hk]
  · by_cases h : 0 < d.Pieces.length
    · rw [ringTop_get hk h]; exact (ringOk_bounds hk).2.2 _ (List.getElem_mem h)
    · have : d.Pieces = [] := List.eq_nil_of_length_eq_zero (by omega)
      simp [ringTop, this]
theorem ringTop_top (d : RingD) : 1 + Mk.nE (ringTop d) ≤ topK := by
  have h2 := ringTop_len d
  rw [show Mk.nE (ringTop d) = (ringTop d).length from nL_const _ _ fun _ => rfl]; unfold topK; omega
theorem turnD_nkv (d : RingD) : (turnD d).nkv = d.nkv := by
  obtain ⟨ps⟩ := d
  cases ps with
  | nil => rfl
  | cons p r =>
    show nL Mk.nE (r ++ [p]) = nL Mk.nE (p :: r)
    rw [nL_append, nL_one]
    simp [nL, Nat.add_comm]
theorem ringTurn_top (d : RingD) : 1 + (ringTurn d).nkv ≤ topK := by
  cases hk : ringOk d
  · simp [ringTurn, hk, ring0, RingD.nkv, topK]
    decide
  · have h1 : (ringTurn d).nkv = d.nkv := by simp [ringTurn, hk, turnD_nkv]
    have h2 := (ringOk_bounds hk).2.1
    have h3 := nkv_le_Ring d
    rw [h1]; unfold topK; omega
theorem nL_mem_le {α : Type} (n : α → Nat) (xs : List α) (k : Nat) (h : k < xs.length) : n xs[k] ≤ nL n xs := by
  have := nL_take_succ n xs k h
  have := nL_take_le n xs (k + 1)
  omega
end Go.G6
namespace Go.Proofs.Ytgcdgkiefbbhkaa
open Go.RowKit Go.G6
set_option maxHeartbeats 1600000
set_option maxRecDepth 10000
theorem info_Piece : (Try.prog.info? 74).map (fun i => (i.zero, i.size, i.bytes)) = some (some (.agg #[.slice none 0 0]), 1, 24) := by kernel_rfl
theorem s_l15Piece {w : World} {bs : List Nat} {a : Option Addr} {len cap : Nat} {xs : List Int} (h : Slc w bs a len cap xs) :
    Calls Try.prog 53 #[.slice a len cap] w fun e w' => e = .returned (.bool (decide (xs.length ≤ 400) && allTyped xs)) ∧ w = w' := by
  have H := hid h
  obtain rfl := h.len_eq
  have hm := h.max
  clear h
  go_enter Try.func53, Try.ntmps53
  by_cases hc : xs.length ≤ 400
  · have hc2 : decide ((xs.length : Int) ≤ 400) = true := by simp; omega
    have hc3 : (decide (xs.length ≤ 400) && allTyped xs) = allTyped xs := by simp [hc]
    have HC := hid hc3; clear hc3
    go_wp2_with fail
    refine (s_allTyped H.out).mono ?_
    rintro e w' ⟨rfl, rfl⟩
    go_wp2
    go_ret
    exact ⟨ret_bool HC.out.symm, rfl⟩
  · have hc2 : decide ((xs.length : Int) ≤ 400) = false := by simp; omega
    go_wp2
    go_ret
    exact ⟨ret_bool (by simp [hc]), rfl⟩
theorem i_RingOk {w : World} {bs : List Nat} {cs : List Value} {d : RingD} (h : Rep.pt w bs cs d) :
    Calls Try.prog 28 #[.agg cs.toArray] w fun e w' => e = .returned (.bool (ringOk d)) ∧ Below w.heap.size w w' := by
  obtain ⟨a0, l0, k0, rfl, h0⟩ := open_Ring h
  obtain rfl := h0.len_eq
  have hm := h0.max
  clear h
  go_enter Try.func28, Try.ntmps28
  go_wp2_with fail
  go_loopw [8] (fun i wr => ∃ k : Nat, k ≤ d.Pieces.length ∧ i = .int .i64 k ∧ Hid (d.Pieces.all pieceOk = (d.Pieces.drop k).all pieceOk) ∧ Bx wr w.heap.size #[.slice a0 d.Pieces.length k0] ∧ Below w.heap.size w wr) (fun i _ => d.Pieces.length - (intOf i).toNat)
  case atStart => exact ⟨0, Nat.zero_le _, rfl, hid rfl, Bx.new _ _ _ rfl, (Below.refl _ _).alloc (Nat.le_refl _) _⟩
  case round =>
    obtain ⟨k, hk, rfl, HR, hB0, hb⟩ := hrel
    have HB := hid hb; have B0o := hB0.out; have HB0 := hid hB0
    have hz : w.heap.size < wr.heap.size := hB0.f.lt
    clear hB0
    by_cases hlt : k < d.Pieces.length
    rotate_left
    · obtain rfl : k = d.Pieces.length := by omega
      clear hb
      go_wp2
      go_ret
      exact ⟨ret_bool (by rw [ringOk, HR.out, List.drop_length]; simp; try omega), HB.out⟩
    obtain ⟨b, off, cs, bs', rfl, hbw, hp, _, hA⟩ := (h0.grow hb).elem k hlt
    have HP := hid hp
    obtain ⟨a1, l1, k1, rfl, g0⟩ := open_Piece hp
    obtain rfl := g0.len_eq
    have G0 := hid g0
    have c0 : wr.cell? ⟨b, off + k, none⟩ = some _ := (by have q := hA 0 _ rfl; rw [show off + k * Rep.size PieceD + 0 = off + k from (by show off + k * 1 + 0 = off + k; omega)] at q; exact q)
    clear hb hA hp g0
    have Hd := hid (drop_all pieceOk d.Pieces k hlt)
    by_cases he : d.Pieces[k].Text.length = 0
    · have he2 : ((d.Pieces[k].Text.length : Int) == 0) = true := by rw [he]; rfl
      have He := hid he; clear he
      go_wp2
      go_ret
      exact ⟨ret_bool (by rw [ringOk, HR.out, Hd.out]; simp [pieceOk, He.out]), HB.out.alloc HB.out.size _⟩
    have he2 : ((d.Pieces[k].Text.length : Int) == 0) = false := by rw [beq_eq_false_iff_ne]; omega
    have He := hid he; clear he
    cases hA : pieceTyped d.Pieces[k].Text
    · have HA := hid hA; clear hA
      go_wp2_with fail
      refine (i_areAdmissible (G0.out.grow ((Below.refl _ _).alloc (Nat.le_refl _) _))).mono ?_
      rintro e w' ⟨rfl, rfl⟩
      rw [show (decide (d.Pieces[k].Text.length ≤ 400) && allTyped d.Pieces[k].Text) = false from HA.out]
      go_wp2
      go_ret
      exact ⟨ret_bool (by rw [ringOk, HR.out, Hd.out]; simp [pieceOk, HA.out]), HB.out.alloc HB.out.size _⟩
    have HA := hid hA; clear hA
    go_wp2_with fail
    refine (i_areAdmissible (G0.out.grow ((Below.refl _ _).alloc (Nat.le_refl _) _))).mono ?_
    rintro e w' ⟨rfl, rfl⟩
    rw [show (decide (d.Pieces[k].Text.length ≤ 400) && allTyped d.Pieces[k].Text) = true from HA.out]
    go_wp2
    exact ⟨⟨k + 1, by omega, rfl, hid (by rw [HR.out, Hd.out]; simp [pieceOk, HA.out, He.out]), HB0.out.alloc hz _, HB.out.alloc HB.out.size _⟩, by simp [intOf]; omega⟩
theorem s_RingOk {w : World} {bs : List Nat} {cs : List Value} {d : RingD} (h : Rep.pt w bs cs d) :
    Calls Try.prog 52 #[.agg cs.toArray] w fun e w' => e = .returned (.bool (ringOk d)) ∧ Below w.heap.size w w' := by
  obtain ⟨a0, l0, k0, rfl, h0⟩ := open_Ring h
  obtain rfl := h0.len_eq
  have hm := h0.max
  clear h
  go_enter Try.func52, Try.ntmps52
  go_wp2_with fail
  go_loopw [8] (fun i wr => ∃ k : Nat, k ≤ d.Pieces.length ∧ i = .int .i64 k ∧ Hid (d.Pieces.all pieceOk = (d.Pieces.drop k).all pieceOk) ∧ Bx wr w.heap.size #[.slice a0 d.Pieces.length k0] ∧ Below w.heap.size w wr) (fun i _ => d.Pieces.length - (intOf i).toNat)
  case atStart => exact ⟨0, Nat.zero_le _, rfl, hid rfl, Bx.new _ _ _ rfl, (Below.refl _ _).alloc (Nat.le_refl _) _⟩
  case round =>
    obtain ⟨k, hk, rfl, HR, hB0, hb⟩ := hrel
    have HB := hid hb; have B0o := hB0.out; have HB0 := hid hB0
    have hz : w.heap.size < wr.heap.size := hB0.f.lt
    clear hB0
    by_cases hlt : k < d.Pieces.length
    rotate_left
    · obtain rfl : k = d.Pieces.length := by omega
      clear hb
      go_wp2
      go_ret
      exact ⟨ret_bool (by rw [ringOk, HR.out, List.drop_length]; simp; try omega), HB.out⟩
    obtain ⟨b, off, cs, bs', rfl, hbw, hp, _, hA⟩ := (h0.grow hb).elem k hlt
    have HP := hid hp
    obtain ⟨a1, l1, k1, rfl, g0⟩ := open_Piece hp
    obtain rfl := g0.len_eq
    have G0 := hid g0
    have c0 : wr.cell? ⟨b, off + k, none⟩ = some _ := (by have q := hA 0 _ rfl; rw [show off + k * Rep.size PieceD + 0 = off + k from (by show off + k * 1 + 0 = off + k; omega)] at q; exact q)
    clear hb hA hp g0
    have Hd := hid (drop_all pieceOk d.Pieces k hlt)
    by_cases he : d.Pieces[k].Text.length = 0
    · have he2 : ((d.Pieces[k].Text.length : Int) == 0) = true := by rw [he]; rfl
      have He := hid he; clear he
      go_wp2
      go_ret
      exact ⟨ret_bool (by rw [ringOk, HR.out, Hd.out]; simp [pieceOk, He.out]), HB.out.alloc HB.out.size _⟩
    have he2 : ((d.Pieces[k].Text.length : Int) == 0) = false := by rw [beq_eq_false_iff_ne]; omega
    have He := hid he; clear he
    cases hA : pieceTyped d.Pieces[k].Text
    · have HA := hid hA; clear hA
      go_wp2_with fail
      refine (s_l15Piece (G0.out.grow ((Below.refl _ _).alloc (Nat.le_refl _) _))).mono ?_
      rintro e w' ⟨rfl, rfl⟩
      rw [show (decide (d.Pieces[k].Text.length ≤ 400) && allTyped d.Pieces[k].Text) = false from HA.out]
      go_wp2
      go_ret
      exact ⟨ret_bool (by rw [ringOk, HR.out, Hd.out]; simp [pieceOk, HA.out]), HB.out.alloc HB.out.size _⟩
    have HA := hid hA; clear hA
    go_wp2_with fail
    refine (s_l15Piece (G0.out.grow ((Below.refl _ _).alloc (Nat.le_refl _) _))).mono ?_
    rintro e w' ⟨rfl, rfl⟩
    rw [show (decide (d.Pieces[k].Text.length ≤ 400) && allTyped d.Pieces[k].Text) = true from HA.out]
    go_wp2
    exact ⟨⟨k + 1, by omega, rfl, hid (by rw [HR.out, Hd.out]; simp [pieceOk, HA.out, He.out]), HB0.out.alloc hz _, HB.out.alloc HB.out.size _⟩, by simp [intOf]; omega⟩
theorem i_RingTop {w : World} {bs : List Nat} {cs : List Value} {d : RingD} (h : Rep.pt w bs cs d) :
    Calls Try.prog 30 #[.agg cs.toArray] w (RetL w 3 (ringTop d)) := by
  have H := hid h
  obtain ⟨a0, l0, k0, rfl, h0⟩ := open_Ring h
  obtain rfl := h0.len_eq
  have hm := h0.max
  clear h
  cases hk : ringOk d
  · have HZ : Hid (ringTop d = []) := hid (by simp [ringTop, hk])
    have Hk := hid hk; clear hk
    go_enter Try.func30, Try.ntmps30
    go_wp2_with fail
    refine (i_RingOk (grow H.out ?_)).mono ?_
    · exact (Below.refl _ _).alloc (Nat.le_refl _) _
    rintro e w1 ⟨rfl, hb⟩
    have B0 : Bx w1 (w.heap.size) _ := Bx.below (b := w.heap.size) hb (by first | omega | (simp; done) | (simp; omega)) (by repeat (first  | (apply Bx.new; (focus (first | (simp; done) | (simp; omega) | omega))) | (apply Bx.alloc; rotate_left; (focus (first | (simp; done) | (simp; omega) | omega))) | (apply Bx.setOther; rotate_left; (focus (first | (simp; done) | (simp; omega) | omega))) | apply Bx.setSame))
    have B0o := B0.out
    have B0f := B0.fr
    have HB := hid (below_call ((Below.refl _ _).alloc (Nat.le_refl _) _) hb)
    clear hb
    rw [Hk.out]
    go_wp2
    go_ret
    exact ⟨_, [], rfl, by rw [HZ.out]; exact OwnL.nil _ _ _, HB.out⟩
  have Hq := hid (ringOk_bounds hk)
  by_cases h00 : d.Pieces.length = 0
  · have HZ : Hid (ringTop d = []) := hid (by have : d.Pieces = [] := List.eq_nil_of_length_eq_zero h00; simp [ringTop, this])
    have he2 : ((d.Pieces.length : Int) == 0) = true := by rw [h00]; rfl
    have Hk := hid hk; clear hk h00
    go_enter Try.func30, Try.ntmps30
    go_wp2_with fail
    refine (i_RingOk (grow H.out ?_)).mono ?_
    · exact (Below.refl _ _).alloc (Nat.le_refl _) _
    rintro e w1 ⟨rfl, hb⟩
    have B0 : Bx w1 (w.heap.size) _ := Bx.below (b := w.heap.size) hb (by first | omega | (simp; done) | (simp; omega)) (by repeat (first  | (apply Bx.new; (focus (first | (simp; done) | (simp; omega) | omega))) | (apply Bx.alloc; rotate_left; (focus (first | (simp; done) | (simp; omega) | omega))) | (apply Bx.setOther; rotate_left; (focus (first | (simp; done) | (simp; omega) | omega))) | apply Bx.setSame))
    have B0o := B0.out
    have B0f := B0.fr
    have HB := hid (below_call ((Below.refl _ _).alloc (Nat.le_refl _) _) hb)
    clear hb
    rw [Hk.out]
    go_wp2
    go_ret
    exact ⟨_, [], rfl, by rw [HZ.out]; exact OwnL.nil _ _ _, HB.out⟩
  have he2 : ((d.Pieces.length : Int) == 0) = false := by rw [beq_eq_false_iff_ne]; omega
  have hlt : 0 < d.Pieces.length := by omega
  have hlt2 : (0 : Int) < (d.Pieces.length : Int) := by omega
  have HZ : Hid (ringTop d = d.Pieces[0].Text) := hid (ringTop_get hk hlt)
  have hle : d.Pieces[0].Text.length ≤ 400 := Hq.out.2.2 _ (List.getElem_mem hlt)
  have Hk := hid hk; clear hk h00
  go_enter Try.func30, Try.ntmps30
  go_wp2_with fail
  refine (i_RingOk (grow H.out ?_)).mono ?_
  · exact (Below.refl _ _).alloc (Nat.le_refl _) _
  rintro e w1 ⟨rfl, hb⟩
  have B0 : Bx w1 (w.heap.size) _ := Bx.below (b := w.heap.size) hb (by first | omega | (simp; done) | (simp; omega)) (by repeat (first  | (apply Bx.new; (focus (first | (simp; done) | (simp; omega) | omega))) | (apply Bx.alloc; rotate_left; (focus (first | (simp; done) | (simp; omega) | omega))) | (apply Bx.setOther; rotate_left; (focus (first | (simp; done) | (simp; omega) | omega))) | apply Bx.setSame))
  have B0o := B0.out
  have B0f := B0.fr
  have HB := hid (below_call ((Below.refl _ _).alloc (Nat.le_refl _) _) hb)
  clear hb
  rw [Hk.out]
  obtain ⟨b, off, cs, bs', rfl, hbw, hp, _, hA⟩ := (h0.grow HB.out).elem 0 hlt
  obtain ⟨a1, l1, k1, rfl, g0⟩ := open_Piece hp
  obtain rfl := g0.len_eq
  have G0 := hid g0
  have c0 : w1.cell? ⟨b, off, none⟩ = some _ := (by have q := hA 0 _ rfl; rw [show off + 0 * Rep.size PieceD + 0 = off from by omega] at q; exact q)
  clear hA hp g0
  go_wp2_with fail
  refine (i_copyInts (G0.out) (by omega)).mono ?_
  rintro e w2 ⟨v, b1, rfl, hO, hb⟩
  obtain ⟨p1, c1, rfl⟩ := hO.slice
  have HO := hid hO; have HB2 := hid (below_call HB.out hb)
  have hz := HB.out.size
  clear hO hb
  go_wp2
  go_ret
  exact ⟨_, b1, rfl, by rw [HZ.out]; exact HO.out.mono (by omega), HB2.out⟩
theorem i_RingTopS {w : World} {bs : List Nat} {cs : List Value} {d : RingD} (h : Rep.pt w bs cs d) :
    Calls Try.prog 30 #[.agg cs.toArray] w (RetS w (ringTop d)) := (i_RingTop h).mono fun _ _ h => h.retS
end Go.Proofs.Ytgcdgkiefbbhkaa
