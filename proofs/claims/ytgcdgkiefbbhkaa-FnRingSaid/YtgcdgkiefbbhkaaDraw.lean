/- Draws: the cursor, and what it draws. -/
import Derived.Test.YtgcdgkiefbbhkaaApp
import Derived.Test.YtgcdgkiefbbhkaaCopy
import Derived.Test.YtgcdgkiefbbhkaaFn
import Derived.Test.YtgcdgkiefbbhkaaLate
import Derived.Test.YtgcdgkiefbbhkaaLst
import Derived.BigQuiet
import Derived.Deep.RegionHeld3
import Derived.Deep.DeepCutAuto
import Derived.Laws.Bits64b
set_option linter.unusedSimpArgs false
set_option linter.unusedVariables false
namespace Go.G6
open Go Go.RowKit
theorem Slc.keepL {α : Type} [Rep α] {w w' : World} {bs : List Nat} {a : Option Addr} {len cap : Nat} {xs : List α} (h : Slc w bs a len cap xs) (hk : ∀ b ∈ bs, w'.heap[b]? = w.heap[b]?) : Slc w' bs a len cap xs := pt_slice.1 (Rep.keep (pt_slice.2 h) hk)
/-- The cursor in the box p, over the bytes xs; all its blocks lie below B. -/
def Cur (B : Nat) (w : World) (p : Nat) (xs : List UInt8) : Prop := ∃ (bs : List Nat) (a : Option Addr) (cap : Nat) (i h : Int),
  Bx w p #[.slice a xs.length cap, .int .i64 i, .int .i64 h] ∧ Slc w bs a xs.length cap xs ∧ p < B ∧ (∀ b ∈ bs, b < B) ∧ p ∉ bs ∧ 0 ≤ i ∧ i ≤ xs.length ∧ B ≤ w.heap.size
theorem Cur.lt {B p : Nat} {w : World} {xs : List UInt8} (h : Cur B w p xs) : p < B := by obtain ⟨_, _, _, _, _, _, _, h1, _⟩ := h; exact h1
theorem Cur.le {B p : Nat} {w : World} {xs : List UInt8} (h : Cur B w p xs) : B ≤ w.heap.size := by obtain ⟨_, _, _, _, _, _, _, _, _, _, _, _, h1⟩ := h; exact h1
theorem Cur.low {B p : Nat} {w w' : World} {xs : List UInt8} (h : Cur B w p xs) (hb : Below B w w') : Cur B w' p xs := by
  obtain ⟨bs, a, cap, i, g, hX, hS, hp, hbs, hn, h0, h1, hB⟩ := h
  exact ⟨bs, a, cap, i, g, hX.keep (hb.block p hp), hS.keepL fun b h' => hb.block b (hbs b h'), hp, hbs, hn, h0, h1, Nat.le_trans hB hb.size⟩
theorem Cur.grow {B p : Nat} {w w' : World} {xs : List UInt8} (h : Cur B w p xs) (hb : Below w.heap.size w w') : Cur B w' p xs := h.low (hb.mono h.le)
theorem Cur.tchUp {B p : Nat} {w w' : World} {xs : List UInt8} {bs : List Nat} (h : Cur B w p xs) (hT : Tch bs w w') (hb : ∀ b ∈ bs, B ≤ b) : Cur B w' p xs := h.low (hT.below h.le hb)
theorem OwnL.setScal {α : Type} [Scal α] {lo : Nat} {w : World} {e : TypeId} {v : Value} {bs : List Nat} {xs : List α} (h : OwnL lo w e v bs xs) (i : Nat) (hi : i < xs.length) (x' : α) (hx : Scal.ok x') :
    ∃ g cap, v = .slice (some ⟨g, 0, none⟩) xs.length cap ∧ g ∈ bs ∧ Fr w g ∧ w.cell? ⟨g, i, none⟩ = some (Scal.val xs[i]) ∧ ∃ bs', OwnL lo (w.setCell ⟨g, i, none⟩ (Scal.val x')) e v bs' (xs.set i x') ∧ ∀ b ∈ bs', b ∈ bs := by
  obtain ⟨g, cap, bi, cs, ev, hgb, _, _, hf, _, hO, hA, hset⟩ := h.setE i hi
  obtain ⟨rfl, rfl, _⟩ := Scal.spt.1 hO.1
  rw [Scal.size1 (α := α), Nat.mul_one] at hA hset
  obtain ⟨bs', h1, h2⟩ := hset w (fun _ _ _ => rfl) [] [Scal.val x'] x' ⟨Scal.spt.2 ⟨rfl, rfl, hx⟩, List.nodup_nil, fun b hb => by cases hb⟩ (fun b hb => by cases hb)
  refine ⟨g, cap, ev, hgb, hf, by simpa using hA 0 _ rfl, bs', by simpa [World.setCells] using h1, fun b hb => by rcases h2 b hb with h | h; exact h; cases h⟩
theorem and255 (x : Int) : ∃ k : Nat, k < 256 ∧ bits .and .i64 x 255 = (k : Int) := by
  have h2 : (BitVec.ofInt 64 255).toNat = 255 := by decide
  have h3 : ((BitVec.ofInt 64 x) &&& (BitVec.ofInt 64 255)).toNat ≤ 255 := by
    rw [BitVec.toNat_and, h2]; exact Nat.and_le_right
  refine ⟨((BitVec.ofInt 64 x) &&& (BitVec.ofInt 64 255)).toNat, by omega, ?_⟩
  show IntKind.i64.wrap (((BitVec.ofInt 64 x) &&& (BitVec.ofInt 64 255)).toNat : Int) = _
  exact wrapI (by omega)
def drawTab : List Int := [97, 98, 99, 120, 49, 50, 32, 32, 46, 45, 95, 233, 4352, 20013, 128512, 47]
theorem drawTab_at {q : Nat} (h : q < 16) : ∃ r : Int, typed r = true ∧ (drawTab.map (Value.int .i64)).toArray[q]? = some (.int .i64 r) := by
  have hl : q < drawTab.length := h
  refine ⟨drawTab[q], ?_, by simp [hl]⟩
  have : ∀ r ∈ drawTab, typed r = true := by decide
  exact this _ (List.getElem_mem hl)
theorem typed_in {r : Int} (h : (33 ≤ r ∧ r ≤ 126) ∨ (160 ≤ r ∧ r ≤ 55295)) : typed r = true := by
  unfold typed printable
  rw [decide_eq_true (by omega)]; rfl
theorem typed_range {r : Int} (h : typed r = true) : I64 r := by
  unfold typed printable at h
  simp at h
  unfold I64; omega
end Go.G6
namespace Go.Proofs.Ytgcdgkiefbbhkaa
open Go.RowKit Go.G6
set_option maxHeartbeats 1600000
set_option maxRecDepth 10000
theorem s_l01Byte {B p : Nat} {w : World} {xs : List UInt8} (hc : Cur B w p xs) :
    Calls Try.prog 107 #[.pointer (some ⟨p, 0, none⟩)] w fun e w' => ∃ k : Nat, k < 256 ∧ e = .returned (.int .i64 (k : Int)) ∧ Cur B w' p xs ∧ Tch [p] w w' := by
  obtain ⟨bs, a, cap, i, h, hX, hS, hp, hbs, hn, hi0, hi1, hB⟩ := hc
  have hm := hS.max
  have HX := hid hX; have HS := hid hS
  go_enter Try.func107, Try.ntmps107
  have x1 := hX.out
  have x1f := hX.fr
  clear hX hS
  go_upto_region 2 with fail
  refine late_genw (fun w1 hw1 => ?_)
  clear x1 x1f
  have Y1 := show Bx w1 p _ by rw [hw1]; exact HX.out.setSame 2 _
  have HT := hid (show Tch [p] w w1 by rw [hw1]; exact (Tch.refl _ _).setCell (by simp) _)
  clear hw1
  have hpw : p < w1.heap.size := by have := HT.out.size; omega
  have S1 := HS.out.tch HT.out (fun b hb hm => hn (by simp at hm; rw [← hm]; exact hb))
  generalize wrap64 (wrap64 (h * 6364136223846793005) + 1442695040888963407) = g at Y1 ⊢
  have y1 := Y1.out; have y1f := Y1.fr
  go_quiet (fail)
  obtain ⟨x, hx, ex⟩ := and255 (bits .xor .i64 (g / 8589934592) (g / 35184372088832))
  rw [ex]
  clear ex
  by_cases hlt : i < (xs.length : Int)
  rotate_left
  · go_wp2_with fail
    go_quiet (fail)
    go_wp2
    go_ret
    refine ⟨x, hx, rfl, ⟨bs, a, cap, i, g, ?_, ?_, hp, hbs, hn, hi0, hi1, by have := HT.out.size; simp; omega⟩, (HT.out.drewN _).drewN _⟩
    · exact (Y1.drewN _).drewN _
    · exact (S1.tch (((Tch.refl [p] w1).drewN _).drewN _) (fun b hb hm => hn (by simp at hm; rw [← hm]; exact hb)))
  obtain ⟨j, rfl⟩ : ∃ j : Nat, i = (j : Int) := ⟨i.toNat, by omega⟩
  have hj : j < xs.length := by omega
  obtain ⟨b, off, ea, hbw, hck, hok⟩ := S1.at j hj
  have hck1 : w1.cell? ⟨b, off + j, none⟩ = some (.int .u8 (xs[j].toNat : Int)) := hck
  clear hck hok
  obtain rfl := ea
  have hju : (xs[j].toNat : Int) < 256 := by have := xs[j].toNat_lt; omega
  go_wp2_with fail
  go_quiet (fail)
  go_wp2_with fail
  go_quiet (fail)
  obtain ⟨x2, hx2, ex⟩ := and255 ((x : Int) + (xs[j].toNat : Int))
  rw [ex]
  clear ex
  go_wp2
  go_ret
  have hX2 := ((Y1.drewN 0).setSame 1 (.int .i64 ((j : Int) + 1)))
  refine ⟨x2, hx2, rfl, ⟨bs, some ⟨b, off, none⟩, cap, (j : Int) + 1, g, ?_, ?_, hp, hbs, hn, by omega, by omega, by have := HT.out.size; simp; omega⟩, (HT.out.drewN _).setCell (by simp) _⟩
  · exact (Y1.drewN _).setSame 1 _
  · exact S1.tch (((Tch.refl [p] w1).drewN _).setCell (by simp) _) (fun b hb hm => hn (by simp at hm; rw [← hm]; exact hb))
theorem s_l01Below {B p : Nat} {w : World} {xs : List UInt8} (hc : Cur B w p xs) (n : Int) (hn : 0 < n) (hI : n ≤ 1000000) :
    Calls Try.prog 91 #[.pointer (some ⟨p, 0, none⟩), .int .i64 n] w fun e w' => ∃ k : Nat, (k : Int) < n ∧ e = .returned (.int .i64 (k : Int)) ∧ Cur B w' p xs ∧ Tch [p] w w' := by
  have HC := hid hc; clear hc
  go_enter Try.func91, Try.ntmps91
  by_cases hs : n ≤ 256
  · go_wp2_with fail
    refine (s_l01Byte HC.out).mono ?_
    rintro e w1 ⟨k, hk, rfl, hc1, hT⟩
    have HC1 := hid hc1; have HT := hid hT; clear hc1 hT
    obtain ⟨m, hm⟩ : ∃ m : Nat, (m : Int) = (k : Int) % n := ⟨((k : Int) % n).toNat, Int.toNat_of_nonneg (Int.emod_nonneg _ (by omega))⟩
    have E := hid hm
    have hmn := hid (show (m : Int) < n by rw [hm]; exact Int.emod_lt_of_pos _ hn)
    clear hm
    go_wp2
    go_ret
    exact ⟨m, hmn.out, ret_int (by rw [E.out]), HC1.out, HT.out⟩
  · go_wp2_with fail
    refine (s_l01Byte HC.out).mono ?_
    rintro e w1 ⟨x, hx, rfl, hc1, hT⟩
    have HC1 := hid hc1; have HT := hid hT; clear hc1 hT
    go_wp2_with fail
    refine (s_l01Byte HC1.out).mono ?_
    rintro e w2 ⟨y, hy, rfl, hc1, hT⟩
    have HC2 := hid hc1; have HT2 := hid (HT.out.trans hT); clear hc1 hT
    go_wp2_with fail
    refine (s_l01Byte HC2.out).mono ?_
    rintro e w3 ⟨z, hz, rfl, hc1, hT⟩
    have HC3 := hid hc1; have HT3 := hid (HT2.out.trans hT); clear hc1 hT
    go_wp2_with fail
    refine (s_l01Byte HC3.out).mono ?_
    rintro e w4 ⟨v, hv, rfl, hc1, hT⟩
    have HC4 := hid hc1; have HT4 := hid (HT3.out.trans hT); clear hc1 hT HC HC1 HC2 HC3 HT HT2 HT3
    obtain ⟨m, hm⟩ : ∃ m : Nat, (m : Int) = ((x : Int) * 16777216 + y * 65536 + z * 256 + v) % n := ⟨(((x : Int) * 16777216 + y * 65536 + z * 256 + v) % n).toNat, Int.toNat_of_nonneg (Int.emod_nonneg _ (by omega))⟩
    have E := hid hm
    have hmn := hid (show (m : Int) < n by rw [hm]; exact Int.emod_lt_of_pos _ hn)
    clear hm
    go_wp2
    go_ret
    exact ⟨m, hmn.out, ret_int (by rw [E.out]), HC4.out, HT4.out⟩
theorem s_l02Rune {B p : Nat} {w : World} {xs : List UInt8} (hc : Cur B w p xs) :
    Calls Try.prog 108 #[.pointer (some ⟨p, 0, none⟩)] w fun e w' => ∃ r : Int, typed r = true ∧ e = .returned (.int .i64 r) ∧ Cur B w' p xs ∧ Tch [p] w w' := by
  have HC := hid hc; clear hc
  go_enter Try.func108, Try.ntmps108
  go_wp2_with fail
  refine (s_l01Below HC.out 12 (by omega) (by omega)).mono ?_
  rintro e w1 ⟨k, hk, rfl, hc1, hT⟩
  have HC1 := hid hc1; have HT := hid hT; clear hc1 hT HC
  by_cases h9 : k < 9
  · go_wp2_with fail
    have HT0 := hid (HT.out.alloc (.cells (drawTab.map (.int .i64)).toArray 3))
    refine (s_l01Below (B := B) (p := p) (xs := xs) (HC1.out.grow ((Below.refl _ _).alloc (Nat.le_refl _) _)) 16 (by omega) (by omega)).mono ?_
    rintro e w2 ⟨q, hq, rfl, hc1, hT⟩
    have hp := HC1.out.lt
    have hB := HC1.out.le
    have hq16 : q < 16 := by omega
    obtain ⟨r, hr, hcell⟩ := drawTab_at hq16
    have hX := Bx.tch (b := w1.heap.size) hT (by simp) (by simp; omega) (Bx.new w1 _ _ rfl)
    have hxc : w2.cell? ⟨w1.heap.size, q, none⟩ = some (.int .i64 r) := (hX.out q).trans hcell
    have HC2 := hid hc1; have HT2 := hid (HT0.out.trans hT)
    have hr64 := typed_range hr
    clear hc1 hT hX HC1 HT HT0 hcell
    go_wp2
    go_ret
    exact ⟨r, hr, rfl, HC2.out, HT2.out⟩
  by_cases h10 : k = 9
  · subst h10
    go_wp2_with fail
    refine (s_l01Below HC1.out 94 (by omega) (by omega)).mono ?_
    rintro e w2 ⟨q, hq, rfl, hc1, hT⟩
    have HC2 := hid hc1; have HT2 := hid (HT.out.trans hT); clear hc1 hT HC1 HT
    have E := hid (show typed (33 + (q : Int)) = true from typed_in (.inl ⟨by omega, by omega⟩))
    go_wp2
    go_ret
    exact ⟨_, E.out, rfl, HC2.out, HT2.out⟩
  by_cases h11 : k = 10
  · subst h11
    go_wp2_with fail
    refine (s_l01Below HC1.out 300 (by omega) (by omega)).mono ?_
    rintro e w2 ⟨q, hq, rfl, hc1, hT⟩
    have HC2 := hid hc1; have HT2 := hid (HT.out.trans hT); clear hc1 hT HC1 HT
    have E := hid (show typed (160 + (q : Int)) = true from typed_in (.inr ⟨by omega, by omega⟩))
    go_wp2
    go_ret
    exact ⟨_, E.out, rfl, HC2.out, HT2.out⟩
  · go_wp2_with fail
    refine (s_l01Below HC1.out 2000 (by omega) (by omega)).mono ?_
    rintro e w2 ⟨q, hq, rfl, hc1, hT⟩
    have HC2 := hid hc1; have HT2 := hid (HT.out.trans hT); clear hc1 hT HC1 HT
    have E := hid (show typed (19968 + (q : Int)) = true from typed_in (.inr ⟨by omega, by omega⟩))
    go_wp2
    go_ret
    exact ⟨_, E.out, rfl, HC2.out, HT2.out⟩
theorem s_l02Runes {B p : Nat} {w : World} {xs : List UInt8} (hc : Cur B w p xs) (m : Nat) (hm : m ≤ 100) :
    Calls Try.prog 92 #[.pointer (some ⟨p, 0, none⟩), .int .i64 (m : Int)] w fun e w' => ∃ v bs ys, e = .returned v ∧ OwnL w.heap.size w' 3 v bs ys ∧ (∀ y ∈ ys, typed y = true) ∧ ys.length ≤ m ∧ Cur B w' p xs ∧ Tch [p] w w' := by
  have HC := hid hc; clear hc
  obtain ⟨i0, hi, hz0, hz1, hz2⟩ := info_parts info_int
  go_enter Try.func92, Try.ntmps92
  go_wp2_with fail
  refine (s_l01Below (B := B) (p := p) (xs := xs) (HC.out.grow ((Below.refl _ _).alloc (Nat.le_refl _) _)) ((m : Int) + 1) (by omega) (by omega)).mono ?_
  rintro e w1 ⟨n, hn, rfl, hc1, hT⟩
  have hp := HC.out.lt
  have hB := HC.out.le
  have HO := hid ((ownL_empty (α := Int) (lo := w.heap.size) (w := w) (e := 3) rfl (Nat.le_refl _)).tch hT (by simp; omega))
  have HT := hid ((Tch.refl [p] w).alloc (.cells #[] 3) |>.trans hT)
  have HC1 := hid hc1
  clear hc1 hT HC
  go_wp2_with fail
  go_loopw [5, 6] (fun v i wr => ∃ (k : Nat) (b2 : List Nat) (ys : List Int), i = .int .i64 (k : Int) ∧ OwnL w.heap.size wr 3 v b2 ys ∧ (∀ y ∈ ys, typed y = true) ∧ ys.length + k ≤ m ∧ Cur B wr p xs ∧ Tch [p] w wr) (fun _ i _ => (intOf i).toNat)
  case atStart => exact ⟨n, _, [], rfl, HO.out, by simp, by simp; omega, HC1.out, HT.out⟩
  case round =>
    obtain ⟨k, b2, ys, rfl, hO, hty, hl, hc2, hT2⟩ := hrel
    obtain ⟨pa, pc, rfl⟩ := hO.slice
    have HO := hid hO; have HC2 := hid hc2; have HT2 := hid hT2; have HTY := hid hty
    clear hO hc2 hT2 hty HC1 HT
    by_cases h0 : k = 0
    · subst h0
      go_wp2
      go_ret
      exact ⟨_, b2, ys, rfl, HO.out, HTY.out, by omega, HC2.out, HT2.out⟩
    have hk0 : (0 : Int) < (k : Int) := by omega
    go_wp2_with fail
    refine (s_l02Rune HC2.out).mono ?_
    rintro e w2 ⟨r, hr, rfl, hc3, hT3⟩
    have HC3 := hid hc3
    have HO3 := hid (HO.out.tch hT3 (fun b hb hm => by have := (HO.out.lts b hb).1; simp at hm; omega))
    have HT3 := hid (HT2.out.trans hT3)
    have hr64 := typed_range hr
    have HR := hid hr
    clear hc3 hT3 HC2 HO HT2 hr
    go_wp2_with (at_builtin; refine wp_append rfl _ _ 54 rfl 3 i0 (.int .i64 0) 8 Try.underlying54 hi hz0 hz1 hz2 rfl (lo := w.heap.size) rfl (HO3.out.alloc _) (b2 := []) (ys := [r]) rfl ?src List.nodup_nil ?q1 ?q2 ?q3 ?q4 ?_)
    case src => exact src_new (pt_i hr64) (by simp) _ _
    case q1 => simp
    case q2 => simp; omega
    case q3 => simp; omega
    case q4 => have := HT3.out.size; simp; omega
    intro p2 c2 w3 b3 hO4 hT4 hm4
    have hup : ∀ b ∈ b2, w.heap.size ≤ b := fun b hb => (HO3.out.lts b hb).1
    have HC4 := hid (Cur.tchUp (HC3.out.grow ((Below.refl _ _).alloc (Nat.le_refl _) _)) hT4 (fun b hb => Nat.le_trans hB (hup b hb)))
    have HT4 := hid (keepc (HT3.out.alloc _) hT4 (fun b hb => .inr (hup b hb)))
    have HO4 := hid hO4
    clear hO4 hT4 hm4 HC3 HT3 HO3
    go_wp2
    refine ⟨⟨k - 1, b3, ys ++ [r], by congr 1; omega, ?_, ?_, ?_, HC4.out, HT4.out⟩, by simp [intOf]; omega⟩
    · exact HO4.out
    · intro y hy
      rcases List.mem_append.1 hy with hy | hy
      · exact HTY.out y hy
      · simp at hy; subst hy; exact HR.out
    · simp; omega
theorem s_l13Runes {B p : Nat} {w : World} {xs : List UInt8} (hc : Cur B w p xs) (m : Nat) (hm : m ≤ 100) :
    Calls Try.prog 65 #[.pointer (some ⟨p, 0, none⟩), .int .i64 (m : Int)] w fun e w' => ∃ v bs ys, e = .returned v ∧ OwnL w.heap.size w' 3 v bs ys ∧ (∀ y ∈ ys, typed y = true) ∧ ys.length ≤ m ∧ Cur B w' p xs ∧ Tch [p] w w' := by
  have HC := hid hc; clear hc
  have hp := HC.out.lt
  have hB := HC.out.le
  go_enter Try.func65, Try.ntmps65
  go_wp2_with fail
  refine (s_l02Runes HC.out m hm).mono ?_
  rintro e w1 ⟨v, b1, y0, rfl, hO, hty, hl, hc1, hT⟩
  obtain ⟨pa, pc, rfl⟩ := hO.slice
  have HO := hid hO; have HT := hid hT; have HC1 := hid hc1; have HTY := hid hty
  clear hO hT hc1 HC hty
  go_wp2_with fail
  go_loopw [13] (fun i wr => ∃ (k : Nat) (b2 : List Nat) (ys : List Int), i = .int .i64 (k : Int) ∧ k ≤ y0.length ∧ ys.length = y0.length ∧ OwnL w.heap.size wr 3 (.slice pa y0.length pc) b2 ys ∧ (∀ y ∈ ys, typed y = true) ∧ Cur B wr p xs ∧ Tch [p] w wr) (fun i _ => y0.length - (intOf i).toNat)
  case atStart => exact ⟨0, _, y0, rfl, Nat.zero_le _, rfl, HO.out, HTY.out, HC1.out, HT.out⟩
  case round =>
    obtain ⟨k, b2, ys, rfl, hk, hyl, hO, hty, hc2, hT2⟩ := hrel
    have HOk := hid hO; have HC2 := hid hc2; have HT2 := hid hT2; have HTY2 := hid hty
    have HYL := hid hyl
    clear hO hc2 hT2 hty HC1 HT HO HTY hyl
    by_cases hlt : k < y0.length
    rotate_left
    · have hki : ¬ (k : Int) < (y0.length : Int) := by omega
      go_wp2
      go_ret
      first | exact ⟨_, b2, ys, rfl, HOk.out, HTY2.out, by omega, HC2.out, HT2.out⟩ | exact ⟨_, rfl, b2, ys, HYL.out ▸ HOk.out, HTY2.out, by rw [HYL.out]; exact hl, HC2.out, HT2.out⟩
    have hki : (k : Int) < (y0.length : Int) := by omega
    have hky : k < ys.length := by have := HYL.out; omega
    go_wp2_with fail
    refine (s_l01Below HC2.out 14 (by omega) (by omega)).mono ?_
    rintro e w2 ⟨q, hq, rfl, hc3, hT3⟩
    have HC3 := hid hc3
    have HO3 := hid (HOk.out.tch hT3 (fun b hb hm => by have := (HOk.out.lts b hb).1; simp at hm; omega))
    have HT3 := hid (HT2.out.trans hT3)
    clear hc3 hT3 HC2 HOk HT2
    by_cases q0 : q = 0
    · subst q0
      obtain ⟨g, cap, ev, hgb, hgf, hgc, b3, hO4, hb3⟩ := HO3.out.setScal k hky (9 : Int) (by show I64 9; simp [I64])
      obtain ⟨rfl, -, rfl⟩ : pa = some ⟨g, 0, none⟩ ∧ y0.length = ys.length ∧ pc = cap := by simpa using ev
      have hgl := (HO3.out.lts g hgb).1
      have hgfr := hgf.frozen
      have HO4 := hid hO4
      clear hO4 ev
      go_wp2
      refine ⟨⟨k + 1, b3, ys.set k 9, rfl, by omega, by simp [HYL.out], HO4.out, ?_, ?_, ?_⟩, by simp [intOf]; omega⟩
      · intro y hy
        rcases List.mem_or_eq_of_mem_set hy with hy | rfl
        · exact HTY2.out y hy
        · decide
      · exact Cur.tchUp HC3.out ((Tch.refl [g] _).setCell (by simp) _) (by simp; omega)
      · exact keepc HT3.out ((Tch.refl [g] _).setCell (by simp) _) (fun x hx => .inr (by simp at hx; omega))
    by_cases q1 : q = 1
    · subst q1
      obtain ⟨g, cap, ev, hgb, hgf, hgc, b3, hO4, hb3⟩ := HO3.out.setScal k hky (10 : Int) (by show I64 10; simp [I64])
      obtain ⟨rfl, -, rfl⟩ : pa = some ⟨g, 0, none⟩ ∧ y0.length = ys.length ∧ pc = cap := by simpa using ev
      have hgl := (HO3.out.lts g hgb).1
      have hgfr := hgf.frozen
      have HO4 := hid hO4
      clear hO4 ev
      go_wp2
      refine ⟨⟨k + 1, b3, ys.set k 10, rfl, by omega, by simp [HYL.out], HO4.out, ?_, ?_, ?_⟩, by simp [intOf]; omega⟩
      · intro y hy
        rcases List.mem_or_eq_of_mem_set hy with hy | rfl
        · exact HTY2.out y hy
        · decide
      · exact Cur.tchUp HC3.out ((Tch.refl [g] _).setCell (by simp) _) (by simp; omega)
      · exact keepc HT3.out ((Tch.refl [g] _).setCell (by simp) _) (fun x hx => .inr (by simp at hx; omega))
    by_cases q2 : q = 2
    · subst q2
      go_wp2_with fail
      refine (s_l01Below HC3.out 26 (by omega) (by omega)).mono ?_
      rintro e w3 ⟨r, hr, rfl, hc4, hT4⟩
      have HO5 := hid (HO3.out.tch hT4 (fun b hb hm => by have := (HO3.out.lts b hb).1; simp at hm; omega))
      have HC4 := hid hc4
      have HT4 := hid (HT3.out.trans hT4)
      clear hc4 hT4 HC3 HO3 HT3
      obtain ⟨g, cap, ev, hgb, hgf, hgc, b3, hO4, hb3⟩ := HO5.out.setScal k hky (65 + (r : Int)) (by show I64 _; unfold I64; omega)
      obtain ⟨rfl, -, rfl⟩ : pa = some ⟨g, 0, none⟩ ∧ y0.length = ys.length ∧ pc = cap := by simpa using ev
      have hgl := (HO5.out.lts g hgb).1
      have hgfr := hgf.frozen
      have HO4 := hid hO4
      clear hO4 ev
      go_wp2
      refine ⟨⟨k + 1, b3, ys.set k (65 + (r : Int)), rfl, by omega, by simp [HYL.out], HO4.out, ?_, ?_, ?_⟩, by simp [intOf]; omega⟩
      · intro y hy
        rcases List.mem_or_eq_of_mem_set hy with hy | rfl
        · exact HTY2.out y hy
        · exact typed_in (.inl ⟨by omega, by omega⟩)
      · exact Cur.tchUp HC4.out ((Tch.refl [g] _).setCell (by simp) _) (by simp; omega)
      · exact keepc HT4.out ((Tch.refl [g] _).setCell (by simp) _) (fun x hx => .inr (by simp at hx; omega))
    · have z0 : ((q : Int) == 0) = false := by rw [beq_eq_false_iff_ne]; omega
      have z1 : ((q : Int) == 1) = false := by rw [beq_eq_false_iff_ne]; omega
      have z2 : ((q : Int) == 2) = false := by rw [beq_eq_false_iff_ne]; omega
      go_wp2
      exact ⟨⟨k + 1, b2, ys, rfl, by omega, HYL.out, HO3.out, HTY2.out, HC3.out, HT3.out⟩, by simp [intOf]; omega⟩
set_option maxRecDepth 400000 in
theorem s_l01New {w : World} {bs : List Nat} {a : Option Addr} {len cap : Nat} {xs : List UInt8} (h : Slc w bs a len cap xs) :
    Calls Try.prog 63 #[.slice a len cap] w fun e w' => ∃ p : Nat, w.heap.size ≤ p ∧ e = .returned (.pointer (some ⟨p, 0, none⟩)) ∧ Cur w'.heap.size w' p xs ∧ Below w.heap.size w w' := by
  obtain rfl := h.len_eq
  have hm := h.max
  have HS := hid h; clear h
  go_enter Try.func63, Try.ntmps63
  go_wp2_with fail
  go_loopw [3, 4] (fun hv i wr => ∃ (k : Nat) (g : Int), i = .int .i64 (k : Int) ∧ k ≤ xs.length ∧ hv = .int .i64 g ∧ wr = w) (fun _ i _ => xs.length - (intOf i).toNat)
  case atStart => exact ⟨0, _, rfl, Nat.zero_le _, rfl, rfl⟩
  case round =>
    obtain ⟨k, g, rfl, hk, rfl, rfl⟩ := hrel
    by_cases hlt : k < xs.length ∧ k < 4000
    · obtain ⟨h1, h2⟩ := hlt
      obtain ⟨b, off, ea, hbw, hck, hok⟩ := HS.out.at k h1
      have hck1 : wr.cell? ⟨b, off + k, none⟩ = some (.int .u8 (xs[k].toNat : Int)) := hck
      clear hck hok
      obtain rfl := ea
      have hki : (k : Int) < (xs.length : Int) := by omega
      have hju : (xs[k].toNat : Int) < 256 := by have := xs[k].toNat_lt; omega
      go_wp2
      exact ⟨⟨k + 1, _, rfl, by omega, rfl, trivial⟩, by simp [intOf]; omega⟩
    have hfin : ∀ (W : World), W = wr.alloc (.cells #[.slice a xs.length cap, .int .i64 0, .int .i64 g] 127) → Cur W.heap.size W wr.heap.size xs ∧ Below wr.heap.size wr W := by
      rintro W rfl
      refine ⟨⟨bs, a, cap, 0, g, Bx.new _ _ _ rfl, HS.out.grow ((Below.refl _ _).alloc (Nat.le_refl _) _), by simp, ?_, ?_, by omega, by omega, Nat.le_refl _⟩, (Below.refl _ _).alloc (Nat.le_refl _) _⟩
      · intro b hb; have := (HS.out.lts b hb).2; simp; omega
      · intro hb; have := (HS.out.lts _ hb).2; simp at this
    have HF := hid hfin; clear hfin
    by_cases h1 : k < xs.length
    · have h2 : ¬ (k : Int) < 4000 := by omega
      have hki : (k : Int) < (xs.length : Int) := by omega
      clear hlt
      go_wp2
      go_ret
      exact ⟨_, Nat.le_refl _, rfl, HF.out _ rfl⟩
    · have hki : ¬ (k : Int) < (xs.length : Int) := by omega
      clear hlt h1
      go_wp2
      go_ret
      exact ⟨_, Nat.le_refl _, rfl, HF.out _ rfl⟩
end Go.Proofs.Ytgcdgkiefbbhkaa
