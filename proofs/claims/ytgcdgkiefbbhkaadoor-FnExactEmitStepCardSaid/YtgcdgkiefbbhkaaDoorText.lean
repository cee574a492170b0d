/- The bytes of runes, and texts (printed by gentext.py). -/
import Derived.Test.YtgcdgkiefbbhkaaDoorProg
import Derived.Test.YtgcdgkiefbbhkaaDoorRune
import Derived.Test.YtgcdgkiefbbhkaaDoorApp
import Derived.Test.YtgcdgkiefbbhkaaDoorCopy
set_option linter.unusedSimpArgs false
set_option linter.unusedVariables false
namespace Go.G6
open Go.RowKit
def b8 (x : Int) : UInt8 := UInt8.ofNat x.toNat
theorem b8_val {x : Int} (h0 : 0 ≤ x) (h1 : x < 256) : ((b8 x).toNat : Int) = x := by
  unfold b8; rw [u8_ofNat]; omega
def runeBytes (r : Int) : List UInt8 :=
  if runeOk r then
    if r < 128 then [b8 r]
    else if r < 2048 then [b8 (192 + r / 64), b8 (128 + r % 64)]
    else if r < 65536 then [b8 (224 + r / 4096), b8 (128 + r / 64 % 64), b8 (128 + r % 64)]
    else [b8 (240 + r / 262144), b8 (128 + r / 4096 % 64), b8 (128 + r / 64 % 64), b8 (128 + r % 64)]
  else []
theorem runeBytes_len (r : Int) : (runeBytes r).length ≤ 4 := by
  unfold runeBytes; (repeat' split) <;> simp
def textList (xs : List Int) : List UInt8 := xs.flatMap runeBytes
theorem textList_len (xs : List Int) : (textList xs).length ≤ 4 * xs.length := by
  induction xs with
  | nil => simp [textList]
  | cons x xs ih =>
    have := runeBytes_len x
    have e : textList (x :: xs) = runeBytes x ++ textList xs := by simp [textList]
    rw [e, List.length_append, List.length_cons]; omega
theorem textList_take (xs : List Int) (k : Nat) (h : k < xs.length) : textList (xs.take (k + 1)) = textList (xs.take k) ++ runeBytes xs[k] := by
  unfold textList
  rw [List.take_succ_eq_append_getElem h, List.flatMap_append]; simp
def textOf (xs : List Int) : ByteArray := ⟨(textList xs).toArray⟩
def emitList (xs : List Int) : List UInt8 := textList (xs.filter printable)
theorem emitList_len (xs : List Int) : (emitList xs).length ≤ 4 * xs.length := by
  have h1 := textList_len (xs.filter printable)
  have h2 := List.length_filter_le printable xs
  unfold emitList; omega
theorem emitList_yes (xs : List Int) (k : Nat) (h : k < xs.length) (hp : printable xs[k] = true) : emitList (xs.take (k + 1)) = emitList (xs.take k) ++ runeBytes xs[k] := by
  unfold emitList textList
  rw [List.take_succ_eq_append_getElem h, List.filter_append, List.flatMap_append]; simp [hp]
theorem emitList_no (xs : List Int) (k : Nat) (h : k < xs.length) (hp : printable xs[k] = false) : emitList (xs.take (k + 1)) = emitList (xs.take k) := by
  unfold emitList textList
  rw [List.take_succ_eq_append_getElem h, List.filter_append, List.flatMap_append]; simp [hp]
theorem Slc.text {w : World} {bs : List Nat} {a : Option Addr} {len cap : Nat} {xs : List UInt8} (h : Slc w bs a len cap xs) {P : Program} (src dst e : TypeId) (hs : P.underlying src = some (.slice e)) (he : P.underlying e = some (.int .u8)) (hd : P.underlying dst = some .string) :
    (convert src dst (.slice a len cap)).run P w = .ok (.string ⟨xs.toArray⟩) w := by
  obtain rfl := h.len_eq
  obtain ⟨h1, h2, h3, ⟨rfl, rfl, h5⟩ | ⟨_, b, off, bss, cells, rfl, _, _, hE, hA⟩⟩ := h
  · cases a with
    | none => exact run_convert_bytes_nil w src e hs he _ _ dst hd
    | some ad => exact run_convert_bytes_back w src dst e ad cap [] hs he hd (fun j hj => by simp at hj)
  · refine run_convert_bytes_back w src dst e _ cap xs hs he hd (fun j hj => ?_)
    rw [add_none]
    have hc := (elems_scal' hE).2.1
    exact hA j _ (by rw [hc, List.getElem?_map, List.getElem?_eq_getElem hj]; rfl)
end Go.G6
namespace Go.Proofs.YtgcdgkiefbbhkaaDoor
open Go.RowKit Go.G6
set_option maxHeartbeats 1600000
set_option maxRecDepth 10000
theorem i_RuneBytes (r : Int) (hr : I64 r) (w : World) : Calls Tryd.prog 51 #[.int .i64 r] w (RetL w 5 (runeBytes r)) := by
  unfold I64 at hr
  cases hk : runeOk r
  · have E : Hid (runeBytes r = []) := hid (by unfold runeBytes; rw [if_neg (by simp [hk])])
    have Hk := hid hk; clear hk
    go_enter Tryd.func51, Tryd.ntmps51
    go_wp2_with (go_at_call 62; refine (i_runeOk _ _).mono ?_; rintro e w' ⟨rfl, rfl⟩; rw [Hk.out])
    go_ret
    exact ⟨_, [], rfl, by rw [E.out]; exact OwnL.nil _ _ _, Below.refl _ _⟩
  have hb : 0 ≤ r ∧ r ≤ 1114111 := by simp [runeOk] at hk; omega
  obtain ⟨hb0, hb1⟩ := hb
  have hE : runeBytes r = if r < 128 then [b8 r]
    else if r < 2048 then [b8 (192 + r / 64), b8 (128 + r % 64)]
    else if r < 65536 then [b8 (224 + r / 4096), b8 (128 + r / 64 % 64), b8 (128 + r % 64)]
    else [b8 (240 + r / 262144), b8 (128 + r / 4096 % 64), b8 (128 + r / 64 % 64), b8 (128 + r % 64)] := by unfold runeBytes; rw [if_pos hk]
  have HE := hid hE; clear hE
  have Hk := hid hk; clear hk
  by_cases h1 : r < 128
  · have E : Hid (runeBytes r = [b8 r]) := hid (by rw [HE.out, if_pos h1])
    clear HE
    go_enter Tryd.func51, Tryd.ntmps51
    go_wp2_with (go_at_call 62; refine (i_runeOk _ _).mono ?_; rintro e w' ⟨rfl, rfl⟩; rw [Hk.out])
    go_ret
    refine ⟨_, [w.heap.size], rfl, ?_, (Below.refl _ _).alloc (Nat.le_refl _) _⟩
    rw [E.out]
    refine OwnL.lit w _ _ _ ?_ (fun _ _ => trivial) (Nat.le_refl _) (by simp [maxLen]) rfl
    simp only [List.map_cons, List.map_nil, Scal.val]
    rw [b8_val (by omega) (by omega)]
  by_cases h2 : r < 2048
  · have E : Hid (runeBytes r = [b8 (192 + r / 64), b8 (128 + r % 64)]) := hid (by rw [HE.out, if_neg h1, if_pos h2])
    clear HE
    go_enter Tryd.func51, Tryd.ntmps51
    go_wp2_with (go_at_call 62; refine (i_runeOk _ _).mono ?_; rintro e w' ⟨rfl, rfl⟩; rw [Hk.out])
    go_ret
    refine ⟨_, [w.heap.size], rfl, ?_, (Below.refl _ _).alloc (Nat.le_refl _) _⟩
    rw [E.out]
    refine OwnL.lit w _ _ _ ?_ (fun _ _ => trivial) (Nat.le_refl _) (by simp [maxLen]) rfl
    simp only [List.map_cons, List.map_nil, Scal.val]
    rw [b8_val (by omega) (by omega), b8_val (by omega) (by omega)]
  by_cases h3 : r < 65536
  · have E : Hid (runeBytes r = [b8 (224 + r / 4096), b8 (128 + r / 64 % 64), b8 (128 + r % 64)]) := hid (by rw [HE.out, if_neg h1, if_neg h2, if_pos h3])
    clear HE
    go_enter Tryd.func51, Tryd.ntmps51
    go_wp2_with (go_at_call 62; refine (i_runeOk _ _).mono ?_; rintro e w' ⟨rfl, rfl⟩; rw [Hk.out])
    go_ret
    refine ⟨_, [w.heap.size], rfl, ?_, (Below.refl _ _).alloc (Nat.le_refl _) _⟩
    rw [E.out]
    refine OwnL.lit w _ _ _ ?_ (fun _ _ => trivial) (Nat.le_refl _) (by simp [maxLen]) rfl
    simp only [List.map_cons, List.map_nil, Scal.val]
    rw [b8_val (by omega) (by omega), b8_val (by omega) (by omega), b8_val (by omega) (by omega)]
  · have E : Hid (runeBytes r = [b8 (240 + r / 262144), b8 (128 + r / 4096 % 64), b8 (128 + r / 64 % 64), b8 (128 + r % 64)]) := hid (by rw [HE.out, if_neg h1, if_neg h2, if_neg h3])
    clear HE
    go_enter Tryd.func51, Tryd.ntmps51
    go_wp2_with (go_at_call 62; refine (i_runeOk _ _).mono ?_; rintro e w' ⟨rfl, rfl⟩; rw [Hk.out])
    go_ret
    refine ⟨_, [w.heap.size], rfl, ?_, (Below.refl _ _).alloc (Nat.le_refl _) _⟩
    rw [E.out]
    refine OwnL.lit w _ _ _ ?_ (fun _ _ => trivial) (Nat.le_refl _) (by simp [maxLen]) rfl
    simp only [List.map_cons, List.map_nil, Scal.val]
    rw [b8_val (by omega) (by omega), b8_val (by omega) (by omega), b8_val (by omega) (by omega), b8_val (by omega) (by omega)]
theorem s_RuneBytes (r : Int) (hr : I64 r) (w : World) : Calls Tryd.prog 48 #[.int .i64 r] w (RetL w 5 (runeBytes r)) := by
  unfold I64 at hr
  cases hk : runeOk r
  · have E : Hid (runeBytes r = []) := hid (by unfold runeBytes; rw [if_neg (by simp [hk])])
    have Hk := hid hk; clear hk
    go_enter Tryd.func48, Tryd.ntmps48
    go_wp2_with (go_at_call 61; refine (s_runeOk _ _).mono ?_; rintro e w' ⟨rfl, rfl⟩; rw [Hk.out])
    go_ret
    exact ⟨_, [], rfl, by rw [E.out]; exact OwnL.nil _ _ _, Below.refl _ _⟩
  have hb : 0 ≤ r ∧ r ≤ 1114111 := by simp [runeOk] at hk; omega
  obtain ⟨hb0, hb1⟩ := hb
  have hE : runeBytes r = if r < 128 then [b8 r]
    else if r < 2048 then [b8 (192 + r / 64), b8 (128 + r % 64)]
    else if r < 65536 then [b8 (224 + r / 4096), b8 (128 + r / 64 % 64), b8 (128 + r % 64)]
    else [b8 (240 + r / 262144), b8 (128 + r / 4096 % 64), b8 (128 + r / 64 % 64), b8 (128 + r % 64)] := by unfold runeBytes; rw [if_pos hk]
  have HE := hid hE; clear hE
  have Hk := hid hk; clear hk
  by_cases h1 : r < 128
  · have E : Hid (runeBytes r = [b8 r]) := hid (by rw [HE.out, if_pos h1])
    clear HE
    go_enter Tryd.func48, Tryd.ntmps48
    go_wp2_with (go_at_call 61; refine (s_runeOk _ _).mono ?_; rintro e w' ⟨rfl, rfl⟩; rw [Hk.out])
    go_ret
    refine ⟨_, [w.heap.size], rfl, ?_, (Below.refl _ _).alloc (Nat.le_refl _) _⟩
    rw [E.out]
    refine OwnL.lit w _ _ _ ?_ (fun _ _ => trivial) (Nat.le_refl _) (by simp [maxLen]) rfl
    simp only [List.map_cons, List.map_nil, Scal.val]
    rw [b8_val (by omega) (by omega)]
  by_cases h2 : r < 2048
  · have E : Hid (runeBytes r = [b8 (192 + r / 64), b8 (128 + r % 64)]) := hid (by rw [HE.out, if_neg h1, if_pos h2])
    clear HE
    go_enter Tryd.func48, Tryd.ntmps48
    go_wp2_with (go_at_call 61; refine (s_runeOk _ _).mono ?_; rintro e w' ⟨rfl, rfl⟩; rw [Hk.out])
    go_ret
    refine ⟨_, [w.heap.size], rfl, ?_, (Below.refl _ _).alloc (Nat.le_refl _) _⟩
    rw [E.out]
    refine OwnL.lit w _ _ _ ?_ (fun _ _ => trivial) (Nat.le_refl _) (by simp [maxLen]) rfl
    simp only [List.map_cons, List.map_nil, Scal.val]
    rw [b8_val (by omega) (by omega), b8_val (by omega) (by omega)]
  by_cases h3 : r < 65536
  · have E : Hid (runeBytes r = [b8 (224 + r / 4096), b8 (128 + r / 64 % 64), b8 (128 + r % 64)]) := hid (by rw [HE.out, if_neg h1, if_neg h2, if_pos h3])
    clear HE
    go_enter Tryd.func48, Tryd.ntmps48
    go_wp2_with (go_at_call 61; refine (s_runeOk _ _).mono ?_; rintro e w' ⟨rfl, rfl⟩; rw [Hk.out])
    go_ret
    refine ⟨_, [w.heap.size], rfl, ?_, (Below.refl _ _).alloc (Nat.le_refl _) _⟩
    rw [E.out]
    refine OwnL.lit w _ _ _ ?_ (fun _ _ => trivial) (Nat.le_refl _) (by simp [maxLen]) rfl
    simp only [List.map_cons, List.map_nil, Scal.val]
    rw [b8_val (by omega) (by omega), b8_val (by omega) (by omega), b8_val (by omega) (by omega)]
  · have E : Hid (runeBytes r = [b8 (240 + r / 262144), b8 (128 + r / 4096 % 64), b8 (128 + r / 64 % 64), b8 (128 + r % 64)]) := hid (by rw [HE.out, if_neg h1, if_neg h2, if_neg h3])
    clear HE
    go_enter Tryd.func48, Tryd.ntmps48
    go_wp2_with (go_at_call 61; refine (s_runeOk _ _).mono ?_; rintro e w' ⟨rfl, rfl⟩; rw [Hk.out])
    go_ret
    refine ⟨_, [w.heap.size], rfl, ?_, (Below.refl _ _).alloc (Nat.le_refl _) _⟩
    rw [E.out]
    refine OwnL.lit w _ _ _ ?_ (fun _ _ => trivial) (Nat.le_refl _) (by simp [maxLen]) rfl
    simp only [List.map_cons, List.map_nil, Scal.val]
    rw [b8_val (by omega) (by omega), b8_val (by omega) (by omega), b8_val (by omega) (by omega), b8_val (by omega) (by omega)]
theorem i_TextOf {w : World} {bs : List Nat} {a : Option Addr} {len cap : Nat} {xs : List Int} (h : Slc w bs a len cap xs) (hn : xs.length ≤ 16777216) :
    Calls Tryd.prog 31 #[.slice a len cap] w (fun e w' => e = .returned (.string (textOf xs)) ∧ Below w.heap.size w w') := by
  obtain rfl := h.len_eq
  obtain ⟨i0, hi, hz0, hz1, hz2⟩ := info_parts info_byte
  go_enter Tryd.func31, Tryd.ntmps31
  go_wp2_with fail
  go_loopw [3, 8] (fun v i wr => ∃ (k : Nat) (p : Option Addr) (c : Nat) (b2 : List Nat), k ≤ xs.length ∧ i = .int .i64 k ∧ v = .slice p (textList (xs.take k)).length c ∧ OwnL w.heap.size wr 5 (.slice p (textList (xs.take k)).length c) b2 (textList (xs.take k)) ∧ Below w.heap.size w wr) (fun _ i _ => xs.length - (intOf i).toNat)
  case atStart => exact ⟨0, none, 0, [], Nat.zero_le _, rfl, rfl, OwnL.nil _ _ _, Below.refl _ _⟩
  case round =>
    obtain ⟨k, p, c, b2, hk, rfl, rfl, hO, hb⟩ := hrel
    have HO := hid hO; have HB := hid hb; clear hO hb
    have hl := textList_len (xs.take k)
    rw [List.length_take] at hl
    by_cases hlt : k < xs.length
    rotate_left
    · obtain rfl : k = xs.length := by omega
      obtain ⟨b2x, _, hOw⟩ := HO.out.own
      have hcv := hOw.slc.text (P := Tryd.prog) 32 9 5 Tryd.underlying32 Tryd.underlying5 Tryd.underlying9
      rw [List.take_length] at hcv HO
      clear hOw
      go_wp2
      go_ret
      exact ⟨rfl, HB.out⟩
    obtain ⟨b, off, ea, hbw, hck, hok⟩ := (h.grow HB.out).at k hlt
    have hck1 : wr.cell? ⟨b, off + k, none⟩ = some (.int .i64 xs[k]) := hck
    have hok1 : I64 xs[k] := hok
    clear hck hok
    obtain rfl := ea
    have hr4 := runeBytes_len xs[k]
    have E := hid (textList_take xs k hlt)
    go_wp2_with fail
    refine (i_RuneBytes _ hok1 _).mono ?_
    rintro e w1 ⟨v1, b1, rfl, hO1, hb1⟩
    obtain ⟨a1, c1, b1x, rfl, _, hS1⟩ := hO1.slc
    have HO1 := hid (HO.out.grow hb1)
    have HB1 := hid (HB.out.trans (hb1.mono HB.out.size))
    have HS1 := hid hS1
    clear hO1 hb1 hS1
    go_wp2_with (at_builtin; refine wp_append rfl _ _ 32 rfl 5 i0 (.int .u8 0) 1 Tryd.underlying32 hi hz0 hz1 hz2 rfl (lo := w.heap.size) rfl HO1.out (b2 := []) rfl HS1.out.src List.nodup_nil ?q1 ?q2 ?q3 ?q4 ?_)
    case q1 => simp
    case q2 => omega
    case q3 => omega
    case q4 => exact HB1.out.size
    intro p2 c2 w2 b3 hO2 hT hm
    have HB2 := hid (below_tch HB1.out hT HO1.out.lts)
    have HO2 := hid hO2
    clear hO2 hT hm
    go_wp2
    exact ⟨⟨k + 1, p2, c2, b3, by omega, rfl, by rw [E.out, List.length_append], by rw [E.out, List.length_append]; exact HO2.out, HB2.out⟩, by simp [intOf]; omega⟩
theorem s_TextOf {w : World} {bs : List Nat} {a : Option Addr} {len cap : Nat} {xs : List Int} (h : Slc w bs a len cap xs) (hn : xs.length ≤ 16777216) :
    Calls Tryd.prog 28 #[.slice a len cap] w (fun e w' => e = .returned (.string (textOf xs)) ∧ Below w.heap.size w w') := by
  obtain rfl := h.len_eq
  obtain ⟨i0, hi, hz0, hz1, hz2⟩ := info_parts info_byte
  go_enter Tryd.func28, Tryd.ntmps28
  go_wp2_with fail
  go_loopw [3, 9] (fun v i wr => ∃ (k : Nat) (p : Option Addr) (c : Nat) (b2 : List Nat), k ≤ xs.length ∧ i = .int .i64 k ∧ v = .slice p (textList (xs.take k)).length c ∧ OwnL w.heap.size wr 5 (.slice p (textList (xs.take k)).length c) b2 (textList (xs.take k)) ∧ Below w.heap.size w wr) (fun _ i _ => xs.length - (intOf i).toNat)
  case atStart => exact ⟨0, (some ⟨w.heap.size, 0, none⟩), 0, [w.heap.size], Nat.zero_le _, rfl, rfl, ownL_empty rfl (Nat.le_refl _), (Below.refl _ _).alloc (Nat.le_refl _) _⟩
  case round =>
    obtain ⟨k, p, c, b2, hk, rfl, rfl, hO, hb⟩ := hrel
    have HO := hid hO; have HB := hid hb; clear hO hb
    have hl := textList_len (xs.take k)
    rw [List.length_take] at hl
    by_cases hlt : k < xs.length
    rotate_left
    · obtain rfl : k = xs.length := by omega
      obtain ⟨b2x, _, hOw⟩ := HO.out.own
      have hcv := hOw.slc.text (P := Tryd.prog) 32 9 5 Tryd.underlying32 Tryd.underlying5 Tryd.underlying9
      rw [List.take_length] at hcv HO
      clear hOw
      go_wp2
      go_ret
      exact ⟨rfl, HB.out⟩
    obtain ⟨b, off, ea, hbw, hck, hok⟩ := (h.grow HB.out).at k hlt
    have hck1 : wr.cell? ⟨b, off + k, none⟩ = some (.int .i64 xs[k]) := hck
    have hok1 : I64 xs[k] := hok
    clear hck hok
    obtain rfl := ea
    have hr4 := runeBytes_len xs[k]
    have E := hid (textList_take xs k hlt)
    go_wp2_with fail
    refine (s_RuneBytes _ hok1 _).mono ?_
    rintro e w1 ⟨v1, b1, rfl, hO1, hb1⟩
    obtain ⟨a1, c1, b1x, rfl, _, hS1⟩ := hO1.slc
    have HO1 := hid (HO.out.grow hb1)
    have HB1 := hid (HB.out.trans (hb1.mono HB.out.size))
    have HS1 := hid hS1
    clear hO1 hb1 hS1
    go_wp2_with (at_builtin; refine wp_append rfl _ _ 32 rfl 5 i0 (.int .u8 0) 1 Tryd.underlying32 hi hz0 hz1 hz2 rfl (lo := w.heap.size) rfl HO1.out (b2 := []) rfl HS1.out.src List.nodup_nil ?q1 ?q2 ?q3 ?q4 ?_)
    case q1 => simp
    case q2 => omega
    case q3 => omega
    case q4 => exact HB1.out.size
    intro p2 c2 w2 b3 hO2 hT hm
    have HB2 := hid (below_tch HB1.out hT HO1.out.lts)
    have HO2 := hid hO2
    clear hO2 hT hm
    go_wp2
    exact ⟨⟨k + 1, p2, c2, b3, by omega, rfl, by rw [E.out, List.length_append], by rw [E.out, List.length_append]; exact HO2.out, HB2.out⟩, by simp [intOf]; omega⟩
end Go.Proofs.YtgcdgkiefbbhkaaDoor
