/- Contracts of the laws' helpers on slices of numbers and of strings. -/
import Derived.Test.YtgcdgkiefbbhkaaProg
import Derived.Test.YtgcdgkiefbbhkaaTypes
import Derived.Test.YtgcdgkiefbbhkaaMarkText
import Derived.BigQuiet
import Derived.Deep.RegionHeld3
set_option linter.unusedSimpArgs false
set_option linter.unusedVariables false
namespace Go.Proofs.Ytgcdgkiefbbhkaa
open Go.RowKit Go.G6
set_option maxHeartbeats 400000
set_option maxRecDepth 10000

theorem szIntS {w : World} {b1 : List Nat} {a1 : Option Addr} {len1 cap1 : Nat} {xs : List Int} (left : Int) (h1 : Slc w b1 a1 len1 cap1 xs) (hl : 0 ≤ left) (hl2 : left ≤ 1048576) :
    Calls Try.prog 104 #[.slice a1 len1 cap1, .int .i64 left] w fun e w' => e = .returned (.int .i64 (szr left (Cnt.cnt xs))) ∧ Below w.heap.size w w' := by
  obtain rfl := h1.len_eq
  have hm := h1.max
  have Hc := hid (cnt_ints xs)
  go_enter Try.func104, Try.ntmps104
  by_cases hc : (xs.length : Int) ≤ left
  · go_wp2
    go_ret
    exact ⟨ret_int (by rw [Hc.out, szr_pos hc]), Below.refl _ _⟩
  · go_wp2
    go_ret
    exact ⟨ret_int (by rw [Hc.out, szr_neg (by omega)]), Below.refl _ _⟩

theorem infoIntS : (Try.prog.info? 3).map (fun i => (i.zero, i.size, i.bytes)) = some (some (.int .i64 0), 1, 8) := by kernel_rfl

theorem toIntS {w : World} {bs : List Nat} {a : Option Addr} {len cap : Nat} {xs : List Int} (h : Slc w bs a len cap xs) (hn : xs.length ≤ 1048576) :
    Calls Try.prog 19 #[.slice a len cap] w (RetS w xs) := by
  obtain rfl := h.len_eq
  obtain ⟨i0, hi, hz0, hz1, hz2⟩ := info_parts infoIntS
  go_enter Try.func19, Try.ntmps19
  go_wp2_with (at_make; refine wpList_make_full _ rfl _ _ 54 rfl w.heap.size 3 i0 (.int .i64 0) 1 Try.underlying54 hi hz0 hz1 _ _ _ _ xs.length rfl rfl rfl rfl ?c1 ?c2 ?c3 ?_)
  case c1 => rw [hz2]; omega
  case c2 => unfold maxLen; omega
  case c3 => omega
  intro w1 hown hgr
  have hb0 : Below w.heap.size w w1 := (Below.refl _ _).grown hgr (Nat.le_refl _) (fun k hk => by cases hk)
  go_wp2
  go_loopw [4] (fun i wr => ∃ k : Nat, ∃ cells, k ≤ xs.length ∧ i = .int .i64 k ∧ wr.ownsRow w.heap.size 3 1 (.slice (some ⟨w.heap.size, 0, none⟩) xs.length xs.length) xs.length cells ∧ cells.take k = (xs.take k).map Scal.val ∧ Below w.heap.size w wr) (fun i _ => xs.length - (intOf i).toNat)
  case atStart => exact ⟨0, _, Nat.zero_le _, rfl, hown, by simp, hb0⟩
  case round =>
    obtain ⟨k, cells, hk, rfl, hown1, htk, hb1⟩ := hrel
    have Hown := hid hown1; have Htk := hid htk; have Hb := hid hb1
    clear hown1 htk hown hgr hb0
    by_cases hlt : k < xs.length
    · obtain ⟨b, off, rfl, hbw, hck0, _⟩ := h.at k hlt
      have hck1 : wr.cell? ⟨b, off + k, none⟩ = some (.int .i64 xs[k]) := by rw [hb1.cell (p := ⟨b, off + k, none⟩) hbw]; exact hck0
      have hlen : cells.length = xs.length := by have := Hown.out.1; omega
      have hst : wr.cell? ⟨w.heap.size, k, none⟩ = some (cells[k]'(by omega)) := by rw [Hown.out.cellAt k (by omega)]; exact List.getElem?_eq_getElem _
      have hfr : wr.frozen? ⟨w.heap.size, k, none⟩ = false := Hown.out.frozenAt k
      clear hck0 hb1
      go_wp2
      refine ⟨⟨k + 1, cells.set k (.int .i64 xs[k]), by omega, rfl, (Hown.out.stored k _).1, ?_, Hb.out.setCell (Nat.le_refl _) _⟩, by simp [intOf]; omega⟩
      rw [take_set_succ _ _ _ (by omega), Htk.out, take_map_succ _ _ _ hlt]
      rfl
    · obtain rfl : k = xs.length := by omega
      go_wp2
      go_ret
      have hc : cells = xs.map Scal.val := by have := Htk.out; rwa [List.take_of_length_le (by have := Hown.out.1; omega), List.take_of_length_le (Nat.le_refl _)] at this
      have := Hown.out
      rw [hc] at this
      obtain ⟨bs', hO⟩ := own_scal this h.oks
      exact ⟨_, _, _, bs', rfl, hO, Hb.out⟩
theorem eqIntS {w : World} {b1 b2 : List Nat} {a1 a2 : Option Addr} {len1 len2 cap1 cap2 : Nat} {xs : List Int} (h1 : Slc w b1 a1 len1 cap1 xs) (h2 : Slc w b2 a2 len2 cap2 xs) :
    Calls Try.prog 22 #[.slice a1 len1 cap1, .slice a2 len2 cap2] w fun e w' => e = .returned (.bool true) ∧ Below w.heap.size w w' := by
  obtain rfl := h1.len_eq
  obtain rfl := h2.len_eq
  have hm := h1.max
  go_enter Try.func22, Try.ntmps22
  go_wp2_with fail
  go_loopw [5] (fun i wr => ∃ k : Nat, k ≤ xs.length ∧ i = .int .i64 k ∧ Below w.heap.size w wr) (fun i _ => xs.length - (intOf i).toNat)
  case atStart => exact ⟨0, Nat.zero_le _, rfl, Below.refl _ _⟩
  case round =>
    obtain ⟨k, hk, rfl, hb⟩ := hrel
    have Hb := hid hb
    by_cases hlt : k < xs.length
    · obtain ⟨b, off, rfl, hbw, hck, _⟩ := h1.at k hlt
      obtain ⟨b', off', rfl, hbw', hck', _⟩ := h2.at k hlt
      have hc1 : wr.cell? ⟨b, off + k, none⟩ = some (.int .i64 xs[k]) := by rw [hb.cell (p := ⟨b, off + k, none⟩) hbw]; exact hck
      have hc2 : wr.cell? ⟨b', off' + k, none⟩ = some (.int .i64 xs[k]) := by rw [hb.cell (p := ⟨b', off' + k, none⟩) hbw']; exact hck'
      clear hck hck' hb
      have hlt' : (k : Int) < (xs.length : Int) := by omega
      go_wp2
      go_quiet (fail)
      go_wp2
      exact ⟨⟨k + 1, by omega, rfl, Hb.out.drewN _⟩, by simp [intOf]; omega⟩
    · clear hb
      go_wp2
      go_ret
      exact ⟨rfl, Hb.out⟩
theorem markIntS {lo : Nat} {w : World} {bs : List Nat} {a : Option Addr} {len cap : Nat} {xs : List Int} (h : Own lo w bs [.slice a len cap] xs) (s : Nat) (hs : s + Mk.nE xs ≤ topK) :
    Calls Try.prog 24 #[.slice a len cap, .int .i64 (s : Int)] w (RetM lo w bs [.slice a len cap] (Mk.mkE s xs) (s + Mk.nE xs)) := by
  have hS := pt_slice.1 h.1
  obtain rfl := hS.len_eq
  unfold topK at hs
  have hne : ∀ l : List Int, nL Mk.nE l = l.length := fun l => nL_const _ l fun _ => rfl
  have hs : s + xs.length ≤ 1152921504606846976 := by rw [← hne]; exact hs
  clear hS
  go_enter Try.func24, Try.ntmps24
  go_wp2_with fail
  have Hne := hid hne; clear hne
  go_loopw [1, 5] (fun q i wr => ∃ k : Nat, k ≤ xs.length ∧ i = .int .i64 k ∧ q = .int .i64 ((s + k : Nat) : Int) ∧ Own lo wr bs [.slice a xs.length cap] (mkTo Mk.mkE Mk.nE s k xs) ∧ Tch bs w wr) (fun _ i _ => xs.length - (intOf i).toNat)
  case atStart => exact ⟨0, Nat.zero_le _, rfl, rfl, by rw [mkTo_zero]; exact h, Tch.refl _ _⟩
  case round =>
    obtain ⟨k, hk, rfl, rfl, hO, hT⟩ := hrel
    have HT := hid hT; clear hT
    by_cases hlt : k < xs.length
    · obtain ⟨b, off, rfl, hbb, hck, hfr, hset⟩ := hO.setScal k (by rw [mkTo_length]; exact hlt) (Mk.mkE (s + k) xs[k]) (by show I64 ((s + k : Nat) : Int); unfold I64; omega)
      have hck1 : wr.cell? ⟨b, off + k, none⟩ = some _ := hck
      clear hck hO
      have Hset := hid hset; clear hset
      have Hbb := hid hbb; clear hbb
      go_wp2
      refine ⟨⟨k + 1, by omega, rfl, by simp; omega, ?_, HT.out.setCell Hbb.out _⟩, by simp [intOf]; omega⟩
      have := mkTo_succ Mk.mkE Mk.nE s k xs hlt
      rw [Hne.out, List.length_take, Nat.min_eq_left hk] at this
      rw [← this]
      have e : ((s : Int) + (k : Int)) = ((s + k : Nat) : Int) := by omega
      rw [e]
      exact Hset.out
    · obtain rfl : k = xs.length := by omega
      have HO := hid hO; clear hO
      go_wp2
      go_ret
      refine ⟨?_, ?_, HT.out⟩
      · show _ = Ending.returned (.int .i64 ((s + nL Mk.nE xs : Nat) : Int))
        rw [Hne.out]
        simp
      · have := HO.out
        rwa [mkTo_all] at this
theorem heldIntS {w : World} {bs : List Nat} {a : Option Addr} {len cap : Nat} {xs : List Int} (s : Nat) (h : Slc w bs a len cap (Mk.mkE s xs)) (hs : s + Mk.nE xs ≤ topK) :
    Calls Try.prog 90 #[.slice a len cap, .int .i64 (s : Int)] w fun e w' => e = .returned (.int .i64 ((s + Mk.nE xs : Nat) : Int)) ∧ Below w.heap.size w w' := by
  have hl : len = xs.length := by rw [h.len_eq]; exact mkL_length _ _ _ _
  subst hl
  unfold topK at hs
  have Hne := hid (fun l : List Int => nL_const Mk.nE l fun _ => rfl)
  have hs : s + xs.length ≤ 1152921504606846976 := by rw [← Hne.out]; exact hs
  go_enter Try.func90, Try.ntmps90
  go_wp2_with fail
  go_loopw [1, 5] (fun q i wr => ∃ k : Nat, k ≤ xs.length ∧ i = .int .i64 k ∧ q = .int .i64 ((s + k : Nat) : Int) ∧ Below w.heap.size w wr) (fun _ i _ => xs.length - (intOf i).toNat)
  case atStart => exact ⟨0, Nat.zero_le _, rfl, rfl, Below.refl _ _⟩
  case round =>
    obtain ⟨k, hk, rfl, rfl, hb⟩ := hrel
    have Hb := hid hb
    by_cases hlt : k < xs.length
    · obtain ⟨b, off, rfl, hbw, hck, _⟩ := h.at k (by show k < (mkL _ _ _ _).length; rw [mkL_length]; exact hlt)
      have he := mkL_get Mk.mkE Mk.nE s k xs hlt
      rw [Hne.out, List.length_take, Nat.min_eq_left hk] at he
      have hck1 : wr.cell? ⟨b, off + k, none⟩ = some (Scal.val (Mk.mkE (s + k) xs[k] : Int)) := by
        rw [hb.cell (p := ⟨b, off + k, none⟩) hbw, hck]
        exact congrArg (fun x => some (Scal.val x)) he
      clear hck he hb
      have hck2 : wr.cell? ⟨b, off + k, none⟩ = some (.int .i64 ((s + k : Nat) : Int)) := hck1
      clear hck1
      go_wp2
      exact ⟨⟨k + 1, by omega, rfl, by simp; omega, Hb.out⟩, by simp [intOf]; omega⟩
    · obtain rfl : k = xs.length := by omega
      clear hb
      go_wp2
      go_ret
      refine ⟨?_, Hb.out⟩
      show _ = Ending.returned (.int .i64 ((s + nL Mk.nE xs : Nat) : Int))
      rw [Hne.out]
      simp

theorem szByteS {w : World} {b1 : List Nat} {a1 : Option Addr} {len1 cap1 : Nat} {xs : List UInt8} (left : Int) (h1 : Slc w b1 a1 len1 cap1 xs) (hl : 0 ≤ left) (hl2 : left ≤ 1048576) :
    Calls Try.prog 109 #[.slice a1 len1 cap1, .int .i64 left] w fun e w' => e = .returned (.int .i64 (szr left (Cnt.cnt xs))) ∧ Below w.heap.size w w' := by
  obtain rfl := h1.len_eq
  have hm := h1.max
  have Hc := hid (cnt_bytes xs)
  go_enter Try.func109, Try.ntmps109
  by_cases hc : (xs.length : Int) ≤ left
  · go_wp2
    go_ret
    exact ⟨ret_int (by rw [Hc.out, szr_pos hc]), Below.refl _ _⟩
  · go_wp2
    go_ret
    exact ⟨ret_int (by rw [Hc.out, szr_neg (by omega)]), Below.refl _ _⟩

theorem infoByteS : (Try.prog.info? 5).map (fun i => (i.zero, i.size, i.bytes)) = some (some (.int .u8 0), 1, 1) := by kernel_rfl

theorem toByteS {w : World} {bs : List Nat} {a : Option Addr} {len cap : Nat} {xs : List UInt8} (h : Slc w bs a len cap xs) (hn : xs.length ≤ 1048576) :
    Calls Try.prog 110 #[.slice a len cap] w (RetS w xs) := by
  obtain rfl := h.len_eq
  obtain ⟨i0, hi, hz0, hz1, hz2⟩ := info_parts infoByteS
  go_enter Try.func110, Try.ntmps110
  go_wp2_with (at_make; refine wpList_make_full _ rfl _ _ 68 rfl w.heap.size 5 i0 (.int .u8 0) 1 Try.underlying68 hi hz0 hz1 _ _ _ _ xs.length rfl rfl rfl rfl ?c1 ?c2 ?c3 ?_)
  case c1 => rw [hz2]; omega
  case c2 => unfold maxLen; omega
  case c3 => omega
  intro w1 hown hgr
  have hb0 : Below w.heap.size w w1 := (Below.refl _ _).grown hgr (Nat.le_refl _) (fun k hk => by cases hk)
  go_wp2
  go_loopw [4] (fun i wr => ∃ k : Nat, ∃ cells, k ≤ xs.length ∧ i = .int .i64 k ∧ wr.ownsRow w.heap.size 5 1 (.slice (some ⟨w.heap.size, 0, none⟩) xs.length xs.length) xs.length cells ∧ cells.take k = (xs.take k).map Scal.val ∧ Below w.heap.size w wr) (fun i _ => xs.length - (intOf i).toNat)
  case atStart => exact ⟨0, _, Nat.zero_le _, rfl, hown, by simp, hb0⟩
  case round =>
    obtain ⟨k, cells, hk, rfl, hown1, htk, hb1⟩ := hrel
    have Hown := hid hown1; have Htk := hid htk; have Hb := hid hb1
    clear hown1 htk hown hgr hb0
    by_cases hlt : k < xs.length
    · obtain ⟨b, off, rfl, hbw, hck0, _⟩ := h.at k hlt
      have hck1 : wr.cell? ⟨b, off + k, none⟩ = some (.int .u8 (xs[k].toNat : Int)) := by rw [hb1.cell (p := ⟨b, off + k, none⟩) hbw]; exact hck0
      have hlen : cells.length = xs.length := by have := Hown.out.1; omega
      have hst : wr.cell? ⟨w.heap.size, k, none⟩ = some (cells[k]'(by omega)) := by rw [Hown.out.cellAt k (by omega)]; exact List.getElem?_eq_getElem _
      have hfr : wr.frozen? ⟨w.heap.size, k, none⟩ = false := Hown.out.frozenAt k
      clear hck0 hb1
      go_wp2
      refine ⟨⟨k + 1, cells.set k (.int .u8 (xs[k].toNat : Int)), by omega, rfl, (Hown.out.stored k _).1, ?_, Hb.out.setCell (Nat.le_refl _) _⟩, by simp [intOf]; omega⟩
      rw [take_set_succ _ _ _ (by omega), Htk.out, take_map_succ _ _ _ hlt]
      rfl
    · obtain rfl : k = xs.length := by omega
      go_wp2
      go_ret
      have hc : cells = xs.map Scal.val := by have := Htk.out; rwa [List.take_of_length_le (by have := Hown.out.1; omega), List.take_of_length_le (Nat.le_refl _)] at this
      have := Hown.out
      rw [hc] at this
      obtain ⟨bs', hO⟩ := own_scal this h.oks
      exact ⟨_, _, _, bs', rfl, hO, Hb.out⟩
theorem eqByteS {w : World} {b1 b2 : List Nat} {a1 a2 : Option Addr} {len1 len2 cap1 cap2 : Nat} {xs : List UInt8} (h1 : Slc w b1 a1 len1 cap1 xs) (h2 : Slc w b2 a2 len2 cap2 xs) :
    Calls Try.prog 111 #[.slice a1 len1 cap1, .slice a2 len2 cap2] w fun e w' => e = .returned (.bool true) ∧ Below w.heap.size w w' := by
  obtain rfl := h1.len_eq
  obtain rfl := h2.len_eq
  have hm := h1.max
  go_enter Try.func111, Try.ntmps111
  go_wp2_with fail
  go_loopw [5] (fun i wr => ∃ k : Nat, k ≤ xs.length ∧ i = .int .i64 k ∧ Below w.heap.size w wr) (fun i _ => xs.length - (intOf i).toNat)
  case atStart => exact ⟨0, Nat.zero_le _, rfl, Below.refl _ _⟩
  case round =>
    obtain ⟨k, hk, rfl, hb⟩ := hrel
    have Hb := hid hb
    by_cases hlt : k < xs.length
    · obtain ⟨b, off, rfl, hbw, hck, _⟩ := h1.at k hlt
      obtain ⟨b', off', rfl, hbw', hck', _⟩ := h2.at k hlt
      have hc1 : wr.cell? ⟨b, off + k, none⟩ = some (.int .u8 (xs[k].toNat : Int)) := by rw [hb.cell (p := ⟨b, off + k, none⟩) hbw]; exact hck
      have hc2 : wr.cell? ⟨b', off' + k, none⟩ = some (.int .u8 (xs[k].toNat : Int)) := by rw [hb.cell (p := ⟨b', off' + k, none⟩) hbw']; exact hck'
      clear hck hck' hb
      have hlt' : (k : Int) < (xs.length : Int) := by omega
      go_wp2
      go_quiet (fail)
      go_wp2
      exact ⟨⟨k + 1, by omega, rfl, Hb.out.drewN _⟩, by simp [intOf]; omega⟩
    · clear hb
      go_wp2
      go_ret
      exact ⟨rfl, Hb.out⟩
theorem markByteS {lo : Nat} {w : World} {bs : List Nat} {a : Option Addr} {len cap : Nat} {xs : List UInt8} (h : Own lo w bs [.slice a len cap] xs) (s : Nat) (hs : s + Mk.nE xs ≤ topK) :
    Calls Try.prog 102 #[.slice a len cap, .int .i64 (s : Int)] w (RetM lo w bs [.slice a len cap] (Mk.mkE s xs) (s + Mk.nE xs)) := by
  have hS := pt_slice.1 h.1
  obtain rfl := hS.len_eq
  unfold topK at hs
  have hne : ∀ l : List UInt8, nL Mk.nE l = l.length := fun l => nL_const _ l fun _ => rfl
  have hs : s + xs.length ≤ 1152921504606846976 := by rw [← hne]; exact hs
  clear hS
  go_enter Try.func102, Try.ntmps102
  go_wp2_with fail
  have Hne := hid hne; clear hne
  go_loopw [1, 5] (fun q i wr => ∃ k : Nat, k ≤ xs.length ∧ i = .int .i64 k ∧ q = .int .i64 ((s + k : Nat) : Int) ∧ Own lo wr bs [.slice a xs.length cap] (mkTo Mk.mkE Mk.nE s k xs) ∧ Tch bs w wr) (fun _ i _ => xs.length - (intOf i).toNat)
  case atStart => exact ⟨0, Nat.zero_le _, rfl, rfl, by rw [mkTo_zero]; exact h, Tch.refl _ _⟩
  case round =>
    obtain ⟨k, hk, rfl, rfl, hO, hT⟩ := hrel
    have HT := hid hT; clear hT
    by_cases hlt : k < xs.length
    · obtain ⟨b, off, rfl, hbb, hck, hfr, hset⟩ := hO.setScal k (by rw [mkTo_length]; exact hlt) (Mk.mkE (s + k) xs[k]) trivial
      have hck1 : wr.cell? ⟨b, off + k, none⟩ = some _ := hck
      clear hck hO
      have Hset := hid hset; clear hset
      have Hbb := hid hbb; clear hbb
      have Hu := hid (u8_ofNat (s + k))
      go_wp2
      refine ⟨⟨k + 1, by omega, rfl, by simp; omega, ?_, HT.out.setCell Hbb.out _⟩, by simp [intOf]; omega⟩
      have := mkTo_succ Mk.mkE Mk.nE s k xs hlt
      rw [Hne.out, List.length_take, Nat.min_eq_left hk] at this
      rw [← this]
      have e := Hu.out
      rw [show (((s + k : Nat) : Int)) = (s : Int) + k by omega] at e
      rw [← e]
      exact Hset.out
    · obtain rfl : k = xs.length := by omega
      have HO := hid hO; clear hO
      go_wp2
      go_ret
      refine ⟨?_, ?_, HT.out⟩
      · show _ = Ending.returned (.int .i64 ((s + nL Mk.nE xs : Nat) : Int))
        rw [Hne.out]
        simp
      · have := HO.out
        rwa [mkTo_all] at this
theorem heldByteS {w : World} {bs : List Nat} {a : Option Addr} {len cap : Nat} {xs : List UInt8} (s : Nat) (h : Slc w bs a len cap (Mk.mkE s xs)) (hs : s + Mk.nE xs ≤ topK) :
    Calls Try.prog 103 #[.slice a len cap, .int .i64 (s : Int)] w fun e w' => e = .returned (.int .i64 ((s + Mk.nE xs : Nat) : Int)) ∧ Below w.heap.size w w' := by
  have hl : len = xs.length := by rw [h.len_eq]; exact mkL_length _ _ _ _
  subst hl
  unfold topK at hs
  have Hne := hid (fun l : List UInt8 => nL_const Mk.nE l fun _ => rfl)
  have hs : s + xs.length ≤ 1152921504606846976 := by rw [← Hne.out]; exact hs
  go_enter Try.func103, Try.ntmps103
  go_wp2_with fail
  go_loopw [1, 5] (fun q i wr => ∃ k : Nat, k ≤ xs.length ∧ i = .int .i64 k ∧ q = .int .i64 ((s + k : Nat) : Int) ∧ Below w.heap.size w wr) (fun _ i _ => xs.length - (intOf i).toNat)
  case atStart => exact ⟨0, Nat.zero_le _, rfl, rfl, Below.refl _ _⟩
  case round =>
    obtain ⟨k, hk, rfl, rfl, hb⟩ := hrel
    have Hb := hid hb
    by_cases hlt : k < xs.length
    · obtain ⟨b, off, rfl, hbw, hck, _⟩ := h.at k (by show k < (mkL _ _ _ _).length; rw [mkL_length]; exact hlt)
      have he := mkL_get Mk.mkE Mk.nE s k xs hlt
      rw [Hne.out, List.length_take, Nat.min_eq_left hk] at he
      have hck1 : wr.cell? ⟨b, off + k, none⟩ = some (Scal.val (Mk.mkE (s + k) xs[k] : UInt8)) := by
        rw [hb.cell (p := ⟨b, off + k, none⟩) hbw, hck]
        exact congrArg (fun x => some (Scal.val x)) he
      clear hck he hb
      have hck2 : wr.cell? ⟨b, off + k, none⟩ = some (.int .u8 (((s : Int) + k) % 256)) := by rw [hck1]; exact congrArg (fun x => some (Value.int .u8 x)) ((u8_ofNat (s + k)).trans (by omega))
      clear hck1
      go_wp2
      exact ⟨⟨k + 1, by omega, rfl, by simp; omega, Hb.out⟩, by simp [intOf]; omega⟩
    · obtain rfl : k = xs.length := by omega
      clear hb
      go_wp2
      go_ret
      refine ⟨?_, Hb.out⟩
      show _ = Ending.returned (.int .i64 ((s + nL Mk.nE xs : Nat) : Int))
      rw [Hne.out]
      simp


end Go.Proofs.Ytgcdgkiefbbhkaa
