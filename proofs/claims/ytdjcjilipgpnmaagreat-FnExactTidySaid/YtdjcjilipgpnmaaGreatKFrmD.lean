/- Frames of a log: what is computed. -/
import Derived.Test.YtdjcjilipgpnmaaGreatKText
import Derived.Test.YtdjcjilipgpnmaaGreatProg
import Derived.Laws.BitsAllLaws
import Derived.Laws.BitsLemmas
section
set_option linter.unusedSimpArgs false
set_option linter.unusedVariables false
namespace Go.G6
open Go Go.RowKit Rep
def crcStep (r : Nat) : Nat := if r % 2 = 1 then (r / 2) ^^^ 3988292384 else r / 2
def crcIter : Nat → Nat → Nat
 | 0, r => r
 | n + 1, r => crcStep (crcIter n r)
def crcByte (r : Nat) (x : UInt8) : Nat := crcIter 8 (r ^^^ x.toNat)
def crcL (xs : List UInt8) : Nat := xs.foldl crcByte 4294967295
def crc32 (xs : List UInt8) : Nat := 4294967295 - crcL xs
theorem xor_lt32 {a b : Nat} (ha : a < 4294967296) (hb : b < 4294967296) : a ^^^ b < 4294967296 := Nat.xor_lt_two_pow (n := 32) ha hb
theorem crcStep_lt {r : Nat} (h : r < 4294967296) : crcStep r < 4294967296 := by
 unfold crcStep; split
 ·exact xor_lt32 (by omega) (by omega)
 ·omega
theorem crcIter_lt {r : Nat} (h : r < 4294967296) : ∀ n, crcIter n r < 4294967296
 | 0 => h
 | n + 1 => crcStep_lt (crcIter_lt h n)
theorem u8_lt (x : UInt8) : x.toNat < 256 := x.toNat_lt
theorem crcByte_lt {r : Nat} (h : r < 4294967296) (x : UInt8) : crcByte r x < 4294967296 := crcIter_lt (xor_lt32 h (by have := u8_lt x; omega)) 8
theorem crcL_snoc (xs : List UInt8) (x : UInt8) : crcL (xs ++ [x]) = crcByte (crcL xs) x := by simp [crcL]
theorem crcL_take {xs : List UInt8} {k : Nat} (h : k < xs.length) : crcL (xs.take (k + 1)) = crcByte (crcL (xs.take k)) xs[k] := by
 rw [List.take_succ_eq_append_getElem h, crcL_snoc]
theorem foldl_lt : ∀ (xs : List UInt8) (r : Nat), r < 4294967296 → xs.foldl crcByte r < 4294967296
 | [], _, h => h
 | x :: xs, r, h => foldl_lt xs _ (crcByte_lt h x)
theorem crcL_lt (xs : List UInt8) : crcL xs < 4294967296 := foldl_lt xs _ (by decide)
theorem xor_ones {r : Nat} (h : r < 4294967296) : r ^^^ 4294967295 = 4294967295 - r := by
 have h1 : (BitVec.ofNat 32 r ^^^ BitVec.allOnes 32).toNat = r ^^^ 4294967295 := by
  rw [BitVec.toNat_xor, BitVec.toNat_ofNat, Nat.mod_eq_of_lt (by omega)]; rfl
 rw [← h1, BitVec.xor_allOnes, BitVec.toNat_not, BitVec.toNat_ofNat, Nat.mod_eq_of_lt (by omega)]
theorem ones_xor {r : Nat} (h : r < 4294967296) : 4294967295 ^^^ r = 4294967295 - r := by rw [Nat.xor_comm]; exact xor_ones h
theorem crc32_lt (xs : List UInt8) : crc32 xs < 4294967296 := by unfold crc32; omega
/-- On ints below 2^32. -/
theorem i64_xor_nat (a b : Nat) (ha : a < 4294967296) (hb : b < 4294967296) : bits .xor .i64 (a : Int) (b : Int) = ((a ^^^ b : Nat) : Int) := by
 have hx := xor_lt32 ha hb
 simp only [bits, BitVec.ofInt_natCast, BitVec.toNat_xor, BitVec.toNat_ofNat]
 rw [show IntKind.i64.bits = 64 from rfl, Nat.mod_eq_of_lt (by omega), Nat.mod_eq_of_lt (by omega)]
 exact wrapI (by omega)
end Go.G6
namespace Go.Proofs.YtdjcjilipgpnmaaGreat
open Go.RowKit Go.G6
set_option maxHeartbeats 1600000
set_option maxRecDepth 400000
theorem i_Crc32 {w : World} {bs : List Nat} {a : Option Addr} {len cap : Nat} {xs : List UInt8} (h : Slc w bs a len cap xs) :
  Calls Tryz.prog 65 #[.slice a len cap] w fun e w' => e = .returned (.int .i64 (crc32 xs : Int)) ∧ w = w' := by
 obtain rfl := h.len_eq
 have hm := h.max
 go_enter Tryz.func65, Tryz.ntmps65
 go_wp2_with fail
 go_loop [9, 3] (fun i r => ∃ k q : Nat, k ≤ xs.length ∧ i = .int .i64 (k : Int) ∧ r = .int .u32 (q : Int) ∧ q = crcL (xs.take k)) (fun i _ => xs.length - (intOf i).toNat)
 case atStart => exact ⟨0, 4294967295, Nat.zero_le _, rfl, rfl, rfl⟩
 case round =>
  obtain ⟨k, q, hk, rfl, rfl, hq⟩ := hrel
  have hq9 : q < 4294967296 := by rw [hq]; exact crcL_lt _
  have HQ := hid hq; clear hq
  by_cases hlt : k < xs.length
  ·obtain ⟨b, off, rfl, hbw, hck, _⟩ := h.at k hlt
   obtain ⟨x, hx⟩ : ∃ x, x = xs[k] := ⟨_, rfl⟩
   rw [← hx] at hck
   have hc1 : w.cell? ⟨b, off + k, none⟩ = some (.int .u8 ((x.toNat : Nat) : Int)) := hck
   have hx9 := u8_lt x
   have HX := hid hx
   have hX : bits .xor .u32 (q : Int) ((x.toNat : Nat) : Int) = ((q ^^^ x.toNat : Nat) : Int) := u32_xor_nat q x.toNat hq9 (by omega)
   have hw8 : IntKind.u32.wrap ((x.toNat : Nat) : Int) = ((x.toNat : Nat) : Int) := by rw [IntKind.wrap_u32]; omega
   have hq0 : q ^^^ x.toNat < 4294967296 := xor_lt32 hq9 (by omega)
   have hlti : (k : Int) < (xs.length : Int) := by omega
   obtain ⟨r0, hr0⟩ : ∃ r0, r0 = q ^^^ x.toNat := ⟨_, rfl⟩
   rw [← hr0] at hX hq0
   have HR0 := hid hr0
   clear hck hx hr0 hq9
   go_wp2_with fail
   clear hX hw8
   go_loop [17, 3] (fun i r => ∃ j z : Nat, j ≤ 8 ∧ i = .int .i64 (j : Int) ∧ r = .int .u32 (z : Int) ∧ z = crcIter j r0) (fun i _ => 8 - (intOf i).toNat)
   case atStart => exact ⟨0, r0, Nat.zero_le _, rfl, rfl, rfl⟩
   case round =>
    obtain ⟨j, z, hj, rfl, rfl, hz⟩ := hrel
    have hz9 : z < 4294967296 := by rw [hz]; exact crcIter_lt hq0 j
    have HZ := hid hz; clear hz
    by_cases hj8 : j < 8
    ·have hj8i : (j : Int) < 8 := by omega
     have hA0 := u32_and_nat z 1 hz9 (by decide)
     have hdi : (z : Int) / 2 = ((z / 2 : Nat) : Int) := by omega
     have hz2 : z / 2 < 4294967296 := by omega
     obtain ⟨y, hy⟩ : ∃ y, y = z / 2 := ⟨_, rfl⟩
     rw [← hy] at hdi hz2
     rcases Nat.mod_two_eq_zero_or_one z with h2 | h2
     ·have hA : bits .and .u32 (z : Int) 1 = 0 := by
       have := hA0; rw [Nat.and_one_is_mod, h2] at this; exact this
      have HS := hid (show y = crcIter (j + 1) r0 by rw [hy]; show _ = crcStep _; rw [← HZ.out]; unfold crcStep; rw [if_neg (by omega)])
      clear hA0 h2 hy hz9
      go_wp2
      exact ⟨⟨j + 1, y, by omega, by go_num, rfl, HS.out⟩, by simp [intOf]; omega⟩
     ·have hA : bits .and .u32 (z : Int) 1 = 1 := by
       have := hA0; rw [Nat.and_one_is_mod, h2] at this; exact this
      have hXy : bits .xor .u32 (y : Int) 3988292384 = ((y ^^^ 3988292384 : Nat) : Int) := u32_xor_nat y 3988292384 hz2 (by decide)
      obtain ⟨v, hv⟩ : ∃ v, v = y ^^^ 3988292384 := ⟨_, rfl⟩
      rw [← hv] at hXy
      have HS := hid (show v = crcIter (j + 1) r0 by rw [hv, hy]; show _ = crcStep _; rw [← HZ.out]; unfold crcStep; rw [if_pos h2])
      clear hA0 h2 hy hz9 hv
      go_wp2
      exact ⟨⟨j + 1, v, by omega, by go_num, rfl, HS.out⟩, by simp [intOf]; omega⟩
    ·obtain rfl : j = 8 := by omega
     have HS := hid (show z = crcL (xs.take (k + 1)) by rw [crcL_take hlt, ← HQ.out, ← HX.out, HZ.out, HR0.out]; rfl)
     clear hj8 hj hz9
     go_wp2
     exact ⟨⟨k + 1, z, by omega, by go_num, rfl, HS.out⟩, by simp [intOf]; omega⟩
  ·obtain rfl : k = xs.length := by omega
   have HE := hid (show ((4294967295 - q : Nat) : Int) = (crc32 xs : Int) by rw [HQ.out, List.take_length]; rfl)
   have hqb := hid hq9
   have hN := u32_xor_nat 4294967295 q (by decide) hq9
   rw [ones_xor hq9] at hN
   have HN := hid (show wrap64 (bits .xor .u32 IntKind.u32.max (q : Int)) = (crc32 xs : Int) by
    rw [show IntKind.u32.max = ((4294967295 : Nat) : Int) from rfl, hN, HE.out]
    exact IntWalk.wrap64_in _ (by have := crc32_lt xs; omega))
   clear hN hq9
   go_wp2
   go_ret
   exact ⟨ret_int HN.out, rfl⟩
theorem s_Crc32 {w : World} {bs : List Nat} {a : Option Addr} {len cap : Nat} {xs : List UInt8} (h : Slc w bs a len cap xs) :
  Calls Tryz.prog 53 #[.slice a len cap] w fun e w' => e = .returned (.int .i64 (crc32 xs : Int)) ∧ w = w' := by
 obtain rfl := h.len_eq
 have hm := h.max
 go_enter Tryz.func53, Tryz.ntmps53
 go_wp2_with fail
 go_loop [3, 4] (fun r i => ∃ k q : Nat, k ≤ xs.length ∧ i = .int .i64 (k : Int) ∧ r = .int .i64 (q : Int) ∧ q = crcL (xs.take k)) (fun _ i => xs.length - (intOf i).toNat)
 case atStart => exact ⟨0, 4294967295, Nat.zero_le _, rfl, rfl, rfl⟩
 case round =>
  obtain ⟨k, q, hk, rfl, rfl, hq⟩ := hrel
  have hq9 : q < 4294967296 := by rw [hq]; exact crcL_lt _
  have HQ := hid hq; clear hq
  by_cases hlt : k < xs.length
  ·obtain ⟨b, off, rfl, hbw, hck, _⟩ := h.at k hlt
   obtain ⟨x, hx⟩ : ∃ x, x = xs[k] := ⟨_, rfl⟩
   rw [← hx] at hck
   have hc1 : w.cell? ⟨b, off + k, none⟩ = some (.int .u8 ((x.toNat : Nat) : Int)) := hck
   have hx9 := u8_lt x
   have HX := hid hx
   have hX : bits .xor .i64 (q : Int) ((x.toNat : Nat) : Int) = ((q ^^^ x.toNat : Nat) : Int) := i64_xor_nat q x.toNat hq9 (by omega)
   have hq0 : q ^^^ x.toNat < 4294967296 := xor_lt32 hq9 (by omega)
   have hlti : (k : Int) < (xs.length : Int) := by omega
   obtain ⟨r0, hr0⟩ : ∃ r0, r0 = q ^^^ x.toNat := ⟨_, rfl⟩
   rw [← hr0] at hX hq0
   have HR0 := hid hr0
   clear hck hx hr0 hq9
   go_wp2_with fail
   clear hX
   go_loop [3, 5] (fun r i => ∃ j z : Nat, j ≤ 8 ∧ i = .int .i64 (j : Int) ∧ r = .int .i64 (z : Int) ∧ z = crcIter j r0) (fun _ i => 8 - (intOf i).toNat)
   case atStart => exact ⟨0, r0, Nat.zero_le _, rfl, rfl, rfl⟩
   case round =>
    obtain ⟨j, z, hj, rfl, rfl, hz⟩ := hrel
    have hz9 : z < 4294967296 := by rw [hz]; exact crcIter_lt hq0 j
    have HZ := hid hz; clear hz
    by_cases hj8 : j < 8
    ·have hj8i : (j : Int) < 8 := by omega
     have hdi : (z : Int) / 2 = ((z / 2 : Nat) : Int) := by omega
     have hz2 : z / 2 < 4294967296 := by omega
     obtain ⟨y, hy⟩ : ∃ y, y = z / 2 := ⟨_, rfl⟩
     rw [← hy] at hdi hz2
     rcases Nat.mod_two_eq_zero_or_one z with h2 | h2
     ·have hm2 : (z : Int) % 2 = 0 := by omega
      have HS := hid (show y = crcIter (j + 1) r0 by rw [hy]; show _ = crcStep _; rw [← HZ.out]; unfold crcStep; rw [if_neg (by omega)])
      clear h2 hy hz9
      go_wp2
      exact ⟨⟨j + 1, y, by omega, by go_num, rfl, HS.out⟩, by simp [intOf]; omega⟩
     ·have hm2 : (z : Int) % 2 = 1 := by omega
      have hXy : bits .xor .i64 (y : Int) 3988292384 = ((y ^^^ 3988292384 : Nat) : Int) := i64_xor_nat y 3988292384 hz2 (by decide)
      obtain ⟨v, hv⟩ : ∃ v, v = y ^^^ 3988292384 := ⟨_, rfl⟩
      rw [← hv] at hXy
      have HS := hid (show v = crcIter (j + 1) r0 by rw [hv, hy]; show _ = crcStep _; rw [← HZ.out]; unfold crcStep; rw [if_pos h2])
      clear h2 hy hz9 hv
      go_wp2
      exact ⟨⟨j + 1, v, by omega, by go_num, rfl, HS.out⟩, by simp [intOf]; omega⟩
    ·obtain rfl : j = 8 := by omega
     have HS := hid (show z = crcL (xs.take (k + 1)) by rw [crcL_take hlt, ← HQ.out, ← HX.out, HZ.out, HR0.out]; rfl)
     clear hj8 hj hz9
     go_wp2
     exact ⟨⟨k + 1, z, by omega, by go_num, rfl, HS.out⟩, by simp [intOf]; omega⟩
  ·obtain rfl : k = xs.length := by omega
   have HE := hid (show ((4294967295 - q : Nat) : Int) = (crc32 xs : Int) by rw [HQ.out, List.take_length]; rfl)
   have hN := i64_xor_nat q 4294967295 hq9 (by decide)
   rw [xor_ones hq9, HE.out] at hN
   have hN2 : bits .xor .i64 (q : Int) 4294967295 = (crc32 xs : Int) := hN
   clear hN hq9
   go_wp2
   go_ret
   exact ⟨rfl, rfl⟩
end Go.Proofs.YtdjcjilipgpnmaaGreat
end
section
set_option linter.unusedSimpArgs false
set_option linter.unusedVariables false
namespace Go.G6
open Go Go.RowKit Rep
def numB (n : Nat) : Nat → List UInt8
 | 0 => []
 | s + 1 => UInt8.ofNat (n / 256 ^ s % 256) :: numB n s
theorem numB_len (n : Nat) : ∀ s, (numB n s).length = s
 | 0 => rfl
 | s + 1 => by simp [numB, numB_len n s]
def entryOk (e : EntryD) : Bool := decide (1 ≤ e.Num ∧ e.Num ≤ 1000000000) && decide (1 ≤ e.Text.size ∧ e.Text.size ≤ 1000)
def headB (e : EntryD) : List UInt8 := numB e.Text.size 2 ++ numB e.Num.toNat 4
def sumB (e : EntryD) : Nat := crc32 (headB e ++ e.Text.data.toList)
def frameB (e : EntryD) : List UInt8 := headB e ++ numB (sumB e) 4 ++ e.Text.data.toList
theorem headB_len (e : EntryD) : (headB e).length = 6 := by simp [headB, numB_len]
theorem frameB_len (e : EntryD) : (frameB e).length = 10 + e.Text.size := by
 simp [frameB, headB_len, numB_len]; omega
theorem numB_val {n s : Nat} (hn : n < 4294967296) (hs : s < 4) : ((UInt8.ofNat (n / 256 ^ s % 256)).toNat : Int) = (n : Int) / 2 ^ (8 * s) % 256 := by
 have h1 : (UInt8.ofNat (n / 256 ^ s % 256)).toNat = n / 256 ^ s % 256 := by
  have := u8_ofNat (n / 256 ^ s % 256); omega
 rw [h1]
 obtain rfl | rfl | rfl | rfl : s = 0 ∨ s = 1 ∨ s = 2 ∨ s = 3 := by omega
 all_goals
  first
   | (show ((n / 1 % 256 : Nat) : Int) = (n : Int) / 1 % 256; omega)
   | (show ((n / 256 % 256 : Nat) : Int) = (n : Int) / 256 % 256; omega)
   | (show ((n / 65536 % 256 : Nat) : Int) = (n : Int) / 65536 % 256; omega)
   | (show ((n / 16777216 % 256 : Nat) : Int) = (n : Int) / 16777216 % 256; omega)
def frameL (e : EntryD) : List UInt8 := if entryOk e = true then frameB e else []
/-- What lies in an entry's box stays where only new blocks, or blocks from lo on, have turned. -/
theorem cell2_tch {bs : List Nat} {w w' : World} {b : Nat} {u v : Value} (hT : Tch bs w w') (h : w.cell? ⟨b, 0, none⟩ = some u ∧ w.cell? ⟨b, 1, none⟩ = some v) (hb : b ∉ bs) : w'.cell? ⟨b, 0, none⟩ = some u ∧ w'.cell? ⟨b, 1, none⟩ = some v :=
 ⟨(hT.cell (p := ⟨b, 0, none⟩) (World.block_lt_of_cell? w _ h.1) hb).trans h.1, (hT.cell (p := ⟨b, 1, none⟩) (World.block_lt_of_cell? w _ h.2) hb).trans h.2⟩
end Go.G6
end
