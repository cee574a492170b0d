/- Reading back the runes that were written. -/
import Derived.Test.YtgcdgkiefbbhkaaDoorRead
set_option linter.unusedSimpArgs false
set_option linter.unusedVariables false
namespace Go.G6
open Go.RowKit Rep
theorem bI_b8 (v : Int) (l : List UInt8) (h0 : 0 ≤ v) (h1 : v < 256) : bI (b8 v :: l) 0 = v := by show (((b8 v).toNat : Nat) : Int) = v; exact b8_val h0 h1
theorem bI_succ (y : UInt8) (l : List UInt8) (j : Nat) : bI (y :: l) (j + 1) = bI l j := rfl
theorem rd_val {r : Int} (h : runeOk r = true) (rest : List UInt8) : rdVal (runeBytes r).length (runeBytes r ++ rest) = r := by
  have hr : 0 ≤ r ∧ r ≤ 1114111 := by simp [runeOk] at h; omega
  unfold runeBytes
  rw [if_pos h]
  split
  · show rdF _ 0 1 (bI (b8 r :: rest) 0 - 0) = r
    rw [bI_b8 _ _ (by omega) (by omega)]
    show r - 0 = r; omega
  split
  · show (bI (b8 (192 + r / 64) :: b8 (128 + r % 64) :: rest) 0 - 192) * 64 + bI (b8 (128 + r % 64) :: rest) 0 - 128 = r
    rw [bI_b8 _ _ (by omega) (by omega), bI_b8 _ _ (by omega) (by omega)]
    omega
  split
  · show ((bI (b8 (224 + r / 4096) :: b8 (128 + r / 64 % 64) :: b8 (128 + r % 64) :: rest) 0 - 224) * 64 + bI (b8 (128 + r / 64 % 64) :: b8 (128 + r % 64) :: rest) 0 - 128) * 64 + bI (b8 (128 + r % 64) :: rest) 0 - 128 = r
    rw [bI_b8 _ _ (by omega) (by omega), bI_b8 _ _ (by omega) (by omega), bI_b8 _ _ (by omega) (by omega)]
    omega
  · show (((bI (b8 (240 + r / 262144) :: b8 (128 + r / 4096 % 64) :: b8 (128 + r / 64 % 64) :: b8 (128 + r % 64) :: rest) 0 - 240) * 64 + bI (b8 (128 + r / 4096 % 64) :: b8 (128 + r / 64 % 64) :: b8 (128 + r % 64) :: rest) 0 - 128) * 64 + bI (b8 (128 + r / 64 % 64) :: b8 (128 + r % 64) :: rest) 0 - 128) * 64 + bI (b8 (128 + r % 64) :: rest) 0 - 128 = r
    rw [bI_b8 _ _ (by omega) (by omega), bI_b8 _ _ (by omega) (by omega), bI_b8 _ _ (by omega) (by omega), bI_b8 _ _ (by omega) (by omega)]
    omega
theorem runeBytes_pos {r : Int} (h : runeOk r = true) : 1 ≤ (runeBytes r).length := by
  unfold runeBytes; rw [if_pos h]; (repeat' split) <;> simp
theorem rd_enc {r : Int} (h : runeOk r = true) (rest : List UInt8) : rdL (runeBytes r ++ rest) = (runeBytes r).length ∧ rdR (runeBytes r ++ rest) = r := by
  have hp := runeBytes_pos h
  have hl : (runeBytes r).length ≤ (runeBytes r ++ rest).length := by simp
  have hh : rdHit (runeBytes r).length (runeBytes r ++ rest) = true := by unfold rdHit; rw [rd_val h]; simp
  have hn := rd_key hp hl hh
  have ho : rdOk (runeBytes r ++ rest) = true := by unfold rdOk; rw [hn, hh]; simp; omega
  unfold rdL rdR
  rw [if_pos ho, if_pos ho, hn, rd_val h]
  exact ⟨rfl, rfl⟩
end Go.G6
