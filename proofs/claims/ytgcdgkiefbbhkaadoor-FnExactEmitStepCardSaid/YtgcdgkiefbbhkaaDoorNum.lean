/- Numbers as text. -/
import Derived.Test.YtgcdgkiefbbhkaaDoorRune
import Derived.Test.YtgcdgkiefbbhkaaDoorWords
import Derived.Test.YtgcdgkiefbbhkaaDoorText
import Derived.Test.YtgcdgkiefbbhkaaDoorLate
import Derived.Test.YtgcdgkiefbbhkaaDoorCopy
import Derived.Deep.DeepCutAuto
import Derived.Shelf.LaysM
import Derived.Shelf.Strconv.Itoa3
import Derived.Lib.AppendIntMem
import Derived.Lib.ItoaLen
set_option linter.unusedSimpArgs false
set_option linter.unusedVariables false
namespace Go.G6
open Go Go.RowKit
def numText (n : Int) : ByteArray := if inB n 0 4294967295 = true then ⟨(Lib.itoa n).toArray⟩ else ByteArray.empty
theorem numText_nat {k : Nat} (h : k ≤ 4294967295) : numText k = ⟨(Lib.decDigits k).toArray⟩ := by
  unfold numText
  rw [if_pos (by unfold inB; simp; omega), Lib.itoa_nonneg]
theorem tab_below {P : Program} {w W : World} {name : String} {k : IntKind} {zs : List Int} (h : Lib.TabIs P w name k zs) (hb : Below w.heap.size w W) : Lib.TabIs P W name k zs := Lib.tabBelow_of_tabIs h W hb
end Go.G6
namespace Go.Proofs.YtgcdgkiefbbhkaaDoor
open Go.Shelf
def laysI_ren : Go.Shelf.Ren := ⟨fun | 171 => 54 | 243 => 63 | 246 => 70 | 283 => 76 | 284 => 77 | 285 => 78 | 286 => 79 | 129 => 83 | 317 => 82 | 318 => 84 | 319 => 85 | 320 => 86 | 337 => 87 | 338 => 88 | n => n, fun | 3 => 3 | 9 => 9 | 2 => 2 | 4 => 4 | 171 => 83 | 0 => 0 | 53 => 84 | 37 => 32 | 5 => 5 | 173 => 87 | 212 => 97 | 51 => 93 | 20 => 20 | 213 => 98 | 46 => 82 | 232 => 101 | 233 => 102 | n => n, fun | 17 => 3 | 18 => 4 | 19 => 5 | n => n⟩
theorem laysI : Go.Proofs.LaysM.n171 Tryd.prog laysI_ren := {
  mixed := by kernel_rfl
  f129 := Tryd.func83.trans (congrArg some (by kernel_rfl))
  f171 := Tryd.func54.trans (congrArg some (by kernel_rfl))
  f243 := Tryd.func63.trans (congrArg some (by kernel_rfl))
  f246 := Tryd.func70.trans (congrArg some (by kernel_rfl))
  f283 := Tryd.func76.trans (congrArg some (by kernel_rfl))
  f284 := Tryd.func77.trans (congrArg some (by kernel_rfl))
  f285 := Tryd.func78.trans (congrArg some (by kernel_rfl))
  f286 := Tryd.func79.trans (congrArg some (by kernel_rfl))
  f317 := Tryd.func82.trans (congrArg some (by kernel_rfl))
  f318 := Tryd.func84.trans (congrArg some (by kernel_rfl))
  f319 := Tryd.func85.trans (congrArg some (by kernel_rfl))
  f320 := Tryd.func86.trans (congrArg some (by kernel_rfl))
  f337 := Tryd.func87.trans (congrArg some (by kernel_rfl))
  f338 := Tryd.func88.trans (congrArg some (by kernel_rfl))
  t0 := Tryd.underlying0
  a0 := Tryd.isAgg0
  z0 := Tryd.sizeOf0
  v0 := Tryd.zeroValue0
  t2 := Tryd.underlying2
  a2 := Tryd.isAgg2
  z2 := Tryd.sizeOf2
  v2 := Tryd.zeroValue2
  t3 := Tryd.underlying3
  a3 := Tryd.isAgg3
  z3 := Tryd.sizeOf3
  v3 := Tryd.zeroValue3
  t4 := Tryd.underlying4
  a4 := Tryd.isAgg4
  z4 := Tryd.sizeOf4
  v4 := Tryd.zeroValue4
  t5 := Tryd.underlying5
  a5 := Tryd.isAgg5
  z5 := Tryd.sizeOf5
  v5 := Tryd.zeroValue5
  t9 := Tryd.underlying9
  a9 := Tryd.isAgg9
  z9 := Tryd.sizeOf9
  v9 := Tryd.zeroValue9
  t20 := Tryd.underlying20
  a20 := Tryd.isAgg20
  z20 := Tryd.sizeOf20
  v20 := Tryd.zeroValue20
  t37 := Tryd.underlying32
  a37 := Tryd.isAgg32
  z37 := Tryd.sizeOf32
  v37 := Tryd.zeroValue32
  t46 := Tryd.underlying82
  a46 := Tryd.isAgg82
  z46 := Tryd.sizeOf82
  v46 := Tryd.zeroValue82
  t51 := Tryd.underlying93
  a51 := Tryd.isAgg93
  z51 := Tryd.sizeOf93
  v51 := Tryd.zeroValue93
  t53 := Tryd.underlying84
  a53 := Tryd.isAgg84
  z53 := Tryd.sizeOf84
  v53 := Tryd.zeroValue84
  t171 := Tryd.underlying83
  a171 := Tryd.isAgg83
  z171 := Tryd.sizeOf83
  v171 := Tryd.zeroValue83
  t173 := Tryd.underlying87
  a173 := Tryd.isAgg87
  z173 := Tryd.sizeOf87
  v173 := Tryd.zeroValue87
  t212 := Tryd.underlying97
  a212 := Tryd.isAgg97
  z212 := Tryd.sizeOf97
  v212 := Tryd.zeroValue97
  t213 := Tryd.underlying98
  a213 := Tryd.isAgg98
  z213 := Tryd.sizeOf98
  t232 := Tryd.underlying101
  a232 := Tryd.isAgg101
  z232 := Tryd.sizeOf101
  v232 := Tryd.zeroValue101
  t233 := Tryd.underlying102
  a233 := Tryd.isAgg102
  z233 := Tryd.sizeOf102
  v233 := Tryd.zeroValue102
  g17 := by kernel_rfl
  g18 := by kernel_rfl
  g19 := by kernel_rfl
  i0 := by kernel_rfl
  i2 := by kernel_rfl
  i3 := by kernel_rfl
  i4 := by kernel_rfl
  i5 := by kernel_rfl
  i9 := by kernel_rfl
  i20 := by kernel_rfl
  i37 := by kernel_rfl
  i46 := by kernel_rfl
  i51 := by kernel_rfl
  i53 := by kernel_rfl
  i171 := by kernel_rfl
  i173 := by kernel_rfl
  i212 := by kernel_rfl
  i232 := by kernel_rfl
  i233 := by kernel_rfl
  m17 := by kernel_rfl
  m18 := by kernel_rfl
  m19 := by kernel_rfl }
open Go.RowKit Go.G6
set_option maxHeartbeats 3000000
set_option maxRecDepth 10000
theorem c_Itoa (n : Int) (hn : I64 n) (w : World) (ht : Lib.TabIs Tryd.prog w "internal/strconv.uint64pow10" .u64 Lib.pow10Tab) :
    Calls Tryd.prog 54 #[.int .i64 n] w fun e w' => e = .returned (.string ⟨(Lib.itoa n).toArray⟩) ∧ Below w.heap.size w w' :=
  (Any.strconv_Itoa laysI n hn.1 hn.2 w ht).mono fun _ _ h => ⟨h.1, by obtain ⟨k, os, rfl⟩ := h.2; exact Lib.below_grow _ w (Nat.le_refl _) k os⟩
theorem i_isNumber (n : Int) (w : World) : Calls Tryd.prog 53 #[.int .i64 n] w fun e w' => e = .returned (.bool (inB n 0 4294967295)) ∧ w = w' := by
  go_enter Tryd.func53, Tryd.ntmps53
  go_wp2_with (go_at_call 33; refine (i_in _ _ _ _).mono ?_; rintro e w' ⟨rfl, rfl⟩)
  go_ret
  exact ⟨rfl, rfl⟩
theorem s_l01Num (n : Int) (w : World) : Calls Tryd.prog 52 #[.int .i64 n] w fun e w' => e = .returned (.bool (inB n 0 4294967295)) ∧ w = w' := by
  go_enter Tryd.func52, Tryd.ntmps52
  go_wp2
  all_goals (go_ret; exact ⟨ret_bool (by unfold inB; rw [Bool.eq_iff_iff]; simp; try omega), rfl⟩)
theorem i_NumText (n : Int) (hn : I64 n) (w : World) (ht : Lib.TabIs Tryd.prog w "internal/strconv.uint64pow10" .u64 Lib.pow10Tab) :
    Calls Tryd.prog 35 #[.int .i64 n] w fun e w' => e = .returned (.string (numText n)) ∧ Below w.heap.size w w' := by
  have HT := hid ht; clear ht
  cases hk : inB n 0 4294967295
  · have HZ := hid (show numText n = ByteArray.empty by unfold numText; rw [hk]; rfl)
    have HK := hid hk; clear hk
    go_enter Tryd.func35, Tryd.ntmps35
    go_wp2_with fail
    refine (i_isNumber n w).mono ?_
    rintro e w1 ⟨rfl, rfl⟩
    rw [HK.out]
    go_wp2
    go_ret
    exact ⟨by rw [HZ.out]; rfl, Below.refl _ _⟩
  · have HZ := hid (show numText n = ⟨(Lib.itoa n).toArray⟩ by unfold numText; rw [hk]; rfl)
    have HK := hid hk; clear hk
    go_enter Tryd.func35, Tryd.ntmps35
    go_wp2_with fail
    refine (i_isNumber n w).mono ?_
    rintro e w1 ⟨rfl, rfl⟩
    rw [HK.out]
    go_wp2_with fail
    refine (c_Itoa n hn w HT.out).mono ?_
    rintro e w1 ⟨rfl, hb⟩
    have HB := hid hb; clear hb
    rw [← HZ.out]
    go_wp2
    go_ret
    exact ⟨rfl, HB.out⟩
theorem s_NumTextN (k : Nat) : k ≤ 4294967295 → ∀ w : World, Calls Tryd.prog 32 #[.int .i64 (k : Int)] w fun e w' => e = .returned (.string ⟨(Lib.decDigits k).toArray⟩) ∧ Below w.heap.size w w' := by
  induction k using Nat.strongRecOn with
  | _ k ih =>
  intro hk w
  have HK := hid (show inB (k : Int) 0 4294967295 = true by unfold inB; simp; omega)
  have hcv : ∀ (W : World) (b : Nat) (c : UInt8) (d : Int), (c.toNat : Int) = d → W.cell? ⟨b, 0, none⟩ = some (.int .u8 d) → (convert 32 9 (.slice (some ⟨b, 0, none⟩) 1 1)).run Tryd.prog W = .ok (.string ⟨#[c]⟩) W := by
    intro W b c d hd hc
    exact run_convert_bytes_back (P := Tryd.prog) W 32 9 5 ⟨b, 0, none⟩ 1 [c] Tryd.underlying32 Tryd.underlying5 Tryd.underlying9 (fun i hi => by
      match i, hi with
      | 0, _ => rw [add_none]; simpa [hd] using hc)
  by_cases h10 : k < 10
  · obtain ⟨c, hc0⟩ : ∃ c : UInt8, c = UInt8.ofNat (48 + k) := ⟨_, rfl⟩
    have HD := hid (show Lib.decDigits k = [c] by rw [hc0]; exact Lib.decDigits_one h10)
    have hcn : (c.toNat : Int) = 48 + (k : Int) := by rw [hc0, u8_ofNat]; omega
    have hc := hcv (w.alloc (.cells #[.int .u8 (48 + (k : Int))] 5)) w.heap.size c _ hcn (World.cell?_alloc_new _ _ _ 0)
    have hlt : (k : Int) < 10 := by omega
    clear hcv ih hc0 hcn
    go_enter Tryd.func32, Tryd.ntmps32
    go_wp2_with fail
    refine (s_l01Num k w).mono ?_
    rintro e w1 ⟨rfl, rfl⟩
    rw [HK.out]
    go_wp2
    go_ret
    exact ⟨by rw [HD.out]; rfl, (Below.refl _ _).alloc (Nat.le_refl _) _⟩
  · obtain ⟨c, hc0⟩ : ∃ c : UInt8, c = UInt8.ofNat (48 + k % 10) := ⟨_, rfl⟩
    have HD := hid (show Lib.decDigits k = Lib.decDigits (k / 10) ++ [c] by rw [hc0]; conv => lhs; rw [Lib.decDigits, dif_neg h10])
    have hcn : (c.toNat : Int) = 48 + (k : Int) % 10 := by rw [hc0, u8_ofNat]; omega
    have hge : ¬ (k : Int) < 10 := by omega
    have hlen : ¬ 9223372036854775807 < (Lib.decDigits (k / 10)).length + 1 := by
      have h1 := Lib.itoa_length_le ((k / 10 : Nat) : Int) (by omega) (by omega)
      rw [Lib.itoa_nonneg] at h1
      omega
    have hw0 : IntKind.i64.wrap ((k : Int) / 10) = (k : Int) / 10 := wrapI (by omega)
    have ht0 : (k : Int).tmod 10 = (k : Int) % 10 := Int.tmod_eq_emod_of_nonneg (by omega)
    have hw1 : IntKind.i64.wrap (48 + (k : Int) % 10) = 48 + (k : Int) % 10 := wrapI (by omega)
    have hw2 : IntKind.u8.wrap (48 + (k : Int) % 10) = 48 + (k : Int) % 10 := by rw [show IntKind.u8.wrap (48 + (k : Int) % 10) = (48 + (k : Int) % 10) % 256 by rfl]; omega
    have hq : (((k / 10 : Nat)) : Int) = (k : Int) / 10 := by omega
    have IH := hid (fun W : World => by have := ih (k / 10) (by omega) (by omega) W; rw [hq] at this; exact this)
    have HCV := hid (fun (W : World) (b : Nat) => hcv W b c _ hcn)
    clear ih hcv hc0 hcn hq
    go_enter Tryd.func32, Tryd.ntmps32
    go_wp2_with fail
    refine (s_l01Num k w).mono ?_
    rintro e w1 ⟨rfl, rfl⟩
    rw [HK.out]
    go_upto_region 5 with fail
    refine late_start (fun _ => True) 99 (by kernel_rfl) ?_ (fun hS => ?_)
    · trivial
    refine late_take (i := 0) (v := ?_) rfl (by kernel_rfl) (fun _ _ _ h => h) (by rfl) ?_ (by assumption) ?_
    rotate_left
    · (intro w9 hS9; (try dsimp only at hS9); (try go_split_ands); go_simp <;> with_reducible rfl)
    try simp only [Act.put, List.setIfInBounds_toArray, List.set_cons_zero, List.set_cons_succ]
    refine late_take (i := 1) (v := ?_) rfl (by kernel_rfl) (fun _ _ _ h => h) (by rfl) ?_ (by assumption) ?_
    rotate_left
    · (intro w9 hS9; (try dsimp only at hS9); (try go_split_ands); go_simp <;> with_reducible rfl)
    try simp only [Act.put, List.setIfInBounds_toArray, List.set_cons_zero, List.set_cons_succ]
    refine late_take (i := 3) (v := ?_) rfl (by kernel_rfl) (fun _ _ _ h => h) (by rfl) ?_ (by assumption) ?_
    rotate_left
    · (intro w9 hS9; (try dsimp only at hS9); (try go_split_ands); go_simp <;> with_reducible rfl)
    try simp only [Act.put, List.setIfInBounds_toArray, List.set_cons_zero, List.set_cons_succ]
    refine late_take (i := 4) (v := ?_) rfl (by kernel_rfl) (fun _ _ _ h => h) (by rfl) ?_ (by assumption) ?_
    rotate_left
    · (intro w9 hS9; (try dsimp only at hS9); (try go_split_ands); go_simp <;> with_reducible rfl)
    try simp only [Act.put, List.setIfInBounds_toArray, List.set_cons_zero, List.set_cons_succ]
    refine late_take (i := 5) (v := ?_) rfl (by kernel_rfl) (fun _ _ _ h => h) (by rfl) ?_ (by assumption) ?_
    rotate_left
    · (intro w9 hS9; (try dsimp only at hS9); (try go_split_ands); go_simp <;> with_reducible rfl)
    try simp only [Act.put, List.setIfInBounds_toArray, List.set_cons_zero, List.set_cons_succ]
    refine late_take (i := 6) (v := ?_) rfl (by kernel_rfl) (fun _ _ _ h => h) (by rfl) ?_ (by assumption) ?_
    rotate_left
    · (intro w9 hS9; (try dsimp only at hS9); (try go_split_ands); go_simp <;> with_reducible rfl)
    try simp only [Act.put, List.setIfInBounds_toArray, List.set_cons_zero, List.set_cons_succ]
    refine late_two (i := 2) (j := 7) rfl rfl (by kernel_rfl) (fun K9 hK9 => ?_) (fun K9 hK9 => ?_)
    · go_simp
      refine (IH.out _).mono ?_
      rintro e w1 ⟨rfl, hb⟩
      have HB := hid (((Below.refl w.heap.size w).drew).trans hb)
      refine hK9.out _ _ (fun _ => ?_) (fun hS9 => ?_)
      · (try dsimp only); (try trivial)
      replace hS := hS9 (by decide)
      clear hK9 K9 hS9
      try simp only [Act.put, List.setIfInBounds_toArray, List.set_cons_zero, List.set_cons_succ]
      clear hb
      refine late_one (i := 7) rfl (by kernel_rfl) (fun K9 hK9 => ?_)
      go_simp
      refine hK9.out _ _ (fun _ => ?_) (fun hS9 => ?_)
      · (try dsimp only); (try trivial)
      replace hS := hS9 (by decide)
      clear hK9 K9 hS9
      try simp only [Act.put, List.setIfInBounds_toArray, List.set_cons_zero, List.set_cons_succ]
      have hc := HCV.out (w1.alloc (.cells #[.int .u8 (48 + (k : Int) % 10)] 5)) w1.heap.size (World.cell?_alloc_new _ _ _ 0)
      have HB1 := hid (HB.out.alloc HB.out.size (.cells #[.int .u8 (48 + (k : Int) % 10)] 5))
      refine late_one (i := 8) rfl (by kernel_rfl) (fun K9 hK9 => ?_)
      go_simp
      refine hK9.out _ _ (fun _ => ?_) (fun hS9 => ?_)
      · (try dsimp only); (try trivial)
      replace hS := hS9 (by decide)
      clear hK9 K9 hS9
      try simp only [Act.put, List.setIfInBounds_toArray, List.set_cons_zero, List.set_cons_succ]
      clear hc
      refine late_one (i := 9) rfl (by kernel_rfl) (fun K9 hK9 => ?_)
      go_simp
      refine hK9.out _ _ (fun _ => ?_) (fun hS9 => ?_)
      · (try dsimp only); (try trivial)
      replace hS := hS9 (by decide)
      clear hK9 K9 hS9
      try simp only [Act.put, List.setIfInBounds_toArray, List.set_cons_zero, List.set_cons_succ]
      refine late_one (i := 10) rfl (by kernel_rfl) (fun K9 hK9 => ?_)
      go_simp
      refine hK9.out _ _ (fun _ => ?_) (fun hS9 => ?_)
      · (try dsimp only); (try trivial)
      replace hS := hS9 (by decide)
      clear hK9 K9 hS9
      try simp only [Act.put, List.setIfInBounds_toArray, List.set_cons_zero, List.set_cons_succ]
      refine late_done (by kernel_rfl) ?_ _
      go_wp2
      go_ret
      exact ⟨by rw [HD.out]; simp [ByteArray.append_eq, ByteArray.ext_iff], HB1.out⟩
    · go_simp
      have HA := hid ((((Below.refl w.heap.size w).drew).alloc (Nat.le_refl _) (.cells #[.int .u8 (48 + (k : Int) % 10)] 5)))
      have hcell : (w.drew.alloc (.cells #[.int .u8 (48 + (k : Int) % 10)] 5)).cell? ⟨w.heap.size, 0, none⟩ = some (.int .u8 (48 + (k : Int) % 10)) := World.cell?_alloc_new _ _ _ 0
      refine hK9.out _ _ (fun _ => ?_) (fun hS9 => ?_)
      · (try dsimp only); (try trivial)
      replace hS := hS9 (by decide)
      clear hK9 K9 hS9
      try simp only [Act.put, List.setIfInBounds_toArray, List.set_cons_zero, List.set_cons_succ]
      refine late_genw (fun U hU => ?_)
      have HA1 := hid (show Below w.heap.size w U by rw [hU]; first | exact HA.out | simpa using HA.out)
      have HC1 := hid (show U.cell? ⟨w.heap.size, 0, none⟩ = some (.int .u8 (48 + (k : Int) % 10)) by rw [hU]; first | exact hcell | simpa using hcell)
      clear hU hcell HA
      refine late_two (i := 2) (j := 8) rfl rfl (by kernel_rfl) (fun K9 hK9 => ?_) (fun K9 hK9 => ?_)
      · go_simp
        refine (IH.out _).mono ?_
        rintro e w1 ⟨rfl, hb⟩
        have HB1 := hid (HA1.out.trans (hb.mono HA1.out.size))
        have hc := HCV.out w1 w.heap.size ((hb.cell (World.block_lt_of_cell? U _ HC1.out)).trans HC1.out)
        refine hK9.out _ _ (fun _ => ?_) (fun hS9 => ?_)
        · (try dsimp only); (try trivial)
        replace hS := hS9 (by decide)
        clear hK9 K9 hS9
        try simp only [Act.put, List.setIfInBounds_toArray, List.set_cons_zero, List.set_cons_succ]
        clear hb
        refine late_one (i := 8) rfl (by kernel_rfl) (fun K9 hK9 => ?_)
        go_simp
        refine hK9.out _ _ (fun _ => ?_) (fun hS9 => ?_)
        · (try dsimp only); (try trivial)
        replace hS := hS9 (by decide)
        clear hK9 K9 hS9
        try simp only [Act.put, List.setIfInBounds_toArray, List.set_cons_zero, List.set_cons_succ]
        clear hc
        refine late_one (i := 9) rfl (by kernel_rfl) (fun K9 hK9 => ?_)
        go_simp
        refine hK9.out _ _ (fun _ => ?_) (fun hS9 => ?_)
        · (try dsimp only); (try trivial)
        replace hS := hS9 (by decide)
        clear hK9 K9 hS9
        try simp only [Act.put, List.setIfInBounds_toArray, List.set_cons_zero, List.set_cons_succ]
        refine late_one (i := 10) rfl (by kernel_rfl) (fun K9 hK9 => ?_)
        go_simp
        refine hK9.out _ _ (fun _ => ?_) (fun hS9 => ?_)
        · (try dsimp only); (try trivial)
        replace hS := hS9 (by decide)
        clear hK9 K9 hS9
        try simp only [Act.put, List.setIfInBounds_toArray, List.set_cons_zero, List.set_cons_succ]
        refine late_done (by kernel_rfl) ?_ _
        go_wp2
        go_ret
        exact ⟨by rw [HD.out]; simp [ByteArray.append_eq, ByteArray.ext_iff], HB1.out⟩
      · have hc := HCV.out U w.heap.size HC1.out
        go_simp
        refine hK9.out _ _ (fun _ => ?_) (fun hS9 => ?_)
        · (try dsimp only); (try trivial)
        replace hS := hS9 (by decide)
        clear hK9 K9 hS9
        try simp only [Act.put, List.setIfInBounds_toArray, List.set_cons_zero, List.set_cons_succ]
        clear hc
        refine late_one (i := 2) rfl (by kernel_rfl) (fun K9 hK9 => ?_)
        go_simp
        refine (IH.out _).mono ?_
        rintro e w1 ⟨rfl, hb⟩
        have HB1 := hid (HA1.out.trans (hb.mono HA1.out.size))
        refine hK9.out _ _ (fun _ => ?_) (fun hS9 => ?_)
        · (try dsimp only); (try trivial)
        replace hS := hS9 (by decide)
        clear hK9 K9 hS9
        try simp only [Act.put, List.setIfInBounds_toArray, List.set_cons_zero, List.set_cons_succ]
        clear hb
        refine late_one (i := 9) rfl (by kernel_rfl) (fun K9 hK9 => ?_)
        go_simp
        refine hK9.out _ _ (fun _ => ?_) (fun hS9 => ?_)
        · (try dsimp only); (try trivial)
        replace hS := hS9 (by decide)
        clear hK9 K9 hS9
        try simp only [Act.put, List.setIfInBounds_toArray, List.set_cons_zero, List.set_cons_succ]
        refine late_one (i := 10) rfl (by kernel_rfl) (fun K9 hK9 => ?_)
        go_simp
        refine hK9.out _ _ (fun _ => ?_) (fun hS9 => ?_)
        · (try dsimp only); (try trivial)
        replace hS := hS9 (by decide)
        clear hK9 K9 hS9
        try simp only [Act.put, List.setIfInBounds_toArray, List.set_cons_zero, List.set_cons_succ]
        refine late_done (by kernel_rfl) ?_ _
        go_wp2
        go_ret
        exact ⟨by rw [HD.out]; simp [ByteArray.append_eq, ByteArray.ext_iff], HB1.out⟩
theorem s_NumText (n : Int) (w : World) : Calls Tryd.prog 32 #[.int .i64 n] w fun e w' => e = .returned (.string (numText n)) ∧ Below w.heap.size w w' := by
  cases hk : inB n 0 4294967295
  · have HZ := hid (show numText n = ByteArray.empty by unfold numText; rw [hk]; rfl)
    have HK := hid hk; clear hk
    go_enter Tryd.func32, Tryd.ntmps32
    go_wp2_with fail
    refine (s_l01Num n w).mono ?_
    rintro e w1 ⟨rfl, rfl⟩
    rw [HK.out]
    go_wp2
    go_ret
    exact ⟨by rw [HZ.out]; rfl, Below.refl _ _⟩
  · have h : 0 ≤ n ∧ n ≤ 4294967295 := by unfold inB at hk; simpa using hk
    obtain ⟨k, rfl⟩ := Int.eq_ofNat_of_zero_le h.1
    have hk2 : k ≤ 4294967295 := by omega
    refine (s_NumTextN k hk2 w).mono fun e w' q => ⟨?_, q.2⟩
    rw [q.1, numText_nat hk2]
end Go.Proofs.YtgcdgkiefbbhkaaDoor
