/- Trials: is nothing lost? -/
import Derived.Test.YtgcdgkiefbbhkaaApp
import Derived.Test.YtgcdgkiefbbhkaaProg
import Derived.BigQuiet
import Derived.Deep.RegionHeld3
set_option linter.unusedSimpArgs false
set_option linter.unusedVariables false
namespace Go.G6
open Go.RowKit Rep
def zEnt : EntryD := ⟨0, ByteArray.empty⟩
def entEq (a b : EntryD) : Bool := decide (a.Num = b.Num) && (a.Text.data.toList == b.Text.data.toList)
def allB (f : Nat → Bool) : Nat → Nat → Bool
  | 0, _ => true
  | m + 1, k => f k && allB f m (k + 1)
def sameE (xs ys : List EntryD) : Bool := decide (xs.length = ys.length) && allB (fun k => entEq (xs.getD k zEnt) (ys.getD k zEnt)) xs.length 0
def trialFair (d : TrialD) : Bool := !d.Up || (decide (d.Store.Ents.length ≤ d.Sure.length) && (sameE d.Store.Ents (d.Sure.drop (d.Sure.length - d.Store.Ents.length)) && (decide (d.Store.Ents.length = d.Sure.length) || decide (d.Keep ≤ (d.Store.Ents.length : Int)))))
theorem entText {a b : ByteArray} {v : Bool} (h : (a.toList == b.toList) = v) : (a.data.toList == b.data.toList) = v := by
  rw [ByteArray.toList_eq, ByteArray.toList_eq] at h; exact h
end Go.G6
namespace Go.Proofs.Ytgcdgkiefbbhkaa
open Go.RowKit Go.G6
set_option maxHeartbeats 3000000
set_option maxRecDepth 10000
theorem s_l07Same {w : World} {bs1 bs2 : List Nat} {a1 a2 : Option Addr} {l1 l2 k1 k2 : Nat} {xs ys : List EntryD} (h1 : Slc w bs1 a1 l1 k1 xs) (h2 : Slc w bs2 a2 l2 k2 ys) :
    Calls Try.prog 34 #[.slice a1 l1 k1, .slice a2 l2 k2] w fun e w' => e = .returned (.bool (sameE xs ys)) ∧ Below w.heap.size w w' := by
  obtain rfl := h1.len_eq
  obtain rfl := h2.len_eq
  have m1 := h1.max; have m2 := h2.max
  have H1 := hid h1; have H2 := hid h2; clear h1 h2
  by_cases hl : xs.length = ys.length
  rotate_left
  · have E := hid (show sameE xs ys = false by rw [sameE, decide_eq_false hl]; rfl)
    have hli : ((xs.length : Int) != (ys.length : Int)) = true := by rw [bne_iff_ne]; omega
    clear hl
    go_enter Try.func34, Try.ntmps34
    go_wp2
    go_ret
    exact ⟨ret_bool (by rw [E.out]), Below.refl _ _⟩
  have hli : ((xs.length : Int) != (ys.length : Int)) = false := by rw [bne_eq_false_iff_eq]; omega
  have H0 := hid (show sameE xs ys = allB (fun k => entEq (xs.getD k zEnt) (ys.getD k zEnt)) xs.length 0 by rw [sameE, decide_eq_true hl]; rfl)
  obtain ⟨f, hf⟩ : ∃ f : Nat → Bool, f = fun k => entEq (xs.getD k zEnt) (ys.getD k zEnt) := ⟨_, rfl⟩
  rw [← hf] at H0
  have HF := hid hf; clear hf
  go_enter Try.func34, Try.ntmps34
  go_wp2_with fail
  go_loopw [13] (fun i wr => ∃ k : Nat, k ≤ xs.length ∧ i = .int .i64 (k : Int) ∧ sameE xs ys = allB f (xs.length - k) k ∧ Below w.heap.size w wr) (fun i _ => xs.length - (intOf i).toNat)
  case atStart => exact ⟨0, Nat.zero_le _, rfl, H0.out, Below.refl _ _⟩
  case round =>
    obtain ⟨k, hk, rfl, hr, hb⟩ := hrel
    have HR := hid hr; have HB := hid hb; clear hr
    by_cases hlt : k < xs.length
    rotate_left
    · have hki : ¬ (k : Int) < (xs.length : Int) := by omega
      have E := hid (show sameE xs ys = true by rw [HR.out, show xs.length - k = 0 by omega]; rfl)
      clear hlt hk hb
      go_wp2
      go_ret
      exact ⟨ret_bool (by rw [E.out]), HB.out⟩
    have hky : k < ys.length := by omega
    obtain ⟨b1, o1, cs1, _, rfl, hw1, hp1, _, hA1⟩ := (H1.out.grow hb).elem k hlt
    obtain ⟨b2, o2, cs2, _, rfl, hw2, hp2, _, hA2⟩ := (H2.out.grow hb).elem k hky
    obtain ⟨_, rfl, n1, t1⟩ := open_Entry hp1
    obtain ⟨_, rfl, n2, t2⟩ := open_Entry hp2
    have c0 : wr.cell? ⟨b1, o1 + k * 2, none⟩ = some _ := hA1 0 _ rfl
    have c1 : wr.cell? ⟨b1, o1 + k * 2 + 1, none⟩ = some _ := hA1 1 _ rfl
    have c2 : wr.cell? ⟨b2, o2 + k * 2, none⟩ = some _ := hA2 0 _ rfl
    have c3 : wr.cell? ⟨b2, o2 + k * 2 + 1, none⟩ = some _ := hA2 1 _ rfl
    have hst := show allB f (xs.length - k) k = (f k && allB f (xs.length - (k + 1)) (k + 1)) by rw [show xs.length - k = (xs.length - (k + 1)) + 1 by omega]; rfl
    have hfk : f k = entEq xs[k] ys[k] := by rw [HF.out]; simp [hlt, hky]
    rw [hfk] at hst
    have HST := hid hst
    have hki : (k : Int) < (xs.length : Int) := by omega
    have hki2 : (k : Int) < (ys.length : Int) := by omega
    clear hst hfk hA1 hA2 hp1 hp2 hb
    obtain ⟨x, hx⟩ : ∃ x, x = xs[k] := ⟨_, rfl⟩
    obtain ⟨y, hy⟩ : ∃ y, y = ys[k] := ⟨_, rfl⟩
    rw [← hx] at HST c0 c1
    rw [← hy] at HST c2 c3
    clear n1 n2 t1 t2 hx hy
    have CS := hid (And.intro c0 (And.intro c1 (And.intro c2 c3)))
    cases hn : (x.Num == y.Num)
    · have E := hid (show sameE xs ys = false by rw [HR.out, HST.out, entEq, decide_eq_false (by rw [beq_eq_false_iff_ne] at hn; exact hn)]; rfl)
      go_wp2_with fail
      go_quiet (fail)
      go_wp2
      go_ret
      exact ⟨ret_bool (by rw [E.out]), HB.out.drewN _⟩
    cases ht : (x.Text.toList == y.Text.toList)
    · have E := hid (show sameE xs ys = false by rw [HR.out, HST.out, entEq, entText ht, Bool.and_false]; rfl)
      go_wp2_with fail
      go_quiet (fail)
      go_wp2
      go_ret
      exact ⟨ret_bool (by rw [E.out]), HB.out.drewN _⟩
    · have E := hid (show sameE xs ys = allB f (xs.length - (k + 1)) (k + 1) by rw [HR.out, HST.out, entEq, entText ht, decide_eq_true (by simpa using hn)]; rfl)
      go_wp2_with fail
      go_quiet (fail)
      go_wp2
      exact ⟨⟨k + 1, by omega, rfl, E.out, HB.out.drewN _⟩, by simp [intOf]; omega⟩
end Go.Proofs.Ytgcdgkiefbbhkaa
