/- Add as the law calls it. -/
import Derived.Test.YtdjcjilipgpnmaaGreatKAddS
import Derived.Test.YtdjcjilipgpnmaaGreatPAddI
import Derived.Test.YtdjcjilipgpnmaaGreatKStoH
set_option linter.unusedSimpArgs false
set_option linter.unusedVariables false
namespace Go.G6
open Go Go.RowKit Rep
theorem addS_small {s : StoreD} (h : Small s.Disk) (hn : s.Ents.length ≤ 1048576) (t : ByteArray) : Small (addS s t).1.Disk ∧ (addS s t).1.Ents.length ≤ 1048577 := by
 unfold addS
 split
 ·split
  ·rename_i he
   have hf : (frameB ⟨nextNum s.Ents, t⟩).length ≤ 1048576 := by have := frameB_le he; omega
   unfold addR withD
   simp only
   have s1 := small_do h (kd := 2) (nm := hist) (tt := emp) (sz := 0) hf
   split
   ·have s2 := small_do s1 (kd := 4) (nm := hist) (tt := emp) (sz := s.Len) (data := []) (by simp)
    split
    ·exact ⟨small_do s2 (by simp), by show s.Ents.length ≤ _; omega⟩
    ·exact ⟨s2, by show s.Ents.length ≤ _; omega⟩
   ·split
    ·have s2 := small_do s1 (kd := 3) (nm := hist) (tt := emp) (sz := 0) (data := []) (by simp)
     split
     ·exact ⟨s2, by show (s.Ents ++ [_]).length ≤ _; rw [List.length_append]; simp; omega⟩
     ·exact ⟨s2, by show s.Ents.length ≤ _; omega⟩
    ·exact ⟨s1, by show s.Ents.length ≤ _; omega⟩
  ·exact ⟨h, by show s.Ents.length ≤ _; omega⟩
 ·exact ⟨zDisk_small, by show ([] : List EntryD).length ≤ _; simp⟩
@[irreducible] def addX (s : StoreD) (t : ByteArray) : StoreD := (addS s t).1
@[irreducible] def addN (s : StoreD) (t : ByteArray) : Int := (addS s t).2
theorem addX_top {s : StoreD} (h : Cnt.cnt s ≤ 1048576) (t : ByteArray) : 1 + (addX s t).nkv ≤ topK := by
 unfold addX
 exact store_top (addS_small (small_of_cnt h).1 (small_of_cnt h).2 t).1 (addS_small (small_of_cnt h).1 (small_of_cnt h).2 t).2
end Go.G6
namespace Go.Proofs.YtdjcjilipgpnmaaGreat
open Go Go.RowKit Go.G6
theorem s_AddX {w : World} {bs : List Nat} {cs : List Value} {s : StoreD} (h : Rep.pt w bs cs s) (t : ByteArray) (ht : t.size ≤ maxLen) (hc : Cnt.cnt s ≤ 1048576) :
  Calls Tryz.prog 6 #[.agg cs.toArray, .string t] w (RetSX w (addX s t) (addN s t)) := by
 unfold addX addN
 exact (s_Add h (small_of_cnt hc).1 (small_of_cnt hc).2 t ht).mono fun _ _ h => h.x
theorem i_AddX {w : World} {bs : List Nat} {cs : List Value} {s : StoreD} (h : Rep.pt w bs cs s) (t : ByteArray) (ht : t.size ≤ maxLen) (hc : Cnt.cnt s ≤ 1048576) :
  Calls Tryz.prog 8 #[.agg cs.toArray, .string t] w (RetSX w (addX s t) (addN s t)) := by
 unfold addX addN
 exact (i_Add h (small_of_cnt hc).1 (small_of_cnt hc).2 t ht).mono fun _ _ h => h.x
end Go.Proofs.YtdjcjilipgpnmaaGreat
