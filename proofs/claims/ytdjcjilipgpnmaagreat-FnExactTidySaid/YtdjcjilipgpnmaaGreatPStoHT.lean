/- Tidy as the law calls it. -/
import Derived.Test.YtdjcjilipgpnmaaGreatKTidS
import Derived.Test.YtdjcjilipgpnmaaGreatPTidI
import Derived.Test.YtdjcjilipgpnmaaGreatKStoH
set_option linter.unusedSimpArgs false
set_option linter.unusedVariables false
namespace Go.G6
open Go Go.RowKit Rep
theorem tidyS_small {s : StoreD} (h : Small s.Disk) (hn : s.Ents.length ≤ 1048576) : Small (tidyS s).1.Disk ∧ (tidyS s).1.Ents.length ≤ 1048577 := by
 have hl : (lastN s.Keep.toNat s.Ents).length ≤ 1048577 := by rw [lastN_len]; omega
 have hL : (logL (lastN s.Keep.toNat s.Ents)).length ≤ 1048576 := by have := logL_le (lastN s.Keep.toNat s.Ents); omega
 unfold tidyS
 split
 ·split
  ·exact ⟨h, by show s.Ents.length ≤ _; omega⟩
  ·generalize lastN s.Keep.toNat s.Ents = l at hl hL
   unfold tidyR withD
   simp only
   have hE : s.Ents.length ≤ 1048577 := by omega
   have s1 := small_do h (kd := 7) (nm := emp) (tt := emp) (sz := 0) (data := []) (by simp)
   split
   ·have s2 := small_do s1 (kd := 1) (nm := temp) (tt := emp) (sz := 0) (data := []) (by simp)
    split
    ·have s3 := small_do s2 (kd := 2) (nm := temp) (tt := emp) (sz := 0) hL
     split
     ·have s4 := small_do s3 (kd := 6) (nm := temp) (tt := emp) (sz := 0) (data := []) (by simp)
      split
      ·exact ⟨small_do s4 (by simp), hE⟩
      ·exact ⟨s4, hE⟩
     ·split
      ·have s4 := small_do s3 (kd := 3) (nm := temp) (tt := emp) (sz := 0) (data := []) (by simp)
       split
       ·have s5 := small_do s4 (kd := 5) (nm := temp) (tt := hist) (sz := 0) (data := []) (by simp)
        split
        ·have s6 := small_do s5 (kd := 7) (nm := emp) (tt := emp) (sz := 0) (data := []) (by simp)
         split
         ·exact ⟨s6, hl⟩
         ·exact ⟨s6, hE⟩
        ·exact ⟨s5, hE⟩
       ·exact ⟨s4, hE⟩
      ·exact ⟨s3, hE⟩
    ·exact ⟨s2, hE⟩
   ·exact ⟨s1, hE⟩
 ·exact ⟨zDisk_small, by show ([] : List EntryD).length ≤ _; simp⟩
@[irreducible] def tidyX (s : StoreD) : StoreD := (tidyS s).1
@[irreducible] def tidyN (s : StoreD) : Int := (tidyS s).2
theorem tidyX_top {s : StoreD} (h : Cnt.cnt s ≤ 1048576) : 1 + (tidyX s).nkv ≤ topK := by
 unfold tidyX
 exact store_top (tidyS_small (small_of_cnt h).1 (small_of_cnt h).2).1 (tidyS_small (small_of_cnt h).1 (small_of_cnt h).2).2
end Go.G6
namespace Go.Proofs.YtdjcjilipgpnmaaGreat
open Go Go.RowKit Go.G6
theorem s_TidyX {w : World} {bs : List Nat} {cs : List Value} {s : StoreD} (h : Rep.pt w bs cs s) (hc : Cnt.cnt s ≤ 1048576) :
  Calls Tryz.prog 12 #[.agg cs.toArray] w (RetSX w (tidyX s) (tidyN s)) := by
 unfold tidyX tidyN
 exact (s_Tidy h (small_of_cnt hc).1 (small_of_cnt hc).2).mono fun _ _ h => h.x
theorem i_TidyX {w : World} {bs : List Nat} {cs : List Value} {s : StoreD} (h : Rep.pt w bs cs s) (hc : Cnt.cnt s ≤ 1048576) :
  Calls Tryz.prog 13 #[.agg cs.toArray] w (RetSX w (tidyX s) (tidyN s)) := by
 unfold tidyX tidyN
 exact (i_Tidy h (small_of_cnt hc).1 (small_of_cnt hc).2).mono fun _ _ h => h.x
end Go.Proofs.YtdjcjilipgpnmaaGreat
