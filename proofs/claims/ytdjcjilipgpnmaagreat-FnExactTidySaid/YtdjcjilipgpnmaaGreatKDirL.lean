/- The directory, as the reference keeps it: names taken away and laid in. -/
import Derived.Test.YtdjcjilipgpnmaaGreatKDirS
import Derived.Laws.Cover1
set_option linter.unusedSimpArgs false
set_option linter.unusedVariables false
namespace Go.G6
open Go Go.RowKit Rep
def hasN (l : List LinkD) (s : ByteArray) : Bool := l.any fun x => x.Name.toList == s.toList
def dirLess : List LinkD → ByteArray → List LinkD
 | [], _ => []
 | x :: l, s => if x.Name.toList == s.toList then dirLess l s else x :: dirLess l s
def bgt (a b : ByteArray) : Bool := !(Op.bytesLess a.toList b.toList || a.toList == b.toList)
def dirWith : List LinkD → ByteArray → Int → List LinkD
 | [], s, id => [⟨s, id⟩]
 | x :: l, s, id => if bgt x.Name s then ⟨s, id⟩ :: x :: l else x :: dirWith l s id
theorem dirLess_len : ∀ (l : List LinkD) (s : ByteArray), (dirLess l s).length ≤ l.length
 | [], _ => Nat.le_refl _
 | x :: l, s => by
  unfold dirLess
  have := dirLess_len l s
  split <;> simp <;> omega
theorem dirWith_len : ∀ (l : List LinkD) (s : ByteArray) (id : Int), (dirWith l s id).length = l.length + 1
 | [], _, _ => rfl
 | x :: l, s, id => by
  unfold dirWith
  split
  ·simp
  ·simp [dirWith_len l s id]
end Go.G6
namespace Go.Proofs.YtdjcjilipgpnmaaGreat
open Go.RowKit Go.G6
set_option maxHeartbeats 3000000
set_option maxRecDepth 10000
theorem info_LinkF : (Tryz.prog.info? 127).map (fun i => (i.zero, i.size, i.bytes)) = some (some (.agg #[.string ByteArray.empty, .int .i64 0]), 2, 24) := by kernel_rfl
theorem s_l03Less {w : World} {bs : List Nat} {a : Option Addr} {len cap : Nat} {l : List LinkD} (h : Slc w bs a len cap l) (hn : l.length ≤ 1000000) (s : ByteArray) :
  Calls Tryz.prog 117 #[.slice a len cap, .string s] w fun e w' => ∃ v bs', e = .returned v ∧ OwnL w.heap.size w' 127 v bs' (dirLess l s) ∧ Below w.heap.size w w' := by
 obtain rfl := h.len_eq
 obtain ⟨i0, hi, hz0, hz1, hz2⟩ := info_parts info_LinkF
 have m1 := h.max
 have H := hid h; clear h
 have HO := hid (show OwnL w.heap.size (w.alloc (.cells #[] 127)) 127 (.slice (some ⟨w.heap.size, 0, none⟩) 0 0) [w.heap.size] ([] : List LinkD) from ownL_empty rfl (Nat.le_refl _))
 go_enter Tryz.func117, Tryz.ntmps117
 go_wp2_with fail
 go_loopw [5, 11] (fun o i wr => ∃ (k : Nat) (p : Option Addr) (c : Nat) (b' : List Nat) (m : Nat) (don : List LinkD), k ≤ l.length ∧ m = don.length ∧ m ≤ k ∧ o = .slice p m c ∧ i = .int .i64 (k : Int) ∧ OwnL w.heap.size wr 127 (.slice p m c) b' don ∧ dirLess l s = don ++ dirLess (l.drop k) s ∧ Below w.heap.size w wr) (fun _ i _ => l.length - (intOf i).toNat)
 case atStart => exact ⟨0, some ⟨w.heap.size, 0, none⟩, 0, [w.heap.size], 0, [], Nat.zero_le _, rfl, Nat.le_refl _, rfl, rfl, HO.out, rfl, (Below.refl _ _).alloc (Nat.le_refl _) _⟩
 case round =>
  obtain ⟨k, p, c, b', m, don, hk, hm, hmk, rfl, rfl, hO, hd, hb⟩ := hrel
  have HOr := hid hO; have HD := hid hd; have HBr := hid hb; have HM := hid hm
  clear hO hd hm HO
  by_cases hlt : k < l.length
  rotate_left
  ·have hki : ¬ (k : Int) < (l.length : Int) := by omega
   have E := hid (show dirLess l s = don by rw [HD.out, List.drop_eq_nil_of_le (Nat.le_of_not_lt hlt)]; simp [dirLess])
   clear hlt hk hb
   go_wp2
   go_ret
   exact ⟨_, rfl, ⟨b', by rw [E.out]; exact HOr.out⟩, HBr.out⟩
  obtain ⟨b1, o1, cs1, _, rfl, _, hp1, _, hA1⟩ := (H.out.grow hb).elem k hlt
  obtain ⟨_, rfl, q1, q2⟩ := open_Link hp1
  have c0 : wr.cell? ⟨b1, o1 + k * 2, none⟩ = some _ := hA1 0 _ rfl
  have c1 : wr.cell? ⟨b1, o1 + k * 2 + 1, none⟩ = some _ := hA1 1 _ rfl
  have hst : dirLess (l.drop k) s = if l[k].Name.toList == s.toList then dirLess (l.drop (k + 1)) s else l[k] :: dirLess (l.drop (k + 1)) s := by
   rw [List.drop_eq_getElem_cons hlt]; rfl
  have hki : (k : Int) < (l.length : Int) := by omega
  obtain ⟨x, hx⟩ : ∃ x, x = l[k] := ⟨_, rfl⟩
  rw [← hx] at hst c0 c1 q1 q2
  have HST := hid hst
  have HPT := fun (W : World) => mk_Link (w := W) (d := x) q1 q2
  clear hst hp1 hA1 hx hb
  cases hq : (x.Name.toList == s.toList)
  ·have E := hid (show dirLess l s = (don ++ [x]) ++ dirLess (l.drop (k + 1)) s by rw [HD.out, HST.out, hq]; simp)
   have HB3 := hid (HBr.out.alloc HBr.out.size (.cells #[.string x.Name, .int .i64 x.Id] 127))
   have HO3 := hid (HOr.out.alloc (.cells #[.string x.Name, .int .i64 x.Id] 127))
   go_wp2_with (at_builtin; refine wp_append rfl _ _ 32 rfl 127 i0 (.agg #[.string ByteArray.empty, .int .i64 0]) 24 Tryz.underlying32 hi hz0 hz1 hz2 rfl (lo := w.heap.size) (bs := b') (xs := don) rfl ?own (b2 := []) (ys := [x]) rfl ?src List.nodup_nil ?q1 ?q2 ?q3 ?q4 ?_)
   case own => exact HO3.out.alloc _
   case src => exact src_new (HPT _) (by simp) _ _
   case q1 => simp
   case q2 => have := HM.out; simp; omega
   case q3 => have := HM.out; simp; omega
   case q4 => have := HB3.out.size; simp at this ⊢; omega
   intro p4 c4 w4 b4 hO4 hT4 hm4
   have HL := hid (show don.length + 1 = m + 1 by rw [HM.out])
   have HO4 := hid (show OwnL w.heap.size w4 127 (.slice p4 (m + 1) c4) b4 (don ++ [x]) by
    have h1 := hO4; rw [HL.out] at h1; exact h1)
   rw [HL.out]
   have HB4 := hid (below_tch (HB3.out.alloc HB3.out.size _) hT4 (HO3.out.alloc _).lts)
   have HM4 := hid (show m + 1 = (don ++ [x]).length by rw [List.length_append, HM.out]; rfl)
   clear hO4 hT4 hm4 HOr HB3 HO3 HL
   go_wp2
   exact ⟨⟨k + 1, p4, c4, b4, m + 1, don ++ [x], by omega, HM4.out, by omega, rfl, by go_num, HO4.out, E.out, HB4.out⟩, by simp [intOf]; try omega⟩
  ·have E := hid (show dirLess l s = don ++ dirLess (l.drop (k + 1)) s by rw [HD.out, HST.out, hq]; rfl)
   have HO3 := hid (HOr.out.alloc (.cells #[.string x.Name, .int .i64 x.Id] 127))
   have HB3 := hid (HBr.out.alloc HBr.out.size (.cells #[.string x.Name, .int .i64 x.Id] 127))
   go_wp2
   exact ⟨⟨k + 1, p, c, b', m, don, by omega, HM.out, by omega, rfl, by go_num, HO3.out, E.out, HB3.out⟩, by simp [intOf]; try omega⟩
theorem s_l03With {w : World} {bs : List Nat} {a : Option Addr} {len cap : Nat} {l : List LinkD} (h : Slc w bs a len cap l) (hn : l.length ≤ 1000000) (s : ByteArray) (hs : s.size ≤ maxLen) (id : Int) (hI : I64 id) :
  Calls Tryz.prog 116 #[.slice a len cap, .string s, .int .i64 id] w (RetL w 127 (dirWith l s id)) := by
 obtain rfl := h.len_eq
 obtain ⟨i0, hi, hz0, hz1, hz2⟩ := info_parts info_LinkF
 have m1 := h.max
 have H := hid h; clear h
 obtain ⟨y, hy⟩ : ∃ y : LinkD, y = ⟨s, id⟩ := ⟨_, rfl⟩
 have HNW := fun (W : World) => (show Rep.pt W [] [.string s, .int .i64 id] y by rw [hy]; exact mk_Link (w := W) (d := ⟨s, id⟩) hs hI)
 have HY := hid hy; clear hy
 have HI := hid hI; have HS := hid hs
 clear hI hs
 have HO := hid (show OwnL w.heap.size (w.alloc (.cells #[] 127)) 127 (.slice (some ⟨w.heap.size, 0, none⟩) 0 0) [w.heap.size] ([] : List LinkD) from ownL_empty rfl (Nat.le_refl _))
 go_enter Tryz.func116, Tryz.ntmps116
 go_wp2_with fail
 go_loopw [7, 8, 14] (fun o dn i wr => ∃ (k : Nat) (p : Option Addr) (c : Nat) (b' : List Nat) (m : Nat) (don : List LinkD) (f : Bool), k ≤ l.length ∧ m = don.length ∧ m ≤ k + 1 ∧ o = .slice p m c ∧ dn = .bool f ∧ i = .int .i64 (k : Int) ∧ OwnL w.heap.size wr 127 (.slice p m c) b' don ∧ dirWith l s id = don ++ (if f then l.drop k else dirWith (l.drop k) s id) ∧ (f = false → m = k) ∧ Below w.heap.size w wr) (fun _ _ i _ => l.length - (intOf i).toNat)
 case atStart => exact ⟨0, some ⟨w.heap.size, 0, none⟩, 0, [w.heap.size], 0, [], false, Nat.zero_le _, rfl, by omega, rfl, rfl, rfl, HO.out, rfl, fun _ => rfl, (Below.refl _ _).alloc (Nat.le_refl _) _⟩
 case round =>
  obtain ⟨k, p, c, b', m, don, f, hk, hm, hmk, rfl, rfl, rfl, hO, hd, hf, hb⟩ := hrel
  have HOr := hid hO; have HD := hid hd; have HBr := hid hb; have HM := hid hm; have HF := hid hf
  clear hO hd hm HO hf
  by_cases hlt : k < l.length
  rotate_left
  ·have hki : ¬ (k : Int) < (l.length : Int) := by omega
   cases f
   ·have E := hid (show dirWith l s id = don ++ [y] by rw [HD.out, List.drop_eq_nil_of_le (Nat.le_of_not_lt hlt), HY.out]; simp [dirWith])
    clear hlt hb
    go_wp2_with (at_builtin; refine wp_append rfl _ _ 32 rfl 127 i0 (.agg #[.string ByteArray.empty, .int .i64 0]) 24 Tryz.underlying32 hi hz0 hz1 hz2 rfl (lo := w.heap.size) (bs := b') (xs := (don)) rfl ?own5 (b2 := []) (ys := [y]) rfl ?src5 List.nodup_nil (fun b hb => by cases hb) ?qa5 ?qb5 ?qc5 ?_)
    case own5 => exact HOr.out.alloc _
    case src5 => exact src_new (HNW _) (by simp) _ _
    case qa5 => have := HM.out; (try simp only [List.length_append, List.length_cons, List.length_nil] at this ⊢); omega
    case qb5 => have := HM.out; (try simp only [List.length_append, List.length_cons, List.length_nil] at this ⊢); omega
    try (case qc5 => have := HBr.out.size; simp at this ⊢; omega)
    intro p4 c4 w4 b4 hO4 hT4 hm4
    have HL4 := hid (show (don).length + 1 = m + 1 by rw [HM.out])
    obtain ⟨d4, hd4⟩ : ∃ d, d = (don) ++ [y] := ⟨_, rfl⟩
    rw [← hd4] at hO4
    have HO4 := hid (show OwnL w.heap.size w4 127 (.slice p4 (m + 1) c4) b4 d4 by have h1 := hO4; rw [HL4.out] at h1; exact h1)
    rw [HL4.out]
    have HB4 := hid (below_tch (HBr.out.alloc HBr.out.size _) hT4 (HOr.out.alloc _).lts)
    have HM4 := hid (show m + 1 = d4.length by rw [hd4, List.length_append, HM.out]; rfl)
    have HE4 := hid hd4
    have HT4 := hid hT4
    clear hO4 hT4 hm4 HL4 hd4
    go_wp2
    go_ret
    exact ⟨_, b4, rfl, by rw [E.out, ← HE4.out]; exact HO4.out, HB4.out⟩
   ·have E := hid (show dirWith l s id = don by rw [HD.out, List.drop_eq_nil_of_le (Nat.le_of_not_lt hlt)]; simp)
    clear hlt hk hb
    go_wp2
    go_ret
    exact ⟨_, b', rfl, by rw [E.out]; exact HOr.out, HBr.out⟩
  obtain ⟨b1, o1, cs1, _, rfl, _, hp1, _, hA1⟩ := (H.out.grow hb).elem k hlt
  obtain ⟨_, rfl, q1, q2⟩ := open_Link hp1
  have c0 : wr.cell? ⟨b1, o1 + k * 2, none⟩ = some _ := hA1 0 _ rfl
  have c1 : wr.cell? ⟨b1, o1 + k * 2 + 1, none⟩ = some _ := hA1 1 _ rfl
  have hst : dirWith (l.drop k) s id = if bgt l[k].Name s then ⟨s, id⟩ :: l[k] :: l.drop (k + 1) else l[k] :: dirWith (l.drop (k + 1)) s id := by
   rw [List.drop_eq_getElem_cons hlt]; rfl
  have hst2 : l.drop k = l[k] :: l.drop (k + 1) := List.drop_eq_getElem_cons hlt
  have hki : (k : Int) < (l.length : Int) := by omega
  obtain ⟨x, hx⟩ : ∃ x, x = l[k] := ⟨_, rfl⟩
  rw [← hx] at hst hst2 c0 c1 q1 q2
  have HST := hid hst; have HST2 := hid hst2
  have HPT := fun (W : World) => mk_Link (w := W) (d := x) q1 q2
  have HB3 := hid (HBr.out.alloc HBr.out.size (.cells #[.string x.Name, .int .i64 x.Id] 127))
  have HO3 := hid (HOr.out.alloc (.cells #[.string x.Name, .int .i64 x.Id] 127))
  clear hst hst2 hp1 hA1 hx hb
  cases f
  ·obtain rfl : m = k := HF.out rfl
   cases hg : bgt x.Name s
   ·have E := hid (show dirWith l s id = (don ++ [x]) ++ dirWith (l.drop (m + 1)) s id by rw [HD.out, if_neg (by simp), HST.out, hg]; simp)
    have hg' : Op.bytesLess x.Name.toList s.toList = true ∨ Op.bytesLess x.Name.toList s.toList = false ∧ (x.Name.toList == s.toList) = true := by
     unfold bgt at hg
     cases h1 : Op.bytesLess x.Name.toList s.toList
     ·rw [h1] at hg; right; exact ⟨rfl, by simpa using hg⟩
     ·exact .inl rfl
    clear hg
    rcases hg' with hg1 | ⟨hg1, hg2⟩
    ·skip
     go_wp2_with (at_builtin; refine wp_append rfl _ _ 32 rfl 127 i0 (.agg #[.string ByteArray.empty, .int .i64 0]) 24 Tryz.underlying32 hi hz0 hz1 hz2 rfl (lo := w.heap.size) (bs := b') (xs := (don)) rfl ?own6 (b2 := []) (ys := [x]) rfl ?src6 List.nodup_nil (fun b hb => by cases hb) ?qa6 ?qb6 ?qc6 ?_)
     case own6 => exact HO3.out.alloc _
     case src6 => exact src_new (HPT _) (by simp) _ _
     case qa6 => have := HM.out; (try simp only [List.length_append, List.length_cons, List.length_nil] at this ⊢); omega
     case qb6 => have := HM.out; (try simp only [List.length_append, List.length_cons, List.length_nil] at this ⊢); omega
     try (case qc6 => have := HB3.out.size; simp at this ⊢; omega)
     intro p4 c4 w4 b4 hO4 hT4 hm4
     have HL4 := hid (show (don).length + 1 = m + 1 by rw [HM.out])
     obtain ⟨d4, hd4⟩ : ∃ d, d = (don) ++ [x] := ⟨_, rfl⟩
     rw [← hd4] at hO4
     have HO4 := hid (show OwnL w.heap.size w4 127 (.slice p4 (m + 1) c4) b4 d4 by have h1 := hO4; rw [HL4.out] at h1; exact h1)
     rw [HL4.out]
     have HB4 := hid (below_tch (HB3.out.alloc HB3.out.size _) hT4 (HO3.out.alloc _).lts)
     have HM4 := hid (show m + 1 = d4.length by rw [hd4, List.length_append, HM.out]; rfl)
     have HE4 := hid hd4
     have HT4 := hid hT4
     clear hO4 hT4 hm4 HL4 hd4
     go_wp2
     exact ⟨⟨m + 1, p4, c4, b4, m + 1, d4, false, by omega, HM4.out, by omega, rfl, rfl, by go_num, HO4.out, by rw [E.out, HE4.out]; rfl, fun _ => rfl, HB4.out⟩, by simp [intOf]; try omega⟩
    ·skip
     go_wp2_with (at_builtin; refine wp_append rfl _ _ 32 rfl 127 i0 (.agg #[.string ByteArray.empty, .int .i64 0]) 24 Tryz.underlying32 hi hz0 hz1 hz2 rfl (lo := w.heap.size) (bs := b') (xs := (don)) rfl ?own7 (b2 := []) (ys := [x]) rfl ?src7 List.nodup_nil (fun b hb => by cases hb) ?qa7 ?qb7 ?qc7 ?_)
     case own7 => exact HO3.out.alloc _
     case src7 => exact src_new (HPT _) (by simp) _ _
     case qa7 => have := HM.out; (try simp only [List.length_append, List.length_cons, List.length_nil] at this ⊢); omega
     case qb7 => have := HM.out; (try simp only [List.length_append, List.length_cons, List.length_nil] at this ⊢); omega
     try (case qc7 => have := HB3.out.size; simp at this ⊢; omega)
     intro p4 c4 w4 b4 hO4 hT4 hm4
     have HL4 := hid (show (don).length + 1 = m + 1 by rw [HM.out])
     obtain ⟨d4, hd4⟩ : ∃ d, d = (don) ++ [x] := ⟨_, rfl⟩
     rw [← hd4] at hO4
     have HO4 := hid (show OwnL w.heap.size w4 127 (.slice p4 (m + 1) c4) b4 d4 by have h1 := hO4; rw [HL4.out] at h1; exact h1)
     rw [HL4.out]
     have HB4 := hid (below_tch (HB3.out.alloc HB3.out.size _) hT4 (HO3.out.alloc _).lts)
     have HM4 := hid (show m + 1 = d4.length by rw [hd4, List.length_append, HM.out]; rfl)
     have HE4 := hid hd4
     have HT4 := hid hT4
     clear hO4 hT4 hm4 HL4 hd4
     go_wp2
     exact ⟨⟨m + 1, p4, c4, b4, m + 1, d4, false, by omega, HM4.out, by omega, rfl, rfl, by go_num, HO4.out, by rw [E.out, HE4.out]; rfl, fun _ => rfl, HB4.out⟩, by simp [intOf]; try omega⟩
   ·have E := hid (show dirWith l s id = (don ++ [y] ++ [x]) ++ (l.drop (m + 1)) by rw [HD.out, if_neg (by simp), HST.out, hg, HY.out]; simp)
    have hg' : Op.bytesLess x.Name.toList s.toList = false ∧ (x.Name.toList == s.toList) = false := by
     unfold bgt at hg; simpa using hg
    obtain ⟨hg1, hg2⟩ := hg'
    clear hg
    go_wp2_with (at_builtin; refine wp_append rfl _ _ 32 rfl 127 i0 (.agg #[.string ByteArray.empty, .int .i64 0]) 24 Tryz.underlying32 hi hz0 hz1 hz2 rfl (lo := w.heap.size) (bs := b') (xs := (don)) rfl ?own8 (b2 := []) (ys := [y]) rfl ?src8 List.nodup_nil (fun b hb => by cases hb) ?qa8 ?qb8 ?qc8 ?_)
    case own8 => exact HO3.out.alloc _
    case src8 => exact src_new (HNW _) (by simp) _ _
    case qa8 => have := HM.out; (try simp only [List.length_append, List.length_cons, List.length_nil] at this ⊢); omega
    case qb8 => have := HM.out; (try simp only [List.length_append, List.length_cons, List.length_nil] at this ⊢); omega
    try (case qc8 => have := HB3.out.size; simp at this ⊢; omega)
    intro p4 c4 w4 b4 hO4 hT4 hm4
    have HL4 := hid (show (don).length + 1 = m + 1 by rw [HM.out])
    obtain ⟨d4, hd4⟩ : ∃ d, d = (don) ++ [y] := ⟨_, rfl⟩
    rw [← hd4] at hO4
    have HO4 := hid (show OwnL w.heap.size w4 127 (.slice p4 (m + 1) c4) b4 d4 by have h1 := hO4; rw [HL4.out] at h1; exact h1)
    rw [HL4.out]
    have HB4 := hid (below_tch (HB3.out.alloc HB3.out.size _) hT4 (HO3.out.alloc _).lts)
    have HM4 := hid (show m + 1 = d4.length by rw [hd4, List.length_append, HM.out]; rfl)
    have HE4 := hid hd4
    have HT4 := hid hT4
    clear hO4 hT4 hm4 HL4 hd4
    have c5 : w4.cell? ⟨wr.heap.size, 0, none⟩ = some (.string x.Name) := (HT4.out.cell (p := ⟨wr.heap.size, 0, none⟩) (by simp; omega) (fun hm => absurd (HOr.out.lts _ hm).2 (Nat.lt_irrefl _))).trans (by simp)
    have c6 : w4.cell? ⟨wr.heap.size, 1, none⟩ = some (.int .i64 x.Id) := (HT4.out.cell (p := ⟨wr.heap.size, 1, none⟩) (by simp; omega) (fun hm => absurd (HOr.out.lts _ hm).2 (Nat.lt_irrefl _))).trans (by simp)
    clear HO3 HB3
    go_wp2_with (at_builtin; refine wp_append rfl _ _ 32 rfl 127 i0 (.agg #[.string ByteArray.empty, .int .i64 0]) 24 Tryz.underlying32 hi hz0 hz1 hz2 rfl (lo := w.heap.size) (bs := b4) (xs := (d4)) rfl ?own9 (b2 := []) (ys := [x]) rfl ?src9 List.nodup_nil (fun b hb => by cases hb) ?qa9 ?qb9 ?qc9 ?_)
    case own9 => exact HO4.out.alloc _
    case src9 => exact src_new (HPT _) (by simp) _ _
    case qa9 => have := HM4.out; (try simp only [List.length_append, List.length_cons, List.length_nil] at this ⊢); omega
    case qb9 => have := HM4.out; (try simp only [List.length_append, List.length_cons, List.length_nil] at this ⊢); omega
    try (case qc9 => have := HB4.out.size; simp at this ⊢; omega)
    intro p5 c5 w5 b5 hO5 hT5 hm5
    have HL5 := hid (show (d4).length + 1 = m + 1 + 1 by rw [HM4.out])
    obtain ⟨d5, hd5⟩ : ∃ d, d = (d4) ++ [x] := ⟨_, rfl⟩
    rw [← hd5] at hO5
    have HO5 := hid (show OwnL w.heap.size w5 127 (.slice p5 (m + 1 + 1) c5) b5 d5 by have h1 := hO5; rw [HL5.out] at h1; exact h1)
    rw [HL5.out]
    have HB5 := hid (below_tch (HB4.out.alloc HB4.out.size _) hT5 (HO4.out.alloc _).lts)
    have HM5 := hid (show m + 1 + 1 = d5.length by rw [hd5, List.length_append, HM4.out]; rfl)
    have HE5 := hid hd5
    have HT5 := hid hT5
    clear hO5 hT5 hm5 HL5 hd5
    go_wp2
    exact ⟨⟨m + 1, p5, c5, b5, m + 1 + 1, d5, true, by omega, HM5.out, by omega, rfl, rfl, by go_num, HO5.out, by rw [E.out, HE5.out, HE4.out]; rfl, by simp, HB5.out⟩, by simp [intOf]; try omega⟩
  ·have E := hid (show dirWith l s id = (don ++ [x]) ++ (l.drop (k + 1)) by rw [HD.out, if_pos rfl, HST2.out]; simp)
   go_wp2_with (at_builtin; refine wp_append rfl _ _ 32 rfl 127 i0 (.agg #[.string ByteArray.empty, .int .i64 0]) 24 Tryz.underlying32 hi hz0 hz1 hz2 rfl (lo := w.heap.size) (bs := b') (xs := (don)) rfl ?own10 (b2 := []) (ys := [x]) rfl ?src10 List.nodup_nil (fun b hb => by cases hb) ?qa10 ?qb10 ?qc10 ?_)
   case own10 => exact HO3.out.alloc _
   case src10 => exact src_new (HPT _) (by simp) _ _
   case qa10 => have := HM.out; (try simp only [List.length_append, List.length_cons, List.length_nil] at this ⊢); omega
   case qb10 => have := HM.out; (try simp only [List.length_append, List.length_cons, List.length_nil] at this ⊢); omega
   try (case qc10 => have := HB3.out.size; simp at this ⊢; omega)
   intro p4 c4 w4 b4 hO4 hT4 hm4
   have HL4 := hid (show (don).length + 1 = m + 1 by rw [HM.out])
   obtain ⟨d4, hd4⟩ : ∃ d, d = (don) ++ [x] := ⟨_, rfl⟩
   rw [← hd4] at hO4
   have HO4 := hid (show OwnL w.heap.size w4 127 (.slice p4 (m + 1) c4) b4 d4 by have h1 := hO4; rw [HL4.out] at h1; exact h1)
   rw [HL4.out]
   have HB4 := hid (below_tch (HB3.out.alloc HB3.out.size _) hT4 (HO3.out.alloc _).lts)
   have HM4 := hid (show m + 1 = d4.length by rw [hd4, List.length_append, HM.out]; rfl)
   have HE4 := hid hd4
   have HT4 := hid hT4
   clear hO4 hT4 hm4 HL4 hd4
   go_wp2
   exact ⟨⟨k + 1, p4, c4, b4, m + 1, d4, true, by omega, HM4.out, by omega, rfl, rfl, by go_num, HO4.out, by rw [E.out, HE4.out]; rfl, by simp, HB4.out⟩, by simp [intOf]; try omega⟩
end Go.Proofs.YtdjcjilipgpnmaaGreat
