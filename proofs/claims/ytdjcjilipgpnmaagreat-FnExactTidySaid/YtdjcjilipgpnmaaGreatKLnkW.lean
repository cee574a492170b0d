/- A row of links of the call's own, as the library's sort sees it, and behind the sort. -/
import Derived.Test.YtdjcjilipgpnmaaGreatKOpcI
import Derived.Shelf.GgSortFunc.SmallK
import Derived.Shelf.GgSortFunc.Tiny
section
set_option linter.unusedSimpArgs false
set_option linter.unusedVariables false
namespace Go.G6
open Go Go.RowKit Rep
theorem le_cases {a b : List UInt8} (h : a ≤ b) : a < b ∨ a = b := by
 by_cases h1 : a < b
 ·exact .inl h1
 ·exact .inr (List.le_antisymm h (List.not_lt.1 h1))
/-- Names ascend. -/
def Asc (l : List LinkD) : Prop := l.Pairwise fun a b => a.Name.toList < b.Name.toList
theorem asc_less {l : List LinkD} (h : Asc l) (s : ByteArray) : Asc (dirLess l s) := by
 refine List.Pairwise.sublist ?_ h
 have : ∀ (l : List LinkD), (dirLess l s).Sublist l := by
  intro l
  induction l with
  | nil => exact List.Sublist.slnil
  | cons x l ih =>
   unfold dirLess
   split
   ·exact ih.cons _
   ·exact ih.cons_cons _
 exact this l
theorem bgt_lt (a b : ByteArray) : bgt a b = true ↔ b.toList < a.toList := by
 unfold bgt
 rw [bytesLess_lt]
 constructor
 ·intro h
  simp only [Bool.not_eq_true', Bool.or_eq_false_iff, decide_eq_false_iff_not, beq_eq_false_iff_ne] at h
  rcases le_cases (List.not_lt.1 h.1) with h1 | h1
  ·exact h1
  ·exact absurd h1.symm h.2
 ·intro h
  simp only [Bool.not_eq_true', Bool.or_eq_false_iff, decide_eq_false_iff_not, beq_eq_false_iff_ne]
  exact ⟨fun h2 => List.lt_irrefl _ (List.lt_trans h h2), fun e => by rw [e] at h; exact List.lt_irrefl _ h⟩
theorem asc_with : ∀ (l : List LinkD) (s : ByteArray) (id : Int), Asc l → hasN l s = false → Asc (dirWith l s id)
 | [], s, id, _, _ => by unfold dirWith Asc; simp
 | x :: l, s, id, h, hn => by
  unfold hasN at hn
  rw [List.any_cons, Bool.or_eq_false_iff] at hn
  unfold Asc at h
  have hc := List.pairwise_cons.1 h
  unfold dirWith
  split
  ·rename_i hg
   have hg := (bgt_lt _ _).1 hg
   refine List.pairwise_cons.2 ⟨fun y hy => ?_, h⟩
   rcases List.mem_cons.1 hy with rfl | hy
   ·exact hg
   ·exact List.lt_trans hg (hc.1 y hy)
  ·rename_i hg
   have hlt : x.Name.toList < s.toList := by
    have h1 : ¬ s.toList < x.Name.toList := fun h2 => hg ((bgt_lt _ _).2 h2)
    rcases le_cases (List.not_lt.1 h1) with h2 | h2
    ·exact h2
    ·have h3 := hn.1; rw [h2] at h3; simp at h3
   refine List.pairwise_cons.2 ⟨fun y hy => ?_, asc_with l s id hc.2 hn.2⟩
   rcases dirWith_mem l s id y hy with hy | rfl
   ·exact hc.1 y hy
   ·exact hlt
theorem asc_turn {l : List LinkD} {t : TurnD} (h : Asc l) (hp : ∀ x ∈ l, 1 ≤ x.Id) (hf : turnFit l t = true) : Asc (dirTurn l t) := by
 have hp := has_pos l hp t.Name
 unfold turnFit at hf
 unfold dirTurn
 by_cases k1 : t.Kind = 1
 ·rw [if_pos k1]
  refine asc_with _ _ _ h ?_
  cases hh : hasN l t.Name
  ·rfl
  ·rw [hh] at hp
   have hz : 0 < dirFind l t.Name := by simpa using hp.symm
   simp [k1, hz] at hf
 ·rw [if_neg k1]
  split
  ·exact asc_with _ _ _ (asc_less (asc_less h _) _) (hasN_less_self _ _)
  ·exact asc_less h _
theorem asc_kept : ∀ (l : List LinkD) (p : Option ByteArray), keptS p l = true → Asc l ∧ ∀ q, p = some q → ∀ x ∈ l, q.toList < x.Name.toList
 | [], _, _ => ⟨List.Pairwise.nil, fun _ _ _ h => by cases h⟩
 | x :: l, p, h => by
  unfold keptS at h
  simp only [Bool.and_eq_true] at h
  obtain ⟨a, b⟩ := asc_kept l (some x.Name) h.2
  refine ⟨List.pairwise_cons.2 ⟨fun y hy => b _ rfl y hy, a⟩, fun q hq y hy => ?_⟩
  subst hq
  have hlt : q.toList < x.Name.toList := (blt_lt q x.Name).1 h.1.2
  rcases List.mem_cons.1 hy with rfl | hy
  ·exact hlt
  ·exact List.lt_trans hlt (b _ rfl y hy)
theorem asc_fold : ∀ (ts : List TurnD) (l : List LinkD), Asc l → (∀ x ∈ l, 1 ≤ x.Id) → turnsOk l ts = true → (∀ t ∈ ts, t.Kind = 1 → 1 ≤ t.Id) → Asc (ts.foldl dirTurn l)
 | [], _, h, _, _, _ => h
 | t :: ts, l, h, hp, ht, hi => by
  unfold turnsOk at ht
  rw [Bool.and_eq_true] at ht
  exact asc_fold ts _ (asc_turn h hp ht.1) (dirTurn_ids (I := fun n => 1 ≤ n) hp ht.1 (hi t (by simp))) ht.2 fun u hu => hi u (by simp [hu])
theorem turn_len {l : List LinkD} {t : TurnD} (hp : ∀ x ∈ l, 1 ≤ x.Id) (hf : turnFit l t = true) : (dirTurn l t).length ≤ l.length + (idTurns [t]).length := by
 by_cases k1 : t.Kind = 1
 ·have := dirTurn_len l t
  have e : (idTurns [t]).length = 1 := by simp [idTurns, k1]
  omega
 ·have e : (idTurns [t]).length = 0 := by simp [idTurns, k1]
  have h1 := has_pos l hp t.Name
  unfold turnFit at hf
  unfold dirTurn
  rw [if_neg k1]
  split
  ·rename_i k5
   have hz : 0 < dirFind l t.Name := by simp [k5] at hf; exact hf.2.2
   have hh : hasN l t.Name = true := by rw [h1]; simpa using hz
   rw [dirWith_len]
   have h2 := dirLess_len (dirLess l t.Name) t.To
   have h3 : ∀ (l : List LinkD), hasN l t.Name = true → (dirLess l t.Name).length + 1 ≤ l.length := by
    intro l
    induction l with
    | nil => intro h; cases h
    | cons x l ih =>
     intro h
     unfold hasN at h ih
     rw [List.any_cons, Bool.or_eq_true] at h
     unfold dirLess
     split
     ·have := dirLess_len l t.Name
      simp only [List.length_cons]; omega
     ·rename_i hne
      have := ih (h.resolve_left hne)
      simp only [List.length_cons]; omega
   have := h3 l hh
   omega
  ·have := dirLess_len l t.Name
   omega
theorem fold_turn_len : ∀ (ts : List TurnD) (l : List LinkD), (∀ x ∈ l, 1 ≤ x.Id) → turnsOk l ts = true → (∀ t ∈ ts, t.Kind = 1 → 1 ≤ t.Id) → (ts.foldl dirTurn l).length ≤ l.length + (idTurns ts).length
 | [], _, _, _, _ => by simp
 | t :: ts, l, hp, ht, hi => by
  unfold turnsOk at ht
  rw [Bool.and_eq_true] at ht
  have h1 := fold_turn_len ts _ (dirTurn_ids (I := fun n => 1 ≤ n) hp ht.1 (hi t (by simp))) ht.2 fun u hu => hi u (by simp [hu])
  have h2 := turn_len hp ht.1
  have h3 : idTurns (t :: ts) = idTurns [t] ++ idTurns ts := by unfold idTurns; rw [← List.map_append, ← List.filter_append]; rfl
  rw [h3, List.length_append, List.foldl_cons]
  omega
theorem ok_pos {d : DiskD} (h : diskOk d = true) : (∀ x ∈ d.Kept, 1 ≤ x.Id) ∧ ∀ t ∈ d.Turns, t.Kind = 1 → 1 ≤ t.Id := by
 have hd := h
 rw [← dok_eq] at hd
 unfold dokI at hd
 simp only [Bool.and_eq_true] at hd
 obtain ⟨_, hn, _, _, _, hf, _⟩ := hd
 exact ids_pos hn hf
theorem all_asc {d : DiskD} (h : diskOk d = true) : Asc (dirAll d) := by
 obtain ⟨h1, h2⟩ := ok_pos h
 obtain ⟨_, _, hk, _, _, ht, _⟩ := diskOk_parts h
 exact asc_fold _ _ (asc_kept _ _ hk).1 h1 ht h2
theorem all_len {d : DiskD} (h : diskOk d = true) : (dirAll d).length ≤ 8 := by
 obtain ⟨h1, h2⟩ := ok_pos h
 obtain ⟨hR, _, _, hl, _, ht, _⟩ := diskOk_parts h
 have := fold_turn_len _ _ h1 ht h2
 have h8 := hR.r7
 have e : (diskIds d).length = d.Kept.length + (idTurns d.Turns).length := by unfold diskIds idKept; simp
 unfold dirAll
 omega
/-- What the loop over the map has met. -/
structure MetD (D : DataW Unit) (left : Lit → Bool) (don : List LinkD) : Prop where
 c : Collected D left (don.map fun x => x.Name.data.toList)
 i : ∀ x ∈ don, D.atKey (kS x.Name) (i6 0) = i6 x.Id
theorem met_start (D : DataW Unit) : MetD D (Maps.has D) [] := ⟨Collected.start D, by simp⟩
theorem MetD.step {D : DataW Unit} {left : Lit → Bool} {don : List LinkD} (h : MetD D left don) {x : LinkD} (hl : left (kS x.Name) = true) (hat : ∀ zd, D.atKey (kS x.Name) zd = i6 x.Id) : MetD D (fun z => left z && !z.sameKey (kS x.Name)) (don ++ [x]) := by
 refine ⟨by rw [List.map_append]; exact h.c.step hl hat, fun y hy => ?_⟩
 rcases List.mem_append.1 hy with hy | hy
 ·exact h.i y hy
 ·simp at hy; subst hy; exact hat _
theorem link_ext {x y : LinkD} (h1 : x.Name.data.toList = y.Name.data.toList) (h2 : x.Id = y.Id) : x = y := by
 obtain ⟨⟨⟨n⟩⟩, i⟩ := x
 obtain ⟨⟨⟨m⟩⟩, j⟩ := y
 simp only at h1 h2
 subst h1 h2
 rfl
theorem find_has : ∀ (l : List LinkD) (s : ByteArray), hasN l s = true → ∃ x ∈ l, x.Name.toList = s.toList ∧ x.Id = dirFind l s
 | [], _, h => by cases h
 | x :: l, s, h => by
  unfold hasN at h
  rw [List.any_cons, Bool.or_eq_true] at h
  unfold dirFind
  by_cases e : x.Name.toList = s.toList
  ·exact ⟨x, by simp, e, by simp [e]⟩
  ·obtain ⟨y, hy, h1, h2⟩ := find_has l s (h.resolve_left (by simpa using e))
   exact ⟨y, by simp [hy], h1, by simp [e, h2]⟩
theorem asc_find {l : List LinkD} (h : Asc l) : ∀ x ∈ l, hasN l x.Name = true ∧ dirFind l x.Name = x.Id := by
 induction l with
 | nil => intro x hx; cases hx
 | cons y l ih =>
  intro x hx
  have hc := List.pairwise_cons.1 h
  unfold hasN
  rw [List.any_cons]
  unfold dirFind
  rcases List.mem_cons.1 hx with rfl | hx
  ·simp
  ·have h1 := ih hc.2 x hx
   have hlt := hc.1 x hx
   have hne : ¬ y.Name.toList = x.Name.toList := fun e => by rw [e] at hlt; exact List.lt_irrefl _ hlt
   have h2 := h1.1
   unfold hasN at h2
   simp [hne, h1.2, h2]
/-- What the loop has met at its end is what the list holds. -/
theorem MetD.perm {D : DataW Unit} {left : Lit → Bool} {don l : List LinkD} (h : MetD D left don) (hl : ∀ kl, left kl = false) (hD : DirIs D l) (ha : Asc l) : don.Perm l := by
 have hnd : don.Nodup := by
  have := h.c.1
  exact List.Pairwise.imp (fun h e => h (by rw [e])) (List.pairwise_map.1 this)
 have hnl : l.Nodup := List.Pairwise.imp (fun h e => by rw [e] at h; exact List.lt_irrefl _ h) ha
 refine (List.perm_ext_iff_of_nodup hnd hnl).2 fun x => ⟨fun hx => ?_, fun hx => ?_⟩
 ·have h1 := ((h.c.2 x.Name.data.toList).1 (List.mem_map.2 ⟨x, hx, rfl⟩)).1
  have h2 := hD x.Name
  have h3 : Maps.has D (kS x.Name) = true := h1
  rw [h2.1] at h3
  have h4 := h.i x hx
  rw [h2.2] at h4
  obtain ⟨y, hy, e1, e2⟩ := find_has l x.Name h3
  have : y = x := link_ext (by rw [Go.ByteArray.toList_eq, Go.ByteArray.toList_eq] at e1; exact e1) (by rw [e2]; exact i6_inj h4)
  rw [← this]; exact hy
 ·have h1 := asc_find ha x hx
  have h2 := hD x.Name
  have h3 : Maps.has D (kS x.Name) = true := by rw [h2.1]; exact h1.1
  have h4 : x.Name.data.toList ∈ don.map fun x => x.Name.data.toList := (h.c.2 _).2 ⟨h3, hl _⟩
  obtain ⟨y, hy, e⟩ := List.mem_map.1 h4
  have h5 := h.i y hy
  have e' : kS y.Name = kS x.Name := by unfold kS; rw [e]
  rw [e', h2.2, h1.2] at h5
  have : y = x := link_ext e (i6_inj h5).symm
  rw [← this]; exact hy
/-- 'less' of the sort. -/
def ltL (a b : LinkD) : Bool := blt a.Name b.Name
instance : Inhabited LinkD := ⟨⟨ByteArray.empty, 0⟩⟩
theorem swo_ltL : Go.Sort.SWO ltL where
 irrefl := fun x => by
  unfold ltL
  cases h : blt x.Name x.Name
  ·rfl
  ·exact absurd ((blt_lt _ _).1 h) (List.lt_irrefl _)
 trans := fun x y z h1 h2 => (blt_lt _ _).2 (List.lt_trans ((blt_lt _ _).1 h1) ((blt_lt _ _).1 h2))
 ntrans := fun x y z h1 h2 => by
  have f : ∀ a b : LinkD, ltL a b = false → b.Name.toList ≤ a.Name.toList := fun a b h => List.not_lt.1 fun h3 => by
   have := (blt_lt a.Name b.Name).2 h3
   unfold ltL at h
   rw [this] at h
   cases h
  have h3 := List.le_trans (f y z h2) (f x y h1)
  cases h : ltL x z
  ·rfl
  ·exact absurd ((blt_lt _ _).1 h) (List.not_lt.2 h3)
theorem sorted_is {l : List LinkD} {d d' : Array LinkD} (hl : d.toList.Perm l) (ha : Asc l) (hp : Go.Sort.PermIn 0 d.size d d') (hs : Go.Sort.SortedIn ltL 0 d.size d') : d'.toList = l := by
 have h1 : d'.size = d.size := hp.1
 have h2 : d'.toList.Perm d.toList := by
  have := hp.2.2
  simp only [Array.toList_extract] at this
  rw [← h1] at this
  rw [show (d'.toList.extract 0 d'.size) = d'.toList by rw [List.extract]; exact List.take_of_length_le (by simp), h1, show (d.toList.extract 0 d.size) = d.toList by rw [List.extract]; exact List.take_of_length_le (by simp)] at this
  exact this
 have h3 := h2.trans hl
 refine List.Perm.eq_of_pairwise (le := fun a b => ltL b a = false) (fun a b ha' hb' h4 h5 => ?_) ?_ ?_ h3
 ·have hb1 := hb'
  have ha1 := h3.mem_iff.1 ha'
  have e : a.Name.toList = b.Name.toList := by
   have g1 : ¬ b.Name.toList < a.Name.toList := fun h => by have := (blt_lt _ _).2 h; unfold ltL at h4; rw [this] at h4; cases h4
   have g2 : ¬ a.Name.toList < b.Name.toList := fun h => by have := (blt_lt _ _).2 h; unfold ltL at h5; rw [this] at h5; cases h5
   exact List.le_antisymm (List.not_lt.1 g1) (List.not_lt.1 g2)
  have f1 := (asc_find ha a ha1).2
  have f2 := (asc_find ha b hb1).2
  have e2 : a.Name = b.Name := by
   rw [Go.ByteArray.toList_eq, Go.ByteArray.toList_eq] at e
   obtain ⟨⟨⟨n⟩⟩, i⟩ := a
   obtain ⟨⟨⟨m⟩⟩, j⟩ := b
   simp only at e
   subst e
   rfl
  refine link_ext (by rw [e2]) ?_
  rw [← f1, ← f2, e2]
 ·refine List.pairwise_iff_getElem.2 fun i j hi hj hij => ?_
  have := hs i j (Nat.zero_le _) hij (by simp at hj; omega)
  simp only [Array.length_toList] at hi hj
  rw [getElem!_pos d' j hj, getElem!_pos d' i hi] at this
  simpa using this
 ·refine List.Pairwise.imp (fun {a b} h => ?_) ha
  cases h4 : ltL b a
  ·rfl
  ·exact absurd (List.lt_trans h ((blt_lt _ _).1 h4)) (List.lt_irrefl _)
end Go.G6
end
section
set_option linter.unusedSimpArgs false
set_option linter.unusedVariables false
namespace Go.G6
open Go Go.RowKit Rep
open Go.Sort (flatK HoldsK putRowK putRow putCells Holds)
def encL (x : LinkD) : List Value := [.string x.Name, .int .i64 x.Id]
def LinkOk (x : LinkD) : Prop := x.Name.size ≤ maxLen ∧ I64 x.Id
theorem elems_link {w : World} : ∀ {xs : List LinkD} {bss : List (List Nat)} {cells : List Value}, Elems w bss cells xs → cells = xs.flatMap encL ∧ bss.flatten = [] ∧ ∀ x ∈ xs, LinkOk x
 | [], [], _, h => ⟨h, rfl, by simp⟩
 | [], _ :: _, _, h => h.elim
 | _ :: _, [], _, h => h.elim
 | x :: xs, bs :: bss, _, ⟨cs, rest, rfl, hp, h2⟩ => by
  obtain ⟨rfl, rfl, q1, q2⟩ := open_Link hp
  obtain ⟨rfl, e2, e3⟩ := elems_link h2
  refine ⟨rfl, by simpa using e2, fun y hy => ?_⟩
  rcases List.mem_cons.1 hy with rfl | hy
  ·exact ⟨q1, q2⟩
  ·exact e3 y hy
theorem elems_mk {w : World} : ∀ {xs : List LinkD}, (∀ x ∈ xs, LinkOk x) → Elems w (xs.map fun _ => []) (xs.flatMap encL) xs
 | [], _ => rfl
 | x :: xs, h => ⟨encL x, xs.flatMap encL, rfl, mk_Link (h x (by simp)).1 (h x (by simp)).2, elems_mk fun y hy => h y (by simp [hy])⟩
theorem flat_len (xs : List LinkD) : (xs.flatMap encL).length = xs.length * 2 := by
 induction xs with
 | nil => rfl
 | cons x xs ih => rw [List.flatMap_cons, List.length_append, ih, List.length_cons]; show 2 + _ = _; omega
theorem flat_get : ∀ (xs : List LinkD) (i c : Nat), c < 2 → (xs.flatMap encL)[i * 2 + c]? = (xs[i]?).bind fun x => (encL x)[c]?
 | [], i, c, _ => by simp
 | x :: xs, 0, c, h => by
  rw [List.flatMap_cons, List.getElem?_append_left (by show 0 * 2 + c < 2; omega)]
  simp
 | x :: xs, i + 1, c, h => by
  rw [List.flatMap_cons, List.getElem?_append_right (by show 2 ≤ _; omega)]
  have := flat_get xs i c h
  rw [show (i + 1) * 2 + c - (encL x).length = i * 2 + c by show (i + 1) * 2 + c - 2 = _; omega, this]
  simp
theorem flat_toList (xs : List LinkD) : (flatK encL 2 xs.toArray).toList = xs.flatMap encL := by
 apply List.ext_getElem?
 intro t
 by_cases ht : t < xs.length * 2
 ·have h1 : t / 2 < xs.length := by omega
  have h2 := flat_get xs (t / 2) (t % 2) (by omega)
  rw [show t / 2 * 2 + t % 2 = t by omega] at h2
  rw [h2, List.getElem?_eq_getElem h1, Option.bind_some]
  unfold flatK
  simp only [Array.getElem?_toList, Array.getElem?_map]
  rw [show (Array.range (xs.toArray.size * 2))[t]? = some t by simp [ht]]
  simp only [Option.map_some]
  rw [getElem!_pos xs.toArray (t / 2) (by simpa using h1)]
  simp only [List.getElem_toArray]
  rcases (show t % 2 = 0 ∨ t % 2 = 1 by omega) with h3 | h3 <;> rw [h3] <;> rfl
 ·rw [List.getElem?_eq_none (by simp; omega), List.getElem?_eq_none (by rw [flat_len]; omega)]
theorem own_row {lo : Nat} {w : World} {e : TypeId} {a : Option Addr} {n cap : Nat} {bs : List Nat} {xs : List LinkD} (h : OwnL lo w e (.slice a n cap) bs xs) (h0 : 0 < xs.length) :
  ∃ g cur, a = some ⟨g, 0, none⟩ ∧ bs = [g] ∧ n = xs.length ∧ lo ≤ g ∧ w.heap[g]? = some (.cells cur e (0, 0)) ∧ n ≤ cap ∧ cap ≤ maxLen ∧ cur.size = cap * 2 ∧ cur.toList.take (n * 2) = xs.flatMap encL ∧ ∀ x ∈ xs, LinkOk x := by
 obtain ⟨cells, bss, hR, hE, rfl, hn, hf⟩ := h
 obtain ⟨rfl, e2, e3⟩ := elems_link hE
 rcases hR.2 with ⟨_, h1⟩ | ⟨g, cap', cur, h1, hg, hgg, hnc, hcm, hcs, ht⟩
 ·omega
 ·obtain ⟨rfl, rfl, rfl⟩ := Value.slice.inj h1
  exact ⟨g, cur, rfl, by simp [Value.ownBlock, e2], rfl, hg, hgg, hnc, hcm, hcs, ht, e3⟩
theorem row_holds {w : World} {e : TypeId} {g : Nat} {cur : Array Value} {xs : List LinkD} (hb : w.heap[g]? = some (.cells cur e (0, 0))) (ht : cur.toList.take (xs.length * 2) = xs.flatMap encL) : HoldsK encL 2 w g 0 xs.toArray := by
 intro j hj
 have hj' : j < xs.length * 2 := by simpa using hj
 refine ⟨?_, by simp [World.frozen?, hb]⟩
 have h1 : (cur.toList.take (xs.length * 2))[j]? = (xs.flatMap encL)[j]? := by rw [ht]
 rw [List.getElem?_take_of_lt hj', ← flat_toList] at h1
 simp only [World.cell?, hb, Nat.zero_add]
 simp only [Option.isSome_none, Bool.false_eq_true, if_false]
 rw [← Array.getElem?_toList, h1, Array.getElem?_toList, Array.getElem?_eq_getElem hj, getElem!_pos _ j hj]
 rfl
theorem heap_sortedK {w : World} {g m : Nat} {os : Array Obj} {cur : Array Value} {e : TypeId} {fr : Nat × Nat} (d : Array LinkD) (hb : w.heap[g]? = some (.cells cur e fr)) :
  (Go.Sort.grow (putRowK encL 2 (Go.Sort.ahead w m) g 0 d) os).heap[g]? = some (.cells (putCells id 0 (flatK encL 2 d) cur) e fr) := by
 have hg : g < w.heap.size := (Array.getElem?_eq_some_iff.1 hb).1
 rw [Go.Sort.heap_grow_old _ _ (by simpa [putRowK] using hg)]
 simp [putRowK, putRow, Go.Sort.mapBlock, Go.Sort.ahead, Array.getElem?_modify, hb, Go.Sort.onCells]
theorem tch_sortedK {w : World} {g m : Nat} {os : Array Obj} (d : Array LinkD) : Tch [g] w (Go.Sort.grow (putRowK encL 2 (Go.Sort.ahead w m) g 0 d) os) := by
 refine ⟨rfl, rfl, rfl, by simp [putRowK], fun k hk hne => ?_⟩
 rw [Go.Sort.heap_grow_old _ _ (by simpa [putRowK] using hk)]
 have : g ≠ k := fun e => hne (by simp [e])
 simp [putRowK, putRow, Go.Sort.mapBlock, Go.Sort.ahead, Array.getElem?_modify, this]
theorem take_putK (cur : Array Value) (ys : List LinkD) (h : ys.length * 2 ≤ cur.size) : (putCells id 0 (flatK encL 2 ys.toArray) cur).toList.take (ys.length * 2) = ys.flatMap encL := by
 rw [← flat_toList]
 have hs : (flatK encL 2 ys.toArray).size = ys.length * 2 := by simp
 apply List.ext_getElem?
 intro j
 by_cases hj : j < ys.length * 2
 ·rw [List.getElem?_take_of_lt hj, Array.getElem?_toList, Array.getElem?_toList]
  have hjc : j < cur.size := by omega
  rw [Array.getElem?_eq_getElem (show j < (flatK encL 2 ys.toArray).size by rw [hs]; exact hj)]
  simp only [putCells, Array.getElem?_mapIdx, Array.getElem?_eq_getElem hjc, Option.map_some]
  rw [if_pos ⟨Nat.zero_le _, by rw [hs]; omega⟩]
  rw [Nat.sub_zero, getElem!_pos _ j (by rw [hs]; exact hj)]
  rfl
 ·rw [List.getElem?_take_eq_none (by omega), List.getElem?_eq_none (by rw [Array.length_toList, hs]; omega)]
theorem row_sorted {lo : Nat} {w : World} {e : TypeId} {g n cap m : Nat} {os : Array Obj} {cur : Array Value} {ys : List LinkD} (hl : n = ys.length) (hlo : lo ≤ g) (hb : w.heap[g]? = some (.cells cur e (0, 0))) (h1 : n ≤ cap) (h2 : cap ≤ maxLen) (h3 : cur.size = cap * 2) (hy : ∀ x ∈ ys, LinkOk x) :
  OwnL lo (Go.Sort.grow (putRowK encL 2 (Go.Sort.ahead w m) g 0 ys.toArray) os) e (.slice (some ⟨g, 0, none⟩) n cap) [g] ys := by
 subst hl
 have hh := heap_sortedK (m := m) (os := os) ys.toArray hb
 have hfl : (ys.map fun _ => ([] : List Nat)).flatten = [] := by induction ys with | nil => rfl | cons y ys ih => simp
 refine ⟨ys.flatMap encL, ys.map fun _ => [], ⟨flat_len ys, .inr ⟨g, cap, _, rfl, hlo, hh, h1, h2, by simp [putCells]; exact h3, take_putK cur ys (by rw [h3]; omega)⟩⟩, elems_mk hy, by simp [Value.ownBlock, hfl], by simp, fun b hb' => ?_⟩
 simp at hb'
 subst hb'
 exact ⟨hlo, _, _, hh⟩
end Go.G6
end
