/- Structures loaded and stored whole: boxes behind them. -/
import Derived.Test.YtgcdgkiefbbhkaaLst
import Derived.Test.YtgcdgkiefbbhkaaLate
import Derived.Deep.MidRow
set_option linter.unusedSimpArgs false
set_option linter.unusedVariables false
namespace Go.G6
open Go Go.RowKit Rep
section
variable {w : World} {b : Nat} {c : Array Value}
theorem Bx.there (h : Bx w b c) (o n : Nat) (hn : o + n ≤ c.size) : w.there b o n := fun j hj =>
  ⟨by rw [h.out]; rw [Array.getElem?_eq_getElem (by omega)]; rfl, h.f.frozen _⟩
theorem Bx.range (h : Bx w b c) (o : Nat) (cs : List Value) (hc : ∀ j v, cs[j]? = some v → c[o + j]? = some v) : w.rangeAt b o cs := fun j v hv => by rw [h.out]; exact hc j v hv
theorem Bx.whole (h : Bx w b c) : w.rangeAt b 0 c.toList := h.range 0 _ fun j v hv => by rw [Nat.zero_add]; simpa using hv
theorem Bx.mid (h : Bx w b c) (o n : Nat) {cs : List Value} (hcs : (c.toList.drop o).take n = cs) : w.rangeAt b o cs := h.range o _ fun j v hv => by
  subst hcs
  rw [List.getElem?_take] at hv
  split at hv
  · rw [List.getElem?_drop] at hv; simpa using hv
  · cases hv
theorem Bx.setMid (h : Bx w b c) (o : Nat) (cs : List Value) {c9 : Array Value} (hc : (c.toList.take o ++ cs ++ c.toList.drop (o + cs.length)).toArray = c9) (hn : o + cs.length ≤ c.size) : Bx (w.setCells b o cs) b c9 := by
  subst hc
  refine ⟨fun k => ?_, Fr.setCells _ _ _ h.f⟩
  have hl : (c.toList.take o).length = o := by simp; omega
  simp only [List.getElem?_toArray]
  by_cases h1 : k < o
  · rw [World.cell?_setCells_out b cs o w ⟨b, k, none⟩ (fun _ _ => .inl h1), h.out, List.append_assoc, List.getElem?_append_left (by omega), List.getElem?_take, if_pos h1]
    simp
  · by_cases h2 : k < o + cs.length
    · have := World.cell?_setCells_in b cs o w (fun i hi => (h.there o cs.length hn i hi).1) (k - o) (by omega)
      rw [show o + (k - o) = k by omega] at this
      rw [this, List.append_assoc, List.getElem?_append_right (by omega), hl, List.getElem?_append_left (by omega), List.getElem?_eq_getElem (by omega)]
    · rw [World.cell?_setCells_out b cs o w ⟨b, k, none⟩ (fun _ _ => .inr (by show o + cs.length ≤ k; omega)), h.out, List.getElem?_append_right (by simp; omega), List.getElem?_drop]
      simp only [List.length_append, hl]
      rw [show o + cs.length + (k - (o + cs.length)) = k by omega]
      simp
theorem Bx.setAll (h : Bx w b c) (cs : List Value) (hn : cs.length = c.size) : Bx (w.setCells b 0 cs) b cs.toArray :=
  h.setMid 0 cs (by rw [List.drop_of_length_le (by simp; omega)]; simp) (by omega)
theorem Bx.setOtherAll (h : Bx w b c) {g : Nat} (hg : b ≠ g) (o : Nat) (cs : List Value) : Bx (w.setCells g o cs) b c := h.keep (setCells_heap g cs o w b hg)
end

/-- A result that lies in a cell row. -/
theorem results_mid {P : Program} {fn : Func} {p : Tmp} {ty : TypeId} (h : fn.results = #[.cell p ty]) {tmps : Array Value} {w : World} {b o : Nat} (hp : tmps.getD p undef = .pointer (some ⟨b, o, none⟩)) (cs : List Value) {d : TypeDesc} (hc : w.rangeAt b o cs)
    (hu : P.underlying ty = some d) (hd : d.isRow = true) (hi : (P.info? ty).map (·.size) = some cs.length) : (results fn tmps).run P w = .ok (.agg cs.toArray) w := by
  have ha : (asAddr (tmps.getD p undef)).run P w = .ok ⟨b, o, none⟩ w := by rw [hp]; rfl
  simp only [results, h]
  have hl := run_loadVar_mid w b o ty cs d hc hu hd hi
  simp only [Array.getD_eq_getD_getElem?] at ha
  simp [Sem.run_bind, Result.andThen, ha, hl]
theorem results_mid_tmp {P : Program} {fn : Func} {p u : Tmp} {ty : TypeId} (h : fn.results = #[.cell p ty, .tmp u]) {tmps : Array Value} {w : World} {b o : Nat} (hp : tmps.getD p undef = .pointer (some ⟨b, o, none⟩)) (cs : List Value) {d : TypeDesc} (hc : w.rangeAt b o cs)
    (hu : P.underlying ty = some d) (hd : d.isRow = true) (hi : (P.info? ty).map (·.size) = some cs.length) : (results fn tmps).run P w = .ok (.tuple #[.agg cs.toArray, tmps.getD u undef]) w := by
  have ha : (asAddr (tmps.getD p undef)).run P w = .ok ⟨b, o, none⟩ w := by rw [hp]; rfl
  simp only [results, h]
  have hl := run_loadVar_mid w b o ty cs d hc hu hd hi
  simp only [Array.getD_eq_getD_getElem?] at ha
  simp [Sem.run_bind, Result.andThen, ha, hl]
theorem wpList_build_to {P : Program} {ops : Array Oper} {rest : List Oper} {o : Oper} {a : Act} {w : World} {Q : Exit → Act → World → Prop} (hgd : o.guard = none) (t : TypeId) (parts : Array (Nat × Operand)) (ho : o.op = .build t parts)
    (cells : Array Value) (L : List (Nat × Value)) (hL : (parts.toList.map fun (i, x) => (i, a.eval x)) = L) (hf : P.built t L = some cells)
    (h : wpList P ops Q rest (a.put o.dst (.agg cells)) w) : wpList P ops Q (o :: rest) a w :=
  wpList_plain hgd fun _ hK => wp_build t parts ho (by rw [Array.toList_map, hL, hf]; rfl) (by rw [Array.toList_map, hL, hf]; exact hK _ _ h)
theorem exec_load_mid {P : Program} {op : Oper} {a : Act} {w : World} (ty : TypeId) (x : Operand) (ho : op.op = .load ty x)
    (b o : Nat) (hx : a.eval x = .pointer (some ⟨b, o, none⟩)) (cs : List Value) (d : TypeDesc) (hS : w.rangeAt b o cs)
    (hu : P.underlying ty = some d) (hd : d.isRow = true) (hi : (P.info? ty).map (·.size) = some cs.length) : (execOp a.eval op).run P w = .ok (.value (.agg cs.toArray)) w := by
  unfold execOp
  simp only [ho, hx, Instr.loadAt, Instr.sureAddr, Sem.run_bind, Sem.run_pure, Result.andThen_ok, run_loadVar_mid w b o ty cs d hS hu hd hi]
theorem range_below {W V : World} {b o : Nat} {cs : List Value} (h : W.rangeAt b o cs) (hb : Below W.heap.size W V) : V.rangeAt b o cs := fun j v hv => by
  have := h j v hv
  exact (hb.cell (p := ⟨b, o + j, none⟩) (World.block_lt_of_cell? W _ this)).trans this
theorem Bx.all {w : World} {b : Nat} {cs : List Value} (h : Bx w b cs.toArray) : w.rangeAt b 0 cs := h.whole
end Go.G6
