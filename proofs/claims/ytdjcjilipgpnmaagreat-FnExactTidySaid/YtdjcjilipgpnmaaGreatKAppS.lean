/- Appends of a text's bytes, told by readings. -/
import Derived.Test.YtdjcjilipgpnmaaGreatKText
import Derived.Lib.AppendStr
set_option linter.unusedSimpArgs false
set_option linter.unusedVariables false
namespace Go.G6
open Go Go.RowKit Rep
theorem ownL_of_bytes {lo : Nat} {w : World} {e : TypeId} {v : Value} {n : Nat} {cells : List Value} (l : List UInt8) (hl : n = l.length) (hc : cells = l.map Scal.val) (h : w.ownsRow lo e 1 v n cells) : OwnL lo w e v v.ownBlock.toList l := by
 subst hl hc
 refine ⟨_, l.map fun _ => [], h, elems_scal (fun _ _ => trivial), ?_, ?_, ?_⟩
 ·rw [flat_nil (by simp), List.append_nil]
 ·cases v.ownBlock <;> simp
 ·intro b hb
  have hv := ownBlock_mem.1 hb
  rcases h.2 with ⟨rfl, _⟩ | ⟨g, cap, cur, rfl, hg, hgg, _⟩
  ·simp [Value.ownBlock] at hv
  ·simp [Value.ownBlock] at hv
   subst hv
   exact ⟨hg, cur, e, hgg⟩
theorem ownL_bytes_row {lo : Nat} {w : World} {e : TypeId} {v : Value} {bs : List Nat} {l : List UInt8} (h : OwnL lo w e v bs l) : w.ownsRow lo e 1 v l.length (l.map Scal.val) ∧ bs = v.ownBlock.toList := by
 obtain ⟨cells, bss, hR, hE, rfl, hn, hf⟩ := h
 have h2 := elems_scal' hE
 rw [h2.2.1] at hR
 exact ⟨hR, by rw [flat_nil h2.2.2, List.append_nil]⟩
section
variable {P : Program} {w : World}
theorem run_append_S (t u ty : TypeId) (e : TypeId) (i : TypeInfo) (ht : P.underlying t = some (.slice e)) (hu : P.underlying u = some .string) (hi : P.info? e = some i) (hz : i.zero = some (.int .u8 0)) (hsize : i.size = 1) (hby : i.bytes = 1)
  {lo : Nat} {v : Value} {bs : List Nat} {xs : List UInt8} (hown : OwnL lo w e v bs xs) (s : ByteArray) (hl : xs.length + s.size ≤ 140737488355328) (hlo : lo ≤ w.heap.size) :
  ∃ v' w' bs', (Builtin.append_ #[t, u] ty #[v, .string s]).run P w = .ok v' w' ∧ OwnL lo w' e v' bs' (xs ++ s.data.toList) ∧ Tch bs w w' := by
 obtain ⟨hR, rfl⟩ := ownL_bytes_row hown
 obtain ⟨v', w', hr, hR', hg, _⟩ := Lib.run_append_own_string (P := P) w lo t u ty e i ht hu hi hz hsize hby v xs.length _ hR s (by unfold maxLen; omega) hl hlo
 refine ⟨v', w', _, hr, ownL_of_bytes (xs ++ s.data.toList) (by rw [List.length_append, Array.length_toList]; rfl) (by rw [List.map_append]; rfl) hR', ⟨hg.os, hg.tape, hg.output, hg.size, fun k hk hn => hg.block k hk fun e9 => hn (ownBlock_mem.2 e9.symm)⟩⟩
theorem oper_append_S {o : Oper} {a : Act} {K : Act → World → Prop} {Q : Exit → Act → World → Prop} (s x : Operand) (t u : TypeId)
  (ho : o.op = .call { callee := .builtin .append, args := #[s, x], argTypes := #[t, u] })
  (e : TypeId) (i : TypeInfo) (ht : P.underlying t = some (.slice e)) (hu : P.underlying u = some .string) (hi : P.info? e = some i) (hz : i.zero = some (.int .u8 0)) (hsize : i.size = 1) (hby : i.bytes = 1)
  {lo : Nat} {v : Value} {bs : List Nat} {xs : List UInt8} (hs : a.eval s = v) (hown : OwnL lo w e v bs xs) {b : ByteArray} (hx : a.eval x = .string b) (hl : xs.length + b.size ≤ 140737488355328) (hlo : lo ≤ w.heap.size)
  (h : ∀ p k w' bs', OwnL lo w' e (.slice p (xs.length + b.size) k) bs' (xs ++ b.data.toList) → Tch bs w w' → K (a.put o.dst (.slice p (xs.length + b.size) k)) w') : o.wp P a w K Q := by
 obtain ⟨v', w', bs', hr, h1, h2⟩ := run_append_S (P := P) t u o.type e i ht hu hi hz hsize hby hown b hl hlo
 obtain ⟨p, k, rfl⟩ := h1.slice
 have hlen : (xs ++ b.data.toList).length = xs.length + b.size := by rw [List.length_append, Array.length_toList]; rfl
 rw [hlen] at hr h1
 unfold Oper.wp execOp
 simp only [ho, resolve, invoke, builtin, Sem.run_bind, Sem.run_pure, Result.andThen_ok, List.map_toArray, List.map_cons, List.map_nil, hs, hx, hr]
 exact h p k w' bs' h1 h2
theorem wp_append_S {ops : Array Oper} {rest : List Oper} {o : Oper} {a : Act} {Q : Exit → Act → World → Prop} (hgd : o.guard = none) (s x : Operand) (t u : TypeId)
  (ho : o.op = .call { callee := .builtin .append, args := #[s, x], argTypes := #[t, u] })
  (e : TypeId) (i : TypeInfo) (ht : P.underlying t = some (.slice e)) (hu : P.underlying u = some .string) (hi : P.info? e = some i) (hz : i.zero = some (.int .u8 0)) (hsize : i.size = 1) (hby : i.bytes = 1)
  {lo : Nat} {v : Value} {bs : List Nat} {xs : List UInt8} (hs : a.eval s = v) (hown : OwnL lo w e v bs xs) {b : ByteArray} (hx : a.eval x = .string b) (hl : xs.length + b.size ≤ 140737488355328) (hlo : lo ≤ w.heap.size)
  (h : ∀ p k w' bs', OwnL lo w' e (.slice p (xs.length + b.size) k) bs' (xs ++ b.data.toList) → Tch bs w w' → wpList P ops Q rest (a.put o.dst (.slice p (xs.length + b.size) k)) w') : wpList P ops Q (o :: rest) a w :=
 wpList_plain hgd fun _ hK => oper_append_S s x t u ho e i ht hu hi hz hsize hby hs hown hx hl hlo fun p k w' bs' h1 h2 => hK _ _ (h p k w' bs' h1 h2)
theorem step_append_S {ops : Array Oper} {o : Oper} {a : Act} {K : Act → World → Prop} {Q : Exit → Act → World → Prop} {E : Prop} (hgd : o.guard = none) (s x : Operand) (t u : TypeId)
  (ho : o.op = .call { callee := .builtin .append, args := #[s, x], argTypes := #[t, u] })
  (e : TypeId) (i : TypeInfo) (ht : P.underlying t = some (.slice e)) (hu : P.underlying u = some .string) (hi : P.info? e = some i) (hz : i.zero = some (.int .u8 0)) (hsize : i.size = 1) (hby : i.bytes = 1)
  {lo : Nat} {v : Value} {bs : List Nat} {xs : List UInt8} (hs : a.eval s = v) (hown : OwnL lo w e v bs xs) {b : ByteArray} (hx : a.eval x = .string b) (hl : xs.length + b.size ≤ 140737488355328) (hlo : lo ≤ w.heap.size)
  (h : ∀ p k w' bs', OwnL lo w' e (.slice p (xs.length + b.size) k) bs' (xs ++ b.data.toList) → Tch bs w w' → K (a.put o.dst (.slice p (xs.length + b.size) k)) w') :
  if Region.wanted o (yielded ops a.tmps) = true then Oper.wp P o a w K Q else E := by
 have hw : Region.wanted o (yielded ops a.tmps) = true := by simp [Region.wanted, hgd]
 rw [if_pos hw]
 exact oper_append_S s x t u ho e i ht hu hi hz hsize hby hs hown hx hl hlo h
end
end Go.G6
