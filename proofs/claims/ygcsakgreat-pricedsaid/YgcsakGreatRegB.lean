/-
  laws of regions that draw their order: one operation.
-/
import Derived.Test.YgcsakGreatTxD
namespace Go.Proofs.YgcsakGreat
set_option linter.unusedVariables false
set_option maxRecDepth 100000
open Go.RowKit

theorem if_alloc {ops : Array Oper} {o : Oper} {a : Act} {w : World} {K : Act → World → Prop} {Q : Exit → Act → World → Prop} (d : Option Tmp) (hd : o.dst = d) (t : TypeId) (ho : o.op = .alloc t) (hw : Region.wanted o (yielded ops a.tmps) = true) (Z : List Value) (n : Nat)
    (hz : (Sakg.prog.info? t).map (fun i => (i.zero, i.size)) = some (some (.agg Z.toArray), n)) (hn : Z.length = n)
    (h : ∀ w', RowT t w' w.heap.size Z → Below w.heap.size w w' → w'.heap.size = w.heap.size + 1 → K (a.put d (.pointer (some ⟨w.heap.size, 0, none⟩))) w') :
    if Region.wanted o (yielded ops a.tmps) = true then Oper.wp Sakg.prog o a w K Q else K (a.put o.dst undef) w := by
  rw [if_pos hw]
  subst hd
  have hk := h _ (RowT.new t w Z) ((Below.refl _ _).alloc (Nat.le_refl _) _) (by simp)
  cases hi : Sakg.prog.info? t with
  | none => rw [hi] at hz; cases hz
  | some i =>
    rw [hi] at hz
    simp only [Option.map_some, Option.some.injEq, Prod.mk.injEq] at hz
    unfold Oper.wp
    simp [execOp, ho, Sem.run_bind, Instr.alloc, zeroValue, typeInfo, hi, hz.1, newVar, Value.cells]
    exact hk

theorem if_store {ops : Array Oper} {o : Oper} {a : Act} {w : World} {K : Act → World → Prop} {Q : Exit → Act → World → Prop} (hdn : o.dst = none) (hw : Region.wanted o (yielded ops a.tmps) = true) (ty : TypeId) (x y : Operand) (hop : o.op = .store ty x y)
    (g off : Nat) (t : TypeId) (zs cs : List Value) (hx : a.eval x = .pointer (some ⟨g, off, none⟩)) (hy : a.eval y = .agg cs.toArray) (hg : RowT t w g zs) (hz : off + cs.length ≤ zs.length)
    (hi : (Sakg.prog.info? ty).map (·.size) = some cs.length) (h1 : ∀ v ∈ cs, v.oneCell' = true)
    (h : ∀ w', RowT t w' g (spl zs off cs) → Only g w w' → K a w') :
    if Region.wanted o (yielded ops a.tmps) = true then Oper.wp Sakg.prog o a w K Q else K (a.put o.dst undef) w := by
  rw [if_pos hw]
  have hrow := row_setCells t g cs off zs w hg hz
  have hh := h _ hrow.1 hrow.2
  refine wp_store_mid ty x y hop g off cs.toArray hx hy ?_ (by simpa using hi) (by simpa using h1) ?_
  · intro j hj
    rw [hg.cell, hg.froz]
    simp at hj
    simp
    omega
  · rw [hdn]
    exact hh

theorem if_build_one {ops : Array Oper} {o : Oper} {a : Act} {w : World} {K : Act → World → Prop} {Q : Exit → Act → World → Prop} (d : Option Tmp) (hd : o.dst = d) (hw : Region.wanted o (yielded ops a.tmps) = true) (t : TypeId) (x : Operand) (ho : o.op = .buildSlice t 1 #[(0, x)]) (e : TypeId) (sz bytes : Nat) (ht : Sakg.prog.underlying t = some (.slice e))
    (Z : List Value) (hzi : (Sakg.prog.info? e).map (fun i => (i.zero, i.size, i.bytes)) = some (some (.agg Z.toArray), sz, bytes)) (hzl : Z.length = sz) (hsz : 0 < sz) (hlim : sz ≤ 16777216)
    (cs : List Value) (hx : a.eval x = .agg cs.toArray) (hl : cs.length = sz)
    (h : ∀ w', RowT e w' w.heap.size cs → Below w.heap.size w w' → w'.heap.size = w.heap.size + 1 → K (a.put d (.slice (some ⟨w.heap.size, 0, none⟩) 1 1)) w') :
    if Region.wanted o (yielded ops a.tmps) = true then Oper.wp Sakg.prog o a w K Q else K (a.put o.dst undef) w := by
  rw [if_pos hw]
  subst hd
  have hk := h _ (RowT.new e w cs) ((Below.refl _ _).alloc (Nat.le_refl _) _) (by simp)
  cases hi : Sakg.prog.info? e with
  | none => rw [hi] at hzi; cases hzi
  | some i0 =>
    rw [hi] at hzi
    simp only [Option.map_some, Option.some.injEq, Prod.mk.injEq] at hzi
    have hrun := run_build_one w t e sz ht i0 (.agg Z.toArray) hi hzi.1 hzi.2.1 (by simpa [Value.cells] using hzl) hsz hlim (.agg cs.toArray) cs rfl hl
    unfold Oper.wp
    simp [execOp, ho, hx, hrun, Result.andThen]
    exact hk

theorem if_append_one {ops : Array Oper} {o : Oper} {a : Act} {w : World} {K : Act → World → Prop} {Q : Exit → Act → World → Prop} (d : Option Tmp) (hd : o.dst = d) (hw : Region.wanted o (yielded ops a.tmps) = true) (s x : Operand) (t : TypeId)
    (ho : o.op = .call { callee := .builtin .append, args := #[s, x], argTypes := #[t, t] }) (e : TypeId) (sz bytes : Nat) (ht : Sakg.prog.underlying t = some (.slice e))
    (Z : List Value) (hzi : (Sakg.prog.info? e).map (fun i => (i.zero, i.size, i.bytes)) = some (some (.agg Z.toArray), sz, bytes)) (hzl : Z.length = sz) (hsz : 0 < sz)
    (base : Nat) (v : Value) (n : Nat) (rows : List (List Value)) (hs : a.eval s = v) (hown : w.ownsRow base e sz v n rows.flatten)
    (g : Nat) (t' : TypeId) (row : List Value) (hx : a.eval x = .slice (some ⟨g, 0, none⟩) 1 1) (hrow : RowT t' w g row) (hrl : row.length = sz) (h1 : ∀ u ∈ row, u.oneCell' = true) (hb : (n + 1) * bytes ≤ 140737488355328) (hn : n + 1 ≤ 140737488355328) (hbase : base ≤ w.heap.size)
    (h : ∀ v' w', w'.ownsRow base e sz v' (n + 1) (rows ++ [row]).flatten → Below base w w' → w.grownBy w' v.ownBlock → K (a.put d v') w') :
    if Region.wanted o (yielded ops a.tmps) = true then Oper.wp Sakg.prog o a w K Q else K (a.put o.dst undef) w := by
  rw [if_pos hw]
  subst hd
  cases hi : Sakg.prog.info? e with
  | none => rw [hi] at hzi; cases hzi
  | some i0 =>
    rw [hi] at hzi
    simp only [Option.map_some, Option.some.injEq, Prod.mk.injEq] at hzi
    refine wp_append_own w s x t ho base e i0 (.agg Z.toArray) sz bytes ht hi hzi.1 hzi.2.1 hzi.2.2 (by simpa [Value.cells] using hzl) hsz v n rows.flatten hs hown ⟨g, 0, none⟩ 1 1 row hx (by omega) ?_ h1 (by unfold maxLen; omega) hb hbase ?_
    · intro j u hj
      rw [addAt, Nat.zero_add, hrow.cell]
      exact hj
    · intro v' w' ho' hg _
      refine h v' w' (by rw [List.flatten_append, List.flatten_cons, List.flatten_nil, List.append_nil]; exact ho') ((Below.refl base w).grown hg hbase ?_) hg
      intro k hk
      exact (hown.lt k hk).1

theorem infoAcct2 : (Sakg.prog.info? 113).map (fun i => (i.zero, i.size)) = some (some (.agg (bv (zeros 20) ++ [nilS, nilS, nilS, nilS]).toArray), 24) := by kernel_rfl

end Go.Proofs.YgcsakGreat
