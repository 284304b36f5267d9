/-
  laws of regions that draw their order.
-/
import Derived.Test.YgcsakGreatYpG
namespace Go.Proofs.YgcsakGreat
set_option linter.unusedVariables false
set_option maxRecDepth 100000
open Go.RowKit

/-- an operation that yields is taken first, its slot named -/
theorem held_takeD {P : Program} {ops : Array Oper} {Q : Exit → Act → World → Prop} {md : Region.Mode} {S : World → Prop} (i : Nat) (v : Value) (d : Option Tmp) {oi : Oper} {fuel : Nat} {listed : Array Bool} {a : Act} {w : World} (hi : ops[i]? = some oi) (hd : oi.dst = d)
    (hs : Region.noSelect ops = true) (hf : Region.free md ops listed i = true) (hr : (Region.ready md ops listed).contains i = true)
    (hQ : ∀ c a w, Q (.panic c) (a.put d v) w → Q (.panic c) a w) (hy : YieldsIf P ops S oi v a) (hS : S w)
    (h : wpAnyH P md ops Q S fuel (listed.setIfInBounds i true) (a.put d v) w) : wpAnyH P md ops Q S (fuel + 1) listed a w := by
  subst hd
  exact wpAnyH_take hi hs hf hr hQ hy hS h
/-- a store in a region that draws its order -/
theorem held_store {ops : Array Oper} {Q : Exit → Act → World → Prop} {md : Region.Mode} {S : World → Prop} (i : Nat) {o : Oper} {fuel : Nat} {listed : Array Bool} {a : Act} {w : World} (hr : Region.ready md ops listed = [i]) (ho : ops[i]? = some o) (hdn : o.dst = none)
    (hw : Region.wanted o (yielded ops a.tmps) = true) (ty : TypeId) (x y : Operand) (hop : o.op = .store ty x y)
    (g off : Nat) (t : TypeId) (zs cs : List Value) (hx : a.eval x = .pointer (some ⟨g, off, none⟩)) (hy : a.eval y = .agg cs.toArray) (hg : RowT t w g zs) (hz : off + cs.length ≤ zs.length)
    (hi : (Sakg.prog.info? ty).map (·.size) = some cs.length) (h1 : ∀ v ∈ cs, v.oneCell' = true)
    (h : ∀ w', RowT t w' g (spl zs off cs) → Only g w w' → S w' ∧ wpAnyH Sakg.prog md ops Q S fuel (listed.setIfInBounds i true) a w') : wpAnyH Sakg.prog md ops Q S (fuel + 1) listed a w := by
  refine held_one i hr ho (fun K' hK' => ?_)
  rw [if_pos hw]
  have hrow := row_setCells t g cs off zs w hg hz
  have hh := h _ hrow.1 hrow.2
  refine wp_store_mid ty x y hop g off cs.toArray hx hy ?_ (by simpa using hi) (by simpa using h1) ?_
  · intro j hj
    rw [hg.cell, hg.froz]
    simp at hj
    simp
    omega
  · rw [hdn]
    exact hK'.out _ _ hh.1 hh.2
/-- two may come up -/
theorem held_two {P : Program} {ops : Array Oper} {Q : Exit → Act → World → Prop} {md : Region.Mode} {S : World → Prop} (i j : Nat) {o1 o2 : Oper} {fuel : Nat} {listed : Array Bool} {a : Act} {w : World} (hr : Region.ready md ops listed = [i, j]) (ho1 : ops[i]? = some o1) (ho2 : ops[j]? = some o2)
    (h1 : ∀ K' : Act → World → Prop, Shut (∀ a w, S w → wpAnyH P md ops Q S fuel (listed.setIfInBounds i true) a w → K' a w) → if Region.wanted o1 (yielded ops a.tmps) = true then Oper.wp P o1 a w K' Q else K' (a.put o1.dst undef) w)
    (h2 : ∀ K' : Act → World → Prop, Shut (∀ a w, S w → wpAnyH P md ops Q S fuel (listed.setIfInBounds j true) a w → K' a w) → if Region.wanted o2 (yielded ops a.tmps) = true then Oper.wp P o2 a w K' Q else K' (a.put o2.dst undef) w) : wpAnyH P md ops Q S (fuel + 1) listed a w := by
  refine wpAnyH_all hr (by simp) fun k hk => ?_
  rcases List.mem_cons.1 hk with rfl | hk
  · exact wpOp_step ho1 fun K' hK => h1 K' fun a w hS hW => hK a w ⟨hS, hW⟩
  · obtain rfl : k = j := by simpa using hk
    exact wpOp_step ho2 fun K' hK => h2 K' fun a w hS hW => hK a w ⟨hS, hW⟩

end Go.Proofs.YgcsakGreat
