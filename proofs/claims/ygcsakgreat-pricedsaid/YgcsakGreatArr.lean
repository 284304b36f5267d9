/-
  Arrays of bytes by value; '==' on them; blocks of cells; whole loads and stores; slices of structs.
-/
import Derived.Test.YgcsakGreatNatH
import Derived.Deep.MidRow
import Derived.Deep.RegionHeld3
namespace Go.Proofs.YgcsakGreat
set_option linter.unusedVariables false
set_option linter.unusedSimpArgs false
set_option maxRecDepth 100000
open Go.RowKit

theorem run_part_byte (w : World) (xs : List Int) (i : Nat) (hi : i < xs.length) : (part 5 (bv xs).toArray (i * 1)).run Sakg.prog w = .ok (.int .u8 (xs.getD i 0)) w := by
  have h := bv_getD xs i hi
  simp only [part, isAgg, Sem.run_bind, run_underlying Sakg.underlying5, Result.andThen_ok, Sem.run_pure, Nat.mul_one, h]
  rfl

theorem run_arr_loop (w : World) (d : Nat) (xs ys : List Int) : ∀ (m k : Nat), k + m = xs.length → k + m = ys.length →
    (forIn (m := Sem) (List.range' k m) ((none : Option Bool), ()) fun i __s => do
      let a ← part 5 (bv xs).toArray (i * 1)
      let b ← part 5 (bv ys).toArray (i * 1)
      let r ← Op.equalIn (d + 1) 5 a b
      if (!r) = true then pure (ForInStep.done (some false, ())) else pure (ForInStep.yield (none, ()))).run Sakg.prog w = .ok (if xs.drop k = ys.drop k then (none, ()) else (some false, ())) w
  | 0, k, h1, h2 => by
    rw [List.drop_eq_nil_of_le (by omega), List.drop_eq_nil_of_le (by omega)]
    simp
  | m + 1, k, h1, h2 => by
    rw [List.range'_succ, List.forIn_cons, Sem.run_bind, Sem.run_bind, run_part_byte w xs k (by omega), Result.andThen_ok, Sem.run_bind, run_part_byte w ys k (by omega), Result.andThen_ok, Sem.run_bind, run_equalIn_int w d 5 .u8 .u8 _ _ Sakg.underlying5, Result.andThen_ok]
    rw [drop_cons xs k (by omega), drop_cons ys k (by omega)]
    by_cases h : xs.getD k 0 = ys.getD k 0
    · have e : (xs.getD k 0 == ys.getD k 0) = true := by simpa using h
      rw [e]
      simp only [Bool.not_true, Bool.false_eq_true, if_false, Sem.run_pure, Result.andThen_ok]
      rw [run_arr_loop w d xs ys m (k + 1) (by omega) (by omega), h]
      simp
    · have e : (xs.getD k 0 == ys.getD k 0) = false := by simpa using h
      rw [e]
      simp only [Bool.not_false, if_true, Sem.run_pure, Result.andThen_ok]
      rw [if_neg (by simp only [List.cons.injEq]; exact fun hh => h hh.1)]

theorem run_arr_eq (w : World) (t : TypeId) (n d : Nat) (ht : Sakg.prog.underlying t = some (.array n 5)) (xs ys : List Int) (hx : xs.length = n) (hy : ys.length = n) :
    (Op.equalIn (d + 2) t (.agg (bv xs).toArray) (.agg (bv ys).toArray)).run Sakg.prog w = .ok (decide (xs = ys)) w := by
  obtain ⟨i0, hi, hz0, hz1, hz2⟩ := info_parts Sakg.info5
  have hsz : (sizeOf 5).run Sakg.prog w = .ok 1 w := by simp [sizeOf, typeInfo, hi, hz1]
  rw [Op.equalIn]
  simp only [Sem.run_bind, run_underlying ht, Result.andThen_ok, hsz, Std.Legacy.Range.forIn_eq_forIn_range']
  have hl := run_arr_loop w d xs ys n 0 (by omega) (by omega)
  have es : [:n].size = n := by simp [Std.Legacy.Range.size]
  rw [es]
  rw [hl]
  simp only [List.drop_zero, Result.andThen_ok]
  by_cases h : xs = ys
  · rw [if_pos h, decide_eq_true h]; simp
  · rw [if_neg h, decide_eq_false h]; simp

/-! ### guards -/
section
variable {P : Program} {ops : Array Oper} {Q : Exit → Act → World → Prop} {rest : List Oper} {d : Option Tmp} {ty : TypeId} {p : String} {af : Array Edge} {g : Option (Nat × Bool)} {a : Act} {w : World}
theorem at_load (t : TypeId) {x : Operand} (h : wpList P ops Q (⟨d, .load t x, ty, p, af, g⟩ :: rest) a w) : wpList P ops Q (⟨d, .load t x, ty, p, af, g⟩ :: rest) a w := h
theorem at_store (t : TypeId) {x y : Operand} (h : wpList P ops Q (⟨d, .store t x y, ty, p, af, g⟩ :: rest) a w) : wpList P ops Q (⟨d, .store t x y, ty, p, af, g⟩ :: rest) a w := h
theorem at_append {s x : Operand} {t1 t2 : TypeId} (h : wpList P ops Q (⟨d, .call { callee := .builtin .append, args := #[s, x], argTypes := #[t1, t2] }, ty, p, af, g⟩ :: rest) a w) :
    wpList P ops Q (⟨d, .call { callee := .builtin .append, args := #[s, x], argTypes := #[t1, t2] }, ty, p, af, g⟩ :: rest) a w := h
end

/-! ### a block that is known whole -/
def RowT (t : TypeId) (w : World) (g : Nat) (cs : List Value) : Prop := w.heap[g]? = some (.cells cs.toArray t (0, 0))

theorem RowT.lt {t : TypeId} {w : World} {g : Nat} {cs : List Value} (h : RowT t w g cs) : g < w.heap.size := by
  rcases Nat.lt_or_ge g w.heap.size with h' | h'
  · exact h'
  · unfold RowT at h; rw [Array.getElem?_eq_none h'] at h; cases h
theorem RowT.cell {t : TypeId} {w : World} {g : Nat} {cs : List Value} (h : RowT t w g cs) (i : Nat) : w.cell? ⟨g, i, none⟩ = cs[i]? := by
  rw [cell_of_row w g i _ _ _ h]
  simp
theorem RowT.froz {t : TypeId} {w : World} {g : Nat} {cs : List Value} (h : RowT t w g cs) (i : Nat) : w.frozen? ⟨g, i, none⟩ = false := frozen_of_row w g i _ _ h
theorem RowT.below {t : TypeId} {w w' : World} {g : Nat} {cs : List Value} (h : RowT t w g cs) {B : Nat} (hb : Below B w w') (hg : g < B) : RowT t w' g cs := by
  unfold RowT
  rw [hb.block g hg]
  exact h
theorem RowT.kept {t : TypeId} {w w' : World} {g : Nat} {cs : List Value} (h : RowT t w g cs) (hb : Below w.heap.size w w') : RowT t w' g cs := h.below hb h.lt
theorem RowT.only {t : TypeId} {w w' : World} {g g' : Nat} {cs : List Value} (h : RowT t w g' cs) (ho : Only g w w') (hne : g' ≠ g) : RowT t w' g' cs := by
  unfold RowT
  rw [ho.block g' hne]
  exact h
theorem RowT.new (t : TypeId) (w : World) (cs : List Value) : RowT t (w.alloc (.cells cs.toArray t)) w.heap.size cs := heap_alloc_new w _
theorem RowT.alloc {t : TypeId} {w : World} {g : Nat} {cs : List Value} (h : RowT t w g cs) (o : Obj) : RowT t (w.alloc o) g cs := h.kept ((Below.refl _ _).alloc (Nat.le_refl _) _)
theorem RowT.range {t : TypeId} {w : World} {g : Nat} {cs : List Value} (h : RowT t w g cs) (o n : Nat) : w.rangeAt g o ((cs.drop o).take n) := by
  intro j v hv
  rw [h.cell]
  rw [List.getElem?_take] at hv
  split at hv
  · rw [List.getElem?_drop] at hv; exact hv
  · cases hv
theorem RowT.rangeAll {t : TypeId} {w : World} {g : Nat} {cs : List Value} (h : RowT t w g cs) : w.rangeAt g 0 cs := by
  intro j v hv
  rw [h.cell, Nat.zero_add]
  exact hv
theorem RowT.set {t : TypeId} {w : World} {g : Nat} {cs : List Value} (h : RowT t w g cs) (i : Nat) (v : Value) : RowT t (w.setCell ⟨g, i, none⟩ v) g (cs.set i v) := by
  unfold RowT
  rw [heap_setCell_same w g i _ _ _ h]
  simp

theorem range_below {w w' : World} {b o : Nat} {cs : List Value} (h : w.rangeAt b o cs) {B : Nat} (hb : Below B w w') (hB : cs ≠ [] → b < B) : w'.rangeAt b o cs := by
  intro j v hv
  have hne : cs ≠ [] := by intro h0; subst h0; simp at hv
  rw [hb.cell (p := ⟨b, o + j, none⟩) (hB hne)]
  exact h j v hv
theorem range_lt {w : World} {b o : Nat} {cs : List Value} (h : w.rangeAt b o cs) (hne : cs ≠ []) : b < w.heap.size := by
  match cs, hne with
  | c :: cs, _ => exact World.block_lt_of_cell? w _ (h 0 c rfl)
theorem range_kept {w w' : World} {b o : Nat} {cs : List Value} (h : w.rangeAt b o cs) (hb : Below w.heap.size w w') : w'.rangeAt b o cs := range_below h hb (range_lt h)
theorem range_only {w w' : World} {g b o : Nat} {cs : List Value} (h : w.rangeAt b o cs) (ho : Only g w w') (hne : cs ≠ [] → b ≠ g) : w'.rangeAt b o cs := by
  intro j v hv
  have hn : cs ≠ [] := by intro h0; subst h0; simp at hv
  rw [ho.cell ⟨b, o + j, none⟩ (hne hn)]
  exact h j v hv

/-- a struct or an array is loaded, the operation's guard saying yes -/
theorem wpList_load_g {w : World} {ops : Array Oper} {rest : List Oper} {op : Oper} {a : Act} {Q : Exit → Act → World → Prop} (hw : Region.wanted op (yielded ops a.tmps) = true) (ty : TypeId) (x : Operand) (ho : op.op = .load ty x)
    (b o : Nat) (hx : a.eval x = .pointer (some ⟨b, o, none⟩)) (cs : List Value) (d : TypeDesc) (hc : w.rangeAt b o cs)
    (hu : Sakg.prog.underlying ty = some d) (hd : d.isRow = true) (hi : (Sakg.prog.info? ty).map (·.size) = some cs.length)
    (h : wpList Sakg.prog ops Q rest (a.put op.dst (.agg cs.toArray)) w) : wpList Sakg.prog ops Q (op :: rest) a w :=
  BigFrame.wpList_want hw fun _ hK => wp_load_mid ty x ho b o hx cs d hc hu hd hi (hK _ _ h)

def spl (zs : List Value) (o : Nat) (cs : List Value) : List Value := zs.take o ++ cs ++ zs.drop (o + cs.length)
theorem spl_len (zs : List Value) (o : Nat) (cs : List Value) (h : o + cs.length ≤ zs.length) : (spl zs o cs).length = zs.length := by simp [spl]; omega
theorem spl_step (zs : List Value) (o : Nat) (v : Value) (r : List Value) (h : o + (r.length + 1) ≤ zs.length) : spl (zs.set o v) (o + 1) r = spl zs o (v :: r) := by
  unfold spl
  rw [List.take_succ_eq_append_getElem (by simp; omega), List.getElem_set_self, List.take_set_of_le (Nat.le_refl _), List.drop_set_of_lt (by omega)]
  simp only [List.append_assoc, List.length_cons, List.cons_append, List.nil_append]
  rw [show o + 1 + r.length = o + (r.length + 1) from by omega]
theorem spl_all (zs cs : List Value) (h : zs.length = cs.length) : spl zs 0 cs = cs := by simp [spl, ← h]

theorem row_setCells (t : TypeId) (g : Nat) : ∀ (cs : List Value) (o : Nat) (zs : List Value) (w : World), RowT t w g zs → o + cs.length ≤ zs.length → RowT t (w.setCells g o cs) g (spl zs o cs) ∧ Only g w (w.setCells g o cs)
  | [], o, zs, w, h, _ => by
    have : spl zs o [] = zs := by simp [spl]
    rw [this]
    exact ⟨h, Only.refl _ _⟩
  | v :: r, o, zs, w, h, hl => by
    simp only [List.length_cons] at hl
    have ih := row_setCells t g r (o + 1) (zs.set o v) (w.setCell ⟨g, o, none⟩ v) (h.set o v) (by simp; omega)
    rw [spl_step zs o v r hl] at ih
    exact ⟨ih.1, ((Only.refl g w).setCell o v).trans ih.2⟩

/-- a part of a block is written -/
theorem wpList_store_part {w : World} {ops : Array Oper} {rest : List Oper} {op : Oper} {a : Act} {Q : Exit → Act → World → Prop} (hgd : op.guard = none) (ty : TypeId) (x y : Operand) (ho : op.op = .store ty x y)
    (g o : Nat) (t : TypeId) (zs cs : List Value) (hx : a.eval x = .pointer (some ⟨g, o, none⟩)) (hy : a.eval y = .agg cs.toArray) (hg : RowT t w g zs) (hz : o + cs.length ≤ zs.length)
    (hi : (Sakg.prog.info? ty).map (·.size) = some cs.length) (h1 : ∀ v ∈ cs, v.oneCell' = true)
    (h : ∀ w', RowT t w' g (spl zs o cs) → Only g w w' → wpList Sakg.prog ops Q rest (a.put op.dst undef) w') : wpList Sakg.prog ops Q (op :: rest) a w := by
  have hrow := row_setCells t g cs o zs w hg hz
  refine wpList_store_mid hgd ty x y ho g o cs.toArray hx hy ?_ (by simpa using hi) (by simpa using h1) (h _ hrow.1 hrow.2)
  intro j hj
  rw [hg.cell, hg.froz]
  simp at hj
  simp
  omega

/-- a whole block is written -/
theorem wpList_store_whole {w : World} {ops : Array Oper} {rest : List Oper} {op : Oper} {a : Act} {Q : Exit → Act → World → Prop} (hgd : op.guard = none) (ty : TypeId) (x y : Operand) (ho : op.op = .store ty x y)
    (g : Nat) (t : TypeId) (zs cs : List Value) (hx : a.eval x = .pointer (some ⟨g, 0, none⟩)) (hy : a.eval y = .agg cs.toArray) (hg : RowT t w g zs) (hz : zs.length = cs.length)
    (hi : (Sakg.prog.info? ty).map (·.size) = some cs.length) (h1 : ∀ v ∈ cs, v.oneCell' = true)
    (h : ∀ w', RowT t w' g cs → Only g w w' → wpList Sakg.prog ops Q rest (a.put op.dst undef) w') : wpList Sakg.prog ops Q (op :: rest) a w := by
  refine wpList_store_part hgd ty x y ho g 0 t zs cs hx hy hg (by omega) hi h1 ?_
  intro w' h2 h3
  rw [spl_all zs cs hz] at h2
  exact h w' h2 h3

/-! ### slices of rows -/
/-- a slice whose elements take 'sz' cells each -/
structure Rws (w : World) (sz : Nat) (ao : Option Addr) (l c : Nat) (rows : List (List Value)) : Prop where
  len_eq : rows.length = l
  le : l ≤ c
  max : c ≤ maxLen
  sz_eq : ∀ r ∈ rows, r.length = sz
  nil : ao = none → l = 0 ∧ c = 0
  at_ : 0 < l → ∃ b off, ao = some ⟨b, off, none⟩ ∧ b < w.heap.size ∧ ∀ i, i < l → w.rangeAt b (off + i * sz) (rows.getD i [])

theorem Rws.ofNil (w : World) (sz : Nat) : Rws w sz none 0 0 [] := ⟨rfl, by omega, by simp, fun _ h => by simp at h, fun _ => ⟨rfl, rfl⟩, fun h => by omega⟩
theorem Rws.kept {w w' : World} {sz : Nat} {ao : Option Addr} {l c : Nat} {rows : List (List Value)} (h : Rws w sz ao l c rows) (hb : Below w.heap.size w w') : Rws w' sz ao l c rows := by
  refine ⟨h.len_eq, h.le, h.max, h.sz_eq, h.nil, fun hl => ?_⟩
  obtain ⟨b, off, ha, hlt, hc⟩ := h.at_ hl
  exact ⟨b, off, ha, by have := hb.size; omega, fun i hi => range_below (hc i hi) hb (fun _ => hlt)⟩
theorem Rws.only {w w' : World} {g sz : Nat} {ao : Option Addr} {l c : Nat} {rows : List (List Value)} (h : Rws w sz ao l c rows) (ho : Only g w w') (hne : ∀ x, ao = some x → 0 < l → x.block ≠ g) : Rws w' sz ao l c rows := by
  refine ⟨h.len_eq, h.le, h.max, h.sz_eq, h.nil, fun hl => ?_⟩
  obtain ⟨b, off, ha, hlt, hc⟩ := h.at_ hl
  exact ⟨b, off, ha, by rw [ho.size]; exact hlt, fun i hi => range_only (hc i hi) ho (fun _ => hne _ ha hl)⟩

theorem flat_get (sz : Nat) : ∀ (rows : List (List Value)) (i : Nat), (∀ r ∈ rows, r.length = sz) → i < rows.length → ∀ j v, (rows.getD i [])[j]? = some v → rows.flatten[i * sz + j]? = some v
  | [], i, _, hi, _, _, _ => by simp at hi
  | r :: rows, 0, hs, _, j, v, hv => by
    have hr := hs r (by simp)
    have hv' : r[j]? = some v := hv
    have hj : j < r.length := by
      rcases Nat.lt_or_ge j r.length with h | h
      · exact h
      · rw [List.getElem?_eq_none h] at hv'; cases hv'
    rw [List.flatten_cons, Nat.zero_mul, Nat.zero_add, List.getElem?_append_left hj]
    exact hv'
  | r :: rows, i + 1, hs, hi, j, v, hv => by
    have hr := hs r (by simp)
    have ih := flat_get sz rows i (fun x hx => hs x (by simp [hx])) (by simpa using hi) j v (by simpa using hv)
    rw [List.flatten_cons, List.getElem?_append_right (by rw [hr, Nat.succ_mul]; omega), hr]
    rw [show (i + 1) * sz + j - sz = i * sz + j from by rw [Nat.succ_mul]; omega]
    exact ih
theorem flat_len (sz : Nat) : ∀ (rows : List (List Value)), (∀ r ∈ rows, r.length = sz) → rows.flatten.length = rows.length * sz
  | [], _ => by simp
  | r :: rows, hs => by
    rw [List.flatten_cons, List.length_append, flat_len sz rows (fun x hx => hs x (by simp [hx])), hs r (by simp), List.length_cons, Nat.succ_mul]
    omega

/-- what the call itself gathered is read -/
theorem own_rws {w : World} {base e sz : Nat} {v : Value} {n : Nat} {rows : List (List Value)} (h : w.ownsRow base e sz v n rows.flatten) (hs : ∀ r ∈ rows, r.length = sz) (hn : rows.length = n) : ∃ a c, v = .slice a n c ∧ Rws w sz a n c rows := by
  have hlt := h.lt
  have hcl := fun g => h.cells (g := g)
  obtain ⟨hl, hc⟩ := h
  rcases hc with ⟨rfl, rfl⟩ | ⟨g, cap, cur, rfl, hbg, hg, hnc, hcm, hcs, htake⟩
  · obtain rfl : rows = [] := List.eq_nil_of_length_eq_zero hn
    exact ⟨none, 0, rfl, Rws.ofNil w sz⟩
  · refine ⟨some ⟨g, 0, none⟩, cap, rfl, hn, hnc, hcm, hs, (fun h => by cases h), fun _ => ⟨g, 0, rfl, (hlt g rfl).2, fun i hi j u hu => ?_⟩⟩
    have := hcl g rfl (i * sz + j) u (flat_get sz rows i hs (by omega) j u hu)
    rw [addAt] at this
    rw [Nat.add_assoc]
    exact this

/-- 'append(dst, row)': one element, out of the block that the statement has just laid -/
theorem wpList_append_one {w : World} {ops : Array Oper} {rest : List Oper} {o : Oper} {a : Act} {Q : Exit → Act → World → Prop} (hgd : o.guard = none) (s x : Operand) (t : TypeId)
    (ho : o.op = .call { callee := .builtin .append, args := #[s, x], argTypes := #[t, t] }) (e : TypeId) (sz bytes : Nat) (ht : Sakg.prog.underlying t = some (.slice e))
    (i0 : TypeInfo) (z : Value) (hi : Sakg.prog.info? e = some i0) (hz0 : i0.zero = some z) (hz1 : i0.size = sz) (hz2 : i0.bytes = bytes) (hz3 : z.cells.size = sz) (hsz : 0 < sz)
    (base : Nat) (v : Value) (n : Nat) (rows : List (List Value)) (hs : a.eval s = v) (hown : w.ownsRow base e sz v n rows.flatten)
    (g : Nat) (t' : TypeId) (row : List Value) (hx : a.eval x = .slice (some ⟨g, 0, none⟩) 1 1) (hrow : RowT t' w g row) (hrl : row.length = sz) (h1 : ∀ u ∈ row, u.oneCell' = true) (hb : (n + 1) * bytes ≤ 140737488355328) (hn : n + 1 ≤ 140737488355328) (hbase : base ≤ w.heap.size)
    (h : ∀ v' w', w'.ownsRow base e sz v' (n + 1) (rows ++ [row]).flatten → Below base w w' → w.grownBy w' v.ownBlock → wpList Sakg.prog ops Q rest (a.put o.dst v') w') : wpList Sakg.prog ops Q (o :: rest) a w := by
  refine wpList_append_own w hgd s x t ho base e i0 z sz bytes ht hi hz0 hz1 hz2 hz3 hsz v n rows.flatten hs hown ⟨g, 0, none⟩ 1 1 row hx (by omega) ?_ h1 (by unfold maxLen; omega) hb hbase ?_
  · intro j u hj
    rw [addAt, Nat.zero_add, hrow.cell]
    exact hj
  · intro v' w' ho' hg _
    refine h v' w' (by rw [List.flatten_append, List.flatten_cons, List.flatten_nil, List.append_nil]; exact ho') ((Below.refl base w).grown hg hbase ?_) hg
    intro k hk
    exact (hown.lt k hk).1

theorem grown_of_below {w w' : World} (hb : Below w.heap.size w w') : w.grownBy w' none := ⟨hb.os, hb.tape, hb.output, hb.size, fun k hk _ => hb.block k hk⟩
theorem own_kept {w w' : World} {base : Nat} {e : TypeId} {sz : Nat} {v : Value} {n : Nat} {xs : List Value} (h : w.ownsRow base e sz v n xs) (hb : Below w.heap.size w w') : w'.ownsRow base e sz v n xs := by
  refine h.kept (grown_of_below hb) ?_
  cases hv : v.ownBlock with
  | none => exact .inl rfl
  | some k => exact .inr (by simp)
/-- a new box, filled -/
theorem box_below {w w' : World} {o : Obj} (h : Only w.heap.size (w.alloc o) w') : Below w.heap.size w w' ∧ w'.heap.size = w.heap.size + 1 :=
  ⟨((Below.refl _ _).alloc (Nat.le_refl _) _).trans (h.below _ (Nat.le_refl _)), by rw [h.size]; simp⟩

theorem RowT.grown {t : TypeId} {w w' : World} {g : Nat} {cs : List Value} {row : Option Nat} (h : RowT t w g cs) (hg : w.grownBy w' row) (hne : some g ≠ row) : RowT t w' g cs := by
  unfold RowT
  rw [hg.block g h.lt hne]
  exact h

/-! ### build and buildSlice with parts that are aggregates -/
theorem set_fold : ∀ (cs : List Value) (off k : Nat) (Z : List Value), off + k + cs.length ≤ Z.length → (cs.zipIdx k).foldl (fun (A : Array Value) (x : Value × Nat) => A.setIfInBounds (off + x.2) x.1) Z.toArray = (spl Z (off + k) cs).toArray
  | [], off, k, Z, _ => by simp [spl]
  | c :: cs, off, k, Z, h => by
    simp only [List.length_cons] at h
    rw [List.zipIdx_cons, List.foldl_cons]
    have e : (Z.toArray.setIfInBounds (off + (c, k).2) (c, k).1) = (Z.set (off + k) c).toArray := by simp
    rw [e, set_fold cs off (k + 1) (Z.set (off + k) c) (by simp; omega), ← spl_step Z (off + k) c cs (by omega)]
    rfl

theorem fill_cons (place : Nat → Option (Nat × Nat)) (Z : List Value) (i : Nat) (v : Value) (rest : List (Nat × Value)) (off size : Nat) (hp : place i = some (off, size)) (cs : List Value) (hv : v.cells = cs.toArray) (hs : cs.length = size) (hz : off + size ≤ Z.length) :
    Instr.fill place Z.toArray ((i, v) :: rest) = Instr.fill place (spl Z off cs).toArray rest := by
  rw [Instr.fill, hp]
  simp only [hv]
  rw [if_neg (by simp [hs]; omega)]
  congr 1
  have := set_fold cs off 0 Z (by omega)
  rw [Nat.add_zero] at this
  rw [← this]
  simp

theorem at_buildSlice {P : Program} {ops : Array Oper} {Q : Exit → Act → World → Prop} {rest : List Oper} {d : Option Tmp} {ty : TypeId} {p : String} {af : Array Edge} {g : Option (Nat × Bool)} {a : Act} {w : World} {t : TypeId} {n : Nat} {parts : Array (Nat × Operand)}
    (h : wpList P ops Q (⟨d, .buildSlice t n parts, ty, p, af, g⟩ :: rest) a w) : wpList P ops Q (⟨d, .buildSlice t n parts, ty, p, af, g⟩ :: rest) a w := h

theorem run_build_one (w : World) (t e : TypeId) (sz : Nat) (ht : Sakg.prog.underlying t = some (.slice e)) (i0 : TypeInfo) (z : Value) (hi : Sakg.prog.info? e = some i0) (hz0 : i0.zero = some z) (hz1 : i0.size = sz) (hz3 : z.cells.size = sz) (hsz : 0 < sz) (hlim : sz ≤ 16777216)
    (v : Value) (cs : List Value) (hv : v.cells = cs.toArray) (hl : cs.length = sz) :
    (Instr.buildSlice t 1 #[(0, v)]).run Sakg.prog w = .ok (.slice (some ⟨w.heap.size, 0, none⟩) 1 1) (w.alloc (.cells cs.toArray e)) := by
  obtain ⟨Z, hZ⟩ : ∃ Z : List Value, ((Array.range (1 * sz)).map (z.cells[· % z.cells.size]!)) = Z.toArray := ⟨_, rfl⟩
  have hZl : Z.length = sz := by
    have := congrArg Array.size hZ
    simp at this
    omega
  have hf : Instr.fill (fun i => some (i * sz, sz)) Z.toArray [(0, v)] = some cs.toArray := by
    rw [fill_cons (fun i => some (i * sz, sz)) Z 0 v [] (0 * sz) sz rfl cs hv hl (by omega), Instr.fill]
    rw [Nat.zero_mul, spl_all Z cs (by omega)]
  have n0 : ¬ sz = 0 := by omega
  have n1 : ¬ 2 ^ 24 < 1 * sz := by omega
  unfold Instr.buildSlice
  simp only [Sem.run_bind, run_underlying ht, Result.andThen_ok]
  have hs : (sizeOf e).run Sakg.prog w = .ok sz w := by simp [sizeOf, typeInfo, hi, hz1]
  have hzv : (zeroValue e).run Sakg.prog w = .ok z w := by simp [zeroValue, typeInfo, hi, hz0]
  simp only [hs, Result.andThen_ok]
  rw [if_neg (by omega), if_neg (by omega)]
  simp only [Sem.run_bind, Sem.run_pure, hzv, Result.andThen_ok, hZ, hf]
  simp [newRow]

theorem wpList_build_one {w : World} {ops : Array Oper} {rest : List Oper} {o : Oper} {a : Act} {Q : Exit → Act → World → Prop} (hgd : o.guard = none) (t : TypeId) (x : Operand) (ho : o.op = .buildSlice t 1 #[(0, x)]) (e : TypeId) (sz : Nat) (ht : Sakg.prog.underlying t = some (.slice e))
    (i0 : TypeInfo) (z : Value) (hi : Sakg.prog.info? e = some i0) (hz0 : i0.zero = some z) (hz1 : i0.size = sz) (hz3 : z.cells.size = sz) (hsz : 0 < sz) (hlim : sz ≤ 16777216)
    (cs : List Value) (hx : a.eval x = .agg cs.toArray) (hl : cs.length = sz)
    (h : wpList Sakg.prog ops Q rest (a.put o.dst (.slice (some ⟨w.heap.size, 0, none⟩) 1 1)) (w.alloc (.cells cs.toArray e))) : wpList Sakg.prog ops Q (o :: rest) a w := by
  refine wpList_plain hgd fun K hK => ?_
  have hrun := run_build_one w t e sz ht i0 z hi hz0 hz1 hz3 hsz hlim (.agg cs.toArray) cs rfl hl
  unfold Oper.wp
  simp [execOp, ho, hx, hrun, Result.andThen]
  exact hK _ _ h

theorem at_build {P : Program} {ops : Array Oper} {Q : Exit → Act → World → Prop} {rest : List Oper} {d : Option Tmp} {ty : TypeId} {p : String} {af : Array Edge} {g : Option (Nat × Bool)} {a : Act} {w : World} (t : TypeId) {parts : Array (Nat × Operand)}
    (h : wpList P ops Q (⟨d, .build t parts, ty, p, af, g⟩ :: rest) a w) : wpList P ops Q (⟨d, .build t parts, ty, p, af, g⟩ :: rest) a w := h

/-- where a struct's fields lie -/
def PlacesOf (t : TypeId) (places : Array (Nat × Nat)) : Prop := Sakg.prog.underlying t = some (.struct (Sakg.prog.fieldsOf t)) ∧ ∀ w, (((Sakg.prog.fieldsOf t).mapM fun (f : Field) => do pure (f.offset, ← sizeOf f.type)) : Sem (Array (Nat × Nat))).run Sakg.prog w = .ok places w

theorem run_build_struct (w : World) (t : TypeId) (places : Array (Nat × Nat)) (hp : PlacesOf t places) (i0 : TypeInfo) (z : Value) (hi : Sakg.prog.info? t = some i0) (hz0 : i0.zero = some z) (Z : List Value) (hZ : z.cells = Z.toArray)
    (parts : Array (Nat × Value)) (cs : List Value) (hf : Instr.fill (places[·]?) Z.toArray parts.toList = some cs.toArray) : (Instr.build t parts).run Sakg.prog w = .ok (.agg cs.toArray) w := by
  have hzv : (zeroValue t).run Sakg.prog w = .ok z w := by simp [zeroValue, typeInfo, hi, hz0]
  unfold Instr.build
  simp only [Sem.run_bind, hzv, Result.andThen_ok, run_underlying hp.1, hp.2, hZ, hf, Sem.run_pure]

theorem wpList_build_struct {w : World} {ops : Array Oper} {rest : List Oper} {o : Oper} {a : Act} {Q : Exit → Act → World → Prop} (hw : Region.wanted o (yielded ops a.tmps) = true) (t : TypeId) (ps : List (Nat × Operand)) (ho : o.op = .build t ps.toArray)
    (places : Array (Nat × Nat)) (hp : PlacesOf t places) (i0 : TypeInfo) (z : Value) (hi : Sakg.prog.info? t = some i0) (hz0 : i0.zero = some z) (Z : List Value) (hZ : z.cells = Z.toArray)
    (cs : List Value) (hf : Instr.fill (places[·]?) Z.toArray (ps.map fun p => (p.1, a.eval p.2)) = some cs.toArray)
    (h : wpList Sakg.prog ops Q rest (a.put o.dst (.agg cs.toArray)) w) : wpList Sakg.prog ops Q (o :: rest) a w := by
  refine BigFrame.wpList_want hw fun K hK => ?_
  have hrun := run_build_struct w t places hp i0 z hi hz0 Z hZ (ps.map fun p => (p.1, a.eval p.2)).toArray cs hf
  unfold Oper.wp
  simp only [execOp, ho, Sem.run_bind, List.map_toArray]
  rw [hrun]
  exact hK _ _ h

end Go.Proofs.YgcsakGreat
