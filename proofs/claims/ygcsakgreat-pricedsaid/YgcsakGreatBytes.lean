/-
  Byte slices as lists of integers: 'Src' (a slice that is read), the append law over it, string conversion.
-/
import Derived.Test.YgcsakGreatProg
import Derived.WalkKit
import Derived.WalkSpells
import Derived.WalkLawsBesides
import Derived.Laws.BytesArg
namespace Go.Proofs.YgcsakGreat
set_option linter.unusedVariables false
set_option linter.unusedSimpArgs false
open Go.RowKit

theorem Sakg.info5 : (Sakg.prog.info? 5).map (fun i => (i.zero, i.size, i.bytes)) = some (some (.int .u8 0), 1, 1) := by kernel_rfl

theorem hide {p : Prop} (h : p) : Hid p := h
theorem unhide {p : Prop} (h : Hid p) : p := h

/-- the cells of a list of bytes -/
def bv (xs : List Int) : List Value := xs.map (Value.int .u8)

theorem bv_len (xs : List Int) : (bv xs).length = xs.length := by simp [bv]
theorem bv_append (xs ys : List Int) : bv (xs ++ ys) = bv xs ++ bv ys := by simp [bv]
theorem bv_get (xs : List Int) (j : Nat) (u : Value) (h : (bv xs)[j]? = some u) : j < xs.length ∧ u = .int .u8 (xs.getD j 0) := by
  unfold bv at h
  rw [List.getElem?_map] at h
  cases hj : xs[j]? with
  | none => rw [hj] at h; simp at h
  | some x =>
    rw [hj] at h
    simp at h
    have hlt : j < xs.length := by
      rcases Nat.lt_or_ge j xs.length with h' | h'
      · exact h'
      · rw [List.getElem?_eq_none h'] at hj; simp at hj
    exact ⟨hlt, by rw [← h]; simp [List.getD, hj]⟩
theorem bv_one (xs : List Int) : ∀ u ∈ bv xs, u.oneCell' = true := by
  intro u hu
  unfold bv at hu
  simp at hu
  obtain ⟨x, _, rfl⟩ := hu
  rfl

theorem addAt (b off i : Nat) : (⟨b, off, none⟩ : Addr).add i = ⟨b, off + i, none⟩ := by simp [Addr.add]

/-- all bytes -/
def Byt (xs : List Int) : Prop := ∀ x ∈ xs, 0 ≤ x ∧ x ≤ 255

theorem Byt.append {xs ys : List Int} (h : Byt xs) (k : Byt ys) : Byt (xs ++ ys) := by
  intro x hx
  rcases List.mem_append.1 hx with h' | h'
  · exact h x h'
  · exact k x h'
theorem Byt.get {xs : List Int} (h : Byt xs) (j : Nat) : 0 ≤ xs.getD j 0 ∧ xs.getD j 0 ≤ 255 := by
  rw [List.getD_eq_getElem?_getD]
  cases hj : xs[j]? with
  | none => simp
  | some x => simpa using h x (List.mem_of_getElem? hj)
theorem Byt.take {xs : List Int} (h : Byt xs) (n : Nat) : Byt (xs.take n) := fun x hx => h x (List.mem_of_mem_take hx)
theorem Byt.drop {xs : List Int} (h : Byt xs) (n : Nat) : Byt (xs.drop n) := fun x hx => h x (List.mem_of_mem_drop hx)

/-- WHAT IS KNOWN OF A SLICE OF BYTES THAT IS READ: its elements are xs. -/
structure Src (w : World) (a : Option Addr) (len cap : Nat) (xs : List Int) : Prop where
  len_eq : xs.length = len
  le : len ≤ cap
  max : cap ≤ maxLen
  byt : Byt xs
  nil : a = none → len = 0 ∧ cap = 0
  at_ : 0 < len → ∃ b off, a = some ⟨b, off, none⟩ ∧ ∀ i, i < len → w.cell? ⟨b, off + i, none⟩ = some (.int .u8 (xs.getD i 0))

theorem Src.ofNil (w : World) : Src w none 0 0 [] := ⟨rfl, by omega, by simp, fun _ h => by simp at h, fun _ => ⟨rfl, rfl⟩, fun h => by omega⟩

theorem Src.below {w w' : World} {a : Option Addr} {len cap : Nat} {xs : List Int} {B : Nat} (h : Src w a len cap xs) (hb : Below B w w') (hB : ∀ x, a = some x → 0 < len → x.block < B) : Src w' a len cap xs := by
  refine ⟨h.len_eq, h.le, h.max, h.byt, h.nil, fun hl => ?_⟩
  obtain ⟨b, off, ha, hc⟩ := h.at_ hl
  refine ⟨b, off, ha, fun i hi => ?_⟩
  rw [hb.cell (p := ⟨b, off + i, none⟩) (by exact hB ⟨b, off, none⟩ ha hl)]
  exact hc i hi

theorem Src.lt {w : World} {a : Option Addr} {len cap : Nat} {xs : List Int} (h : Src w a len cap xs) : ∀ x, a = some x → 0 < len → x.block < w.heap.size := by
  intro x hx hl
  obtain ⟨b, off, ha, hc⟩ := h.at_ hl
  rw [hx] at ha
  obtain rfl := Option.some.inj ha
  exact World.block_lt_of_cell? w _ (hc 0 hl)

/-- What was there when the call began is still there. -/
theorem Src.kept {w w' : World} {a : Option Addr} {len cap : Nat} {xs : List Int} (h : Src w a len cap xs) (hb : Below w.heap.size w w') : Src w' a len cap xs :=
  h.below hb h.lt

theorem Src.alloc {w : World} {a : Option Addr} {len cap : Nat} {xs : List Int} (h : Src w a len cap xs) (o : Obj) : Src (w.alloc o) a len cap xs :=
  h.kept ((Below.refl _ _).alloc (Nat.le_refl _) _)

/-- What the call itself made is read. -/
theorem own_src {w : World} {base : Nat} {v : Value} {n : Nat} {xs : List Int} (h : w.ownsRow base 5 1 v n (bv xs)) (hx : Byt xs) : ∃ a cap, v = .slice a n cap ∧ Src w a n cap xs := by
  obtain ⟨hl, hc⟩ := h
  rw [bv_len] at hl
  rcases hc with ⟨rfl, rfl⟩ | ⟨g, cap, cur, rfl, hbg, hg, hnc, hcm, hcs, htake⟩
  · have : xs = [] := List.eq_nil_of_length_eq_zero (by simpa using hl)
    subst this
    exact ⟨none, 0, rfl, Src.ofNil w⟩
  · refine ⟨some ⟨g, 0, none⟩, cap, rfl, by simpa using hl, hnc, hcm, hx, (fun h => by cases h), fun hn => ⟨g, 0, rfl, fun i hi => ?_⟩⟩
    have h1 : (cur.toList.take (n * 1))[i]? = (bv xs)[i]? := by rw [htake]
    have hi2 : i < xs.length := by omega
    rw [List.getElem?_take, if_pos (by omega)] at h1
    simp only [World.cell?, Nat.zero_add, hg]
    rw [Array.getElem?_toList] at h1
    rw [h1]
    simp [bv, hi2, List.getD]

/-- The append law for 'append(dst, src...)'. -/
theorem wpList_append_src {w : World} {ops : Array Oper} {rest : List Oper} {o : Oper} {a : Act} {Q : Exit → Act → World → Prop} (hgd : o.guard = none) (s x : Operand)
    (ho : o.op = .call { callee := .builtin .append, args := #[s, x], argTypes := #[30, 30] })
    (base : Nat) (v : Value) (n : Nat) (xs : List Int) (hs : a.eval s = v) (hown : w.ownsRow base 5 1 v n (bv xs))
    (ao : Option Addr) (m c : Nat) (ys : List Int) (hx : a.eval x = .slice ao m c) (hsrc : Src w ao m c ys) (hb : n + m ≤ 140737488355328) (hbase : base ≤ w.heap.size)
    (h : ∀ v' w', w'.ownsRow base 5 1 v' (n + m) (bv (xs ++ ys)) → Below base w w' → wpList Sakg.prog ops Q rest (a.put o.dst v') w') : wpList Sakg.prog ops Q (o :: rest) a w := by
  obtain ⟨i0, hi, hz0, hz1, hz2⟩ := info_parts Sakg.info5
  cases ao with
  | none =>
    obtain ⟨rfl, rfl⟩ := hsrc.nil rfl
    have hy : ys = [] := List.eq_nil_of_length_eq_zero hsrc.len_eq
    subst hy
    refine wpList_plain hgd fun K hK => ?_
    have hrun := run_append_owned_none (P := Sakg.prog) (w := w) base 30 o.type 5 i0 1 Sakg.underlying30 hi v n (bv xs) hown
    unfold Oper.wp
    simp [execOp, ho, resolve, invoke, builtin, hs, hx, hrun, Result.andThen]
    exact hK _ _ (h v w (by simpa using hown) (Below.refl _ _))
  | some ad =>
    refine wpList_append_own w hgd s x 30 ho base 5 i0 (.int .u8 0) 1 1 Sakg.underlying30 hi hz0 hz1 hz2 rfl (by decide) v n (bv xs) hs hown ad m c (bv ys) hx (by simp [bv_len, hsrc.len_eq]) ?_ (bv_one ys) (by unfold maxLen; omega) (by omega) hbase ?_
    · intro j u hj
      obtain ⟨hlt, rfl⟩ := bv_get ys j u hj
      have hlen := hsrc.len_eq
      obtain ⟨b, off, ha, hc⟩ := hsrc.at_ (by omega)
      obtain rfl := Option.some.inj ha
      rw [addAt]
      exact hc j (by omega)
    · intro v' w' ho' hg _
      refine h v' w' (by rw [bv_append]; exact ho') ((Below.refl base w).grown hg hbase ?_)
      intro k hk
      exact (hown.lt k hk).1

end Go.Proofs.YgcsakGreat
