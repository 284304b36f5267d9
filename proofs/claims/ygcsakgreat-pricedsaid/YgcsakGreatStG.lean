/-
  what lasts, whatever comes to some blocks; append, and where the answer lies.
-/
import Derived.Test.YgcsakGreatRegB
namespace Go.Proofs.YgcsakGreat
set_option linter.unusedVariables false
set_option maxRecDepth 100000
open Go.RowKit

/-- of the blocks that were there none but those of G has turned -/
structure ChgS (G : Nat → Prop) (w w' : World) : Prop where
  os : w'.os = w.os
  tape : w'.tape = w.tape
  output : w'.output = w.output
  size : w.heap.size ≤ w'.heap.size
  block : ∀ k, k < w.heap.size → ¬ G k → w'.heap[k]? = w.heap[k]?
theorem ChgS.refl (G : Nat → Prop) (w : World) : ChgS G w w := ⟨rfl, rfl, rfl, Nat.le_refl _, fun _ _ _ => rfl⟩
theorem ChgS.of {G : Nat → Prop} {w w' : World} (h : Below w.heap.size w w') : ChgS G w w' := ⟨h.os, h.tape, h.output, h.size, fun k hk _ => h.block k hk⟩
theorem ChgS.chg {G : Nat → Prop} {g : Nat} {w w' : World} (h : Chg g w w') (hg : G g) : ChgS G w w' := ⟨h.os, h.tape, h.output, h.size, fun k hk hn => h.block k hk (fun e => hn (e ▸ hg))⟩
theorem ChgS.only {G : Nat → Prop} {g : Nat} {w w' : World} (h : Only g w w') (hg : G g) : ChgS G w w' := ⟨h.os, h.tape, h.output, Nat.le_of_eq h.size.symm, fun k hk hn => h.block k (fun e => hn (e ▸ hg))⟩
theorem ChgS.grown {G : Nat → Prop} {row : Option Nat} {w w' : World} (h : w.grownBy w' row) (hg : ∀ k, row = some k → G k) : ChgS G w w' := ⟨h.os, h.tape, h.output, h.size, fun k hk hn => h.block k hk (fun e => hn (hg k e.symm))⟩
/-- one after the other -/
theorem ChgS.then {G G' : Nat → Prop} {a b c : World} (h : ChgS G a b) (k : ChgS G' b c) (hG : ∀ i, G' i → i < a.heap.size → G i) : ChgS G a c :=
  ⟨k.os.trans h.os, k.tape.trans h.tape, k.output.trans h.output, Nat.le_trans h.size k.size, fun i hi hn => (k.block i (Nat.lt_of_lt_of_le hi h.size) (fun hg => hn (hG i hg hi))).trans (h.block i hi hn)⟩

def StabS (G : Nat → Prop) (P : World → Prop) (w : World) : Prop := ∀ w', ChgS G w w' → P w'
theorem StabS.now {G : Nat → Prop} {P : World → Prop} {w : World} (h : StabS G P w) : P w := h w (ChgS.refl _ _)
theorem StabS.go {G G' : Nat → Prop} {P : World → Prop} {w w' : World} (h : StabS G P w) (hc : ChgS G w w') (hG : ∀ i, G' i → i < w.heap.size → G i) : StabS G' P w' := fun w2 h2 => h w2 (hc.then h2 hG)
theorem StabS.stab {G : Nat → Prop} {g : Nat} {P : World → Prop} {w : World} (h : StabS G P w) (hg : G g) : Stab g P w := fun w' hc => h w' (ChgS.chg hc hg)

theorem ChgS.cell {G : Nat → Prop} {w w' : World} (h : ChgS G w w') (p : Addr) (hp : ¬ G p.block) (hl : p.block < w.heap.size) : w'.cell? p = w.cell? p := World.cell?_of_block (h.block _ hl hp)
def OffS (G : Nat → Prop) (A : Option Addr) (l : Nat) : Prop := ∀ x, A = some x → 0 < l → ¬ G x.block
theorem OffS.nil (G : Nat → Prop) (l : Nat) : OffS G none l := fun x h => by cases h
theorem StabS.src {G : Nat → Prop} {w : World} {A : Option Addr} {l c : Nat} {xs : List Int} (h : Src w A l c xs) (ho : OffS G A l) : StabS G (fun w => Src w A l c xs) w := by
  intro w' hc
  have hlt := h.lt
  refine ⟨h.len_eq, h.le, h.max, h.byt, h.nil, fun hl => ?_⟩
  obtain ⟨b, off, ha, hcs⟩ := h.at_ hl
  exact ⟨b, off, ha, fun i hi => (hc.cell ⟨b, off + i, none⟩ (ho ⟨b, off, none⟩ ha hl) (by exact hlt ⟨b, off, none⟩ ha hl)).trans (hcs i hi)⟩
theorem StabS.nat {G : Nat → Prop} {w : World} {A : Option Addr} {k c n : Nat} (h : IsNat w A k c n) (ho : OffS G A k) : StabS G (fun w => IsNat w A k c n) w := by
  intro w' hc
  obtain ⟨xs, h1, h2, h3, h4⟩ := h
  exact ⟨xs, StabS.src h1 ho w' hc, h2, h3, h4⟩
theorem StabS.rws {G : Nat → Prop} {w : World} {sz : Nat} {A : Option Addr} {l c : Nat} {rows : List (List Value)} (h : Rws w sz A l c rows) (ho : OffS G A l) : StabS G (fun w => Rws w sz A l c rows) w := by
  intro w' hc
  refine ⟨h.len_eq, h.le, h.max, h.sz_eq, h.nil, fun hl => ?_⟩
  obtain ⟨b, off, ha, hlt, hcs⟩ := h.at_ hl
  refine ⟨b, off, ha, Nat.lt_of_lt_of_le hlt hc.size, fun i hi j v hv => ?_⟩
  rw [hc.cell ⟨b, off + i * sz + j, none⟩ (ho ⟨b, off, none⟩ ha hl) hlt]
  exact hcs i hi j v hv

def SSlotS (G : Nat → Prop) (w : World) (r : List Value) (s : Nat × Nat) : Prop := ∃ A k c A' k' c', r = [.slice A k c, .slice A' k' c'] ∧ StabS G (fun w => IsNat w A k c s.1) w ∧ StabS G (fun w => IsNat w A' k' c' s.2) w
theorem SSlotS.go {G G' : Nat → Prop} {w w' : World} {r : List Value} {s : Nat × Nat} (h : SSlotS G w r s) (hc : ChgS G w w') (hG : ∀ i, G' i → i < w.heap.size → G i) : SSlotS G' w' r s := by
  obtain ⟨A, k, c, A', k', c', h1, h2, h3⟩ := h
  exact ⟨A, k, c, A', k', c', h1, h2.go hc hG, h3.go hc hG⟩
theorem SSlotS.stab {G : Nat → Prop} {g : Nat} {w : World} {r : List Value} {s : Nat × Nat} (h : SSlotS G w r s) (hg : G g) : SSlot g w r s := by
  obtain ⟨A, k, c, A', k', c', h1, h2, h3⟩ := h
  exact ⟨A, k, c, A', k', c', h1, h2.stab hg, h3.stab hg⟩
def SSlotsS (G : Nat → Prop) (w : World) (ao : Option Addr) (l c : Nat) (ss : List (Nat × Nat)) : Prop := ∃ rows, StabS G (fun w => Rws w 2 ao l c rows) w ∧ Each (SSlotS G w) rows ss
theorem SSlotsS.go {G G' : Nat → Prop} {w w' : World} {ao : Option Addr} {l c : Nat} {ss : List (Nat × Nat)} (h : SSlotsS G w ao l c ss) (hc : ChgS G w w') (hG : ∀ i, G' i → i < w.heap.size → G i) : SSlotsS G' w' ao l c ss := by
  obtain ⟨rows, h1, h2⟩ := h
  exact ⟨rows, h1.go hc hG, h2.imp fun _ _ h => h.go hc hG⟩
theorem SSlotsS.stab {G : Nat → Prop} {g : Nat} {w : World} {ao : Option Addr} {l c : Nat} {ss : List (Nat × Nat)} (h : SSlotsS G w ao l c ss) (hg : G g) : SSlots g w ao l c ss := by
  obtain ⟨rows, h1, h2⟩ := h
  exact ⟨rows, h1.stab hg, h2.imp fun _ _ h => h.stab hg⟩
def SAcctS (G : Nat → Prop) (w : World) (r : List Value) (d : YAcct) : Prop := ∃ A1 k1 c1 A2 k2 c2 A3 k3 c3 A4 k4 c4, r = bv d.addr ++ [.slice A1 k1 c1, .slice A2 k2 c2, .slice A3 k3 c3, .slice A4 k4 c4] ∧
  IsAddr d.addr ∧ StabS G (fun w => IsNat w A1 k1 c1 d.nonce) w ∧ StabS G (fun w => IsNat w A2 k2 c2 d.bal) w ∧ StabS G (fun w => Src w A3 k3 c3 d.code) w ∧ SSlotsS G w A4 k4 c4 d.slots
theorem SAcctS.go {G G' : Nat → Prop} {w w' : World} {r : List Value} {d : YAcct} (h : SAcctS G w r d) (hc : ChgS G w w') (hG : ∀ i, G' i → i < w.heap.size → G i) : SAcctS G' w' r d := by
  obtain ⟨A1, k1, c1, A2, k2, c2, A3, k3, c3, A4, k4, c4, h1, h2, h3, h4, h5, h6⟩ := h
  exact ⟨A1, k1, c1, A2, k2, c2, A3, k3, c3, A4, k4, c4, h1, h2, h3.go hc hG, h4.go hc hG, h5.go hc hG, h6.go hc hG⟩
theorem SAcctS.stab {G : Nat → Prop} {g : Nat} {w : World} {r : List Value} {d : YAcct} (h : SAcctS G w r d) (hg : G g) : SAcct g w r d := by
  obtain ⟨A1, k1, c1, A2, k2, c2, A3, k3, c3, A4, k4, c4, h1, h2, h3, h4, h5, h6⟩ := h
  exact ⟨A1, k1, c1, A2, k2, c2, A3, k3, c3, A4, k4, c4, h1, h2, h3.stab hg, h4.stab hg, h5.stab hg, h6.stab hg⟩

/-- one row is appended; where the answer lies -/
theorem if_append_at {ops : Array Oper} {o : Oper} {a : Act} {w : World} {K : Act → World → Prop} {Q : Exit → Act → World → Prop} (d : Option Tmp) (hd : o.dst = d) (hw : Region.wanted o (yielded ops a.tmps) = true) (s x : Operand) (t : TypeId)
    (ho : o.op = .call { callee := .builtin .append, args := #[s, x], argTypes := #[t, t] }) (e : TypeId) (sz bytes : Nat) (ht : Sakg.prog.underlying t = some (.slice e))
    (Z : List Value) (hzi : (Sakg.prog.info? e).map (fun i => (i.zero, i.size, i.bytes)) = some (some (.agg Z.toArray), sz, bytes)) (hzl : Z.length = sz) (hsz : 0 < sz)
    (base : Nat) (v : Value) (n : Nat) (rows : List (List Value)) (hs : a.eval s = v) (hown : w.ownsRow base e sz v n rows.flatten)
    (g : Nat) (t' : TypeId) (row : List Value) (hx : a.eval x = .slice (some ⟨g, 0, none⟩) 1 1) (hrow : RowT t' w g row) (hrl : row.length = sz) (h1 : ∀ u ∈ row, u.oneCell' = true) (hb : (n + 1) * bytes ≤ 140737488355328) (hn : n + 1 ≤ 140737488355328) (hbase : base ≤ w.heap.size)
    (h : ∀ v' w', w'.ownsRow base e sz v' (n + 1) (rows ++ [row]).flatten → w.grownBy w' v.ownBlock → (v'.ownBlock = v.ownBlock ∨ v'.ownBlock = some w.heap.size) → K (a.put d v') w') :
    if Region.wanted o (yielded ops a.tmps) = true then Oper.wp Sakg.prog o a w K Q else K (a.put o.dst undef) w := by
  rw [if_pos hw]
  subst hd
  cases hi : Sakg.prog.info? e with
  | none => rw [hi] at hzi; cases hzi
  | some i0 =>
    rw [hi] at hzi
    simp only [Option.map_some, Option.some.injEq, Prod.mk.injEq] at hzi
    obtain ⟨hz0, hz1, hz2⟩ := hzi
    have hnews : ∀ j u, row[j]? = some u → w.cell? ((⟨g, 0, none⟩ : Addr).add j) = some u := fun j u hj => by
      rw [addAt, Nat.zero_add, hrow.cell]; exact hj
    obtain ⟨v', w', hr, h2, h3, h4⟩ := run_append_own (P := Sakg.prog) w base t o.type e i0 (.agg Z.toArray) sz bytes ht hi hz0 hz1 hz2 (by simpa [Value.cells] using hzl) hsz v n rows.flatten hown ⟨g, 0, none⟩ 1 1 row (by omega) hnews h1 (by unfold maxLen; omega) hb hbase
    have hblk : v'.ownBlock = v.ownBlock ∨ v'.ownBlock = some w.heap.size := by
      rcases hown.2 with ⟨rfl, rfl⟩ | ⟨gg, cap, cur, rfl, hbg, hg, hnc, hcm, hcs, htake⟩
      · right
        have := run_append_nil (P := Sakg.prog) w t o.type e i0 (.agg Z.toArray) ht hi hz0 ⟨g, 0, none⟩ 1 1 row (by rw [hz1]; omega) hnews (by omega) (by omega) (by rw [hz2]; omega)
        rw [hr] at this
        cases this
        rfl
      · by_cases hroom : n + 1 ≤ cap
        · left
          have := run_append_room (P := Sakg.prog) w t o.type e i0 ht hi gg n cap cur hg ⟨g, 0, none⟩ 1 1 row (by rw [hz1]; omega) hnews h1 hroom (by
            rw [hz1, hcs, hrl]
            have := Nat.mul_le_mul_right sz hroom
            rw [Nat.add_mul] at this
            omega)
          rw [hr] at this
          cases this
          rfl
        · right
          have := run_append_grow (P := Sakg.prog) w t o.type e i0 (.agg Z.toArray) ht hi hz0 ⟨gg, 0, none⟩ n cap rows.flatten (by rw [hz1]; exact hown.1) (hown.cells (g := gg) rfl) ⟨g, 0, none⟩ 1 1 row (by rw [hz1]; omega) hnews (by omega) (by omega) (by rw [hz2]; exact growslice_fits (by omega) hb)
          rw [hr] at this
          cases this
          rfl
    unfold Oper.wp
    simp [execOp, ho, resolve, invoke, builtin, hs, hx, hr, Result.andThen]
    exact h v' w' (by rw [List.flatten_append, List.flatten_cons, List.flatten_nil, List.append_nil]; exact h2) h3 hblk

/-- a struct that is built yields its cells -/
theorem yieldsIf_build {ops : Array Oper} {S : World → Prop} {op : Oper} {a : Act} (hw : Region.wanted op (yielded ops a.tmps) = true) (t : TypeId) (ps : List (Nat × Operand)) (ho : op.op = .build t ps.toArray)
    (out : List Value) (hrun : ∀ wx, (Instr.build t (ps.map fun p => (p.1, a.eval p.2)).toArray).run Sakg.prog wx = .ok (.agg out.toArray) wx) : YieldsIf Sakg.prog ops S op (.agg out.toArray) a :=
  .inl ⟨hw, fun w _ => by
    simp only [execOp, ho, Sem.run_bind, List.map_toArray]
    rw [hrun w]
    rfl⟩

theorem ChgS.below {G : Nat → Prop} {a b : World} (h : ChgS G a b) (B : Nat) (hB : ∀ k, G k → B ≤ k) (hs : B ≤ a.heap.size) : Below B a b :=
  ⟨h.os, h.tape, h.output, h.size, fun k hk => h.block k (by omega) (fun hg => by have := hB k hg; omega)⟩
theorem ChgS.mono {G G' : Nat → Prop} {a b : World} (h : ChgS G a b) (hG : ∀ k, G k → G' k) : ChgS G' a b := ⟨h.os, h.tape, h.output, h.size, fun k hk hn => h.block k hk (fun hg => hn (hG k hg))⟩
theorem nat_blk {w : World} {A : Option Addr} {k c n : Nat} (h : IsNat w A k c n) : ∀ x, A = some x → 0 < k → x.block < w.heap.size := by
  obtain ⟨xs, h1, _⟩ := h
  exact h1.lt

end Go.Proofs.YgcsakGreat
