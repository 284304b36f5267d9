/-
  yp: what outlives writes to one block; the state's data; (*Acct).empty.
-/
import Derived.Test.YgcsakGreatYpC
import Derived.Deep.CutRange
import Derived.Deep.DeepCutAuto
namespace Go.Proofs.YgcsakGreat
set_option linter.unusedVariables false
set_option linter.unusedSimpArgs false
set_option maxRecDepth 100000
open Go.RowKit

/-- of the blocks that were there none but g has turned -/
structure Chg (g : Nat) (w w' : World) : Prop where
  os : w'.os = w.os
  tape : w'.tape = w.tape
  output : w'.output = w.output
  size : w.heap.size ≤ w'.heap.size
  block : ∀ k, k < w.heap.size → k ≠ g → w'.heap[k]? = w.heap[k]?

theorem Chg.refl (g : Nat) (w : World) : Chg g w w := ⟨rfl, rfl, rfl, Nat.le_refl _, fun _ _ _ => rfl⟩
theorem Chg.trans {g : Nat} {a b c : World} (h : Chg g a b) (k : Chg g b c) : Chg g a c :=
  ⟨k.os.trans h.os, k.tape.trans h.tape, k.output.trans h.output, Nat.le_trans h.size k.size, fun i hi hn => (k.block i (Nat.lt_of_lt_of_le hi h.size) hn).trans (h.block i hi hn)⟩
theorem Chg.of {g : Nat} {w w' : World} (h : Below w.heap.size w w') : Chg g w w' := ⟨h.os, h.tape, h.output, h.size, fun k hk _ => h.block k hk⟩
theorem Chg.ofOnly {g : Nat} {w w' : World} (h : Only g w w') : Chg g w w' := ⟨h.os, h.tape, h.output, Nat.le_of_eq h.size.symm, fun k _ hn => h.block k hn⟩
theorem Chg.ofQuiet {g : Nat} {w w' : World} (h : Quiet w w') : Chg g w w' := Chg.of (h.below _)
theorem Chg.below {g : Nat} {w w' : World} (h : Chg g w w') (B : Nat) (hB : B ≤ g) (hs : B ≤ w.heap.size) : Below B w w' :=
  ⟨h.os, h.tape, h.output, h.size, fun k hk => h.block k (by omega) (by omega)⟩
theorem Chg.row {g k : Nat} {t : TypeId} {w w' : World} {cs : List Value} (h : Chg g w w') (hr : RowT t w k cs) (hn : k ≠ g) : RowT t w' k cs := by
  unfold RowT
  rw [h.block k hr.lt hn]
  exact hr
theorem Chg.cell {g : Nat} {w w' : World} (h : Chg g w w') (p : Addr) (hp : p.block ≠ g) (hl : p.block < w.heap.size) : w'.cell? p = w.cell? p := World.cell?_of_block (h.block _ hl hp)

/-- it holds, and will hold whatever comes to block g -/
def Stab (g : Nat) (P : World → Prop) (w : World) : Prop := ∀ w', Chg g w w' → P w'
theorem Stab.now {g : Nat} {P : World → Prop} {w : World} (h : Stab g P w) : P w := h w (Chg.refl _ _)
theorem Stab.go {g : Nat} {P : World → Prop} {w w' : World} (h : Stab g P w) (hc : Chg g w w') : Stab g P w' := fun w2 h2 => h w2 (hc.trans h2)

/-- it does not lie in block g -/
def Off (g : Nat) (A : Option Addr) (l : Nat) : Prop := ∀ x, A = some x → 0 < l → x.block ≠ g
theorem Off.nil (g l : Nat) : Off g none l := fun x h => by cases h
theorem New.off {w : World} {A : Option Addr} (h : New w A) {g : Nat} (hg : g < w.heap.size) (l : Nat) : Off g A l := fun x hx _ => by have := h x hx; omega

theorem Stab.src {g : Nat} {w : World} {A : Option Addr} {l c : Nat} {xs : List Int} (h : Src w A l c xs) (ho : Off g A l) : Stab g (fun w => Src w A l c xs) w := by
  intro w' hc
  have hlt := h.lt
  refine ⟨h.len_eq, h.le, h.max, h.byt, h.nil, fun hl => ?_⟩
  obtain ⟨b, off, ha, hcs⟩ := h.at_ hl
  exact ⟨b, off, ha, fun i hi => (hc.cell ⟨b, off + i, none⟩ (ho ⟨b, off, none⟩ ha hl) (by exact hlt ⟨b, off, none⟩ ha hl)).trans (hcs i hi)⟩
theorem Stab.nat {g : Nat} {w : World} {A : Option Addr} {k c n : Nat} (h : IsNat w A k c n) (ho : Off g A k) : Stab g (fun w => IsNat w A k c n) w := by
  intro w' hc
  obtain ⟨xs, h1, h2, h3, h4⟩ := h
  exact ⟨xs, Stab.src h1 ho w' hc, h2, h3, h4⟩
theorem Stab.rws {g : Nat} {w : World} {sz : Nat} {A : Option Addr} {l c : Nat} {rows : List (List Value)} (h : Rws w sz A l c rows) (ho : Off g A l) : Stab g (fun w => Rws w sz A l c rows) w := by
  intro w' hc
  refine ⟨h.len_eq, h.le, h.max, h.sz_eq, h.nil, fun hl => ?_⟩
  obtain ⟨b, off, ha, hlt, hcs⟩ := h.at_ hl
  refine ⟨b, off, ha, Nat.lt_of_lt_of_le hlt hc.size, fun i hi j v hv => ?_⟩
  rw [hc.cell ⟨b, off + i * sz + j, none⟩ (ho ⟨b, off, none⟩ ha hl) hlt]
  exact hcs i hi j v hv
theorem Stab.natNil (g : Nat) (w : World) : Stab g (fun w => IsNat w none 0 0 0) w := Stab.nat (IsNat.nil w) (Off.nil _ _)
theorem Stab.srcNil (g : Nat) (w : World) : Stab g (fun w => Src w none 0 0 []) w := Stab.src (Src.ofNil w) (Off.nil _ _)

/-- slots that last -/
def SSlot (g : Nat) (w : World) (r : List Value) (s : Nat × Nat) : Prop := ∃ A k c A' k' c', r = [.slice A k c, .slice A' k' c'] ∧ Stab g (fun w => IsNat w A k c s.1) w ∧ Stab g (fun w => IsNat w A' k' c' s.2) w
theorem SSlot.go {g : Nat} {w w' : World} {r : List Value} {s : Nat × Nat} (h : SSlot g w r s) (hc : Chg g w w') : SSlot g w' r s := by
  obtain ⟨A, k, c, A', k', c', h1, h2, h3⟩ := h
  exact ⟨A, k, c, A', k', c', h1, h2.go hc, h3.go hc⟩
theorem SSlot.now {g : Nat} {w : World} {r : List Value} {s : Nat × Nat} (h : SSlot g w r s) : SlotRow w r s := by
  obtain ⟨A, k, c, A', k', c', h1, h2, h3⟩ := h
  exact ⟨A, k, c, A', k', c', h1, h2.now, h3.now⟩
def SSlots (g : Nat) (w : World) (ao : Option Addr) (l c : Nat) (ss : List (Nat × Nat)) : Prop := ∃ rows, Stab g (fun w => Rws w 2 ao l c rows) w ∧ Each (SSlot g w) rows ss
theorem SSlots.go {g : Nat} {w w' : World} {ao : Option Addr} {l c : Nat} {ss : List (Nat × Nat)} (h : SSlots g w ao l c ss) (hc : Chg g w w') : SSlots g w' ao l c ss := by
  obtain ⟨rows, h1, h2⟩ := h
  exact ⟨rows, h1.go hc, h2.imp fun _ _ h => h.go hc⟩
theorem SSlots.now {g : Nat} {w : World} {ao : Option Addr} {l c : Nat} {ss : List (Nat × Nat)} (h : SSlots g w ao l c ss) : SlotsR w ao l c ss := by
  obtain ⟨rows, h1, h2⟩ := h
  exact ⟨rows, h1.now, h2.imp fun _ _ h => h.now⟩
theorem SSlots.nil (g : Nat) (w : World) : SSlots g w none 0 0 [] := ⟨[], Stab.rws (Rws.ofNil w 2) (Off.nil _ _), trivial⟩

/-- an account that lasts -/
def SAcct (g : Nat) (w : World) (r : List Value) (d : YAcct) : Prop := ∃ A1 k1 c1 A2 k2 c2 A3 k3 c3 A4 k4 c4, r = bv d.addr ++ [.slice A1 k1 c1, .slice A2 k2 c2, .slice A3 k3 c3, .slice A4 k4 c4] ∧
  IsAddr d.addr ∧ Stab g (fun w => IsNat w A1 k1 c1 d.nonce) w ∧ Stab g (fun w => IsNat w A2 k2 c2 d.bal) w ∧ Stab g (fun w => Src w A3 k3 c3 d.code) w ∧ SSlots g w A4 k4 c4 d.slots
theorem SAcct.go {g : Nat} {w w' : World} {r : List Value} {d : YAcct} (h : SAcct g w r d) (hc : Chg g w w') : SAcct g w' r d := by
  obtain ⟨A1, k1, c1, A2, k2, c2, A3, k3, c3, A4, k4, c4, h1, h2, h3, h4, h5, h6⟩ := h
  exact ⟨A1, k1, c1, A2, k2, c2, A3, k3, c3, A4, k4, c4, h1, h2, h3.go hc, h4.go hc, h5.go hc, h6.go hc⟩
theorem SAcct.now {g : Nat} {w : World} {r : List Value} {d : YAcct} (h : SAcct g w r d) : AcctRow w r d := by
  obtain ⟨A1, k1, c1, A2, k2, c2, A3, k3, c3, A4, k4, c4, h1, h2, h3, h4, h5, h6⟩ := h
  exact ⟨A1, k1, c1, A2, k2, c2, A3, k3, c3, A4, k4, c4, h1, h2, h3.now, h4.now, h5.now, h6.now⟩
theorem SAcct.zero (g : Nat) (w : World) (a : List Int) (ha : IsAddr a) : SAcct g w (bv a ++ [nilS, nilS, nilS, nilS]) (zeroAcct a) :=
  ⟨none, 0, 0, none, 0, 0, none, 0, 0, none, 0, 0, rfl, ha, Stab.natNil g w, Stab.natNil g w, Stab.srcNil g w, SSlots.nil g w⟩
theorem sarow (g : Nat) (w : World) : ARow (SAcct g w) := ⟨fun h => h.now.len, fun h => h.now.one, fun h => h.now.addr, fun h => h.now.pre, fun h => SAcct.zero g w _ h⟩

/-- the accounts of a state -/
def SAccts (g : Nat) (w : World) (ao : Option Addr) (l c : Nat) (ds : List YAcct) : Prop := ∃ rows, Stab g (fun w => Rws w 24 ao l c rows) w ∧ Each (SAcct g w) rows ds
theorem SAccts.go {g : Nat} {w w' : World} {ao : Option Addr} {l c : Nat} {ds : List YAcct} (h : SAccts g w ao l c ds) (hc : Chg g w w') : SAccts g w' ao l c ds := by
  obtain ⟨rows, h1, h2⟩ := h
  exact ⟨rows, h1.go hc, h2.imp fun _ _ h => h.go hc⟩
theorem SAccts.nil (g : Nat) (w : World) : SAccts g w none 0 0 [] := ⟨[], Stab.rws (Rws.ofNil w 24) (Off.nil _ _), trivial⟩
theorem SAccts.len {g : Nat} {w : World} {ao : Option Addr} {l c : Nat} {ds : List YAcct} (h : SAccts g w ao l c ds) : ds.length = l := by
  obtain ⟨rows, h1, h2⟩ := h
  rw [← h2.len, h1.now.len_eq]

theorem SAccts.account {g bw ow : Nat} {w : World} {ao : Option Addr} {l c : Nat} {ds : List YAcct} (h : SAccts g w ao l c ds) (hcell : w.cell? ⟨bw, ow, none⟩ = some (.slice ao l c)) (a : List Int) (ha : IsAddr a) (hl : l ≤ 1000000) :
    Calls Sakg.prog 99 #[.pointer (some ⟨bw, ow, none⟩), .agg (bv a).toArray] w fun e w' => ∃ r, e = .returned (.agg r.toArray) ∧ SAcct g w' r (lookY ds a) ∧ Below w.heap.size w w' := by
  obtain ⟨rows, h1, h2⟩ := h
  refine (account_any (SAcct g w) (sarow g w) bw ow ao l c rows ds a w hcell h1.now h2 ha hl).mono ?_
  rintro e w' ⟨r, h1, h2, h3⟩
  exact ⟨r, h1, h2.go (Chg.of h3), h3⟩

/-- no nonce, no balance, no code -/
def emptyY (d : YAcct) : Bool := decide (d.nonce = 0) && decide (d.bal = 0) && decide (d.code.length = 0)

set_option maxHeartbeats 4000000 in
theorem empty_any (g : Nat) (r : List Value) (d : YAcct) (w : World) (hr : RowT 113 w g r) (h : AcctRow w r d) (h1 : d.nonce < BIG) (h2 : d.bal < BIG) :
    Calls Sakg.prog 54 #[.pointer (some ⟨g, 0, none⟩)] w fun e w' => e = .returned (.bool (emptyY d)) ∧ Quiet w w' := by
  obtain ⟨A1, k1, c1, A2, k2, c2, A3, k3, c3, A4, k4, c4, rfl, ha, hn, hb, hc, hs⟩ := h
  have e20 : w.cell? ⟨g, 20, none⟩ = some (.slice A1 k1 c1) := by rw [hr.cell, List.getElem?_append_right (by rw [bv_len, ha.len]; omega), bv_len, ha.len]; rfl
  have e21 : w.cell? ⟨g, 21, none⟩ = some (.slice A2 k2 c2) := by rw [hr.cell, List.getElem?_append_right (by rw [bv_len, ha.len]; omega), bv_len, ha.len]; rfl
  have e22 : w.cell? ⟨g, 22, none⟩ = some (.slice A3 k3 c3) := by rw [hr.cell, List.getElem?_append_right (by rw [bv_len, ha.len]; omega), bv_len, ha.len]; rfl
  have hl := hc.len_eq
  have ee : emptyY d = (decide (d.nonce = 0) && decide (d.bal = 0) && ((k3 : Int) == 0)) := by
    unfold emptyY
    rw [hl]
    congr 1
    by_cases h : k3 = 0
    · subst h; rfl
    · rw [decide_eq_false h, eq_comm]; simp; exact h
  rw [ee]
  have HN := hide (isZero_any A1 k1 c1 d.nonce w hn h1)
  have HB := hide hb
  clear hr hn hb hc hs ee hl ha h1
  generalize decide (d.nonce = 0) = z1 at *
  have HZ2 := fun wx (h : IsNat wx A2 k2 c2 d.bal) => isZero_any A2 k2 c2 d.bal wx h h2
  generalize decide (d.bal = 0) = z2 at *
  have HZ := hide HZ2
  clear HZ2 h2
  go_enter Sakg.func54, Sakg.ntmps54
  cases z1 with
  | false =>
    go_wp2_with (go_at_call 130; refine (unhide HN).mono ?_; rintro e w1 ⟨rfl, hq⟩)
    go_ret
    exact ⟨rfl, hq⟩
  | true =>
    cases z2 with
    | false =>
      go_wp2_with (first
        | (go_at_call 130; refine (unhide HN).mono ?_; rintro e w1 ⟨rfl, hq⟩; obtain ⟨n1, rfl⟩ := hq)
        | (go_at_call 130; refine (unhide HZ _ ((unhide HB).kept (Quiet.below ⟨_, rfl⟩ _))).mono ?_; rintro e w2 ⟨rfl, hq2⟩; obtain ⟨n2, rfl⟩ := hq2))
      go_ret
      exact ⟨rfl, ⟨_, rfl⟩⟩
    | true =>
      go_wp2_with (first
        | (go_at_call 130; refine (unhide HN).mono ?_; rintro e w1 ⟨rfl, hq⟩; obtain ⟨n1, rfl⟩ := hq)
        | (go_at_call 130; refine (unhide HZ _ ((unhide HB).kept (Quiet.below ⟨_, rfl⟩ _))).mono ?_; rintro e w2 ⟨rfl, hq2⟩; obtain ⟨n2, rfl⟩ := hq2))
      go_ret
      exact ⟨rfl, ⟨_, rfl⟩⟩

end Go.Proofs.YgcsakGreat
