/-
  yp: laws for Begin: cells of the chain beyond its world's are laid anew.
-/
import Derived.Test.YgcsakGreatKrA1
import Derived.Test.YgcsakGreatKoC
import Derived.Test.YgcsakGreatKhA
import Derived.Test.YgcsakGreatKtV
import Derived.Test.YgcsakGreatBegV
namespace Go.Proofs.YgcsakGreat
set_option linter.unusedVariables false
set_option linter.unusedSimpArgs false
set_option maxRecDepth 100000
open Go.RowKit

section
variable {G : Nat → Prop} {bw p : Nat} {cs : List Value} {d : WD} {x : XD} {w w' : World}
theorem XS.setApplied (h : XS G cs x w) (hl : cs.length = 179) (m : Nat) : XS G (cs.set 13 (.int .u8 m)) { x with applied := m } w := by
  obtain ⟨⟨a8, l8, c8, e8, h8⟩, ⟨a10, l10, c10, e10, h10⟩, e12, e13, ⟨a14, l14, c14, e14, h14⟩, ⟨a15, l15, c15, e15, h15⟩, ⟨a16, l16, c16, e16, h16⟩, ⟨a17, l17, c17, e17, h17⟩, ⟨a18, l18, c18, e18, h18⟩, h19, h39, h59, ⟨A', k', c', rows, p1, p2, p3, p4⟩⟩ := h
  have E : ∀ i, i ≠ 13 → ∀ v, cs[i]? = v → (cs.set 13 (.int .u8 m))[i]? = v := fun i h1 v hv => (List.getElem?_set_ne (Ne.symm h1)).trans hv
  exact ⟨⟨a8, l8, c8, E _ (by omega) _ e8, h8⟩, ⟨a10, l10, c10, E _ (by omega) _ e10, h10⟩, E _ (by omega) _ e12, List.getElem?_set_self (by omega), ⟨a14, l14, c14, E _ (by omega) _ e14, h14⟩, ⟨a15, l15, c15, E _ (by omega) _ e15, h15⟩, ⟨a16, l16, c16, E _ (by omega) _ e16, h16⟩, ⟨a17, l17, c17, E _ (by omega) _ e17, h17⟩, ⟨a18, l18, c18, E _ (by omega) _ e18, h18⟩, fun i hi => E _ (by omega) _ (h19 i hi), fun i hi => E _ (by omega) _ (h39 i hi), fun i hi => E _ (by omega) _ (h59 i hi), ⟨A', k', c', rows, E _ (by omega) _ p1, p2, p3, p4⟩⟩
theorem SI.setApplied (h : SI G bw p cs d x w) (m : Nat) : SI G bw p (cs.set 13 (.int .u8 m)) d { x with applied := m } (w.setCell ⟨bw, 13, none⟩ (.int .u8 m)) ∧ Only bw w (w.setCell ⟨bw, 13, none⟩ (.int .u8 m)) := by
  have ho : Only bw w (w.setCell ⟨bw, 13, none⟩ (.int .u8 m)) := (Only.refl _ _).setCell _ _
  exact ⟨h.turn (h.cw.row.set 13 _) (by rw [List.length_set]; exact h.cw.len) (fun i hi => List.getElem?_set_ne (by omega)) (ChgS.only ho h.cw.g) ((h.xs.setApplied h.cw.len m).go (ChgS.only ho h.cw.g)) ((List.getElem?_set_ne (by omega)).trans h.phase) ((List.getElem?_set_ne (by omega)).trans h.frames), ho⟩
theorem XS.setLimit (h : XS G cs x w) (hl : cs.length = 179) {A : Option Addr} {l c n : Nat} (hs : KNat G w A l c n) : XS G (cs.set 14 (.slice A l c)) { x with limit := n } w := by
  obtain ⟨⟨a8, l8, c8, e8, h8⟩, ⟨a10, l10, c10, e10, h10⟩, e12, e13, ⟨a14, l14, c14, e14, h14⟩, ⟨a15, l15, c15, e15, h15⟩, ⟨a16, l16, c16, e16, h16⟩, ⟨a17, l17, c17, e17, h17⟩, ⟨a18, l18, c18, e18, h18⟩, h19, h39, h59, ⟨A', k', c', rows, p1, p2, p3, p4⟩⟩ := h
  have E : ∀ i, i ≠ 14 → ∀ v, cs[i]? = v → (cs.set 14 (.slice A l c))[i]? = v := fun i h1 v hv => (List.getElem?_set_ne (Ne.symm h1)).trans hv
  exact ⟨⟨a8, l8, c8, E _ (by omega) _ e8, h8⟩, ⟨a10, l10, c10, E _ (by omega) _ e10, h10⟩, E _ (by omega) _ e12, E _ (by omega) _ e13, ⟨A, l, c, List.getElem?_set_self (by omega), hs⟩, ⟨a15, l15, c15, E _ (by omega) _ e15, h15⟩, ⟨a16, l16, c16, E _ (by omega) _ e16, h16⟩, ⟨a17, l17, c17, E _ (by omega) _ e17, h17⟩, ⟨a18, l18, c18, E _ (by omega) _ e18, h18⟩, fun i hi => E _ (by omega) _ (h19 i hi), fun i hi => E _ (by omega) _ (h39 i hi), fun i hi => E _ (by omega) _ (h59 i hi), ⟨A', k', c', rows, E _ (by omega) _ p1, p2, p3, p4⟩⟩
theorem SI.setLimit (h : SI G bw p cs d x w) {A : Option Addr} {l c n : Nat} (hs : KNat G w A l c n) : SI G bw p (cs.set 14 (.slice A l c)) d { x with limit := n } (w.setCell ⟨bw, 14, none⟩ (.slice A l c)) ∧ Only bw w (w.setCell ⟨bw, 14, none⟩ (.slice A l c)) := by
  have ho : Only bw w (w.setCell ⟨bw, 14, none⟩ (.slice A l c)) := (Only.refl _ _).setCell _ _
  exact ⟨h.turn (h.cw.row.set 14 _) (by rw [List.length_set]; exact h.cw.len) (fun i hi => List.getElem?_set_ne (by omega)) (ChgS.only ho h.cw.g) ((h.xs.setLimit h.cw.len hs).go (ChgS.only ho h.cw.g)) ((List.getElem?_set_ne (by omega)).trans h.phase) ((List.getElem?_set_ne (by omega)).trans h.frames), ho⟩
theorem XS.setTxgas (h : XS G cs x w) (hl : cs.length = 179) {A : Option Addr} {l c n : Nat} (hs : KNat G w A l c n) : XS G (cs.set 15 (.slice A l c)) { x with txgas := n } w := by
  obtain ⟨⟨a8, l8, c8, e8, h8⟩, ⟨a10, l10, c10, e10, h10⟩, e12, e13, ⟨a14, l14, c14, e14, h14⟩, ⟨a15, l15, c15, e15, h15⟩, ⟨a16, l16, c16, e16, h16⟩, ⟨a17, l17, c17, e17, h17⟩, ⟨a18, l18, c18, e18, h18⟩, h19, h39, h59, ⟨A', k', c', rows, p1, p2, p3, p4⟩⟩ := h
  have E : ∀ i, i ≠ 15 → ∀ v, cs[i]? = v → (cs.set 15 (.slice A l c))[i]? = v := fun i h1 v hv => (List.getElem?_set_ne (Ne.symm h1)).trans hv
  exact ⟨⟨a8, l8, c8, E _ (by omega) _ e8, h8⟩, ⟨a10, l10, c10, E _ (by omega) _ e10, h10⟩, E _ (by omega) _ e12, E _ (by omega) _ e13, ⟨a14, l14, c14, E _ (by omega) _ e14, h14⟩, ⟨A, l, c, List.getElem?_set_self (by omega), hs⟩, ⟨a16, l16, c16, E _ (by omega) _ e16, h16⟩, ⟨a17, l17, c17, E _ (by omega) _ e17, h17⟩, ⟨a18, l18, c18, E _ (by omega) _ e18, h18⟩, fun i hi => E _ (by omega) _ (h19 i hi), fun i hi => E _ (by omega) _ (h39 i hi), fun i hi => E _ (by omega) _ (h59 i hi), ⟨A', k', c', rows, E _ (by omega) _ p1, p2, p3, p4⟩⟩
theorem SI.setTxgas (h : SI G bw p cs d x w) {A : Option Addr} {l c n : Nat} (hs : KNat G w A l c n) : SI G bw p (cs.set 15 (.slice A l c)) d { x with txgas := n } (w.setCell ⟨bw, 15, none⟩ (.slice A l c)) ∧ Only bw w (w.setCell ⟨bw, 15, none⟩ (.slice A l c)) := by
  have ho : Only bw w (w.setCell ⟨bw, 15, none⟩ (.slice A l c)) := (Only.refl _ _).setCell _ _
  exact ⟨h.turn (h.cw.row.set 15 _) (by rw [List.length_set]; exact h.cw.len) (fun i hi => List.getElem?_set_ne (by omega)) (ChgS.only ho h.cw.g) ((h.xs.setTxgas h.cw.len hs).go (ChgS.only ho h.cw.g)) ((List.getElem?_set_ne (by omega)).trans h.phase) ((List.getElem?_set_ne (by omega)).trans h.frames), ho⟩
theorem XS.setPrice (h : XS G cs x w) (hl : cs.length = 179) {A : Option Addr} {l c n : Nat} (hs : KNat G w A l c n) : XS G (cs.set 17 (.slice A l c)) { x with price := n } w := by
  obtain ⟨⟨a8, l8, c8, e8, h8⟩, ⟨a10, l10, c10, e10, h10⟩, e12, e13, ⟨a14, l14, c14, e14, h14⟩, ⟨a15, l15, c15, e15, h15⟩, ⟨a16, l16, c16, e16, h16⟩, ⟨a17, l17, c17, e17, h17⟩, ⟨a18, l18, c18, e18, h18⟩, h19, h39, h59, ⟨A', k', c', rows, p1, p2, p3, p4⟩⟩ := h
  have E : ∀ i, i ≠ 17 → ∀ v, cs[i]? = v → (cs.set 17 (.slice A l c))[i]? = v := fun i h1 v hv => (List.getElem?_set_ne (Ne.symm h1)).trans hv
  exact ⟨⟨a8, l8, c8, E _ (by omega) _ e8, h8⟩, ⟨a10, l10, c10, E _ (by omega) _ e10, h10⟩, E _ (by omega) _ e12, E _ (by omega) _ e13, ⟨a14, l14, c14, E _ (by omega) _ e14, h14⟩, ⟨a15, l15, c15, E _ (by omega) _ e15, h15⟩, ⟨a16, l16, c16, E _ (by omega) _ e16, h16⟩, ⟨A, l, c, List.getElem?_set_self (by omega), hs⟩, ⟨a18, l18, c18, E _ (by omega) _ e18, h18⟩, fun i hi => E _ (by omega) _ (h19 i hi), fun i hi => E _ (by omega) _ (h39 i hi), fun i hi => E _ (by omega) _ (h59 i hi), ⟨A', k', c', rows, E _ (by omega) _ p1, p2, p3, p4⟩⟩
theorem SI.setPrice (h : SI G bw p cs d x w) {A : Option Addr} {l c n : Nat} (hs : KNat G w A l c n) : SI G bw p (cs.set 17 (.slice A l c)) d { x with price := n } (w.setCell ⟨bw, 17, none⟩ (.slice A l c)) ∧ Only bw w (w.setCell ⟨bw, 17, none⟩ (.slice A l c)) := by
  have ho : Only bw w (w.setCell ⟨bw, 17, none⟩ (.slice A l c)) := (Only.refl _ _).setCell _ _
  exact ⟨h.turn (h.cw.row.set 17 _) (by rw [List.length_set]; exact h.cw.len) (fun i hi => List.getElem?_set_ne (by omega)) (ChgS.only ho h.cw.g) ((h.xs.setPrice h.cw.len hs).go (ChgS.only ho h.cw.g)) ((List.getElem?_set_ne (by omega)).trans h.phase) ((List.getElem?_set_ne (by omega)).trans h.frames), ho⟩
theorem XS.setStart (h : XS G cs x w) (hl : cs.length = 179) {A : Option Addr} {l c : Nat} {ts : List YTemp} (hs : KTemps G w A l c ts) : XS G (cs.set 8 (.slice A l c)) { x with start := ts } w := by
  obtain ⟨⟨a8, l8, c8, e8, h8⟩, ⟨a10, l10, c10, e10, h10⟩, e12, e13, ⟨a14, l14, c14, e14, h14⟩, ⟨a15, l15, c15, e15, h15⟩, ⟨a16, l16, c16, e16, h16⟩, ⟨a17, l17, c17, e17, h17⟩, ⟨a18, l18, c18, e18, h18⟩, h19, h39, h59, ⟨A', k', c', rows, p1, p2, p3, p4⟩⟩ := h
  have E : ∀ i, i ≠ 8 → ∀ v, cs[i]? = v → (cs.set 8 (.slice A l c))[i]? = v := fun i h1 v hv => (List.getElem?_set_ne (Ne.symm h1)).trans hv
  exact ⟨⟨A, l, c, List.getElem?_set_self (by omega), hs⟩, ⟨a10, l10, c10, E _ (by omega) _ e10, h10⟩, E _ (by omega) _ e12, E _ (by omega) _ e13, ⟨a14, l14, c14, E _ (by omega) _ e14, h14⟩, ⟨a15, l15, c15, E _ (by omega) _ e15, h15⟩, ⟨a16, l16, c16, E _ (by omega) _ e16, h16⟩, ⟨a17, l17, c17, E _ (by omega) _ e17, h17⟩, ⟨a18, l18, c18, E _ (by omega) _ e18, h18⟩, fun i hi => E _ (by omega) _ (h19 i hi), fun i hi => E _ (by omega) _ (h39 i hi), fun i hi => E _ (by omega) _ (h59 i hi), ⟨A', k', c', rows, E _ (by omega) _ p1, p2, p3, p4⟩⟩
theorem SI.setStart (h : SI G bw p cs d x w) {A : Option Addr} {l c : Nat} {ts : List YTemp} (hs : KTemps G w A l c ts) : SI G bw p (cs.set 8 (.slice A l c)) d { x with start := ts } (w.setCell ⟨bw, 8, none⟩ (.slice A l c)) ∧ Only bw w (w.setCell ⟨bw, 8, none⟩ (.slice A l c)) := by
  have ho : Only bw w (w.setCell ⟨bw, 8, none⟩ (.slice A l c)) := (Only.refl _ _).setCell _ _
  exact ⟨h.turn (h.cw.row.set 8 _) (by rw [List.length_set]; exact h.cw.len) (fun i hi => List.getElem?_set_ne (by omega)) (ChgS.only ho h.cw.g) ((h.xs.setStart h.cw.len hs).go (ChgS.only ho h.cw.g)) ((List.getElem?_set_ne (by omega)).trans h.phase) ((List.getElem?_set_ne (by omega)).trans h.frames), ho⟩
theorem XS.setOrigin (h : XS G cs x w) (hl : cs.length = 179) {a : List Int} (ha : IsAddr a) : XS G (spl cs 19 (bv a)) { x with origin := a } w := by
  obtain ⟨⟨a8, l8, c8, e8, h8⟩, ⟨a10, l10, c10, e10, h10⟩, e12, e13, ⟨a14, l14, c14, e14, h14⟩, ⟨a15, l15, c15, e15, h15⟩, ⟨a16, l16, c16, e16, h16⟩, ⟨a17, l17, c17, e17, h17⟩, ⟨a18, l18, c18, e18, h18⟩, h19, h39, h59, ⟨A', k', c', rows, p1, p2, p3, p4⟩⟩ := h
  have hal : (bv a).length = 20 := by rw [bv_len, ha.len]
  have hle : 19 + (bv a).length ≤ cs.length := by omega
  have E : ∀ i, i < 179 → (i < 19 ∨ 39 ≤ i) → ∀ v, cs[i]? = v → (spl cs 19 (bv a))[i]? = v := fun i _ h1 v hv => (spl_get hle i (by omega)).trans hv
  exact ⟨⟨a8, l8, c8, E _ (by omega) (by omega) _ e8, h8⟩, ⟨a10, l10, c10, E _ (by omega) (by omega) _ e10, h10⟩, E _ (by omega) (by omega) _ e12, E _ (by omega) (by omega) _ e13, ⟨a14, l14, c14, E _ (by omega) (by omega) _ e14, h14⟩, ⟨a15, l15, c15, E _ (by omega) (by omega) _ e15, h15⟩, ⟨a16, l16, c16, E _ (by omega) (by omega) _ e16, h16⟩, ⟨a17, l17, c17, E _ (by omega) (by omega) _ e17, h17⟩, ⟨a18, l18, c18, E _ (by omega) (by omega) _ e18, h18⟩, fun i hi => spl_hi hle i (by rw [hal]; exact hi), fun i hi => E _ (by omega) (by omega) _ (h39 i hi), fun i hi => E _ (by omega) (by omega) _ (h59 i hi), ⟨A', k', c', rows, E _ (by omega) (by omega) _ p1, p2, p3, p4⟩⟩
theorem SI.setOrigin (h : SI G bw p cs d x w) {a : List Int} (ha : IsAddr a) (hr : RowT 107 w' bw (spl cs 19 (bv a))) (ho : Only bw w w') : SI G bw p (spl cs 19 (bv a)) d { x with origin := a } w' := by
  have hl := h.cw.len
  have hal : (bv a).length = 20 := by rw [bv_len, ha.len]
  have hle : 19 + (bv a).length ≤ cs.length := by omega
  exact h.turn hr (by rw [spl_len _ _ _ hle]; exact hl) (fun i hi => spl_get hle i (by omega)) (ChgS.only ho h.cw.g) ((h.xs.setOrigin hl ha).go (ChgS.only ho h.cw.g)) ((spl_get hle 11 (by omega)).trans h.phase) ((spl_get hle 9 (by omega)).trans h.frames)
theorem XS.setMade (h : XS G cs x w) (hl : cs.length = 179) {a : List Int} (ha : IsAddr a) : XS G (spl cs 39 (bv a)) { x with made := a } w := by
  obtain ⟨⟨a8, l8, c8, e8, h8⟩, ⟨a10, l10, c10, e10, h10⟩, e12, e13, ⟨a14, l14, c14, e14, h14⟩, ⟨a15, l15, c15, e15, h15⟩, ⟨a16, l16, c16, e16, h16⟩, ⟨a17, l17, c17, e17, h17⟩, ⟨a18, l18, c18, e18, h18⟩, h19, h39, h59, ⟨A', k', c', rows, p1, p2, p3, p4⟩⟩ := h
  have hal : (bv a).length = 20 := by rw [bv_len, ha.len]
  have hle : 39 + (bv a).length ≤ cs.length := by omega
  have E : ∀ i, i < 179 → (i < 39 ∨ 59 ≤ i) → ∀ v, cs[i]? = v → (spl cs 39 (bv a))[i]? = v := fun i _ h1 v hv => (spl_get hle i (by omega)).trans hv
  exact ⟨⟨a8, l8, c8, E _ (by omega) (by omega) _ e8, h8⟩, ⟨a10, l10, c10, E _ (by omega) (by omega) _ e10, h10⟩, E _ (by omega) (by omega) _ e12, E _ (by omega) (by omega) _ e13, ⟨a14, l14, c14, E _ (by omega) (by omega) _ e14, h14⟩, ⟨a15, l15, c15, E _ (by omega) (by omega) _ e15, h15⟩, ⟨a16, l16, c16, E _ (by omega) (by omega) _ e16, h16⟩, ⟨a17, l17, c17, E _ (by omega) (by omega) _ e17, h17⟩, ⟨a18, l18, c18, E _ (by omega) (by omega) _ e18, h18⟩, fun i hi => E _ (by omega) (by omega) _ (h19 i hi), fun i hi => spl_hi hle i (by rw [hal]; exact hi), fun i hi => E _ (by omega) (by omega) _ (h59 i hi), ⟨A', k', c', rows, E _ (by omega) (by omega) _ p1, p2, p3, p4⟩⟩
theorem SI.setMade (h : SI G bw p cs d x w) {a : List Int} (ha : IsAddr a) (hr : RowT 107 w' bw (spl cs 39 (bv a))) (ho : Only bw w w') : SI G bw p (spl cs 39 (bv a)) d { x with made := a } w' := by
  have hl := h.cw.len
  have hal : (bv a).length = 20 := by rw [bv_len, ha.len]
  have hle : 39 + (bv a).length ≤ cs.length := by omega
  exact h.turn hr (by rw [spl_len _ _ _ hle]; exact hl) (fun i hi => spl_get hle i (by omega)) (ChgS.only ho h.cw.g) ((h.xs.setMade hl ha).go (ChgS.only ho h.cw.g)) ((spl_get hle 11 (by omega)).trans h.phase) ((spl_get hle 9 (by omega)).trans h.frames)
theorem SI.setRet (h : SI G bw p cs d x w) {A : Option Addr} {l c : Nat} {xs : List Int} (hs : KSrc G w A l c xs) : SI G bw p (cs.set 10 (.slice A l c)) d { x with ret := xs } (w.setCell ⟨bw, 10, none⟩ (.slice A l c)) ∧ Only bw w (w.setCell ⟨bw, 10, none⟩ (.slice A l c)) := by
  have ho : Only bw w (w.setCell ⟨bw, 10, none⟩ (.slice A l c)) := (Only.refl _ _).setCell _ _
  exact ⟨h.turn (h.cw.row.set 10 _) (by rw [List.length_set]; exact h.cw.len) (fun i hi => List.getElem?_set_ne (by omega)) (ChgS.only ho h.cw.g) ((h.xs.setRet h.cw.len hs).go (ChgS.only ho h.cw.g)) ((List.getElem?_set_ne (by omega)).trans h.phase) ((List.getElem?_set_ne (by omega)).trans h.frames), ho⟩
theorem SI.setStatus (h : SI G bw p cs d x w) (m : Nat) : SI G bw p (cs.set 12 (.int .u8 m)) d { x with status := m } (w.setCell ⟨bw, 12, none⟩ (.int .u8 m)) ∧ Only bw w (w.setCell ⟨bw, 12, none⟩ (.int .u8 m)) := by
  have ho : Only bw w (w.setCell ⟨bw, 12, none⟩ (.int .u8 m)) := (Only.refl _ _).setCell _ _
  exact ⟨h.turn (h.cw.row.set 12 _) (by rw [List.length_set]; exact h.cw.len) (fun i hi => List.getElem?_set_ne (by omega)) (ChgS.only ho h.cw.g) ((h.xs.setStatus h.cw.len m).go (ChgS.only ho h.cw.g)) ((List.getElem?_set_ne (by omega)).trans h.phase) ((List.getElem?_set_ne (by omega)).trans h.frames), ho⟩
theorem SI.setLeft (h : SI G bw p cs d x w) {A : Option Addr} {l c n : Nat} (hs : KNat G w A l c n) : SI G bw p (cs.set 16 (.slice A l c)) d { x with left := n } (w.setCell ⟨bw, 16, none⟩ (.slice A l c)) ∧ Only bw w (w.setCell ⟨bw, 16, none⟩ (.slice A l c)) := by
  have ho : Only bw w (w.setCell ⟨bw, 16, none⟩ (.slice A l c)) := (Only.refl _ _).setCell _ _
  exact ⟨h.turn (h.cw.row.set 16 _) (by rw [List.length_set]; exact h.cw.len) (fun i hi => List.getElem?_set_ne (by omega)) (ChgS.only ho h.cw.g) ((h.xs.setLeft h.cw.len hs).go (ChgS.only ho h.cw.g)) ((List.getElem?_set_ne (by omega)).trans h.phase) ((List.getElem?_set_ne (by omega)).trans h.frames), ho⟩
theorem SI.setPhase (h : SI G bw p cs d x w) (q : Nat) : SI G bw q (cs.set 11 (.int .u8 q)) d x (w.setCell ⟨bw, 11, none⟩ (.int .u8 q)) ∧ Only bw w (w.setCell ⟨bw, 11, none⟩ (.int .u8 q)) := by
  have ho : Only bw w (w.setCell ⟨bw, 11, none⟩ (.int .u8 q)) := (Only.refl _ _).setCell _ _
  have hl := h.cw.len
  exact ⟨h.turn (h.cw.row.set 11 _) (by rw [List.length_set]; exact hl) (fun i hi => List.getElem?_set_ne (by omega)) (ChgS.only ho h.cw.g) ((h.xs.eq (fun i hi _ h11 => List.getElem?_set_ne (by omega))).go (ChgS.only ho h.cw.g)) (List.getElem?_set_self (by omega)) ((List.getElem?_set_ne (by omega)).trans h.frames), ho⟩
theorem SI.setFrames (h : SI G bw p cs d x w) : SI G bw p (cs.set 9 nilS) d x (w.setCell ⟨bw, 9, none⟩ nilS) ∧ Only bw w (w.setCell ⟨bw, 9, none⟩ nilS) := by
  have ho : Only bw w (w.setCell ⟨bw, 9, none⟩ nilS) := (Only.refl _ _).setCell _ _
  have hl := h.cw.len
  exact ⟨h.turn (h.cw.row.set 9 _) (by rw [List.length_set]; exact hl) (fun i hi => List.getElem?_set_ne (by omega)) (ChgS.only ho h.cw.g) ((h.xs.eq (fun i hi h9 _ => List.getElem?_set_ne (by omega))).go (ChgS.only ho h.cw.g)) ((List.getElem?_set_ne (by omega)).trans h.phase) (List.getElem?_set_self (by omega)), ho⟩
theorem SI.originR (h : SI G bw p cs d x w) (ho : IsAddr x.origin) : w.rangeAt bw 19 (bv x.origin) := row_range h.cw.row (by rw [bv_len, ho.len]) h.xs.origin
theorem SI.coinR (h : SI G bw p cs d x w) (hc : IsAddr x.coin) : w.rangeAt bw 59 (bv x.coin) := row_range h.cw.row (by rw [bv_len, hc.len]) (fun i hi => by
  rw [h.xs.env i (by omega)]
  unfold envRow
  rw [List.getElem?_append_left (by rw [bv_len, hc.len]; omega)])
theorem SI.feeR (h : SI G bw p cs d x w) (hx : XB x) : w.rangeAt bw 146 (bv x.fee) := rng_cells h.cw.row.cell hx.fee.len (fun j hj => by rw [show 146 + j = 59 + (87 + j) by omega, h.xs.env _ (by omega)]; exact env_fee hx j hj)
/-- told of a wider set -/
theorem SI.lift {G' : Nat → Prop} (h : SI G bw p cs d x w) (hb : Below w.heap.size w w') (hs : ∀ i, G' i → i < w.heap.size → G i) (hG : ∀ i, G i → G' i) (hT : Ther G' w') : SI G' bw p cs d x w' :=
  ⟨⟨h.cw.row.kept hb, h.cw.len, (h.cw.kw.to hs).go (ChgS.of hb), hG _ h.cw.g, hT⟩, h.logs, h.dl, (h.xs.to hs).go (ChgS.of hb), h.phase, h.frames⟩
end

theorem infoOrig : (Sakg.prog.info? 187).map (fun i => (i.zero, i.size, i.bytes)) = some (some (.agg (bv (zeros 20) ++ [nilS, nilS]).toArray), 22, 72) := by kernel_rfl
theorem placesOrig : PlacesOf 187 #[(0, 20), (20, 1), (21, 1)] := ⟨by kernel_rfl, fun w => by kernel_rfl⟩
theorem run_orig (wx : World) (a : List Int) (ha : IsAddr a) (A B : Option Addr) (k c k' c' : Nat) :
    (Instr.build 187 #[(0, .agg (bv a).toArray), (1, .slice A k c), (2, .slice B k' c')]).run Sakg.prog wx = .ok (.agg (bv a ++ [Value.slice A k c, .slice B k' c']).toArray) wx := by
  obtain ⟨i0, hi0, hz0, hz1, hz2⟩ := info_parts infoOrig
  refine run_build_struct wx 187 _ placesOrig i0 _ hi0 hz0 (bv (zeros 20) ++ [nilS, nilS]) rfl _ _ ?_
  have hl20 : (bv (zeros 20)).length = 20 := by rw [bv_len, zeros_len]
  have hla : (bv a).length = 20 := by rw [bv_len, ha.len]
  rw [fill_cons _ _ 0 (.agg (bv a).toArray) _ 0 20 rfl (bv a) rfl hla (by simp [hl20])]
  have s0 := spl_mid [] (bv (zeros 20)) [nilS, nilS] (bv a) (by rw [hl20, hla])
  rw [List.nil_append, List.nil_append, List.length_nil] at s0
  rw [s0]
  rw [fill_cons _ _ 1 (.slice A k c) _ 20 1 rfl [.slice A k c] rfl rfl (by simp [hla])]
  have s1 := spl_mid (bv a) [nilS] [nilS] [Value.slice A k c] rfl
  rw [hla] at s1
  rw [show bv a ++ [nilS, nilS] = bv a ++ ([nilS] ++ [nilS]) from rfl, s1]
  rw [fill_cons _ _ 2 (.slice B k' c') _ 21 1 rfl [.slice B k' c'] rfl rfl (by simp [hla])]
  have s2 := spl_mid (bv a ++ [Value.slice A k c]) [nilS] [] [Value.slice B k' c'] rfl
  rw [show (bv a ++ [Value.slice A k c]).length = 21 from by simp [hla], List.append_assoc] at s2
  rw [List.append_nil] at s2
  rw [s2, Instr.fill]
  simp
theorem orig_one (a : List Int) (A B : Option Addr) (k c k' c' : Nat) : ∀ v ∈ bv a ++ [Value.slice A k c, .slice B k' c'], v.oneCell' = true := by
  intro u hu
  rcases List.mem_append.1 hu with h | h
  · exact bv_one _ u h
  · simp at h
    rcases h with rfl | rfl <;> rfl


/-- the rest of a state, with what Begin lays in it -/
def opX (x : XD) (st : List YTemp) (rt : List Int) (s ap l t lf p : Nat) (o m : List Int) : XD := { x with start := st, ret := rt, status := s, applied := ap, limit := l, txgas := t, left := lf, price := p, origin := o, made := m }
theorem XB.opens {x : XD} (h : XB x) {st : List YTemp} {rt : List Int} {s ap l t lf p : Nat} {o m : List Int} (h1 : ∀ t ∈ st, t.key < P256 ∧ t.val < P256) (h2 : st.length ≤ 900000) (h3 : rt.length ≤ 1000000) (h4 : l ≤ 1048576) (h5 : t ≤ 1048576) (h6 : lf ≤ 1048576) (h7 : p < P256) (h8 : IsAddr o) (h9 : IsAddr m) : XB (opX x st rt s ap l t lf p o m) :=
  ⟨h1, h2, h3, h4, h5, h6, h7, h.total, h8, h9, h.coin, h.number, h.time, h.glimit, h.randao, h.chain, h.fee⟩
/-- what the verdict 'applied' says -/
structure VerdK (ds : List YAcct) (gl : Nat) (fee : List Int) (d : YTx) : Prop where
  gas : d.gas ≤ 1048576
  data : d.data.length ≤ 1024
  list : listB d.access = true
  non : d.nonce = (lookY ds d.frm).nonce
  nonmax : (lookY ds d.frm).nonce ≠ 18446744073709551615
  init : d.create = true → d.data.length ≤ 512
  intr : intrN d ≤ d.gas
  funds : d.gas * beN (mostW d) + beN d.value ≤ (lookY ds d.frm).bal
  tip : beN (tipW d) ≤ beN (mostW d)
  fee : beN fee ≤ beN (mostW d)
theorem verdK {ds : List YAcct} {gl : Nat} {fee : List Int} {d : YTx} (h : verdN ds gl fee d = 0) : VerdK ds gl fee d := by
  unfold verdN at h
  by_cases h1 : 1048576 < d.gas
  · rw [if_pos h1] at h; cases h
  rw [if_neg h1] at h
  by_cases h2 : 1024 < d.data.length
  · rw [if_pos h2] at h; cases h
  rw [if_neg h2] at h
  by_cases h3 : listB d.access = false
  · rw [if_pos h3] at h; cases h
  rw [if_neg h3] at h
  by_cases h4 : d.nonce ≠ (lookY ds d.frm).nonce
  · rw [if_pos h4] at h; cases h
  rw [if_neg h4] at h
  by_cases h5 : (lookY ds d.frm).nonce = 18446744073709551615
  · rw [if_pos h5] at h; cases h
  rw [if_neg h5] at h
  by_cases h6 : 0 < (lookY ds d.frm).code.length
  · rw [if_pos h6] at h; cases h
  rw [if_neg h6] at h
  by_cases h7 : d.create = true ∧ 512 < d.data.length
  · rw [if_pos h7] at h; cases h
  rw [if_neg h7] at h
  by_cases h8 : d.gas < intrN d
  · rw [if_pos h8] at h; cases h
  rw [if_neg h8] at h
  by_cases h9 : gl < d.gas
  · rw [if_pos h9] at h; cases h
  rw [if_neg h9] at h
  by_cases h10 : (lookY ds d.frm).bal < d.gas * beN (mostW d) + beN d.value
  · rw [if_pos h10] at h; cases h
  rw [if_neg h10] at h
  by_cases h11 : beN (mostW d) < beN (tipW d)
  · rw [if_pos h11] at h; cases h
  rw [if_neg h11] at h
  by_cases h12 : beN (mostW d) < beN fee
  · rw [if_pos h12] at h; cases h
  refine ⟨by omega, by omega, by simpa using h3, by simpa using h4, h5, fun hc => ?_, by omega, by omega, by omega, by omega⟩
  rcases Nat.lt_or_ge 512 d.data.length with hh | hh
  · exact absurd ⟨hc, hh⟩ h7
  · exact hh
theorem VerdK.price {ds : List YAcct} {gl : Nat} {fee : List Int} {d : YTx} (h : VerdK ds gl fee d) : beN fee ≤ priceN d fee ∧ priceN d fee ≤ beN (mostW d) := by
  have h1 := h.fee
  unfold priceN
  omega
section
variable {G : Nat → Prop} {bw p : Nat} {cs : List Value} {d : WD} {ds : List YAcct} {x : XD} {w w' wz : World} {B : Nat}
theorem SI.stn (h : SI G bw 0 cs (freshD ds) x w) (hx : XB x) (hg : Good B (freshD ds)) (hap : x.applied ≤ 3) : ∃ ao l c, StN x.applied 107 bw cs w ao l c ds x.glimit x.fee := by
  obtain ⟨ao, l, c, h1, h2⟩ := h.cw.kw.accts
  have hl : ds.length = l := h2.len
  have hna : ds.length ≤ 900000 := hg.na
  refine ⟨ao, l, c, h.cw.row, h2.s h.cw.g, h1, by omega, hg.bnd, h.phase, h.xs.applied, hap, ?_, hx.glimit, ?_, hx.fee⟩
  · rw [show 81 = 59 + 22 from rfl, h.xs.env 22 (by omega)]
    unfold envRow
    rw [List.getElem?_append_right (by rw [bv_len, hx.coin.len]; omega), bv_len, hx.coin.len]
    rfl
  · refine List.ext_getElem? fun i => ?_
    by_cases hi : i < 32
    · rw [List.getElem?_take, if_pos hi, List.getElem?_drop, show 146 + i = 59 + (87 + i) by omega, h.xs.env _ (by omega)]
      exact env_fee hx i hi
    · rw [List.getElem?_take, if_neg hi, List.getElem?_eq_none (by rw [bv_len, hx.fee.len]; omega)]
theorem CW.accountW (h : CW G bw cs d w) (hg : Good B d) (hb : Below w.heap.size w wz) (a : List Int) (ha : IsAddr a) :
    Calls Sakg.prog 99 #[.pointer (some ⟨bw, 0, none⟩), .agg (bv a).toArray] wz fun e w' => ∃ r, e = .returned (.agg r.toArray) ∧ KAcct G w r (lookY d.accts a) ∧ Below wz.heap.size wz w' := by
  obtain ⟨ao, l, c, h1, rows, h2, h3⟩ := h.kw.accts
  have hna := hg.na
  have hl : d.accts.length = l := by rw [← h3.len, h2.now.len_eq]
  exact account_any (KAcct G w) (karow G w) bw 0 ao l c rows d.accts a wz ((h.kept hb).cell h1) (h2.kp (ChgS.of hb)).now h3 ha (by omega)
theorem bal_nonY {B : Nat} {ds : List YAcct} (h : GoodD B ds) {a : List Int} (ha : IsAddr a) (m : Nat) (hm : m ≠ 0) : (lookY (nonY ds a m) a).bal = (lookY ds a).bal := by
  have h1 := putY_look (ds := ds) (d := { lookY ds a with nonce := m }) (lookY_isAddr ds a ha) h.srt h.addr (.inl hm)
  have h2 : ({ lookY ds a with nonce := m } : YAcct).addr = a := lookY_addr a ds
  rw [h2] at h1
  unfold nonY
  rw [h1]
/-- the outer frame, plainly -/
def outerF (gas v : Nat) (slf caller : List Int) : FD := { kind := 0, native := 0, static := false, pc := 0, gas := gas, value := v, outOff := 0, outLen := 0, stk := [], ml := 0, code := [], input := [], self := slf, caller := caller, saved := emptyWD }
theorem KF.outer {gas v : Nat} {Ag Av : Option Addr} {kg cg kv cv : Nat} (hg : KNat G w Ag kg cg gas) (hv : KNat G w Av kv cv v) {slf caller : List Int} (hs : IsAddr slf) (hc : IsAddr caller) :
    KF G (fun i => (frame5 Ag Av kg cg kv cv slf caller)[i]?) (outerF gas v slf caller) w := by
  have hL : [Value.int .u8 0, .int .u8 0, .bool false, nilS, .slice Ag kg cg, .slice Av kv cv, nilS, nilS, nilS, nilS, nilS, nilS].length = 12 := rfl
  have hrow : frame5 Ag Av kg cg kv cv slf caller = rowOf [Value.int .u8 0, .int .u8 0, .bool false, nilS, .slice Ag kg cg, .slice Av kv cv, nilS, nilS, nilS, nilS, nilS, nilS] slf caller := rfl
  rw [hrow]
  have E : ∀ i, i < 12 → (rowOf [Value.int .u8 0, .int .u8 0, .bool false, nilS, .slice Ag kg cg, .slice Av kv cv, nilS, nilS, nilS, nilS, nilS, nilS] slf caller)[i]? = [Value.int .u8 0, .int .u8 0, .bool false, nilS, .slice Ag kg cg, .slice Av kv cv, nilS, nilS, nilS, nilS, nilS, nilS][i]? := fun i hi => rowOf_lo hL hi
  exact ⟨E 0 (by omega), E 1 (by omega), E 2 (by omega), ⟨none, 0, 0, E 3 (by omega), KNat.nil G w⟩, ⟨Ag, kg, cg, E 4 (by omega), hg⟩, ⟨Av, kv, cv, E 5 (by omega), hv⟩, ⟨none, 0, 0, E 6 (by omega), KNat.nil G w⟩, ⟨none, 0, 0, E 7 (by omega), KNat.nil G w⟩, ⟨none, 0, 0, E 8 (by omega), SStk.none G w⟩, ⟨none, 0, E 9 (by omega), KMem.nil G w⟩, ⟨none, 0, 0, E 10 (by omega), KSrc.nil G w⟩, ⟨none, 0, 0, E 11 (by omega), KSrc.nil G w⟩, fun i hi => rowOf_self hL hs hi, fun i hi => rowOf_caller hL hs hc hi, hs, hc, ⟨List.replicate 8 nilS, ⟨rfl, fun v hv => by rw [List.eq_of_mem_replicate hv]; exact ⟨none, 0, 0, rfl⟩⟩, fun i hi => rowOf_saved hL hs hc hi, KW.empty G w⟩⟩
theorem knatBx {gb v k c : Nat} {w0 wN wS : World} {A : Option Addr} (n : IsNat wN A k c v) (hN : New w0 A) (hT : Ther G w0) (h : gb < w0.heap.size ∨ wN.heap.size ≤ gb) (hc : ChgS (Plus G gb) wN wS) : KNat (Plus G gb) wS A k c v := by
  rcases h with h | h
  · exact (KNat.new n hN (hT.plus h)).kp hc
  · exact StabS.kp (StabS.to (KNat.new n hN hT) (plus_new h)) hc
/-- the state and the outer frame's box, while the frame is filled -/
structure OF (E : Nat → Prop) (bw gF : Nat) (cs : List Value) (D : WD) (x : XD) (fb : List Value) (f : FD) (w34 w : World) : Prop where
  si : SI E bw 0 cs D x w
  fx : FX E gF 0 fb f w
  chg : Chg bw w34 w
  len : fb.length = 60
theorem OF.kept {E : Nat → Prop} {gF : Nat} {fb : List Value} {f : FD} {w34 : World} (h : OF E bw gF cs d x fb f w34 w) (hb : Below w.heap.size w w') : OF E bw gF cs d x fb f w34 w' := ⟨h.si.kept hb, h.fx.kept hb, h.chg.trans (Chg.of hb), h.len⟩
theorem OF.put {E : Nat → Prop} {gF : Nat} {fb : List Value} {f f' : FD} {w34 : World} (h : OF E bw gF cs d x fb f w34 w) (hg : w34.heap.size ≤ gF) (hn : gF ≠ bw) {j : Nat} (hj : j < 60) {v : Value} (hk : KF E (upd (cellsAt fb 0) j v) f' w) : OF E bw gF cs d x (fb.set j v) f' w34 (w.setCell ⟨gF, j, none⟩ v) := by
  have ho : Only gF w (w.setCell ⟨gF, j, none⟩ v) := (Only.refl _ _).setCell _ _
  have h1 := h.fx.put hj hk
  rw [Nat.zero_add] at h1
  exact ⟨h.si.off ho h.fx.g hn, h1, h.chg.onlyNew ho hg, by rw [List.length_set]; exact h.len⟩
theorem OF.cell {E : Nat → Prop} {gF : Nat} {fb : List Value} {f : FD} {w34 : World} (h : OF E bw gF cs d x fb f w34 w) {i : Nat} (hi : i < 60) : ∃ v, w.cell? ⟨gF, i, none⟩ = some v := by
  rw [h.fx.row.cell, List.getElem?_eq_getElem (by rw [h.len]; exact hi)]
  exact ⟨_, rfl⟩
/-- the phase is set: what enter asks for -/
theorem OF.phase {E : Nat → Prop} {gF : Nat} {fb : List Value} {f : FD} {w34 : World} (h : OF E bw gF cs d x fb f w34 w) : SI E bw 1 (cs.set 11 (.int .u8 1)) d x (w.setCell ⟨bw, 11, none⟩ (.int .u8 1)) ∧ KF E (fun i => fb[i]?) f (w.setCell ⟨bw, 11, none⟩ (.int .u8 1)) ∧ Chg bw w34 (w.setCell ⟨bw, 11, none⟩ (.int .u8 1)) := by
  obtain ⟨h1, h2⟩ := h.si.setPhase 1
  exact ⟨h1, h.fx.kfRow.go (Mv.chain h.si.cw.row h.si.cw.g (Chg.ofOnly h2)), h.chg.trans (Chg.ofOnly h2)⟩
/-- the outer frame stands alone -/
theorem inv_first {D D' : WD} {f : FD} {T g : Nat} (hs : Snd B D) (hg : Gr B D D' 10000) (ha : AnyF f) (hfg : f.gas = g) (hfm : f.ml = 0) (hl : f.code ≠ [] → Live D'.accts f.self) (hK : wt D + 10000 + 400 * (g + 30) ≤ 2250000000) (hgm : g ≤ 1048576) (hT : g ≤ T) : Inv B (wt D + 10000 + 400 * (g + 30)) T [{ f with saved := D }] D' := by
  have hG1 : sumG [{ f with saved := D }] = g := by simp [sumG, hfg]
  have hM1 : sumM [{ f with saved := D }] = g := by simp [sumM, hfg, hfm, memN]
  have hw := hg.wtle
  refine ⟨Okay.push (r := []) (d := D) hs rfl hg hl, fun e he => ?_, by omega, by omega, fun f' hf' => ?_, fun f' hf' => by simp at hf', by simp, hK⟩
  · rw [hG1]
    simp only [List.map_cons, List.map_nil, List.mem_cons, List.not_mem_nil, or_false, List.length_singleton] at he ⊢
    rcases he with rfl | rfl <;> omega
  · rw [List.mem_singleton.1 hf']
    exact ⟨ha.pc, ha.value, ha.outOff, ha.outLen, ha.stk, ha.slen, ha.code, ha.input, ha.kind, ha.native⟩
end

end Go.Proofs.YgcsakGreat
