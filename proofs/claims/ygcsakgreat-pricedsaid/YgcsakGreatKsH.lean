/-
  what lasts under other sets of blocks; laws for clone.
-/
import Derived.Test.YgcsakGreatKsG
namespace Go.Proofs.YgcsakGreat
set_option linter.unusedVariables false
set_option linter.unusedSimpArgs false
set_option maxRecDepth 100000
open Go.RowKit

section
variable {G G' : Nat → Prop} {w : World} {ao : Option Addr} {l c : Nat} {r : List Value}
theorem StabS.to {P : World → Prop} (h : StabS G P w) (hs : ∀ i, G' i → i < w.heap.size → G i) : StabS G' P w := h.go (ChgS.refl _ _) hs
theorem KSlot.to {s : Nat × Nat} (h : KSlot G w r s) (hs : ∀ i, G' i → i < w.heap.size → G i) : KSlot G' w r s := by
  obtain ⟨A, k, c, A', k', c', h1, h2, h3⟩ := h
  exact ⟨A, k, c, A', k', c', h1, h2.to hs, h3.to hs⟩
theorem KSlots.to {ss : List (Nat × Nat)} (h : KSlots G w ao l c ss) (hs : ∀ i, G' i → i < w.heap.size → G i) : KSlots G' w ao l c ss := by
  obtain ⟨rows, h1, h2⟩ := h
  exact ⟨rows, h1.to hs, h2.imp fun _ _ h => h.to hs⟩
theorem KAcct.to {d : YAcct} (h : KAcct G w r d) (hs : ∀ i, G' i → i < w.heap.size → G i) : KAcct G' w r d := by
  obtain ⟨A1, k1, c1, A2, k2, c2, A3, k3, c3, A4, k4, c4, h1, h2, h3, h4, h5, h6⟩ := h
  exact ⟨A1, k1, c1, A2, k2, c2, A3, k3, c3, A4, k4, c4, h1, h2, h3.to hs, h4.to hs, h5.to hs, h6.to hs⟩
theorem KAccts.to {ds : List YAcct} (h : KAccts G w ao l c ds) (hs : ∀ i, G' i → i < w.heap.size → G i) : KAccts G' w ao l c ds := by
  obtain ⟨rows, h1, h2⟩ := h
  exact ⟨rows, h1.to hs, h2.imp fun _ _ h => h.to hs⟩
theorem KAddrs.to {als : List (List Int)} (h : KAddrs G w ao l c als) (hs : ∀ i, G' i → i < w.heap.size → G i) : KAddrs G' w ao l c als := StabS.to h hs
theorem KMark.to {s : YMark} (h : KMark G w r s) (hs : ∀ i, G' i → i < w.heap.size → G i) : KMark G' w r s := by
  obtain ⟨A, k, c, h1, h2, h3, h4⟩ := h
  exact ⟨A, k, c, h1, h2, h3.to hs, h4⟩
theorem KMarks.to {ms : List YMark} (h : KMarks G w ao l c ms) (hs : ∀ i, G' i → i < w.heap.size → G i) : KMarks G' w ao l c ms := by
  obtain ⟨rows, h1, h2⟩ := h
  exact ⟨rows, h1.to hs, h2.imp fun _ _ h => h.to hs⟩
theorem KTemp.to {s : YTemp} (h : KTemp G w r s) (hs : ∀ i, G' i → i < w.heap.size → G i) : KTemp G' w r s := by
  obtain ⟨A, k, c, A', k', c', h1, h2, h3, h4, h5⟩ := h
  exact ⟨A, k, c, A', k', c', h1, h2, h3.to hs, h4.to hs, h5⟩
theorem KTemps.to {ms : List YTemp} (h : KTemps G w ao l c ms) (hs : ∀ i, G' i → i < w.heap.size → G i) : KTemps G' w ao l c ms := by
  obtain ⟨rows, h1, h2⟩ := h
  exact ⟨rows, h1.to hs, h2.imp fun _ _ h => h.to hs⟩
theorem KLog.to {s : YLog} (h : KLog G w r s) (hs : ∀ i, G' i → i < w.heap.size → G i) : KLog G' w r s := by
  obtain ⟨A, c, A', c', rows, xs, h1, h2, h3, h4, h5⟩ := h
  exact ⟨A, c, A', c', rows, xs, h1, h2, h3.to hs, h4, h5.to hs⟩
theorem KLogs.to {ms : List YLog} (h : KLogs G w ao l c ms) (hs : ∀ i, G' i → i < w.heap.size → G i) : KLogs G' w ao l c ms := by
  obtain ⟨rows, h1, h2⟩ := h
  exact ⟨rows, h1.to hs, h2.imp fun _ _ h => h.to hs⟩
theorem KW.to {cs : List Value} {d : WD} (h : KW G cs d w) (hs : ∀ i, G' i → i < w.heap.size → G i) : KW G' cs d w := by
  obtain ⟨⟨a0, l0, c0, e0, h0⟩, ⟨a1, l1, c1, e1, h1⟩, ⟨a2, l2, c2, e2, h2⟩, ⟨a3, l3, c3, e3, h3⟩, ⟨a4, l4, e4, h4⟩, ⟨a5, l5, c5, e5, h5⟩, ⟨a6, l6, c6, e6, h6⟩, ⟨a7, l7, c7, e7, h7⟩⟩ := h
  exact ⟨⟨a0, l0, c0, e0, h0.to hs⟩, ⟨a1, l1, c1, e1, h1.to hs⟩, ⟨a2, l2, c2, e2, h2.to hs⟩, ⟨a3, l3, c3, e3, h3.to hs⟩, ⟨a4, l4, e4, h4.to hs⟩, ⟨a5, l5, c5, e5, h5.to hs⟩, ⟨a6, l6, c6, e6, h6.to hs⟩, ⟨a7, l7, c7, e7, h7.to hs⟩⟩
theorem KV.to {cs : List Value} {d : WD} (h : KV G cs d w) (hs : ∀ i, G' i → i < w.heap.size → G i) : KV G' cs d w := by
  obtain ⟨⟨a0, l0, c0, e0, h0⟩, ⟨a1, l1, c1, e1, h1⟩, ⟨a2, l2, c2, e2, h2⟩, ⟨a3, l3, c3, e3, h3⟩, ⟨a4, l4, c4, e4, h4⟩, ⟨a5, l5, c5, e5, h5⟩, ⟨a6, l6, c6, e6, h6⟩, ⟨a7, l7, c7, e7, h7⟩⟩ := h
  exact ⟨⟨a0, l0, c0, e0, h0.to hs⟩, ⟨a1, l1, c1, e1, h1.to hs⟩, ⟨a2, l2, c2, e2, h2.to hs⟩, ⟨a3, l3, c3, e3, h3.to hs⟩, ⟨a4, l4, c4, e4, h4⟩, ⟨a5, l5, c5, e5, h5.to hs⟩, ⟨a6, l6, c6, e6, h6.to hs⟩, ⟨a7, l7, c7, e7, h7.to hs⟩⟩
end
/-- a block that was not there may turn too -/
theorem plus_new {G : Nat → Prop} {w : World} {g : Nat} (hg : w.heap.size ≤ g) : ∀ i, Plus G g i → i < w.heap.size → G i := fun i hi hl => hi.elim id (fun e => by omega)
theorem plus_less {G : Nat → Prop} {w : World} {g : Nat} : ∀ i, G i → i < w.heap.size → Plus G g i := fun i hi _ => .inl hi
theorem plus_same {G : Nat → Prop} {w : World} {g : Nat} (hg : G g) : ∀ i, Plus G g i → i < w.heap.size → G i := fun i hi _ => hi.elim id (fun e => e ▸ hg)

theorem Rws.none (w : World) (sz : Nat) (A : Option Addr) : Rws w sz A 0 0 [] := ⟨rfl, Nat.le_refl _, by unfold maxLen; omega, fun _ h => by simp at h, fun _ => ⟨rfl, rfl⟩, fun h => by omega⟩
theorem stab_none (G : Nat → Prop) (w : World) (sz : Nat) (A : Option Addr) : StabS G (fun w => Rws w sz A 0 0 []) w := fun w' _ => Rws.none w' sz A

theorem KW.lit {H : Nat → Prop} {w : World} {Aa Ab : Option Addr} {ka ca kb n : Nat} {ls : List YLog} (hr : KNat H w Aa ka ca n) (hl : KLogs H w Ab kb kb ls) : KW H [nilS, nilS, nilS, .slice Aa ka ca, .slice Ab kb kb, nilS, nilS, nilS] ⟨[], [], [], n, ls, [], [], []⟩ w :=
  ⟨⟨none, 0, 0, rfl, KAccts.nil H w⟩, ⟨none, 0, 0, rfl, KAddrs.nil H w⟩, ⟨none, 0, 0, rfl, KMarks.nil H w⟩, ⟨_, _, _, rfl, hr⟩, ⟨_, _, rfl, hl⟩, ⟨none, 0, 0, rfl, KTemps.nil H w⟩, ⟨none, 0, 0, rfl, KAddrs.nil H w⟩, ⟨none, 0, 0, rfl, KAddrs.nil H w⟩⟩
theorem run_world3 (A B : Option Addr) (k c k' c' : Nat) (wx : World) : (Instr.build 101 #[(3, .slice A k c), (4, .slice B k' c')]).run Sakg.prog wx = .ok (.agg [nilS, nilS, nilS, Value.slice A k c, .slice B k' c', nilS, nilS, nilS].toArray) wx := by kernel_rfl
theorem world_row3 (A B : Option Addr) (k c k' c' : Nat) : Slices 8 [nilS, nilS, nilS, Value.slice A k c, .slice B k' c', nilS, nilS, nilS] := by
  refine ⟨rfl, fun v hv => ?_⟩
  simp at hv
  rcases hv with rfl | rfl | rfl | rfl
  · exact ⟨none, 0, 0, rfl⟩
  · exact ⟨A, k, c, rfl⟩
  · exact ⟨B, k', c', rfl⟩
  · exact ⟨none, 0, 0, rfl⟩
/-- a made list that is not yet filled, or none -/
def Made (T : TypeId) (sz : Nat) {α : Type} (R : List Value → α → Prop) (ds : List α) (A : Option Addr) (gb n i : Nat) (w : World) : Prop := 0 < n → A = some ⟨gb, 0, none⟩ ∧ Fill T sz R ds gb n i w
theorem Made.done {T : TypeId} {sz : Nat} {α : Type} {R : List Value → α → Prop} {ds : List α} {A : Option Addr} {gb n : Nat} {w : World} (h : Made T sz R ds A gb n n w) (hl : ds.length = n) (hm : n ≤ maxLen) {H : Nat → Prop} (ho : 0 < n → ¬ H gb) : ∃ rows, StabS H (fun w => Rws w sz A n n rows) w ∧ Each R rows ds := by
  rcases Nat.eq_zero_or_pos n with h0 | h0
  · subst h0
    have hd : ds = [] := List.length_eq_zero_iff.1 hl
    subst hd
    exact ⟨[], stab_none H w sz A, trivial⟩
  · obtain ⟨rfl, hf⟩ := h h0
    obtain ⟨rows, h1, h2⟩ := hf.done hl hm
    exact ⟨rows, StabS.rws h1 (fun x hx _ hg => ho h0 (by obtain rfl := Option.some.inj hx; exact hg)), h2⟩

end Go.Proofs.YgcsakGreat
