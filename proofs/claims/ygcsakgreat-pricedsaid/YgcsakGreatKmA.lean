/-
  kmodel: blocks of bools; turn, Const, Offset, bit.
-/
import Derived.Test.YgcsakGreatYpF
namespace Go.Proofs.YgcsakGreat
set_option linter.unusedVariables false
set_option linter.unusedSimpArgs false
set_option maxRecDepth 100000
open Go.RowKit

@[irreducible] def bools (n : Nat) (f : Nat → Bool) : List Value := (List.range n).map fun i => Value.bool (f i)
theorem bools_len (n : Nat) (f : Nat → Bool) : (bools n f).length = n := by simp [bools]
theorem bools_get (n : Nat) (f : Nat → Bool) (i : Nat) (h : i < n) : (bools n f)[i]? = some (.bool (f i)) := by simp [bools, h]
theorem bools8 : bools 8 (fun k => k == 0) = [.bool true, .bool false, .bool false, .bool false, .bool false, .bool false, .bool false, .bool false] := by unfold bools; rfl
theorem bools_one (n : Nat) (f : Nat → Bool) : ∀ v ∈ bools n f, v.oneCell' = true := by
  intro v hv
  simp [bools] at hv
  obtain ⟨a, _, rfl⟩ := hv
  rfl
theorem bools_set (n : Nat) (f : Nat → Bool) (i : Nat) (b : Bool) : (bools n f).set i (.bool b) = bools n (fun k => if k = i then b else f k) := by
  apply List.ext_getElem?
  intro j
  by_cases hj : j < n
  · by_cases hi : i = j
    · subst hi
      rw [List.getElem?_set_self (by rw [bools_len]; exact hj), bools_get _ _ _ hj, if_pos rfl]
    · rw [List.getElem?_set_ne hi, bools_get _ _ _ hj, bools_get _ _ _ hj, if_neg (fun h => hi h.symm)]
  · rw [List.getElem?_eq_none (by rw [List.length_set, bools_len]; omega), List.getElem?_eq_none (by rw [bools_len]; omega)]
/-- a list of n bools -/
theorem bools_of (n : Nat) (l : List Value) (hl : l.length = n) (h : ∀ v ∈ l, ∃ b, v = .bool b) : ∃ f, l = bools n f := by
  refine ⟨fun i => match l[i]? with | some (.bool b) => b | _ => false, ?_⟩
  apply List.ext_getElem?
  intro j
  by_cases hj : j < n
  · rw [bools_get _ _ _ hj]
    rw [List.getElem?_eq_getElem (by omega)]
    obtain ⟨b, hb⟩ := h _ (List.getElem_mem (l := l) (by omega : j < l.length))
    rw [hb]
  · rw [List.getElem?_eq_none (by omega), List.getElem?_eq_none (by rw [bools_len]; omega)]

/-- a block of n bools -/
def BT (t : TypeId) (w : World) (g n : Nat) (f : Nat → Bool) : Prop := RowT t w g (bools n f)
theorem BT.cell {t : TypeId} {w : World} {g n : Nat} {f : Nat → Bool} (h : BT t w g n f) (i : Nat) (hi : i < n) : w.cell? ⟨g, i, none⟩ = some (.bool (f i)) := by
  rw [RowT.cell h, bools_get _ _ _ hi]
theorem BT.froz {t : TypeId} {w : World} {g n : Nat} {f : Nat → Bool} (h : BT t w g n f) (i : Nat) : w.frozen? ⟨g, i, none⟩ = false := RowT.froz h i
theorem BT.set {t : TypeId} {w : World} {g n : Nat} {f : Nat → Bool} (h : BT t w g n f) (i : Nat) (b : Bool) : BT t (w.setCell ⟨g, i, none⟩ (.bool b)) g n (fun k => if k = i then b else f k) := by
  have := RowT.set h i (.bool b)
  rw [bools_set] at this
  exact this

theorem infoReg : (Sakg.prog.info? 535).map (·.size) = some 8 := by kernel_rfl
theorem infoState : (Sakg.prog.info? 467).map (fun i => (i.zero, i.size)) = some (some (.agg (bools 1600 fun _ => false).toArray), 1600) := by kernel_rfl

set_option maxHeartbeats 4000000 in
theorem turn_any (g : Nat) (f : Nat → Bool) (w : World) (h : BT 535 w g 8 f) :
    Calls Sakg.prog 511 #[.pointer (some ⟨g, 0, none⟩)] w fun e w' => e = .returned (.tuple #[]) ∧ (∃ f', BT 535 w' g 8 f') ∧ Only g w w' := by
  have h7 := h.cell 7 (by omega)
  have H := hide h
  clear h
  go_enter Sakg.func511, Sakg.ntmps511
  go_wp2_with fail
  go_loopg [3] 7 (fun gk iv wr => iv = .int .i64 gk ∧ gk ≤ 7 ∧ (∃ f', BT 535 wr g 8 f') ∧ Only g w wr)
  case atStart => exact ⟨rfl, by omega, ⟨f, unhide H⟩, Only.refl _ _⟩
  case round =>
    obtain ⟨rfl, hk, ⟨f1, h1⟩, ho⟩ := hrel
    by_cases h0 : gk = 0
    · subst h0
      have c4 := h1.cell 4 (by omega)
      have c5 := h1.cell 5 (by omega)
      have c6 := h1.cell 6 (by omega)
      have c0 := h1.cell 0 (by omega)
      have z0 := h1.froz 0
      have z4 := h1.froz 4
      have z5 := h1.froz 5
      have z6 := h1.froz 6
      have H1 := hide h1
      clear h1
      clear c4 c5 c6 z4 z5 z6
      go_upto_region 6 with fail
      obtain ⟨w2, hw2⟩ : ∃ w2, w2 = wr.setCell ⟨g, 0, none⟩ (.bool (f 7)) := ⟨_, rfl⟩
      rw [← hw2]
      have h2 : BT 535 w2 g 8 (fun k => if k = 0 then f 7 else f1 k) := hw2 ▸ (unhide H1).set 0 (f 7)
      have ho2 : Only g w w2 := hw2 ▸ ho.setCell 0 _
      generalize (fun k => if k = 0 then f 7 else f1 k) = f2 at h2
      have c4 := h2.cell 4 (by omega)
      have z4 := h2.froz 4
      have H2 := hide h2
      clear h2 hw2 c0 z0
      rw [shade_of 30]
      go_region_held3 (fun _ => True) (trivial) (fail)
      go_upto_region 7 with fail
      obtain ⟨w3, hw3⟩ : ∃ w3, w3 = (w2.setCell ⟨g, 4, none⟩ (.bool (!f2 4 == f 7))).drew := ⟨_, rfl⟩
      rw [← hw3]
      have h3 : BT 535 w3 g 8 (fun k => if k = 4 then (!f2 4 == f 7) else f2 k) := hw3 ▸ RowT.kept ((unhide H2).set 4 _) (Quiet.below ⟨1, rfl⟩ _)
      have ho3 : Only g w w3 := hw3 ▸ (ho2.setCell 4 _).quiet ⟨1, rfl⟩
      generalize (fun k => if k = 4 then (!f2 4 == f 7) else f2 k) = f3 at h3
      have c5 := h3.cell 5 (by omega)
      have z5 := h3.froz 5
      have H3 := hide h3
      clear h3 hw3 c4 z4
      rw [shade_of 39]
      go_region_held3 (fun _ => True) (trivial) (fail)
      go_upto_region 8 with fail
      obtain ⟨w4, hw4⟩ : ∃ w4, w4 = (w3.setCell ⟨g, 5, none⟩ (.bool (!f3 5 == f 7))).drew := ⟨_, rfl⟩
      rw [← hw4]
      have h4 : BT 535 w4 g 8 (fun k => if k = 5 then (!f3 5 == f 7) else f3 k) := hw4 ▸ RowT.kept ((unhide H3).set 5 _) (Quiet.below ⟨1, rfl⟩ _)
      have ho4 : Only g w w4 := hw4 ▸ (ho3.setCell 5 _).quiet ⟨1, rfl⟩
      generalize (fun k => if k = 5 then (!f3 5 == f 7) else f3 k) = f4 at h4
      have c6 := h4.cell 6 (by omega)
      have z6 := h4.froz 6
      have H4 := hide h4
      clear h4 hw4 c5 z5
      rw [shade_of 48]
      go_region_held3 (fun _ => True) (trivial) (fail)
      go_wp2
      refine bodyPost_done rfl rfl ⟨rfl, ?_⟩
      exact ⟨⟨_, RowT.kept ((unhide H4).set 6 _) (Quiet.below ⟨1, rfl⟩ _)⟩, (ho4.setCell 6 _).quiet ⟨1, rfl⟩⟩
    · obtain ⟨i, rfl⟩ : ∃ i, gk = i + 1 := ⟨gk - 1, by omega⟩
      have c1 := h1.cell i (by omega)
      have c2 := h1.cell (i + 1) (by omega)
      have hf1 := h1.froz (i + 1)
      have H1 := hide h1
      clear h1
      have b1 : (0 : Int) ≤ (i : Int) := by omega
      have b2 : (i : Int) < 8 := by omega
      have b3 : IntKind.i64.wrap (((i + 1 : Nat) : Int) - 1) = i := by rw [IntKind.wrap_i64]; omega
      have b5 : IntKind.i64.wrap (i : Int) = i := by rw [IntKind.wrap_i64]; omega
      have b7 : (0 : Int) ≤ (i : Int) + 1 := by omega
      have b4 : (i : Int) + 1 < 8 := by omega
      go_upto_region 4 with fail
      rw [shade_of 19]
      go_region_held3 (fun _ => True) (trivial) (fail)
      go_wp2
      go_roundg i
      case measure => omega
      case rel => exact ⟨rfl, by omega, ⟨_, (BT.set ((unhide H1).kept (Quiet.below ⟨1, rfl⟩ _)) _ _)⟩, (ho.quiet ⟨1, rfl⟩).setCell _ _⟩

end Go.Proofs.YgcsakGreat
