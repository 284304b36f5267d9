/-
  kmodel, exactly: turn, Const, Offset.
-/
import Derived.Test.YgcsakGreatKmB
namespace Go.Proofs.YgcsakGreat
set_option linter.unusedVariables false
set_option linter.unusedSimpArgs false
set_option maxRecDepth 100000
open Go.RowKit

/-- one turn of the register -/
def turnR (f : Nat → Bool) (k : Nat) : Bool := if k = 0 then f 7 else if k = 4 ∨ k = 5 ∨ k = 6 then f (k - 1) != f 7 else f (k - 1)
theorem turnR_of {f f1 f2 f3 f4 : Nat → Bool} (h1 : ∀ k, k < 8 → f1 k = if 0 < k then f (k - 1) else f k) (h2 : f2 = fun k => if k = 0 then f 7 else f1 k) (h3 : f3 = fun k => if k = 4 then (!f2 4 == f 7) else f2 k) (h4 : f4 = fun k => if k = 5 then (!f3 5 == f 7) else f3 k) (k : Nat) (hk : k < 8) :
    (if k = 6 then (!f4 6 == f 7) else f4 k) = turnR f k := by
  have q : ∀ j, 0 < j → j < 8 → f1 j = f (j - 1) := fun j h0 h => by rw [h1 j h, if_pos h0]
  subst h2 h3 h4
  have hc : k = 0 ∨ k = 1 ∨ k = 2 ∨ k = 3 ∨ k = 4 ∨ k = 5 ∨ k = 6 ∨ k = 7 := by omega
  rcases hc with rfl | rfl | rfl | rfl | rfl | rfl | rfl | rfl <;> simp [turnR, q, bne]
theorem turn_step {f f1 : Nat → Bool} {i : Nat} (h1 : ∀ k, k < 8 → f1 k = if i + 1 < k then f (k - 1) else f k) (k : Nat) (hk : k < 8) (hi : i < 7) : (if k = i + 1 then f1 i else f1 k) = if i < k then f (k - 1) else f k := by
  by_cases h : k = i + 1
  · subst h
    rw [if_pos rfl, h1 i (by omega), if_neg (by omega), if_pos (by omega)]
    rfl
  · rw [if_neg h, h1 k hk]
    by_cases h2 : i + 1 < k
    · rw [if_pos h2, if_pos (by omega)]
    · rw [if_neg h2, if_neg (by omega)]
set_option maxHeartbeats 4000000 in
theorem turn_x (g : Nat) (f : Nat → Bool) (w : World) (h : BT 535 w g 8 f) :
    Calls Sakg.prog 511 #[.pointer (some ⟨g, 0, none⟩)] w fun e w' => e = .returned (.tuple #[]) ∧ (∃ f', BT 535 w' g 8 f' ∧ ∀ k, k < 8 → f' k = turnR f k) ∧ Only g w w' := by
  have h7 := h.cell 7 (by omega)
  have H := hide h
  clear h
  go_enter Sakg.func511, Sakg.ntmps511
  go_wp2_with fail
  go_loopg [3] 7 (fun gk iv wr => iv = .int .i64 gk ∧ gk ≤ 7 ∧ (∃ f', BT 535 wr g 8 f' ∧ ∀ k, k < 8 → f' k = if gk < k then f (k - 1) else f k) ∧ Only g w wr)
  case atStart => exact ⟨rfl, by omega, ⟨f, unhide H, fun k hk => by rw [if_neg (by omega)]⟩, Only.refl _ _⟩
  case round =>
    obtain ⟨rfl, hk, ⟨f1, h1, e1⟩, ho⟩ := hrel
    have E1 := hide e1
    clear e1
    by_cases h0 : gk = 0
    · subst h0
      have c4 := h1.cell 4 (by omega)
      have c5 := h1.cell 5 (by omega)
      have c6 := h1.cell 6 (by omega)
      have c0 := h1.cell 0 (by omega)
      have z0 := h1.froz 0
      have z4 := h1.froz 4
      have z5 := h1.froz 5
      have z6 := h1.froz 6
      have H1 := hide h1
      clear h1
      clear c4 c5 c6 z4 z5 z6
      go_upto_region 6 with fail
      obtain ⟨w2, hw2⟩ : ∃ w2, w2 = wr.setCell ⟨g, 0, none⟩ (.bool (f 7)) := ⟨_, rfl⟩
      rw [← hw2]
      have h2 : BT 535 w2 g 8 (fun k => if k = 0 then f 7 else f1 k) := hw2 ▸ (unhide H1).set 0 (f 7)
      have ho2 : Only g w w2 := hw2 ▸ ho.setCell 0 _
      obtain ⟨f2, hf2⟩ : ∃ f2, f2 = fun k => if k = 0 then f 7 else f1 k := ⟨_, rfl⟩
      rw [← hf2] at h2
      have F2 := hide hf2
      clear hf2
      have c4 := h2.cell 4 (by omega)
      have z4 := h2.froz 4
      have H2 := hide h2
      clear h2 hw2 c0 z0
      rw [shade_of 30]
      go_region_held3 (fun _ => True) (trivial) (fail)
      go_upto_region 7 with fail
      obtain ⟨w3, hw3⟩ : ∃ w3, w3 = (w2.setCell ⟨g, 4, none⟩ (.bool (!f2 4 == f 7))).drew := ⟨_, rfl⟩
      rw [← hw3]
      have h3 : BT 535 w3 g 8 (fun k => if k = 4 then (!f2 4 == f 7) else f2 k) := hw3 ▸ RowT.kept ((unhide H2).set 4 _) (Quiet.below ⟨1, rfl⟩ _)
      have ho3 : Only g w w3 := hw3 ▸ (ho2.setCell 4 _).quiet ⟨1, rfl⟩
      obtain ⟨f3, hf3⟩ : ∃ f3, f3 = fun k => if k = 4 then (!f2 4 == f 7) else f2 k := ⟨_, rfl⟩
      rw [← hf3] at h3
      have F3 := hide hf3
      clear hf3
      have c5 := h3.cell 5 (by omega)
      have z5 := h3.froz 5
      have H3 := hide h3
      clear h3 hw3 c4 z4
      rw [shade_of 39]
      go_region_held3 (fun _ => True) (trivial) (fail)
      go_upto_region 8 with fail
      obtain ⟨w4, hw4⟩ : ∃ w4, w4 = (w3.setCell ⟨g, 5, none⟩ (.bool (!f3 5 == f 7))).drew := ⟨_, rfl⟩
      rw [← hw4]
      have h4 : BT 535 w4 g 8 (fun k => if k = 5 then (!f3 5 == f 7) else f3 k) := hw4 ▸ RowT.kept ((unhide H3).set 5 _) (Quiet.below ⟨1, rfl⟩ _)
      have ho4 : Only g w w4 := hw4 ▸ (ho3.setCell 5 _).quiet ⟨1, rfl⟩
      obtain ⟨f4, hf4⟩ : ∃ f4, f4 = fun k => if k = 5 then (!f3 5 == f 7) else f3 k := ⟨_, rfl⟩
      rw [← hf4] at h4
      have F4 := hide hf4
      clear hf4
      have c6 := h4.cell 6 (by omega)
      have z6 := h4.froz 6
      have H4 := hide h4
      clear h4 hw4 c5 z5
      rw [shade_of 48]
      go_region_held3 (fun _ => True) (trivial) (fail)
      go_wp2
      refine bodyPost_done rfl rfl ⟨rfl, ?_⟩
      refine ⟨⟨_, RowT.kept ((unhide H4).set 6 _) (Quiet.below ⟨1, rfl⟩ _), fun k hk => ?_⟩, (ho4.setCell 6 _).quiet ⟨1, rfl⟩⟩
      exact turnR_of (unhide E1) (unhide F2) (unhide F3) (unhide F4) k hk
    · obtain ⟨i, rfl⟩ : ∃ i, gk = i + 1 := ⟨gk - 1, by omega⟩
      have c1 := h1.cell i (by omega)
      have c2 := h1.cell (i + 1) (by omega)
      have hf1 := h1.froz (i + 1)
      have H1 := hide h1
      clear h1
      have b1 : (0 : Int) ≤ (i : Int) := by omega
      have b2 : (i : Int) < 8 := by omega
      have b3 : IntKind.i64.wrap (((i + 1 : Nat) : Int) - 1) = i := by rw [IntKind.wrap_i64]; omega
      have b5 : IntKind.i64.wrap (i : Int) = i := by rw [IntKind.wrap_i64]; omega
      have b7 : (0 : Int) ≤ (i : Int) + 1 := by omega
      have b4 : (i : Int) + 1 < 8 := by omega
      go_upto_region 4 with fail
      rw [shade_of 19]
      go_region_held3 (fun _ => True) (trivial) (fail)
      go_wp2
      go_roundg i
      case measure => omega
      case rel => exact ⟨rfl, by omega, ⟨_, (BT.set ((unhide H1).kept (Quiet.below ⟨1, rfl⟩ _)) _ _), fun k hk => turn_step (unhide E1) k hk (by omega)⟩, (ho.quiet ⟨1, rfl⟩).setCell _ _⟩

end Go.Proofs.YgcsakGreat
