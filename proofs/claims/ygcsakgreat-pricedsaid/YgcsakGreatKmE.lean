/-
  kmodel: pi, chi, iota0.
-/
import Derived.Test.YgcsakGreatKmD
namespace Go.Proofs.YgcsakGreat
set_option linter.unusedVariables false
set_option linter.unusedSimpArgs false
set_option maxRecDepth 100000
open Go.RowKit

theorem sizeLane : (Sakg.prog.info? 464).map (·.size) = some 64 := by kernel_rfl

set_option maxHeartbeats 8000000 in
theorem pi_any (g : Nat) (f : Nat → Bool) (w : World) (h : BT 467 w g 1600 f) :
    Calls Sakg.prog 435 #[.pointer (some ⟨g, 0, none⟩)] w fun e w' => (∃ f', e = .returned (.agg (bools 1600 f').toArray)) ∧ Below w.heap.size w w' := by
  have hlt : g < w.heap.size := RowT.lt h
  have hT0 : Rh g w.heap.size w (w.alloc (.cells (bools 1600 fun _ => false).toArray 467)) := ⟨⟨_, RowT.new _ _ _⟩, ⟨f, RowT.alloc h _⟩, (Below.refl _ _).alloc (Nat.le_refl _) _⟩
  clear h
  go_enter Sakg.func435, Sakg.ntmps435
  go_upto_region 1 with ((with_reducible refine at_alloc 467 ?_); refine wpList_alloc_g (by rfl) 467 rfl _ _ infoState (bools_len _ _) ?_)
  generalize (w.alloc (.cells (bools 1600 fun _ => false).toArray 467)) = W at *
  go_wp2_with fail
  go_loopg [5] 5 (fun gk xv wr => ∃ x : Nat, x + gk = 5 ∧ xv = .int .i64 x ∧ Rh g w.heap.size w wr)
  case atStart => exact ⟨0, by omega, rfl, hT0⟩
  case round =>
    obtain ⟨x, hx, rfl, hT⟩ := hrel
    by_cases hxl : x < 5
    · have ix : (x : Int) < 5 := by omega
      have bx : (0 : Int) ≤ (x : Int) := by omega
      go_wp2_with fail
      go_loopg [8] 5 (fun gk yv wr => ∃ y : Nat, y + gk = 5 ∧ yv = .int .i64 y ∧ Rh g w.heap.size w wr)
      case atStart => exact ⟨0, by omega, rfl, hT⟩
      case round =>
        obtain ⟨y, hy, rfl, hT⟩ := hrel
        by_cases hyl : y < 5
        · have iy : (y : Int) < 5 := by omega
          have by_ : (0 : Int) ≤ (y : Int) := by omega
          obtain ⟨A, hA, hA5⟩ : ∃ A : Nat, ((x : Int) + 3 * (y : Int)) % 5 = (A : Int) ∧ A < 5 := ⟨(x + 3 * y) % 5, by omega, by omega⟩
          have iA : (A : Int) < 5 := by omega
          have bA : (0 : Int) ≤ (A : Int) := by omega
          have hA2 : Int.tmod ((x : Int) + 3 * (y : Int)) 5 = A := by rw [Int.tmod_eq_emod_of_nonneg (by omega)]; exact hA
          have hwA : IntKind.i64.wrap (A : Int) = A := by rw [IntKind.wrap_i64]; omega
          have hw3 : IntKind.i64.wrap (3 * (y : Int)) = 3 * (y : Int) := by rw [IntKind.wrap_i64]; omega
          have hw4 : IntKind.i64.wrap ((x : Int) + 3 * (y : Int)) = (x : Int) + 3 * (y : Int) := by rw [IntKind.wrap_i64]; omega
          obtain ⟨⟨fb, h1⟩, ⟨fa, h2⟩, h3⟩ := hT
          have g1 : BT 467 wr.drew w.heap.size 1600 fb := RowT.kept h1 (Quiet.below ⟨1, rfl⟩ _)
          have g2 : BT 467 wr.drew g 1600 fa := RowT.kept h2 (Quiet.below ⟨1, rfl⟩ _)
          have g3 : Below w.heap.size w wr.drew := h3.trans (Quiet.below ⟨1, rfl⟩ _)
          have hsz : (Sakg.prog.info? 464).map (·.size) = some (bools 64 fun i => fa (A * 320 + x * 64 + i)).length := by rw [bools_len]; exact sizeLane
          have hu := Sakg.underlying464
          go_upto_region 7 with fail
          refine wp_region_noPanic ?_
          refine wp_region_held_drew (S := fun w' => w'.rangeAt g (A * 320 + x * 64) (bools 64 fun i => fa (A * 320 + x * 64 + i))) (by kernel_rfl) (g2.part (A * 320 + x * 64) 64 (by omega)) (fun hHeld => ?_)
          refine held_takeD 0 (.int .i64 x) (some 11) (by rfl) (by rfl) (by kernel_rfl) (by kernel_rfl) (by kernel_rfl) (fun _ _ _ h => h) (.inl ⟨by rfl, fun _ _ => by rfl⟩) (hHeld) ?_
          simp only [Act.put, List.setIfInBounds_toArray, List.set_cons_zero, List.set_cons_succ]
          refine held_takeD 1 (.int .i64 y) (some 12) (by rfl) (by rfl) (by kernel_rfl) (by kernel_rfl) (by kernel_rfl) (fun _ _ _ h => h) (.inl ⟨by rfl, fun _ _ => by rfl⟩) (hHeld) ?_
          simp only [Act.put, List.setIfInBounds_toArray, List.set_cons_zero, List.set_cons_succ]
          refine held_takeD 2 (.pointer (some ⟨g, 0, none⟩)) (some 13) (by rfl) (by rfl) (by kernel_rfl) (by kernel_rfl) (by kernel_rfl) (fun _ _ _ h => h) (.inl ⟨by rfl, fun _ _ => by rfl⟩) (hHeld) ?_
          simp only [Act.put, List.setIfInBounds_toArray, List.set_cons_zero, List.set_cons_succ]
          refine held_takeD 3 (.int .i64 x) (some 14) (by rfl) (by rfl) (by kernel_rfl) (by kernel_rfl) (by kernel_rfl) (fun _ _ _ h => h) (.inl ⟨by rfl, fun _ _ => by rfl⟩) (hHeld) ?_
          simp only [Act.put, List.setIfInBounds_toArray, List.set_cons_zero, List.set_cons_succ]
          refine held_takeD 4 (.int .i64 y) (some 15) (by rfl) (by rfl) (by kernel_rfl) (by kernel_rfl) (by kernel_rfl) (fun _ _ _ h => h) (.inl ⟨by rfl, fun _ _ => by rfl⟩) (hHeld) ?_
          simp only [Act.put, List.setIfInBounds_toArray, List.set_cons_zero, List.set_cons_succ]
          refine held_takeD 5 (.int .i64 (3 * (y : Int))) (some 16) (by rfl) (by rfl) (by kernel_rfl) (by kernel_rfl) (by kernel_rfl) (fun _ _ _ h => h) (.inl ⟨by rfl, fun _ _ => by go_simp⟩) (hHeld) ?_
          simp only [Act.put, List.setIfInBounds_toArray, List.set_cons_zero, List.set_cons_succ]
          refine held_takeD 6 (.int .i64 ((x : Int) + 3 * (y : Int))) (some 17) (by rfl) (by rfl) (by kernel_rfl) (by kernel_rfl) (by kernel_rfl) (fun _ _ _ h => h) (.inl ⟨by rfl, fun _ _ => by go_simp⟩) (hHeld) ?_
          simp only [Act.put, List.setIfInBounds_toArray, List.set_cons_zero, List.set_cons_succ]
          refine held_takeD 7 (.int .i64 (A : Int)) (some 18) (by rfl) (by rfl) (by kernel_rfl) (by kernel_rfl) (by kernel_rfl) (fun _ _ _ h => h) (.inl ⟨by rfl, fun _ _ => by go_simp⟩) (hHeld) ?_
          simp only [Act.put, List.setIfInBounds_toArray, List.set_cons_zero, List.set_cons_succ]
          refine held_takeD 8 (.int .i64 x) (some 19) (by rfl) (by rfl) (by kernel_rfl) (by kernel_rfl) (by kernel_rfl) (fun _ _ _ h => h) (.inl ⟨by rfl, fun _ _ => by rfl⟩) (hHeld) ?_
          simp only [Act.put, List.setIfInBounds_toArray, List.set_cons_zero, List.set_cons_succ]
          refine held_takeD 9 (.pointer (some ⟨g, 0, none⟩)) (some 20) (by rfl) (by rfl) (by kernel_rfl) (by kernel_rfl) (by kernel_rfl) (fun _ _ _ h => h) (.inl ⟨by rfl, fun _ _ => by go_simp⟩) (hHeld) ?_
          simp only [Act.put, List.setIfInBounds_toArray, List.set_cons_zero, List.set_cons_succ]
          refine held_takeD 10 (.pointer (some ⟨g, A * 320, none⟩)) (some 21) (by rfl) (by rfl) (by kernel_rfl) (by kernel_rfl) (by kernel_rfl) (fun _ _ _ h => h) (.inl ⟨by rfl, fun _ _ => by go_simp⟩) (hHeld) ?_
          simp only [Act.put, List.setIfInBounds_toArray, List.set_cons_zero, List.set_cons_succ]
          refine held_takeD 11 (.pointer (some ⟨g, A * 320 + x * 64, none⟩)) (some 22) (by rfl) (by rfl) (by kernel_rfl) (by kernel_rfl) (by kernel_rfl) (fun _ _ _ h => h) (.inl ⟨by rfl, fun _ _ => by go_simp⟩) (hHeld) ?_
          simp only [Act.put, List.setIfInBounds_toArray, List.set_cons_zero, List.set_cons_succ]
          refine held_takeD 12 (.agg (bools 64 fun i => fa (A * 320 + x * 64 + i)).toArray) (some 23) (by rfl) (by rfl) (by kernel_rfl) (by kernel_rfl) (by kernel_rfl) (fun _ _ _ h => h) (yieldsIf_load_mid (by rfl) _ _ rfl _ _ rfl _ _ (fun _ h => h) hu rfl hsz) (hHeld) ?_
          simp only [Act.put, List.setIfInBounds_toArray, List.set_cons_zero, List.set_cons_succ]
          refine held_takeD 13 (.pointer (some ⟨w.heap.size, x * 320, none⟩)) (some 24) (by rfl) (by rfl) (by kernel_rfl) (by kernel_rfl) (by kernel_rfl) (fun _ _ _ h => h) (.inl ⟨by rfl, fun _ _ => by go_simp⟩) (hHeld) ?_
          simp only [Act.put, List.setIfInBounds_toArray, List.set_cons_zero, List.set_cons_succ]
          refine held_takeD 14 (.pointer (some ⟨w.heap.size, x * 320 + y * 64, none⟩)) (some 25) (by rfl) (by rfl) (by kernel_rfl) (by kernel_rfl) (by kernel_rfl) (fun _ _ _ h => h) (.inl ⟨by rfl, fun _ _ => by go_simp⟩) (hHeld) ?_
          simp only [Act.put, List.setIfInBounds_toArray, List.set_cons_zero, List.set_cons_succ]
          refine held_store 15 (by kernel_rfl) rfl rfl (by rfl) 464 (.tmp 25) (.tmp 23) rfl w.heap.size (x * 320 + y * 64) 467 (bools 1600 fb) (bools 64 fun i => fa (A * 320 + x * 64 + i)) rfl rfl (BT.row g1) (by rw [bools_len, bools_len]; omega) hsz (bools_one _ _) (fun w2 hr2 ho2 => ?_)
          have r2 : BT 467 w2 g 1600 fa := RowT.only g2 ho2 (by omega)
          refine ⟨r2.part (A * 320 + x * 64) 64 (by omega), ?_⟩
          refine wpAnyH_done (by kernel_rfl) ?_ _
          refine NoPanic.normal ?_
          obtain ⟨fb3, hfb3⟩ := bools_spl 1600 fb (x * 320 + y * 64) 64 (fun i => fa (A * 320 + x * 64 + i)) (by omega)
          have r1 : BT 467 w2 w.heap.size 1600 fb3 := BT.mk (hfb3 ▸ hr2)
          have r3 : Below w.heap.size w w2 := g3.trans (ho2.below _ (Nat.le_refl _))
          clear g1 g2 g3 h1 h2 h3 hr2 ho2 hHeld
          go_wp2
          go_roundg (4 - y)
          case measure => omega
          case rel => exact ⟨y + 1, by omega, rfl, ⟨fb3, r1⟩, ⟨fa, r2⟩, r3⟩
        · have dy : decide ((y : Int) < 5) = false := decide_eq_false (by omega)
          go_wp2
          go_roundg (4 - x)
          case measure => omega
          case rel => exact ⟨x + 1, by omega, rfl, hT⟩
    · have dx : decide ((x : Int) < 5) = false := decide_eq_false (by omega)
      obtain ⟨⟨fb, h1⟩, _, h3⟩ := hT
      have hsz : (Sakg.prog.info? 467).map (·.size) = some (bools 1600 fb).length := by rw [bools_len]; exact sizeState
      have H1 := hide h1
      clear h1 hT0
      go_wp2_with (first
        | ((with_reducible refine at_load 467 ?_); refine wpList_load_g (by rfl) 467 (.tmp 2) rfl w.heap.size 0 rfl (bools 1600 fb) _ (unhide H1).row.rangeAll Sakg.underlying467 rfl hsz ?_)
        | ((with_reducible refine at_store 467 ?_); refine wpList_store_whole rfl 467 (.tmp 2) (.tmp 28) rfl w.heap.size 467 (bools 1600 fb) (bools 1600 fb) rfl rfl (unhide H1).row rfl hsz (bools_one _ _) ?_; intro w3 hr3 ho3))
      refine bodyPost_ret (results_cell_row rfl _ _ _ _ _ _ _ rfl hr3 Sakg.underlying467 rfl (by simpa using hsz)) rfl ?_
      exact ⟨⟨fb, rfl⟩, h3.trans (ho3.below _ (Nat.le_refl _))⟩

set_option maxHeartbeats 8000000 in
theorem iota0_any (g : Nat) (f : Nat → Bool) (i : Nat) (w : World) (h : BT 467 w g 1600 f) (hi : i < 256) :
    Calls Sakg.prog 437 #[.pointer (some ⟨g, 0, none⟩), .int .u8 i] w fun e w' => e = .returned (.tuple #[]) ∧ (∃ f', BT 467 w' g 1600 f') ∧ Chg g w w' := by
  have hlt : g < w.heap.size := RowT.lt h
  have H := hide h
  clear h
  go_enter Sakg.func437, Sakg.ntmps437
  go_wp2_with fail
  refine (const_any i w hi).mono ?_
  rintro e w1 ⟨⟨cc, rfl⟩, hb1⟩
  have hr1 : BT 467 w1 g 1600 f := RowT.kept (unhide H) hb1
  go_wp2_with fail
  go_loopg [8] 64 (fun gk zv wr => ∃ z : Nat, z + gk = 64 ∧ zv = .int .i64 z ∧ (∃ f', BT 467 wr g 1600 f') ∧ Chg g w wr)
  case atStart => exact ⟨0, by omega, rfl, ⟨f, hr1⟩, Chg.of hb1⟩
  case round =>
    obtain ⟨z, hz, rfl, ⟨f1, h1⟩, hc⟩ := hrel
    by_cases hzl : z < 64
    · have iz : (z : Int) < 64 := by omega
      have bz : (0 : Int) ≤ (z : Int) := by omega
      have c1 := h1.cell z (by omega)
      have z1 := h1.froz z
      have H1 := hide h1
      clear h1 hr1
      go_upto_region 4 with fail
      rw [shade_of 19]
      go_region_held3 (fun _ => True) (trivial) (fail)
      go_wp2
      go_roundg (63 - z)
      case measure => omega
      case rel => exact ⟨z + 1, by omega, rfl, ⟨_, RowT.kept ((unhide H1).set z _) (Quiet.below ⟨1, rfl⟩ _)⟩, (hc.trans (Chg.ofOnly ((Only.refl g wr).setCell z _))).trans (Chg.of (Quiet.below ⟨1, rfl⟩ _))⟩
    · have dz : decide ((z : Int) < 64) = false := decide_eq_false (by omega)
      go_wp2
      exact bodyPost_done rfl rfl ⟨rfl, ⟨f1, h1⟩, hc⟩

end Go.Proofs.YgcsakGreat
