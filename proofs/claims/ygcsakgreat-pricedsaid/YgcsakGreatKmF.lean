/-
  kmodel: chi, F.
-/
import Derived.Test.YgcsakGreatKmE
namespace Go.Proofs.YgcsakGreat
set_option linter.unusedVariables false
set_option linter.unusedSimpArgs false
set_option maxRecDepth 100000
open Go.RowKit

set_option maxHeartbeats 8000000 in
theorem chi_any (g : Nat) (f : Nat → Bool) (w : World) (h : BT 467 w g 1600 f) :
    Calls Sakg.prog 436 #[.pointer (some ⟨g, 0, none⟩)] w fun e w' => (∃ f', e = .returned (.agg (bools 1600 f').toArray)) ∧ Below w.heap.size w w' := by
  have hlt : g < w.heap.size := RowT.lt h
  have hne : ¬ w.heap.size = g := by omega
  have hne2 : ¬ g = w.heap.size := by omega
  have hT0 : Rh g w.heap.size w (w.alloc (.cells (bools 1600 fun _ => false).toArray 467)) := ⟨⟨_, RowT.new _ _ _⟩, ⟨f, RowT.alloc h _⟩, (Below.refl _ _).alloc (Nat.le_refl _) _⟩
  clear h
  go_enter Sakg.func436, Sakg.ntmps436
  go_upto_region 1 with ((with_reducible refine at_alloc 467 ?_); refine wpList_alloc_g (by rfl) 467 rfl _ _ infoState (bools_len _ _) ?_)
  generalize (w.alloc (.cells (bools 1600 fun _ => false).toArray 467)) = W at *
  go_wp2_with fail
  go_loopg [10] 5 (fun gk xv wr => ∃ x : Nat, x + gk = 5 ∧ xv = .int .i64 x ∧ Rh g w.heap.size w wr)
  case atStart => exact ⟨0, by omega, rfl, hT0⟩
  case round =>
    obtain ⟨x, hx, rfl, hT⟩ := hrel
    by_cases hxl : x < 5
    · have ix : (x : Int) < 5 := by omega
      have bx : (0 : Int) ≤ (x : Int) := by omega
      go_wp2_with fail
      go_loopg [13] 5 (fun gk yv wr => ∃ y : Nat, y + gk = 5 ∧ yv = .int .i64 y ∧ Rh g w.heap.size w wr)
      case atStart => exact ⟨0, by omega, rfl, hT⟩
      case round =>
        obtain ⟨y, hy, rfl, hT⟩ := hrel
        by_cases hyl : y < 5
        · have iy : (y : Int) < 5 := by omega
          have by_ : (0 : Int) ≤ (y : Int) := by omega
          obtain ⟨N, hN, hN5⟩ : ∃ A : Nat, ((x : Int) + 1) % 5 = (A : Int) ∧ A < 5 := ⟨(x + 1) % 5, by omega, by omega⟩
          obtain ⟨L, hL, hL5⟩ : ∃ A : Nat, ((x : Int) + 2) % 5 = (A : Int) ∧ A < 5 := ⟨(x + 2) % 5, by omega, by omega⟩
          have iN : (N : Int) < 5 := by omega
          have iL : (L : Int) < 5 := by omega
          have bN : (0 : Int) ≤ (N : Int) := by omega
          have bL : (0 : Int) ≤ (L : Int) := by omega
          go_wp2_with fail
          go_loopg [42] 64 (fun gk zv wr => ∃ z : Nat, z + gk = 64 ∧ zv = .int .i64 z ∧ Rh g w.heap.size w wr)
          case atStart => exact ⟨0, by omega, rfl, hT⟩
          case round =>
            obtain ⟨z, hz, rfl, hT⟩ := hrel
            clear hN hL
            by_cases hzl : z < 64
            · have iz : (z : Int) < 64 := by omega
              have bz : (0 : Int) ≤ (z : Int) := by omega
              obtain ⟨⟨fb, h1⟩, ⟨fa, h2⟩, h3⟩ := hT
              have c1 := h2.cell (x * 320 + y * 64 + z) (by omega)
              have c2 := h2.cell (N * 320 + y * 64 + z) (by omega)
              have c3 := h2.cell (L * 320 + y * 64 + z) (by omega)
              have c4 := h1.cell (x * 320 + y * 64 + z) (by omega)
              have z4 := h1.froz (x * 320 + y * 64 + z)
              have H1 := hide h1
              have H2 := hide h2
              clear h1 h2 hT0
              go_upto_region 14 with fail
              go_region_held3 (fun w' => w'.cell? ⟨g, x * 320 + y * 64 + z, none⟩ = some (.bool (fa (x * 320 + y * 64 + z))) ∧ w'.cell? ⟨g, N * 320 + y * 64 + z, none⟩ = some (.bool (fa (N * 320 + y * 64 + z))) ∧ w'.cell? ⟨g, L * 320 + y * 64 + z, none⟩ = some (.bool (fa (L * 320 + y * 64 + z)))) (go_keep)
                (first
                  | (go_at_call 492; refine (bit_any _ _).mono ?_; rintro e w' ⟨rfl, rfl⟩))
              go_wp2
              go_roundg (63 - z)
              case measure => omega
              case rel =>
                refine ⟨z + 1, by omega, rfl, Rh.quiet (wr := wr.setCell ⟨w.heap.size, x * 320 + y * 64 + z, none⟩ _) ⟨⟨_, (unhide H1).set _ _⟩, ⟨fa, RowT.only (unhide H2) ((Only.refl _ _).setCell _ _) (by omega)⟩, h3.trans (((Only.refl w.heap.size wr).setCell _ _).below _ (Nat.le_refl _))⟩ ⟨1, rfl⟩⟩
            · have dz : decide ((z : Int) < 64) = false := decide_eq_false (by omega)
              go_wp2
              go_roundg (4 - y)
              case measure => omega
              case rel => exact ⟨y + 1, by omega, rfl, hT⟩
        · have dy : decide ((y : Int) < 5) = false := decide_eq_false (by omega)
          go_wp2
          go_roundg (4 - x)
          case measure => omega
          case rel => exact ⟨x + 1, by omega, rfl, hT⟩
    · have dx : decide ((x : Int) < 5) = false := decide_eq_false (by omega)
      obtain ⟨⟨fb, h1⟩, _, h3⟩ := hT
      have hsz : (Sakg.prog.info? 467).map (·.size) = some (bools 1600 fb).length := by rw [bools_len]; exact sizeState
      have H1 := hide h1
      clear h1 hT0
      go_wp2_with (first
        | ((with_reducible refine at_load 467 ?_); refine wpList_load_g (by rfl) 467 (.tmp 2) rfl w.heap.size 0 rfl (bools 1600 fb) _ (unhide H1).row.rangeAll Sakg.underlying467 rfl hsz ?_)
        | ((with_reducible refine at_store 467 ?_); refine wpList_store_whole rfl 467 (.tmp 2) (.tmp 71) rfl w.heap.size 467 (bools 1600 fb) (bools 1600 fb) rfl rfl (unhide H1).row rfl hsz (bools_one _ _) ?_; intro w3 hr3 ho3))
      refine bodyPost_ret (results_cell_row rfl _ _ _ _ _ _ _ rfl hr3 Sakg.underlying467 rfl (by simpa using hsz)) rfl ?_
      exact ⟨⟨fb, rfl⟩, h3.trans (ho3.below _ (Nat.le_refl _))⟩

end Go.Proofs.YgcsakGreat
