/-
  kmodel: theta.
-/
import Derived.Test.YgcsakGreatKmB
namespace Go.Proofs.YgcsakGreat
set_option linter.unusedVariables false
set_option linter.unusedSimpArgs false
set_option maxRecDepth 100000
open Go.RowKit

theorem at_alloc {P : Program} {ops : Array Oper} {Q : Exit → Act → World → Prop} {rest : List Oper} {d : Option Tmp} {ty : TypeId} {p : String} {af : Array Edge} {g : Option (Nat × Bool)} {a : Act} {w : World} (t : TypeId)
    (h : wpList P ops Q (⟨d, .alloc t, ty, p, af, g⟩ :: rest) a w) : wpList P ops Q (⟨d, .alloc t, ty, p, af, g⟩ :: rest) a w := h
/-- a variable of many cells is made -/
theorem wpList_alloc_g {w : World} {ops : Array Oper} {rest : List Oper} {o : Oper} {a : Act} {Q : Exit → Act → World → Prop} (hw : Region.wanted o (yielded ops a.tmps) = true) (t : TypeId) (ho : o.op = .alloc t) (Z : List Value) (n : Nat)
    (hz : (Sakg.prog.info? t).map (fun i => (i.zero, i.size)) = some (some (.agg Z.toArray), n)) (hn : Z.length = n)
    (h : wpList Sakg.prog ops Q rest (a.put o.dst (.pointer (some ⟨w.heap.size, 0, none⟩))) (w.alloc (.cells Z.toArray t))) : wpList Sakg.prog ops Q (o :: rest) a w := by
  refine BigFrame.wpList_want hw fun K hK => ?_
  cases hi : Sakg.prog.info? t with
  | none => rw [hi] at hz; cases hz
  | some i =>
    rw [hi] at hz
    simp only [Option.map_some, Option.some.injEq, Prod.mk.injEq] at hz
    unfold Oper.wp
    simp [execOp, ho, Sem.run_bind, Instr.alloc, zeroValue, typeInfo, hi, hz.1, newVar, Value.cells]
    exact hK _ _ h

theorem infoLanes : (Sakg.prog.info? 465).map (fun i => (i.zero, i.size)) = some (some (.agg (bools 320 fun _ => false).toArray), 320) := by kernel_rfl
theorem infoLane : (Sakg.prog.info? 464).map (fun i => (i.zero, i.size)) = some (some (.agg (bools 64 fun _ => false).toArray), 64) := by kernel_rfl

/-- what theta keeps -/
def Th (g gc : Nat) (w wr : World) : Prop := (∃ fc, BT 465 wr gc 320 fc) ∧ (∃ fa, BT 467 wr g 1600 fa) ∧ Chg g w wr
theorem Th.quiet {g gc : Nat} {w wr w' : World} (h : Th g gc w wr) (q : Quiet wr w') : Th g gc w w' := by
  obtain ⟨⟨fc, h1⟩, ⟨fa, h2⟩, h3⟩ := h
  exact ⟨⟨fc, RowT.kept h1 (q.below _)⟩, ⟨fa, RowT.kept h2 (q.below _)⟩, h3.trans (Chg.of (q.below _))⟩
theorem Chg.onlyNew {g k : Nat} {w w1 w2 : World} (h : Chg g w w1) (ho : Only k w1 w2) (hk : w.heap.size ≤ k) : Chg g w w2 :=
  ⟨ho.os.trans h.os, ho.tape.trans h.tape, ho.output.trans h.output, by rw [ho.size]; exact h.size, fun j hj hn => (ho.block j (by omega)).trans (h.block j hj hn)⟩

def Th2 (g gc gd : Nat) (w wr : World) : Prop := (∃ fd, BT 464 wr gd 64 fd) ∧ Th g gc w wr
theorem Th2.quiet {g gc gd : Nat} {w wr w' : World} (h : Th2 g gc gd w wr) (q : Quiet wr w') : Th2 g gc gd w w' := by
  obtain ⟨⟨fc, h1⟩, h2⟩ := h
  exact ⟨⟨fc, RowT.kept h1 (q.below _)⟩, h2.quiet q⟩

set_option maxHeartbeats 8000000 in
theorem theta_any (g : Nat) (f : Nat → Bool) (w : World) (h : BT 467 w g 1600 f) :
    Calls Sakg.prog 433 #[.pointer (some ⟨g, 0, none⟩)] w fun e w' => e = .returned (.tuple #[]) ∧ (∃ f', BT 467 w' g 1600 f') ∧ Chg g w w' := by
  have hlt : g < w.heap.size := RowT.lt h
  have hT0 : Th g w.heap.size w (w.alloc (.cells (bools 320 fun _ => false).toArray 465)) := ⟨⟨_, RowT.new _ _ _⟩, ⟨f, RowT.alloc h _⟩, Chg.of ((Below.refl _ _).alloc (Nat.le_refl _) _)⟩
  clear h
  go_enter Sakg.func433, Sakg.ntmps433
  go_upto_region 1 with ((with_reducible refine at_alloc 465 ?_); refine wpList_alloc_g (by rfl) 465 rfl _ _ infoLanes (bools_len _ _) ?_)
  generalize (w.alloc (.cells (bools 320 fun _ => false).toArray 465)) = W at *
  go_wp2_with fail
  go_loopg [16] 5 (fun gk xv wr => ∃ x : Nat, x + gk = 5 ∧ xv = .int .i64 x ∧ Th g w.heap.size w wr)
  case atStart => exact ⟨0, by omega, rfl, hT0⟩
  case round =>
    obtain ⟨x, hx, rfl, hT⟩ := hrel
    by_cases hxl : x < 5
    · have ix : (x : Int) < 5 := by omega
      have bx : (0 : Int) ≤ (x : Int) := by omega
      go_wp2_with fail
      go_loopg [19] 5 (fun gk yv wr => ∃ y : Nat, y + gk = 5 ∧ yv = .int .i64 y ∧ Th g w.heap.size w wr)
      case atStart => exact ⟨0, by omega, rfl, hT⟩
      case round =>
        obtain ⟨y, hy, rfl, hT⟩ := hrel
        by_cases hyl : y < 5
        · have iy : (y : Int) < 5 := by omega
          have by_ : (0 : Int) ≤ (y : Int) := by omega
          go_wp2_with fail
          go_loopg [28] 64 (fun gk zv wr => ∃ z : Nat, z + gk = 64 ∧ zv = .int .i64 z ∧ Th g w.heap.size w wr)
          case atStart => exact ⟨0, by omega, rfl, hT⟩
          case round =>
            obtain ⟨z, hz, rfl, hT⟩ := hrel
            by_cases hzl : z < 64
            · obtain ⟨⟨fc, h1⟩, ⟨fa, h2⟩, h3⟩ := hT
              have ca : ∀ n, (wr.drewN n).cell? ⟨g, x * 320 + y * 64 + z, none⟩ = some (.bool (fa (x * 320 + y * 64 + z))) := fun n => BT.cell (RowT.kept h2 (Quiet.below ⟨n, rfl⟩ _)) _ (by omega)
              have iz : (z : Int) < 64 := by omega
              have bz : (0 : Int) ≤ (z : Int) := by omega
              go_upto_region 9 with fail
              go_quiet (fail)
              go_upto_region 10 with fail
              obtain ⟨w1, hw1⟩ : ∃ w1, w1 = wr.drewN nq := ⟨_, rfl⟩
              have g1 : BT 465 w1 w.heap.size 320 fc := hw1 ▸ RowT.kept h1 (Quiet.below ⟨nq, rfl⟩ _)
              have g2 : BT 467 w1 g 1600 fa := hw1 ▸ RowT.kept h2 (Quiet.below ⟨nq, rfl⟩ _)
              have g3 : Chg g w w1 := hw1 ▸ h3.trans (Chg.of (Quiet.below ⟨nq, rfl⟩ _))
              rw [← hw1]
              clear hw1 h1 h2 h3 ca
              have cc := g1.cell (x * 64 + z) (by omega)
              have zc := g1.froz (x * 64 + z)
              have G1 := hide g1
              have G2 := hide g2
              clear g1 g2
              rw [shade_of 40]
              go_region_held3 (fun _ => True) (trivial) (fail)
              go_wp2
              go_roundg (63 - z)
              case measure => omega
              case rel =>
                refine ⟨z + 1, by omega, rfl, Th.quiet (wr := w1.setCell ⟨w.heap.size, x * 64 + z, none⟩ _) ⟨⟨_, (unhide G1).set _ _⟩, ⟨fa, RowT.only (unhide G2) ((Only.refl _ _).setCell _ _) (by omega)⟩, g3.onlyNew ((Only.refl w.heap.size w1).setCell _ _) (Nat.le_refl _)⟩ ⟨1, rfl⟩⟩
            · have dz : decide ((z : Int) < 64) = false := decide_eq_false (by omega)
              go_wp2
              go_roundg (4 - y)
              case measure => omega
              case rel => exact ⟨y + 1, by omega, rfl, hT⟩
        · have dy : decide ((y : Int) < 5) = false := decide_eq_false (by omega)
          go_wp2
          go_roundg (4 - x)
          case measure => omega
          case rel => exact ⟨x + 1, by omega, rfl, hT⟩
    · have dx : decide ((x : Int) < 5) = false := decide_eq_false (by omega)
      clear hxl hx
      go_wp2_with fail
      go_loopg [48] 5 (fun gk xv wr => ∃ x : Nat, x + gk = 5 ∧ xv = .int .i64 x ∧ Th g w.heap.size w wr)
      case atStart => exact ⟨0, by omega, rfl, hT⟩
      case round =>
        obtain ⟨X, hX, rfl, hT⟩ := hrel
        by_cases hXl : X < 5
        · have iX : (X : Int) < 5 := by omega
          obtain ⟨L, hL, hL5⟩ : ∃ L : Nat, ((X : Int) + 4) % 5 = (L : Int) ∧ L < 5 := ⟨(X + 4) % 5, by omega, by omega⟩
          obtain ⟨R, hR, hR5⟩ : ∃ R : Nat, ((X : Int) + 1) % 5 = (R : Int) ∧ R < 5 := ⟨(X + 1) % 5, by omega, by omega⟩
          have hlL : (L : Int) < 5 := by omega
          have hlR : (R : Int) < 5 := by omega
          go_upto_region 20 with (first
            | ((with_reducible refine at_alloc 464 ?_); refine wpList_alloc_g (by rfl) 464 rfl _ _ infoLane (bools_len _ _) ?_))
          simp only [Act.put]
          have hgd : w.heap.size < wr.heap.size := by obtain ⟨⟨fc, h1⟩, _, _⟩ := hT; exact RowT.lt h1
          obtain ⟨gd, hgde⟩ : ∃ gd, gd = wr.heap.size := ⟨_, rfl⟩
          have hT2 : Th2 g w.heap.size gd w (wr.alloc (.cells (bools 64 fun _ => false).toArray 464)) := by
            obtain ⟨⟨fc, h1⟩, ⟨fa, h2⟩, h3⟩ := hT
            exact ⟨⟨_, hgde ▸ RowT.new _ _ _⟩, ⟨fc, RowT.alloc h1 _⟩, ⟨fa, RowT.alloc h2 _⟩, h3.trans (Chg.of ((Below.refl _ _).alloc (Nat.le_refl _) _))⟩
          rw [← hgde]
          rw [← hgde] at hgd
          generalize wr.alloc (.cells (bools 64 fun _ => false).toArray 464) = W2 at *
          clear hgde hT hT0
          have hne : ¬ gd = w.heap.size := by omega
          go_wp2_with fail
          go_loopg [59] 64 (fun gk zv wr => ∃ z : Nat, z + gk = 64 ∧ zv = .int .i64 z ∧ Th2 g w.heap.size gd w wr)
          case atStart => exact ⟨0, by omega, rfl, hT2⟩
          case round =>
            obtain ⟨z, hz, rfl, hT⟩ := hrel
            by_cases hzl : z < 64
            · obtain ⟨⟨fd, h0⟩, ⟨fc, h1⟩, ⟨fa, h2⟩, h3⟩ := hT
              have iz : (z : Int) < 64 := by omega
              obtain ⟨M, hM, hM64⟩ : ∃ M : Nat, ((z : Int) + 63) % 64 = (M : Int) ∧ M < 64 := ⟨(z + 63) % 64, by omega, by omega⟩
              have iM : (M : Int) < 64 := by omega
              have hw1 : IntKind.i64.wrap ((z : Int) + 63) = (z : Int) + 63 := by rw [IntKind.wrap_i64]; omega
              have hw2 : IntKind.i64.wrap (M : Int) = M := by rw [IntKind.wrap_i64]; omega
              have hw3 : Int.tmod ((z : Int) + 63) 64 = M := by rw [Int.tmod_eq_emod_of_nonneg (by omega)]; exact hM
              have c1 := h1.cell (L * 64 + z) (by omega)
              have c2 := h1.cell (R * 64 + M) (by omega)
              have c0 := h0.cell z (by omega)
              have z0 := h0.froz z
              have H0 := hide h0
              have H1 := hide h1
              have H2 := hide h2
              clear h0 h1 h2
              go_upto_region 23 with fail
              go_region_held3 (fun w' => w'.cell? ⟨w.heap.size, L * 64 + z, none⟩ = some (.bool (fc (L * 64 + z))) ∧ w'.cell? ⟨w.heap.size, R * 64 + M, none⟩ = some (.bool (fc (R * 64 + M)))) (go_keep) (fail)
              go_wp2
              go_roundg (63 - z)
              case measure => omega
              case rel =>
                refine ⟨z + 1, by omega, rfl, Th2.quiet (wr := wr.setCell ⟨gd, z, none⟩ _) ⟨⟨_, (unhide H0).set _ _⟩, ⟨fc, RowT.only (unhide H1) ((Only.refl _ _).setCell _ _) (by omega)⟩, ⟨fa, RowT.only (unhide H2) ((Only.refl _ _).setCell _ _) (by omega)⟩, h3.onlyNew ((Only.refl gd wr).setCell _ _) (by omega)⟩ ⟨1, rfl⟩⟩
            · have dz : decide ((z : Int) < 64) = false := decide_eq_false (by omega)
              clear hzl hz
              go_wp2_with fail
              go_loopg [78] 5 (fun gk yv wr => ∃ y : Nat, y + gk = 5 ∧ yv = .int .i64 y ∧ Th2 g w.heap.size gd w wr)
              case atStart => exact ⟨0, by omega, rfl, hT⟩
              case round =>
                obtain ⟨y, hy, rfl, hT⟩ := hrel
                by_cases hyl : y < 5
                · have iy : (y : Int) < 5 := by omega
                  go_wp2_with fail
                  go_loopg [87] 64 (fun gk zv wr => ∃ z : Nat, z + gk = 64 ∧ zv = .int .i64 z ∧ Th2 g w.heap.size gd w wr)
                  case atStart => exact ⟨0, by omega, rfl, hT⟩
                  case round =>
                    obtain ⟨Z, hZ, rfl, hT⟩ := hrel
                    by_cases hZl : Z < 64
                    · obtain ⟨⟨fd, h0⟩, ⟨fc, h1⟩, ⟨fa, h2⟩, h3⟩ := hT
                      have iZ : (Z : Int) < 64 := by omega
                      have bZ : (0 : Int) ≤ (Z : Int) := by omega
                      have ca : ∀ n, (wr.drewN n).cell? ⟨gd, Z, none⟩ = some (.bool (fd Z)) := fun n => BT.cell (RowT.kept h0 (Quiet.below ⟨n, rfl⟩ _)) _ (by omega)
                      have H0 := hide h0
                      have H1 := hide h1
                      have H2 := hide h2
                      clear h0 h1 h2
                      go_upto_region 31 with fail
                      go_quiet (fail)
                      go_upto_region 32 with fail
                      obtain ⟨w1, hw1⟩ : ∃ w1, w1 = wr.drewN nq := ⟨_, rfl⟩
                      have g0 : BT 464 w1 gd 64 fd := hw1 ▸ RowT.kept (unhide H0) (Quiet.below ⟨nq, rfl⟩ _)
                      have g1 : BT 465 w1 w.heap.size 320 fc := hw1 ▸ RowT.kept (unhide H1) (Quiet.below ⟨nq, rfl⟩ _)
                      have g2 : BT 467 w1 g 1600 fa := hw1 ▸ RowT.kept (unhide H2) (Quiet.below ⟨nq, rfl⟩ _)
                      have g3 : Chg g w w1 := hw1 ▸ h3.trans (Chg.of (Quiet.below ⟨nq, rfl⟩ _))
                      rw [← hw1]
                      clear hw1 H0 H1 H2 h3 ca
                      have cc := g2.cell (X * 320 + y * 64 + Z) (by omega)
                      have zc := g2.froz (X * 320 + y * 64 + Z)
                      have G0 := hide g0
                      have G1 := hide g1
                      have G2 := hide g2
                      clear g0 g1 g2
                      rw [shade_of 99]
                      go_region_held3 (fun _ => True) (trivial) (fail)
                      go_wp2
                      go_roundg (63 - Z)
                      case measure => omega
                      case rel =>
                        refine ⟨Z + 1, by omega, rfl, Th2.quiet (wr := w1.setCell ⟨g, X * 320 + y * 64 + Z, none⟩ _) ⟨⟨fd, RowT.only (unhide G0) ((Only.refl _ _).setCell _ _) (by omega)⟩, ⟨fc, RowT.only (unhide G1) ((Only.refl _ _).setCell _ _) (by omega)⟩, ⟨_, (unhide G2).set _ _⟩, g3.trans (Chg.ofOnly ((Only.refl g w1).setCell _ _))⟩ ⟨1, rfl⟩⟩
                    · have dZ : decide ((Z : Int) < 64) = false := decide_eq_false (by omega)
                      go_wp2
                      go_roundg (4 - y)
                      case measure => omega
                      case rel => exact ⟨y + 1, by omega, rfl, hT⟩
                · have dy : decide ((y : Int) < 5) = false := decide_eq_false (by omega)
                  go_wp2
                  go_roundg (4 - X)
                  case measure => omega
                  case rel => exact ⟨X + 1, by omega, rfl, hT.2⟩
        · have dX : decide ((X : Int) < 5) = false := decide_eq_false (by omega)
          go_wp2
          obtain ⟨_, h2, h3⟩ := hT
          exact bodyPost_done rfl rfl ⟨rfl, h2, h3⟩

end Go.Proofs.YgcsakGreat
