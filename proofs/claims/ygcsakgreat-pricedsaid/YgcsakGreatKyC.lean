/-
  kmodel, exactly: theta.
-/
import Derived.Test.YgcsakGreatKyB
import Derived.Test.YgcsakGreatKmC
namespace Go.Proofs.YgcsakGreat
set_option linter.unusedVariables false
set_option linter.unusedSimpArgs false
set_option maxRecDepth 100000
open Go.RowKit

/-- a block of 1600 bools, as a state -/
abbrev KS := Nat → Nat → Nat → Bool
def St (f : Nat → Bool) (s : KS) : Prop := ∀ P Q Z, P < 5 → Q < 5 → Z < 64 → f (P * 320 + Q * 64 + Z) = s P Q Z
def colS (s : KS) (X Z : Nat) : Nat → Bool
  | 0 => false
  | m + 1 => colS s X Z m != s X m Z
def colT (s : KS) (X Z : Nat) : Bool := colS s X Z 5
def thetaD (s : KS) (X Z : Nat) : Bool := colT s ((X + 4) % 5) Z != colT s ((X + 1) % 5) ((Z + 63) % 64)
def thetaS (s : KS) : KS := fun P Q Z => s P Q Z != thetaD s P Z
/-- the columns' sums, while they are being made -/
def TC (s : KS) (x y z : Nat) (fc : Nat → Bool) : Prop := ∀ X Z, X < 5 → Z < 64 → fc (X * 64 + Z) = colS s X Z (if X < x then 5 else if X = x then (if Z < z then y + 1 else y) else 0)
theorem TC.start (s : KS) : TC s 0 0 0 (fun _ => false) := by
  intro X Z hX hZ
  rw [if_neg (by omega)]
  by_cases h : X = 0
  · rw [if_pos h, if_neg (by omega)]; rfl
  · rw [if_neg h]; rfl
theorem TC.step {s : KS} {f fc : Nat → Bool} {x y z : Nat} (h : TC s x y z fc) (hx : x < 5) (hz : z < 64) (hs : f (x * 320 + y * 64 + z) = s x y z) : TC s x y (z + 1) (fun k => if k = x * 64 + z then !(fc (x * 64 + z) == f (x * 320 + y * 64 + z)) else fc k) := by
  intro X Z hX hZ
  by_cases hk : X * 64 + Z = x * 64 + z
  · obtain rfl : X = x := by omega
    obtain rfl : Z = z := by omega
    have h1 := h X Z hX hZ
    rw [if_neg (by omega), if_pos rfl, if_neg (by omega)] at h1
    rw [if_neg (Nat.lt_irrefl _), if_pos rfl, if_pos (Nat.lt_succ_self _)]
    show (if X * 64 + Z = X * 64 + Z then !(fc (X * 64 + Z) == f (X * 320 + y * 64 + Z)) else fc (X * 64 + Z)) = (colS s X Z y != s X y Z)
    rw [if_pos rfl, h1, hs]
    rfl
  · show (if X * 64 + Z = x * 64 + z then !(fc (x * 64 + z) == f (x * 320 + y * 64 + z)) else fc (X * 64 + Z)) = _
    rw [if_neg hk, h X Z hX hZ]
    congr 1
    by_cases h1 : X < x
    · rw [if_pos h1, if_pos h1]
    · rw [if_neg h1, if_neg h1]
      by_cases h2 : X = x
      · rw [if_pos h2, if_pos h2]
        subst h2
        by_cases h3 : Z < z
        · rw [if_pos h3, if_pos (by omega)]
        · rw [if_neg h3, if_neg (by omega)]
      · rw [if_neg h2, if_neg h2]
theorem TC.row {s : KS} {fc : Nat → Bool} {x y z : Nat} (h : TC s x y z fc) (hz : 64 ≤ z) : TC s x (y + 1) 0 fc := by
  intro X Z hX hZ
  rw [h X Z hX hZ]
  congr 1
  rw [if_pos (show Z < z by omega), if_neg (show ¬ Z < 0 by omega)]
theorem TC.col {s : KS} {fc : Nat → Bool} {x y : Nat} (h : TC s x y 0 fc) (hy : y = 5) : TC s (x + 1) 0 0 fc := by
  subst hy
  intro X Z hX hZ
  rw [h X Z hX hZ]
  congr 1
  rw [if_neg (show ¬ Z < 0 by omega), if_neg (show ¬ Z < 0 by omega)]
  by_cases h1 : X < x
  · rw [if_pos h1, if_pos (by omega)]
  · rw [if_neg h1]
    by_cases h2 : X = x
    · rw [if_pos h2, if_pos (by omega)]
    · rw [if_neg h2, if_neg (by omega)]
      by_cases h3 : X = x + 1
      · rw [if_pos h3]
      · rw [if_neg h3]
def TCd (s : KS) (fc : Nat → Bool) : Prop := ∀ X Z, X < 5 → Z < 64 → fc (X * 64 + Z) = colT s X Z
theorem TC.done {s : KS} {fc : Nat → Bool} {x : Nat} (h : TC s x 0 0 fc) (hx : 5 ≤ x) : TCd s fc := by
  intro X Z hX hZ
  rw [h X Z hX hZ, if_pos (by omega)]
  rfl
/-- the state, while it is being mixed -/
def TA (s : KS) (X y z : Nat) (fa : Nat → Bool) : Prop := ∀ P Q Z, P < 5 → Q < 5 → Z < 64 → fa (P * 320 + Q * 64 + Z) = if P < X ∨ (P = X ∧ (Q < y ∨ (Q = y ∧ Z < z))) then thetaS s P Q Z else s P Q Z
theorem TA.start {s : KS} {f : Nat → Bool} (h : St f s) : TA s 0 0 0 f := by
  intro P Q Z hP hQ hZ
  rw [if_neg (by omega)]
  exact h P Q Z hP hQ hZ
theorem TA.step {s : KS} {fa fd : Nat → Bool} {X y z : Nat} (h : TA s X y z fa) (hX : X < 5) (hy : y < 5) (hz : z < 64) (hd : fd z = thetaD s X z) : TA s X y (z + 1) (fun k => if k = X * 320 + y * 64 + z then !(fa (X * 320 + y * 64 + z) == fd z) else fa k) := by
  intro P Q Z hP hQ hZ
  by_cases hk : P * 320 + Q * 64 + Z = X * 320 + y * 64 + z
  · obtain rfl : P = X := by omega
    obtain rfl : Q = y := by omega
    obtain rfl : Z = z := by omega
    have h1 := h P Q Z hP hQ hZ
    rw [if_neg (by omega)] at h1
    show (if P * 320 + Q * 64 + Z = P * 320 + Q * 64 + Z then !(fa (P * 320 + Q * 64 + Z) == fd Z) else fa (P * 320 + Q * 64 + Z)) = _
    rw [if_pos rfl, h1, hd, if_pos (by omega)]
    rfl
  · show (if P * 320 + Q * 64 + Z = X * 320 + y * 64 + z then !(fa (X * 320 + y * 64 + z) == fd z) else fa (P * 320 + Q * 64 + Z)) = _
    rw [if_neg hk, h P Q Z hP hQ hZ]
    by_cases h1 : P < X ∨ (P = X ∧ (Q < y ∨ (Q = y ∧ Z < z)))
    · rw [if_pos h1, if_pos (by omega)]
    · rw [if_neg h1, if_neg (by omega)]
theorem TA.row {s : KS} {fa : Nat → Bool} {X y z : Nat} (h : TA s X y z fa) (hz : 64 ≤ z) : TA s X (y + 1) 0 fa := by
  intro P Q Z hP hQ hZ
  rw [h P Q Z hP hQ hZ]
  by_cases h1 : P < X ∨ (P = X ∧ (Q < y ∨ (Q = y ∧ Z < z)))
  · rw [if_pos h1, if_pos (by omega)]
  · rw [if_neg h1, if_neg (by omega)]
theorem TA.col {s : KS} {fa : Nat → Bool} {X y : Nat} (h : TA s X y 0 fa) (hy : 5 ≤ y) : TA s (X + 1) 0 0 fa := by
  intro P Q Z hP hQ hZ
  rw [h P Q Z hP hQ hZ]
  by_cases h1 : P < X ∨ (P = X ∧ (Q < y ∨ (Q = y ∧ Z < 0)))
  · rw [if_pos h1, if_pos (by omega)]
  · rw [if_neg h1, if_neg (by omega)]
theorem TA.done {s : KS} {fa : Nat → Bool} {X : Nat} (h : TA s X 0 0 fa) (hX : 5 ≤ X) : St fa (thetaS s) := by
  intro P Q Z hP hQ hZ
  rw [h P Q Z hP hQ hZ, if_pos (by omega)]
def TD (s : KS) (X z : Nat) (fd : Nat → Bool) : Prop := ∀ Z, Z < z → fd Z = thetaD s X Z
theorem TD.step {s : KS} {fc fd : Nat → Bool} {X z L R M : Nat} (h : TD s X z fd) (hc : TCd s fc) (hX : X < 5) (hz : z < 64) (hL : L = (X + 4) % 5) (hR : R = (X + 1) % 5) (hM : M = (z + 63) % 64) : TD s X (z + 1) (fun k => if k = z then !(fc (L * 64 + z) == fc (R * 64 + M)) else fd k) := by
  intro Z hZ
  by_cases hk : Z = z
  · subst hk
    show (if Z = Z then !(fc (L * 64 + Z) == fc (R * 64 + M)) else fd Z) = _
    rw [if_pos rfl, hc L Z (by omega) hz, hc R M (by omega) (by omega), hL, hR, hM]
    rfl
  · show (if Z = z then !(fc (L * 64 + z) == fc (R * 64 + M)) else fd Z) = _
    rw [if_neg hk]
    exact h Z (by omega)
/-- what theta keeps -/
def Tx1 (s : KS) (f : Nat → Bool) (g gc x y z : Nat) (w wr : World) : Prop := (∃ fc, BT 465 wr gc 320 fc ∧ TC s x y z fc) ∧ BT 467 wr g 1600 f ∧ Chg g w wr
theorem Tx1.quiet {s : KS} {f : Nat → Bool} {g gc x y z : Nat} {w wr w' : World} (h : Tx1 s f g gc x y z w wr) (q : Quiet wr w') : Tx1 s f g gc x y z w w' := by
  obtain ⟨⟨fc, h1, e1⟩, h2, h3⟩ := h
  exact ⟨⟨fc, RowT.kept h1 (q.below _), e1⟩, RowT.kept h2 (q.below _), h3.trans (Chg.of (q.below _))⟩
def Tx2 (s : KS) (g gc X y z : Nat) (w wr : World) : Prop := (∃ fc, BT 465 wr gc 320 fc ∧ TCd s fc) ∧ (∃ fa, BT 467 wr g 1600 fa ∧ TA s X y z fa) ∧ Chg g w wr
def Tx3 (s : KS) (g gc gd m X y z : Nat) (w wr : World) : Prop := (∃ fd, BT 464 wr gd 64 fd ∧ TD s X m fd) ∧ Tx2 s g gc X y z w wr
theorem Tx3.quiet {s : KS} {g gc gd m X y z : Nat} {w wr w' : World} (h : Tx3 s g gc gd m X y z w wr) (q : Quiet wr w') : Tx3 s g gc gd m X y z w w' := by
  obtain ⟨⟨fd, h0, e0⟩, ⟨fc, h1, e1⟩, ⟨fa, h2, e2⟩, h3⟩ := h
  exact ⟨⟨fd, RowT.kept h0 (q.below _), e0⟩, ⟨fc, RowT.kept h1 (q.below _), e1⟩, ⟨fa, RowT.kept h2 (q.below _), e2⟩, h3.trans (Chg.of (q.below _))⟩

set_option maxHeartbeats 8000000 in
theorem theta_x (g : Nat) (f : Nat → Bool) (s : KS) (w : World) (h : BT 467 w g 1600 f) (hs : St f s) :
    Calls Sakg.prog 433 #[.pointer (some ⟨g, 0, none⟩)] w fun e w' => e = .returned (.tuple #[]) ∧ (∃ f', BT 467 w' g 1600 f' ∧ St f' (thetaS s)) ∧ Chg g w w' := by
  have hlt : g < w.heap.size := RowT.lt h
  have hT0 : Tx1 s f g w.heap.size 0 0 0 w (w.alloc (.cells (bools 320 fun _ => false).toArray 465)) := ⟨⟨_, RowT.new _ _ _, TC.start s⟩, RowT.alloc h _, Chg.of ((Below.refl _ _).alloc (Nat.le_refl _) _)⟩
  have HS := hide hs
  clear h hs
  go_enter Sakg.func433, Sakg.ntmps433
  go_upto_region 1 with ((with_reducible refine at_alloc 465 ?_); refine wpList_alloc_g (by rfl) 465 rfl _ _ infoLanes (bools_len _ _) ?_)
  generalize (w.alloc (.cells (bools 320 fun _ => false).toArray 465)) = W at *
  go_wp2_with fail
  go_loopg [16] 5 (fun gk xv wr => ∃ x : Nat, x + gk = 5 ∧ xv = .int .i64 x ∧ Tx1 s f g w.heap.size x 0 0 w wr)
  case atStart => exact ⟨0, by omega, rfl, hT0⟩
  case round =>
    obtain ⟨x, hx, rfl, hT⟩ := hrel
    by_cases hxl : x < 5
    · have ix : (x : Int) < 5 := by omega
      have bx : (0 : Int) ≤ (x : Int) := by omega
      go_wp2_with fail
      go_loopg [19] 5 (fun gk yv wr => ∃ y : Nat, y + gk = 5 ∧ yv = .int .i64 y ∧ Tx1 s f g w.heap.size x y 0 w wr)
      case atStart => exact ⟨0, by omega, rfl, hT⟩
      case round =>
        obtain ⟨y, hy, rfl, hT⟩ := hrel
        by_cases hyl : y < 5
        · have iy : (y : Int) < 5 := by omega
          have by_ : (0 : Int) ≤ (y : Int) := by omega
          go_wp2_with fail
          go_loopg [28] 64 (fun gk zv wr => ∃ z : Nat, z + gk = 64 ∧ zv = .int .i64 z ∧ Tx1 s f g w.heap.size x y z w wr)
          case atStart => exact ⟨0, by omega, rfl, hT⟩
          case round =>
            obtain ⟨z, hz, rfl, hT⟩ := hrel
            by_cases hzl : z < 64
            · obtain ⟨⟨fc, h1, e1⟩, h2, h3⟩ := hT
              have E1 := hide (e1.step (f := f) hxl hzl (unhide HS x y z hxl hyl hzl))
              clear e1
              have ca : ∀ n, (wr.drewN n).cell? ⟨g, x * 320 + y * 64 + z, none⟩ = some (.bool (f (x * 320 + y * 64 + z))) := fun n => BT.cell (RowT.kept h2 (Quiet.below ⟨n, rfl⟩ _)) _ (by omega)
              have iz : (z : Int) < 64 := by omega
              have bz : (0 : Int) ≤ (z : Int) := by omega
              go_upto_region 9 with fail
              go_quiet (fail)
              go_upto_region 10 with fail
              obtain ⟨w1, hw1⟩ : ∃ w1, w1 = wr.drewN nq := ⟨_, rfl⟩
              have g1 : BT 465 w1 w.heap.size 320 fc := hw1 ▸ RowT.kept h1 (Quiet.below ⟨nq, rfl⟩ _)
              have g2 : BT 467 w1 g 1600 f := hw1 ▸ RowT.kept h2 (Quiet.below ⟨nq, rfl⟩ _)
              have g3 : Chg g w w1 := hw1 ▸ h3.trans (Chg.of (Quiet.below ⟨nq, rfl⟩ _))
              rw [← hw1]
              clear hw1 h1 h2 h3 ca
              have cc := g1.cell (x * 64 + z) (by omega)
              have zc := g1.froz (x * 64 + z)
              have G1 := hide g1
              have G2 := hide g2
              clear g1 g2
              rw [shade_of 40]
              go_region_held3 (fun _ => True) (trivial) (fail)
              go_wp2
              go_roundg (63 - z)
              case measure => omega
              case rel =>
                refine ⟨z + 1, by omega, rfl, Tx1.quiet (wr := w1.setCell ⟨w.heap.size, x * 64 + z, none⟩ _) ⟨⟨_, (unhide G1).set _ _, unhide E1⟩, RowT.only (unhide G2) ((Only.refl _ _).setCell _ _) (by omega), g3.onlyNew ((Only.refl w.heap.size w1).setCell _ _) (Nat.le_refl _)⟩ ⟨1, rfl⟩⟩
            · have dz : decide ((z : Int) < 64) = false := decide_eq_false (by omega)
              go_wp2
              go_roundg (4 - y)
              case measure => omega
              case rel =>
                obtain ⟨⟨fc, h1, e1⟩, h2, h3⟩ := hT
                exact ⟨y + 1, by omega, rfl, ⟨fc, h1, e1.row (by omega)⟩, h2, h3⟩
        · have dy : decide ((y : Int) < 5) = false := decide_eq_false (by omega)
          go_wp2
          go_roundg (4 - x)
          case measure => omega
          case rel =>
            obtain ⟨⟨fc, h1, e1⟩, h2, h3⟩ := hT
            exact ⟨x + 1, by omega, rfl, ⟨fc, h1, e1.col (by omega)⟩, h2, h3⟩
    · have dx : decide ((x : Int) < 5) = false := decide_eq_false (by omega)
      have hT : Tx2 s g w.heap.size 0 0 0 w wr := by
        obtain ⟨⟨fc, h1, e1⟩, h2, h3⟩ := hT
        exact ⟨⟨fc, h1, e1.done (by omega)⟩, ⟨f, h2, TA.start (unhide HS)⟩, h3⟩
      clear hxl hx
      go_wp2_with fail
      go_loopg [48] 5 (fun gk xv wr => ∃ x : Nat, x + gk = 5 ∧ xv = .int .i64 x ∧ Tx2 s g w.heap.size x 0 0 w wr)
      case atStart => exact ⟨0, by omega, rfl, hT⟩
      case round =>
        obtain ⟨X, hX, rfl, hT⟩ := hrel
        by_cases hXl : X < 5
        · have iX : (X : Int) < 5 := by omega
          obtain ⟨L, hL, hL5⟩ : ∃ L : Nat, ((X : Int) + 4) % 5 = (L : Int) ∧ L < 5 := ⟨(X + 4) % 5, by omega, by omega⟩
          have HLe := hide (show L = (X + 4) % 5 by omega)
          obtain ⟨R, hR, hR5⟩ : ∃ R : Nat, ((X : Int) + 1) % 5 = (R : Int) ∧ R < 5 := ⟨(X + 1) % 5, by omega, by omega⟩
          have HRe := hide (show R = (X + 1) % 5 by omega)
          have hlL : (L : Int) < 5 := by omega
          have hlR : (R : Int) < 5 := by omega
          go_upto_region 20 with (first
            | ((with_reducible refine at_alloc 464 ?_); refine wpList_alloc_g (by rfl) 464 rfl _ _ infoLane (bools_len _ _) ?_))
          simp only [Act.put]
          have hgd : w.heap.size < wr.heap.size := by obtain ⟨⟨fc, h1, _⟩, _, _⟩ := hT; exact RowT.lt h1
          obtain ⟨gd, hgde⟩ : ∃ gd, gd = wr.heap.size := ⟨_, rfl⟩
          have hT2 : Tx3 s g w.heap.size gd 0 X 0 0 w (wr.alloc (.cells (bools 64 fun _ => false).toArray 464)) := by
            obtain ⟨⟨fc, h1, e1⟩, ⟨fa, h2, e2⟩, h3⟩ := hT
            exact ⟨⟨_, hgde ▸ RowT.new _ _ _, fun Z hZ => absurd hZ (by omega)⟩, ⟨fc, RowT.alloc h1 _, e1⟩, ⟨fa, RowT.alloc h2 _, e2⟩, h3.trans (Chg.of ((Below.refl _ _).alloc (Nat.le_refl _) _))⟩
          rw [← hgde]
          rw [← hgde] at hgd
          generalize wr.alloc (.cells (bools 64 fun _ => false).toArray 464) = W2 at *
          clear hgde hT hT0
          have hne : ¬ gd = w.heap.size := by omega
          go_wp2_with fail
          go_loopg [59] 64 (fun gk zv wr => ∃ z : Nat, z + gk = 64 ∧ zv = .int .i64 z ∧ Tx3 s g w.heap.size gd z X 0 0 w wr)
          case atStart => exact ⟨0, by omega, rfl, hT2⟩
          case round =>
            obtain ⟨z, hz, rfl, hT⟩ := hrel
            by_cases hzl : z < 64
            · obtain ⟨⟨fd, h0, e0⟩, ⟨fc, h1, e1⟩, ⟨fa, h2, e2⟩, h3⟩ := hT
              have iz : (z : Int) < 64 := by omega
              obtain ⟨M, hM, hM64⟩ : ∃ M : Nat, ((z : Int) + 63) % 64 = (M : Int) ∧ M < 64 := ⟨(z + 63) % 64, by omega, by omega⟩
              have E0 := hide (e0.step e1 hXl hzl (unhide HLe) (unhide HRe) (show M = (z + 63) % 64 by omega))
              have E1 := hide e1
              have E2 := hide e2
              clear e0 e1 e2
              have iM : (M : Int) < 64 := by omega
              have hw1 : IntKind.i64.wrap ((z : Int) + 63) = (z : Int) + 63 := by rw [IntKind.wrap_i64]; omega
              have hw2 : IntKind.i64.wrap (M : Int) = M := by rw [IntKind.wrap_i64]; omega
              have hw3 : Int.tmod ((z : Int) + 63) 64 = M := by rw [Int.tmod_eq_emod_of_nonneg (by omega)]; exact hM
              have c1 := h1.cell (L * 64 + z) (by omega)
              have c2 := h1.cell (R * 64 + M) (by omega)
              have c0 := h0.cell z (by omega)
              have z0 := h0.froz z
              have H0 := hide h0
              have H1 := hide h1
              have H2 := hide h2
              clear h0 h1 h2
              go_upto_region 23 with fail
              go_region_held3 (fun w' => w'.cell? ⟨w.heap.size, L * 64 + z, none⟩ = some (.bool (fc (L * 64 + z))) ∧ w'.cell? ⟨w.heap.size, R * 64 + M, none⟩ = some (.bool (fc (R * 64 + M)))) (go_keep) (fail)
              go_wp2
              go_roundg (63 - z)
              case measure => omega
              case rel =>
                refine ⟨z + 1, by omega, rfl, Tx3.quiet (wr := wr.setCell ⟨gd, z, none⟩ _) ⟨⟨_, (unhide H0).set _ _, unhide E0⟩, ⟨fc, RowT.only (unhide H1) ((Only.refl _ _).setCell _ _) (by omega), unhide E1⟩, ⟨fa, RowT.only (unhide H2) ((Only.refl _ _).setCell _ _) (by omega), unhide E2⟩, h3.onlyNew ((Only.refl gd wr).setCell _ _) (by omega)⟩ ⟨1, rfl⟩⟩
            · have dz : decide ((z : Int) < 64) = false := decide_eq_false (by omega)
              obtain rfl : z = 64 := by omega
              clear hzl hz
              go_wp2_with fail
              go_loopg [78] 5 (fun gk yv wr => ∃ y : Nat, y + gk = 5 ∧ yv = .int .i64 y ∧ Tx3 s g w.heap.size gd 64 X y 0 w wr)
              case atStart => exact ⟨0, by omega, rfl, hT⟩
              case round =>
                obtain ⟨y, hy, rfl, hT⟩ := hrel
                by_cases hyl : y < 5
                · have iy : (y : Int) < 5 := by omega
                  go_wp2_with fail
                  go_loopg [87] 64 (fun gk zv wr => ∃ z : Nat, z + gk = 64 ∧ zv = .int .i64 z ∧ Tx3 s g w.heap.size gd 64 X y z w wr)
                  case atStart => exact ⟨0, by omega, rfl, hT⟩
                  case round =>
                    obtain ⟨Z, hZ, rfl, hT⟩ := hrel
                    by_cases hZl : Z < 64
                    · obtain ⟨⟨fd, h0, e0⟩, ⟨fc, h1, e1⟩, ⟨fa, h2, e2⟩, h3⟩ := hT
                      have E2 := hide (e2.step (fd := fd) hXl hyl hZl (e0 Z hZl))
                      have E0 := hide e0
                      have E1 := hide e1
                      clear e0 e1 e2
                      have iZ : (Z : Int) < 64 := by omega
                      have bZ : (0 : Int) ≤ (Z : Int) := by omega
                      have ca : ∀ n, (wr.drewN n).cell? ⟨gd, Z, none⟩ = some (.bool (fd Z)) := fun n => BT.cell (RowT.kept h0 (Quiet.below ⟨n, rfl⟩ _)) _ (by omega)
                      have H0 := hide h0
                      have H1 := hide h1
                      have H2 := hide h2
                      clear h0 h1 h2
                      go_upto_region 31 with fail
                      go_quiet (fail)
                      go_upto_region 32 with fail
                      obtain ⟨w1, hw1⟩ : ∃ w1, w1 = wr.drewN nq := ⟨_, rfl⟩
                      have g0 : BT 464 w1 gd 64 fd := hw1 ▸ RowT.kept (unhide H0) (Quiet.below ⟨nq, rfl⟩ _)
                      have g1 : BT 465 w1 w.heap.size 320 fc := hw1 ▸ RowT.kept (unhide H1) (Quiet.below ⟨nq, rfl⟩ _)
                      have g2 : BT 467 w1 g 1600 fa := hw1 ▸ RowT.kept (unhide H2) (Quiet.below ⟨nq, rfl⟩ _)
                      have g3 : Chg g w w1 := hw1 ▸ h3.trans (Chg.of (Quiet.below ⟨nq, rfl⟩ _))
                      rw [← hw1]
                      clear hw1 H0 H1 H2 h3 ca
                      have cc := g2.cell (X * 320 + y * 64 + Z) (by omega)
                      have zc := g2.froz (X * 320 + y * 64 + Z)
                      have G0 := hide g0
                      have G1 := hide g1
                      have G2 := hide g2
                      clear g0 g1 g2
                      rw [shade_of 99]
                      go_region_held3 (fun _ => True) (trivial) (fail)
                      go_wp2
                      go_roundg (63 - Z)
                      case measure => omega
                      case rel =>
                        refine ⟨Z + 1, by omega, rfl, Tx3.quiet (wr := w1.setCell ⟨g, X * 320 + y * 64 + Z, none⟩ _) ⟨⟨fd, RowT.only (unhide G0) ((Only.refl _ _).setCell _ _) (by omega), unhide E0⟩, ⟨fc, RowT.only (unhide G1) ((Only.refl _ _).setCell _ _) (by omega), unhide E1⟩, ⟨_, (unhide G2).set _ _, unhide E2⟩, g3.trans (Chg.ofOnly ((Only.refl g w1).setCell _ _))⟩ ⟨1, rfl⟩⟩
                    · have dZ : decide ((Z : Int) < 64) = false := decide_eq_false (by omega)
                      go_wp2
                      go_roundg (4 - y)
                      case measure => omega
                      case rel =>
                        obtain ⟨h0, h1, ⟨fa, h2, e2⟩, h3⟩ := hT
                        exact ⟨y + 1, by omega, rfl, h0, h1, ⟨fa, h2, e2.row (by omega)⟩, h3⟩
                · have dy : decide ((y : Int) < 5) = false := decide_eq_false (by omega)
                  go_wp2
                  go_roundg (4 - X)
                  case measure => omega
                  case rel =>
                    obtain ⟨h0, h1, ⟨fa, h2, e2⟩, h3⟩ := hT
                    exact ⟨X + 1, by omega, rfl, h1, ⟨fa, h2, e2.col (by omega)⟩, h3⟩
        · have dX : decide ((X : Int) < 5) = false := decide_eq_false (by omega)
          go_wp2
          obtain ⟨_, ⟨fa, h2, e2⟩, h3⟩ := hT
          exact bodyPost_done rfl rfl ⟨rfl, ⟨fa, h2, e2.done (by omega)⟩, h3⟩


end Go.Proofs.YgcsakGreat
