/-
  kmodel, exactly: F.
-/
import Derived.Test.YgcsakGreatKyE
import Derived.Test.YgcsakGreatKmG
namespace Go.Proofs.YgcsakGreat
set_option linter.unusedVariables false
set_option linter.unusedSimpArgs false
set_option maxRecDepth 100000
open Go.RowKit

def roundS (s : KS) (i : Nat) : KS := iotaS (chiS (piS (rhoS (thetaS s)))) (rcN i)
def permS (s : KS) : Nat → KS
  | 0 => s
  | n + 1 => roundS (permS s n) n
/-- 1600 bools in a row, as a state -/
def Sp (f : Nat → Bool) (s : KS) : Prop := ∀ P Q Z, P < 5 → Q < 5 → Z < 64 → f (64 * (5 * Q + P) + Z) = s P Q Z
def FI (f : Nat → Bool) (i : Nat) (fa : Nat → Bool) : Prop := ∀ P Q Z, P < 5 → Q < 5 → Z < 64 → 64 * (5 * Q + P) + Z < i → fa (P * 320 + Q * 64 + Z) = f (64 * (5 * Q + P) + Z)
theorem FI.step {f fa : Nat → Bool} {i A B C : Nat} (h : FI f i fa) (hi : i < 1600) (hA : A = i / 64 % 5) (hB : B = i / 320) (hC : C = i % 64) : FI f (i + 1) (fun k => if k = A * 320 + B * 64 + C then f i else fa k) := by
  intro P Q Z hP hQ hZ hh
  show (if P * 320 + Q * 64 + Z = A * 320 + B * 64 + C then f i else fa (P * 320 + Q * 64 + Z)) = _
  have hd : i / 64 / 5 = i / 320 := Nat.div_div_eq_div_mul i 64 5
  by_cases hk : 64 * (5 * Q + P) + Z = i
  · rw [if_pos (by omega), hk]
  · rw [if_neg (by omega)]
    exact h P Q Z hP hQ hZ (by omega)
theorem FI.done {f fa : Nat → Bool} {i : Nat} {s : KS} (h : FI f i fa) (hs : Sp f s) (hi : 1600 ≤ i) : St fa s := fun P Q Z hP hQ hZ => (h P Q Z hP hQ hZ (by omega)).trans (hs P Q Z hP hQ hZ)
def FO (s : KS) (i : Nat) (fs : Nat → Bool) : Prop := ∀ P Q Z, P < 5 → Q < 5 → Z < 64 → 64 * (5 * Q + P) + Z < i → fs (64 * (5 * Q + P) + Z) = s P Q Z
theorem FO.step {s : KS} {fa fs : Nat → Bool} {i A B C : Nat} (h : FO s i fs) (ha : St fa s) (hi : i < 1600) (hA : A = i / 64 % 5) (hB : B = i / 320) (hC : C = i % 64) : FO s (i + 1) (fun k => if k = i then fa (A * 320 + B * 64 + C) else fs k) := by
  intro P Q Z hP hQ hZ hh
  show (if 64 * (5 * Q + P) + Z = i then fa (A * 320 + B * 64 + C) else fs (64 * (5 * Q + P) + Z)) = _
  have hd : i / 64 / 5 = i / 320 := Nat.div_div_eq_div_mul i 64 5
  by_cases hk : 64 * (5 * Q + P) + Z = i
  · rw [if_pos hk]
    obtain rfl : A = P := by omega
    obtain rfl : B = Q := by omega
    obtain rfl : C = Z := by omega
    exact ha _ _ _ hP hQ hZ
  · rw [if_neg hk]
    exact h P Q Z hP hQ hZ (by omega)
theorem FO.done {s : KS} {fs : Nat → Bool} {i : Nat} (h : FO s i fs) (hi : 1600 ≤ i) : Sp fs s := fun P Q Z hP hQ hZ => h P Q Z hP hQ hZ (by omega)
def Fx (La Ls : (Nat → Bool) → Prop) (g ga : Nat) (w wr : World) : Prop := (∃ fa, BT 467 wr ga 1600 fa ∧ La fa) ∧ (∃ fs, BT 396 wr g 1600 fs ∧ Ls fs) ∧ Chg g w wr
theorem Fx.quiet {La Ls : (Nat → Bool) → Prop} {g gb : Nat} {w wr w' : World} (h : Fx La Ls g gb w wr) (q : Quiet wr w') : Fx La Ls g gb w w' := by
  obtain ⟨⟨fc, h1, e1⟩, ⟨fa, h2, e2⟩, h3⟩ := h
  exact ⟨⟨fc, RowT.kept h1 (q.below _), e1⟩, ⟨fa, RowT.kept h2 (q.below _), e2⟩, h3.trans (Chg.of (q.below _))⟩

set_option maxHeartbeats 8000000 in
theorem permF_x (g : Nat) (f : Nat → Bool) (s : KS) (w : World) (h : BT 396 w g 1600 f) (hs : Sp f s) :
    Calls Sakg.prog 325 #[.pointer (some ⟨g, 0, none⟩)] w fun e w' => e = .returned (.tuple #[]) ∧ (∃ f', BT 396 w' g 1600 f' ∧ Sp f' (permS s 24)) ∧ Chg g w w' := by
  have hlt : g < w.heap.size := RowT.lt h
  have hne : ¬ w.heap.size = g := by omega
  have hne2 : ¬ g = w.heap.size := by omega
  have hT0 : Fx (FI f 0) (· = f) g w.heap.size w (w.alloc (.cells (bools 1600 fun _ => false).toArray 467)) := ⟨⟨_, RowT.new _ _ _, fun P Q Z _ _ _ hh => absurd hh (by omega)⟩, ⟨f, RowT.alloc h _, rfl⟩, Chg.of ((Below.refl _ _).alloc (Nat.le_refl _) _)⟩
  have HS := hide hs
  clear h hs
  go_enter Sakg.func325, Sakg.ntmps325
  go_upto_region 2 with ((with_reducible refine at_alloc 467 ?_); refine wpList_alloc_g (by rfl) 467 rfl _ _ infoState (bools_len _ _) ?_)
  generalize (w.alloc (.cells (bools 1600 fun _ => false).toArray 467)) = W at *
  go_wp2_with fail
  go_loopg [12] 1600 (fun gk xv wr => ∃ i : Nat, i + gk = 1600 ∧ xv = .int .i64 i ∧ Fx (FI f i) (· = f) g w.heap.size w wr)
  case atStart => exact ⟨0, by omega, rfl, hT0⟩
  case round =>
    obtain ⟨i, hi, rfl, hT⟩ := hrel
    by_cases hil : i < 1600
    · have ii : (i : Int) < 1600 := by omega
      have bi : (0 : Int) ≤ (i : Int) := by omega
      obtain ⟨A, hA, hA5⟩ : ∃ A : Nat, (i : Int) / 64 % 5 = (A : Int) ∧ A < 5 := ⟨i / 64 % 5, by omega, by omega⟩
      obtain ⟨B, hB, hB5⟩ : ∃ A : Nat, (i : Int) / 320 = (A : Int) ∧ A < 5 := ⟨i / 320, by omega, by omega⟩
      obtain ⟨C, hC, hC64⟩ : ∃ A : Nat, (i : Int) % 64 = (A : Int) ∧ A < 64 := ⟨i % 64, by omega, by omega⟩
      have iA : (A : Int) < 5 := by omega
      have iB : (B : Int) < 5 := by omega
      have iC : (C : Int) < 64 := by omega
      obtain ⟨⟨fa, h1, e1⟩, ⟨fs, h2, rfl⟩, h3⟩ := hT
      have E1 := hide (e1.step hil (show A = i / 64 % 5 by omega) (show B = i / 320 by omega) (show C = i % 64 by omega))
      clear e1
      have ca : ∀ n, (wr.drewN n).cell? ⟨g, i, none⟩ = some (.bool (fs i)) := fun n => BT.cell (RowT.kept h2 (Quiet.below ⟨n, rfl⟩ _)) _ (by omega)
      have H1 := hide h1
      have H2 := hide h2
      clear h1 h2 hT0
      go_upto_region 4 with fail
      go_quiet (fail)
      go_upto_region 5 with fail
      obtain ⟨w1, hw1⟩ : ∃ w1, w1 = wr.drewN nq := ⟨_, rfl⟩
      have g1 : BT 467 w1 w.heap.size 1600 fa := hw1 ▸ RowT.kept (unhide H1) (Quiet.below ⟨nq, rfl⟩ _)
      have g2 : BT 396 w1 g 1600 fs := hw1 ▸ RowT.kept (unhide H2) (Quiet.below ⟨nq, rfl⟩ _)
      have g3 : Chg g w w1 := hw1 ▸ h3.trans (Chg.of (Quiet.below ⟨nq, rfl⟩ _))
      rw [← hw1]
      clear hw1 ca H1 H2 h3
      have c1 := g1.cell (A * 320 + B * 64 + C) (by omega)
      have z1 := g1.froz (A * 320 + B * 64 + C)
      have G1 := hide g1
      have G2 := hide g2
      clear g1 g2
      go_wp2
      go_roundg (1599 - i)
      case measure => omega
      case rel => exact ⟨i + 1, by omega, rfl, ⟨_, (unhide G1).set _ _, unhide E1⟩, ⟨fs, RowT.only (unhide G2) ((Only.refl _ _).setCell _ _) (by omega), rfl⟩, g3.onlyNew ((Only.refl w.heap.size w1).setCell _ _) (Nat.le_refl _)⟩
    · have dz : decide ((i : Int) < 1600) = false := decide_eq_false (by omega)
      have hT : Fx (fun fa => St fa (permS s 0)) (fun _ => True) g w.heap.size w wr := by
        obtain ⟨⟨fa, h1, e1⟩, ⟨fs, h2, -⟩, h3⟩ := hT
        exact ⟨⟨fa, h1, e1.done (unhide HS) (by omega)⟩, ⟨fs, h2, trivial⟩, h3⟩
      clear hi hil
      go_wp2_with fail
      go_loopg [5] 24 (fun gk xv wr => ∃ j : Nat, j + gk = 24 ∧ xv = .int .u8 j ∧ Fx (fun fa => St fa (permS s j)) (fun _ => True) g w.heap.size w wr)
      case atStart => exact ⟨0, by omega, rfl, hT⟩
      case round =>
        obtain ⟨j, hj, rfl, hT⟩ := hrel
        by_cases hjl : j < 24
        · have ij : (j : Int) < 24 := by omega
          obtain ⟨⟨fa, h1, e1⟩, ⟨fs, h2, -⟩, h3⟩ := hT
          have E1 := hide e1
          clear e1
          have H1 := hide h1
          have H2 := hide h2
          clear h1 h2 hT0
          go_upto_region 11 with (go_at_call 433; refine (theta_x w.heap.size fa _ wr (unhide H1) (unhide E1)).mono ?_; rintro e w1 ⟨rfl, ⟨f1, hf1, s1⟩, hc1⟩; have S1 := hide s1; clear s1)
          have k2 : BT 396 w1 g 1600 fs := hc1.row (unhide H2) (by omega)
          have k3 : Chg g w w1 := h3.chgNew hc1 (Nat.le_refl _)
          have F1 := hide hf1
          have K2 := hide k2
          clear H1 H2 h3 hf1 k2 hc1
          have hw1 : w.heap.size < w1.heap.size := RowT.lt (unhide F1)
          go_upto_region 12 with (first
            | (go_at_call 434; refine (rho_x w.heap.size f1 _ w1 (unhide F1) (unhide S1)).mono ?_; rintro e w2 ⟨⟨f2, rfl, s2⟩, hb2⟩; have S2 := hide s2; clear s2)
            | ((with_reducible refine at_alloc 467 ?_); refine wpList_alloc_g (by rfl) 467 rfl _ _ infoState (bools_len _ _) ?_)
            | ((with_reducible refine at_store 467 ?_); refine wpList_store_whole rfl 467 (.tmp 6) (.tmp 35) rfl w2.heap.size 467 _ (bools 1600 f2) rfl rfl (RowT.new _ _ _) (by rw [bools_len, bools_len]) (by rw [bools_len]; exact sizeState) (bools_one _ _) ?_; intro w3 hr3 ho3; have hbb3 := box_below ho3; clear ho3))
          simp only [Act.put]
          have b3 : Below w1.heap.size w1 w3 := hb2.trans (hbb3.1.mono hb2.size)
          have R3 := hide hr3
          have hs3 : w1.heap.size ≤ w3.heap.size := b3.size
          clear hr3 hb2
          go_upto_region 13 with (first
            | (go_at_call 435; refine (pi_x w2.heap.size f2 _ w3 (unhide R3) (unhide S2)).mono ?_; rintro e w4 ⟨⟨f4, rfl, s4⟩, hb4⟩; have S4 := hide s4; clear s4)
            | ((with_reducible refine at_alloc 467 ?_); refine wpList_alloc_g (by rfl) 467 rfl _ _ infoState (bools_len _ _) ?_)
            | ((with_reducible refine at_store 467 ?_); refine wpList_store_whole rfl 467 (.tmp 7) (.tmp 36) rfl w4.heap.size 467 _ (bools 1600 f4) rfl rfl (RowT.new _ _ _) (by rw [bools_len, bools_len]) (by rw [bools_len]; exact sizeState) (bools_one _ _) ?_; intro w5 hr5 ho5; have hbb5 := box_below ho5; clear ho5))
          simp only [Act.put]
          have b5 : Below w1.heap.size w1 w5 := b3.trans ((hb4.trans (hbb5.1.mono hb4.size)).mono hs3)
          have R5 := hide hr5
          clear hr5 hb4
          go_upto_region 14 with (first
            | (go_at_call 436; refine (chi_x w4.heap.size f4 _ w5 (unhide R5) (unhide S4)).mono ?_; rintro e w6 ⟨⟨f6, rfl, s6⟩, hb6⟩; have S6 := hide s6; clear s6; have b6 : Below w1.heap.size w1 w6 := b5.trans (hb6.mono b5.size); clear hb6)
            | ((with_reducible refine at_store 467 ?_); refine wpList_store_whole rfl 467 (.tmp 2) (.tmp 37) rfl w.heap.size 467 (bools 1600 f1) (bools 1600 f6) rfl rfl (RowT.kept (unhide F1) b6) (by rw [bools_len, bools_len]) (by rw [bools_len]; exact sizeState) (bools_one _ _) ?_; intro w7 hr7 ho7))
          simp only [Act.put]
          have k7 : BT 396 w7 g 1600 fs := RowT.only (RowT.kept (unhide K2) b6) ho7 (by omega)
          have c7 : Chg g w w7 := (k3.trans (Chg.of b6)).onlyNew ho7 (Nat.le_refl _)
          have R7 := hide hr7
          have K7 := hide k7
          clear hr7 ho7 k7 b3 b5 b6 k3 F1 K2 R3 R5 hbb3 hbb5
          go_wp2_with (go_at_call 437; refine (iota0_x w.heap.size f6 _ j w7 (unhide R7) (unhide S6) hjl).mono ?_; rintro e w8 ⟨rfl, ⟨f8, hf8, s8⟩, hc8⟩; have S8 := hide s8; clear s8; have k8 : BT 396 w8 g 1600 fs := hc8.row (unhide K7) (by omega); have c8 : Chg g w w8 := c7.chgNew hc8 (Nat.le_refl _))
          go_roundg (23 - j)
          case measure => omega
          case rel => exact ⟨j + 1, by omega, rfl, ⟨f8, hf8, unhide S8⟩, ⟨fs, k8, trivial⟩, c8⟩
        · have dj : decide ((j : Int) < 24) = false := decide_eq_false (by omega)
          obtain rfl : j = 24 := by omega
          have hT : Fx (fun fa => St fa (permS s 24)) (FO (permS s 24) 0) g w.heap.size w wr := by
            obtain ⟨⟨fa, h1, e1⟩, ⟨fs, h2, -⟩, h3⟩ := hT
            exact ⟨⟨fa, h1, e1⟩, ⟨fs, h2, fun P Q Z _ _ _ hh => absurd hh (by omega)⟩, h3⟩
          obtain ⟨sF, hsF⟩ : ∃ sF, sF = permS s 24 := ⟨_, rfl⟩
          rw [← hsF] at hT
          have HSF := hide hsF
          clear hj hjl hsF
          go_wp2_with fail
          go_loopg [40] 1600 (fun gk xv wr => ∃ i : Nat, i + gk = 1600 ∧ xv = .int .i64 i ∧ Fx (fun fa => St fa sF) (FO sF i) g w.heap.size w wr)
          case atStart => exact ⟨0, by omega, rfl, hT⟩
          case round =>
            obtain ⟨k, hk, rfl, hT⟩ := hrel
            by_cases hkl : k < 1600
            · have ii : (k : Int) < 1600 := by omega
              have bi : (0 : Int) ≤ (k : Int) := by omega
              obtain ⟨A, hA, hA5⟩ : ∃ A : Nat, (k : Int) / 64 % 5 = (A : Int) ∧ A < 5 := ⟨k / 64 % 5, by omega, by omega⟩
              obtain ⟨B, hB, hB5⟩ : ∃ A : Nat, (k : Int) / 320 = (A : Int) ∧ A < 5 := ⟨k / 320, by omega, by omega⟩
              obtain ⟨C, hC, hC64⟩ : ∃ A : Nat, (k : Int) % 64 = (A : Int) ∧ A < 64 := ⟨k % 64, by omega, by omega⟩
              obtain ⟨D, hD⟩ : ∃ D : Nat, (k : Int) / 64 = (D : Int) := ⟨k / 64, by omega⟩
              have iA : (A : Int) < 5 := by omega
              have iB : (B : Int) < 5 := by omega
              have iC : (C : Int) < 64 := by omega
              have e1 : Int.tdiv (k : Int) 64 = D := by rw [Int.tdiv_eq_ediv_of_nonneg (by omega)]; exact hD
              have e2 : Int.tdiv (k : Int) 320 = B := by rw [Int.tdiv_eq_ediv_of_nonneg (by omega)]; exact hB
              have e3 : Int.tmod (k : Int) 64 = C := by rw [Int.tmod_eq_emod_of_nonneg (by omega)]; exact hC
              have e4 : Int.tmod (D : Int) 5 = A := by rw [Int.tmod_eq_emod_of_nonneg (by omega)]; omega
              have e5 : IntKind.i64.wrap (D : Int) = D := by rw [IntKind.wrap_i64]; omega
              have e6 : IntKind.i64.wrap (A : Int) = A := by rw [IntKind.wrap_i64]; omega
              have e7 : IntKind.i64.wrap (B : Int) = B := by rw [IntKind.wrap_i64]; omega
              have e8 : IntKind.i64.wrap (C : Int) = C := by rw [IntKind.wrap_i64]; omega
              have e9 : (D : Int) % 5 = A := by omega
              obtain ⟨⟨fa, h1, e1⟩, ⟨fs, h2, e2⟩, h3⟩ := hT
              have E2 := hide (e2.step e1 hkl (show A = k / 64 % 5 by omega) (show B = k / 320 by omega) (show C = k % 64 by omega))
              have E1 := hide e1
              clear e1 e2
              have c1 := h1.cell (A * 320 + B * 64 + C) (by omega)
              have c2 := h2.cell k (by omega)
              have z2 := h2.froz k
              have H1 := hide h1
              have H2 := hide h2
              clear h1 h2 hT0 hA
              go_upto_region 18 with fail
              go_region_held3 (fun w' => w'.cell? ⟨w.heap.size, A * 320 + B * 64 + C, none⟩ = some (.bool (fa (A * 320 + B * 64 + C)))) (go_keep) (fail)
              go_wp2
              go_roundg (1599 - k)
              case measure => omega
              case rel => exact ⟨k + 1, by omega, rfl, Fx.quiet (wr := wr.setCell ⟨g, k, none⟩ _) ⟨⟨fa, RowT.only (unhide H1) ((Only.refl _ _).setCell _ _) (by omega), unhide E1⟩, ⟨_, (unhide H2).set _ _, unhide E2⟩, h3.trans (Chg.ofOnly ((Only.refl g wr).setCell _ _))⟩ ⟨1, rfl⟩⟩
            · have dk : decide ((k : Int) < 1600) = false := decide_eq_false (by omega)
              go_wp2
              obtain ⟨_, ⟨fs, h2, e2⟩, h3⟩ := hT
              exact bodyPost_done rfl rfl ⟨rfl, ⟨fs, h2, by rw [← unhide HSF]; exact e2.done (by omega)⟩, h3⟩


end Go.Proofs.YgcsakGreat
