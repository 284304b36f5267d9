/-
  kmodel, exactly: rho, pi.
-/
import Derived.Test.YgcsakGreatKyC
import Derived.Test.YgcsakGreatKmE
namespace Go.Proofs.YgcsakGreat
set_option linter.unusedVariables false
set_option linter.unusedSimpArgs false
set_option maxRecDepth 100000
open Go.RowKit

theorem bools_spl_x (n : Nat) (f : Nat → Bool) (o m : Nat) (f' : Nat → Bool) (h : o + m ≤ n) : spl (bools n f) o (bools m f') = bools n (fun k => if o ≤ k ∧ k < o + m then f' (k - o) else f k) := by
  apply List.ext_getElem?
  intro j
  have hl : (bools m f').length = m := bools_len _ _
  have hn : (bools n f).length = n := bools_len _ _
  unfold spl
  rw [hl]
  by_cases hj : j < n
  · rw [bools_get n (fun k => if o ≤ k ∧ k < o + m then f' (k - o) else f k) _ hj]
    by_cases h1 : j < o
    · rw [List.getElem?_append_left (by simp [hl, hn]; omega), List.getElem?_append_left (by simp [hn]; omega), List.getElem?_take, if_pos h1, bools_get _ _ _ hj, if_neg (by omega)]
    · by_cases h2 : j < o + m
      · rw [List.getElem?_append_left (by simp [hl, hn]; omega), List.getElem?_append_right (by simp [hn]; omega), List.length_take, hn, Nat.min_eq_left (by omega), bools_get _ _ _ (by omega), if_pos (by omega)]
      · rw [List.getElem?_append_right (by simp [hl, hn]; omega), List.length_append, List.length_take, hn, hl, Nat.min_eq_left (by omega), List.getElem?_drop, show o + m + (j - (o + m)) = j by omega, bools_get _ _ _ hj, if_neg (by omega)]
  · rw [List.getElem?_eq_none (by simp [hl, hn]; omega), List.getElem?_eq_none (by rw [bools_len]; omega)]
def rhoS (s : KS) : KS := fun P Q Z => s P Q ((Z + 64 - offN P Q % 64) % 64)
def piS (s : KS) : KS := fun P Q Z => s ((P + 3 * Q) % 5) P Z
/-- the lanes ahead of x, y are laid -/
def LB (s : KS) (x y : Nat) (fb : Nat → Bool) : Prop := ∀ P Q Z, P < 5 → Q < 5 → Z < 64 → (P < x ∨ (P = x ∧ Q < y)) → fb (P * 320 + Q * 64 + Z) = s P Q Z
theorem LB.start (s : KS) (fb : Nat → Bool) : LB s 0 0 fb := fun P Q Z _ _ _ h => absurd h (by omega)
theorem LB.col {s : KS} {x y : Nat} {fb : Nat → Bool} (h : LB s x y fb) (hy : 5 ≤ y) : LB s (x + 1) 0 fb := fun P Q Z hP hQ hZ hh => h P Q Z hP hQ hZ (by omega)
theorem LB.done {s : KS} {x : Nat} {fb : Nat → Bool} (h : LB s x 0 fb) (hx : 5 ≤ x) : St fb s := fun P Q Z hP hQ hZ => h P Q Z hP hQ hZ (by omega)
theorem LB.rho {s : KS} {x y k m os : Nat} {f fb fb2 fb3 : Nat → Bool} (h : LB (rhoS s) x y fb) (hs : St f s) (hx : x < 5) (hy : y < 5) (hk : k = offN x y % 64) (hm : m + k = 64) (hos : (k = 0 ∧ os = x * 320 + y * 64) ∨ (0 < k ∧ os = x * 320 + y * 64 + m))
    (h2 : fb2 = fun j => if x * 320 + y * 64 + k ≤ j ∧ j < x * 320 + y * 64 + k + m then f (x * 320 + y * 64 + (j - (x * 320 + y * 64 + k))) else fb j)
    (h3 : fb3 = fun j => if x * 320 + y * 64 ≤ j ∧ j < x * 320 + y * 64 + k then f (os + (j - (x * 320 + y * 64))) else fb2 j) : LB (rhoS s) x (y + 1) fb3 := by
  intro P Q Z hP hQ hZ hh
  subst h2 h3
  by_cases hpq : P = x ∧ Q = y
  · obtain ⟨rfl, rfl⟩ := hpq
    show (if P * 320 + Q * 64 ≤ P * 320 + Q * 64 + Z ∧ P * 320 + Q * 64 + Z < P * 320 + Q * 64 + k then f (os + (P * 320 + Q * 64 + Z - (P * 320 + Q * 64))) else if P * 320 + Q * 64 + k ≤ P * 320 + Q * 64 + Z ∧ P * 320 + Q * 64 + Z < P * 320 + Q * 64 + k + m then f (P * 320 + Q * 64 + (P * 320 + Q * 64 + Z - (P * 320 + Q * 64 + k))) else fb (P * 320 + Q * 64 + Z)) = s P Q ((Z + 64 - offN P Q % 64) % 64)
    rw [← hk]
    by_cases hz : Z < k
    · rw [if_pos (by omega), show os + (P * 320 + Q * 64 + Z - (P * 320 + Q * 64)) = P * 320 + Q * 64 + (m + Z) by omega, hs P Q (m + Z) hP hQ (by omega), show (Z + 64 - k) % 64 = m + Z by omega]
    · rw [if_neg (by omega), if_pos (by omega), show P * 320 + Q * 64 + (P * 320 + Q * 64 + Z - (P * 320 + Q * 64 + k)) = P * 320 + Q * 64 + (Z - k) by omega, hs P Q (Z - k) hP hQ (by omega), show (Z + 64 - k) % 64 = Z - k by omega]
  · have hn : ¬ (x * 320 + y * 64 ≤ P * 320 + Q * 64 + Z ∧ P * 320 + Q * 64 + Z < x * 320 + y * 64 + 64) := by omega
    show (if x * 320 + y * 64 ≤ P * 320 + Q * 64 + Z ∧ P * 320 + Q * 64 + Z < x * 320 + y * 64 + k then f (os + (P * 320 + Q * 64 + Z - (x * 320 + y * 64))) else if x * 320 + y * 64 + k ≤ P * 320 + Q * 64 + Z ∧ P * 320 + Q * 64 + Z < x * 320 + y * 64 + k + m then f (x * 320 + y * 64 + (P * 320 + Q * 64 + Z - (x * 320 + y * 64 + k))) else fb (P * 320 + Q * 64 + Z)) = _
    rw [if_neg (by omega), if_neg (by omega)]
    exact h P Q Z hP hQ hZ (by omega)
theorem LB.pi {s : KS} {x y A : Nat} {f fb fb3 : Nat → Bool} (h : LB (piS s) x y fb) (hs : St f s) (hx : x < 5) (hy : y < 5) (hA : A = (x + 3 * y) % 5)
    (h3 : fb3 = fun j => if x * 320 + y * 64 ≤ j ∧ j < x * 320 + y * 64 + 64 then f (A * 320 + x * 64 + (j - (x * 320 + y * 64))) else fb j) : LB (piS s) x (y + 1) fb3 := by
  intro P Q Z hP hQ hZ hh
  subst h3
  by_cases hpq : P = x ∧ Q = y
  · obtain ⟨rfl, rfl⟩ := hpq
    show (if P * 320 + Q * 64 ≤ P * 320 + Q * 64 + Z ∧ P * 320 + Q * 64 + Z < P * 320 + Q * 64 + 64 then f (A * 320 + P * 64 + (P * 320 + Q * 64 + Z - (P * 320 + Q * 64))) else fb (P * 320 + Q * 64 + Z)) = s ((P + 3 * Q) % 5) P Z
    rw [if_pos (by omega), show P * 320 + Q * 64 + Z - (P * 320 + Q * 64) = Z by omega, ← hA]
    exact hs A P Z (by omega) hP hZ
  · show (if x * 320 + y * 64 ≤ P * 320 + Q * 64 + Z ∧ P * 320 + Q * 64 + Z < x * 320 + y * 64 + 64 then f (A * 320 + x * 64 + (P * 320 + Q * 64 + Z - (x * 320 + y * 64))) else fb (P * 320 + Q * 64 + Z)) = _
    rw [if_neg (by omega)]
    exact h P Q Z hP hQ hZ (by omega)
/-- what rho, pi and chi keep: the state read, and that which is laid -/
def Rx (L : (Nat → Bool) → Prop) (f : Nat → Bool) (g gb : Nat) (w wr : World) : Prop := (∃ fb, BT 467 wr gb 1600 fb ∧ L fb) ∧ BT 467 wr g 1600 f ∧ Below w.heap.size w wr
theorem Rx.quiet {L : (Nat → Bool) → Prop} {f : Nat → Bool} {g gb : Nat} {w wr w' : World} (h : Rx L f g gb w wr) (q : Quiet wr w') : Rx L f g gb w w' := by
  obtain ⟨⟨fc, h1, e1⟩, h2, h3⟩ := h
  exact ⟨⟨fc, RowT.kept h1 (q.below _), e1⟩, RowT.kept h2 (q.below _), h3.trans (q.below _)⟩
theorem Rx.to {L L' : (Nat → Bool) → Prop} {f : Nat → Bool} {g gb : Nat} {w wr : World} (h : Rx L f g gb w wr) (hl : ∀ fb, L fb → L' fb) : Rx L' f g gb w wr := by
  obtain ⟨⟨fc, h1, e1⟩, h2⟩ := h
  exact ⟨⟨fc, h1, hl fc e1⟩, h2⟩

set_option maxHeartbeats 8000000 in
theorem rho_x (g : Nat) (f : Nat → Bool) (s : KS) (w : World) (h : BT 467 w g 1600 f) (hs : St f s) :
    Calls Sakg.prog 434 #[.pointer (some ⟨g, 0, none⟩)] w fun e w' => (∃ f', e = .returned (.agg (bools 1600 f').toArray) ∧ St f' (rhoS s)) ∧ Below w.heap.size w w' := by
  have hlt : g < w.heap.size := RowT.lt h
  have hT0 : Rx (LB (rhoS s) 0 0) f g w.heap.size w (w.alloc (.cells (bools 1600 fun _ => false).toArray 467)) := ⟨⟨_, RowT.new _ _ _, LB.start _ _⟩, RowT.alloc h _, (Below.refl _ _).alloc (Nat.le_refl _) _⟩
  have HS := hide hs
  clear h hs
  go_enter Sakg.func434, Sakg.ntmps434
  go_upto_region 1 with ((with_reducible refine at_alloc 467 ?_); refine wpList_alloc_g (by rfl) 467 rfl _ _ infoState (bools_len _ _) ?_)
  generalize (w.alloc (.cells (bools 1600 fun _ => false).toArray 467)) = W at *
  go_wp2_with fail
  go_loopg [6] 5 (fun gk xv wr => ∃ x : Nat, x + gk = 5 ∧ xv = .int .i64 x ∧ Rx (LB (rhoS s) x 0) f g w.heap.size w wr)
  case atStart => exact ⟨0, by omega, rfl, hT0⟩
  case round =>
    obtain ⟨x, hx, rfl, hT⟩ := hrel
    by_cases hxl : x < 5
    · have ix : (x : Int) < 5 := by omega
      have bx : (0 : Int) ≤ (x : Int) := by omega
      go_wp2_with fail
      go_loopg [9] 5 (fun gk yv wr => ∃ y : Nat, y + gk = 5 ∧ yv = .int .i64 y ∧ Rx (LB (rhoS s) x y) f g w.heap.size w wr)
      case atStart => exact ⟨0, by omega, rfl, hT⟩
      case round =>
        obtain ⟨y, hy, rfl, hT⟩ := hrel
        by_cases hyl : y < 5
        · have iy : (y : Int) < 5 := by omega
          have by_ : (0 : Int) ≤ (y : Int) := by omega
          have HO : Hid (∀ w, Calls Sakg.prog 491 #[.int .u8 x, .int .u8 y] w fun e w' => e = .returned (.int .u8 (offN x y : Int)) ∧ w = w') := hide (fun w => offset_x x y w hxl hyl)
          obtain ⟨kk, hkk⟩ : ∃ kk, kk = offN x y := ⟨_, rfl⟩
          rw [← hkk] at HO
          have HKK := hide hkk
          clear hkk
          go_upto_region 8 with (go_at_call 491; refine (unhide HO _).mono ?_; rintro e w' ⟨rfl, rfl⟩)
          obtain ⟨k, hk, hk64⟩ : ∃ k : Nat, (kk : Int) % 64 = (k : Int) ∧ k < 64 := ⟨kk % 64, by omega, by omega⟩
          rw [hk]
          have HK := hide (show k = offN x y % 64 by have := unhide HKK; omega)
          obtain ⟨m, hm⟩ : ∃ m, m + k = 64 := ⟨64 - k, by omega⟩
          have hm1 : IntKind.u8.wrap (64 - (k : Int)) = (m : Int) := by rw [IntKind.wrap_u8]; omega
          have hm2 : 64 - k = m := by omega
          have hm3 : ((64 : Int) - k).toNat = m := by omega
          have hm4 : (64 : Int) - k = m := by omega
          have ik : (k : Int) ≤ 64 := by omega
          have hm5 : IntKind.u8.wrap (m : Int) = m := by rw [IntKind.wrap_u8]; omega
          have hm6 : ¬ 64 = k := by omega
          have im : (m : Int) ≤ 64 := by omega
          have im1 : m ≤ 64 := by omega
          have ik1 : k ≤ 64 := by omega
          obtain ⟨⟨fb, h1, e1⟩, h2, h3⟩ := hT
          have E1 := hide e1
          clear e1
          have g1 : BT 467 wr.drew w.heap.size 1600 fb := RowT.kept h1 (Quiet.below ⟨1, rfl⟩ _)
          have g2 : BT 467 wr.drew g 1600 f := RowT.kept h2 (Quiet.below ⟨1, rfl⟩ _)
          have g3 : Below w.heap.size w wr.drew := h3.trans (Quiet.below ⟨1, rfl⟩ _)
          refine wp_region_noPanic ?_
          refine wp_region_held_drew (S := fun _ => True) (by kernel_rfl) trivial (fun hHeld => ?_)
          refine held_takeD 0 (.int .i64 x) (some 18) (by rfl) (by rfl) (by kernel_rfl) (by kernel_rfl) (by kernel_rfl) (fun _ _ _ h => h) (.inl ⟨by rfl, fun _ _ => by rfl⟩) (hHeld) ?_
          simp only [Act.put, List.setIfInBounds_toArray, List.set_cons_zero, List.set_cons_succ]
          refine held_takeD 1 (.int .i64 y) (some 19) (by rfl) (by rfl) (by kernel_rfl) (by kernel_rfl) (by kernel_rfl) (fun _ _ _ h => h) (.inl ⟨by rfl, fun _ _ => by rfl⟩) (hHeld) ?_
          simp only [Act.put, List.setIfInBounds_toArray, List.set_cons_zero, List.set_cons_succ]
          refine held_takeD 4 (.int .u8 k) (some 22) (by rfl) (by rfl) (by kernel_rfl) (by kernel_rfl) (by kernel_rfl) (fun _ _ _ h => h) (.inl ⟨by rfl, fun _ _ => by rfl⟩) (hHeld) ?_
          simp only [Act.put, List.setIfInBounds_toArray, List.set_cons_zero, List.set_cons_succ]
          refine held_takeD 6 (.pointer (some ⟨g, 0, none⟩)) (some 24) (by rfl) (by rfl) (by kernel_rfl) (by kernel_rfl) (by kernel_rfl) (fun _ _ _ h => h) (.inl ⟨by rfl, fun _ _ => by rfl⟩) (hHeld) ?_
          simp only [Act.put, List.setIfInBounds_toArray, List.set_cons_zero, List.set_cons_succ]
          refine held_takeD 7 (.int .i64 x) (some 25) (by rfl) (by rfl) (by kernel_rfl) (by kernel_rfl) (by kernel_rfl) (fun _ _ _ h => h) (.inl ⟨by rfl, fun _ _ => by rfl⟩) (hHeld) ?_
          simp only [Act.put, List.setIfInBounds_toArray, List.set_cons_zero, List.set_cons_succ]
          refine held_takeD 8 (.int .i64 y) (some 26) (by rfl) (by rfl) (by kernel_rfl) (by kernel_rfl) (by kernel_rfl) (fun _ _ _ h => h) (.inl ⟨by rfl, fun _ _ => by rfl⟩) (hHeld) ?_
          simp only [Act.put, List.setIfInBounds_toArray, List.set_cons_zero, List.set_cons_succ]
          refine held_takeD 12 (.int .u8 k) (some 30) (by rfl) (by rfl) (by kernel_rfl) (by kernel_rfl) (by kernel_rfl) (fun _ _ _ h => h) (.inl ⟨by rfl, fun _ _ => by rfl⟩) (hHeld) ?_
          simp only [Act.put, List.setIfInBounds_toArray, List.set_cons_zero, List.set_cons_succ]
          refine held_takeD 2 (.pointer (some ⟨w.heap.size, x * 320, none⟩)) (some 20) (by rfl) (by rfl) (by kernel_rfl) (by kernel_rfl) (by kernel_rfl) (fun _ _ _ h => h) (.inl ⟨by rfl, fun _ _ => by go_simp⟩) (hHeld) ?_
          simp only [Act.put, List.setIfInBounds_toArray, List.set_cons_zero, List.set_cons_succ]
          refine held_takeD 3 (.pointer (some ⟨w.heap.size, x * 320 + y * 64, none⟩)) (some 21) (by rfl) (by rfl) (by kernel_rfl) (by kernel_rfl) (by kernel_rfl) (fun _ _ _ h => h) (.inl ⟨by rfl, fun _ _ => by go_simp⟩) (hHeld) ?_
          simp only [Act.put, List.setIfInBounds_toArray, List.set_cons_zero, List.set_cons_succ]
          refine held_takeD 5 (.slice (some ⟨w.heap.size, x * 320 + y * 64 + k, none⟩) m m) (some 23) (by rfl) (by rfl) (by kernel_rfl) (by kernel_rfl) (by kernel_rfl) (fun _ _ _ h => h) (.inl ⟨by rfl, fun _ _ => by go_simp⟩) (hHeld) ?_
          simp only [Act.put, List.setIfInBounds_toArray, List.set_cons_zero, List.set_cons_succ]
          refine held_takeD 9 (.pointer (some ⟨g, 0, none⟩)) (some 27) (by rfl) (by rfl) (by kernel_rfl) (by kernel_rfl) (by kernel_rfl) (fun _ _ _ h => h) (.inl ⟨by rfl, fun _ _ => by go_simp⟩) (hHeld) ?_
          simp only [Act.put, List.setIfInBounds_toArray, List.set_cons_zero, List.set_cons_succ]
          refine held_takeD 10 (.pointer (some ⟨g, x * 320, none⟩)) (some 28) (by rfl) (by rfl) (by kernel_rfl) (by kernel_rfl) (by kernel_rfl) (fun _ _ _ h => h) (.inl ⟨by rfl, fun _ _ => by go_simp⟩) (hHeld) ?_
          simp only [Act.put, List.setIfInBounds_toArray, List.set_cons_zero, List.set_cons_succ]
          refine held_takeD 11 (.pointer (some ⟨g, x * 320 + y * 64, none⟩)) (some 29) (by rfl) (by rfl) (by kernel_rfl) (by kernel_rfl) (by kernel_rfl) (fun _ _ _ h => h) (.inl ⟨by rfl, fun _ _ => by go_simp⟩) (hHeld) ?_
          simp only [Act.put, List.setIfInBounds_toArray, List.set_cons_zero, List.set_cons_succ]
          refine held_takeD 13 (.int .u8 m) (some 31) (by rfl) (by rfl) (by kernel_rfl) (by kernel_rfl) (by kernel_rfl) (fun _ _ _ h => h) (.inl ⟨by rfl, fun _ _ => by go_simp⟩) (hHeld) ?_
          simp only [Act.put, List.setIfInBounds_toArray, List.set_cons_zero, List.set_cons_succ]
          refine held_takeD 14 (.slice (some ⟨g, x * 320 + y * 64, none⟩) m 64) (some 32) (by rfl) (by rfl) (by kernel_rfl) (by kernel_rfl) (by kernel_rfl) (fun _ _ _ h => h) (.inl ⟨by rfl, fun _ _ => by go_simp⟩) (hHeld) ?_
          simp only [Act.put, List.setIfInBounds_toArray, List.set_cons_zero, List.set_cons_succ]
          refine held_copy 15 (by kernel_rfl) rfl (some 33) rfl (by rfl) (.tmp 23) (.tmp 32) 255 255 rfl 4 Sakg.underlying255 sizeBool w.heap.size (x * 320 + y * 64 + k) m m 467 (bools 1600 fb) (bools m fun i => f (x * 320 + y * 64 + i)) rfl (BT.row g1) (by rw [bools_len]; omega) (bools_len _ _) g (x * 320 + y * 64) 64 rfl (g2.part (x * 320 + y * 64) m (by omega)) (bools_one _ _) (fun w2 hr2 ho2 => ⟨trivial, ?_⟩)
          simp only [Act.put, List.setIfInBounds_toArray, List.set_cons_zero, List.set_cons_succ]
          refine wpAnyH_done (by kernel_rfl) ?_ _
          refine NoPanic.normal ?_
          have hfb2 := bools_spl_x 1600 fb (x * 320 + y * 64 + k) m (fun i => f (x * 320 + y * 64 + i)) (by omega)
          obtain ⟨fb2, hq2⟩ : ∃ fb2, fb2 = fun j => if x * 320 + y * 64 + k ≤ j ∧ j < x * 320 + y * 64 + k + m then f (x * 320 + y * 64 + (j - (x * 320 + y * 64 + k))) else fb j := ⟨_, rfl⟩
          rw [← hq2] at hfb2
          have HQ2 := hide hq2
          clear hq2
          have q1 : BT 467 w2.drew w.heap.size 1600 fb2 := RowT.kept (hfb2 ▸ hr2) (Quiet.below ⟨1, rfl⟩ _)
          have q2 : BT 467 w2.drew g 1600 f := RowT.kept (RowT.only g2 ho2 (by omega)) (Quiet.below ⟨1, rfl⟩ _)
          have q3 : Below w.heap.size w w2.drew := (g3.trans (ho2.below _ (Nat.le_refl _))).trans (Quiet.below ⟨1, rfl⟩ _)
          clear g1 g2 g3 h1 h2 h3 hr2 ho2 hHeld
          obtain ⟨os, hos⟩ : ∃ os, (k = 0 ∧ os = x * 320 + y * 64) ∨ (0 < k ∧ os = x * 320 + y * 64 + m) := by
            rcases Nat.eq_zero_or_pos k with h | h
            · exact ⟨_, .inl ⟨h, rfl⟩⟩
            · exact ⟨_, .inr ⟨h, rfl⟩⟩
          have hos2 : os + k ≤ 1600 := by omega
          go_upto_region 9 with fail
          refine wp_region_noPanic ?_
          refine wp_region_held_drew (S := fun _ => True) (by kernel_rfl) trivial (fun hHeld => ?_)
          refine held_takeD 0 (.int .i64 x) (some 34) (by rfl) (by rfl) (by kernel_rfl) (by kernel_rfl) (by kernel_rfl) (fun _ _ _ h => h) (.inl ⟨by rfl, fun _ _ => by rfl⟩) (hHeld) ?_
          simp only [Act.put, List.setIfInBounds_toArray, List.set_cons_zero, List.set_cons_succ]
          refine held_takeD 1 (.int .i64 y) (some 35) (by rfl) (by rfl) (by kernel_rfl) (by kernel_rfl) (by kernel_rfl) (fun _ _ _ h => h) (.inl ⟨by rfl, fun _ _ => by rfl⟩) (hHeld) ?_
          simp only [Act.put, List.setIfInBounds_toArray, List.set_cons_zero, List.set_cons_succ]
          refine held_takeD 2 (.pointer (some ⟨w.heap.size, x * 320, none⟩)) (some 36) (by rfl) (by rfl) (by kernel_rfl) (by kernel_rfl) (by kernel_rfl) (fun _ _ _ h => h) (.inl ⟨by rfl, fun _ _ => by go_simp⟩) (hHeld) ?_
          simp only [Act.put, List.setIfInBounds_toArray, List.set_cons_zero, List.set_cons_succ]
          refine held_takeD 3 (.pointer (some ⟨w.heap.size, x * 320 + y * 64, none⟩)) (some 37) (by rfl) (by rfl) (by kernel_rfl) (by kernel_rfl) (by kernel_rfl) (fun _ _ _ h => h) (.inl ⟨by rfl, fun _ _ => by go_simp⟩) (hHeld) ?_
          simp only [Act.put, List.setIfInBounds_toArray, List.set_cons_zero, List.set_cons_succ]
          refine held_takeD 4 (.int .u8 k) (some 38) (by rfl) (by rfl) (by kernel_rfl) (by kernel_rfl) (by kernel_rfl) (fun _ _ _ h => h) (.inl ⟨by rfl, fun _ _ => by rfl⟩) (hHeld) ?_
          simp only [Act.put, List.setIfInBounds_toArray, List.set_cons_zero, List.set_cons_succ]
          refine held_takeD 5 (.slice (some ⟨w.heap.size, x * 320 + y * 64, none⟩) k 64) (some 39) (by rfl) (by rfl) (by kernel_rfl) (by kernel_rfl) (by kernel_rfl) (fun _ _ _ h => h) (.inl ⟨by rfl, fun _ _ => by go_simp⟩) (hHeld) ?_
          simp only [Act.put, List.setIfInBounds_toArray, List.set_cons_zero, List.set_cons_succ]
          refine held_takeD 6 (.pointer (some ⟨g, 0, none⟩)) (some 40) (by rfl) (by rfl) (by kernel_rfl) (by kernel_rfl) (by kernel_rfl) (fun _ _ _ h => h) (.inl ⟨by rfl, fun _ _ => by rfl⟩) (hHeld) ?_
          simp only [Act.put, List.setIfInBounds_toArray, List.set_cons_zero, List.set_cons_succ]
          refine held_takeD 7 (.int .i64 x) (some 41) (by rfl) (by rfl) (by kernel_rfl) (by kernel_rfl) (by kernel_rfl) (fun _ _ _ h => h) (.inl ⟨by rfl, fun _ _ => by rfl⟩) (hHeld) ?_
          simp only [Act.put, List.setIfInBounds_toArray, List.set_cons_zero, List.set_cons_succ]
          refine held_takeD 8 (.int .i64 y) (some 42) (by rfl) (by rfl) (by kernel_rfl) (by kernel_rfl) (by kernel_rfl) (fun _ _ _ h => h) (.inl ⟨by rfl, fun _ _ => by rfl⟩) (hHeld) ?_
          simp only [Act.put, List.setIfInBounds_toArray, List.set_cons_zero, List.set_cons_succ]
          refine held_takeD 9 (.pointer (some ⟨g, 0, none⟩)) (some 43) (by rfl) (by rfl) (by kernel_rfl) (by kernel_rfl) (by kernel_rfl) (fun _ _ _ h => h) (.inl ⟨by rfl, fun _ _ => by go_simp⟩) (hHeld) ?_
          simp only [Act.put, List.setIfInBounds_toArray, List.set_cons_zero, List.set_cons_succ]
          refine held_takeD 10 (.pointer (some ⟨g, x * 320, none⟩)) (some 44) (by rfl) (by rfl) (by kernel_rfl) (by kernel_rfl) (by kernel_rfl) (fun _ _ _ h => h) (.inl ⟨by rfl, fun _ _ => by go_simp⟩) (hHeld) ?_
          simp only [Act.put, List.setIfInBounds_toArray, List.set_cons_zero, List.set_cons_succ]
          refine held_takeD 11 (.pointer (some ⟨g, x * 320 + y * 64, none⟩)) (some 45) (by rfl) (by rfl) (by kernel_rfl) (by kernel_rfl) (by kernel_rfl) (fun _ _ _ h => h) (.inl ⟨by rfl, fun _ _ => by go_simp⟩) (hHeld) ?_
          simp only [Act.put, List.setIfInBounds_toArray, List.set_cons_zero, List.set_cons_succ]
          refine held_takeD 12 (.int .u8 k) (some 46) (by rfl) (by rfl) (by kernel_rfl) (by kernel_rfl) (by kernel_rfl) (fun _ _ _ h => h) (.inl ⟨by rfl, fun _ _ => by rfl⟩) (hHeld) ?_
          simp only [Act.put, List.setIfInBounds_toArray, List.set_cons_zero, List.set_cons_succ]
          refine held_takeD 13 (.int .u8 m) (some 47) (by rfl) (by rfl) (by kernel_rfl) (by kernel_rfl) (by kernel_rfl) (fun _ _ _ h => h) (.inl ⟨by rfl, fun _ _ => by go_simp⟩) (hHeld) ?_
          simp only [Act.put, List.setIfInBounds_toArray, List.set_cons_zero, List.set_cons_succ]
          refine held_takeD 14 (.slice (some ⟨g, os, none⟩) k k) (some 48) (by rfl) (by rfl) (by kernel_rfl) (by kernel_rfl) (by kernel_rfl) (fun _ _ _ h => h) (.inl ⟨by rfl, fun wS hS => by (rcases hos with ⟨h0, rfl⟩ | ⟨h0, rfl⟩; (obtain rfl : m = 64 := by omega); subst h0; go_simp; (have e1 : ¬ 64 = m := by omega); (have e2 : 64 - m = k := by omega); go_simp)⟩) (hHeld) ?_
          simp only [Act.put, List.setIfInBounds_toArray, List.set_cons_zero, List.set_cons_succ]
          refine held_copy 15 (by kernel_rfl) rfl (some 49) rfl (by rfl) (.tmp 39) (.tmp 48) 255 255 rfl 4 Sakg.underlying255 sizeBool w.heap.size (x * 320 + y * 64) k 64 467 (bools 1600 fb2) (bools k fun i => f (os + i)) rfl (BT.row q1) (by rw [bools_len]; omega) (bools_len _ _) g os k rfl (q2.part os k hos2) (bools_one _ _) (fun w3 hr3 ho3 => ⟨trivial, ?_⟩)
          simp only [Act.put, List.setIfInBounds_toArray, List.set_cons_zero, List.set_cons_succ]
          refine wpAnyH_done (by kernel_rfl) ?_ _
          refine NoPanic.normal ?_
          have hfb3 := bools_spl_x 1600 fb2 (x * 320 + y * 64) k (fun i => f (os + i)) (by omega)
          obtain ⟨fb3, hq3⟩ : ∃ fb3, fb3 = fun j => if x * 320 + y * 64 ≤ j ∧ j < x * 320 + y * 64 + k then f (os + (j - (x * 320 + y * 64))) else fb2 j := ⟨_, rfl⟩
          rw [← hq3] at hfb3
          have E3 := hide ((unhide E1).rho (unhide HS) hxl hyl (unhide HK) hm hos (unhide HQ2) hq3)
          clear hq3
          have r1 : BT 467 w3 w.heap.size 1600 fb3 := BT.mk (hfb3 ▸ hr3)
          have r2 : BT 467 w3 g 1600 f := RowT.only q2 ho3 (by omega)
          have r3 : Below w.heap.size w w3 := q3.trans (ho3.below _ (Nat.le_refl _))
          clear q1 q2 q3 hr3 ho3
          go_wp2
          go_roundg (4 - y)
          case measure => omega
          case rel => exact ⟨y + 1, by omega, rfl, ⟨fb3, r1, unhide E3⟩, r2, r3⟩
        · have dy : decide ((y : Int) < 5) = false := decide_eq_false (by omega)
          go_wp2
          go_roundg (4 - x)
          case measure => omega
          case rel => exact ⟨x + 1, by omega, rfl, hT.to fun fb h => h.col (by omega)⟩
    · have dx : decide ((x : Int) < 5) = false := decide_eq_false (by omega)
      obtain ⟨⟨fb, h1, e1⟩, _, h3⟩ := hT
      have E1 := hide (e1.done (by omega))
      clear e1
      have hsz : (Sakg.prog.info? 467).map (·.size) = some (bools 1600 fb).length := by rw [bools_len]; exact sizeState
      have H1 := hide h1
      clear h1 hT0
      go_wp2_with (first
        | ((with_reducible refine at_load 467 ?_); refine wpList_load_g (by rfl) 467 (.tmp 2) rfl w.heap.size 0 rfl (bools 1600 fb) _ (unhide H1).row.rangeAll Sakg.underlying467 rfl hsz ?_)
        | ((with_reducible refine at_store 467 ?_); refine wpList_store_whole rfl 467 (.tmp 2) (.tmp 52) rfl w.heap.size 467 (bools 1600 fb) (bools 1600 fb) rfl rfl (unhide H1).row rfl hsz (bools_one _ _) ?_; intro w3 hr3 ho3))
      refine bodyPost_ret (results_cell_row rfl _ _ _ _ _ _ _ rfl hr3 Sakg.underlying467 rfl (by simpa using hsz)) rfl ?_
      exact ⟨⟨fb, rfl, unhide E1⟩, h3.trans (ho3.below _ (Nat.le_refl _))⟩


set_option maxHeartbeats 8000000 in
theorem pi_x (g : Nat) (f : Nat → Bool) (s : KS) (w : World) (h : BT 467 w g 1600 f) (hs : St f s) :
    Calls Sakg.prog 435 #[.pointer (some ⟨g, 0, none⟩)] w fun e w' => (∃ f', e = .returned (.agg (bools 1600 f').toArray) ∧ St f' (piS s)) ∧ Below w.heap.size w w' := by
  have hlt : g < w.heap.size := RowT.lt h
  have hT0 : Rx (LB (piS s) 0 0) f g w.heap.size w (w.alloc (.cells (bools 1600 fun _ => false).toArray 467)) := ⟨⟨_, RowT.new _ _ _, LB.start _ _⟩, RowT.alloc h _, (Below.refl _ _).alloc (Nat.le_refl _) _⟩
  have HS := hide hs
  clear h hs
  go_enter Sakg.func435, Sakg.ntmps435
  go_upto_region 1 with ((with_reducible refine at_alloc 467 ?_); refine wpList_alloc_g (by rfl) 467 rfl _ _ infoState (bools_len _ _) ?_)
  generalize (w.alloc (.cells (bools 1600 fun _ => false).toArray 467)) = W at *
  go_wp2_with fail
  go_loopg [5] 5 (fun gk xv wr => ∃ x : Nat, x + gk = 5 ∧ xv = .int .i64 x ∧ Rx (LB (piS s) x 0) f g w.heap.size w wr)
  case atStart => exact ⟨0, by omega, rfl, hT0⟩
  case round =>
    obtain ⟨x, hx, rfl, hT⟩ := hrel
    by_cases hxl : x < 5
    · have ix : (x : Int) < 5 := by omega
      have bx : (0 : Int) ≤ (x : Int) := by omega
      go_wp2_with fail
      go_loopg [8] 5 (fun gk yv wr => ∃ y : Nat, y + gk = 5 ∧ yv = .int .i64 y ∧ Rx (LB (piS s) x y) f g w.heap.size w wr)
      case atStart => exact ⟨0, by omega, rfl, hT⟩
      case round =>
        obtain ⟨y, hy, rfl, hT⟩ := hrel
        by_cases hyl : y < 5
        · have iy : (y : Int) < 5 := by omega
          have by_ : (0 : Int) ≤ (y : Int) := by omega
          obtain ⟨A, hA, hA5⟩ : ∃ A : Nat, ((x : Int) + 3 * (y : Int)) % 5 = (A : Int) ∧ A < 5 := ⟨(x + 3 * y) % 5, by omega, by omega⟩
          have HAe := hide (show A = (x + 3 * y) % 5 by omega)
          have iA : (A : Int) < 5 := by omega
          have bA : (0 : Int) ≤ (A : Int) := by omega
          have hA2 : Int.tmod ((x : Int) + 3 * (y : Int)) 5 = A := by rw [Int.tmod_eq_emod_of_nonneg (by omega)]; exact hA
          have hwA : IntKind.i64.wrap (A : Int) = A := by rw [IntKind.wrap_i64]; omega
          have hw3 : IntKind.i64.wrap (3 * (y : Int)) = 3 * (y : Int) := by rw [IntKind.wrap_i64]; omega
          have hw4 : IntKind.i64.wrap ((x : Int) + 3 * (y : Int)) = (x : Int) + 3 * (y : Int) := by rw [IntKind.wrap_i64]; omega
          obtain ⟨⟨fb, h1, e1⟩, h2, h3⟩ := hT
          have E1 := hide e1
          clear e1
          have g1 : BT 467 wr.drew w.heap.size 1600 fb := RowT.kept h1 (Quiet.below ⟨1, rfl⟩ _)
          have g2 : BT 467 wr.drew g 1600 f := RowT.kept h2 (Quiet.below ⟨1, rfl⟩ _)
          have g3 : Below w.heap.size w wr.drew := h3.trans (Quiet.below ⟨1, rfl⟩ _)
          have hsz : (Sakg.prog.info? 464).map (·.size) = some (bools 64 fun i => f (A * 320 + x * 64 + i)).length := by rw [bools_len]; exact sizeLane
          have hu := Sakg.underlying464
          go_upto_region 7 with fail
          refine wp_region_noPanic ?_
          refine wp_region_held_drew (S := fun w' => w'.rangeAt g (A * 320 + x * 64) (bools 64 fun i => f (A * 320 + x * 64 + i))) (by kernel_rfl) (g2.part (A * 320 + x * 64) 64 (by omega)) (fun hHeld => ?_)
          refine held_takeD 0 (.int .i64 x) (some 11) (by rfl) (by rfl) (by kernel_rfl) (by kernel_rfl) (by kernel_rfl) (fun _ _ _ h => h) (.inl ⟨by rfl, fun _ _ => by rfl⟩) (hHeld) ?_
          simp only [Act.put, List.setIfInBounds_toArray, List.set_cons_zero, List.set_cons_succ]
          refine held_takeD 1 (.int .i64 y) (some 12) (by rfl) (by rfl) (by kernel_rfl) (by kernel_rfl) (by kernel_rfl) (fun _ _ _ h => h) (.inl ⟨by rfl, fun _ _ => by rfl⟩) (hHeld) ?_
          simp only [Act.put, List.setIfInBounds_toArray, List.set_cons_zero, List.set_cons_succ]
          refine held_takeD 2 (.pointer (some ⟨g, 0, none⟩)) (some 13) (by rfl) (by rfl) (by kernel_rfl) (by kernel_rfl) (by kernel_rfl) (fun _ _ _ h => h) (.inl ⟨by rfl, fun _ _ => by rfl⟩) (hHeld) ?_
          simp only [Act.put, List.setIfInBounds_toArray, List.set_cons_zero, List.set_cons_succ]
          refine held_takeD 3 (.int .i64 x) (some 14) (by rfl) (by rfl) (by kernel_rfl) (by kernel_rfl) (by kernel_rfl) (fun _ _ _ h => h) (.inl ⟨by rfl, fun _ _ => by rfl⟩) (hHeld) ?_
          simp only [Act.put, List.setIfInBounds_toArray, List.set_cons_zero, List.set_cons_succ]
          refine held_takeD 4 (.int .i64 y) (some 15) (by rfl) (by rfl) (by kernel_rfl) (by kernel_rfl) (by kernel_rfl) (fun _ _ _ h => h) (.inl ⟨by rfl, fun _ _ => by rfl⟩) (hHeld) ?_
          simp only [Act.put, List.setIfInBounds_toArray, List.set_cons_zero, List.set_cons_succ]
          refine held_takeD 5 (.int .i64 (3 * (y : Int))) (some 16) (by rfl) (by rfl) (by kernel_rfl) (by kernel_rfl) (by kernel_rfl) (fun _ _ _ h => h) (.inl ⟨by rfl, fun _ _ => by go_simp⟩) (hHeld) ?_
          simp only [Act.put, List.setIfInBounds_toArray, List.set_cons_zero, List.set_cons_succ]
          refine held_takeD 6 (.int .i64 ((x : Int) + 3 * (y : Int))) (some 17) (by rfl) (by rfl) (by kernel_rfl) (by kernel_rfl) (by kernel_rfl) (fun _ _ _ h => h) (.inl ⟨by rfl, fun _ _ => by go_simp⟩) (hHeld) ?_
          simp only [Act.put, List.setIfInBounds_toArray, List.set_cons_zero, List.set_cons_succ]
          refine held_takeD 7 (.int .i64 (A : Int)) (some 18) (by rfl) (by rfl) (by kernel_rfl) (by kernel_rfl) (by kernel_rfl) (fun _ _ _ h => h) (.inl ⟨by rfl, fun _ _ => by go_simp⟩) (hHeld) ?_
          simp only [Act.put, List.setIfInBounds_toArray, List.set_cons_zero, List.set_cons_succ]
          refine held_takeD 8 (.int .i64 x) (some 19) (by rfl) (by rfl) (by kernel_rfl) (by kernel_rfl) (by kernel_rfl) (fun _ _ _ h => h) (.inl ⟨by rfl, fun _ _ => by rfl⟩) (hHeld) ?_
          simp only [Act.put, List.setIfInBounds_toArray, List.set_cons_zero, List.set_cons_succ]
          refine held_takeD 9 (.pointer (some ⟨g, 0, none⟩)) (some 20) (by rfl) (by rfl) (by kernel_rfl) (by kernel_rfl) (by kernel_rfl) (fun _ _ _ h => h) (.inl ⟨by rfl, fun _ _ => by go_simp⟩) (hHeld) ?_
          simp only [Act.put, List.setIfInBounds_toArray, List.set_cons_zero, List.set_cons_succ]
          refine held_takeD 10 (.pointer (some ⟨g, A * 320, none⟩)) (some 21) (by rfl) (by rfl) (by kernel_rfl) (by kernel_rfl) (by kernel_rfl) (fun _ _ _ h => h) (.inl ⟨by rfl, fun _ _ => by go_simp⟩) (hHeld) ?_
          simp only [Act.put, List.setIfInBounds_toArray, List.set_cons_zero, List.set_cons_succ]
          refine held_takeD 11 (.pointer (some ⟨g, A * 320 + x * 64, none⟩)) (some 22) (by rfl) (by rfl) (by kernel_rfl) (by kernel_rfl) (by kernel_rfl) (fun _ _ _ h => h) (.inl ⟨by rfl, fun _ _ => by go_simp⟩) (hHeld) ?_
          simp only [Act.put, List.setIfInBounds_toArray, List.set_cons_zero, List.set_cons_succ]
          refine held_takeD 12 (.agg (bools 64 fun i => f (A * 320 + x * 64 + i)).toArray) (some 23) (by rfl) (by rfl) (by kernel_rfl) (by kernel_rfl) (by kernel_rfl) (fun _ _ _ h => h) (yieldsIf_load_mid (by rfl) _ _ rfl _ _ rfl _ _ (fun _ h => h) hu rfl hsz) (hHeld) ?_
          simp only [Act.put, List.setIfInBounds_toArray, List.set_cons_zero, List.set_cons_succ]
          refine held_takeD 13 (.pointer (some ⟨w.heap.size, x * 320, none⟩)) (some 24) (by rfl) (by rfl) (by kernel_rfl) (by kernel_rfl) (by kernel_rfl) (fun _ _ _ h => h) (.inl ⟨by rfl, fun _ _ => by go_simp⟩) (hHeld) ?_
          simp only [Act.put, List.setIfInBounds_toArray, List.set_cons_zero, List.set_cons_succ]
          refine held_takeD 14 (.pointer (some ⟨w.heap.size, x * 320 + y * 64, none⟩)) (some 25) (by rfl) (by rfl) (by kernel_rfl) (by kernel_rfl) (by kernel_rfl) (fun _ _ _ h => h) (.inl ⟨by rfl, fun _ _ => by go_simp⟩) (hHeld) ?_
          simp only [Act.put, List.setIfInBounds_toArray, List.set_cons_zero, List.set_cons_succ]
          refine held_store 15 (by kernel_rfl) rfl rfl (by rfl) 464 (.tmp 25) (.tmp 23) rfl w.heap.size (x * 320 + y * 64) 467 (bools 1600 fb) (bools 64 fun i => f (A * 320 + x * 64 + i)) rfl rfl (BT.row g1) (by rw [bools_len, bools_len]; omega) hsz (bools_one _ _) (fun w2 hr2 ho2 => ?_)
          have r2 : BT 467 w2 g 1600 f := RowT.only g2 ho2 (by omega)
          refine ⟨r2.part (A * 320 + x * 64) 64 (by omega), ?_⟩
          refine wpAnyH_done (by kernel_rfl) ?_ _
          refine NoPanic.normal ?_
          have hfb3 := bools_spl_x 1600 fb (x * 320 + y * 64) 64 (fun i => f (A * 320 + x * 64 + i)) (by omega)
          obtain ⟨fb3, hq3⟩ : ∃ fb3, fb3 = fun j => if x * 320 + y * 64 ≤ j ∧ j < x * 320 + y * 64 + 64 then f (A * 320 + x * 64 + (j - (x * 320 + y * 64))) else fb j := ⟨_, rfl⟩
          rw [← hq3] at hfb3
          have E3 := hide ((unhide E1).pi (unhide HS) hxl hyl (unhide HAe) hq3)
          clear hq3
          have r1 : BT 467 w2 w.heap.size 1600 fb3 := BT.mk (hfb3 ▸ hr2)
          have r3 : Below w.heap.size w w2 := g3.trans (ho2.below _ (Nat.le_refl _))
          clear g1 g2 g3 h1 h2 h3 hr2 ho2 hHeld
          go_wp2
          go_roundg (4 - y)
          case measure => omega
          case rel => exact ⟨y + 1, by omega, rfl, ⟨fb3, r1, unhide E3⟩, r2, r3⟩
        · have dy : decide ((y : Int) < 5) = false := decide_eq_false (by omega)
          go_wp2
          go_roundg (4 - x)
          case measure => omega
          case rel => exact ⟨x + 1, by omega, rfl, hT.to fun fb h => h.col (by omega)⟩
    · have dx : decide ((x : Int) < 5) = false := decide_eq_false (by omega)
      obtain ⟨⟨fb, h1, e1⟩, _, h3⟩ := hT
      have E1 := hide (e1.done (by omega))
      clear e1
      have hsz : (Sakg.prog.info? 467).map (·.size) = some (bools 1600 fb).length := by rw [bools_len]; exact sizeState
      have H1 := hide h1
      clear h1 hT0
      go_wp2_with (first
        | ((with_reducible refine at_load 467 ?_); refine wpList_load_g (by rfl) 467 (.tmp 2) rfl w.heap.size 0 rfl (bools 1600 fb) _ (unhide H1).row.rangeAll Sakg.underlying467 rfl hsz ?_)
        | ((with_reducible refine at_store 467 ?_); refine wpList_store_whole rfl 467 (.tmp 2) (.tmp 28) rfl w.heap.size 467 (bools 1600 fb) (bools 1600 fb) rfl rfl (unhide H1).row rfl hsz (bools_one _ _) ?_; intro w3 hr3 ho3))
      refine bodyPost_ret (results_cell_row rfl _ _ _ _ _ _ _ rfl hr3 Sakg.underlying467 rfl (by simpa using hsz)) rfl ?_
      exact ⟨⟨fb, rfl, unhide E1⟩, h3.trans (ho3.below _ (Nat.le_refl _))⟩



end Go.Proofs.YgcsakGreat
