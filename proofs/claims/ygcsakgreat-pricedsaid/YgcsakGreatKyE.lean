/-
  kmodel, exactly: chi, iota0.
-/
import Derived.Test.YgcsakGreatKyD
import Derived.Test.YgcsakGreatKmF
import Derived.Laws.Bits64b
namespace Go.Proofs.YgcsakGreat
set_option linter.unusedVariables false
set_option linter.unusedSimpArgs false
set_option maxRecDepth 100000
open Go.RowKit

def chiS (s : KS) : KS := fun P Q Z => s P Q Z != (s ((P + 2) % 5) Q Z && !s ((P + 1) % 5) Q Z)
/-- the places ahead of x, y, z are laid -/
def LZ (s : KS) (x y z : Nat) (fb : Nat → Bool) : Prop := ∀ P Q Z, P < 5 → Q < 5 → Z < 64 → (P < x ∨ (P = x ∧ (Q < y ∨ (Q = y ∧ Z < z)))) → fb (P * 320 + Q * 64 + Z) = s P Q Z
theorem LZ.start (s : KS) (fb : Nat → Bool) : LZ s 0 0 0 fb := fun P Q Z _ _ _ h => absurd h (by omega)
theorem LZ.row {s : KS} {x y z : Nat} {fb : Nat → Bool} (h : LZ s x y z fb) (hz : 64 ≤ z) : LZ s x (y + 1) 0 fb := fun P Q Z hP hQ hZ hh => h P Q Z hP hQ hZ (by omega)
theorem LZ.col {s : KS} {x y : Nat} {fb : Nat → Bool} (h : LZ s x y 0 fb) (hy : 5 ≤ y) : LZ s (x + 1) 0 0 fb := fun P Q Z hP hQ hZ hh => h P Q Z hP hQ hZ (by omega)
theorem LZ.done {s : KS} {x : Nat} {fb : Nat → Bool} (h : LZ s x 0 0 fb) (hx : 5 ≤ x) : St fb s := fun P Q Z hP hQ hZ => h P Q Z hP hQ hZ (by omega)
theorem bit_gt (a b c : Bool) : (!(a == decide (bitI b < bitI c))) = (a != (c && !b)) := by cases a <;> cases b <;> cases c <;> rfl
theorem LZ.chi {s : KS} {x y z N L : Nat} {f fb : Nat → Bool} (h : LZ (chiS s) x y z fb) (hs : St f s) (hx : x < 5) (hy : y < 5) (hz : z < 64) (hN : N = (x + 1) % 5) (hL : L = (x + 2) % 5) :
    LZ (chiS s) x y (z + 1) (fun k => if k = x * 320 + y * 64 + z then !(f (x * 320 + y * 64 + z) == decide (bitI (f (N * 320 + y * 64 + z)) < bitI (f (L * 320 + y * 64 + z)))) else fb k) := by
  intro P Q Z hP hQ hZ hh
  by_cases hk : P * 320 + Q * 64 + Z = x * 320 + y * 64 + z
  · obtain rfl : P = x := by omega
    obtain rfl : Q = y := by omega
    obtain rfl : Z = z := by omega
    show (if P * 320 + Q * 64 + Z = P * 320 + Q * 64 + Z then !(f (P * 320 + Q * 64 + Z) == decide (bitI (f (N * 320 + Q * 64 + Z)) < bitI (f (L * 320 + Q * 64 + Z)))) else fb (P * 320 + Q * 64 + Z)) = (s P Q Z != (s ((P + 2) % 5) Q Z && !s ((P + 1) % 5) Q Z))
    rw [if_pos rfl, bit_gt, hs P Q Z hP hQ hZ, hs N Q Z (by omega) hQ hZ, hs L Q Z (by omega) hQ hZ, hN, hL]
  · show (if P * 320 + Q * 64 + Z = x * 320 + y * 64 + z then _ else fb (P * 320 + Q * 64 + Z)) = _
    rw [if_neg hk]
    exact h P Q Z hP hQ hZ (by omega)

set_option maxHeartbeats 8000000 in
theorem chi_x (g : Nat) (f : Nat → Bool) (s : KS) (w : World) (h : BT 467 w g 1600 f) (hs : St f s) :
    Calls Sakg.prog 436 #[.pointer (some ⟨g, 0, none⟩)] w fun e w' => (∃ f', e = .returned (.agg (bools 1600 f').toArray) ∧ St f' (chiS s)) ∧ Below w.heap.size w w' := by
  have hlt : g < w.heap.size := RowT.lt h
  have hne : ¬ w.heap.size = g := by omega
  have hne2 : ¬ g = w.heap.size := by omega
  have hT0 : Rx (LZ (chiS s) 0 0 0) f g w.heap.size w (w.alloc (.cells (bools 1600 fun _ => false).toArray 467)) := ⟨⟨_, RowT.new _ _ _, LZ.start _ _⟩, RowT.alloc h _, (Below.refl _ _).alloc (Nat.le_refl _) _⟩
  have HS := hide hs
  clear h hs
  go_enter Sakg.func436, Sakg.ntmps436
  go_upto_region 1 with ((with_reducible refine at_alloc 467 ?_); refine wpList_alloc_g (by rfl) 467 rfl _ _ infoState (bools_len _ _) ?_)
  generalize (w.alloc (.cells (bools 1600 fun _ => false).toArray 467)) = W at *
  go_wp2_with fail
  go_loopg [10] 5 (fun gk xv wr => ∃ x : Nat, x + gk = 5 ∧ xv = .int .i64 x ∧ Rx (LZ (chiS s) x 0 0) f g w.heap.size w wr)
  case atStart => exact ⟨0, by omega, rfl, hT0⟩
  case round =>
    obtain ⟨x, hx, rfl, hT⟩ := hrel
    by_cases hxl : x < 5
    · have ix : (x : Int) < 5 := by omega
      have bx : (0 : Int) ≤ (x : Int) := by omega
      go_wp2_with fail
      go_loopg [13] 5 (fun gk yv wr => ∃ y : Nat, y + gk = 5 ∧ yv = .int .i64 y ∧ Rx (LZ (chiS s) x y 0) f g w.heap.size w wr)
      case atStart => exact ⟨0, by omega, rfl, hT⟩
      case round =>
        obtain ⟨y, hy, rfl, hT⟩ := hrel
        by_cases hyl : y < 5
        · have iy : (y : Int) < 5 := by omega
          have by_ : (0 : Int) ≤ (y : Int) := by omega
          obtain ⟨N, hN, hN5⟩ : ∃ A : Nat, ((x : Int) + 1) % 5 = (A : Int) ∧ A < 5 := ⟨(x + 1) % 5, by omega, by omega⟩
          obtain ⟨L, hL, hL5⟩ : ∃ A : Nat, ((x : Int) + 2) % 5 = (A : Int) ∧ A < 5 := ⟨(x + 2) % 5, by omega, by omega⟩
          have HNe := hide (show N = (x + 1) % 5 by omega)
          have HLe := hide (show L = (x + 2) % 5 by omega)
          have iN : (N : Int) < 5 := by omega
          have iL : (L : Int) < 5 := by omega
          have bN : (0 : Int) ≤ (N : Int) := by omega
          have bL : (0 : Int) ≤ (L : Int) := by omega
          go_wp2_with fail
          go_loopg [42] 64 (fun gk zv wr => ∃ z : Nat, z + gk = 64 ∧ zv = .int .i64 z ∧ Rx (LZ (chiS s) x y z) f g w.heap.size w wr)
          case atStart => exact ⟨0, by omega, rfl, hT⟩
          case round =>
            obtain ⟨z, hz, rfl, hT⟩ := hrel
            clear hN hL
            by_cases hzl : z < 64
            · have iz : (z : Int) < 64 := by omega
              have bz : (0 : Int) ≤ (z : Int) := by omega
              obtain ⟨⟨fb, h1, e1⟩, h2, h3⟩ := hT
              have E1 := hide (e1.chi (unhide HS) hxl hyl hzl (unhide HNe) (unhide HLe))
              clear e1
              have c1 := h2.cell (x * 320 + y * 64 + z) (by omega)
              have c2 := h2.cell (N * 320 + y * 64 + z) (by omega)
              have c3 := h2.cell (L * 320 + y * 64 + z) (by omega)
              have c4 := h1.cell (x * 320 + y * 64 + z) (by omega)
              have z4 := h1.froz (x * 320 + y * 64 + z)
              have H1 := hide h1
              have H2 := hide h2
              clear h1 h2 hT0
              go_upto_region 14 with fail
              go_region_held3 (fun w' => w'.cell? ⟨g, x * 320 + y * 64 + z, none⟩ = some (.bool (f (x * 320 + y * 64 + z))) ∧ w'.cell? ⟨g, N * 320 + y * 64 + z, none⟩ = some (.bool (f (N * 320 + y * 64 + z))) ∧ w'.cell? ⟨g, L * 320 + y * 64 + z, none⟩ = some (.bool (f (L * 320 + y * 64 + z)))) (go_keep)
                (first
                  | (go_at_call 492; refine (bit_any _ _).mono ?_; rintro e w' ⟨rfl, rfl⟩))
              go_wp2
              go_roundg (63 - z)
              case measure => omega
              case rel =>
                refine ⟨z + 1, by omega, rfl, Rx.quiet (wr := wr.setCell ⟨w.heap.size, x * 320 + y * 64 + z, none⟩ _) ⟨⟨_, (unhide H1).set _ _, unhide E1⟩, RowT.only (unhide H2) ((Only.refl _ _).setCell _ _) (by omega), h3.trans (((Only.refl w.heap.size wr).setCell _ _).below _ (Nat.le_refl _))⟩ ⟨1, rfl⟩⟩
            · have dz : decide ((z : Int) < 64) = false := decide_eq_false (by omega)
              go_wp2
              go_roundg (4 - y)
              case measure => omega
              case rel => exact ⟨y + 1, by omega, rfl, hT.to fun fb h => h.row (by omega)⟩
        · have dy : decide ((y : Int) < 5) = false := decide_eq_false (by omega)
          go_wp2
          go_roundg (4 - x)
          case measure => omega
          case rel => exact ⟨x + 1, by omega, rfl, hT.to fun fb h => h.col (by omega)⟩
    · have dx : decide ((x : Int) < 5) = false := decide_eq_false (by omega)
      obtain ⟨⟨fb, h1, e1⟩, _, h3⟩ := hT
      have E1 := hide (e1.done (by omega))
      clear e1
      have hsz : (Sakg.prog.info? 467).map (·.size) = some (bools 1600 fb).length := by rw [bools_len]; exact sizeState
      have H1 := hide h1
      clear h1 hT0
      go_wp2_with (first
        | ((with_reducible refine at_load 467 ?_); refine wpList_load_g (by rfl) 467 (.tmp 2) rfl w.heap.size 0 rfl (bools 1600 fb) _ (unhide H1).row.rangeAll Sakg.underlying467 rfl hsz ?_)
        | ((with_reducible refine at_store 467 ?_); refine wpList_store_whole rfl 467 (.tmp 2) (.tmp 71) rfl w.heap.size 467 (bools 1600 fb) (bools 1600 fb) rfl rfl (unhide H1).row rfl hsz (bools_one _ _) ?_; intro w3 hr3 ho3))
      refine bodyPost_ret (results_cell_row rfl _ _ _ _ _ _ _ rfl hr3 Sakg.underlying467 rfl (by simpa using hsz)) rfl ?_
      exact ⟨⟨fb, rfl, unhide E1⟩, h3.trans (ho3.below _ (Nat.le_refl _))⟩

def iotaS (s : KS) (c : Nat) : KS := fun P Q Z => if P = 0 ∧ Q = 0 then s 0 0 Z != c.testBit Z else s P Q Z
def IZ (f : Nat → Bool) (c z : Nat) (f' : Nat → Bool) : Prop := ∀ k, k < 1600 → f' k = if k < z then f k != c.testBit k else f k
theorem IZ.start (f : Nat → Bool) (c : Nat) : IZ f c 0 f := fun k hk => by rw [if_neg (by omega)]
theorem bit_test (c z : Nat) (hc : c < 18446744073709551616) : (bits .and .u64 ((c : Int) / 2 ^ z) 1 == 1) = c.testBit z := by
  have e : ((c : Int) / 2 ^ z) = ((c / 2 ^ z : Nat) : Int) := by rw [Int.natCast_ediv, Int.natCast_pow]; rfl
  have h := bits_and_u64_nat (c / 2 ^ z) 1 (Nat.lt_of_le_of_lt (Nat.div_le_self _ _) hc) (by decide)
  rw [e, show (1 : Int) = ((1 : Nat) : Int) from rfl, h, Nat.and_one_is_mod, Nat.testBit_eq_decide_div_mod_eq]
  have h2 := Nat.mod_two_eq_zero_or_one (c / 2 ^ z)
  rcases h2 with h2 | h2 <;> rw [h2] <;> rfl
theorem IZ.step {f f' : Nat → Bool} {c z : Nat} (h : IZ f c z f') (hz : z < 64) (hc : c < 18446744073709551616) : IZ f c (z + 1) (fun k => if k = z then !f' z == (bits .and .u64 ((c : Int) / 2 ^ z) 1 == 1) else f' k) := by
  intro k hk
  show (if k = z then !f' z == (bits .and .u64 ((c : Int) / 2 ^ z) 1 == 1) else f' k) = _
  by_cases h1 : k = z
  · subst h1
    rw [if_pos rfl, bit_test c k hc, h k hk, if_neg (Nat.lt_irrefl _), if_pos (Nat.lt_succ_self _)]
    rfl
  · rw [if_neg h1, h k hk]
    by_cases h2 : k < z
    · rw [if_pos h2, if_pos (by omega)]
    · rw [if_neg h2, if_neg (by omega)]
theorem IZ.done {f f' : Nat → Bool} {c z : Nat} {s : KS} (h : IZ f c z f') (hs : St f s) (hz : z = 64) : St f' (iotaS s c) := by
  subst hz
  intro P Q Z hP hQ hZ
  rw [h _ (by omega), hs P Q Z hP hQ hZ]
  unfold iotaS
  by_cases h0 : P = 0 ∧ Q = 0
  · obtain ⟨rfl, rfl⟩ := h0
    rw [if_pos (by omega), if_pos ⟨rfl, rfl⟩]
    simp
  · rw [if_neg (by omega), if_neg h0]
set_option maxHeartbeats 8000000 in
theorem iota0_x (g : Nat) (f : Nat → Bool) (s : KS) (i : Nat) (w : World) (h : BT 467 w g 1600 f) (hs : St f s) (hi : i < 24) :
    Calls Sakg.prog 437 #[.pointer (some ⟨g, 0, none⟩), .int .u8 i] w fun e w' => e = .returned (.tuple #[]) ∧ (∃ f', BT 467 w' g 1600 f' ∧ St f' (iotaS s (rcN i))) ∧ Chg g w w' := by
  have hlt : g < w.heap.size := RowT.lt h
  have H := hide h
  have HS := hide hs
  have HCX := hide (const_x i w hi)
  have hcl : rcN i < 18446744073709551616 := cN_lt i 7 (by omega)
  generalize rcN i = cc at HCX hcl ⊢
  clear h hs
  go_enter Sakg.func437, Sakg.ntmps437
  go_wp2_with fail
  refine (unhide HCX).mono ?_
  rintro e w1 ⟨rfl, hb1⟩
  have hr1 : BT 467 w1 g 1600 f := RowT.kept (unhide H) hb1
  go_wp2_with fail
  go_loopg [8] 64 (fun gk zv wr => ∃ z : Nat, z + gk = 64 ∧ zv = .int .i64 z ∧ (∃ f', BT 467 wr g 1600 f' ∧ IZ f cc z f') ∧ Chg g w wr)
  case atStart => exact ⟨0, by omega, rfl, ⟨f, hr1, IZ.start f cc⟩, Chg.of hb1⟩
  case round =>
    obtain ⟨z, hz, rfl, ⟨f1, h1, e1⟩, hc⟩ := hrel
    have E1 := hide e1
    clear e1
    by_cases hzl : z < 64
    · have iz : (z : Int) < 64 := by omega
      have bz : (0 : Int) ≤ (z : Int) := by omega
      have c1 := h1.cell z (by omega)
      have z1 := h1.froz z
      have H1 := hide h1
      clear h1 hr1
      go_upto_region 4 with fail
      rw [shade_of 19]
      go_region_held3 (fun _ => True) (trivial) (fail)
      go_wp2
      go_roundg (63 - z)
      case measure => omega
      case rel => refine ⟨z + 1, by omega, rfl, ⟨_, RowT.kept ((unhide H1).set z _) (Quiet.below ⟨1, rfl⟩ _), ?_⟩, (hc.trans (Chg.ofOnly ((Only.refl g wr).setCell z _))).trans (Chg.of (Quiet.below ⟨1, rfl⟩ _))⟩; exact (unhide E1).step hzl hcl
    · have dz : decide ((z : Int) < 64) = false := decide_eq_false (by omega)
      go_wp2
      exact bodyPost_done rfl rfl ⟨rfl, ⟨f1, h1, (unhide E1).done (unhide HS) (by omega)⟩, hc⟩

end Go.Proofs.YgcsakGreat
