/-
  the law's program: its bytes.
-/
import Derived.Test.YgcsakGreatPlaC
namespace Go.Proofs.YgcsakGreat
set_option linter.unusedVariables false
set_option linter.unusedSectionVars false
set_option maxRecDepth 100000

theorem drop_pre (P X : List Int) (p i : Nat) (h : P.length = p) : (P ++ X).drop (p + i) = X.drop i := by
  subst h
  rw [List.drop_append, List.drop_of_length_le (by omega), List.nil_append]
  congr 1
  omega
theorem getD_pre (P X : List Int) (p i : Nat) (h : P.length = p) : (P ++ X).getD (p + i) 0 = X.getD i 0 := by
  subst h
  rw [List.getD_eq_getElem?_getD, List.getD_eq_getElem?_getD, List.getElem?_append_right (by omega)]
  congr 2
  omega
/-- the program -/
def aluProg (o : Nat) (a b c : List Int) : List Int := (127 :: c) ++ ((127 :: b) ++ ((127 :: a) ++ ((o : Int) :: [95, 82, 96, 32, 95, 243])))
theorem aluProg_len (o : Nat) (a b c : List Int) (ha : a.length = 32) (hb : b.length = 32) (hc : c.length = 32) : (aluProg o a b c).length = 106 := by simp [aluProg, ha, hb, hc]
section
variable (o : Nat) (a b c : List Int) (ha : a.length = 32) (hb : b.length = 32) (hc : c.length = 32)
include ha hb hc
theorem ap0 : (aluProg o a b c).getD 0 0 = 127 ∧ ((aluProg o a b c).drop (0 + 1)).take 32 = c := by
  unfold aluProg
  refine ⟨rfl, ?_⟩
  rw [List.cons_append, Nat.zero_add, List.drop_succ_cons, List.drop_zero, ← hc, List.take_left]
theorem ap33 : (aluProg o a b c).getD 33 0 = 127 ∧ ((aluProg o a b c).drop (33 + 1)).take 32 = b := by
  unfold aluProg
  constructor
  · rw [getD_pre (127 :: c) _ 33 0 (by simp [hc])]; rfl
  · rw [drop_pre (127 :: c) _ 33 1 (by simp [hc]), List.cons_append, List.drop_succ_cons, List.drop_zero, ← hb, List.take_left]
theorem ap66 : (aluProg o a b c).getD 66 0 = 127 ∧ ((aluProg o a b c).drop (66 + 1)).take 32 = a := by
  unfold aluProg
  constructor
  · rw [getD_pre (127 :: c) _ 33 33 (by simp [hc]), getD_pre (127 :: b) _ 33 0 (by simp [hb])]; rfl
  · rw [drop_pre (127 :: c) _ 33 34 (by simp [hc]), drop_pre (127 :: b) _ 33 1 (by simp [hb]), List.cons_append, List.drop_succ_cons, List.drop_zero, ← ha, List.take_left]
theorem apT (j : Nat) : (aluProg o a b c).getD (99 + j) 0 = ((o : Int) :: [95, 82, 96, 32, 95, 243]).getD j 0 ∧ (aluProg o a b c).drop (99 + j) = ((o : Int) :: [95, 82, 96, 32, 95, 243]).drop j := by
  unfold aluProg
  constructor
  · rw [show 99 + j = 33 + (33 + (33 + j)) by omega, getD_pre (127 :: c) _ 33 _ (by simp [hc]), getD_pre (127 :: b) _ 33 _ (by simp [hb]), getD_pre (127 :: a) _ 33 _ (by simp [ha])]
  · rw [show 99 + j = 33 + (33 + (33 + j)) by omega, drop_pre (127 :: c) _ 33 _ (by simp [hc]), drop_pre (127 :: b) _ 33 _ (by simp [hb]), drop_pre (127 :: a) _ 33 _ (by simp [ha])]
end

theorem bwN_not (a b b' : Nat) : bwN 25 a b = bwN 25 a b' := by
  unfold bwN bwL
  congr 1
theorem aluN_21 (a b c : Nat) : aluN 21 a b c = truthN (decide (a = 0)) := by
  unfold aluN
  iterate 16 rw [if_neg (by omega)]
  rw [if_pos rfl]
theorem aluN_25 (a b c : Nat) : aluN 25 a b c = bwN 25 a b := by
  unfold aluN
  iterate 20 rw [if_neg (by omega)]
  rw [if_pos rfl]
/-- operands that an instruction does not take do not matter -/
theorem aluN_args (o A B C : Nat) (h : aluO o) : aluN o ((argsOf [C, B, A] (takN o)).getD 0 0) ((argsOf [C, B, A] (takN o)).getD 1 0) ((argsOf [C, B, A] (takN o)).getD 2 0) = aluN o A B C := by
  by_cases h3 : o = 8 ∨ o = 9
  · have e : takN o = 3 := by unfold takN; rw [if_pos h3]
    have g0 : (argsOf [C, B, A] 3).getD 0 0 = A := rfl
    have g1 : (argsOf [C, B, A] 3).getD 1 0 = B := rfl
    have g2 : (argsOf [C, B, A] 3).getD 2 0 = C := rfl
    rw [e, g0, g1, g2]
  · by_cases h1 : o = 21 ∨ o = 25
    · have e : takN o = 1 := by unfold takN; rw [if_neg h3, if_pos h1]
      rw [e]
      have g0 : (argsOf [C, B, A] 1).getD 0 0 = A := rfl
      have g1 : (argsOf [C, B, A] 1).getD 1 0 = 0 := rfl
      have g2 : (argsOf [C, B, A] 1).getD 2 0 = 0 := rfl
      rw [g0, g1, g2]
      rcases h1 with rfl | rfl
      · rw [aluN_21, aluN_21]
      · rw [aluN_25, aluN_25]
        exact bwN_not A 0 B
    · have e : takN o = 2 := by unfold takN; unfold aluO at h; rw [if_neg h3, if_neg h1, if_neg (by omega)]
      have g0 : (argsOf [C, B, A] 2).getD 0 0 = A := rfl
      have g1 : (argsOf [C, B, A] 2).getD 1 0 = B := rfl
      have g2 : (argsOf [C, B, A] 2).getD 2 0 = 0 := rfl
      rw [e, g0, g1, g2]
      unfold aluN
      have h8 : ¬ o = 8 := by omega
      have h9 : ¬ o = 9 := by omega
      simp only [h8, h9, if_false]

end Go.Proofs.YgcsakGreat
