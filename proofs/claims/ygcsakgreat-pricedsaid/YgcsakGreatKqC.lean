/-
  yp: plain at any opcode of its classes; what the operands are worth once they are paid for.
-/
import Derived.Test.YgcsakGreatKqB
import Derived.Test.YgcsakGreatKjC
import Derived.Test.YgcsakGreatKjE
import Derived.Test.YgcsakGreatKjF
namespace Go.Proofs.YgcsakGreat
set_option linter.unusedVariables false
set_option linter.unusedSimpArgs false
set_option maxRecDepth 100000
open Go.RowKit

theorem growN_ge (ml t : Nat) : t ≤ growN ml t := by
  unfold growN
  split <;> omega
theorem endN_ge (m n : Nat) : n ≤ endN m n := by unfold endN; split <;> omega
/-- the operand that says how many bytes is reached -/
theorem reachGe_1 {p : Nat} {s : List Nat} (h : p = 32 ∨ p = 243 ∨ p = 253 ∨ (160 ≤ p ∧ p ≤ 164)) : argN s 1 ≤ reachA p s := by
  unfold reachA
  rw [if_pos h]
  exact endN_ge _ _
theorem reachGe_2 {p : Nat} {s : List Nat} (h : p = 55 ∨ p = 57 ∨ p = 62 ∨ p = 94) : argN s 2 ≤ reachA p s := by
  unfold reachA
  rw [if_neg (by omega)]
  by_cases h1 : p = 94
  · subst h1
    rw [if_neg (by omega), if_neg (by omega), if_neg (by omega), if_neg (by omega), if_pos rfl]
    have := endN_ge (argN s 0) (argN s 2)
    omega
  · rw [if_pos (by omega)]
    exact endN_ge _ _
theorem reachGe_3 {s : List Nat} : argN s 3 ≤ reachA 60 s := by
  unfold reachA
  rw [if_neg (by omega), if_neg (by omega), if_pos rfl]
  exact endN_ge _ _
theorem reach_in {p : Nat} {s : List Nat} (h : p = 241 ∨ p = 242 ∨ p = 244 ∨ p = 250) : argN s (takA p - 3) ≤ reachA p s := by
  rcases h with rfl | rfl | rfl | rfl
  · have := endN_ge (argN s 3) (argN s 4)
    show argN s 4 ≤ _
    unfold reachA
    simp only [reduceIte, Nat.reduceEqDiff, Nat.reduceLeDiff, or_self, or_false, false_or, and_self, and_false, false_and]
    omega
  · have := endN_ge (argN s 3) (argN s 4)
    show argN s 4 ≤ _
    unfold reachA
    simp only [reduceIte, Nat.reduceEqDiff, Nat.reduceLeDiff, or_self, or_false, false_or, and_self, and_false, false_and]
    omega
  · have := endN_ge (argN s 2) (argN s 3)
    show argN s 3 ≤ _
    unfold reachA
    simp only [reduceIte, Nat.reduceEqDiff, Nat.reduceLeDiff, or_self, or_false, false_or, and_self, and_false, false_and]
    omega
  · have := endN_ge (argN s 2) (argN s 3)
    show argN s 3 ≤ _
    unfold reachA
    simp only [reduceIte, Nat.reduceEqDiff, Nat.reduceLeDiff, or_self, or_false, false_or, and_self, and_false, false_and]
    omega
/-- every known opcode has its class -/
theorem classes : ∀ p, p ≤ 255 → famA p ≠ 0 → p ≠ 0 → p ≠ 243 → p ≠ 253 → p ≠ 255 → famA p ≠ 16 → (valO p ∧ givA p = 1) ∨ effO p ∨ p = 86 ∨ (128 ≤ p ∧ p ≤ 143) ∨ (144 ≤ p ∧ p ≤ 159) := by
  have h : ∀ p : Fin 256, famA p.val ≠ 0 → p.val ≠ 0 → p.val ≠ 243 → p.val ≠ 253 → p.val ≠ 255 → famA p.val ≠ 16 → (valO p.val ∧ givA p.val = 1) ∨ effO p.val ∨ p.val = 86 ∨ (128 ≤ p.val ∧ p.val ≤ 143) ∨ (144 ≤ p.val ∧ p.val ≤ 159) := by
    unfold valO effO
    decide +kernel
  exact fun p hp => h ⟨p, by omega⟩
theorem enterO : ∀ p, p ≤ 255 → famA p = 16 → p ≠ 255 → p = 240 ∨ p = 245 ∨ p = 241 ∨ p = 242 ∨ p = 244 ∨ p = 250 := by
  have h : ∀ p : Fin 256, famA p.val = 16 → p.val ≠ 255 → p.val = 240 ∨ p.val = 245 ∨ p.val = 241 ∨ p.val = 242 ∨ p.val = 244 ∨ p.val = 250 := by decide +kernel
  exact fun p hp => h ⟨p, by omega⟩
instance (p : Nat) : Decidable (growO p) := by unfold growO; infer_instance
/-- how much the world may grow -/
def plaY (p : Nat) : Nat := if growO p then 32500 else 0
section
variable {G : Nat → Prop} {bw gf : Nat} {cs fr : List Value} {d : WD} {f : FD} {r : List FD} {x : XD} {w : World} {B : Nat} {fl : FD}
theorem PlaK.mono {p y y' : Nat} {e : Ending} {w' : World} (h : PlaK G bw gf fr B d f r x fl p y w e w') (hy : y ≤ y') : PlaK G bw gf fr B d f r x fl p y' w e w' := by
  obtain ⟨h1, G', cs', h2, h3, h4, h5⟩ := h
  refine ⟨h1, G', cs', h2, h3, h4, ?_⟩
  rcases h5 with ⟨fr', d', v, pc', a1, a2, a3, a4⟩ | h5
  · exact .inl ⟨fr', d', v, pc', a1, a2, a3.mono hy, a4⟩
  · exact .inr h5
theorem valY_le (p : Nat) : valY p ≤ plaY p := by
  unfold valY plaY
  by_cases h : p = 49 ∨ p = 59 ∨ p = 63 ∨ p = 84
  · have hg : growO p := by unfold growO; omega
    rw [if_pos h, if_pos hg]; omega
  · rw [if_neg h]; omega
theorem effY_le (p : Nat) (hp : effO p) : effY p ≤ plaY p := by
  unfold effO at hp
  unfold effY plaY
  by_cases h : p = 85
  · have hg : growO p := by unfold growO; omega
    rw [if_pos h, if_pos hg]; omega
  · rw [if_neg h]
    by_cases h2 : p = 60 ∨ p = 93 ∨ 160 ≤ p
    · have hg : growO p := by unfold growO; omega
      rw [if_pos h2, if_pos hg]; omega
    · rw [if_neg h2]; omega
theorem plain_any (p : Nat) (hp : p ≤ 255) (hc : (valO p ∧ givA p = 1) ∨ effO p ∨ p = 86 ∨ (128 ≤ p ∧ p ≤ 143) ∨ (144 ≤ p ∧ p ≤ 159)) (h : SR G bw gf cs fr d (f :: r) x w) (htk : takA p ≤ f.stk.length) (hx : XB x) (hg : Good B d) (hf : AnyF f) (hml : f.ml ≤ 1000000) (hgas : f.gas < P256) (hwt : wt d + 40000 ≤ 2250000000) (hfl : (f :: r).getLast? = some fl) (hre : reachA p f.stk ≤ 1000000) (hlive : Live d.accts f.self) :
    Calls Sakg.prog 122 #[.pointer (some ⟨bw, 0, none⟩), .pointer (some ⟨gf, 60 * r.length, none⟩), .int .u8 p] w (PlaK G bw gf fr B d f r x fl p (plaY p) w) := by
  have hpc : f.pc < P256 + 34 := by have := hf.pc; omega
  rcases hc with ⟨h1, h2⟩ | h1 | h1 | ⟨h1, h2⟩ | ⟨h1, h2⟩
  · refine (plain_value p hp h hf.slen htk hpc h1 h2 hx hg hf hml hgas hwt hf.stk (fun h32 => ?_)).mono fun e w' hk => hk.mono (valY_le p)
    subst h32
    rw [argsK_get _ _ _ (by decide)]
    have := reachGe_1 (s := f.stk) (p := 32) (by omega)
    omega
  · by_cases h87 : p = 87
    · by_cases hj : argN f.stk 1 = 0
      · exact (plain_87z p h87 h hf.slen htk hpc hx hg hf hml hwt hf.stk hfl hj).mono fun e w' hk => hk.mono (effY_le p h1)
      · subst h87
        exact (plain_87 h hf.slen htk hpc hg hf.stk hj).mono fun e w' hk => hk.mono (Nat.zero_le _)
    · refine (plain_effect p h1 h87 h hf.slen htk hpc hx hg hf hml hwt hf.stk hfl (fun hq => ?_) (fun hq => ?_) (fun hq => ?_) (fun _ => hlive)).mono fun e w' hk => hk.mono (effY_le p h1)
      · have h3 : 2 < takA p := by rcases hq with rfl | rfl | rfl | rfl <;> decide
        rw [argsK_get _ _ _ h3]
        have := reachGe_2 (s := f.stk) hq
        omega
      · subst hq
        rw [argsK_get _ _ _ (by decide)]
        have := reachGe_3 (s := f.stk)
        omega
      · have h3 : takA p = p - 158 := by
          have hh : ∀ q : Fin 256, 160 ≤ q.val → q.val ≤ 164 → takA q.val = q.val - 158 := by decide +kernel
          exact hh ⟨p, by omega⟩ hq.1 hq.2
        refine ⟨h3, ?_⟩
        rw [argsK_get _ _ _ (by omega)]
        have := reachGe_1 (s := f.stk) (p := p) (by omega)
        omega
  · subst h1
    exact (plain_86 h hf.slen htk hpc hg hf.stk).mono fun e w' hk => hk.mono (Nat.zero_le _)
  · exact (plain_dup p h1 h2 h hf.slen htk hpc hg hf.stk).mono fun e w' hk => hk.mono (Nat.zero_le _)
  · exact (plain_swap p h1 h2 h hf.slen htk hpc hg hf.stk).mono fun e w' hk => hk.mono (Nat.zero_le _)
end

end Go.Proofs.YgcsakGreat
