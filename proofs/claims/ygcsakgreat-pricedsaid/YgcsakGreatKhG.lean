/-
  yp: value and effect at any opcode that is theirs.
-/
import Derived.Test.YgcsakGreatKhF
namespace Go.Proofs.YgcsakGreat
set_option linter.unusedVariables false
set_option maxRecDepth 100000
open Go.RowKit

theorem ValR.mono {G : Nat → Prop} {bw gf : Nat} {fr : List Value} {B : Nat} {d : WD} {fs : List FD} {x : XD} {y y' : Nat} {w : World} {e : Ending} {w' : World} (h : ValR G bw gf fr B d fs x y w e w') (hy : y ≤ y') : ValR G bw gf fr B d fs x y' w e w' := by
  obtain ⟨A, k, c, n, cs', d', h1, h2, h3, h4, h5, h6⟩ := h
  exact ⟨A, k, c, n, cs', d', h1, h2, h3, h4, h5.mono hy, h6⟩
theorem EffR.mono {G : Nat → Prop} {bw gf : Nat} {fr : List Value} {B : Nat} {d : WD} {fs : List FD} {x : XD} {y y' : Nat} {w : World} {e : Ending} {w' : World} (h : EffR G bw gf fr B d fs x y w e w') (hy : y ≤ y') : EffR G bw gf fr B d fs x y' w e w' := by
  obtain ⟨b, G', cs', d', h1, h2, h3, h4, h5⟩ := h
  exact ⟨b, G', cs', d', h1, h2, h3, h4.mono hy, h5⟩
/-- the opcodes whose value is pushed -/
def valO (p : Nat) : Prop := (1 ≤ p ∧ p ≤ 11) ∨ (16 ≤ p ∧ p ≤ 29) ∨ p = 32 ∨ (48 ≤ p ∧ p ≤ 54) ∨ p = 56 ∨ (58 ≤ p ∧ p ≤ 59) ∨ p = 61 ∨ (63 ≤ p ∧ p ≤ 72) ∨ p = 81 ∨ p = 84 ∨ (88 ≤ p ∧ p ≤ 90) ∨ p = 92 ∨ (95 ≤ p ∧ p ≤ 127)
/-- by how much the world may grow -/
def valY (p : Nat) : Nat := if p = 49 ∨ p = 59 ∨ p = 63 ∨ p = 84 then 2500 else 0
def effO (p : Nat) : Prop := p = 55 ∨ p = 57 ∨ p = 60 ∨ p = 62 ∨ p = 80 ∨ p = 82 ∨ p = 83 ∨ p = 85 ∨ p = 87 ∨ p = 91 ∨ p = 93 ∨ p = 94 ∨ (160 ≤ p ∧ p ≤ 164)
def effY (p : Nat) : Nat := if p = 85 then 32500 else if p = 60 ∨ p = 93 ∨ 160 ≤ p then 2500 else 0
section
variable {G : Nat → Prop} {bw gf : Nat} {cs fr : List Value} {d : WD} {f : FD} {r : List FD} {x : XD} {w : World} {B : Nat}
theorem value_any (p : Nat) (hp : valO p) (h : SR G bw gf cs fr d (f :: r) x w) (hx : XB x) (hg : Good B d) (hf : AnyF f) (hml : f.ml ≤ 1000000) (hgas : f.gas < P256) (hwt : wt d + 40000 ≤ 2250000000) (ao : Option Addr) (l c : Nat) (xs : List Nat) (hA : SStk G w ao l c xs) (hl : l ≤ 100) (ha : ∀ i, xs.getD i 0 < P256) (hk : p = 32 → xs.getD 1 0 ≤ 1000000) :
    Calls Sakg.prog 217 #[.pointer (some ⟨bw, 0, none⟩), .pointer (some ⟨gf, 60 * r.length, none⟩), .int .u8 p, .slice ao l c] w (ValR G bw gf fr B d (f :: r) x (valY p) w) := by
  by_cases c1 : 1 ≤ p ∧ p ≤ 11
  · exact (valueK_alu1 p c1.1 c1.2 h hx hg hf hml hgas hwt ao l c xs hA hl ha).mono fun e w' h => h.mono (Nat.zero_le _)
  by_cases c2 : 16 ≤ p ∧ p ≤ 29
  · exact (valueK_alu16 p c2.1 c2.2 h hx hg hf hml hgas hwt ao l c xs hA hl ha).mono fun e w' h => h.mono (Nat.zero_le _)
  by_cases c3 : 95 ≤ p ∧ p ≤ 127
  · exact (valueK_push p c3.1 c3.2 h hx hg hf hml hgas hwt ao l c xs hA hl ha).mono fun e w' h => h.mono (Nat.zero_le _)
  by_cases c4 : 64 ≤ p ∧ p ≤ 70
  · exact (valueK_blk64 p c4.1 c4.2 h hx hg hf hml hgas hwt ao l c xs hA hl ha).mono fun e w' h => h.mono (Nat.zero_le _)
  by_cases c5 : p = 32
  · subst c5
    exact (valueK_32 h hx hg hf hml hgas hwt ao l c xs hA hl ha (hk rfl)).mono fun e w' h => h.mono (Nat.zero_le _)
  by_cases c6 : p = 72
  · subst c6
    exact (valueK_blk72 h hx hg hf hml hgas hwt ao l c xs hA hl ha).mono fun e w' h => h.mono (Nat.zero_le _)
  by_cases d48 : p = 48
  · subst d48
    exact (valueK_48 h hx hg hf hml hgas hwt ao l c xs hA hl ha).mono fun e w' h => h.mono (by decide)
  by_cases d49 : p = 49
  · subst d49
    exact (valueK_49 h hx hg hf hml hgas hwt ao l c xs hA hl ha).mono fun e w' h => h.mono (by decide)
  by_cases d50 : p = 50
  · subst d50
    exact (valueK_50 h hx hg hf hml hgas hwt ao l c xs hA hl ha).mono fun e w' h => h.mono (by decide)
  by_cases d51 : p = 51
  · subst d51
    exact (valueK_51 h hx hg hf hml hgas hwt ao l c xs hA hl ha).mono fun e w' h => h.mono (by decide)
  by_cases d52 : p = 52
  · subst d52
    exact (valueK_52 h hx hg hf hml hgas hwt ao l c xs hA hl ha).mono fun e w' h => h.mono (by decide)
  by_cases d53 : p = 53
  · subst d53
    exact (valueK_53 h hx hg hf hml hgas hwt ao l c xs hA hl ha).mono fun e w' h => h.mono (by decide)
  by_cases d54 : p = 54
  · subst d54
    exact (valueK_54 h hx hg hf hml hgas hwt ao l c xs hA hl ha).mono fun e w' h => h.mono (by decide)
  by_cases d56 : p = 56
  · subst d56
    exact (valueK_56 h hx hg hf hml hgas hwt ao l c xs hA hl ha).mono fun e w' h => h.mono (by decide)
  by_cases d58 : p = 58
  · subst d58
    exact (valueK_58 h hx hg hf hml hgas hwt ao l c xs hA hl ha).mono fun e w' h => h.mono (by decide)
  by_cases d59 : p = 59
  · subst d59
    exact (valueK_59 h hx hg hf hml hgas hwt ao l c xs hA hl ha).mono fun e w' h => h.mono (by decide)
  by_cases d61 : p = 61
  · subst d61
    exact (valueK_61 h hx hg hf hml hgas hwt ao l c xs hA hl ha).mono fun e w' h => h.mono (by decide)
  by_cases d63 : p = 63
  · subst d63
    exact (valueK_63 h hx hg hf hml hgas hwt ao l c xs hA hl ha).mono fun e w' h => h.mono (by decide)
  by_cases d71 : p = 71
  · subst d71
    exact (valueK_71 h hx hg hf hml hgas hwt ao l c xs hA hl ha).mono fun e w' h => h.mono (by decide)
  by_cases d81 : p = 81
  · subst d81
    exact (valueK_81 h hx hg hf hml hgas hwt ao l c xs hA hl ha).mono fun e w' h => h.mono (by decide)
  by_cases d84 : p = 84
  · subst d84
    exact (valueK_84 h hx hg hf hml hgas hwt ao l c xs hA hl ha).mono fun e w' h => h.mono (by decide)
  by_cases d88 : p = 88
  · subst d88
    exact (valueK_88 h hx hg hf hml hgas hwt ao l c xs hA hl ha).mono fun e w' h => h.mono (by decide)
  by_cases d89 : p = 89
  · subst d89
    exact (valueK_89 h hx hg hf hml hgas hwt ao l c xs hA hl ha).mono fun e w' h => h.mono (by decide)
  by_cases d90 : p = 90
  · subst d90
    exact (valueK_90 h hx hg hf hml hgas hwt ao l c xs hA hl ha).mono fun e w' h => h.mono (by decide)
  by_cases d92 : p = 92
  · subst d92
    exact (valueK_92 h hx hg hf hml hgas hwt ao l c xs hA hl ha).mono fun e w' h => h.mono (by decide)
  exfalso
  unfold valO at hp
  omega
theorem effect_any (p : Nat) (hp : effO p) (h : SR G bw gf cs fr d (f :: r) x w) (hx : XB x) (hg : Good B d) (hf : AnyF f) (hml : f.ml ≤ 1000000) (hwt : wt d + 40000 ≤ 2250000000) (ao : Option Addr) (l c : Nat) (xs : List Nat) (hA : SStk G w ao l c xs) (hl : l ≤ 100) (ha : ∀ i, xs.getD i 0 < P256)
    (h2 : p = 55 ∨ p = 57 ∨ p = 62 ∨ p = 94 → xs.getD 2 0 ≤ 1000000) (h3 : p = 60 → xs.getD 3 0 ≤ 1000000) (hlog : 160 ≤ p ∧ p ≤ 164 → l = p - 158 ∧ xs.getD 1 0 ≤ 1000000) (hlive : p = 85 → Live d.accts f.self) :
    Calls Sakg.prog 218 #[.pointer (some ⟨bw, 0, none⟩), .pointer (some ⟨gf, 60 * r.length, none⟩), .int .u8 p, .slice ao l c] w (EffR G bw gf fr B d (f :: r) x (effY p) w) := by
  by_cases c1 : 160 ≤ p ∧ p ≤ 164
  · have hy : effY p = 2500 := by unfold effY; rw [if_neg (by omega), if_pos (by omega)]
    rw [hy]
    exact effect_log p c1.1 c1.2 h hx hg hf hml hwt ao l c xs hA (hlog c1).1 ha (hlog c1).2
  by_cases d80 : p = 80
  · subst d80
    exact (effect_80 h hx hg hf hml hwt ao l c xs hA hl ha ).mono fun e w' h => h.mono (by decide)
  by_cases d82 : p = 82
  · subst d82
    exact (effect_82 h hx hg hf hml hwt ao l c xs hA hl ha ).mono fun e w' h => h.mono (by decide)
  by_cases d83 : p = 83
  · subst d83
    exact (effect_83 h hx hg hf hml hwt ao l c xs hA hl ha ).mono fun e w' h => h.mono (by decide)
  by_cases d87 : p = 87
  · subst d87
    exact (effect_87 h hx hg hf hml hwt ao l c xs hA hl ha ).mono fun e w' h => h.mono (by decide)
  by_cases d91 : p = 91
  · subst d91
    exact (effect_91 h hx hg hf hml hwt ao l c xs hA hl ha ).mono fun e w' h => h.mono (by decide)
  by_cases d93 : p = 93
  · subst d93
    exact (effect_93 h hx hg hf hml hwt ao l c xs hA hl ha ).mono fun e w' h => h.mono (by decide)
  by_cases d55 : p = 55
  · subst d55
    exact (effect_55 h hx hg hf hml hwt ao l c xs hA hl ha (h2 (by omega))).mono fun e w' h => h.mono (by decide)
  by_cases d57 : p = 57
  · subst d57
    exact (effect_57 h hx hg hf hml hwt ao l c xs hA hl ha (h2 (by omega))).mono fun e w' h => h.mono (by decide)
  by_cases d62 : p = 62
  · subst d62
    exact (effect_62 h hx hg hf hml hwt ao l c xs hA hl ha (h2 (by omega))).mono fun e w' h => h.mono (by decide)
  by_cases d94 : p = 94
  · subst d94
    exact (effect_94 h hx hg hf hml hwt ao l c xs hA hl ha (h2 (by omega))).mono fun e w' h => h.mono (by decide)
  by_cases d60 : p = 60
  · subst d60
    exact (effect_60 h hx hg hf hml hwt ao l c xs hA hl ha (h3 rfl)).mono fun e w' h => h.mono (by decide)
  by_cases d85 : p = 85
  · subst d85
    exact (effect_85 h hx hg hf hml hwt ao l c xs hA hl ha (hlive rfl)).mono fun e w' h => h.mono (by decide)
  exfalso
  unfold effO at hp
  omega
end

end Go.Proofs.YgcsakGreat
