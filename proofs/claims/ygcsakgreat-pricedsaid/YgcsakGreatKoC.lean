/-
  yp: SentGas and taken as the state asks them; what enterCall and enterCreate leave.
-/
import Derived.Test.YgcsakGreatKoB
import Derived.Test.YgcsakGreatKoA
namespace Go.Proofs.YgcsakGreat
set_option linter.unusedVariables false
set_option linter.unusedSimpArgs false
set_option maxRecDepth 100000
open Go.RowKit

/-- minNat hands on one of its operands -/
theorem minNat_same (a b : Option Addr) (la lb ca cb m n : Nat) (w : World) (h1 : IsNat w a la ca m) (h2 : IsNat w b lb cb n) (hm : m < BIG) (hn : n < BIG) :
    Calls Sakg.prog 123 #[.slice a la ca, .slice b lb cb] w fun e w' => ((e = .returned (.slice a la ca) ∧ min m n = m) ∨ (e = .returned (.slice b lb cb) ∧ min m n = n)) ∧ Quiet w w' := by
  have HC := hide (h1.cmp h2 hm hn)
  clear h1 h2 hm hn
  by_cases h : m < n
  · rw [cmpI_lt h] at HC
    go_enter Sakg.func123, Sakg.ntmps123
    go_wp2_with fail
    refine (unhide HC).mono ?_
    rintro e w1 ⟨rfl, q1⟩
    go_wp2
    go_ret
    exact ⟨.inl ⟨rfl, by omega⟩, q1⟩
  · have hc : decide (cmpI m n < 0) = false := by
      rw [decide_eq_false_iff_not]; unfold cmpI; rw [if_neg h]; split <;> omega
    generalize cmpI m n = cz at HC hc
    go_enter Sakg.func123, Sakg.ntmps123
    go_wp2_with fail
    refine (unhide HC).mono ?_
    rintro e w1 ⟨rfl, q1⟩
    go_wp2
    go_ret
    exact ⟨.inr ⟨rfl, by omega⟩, q1⟩
set_option maxHeartbeats 2000000 in
theorem sentGas_k {G : Nat → Prop} (a b : Option Addr) (la ca lb cb m n : Nat) (w : World) (hT : Ther G w) (h1 : KNat G w a la ca m) (h2 : KNat G w b lb cb n) (hm : m < BIG) (hn : n < BIG) :
    Calls Sakg.prog 303 #[.slice a la ca, .slice b lb cb] w fun e w' => ∃ A k c, e = .returned (.slice A k c) ∧ KNat G w' A k c (sentN m n) ∧ Below w.heap.size w w' := by
  have hBB := big_ge
  have HD := hide (divided_any a la ca m 64 w h1.now hm (by omega) (by omega))
  have H1 := hide h1
  have H2 := hide h2
  clear h1 h2
  go_enter Sakg.func303, Sakg.ntmps303
  go_wp2_with fail
  refine (unhide HD).mono ?_
  rintro e w1 ⟨A1, k1, c1, rfl, n1, N1, b1⟩
  have hq : m / 64 ≤ m := Nat.div_le_self _ _
  have HL := hide (less_any a A1 la k1 ca c1 m (m / 64) w1 ((unhide H1).kp (ChgS.of b1)).now n1 hm (by omega))
  clear n1
  go_wp2_with fail
  refine (unhide HL).mono ?_
  rintro e w2 ⟨A2, k2, c2, rfl, n2, N2, b2⟩
  have d2 : Below w.heap.size w w2 := b1.trans (b2.mono b1.size)
  have HM := hide (minNat_same b A2 lb k2 cb c2 n (m - m / 64) w2 ((unhide H2).kp (ChgS.of d2)).now n2 hn (by omega))
  have K2 := hide (KNat.new (G := G) n2 (N2.later b1.size) hT)
  clear n2
  go_wp2_with fail
  refine (unhide HM).mono ?_
  rintro e w3 ⟨hA3, q3⟩
  have d3 : Below w.heap.size w w3 := d2.trans (q3.below _)
  rcases hA3 with ⟨rfl, hmn⟩ | ⟨rfl, hmn⟩
  · have HMN := hide hmn
    clear hmn
    go_wp2
    go_ret
    refine ⟨_, _, _, rfl, ?_, d3⟩
    unfold sentN
    rw [unhide HMN]
    exact (unhide H2).kp (ChgS.of d3)
  · have HMN := hide hmn
    clear hmn
    go_wp2
    go_ret
    refine ⟨_, _, _, rfl, ?_, d3⟩
    unfold sentN
    rw [unhide HMN]
    exact (unhide K2).kp (ChgS.of (q3.below _))
theorem sentN_le (m n : Nat) : sentN m n ≤ m := by unfold sentN; omega
section
variable {G : Nat → Prop} {bw : Nat} {cs : List Value} {d : WD} {w : World} {B : Nat}
/-- whether an address is taken: some answer -/
theorem CW.taken (h : CW G bw cs d w) (hg : Good B d) (a : List Int) (ha : IsAddr a) :
    Calls Sakg.prog 109 #[.pointer (some ⟨bw, 0, none⟩), .agg (bv a).toArray] w fun e w' => (∃ b, e = .returned (.bool b)) ∧ Below w.heap.size w w' := by
  obtain ⟨ao, l, c, h1, h2⟩ := h.kw.accts
  have hl := h2.len
  have hna := hg.na
  exact taken_any 107 bw cs w ao l c d.accts (h2.s h.g) h.row h1 (by omega) hg.bnd a ha
end
/-- what enterCall and enterCreate leave: the frame goes on, or a child is on top of it -/
def EnsK (G : Nat → Prop) (bw : Nat) (B y : Nat) (d : WD) (f : FD) (r : List FD) (x : XD) (tk st : Nat) (w : World) (e : Ending) (w' : World) : Prop :=
  e = .returned (.tuple #[]) ∧ ∃ G' gf' cs' fr' d', Wider G G' w ∧ Mv G w w' ∧ Gr B d d' y ∧
    ((∃ g', g' ≤ f.gas + st ∧ SR G' bw gf' cs' fr' d' ({ f with gas := g', stk := f.stk.take (f.stk.length - tk) ++ [0], pc := f.pc + 1 } :: r) x w') ∨
      ∃ c g' m n dS, SR G' bw gf' cs' fr' d' (c :: { f with gas := g', stk := f.stk.take (f.stk.length - tk), outOff := m, outLen := n } :: r) x w' ∧ c.gas + g' ≤ f.gas + st ∧ m < P256 ∧ n < P256 ∧ c.saved = dS ∧ Gr B d dS y ∧ AnyF c ∧ c.ml = 0 ∧ c.stk = [] ∧ c.pc = 0 ∧ r.length < 6 ∧ (c.code ≠ [] → Live d'.accts c.self) ∧ Gr B dS d' y)

end Go.Proofs.YgcsakGreat
