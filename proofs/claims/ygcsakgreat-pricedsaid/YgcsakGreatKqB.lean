/-
  plain laws for a step: the invariant after an end, after a call that was refused, after a child has been entered; the measure.
-/
import Derived.Test.YgcsakGreatKpB
import Derived.Test.YgcsakGreatKgG
import Derived.Test.YgcsakGreatKfD
namespace Go.Proofs.YgcsakGreat
set_option linter.unusedVariables false
set_option linter.unusedSimpArgs false
set_option maxRecDepth 100000
open Go.RowKit

/-- what falls with each step -/
def meas (fs : List FD) : Nat := 2 * sumG fs + fs.length
/-- what a frame has paid for its instruction: the gas n, of it b beyond the memory's -/
structure Spent (f f1 : FD) (n b : Nat) : Prop where
  gas : f1.gas + n = f.gas
  bn : b ≤ n
  mem : f1.gas + memN (f1.ml / 32) + b = f.gas + memN (f.ml / 32)
  code : f1.code = f.code
  self : f1.self = f.self
  saved : f1.saved = f.saved
theorem sumG_cons (f : FD) (r : List FD) : sumG (f :: r) = f.gas + sumG r := rfl
theorem sumM_cons (f : FD) (r : List FD) : sumM (f :: r) = f.gas + memN (f.ml / 32) + sumM r := rfl
section
variable {B K T : Nat} {f f1 f2 p c : FD} {r : List FD} {d d' dS : WD} {n b : Nat}
theorem spent_of {pp : Nat} {s : List Nat} (hp : Paid pp s f.ml n) (hn : n ≤ f.gas) (hs : s = f.stk) : ∃ b, Low pp f.stk b ∧ Spent f { f with gas := f.gas - n, ml := growN f.ml (reachA pp f.stk) } n b := by
  subst hs
  obtain ⟨b, h1, h2, h3⟩ := hp.low
  refine ⟨b, h1, ⟨by show f.gas - n + n = f.gas; omega, h2, ?_, rfl, rfl, rfl⟩⟩
  show f.gas - n + memN (growN f.ml (reachA pp f.stk) / 32) + b = _
  have hg : growN f.ml (reachA pp f.stk) / 32 = max (needA pp f.stk) (f.ml / 32) := by
    unfold growN needA
    split
    · omega
    · omega
  rw [hg]
  omega
/-- the frame goes on -/
theorem Inv.goes (h : Inv B K T (f :: r) d) (hs : Spent f f1 n b) {y : Nat} (hg : Gr B d d' y) (hy : y ≤ 400 * n) (h1 : f2.code = f1.code) (h2 : f2.self = f1.self) (h3 : f2.saved = f1.saved) (h4 : f2.gas = f1.gas) (h5 : f2.ml = f1.ml) (ha : AnyF f2) (hn : 1 ≤ n) :
    Inv B K T (f2 :: r) d' ∧ meas (f2 :: r) < meas (f :: r) := by
  have g1 := hs.gas
  have g2 := hs.mem
  have hyy : y ≤ 400 * (f.gas - f2.gas) := by
    rw [h4, show f.gas - f1.gas = n by omega]
    exact hy
  refine ⟨h.step hg (h1.trans hs.code) (h2.trans hs.self) (h3.trans hs.saved) (by rw [h4]; omega) (by rw [h4, h5]; omega) hyy ha, ?_⟩
  unfold meas
  rw [sumG_cons, sumG_cons, h4, List.length_cons, List.length_cons]
  omega
/-- the top frame has ended: its caller goes on -/
theorem Inv.ends (h : Inv B K T (f :: p :: r) d) {gas' q y v : Nat} (hq : gas' + q ≤ f.gas) (hv : v < P256) (hd : (Gr B d d' y ∧ y ≤ 12000 + 400 * q) ∨ d' = f.saved) :
    Inv B K T ({ p with gas := p.gas + gas', stk := p.stk ++ [v], pc := p.pc + 1 } :: r) d' ∧ meas ({ p with gas := p.gas + gas', stk := p.stk ++ [v], pc := p.pc + 1 } :: r) < meas (f :: p :: r) := by
  have hw := h.wait p (by simp)
  have hap := hw.any
  have hP := p256_ge
  have hsum : sumG ({ p with gas := p.gas + gas', stk := p.stk ++ [v], pc := p.pc + 1 } :: r) + q ≤ sumG (f :: p :: r) := by
    rw [sumG_cons, sumG_cons, sumG_cons]
    show p.gas + gas' + sumG r + q ≤ _
    omega
  have hlen : (f :: p :: r).length = ({ p with gas := p.gas + gas', stk := p.stk ++ [v], pc := p.pc + 1 } :: r).length + 1 := by simp
  have hwt : ∀ e : WD, wt e + 400 * (sumG (f :: p :: r) + 30 * (f :: p :: r).length) ≤ K → ∀ e' : WD, wt e' ≤ wt e + 12000 + 400 * q → wt e' + 400 * (sumG ({ p with gas := p.gas + gas', stk := p.stk ++ [v], pc := p.pc + 1 } :: r) + 30 * ({ p with gas := p.gas + gas', stk := p.stk ++ [v], pc := p.pc + 1 } :: r).length) ≤ K := by
    intro e he e' he'
    rw [hlen] at he
    omega
  have hok0 : Okay B (p :: r) d' := by
    rcases hd with ⟨hg, _⟩ | rfl
    · exact (h.ok.gr hg).pop
    · exact h.ok.back
  refine ⟨⟨hok0.top rfl rfl rfl, fun e he => ?_, ?_, ?_, fun z hz => ?_, fun z hz => ?_, ?_, h.lim⟩, ?_⟩
  · rcases List.mem_cons.1 he with rfl | he
    · rcases hd with ⟨hg, hy⟩ | hd
      · exact hwt d h.now e (by have := hg.wtle; omega)
      · exact hwt f.saved (h.wts _ (by simp)) e (by rw [hd]; omega)
    · refine hwt e (h.wts e ?_) e (by omega)
      rw [List.map_cons] at he
      rw [List.map_cons, List.map_cons]
      exact List.mem_cons_of_mem _ (List.mem_cons_of_mem _ he)
  · have := h.mem
    rw [sumM_cons, sumM_cons] at this
    rw [sumM_cons]
    show p.gas + gas' + memN (p.ml / 32) + sumM r ≤ 1048576
    omega
  · have := h.gas
    omega
  · rcases List.mem_cons.1 hz with rfl | hz
    · exact ⟨by show p.pc + 1 < P256; have := hw.pc; omega, hap.value, hap.outOff, hap.outLen, fun u hu => by
        rcases List.mem_append.1 hu with h' | h'
        · exact hap.stk u h'
        · rw [List.mem_singleton.1 h']; exact hv, by show (p.stk ++ [v]).length ≤ 64; rw [List.length_append, List.length_singleton]; have := hw.slen; omega, hap.code, hap.input, hap.kind, hap.native⟩
    · exact h.any z (by simp [hz])
  · exact h.wait z (by simp only [List.tail_cons] at hz ⊢; exact List.mem_cons_of_mem _ hz)
  · have := h.depth
    rw [hlen] at this
    omega
  · unfold meas
    rw [hlen]
    omega
/-- the transaction has ended -/
theorem Inv.last (h : Inv B K T (f :: r) d) {gas' q y : Nat} (hq : gas' + q ≤ f.gas) (hd : (Gr B d d' y ∧ y ≤ 12000 + 400 * q) ∨ d' = f.saved) : Good B d' ∧ gas' ≤ T ∧ wt d' ≤ K := by
  have hlen : 1 ≤ (f :: r).length := by simp
  have hf : f.gas ≤ sumG (f :: r) := by rw [sumG_cons]; omega
  have hlim := h.lim
  have hw : wt d' ≤ K := by
    rcases hd with ⟨hg, hy⟩ | rfl
    · have := hg.wtle; have := h.now; omega
    · have := h.wts f.saved (by simp); omega
  refine ⟨?_, by have := h.gas; omega, hw⟩
  rcases hd with ⟨hg, hy⟩ | rfl
  · exact hg.snd.good (by omega)
  · exact h.ok.back.snd.good (by omega)
/-- a call was refused: the frame goes on -/
theorem Inv.refused (h : Inv B K T (f :: r) d) (hs : Spent f f1 n b) {g' st : Nat} (hg' : g' ≤ f1.gas + st) (hst : st + 100 ≤ b) (hg : Gr B d d' 20000) (h1 : f2.code = f1.code) (h2 : f2.self = f1.self) (h3 : f2.saved = f1.saved) (h4 : f2.gas = g') (h5 : f2.ml = f1.ml) (ha : AnyF f2) :
    Inv B K T (f2 :: r) d' ∧ meas (f2 :: r) < meas (f :: r) := by
  have g1 := hs.gas
  have g2 := hs.mem
  have g3 := hs.bn
  refine ⟨h.step hg (h1.trans hs.code) (h2.trans hs.self) (h3.trans hs.saved) (by rw [h4]; omega) (by rw [h4, h5]; omega) (by rw [h4]; omega) ha, ?_⟩
  unfold meas
  rw [sumG_cons, sumG_cons, h4, List.length_cons, List.length_cons]
  omega
/-- a child is on top -/
theorem Inv.calls (h : Inv B K T (f :: r) d) (hs : Spent f f1 n b) {g' st : Nat} (hg' : c.gas + g' ≤ f1.gas + st) (hst : st + 100 ≤ b) (hgS : Gr B d dS 20000) (hgd : Gr B d d' 20000) (hSd : Gr B dS d' 20000) (h1 : f2.code = f1.code) (h2 : f2.self = f1.self) (h3 : f2.saved = f1.saved) (h4 : f2.gas = g') (h5 : f2.ml = f1.ml) (ha : AnyF f2) (hpc : f2.pc < 1000) (hsl : f2.stk.length ≤ 63) (hac : AnyF c) (hcm : c.ml = 0) (hcs : c.saved = dS) (hcl : c.code ≠ [] → Live d'.accts c.self) (hr : r.length < 6) :
    Inv B K T (c :: f2 :: r) d' ∧ meas (c :: f2 :: r) < meas (f :: r) := by
  have g1 := hs.gas
  have g2 := hs.mem
  have g3 := hs.bn
  have hsum : sumG (c :: f2 :: r) + (b - st) ≤ sumG (f :: r) := by
    rw [sumG_cons, sumG_cons, sumG_cons, h4]
    omega
  have hlen : (c :: f2 :: r).length = (f :: r).length + 1 := by simp
  have hwt : ∀ e : WD, wt e + 400 * (sumG (f :: r) + 30 * (f :: r).length) ≤ K → ∀ e' : WD, wt e' ≤ wt e + 20000 → wt e' + 400 * (sumG (c :: f2 :: r) + 30 * (c :: f2 :: r).length) ≤ K := by
    intro e he e' he'
    rw [hlen]
    omega
  have hok : Okay B (f2 :: r) dS := (h.ok.gr hgS).top (h1.trans hs.code) (h2.trans hs.self) (h3.trans hs.saved)
  refine ⟨⟨hok.push hcs hSd hcl, fun e he => ?_, ?_, ?_, fun z hz => ?_, fun z hz => ?_, ?_, h.lim⟩, ?_⟩
  · rcases List.mem_cons.1 he with rfl | he
    · exact hwt d h.now e hgd.wtle
    · rw [List.map_cons] at he
      rcases List.mem_cons.1 he with rfl | he
      · rw [hcs]; exact hwt d h.now _ hgS.wtle
      · refine hwt e (h.wts e ?_) e (by omega)
        rw [List.map_cons, h3, hs.saved, ← List.map_cons] at he
        exact List.mem_cons_of_mem _ he
  · have := h.mem
    rw [sumM_cons] at this
    rw [sumM_cons, sumM_cons, hcm, h4, h5, show memN (0 / 32) = 0 from by decide]
    omega
  · have := h.gas
    omega
  · rcases List.mem_cons.1 hz with rfl | hz
    · exact hac
    · rcases List.mem_cons.1 hz with rfl | hz
      · exact ha
      · exact h.any z (List.mem_cons_of_mem _ hz)
  · rw [List.tail_cons] at hz
    rcases List.mem_cons.1 hz with rfl | hz
    · exact ⟨ha, hpc, hsl⟩
    · exact h.wait z (by simpa using hz)
  · rw [hlen, List.length_cons]
    omega
  · unfold meas
    rw [hlen]
    omega
end

end Go.Proofs.YgcsakGreat
