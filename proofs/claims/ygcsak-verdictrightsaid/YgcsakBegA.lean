/-
  what New has made, as verdict asks it.
-/
import Derived.Test.YgcsakLawE
namespace Go.Proofs.Ygcsak
set_option linter.unusedVariables false
set_option linter.unusedSimpArgs false
set_option maxRecDepth 100000
open Go.RowKit

theorem CsE.low {re cs : List Value} (h : CsE re cs) (i : Nat) (h0 : i ≠ 0) (h1 : i ≠ 18) (hi : i < 59) : cs[i]? = zeroC[i]? := by
  rw [h.2 i h0 h1 (by omega), List.getElem?_append_left (by rw [List.length_take, zeroC_len]; omega), List.getElem?_take, if_pos hi]
theorem CsE.high {re cs : List Value} (h : CsE re cs) (j : Nat) (hj : j < 119) : cs[59 + j]? = re[j]? := by
  rw [h.2 (59 + j) (by omega) (by omega) (by omega), List.getElem?_append_right (by rw [List.length_take, zeroC_len]; omega), List.length_take, zeroC_len]
  congr 1
  omega
theorem CsE.range {re cs : List Value} (h : CsE re cs) (o n : Nat) (ho : o + n ≤ 119) : (cs.drop (59 + o)).take n = (re.drop o).take n := by
  apply List.ext_getElem?
  intro j
  rw [List.getElem?_take, List.getElem?_take]
  split
  · rw [List.getElem?_drop, List.getElem?_drop, Nat.add_assoc, h.high (o + j) (by omega)]
  · rfl

theorem bnd_of {ds : List OAcct} (h : Small ds) : Bnd (ds.map acctOf) := by
  intro d hd
  obtain ⟨o, ho, rfl⟩ := List.mem_map.1 hd
  obtain ⟨_, h2, h3, _⟩ := h o ho
  exact ⟨Nat.lt_of_lt_of_le h2 (big_pow 8 (by omega)), h3.big⟩

theorem NewOK.stc {bw : Nat} {cs re : List Value} {w : World} {l : Nat} {ds : List OAcct} {cb : List Int} {gl : Nat} {fee : List Int} {A3 : Option Addr} {k3 c3 : Nat} (h : NewOK bw cs re w l ds) (hl : l ≤ 8) (hs : Small ds) (he : EnvC re cb gl fee A3 k3 c3) :
    ∃ ao c, StC 130 bw cs w ao l c (ds.map acctOf) gl fee := by
  obtain ⟨ao, c, h1, h2, h3, h4⟩ := h
  refine ⟨ao, c, h1, h4, h3, by omega, bnd_of hs, ?_, ?_, ?_, he.hlimit, ?_, he.hfee⟩
  · rw [h2.low 11 (by omega) (by omega) (by omega)]; rfl
  · rw [h2.low 13 (by omega) (by omega) (by omega)]; rfl
  · have := h2.high 22 (by omega)
    rw [show 59 + 22 = 81 from rfl] at this
    rw [this]
    exact he.limit
  · have := h2.range 87 32 (by omega)
    rw [show 59 + 87 = 146 from rfl] at this
    rw [this]
    exact he.base

end Go.Proofs.Ygcsak
