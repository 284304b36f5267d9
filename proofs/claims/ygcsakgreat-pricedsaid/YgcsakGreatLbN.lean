/-
  yp: a chain that New has made, as Begin asks for it.
-/
import Derived.Test.YgcsakGreatNewK
import Derived.Test.YgcsakGreatKtA
import Derived.Test.YgcsakGreatLbG
namespace Go.Proofs.YgcsakGreat
set_option linter.unusedVariables false
set_option linter.unusedSimpArgs false
set_option maxRecDepth 100000
open Go.RowKit

theorem StabS.one {g : Nat} {P : World → Prop} {w : World} (h : Stab g P w) : StabS (· = g) P w := fun w' hc => h w' ⟨hc.os, hc.tape, hc.output, hc.size, hc.block⟩
theorem SSlot.k {g : Nat} {w : World} {r : List Value} {s : Nat × Nat} (h : SSlot g w r s) : KSlot (· = g) w r s := by
  obtain ⟨A, k, c, A', k', c', h1, h2, h3⟩ := h
  exact ⟨A, k, c, A', k', c', h1, StabS.one h2, StabS.one h3⟩
theorem SSlots.k {g : Nat} {w : World} {ao : Option Addr} {l c : Nat} {ss : List (Nat × Nat)} (h : SSlots g w ao l c ss) : KSlots (· = g) w ao l c ss := by
  obtain ⟨rows, h1, h2⟩ := h
  exact ⟨rows, StabS.one h1, h2.imp fun _ _ h => h.k⟩
theorem SAcct.k {g : Nat} {w : World} {r : List Value} {d : YAcct} (h : SAcct g w r d) : KAcct (· = g) w r d := by
  obtain ⟨A1, k1, c1, A2, k2, c2, A3, k3, c3, A4, k4, c4, h1, h2, h3, h4, h5, h6⟩ := h
  exact ⟨A1, k1, c1, A2, k2, c2, A3, k3, c3, A4, k4, c4, h1, h2, StabS.one h3, StabS.one h4, StabS.one h5, h6.k⟩
theorem SAccts.k {g : Nat} {w : World} {ao : Option Addr} {l c : Nat} {ds : List YAcct} (h : SAccts g w ao l c ds) : KAccts (· = g) w ao l c ds := by
  obtain ⟨rows, h1, h2⟩ := h
  exact ⟨rows, StabS.one h1, h2.imp fun _ _ h => h.k⟩

/-- the rest of a state that New has made -/
def xNew (cb : List Int) (nm tm gl : Nat) (rn ch fee : List Int) (tot : Nat) : XD := { start := [], ret := [], status := 0, applied := 0, limit := 0, txgas := 0, left := 0, price := 0, total := tot, origin := zeros 20, made := zeros 20, coin := cb, number := nm, time := tm, glimit := gl, randao := rn, chain := ch, fee := fee }
/-- the environment's cells, all of them -/
structure EnvX (r : List Value) (cb : List Int) (nm tm gl : Nat) (rn ch fee : List Int) (A : Option Addr) (k c : Nat) : Prop where
  c : EnvC r cb gl fee A k c
  cells : ∀ i, i < 119 → r[i]? = (envRow (xNew cb nm tm gl rn ch fee 0))[i]?
  hnm : nm < 256 ^ 8
  htm : tm < 256 ^ 8
  hgl : gl < 256 ^ 8
  hrn : IsW rn
  hch : IsW ch
  hfee : IsW fee
theorem new_si {bw : Nat} {cs re : List Value} {w : World} {l : Nat} {ds : List OAcct} {cb : List Int} {nm tm gl : Nat} {rn ch fee : List Int} {A3 : Option Addr} {k3 c3 : Nat} {ks : List (List Int)} (hn : NewOK bw cs re w l ds) (ht : TotOK bw cs w l) (hh : HashOK bw cs w (ks.map bv)) (he : EnvX re cb nm tm gl rn ch fee A3 k3 c3) (hl : l ≤ 8) (hks : ∀ k ∈ ks, IsW k) (hk4 : ks.length ≤ 4) :
    ∃ tot, SI (· = bw) bw 0 cs (freshD (ds.map acctOf)) (xNew cb nm tm gl rn ch fee tot) w ∧ XB (xNew cb nm tm gl rn ch fee tot) := by
  obtain ⟨ao, c, h1, h2, h3, h4⟩ := hn
  obtain ⟨A, k, ct, n, e18, n18, hnl⟩ := ht
  obtain ⟨A5, k5, c5, e178, r5⟩ := hh
  have low : ∀ i, i ≠ 0 → i ≠ 18 → i < 59 → cs[i]? = zeroC[i]? := fun i a b c => h2.low i a b c
  have env : ∀ i, i < 119 → cs[59 + i]? = re[i]? := fun i hi => by
    rw [h2.2.1 (59 + i) (by omega) (by omega) (by omega), List.getElem?_append_right (by rw [List.length_take, zeroC_len]; omega), List.length_take, zeroC_len]
    congr 1
    omega
  have hZ : ∀ i, 0 < i → i < 11 → cs[i]? = some (.slice none 0 0) := fun i h0 h9 => by rw [low i (by omega) (by omega) (by omega), zeroC_get i (by omega), if_pos h9]
  have hI : ∀ i, 11 ≤ i → i < 14 → cs[i]? = some (.int .u8 0) := fun i h0 h9 => by rw [low i (by omega) (by omega) (by omega), zeroC_get i (by omega), if_neg (by omega), if_pos h9]
  have hN : ∀ i, 14 ≤ i → i < 18 → cs[i]? = some (.slice none 0 0) := fun i h0 h9 => by rw [low i (by omega) (by omega) (by omega), zeroC_get i (by omega), if_neg (by omega), if_neg (by omega), if_pos (by omega)]
  have hB : ∀ i, 19 ≤ i → i < 59 → cs[i]? = some (.int .u8 0) := fun i h0 h9 => by rw [low i (by omega) (by omega) (by omega), zeroC_get i (by omega), if_neg (by omega), if_neg (by omega), if_neg (by omega)]
  have hbz : ∀ i, i < 20 → (bv (zeros 20))[i]? = some (.int .u8 0) := fun i hi => by
    rw [show bv (zeros 20) = List.replicate 20 (.int .u8 0) from rfl, List.getElem?_replicate, if_pos hi]
  have hlt := h1.lt
  have hT : Ther (· = bw) w := fun i hi => by have : i = bw := hi; omega
  have hk5 : k5 ≤ 4 := by rw [← r5.now.len_eq, List.length_map]; exact hk4
  have hBIG : n < BIG := by
    have e1 : l * 256 ^ 32 ≤ 8 * 256 ^ 32 := Nat.mul_le_mul_right _ hl
    have e2 : (256 : Nat) ^ 41 ≤ BIG := big_pow 41 (by omega)
    have e3 : (256 : Nat) ^ 41 = 256 * 256 ^ 40 := by rw [Nat.pow_succ, Nat.mul_comm]
    have e4 : (256 : Nat) ^ 32 ≤ 256 ^ 40 := Nat.pow_le_pow_right (by omega) (by omega)
    have e5 : 0 < (256 : Nat) ^ 40 := Nat.pow_pos (by omega)
    omega
  refine ⟨n, ⟨⟨h1, h2.1, ⟨⟨ao, l, c, h3, h4.k⟩, ⟨none, 0, 0, hZ 1 (by omega) (by omega), KAddrs.nil _ w⟩, ⟨none, 0, 0, hZ 2 (by omega) (by omega), KMarks.nil _ w⟩, ⟨none, 0, 0, hZ 3 (by omega) (by omega), KNat.nil _ w⟩, ⟨none, 0, 0, hZ 4 (by omega) (by omega), rfl⟩, ⟨none, 0, 0, hZ 5 (by omega) (by omega), KTemps.nil _ w⟩, ⟨none, 0, 0, hZ 6 (by omega) (by omega), KAddrs.nil _ w⟩, ⟨none, 0, 0, hZ 7 (by omega) (by omega), KAddrs.nil _ w⟩⟩, rfl, hT⟩, hZ 4 (by omega) (by omega), rfl, ?_, hI 11 (by omega) (by omega), hZ 9 (by omega) (by omega)⟩, ?_⟩
  · refine ⟨⟨none, 0, 0, hZ 8 (by omega) (by omega), KTemps.nil _ w⟩, ⟨none, 0, 0, hZ 10 (by omega) (by omega), KSrc.nil _ w⟩, hI 12 (by omega) (by omega), hI 13 (by omega) (by omega), ⟨none, 0, 0, hN 14 (by omega) (by omega), KNat.nil _ w⟩, ⟨none, 0, 0, hN 15 (by omega) (by omega), KNat.nil _ w⟩, ⟨none, 0, 0, hN 16 (by omega) (by omega), KNat.nil _ w⟩, ⟨none, 0, 0, hN 17 (by omega) (by omega), KNat.nil _ w⟩, ⟨A, k, ct, e18, StabS.one n18⟩, fun i hi => ?_, fun i hi => ?_, fun i hi => ?_, ⟨A5, k5, c5, ks.map bv, e178, StabS.one r5, fun r hr => ?_, hk5⟩⟩
    · rw [hB (19 + i) (by omega) (by omega)]; exact (hbz i hi).symm
    · rw [hB (39 + i) (by omega) (by omega)]; exact (hbz i hi).symm
    · rw [env i hi, he.cells i hi]; rfl
    · obtain ⟨a, ha, rfl⟩ := List.mem_map.1 hr
      exact ⟨a, rfl, hks a ha⟩
  · exact ⟨fun t ht => (by cases ht), Nat.zero_le _, Nat.zero_le _, Nat.zero_le _, Nat.zero_le _, Nat.zero_le _, p256_pos, hBIG, zeros_adr, zeros_adr, he.c.hcb, he.hnm, he.htm, he.hgl, he.hrn, he.hch, he.hfee⟩

end Go.Proofs.YgcsakGreat
