/-
  law: sumOf.
-/
import Derived.Test.YgcsakGreatLbN
namespace Go.Proofs.YgcsakGreat
set_option linter.unusedVariables false
set_option linter.unusedSimpArgs false
set_option maxRecDepth 100000
open Go.RowKit

theorem bals_snoc (ds : List OAcct) (d : OAcct) : balsN (ds ++ [d]) = balsN ds + beN d.bal := by
  unfold balsN
  rw [List.map_append, List.sum_append]
  simp
theorem takeO {xs : List OAcct} {i : Nat} (h : i < xs.length) : xs.take (i + 1) = xs.take i ++ [xs.getD i zeroO] := by
  rw [List.take_succ_eq_append_getElem h]
  simp [List.getD, h]
set_option maxHeartbeats 8000000 in
theorem sumOf_any (ao : Option Addr) (l c : Nat) (ds : List OAcct) (w : World) (h : OAcctsR w ao l c ds) (hl : l ≤ 1000000) :
    Calls Sakg.prog 32 #[.slice ao l c] w fun e w' => (∃ A k c', e = .returned (.slice A k c') ∧ IsNat w' A k c' (balsN ds) ∧ New w A) ∧ Below w.heap.size w w' := by
  have hlen := h.len
  obtain ⟨rows, h1, h2⟩ := h
  have HRW := hide h1
  have HEA := hide h2
  have HLEN := hide hlen
  have hz55 : (rowOA (zeros 20)).length = 55 := by simp [rowOA, bv_len, zeros_len]
  have hB41 : (256 : Nat) ^ 41 ≤ BIG := big_pow 41 (by omega)
  have hp41 : (256 : Nat) ^ 41 = 256 ^ 9 * 256 ^ 32 := by rw [← Nat.pow_add]
  have hp9 : (2000000 : Nat) ≤ 256 ^ 9 := by decide
  have hmul : 2000000 * 256 ^ 32 ≤ 256 ^ 9 * 256 ^ 32 := Nat.mul_le_mul_right _ hp9
  have hB2 : 2000000 * 256 ^ 32 ≤ BIG := by omega
  clear h1 h2 hlen hB41 hp41 hp9 hmul
  go_enter Sakg.func32, Sakg.ntmps32
  go_wp2_with fail
  go_loopg [3, 8] l (fun gk s3 iv wr => ∃ (i n : Nat) (A : Option Addr) (k c' : Nat), i + gk = l ∧ iv = .int .i64 i ∧ s3 = .slice A k c' ∧ IsNat wr A k c' n ∧ New w A ∧ n = balsN (ds.take i) ∧ n ≤ i * 256 ^ 32 ∧ Below w.heap.size w wr)
  case atStart => exact ⟨0, 0, none, 0, 0, by omega, rfl, rfl, IsNat.nil _, fun x hx => (by cases hx), rfl, by omega, Below.refl _ _⟩
  case round =>
    obtain ⟨i, n, A, k, c', hi, rfl, rfl, hn, hN, hnb, hnl, hb⟩ := hrel
    have HN := hide hn
    have HNB := hide hnb
    clear hn hnb
    by_cases hil : i < l
    · as_aux_lemma =>
      obtain ⟨b, off, rfl, hlt, hat⟩ := rows_at' zeroO (unhide HRW) (unhide HEA) (by omega)
      obtain ⟨ri, hrg, hrow⟩ := hat i hil
      have hil2 : i < ds.length := by have := unhide HLEN; omega
      have hts := takeO hil2
      obtain ⟨o, ho⟩ : ∃ o, o = ds.getD i zeroO := ⟨_, rfl⟩
      rw [← ho] at hrow hts
      obtain ⟨B3, j3, e3, B4, j4, e4, q20, q21, q53, q54, hia, hnn, hbal, -, -⟩ := hrow.cells
      have hrl := hrow.len
      have hsz : (Sakg.prog.info? 43).map (·.size) = some ri.length := by rw [hrl]; exact sizeOA
      have hrg2 := range_below hrg hb (fun _ => hlt)
      have HRG := hide hrg2
      have HSZ := hide hsz
      have HRL := hide hrl
      have HON := hide hrow.one
      have HTS := hide hts
      have hbb := hbal.lt
      have hbbb := hbal.big
      clear hat hrg hrg2 hrow hsz hrl ho hts
      go_upto_region 5 with (first
        | ((with_reducible refine at_load 43 ?_); refine wpList_load_g (by rfl) 43 (.tmp 10) rfl b _ rfl ri _ (unhide HRG) Sakg.underlying43 rfl (unhide HSZ) ?_)
        | ((with_reducible refine at_alloc 43 ?_); refine wpList_alloc_g (by rfl) 43 rfl (rowOA (zeros 20)) 55 infoOA hz55 ?_)
        | ((with_reducible refine at_store 43 ?_); refine wpList_store_whole rfl 43 (.tmp 5) (.tmp 11) rfl _ _ _ ri rfl rfl (RowT.new _ _ _) (by rw [unhide HRL, hz55]) (unhide HSZ) (unhide HON) ?_; intro w1 hr1 hon1; have hbb1 := box_below hon1; clear hon1))
      have b1 := hbb1.1
      have bw1 : Below w.heap.size w w1 := hb.trans (b1.mono hb.size)
      have hsrc : Src w1 (some ⟨wr.heap.size, 21, none⟩) 32 32 o.bal := src_of_range (by have := hr1.range 21 32; rwa [q21] at this) hbal.byt hbal.len max32
      have HFB := hide (fromBE_any _ 32 32 o.bal w1 hsrc (by omega))
      have hiB : n < BIG := by
        have h3 : i * 256 ^ 32 ≤ 1000000 * 256 ^ 32 := Nat.mul_le_mul_right _ (by omega)
        omega
      clear hbb1 hr1 hsrc
      go_wp2_with fail
      refine (unhide HFB).mono ?_
      rintro e w2 ⟨A2, k2, c2, rfl, n2, N2, b2⟩
      have HAD := hide (((unhide HN).kept (b1.trans (b2.mono b1.size))).add n2 hiB hbbb)
      clear n2
      go_wp2_with fail
      refine (unhide HAD).mono ?_
      rintro e w3 ⟨A3, k3, c3, rfl, n3, N3, b3⟩
      have b13 : Below w1.heap.size w1 w3 := b2.trans (b3.mono b2.size)
      have bw3 : Below w.heap.size w w3 := bw1.trans (b13.mono bw1.size)
      have hN3 : New w A3 := fun y hy => by have h4 := N3 y hy; have h5 := b2.size; have h6 := bw1.size; omega
      have hnew : n + beN o.bal = balsN (ds.take (i + 1)) := by rw [unhide HTS, bals_snoc, ← unhide HNB]
      have hnl2 : n + beN o.bal ≤ (i + 1) * 256 ^ 32 := by rw [Nat.add_mul]; omega
      have N3' := hide n3
      have HNEW := hide hnew
      clear n3 hnew
      go_wp2
      go_roundg (l - 1 - i)
      case measure => omega
      case rel => exact ⟨i + 1, n + beN o.bal, A3, k3, c3, by omega, rfl, rfl, unhide N3', hN3, unhide HNEW, hnl2, bw3⟩
    · as_aux_lemma =>
      obtain rfl : i = l := by omega
      have htl : ds.take i = ds := List.take_of_length_le (by have := unhide HLEN; omega)
      have hfin : n = balsN ds := by have h3 := unhide HNB; rw [htl] at h3; exact h3
      have HF := hide hfin
      clear hfin
      go_wp2
      go_ret
      exact ⟨⟨A, k, c', rfl, by rw [← unhide HF]; exact unhide HN, hN⟩, hb⟩

end Go.Proofs.YgcsakGreat
