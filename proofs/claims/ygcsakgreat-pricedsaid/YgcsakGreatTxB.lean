/-
  obs.Tx.ListOK; (*State).baseFee, taken.
-/
import Derived.Test.YgcsakGreatTxA
namespace Go.Proofs.YgcsakGreat
set_option linter.unusedVariables false
set_option linter.unusedSimpArgs false
set_option maxRecDepth 100000
open Go.RowKit

def keysN : List (List Int × List (List Int)) → Nat
  | [] => 0
  | x :: xs => x.2.length + keysN xs
def listB (xs : List (List Int × List (List Int))) : Bool := !decide (16 < xs.length) && !decide (64 < keysN xs)

set_option maxHeartbeats 8000000 in
theorem listOK_any (g : Nat) (r : List Value) (d : YTx) (A1 : Option Addr) (k1 c1 : Nat) (A2 : Option Addr) (k2 c2 : Nat) (w : World) (hr : RowT 33 w g r) (h : TxC r d A1 k1 c1 A2 k2 c2) (ha : AccsR w A2 k2 c2 d.access) :
    Calls Sakg.prog 189 #[.pointer (some ⟨g, 0, none⟩)] w fun e w' => e = .returned (.bool (listB d.access)) ∧ Below w.heap.size w w' := by
  have hlen := ha.len
  have hc : w.cell? ⟨g, 173, none⟩ = some (.slice A2 k2 c2) := by rw [hr.cell]; exact h.access
  obtain ⟨rows, g1, g2⟩ := ha
  have hmx : k2 ≤ 9223372036854775807 := by have := Nat.le_trans g1.le g1.max; unfold maxLen at this; omega
  have HAT := hide (rows_at' ([], []) g1 g2)
  have HLEN := hide hlen
  have hlt := hr.lt
  clear g1 g2 hr h hlen
  by_cases h16 : 16 < k2
  · have hfin : listB d.access = false := by unfold listB; rw [unhide HLEN, decide_eq_true h16]; rfl
    have HF := hide hfin
    have d16 : decide ((16 : Int) < (k2 : Int)) = true := decide_eq_true (by omega)
    clear hfin h16
    go_enter Sakg.func189, Sakg.ntmps189
    go_wp2
    go_ret
    exact ⟨by rw [unhide HF]; rfl, Below.refl _ _⟩
  have hok : listB d.access = !decide (64 < keysN d.access) := by unfold listB; rw [unhide HLEN, decide_eq_false h16]; rfl
  have HOK := hide hok
  have d16 : decide ((16 : Int) < (k2 : Int)) = false := decide_eq_false (by omega)
  clear hok
  go_enter Sakg.func189, Sakg.ntmps189
  go_wp2_with fail
  go_loopg [3, 17] k2 (fun gk kv iv wr => ∃ (i n : Nat), i + gk = k2 ∧ iv = .int .i64 i ∧ kv = .int .i64 n ∧ n ≤ 64 ∧ keysN d.access = n + keysN (d.access.drop i) ∧ Below w.heap.size w wr)
  case atStart => exact ⟨0, 0, by omega, rfl, rfl, by omega, by simp, Below.refl _ _⟩
  case round =>
    obtain ⟨i, n, hi, rfl, rfl, hn64, hkeys, hbe⟩ := hrel
    have HK := hide hkeys
    clear hkeys
    by_cases hil : i < k2
    · obtain ⟨b, off, rfl, hlt2, hat⟩ := unhide HAT (by omega)
      obtain ⟨r1, hrg, hrow⟩ := hat i hil
      have hdrop : d.access.drop i = d.access.getD i ([], []) :: d.access.drop (i + 1) := by
        rw [List.drop_eq_getElem_cons (by have := unhide HLEN; omega)]
        simp [List.getD, show i < d.access.length by have := unhide HLEN; omega]
      obtain ⟨x, hx⟩ : ∃ x, x = d.access.getD i ([], []) := ⟨_, rfl⟩
      rw [← hx] at hrow hdrop
      have hk1 : keysN d.access = n + (x.2.length + keysN (d.access.drop (i + 1))) := by rw [unhide HK, hdrop]; rfl
      obtain ⟨A3, k3, c3, q20, hw3⟩ := hrow.keys
      have hk3 := hw3.len
      have hm3 : k3 ≤ 9223372036854775807 := by have := Nat.le_trans hw3.1.le hw3.1.max; unfold maxLen at this; omega
      rw [hk3] at hk1
      have hrl := hrow.len
      have hsz : (Sakg.prog.info? 191).map (·.size) = some r1.length := by rw [hrl]; exact sizeAcc
      have hrg2 := range_below hrg hbe (fun _ => hlt2)
      have HRG := hide hrg2
      have HK1 := hide hk1
      have HROW := hide hrow
      have HRL := hide hrl
      have HSZ := hide hsz
      have Q20 := hide q20
      clear hat hrg hrg2 hrow hdrop hx hk1 hrl hsz q20 hw3 hk3 HK
      go_upto_region 7 with (first
        | ((with_reducible refine at_load 191 ?_); refine wpList_load_g (by rfl) 191 (.tmp 19) rfl b _ rfl r1 _ (unhide HRG) Sakg.underlying191 rfl (unhide HSZ) ?_)
        | ((with_reducible refine at_store 191 ?_); refine wpList_store_whole rfl 191 (.tmp 5) (.tmp 20) rfl _ _ _ r1 rfl rfl (RowT.new _ _ _) (by rw [unhide HRL]; rfl) (unhide HSZ) (unhide HROW).one ?_; intro w2 hr2 hon2; have hbb := box_below hon2; clear hon2))
      have c20 : w2.cell? ⟨wr.heap.size, 20, none⟩ = some (.slice A3 k3 c3) := by rw [hr2.cell]; exact unhide Q20
      have hbe2 : Below w.heap.size w w2 := hbe.trans (hbb.1.mono hbe.size)
      clear hr2 hbb
      have hwr : IntKind.i64.wrap (64 - (n : Int)) = 64 - (n : Int) := by rw [IntKind.wrap_i64]; omega
      by_cases hbig : 64 - n < k3
      · have dk : decide ((64 : Int) - (n : Int) < (k3 : Int)) = true := decide_eq_true (by omega)
        have hfin : listB d.access = false := by rw [unhide HOK, decide_eq_true (by rw [unhide HK1]; omega)]; rfl
        have HF := hide hfin
        clear hfin
        go_wp2
        go_ret
        exact ⟨by rw [unhide HF]; rfl, hbe2⟩
      · have dk : decide ((64 : Int) - (n : Int) < (k3 : Int)) = false := decide_eq_false (by omega)
        have hw2 : IntKind.i64.wrap ((n : Int) + (k3 : Int)) = (n : Int) + (k3 : Int) := by rw [IntKind.wrap_i64]; omega
        go_wp2
        go_roundg (k2 - 1 - i)
        case measure => omega
        case rel => exact ⟨i + 1, n + k3, by omega, rfl, rfl, by omega, by rw [unhide HK1]; omega, hbe2⟩
    · obtain rfl : i = k2 := by omega
      have hfin : listB d.access = true := by
        rw [unhide HOK, decide_eq_false]; rfl
        rw [unhide HK, List.drop_of_length_le (by have := unhide HLEN; omega)]
        simp [keysN]; omega
      have HF := hide hfin
      clear hfin
      go_wp2
      go_ret
      exact ⟨by rw [unhide HF]; rfl, hbe⟩

end Go.Proofs.YgcsakGreat
