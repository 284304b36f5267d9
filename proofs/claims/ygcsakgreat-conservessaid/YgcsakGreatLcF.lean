/-
  law: conservesHolds.
-/
import Derived.Test.YgcsakGreatLcE
import Derived.Test.YgcsakGreatLcA
namespace Go.Proofs.YgcsakGreat
set_option linter.unusedVariables false
set_option linter.unusedSimpArgs false
set_option maxRecDepth 100000
open Go.RowKit

theorem cmpI_self (n : Nat) : cmpI n n = 0 := by
  unfold cmpI
  simp
set_option maxHeartbeats 8000000 in
theorem holds_true (A : Option Addr) (k ck n : Nat) (ao : Option Addr) (l c : Nat) (os : List OAcct) (w : World) (h : OAcctsR w ao l c os) (hl : l ≤ 1000000) (hf : FormO os) (hs : ∀ o ∈ os, SoundO o) (hn : IsNat w A k ck n) (hb : balsN os = n) (hnB : n < BIG) :
    Calls Sakg.prog 36 #[.slice A k ck, .slice ao l c] w fun e w' => e = .returned (.bool true) ∧ Below w.heap.size w w' := by
  have hlen := h.len
  have HH := hide h
  obtain ⟨rows, h1, h2⟩ := h
  have HRW := hide h1
  have HEA := hide h2
  have HLEN := hide hlen
  have HF := hide hf
  have HS := hide hs
  have HN := hide hn
  have HB := hide hb
  have hz55 : (rowOA (zeros 20)).length = 55 := by simp [rowOA, bv_len, zeros_len]
  clear h1 h2 hlen hf hs hn hb
  go_enter Sakg.func36, Sakg.ntmps36
  go_wp2_with fail
  go_loopg [9] l (fun gk iv wr => ∃ i : Nat, i + gk = l ∧ iv = .int .i64 i ∧ Below w.heap.size w wr)
  case atStart => exact ⟨0, by omega, rfl, Below.refl _ _⟩
  case round =>
    obtain ⟨i, hi, rfl, hb⟩ := hrel
    by_cases hil : i < l
    · as_aux_lemma =>
      obtain ⟨b, off, rfl, hlt, hat⟩ := rows_at' zeroO (unhide HRW) (unhide HEA) (by omega)
      obtain ⟨ri, hrg, hrow⟩ := hat i hil
      have hil2 : i < os.length := by have := unhide HLEN; omega
      obtain ⟨o, ho⟩ : ∃ o, o = os.getD i zeroO := ⟨_, rfl⟩
      have hso := unhide HS o (by rw [ho]; simp [List.getD, hil2])
      rw [← ho] at hrow
      obtain ⟨B3, j3, e3, B4, j4, e4, q20, q21, q53, q54, hia, hnn, hbal, hcode, hslots⟩ := hrow.cells
      have hrl := hrow.len
      have hsz : (Sakg.prog.info? 43).map (·.size) = some ri.length := by rw [hrl]; exact sizeOA
      have hrg2 := range_below hrg hb (fun _ => hlt)
      have hcl := hcode.len_eq
      have hsl := hslots.len
      obtain ⟨nn, hnn2⟩ : ∃ nn, nn = o.nonce := ⟨_, rfl⟩
      rw [← hnn2] at q20
      have hj3 : j3 ≤ 256 := by have := hso.1; omega
      have hcase : j4 = 0 ∨ (0 < j4 ∧ j3 ≠ 0) ∨ (0 < j4 ∧ j3 = 0 ∧ nn ≠ 0) := by
        rcases Nat.eq_zero_or_pos j4 with h0 | h0
        · exact .inl h0
        · rcases hso.2 with h5 | h5 | h5
          · rw [h5] at hsl
            have h6 : j4 = 0 := hsl.symm
            omega
          · exact .inr (.inl ⟨h0, fun h6 => h5 (List.eq_nil_of_length_eq_zero (by omega))⟩)
          · rcases Nat.eq_zero_or_pos j3 with h6 | h6
            · exact .inr (.inr ⟨h0, h6, by rw [hnn2]; exact h5⟩)
            · exact .inr (.inl ⟨h0, by omega⟩)
      have HRG := hide hrg2
      have HSZ := hide hsz
      have HRL := hide hrl
      have HON := hide hrow.one
      have HCASE := hide hcase
      clear hat hrg hrg2 hrow hsz hrl ho hcl hsl hcode hslots hso hcase hnn2
      go_upto_region 4 with (first
        | ((with_reducible refine at_load 43 ?_); refine wpList_load_g (by rfl) 43 (.tmp 11) rfl b _ rfl ri _ (unhide HRG) Sakg.underlying43 rfl (unhide HSZ) ?_)
        | ((with_reducible refine at_alloc 43 ?_); refine wpList_alloc_g (by rfl) 43 rfl (rowOA (zeros 20)) 55 infoOA hz55 ?_)
        | ((with_reducible refine at_store 43 ?_); refine wpList_store_whole rfl 43 (.tmp 6) (.tmp 12) rfl _ _ _ ri rfl rfl (RowT.new _ _ _) (by rw [unhide HRL, hz55]) (unhide HSZ) (unhide HON) ?_; intro w1 hr1 hon1; have hbb1 := box_below hon1; clear hon1))
      have b1 := hbb1.1
      have bw1 : Below w.heap.size w w1 := hb.trans (b1.mono hb.size)
      have x20 : w1.cell? ⟨wr.heap.size, 20, none⟩ = some (.int .u64 nn) := by rw [hr1.cell]; exact q20
      have x53 : w1.cell? ⟨wr.heap.size, 53, none⟩ = some (.slice B3 j3 e3) := by rw [hr1.cell]; exact q53
      have x54 : w1.cell? ⟨wr.heap.size, 54, none⟩ = some (.slice B4 j4 e4) := by rw [hr1.cell]; exact q54
      have t1 : decide ((256 : Int) < (j3 : Int)) = false := by rw [decide_eq_false_iff_not]; omega
      clear hbb1 hr1 q20 q21 q53 q54
      rcases unhide HCASE with h4 | ⟨h4, h3⟩ | ⟨h4, h3, h5⟩
      · subst h4
        go_wp2
        go_roundg (l - 1 - i)
        case measure => omega
        case rel => exact ⟨i + 1, by omega, rfl, bw1⟩
      · have t2 : decide ((0 : Int) < (j4 : Int)) = true := by rw [decide_eq_true_iff]; omega
        have t3 : ((j3 : Int) == 0) = false := by rw [beq_eq_false_iff_ne]; omega
        have t2n : decide (0 < j4) = true := by rw [decide_eq_true_iff]; omega
        clear h3
        go_wp2
        go_roundg (l - 1 - i)
        case measure => omega
        case rel => exact ⟨i + 1, by omega, rfl, bw1⟩
      · have t2 : decide ((0 : Int) < (j4 : Int)) = true := by rw [decide_eq_true_iff]; omega
        have t3 : ((j3 : Int) == 0) = true := by rw [beq_iff_eq]; omega
        have t4 : ((nn : Int) == 0) = false := by rw [beq_eq_false_iff_ne]; omega
        have t2n : decide (0 < j4) = true := by rw [decide_eq_true_iff]; omega
        clear h3 h5
        go_wp2
        go_roundg (l - 1 - i)
        case measure => omega
        case rel => exact ⟨i + 1, by omega, rfl, bw1⟩
    · as_aux_lemma =>
      have hE : ∀ wz, Below w.heap.size w wz → Calls Sakg.prog 92 #[.slice ao l c] wz fun e w' => e = .returned (.bool true) ∧ Below wz.heap.size wz w' := fun wz hz => exportOK_true ao l c os wz ((unhide HH).kept hz) hl (unhide HF)
      have hS : ∀ wz, Below w.heap.size w wz → Calls Sakg.prog 32 #[.slice ao l c] wz fun e w' => (∃ A k c', e = .returned (.slice A k c') ∧ IsNat w' A k c' n ∧ New wz A) ∧ Below wz.heap.size wz w' := fun wz hz => by
        have h1 := sumOf_any ao l c os wz ((unhide HH).kept hz) hl
        rw [unhide HB] at h1
        exact h1
      have HE := hide (hE wr hb)
      have HSM := hide hS
      clear hE hS
      go_wp2_with (first
        | (go_at_call 92; refine (unhide HE).mono ?_; rintro e w2 ⟨rfl, b2⟩; have bw2 : Below w.heap.size w w2 := hb.trans (b2.mono hb.size))
        | (go_at_call 32; refine (unhide HSM w2 bw2).mono ?_; rintro e w3 ⟨⟨A3, k3, c3, rfl, n3, -⟩, b3⟩; have bw3 : Below w.heap.size w w3 := bw2.trans (b3.mono bw2.size); have HN3 := hide n3; clear n3)
        | (go_at_call 68; have hcm := (unhide HN3).cmp ((unhide HN).kept bw3) hnB hnB; rw [cmpI_self] at hcm; refine hcm.mono ?_; clear hcm; rintro e w4 ⟨rfl, q4⟩; have bw4 : Below w.heap.size w w4 := bw3.trans ((q4.below _).mono bw3.size); clear q4))
      go_ret
      exact ⟨rfl, bw4⟩

end Go.Proofs.YgcsakGreat
