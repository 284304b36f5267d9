/-
  yp, for GasBounds: op.Imm of any byte, IsDest.
-/
import Derived.Test.YgcsakGreatGbA
namespace Go.Proofs.YgcsakGreat
set_option linter.unusedVariables false
set_option linter.unusedSimpArgs false
set_option maxRecDepth 100000
open Go.RowKit

def immA (o : Nat) : Nat := if 95 < o ∧ o ≤ 127 then o - 95 else 0
set_option maxHeartbeats 1000000 in
theorem imm_any (o : Nat) (ho : o ≤ 255) (w : World) : Calls Sakg.prog 216 #[.int .u8 o] w fun e w' => e = .returned (.int .u8 (immA o)) ∧ w = w' := by
  by_cases h1 : 95 < o
  · have t1 : decide ((95 : Int) < (o : Int)) = true := decide_eq_true (by omega)
    by_cases h2 : o ≤ 127
    · have t2 : decide ((o : Int) ≤ 127) = true := decide_eq_true (by omega)
      obtain ⟨j, hj⟩ : ∃ j, j = o - 95 := ⟨_, rfl⟩
      have ej : (o : Int) - 95 = (j : Int) := by omega
      have e : immA o = j := by unfold immA; rw [if_pos ⟨h1, h2⟩, hj]
      rw [e]
      have hjl : j ≤ 32 := by omega
      clear hj e h1 h2
      go_enter Sakg.func216, Sakg.ntmps216
      go_wp2
      go_ret
      exact ⟨rfl, rfl⟩
    · have t2 : decide ((o : Int) ≤ 127) = false := decide_eq_false (by omega)
      have e : immA o = 0 := by unfold immA; rw [if_neg (by omega)]
      rw [e]
      clear e h1 h2
      go_enter Sakg.func216, Sakg.ntmps216
      go_wp2
      go_ret
      exact ⟨rfl, rfl⟩
  · have t1 : decide ((95 : Int) < (o : Int)) = false := decide_eq_false (by omega)
    have e : immA o = 0 := by unfold immA; rw [if_neg (by omega)]
    rw [e]
    clear e h1
    go_enter Sakg.func216, Sakg.ntmps216
    go_wp2
    go_ret
    exact ⟨rfl, rfl⟩
theorem immA_le (o : Nat) : immA o ≤ 32 := by unfold immA; split <;> omega

theorem isNat_byte (w : World) (y : Nat) (h0 : y ≠ 0) (h1 : y ≤ 255) : IsNat (w.alloc (.cells #[.int .u8 (y : Int)] 5)) (some ⟨w.heap.size, 0, none⟩) 1 1 y := by
  have ho : OwnT 5 (w.alloc (.cells #[.int .u8 (y : Int)] 5)) w.heap.size [(y : Int)] := by
    unfold OwnT
    rw [heap_alloc_new]
    rfl
  refine ⟨[(y : Int)], ho.src_all (fun z hz => by rw [List.mem_singleton.1 hz]; omega) 1 rfl (by unfold maxLen; omega), ?_, ?_, fun h => by omega⟩
  · simp [Nrm, trimL]
    omega
  · simp [val]

set_option maxHeartbeats 8000000 in
theorem isDest_any (A : Option Addr) (l c : Nat) (code : List Int) (a : Option Addr) (la ca m : Nat) (w : World) (hs : Src w A l c code) (hl : l ≤ 100000) (hn : IsNat w a la ca m) (hm : m < BIG) :
    Calls Sakg.prog 205 #[.slice A l c, .slice a la ca] w fun e w' => (∃ b, e = .returned (.bool b)) ∧ Below w.heap.size w w' := by
  have hBB := big_ge
  have HS := hide hs
  have HN := hide hn
  clear hs hn
  go_enter Sakg.func205, Sakg.ntmps205
  go_wp2_with fail
  go_loopg [5, 6] l (fun gk v5 iv wr => ∃ (i : Nat) (A5 : Option Addr) (k5 c5 n5 : Nat), gk = l - i ∧ iv = .int .i64 i ∧ v5 = .slice A5 k5 c5 ∧ IsNat wr A5 k5 c5 n5 ∧ n5 ≤ i ∧ i ≤ l + 33 ∧ Below w.heap.size w wr)
  case atStart => exact ⟨0, none, 0, 0, 0, by omega, rfl, rfl, IsNat.nil _, Nat.le_refl _, by omega, Below.refl _ _⟩
  case round =>
    obtain ⟨i, A5, k5, c5, n5, hi, rfl, rfl, hn5, hle, hil, hbe⟩ := hrel
    by_cases hlt : i < l
    · have hil' : i < l := hlt
      have HC := hide (hn5.cmp ((unhide HN).kept hbe) (by omega) hm)
      have HN5 := hide hn5
      obtain ⟨b, off, rfl, hc⟩ := ((unhide HS).kept hbe).at_ (by omega)
      have hblt := ((unhide HS).kept hbe).lt _ rfl (by omega)
      have hci := hc i hlt
      have hby := (unhide HS).byt.get i
      obtain ⟨y, hy⟩ : ∃ y : Nat, (y : Int) = code.getD i 0 := ⟨(code.getD i 0).toNat, by omega⟩
      rw [← hy] at hci hby
      have hy255 : y ≤ 255 := by omega
      have hcq : ∀ wz, Below wr.heap.size wr wz → wz.cell? ⟨b, off + i, none⟩ = some (.int .u8 y) := fun wz hz => by rw [hz.cell (p := ⟨b, off + i, none⟩) hblt]; exact hci
      have HCQ := hide hcq
      generalize cmpI n5 m = cr at HC
      clear hn5 hc hci hcq hlt hy hby
      by_cases h0 : cr = 0
      · have t0 : (cr == 0) = true := by rw [h0]; rfl
        clear h0
        go_wp2_with fail
        refine (unhide HC).mono ?_
        rintro e w1 ⟨rfl, q1⟩
        have b1 : Below wr.heap.size wr w1 := q1.below _
        have x1 := unhide HCQ w1 b1
        clear q1
        go_wp2
        go_ret
        exact ⟨⟨_, rfl⟩, hbe.trans (b1.mono hbe.size)⟩
      · have t0 : (cr == 0) = false := by rw [beq_eq_false_iff_ne]; exact h0
        clear h0
        have hile := immA_le y
        go_wp2_with fail
        refine (unhide HC).mono ?_
        rintro e w1 ⟨rfl, q1⟩
        have b1 : Below wr.heap.size wr w1 := q1.below _
        have x1 := unhide HCQ w1 b1
        have HI := hide (imm_any y hy255 w1)
        generalize immA y = im at HI hile
        obtain ⟨sp, hsp⟩ : ∃ sp, sp = 1 + im := ⟨_, rfl⟩
        have es : (1 : Int) + (im : Int) = (sp : Int) := by omega
        have hspl : sp ≤ 33 := by omega
        have hsp0 : sp ≠ 0 := by omega
        obtain ⟨ni, hni⟩ : ∃ ni, ni = i + sp := ⟨_, rfl⟩
        have ei : (i : Int) + (sp : Int) = (ni : Int) := by omega
        have hw8 : IntKind.u8.wrap (sp : Int) = (sp : Int) := by rw [IntKind.wrap_u8]; omega
        have HNI := hide hni
        clear q1 hsp hni
        go_wp2_with fail
        refine (unhide HI).mono ?_
        rintro e w2 ⟨rfl, rfl⟩
        obtain ⟨w3, hw3⟩ : ∃ w3, w3 = w1.alloc (.cells #[.int .u8 (sp : Int)] 5) := ⟨_, rfl⟩
        have n3 : IsNat w3 (some ⟨w1.heap.size, 0, none⟩) 1 1 sp := hw3 ▸ isNat_byte w1 sp hsp0 (by omega)
        have b3 : Below w1.heap.size w1 w3 := hw3 ▸ (Below.refl _ _).alloc (Nat.le_refl _) _
        have b13 : Below wr.heap.size wr w3 := b1.trans (b3.mono b1.size)
        have HA := hide (((unhide HN5).kept b13).add n3 (by omega) (by omega))
        have HW3 := hide hw3
        clear n3 hw3
        go_wp2_with fail
        rw [← unhide HW3]
        refine (unhide HA).mono ?_
        rintro e w4 ⟨A4, k4, c4, rfl, n4, N4, b4⟩
        have NN4 := hide n4
        clear n4
        go_wp2
        go_roundg (l - ni)
        case measure => have := unhide HNI; omega
        case rel => exact ⟨ni, A4, k4, c4, n5 + sp, rfl, rfl, rfl, unhide NN4, by have := unhide HNI; omega, by have := unhide HNI; omega, hbe.trans ((b13.trans (b4.mono b13.size)).mono hbe.size)⟩
    · have t1 : decide ((i : Int) < (l : Int)) = false := decide_eq_false (by omega)
      clear hn5
      go_wp2
      go_ret
      exact ⟨⟨_, rfl⟩, hbe⟩

end Go.Proofs.YgcsakGreat
