/-
  yp: bareCost, reach at the instructions that SpecAlu's program comes to.
-/
import Derived.Test.YgcsakGreatFrB
namespace Go.Proofs.YgcsakGreat
set_option linter.unusedVariables false
set_option linter.unusedSimpArgs false
set_option maxRecDepth 100000
open Go.RowKit

def bareN (o : Nat) (stk : List Nat) : Nat :=
  if o = 10 then expN (argN stk 1) else if o = 243 then 0 else if o = 95 then 2 else if o = 8 ∨ o = 9 then 8 else if o = 2 ∨ (4 ≤ o ∧ o ≤ 7) ∨ o = 11 then 5 else 3
def reachN (o : Nat) (stk : List Nat) : Nat := if o = 82 then endN (argN stk 0) 32 else if o = 243 then endN (argN stk 0) (argN stk 1) else 0

set_option maxHeartbeats 4000000 in
theorem bare_1 {bw gf : Nat} {fr : List Value} {pc gas : Nat} {stk : List Nat} {mem code : List Int} {w : World} (h : FM bw gf fr pc gas stk mem code w) (hl : stk.length ≤ 64) (hs : ∀ i, argN stk i < P256) :
    Calls Sakg.prog 300 #[.pointer (some ⟨bw, 0, none⟩), .pointer (some ⟨gf, 0, none⟩), .int .u8 1] w (MakesNat w (bareN 1 stk)) := by
  have hb : bareN 1 stk = 3 := by simp [bareN]
  rw [hb]
  have HN := hide (num_any 3 w (by omega))
  have HF := hide (family_1 w)
  clear h hs hb
  go_enter Sakg.func300, Sakg.ntmps300
  go_wp2_with (first
    | (go_at_call 120; refine (unhide HF).mono ?_; rintro e w1 ⟨rfl, rfl⟩)
    | (go_at_call 97; refine (unhide HN).mono ?_; rintro e w1 ⟨A1, k1, c1, rfl, n1, N1, b1⟩; have NN1 := hide n1; clear n1))
  go_ret
  exact ⟨A1, k1, c1, rfl, unhide NN1, N1, b1⟩
set_option maxHeartbeats 4000000 in
theorem reach_1 {bw gf : Nat} {fr : List Value} {pc gas : Nat} {stk : List Nat} {mem code : List Int} {w : World} (h : FM bw gf fr pc gas stk mem code w) (hl : stk.length ≤ 64) (hs : ∀ i, argN stk i < P256) :
    Calls Sakg.prog 116 #[.pointer (some ⟨gf, 0, none⟩), .int .u8 1] w (MakesNat w (reachN 1 stk)) := by
  have hb : reachN 1 stk = 0 := by simp [reachN]
  rw [hb]
  clear h hs hb
  go_enter Sakg.func116, Sakg.ntmps116
  go_wp2
  go_ret
  exact ⟨_, _, _, rfl, IsNat.nil _, New.nil _, Below.refl _ _⟩
set_option maxHeartbeats 4000000 in
theorem bare_2 {bw gf : Nat} {fr : List Value} {pc gas : Nat} {stk : List Nat} {mem code : List Int} {w : World} (h : FM bw gf fr pc gas stk mem code w) (hl : stk.length ≤ 64) (hs : ∀ i, argN stk i < P256) :
    Calls Sakg.prog 300 #[.pointer (some ⟨bw, 0, none⟩), .pointer (some ⟨gf, 0, none⟩), .int .u8 2] w (MakesNat w (bareN 2 stk)) := by
  have hb : bareN 2 stk = 5 := by simp [bareN]
  rw [hb]
  have HN := hide (num_any 5 w (by omega))
  have HF := hide (family_2 w)
  clear h hs hb
  go_enter Sakg.func300, Sakg.ntmps300
  go_wp2_with (first
    | (go_at_call 120; refine (unhide HF).mono ?_; rintro e w1 ⟨rfl, rfl⟩)
    | (go_at_call 97; refine (unhide HN).mono ?_; rintro e w1 ⟨A1, k1, c1, rfl, n1, N1, b1⟩; have NN1 := hide n1; clear n1))
  go_ret
  exact ⟨A1, k1, c1, rfl, unhide NN1, N1, b1⟩
set_option maxHeartbeats 4000000 in
theorem reach_2 {bw gf : Nat} {fr : List Value} {pc gas : Nat} {stk : List Nat} {mem code : List Int} {w : World} (h : FM bw gf fr pc gas stk mem code w) (hl : stk.length ≤ 64) (hs : ∀ i, argN stk i < P256) :
    Calls Sakg.prog 116 #[.pointer (some ⟨gf, 0, none⟩), .int .u8 2] w (MakesNat w (reachN 2 stk)) := by
  have hb : reachN 2 stk = 0 := by simp [reachN]
  rw [hb]
  clear h hs hb
  go_enter Sakg.func116, Sakg.ntmps116
  go_wp2
  go_ret
  exact ⟨_, _, _, rfl, IsNat.nil _, New.nil _, Below.refl _ _⟩
set_option maxHeartbeats 4000000 in
theorem bare_3 {bw gf : Nat} {fr : List Value} {pc gas : Nat} {stk : List Nat} {mem code : List Int} {w : World} (h : FM bw gf fr pc gas stk mem code w) (hl : stk.length ≤ 64) (hs : ∀ i, argN stk i < P256) :
    Calls Sakg.prog 300 #[.pointer (some ⟨bw, 0, none⟩), .pointer (some ⟨gf, 0, none⟩), .int .u8 3] w (MakesNat w (bareN 3 stk)) := by
  have hb : bareN 3 stk = 3 := by simp [bareN]
  rw [hb]
  have HN := hide (num_any 3 w (by omega))
  have HF := hide (family_3 w)
  clear h hs hb
  go_enter Sakg.func300, Sakg.ntmps300
  go_wp2_with (first
    | (go_at_call 120; refine (unhide HF).mono ?_; rintro e w1 ⟨rfl, rfl⟩)
    | (go_at_call 97; refine (unhide HN).mono ?_; rintro e w1 ⟨A1, k1, c1, rfl, n1, N1, b1⟩; have NN1 := hide n1; clear n1))
  go_ret
  exact ⟨A1, k1, c1, rfl, unhide NN1, N1, b1⟩
set_option maxHeartbeats 4000000 in
theorem reach_3 {bw gf : Nat} {fr : List Value} {pc gas : Nat} {stk : List Nat} {mem code : List Int} {w : World} (h : FM bw gf fr pc gas stk mem code w) (hl : stk.length ≤ 64) (hs : ∀ i, argN stk i < P256) :
    Calls Sakg.prog 116 #[.pointer (some ⟨gf, 0, none⟩), .int .u8 3] w (MakesNat w (reachN 3 stk)) := by
  have hb : reachN 3 stk = 0 := by simp [reachN]
  rw [hb]
  clear h hs hb
  go_enter Sakg.func116, Sakg.ntmps116
  go_wp2
  go_ret
  exact ⟨_, _, _, rfl, IsNat.nil _, New.nil _, Below.refl _ _⟩
set_option maxHeartbeats 4000000 in
theorem bare_4 {bw gf : Nat} {fr : List Value} {pc gas : Nat} {stk : List Nat} {mem code : List Int} {w : World} (h : FM bw gf fr pc gas stk mem code w) (hl : stk.length ≤ 64) (hs : ∀ i, argN stk i < P256) :
    Calls Sakg.prog 300 #[.pointer (some ⟨bw, 0, none⟩), .pointer (some ⟨gf, 0, none⟩), .int .u8 4] w (MakesNat w (bareN 4 stk)) := by
  have hb : bareN 4 stk = 5 := by simp [bareN]
  rw [hb]
  have HN := hide (num_any 5 w (by omega))
  have HF := hide (family_4 w)
  clear h hs hb
  go_enter Sakg.func300, Sakg.ntmps300
  go_wp2_with (first
    | (go_at_call 120; refine (unhide HF).mono ?_; rintro e w1 ⟨rfl, rfl⟩)
    | (go_at_call 97; refine (unhide HN).mono ?_; rintro e w1 ⟨A1, k1, c1, rfl, n1, N1, b1⟩; have NN1 := hide n1; clear n1))
  go_ret
  exact ⟨A1, k1, c1, rfl, unhide NN1, N1, b1⟩
set_option maxHeartbeats 4000000 in
theorem reach_4 {bw gf : Nat} {fr : List Value} {pc gas : Nat} {stk : List Nat} {mem code : List Int} {w : World} (h : FM bw gf fr pc gas stk mem code w) (hl : stk.length ≤ 64) (hs : ∀ i, argN stk i < P256) :
    Calls Sakg.prog 116 #[.pointer (some ⟨gf, 0, none⟩), .int .u8 4] w (MakesNat w (reachN 4 stk)) := by
  have hb : reachN 4 stk = 0 := by simp [reachN]
  rw [hb]
  clear h hs hb
  go_enter Sakg.func116, Sakg.ntmps116
  go_wp2
  go_ret
  exact ⟨_, _, _, rfl, IsNat.nil _, New.nil _, Below.refl _ _⟩
set_option maxHeartbeats 4000000 in
theorem bare_5 {bw gf : Nat} {fr : List Value} {pc gas : Nat} {stk : List Nat} {mem code : List Int} {w : World} (h : FM bw gf fr pc gas stk mem code w) (hl : stk.length ≤ 64) (hs : ∀ i, argN stk i < P256) :
    Calls Sakg.prog 300 #[.pointer (some ⟨bw, 0, none⟩), .pointer (some ⟨gf, 0, none⟩), .int .u8 5] w (MakesNat w (bareN 5 stk)) := by
  have hb : bareN 5 stk = 5 := by simp [bareN]
  rw [hb]
  have HN := hide (num_any 5 w (by omega))
  have HF := hide (family_5 w)
  clear h hs hb
  go_enter Sakg.func300, Sakg.ntmps300
  go_wp2_with (first
    | (go_at_call 120; refine (unhide HF).mono ?_; rintro e w1 ⟨rfl, rfl⟩)
    | (go_at_call 97; refine (unhide HN).mono ?_; rintro e w1 ⟨A1, k1, c1, rfl, n1, N1, b1⟩; have NN1 := hide n1; clear n1))
  go_ret
  exact ⟨A1, k1, c1, rfl, unhide NN1, N1, b1⟩
set_option maxHeartbeats 4000000 in
theorem reach_5 {bw gf : Nat} {fr : List Value} {pc gas : Nat} {stk : List Nat} {mem code : List Int} {w : World} (h : FM bw gf fr pc gas stk mem code w) (hl : stk.length ≤ 64) (hs : ∀ i, argN stk i < P256) :
    Calls Sakg.prog 116 #[.pointer (some ⟨gf, 0, none⟩), .int .u8 5] w (MakesNat w (reachN 5 stk)) := by
  have hb : reachN 5 stk = 0 := by simp [reachN]
  rw [hb]
  clear h hs hb
  go_enter Sakg.func116, Sakg.ntmps116
  go_wp2
  go_ret
  exact ⟨_, _, _, rfl, IsNat.nil _, New.nil _, Below.refl _ _⟩
set_option maxHeartbeats 4000000 in
theorem bare_6 {bw gf : Nat} {fr : List Value} {pc gas : Nat} {stk : List Nat} {mem code : List Int} {w : World} (h : FM bw gf fr pc gas stk mem code w) (hl : stk.length ≤ 64) (hs : ∀ i, argN stk i < P256) :
    Calls Sakg.prog 300 #[.pointer (some ⟨bw, 0, none⟩), .pointer (some ⟨gf, 0, none⟩), .int .u8 6] w (MakesNat w (bareN 6 stk)) := by
  have hb : bareN 6 stk = 5 := by simp [bareN]
  rw [hb]
  have HN := hide (num_any 5 w (by omega))
  have HF := hide (family_6 w)
  clear h hs hb
  go_enter Sakg.func300, Sakg.ntmps300
  go_wp2_with (first
    | (go_at_call 120; refine (unhide HF).mono ?_; rintro e w1 ⟨rfl, rfl⟩)
    | (go_at_call 97; refine (unhide HN).mono ?_; rintro e w1 ⟨A1, k1, c1, rfl, n1, N1, b1⟩; have NN1 := hide n1; clear n1))
  go_ret
  exact ⟨A1, k1, c1, rfl, unhide NN1, N1, b1⟩
set_option maxHeartbeats 4000000 in
theorem reach_6 {bw gf : Nat} {fr : List Value} {pc gas : Nat} {stk : List Nat} {mem code : List Int} {w : World} (h : FM bw gf fr pc gas stk mem code w) (hl : stk.length ≤ 64) (hs : ∀ i, argN stk i < P256) :
    Calls Sakg.prog 116 #[.pointer (some ⟨gf, 0, none⟩), .int .u8 6] w (MakesNat w (reachN 6 stk)) := by
  have hb : reachN 6 stk = 0 := by simp [reachN]
  rw [hb]
  clear h hs hb
  go_enter Sakg.func116, Sakg.ntmps116
  go_wp2
  go_ret
  exact ⟨_, _, _, rfl, IsNat.nil _, New.nil _, Below.refl _ _⟩
set_option maxHeartbeats 4000000 in
theorem bare_7 {bw gf : Nat} {fr : List Value} {pc gas : Nat} {stk : List Nat} {mem code : List Int} {w : World} (h : FM bw gf fr pc gas stk mem code w) (hl : stk.length ≤ 64) (hs : ∀ i, argN stk i < P256) :
    Calls Sakg.prog 300 #[.pointer (some ⟨bw, 0, none⟩), .pointer (some ⟨gf, 0, none⟩), .int .u8 7] w (MakesNat w (bareN 7 stk)) := by
  have hb : bareN 7 stk = 5 := by simp [bareN]
  rw [hb]
  have HN := hide (num_any 5 w (by omega))
  have HF := hide (family_7 w)
  clear h hs hb
  go_enter Sakg.func300, Sakg.ntmps300
  go_wp2_with (first
    | (go_at_call 120; refine (unhide HF).mono ?_; rintro e w1 ⟨rfl, rfl⟩)
    | (go_at_call 97; refine (unhide HN).mono ?_; rintro e w1 ⟨A1, k1, c1, rfl, n1, N1, b1⟩; have NN1 := hide n1; clear n1))
  go_ret
  exact ⟨A1, k1, c1, rfl, unhide NN1, N1, b1⟩
set_option maxHeartbeats 4000000 in
theorem reach_7 {bw gf : Nat} {fr : List Value} {pc gas : Nat} {stk : List Nat} {mem code : List Int} {w : World} (h : FM bw gf fr pc gas stk mem code w) (hl : stk.length ≤ 64) (hs : ∀ i, argN stk i < P256) :
    Calls Sakg.prog 116 #[.pointer (some ⟨gf, 0, none⟩), .int .u8 7] w (MakesNat w (reachN 7 stk)) := by
  have hb : reachN 7 stk = 0 := by simp [reachN]
  rw [hb]
  clear h hs hb
  go_enter Sakg.func116, Sakg.ntmps116
  go_wp2
  go_ret
  exact ⟨_, _, _, rfl, IsNat.nil _, New.nil _, Below.refl _ _⟩
set_option maxHeartbeats 4000000 in
theorem bare_8 {bw gf : Nat} {fr : List Value} {pc gas : Nat} {stk : List Nat} {mem code : List Int} {w : World} (h : FM bw gf fr pc gas stk mem code w) (hl : stk.length ≤ 64) (hs : ∀ i, argN stk i < P256) :
    Calls Sakg.prog 300 #[.pointer (some ⟨bw, 0, none⟩), .pointer (some ⟨gf, 0, none⟩), .int .u8 8] w (MakesNat w (bareN 8 stk)) := by
  have hb : bareN 8 stk = 8 := by simp [bareN]
  rw [hb]
  have HN := hide (num_any 8 w (by omega))
  have HF := hide (family_8 w)
  clear h hs hb
  go_enter Sakg.func300, Sakg.ntmps300
  go_wp2_with (first
    | (go_at_call 120; refine (unhide HF).mono ?_; rintro e w1 ⟨rfl, rfl⟩)
    | (go_at_call 97; refine (unhide HN).mono ?_; rintro e w1 ⟨A1, k1, c1, rfl, n1, N1, b1⟩; have NN1 := hide n1; clear n1))
  go_ret
  exact ⟨A1, k1, c1, rfl, unhide NN1, N1, b1⟩
set_option maxHeartbeats 4000000 in
theorem reach_8 {bw gf : Nat} {fr : List Value} {pc gas : Nat} {stk : List Nat} {mem code : List Int} {w : World} (h : FM bw gf fr pc gas stk mem code w) (hl : stk.length ≤ 64) (hs : ∀ i, argN stk i < P256) :
    Calls Sakg.prog 116 #[.pointer (some ⟨gf, 0, none⟩), .int .u8 8] w (MakesNat w (reachN 8 stk)) := by
  have hb : reachN 8 stk = 0 := by simp [reachN]
  rw [hb]
  clear h hs hb
  go_enter Sakg.func116, Sakg.ntmps116
  go_wp2
  go_ret
  exact ⟨_, _, _, rfl, IsNat.nil _, New.nil _, Below.refl _ _⟩
set_option maxHeartbeats 4000000 in
theorem bare_9 {bw gf : Nat} {fr : List Value} {pc gas : Nat} {stk : List Nat} {mem code : List Int} {w : World} (h : FM bw gf fr pc gas stk mem code w) (hl : stk.length ≤ 64) (hs : ∀ i, argN stk i < P256) :
    Calls Sakg.prog 300 #[.pointer (some ⟨bw, 0, none⟩), .pointer (some ⟨gf, 0, none⟩), .int .u8 9] w (MakesNat w (bareN 9 stk)) := by
  have hb : bareN 9 stk = 8 := by simp [bareN]
  rw [hb]
  have HN := hide (num_any 8 w (by omega))
  have HF := hide (family_9 w)
  clear h hs hb
  go_enter Sakg.func300, Sakg.ntmps300
  go_wp2_with (first
    | (go_at_call 120; refine (unhide HF).mono ?_; rintro e w1 ⟨rfl, rfl⟩)
    | (go_at_call 97; refine (unhide HN).mono ?_; rintro e w1 ⟨A1, k1, c1, rfl, n1, N1, b1⟩; have NN1 := hide n1; clear n1))
  go_ret
  exact ⟨A1, k1, c1, rfl, unhide NN1, N1, b1⟩
set_option maxHeartbeats 4000000 in
theorem reach_9 {bw gf : Nat} {fr : List Value} {pc gas : Nat} {stk : List Nat} {mem code : List Int} {w : World} (h : FM bw gf fr pc gas stk mem code w) (hl : stk.length ≤ 64) (hs : ∀ i, argN stk i < P256) :
    Calls Sakg.prog 116 #[.pointer (some ⟨gf, 0, none⟩), .int .u8 9] w (MakesNat w (reachN 9 stk)) := by
  have hb : reachN 9 stk = 0 := by simp [reachN]
  rw [hb]
  clear h hs hb
  go_enter Sakg.func116, Sakg.ntmps116
  go_wp2
  go_ret
  exact ⟨_, _, _, rfl, IsNat.nil _, New.nil _, Below.refl _ _⟩
set_option maxHeartbeats 4000000 in
theorem bare_10 {bw gf : Nat} {fr : List Value} {pc gas : Nat} {stk : List Nat} {mem code : List Int} {w : World} (h : FM bw gf fr pc gas stk mem code w) (hl : stk.length ≤ 64) (hs : ∀ i, argN stk i < P256) :
    Calls Sakg.prog 300 #[.pointer (some ⟨bw, 0, none⟩), .pointer (some ⟨gf, 0, none⟩), .int .u8 10] w (MakesNat w (bareN 10 stk)) := by
  have hb : bareN 10 stk = expN (argN stk 1) := by simp [bareN]
  rw [hb]
  have HA := hide (arg_any h (by omega) 1 (by omega))
  have h1 := hs 1
  have H1 := hide h1
  clear h hs hb h1
  go_enter Sakg.func300, Sakg.ntmps300
  go_wp2_with fail
  refine (unhide HA).mono ?_
  rintro e w1 ⟨⟨A1, k1, c1, rfl, s1⟩, q1⟩
  have b1 : Below w.heap.size w w1 := q1.below _
  have HE := hide (expCost_any A1 k1 c1 (argN stk 1) w1 (s1 w1 (ChgS.of b1)) (unhide H1))
  clear s1 q1
  go_wp2_with fail
  refine (unhide HE).mono ?_
  rintro e w2 ⟨A2, k2, c2, rfl, n2, N2, b2⟩
  have NN2 := hide n2
  clear n2
  go_wp2
  go_ret
  exact ⟨A2, k2, c2, rfl, unhide NN2, N2.later b1.size, b1.trans (b2.mono b1.size)⟩
set_option maxHeartbeats 4000000 in
theorem reach_10 {bw gf : Nat} {fr : List Value} {pc gas : Nat} {stk : List Nat} {mem code : List Int} {w : World} (h : FM bw gf fr pc gas stk mem code w) (hl : stk.length ≤ 64) (hs : ∀ i, argN stk i < P256) :
    Calls Sakg.prog 116 #[.pointer (some ⟨gf, 0, none⟩), .int .u8 10] w (MakesNat w (reachN 10 stk)) := by
  have hb : reachN 10 stk = 0 := by simp [reachN]
  rw [hb]
  clear h hs hb
  go_enter Sakg.func116, Sakg.ntmps116
  go_wp2
  go_ret
  exact ⟨_, _, _, rfl, IsNat.nil _, New.nil _, Below.refl _ _⟩
set_option maxHeartbeats 4000000 in
theorem bare_11 {bw gf : Nat} {fr : List Value} {pc gas : Nat} {stk : List Nat} {mem code : List Int} {w : World} (h : FM bw gf fr pc gas stk mem code w) (hl : stk.length ≤ 64) (hs : ∀ i, argN stk i < P256) :
    Calls Sakg.prog 300 #[.pointer (some ⟨bw, 0, none⟩), .pointer (some ⟨gf, 0, none⟩), .int .u8 11] w (MakesNat w (bareN 11 stk)) := by
  have hb : bareN 11 stk = 5 := by simp [bareN]
  rw [hb]
  have HN := hide (num_any 5 w (by omega))
  have HF := hide (family_11 w)
  clear h hs hb
  go_enter Sakg.func300, Sakg.ntmps300
  go_wp2_with (first
    | (go_at_call 120; refine (unhide HF).mono ?_; rintro e w1 ⟨rfl, rfl⟩)
    | (go_at_call 97; refine (unhide HN).mono ?_; rintro e w1 ⟨A1, k1, c1, rfl, n1, N1, b1⟩; have NN1 := hide n1; clear n1))
  go_ret
  exact ⟨A1, k1, c1, rfl, unhide NN1, N1, b1⟩
set_option maxHeartbeats 4000000 in
theorem reach_11 {bw gf : Nat} {fr : List Value} {pc gas : Nat} {stk : List Nat} {mem code : List Int} {w : World} (h : FM bw gf fr pc gas stk mem code w) (hl : stk.length ≤ 64) (hs : ∀ i, argN stk i < P256) :
    Calls Sakg.prog 116 #[.pointer (some ⟨gf, 0, none⟩), .int .u8 11] w (MakesNat w (reachN 11 stk)) := by
  have hb : reachN 11 stk = 0 := by simp [reachN]
  rw [hb]
  clear h hs hb
  go_enter Sakg.func116, Sakg.ntmps116
  go_wp2
  go_ret
  exact ⟨_, _, _, rfl, IsNat.nil _, New.nil _, Below.refl _ _⟩
set_option maxHeartbeats 4000000 in
theorem bare_16 {bw gf : Nat} {fr : List Value} {pc gas : Nat} {stk : List Nat} {mem code : List Int} {w : World} (h : FM bw gf fr pc gas stk mem code w) (hl : stk.length ≤ 64) (hs : ∀ i, argN stk i < P256) :
    Calls Sakg.prog 300 #[.pointer (some ⟨bw, 0, none⟩), .pointer (some ⟨gf, 0, none⟩), .int .u8 16] w (MakesNat w (bareN 16 stk)) := by
  have hb : bareN 16 stk = 3 := by simp [bareN]
  rw [hb]
  have HN := hide (num_any 3 w (by omega))
  have HF := hide (family_16 w)
  clear h hs hb
  go_enter Sakg.func300, Sakg.ntmps300
  go_wp2_with (first
    | (go_at_call 120; refine (unhide HF).mono ?_; rintro e w1 ⟨rfl, rfl⟩)
    | (go_at_call 97; refine (unhide HN).mono ?_; rintro e w1 ⟨A1, k1, c1, rfl, n1, N1, b1⟩; have NN1 := hide n1; clear n1))
  go_ret
  exact ⟨A1, k1, c1, rfl, unhide NN1, N1, b1⟩
set_option maxHeartbeats 4000000 in
theorem reach_16 {bw gf : Nat} {fr : List Value} {pc gas : Nat} {stk : List Nat} {mem code : List Int} {w : World} (h : FM bw gf fr pc gas stk mem code w) (hl : stk.length ≤ 64) (hs : ∀ i, argN stk i < P256) :
    Calls Sakg.prog 116 #[.pointer (some ⟨gf, 0, none⟩), .int .u8 16] w (MakesNat w (reachN 16 stk)) := by
  have hb : reachN 16 stk = 0 := by simp [reachN]
  rw [hb]
  clear h hs hb
  go_enter Sakg.func116, Sakg.ntmps116
  go_wp2
  go_ret
  exact ⟨_, _, _, rfl, IsNat.nil _, New.nil _, Below.refl _ _⟩
set_option maxHeartbeats 4000000 in
theorem bare_17 {bw gf : Nat} {fr : List Value} {pc gas : Nat} {stk : List Nat} {mem code : List Int} {w : World} (h : FM bw gf fr pc gas stk mem code w) (hl : stk.length ≤ 64) (hs : ∀ i, argN stk i < P256) :
    Calls Sakg.prog 300 #[.pointer (some ⟨bw, 0, none⟩), .pointer (some ⟨gf, 0, none⟩), .int .u8 17] w (MakesNat w (bareN 17 stk)) := by
  have hb : bareN 17 stk = 3 := by simp [bareN]
  rw [hb]
  have HN := hide (num_any 3 w (by omega))
  have HF := hide (family_17 w)
  clear h hs hb
  go_enter Sakg.func300, Sakg.ntmps300
  go_wp2_with (first
    | (go_at_call 120; refine (unhide HF).mono ?_; rintro e w1 ⟨rfl, rfl⟩)
    | (go_at_call 97; refine (unhide HN).mono ?_; rintro e w1 ⟨A1, k1, c1, rfl, n1, N1, b1⟩; have NN1 := hide n1; clear n1))
  go_ret
  exact ⟨A1, k1, c1, rfl, unhide NN1, N1, b1⟩
set_option maxHeartbeats 4000000 in
theorem reach_17 {bw gf : Nat} {fr : List Value} {pc gas : Nat} {stk : List Nat} {mem code : List Int} {w : World} (h : FM bw gf fr pc gas stk mem code w) (hl : stk.length ≤ 64) (hs : ∀ i, argN stk i < P256) :
    Calls Sakg.prog 116 #[.pointer (some ⟨gf, 0, none⟩), .int .u8 17] w (MakesNat w (reachN 17 stk)) := by
  have hb : reachN 17 stk = 0 := by simp [reachN]
  rw [hb]
  clear h hs hb
  go_enter Sakg.func116, Sakg.ntmps116
  go_wp2
  go_ret
  exact ⟨_, _, _, rfl, IsNat.nil _, New.nil _, Below.refl _ _⟩
set_option maxHeartbeats 4000000 in
theorem bare_18 {bw gf : Nat} {fr : List Value} {pc gas : Nat} {stk : List Nat} {mem code : List Int} {w : World} (h : FM bw gf fr pc gas stk mem code w) (hl : stk.length ≤ 64) (hs : ∀ i, argN stk i < P256) :
    Calls Sakg.prog 300 #[.pointer (some ⟨bw, 0, none⟩), .pointer (some ⟨gf, 0, none⟩), .int .u8 18] w (MakesNat w (bareN 18 stk)) := by
  have hb : bareN 18 stk = 3 := by simp [bareN]
  rw [hb]
  have HN := hide (num_any 3 w (by omega))
  have HF := hide (family_18 w)
  clear h hs hb
  go_enter Sakg.func300, Sakg.ntmps300
  go_wp2_with (first
    | (go_at_call 120; refine (unhide HF).mono ?_; rintro e w1 ⟨rfl, rfl⟩)
    | (go_at_call 97; refine (unhide HN).mono ?_; rintro e w1 ⟨A1, k1, c1, rfl, n1, N1, b1⟩; have NN1 := hide n1; clear n1))
  go_ret
  exact ⟨A1, k1, c1, rfl, unhide NN1, N1, b1⟩
set_option maxHeartbeats 4000000 in
theorem reach_18 {bw gf : Nat} {fr : List Value} {pc gas : Nat} {stk : List Nat} {mem code : List Int} {w : World} (h : FM bw gf fr pc gas stk mem code w) (hl : stk.length ≤ 64) (hs : ∀ i, argN stk i < P256) :
    Calls Sakg.prog 116 #[.pointer (some ⟨gf, 0, none⟩), .int .u8 18] w (MakesNat w (reachN 18 stk)) := by
  have hb : reachN 18 stk = 0 := by simp [reachN]
  rw [hb]
  clear h hs hb
  go_enter Sakg.func116, Sakg.ntmps116
  go_wp2
  go_ret
  exact ⟨_, _, _, rfl, IsNat.nil _, New.nil _, Below.refl _ _⟩
set_option maxHeartbeats 4000000 in
theorem bare_19 {bw gf : Nat} {fr : List Value} {pc gas : Nat} {stk : List Nat} {mem code : List Int} {w : World} (h : FM bw gf fr pc gas stk mem code w) (hl : stk.length ≤ 64) (hs : ∀ i, argN stk i < P256) :
    Calls Sakg.prog 300 #[.pointer (some ⟨bw, 0, none⟩), .pointer (some ⟨gf, 0, none⟩), .int .u8 19] w (MakesNat w (bareN 19 stk)) := by
  have hb : bareN 19 stk = 3 := by simp [bareN]
  rw [hb]
  have HN := hide (num_any 3 w (by omega))
  have HF := hide (family_19 w)
  clear h hs hb
  go_enter Sakg.func300, Sakg.ntmps300
  go_wp2_with (first
    | (go_at_call 120; refine (unhide HF).mono ?_; rintro e w1 ⟨rfl, rfl⟩)
    | (go_at_call 97; refine (unhide HN).mono ?_; rintro e w1 ⟨A1, k1, c1, rfl, n1, N1, b1⟩; have NN1 := hide n1; clear n1))
  go_ret
  exact ⟨A1, k1, c1, rfl, unhide NN1, N1, b1⟩
set_option maxHeartbeats 4000000 in
theorem reach_19 {bw gf : Nat} {fr : List Value} {pc gas : Nat} {stk : List Nat} {mem code : List Int} {w : World} (h : FM bw gf fr pc gas stk mem code w) (hl : stk.length ≤ 64) (hs : ∀ i, argN stk i < P256) :
    Calls Sakg.prog 116 #[.pointer (some ⟨gf, 0, none⟩), .int .u8 19] w (MakesNat w (reachN 19 stk)) := by
  have hb : reachN 19 stk = 0 := by simp [reachN]
  rw [hb]
  clear h hs hb
  go_enter Sakg.func116, Sakg.ntmps116
  go_wp2
  go_ret
  exact ⟨_, _, _, rfl, IsNat.nil _, New.nil _, Below.refl _ _⟩
set_option maxHeartbeats 4000000 in
theorem bare_20 {bw gf : Nat} {fr : List Value} {pc gas : Nat} {stk : List Nat} {mem code : List Int} {w : World} (h : FM bw gf fr pc gas stk mem code w) (hl : stk.length ≤ 64) (hs : ∀ i, argN stk i < P256) :
    Calls Sakg.prog 300 #[.pointer (some ⟨bw, 0, none⟩), .pointer (some ⟨gf, 0, none⟩), .int .u8 20] w (MakesNat w (bareN 20 stk)) := by
  have hb : bareN 20 stk = 3 := by simp [bareN]
  rw [hb]
  have HN := hide (num_any 3 w (by omega))
  have HF := hide (family_20 w)
  clear h hs hb
  go_enter Sakg.func300, Sakg.ntmps300
  go_wp2_with (first
    | (go_at_call 120; refine (unhide HF).mono ?_; rintro e w1 ⟨rfl, rfl⟩)
    | (go_at_call 97; refine (unhide HN).mono ?_; rintro e w1 ⟨A1, k1, c1, rfl, n1, N1, b1⟩; have NN1 := hide n1; clear n1))
  go_ret
  exact ⟨A1, k1, c1, rfl, unhide NN1, N1, b1⟩
set_option maxHeartbeats 4000000 in
theorem reach_20 {bw gf : Nat} {fr : List Value} {pc gas : Nat} {stk : List Nat} {mem code : List Int} {w : World} (h : FM bw gf fr pc gas stk mem code w) (hl : stk.length ≤ 64) (hs : ∀ i, argN stk i < P256) :
    Calls Sakg.prog 116 #[.pointer (some ⟨gf, 0, none⟩), .int .u8 20] w (MakesNat w (reachN 20 stk)) := by
  have hb : reachN 20 stk = 0 := by simp [reachN]
  rw [hb]
  clear h hs hb
  go_enter Sakg.func116, Sakg.ntmps116
  go_wp2
  go_ret
  exact ⟨_, _, _, rfl, IsNat.nil _, New.nil _, Below.refl _ _⟩
set_option maxHeartbeats 4000000 in
theorem bare_21 {bw gf : Nat} {fr : List Value} {pc gas : Nat} {stk : List Nat} {mem code : List Int} {w : World} (h : FM bw gf fr pc gas stk mem code w) (hl : stk.length ≤ 64) (hs : ∀ i, argN stk i < P256) :
    Calls Sakg.prog 300 #[.pointer (some ⟨bw, 0, none⟩), .pointer (some ⟨gf, 0, none⟩), .int .u8 21] w (MakesNat w (bareN 21 stk)) := by
  have hb : bareN 21 stk = 3 := by simp [bareN]
  rw [hb]
  have HN := hide (num_any 3 w (by omega))
  have HF := hide (family_21 w)
  clear h hs hb
  go_enter Sakg.func300, Sakg.ntmps300
  go_wp2_with (first
    | (go_at_call 120; refine (unhide HF).mono ?_; rintro e w1 ⟨rfl, rfl⟩)
    | (go_at_call 97; refine (unhide HN).mono ?_; rintro e w1 ⟨A1, k1, c1, rfl, n1, N1, b1⟩; have NN1 := hide n1; clear n1))
  go_ret
  exact ⟨A1, k1, c1, rfl, unhide NN1, N1, b1⟩
set_option maxHeartbeats 4000000 in
theorem reach_21 {bw gf : Nat} {fr : List Value} {pc gas : Nat} {stk : List Nat} {mem code : List Int} {w : World} (h : FM bw gf fr pc gas stk mem code w) (hl : stk.length ≤ 64) (hs : ∀ i, argN stk i < P256) :
    Calls Sakg.prog 116 #[.pointer (some ⟨gf, 0, none⟩), .int .u8 21] w (MakesNat w (reachN 21 stk)) := by
  have hb : reachN 21 stk = 0 := by simp [reachN]
  rw [hb]
  clear h hs hb
  go_enter Sakg.func116, Sakg.ntmps116
  go_wp2
  go_ret
  exact ⟨_, _, _, rfl, IsNat.nil _, New.nil _, Below.refl _ _⟩
set_option maxHeartbeats 4000000 in
theorem bare_22 {bw gf : Nat} {fr : List Value} {pc gas : Nat} {stk : List Nat} {mem code : List Int} {w : World} (h : FM bw gf fr pc gas stk mem code w) (hl : stk.length ≤ 64) (hs : ∀ i, argN stk i < P256) :
    Calls Sakg.prog 300 #[.pointer (some ⟨bw, 0, none⟩), .pointer (some ⟨gf, 0, none⟩), .int .u8 22] w (MakesNat w (bareN 22 stk)) := by
  have hb : bareN 22 stk = 3 := by simp [bareN]
  rw [hb]
  have HN := hide (num_any 3 w (by omega))
  have HF := hide (family_22 w)
  clear h hs hb
  go_enter Sakg.func300, Sakg.ntmps300
  go_wp2_with (first
    | (go_at_call 120; refine (unhide HF).mono ?_; rintro e w1 ⟨rfl, rfl⟩)
    | (go_at_call 97; refine (unhide HN).mono ?_; rintro e w1 ⟨A1, k1, c1, rfl, n1, N1, b1⟩; have NN1 := hide n1; clear n1))
  go_ret
  exact ⟨A1, k1, c1, rfl, unhide NN1, N1, b1⟩
set_option maxHeartbeats 4000000 in
theorem reach_22 {bw gf : Nat} {fr : List Value} {pc gas : Nat} {stk : List Nat} {mem code : List Int} {w : World} (h : FM bw gf fr pc gas stk mem code w) (hl : stk.length ≤ 64) (hs : ∀ i, argN stk i < P256) :
    Calls Sakg.prog 116 #[.pointer (some ⟨gf, 0, none⟩), .int .u8 22] w (MakesNat w (reachN 22 stk)) := by
  have hb : reachN 22 stk = 0 := by simp [reachN]
  rw [hb]
  clear h hs hb
  go_enter Sakg.func116, Sakg.ntmps116
  go_wp2
  go_ret
  exact ⟨_, _, _, rfl, IsNat.nil _, New.nil _, Below.refl _ _⟩
set_option maxHeartbeats 4000000 in
theorem bare_23 {bw gf : Nat} {fr : List Value} {pc gas : Nat} {stk : List Nat} {mem code : List Int} {w : World} (h : FM bw gf fr pc gas stk mem code w) (hl : stk.length ≤ 64) (hs : ∀ i, argN stk i < P256) :
    Calls Sakg.prog 300 #[.pointer (some ⟨bw, 0, none⟩), .pointer (some ⟨gf, 0, none⟩), .int .u8 23] w (MakesNat w (bareN 23 stk)) := by
  have hb : bareN 23 stk = 3 := by simp [bareN]
  rw [hb]
  have HN := hide (num_any 3 w (by omega))
  have HF := hide (family_23 w)
  clear h hs hb
  go_enter Sakg.func300, Sakg.ntmps300
  go_wp2_with (first
    | (go_at_call 120; refine (unhide HF).mono ?_; rintro e w1 ⟨rfl, rfl⟩)
    | (go_at_call 97; refine (unhide HN).mono ?_; rintro e w1 ⟨A1, k1, c1, rfl, n1, N1, b1⟩; have NN1 := hide n1; clear n1))
  go_ret
  exact ⟨A1, k1, c1, rfl, unhide NN1, N1, b1⟩
set_option maxHeartbeats 4000000 in
theorem reach_23 {bw gf : Nat} {fr : List Value} {pc gas : Nat} {stk : List Nat} {mem code : List Int} {w : World} (h : FM bw gf fr pc gas stk mem code w) (hl : stk.length ≤ 64) (hs : ∀ i, argN stk i < P256) :
    Calls Sakg.prog 116 #[.pointer (some ⟨gf, 0, none⟩), .int .u8 23] w (MakesNat w (reachN 23 stk)) := by
  have hb : reachN 23 stk = 0 := by simp [reachN]
  rw [hb]
  clear h hs hb
  go_enter Sakg.func116, Sakg.ntmps116
  go_wp2
  go_ret
  exact ⟨_, _, _, rfl, IsNat.nil _, New.nil _, Below.refl _ _⟩
set_option maxHeartbeats 4000000 in
theorem bare_24 {bw gf : Nat} {fr : List Value} {pc gas : Nat} {stk : List Nat} {mem code : List Int} {w : World} (h : FM bw gf fr pc gas stk mem code w) (hl : stk.length ≤ 64) (hs : ∀ i, argN stk i < P256) :
    Calls Sakg.prog 300 #[.pointer (some ⟨bw, 0, none⟩), .pointer (some ⟨gf, 0, none⟩), .int .u8 24] w (MakesNat w (bareN 24 stk)) := by
  have hb : bareN 24 stk = 3 := by simp [bareN]
  rw [hb]
  have HN := hide (num_any 3 w (by omega))
  have HF := hide (family_24 w)
  clear h hs hb
  go_enter Sakg.func300, Sakg.ntmps300
  go_wp2_with (first
    | (go_at_call 120; refine (unhide HF).mono ?_; rintro e w1 ⟨rfl, rfl⟩)
    | (go_at_call 97; refine (unhide HN).mono ?_; rintro e w1 ⟨A1, k1, c1, rfl, n1, N1, b1⟩; have NN1 := hide n1; clear n1))
  go_ret
  exact ⟨A1, k1, c1, rfl, unhide NN1, N1, b1⟩
set_option maxHeartbeats 4000000 in
theorem reach_24 {bw gf : Nat} {fr : List Value} {pc gas : Nat} {stk : List Nat} {mem code : List Int} {w : World} (h : FM bw gf fr pc gas stk mem code w) (hl : stk.length ≤ 64) (hs : ∀ i, argN stk i < P256) :
    Calls Sakg.prog 116 #[.pointer (some ⟨gf, 0, none⟩), .int .u8 24] w (MakesNat w (reachN 24 stk)) := by
  have hb : reachN 24 stk = 0 := by simp [reachN]
  rw [hb]
  clear h hs hb
  go_enter Sakg.func116, Sakg.ntmps116
  go_wp2
  go_ret
  exact ⟨_, _, _, rfl, IsNat.nil _, New.nil _, Below.refl _ _⟩
set_option maxHeartbeats 4000000 in
theorem bare_25 {bw gf : Nat} {fr : List Value} {pc gas : Nat} {stk : List Nat} {mem code : List Int} {w : World} (h : FM bw gf fr pc gas stk mem code w) (hl : stk.length ≤ 64) (hs : ∀ i, argN stk i < P256) :
    Calls Sakg.prog 300 #[.pointer (some ⟨bw, 0, none⟩), .pointer (some ⟨gf, 0, none⟩), .int .u8 25] w (MakesNat w (bareN 25 stk)) := by
  have hb : bareN 25 stk = 3 := by simp [bareN]
  rw [hb]
  have HN := hide (num_any 3 w (by omega))
  have HF := hide (family_25 w)
  clear h hs hb
  go_enter Sakg.func300, Sakg.ntmps300
  go_wp2_with (first
    | (go_at_call 120; refine (unhide HF).mono ?_; rintro e w1 ⟨rfl, rfl⟩)
    | (go_at_call 97; refine (unhide HN).mono ?_; rintro e w1 ⟨A1, k1, c1, rfl, n1, N1, b1⟩; have NN1 := hide n1; clear n1))
  go_ret
  exact ⟨A1, k1, c1, rfl, unhide NN1, N1, b1⟩
set_option maxHeartbeats 4000000 in
theorem reach_25 {bw gf : Nat} {fr : List Value} {pc gas : Nat} {stk : List Nat} {mem code : List Int} {w : World} (h : FM bw gf fr pc gas stk mem code w) (hl : stk.length ≤ 64) (hs : ∀ i, argN stk i < P256) :
    Calls Sakg.prog 116 #[.pointer (some ⟨gf, 0, none⟩), .int .u8 25] w (MakesNat w (reachN 25 stk)) := by
  have hb : reachN 25 stk = 0 := by simp [reachN]
  rw [hb]
  clear h hs hb
  go_enter Sakg.func116, Sakg.ntmps116
  go_wp2
  go_ret
  exact ⟨_, _, _, rfl, IsNat.nil _, New.nil _, Below.refl _ _⟩
set_option maxHeartbeats 4000000 in
theorem bare_26 {bw gf : Nat} {fr : List Value} {pc gas : Nat} {stk : List Nat} {mem code : List Int} {w : World} (h : FM bw gf fr pc gas stk mem code w) (hl : stk.length ≤ 64) (hs : ∀ i, argN stk i < P256) :
    Calls Sakg.prog 300 #[.pointer (some ⟨bw, 0, none⟩), .pointer (some ⟨gf, 0, none⟩), .int .u8 26] w (MakesNat w (bareN 26 stk)) := by
  have hb : bareN 26 stk = 3 := by simp [bareN]
  rw [hb]
  have HN := hide (num_any 3 w (by omega))
  have HF := hide (family_26 w)
  clear h hs hb
  go_enter Sakg.func300, Sakg.ntmps300
  go_wp2_with (first
    | (go_at_call 120; refine (unhide HF).mono ?_; rintro e w1 ⟨rfl, rfl⟩)
    | (go_at_call 97; refine (unhide HN).mono ?_; rintro e w1 ⟨A1, k1, c1, rfl, n1, N1, b1⟩; have NN1 := hide n1; clear n1))
  go_ret
  exact ⟨A1, k1, c1, rfl, unhide NN1, N1, b1⟩
set_option maxHeartbeats 4000000 in
theorem reach_26 {bw gf : Nat} {fr : List Value} {pc gas : Nat} {stk : List Nat} {mem code : List Int} {w : World} (h : FM bw gf fr pc gas stk mem code w) (hl : stk.length ≤ 64) (hs : ∀ i, argN stk i < P256) :
    Calls Sakg.prog 116 #[.pointer (some ⟨gf, 0, none⟩), .int .u8 26] w (MakesNat w (reachN 26 stk)) := by
  have hb : reachN 26 stk = 0 := by simp [reachN]
  rw [hb]
  clear h hs hb
  go_enter Sakg.func116, Sakg.ntmps116
  go_wp2
  go_ret
  exact ⟨_, _, _, rfl, IsNat.nil _, New.nil _, Below.refl _ _⟩
set_option maxHeartbeats 4000000 in
theorem bare_27 {bw gf : Nat} {fr : List Value} {pc gas : Nat} {stk : List Nat} {mem code : List Int} {w : World} (h : FM bw gf fr pc gas stk mem code w) (hl : stk.length ≤ 64) (hs : ∀ i, argN stk i < P256) :
    Calls Sakg.prog 300 #[.pointer (some ⟨bw, 0, none⟩), .pointer (some ⟨gf, 0, none⟩), .int .u8 27] w (MakesNat w (bareN 27 stk)) := by
  have hb : bareN 27 stk = 3 := by simp [bareN]
  rw [hb]
  have HN := hide (num_any 3 w (by omega))
  have HF := hide (family_27 w)
  clear h hs hb
  go_enter Sakg.func300, Sakg.ntmps300
  go_wp2_with (first
    | (go_at_call 120; refine (unhide HF).mono ?_; rintro e w1 ⟨rfl, rfl⟩)
    | (go_at_call 97; refine (unhide HN).mono ?_; rintro e w1 ⟨A1, k1, c1, rfl, n1, N1, b1⟩; have NN1 := hide n1; clear n1))
  go_ret
  exact ⟨A1, k1, c1, rfl, unhide NN1, N1, b1⟩
set_option maxHeartbeats 4000000 in
theorem reach_27 {bw gf : Nat} {fr : List Value} {pc gas : Nat} {stk : List Nat} {mem code : List Int} {w : World} (h : FM bw gf fr pc gas stk mem code w) (hl : stk.length ≤ 64) (hs : ∀ i, argN stk i < P256) :
    Calls Sakg.prog 116 #[.pointer (some ⟨gf, 0, none⟩), .int .u8 27] w (MakesNat w (reachN 27 stk)) := by
  have hb : reachN 27 stk = 0 := by simp [reachN]
  rw [hb]
  clear h hs hb
  go_enter Sakg.func116, Sakg.ntmps116
  go_wp2
  go_ret
  exact ⟨_, _, _, rfl, IsNat.nil _, New.nil _, Below.refl _ _⟩
set_option maxHeartbeats 4000000 in
theorem bare_28 {bw gf : Nat} {fr : List Value} {pc gas : Nat} {stk : List Nat} {mem code : List Int} {w : World} (h : FM bw gf fr pc gas stk mem code w) (hl : stk.length ≤ 64) (hs : ∀ i, argN stk i < P256) :
    Calls Sakg.prog 300 #[.pointer (some ⟨bw, 0, none⟩), .pointer (some ⟨gf, 0, none⟩), .int .u8 28] w (MakesNat w (bareN 28 stk)) := by
  have hb : bareN 28 stk = 3 := by simp [bareN]
  rw [hb]
  have HN := hide (num_any 3 w (by omega))
  have HF := hide (family_28 w)
  clear h hs hb
  go_enter Sakg.func300, Sakg.ntmps300
  go_wp2_with (first
    | (go_at_call 120; refine (unhide HF).mono ?_; rintro e w1 ⟨rfl, rfl⟩)
    | (go_at_call 97; refine (unhide HN).mono ?_; rintro e w1 ⟨A1, k1, c1, rfl, n1, N1, b1⟩; have NN1 := hide n1; clear n1))
  go_ret
  exact ⟨A1, k1, c1, rfl, unhide NN1, N1, b1⟩
set_option maxHeartbeats 4000000 in
theorem reach_28 {bw gf : Nat} {fr : List Value} {pc gas : Nat} {stk : List Nat} {mem code : List Int} {w : World} (h : FM bw gf fr pc gas stk mem code w) (hl : stk.length ≤ 64) (hs : ∀ i, argN stk i < P256) :
    Calls Sakg.prog 116 #[.pointer (some ⟨gf, 0, none⟩), .int .u8 28] w (MakesNat w (reachN 28 stk)) := by
  have hb : reachN 28 stk = 0 := by simp [reachN]
  rw [hb]
  clear h hs hb
  go_enter Sakg.func116, Sakg.ntmps116
  go_wp2
  go_ret
  exact ⟨_, _, _, rfl, IsNat.nil _, New.nil _, Below.refl _ _⟩
set_option maxHeartbeats 4000000 in
theorem bare_29 {bw gf : Nat} {fr : List Value} {pc gas : Nat} {stk : List Nat} {mem code : List Int} {w : World} (h : FM bw gf fr pc gas stk mem code w) (hl : stk.length ≤ 64) (hs : ∀ i, argN stk i < P256) :
    Calls Sakg.prog 300 #[.pointer (some ⟨bw, 0, none⟩), .pointer (some ⟨gf, 0, none⟩), .int .u8 29] w (MakesNat w (bareN 29 stk)) := by
  have hb : bareN 29 stk = 3 := by simp [bareN]
  rw [hb]
  have HN := hide (num_any 3 w (by omega))
  have HF := hide (family_29 w)
  clear h hs hb
  go_enter Sakg.func300, Sakg.ntmps300
  go_wp2_with (first
    | (go_at_call 120; refine (unhide HF).mono ?_; rintro e w1 ⟨rfl, rfl⟩)
    | (go_at_call 97; refine (unhide HN).mono ?_; rintro e w1 ⟨A1, k1, c1, rfl, n1, N1, b1⟩; have NN1 := hide n1; clear n1))
  go_ret
  exact ⟨A1, k1, c1, rfl, unhide NN1, N1, b1⟩
set_option maxHeartbeats 4000000 in
theorem reach_29 {bw gf : Nat} {fr : List Value} {pc gas : Nat} {stk : List Nat} {mem code : List Int} {w : World} (h : FM bw gf fr pc gas stk mem code w) (hl : stk.length ≤ 64) (hs : ∀ i, argN stk i < P256) :
    Calls Sakg.prog 116 #[.pointer (some ⟨gf, 0, none⟩), .int .u8 29] w (MakesNat w (reachN 29 stk)) := by
  have hb : reachN 29 stk = 0 := by simp [reachN]
  rw [hb]
  clear h hs hb
  go_enter Sakg.func116, Sakg.ntmps116
  go_wp2
  go_ret
  exact ⟨_, _, _, rfl, IsNat.nil _, New.nil _, Below.refl _ _⟩
set_option maxHeartbeats 4000000 in
theorem bare_82 {bw gf : Nat} {fr : List Value} {pc gas : Nat} {stk : List Nat} {mem code : List Int} {w : World} (h : FM bw gf fr pc gas stk mem code w) (hl : stk.length ≤ 64) (hs : ∀ i, argN stk i < P256) :
    Calls Sakg.prog 300 #[.pointer (some ⟨bw, 0, none⟩), .pointer (some ⟨gf, 0, none⟩), .int .u8 82] w (MakesNat w (bareN 82 stk)) := by
  have hb : bareN 82 stk = 3 := by simp [bareN]
  rw [hb]
  have HN := hide (num_any 3 w (by omega))
  have HF := hide (family_82 w)
  clear h hs hb
  go_enter Sakg.func300, Sakg.ntmps300
  go_wp2_with (first
    | (go_at_call 120; refine (unhide HF).mono ?_; rintro e w1 ⟨rfl, rfl⟩)
    | (go_at_call 97; refine (unhide HN).mono ?_; rintro e w1 ⟨A1, k1, c1, rfl, n1, N1, b1⟩; have NN1 := hide n1; clear n1))
  go_ret
  exact ⟨A1, k1, c1, rfl, unhide NN1, N1, b1⟩
set_option maxHeartbeats 4000000 in
theorem reach_82 {bw gf : Nat} {fr : List Value} {pc gas : Nat} {stk : List Nat} {mem code : List Int} {w : World} (h : FM bw gf fr pc gas stk mem code w) (hl : stk.length ≤ 64) (hs : ∀ i, argN stk i < P256) :
    Calls Sakg.prog 116 #[.pointer (some ⟨gf, 0, none⟩), .int .u8 82] w (MakesNat w (reachN 82 stk)) := by
  have hb : reachN 82 stk = endN (argN stk 0) 32 := by simp [reachN]
  rw [hb]
  have HA := hide (arg_any h (by omega) 0 (by omega))
  have HS := hide hs
  have HFM := hide h
  clear h hs hb
  go_enter Sakg.func116, Sakg.ntmps116
  go_wp2_with fail
  refine (unhide HA).mono ?_
  rintro e w1 ⟨⟨A1, k1, c1, rfl, s1⟩, q1⟩
  have b1 : Below w.heap.size w w1 := q1.below _
  have n1 := s1 w1 (ChgS.of b1)
  have NN1 := hide n1
  have HB := hide (num_any 32 w1 (by omega))
  clear s1 q1 n1
  go_wp2_with fail
  refine (unhide HB).mono ?_
  rintro e w2 ⟨A2, k2, c2, rfl, n2, -, b2⟩
  have HE := hide (end_any A1 A2 k1 c1 k2 c2 (argN stk 0) 32 w2 ((unhide NN1).kept b2) n2 (Nat.lt_trans (unhide HS 0) p256_lt) (by have := big_ge; omega))
  have d2 : Below w.heap.size w w2 := b1.trans (b2.mono b1.size)
  clear n2
  go_wp2_with fail
  refine (unhide HE).mono ?_
  rintro e w3 ⟨A3, k3, c3, rfl, n3, N3, b3⟩
  have NN3 := hide n3
  clear n3
  go_wp2
  go_ret
  exact ⟨A3, k3, c3, rfl, unhide NN3, N3.later d2.size, d2.trans (b3.mono d2.size)⟩
set_option maxHeartbeats 4000000 in
theorem bare_95 {bw gf : Nat} {fr : List Value} {pc gas : Nat} {stk : List Nat} {mem code : List Int} {w : World} (h : FM bw gf fr pc gas stk mem code w) (hl : stk.length ≤ 64) (hs : ∀ i, argN stk i < P256) :
    Calls Sakg.prog 300 #[.pointer (some ⟨bw, 0, none⟩), .pointer (some ⟨gf, 0, none⟩), .int .u8 95] w (MakesNat w (bareN 95 stk)) := by
  have hb : bareN 95 stk = 2 := by simp [bareN]
  rw [hb]
  have HN := hide (num_any 2 w (by omega))
  have HF := hide (family_95 w)
  clear h hs hb
  go_enter Sakg.func300, Sakg.ntmps300
  go_wp2_with (first
    | (go_at_call 120; refine (unhide HF).mono ?_; rintro e w1 ⟨rfl, rfl⟩)
    | (go_at_call 97; refine (unhide HN).mono ?_; rintro e w1 ⟨A1, k1, c1, rfl, n1, N1, b1⟩; have NN1 := hide n1; clear n1))
  go_ret
  exact ⟨A1, k1, c1, rfl, unhide NN1, N1, b1⟩
set_option maxHeartbeats 4000000 in
theorem reach_95 {bw gf : Nat} {fr : List Value} {pc gas : Nat} {stk : List Nat} {mem code : List Int} {w : World} (h : FM bw gf fr pc gas stk mem code w) (hl : stk.length ≤ 64) (hs : ∀ i, argN stk i < P256) :
    Calls Sakg.prog 116 #[.pointer (some ⟨gf, 0, none⟩), .int .u8 95] w (MakesNat w (reachN 95 stk)) := by
  have hb : reachN 95 stk = 0 := by simp [reachN]
  rw [hb]
  clear h hs hb
  go_enter Sakg.func116, Sakg.ntmps116
  go_wp2
  go_ret
  exact ⟨_, _, _, rfl, IsNat.nil _, New.nil _, Below.refl _ _⟩
set_option maxHeartbeats 4000000 in
theorem bare_96 {bw gf : Nat} {fr : List Value} {pc gas : Nat} {stk : List Nat} {mem code : List Int} {w : World} (h : FM bw gf fr pc gas stk mem code w) (hl : stk.length ≤ 64) (hs : ∀ i, argN stk i < P256) :
    Calls Sakg.prog 300 #[.pointer (some ⟨bw, 0, none⟩), .pointer (some ⟨gf, 0, none⟩), .int .u8 96] w (MakesNat w (bareN 96 stk)) := by
  have hb : bareN 96 stk = 3 := by simp [bareN]
  rw [hb]
  have HN := hide (num_any 3 w (by omega))
  have HF := hide (family_96 w)
  clear h hs hb
  go_enter Sakg.func300, Sakg.ntmps300
  go_wp2_with (first
    | (go_at_call 120; refine (unhide HF).mono ?_; rintro e w1 ⟨rfl, rfl⟩)
    | (go_at_call 97; refine (unhide HN).mono ?_; rintro e w1 ⟨A1, k1, c1, rfl, n1, N1, b1⟩; have NN1 := hide n1; clear n1))
  go_ret
  exact ⟨A1, k1, c1, rfl, unhide NN1, N1, b1⟩
set_option maxHeartbeats 4000000 in
theorem reach_96 {bw gf : Nat} {fr : List Value} {pc gas : Nat} {stk : List Nat} {mem code : List Int} {w : World} (h : FM bw gf fr pc gas stk mem code w) (hl : stk.length ≤ 64) (hs : ∀ i, argN stk i < P256) :
    Calls Sakg.prog 116 #[.pointer (some ⟨gf, 0, none⟩), .int .u8 96] w (MakesNat w (reachN 96 stk)) := by
  have hb : reachN 96 stk = 0 := by simp [reachN]
  rw [hb]
  clear h hs hb
  go_enter Sakg.func116, Sakg.ntmps116
  go_wp2
  go_ret
  exact ⟨_, _, _, rfl, IsNat.nil _, New.nil _, Below.refl _ _⟩
set_option maxHeartbeats 4000000 in
theorem bare_127 {bw gf : Nat} {fr : List Value} {pc gas : Nat} {stk : List Nat} {mem code : List Int} {w : World} (h : FM bw gf fr pc gas stk mem code w) (hl : stk.length ≤ 64) (hs : ∀ i, argN stk i < P256) :
    Calls Sakg.prog 300 #[.pointer (some ⟨bw, 0, none⟩), .pointer (some ⟨gf, 0, none⟩), .int .u8 127] w (MakesNat w (bareN 127 stk)) := by
  have hb : bareN 127 stk = 3 := by simp [bareN]
  rw [hb]
  have HN := hide (num_any 3 w (by omega))
  have HF := hide (family_127 w)
  clear h hs hb
  go_enter Sakg.func300, Sakg.ntmps300
  go_wp2_with (first
    | (go_at_call 120; refine (unhide HF).mono ?_; rintro e w1 ⟨rfl, rfl⟩)
    | (go_at_call 97; refine (unhide HN).mono ?_; rintro e w1 ⟨A1, k1, c1, rfl, n1, N1, b1⟩; have NN1 := hide n1; clear n1))
  go_ret
  exact ⟨A1, k1, c1, rfl, unhide NN1, N1, b1⟩
set_option maxHeartbeats 4000000 in
theorem reach_127 {bw gf : Nat} {fr : List Value} {pc gas : Nat} {stk : List Nat} {mem code : List Int} {w : World} (h : FM bw gf fr pc gas stk mem code w) (hl : stk.length ≤ 64) (hs : ∀ i, argN stk i < P256) :
    Calls Sakg.prog 116 #[.pointer (some ⟨gf, 0, none⟩), .int .u8 127] w (MakesNat w (reachN 127 stk)) := by
  have hb : reachN 127 stk = 0 := by simp [reachN]
  rw [hb]
  clear h hs hb
  go_enter Sakg.func116, Sakg.ntmps116
  go_wp2
  go_ret
  exact ⟨_, _, _, rfl, IsNat.nil _, New.nil _, Below.refl _ _⟩
set_option maxHeartbeats 4000000 in
theorem bare_243 {bw gf : Nat} {fr : List Value} {pc gas : Nat} {stk : List Nat} {mem code : List Int} {w : World} (h : FM bw gf fr pc gas stk mem code w) (hl : stk.length ≤ 64) (hs : ∀ i, argN stk i < P256) :
    Calls Sakg.prog 300 #[.pointer (some ⟨bw, 0, none⟩), .pointer (some ⟨gf, 0, none⟩), .int .u8 243] w (MakesNat w (bareN 243 stk)) := by
  have hb : bareN 243 stk = 0 := by simp [bareN]
  rw [hb]
  have HN := hide (num_any 0 w (by omega))
  have HF := hide (family_243 w)
  clear h hs hb
  go_enter Sakg.func300, Sakg.ntmps300
  go_wp2_with (first
    | (go_at_call 120; refine (unhide HF).mono ?_; rintro e w1 ⟨rfl, rfl⟩)
    | (go_at_call 97; refine (unhide HN).mono ?_; rintro e w1 ⟨A1, k1, c1, rfl, n1, N1, b1⟩; have NN1 := hide n1; clear n1))
  go_ret
  exact ⟨A1, k1, c1, rfl, unhide NN1, N1, b1⟩
set_option maxHeartbeats 4000000 in
theorem reach_243 {bw gf : Nat} {fr : List Value} {pc gas : Nat} {stk : List Nat} {mem code : List Int} {w : World} (h : FM bw gf fr pc gas stk mem code w) (hl : stk.length ≤ 64) (hs : ∀ i, argN stk i < P256) :
    Calls Sakg.prog 116 #[.pointer (some ⟨gf, 0, none⟩), .int .u8 243] w (MakesNat w (reachN 243 stk)) := by
  have hb : reachN 243 stk = endN (argN stk 0) (argN stk 1) := by simp [reachN]
  rw [hb]
  have HA := hide (arg_any h (by omega) 0 (by omega))
  have HS := hide hs
  have HFM := hide h
  clear h hs hb
  go_enter Sakg.func116, Sakg.ntmps116
  go_wp2_with fail
  refine (unhide HA).mono ?_
  rintro e w1 ⟨⟨A1, k1, c1, rfl, s1⟩, q1⟩
  have b1 : Below w.heap.size w w1 := q1.below _
  have n1 := s1 w1 (ChgS.of b1)
  have NN1 := hide n1
  have HB := hide (arg_any ((unhide HFM).kept b1) (by omega) 1 (by omega))
  clear s1 q1 n1
  go_wp2_with fail
  refine (unhide HB).mono ?_
  rintro e w2 ⟨⟨A2, k2, c2, rfl, s2⟩, q2⟩
  have b2 : Below w1.heap.size w1 w2 := q2.below _
  have n2 := s2 w2 (ChgS.of b2)
  clear s2 q2
  have HE := hide (end_any A1 A2 k1 c1 k2 c2 (argN stk 0) (argN stk 1) w2 ((unhide NN1).kept b2) n2 (Nat.lt_trans (unhide HS 0) p256_lt) (Nat.lt_trans (unhide HS 1) p256_lt))
  have d2 : Below w.heap.size w w2 := b1.trans (b2.mono b1.size)
  clear n2
  go_wp2_with fail
  refine (unhide HE).mono ?_
  rintro e w3 ⟨A3, k3, c3, rfl, n3, N3, b3⟩
  have NN3 := hide n3
  clear n3
  go_wp2
  go_ret
  exact ⟨A3, k3, c3, rfl, unhide NN3, N3.later d2.size, d2.trans (b3.mono d2.size)⟩
theorem bare_op (o : Nat) (ho : opO o) {bw gf : Nat} {fr : List Value} {pc gas : Nat} {stk : List Nat} {mem code : List Int} {w : World} (h : FM bw gf fr pc gas stk mem code w) (hl : stk.length ≤ 64) (hs : ∀ i, argN stk i < P256) :
    Calls Sakg.prog 300 #[.pointer (some ⟨bw, 0, none⟩), .pointer (some ⟨gf, 0, none⟩), .int .u8 o] w (MakesNat w (bareN o stk)) := by
  unfold opO aluO at ho
  obtain rfl | rfl | rfl | rfl | rfl | rfl | rfl | rfl | rfl | rfl | rfl | rfl | rfl | rfl | rfl | rfl | rfl | rfl | rfl | rfl | rfl | rfl | rfl | rfl | rfl | rfl | rfl | rfl | rfl | rfl := (by omega : o = 1 ∨ o = 2 ∨ o = 3 ∨ o = 4 ∨ o = 5 ∨ o = 6 ∨ o = 7 ∨ o = 8 ∨ o = 9 ∨ o = 10 ∨ o = 11 ∨ o = 16 ∨ o = 17 ∨ o = 18 ∨ o = 19 ∨ o = 20 ∨ o = 21 ∨ o = 22 ∨ o = 23 ∨ o = 24 ∨ o = 25 ∨ o = 26 ∨ o = 27 ∨ o = 28 ∨ o = 29 ∨ o = 82 ∨ o = 95 ∨ o = 96 ∨ o = 127 ∨ o = 243)
  · exact bare_1 h hl hs
  · exact bare_2 h hl hs
  · exact bare_3 h hl hs
  · exact bare_4 h hl hs
  · exact bare_5 h hl hs
  · exact bare_6 h hl hs
  · exact bare_7 h hl hs
  · exact bare_8 h hl hs
  · exact bare_9 h hl hs
  · exact bare_10 h hl hs
  · exact bare_11 h hl hs
  · exact bare_16 h hl hs
  · exact bare_17 h hl hs
  · exact bare_18 h hl hs
  · exact bare_19 h hl hs
  · exact bare_20 h hl hs
  · exact bare_21 h hl hs
  · exact bare_22 h hl hs
  · exact bare_23 h hl hs
  · exact bare_24 h hl hs
  · exact bare_25 h hl hs
  · exact bare_26 h hl hs
  · exact bare_27 h hl hs
  · exact bare_28 h hl hs
  · exact bare_29 h hl hs
  · exact bare_82 h hl hs
  · exact bare_95 h hl hs
  · exact bare_96 h hl hs
  · exact bare_127 h hl hs
  · exact bare_243 h hl hs
theorem reach_op (o : Nat) (ho : opO o) {bw gf : Nat} {fr : List Value} {pc gas : Nat} {stk : List Nat} {mem code : List Int} {w : World} (h : FM bw gf fr pc gas stk mem code w) (hl : stk.length ≤ 64) (hs : ∀ i, argN stk i < P256) :
    Calls Sakg.prog 116 #[.pointer (some ⟨gf, 0, none⟩), .int .u8 o] w (MakesNat w (reachN o stk)) := by
  unfold opO aluO at ho
  obtain rfl | rfl | rfl | rfl | rfl | rfl | rfl | rfl | rfl | rfl | rfl | rfl | rfl | rfl | rfl | rfl | rfl | rfl | rfl | rfl | rfl | rfl | rfl | rfl | rfl | rfl | rfl | rfl | rfl | rfl := (by omega : o = 1 ∨ o = 2 ∨ o = 3 ∨ o = 4 ∨ o = 5 ∨ o = 6 ∨ o = 7 ∨ o = 8 ∨ o = 9 ∨ o = 10 ∨ o = 11 ∨ o = 16 ∨ o = 17 ∨ o = 18 ∨ o = 19 ∨ o = 20 ∨ o = 21 ∨ o = 22 ∨ o = 23 ∨ o = 24 ∨ o = 25 ∨ o = 26 ∨ o = 27 ∨ o = 28 ∨ o = 29 ∨ o = 82 ∨ o = 95 ∨ o = 96 ∨ o = 127 ∨ o = 243)
  · exact reach_1 h hl hs
  · exact reach_2 h hl hs
  · exact reach_3 h hl hs
  · exact reach_4 h hl hs
  · exact reach_5 h hl hs
  · exact reach_6 h hl hs
  · exact reach_7 h hl hs
  · exact reach_8 h hl hs
  · exact reach_9 h hl hs
  · exact reach_10 h hl hs
  · exact reach_11 h hl hs
  · exact reach_16 h hl hs
  · exact reach_17 h hl hs
  · exact reach_18 h hl hs
  · exact reach_19 h hl hs
  · exact reach_20 h hl hs
  · exact reach_21 h hl hs
  · exact reach_22 h hl hs
  · exact reach_23 h hl hs
  · exact reach_24 h hl hs
  · exact reach_25 h hl hs
  · exact reach_26 h hl hs
  · exact reach_27 h hl hs
  · exact reach_28 h hl hs
  · exact reach_29 h hl hs
  · exact reach_82 h hl hs
  · exact reach_95 h hl hs
  · exact reach_96 h hl hs
  · exact reach_127 h hl hs
  · exact reach_243 h hl hs

end Go.Proofs.YgcsakGreat
