/-
  yp: reach at any instruction.
-/
import Derived.Test.YgcsakGreatKfB
namespace Go.Proofs.YgcsakGreat
set_option linter.unusedVariables false
set_option linter.unusedSimpArgs false
set_option maxRecDepth 100000
open Go.RowKit

def reachA (o : Nat) (s : List Nat) : Nat :=
  if o = 32 ∨ o = 243 ∨ o = 253 ∨ (160 ≤ o ∧ o ≤ 164) then endN (argN s 0) (argN s 1)
  else if o = 55 ∨ o = 57 ∨ o = 62 then endN (argN s 0) (argN s 2)
  else if o = 60 then endN (argN s 1) (argN s 3)
  else if o = 81 ∨ o = 82 then endN (argN s 0) 32
  else if o = 83 then endN (argN s 0) 1
  else if o = 94 then max (endN (argN s 0) (argN s 2)) (endN (argN s 1) (argN s 2))
  else if o = 240 ∨ o = 245 then endN (argN s 1) (argN s 2)
  else if o = 241 ∨ o = 242 then max (endN (argN s 3) (argN s 4)) (endN (argN s 5) (argN s 6))
  else if o = 244 ∨ o = 250 then max (endN (argN s 2) (argN s 3)) (endN (argN s 4) (argN s 5))
  else 0
theorem endN_lt {m n : Nat} (hm : m < P256) (hn : n < P256) : endN m n < 2 * P256 := by unfold endN; split <;> omega
theorem p256_big2 : 256 * P256 ≤ BIG := by
  unfold P256
  rw [← Nat.pow_succ']
  exact big_pow 33 (by omega)
theorem p256_ge : 1000000000000 < P256 := Nat.lt_of_lt_of_le (by decide : 1000000000000 < 256 ^ 6) (Nat.pow_le_pow_right (by omega) (by omega))
theorem endN_big {m n : Nat} (hm : m < P256) (hn : n < P256) : endN m n < BIG := by
  have := endN_lt hm hn
  have := p256_big2
  omega
theorem reachA_lt (o : Nat) (s : List Nat) (hs : ∀ i, argN s i < P256) : reachA o s < 2 * P256 := by
  have hP := p256_ge
  have e := fun i j => endN_lt (hs i) (hs j)
  have e1 := endN_lt (hs 0) (show 32 < P256 by omega)
  have e2 := endN_lt (hs 0) (show 1 < P256 by omega)
  unfold reachA
  split
  · exact e 0 1
  split
  · exact e 0 2
  split
  · exact e 1 3
  split
  · exact e1
  split
  · exact e2
  split
  · have := e 0 2; have := e 1 2; omega
  split
  · exact e 1 2
  split
  · have := e 3 4; have := e 5 6; omega
  split
  · have := e 2 3; have := e 4 5; omega
  omega

set_option maxHeartbeats 4000000 in
theorem reachf_32 {G : Nat → Prop} {gf o : Nat} {fr : List Value} {f : FD} {w : World} (h : FX G gf o fr f w) (hl : f.stk.length ≤ 64) (hs : ∀ i, argN f.stk i < P256) :
    Calls Sakg.prog 116 #[.pointer (some ⟨gf, o, none⟩), .int .u8 32] w (MakesNat w (reachA 32 f.stk)) := by
  rw [show reachA 32 f.stk = endN (argN f.stk 0) (argN f.stk 1) from by simp [reachA]]
  have HF := hide h
  have HS := hide hs
  have hP := p256_ge
  clear h hs
  go_enter Sakg.func116, Sakg.ntmps116
  have HC1 := hide ((unhide HF).arg (by omega) 0 (by omega))
  go_wp2_with fail
  refine (unhide HC1).mono ?_
  rintro e w1 ⟨⟨A1, k1, c1, rfl, s1⟩, q1⟩
  have b1 : Below w.heap.size w w1 := q1.below _
  have KK1 := hide s1
  clear HC1 s1 q1
  have HC2 := hide (((unhide HF).kept b1).arg (by omega) 1 (by omega))
  go_wp2_with fail
  refine (unhide HC2).mono ?_
  rintro e w2 ⟨⟨A2, k2, c2, rfl, s2⟩, q2⟩
  have b2 : Below w1.heap.size w1 w2 := q2.below _
  have KK2 := hide s2
  clear HC2 s2 q2
  have HC3 := hide (end_any A1 A2 k1 c1 k2 c2 _ _ w2 ((unhide KK1).kp (ChgS.of (b1.thn b2))).now ((unhide KK2).kp (ChgS.of b2)).now (Nat.lt_trans (unhide HS 0) p256_lt) (Nat.lt_trans (unhide HS 1) p256_lt))
  go_wp2_with fail
  refine (unhide HC3).mono ?_
  rintro e w3 ⟨A3, k3, c3, rfl, n3, N3, b3⟩
  have NN3 := hide n3
  clear HC3 n3
  go_wp2
  go_ret
  exact ⟨A3, k3, c3, rfl, (unhide NN3), N3.later (b1.thn b2).size, (b1.thn (b2.thn b3))⟩
set_option maxHeartbeats 4000000 in
theorem reachf_243 {G : Nat → Prop} {gf o : Nat} {fr : List Value} {f : FD} {w : World} (h : FX G gf o fr f w) (hl : f.stk.length ≤ 64) (hs : ∀ i, argN f.stk i < P256) :
    Calls Sakg.prog 116 #[.pointer (some ⟨gf, o, none⟩), .int .u8 243] w (MakesNat w (reachA 243 f.stk)) := by
  rw [show reachA 243 f.stk = endN (argN f.stk 0) (argN f.stk 1) from by simp [reachA]]
  have HF := hide h
  have HS := hide hs
  have hP := p256_ge
  clear h hs
  go_enter Sakg.func116, Sakg.ntmps116
  have HC1 := hide ((unhide HF).arg (by omega) 0 (by omega))
  go_wp2_with fail
  refine (unhide HC1).mono ?_
  rintro e w1 ⟨⟨A1, k1, c1, rfl, s1⟩, q1⟩
  have b1 : Below w.heap.size w w1 := q1.below _
  have KK1 := hide s1
  clear HC1 s1 q1
  have HC2 := hide (((unhide HF).kept b1).arg (by omega) 1 (by omega))
  go_wp2_with fail
  refine (unhide HC2).mono ?_
  rintro e w2 ⟨⟨A2, k2, c2, rfl, s2⟩, q2⟩
  have b2 : Below w1.heap.size w1 w2 := q2.below _
  have KK2 := hide s2
  clear HC2 s2 q2
  have HC3 := hide (end_any A1 A2 k1 c1 k2 c2 _ _ w2 ((unhide KK1).kp (ChgS.of (b1.thn b2))).now ((unhide KK2).kp (ChgS.of b2)).now (Nat.lt_trans (unhide HS 0) p256_lt) (Nat.lt_trans (unhide HS 1) p256_lt))
  go_wp2_with fail
  refine (unhide HC3).mono ?_
  rintro e w3 ⟨A3, k3, c3, rfl, n3, N3, b3⟩
  have NN3 := hide n3
  clear HC3 n3
  go_wp2
  go_ret
  exact ⟨A3, k3, c3, rfl, (unhide NN3), N3.later (b1.thn b2).size, (b1.thn (b2.thn b3))⟩
set_option maxHeartbeats 4000000 in
theorem reachf_253 {G : Nat → Prop} {gf o : Nat} {fr : List Value} {f : FD} {w : World} (h : FX G gf o fr f w) (hl : f.stk.length ≤ 64) (hs : ∀ i, argN f.stk i < P256) :
    Calls Sakg.prog 116 #[.pointer (some ⟨gf, o, none⟩), .int .u8 253] w (MakesNat w (reachA 253 f.stk)) := by
  rw [show reachA 253 f.stk = endN (argN f.stk 0) (argN f.stk 1) from by simp [reachA]]
  have HF := hide h
  have HS := hide hs
  have hP := p256_ge
  clear h hs
  go_enter Sakg.func116, Sakg.ntmps116
  have HC1 := hide ((unhide HF).arg (by omega) 0 (by omega))
  go_wp2_with fail
  refine (unhide HC1).mono ?_
  rintro e w1 ⟨⟨A1, k1, c1, rfl, s1⟩, q1⟩
  have b1 : Below w.heap.size w w1 := q1.below _
  have KK1 := hide s1
  clear HC1 s1 q1
  have HC2 := hide (((unhide HF).kept b1).arg (by omega) 1 (by omega))
  go_wp2_with fail
  refine (unhide HC2).mono ?_
  rintro e w2 ⟨⟨A2, k2, c2, rfl, s2⟩, q2⟩
  have b2 : Below w1.heap.size w1 w2 := q2.below _
  have KK2 := hide s2
  clear HC2 s2 q2
  have HC3 := hide (end_any A1 A2 k1 c1 k2 c2 _ _ w2 ((unhide KK1).kp (ChgS.of (b1.thn b2))).now ((unhide KK2).kp (ChgS.of b2)).now (Nat.lt_trans (unhide HS 0) p256_lt) (Nat.lt_trans (unhide HS 1) p256_lt))
  go_wp2_with fail
  refine (unhide HC3).mono ?_
  rintro e w3 ⟨A3, k3, c3, rfl, n3, N3, b3⟩
  have NN3 := hide n3
  clear HC3 n3
  go_wp2
  go_ret
  exact ⟨A3, k3, c3, rfl, (unhide NN3), N3.later (b1.thn b2).size, (b1.thn (b2.thn b3))⟩
set_option maxHeartbeats 4000000 in
theorem reachf_160 {G : Nat → Prop} {gf o : Nat} {fr : List Value} {f : FD} {w : World} (h : FX G gf o fr f w) (hl : f.stk.length ≤ 64) (hs : ∀ i, argN f.stk i < P256) :
    Calls Sakg.prog 116 #[.pointer (some ⟨gf, o, none⟩), .int .u8 160] w (MakesNat w (reachA 160 f.stk)) := by
  rw [show reachA 160 f.stk = endN (argN f.stk 0) (argN f.stk 1) from by simp [reachA]]
  have HF := hide h
  have HS := hide hs
  have hP := p256_ge
  clear h hs
  go_enter Sakg.func116, Sakg.ntmps116
  have HC1 := hide ((unhide HF).arg (by omega) 0 (by omega))
  go_wp2_with fail
  refine (unhide HC1).mono ?_
  rintro e w1 ⟨⟨A1, k1, c1, rfl, s1⟩, q1⟩
  have b1 : Below w.heap.size w w1 := q1.below _
  have KK1 := hide s1
  clear HC1 s1 q1
  have HC2 := hide (((unhide HF).kept b1).arg (by omega) 1 (by omega))
  go_wp2_with fail
  refine (unhide HC2).mono ?_
  rintro e w2 ⟨⟨A2, k2, c2, rfl, s2⟩, q2⟩
  have b2 : Below w1.heap.size w1 w2 := q2.below _
  have KK2 := hide s2
  clear HC2 s2 q2
  have HC3 := hide (end_any A1 A2 k1 c1 k2 c2 _ _ w2 ((unhide KK1).kp (ChgS.of (b1.thn b2))).now ((unhide KK2).kp (ChgS.of b2)).now (Nat.lt_trans (unhide HS 0) p256_lt) (Nat.lt_trans (unhide HS 1) p256_lt))
  go_wp2_with fail
  refine (unhide HC3).mono ?_
  rintro e w3 ⟨A3, k3, c3, rfl, n3, N3, b3⟩
  have NN3 := hide n3
  clear HC3 n3
  go_wp2
  go_ret
  exact ⟨A3, k3, c3, rfl, (unhide NN3), N3.later (b1.thn b2).size, (b1.thn (b2.thn b3))⟩
set_option maxHeartbeats 4000000 in
theorem reachf_161 {G : Nat → Prop} {gf o : Nat} {fr : List Value} {f : FD} {w : World} (h : FX G gf o fr f w) (hl : f.stk.length ≤ 64) (hs : ∀ i, argN f.stk i < P256) :
    Calls Sakg.prog 116 #[.pointer (some ⟨gf, o, none⟩), .int .u8 161] w (MakesNat w (reachA 161 f.stk)) := by
  rw [show reachA 161 f.stk = endN (argN f.stk 0) (argN f.stk 1) from by simp [reachA]]
  have HF := hide h
  have HS := hide hs
  have hP := p256_ge
  clear h hs
  go_enter Sakg.func116, Sakg.ntmps116
  have HC1 := hide ((unhide HF).arg (by omega) 0 (by omega))
  go_wp2_with fail
  refine (unhide HC1).mono ?_
  rintro e w1 ⟨⟨A1, k1, c1, rfl, s1⟩, q1⟩
  have b1 : Below w.heap.size w w1 := q1.below _
  have KK1 := hide s1
  clear HC1 s1 q1
  have HC2 := hide (((unhide HF).kept b1).arg (by omega) 1 (by omega))
  go_wp2_with fail
  refine (unhide HC2).mono ?_
  rintro e w2 ⟨⟨A2, k2, c2, rfl, s2⟩, q2⟩
  have b2 : Below w1.heap.size w1 w2 := q2.below _
  have KK2 := hide s2
  clear HC2 s2 q2
  have HC3 := hide (end_any A1 A2 k1 c1 k2 c2 _ _ w2 ((unhide KK1).kp (ChgS.of (b1.thn b2))).now ((unhide KK2).kp (ChgS.of b2)).now (Nat.lt_trans (unhide HS 0) p256_lt) (Nat.lt_trans (unhide HS 1) p256_lt))
  go_wp2_with fail
  refine (unhide HC3).mono ?_
  rintro e w3 ⟨A3, k3, c3, rfl, n3, N3, b3⟩
  have NN3 := hide n3
  clear HC3 n3
  go_wp2
  go_ret
  exact ⟨A3, k3, c3, rfl, (unhide NN3), N3.later (b1.thn b2).size, (b1.thn (b2.thn b3))⟩
set_option maxHeartbeats 4000000 in
theorem reachf_162 {G : Nat → Prop} {gf o : Nat} {fr : List Value} {f : FD} {w : World} (h : FX G gf o fr f w) (hl : f.stk.length ≤ 64) (hs : ∀ i, argN f.stk i < P256) :
    Calls Sakg.prog 116 #[.pointer (some ⟨gf, o, none⟩), .int .u8 162] w (MakesNat w (reachA 162 f.stk)) := by
  rw [show reachA 162 f.stk = endN (argN f.stk 0) (argN f.stk 1) from by simp [reachA]]
  have HF := hide h
  have HS := hide hs
  have hP := p256_ge
  clear h hs
  go_enter Sakg.func116, Sakg.ntmps116
  have HC1 := hide ((unhide HF).arg (by omega) 0 (by omega))
  go_wp2_with fail
  refine (unhide HC1).mono ?_
  rintro e w1 ⟨⟨A1, k1, c1, rfl, s1⟩, q1⟩
  have b1 : Below w.heap.size w w1 := q1.below _
  have KK1 := hide s1
  clear HC1 s1 q1
  have HC2 := hide (((unhide HF).kept b1).arg (by omega) 1 (by omega))
  go_wp2_with fail
  refine (unhide HC2).mono ?_
  rintro e w2 ⟨⟨A2, k2, c2, rfl, s2⟩, q2⟩
  have b2 : Below w1.heap.size w1 w2 := q2.below _
  have KK2 := hide s2
  clear HC2 s2 q2
  have HC3 := hide (end_any A1 A2 k1 c1 k2 c2 _ _ w2 ((unhide KK1).kp (ChgS.of (b1.thn b2))).now ((unhide KK2).kp (ChgS.of b2)).now (Nat.lt_trans (unhide HS 0) p256_lt) (Nat.lt_trans (unhide HS 1) p256_lt))
  go_wp2_with fail
  refine (unhide HC3).mono ?_
  rintro e w3 ⟨A3, k3, c3, rfl, n3, N3, b3⟩
  have NN3 := hide n3
  clear HC3 n3
  go_wp2
  go_ret
  exact ⟨A3, k3, c3, rfl, (unhide NN3), N3.later (b1.thn b2).size, (b1.thn (b2.thn b3))⟩
set_option maxHeartbeats 4000000 in
theorem reachf_163 {G : Nat → Prop} {gf o : Nat} {fr : List Value} {f : FD} {w : World} (h : FX G gf o fr f w) (hl : f.stk.length ≤ 64) (hs : ∀ i, argN f.stk i < P256) :
    Calls Sakg.prog 116 #[.pointer (some ⟨gf, o, none⟩), .int .u8 163] w (MakesNat w (reachA 163 f.stk)) := by
  rw [show reachA 163 f.stk = endN (argN f.stk 0) (argN f.stk 1) from by simp [reachA]]
  have HF := hide h
  have HS := hide hs
  have hP := p256_ge
  clear h hs
  go_enter Sakg.func116, Sakg.ntmps116
  have HC1 := hide ((unhide HF).arg (by omega) 0 (by omega))
  go_wp2_with fail
  refine (unhide HC1).mono ?_
  rintro e w1 ⟨⟨A1, k1, c1, rfl, s1⟩, q1⟩
  have b1 : Below w.heap.size w w1 := q1.below _
  have KK1 := hide s1
  clear HC1 s1 q1
  have HC2 := hide (((unhide HF).kept b1).arg (by omega) 1 (by omega))
  go_wp2_with fail
  refine (unhide HC2).mono ?_
  rintro e w2 ⟨⟨A2, k2, c2, rfl, s2⟩, q2⟩
  have b2 : Below w1.heap.size w1 w2 := q2.below _
  have KK2 := hide s2
  clear HC2 s2 q2
  have HC3 := hide (end_any A1 A2 k1 c1 k2 c2 _ _ w2 ((unhide KK1).kp (ChgS.of (b1.thn b2))).now ((unhide KK2).kp (ChgS.of b2)).now (Nat.lt_trans (unhide HS 0) p256_lt) (Nat.lt_trans (unhide HS 1) p256_lt))
  go_wp2_with fail
  refine (unhide HC3).mono ?_
  rintro e w3 ⟨A3, k3, c3, rfl, n3, N3, b3⟩
  have NN3 := hide n3
  clear HC3 n3
  go_wp2
  go_ret
  exact ⟨A3, k3, c3, rfl, (unhide NN3), N3.later (b1.thn b2).size, (b1.thn (b2.thn b3))⟩
set_option maxHeartbeats 4000000 in
theorem reachf_164 {G : Nat → Prop} {gf o : Nat} {fr : List Value} {f : FD} {w : World} (h : FX G gf o fr f w) (hl : f.stk.length ≤ 64) (hs : ∀ i, argN f.stk i < P256) :
    Calls Sakg.prog 116 #[.pointer (some ⟨gf, o, none⟩), .int .u8 164] w (MakesNat w (reachA 164 f.stk)) := by
  rw [show reachA 164 f.stk = endN (argN f.stk 0) (argN f.stk 1) from by simp [reachA]]
  have HF := hide h
  have HS := hide hs
  have hP := p256_ge
  clear h hs
  go_enter Sakg.func116, Sakg.ntmps116
  have HC1 := hide ((unhide HF).arg (by omega) 0 (by omega))
  go_wp2_with fail
  refine (unhide HC1).mono ?_
  rintro e w1 ⟨⟨A1, k1, c1, rfl, s1⟩, q1⟩
  have b1 : Below w.heap.size w w1 := q1.below _
  have KK1 := hide s1
  clear HC1 s1 q1
  have HC2 := hide (((unhide HF).kept b1).arg (by omega) 1 (by omega))
  go_wp2_with fail
  refine (unhide HC2).mono ?_
  rintro e w2 ⟨⟨A2, k2, c2, rfl, s2⟩, q2⟩
  have b2 : Below w1.heap.size w1 w2 := q2.below _
  have KK2 := hide s2
  clear HC2 s2 q2
  have HC3 := hide (end_any A1 A2 k1 c1 k2 c2 _ _ w2 ((unhide KK1).kp (ChgS.of (b1.thn b2))).now ((unhide KK2).kp (ChgS.of b2)).now (Nat.lt_trans (unhide HS 0) p256_lt) (Nat.lt_trans (unhide HS 1) p256_lt))
  go_wp2_with fail
  refine (unhide HC3).mono ?_
  rintro e w3 ⟨A3, k3, c3, rfl, n3, N3, b3⟩
  have NN3 := hide n3
  clear HC3 n3
  go_wp2
  go_ret
  exact ⟨A3, k3, c3, rfl, (unhide NN3), N3.later (b1.thn b2).size, (b1.thn (b2.thn b3))⟩
set_option maxHeartbeats 4000000 in
theorem reachf_55 {G : Nat → Prop} {gf o : Nat} {fr : List Value} {f : FD} {w : World} (h : FX G gf o fr f w) (hl : f.stk.length ≤ 64) (hs : ∀ i, argN f.stk i < P256) :
    Calls Sakg.prog 116 #[.pointer (some ⟨gf, o, none⟩), .int .u8 55] w (MakesNat w (reachA 55 f.stk)) := by
  rw [show reachA 55 f.stk = endN (argN f.stk 0) (argN f.stk 2) from by simp [reachA]]
  have HF := hide h
  have HS := hide hs
  have hP := p256_ge
  clear h hs
  go_enter Sakg.func116, Sakg.ntmps116
  have HC1 := hide ((unhide HF).arg (by omega) 0 (by omega))
  go_wp2_with fail
  refine (unhide HC1).mono ?_
  rintro e w1 ⟨⟨A1, k1, c1, rfl, s1⟩, q1⟩
  have b1 : Below w.heap.size w w1 := q1.below _
  have KK1 := hide s1
  clear HC1 s1 q1
  have HC2 := hide (((unhide HF).kept b1).arg (by omega) 2 (by omega))
  go_wp2_with fail
  refine (unhide HC2).mono ?_
  rintro e w2 ⟨⟨A2, k2, c2, rfl, s2⟩, q2⟩
  have b2 : Below w1.heap.size w1 w2 := q2.below _
  have KK2 := hide s2
  clear HC2 s2 q2
  have HC3 := hide (end_any A1 A2 k1 c1 k2 c2 _ _ w2 ((unhide KK1).kp (ChgS.of (b1.thn b2))).now ((unhide KK2).kp (ChgS.of b2)).now (Nat.lt_trans (unhide HS 0) p256_lt) (Nat.lt_trans (unhide HS 2) p256_lt))
  go_wp2_with fail
  refine (unhide HC3).mono ?_
  rintro e w3 ⟨A3, k3, c3, rfl, n3, N3, b3⟩
  have NN3 := hide n3
  clear HC3 n3
  go_wp2
  go_ret
  exact ⟨A3, k3, c3, rfl, (unhide NN3), N3.later (b1.thn b2).size, (b1.thn (b2.thn b3))⟩
set_option maxHeartbeats 4000000 in
theorem reachf_57 {G : Nat → Prop} {gf o : Nat} {fr : List Value} {f : FD} {w : World} (h : FX G gf o fr f w) (hl : f.stk.length ≤ 64) (hs : ∀ i, argN f.stk i < P256) :
    Calls Sakg.prog 116 #[.pointer (some ⟨gf, o, none⟩), .int .u8 57] w (MakesNat w (reachA 57 f.stk)) := by
  rw [show reachA 57 f.stk = endN (argN f.stk 0) (argN f.stk 2) from by simp [reachA]]
  have HF := hide h
  have HS := hide hs
  have hP := p256_ge
  clear h hs
  go_enter Sakg.func116, Sakg.ntmps116
  have HC1 := hide ((unhide HF).arg (by omega) 0 (by omega))
  go_wp2_with fail
  refine (unhide HC1).mono ?_
  rintro e w1 ⟨⟨A1, k1, c1, rfl, s1⟩, q1⟩
  have b1 : Below w.heap.size w w1 := q1.below _
  have KK1 := hide s1
  clear HC1 s1 q1
  have HC2 := hide (((unhide HF).kept b1).arg (by omega) 2 (by omega))
  go_wp2_with fail
  refine (unhide HC2).mono ?_
  rintro e w2 ⟨⟨A2, k2, c2, rfl, s2⟩, q2⟩
  have b2 : Below w1.heap.size w1 w2 := q2.below _
  have KK2 := hide s2
  clear HC2 s2 q2
  have HC3 := hide (end_any A1 A2 k1 c1 k2 c2 _ _ w2 ((unhide KK1).kp (ChgS.of (b1.thn b2))).now ((unhide KK2).kp (ChgS.of b2)).now (Nat.lt_trans (unhide HS 0) p256_lt) (Nat.lt_trans (unhide HS 2) p256_lt))
  go_wp2_with fail
  refine (unhide HC3).mono ?_
  rintro e w3 ⟨A3, k3, c3, rfl, n3, N3, b3⟩
  have NN3 := hide n3
  clear HC3 n3
  go_wp2
  go_ret
  exact ⟨A3, k3, c3, rfl, (unhide NN3), N3.later (b1.thn b2).size, (b1.thn (b2.thn b3))⟩
set_option maxHeartbeats 4000000 in
theorem reachf_62 {G : Nat → Prop} {gf o : Nat} {fr : List Value} {f : FD} {w : World} (h : FX G gf o fr f w) (hl : f.stk.length ≤ 64) (hs : ∀ i, argN f.stk i < P256) :
    Calls Sakg.prog 116 #[.pointer (some ⟨gf, o, none⟩), .int .u8 62] w (MakesNat w (reachA 62 f.stk)) := by
  rw [show reachA 62 f.stk = endN (argN f.stk 0) (argN f.stk 2) from by simp [reachA]]
  have HF := hide h
  have HS := hide hs
  have hP := p256_ge
  clear h hs
  go_enter Sakg.func116, Sakg.ntmps116
  have HC1 := hide ((unhide HF).arg (by omega) 0 (by omega))
  go_wp2_with fail
  refine (unhide HC1).mono ?_
  rintro e w1 ⟨⟨A1, k1, c1, rfl, s1⟩, q1⟩
  have b1 : Below w.heap.size w w1 := q1.below _
  have KK1 := hide s1
  clear HC1 s1 q1
  have HC2 := hide (((unhide HF).kept b1).arg (by omega) 2 (by omega))
  go_wp2_with fail
  refine (unhide HC2).mono ?_
  rintro e w2 ⟨⟨A2, k2, c2, rfl, s2⟩, q2⟩
  have b2 : Below w1.heap.size w1 w2 := q2.below _
  have KK2 := hide s2
  clear HC2 s2 q2
  have HC3 := hide (end_any A1 A2 k1 c1 k2 c2 _ _ w2 ((unhide KK1).kp (ChgS.of (b1.thn b2))).now ((unhide KK2).kp (ChgS.of b2)).now (Nat.lt_trans (unhide HS 0) p256_lt) (Nat.lt_trans (unhide HS 2) p256_lt))
  go_wp2_with fail
  refine (unhide HC3).mono ?_
  rintro e w3 ⟨A3, k3, c3, rfl, n3, N3, b3⟩
  have NN3 := hide n3
  clear HC3 n3
  go_wp2
  go_ret
  exact ⟨A3, k3, c3, rfl, (unhide NN3), N3.later (b1.thn b2).size, (b1.thn (b2.thn b3))⟩
set_option maxHeartbeats 4000000 in
theorem reachf_60 {G : Nat → Prop} {gf o : Nat} {fr : List Value} {f : FD} {w : World} (h : FX G gf o fr f w) (hl : f.stk.length ≤ 64) (hs : ∀ i, argN f.stk i < P256) :
    Calls Sakg.prog 116 #[.pointer (some ⟨gf, o, none⟩), .int .u8 60] w (MakesNat w (reachA 60 f.stk)) := by
  rw [show reachA 60 f.stk = endN (argN f.stk 1) (argN f.stk 3) from by simp [reachA]]
  have HF := hide h
  have HS := hide hs
  have hP := p256_ge
  clear h hs
  go_enter Sakg.func116, Sakg.ntmps116
  have HC1 := hide ((unhide HF).arg (by omega) 1 (by omega))
  go_wp2_with fail
  refine (unhide HC1).mono ?_
  rintro e w1 ⟨⟨A1, k1, c1, rfl, s1⟩, q1⟩
  have b1 : Below w.heap.size w w1 := q1.below _
  have KK1 := hide s1
  clear HC1 s1 q1
  have HC2 := hide (((unhide HF).kept b1).arg (by omega) 3 (by omega))
  go_wp2_with fail
  refine (unhide HC2).mono ?_
  rintro e w2 ⟨⟨A2, k2, c2, rfl, s2⟩, q2⟩
  have b2 : Below w1.heap.size w1 w2 := q2.below _
  have KK2 := hide s2
  clear HC2 s2 q2
  have HC3 := hide (end_any A1 A2 k1 c1 k2 c2 _ _ w2 ((unhide KK1).kp (ChgS.of (b1.thn b2))).now ((unhide KK2).kp (ChgS.of b2)).now (Nat.lt_trans (unhide HS 1) p256_lt) (Nat.lt_trans (unhide HS 3) p256_lt))
  go_wp2_with fail
  refine (unhide HC3).mono ?_
  rintro e w3 ⟨A3, k3, c3, rfl, n3, N3, b3⟩
  have NN3 := hide n3
  clear HC3 n3
  go_wp2
  go_ret
  exact ⟨A3, k3, c3, rfl, (unhide NN3), N3.later (b1.thn b2).size, (b1.thn (b2.thn b3))⟩
set_option maxHeartbeats 4000000 in
theorem reachf_81 {G : Nat → Prop} {gf o : Nat} {fr : List Value} {f : FD} {w : World} (h : FX G gf o fr f w) (hl : f.stk.length ≤ 64) (hs : ∀ i, argN f.stk i < P256) :
    Calls Sakg.prog 116 #[.pointer (some ⟨gf, o, none⟩), .int .u8 81] w (MakesNat w (reachA 81 f.stk)) := by
  rw [show reachA 81 f.stk = endN (argN f.stk 0) 32 from by simp [reachA]]
  have HF := hide h
  have HS := hide hs
  have hP := p256_ge
  clear h hs
  go_enter Sakg.func116, Sakg.ntmps116
  have HC1 := hide ((unhide HF).arg (by omega) 0 (by omega))
  go_wp2_with fail
  refine (unhide HC1).mono ?_
  rintro e w1 ⟨⟨A1, k1, c1, rfl, s1⟩, q1⟩
  have b1 : Below w.heap.size w w1 := q1.below _
  have KK1 := hide s1
  clear HC1 s1 q1
  have HC2 := hide (num_any 32 w1 (by omega))
  go_wp2_with fail
  refine (unhide HC2).mono ?_
  rintro e w2 ⟨A2, k2, c2, rfl, n2, N2, b2⟩
  have NN2 := hide n2
  clear HC2 n2
  have HC3 := hide (end_any A1 A2 k1 c1 k2 c2 _ 32 w2 ((unhide KK1).kp (ChgS.of (b1.thn b2))).now (unhide NN2) (Nat.lt_trans (unhide HS 0) p256_lt) (Nat.lt_trans (show 32 < P256 by omega) p256_lt))
  go_wp2_with fail
  refine (unhide HC3).mono ?_
  rintro e w3 ⟨A3, k3, c3, rfl, n3, N3, b3⟩
  have NN3 := hide n3
  clear HC3 n3
  go_wp2
  go_ret
  exact ⟨A3, k3, c3, rfl, (unhide NN3), N3.later (b1.thn b2).size, (b1.thn (b2.thn b3))⟩
set_option maxHeartbeats 4000000 in
theorem reachf_82 {G : Nat → Prop} {gf o : Nat} {fr : List Value} {f : FD} {w : World} (h : FX G gf o fr f w) (hl : f.stk.length ≤ 64) (hs : ∀ i, argN f.stk i < P256) :
    Calls Sakg.prog 116 #[.pointer (some ⟨gf, o, none⟩), .int .u8 82] w (MakesNat w (reachA 82 f.stk)) := by
  rw [show reachA 82 f.stk = endN (argN f.stk 0) 32 from by simp [reachA]]
  have HF := hide h
  have HS := hide hs
  have hP := p256_ge
  clear h hs
  go_enter Sakg.func116, Sakg.ntmps116
  have HC1 := hide ((unhide HF).arg (by omega) 0 (by omega))
  go_wp2_with fail
  refine (unhide HC1).mono ?_
  rintro e w1 ⟨⟨A1, k1, c1, rfl, s1⟩, q1⟩
  have b1 : Below w.heap.size w w1 := q1.below _
  have KK1 := hide s1
  clear HC1 s1 q1
  have HC2 := hide (num_any 32 w1 (by omega))
  go_wp2_with fail
  refine (unhide HC2).mono ?_
  rintro e w2 ⟨A2, k2, c2, rfl, n2, N2, b2⟩
  have NN2 := hide n2
  clear HC2 n2
  have HC3 := hide (end_any A1 A2 k1 c1 k2 c2 _ 32 w2 ((unhide KK1).kp (ChgS.of (b1.thn b2))).now (unhide NN2) (Nat.lt_trans (unhide HS 0) p256_lt) (Nat.lt_trans (show 32 < P256 by omega) p256_lt))
  go_wp2_with fail
  refine (unhide HC3).mono ?_
  rintro e w3 ⟨A3, k3, c3, rfl, n3, N3, b3⟩
  have NN3 := hide n3
  clear HC3 n3
  go_wp2
  go_ret
  exact ⟨A3, k3, c3, rfl, (unhide NN3), N3.later (b1.thn b2).size, (b1.thn (b2.thn b3))⟩
set_option maxHeartbeats 4000000 in
theorem reachf_83 {G : Nat → Prop} {gf o : Nat} {fr : List Value} {f : FD} {w : World} (h : FX G gf o fr f w) (hl : f.stk.length ≤ 64) (hs : ∀ i, argN f.stk i < P256) :
    Calls Sakg.prog 116 #[.pointer (some ⟨gf, o, none⟩), .int .u8 83] w (MakesNat w (reachA 83 f.stk)) := by
  rw [show reachA 83 f.stk = endN (argN f.stk 0) 1 from by simp [reachA]]
  have HF := hide h
  have HS := hide hs
  have hP := p256_ge
  clear h hs
  go_enter Sakg.func116, Sakg.ntmps116
  have HC1 := hide ((unhide HF).arg (by omega) 0 (by omega))
  go_wp2_with fail
  refine (unhide HC1).mono ?_
  rintro e w1 ⟨⟨A1, k1, c1, rfl, s1⟩, q1⟩
  have b1 : Below w.heap.size w w1 := q1.below _
  have KK1 := hide s1
  clear HC1 s1 q1
  have HC2 := hide (num_any 1 w1 (by omega))
  go_wp2_with fail
  refine (unhide HC2).mono ?_
  rintro e w2 ⟨A2, k2, c2, rfl, n2, N2, b2⟩
  have NN2 := hide n2
  clear HC2 n2
  have HC3 := hide (end_any A1 A2 k1 c1 k2 c2 _ 1 w2 ((unhide KK1).kp (ChgS.of (b1.thn b2))).now (unhide NN2) (Nat.lt_trans (unhide HS 0) p256_lt) (Nat.lt_trans (show 1 < P256 by omega) p256_lt))
  go_wp2_with fail
  refine (unhide HC3).mono ?_
  rintro e w3 ⟨A3, k3, c3, rfl, n3, N3, b3⟩
  have NN3 := hide n3
  clear HC3 n3
  go_wp2
  go_ret
  exact ⟨A3, k3, c3, rfl, (unhide NN3), N3.later (b1.thn b2).size, (b1.thn (b2.thn b3))⟩
set_option maxHeartbeats 4000000 in
theorem reachf_94 {G : Nat → Prop} {gf o : Nat} {fr : List Value} {f : FD} {w : World} (h : FX G gf o fr f w) (hl : f.stk.length ≤ 64) (hs : ∀ i, argN f.stk i < P256) :
    Calls Sakg.prog 116 #[.pointer (some ⟨gf, o, none⟩), .int .u8 94] w (MakesNat w (reachA 94 f.stk)) := by
  rw [show reachA 94 f.stk = max (endN (argN f.stk 0) (argN f.stk 2)) (endN (argN f.stk 1) (argN f.stk 2)) from by simp [reachA]]
  have HF := hide h
  have HS := hide hs
  have hP := p256_ge
  clear h hs
  go_enter Sakg.func116, Sakg.ntmps116
  have HC1 := hide ((unhide HF).arg (by omega) 0 (by omega))
  go_wp2_with fail
  refine (unhide HC1).mono ?_
  rintro e w1 ⟨⟨A1, k1, c1, rfl, s1⟩, q1⟩
  have b1 : Below w.heap.size w w1 := q1.below _
  have KK1 := hide s1
  clear HC1 s1 q1
  have HC2 := hide (((unhide HF).kept b1).arg (by omega) 2 (by omega))
  go_wp2_with fail
  refine (unhide HC2).mono ?_
  rintro e w2 ⟨⟨A2, k2, c2, rfl, s2⟩, q2⟩
  have b2 : Below w1.heap.size w1 w2 := q2.below _
  have KK2 := hide s2
  clear HC2 s2 q2
  have HC3 := hide (end_any A1 A2 k1 c1 k2 c2 _ _ w2 ((unhide KK1).kp (ChgS.of (b1.thn b2))).now ((unhide KK2).kp (ChgS.of b2)).now (Nat.lt_trans (unhide HS 0) p256_lt) (Nat.lt_trans (unhide HS 2) p256_lt))
  go_wp2_with fail
  refine (unhide HC3).mono ?_
  rintro e w3 ⟨A3, k3, c3, rfl, n3, N3, b3⟩
  have NN3 := hide n3
  clear HC3 n3
  have HC4 := hide (((unhide HF).kept (b1.thn (b2.thn b3))).arg (by omega) 1 (by omega))
  go_wp2_with fail
  refine (unhide HC4).mono ?_
  rintro e w4 ⟨⟨A4, k4, c4, rfl, s4⟩, q4⟩
  have b4 : Below w3.heap.size w3 w4 := q4.below _
  have KK4 := hide s4
  clear HC4 s4 q4
  have HC5 := hide (((unhide HF).kept (b1.thn (b2.thn (b3.thn b4)))).arg (by omega) 2 (by omega))
  go_wp2_with fail
  refine (unhide HC5).mono ?_
  rintro e w5 ⟨⟨A5, k5, c5, rfl, s5⟩, q5⟩
  have b5 : Below w4.heap.size w4 w5 := q5.below _
  have KK5 := hide s5
  clear HC5 s5 q5
  have HC6 := hide (end_any A4 A5 k4 c4 k5 c5 _ _ w5 ((unhide KK4).kp (ChgS.of (b4.thn b5))).now ((unhide KK5).kp (ChgS.of b5)).now (Nat.lt_trans (unhide HS 1) p256_lt) (Nat.lt_trans (unhide HS 2) p256_lt))
  go_wp2_with fail
  refine (unhide HC6).mono ?_
  rintro e w6 ⟨A6, k6, c6, rfl, n6, N6, b6⟩
  have NN6 := hide n6
  clear HC6 n6
  have hm := maxNat_any A3 A6 k3 k6 c3 c6 _ _ w6 ((unhide NN3).kept (b4.thn (b5.thn b6))) (unhide NN6) (endN_big (unhide HS 0) (unhide HS 2)) (endN_big (unhide HS 1) (unhide HS 2))
  have HC7 := hide (hm)
  go_wp2_with fail
  refine (unhide HC7).mono ?_
  rintro e w7 ⟨A9, k9, c9, rfl, hn, hA, q9⟩
  have b7 : Below w6.heap.size w6 w7 := q9.below _
  have HN := hide hn
  have HA := hide hA
  clear HC7 hn hA hm q9
  go_wp2
  go_ret
  have dd : Below w.heap.size w w7 := (b1.thn (b2.thn (b3.thn (b4.thn (b5.thn (b6.thn b7))))))
  refine ⟨A9, k9, c9, rfl, unhide HN, ?_, dd⟩
  rcases unhide HA with hA | hA
  · rw [hA]; exact N3.later (b1.thn b2).size
  · rw [hA]; exact N6.later (b1.thn (b2.thn (b3.thn (b4.thn b5)))).size
set_option maxHeartbeats 4000000 in
theorem reachf_240 {G : Nat → Prop} {gf o : Nat} {fr : List Value} {f : FD} {w : World} (h : FX G gf o fr f w) (hl : f.stk.length ≤ 64) (hs : ∀ i, argN f.stk i < P256) :
    Calls Sakg.prog 116 #[.pointer (some ⟨gf, o, none⟩), .int .u8 240] w (MakesNat w (reachA 240 f.stk)) := by
  rw [show reachA 240 f.stk = endN (argN f.stk 1) (argN f.stk 2) from by simp [reachA]]
  have HF := hide h
  have HS := hide hs
  have hP := p256_ge
  clear h hs
  go_enter Sakg.func116, Sakg.ntmps116
  have HC1 := hide ((unhide HF).arg (by omega) 1 (by omega))
  go_wp2_with fail
  refine (unhide HC1).mono ?_
  rintro e w1 ⟨⟨A1, k1, c1, rfl, s1⟩, q1⟩
  have b1 : Below w.heap.size w w1 := q1.below _
  have KK1 := hide s1
  clear HC1 s1 q1
  have HC2 := hide (((unhide HF).kept b1).arg (by omega) 2 (by omega))
  go_wp2_with fail
  refine (unhide HC2).mono ?_
  rintro e w2 ⟨⟨A2, k2, c2, rfl, s2⟩, q2⟩
  have b2 : Below w1.heap.size w1 w2 := q2.below _
  have KK2 := hide s2
  clear HC2 s2 q2
  have HC3 := hide (end_any A1 A2 k1 c1 k2 c2 _ _ w2 ((unhide KK1).kp (ChgS.of (b1.thn b2))).now ((unhide KK2).kp (ChgS.of b2)).now (Nat.lt_trans (unhide HS 1) p256_lt) (Nat.lt_trans (unhide HS 2) p256_lt))
  go_wp2_with fail
  refine (unhide HC3).mono ?_
  rintro e w3 ⟨A3, k3, c3, rfl, n3, N3, b3⟩
  have NN3 := hide n3
  clear HC3 n3
  go_wp2
  go_ret
  exact ⟨A3, k3, c3, rfl, (unhide NN3), N3.later (b1.thn b2).size, (b1.thn (b2.thn b3))⟩
set_option maxHeartbeats 4000000 in
theorem reachf_245 {G : Nat → Prop} {gf o : Nat} {fr : List Value} {f : FD} {w : World} (h : FX G gf o fr f w) (hl : f.stk.length ≤ 64) (hs : ∀ i, argN f.stk i < P256) :
    Calls Sakg.prog 116 #[.pointer (some ⟨gf, o, none⟩), .int .u8 245] w (MakesNat w (reachA 245 f.stk)) := by
  rw [show reachA 245 f.stk = endN (argN f.stk 1) (argN f.stk 2) from by simp [reachA]]
  have HF := hide h
  have HS := hide hs
  have hP := p256_ge
  clear h hs
  go_enter Sakg.func116, Sakg.ntmps116
  have HC1 := hide ((unhide HF).arg (by omega) 1 (by omega))
  go_wp2_with fail
  refine (unhide HC1).mono ?_
  rintro e w1 ⟨⟨A1, k1, c1, rfl, s1⟩, q1⟩
  have b1 : Below w.heap.size w w1 := q1.below _
  have KK1 := hide s1
  clear HC1 s1 q1
  have HC2 := hide (((unhide HF).kept b1).arg (by omega) 2 (by omega))
  go_wp2_with fail
  refine (unhide HC2).mono ?_
  rintro e w2 ⟨⟨A2, k2, c2, rfl, s2⟩, q2⟩
  have b2 : Below w1.heap.size w1 w2 := q2.below _
  have KK2 := hide s2
  clear HC2 s2 q2
  have HC3 := hide (end_any A1 A2 k1 c1 k2 c2 _ _ w2 ((unhide KK1).kp (ChgS.of (b1.thn b2))).now ((unhide KK2).kp (ChgS.of b2)).now (Nat.lt_trans (unhide HS 1) p256_lt) (Nat.lt_trans (unhide HS 2) p256_lt))
  go_wp2_with fail
  refine (unhide HC3).mono ?_
  rintro e w3 ⟨A3, k3, c3, rfl, n3, N3, b3⟩
  have NN3 := hide n3
  clear HC3 n3
  go_wp2
  go_ret
  exact ⟨A3, k3, c3, rfl, (unhide NN3), N3.later (b1.thn b2).size, (b1.thn (b2.thn b3))⟩
set_option maxHeartbeats 4000000 in
theorem reachf_241 {G : Nat → Prop} {gf o : Nat} {fr : List Value} {f : FD} {w : World} (h : FX G gf o fr f w) (hl : f.stk.length ≤ 64) (hs : ∀ i, argN f.stk i < P256) :
    Calls Sakg.prog 116 #[.pointer (some ⟨gf, o, none⟩), .int .u8 241] w (MakesNat w (reachA 241 f.stk)) := by
  rw [show reachA 241 f.stk = max (endN (argN f.stk 3) (argN f.stk 4)) (endN (argN f.stk 5) (argN f.stk 6)) from by simp [reachA]]
  have HF := hide h
  have HS := hide hs
  have hP := p256_ge
  clear h hs
  go_enter Sakg.func116, Sakg.ntmps116
  have HC1 := hide ((unhide HF).arg (by omega) 3 (by omega))
  go_wp2_with fail
  refine (unhide HC1).mono ?_
  rintro e w1 ⟨⟨A1, k1, c1, rfl, s1⟩, q1⟩
  have b1 : Below w.heap.size w w1 := q1.below _
  have KK1 := hide s1
  clear HC1 s1 q1
  have HC2 := hide (((unhide HF).kept b1).arg (by omega) 4 (by omega))
  go_wp2_with fail
  refine (unhide HC2).mono ?_
  rintro e w2 ⟨⟨A2, k2, c2, rfl, s2⟩, q2⟩
  have b2 : Below w1.heap.size w1 w2 := q2.below _
  have KK2 := hide s2
  clear HC2 s2 q2
  have HC3 := hide (end_any A1 A2 k1 c1 k2 c2 _ _ w2 ((unhide KK1).kp (ChgS.of (b1.thn b2))).now ((unhide KK2).kp (ChgS.of b2)).now (Nat.lt_trans (unhide HS 3) p256_lt) (Nat.lt_trans (unhide HS 4) p256_lt))
  go_wp2_with fail
  refine (unhide HC3).mono ?_
  rintro e w3 ⟨A3, k3, c3, rfl, n3, N3, b3⟩
  have NN3 := hide n3
  clear HC3 n3
  have HC4 := hide (((unhide HF).kept (b1.thn (b2.thn b3))).arg (by omega) 5 (by omega))
  go_wp2_with fail
  refine (unhide HC4).mono ?_
  rintro e w4 ⟨⟨A4, k4, c4, rfl, s4⟩, q4⟩
  have b4 : Below w3.heap.size w3 w4 := q4.below _
  have KK4 := hide s4
  clear HC4 s4 q4
  have HC5 := hide (((unhide HF).kept (b1.thn (b2.thn (b3.thn b4)))).arg (by omega) 6 (by omega))
  go_wp2_with fail
  refine (unhide HC5).mono ?_
  rintro e w5 ⟨⟨A5, k5, c5, rfl, s5⟩, q5⟩
  have b5 : Below w4.heap.size w4 w5 := q5.below _
  have KK5 := hide s5
  clear HC5 s5 q5
  have HC6 := hide (end_any A4 A5 k4 c4 k5 c5 _ _ w5 ((unhide KK4).kp (ChgS.of (b4.thn b5))).now ((unhide KK5).kp (ChgS.of b5)).now (Nat.lt_trans (unhide HS 5) p256_lt) (Nat.lt_trans (unhide HS 6) p256_lt))
  go_wp2_with fail
  refine (unhide HC6).mono ?_
  rintro e w6 ⟨A6, k6, c6, rfl, n6, N6, b6⟩
  have NN6 := hide n6
  clear HC6 n6
  have hm := maxNat_any A3 A6 k3 k6 c3 c6 _ _ w6 ((unhide NN3).kept (b4.thn (b5.thn b6))) (unhide NN6) (endN_big (unhide HS 3) (unhide HS 4)) (endN_big (unhide HS 5) (unhide HS 6))
  have HC7 := hide (hm)
  go_wp2_with fail
  refine (unhide HC7).mono ?_
  rintro e w7 ⟨A9, k9, c9, rfl, hn, hA, q9⟩
  have b7 : Below w6.heap.size w6 w7 := q9.below _
  have HN := hide hn
  have HA := hide hA
  clear HC7 hn hA hm q9
  go_wp2
  go_ret
  have dd : Below w.heap.size w w7 := (b1.thn (b2.thn (b3.thn (b4.thn (b5.thn (b6.thn b7))))))
  refine ⟨A9, k9, c9, rfl, unhide HN, ?_, dd⟩
  rcases unhide HA with hA | hA
  · rw [hA]; exact N3.later (b1.thn b2).size
  · rw [hA]; exact N6.later (b1.thn (b2.thn (b3.thn (b4.thn b5)))).size
set_option maxHeartbeats 4000000 in
theorem reachf_242 {G : Nat → Prop} {gf o : Nat} {fr : List Value} {f : FD} {w : World} (h : FX G gf o fr f w) (hl : f.stk.length ≤ 64) (hs : ∀ i, argN f.stk i < P256) :
    Calls Sakg.prog 116 #[.pointer (some ⟨gf, o, none⟩), .int .u8 242] w (MakesNat w (reachA 242 f.stk)) := by
  rw [show reachA 242 f.stk = max (endN (argN f.stk 3) (argN f.stk 4)) (endN (argN f.stk 5) (argN f.stk 6)) from by simp [reachA]]
  have HF := hide h
  have HS := hide hs
  have hP := p256_ge
  clear h hs
  go_enter Sakg.func116, Sakg.ntmps116
  have HC1 := hide ((unhide HF).arg (by omega) 3 (by omega))
  go_wp2_with fail
  refine (unhide HC1).mono ?_
  rintro e w1 ⟨⟨A1, k1, c1, rfl, s1⟩, q1⟩
  have b1 : Below w.heap.size w w1 := q1.below _
  have KK1 := hide s1
  clear HC1 s1 q1
  have HC2 := hide (((unhide HF).kept b1).arg (by omega) 4 (by omega))
  go_wp2_with fail
  refine (unhide HC2).mono ?_
  rintro e w2 ⟨⟨A2, k2, c2, rfl, s2⟩, q2⟩
  have b2 : Below w1.heap.size w1 w2 := q2.below _
  have KK2 := hide s2
  clear HC2 s2 q2
  have HC3 := hide (end_any A1 A2 k1 c1 k2 c2 _ _ w2 ((unhide KK1).kp (ChgS.of (b1.thn b2))).now ((unhide KK2).kp (ChgS.of b2)).now (Nat.lt_trans (unhide HS 3) p256_lt) (Nat.lt_trans (unhide HS 4) p256_lt))
  go_wp2_with fail
  refine (unhide HC3).mono ?_
  rintro e w3 ⟨A3, k3, c3, rfl, n3, N3, b3⟩
  have NN3 := hide n3
  clear HC3 n3
  have HC4 := hide (((unhide HF).kept (b1.thn (b2.thn b3))).arg (by omega) 5 (by omega))
  go_wp2_with fail
  refine (unhide HC4).mono ?_
  rintro e w4 ⟨⟨A4, k4, c4, rfl, s4⟩, q4⟩
  have b4 : Below w3.heap.size w3 w4 := q4.below _
  have KK4 := hide s4
  clear HC4 s4 q4
  have HC5 := hide (((unhide HF).kept (b1.thn (b2.thn (b3.thn b4)))).arg (by omega) 6 (by omega))
  go_wp2_with fail
  refine (unhide HC5).mono ?_
  rintro e w5 ⟨⟨A5, k5, c5, rfl, s5⟩, q5⟩
  have b5 : Below w4.heap.size w4 w5 := q5.below _
  have KK5 := hide s5
  clear HC5 s5 q5
  have HC6 := hide (end_any A4 A5 k4 c4 k5 c5 _ _ w5 ((unhide KK4).kp (ChgS.of (b4.thn b5))).now ((unhide KK5).kp (ChgS.of b5)).now (Nat.lt_trans (unhide HS 5) p256_lt) (Nat.lt_trans (unhide HS 6) p256_lt))
  go_wp2_with fail
  refine (unhide HC6).mono ?_
  rintro e w6 ⟨A6, k6, c6, rfl, n6, N6, b6⟩
  have NN6 := hide n6
  clear HC6 n6
  have hm := maxNat_any A3 A6 k3 k6 c3 c6 _ _ w6 ((unhide NN3).kept (b4.thn (b5.thn b6))) (unhide NN6) (endN_big (unhide HS 3) (unhide HS 4)) (endN_big (unhide HS 5) (unhide HS 6))
  have HC7 := hide (hm)
  go_wp2_with fail
  refine (unhide HC7).mono ?_
  rintro e w7 ⟨A9, k9, c9, rfl, hn, hA, q9⟩
  have b7 : Below w6.heap.size w6 w7 := q9.below _
  have HN := hide hn
  have HA := hide hA
  clear HC7 hn hA hm q9
  go_wp2
  go_ret
  have dd : Below w.heap.size w w7 := (b1.thn (b2.thn (b3.thn (b4.thn (b5.thn (b6.thn b7))))))
  refine ⟨A9, k9, c9, rfl, unhide HN, ?_, dd⟩
  rcases unhide HA with hA | hA
  · rw [hA]; exact N3.later (b1.thn b2).size
  · rw [hA]; exact N6.later (b1.thn (b2.thn (b3.thn (b4.thn b5)))).size
set_option maxHeartbeats 4000000 in
theorem reachf_244 {G : Nat → Prop} {gf o : Nat} {fr : List Value} {f : FD} {w : World} (h : FX G gf o fr f w) (hl : f.stk.length ≤ 64) (hs : ∀ i, argN f.stk i < P256) :
    Calls Sakg.prog 116 #[.pointer (some ⟨gf, o, none⟩), .int .u8 244] w (MakesNat w (reachA 244 f.stk)) := by
  rw [show reachA 244 f.stk = max (endN (argN f.stk 2) (argN f.stk 3)) (endN (argN f.stk 4) (argN f.stk 5)) from by simp [reachA]]
  have HF := hide h
  have HS := hide hs
  have hP := p256_ge
  clear h hs
  go_enter Sakg.func116, Sakg.ntmps116
  have HC1 := hide ((unhide HF).arg (by omega) 2 (by omega))
  go_wp2_with fail
  refine (unhide HC1).mono ?_
  rintro e w1 ⟨⟨A1, k1, c1, rfl, s1⟩, q1⟩
  have b1 : Below w.heap.size w w1 := q1.below _
  have KK1 := hide s1
  clear HC1 s1 q1
  have HC2 := hide (((unhide HF).kept b1).arg (by omega) 3 (by omega))
  go_wp2_with fail
  refine (unhide HC2).mono ?_
  rintro e w2 ⟨⟨A2, k2, c2, rfl, s2⟩, q2⟩
  have b2 : Below w1.heap.size w1 w2 := q2.below _
  have KK2 := hide s2
  clear HC2 s2 q2
  have HC3 := hide (end_any A1 A2 k1 c1 k2 c2 _ _ w2 ((unhide KK1).kp (ChgS.of (b1.thn b2))).now ((unhide KK2).kp (ChgS.of b2)).now (Nat.lt_trans (unhide HS 2) p256_lt) (Nat.lt_trans (unhide HS 3) p256_lt))
  go_wp2_with fail
  refine (unhide HC3).mono ?_
  rintro e w3 ⟨A3, k3, c3, rfl, n3, N3, b3⟩
  have NN3 := hide n3
  clear HC3 n3
  have HC4 := hide (((unhide HF).kept (b1.thn (b2.thn b3))).arg (by omega) 4 (by omega))
  go_wp2_with fail
  refine (unhide HC4).mono ?_
  rintro e w4 ⟨⟨A4, k4, c4, rfl, s4⟩, q4⟩
  have b4 : Below w3.heap.size w3 w4 := q4.below _
  have KK4 := hide s4
  clear HC4 s4 q4
  have HC5 := hide (((unhide HF).kept (b1.thn (b2.thn (b3.thn b4)))).arg (by omega) 5 (by omega))
  go_wp2_with fail
  refine (unhide HC5).mono ?_
  rintro e w5 ⟨⟨A5, k5, c5, rfl, s5⟩, q5⟩
  have b5 : Below w4.heap.size w4 w5 := q5.below _
  have KK5 := hide s5
  clear HC5 s5 q5
  have HC6 := hide (end_any A4 A5 k4 c4 k5 c5 _ _ w5 ((unhide KK4).kp (ChgS.of (b4.thn b5))).now ((unhide KK5).kp (ChgS.of b5)).now (Nat.lt_trans (unhide HS 4) p256_lt) (Nat.lt_trans (unhide HS 5) p256_lt))
  go_wp2_with fail
  refine (unhide HC6).mono ?_
  rintro e w6 ⟨A6, k6, c6, rfl, n6, N6, b6⟩
  have NN6 := hide n6
  clear HC6 n6
  have hm := maxNat_any A3 A6 k3 k6 c3 c6 _ _ w6 ((unhide NN3).kept (b4.thn (b5.thn b6))) (unhide NN6) (endN_big (unhide HS 2) (unhide HS 3)) (endN_big (unhide HS 4) (unhide HS 5))
  have HC7 := hide (hm)
  go_wp2_with fail
  refine (unhide HC7).mono ?_
  rintro e w7 ⟨A9, k9, c9, rfl, hn, hA, q9⟩
  have b7 : Below w6.heap.size w6 w7 := q9.below _
  have HN := hide hn
  have HA := hide hA
  clear HC7 hn hA hm q9
  go_wp2
  go_ret
  have dd : Below w.heap.size w w7 := (b1.thn (b2.thn (b3.thn (b4.thn (b5.thn (b6.thn b7))))))
  refine ⟨A9, k9, c9, rfl, unhide HN, ?_, dd⟩
  rcases unhide HA with hA | hA
  · rw [hA]; exact N3.later (b1.thn b2).size
  · rw [hA]; exact N6.later (b1.thn (b2.thn (b3.thn (b4.thn b5)))).size
set_option maxHeartbeats 4000000 in
theorem reachf_250 {G : Nat → Prop} {gf o : Nat} {fr : List Value} {f : FD} {w : World} (h : FX G gf o fr f w) (hl : f.stk.length ≤ 64) (hs : ∀ i, argN f.stk i < P256) :
    Calls Sakg.prog 116 #[.pointer (some ⟨gf, o, none⟩), .int .u8 250] w (MakesNat w (reachA 250 f.stk)) := by
  rw [show reachA 250 f.stk = max (endN (argN f.stk 2) (argN f.stk 3)) (endN (argN f.stk 4) (argN f.stk 5)) from by simp [reachA]]
  have HF := hide h
  have HS := hide hs
  have hP := p256_ge
  clear h hs
  go_enter Sakg.func116, Sakg.ntmps116
  have HC1 := hide ((unhide HF).arg (by omega) 2 (by omega))
  go_wp2_with fail
  refine (unhide HC1).mono ?_
  rintro e w1 ⟨⟨A1, k1, c1, rfl, s1⟩, q1⟩
  have b1 : Below w.heap.size w w1 := q1.below _
  have KK1 := hide s1
  clear HC1 s1 q1
  have HC2 := hide (((unhide HF).kept b1).arg (by omega) 3 (by omega))
  go_wp2_with fail
  refine (unhide HC2).mono ?_
  rintro e w2 ⟨⟨A2, k2, c2, rfl, s2⟩, q2⟩
  have b2 : Below w1.heap.size w1 w2 := q2.below _
  have KK2 := hide s2
  clear HC2 s2 q2
  have HC3 := hide (end_any A1 A2 k1 c1 k2 c2 _ _ w2 ((unhide KK1).kp (ChgS.of (b1.thn b2))).now ((unhide KK2).kp (ChgS.of b2)).now (Nat.lt_trans (unhide HS 2) p256_lt) (Nat.lt_trans (unhide HS 3) p256_lt))
  go_wp2_with fail
  refine (unhide HC3).mono ?_
  rintro e w3 ⟨A3, k3, c3, rfl, n3, N3, b3⟩
  have NN3 := hide n3
  clear HC3 n3
  have HC4 := hide (((unhide HF).kept (b1.thn (b2.thn b3))).arg (by omega) 4 (by omega))
  go_wp2_with fail
  refine (unhide HC4).mono ?_
  rintro e w4 ⟨⟨A4, k4, c4, rfl, s4⟩, q4⟩
  have b4 : Below w3.heap.size w3 w4 := q4.below _
  have KK4 := hide s4
  clear HC4 s4 q4
  have HC5 := hide (((unhide HF).kept (b1.thn (b2.thn (b3.thn b4)))).arg (by omega) 5 (by omega))
  go_wp2_with fail
  refine (unhide HC5).mono ?_
  rintro e w5 ⟨⟨A5, k5, c5, rfl, s5⟩, q5⟩
  have b5 : Below w4.heap.size w4 w5 := q5.below _
  have KK5 := hide s5
  clear HC5 s5 q5
  have HC6 := hide (end_any A4 A5 k4 c4 k5 c5 _ _ w5 ((unhide KK4).kp (ChgS.of (b4.thn b5))).now ((unhide KK5).kp (ChgS.of b5)).now (Nat.lt_trans (unhide HS 4) p256_lt) (Nat.lt_trans (unhide HS 5) p256_lt))
  go_wp2_with fail
  refine (unhide HC6).mono ?_
  rintro e w6 ⟨A6, k6, c6, rfl, n6, N6, b6⟩
  have NN6 := hide n6
  clear HC6 n6
  have hm := maxNat_any A3 A6 k3 k6 c3 c6 _ _ w6 ((unhide NN3).kept (b4.thn (b5.thn b6))) (unhide NN6) (endN_big (unhide HS 2) (unhide HS 3)) (endN_big (unhide HS 4) (unhide HS 5))
  have HC7 := hide (hm)
  go_wp2_with fail
  refine (unhide HC7).mono ?_
  rintro e w7 ⟨A9, k9, c9, rfl, hn, hA, q9⟩
  have b7 : Below w6.heap.size w6 w7 := q9.below _
  have HN := hide hn
  have HA := hide hA
  clear HC7 hn hA hm q9
  go_wp2
  go_ret
  have dd : Below w.heap.size w w7 := (b1.thn (b2.thn (b3.thn (b4.thn (b5.thn (b6.thn b7))))))
  refine ⟨A9, k9, c9, rfl, unhide HN, ?_, dd⟩
  rcases unhide HA with hA | hA
  · rw [hA]; exact N3.later (b1.thn b2).size
  · rw [hA]; exact N6.later (b1.thn (b2.thn (b3.thn (b4.thn b5)))).size
set_option maxHeartbeats 4000000 in
theorem reachf_other {G : Nat → Prop} {gf o : Nat} {fr : List Value} {f : FD} {w : World} (h : FX G gf o fr f w) (p : Nat) (hp : p ≤ 255) (h32 : p ≠ 32) (h243 : p ≠ 243) (h253 : p ≠ 253) (h160 : p ≠ 160) (h161 : p ≠ 161) (h162 : p ≠ 162) (h163 : p ≠ 163) (h164 : p ≠ 164) (h55 : p ≠ 55) (h57 : p ≠ 57) (h62 : p ≠ 62) (h60 : p ≠ 60) (h81 : p ≠ 81) (h82 : p ≠ 82) (h83 : p ≠ 83) (h94 : p ≠ 94) (h240 : p ≠ 240) (h245 : p ≠ 245) (h241 : p ≠ 241) (h242 : p ≠ 242) (h244 : p ≠ 244) (h250 : p ≠ 250) :
    Calls Sakg.prog 116 #[.pointer (some ⟨gf, o, none⟩), .int .u8 p] w (MakesNat w (reachA p f.stk)) := by
  rw [show reachA p f.stk = 0 from by unfold reachA; simp only [h32, h243, h253, h160, h161, h162, h163, h164, h55, h57, h62, h60, h81, h82, h83, h94, h240, h245, h241, h242, h244, h250, false_or, or_false, if_false]; rw [if_neg (by omega)]]
  have t32 : ((p : Int) == 32) = false := by rw [beq_eq_false_iff_ne]; omega
  have t243 : ((p : Int) == 243) = false := by rw [beq_eq_false_iff_ne]; omega
  have t253 : ((p : Int) == 253) = false := by rw [beq_eq_false_iff_ne]; omega
  have t55 : ((p : Int) == 55) = false := by rw [beq_eq_false_iff_ne]; omega
  have t57 : ((p : Int) == 57) = false := by rw [beq_eq_false_iff_ne]; omega
  have t62 : ((p : Int) == 62) = false := by rw [beq_eq_false_iff_ne]; omega
  have t60 : ((p : Int) == 60) = false := by rw [beq_eq_false_iff_ne]; omega
  have t81 : ((p : Int) == 81) = false := by rw [beq_eq_false_iff_ne]; omega
  have t82 : ((p : Int) == 82) = false := by rw [beq_eq_false_iff_ne]; omega
  have t83 : ((p : Int) == 83) = false := by rw [beq_eq_false_iff_ne]; omega
  have t94 : ((p : Int) == 94) = false := by rw [beq_eq_false_iff_ne]; omega
  have t240 : ((p : Int) == 240) = false := by rw [beq_eq_false_iff_ne]; omega
  have t245 : ((p : Int) == 245) = false := by rw [beq_eq_false_iff_ne]; omega
  have t241 : ((p : Int) == 241) = false := by rw [beq_eq_false_iff_ne]; omega
  have t242 : ((p : Int) == 242) = false := by rw [beq_eq_false_iff_ne]; omega
  have t244 : ((p : Int) == 244) = false := by rw [beq_eq_false_iff_ne]; omega
  have t250 : ((p : Int) == 250) = false := by rw [beq_eq_false_iff_ne]; omega
  clear h h32 h243 h253 h55 h57 h62 h60 h81 h82 h83 h94 h240 h245 h241 h242 h244 h250
  by_cases hge : 160 ≤ p
  · have u1 : decide ((160 : Int) ≤ (p : Int)) = true := decide_eq_true (by omega)
    have u2 : decide ((p : Int) ≤ 164) = false := decide_eq_false (by omega)
    go_enter Sakg.func116, Sakg.ntmps116
    go_wp2
    go_ret
    exact ⟨_, _, _, rfl, IsNat.nil _, New.nil _, Below.refl _ _⟩
  · have u1 : decide ((160 : Int) ≤ (p : Int)) = false := decide_eq_false (by omega)
    go_enter Sakg.func116, Sakg.ntmps116
    go_wp2
    go_ret
    exact ⟨_, _, _, rfl, IsNat.nil _, New.nil _, Below.refl _ _⟩
theorem FX.reach {G : Nat → Prop} {gf o : Nat} {fr : List Value} {f : FD} {w : World} (h : FX G gf o fr f w) (hl : f.stk.length ≤ 64) (hs : ∀ i, argN f.stk i < P256) (p : Nat) (hp : p ≤ 255) :
    Calls Sakg.prog 116 #[.pointer (some ⟨gf, o, none⟩), .int .u8 p] w (MakesNat w (reachA p f.stk)) := by
  by_cases h32 : p = 32
  · subst h32; exact reachf_32 h hl hs
  by_cases h243 : p = 243
  · subst h243; exact reachf_243 h hl hs
  by_cases h253 : p = 253
  · subst h253; exact reachf_253 h hl hs
  by_cases h160 : p = 160
  · subst h160; exact reachf_160 h hl hs
  by_cases h161 : p = 161
  · subst h161; exact reachf_161 h hl hs
  by_cases h162 : p = 162
  · subst h162; exact reachf_162 h hl hs
  by_cases h163 : p = 163
  · subst h163; exact reachf_163 h hl hs
  by_cases h164 : p = 164
  · subst h164; exact reachf_164 h hl hs
  by_cases h55 : p = 55
  · subst h55; exact reachf_55 h hl hs
  by_cases h57 : p = 57
  · subst h57; exact reachf_57 h hl hs
  by_cases h62 : p = 62
  · subst h62; exact reachf_62 h hl hs
  by_cases h60 : p = 60
  · subst h60; exact reachf_60 h hl hs
  by_cases h81 : p = 81
  · subst h81; exact reachf_81 h hl hs
  by_cases h82 : p = 82
  · subst h82; exact reachf_82 h hl hs
  by_cases h83 : p = 83
  · subst h83; exact reachf_83 h hl hs
  by_cases h94 : p = 94
  · subst h94; exact reachf_94 h hl hs
  by_cases h240 : p = 240
  · subst h240; exact reachf_240 h hl hs
  by_cases h245 : p = 245
  · subst h245; exact reachf_245 h hl hs
  by_cases h241 : p = 241
  · subst h241; exact reachf_241 h hl hs
  by_cases h242 : p = 242
  · subst h242; exact reachf_242 h hl hs
  by_cases h244 : p = 244
  · subst h244; exact reachf_244 h hl hs
  by_cases h250 : p = 250
  · subst h250; exact reachf_250 h hl hs
  exact reachf_other h p hp h32 h243 h253 h160 h161 h162 h163 h164 h55 h57 h62 h60 h81 h82 h83 h94 h240 h245 h241 h242 h244 h250

end Go.Proofs.YgcsakGreat
