/-
  yp, exactly: bareCost at some instructions.
-/
import Derived.Test.YgcsakGreatKgF0
import Derived.Test.YgcsakGreatXwA
import Derived.Test.YgcsakGreatXwB
namespace Go.Proofs.YgcsakGreat
set_option linter.unusedVariables false
set_option linter.unusedSimpArgs false
set_option maxRecDepth 100000
open Go.RowKit

section
variable {G : Nat → Prop} {bw gf : Nat} {cs fr : List Value} {d : WD} {f : FD} {r : List FD} {x : XD} {w : World} {B : Nat}
set_option maxHeartbeats 8000000 in
theorem bareX_0 (h : SR G bw gf cs fr d (f :: r) x w) (hx : XB x) (hg : Good B d) (hf : AnyF f) :
    Calls Sakg.prog 300 #[.pointer (some ⟨bw, 0, none⟩), .pointer (some ⟨gf, 60 * r.length, none⟩), .int .u8 0] w (MakesNat w (0)) := by
  have hBB := big_ge
  have hP := p256_ge
  have hPB := p256_big2
  have hP40 := pow40_ge
  have hP41 := pow41_ge
  have hB41 : (256 : Nat) ^ 41 ≤ BIG := big_pow 41 (by omega)
  have hs := argN_lt hf.stk
  have hsl := hf.slen
  have hfx := h.fx
  obtain ⟨o, ho⟩ : ∃ o, o = 60 * r.length := ⟨_, rfl⟩
  rw [← ho] at hfx ⊢
  have HF := hide hfx
  have HS := hide hs
  have HCW := hide h.cw
  have HN := hide (num_any 0 w (by omega))
  clear h hfx hs ho hx hg hf
  go_enter Sakg.func300, Sakg.ntmps300
  go_wp2_with (go_at_call 97; refine (unhide HN).mono ?_; rintro e w1 ⟨A1, k1, c1, rfl, n1, N1, b1⟩; have NN1 := hide n1; clear n1)
  go_ret
  exact ⟨A1, k1, c1, rfl, unhide NN1, N1, b1⟩
set_option maxHeartbeats 8000000 in
theorem bareX_95 (h : SR G bw gf cs fr d (f :: r) x w) (hx : XB x) (hg : Good B d) (hf : AnyF f) :
    Calls Sakg.prog 300 #[.pointer (some ⟨bw, 0, none⟩), .pointer (some ⟨gf, 60 * r.length, none⟩), .int .u8 95] w (MakesNat w (2)) := by
  have hBB := big_ge
  have hP := p256_ge
  have hPB := p256_big2
  have hP40 := pow40_ge
  have hP41 := pow41_ge
  have hB41 : (256 : Nat) ^ 41 ≤ BIG := big_pow 41 (by omega)
  have hs := argN_lt hf.stk
  have hsl := hf.slen
  have hfx := h.fx
  obtain ⟨o, ho⟩ : ∃ o, o = 60 * r.length := ⟨_, rfl⟩
  rw [← ho] at hfx ⊢
  have HF := hide hfx
  have HS := hide hs
  have HCW := hide h.cw
  have HN := hide (num_any 2 w (by omega))
  have HFm := hide (family_any 95 (by omega) w)
  have hf0 : ((famA 95 : Int) == 16) = false := by
    have : famA 95 ≠ 16 := by unfold famA; repeat (first | omega | split)
    rw [beq_eq_false_iff_ne]; omega
  generalize famA 95 = F at HFm hf0
  clear h hfx hs ho hx hg hf
  go_enter Sakg.func300, Sakg.ntmps300
  go_wp2_with (first | (go_at_call 120; refine (unhide HFm).mono ?_; rintro e w0 ⟨rfl, rfl⟩) | (go_at_call 97; refine (unhide HN).mono ?_; rintro e w1 ⟨A1, k1, c1, rfl, n1, N1, b1⟩; have NN1 := hide n1; clear n1))
  go_ret
  exact ⟨A1, k1, c1, rfl, unhide NN1, N1, b1⟩
set_option maxHeartbeats 8000000 in
theorem bareX_96 (p : Nat) (h1 : 96 ≤ p) (h2 : p ≤ 127) (h : SR G bw gf cs fr d (f :: r) x w) (hx : XB x) (hg : Good B d) (hf : AnyF f) :
    Calls Sakg.prog 300 #[.pointer (some ⟨bw, 0, none⟩), .pointer (some ⟨gf, 60 * r.length, none⟩), .int .u8 p] w (MakesNat w (3)) := by
  have hBB := big_ge
  have hP := p256_ge
  have hPB := p256_big2
  have hP40 := pow40_ge
  have hP41 := pow41_ge
  have hB41 : (256 : Nat) ^ 41 ≤ BIG := big_pow 41 (by omega)
  have hs := argN_lt hf.stk
  have hsl := hf.slen
  have hfx := h.fx
  obtain ⟨o, ho⟩ : ∃ o, o = 60 * r.length := ⟨_, rfl⟩
  rw [← ho] at hfx ⊢
  have HF := hide hfx
  have HS := hide hs
  have HCW := hide h.cw
  have HN := hide (num_any 3 w (by omega))
  clear h hfx hs ho hx hg hf
  have u96 : decide ((96 : Int) ≤ (p : Int)) = true := decide_eq_true (by omega)
  have v159 : decide ((p : Int) ≤ 159) = true := decide_eq_true (by omega)
  go_enter Sakg.func300, Sakg.ntmps300
  go_wp2_with (go_at_call 97; refine (unhide HN).mono ?_; rintro e w1 ⟨A1, k1, c1, rfl, n1, N1, b1⟩; have NN1 := hide n1; clear n1)
  go_ret
  exact ⟨A1, k1, c1, rfl, unhide NN1, N1, b1⟩
set_option maxHeartbeats 8000000 in
theorem bareX_243 (h : SR G bw gf cs fr d (f :: r) x w) (hx : XB x) (hg : Good B d) (hf : AnyF f) :
    Calls Sakg.prog 300 #[.pointer (some ⟨bw, 0, none⟩), .pointer (some ⟨gf, 60 * r.length, none⟩), .int .u8 243] w (MakesNat w (0)) := by
  have hBB := big_ge
  have hP := p256_ge
  have hPB := p256_big2
  have hP40 := pow40_ge
  have hP41 := pow41_ge
  have hB41 : (256 : Nat) ^ 41 ≤ BIG := big_pow 41 (by omega)
  have hs := argN_lt hf.stk
  have hsl := hf.slen
  have hfx := h.fx
  obtain ⟨o, ho⟩ : ∃ o, o = 60 * r.length := ⟨_, rfl⟩
  rw [← ho] at hfx ⊢
  have HF := hide hfx
  have HS := hide hs
  have HCW := hide h.cw
  have HN := hide (num_any 0 w (by omega))
  clear h hfx hs ho hx hg hf
  go_enter Sakg.func300, Sakg.ntmps300
  go_wp2_with (go_at_call 97; refine (unhide HN).mono ?_; rintro e w1 ⟨A1, k1, c1, rfl, n1, N1, b1⟩; have NN1 := hide n1; clear n1)
  go_ret
  exact ⟨A1, k1, c1, rfl, unhide NN1, N1, b1⟩
set_option maxHeartbeats 8000000 in
theorem bareX_32 (h : SR G bw gf cs fr d (f :: r) x w) (hx : XB x) (hg : Good B d) (hf : AnyF f) :
    Calls Sakg.prog 300 #[.pointer (some ⟨bw, 0, none⟩), .pointer (some ⟨gf, 60 * r.length, none⟩), .int .u8 32] w (MakesNat w (30 + 6 * ((argN f.stk 1 + 31) / 32))) := by
  have hBB := big_ge
  have hP := p256_ge
  have hPB := p256_big2
  have hP40 := pow40_ge
  have hP41 := pow41_ge
  have hB41 : (256 : Nat) ^ 41 ≤ BIG := big_pow 41 (by omega)
  have hs := argN_lt hf.stk
  have hsl := hf.slen
  have hfx := h.fx
  obtain ⟨o, ho⟩ : ∃ o, o = 60 * r.length := ⟨_, rfl⟩
  rw [← ho] at hfx ⊢
  have HF := hide hfx
  have HS := hide hs
  have HCW := hide h.cw
  have ha := hs 1
  obtain ⟨a1, ha1⟩ : ∃ a1, a1 = argN f.stk 1 := ⟨_, rfl⟩
  rw [← ha1] at ha ⊢
  have HA1 := hide ha1
  obtain ⟨q, hq⟩ : ∃ q, q = (a1 + 31) / 32 := ⟨_, rfl⟩
  have hql : q < P256 := by omega
  rw [← hq]
  have HQ := hide hq
  clear hq
  clear h hfx ho hx hg hs ha1
  go_enter Sakg.func300, Sakg.ntmps300
  have HC1 := hide (num_any 30 w (by omega))
  go_wp2_with fail
  refine (unhide HC1).mono ?_
  rintro e w1 ⟨A1, k1, c1, rfl, n1, N1, b1⟩
  have NN1 := hide n1
  clear HC1 n1
  have HC2 := hide (num_any 6 w1 (by omega))
  go_wp2_with fail
  refine (unhide HC2).mono ?_
  rintro e w2 ⟨A2, k2, c2, rfl, n2, N2, b2⟩
  have NN2 := hide n2
  clear HC2 n2
  have HC3 := hide (((unhide HF).kept (b1.thn b2)).arg (by omega) 1 (by omega))
  go_wp2_with fail
  refine (unhide HC3).mono ?_
  rintro e w3 ⟨⟨A3, k3, c3, rfl, s3⟩, q3⟩
  have b3 : Below w2.heap.size w2 w3 := q3.below _
  have KK3 := hide s3
  clear HC3 s3 q3
  rw [← unhide HA1] at KK3
  have HC4 := hide (words_any A3 k3 c3 _ w3 ((unhide KK3).kp (ChgS.of b3)).now (by omega))
  go_wp2_with fail
  refine (unhide HC4).mono ?_
  rintro e w4 ⟨A4, k4, c4, rfl, n4, N4, b4⟩
  have NN4 := hide n4
  clear HC4 n4
  rw [← unhide HQ] at NN4
  have HC5 := hide (((unhide NN2).kept (b3.thn b4)).mul (unhide NN4) (by omega) (by omega))
  go_wp2_with fail
  refine (unhide HC5).mono ?_
  rintro e w5 ⟨A5, k5, c5, rfl, n5, N5, b5⟩
  have NN5 := hide n5
  clear HC5 n5
  have HC6 := hide (((unhide NN1).kept (b2.thn (b3.thn (b4.thn b5)))).add (unhide NN5) (by omega) (by omega))
  go_wp2_with fail
  refine (unhide HC6).mono ?_
  rintro e w6 ⟨A6, k6, c6, rfl, n6, N6, b6⟩
  have NN6 := hide n6
  clear HC6 n6
  go_wp2
  go_ret
  exact ⟨A6, k6, c6, rfl, (unhide NN6), N6.later (b1.thn (b2.thn (b3.thn (b4.thn b5)))).size, (b1.thn (b2.thn (b3.thn (b4.thn (b5.thn b6)))))⟩
set_option maxHeartbeats 8000000 in
theorem bareX_55 (h : SR G bw gf cs fr d (f :: r) x w) (hx : XB x) (hg : Good B d) (hf : AnyF f) :
    Calls Sakg.prog 300 #[.pointer (some ⟨bw, 0, none⟩), .pointer (some ⟨gf, 60 * r.length, none⟩), .int .u8 55] w (MakesNat w (3 + copyN (argN f.stk 2))) := by
  have hBB := big_ge
  have hP := p256_ge
  have hPB := p256_big2
  have hP40 := pow40_ge
  have hP41 := pow41_ge
  have hB41 : (256 : Nat) ^ 41 ≤ BIG := big_pow 41 (by omega)
  have hs := argN_lt hf.stk
  have hsl := hf.slen
  have hfx := h.fx
  obtain ⟨o, ho⟩ : ∃ o, o = 60 * r.length := ⟨_, rfl⟩
  rw [← ho] at hfx ⊢
  have HF := hide hfx
  have HS := hide hs
  have HCW := hide h.cw
  have ha := hs 2
  obtain ⟨a1, ha1⟩ : ∃ a1, a1 = argN f.stk 2 := ⟨_, rfl⟩
  rw [← ha1] at ha ⊢
  have HA1 := hide ha1
  obtain ⟨q, hq, hql⟩ : ∃ q, q = copyN a1 ∧ q ≤ 256 * P256 := ⟨_, rfl, copyN_le ha⟩
  rw [← hq]
  have HQ := hide hq
  clear hq
  clear h hfx ho hx hg hs ha1
  go_enter Sakg.func300, Sakg.ntmps300
  have HC1 := hide (num_any 3 w (by omega))
  go_wp2_with fail
  refine (unhide HC1).mono ?_
  rintro e w1 ⟨A1, k1, c1, rfl, n1, N1, b1⟩
  have NN1 := hide n1
  clear HC1 n1
  have HC2 := hide (((unhide HF).kept b1).arg (by omega) 2 (by omega))
  go_wp2_with fail
  refine (unhide HC2).mono ?_
  rintro e w2 ⟨⟨A2, k2, c2, rfl, s2⟩, q2⟩
  have b2 : Below w1.heap.size w1 w2 := q2.below _
  have KK2 := hide s2
  clear HC2 s2 q2
  rw [← unhide HA1] at KK2
  have HC3 := hide (copyCost_any A2 k2 c2 _ w2 ((unhide KK2).kp (ChgS.of b2)).now (by omega))
  go_wp2_with fail
  refine (unhide HC3).mono ?_
  rintro e w3 ⟨A3, k3, c3, rfl, n3, N3, b3⟩
  have NN3 := hide n3
  clear HC3 n3
  rw [← unhide HQ] at NN3
  have HC4 := hide (((unhide NN1).kept (b2.thn b3)).add (unhide NN3) (by omega) (by omega))
  go_wp2_with fail
  refine (unhide HC4).mono ?_
  rintro e w4 ⟨A4, k4, c4, rfl, n4, N4, b4⟩
  have NN4 := hide n4
  clear HC4 n4
  go_wp2
  go_ret
  exact ⟨A4, k4, c4, rfl, (unhide NN4), N4.later (b1.thn (b2.thn b3)).size, (b1.thn (b2.thn (b3.thn b4)))⟩
set_option maxHeartbeats 8000000 in
theorem bareX_57 (h : SR G bw gf cs fr d (f :: r) x w) (hx : XB x) (hg : Good B d) (hf : AnyF f) :
    Calls Sakg.prog 300 #[.pointer (some ⟨bw, 0, none⟩), .pointer (some ⟨gf, 60 * r.length, none⟩), .int .u8 57] w (MakesNat w (3 + copyN (argN f.stk 2))) := by
  have hBB := big_ge
  have hP := p256_ge
  have hPB := p256_big2
  have hP40 := pow40_ge
  have hP41 := pow41_ge
  have hB41 : (256 : Nat) ^ 41 ≤ BIG := big_pow 41 (by omega)
  have hs := argN_lt hf.stk
  have hsl := hf.slen
  have hfx := h.fx
  obtain ⟨o, ho⟩ : ∃ o, o = 60 * r.length := ⟨_, rfl⟩
  rw [← ho] at hfx ⊢
  have HF := hide hfx
  have HS := hide hs
  have HCW := hide h.cw
  have ha := hs 2
  obtain ⟨a1, ha1⟩ : ∃ a1, a1 = argN f.stk 2 := ⟨_, rfl⟩
  rw [← ha1] at ha ⊢
  have HA1 := hide ha1
  obtain ⟨q, hq, hql⟩ : ∃ q, q = copyN a1 ∧ q ≤ 256 * P256 := ⟨_, rfl, copyN_le ha⟩
  rw [← hq]
  have HQ := hide hq
  clear hq
  clear h hfx ho hx hg hs ha1
  go_enter Sakg.func300, Sakg.ntmps300
  have HC1 := hide (num_any 3 w (by omega))
  go_wp2_with fail
  refine (unhide HC1).mono ?_
  rintro e w1 ⟨A1, k1, c1, rfl, n1, N1, b1⟩
  have NN1 := hide n1
  clear HC1 n1
  have HC2 := hide (((unhide HF).kept b1).arg (by omega) 2 (by omega))
  go_wp2_with fail
  refine (unhide HC2).mono ?_
  rintro e w2 ⟨⟨A2, k2, c2, rfl, s2⟩, q2⟩
  have b2 : Below w1.heap.size w1 w2 := q2.below _
  have KK2 := hide s2
  clear HC2 s2 q2
  rw [← unhide HA1] at KK2
  have HC3 := hide (copyCost_any A2 k2 c2 _ w2 ((unhide KK2).kp (ChgS.of b2)).now (by omega))
  go_wp2_with fail
  refine (unhide HC3).mono ?_
  rintro e w3 ⟨A3, k3, c3, rfl, n3, N3, b3⟩
  have NN3 := hide n3
  clear HC3 n3
  rw [← unhide HQ] at NN3
  have HC4 := hide (((unhide NN1).kept (b2.thn b3)).add (unhide NN3) (by omega) (by omega))
  go_wp2_with fail
  refine (unhide HC4).mono ?_
  rintro e w4 ⟨A4, k4, c4, rfl, n4, N4, b4⟩
  have NN4 := hide n4
  clear HC4 n4
  go_wp2
  go_ret
  exact ⟨A4, k4, c4, rfl, (unhide NN4), N4.later (b1.thn (b2.thn b3)).size, (b1.thn (b2.thn (b3.thn b4)))⟩
set_option maxHeartbeats 8000000 in
theorem bareX_94 (h : SR G bw gf cs fr d (f :: r) x w) (hx : XB x) (hg : Good B d) (hf : AnyF f) :
    Calls Sakg.prog 300 #[.pointer (some ⟨bw, 0, none⟩), .pointer (some ⟨gf, 60 * r.length, none⟩), .int .u8 94] w (MakesNat w (3 + copyN (argN f.stk 2))) := by
  have hBB := big_ge
  have hP := p256_ge
  have hPB := p256_big2
  have hP40 := pow40_ge
  have hP41 := pow41_ge
  have hB41 : (256 : Nat) ^ 41 ≤ BIG := big_pow 41 (by omega)
  have hs := argN_lt hf.stk
  have hsl := hf.slen
  have hfx := h.fx
  obtain ⟨o, ho⟩ : ∃ o, o = 60 * r.length := ⟨_, rfl⟩
  rw [← ho] at hfx ⊢
  have HF := hide hfx
  have HS := hide hs
  have HCW := hide h.cw
  have ha := hs 2
  obtain ⟨a1, ha1⟩ : ∃ a1, a1 = argN f.stk 2 := ⟨_, rfl⟩
  rw [← ha1] at ha ⊢
  have HA1 := hide ha1
  obtain ⟨q, hq, hql⟩ : ∃ q, q = copyN a1 ∧ q ≤ 256 * P256 := ⟨_, rfl, copyN_le ha⟩
  rw [← hq]
  have HQ := hide hq
  clear hq
  clear h hfx ho hx hg hs ha1
  go_enter Sakg.func300, Sakg.ntmps300
  have HC1 := hide (num_any 3 w (by omega))
  go_wp2_with fail
  refine (unhide HC1).mono ?_
  rintro e w1 ⟨A1, k1, c1, rfl, n1, N1, b1⟩
  have NN1 := hide n1
  clear HC1 n1
  have HC2 := hide (((unhide HF).kept b1).arg (by omega) 2 (by omega))
  go_wp2_with fail
  refine (unhide HC2).mono ?_
  rintro e w2 ⟨⟨A2, k2, c2, rfl, s2⟩, q2⟩
  have b2 : Below w1.heap.size w1 w2 := q2.below _
  have KK2 := hide s2
  clear HC2 s2 q2
  rw [← unhide HA1] at KK2
  have HC3 := hide (copyCost_any A2 k2 c2 _ w2 ((unhide KK2).kp (ChgS.of b2)).now (by omega))
  go_wp2_with fail
  refine (unhide HC3).mono ?_
  rintro e w3 ⟨A3, k3, c3, rfl, n3, N3, b3⟩
  have NN3 := hide n3
  clear HC3 n3
  rw [← unhide HQ] at NN3
  have HC4 := hide (((unhide NN1).kept (b2.thn b3)).add (unhide NN3) (by omega) (by omega))
  go_wp2_with fail
  refine (unhide HC4).mono ?_
  rintro e w4 ⟨A4, k4, c4, rfl, n4, N4, b4⟩
  have NN4 := hide n4
  clear HC4 n4
  go_wp2
  go_ret
  exact ⟨A4, k4, c4, rfl, (unhide NN4), N4.later (b1.thn (b2.thn b3)).size, (b1.thn (b2.thn (b3.thn b4)))⟩
set_option maxHeartbeats 8000000 in
theorem bareX_160 (h : SR G bw gf cs fr d (f :: r) x w) (hx : XB x) (hg : Good B d) (hf : AnyF f) :
    Calls Sakg.prog 300 #[.pointer (some ⟨bw, 0, none⟩), .pointer (some ⟨gf, 60 * r.length, none⟩), .int .u8 160] w (MakesNat w (375 + 8 * argN f.stk 1)) := by
  have hBB := big_ge
  have hP := p256_ge
  have hPB := p256_big2
  have hP40 := pow40_ge
  have hP41 := pow41_ge
  have hB41 : (256 : Nat) ^ 41 ≤ BIG := big_pow 41 (by omega)
  have hs := argN_lt hf.stk
  have hsl := hf.slen
  have hfx := h.fx
  obtain ⟨o, ho⟩ : ∃ o, o = 60 * r.length := ⟨_, rfl⟩
  rw [← ho] at hfx ⊢
  have HF := hide hfx
  have HS := hide hs
  have HCW := hide h.cw
  have ha := hs 1
  obtain ⟨a1, ha1⟩ : ∃ a1, a1 = argN f.stk 1 := ⟨_, rfl⟩
  rw [← ha1] at ha ⊢
  have HA1 := hide ha1
  clear h hfx ho hx hg hs ha1
  go_enter Sakg.func300, Sakg.ntmps300
  have HC1 := hide (num_any 375 w (by omega))
  go_wp2_with fail
  refine (unhide HC1).mono ?_
  rintro e w1 ⟨A1, k1, c1, rfl, n1, N1, b1⟩
  have NN1 := hide n1
  clear HC1 n1
  have HC2 := hide (num_any 8 w1 (by omega))
  go_wp2_with fail
  refine (unhide HC2).mono ?_
  rintro e w2 ⟨A2, k2, c2, rfl, n2, N2, b2⟩
  have NN2 := hide n2
  clear HC2 n2
  have HC3 := hide (((unhide HF).kept (b1.thn b2)).arg (by omega) 1 (by omega))
  go_wp2_with fail
  refine (unhide HC3).mono ?_
  rintro e w3 ⟨⟨A3, k3, c3, rfl, s3⟩, q3⟩
  have b3 : Below w2.heap.size w2 w3 := q3.below _
  have KK3 := hide s3
  clear HC3 s3 q3
  rw [← unhide HA1] at KK3
  have HC4 := hide (((unhide NN2).kept b3).mul ((unhide KK3).kp (ChgS.of b3)).now (by omega) (by omega))
  go_wp2_with fail
  refine (unhide HC4).mono ?_
  rintro e w4 ⟨A4, k4, c4, rfl, n4, N4, b4⟩
  have NN4 := hide n4
  clear HC4 n4
  have HC5 := hide (((unhide NN1).kept (b2.thn (b3.thn b4))).add (unhide NN4) (by omega) (by omega))
  go_wp2_with fail
  refine (unhide HC5).mono ?_
  rintro e w5 ⟨A5, k5, c5, rfl, n5, N5, b5⟩
  have NN5 := hide n5
  clear HC5 n5
  go_wp2
  go_ret
  exact ⟨A5, k5, c5, rfl, (unhide NN5), N5.later (b1.thn (b2.thn (b3.thn b4))).size, (b1.thn (b2.thn (b3.thn (b4.thn b5))))⟩
set_option maxHeartbeats 8000000 in
theorem bareX_49 (h : SR G bw gf cs fr d (f :: r) x w) (hx : XB x) (hg : Good B d) (hf : AnyF f) (hlow : argN f.stk 0 < 256) :
    Calls Sakg.prog 300 #[.pointer (some ⟨bw, 0, none⟩), .pointer (some ⟨gf, 60 * r.length, none⟩), .int .u8 49] w (MakesNat w (accX d (lowAddr (argN f.stk 0)))) := by
  have hBB := big_ge
  have hP := p256_ge
  have hPB := p256_big2
  have hP40 := pow40_ge
  have hP41 := pow41_ge
  have hB41 : (256 : Nat) ^ 41 ≤ BIG := big_pow 41 (by omega)
  have hs := argN_lt hf.stk
  have hsl := hf.slen
  have hfx := h.fx
  obtain ⟨o, ho⟩ : ∃ o, o = 60 * r.length := ⟨_, rfl⟩
  rw [← ho] at hfx ⊢
  have HF := hide hfx
  have HS := hide hs
  have HCW := hide h.cw
  have d0 : Below w.heap.size w w.drew := Quiet.below ⟨1, rfl⟩ _
  have ha0 : argN f.stk 0 < BIG := Nat.lt_trans (unhide HS 0) p256_lt
  have haB : accX d (lowAddr (argN f.stk 0)) ≤ 2600 := by unfold accX; split <;> omega
  obtain ⟨ta0, hta0⟩ : ∃ ta0, ta0 = lowAddr (argN f.stk 0) := ⟨_, rfl⟩
  rw [← hta0] at haB ⊢
  have HT0 := hide hta0
  obtain ⟨a3, ha3⟩ : ∃ a3, a3 = argN f.stk 3 := ⟨_, rfl⟩
  skip
  have HA3 := hide ha3
  clear h hfx ho hx hs hta0 ha3
  go_enter Sakg.func300, Sakg.ntmps300
  go_upto_region 39 with fail
  refine wp_region_noPanic ?_
  refine wp_region_held_drew (S := fun w' => Below w.heap.size w w') (by kernel_rfl) (d0) (fun hHeld => ?_)
  refine held_takeD 0 (.pointer (some ⟨bw, 0, none⟩)) (some 115) (by rfl) (by rfl) (by kernel_rfl) (by kernel_rfl) (by kernel_rfl) (fun _ _ _ h => h) (.inl ⟨by rfl, fun _ _ => by rfl⟩) (hHeld) ?_
  simp only [Act.put, List.setIfInBounds_toArray, List.set_cons_zero, List.set_cons_succ]
  refine held_takeD 1 (.pointer (some ⟨bw, 0, none⟩)) (some 116) (by rfl) (by rfl) (by kernel_rfl) (by kernel_rfl) (by kernel_rfl) (fun _ _ _ h => h) (.inl ⟨by rfl, fun _ _ => by go_simp⟩) (hHeld) ?_
  simp only [Act.put, List.setIfInBounds_toArray, List.set_cons_zero, List.set_cons_succ]
  refine held_takeD 2 (.pointer (some ⟨bw, 0, none⟩)) (some 117) (by rfl) (by rfl) (by kernel_rfl) (by kernel_rfl) (by kernel_rfl) (fun _ _ _ h => h) (.inl ⟨by rfl, fun _ _ => by go_simp⟩) (hHeld) ?_
  simp only [Act.put, List.setIfInBounds_toArray, List.set_cons_zero, List.set_cons_succ]
  refine held_takeD 3 (.pointer (some ⟨gf, o, none⟩)) (some 118) (by rfl) (by rfl) (by kernel_rfl) (by kernel_rfl) (by kernel_rfl) (fun _ _ _ h => h) (.inl ⟨by rfl, fun _ _ => by rfl⟩) (hHeld) ?_
  simp only [Act.put, List.setIfInBounds_toArray, List.set_cons_zero, List.set_cons_succ]
  refine held_one 4 (by kernel_rfl) (by rfl) (fun K' hK' => ?_)
  go_simp
  refine (((unhide HF).kept d0).arg (by omega) 0 (by omega)).mono ?_
  rintro e w1 ⟨⟨A1, k1, c1, rfl, s1⟩, q1⟩
  refine hK'.out _ _ (d0.thn (q1.below _)) ?_
  clear hK' K'
  have d1 : Below w.heap.size w w1 := d0.thn (q1.below _)
  have s1' := s1.kp (ChgS.of (q1.below _))
  refine held_one 5 (by kernel_rfl) (by rfl) (fun K' hK' => ?_)
  go_simp
  refine (addrOf_x A1 k1 c1 _ w1 s1'.now ha0).mono ?_
  rintro e w2 ⟨⟨ta, rfl, hta, htl⟩, b2⟩
  refine hK'.out _ _ (d1.thn b2) ?_
  clear hK' K'
  have d2 : Below w.heap.size w w2 := d1.thn b2
  obtain rfl : ta = ta0 := (htl hlow).trans (unhide HT0).symm
  clear htl
  refine held_one 6 (by kernel_rfl) (by rfl) (fun K' hK' => ?_)
  go_simp
  refine (((unhide HCW).kept d2).accessX hg ta hta).mono ?_
  rintro e w3 ⟨A3, k3, c3, rfl, m3, N3, b3⟩
  refine hK'.out _ _ (d2.thn b3) ?_
  clear hK' K'
  have d3 : Below w.heap.size w w3 := d2.thn b3
  refine held_takeD 7 (.slice A3 k3 c3) (some 6) (by rfl) (by rfl) (by kernel_rfl) (by kernel_rfl) (by kernel_rfl) (fun _ _ _ h => h) (.inl ⟨by rfl, fun _ _ => by rfl⟩) (d3) ?_
  simp only [Act.put, List.setIfInBounds_toArray, List.set_cons_zero, List.set_cons_succ]
  refine wpAnyH_done (by kernel_rfl) ?_ _
  refine NoPanic.normal ?_
  have NN3 := hide m3
  clear s1 s1' q1 m3
  go_wp2
  go_ret
  exact ⟨A3, k3, c3, rfl, unhide NN3, N3.later d2.size, d3⟩
set_option maxHeartbeats 8000000 in
theorem bareX_60 (h : SR G bw gf cs fr d (f :: r) x w) (hx : XB x) (hg : Good B d) (hf : AnyF f) (hlow : argN f.stk 0 < 256) :
    Calls Sakg.prog 300 #[.pointer (some ⟨bw, 0, none⟩), .pointer (some ⟨gf, 60 * r.length, none⟩), .int .u8 60] w (MakesNat w (accX d (lowAddr (argN f.stk 0)) + copyN (argN f.stk 3))) := by
  have hBB := big_ge
  have hP := p256_ge
  have hPB := p256_big2
  have hP40 := pow40_ge
  have hP41 := pow41_ge
  have hB41 : (256 : Nat) ^ 41 ≤ BIG := big_pow 41 (by omega)
  have hs := argN_lt hf.stk
  have hsl := hf.slen
  have hfx := h.fx
  obtain ⟨o, ho⟩ : ∃ o, o = 60 * r.length := ⟨_, rfl⟩
  rw [← ho] at hfx ⊢
  have HF := hide hfx
  have HS := hide hs
  have HCW := hide h.cw
  have d0 : Below w.heap.size w w.drew := Quiet.below ⟨1, rfl⟩ _
  have ha0 : argN f.stk 0 < BIG := Nat.lt_trans (unhide HS 0) p256_lt
  have haB : accX d (lowAddr (argN f.stk 0)) ≤ 2600 := by unfold accX; split <;> omega
  obtain ⟨ta0, hta0⟩ : ∃ ta0, ta0 = lowAddr (argN f.stk 0) := ⟨_, rfl⟩
  rw [← hta0] at haB ⊢
  have HT0 := hide hta0
  obtain ⟨a3, ha3⟩ : ∃ a3, a3 = argN f.stk 3 := ⟨_, rfl⟩
  rw [← ha3]
  have HA3 := hide ha3
  clear h hfx ho hx hs hta0 ha3
  go_enter Sakg.func300, Sakg.ntmps300
  go_upto_region 41 with fail
  refine wp_region_noPanic ?_
  refine wp_region_held_drew (S := fun w' => Below w.heap.size w w') (by kernel_rfl) (d0) (fun hHeld => ?_)
  refine held_takeD 0 (.pointer (some ⟨bw, 0, none⟩)) (some 125) (by rfl) (by rfl) (by kernel_rfl) (by kernel_rfl) (by kernel_rfl) (fun _ _ _ h => h) (.inl ⟨by rfl, fun _ _ => by rfl⟩) (hHeld) ?_
  simp only [Act.put, List.setIfInBounds_toArray, List.set_cons_zero, List.set_cons_succ]
  refine held_takeD 1 (.pointer (some ⟨bw, 0, none⟩)) (some 126) (by rfl) (by rfl) (by kernel_rfl) (by kernel_rfl) (by kernel_rfl) (fun _ _ _ h => h) (.inl ⟨by rfl, fun _ _ => by go_simp⟩) (hHeld) ?_
  simp only [Act.put, List.setIfInBounds_toArray, List.set_cons_zero, List.set_cons_succ]
  refine held_takeD 2 (.pointer (some ⟨bw, 0, none⟩)) (some 127) (by rfl) (by rfl) (by kernel_rfl) (by kernel_rfl) (by kernel_rfl) (fun _ _ _ h => h) (.inl ⟨by rfl, fun _ _ => by go_simp⟩) (hHeld) ?_
  simp only [Act.put, List.setIfInBounds_toArray, List.set_cons_zero, List.set_cons_succ]
  refine held_takeD 3 (.pointer (some ⟨gf, o, none⟩)) (some 128) (by rfl) (by rfl) (by kernel_rfl) (by kernel_rfl) (by kernel_rfl) (fun _ _ _ h => h) (.inl ⟨by rfl, fun _ _ => by rfl⟩) (hHeld) ?_
  simp only [Act.put, List.setIfInBounds_toArray, List.set_cons_zero, List.set_cons_succ]
  refine held_takeD 7 (.pointer (some ⟨gf, o, none⟩)) (some 132) (by rfl) (by rfl) (by kernel_rfl) (by kernel_rfl) (by kernel_rfl) (fun _ _ _ h => h) (.inl ⟨by rfl, fun _ _ => by rfl⟩) (hHeld) ?_
  simp only [Act.put, List.setIfInBounds_toArray, List.set_cons_zero, List.set_cons_succ]
  refine held_one 4 (by kernel_rfl) (by rfl) (fun K' hK' => ?_)
  go_simp
  refine (((unhide HF).kept d0).arg (by omega) 0 (by omega)).mono ?_
  rintro e w1 ⟨⟨A1, k1, c1, rfl, s1⟩, q1⟩
  refine hK'.out _ _ (d0.thn (q1.below _)) ?_
  clear hK' K'
  have d1 : Below w.heap.size w w1 := d0.thn (q1.below _)
  have s1' := s1.kp (ChgS.of (q1.below _))
  refine held_one 5 (by kernel_rfl) (by rfl) (fun K' hK' => ?_)
  go_simp
  refine (addrOf_x A1 k1 c1 _ w1 s1'.now ha0).mono ?_
  rintro e w2 ⟨⟨ta, rfl, hta, htl⟩, b2⟩
  refine hK'.out _ _ (d1.thn b2) ?_
  clear hK' K'
  have d2 : Below w.heap.size w w2 := d1.thn b2
  obtain rfl : ta = ta0 := (htl hlow).trans (unhide HT0).symm
  clear htl
  refine held_one 6 (by kernel_rfl) (by rfl) (fun K' hK' => ?_)
  go_simp
  refine (((unhide HCW).kept d2).accessX hg ta hta).mono ?_
  rintro e w3 ⟨A3, k3, c3, rfl, m3, N3, b3⟩
  refine hK'.out _ _ (d2.thn b3) ?_
  clear hK' K'
  have d3 : Below w.heap.size w w3 := d2.thn b3
  refine held_one 8 (by kernel_rfl) (by rfl) (fun K' hK' => ?_)
  go_simp
  refine (((unhide HF).kept d3).arg (by omega) 3 (by omega)).mono ?_
  rintro e w4 ⟨⟨A4, k4, c4, rfl, s4⟩, q4⟩
  refine hK'.out _ _ (d3.thn (q4.below _)) ?_
  clear hK' K'
  have b4 : Below w3.heap.size w3 w4 := q4.below _
  have d4 : Below w.heap.size w w4 := d3.thn b4
  have s4' := s4.kp (ChgS.of b4)
  have ha3 := unhide HS 3
  rw [← unhide HA3] at s4' ha3
  refine held_one 9 (by kernel_rfl) (by rfl) (fun K' hK' => ?_)
  go_simp
  refine (copyCost_any A4 k4 c4 _ w4 s4'.now (by omega)).mono ?_
  rintro e w5 ⟨A5, k5, c5, rfl, n5, N5, b5⟩
  refine hK'.out _ _ (d4.thn b5) ?_
  clear hK' K'
  have d5 : Below w.heap.size w w5 := d4.thn b5
  have hcl := copyN_le ha3
  refine held_one 10 (by kernel_rfl) (by rfl) (fun K' hK' => ?_)
  go_simp
  refine ((m3.kept (b4.thn b5)).add n5 (by omega) (by omega)).mono ?_
  rintro e w6 ⟨A6, k6, c6, rfl, n6, N6, b6⟩
  refine hK'.out _ _ (d5.thn b6) ?_
  clear hK' K'
  have d6 : Below w.heap.size w w6 := d5.thn b6
  refine held_takeD 11 (.slice A6 k6 c6) (some 6) (by rfl) (by rfl) (by kernel_rfl) (by kernel_rfl) (by kernel_rfl) (fun _ _ _ h => h) (.inl ⟨by rfl, fun _ _ => by rfl⟩) (d6) ?_
  simp only [Act.put, List.setIfInBounds_toArray, List.set_cons_zero, List.set_cons_succ]
  refine wpAnyH_done (by kernel_rfl) ?_ _
  refine NoPanic.normal ?_
  have NN6 := hide n6
  clear s1 s1' q1 m3 s4 s4' q4 n5 n6
  go_wp2
  go_ret
  exact ⟨A6, k6, c6, rfl, unhide NN6, N6.later d5.size, d6⟩
end

end Go.Proofs.YgcsakGreat
