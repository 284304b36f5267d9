/-
  yp, exactly: cost, refusal.
-/
import Derived.Test.YgcsakGreatKgH
import Derived.Test.YgcsakGreatXcA
import Derived.Test.YgcsakGreatXcB
import Derived.Test.YgcsakGreatXcC
namespace Go.Proofs.YgcsakGreat
set_option linter.unusedVariables false
set_option linter.unusedSimpArgs false
set_option maxRecDepth 100000
open Go.RowKit

/-- the whole cost, the bare one being b -/
def costB (p : Nat) (s : List Nat) (ml b : Nat) : Nat := b + (memN (max (needA p s) (ml / 32)) - memN (ml / 32))
section
variable {G : Nat → Prop} {bw gf : Nat} {cs fr : List Value} {d : WD} {f : FD} {r : List FD} {x : XD} {w : World} {B : Nat}
set_option maxHeartbeats 8000000 in
theorem bareX_240 (h : SR G bw gf cs fr d (f :: r) x w) (hx : XB x) (hg : Good B d) (hf : AnyF f) :
    Calls Sakg.prog 300 #[.pointer (some ⟨bw, 0, none⟩), .pointer (some ⟨gf, 60 * r.length, none⟩), .int .u8 240] w (MakesNat w (32000 + 2 * ((argN f.stk 2 + 31) / 32))) := by
  have hC := enterX_240 h hg hf
  generalize 32000 + 2 * ((argN f.stk 2 + 31) / 32) = vv at hC ⊢
  have HC := hide hC
  generalize 60 * r.length = o at HC ⊢
  have HFm := hide (family_any 240 (by omega) w)
  rw [show famA 240 = 16 from rfl] at HFm
  clear h hx hg hf hC
  go_enter Sakg.func300, Sakg.ntmps300
  go_wp2_with (first | (go_at_call 120; refine (unhide HFm).mono ?_; rintro e w0 ⟨rfl, rfl⟩) | (go_at_call 425; refine (unhide HC).mono ?_; rintro e w1 ⟨A1, k1, c1, rfl, m1, N1, b1⟩; have NN1 := hide m1; clear m1))
  go_ret
  exact ⟨A1, k1, c1, rfl, unhide NN1, N1, b1⟩
set_option maxHeartbeats 8000000 in
theorem bareX_245 (h : SR G bw gf cs fr d (f :: r) x w) (hx : XB x) (hg : Good B d) (hf : AnyF f) :
    Calls Sakg.prog 300 #[.pointer (some ⟨bw, 0, none⟩), .pointer (some ⟨gf, 60 * r.length, none⟩), .int .u8 245] w (MakesNat w (32000 + 8 * ((argN f.stk 2 + 31) / 32))) := by
  have hC := enterX_245 h hg hf
  generalize 32000 + 8 * ((argN f.stk 2 + 31) / 32) = vv at hC ⊢
  have HC := hide hC
  generalize 60 * r.length = o at HC ⊢
  have HFm := hide (family_any 245 (by omega) w)
  rw [show famA 245 = 16 from rfl] at HFm
  clear h hx hg hf hC
  go_enter Sakg.func300, Sakg.ntmps300
  go_wp2_with (first | (go_at_call 120; refine (unhide HFm).mono ?_; rintro e w0 ⟨rfl, rfl⟩) | (go_at_call 425; refine (unhide HC).mono ?_; rintro e w1 ⟨A1, k1, c1, rfl, m1, N1, b1⟩; have NN1 := hide m1; clear m1))
  go_ret
  exact ⟨A1, k1, c1, rfl, unhide NN1, N1, b1⟩
set_option maxHeartbeats 8000000 in
theorem bareX_241 (h : SR G bw gf cs fr d (f :: r) x w) (hx : XB x) (hg : Good B d) (hf : AnyF f) (hlow : argN f.stk 1 < 256) :
    Calls Sakg.prog 300 #[.pointer (some ⟨bw, 0, none⟩), .pointer (some ⟨gf, 60 * r.length, none⟩), .int .u8 241] w (MakesNat w (callX d (lowAddr (argN f.stk 1)) (argN f.stk 2))) := by
  have hC := enterX_241 h hg hf hlow
  generalize callX d (lowAddr (argN f.stk 1)) (argN f.stk 2) = vv at hC ⊢
  have HC := hide hC
  generalize 60 * r.length = o at HC ⊢
  have HFm := hide (family_any 241 (by omega) w)
  rw [show famA 241 = 16 from rfl] at HFm
  clear h hx hg hf hC
  go_enter Sakg.func300, Sakg.ntmps300
  go_wp2_with (first | (go_at_call 120; refine (unhide HFm).mono ?_; rintro e w0 ⟨rfl, rfl⟩) | (go_at_call 425; refine (unhide HC).mono ?_; rintro e w1 ⟨A1, k1, c1, rfl, m1, N1, b1⟩; have NN1 := hide m1; clear m1))
  go_ret
  exact ⟨A1, k1, c1, rfl, unhide NN1, N1, b1⟩
set_option maxHeartbeats 8000000 in
theorem SR.costX (h : SR G bw gf cs fr d (f :: r) x w) (hx : XB x) (hg : Good B d) (hf : AnyF f) (hml : f.ml ≤ 1000000) (p : Nat) (hp : p ≤ 255) (bN : Nat) (hb41 : bN < 256 ^ 41) (hB : Calls Sakg.prog 300 #[.pointer (some ⟨bw, 0, none⟩), .pointer (some ⟨gf, 60 * r.length, none⟩), .int .u8 p] w (MakesNat w bN)) :
    Calls Sakg.prog 204 #[.pointer (some ⟨bw, 0, none⟩), .pointer (some ⟨gf, 60 * r.length, none⟩), .int .u8 p] w (MakesNat w (costB p f.stk f.ml bN)) := by
  obtain ⟨cN, hcN⟩ : ∃ cN, cN = costB p f.stk f.ml bN := ⟨_, rfl⟩
  rw [← hcN]
  have HCN := hide hcN
  clear hcN
  have hBB := big_ge
  have h41B : 256 ^ 41 ≤ 256 ^ 80 := Nat.pow_le_pow_right (by omega) (by omega)
  have h80 := pow80_big
  have h82 := pow82_big
  have h40 := pow40_big
  have hs := argN_lt hf.stk
  have hsl := hf.slen
  have hfx := h.fx
  obtain ⟨o, ho⟩ : ∃ o, o = 60 * r.length := ⟨_, rfl⟩
  rw [← ho] at hfx hB ⊢
  have HF := hide hfx
  have HS := hide hs
  have HB := hide hB
  have hnd := needA_lt p f.stk hs
  have hre := reachA_lt p f.stk hs
  have hPB := p256_big2
  have hP := p256_ge
  obtain ⟨A9, c9, m1, m2⟩ := hfx.kf.mem
  have x9 : ∀ wz, Below w.heap.size w wz → wz.cell? ⟨gf, o + 9, none⟩ = some (.slice A9 f.ml c9) := fun wz hz => (hfx.kept hz).cell m1
  have X9 := hide x9
  obtain ⟨hv, hhv⟩ : ∃ hv, hv = f.ml / 32 := ⟨_, rfl⟩
  have e32 : (f.ml : Int) / 32 = (hv : Int) := by omega
  have hvl : hv ≤ 100000 := by omega
  have hv40 : hv < 256 ^ 40 := Nat.lt_of_le_of_lt hvl (Nat.lt_of_lt_of_le (by decide : 100000 < 256 ^ 3) (Nat.pow_le_pow_right (by omega) (by omega)))
  have hnde : needA p f.stk = (reachA p f.stk + 31) / 32 := rfl
  have HND := hide hnde
  have HHV := hide hhv
  generalize hml2 : f.ml = ml at X9 e32
  have HML := hide hml2
  have hmh := memN_lt hv40
  have hmn := memN_lt hnd
  generalize hnd2 : needA p f.stk = nd at HND hnd hmn
  have HN2 := hide hnd2
  generalize hre2 : reachA p f.stk = rc at HND hre
  have HRE := hide hre2
  clear h hfx hx hg hB hs ho m1 m2 x9 hnde hhv hml2 hnd2 hre2
  go_enter Sakg.func204, Sakg.ntmps204
  go_wp2_with fail
  refine (unhide HB).mono ?_
  rintro e w1 ⟨A1, k1, c1, rfl, n1, N1, b1⟩
  have NN1 := hide n1
  have y9 := unhide X9 w1 b1
  clear n1
  have HC2 := hide (num_any hv w1 (by omega))
  go_wp2_with fail
  refine (unhide HC2).mono ?_
  rintro e w2 ⟨A2, k2, c2, rfl, n2, N2, b2⟩
  have NN2 := hide n2
  clear HC2 n2
  clear y9
  have HC3 := hide (((unhide HF).kept (b1.thn b2)).reach hsl (unhide HS) p hp)
  go_wp2_with fail
  refine (unhide HC3).mono ?_
  rintro e w3 ⟨A3, k3, c3, rfl, n3, N3, b3⟩
  have NN3 := hide n3
  clear HC3 n3
  rw [unhide HRE] at NN3
  have HC4 := hide (words_any A3 k3 c3 _ w3 (unhide NN3) (by omega))
  go_wp2_with fail
  refine (unhide HC4).mono ?_
  rintro e w4 ⟨A4, k4, c4, rfl, n4, N4, b4⟩
  have NN4 := hide n4
  clear HC4 n4
  rw [← unhide HND] at NN4
  have HC := hide ((unhide NN4).cmp ((unhide NN2).kept (b3.thn b4)) (by omega) (by omega))
  by_cases hle : nd ≤ hv
  · have hci : decide (cmpI nd hv ≤ 0) = true := by
      unfold cmpI
      by_cases h1 : nd < hv
      · rw [if_pos h1]; rfl
      · rw [if_neg h1, if_pos (by omega)]; rfl
    generalize cmpI nd hv = ci at HC hci
    go_wp2_with fail
    refine (unhide HC).mono ?_
    rintro e w5 ⟨rfl, q5⟩
    have b5 : Below w4.heap.size w4 w5 := q5.below _
    clear q5
    go_wp2
    go_ret
    have hce : cN = bN := by rw [unhide HCN]; unfold costB; rw [unhide HN2, ← unhide HHV, Nat.max_eq_right hle]; omega
    exact ⟨A1, k1, c1, rfl, by rw [hce]; exact (unhide NN1).kept ((b2.thn (b3.thn b4)).thn b5), N1, (b1.thn (b2.thn (b3.thn b4))).thn b5⟩
  · have hci : decide (cmpI nd hv ≤ 0) = false := by
      unfold cmpI
      rw [if_neg (by omega), if_neg (by omega)]; rfl
    generalize cmpI nd hv = ci at HC hci
    go_wp2_with fail
    refine (unhide HC).mono ?_
    rintro e w5 ⟨rfl, q5⟩
    have b5 : Below w4.heap.size w4 w5 := q5.below _
    clear q5
    have HC6 := hide (memCost_big A4 k4 c4 _ w5 ((unhide NN4).kept b5) hnd)
    go_wp2_with fail
    refine (unhide HC6).mono ?_
    rintro e w6 ⟨A6, k6, c6, rfl, n6, N6, b6⟩
    have NN6 := hide n6
    clear HC6 n6
    have HC7 := hide (memCost_big A2 k2 c2 _ w6 ((unhide NN2).kept (b3.thn (b4.thn (b5.thn b6)))) hv40)
    go_wp2_with fail
    refine (unhide HC7).mono ?_
    rintro e w7 ⟨A7, k7, c7, rfl, n7, N7, b7⟩
    have NN7 := hide n7
    clear HC7 n7
    have HC8 := hide (less_any A6 A7 k6 k7 c6 c7 _ _ w7 ((unhide NN6).kept b7) (unhide NN7) (by omega) (by omega))
    go_wp2_with fail
    refine (unhide HC8).mono ?_
    rintro e w8 ⟨A8, k8, c8, rfl, n8, N8, b8⟩
    have NN8 := hide n8
    clear HC8 n8
    have HC9 := hide (((unhide NN1).kept (b2.thn (b3.thn (b4.thn (b5.thn (b6.thn (b7.thn b8))))))).add (unhide NN8) (by omega) (by omega))
    go_wp2_with fail
    refine (unhide HC9).mono ?_
    rintro e w9 ⟨A9, k9, c9, rfl, n9, N9, b9⟩
    have NN9 := hide n9
    clear HC9 n9
    go_wp2
    go_ret
    have hmono := memN_mono (show hv ≤ nd by omega)
    have hce : cN = bN + (memN nd - memN hv) := by rw [unhide HCN]; unfold costB; rw [unhide HN2, ← unhide HHV, Nat.max_eq_left (by omega)]
    exact ⟨A9, k9, c9, rfl, by rw [hce]; exact (unhide NN9), N9.later (b1.thn (b2.thn (b3.thn (b4.thn (b5.thn (b6.thn (b7.thn b8))))))).size, (b1.thn (b2.thn (b3.thn (b4.thn (b5.thn (b6.thn (b7.thn (b8.thn b9))))))))⟩
set_option maxHeartbeats 16000000 in
theorem refuseX_0 (p : Nat) (h1 : 0 ≤ p) (h2 : p ≤ 61) (h : SR G bw gf cs fr d (f :: r) x w) (hx : XB x) (hf : AnyF f) (hgas : f.gas < BIG) (nc : Nat) (hcb : nc < BIG) (hC : ∀ wz, Below w.heap.size w wz → Calls Sakg.prog 204 #[.pointer (some ⟨bw, 0, none⟩), .pointer (some ⟨gf, 60 * r.length, none⟩), .int .u8 p] wz (MakesNat wz nc)) (hkn : famA p ≠ 0) (hun0 : takA p ≤ f.stk.length) (hov0 : f.stk.length - takA p + givA p ≤ 64) (hst : f.static = false) (hle : nc ≤ f.gas) :
    Calls Sakg.prog 113 #[.pointer (some ⟨bw, 0, none⟩), .pointer (some ⟨gf, 60 * r.length, none⟩), .int .u8 p] w fun e w' => ∃ A k c, e = .returned (.tuple #[.int .u8 0, .slice A k c]) ∧ IsNat w' A k c nc ∧ New w A ∧ Below w.heap.size w w' := by
  have hBB := big_ge
  have hP := p256_ge
  have hPB := p256_big2
  have hs := argN_lt hf.stk
  have hsl := hf.slen
  have hcl := hf.code
  have hfx := h.fx
  obtain ⟨o, ho⟩ : ∃ o, o = 60 * r.length := ⟨_, rfl⟩
  rw [← ho] at hfx hC ⊢
  have HF := hide hfx
  have HS := hide hs
  have HC := hide hC
  obtain ⟨A8, l8, c8, g1, g2⟩ := hfx.kf.stk
  have hlen := g2.len
  have y8 : w.cell? ⟨gf, o + 8, none⟩ = some (.slice A8 l8 c8) := hfx.cell g1
  have y2 : w.cell? ⟨gf, o + 2, none⟩ = some (.bool f.static) := hfx.cell hfx.kf.static
  obtain ⟨A4, k4, c4, p1, p2⟩ := hfx.kf.gas
  have x4 : ∀ wz, Below w.heap.size w wz → wz.cell? ⟨gf, o + 4, none⟩ = some (.slice A4 k4 c4) ∧ IsNat wz A4 k4 c4 f.gas := fun wz hz => ⟨(hfx.kept hz).cell p1, (p2.kp (ChgS.of hz)).now⟩
  have X4 := hide x4
  obtain ⟨A0, k0, c0, q1, q2⟩ := hfx.kf.code
  have x10 : ∀ wz, Below w.heap.size w wz → wz.cell? ⟨gf, o + 10, none⟩ = some (.slice A0 k0 c0) ∧ Src wz A0 k0 c0 f.code := fun wz hz => ⟨(hfx.kept hz).cell q1, (q2.kp (ChgS.of hz)).now⟩
  have X10 := hide x10
  have hk0 := q2.now.len_eq
  obtain ⟨Ar, lr, cr, r1, r2⟩ := h.xs.ret
  have x3 : ∀ wz, Below w.heap.size w wz → wz.cell? ⟨bw, 10, none⟩ = some (.slice Ar lr cr) := fun wz hz => (h.cw.kept hz).cell r1
  have X3 := hide x3
  have hlr : lr ≤ 1000000 := by have := r2.now.len_eq; have := hx.ret; omega
  have HAR := hide (arity_any p (by omega) w)
  generalize hT : takA p = T at HAR
  generalize hV : givA p = V at HAR
  have HT := hide hT
  have HV := hide hV
  have hTl : T ≤ 17 := by rw [← hT]; exact takA_le _
  have hVl : V ≤ 17 := by rw [← hV]; exact givA_le _
  have hun : ¬ l8 < T := by rw [← hT, ← hlen]; omega
  have hovq : l8 - T + V ≤ 64 := by rw [← hT, ← hV, ← hlen]; exact hov0
  rw [hst] at y2
  clear h hfx hx hs ho hC x4 x10 x3 g1 g2 p1 p2 q1 q2 r1 r2 hT hV
  rw [decide_eq_true hkn] at HAR
  have HKN := hide hkn
  clear hkn
  have t1 : decide ((l8 : Int) < (T : Int)) = false := decide_eq_false (by omega)
  have t1n : decide (l8 < T) = false := decide_eq_false hun
  obtain ⟨q, hq⟩ : ∃ q, q = l8 - T := ⟨_, rfl⟩
  have eq1 : (l8 : Int) - (T : Int) = (q : Int) := by omega
  obtain ⟨q', hq'⟩ : ∃ q', q' = q + V := ⟨_, rfl⟩
  have eq2 : (q : Int) + (V : Int) = (q' : Int) := by omega
  have hqb : q ≤ 64 ∧ q' ≤ 100 := by omega
  have HQ := hide hq
  have HQ' := hide hq'
  have HUN := hide hun
  clear hq hq' hun
  have hov : ¬ 64 < q' := by have := unhide HQ; have := unhide HQ'; omega
  have t2 : decide ((64 : Int) < (q' : Int)) = false := decide_eq_false (by omega)
  have t2n : decide (64 < q') = false := decide_eq_false hov
  have z62 : ((p : Int) == 62) = false := by rw [beq_eq_false_iff_ne]; omega
  have z85 : ((p : Int) == 85) = false := by rw [beq_eq_false_iff_ne]; omega
  have z86 : ((p : Int) == 86) = false := by rw [beq_eq_false_iff_ne]; omega
  have z87 : ((p : Int) == 87) = false := by rw [beq_eq_false_iff_ne]; omega
  have z240 : ((p : Int) == 240) = false := by rw [beq_eq_false_iff_ne]; omega
  have z245 : ((p : Int) == 245) = false := by rw [beq_eq_false_iff_ne]; omega
  go_enter Sakg.func113, Sakg.ntmps113
  go_upto_region 8 with (go_at_call 202; refine (unhide HAR).mono ?_; rintro e w1 ⟨rfl, rfl⟩)
  go_upto_region 9 with fail
  obtain ⟨w2, hw2⟩ : ∃ w2, w2 = w := ⟨_, rfl⟩
  have d2 : Below w.heap.size w w2 := by rw [hw2]; exact Below.refl _ _
  try rw [← hw2]
  clear y8 y2 HAR
  go_upto_region 12 with fail
  go_quiet (fail)
  have dq : Below w.heap.size w (w2.drewN nq) := d2.thn (Quiet.below ⟨nq, rfl⟩ _)
  generalize w2.drewN nq = wq0 at dq ⊢
  go_wp2_with fail
  refine (unhide HC _ dq).mono ?_
  rintro e w8 ⟨Ac, kc, cc, rfl, mc, Nc, b8⟩
  have d8 : Below w.heap.size w w8 := dq.thn b8
  have NNc := hide mc
  have y4 := (unhide X4 w8 d8).1
  have HCM := hide (mc.cmp (unhide X4 w8 d8).2 hcb hgas)
  have hcg := cmp_gt nc f.gas
  generalize cmpI nc f.gas = cg at HCM hcg
  have NWc : New w Ac := Nc.later dq.size
  clear mc
  go_wp2_with fail
  refine (unhide HCM).mono ?_
  rintro e w9 ⟨rfl, q9⟩
  have b9 : Below w8.heap.size w8 w9 := q9.below _
  have d9 : Below w.heap.size w w9 := d8.thn b9
  clear q9 y4
  have hog : ¬ f.gas < nc := by omega
  rw [decide_eq_false hog] at hcg
  clear hog
  go_upto_region 17 with fail
  go_quiet (fail)
  have bq1 : Below w8.heap.size w8 (w9.drewN nq) := b9.thn (Quiet.below ⟨nq, rfl⟩ _)
  generalize w9.drewN nq = wq1 at bq1 ⊢
  go_upto_region 19 with fail
  go_quiet (fail)
  have bq2 : Below w8.heap.size w8 (wq1.drewN nq) := bq1.thn (Quiet.below ⟨nq, rfl⟩ _)
  generalize wq1.drewN nq = wq2 at bq2 ⊢
  go_upto_region 21 with fail
  go_quiet (fail)
  have bq3 : Below w8.heap.size w8 (wq2.drewN nq) := bq2.thn (Quiet.below ⟨nq, rfl⟩ _)
  generalize wq2.drewN nq = wq3 at bq3 ⊢
  go_wp2
  refine bodyPost_ret (results_tmp2 rfl _ _ _) rfl ?_
  exact ⟨Ac, kc, cc, rfl, (unhide NNc).kept bq3, NWc, d8.thn bq3⟩
set_option maxHeartbeats 16000000 in
theorem refuseX_63 (p : Nat) (h1 : 63 ≤ p) (h2 : p ≤ 84) (h : SR G bw gf cs fr d (f :: r) x w) (hx : XB x) (hf : AnyF f) (hgas : f.gas < BIG) (nc : Nat) (hcb : nc < BIG) (hC : ∀ wz, Below w.heap.size w wz → Calls Sakg.prog 204 #[.pointer (some ⟨bw, 0, none⟩), .pointer (some ⟨gf, 60 * r.length, none⟩), .int .u8 p] wz (MakesNat wz nc)) (hkn : famA p ≠ 0) (hun0 : takA p ≤ f.stk.length) (hov0 : f.stk.length - takA p + givA p ≤ 64) (hst : f.static = false) (hle : nc ≤ f.gas) :
    Calls Sakg.prog 113 #[.pointer (some ⟨bw, 0, none⟩), .pointer (some ⟨gf, 60 * r.length, none⟩), .int .u8 p] w fun e w' => ∃ A k c, e = .returned (.tuple #[.int .u8 0, .slice A k c]) ∧ IsNat w' A k c nc ∧ New w A ∧ Below w.heap.size w w' := by
  have hBB := big_ge
  have hP := p256_ge
  have hPB := p256_big2
  have hs := argN_lt hf.stk
  have hsl := hf.slen
  have hcl := hf.code
  have hfx := h.fx
  obtain ⟨o, ho⟩ : ∃ o, o = 60 * r.length := ⟨_, rfl⟩
  rw [← ho] at hfx hC ⊢
  have HF := hide hfx
  have HS := hide hs
  have HC := hide hC
  obtain ⟨A8, l8, c8, g1, g2⟩ := hfx.kf.stk
  have hlen := g2.len
  have y8 : w.cell? ⟨gf, o + 8, none⟩ = some (.slice A8 l8 c8) := hfx.cell g1
  have y2 : w.cell? ⟨gf, o + 2, none⟩ = some (.bool f.static) := hfx.cell hfx.kf.static
  obtain ⟨A4, k4, c4, p1, p2⟩ := hfx.kf.gas
  have x4 : ∀ wz, Below w.heap.size w wz → wz.cell? ⟨gf, o + 4, none⟩ = some (.slice A4 k4 c4) ∧ IsNat wz A4 k4 c4 f.gas := fun wz hz => ⟨(hfx.kept hz).cell p1, (p2.kp (ChgS.of hz)).now⟩
  have X4 := hide x4
  obtain ⟨A0, k0, c0, q1, q2⟩ := hfx.kf.code
  have x10 : ∀ wz, Below w.heap.size w wz → wz.cell? ⟨gf, o + 10, none⟩ = some (.slice A0 k0 c0) ∧ Src wz A0 k0 c0 f.code := fun wz hz => ⟨(hfx.kept hz).cell q1, (q2.kp (ChgS.of hz)).now⟩
  have X10 := hide x10
  have hk0 := q2.now.len_eq
  obtain ⟨Ar, lr, cr, r1, r2⟩ := h.xs.ret
  have x3 : ∀ wz, Below w.heap.size w wz → wz.cell? ⟨bw, 10, none⟩ = some (.slice Ar lr cr) := fun wz hz => (h.cw.kept hz).cell r1
  have X3 := hide x3
  have hlr : lr ≤ 1000000 := by have := r2.now.len_eq; have := hx.ret; omega
  have HAR := hide (arity_any p (by omega) w)
  generalize hT : takA p = T at HAR
  generalize hV : givA p = V at HAR
  have HT := hide hT
  have HV := hide hV
  have hTl : T ≤ 17 := by rw [← hT]; exact takA_le _
  have hVl : V ≤ 17 := by rw [← hV]; exact givA_le _
  have hun : ¬ l8 < T := by rw [← hT, ← hlen]; omega
  have hovq : l8 - T + V ≤ 64 := by rw [← hT, ← hV, ← hlen]; exact hov0
  rw [hst] at y2
  clear h hfx hx hs ho hC x4 x10 x3 g1 g2 p1 p2 q1 q2 r1 r2 hT hV
  rw [decide_eq_true hkn] at HAR
  have HKN := hide hkn
  clear hkn
  have t1 : decide ((l8 : Int) < (T : Int)) = false := decide_eq_false (by omega)
  have t1n : decide (l8 < T) = false := decide_eq_false hun
  obtain ⟨q, hq⟩ : ∃ q, q = l8 - T := ⟨_, rfl⟩
  have eq1 : (l8 : Int) - (T : Int) = (q : Int) := by omega
  obtain ⟨q', hq'⟩ : ∃ q', q' = q + V := ⟨_, rfl⟩
  have eq2 : (q : Int) + (V : Int) = (q' : Int) := by omega
  have hqb : q ≤ 64 ∧ q' ≤ 100 := by omega
  have HQ := hide hq
  have HQ' := hide hq'
  have HUN := hide hun
  clear hq hq' hun
  have hov : ¬ 64 < q' := by have := unhide HQ; have := unhide HQ'; omega
  have t2 : decide ((64 : Int) < (q' : Int)) = false := decide_eq_false (by omega)
  have t2n : decide (64 < q') = false := decide_eq_false hov
  have z62 : ((p : Int) == 62) = false := by rw [beq_eq_false_iff_ne]; omega
  have z85 : ((p : Int) == 85) = false := by rw [beq_eq_false_iff_ne]; omega
  have z86 : ((p : Int) == 86) = false := by rw [beq_eq_false_iff_ne]; omega
  have z87 : ((p : Int) == 87) = false := by rw [beq_eq_false_iff_ne]; omega
  have z240 : ((p : Int) == 240) = false := by rw [beq_eq_false_iff_ne]; omega
  have z245 : ((p : Int) == 245) = false := by rw [beq_eq_false_iff_ne]; omega
  go_enter Sakg.func113, Sakg.ntmps113
  go_upto_region 8 with (go_at_call 202; refine (unhide HAR).mono ?_; rintro e w1 ⟨rfl, rfl⟩)
  go_upto_region 9 with fail
  obtain ⟨w2, hw2⟩ : ∃ w2, w2 = w := ⟨_, rfl⟩
  have d2 : Below w.heap.size w w2 := by rw [hw2]; exact Below.refl _ _
  try rw [← hw2]
  clear y8 y2 HAR
  go_upto_region 12 with fail
  go_quiet (fail)
  have dq : Below w.heap.size w (w2.drewN nq) := d2.thn (Quiet.below ⟨nq, rfl⟩ _)
  generalize w2.drewN nq = wq0 at dq ⊢
  go_wp2_with fail
  refine (unhide HC _ dq).mono ?_
  rintro e w8 ⟨Ac, kc, cc, rfl, mc, Nc, b8⟩
  have d8 : Below w.heap.size w w8 := dq.thn b8
  have NNc := hide mc
  have y4 := (unhide X4 w8 d8).1
  have HCM := hide (mc.cmp (unhide X4 w8 d8).2 hcb hgas)
  have hcg := cmp_gt nc f.gas
  generalize cmpI nc f.gas = cg at HCM hcg
  have NWc : New w Ac := Nc.later dq.size
  clear mc
  go_wp2_with fail
  refine (unhide HCM).mono ?_
  rintro e w9 ⟨rfl, q9⟩
  have b9 : Below w8.heap.size w8 w9 := q9.below _
  have d9 : Below w.heap.size w w9 := d8.thn b9
  clear q9 y4
  have hog : ¬ f.gas < nc := by omega
  rw [decide_eq_false hog] at hcg
  clear hog
  go_upto_region 17 with fail
  go_quiet (fail)
  have bq1 : Below w8.heap.size w8 (w9.drewN nq) := b9.thn (Quiet.below ⟨nq, rfl⟩ _)
  generalize w9.drewN nq = wq1 at bq1 ⊢
  go_upto_region 19 with fail
  go_quiet (fail)
  have bq2 : Below w8.heap.size w8 (wq1.drewN nq) := bq1.thn (Quiet.below ⟨nq, rfl⟩ _)
  generalize wq1.drewN nq = wq2 at bq2 ⊢
  go_upto_region 21 with fail
  go_quiet (fail)
  have bq3 : Below w8.heap.size w8 (wq2.drewN nq) := bq2.thn (Quiet.below ⟨nq, rfl⟩ _)
  generalize wq2.drewN nq = wq3 at bq3 ⊢
  go_wp2
  refine bodyPost_ret (results_tmp2 rfl _ _ _) rfl ?_
  exact ⟨Ac, kc, cc, rfl, (unhide NNc).kept bq3, NWc, d8.thn bq3⟩
set_option maxHeartbeats 16000000 in
theorem refuseX_85 (h : SR G bw gf cs fr d (f :: r) x w) (hx : XB x) (hf : AnyF f) (hgas : f.gas < BIG) (nc : Nat) (hcb : nc < BIG) (hC : ∀ wz, Below w.heap.size w wz → Calls Sakg.prog 204 #[.pointer (some ⟨bw, 0, none⟩), .pointer (some ⟨gf, 60 * r.length, none⟩), .int .u8 85] wz (MakesNat wz nc)) (hkn : famA 85 ≠ 0) (hun0 : takA 85 ≤ f.stk.length) (hov0 : f.stk.length - takA 85 + givA 85 ≤ 64) (hst : f.static = false) (hle : nc ≤ f.gas) (hstip : 2300 < f.gas) :
    Calls Sakg.prog 113 #[.pointer (some ⟨bw, 0, none⟩), .pointer (some ⟨gf, 60 * r.length, none⟩), .int .u8 85] w fun e w' => ∃ A k c, e = .returned (.tuple #[.int .u8 0, .slice A k c]) ∧ IsNat w' A k c nc ∧ New w A ∧ Below w.heap.size w w' := by
  have hBB := big_ge
  have hP := p256_ge
  have hPB := p256_big2
  have hs := argN_lt hf.stk
  have hsl := hf.slen
  have hcl := hf.code
  have hfx := h.fx
  obtain ⟨o, ho⟩ : ∃ o, o = 60 * r.length := ⟨_, rfl⟩
  rw [← ho] at hfx hC ⊢
  have HF := hide hfx
  have HS := hide hs
  have HC := hide hC
  obtain ⟨A8, l8, c8, g1, g2⟩ := hfx.kf.stk
  have hlen := g2.len
  have y8 : w.cell? ⟨gf, o + 8, none⟩ = some (.slice A8 l8 c8) := hfx.cell g1
  have y2 : w.cell? ⟨gf, o + 2, none⟩ = some (.bool f.static) := hfx.cell hfx.kf.static
  obtain ⟨A4, k4, c4, p1, p2⟩ := hfx.kf.gas
  have x4 : ∀ wz, Below w.heap.size w wz → wz.cell? ⟨gf, o + 4, none⟩ = some (.slice A4 k4 c4) ∧ IsNat wz A4 k4 c4 f.gas := fun wz hz => ⟨(hfx.kept hz).cell p1, (p2.kp (ChgS.of hz)).now⟩
  have X4 := hide x4
  obtain ⟨A0, k0, c0, q1, q2⟩ := hfx.kf.code
  have x10 : ∀ wz, Below w.heap.size w wz → wz.cell? ⟨gf, o + 10, none⟩ = some (.slice A0 k0 c0) ∧ Src wz A0 k0 c0 f.code := fun wz hz => ⟨(hfx.kept hz).cell q1, (q2.kp (ChgS.of hz)).now⟩
  have X10 := hide x10
  have hk0 := q2.now.len_eq
  obtain ⟨Ar, lr, cr, r1, r2⟩ := h.xs.ret
  have x3 : ∀ wz, Below w.heap.size w wz → wz.cell? ⟨bw, 10, none⟩ = some (.slice Ar lr cr) := fun wz hz => (h.cw.kept hz).cell r1
  have X3 := hide x3
  have hlr : lr ≤ 1000000 := by have := r2.now.len_eq; have := hx.ret; omega
  have HAR := hide (arity_any 85 (by omega) w)
  generalize hT : takA 85 = T at HAR
  generalize hV : givA 85 = V at HAR
  have HT := hide hT
  have HV := hide hV
  have hTl : T ≤ 17 := by rw [← hT]; exact takA_le _
  have hVl : V ≤ 17 := by rw [← hV]; exact givA_le _
  have hun : ¬ l8 < T := by rw [← hT, ← hlen]; omega
  have hovq : l8 - T + V ≤ 64 := by rw [← hT, ← hV, ← hlen]; exact hov0
  rw [hst] at y2
  clear h hfx hx hs ho hC x4 x10 x3 g1 g2 p1 p2 q1 q2 r1 r2 hT hV
  rw [decide_eq_true hkn] at HAR
  have HKN := hide hkn
  clear hkn
  have t1 : decide ((l8 : Int) < (T : Int)) = false := decide_eq_false (by omega)
  have t1n : decide (l8 < T) = false := decide_eq_false hun
  obtain ⟨q, hq⟩ : ∃ q, q = l8 - T := ⟨_, rfl⟩
  have eq1 : (l8 : Int) - (T : Int) = (q : Int) := by omega
  obtain ⟨q', hq'⟩ : ∃ q', q' = q + V := ⟨_, rfl⟩
  have eq2 : (q : Int) + (V : Int) = (q' : Int) := by omega
  have hqb : q ≤ 64 ∧ q' ≤ 100 := by omega
  have HQ := hide hq
  have HQ' := hide hq'
  have HUN := hide hun
  clear hq hq' hun
  have hov : ¬ 64 < q' := by have := unhide HQ; have := unhide HQ'; omega
  have t2 : decide ((64 : Int) < (q' : Int)) = false := decide_eq_false (by omega)
  have t2n : decide (64 < q') = false := decide_eq_false hov
  go_enter Sakg.func113, Sakg.ntmps113
  go_upto_region 8 with (go_at_call 202; refine (unhide HAR).mono ?_; rintro e w1 ⟨rfl, rfl⟩)
  go_upto_region 9 with fail
  obtain ⟨w2, hw2⟩ : ∃ w2, w2 = w := ⟨_, rfl⟩
  have d2 : Below w.heap.size w w2 := by rw [hw2]; exact Below.refl _ _
  try rw [← hw2]
  clear y8 y2 HAR
  go_upto_region 12 with fail
  go_quiet (fail)
  have dq : Below w.heap.size w (w2.drewN nq) := d2.thn (Quiet.below ⟨nq, rfl⟩ _)
  generalize w2.drewN nq = wq0 at dq ⊢
  go_wp2_with fail
  refine (unhide HC _ dq).mono ?_
  rintro e w8 ⟨Ac, kc, cc, rfl, mc, Nc, b8⟩
  have d8 : Below w.heap.size w w8 := dq.thn b8
  have NNc := hide mc
  have y4 := (unhide X4 w8 d8).1
  have HCM := hide (mc.cmp (unhide X4 w8 d8).2 hcb hgas)
  have hcg := cmp_gt nc f.gas
  generalize cmpI nc f.gas = cg at HCM hcg
  have NWc : New w Ac := Nc.later dq.size
  clear mc
  go_wp2_with fail
  refine (unhide HCM).mono ?_
  rintro e w9 ⟨rfl, q9⟩
  have b9 : Below w8.heap.size w8 w9 := q9.below _
  have d9 : Below w.heap.size w w9 := d8.thn b9
  clear q9 y4
  have hog : ¬ f.gas < nc := by omega
  rw [decide_eq_false hog] at hcg
  clear hog
  go_upto_region 17 with fail
  have d9d : Below w8.heap.size w8 w9.drew := b9.thn (Quiet.below ⟨1, rfl⟩ _)
  refine wp_region_noPanic ?_
  refine wp_region_held_drew (S := fun w' => Below w8.heap.size w8 w') (by kernel_rfl) (d9d) (fun hHeld => ?_)
  refine held_takeD 0 (.int .u8 85) (some 96) (by rfl) (by rfl) (by kernel_rfl) (by kernel_rfl) (by kernel_rfl) (fun _ _ _ h => h) (.inl ⟨by rfl, fun _ _ => by rfl⟩) (hHeld) ?_
  simp only [Act.put, List.setIfInBounds_toArray, List.set_cons_zero, List.set_cons_succ]
  refine held_takeD 1 (.bool true) (some 97) (by rfl) (by rfl) (by kernel_rfl) (by kernel_rfl) (by kernel_rfl) (fun _ _ _ h => h) (.inl ⟨by rfl, fun _ _ => by go_simp⟩) (hHeld) ?_
  simp only [Act.put, List.setIfInBounds_toArray, List.set_cons_zero, List.set_cons_succ]
  refine held_takeD 2 (.bool true) (some 98) (by rfl) (by rfl) (by kernel_rfl) (by kernel_rfl) (by kernel_rfl) (fun _ _ _ h => h) (.inl ⟨by rfl, fun _ _ => by rfl⟩) (hHeld) ?_
  simp only [Act.put, List.setIfInBounds_toArray, List.set_cons_zero, List.set_cons_succ]
  refine held_takeD 3 (.pointer (some ⟨gf, o, none⟩)) (some 99) (by rfl) (by rfl) (by kernel_rfl) (by kernel_rfl) (by kernel_rfl) (fun _ _ _ h => h) (.inl ⟨by rfl, fun _ _ => by rfl⟩) (hHeld) ?_
  simp only [Act.put, List.setIfInBounds_toArray, List.set_cons_zero, List.set_cons_succ]
  refine held_takeD 4 (.pointer (some ⟨gf, o, none⟩)) (some 100) (by rfl) (by rfl) (by kernel_rfl) (by kernel_rfl) (by kernel_rfl) (fun _ _ _ h => h) (.inl ⟨by rfl, fun _ _ => by go_simp⟩) (hHeld) ?_
  simp only [Act.put, List.setIfInBounds_toArray, List.set_cons_zero, List.set_cons_succ]
  refine held_takeD 5 (.pointer (some ⟨gf, o + 4, none⟩)) (some 101) (by rfl) (by rfl) (by kernel_rfl) (by kernel_rfl) (by kernel_rfl) (fun _ _ _ h => h) (.inl ⟨by rfl, fun _ _ => by go_simp⟩) (hHeld) ?_
  simp only [Act.put, List.setIfInBounds_toArray, List.set_cons_zero, List.set_cons_succ]
  refine held_takeD 6 (.slice A4 k4 c4) (some 102) (by rfl) (by rfl) (by kernel_rfl) (by kernel_rfl) (by kernel_rfl) (fun _ _ _ h => h) (.inl ⟨by rfl, fun wS hS => by have hc := (unhide X4 wS (d8.thn hS)).1; go_simp⟩) (hHeld) ?_
  simp only [Act.put, List.setIfInBounds_toArray, List.set_cons_zero, List.set_cons_succ]
  refine held_one 7 (by kernel_rfl) (by rfl) (fun K' hK' => ?_)
  go_simp
  refine (num_any 2300 w9.drew (by omega)).mono ?_
  rintro e wa ⟨Aa, ka, ca, rfl, na, Na, ba⟩
  refine hK'.out _ _ (d9d.thn ba) ?_
  clear hK' K'
  have da : Below w8.heap.size w8 wa := d9d.thn ba
  refine held_one 8 (by kernel_rfl) (by rfl) (fun K' hK' => ?_)
  go_simp
  refine ((unhide X4 wa (d8.thn da)).2.cmp na hgas (by omega)).mono ?_
  rintro e wb ⟨rfl, qb⟩
  refine hK'.out _ _ (da.thn (qb.below _)) ?_
  clear hK' K'
  have db : Below w8.heap.size w8 wb := da.thn (qb.below _)
  refine held_takeD 9 (.bool (decide (cmpI f.gas 2300 ≤ 0))) (some 105) (by rfl) (by rfl) (by kernel_rfl) (by kernel_rfl) (by kernel_rfl) (fun _ _ _ h => h) (.inl ⟨by rfl, fun _ _ => by go_simp⟩) (db) ?_
  simp only [Act.put, List.setIfInBounds_toArray, List.set_cons_zero, List.set_cons_succ]
  refine held_takeD 10 (.bool (decide (cmpI f.gas 2300 ≤ 0))) (some 106) (by rfl) (by rfl) (by kernel_rfl) (by kernel_rfl) (by kernel_rfl) (fun _ _ _ h => h) (.inl ⟨by rfl, fun _ _ => by go_simp⟩) (db) ?_
  simp only [Act.put, List.setIfInBounds_toArray, List.set_cons_zero, List.set_cons_succ]
  refine held_takeD 11 (.bool (decide (cmpI f.gas 2300 ≤ 0))) (some 95) (by rfl) (by rfl) (by kernel_rfl) (by kernel_rfl) (by kernel_rfl) (fun _ _ _ h => h) (.inl ⟨by rfl, fun _ _ => by rfl⟩) (db) ?_
  simp only [Act.put, List.setIfInBounds_toArray, List.set_cons_zero, List.set_cons_succ]
  refine wpAnyH_done (by kernel_rfl) ?_ _
  refine NoPanic.normal ?_
  rw [cmp_le, decide_eq_false (show ¬ f.gas ≤ 2300 by omega)]
  clear na qb
  go_upto_region 19 with fail
  go_quiet (fail)
  have bq2 : Below w8.heap.size w8 (wb.drewN nq) := db.thn (Quiet.below ⟨nq, rfl⟩ _)
  generalize wb.drewN nq = wq2 at bq2 ⊢
  go_upto_region 21 with fail
  go_quiet (fail)
  have bq3 : Below w8.heap.size w8 (wq2.drewN nq) := bq2.thn (Quiet.below ⟨nq, rfl⟩ _)
  generalize wq2.drewN nq = wq3 at bq3 ⊢
  go_wp2
  refine bodyPost_ret (results_tmp2 rfl _ _ _) rfl ?_
  exact ⟨Ac, kc, cc, rfl, (unhide NNc).kept bq3, NWc, d8.thn bq3⟩
set_option maxHeartbeats 16000000 in
theorem refuseX_88 (p : Nat) (h1 : 88 ≤ p) (h2 : p ≤ 239) (h : SR G bw gf cs fr d (f :: r) x w) (hx : XB x) (hf : AnyF f) (hgas : f.gas < BIG) (nc : Nat) (hcb : nc < BIG) (hC : ∀ wz, Below w.heap.size w wz → Calls Sakg.prog 204 #[.pointer (some ⟨bw, 0, none⟩), .pointer (some ⟨gf, 60 * r.length, none⟩), .int .u8 p] wz (MakesNat wz nc)) (hkn : famA p ≠ 0) (hun0 : takA p ≤ f.stk.length) (hov0 : f.stk.length - takA p + givA p ≤ 64) (hst : f.static = false) (hle : nc ≤ f.gas) :
    Calls Sakg.prog 113 #[.pointer (some ⟨bw, 0, none⟩), .pointer (some ⟨gf, 60 * r.length, none⟩), .int .u8 p] w fun e w' => ∃ A k c, e = .returned (.tuple #[.int .u8 0, .slice A k c]) ∧ IsNat w' A k c nc ∧ New w A ∧ Below w.heap.size w w' := by
  have hBB := big_ge
  have hP := p256_ge
  have hPB := p256_big2
  have hs := argN_lt hf.stk
  have hsl := hf.slen
  have hcl := hf.code
  have hfx := h.fx
  obtain ⟨o, ho⟩ : ∃ o, o = 60 * r.length := ⟨_, rfl⟩
  rw [← ho] at hfx hC ⊢
  have HF := hide hfx
  have HS := hide hs
  have HC := hide hC
  obtain ⟨A8, l8, c8, g1, g2⟩ := hfx.kf.stk
  have hlen := g2.len
  have y8 : w.cell? ⟨gf, o + 8, none⟩ = some (.slice A8 l8 c8) := hfx.cell g1
  have y2 : w.cell? ⟨gf, o + 2, none⟩ = some (.bool f.static) := hfx.cell hfx.kf.static
  obtain ⟨A4, k4, c4, p1, p2⟩ := hfx.kf.gas
  have x4 : ∀ wz, Below w.heap.size w wz → wz.cell? ⟨gf, o + 4, none⟩ = some (.slice A4 k4 c4) ∧ IsNat wz A4 k4 c4 f.gas := fun wz hz => ⟨(hfx.kept hz).cell p1, (p2.kp (ChgS.of hz)).now⟩
  have X4 := hide x4
  obtain ⟨A0, k0, c0, q1, q2⟩ := hfx.kf.code
  have x10 : ∀ wz, Below w.heap.size w wz → wz.cell? ⟨gf, o + 10, none⟩ = some (.slice A0 k0 c0) ∧ Src wz A0 k0 c0 f.code := fun wz hz => ⟨(hfx.kept hz).cell q1, (q2.kp (ChgS.of hz)).now⟩
  have X10 := hide x10
  have hk0 := q2.now.len_eq
  obtain ⟨Ar, lr, cr, r1, r2⟩ := h.xs.ret
  have x3 : ∀ wz, Below w.heap.size w wz → wz.cell? ⟨bw, 10, none⟩ = some (.slice Ar lr cr) := fun wz hz => (h.cw.kept hz).cell r1
  have X3 := hide x3
  have hlr : lr ≤ 1000000 := by have := r2.now.len_eq; have := hx.ret; omega
  have HAR := hide (arity_any p (by omega) w)
  generalize hT : takA p = T at HAR
  generalize hV : givA p = V at HAR
  have HT := hide hT
  have HV := hide hV
  have hTl : T ≤ 17 := by rw [← hT]; exact takA_le _
  have hVl : V ≤ 17 := by rw [← hV]; exact givA_le _
  have hun : ¬ l8 < T := by rw [← hT, ← hlen]; omega
  have hovq : l8 - T + V ≤ 64 := by rw [← hT, ← hV, ← hlen]; exact hov0
  rw [hst] at y2
  clear h hfx hx hs ho hC x4 x10 x3 g1 g2 p1 p2 q1 q2 r1 r2 hT hV
  rw [decide_eq_true hkn] at HAR
  have HKN := hide hkn
  clear hkn
  have t1 : decide ((l8 : Int) < (T : Int)) = false := decide_eq_false (by omega)
  have t1n : decide (l8 < T) = false := decide_eq_false hun
  obtain ⟨q, hq⟩ : ∃ q, q = l8 - T := ⟨_, rfl⟩
  have eq1 : (l8 : Int) - (T : Int) = (q : Int) := by omega
  obtain ⟨q', hq'⟩ : ∃ q', q' = q + V := ⟨_, rfl⟩
  have eq2 : (q : Int) + (V : Int) = (q' : Int) := by omega
  have hqb : q ≤ 64 ∧ q' ≤ 100 := by omega
  have HQ := hide hq
  have HQ' := hide hq'
  have HUN := hide hun
  clear hq hq' hun
  have hov : ¬ 64 < q' := by have := unhide HQ; have := unhide HQ'; omega
  have t2 : decide ((64 : Int) < (q' : Int)) = false := decide_eq_false (by omega)
  have t2n : decide (64 < q') = false := decide_eq_false hov
  have z62 : ((p : Int) == 62) = false := by rw [beq_eq_false_iff_ne]; omega
  have z85 : ((p : Int) == 85) = false := by rw [beq_eq_false_iff_ne]; omega
  have z86 : ((p : Int) == 86) = false := by rw [beq_eq_false_iff_ne]; omega
  have z87 : ((p : Int) == 87) = false := by rw [beq_eq_false_iff_ne]; omega
  have z240 : ((p : Int) == 240) = false := by rw [beq_eq_false_iff_ne]; omega
  have z245 : ((p : Int) == 245) = false := by rw [beq_eq_false_iff_ne]; omega
  go_enter Sakg.func113, Sakg.ntmps113
  go_upto_region 8 with (go_at_call 202; refine (unhide HAR).mono ?_; rintro e w1 ⟨rfl, rfl⟩)
  go_upto_region 9 with fail
  obtain ⟨w2, hw2⟩ : ∃ w2, w2 = w := ⟨_, rfl⟩
  have d2 : Below w.heap.size w w2 := by rw [hw2]; exact Below.refl _ _
  try rw [← hw2]
  clear y8 y2 HAR
  go_upto_region 12 with fail
  go_quiet (fail)
  have dq : Below w.heap.size w (w2.drewN nq) := d2.thn (Quiet.below ⟨nq, rfl⟩ _)
  generalize w2.drewN nq = wq0 at dq ⊢
  go_wp2_with fail
  refine (unhide HC _ dq).mono ?_
  rintro e w8 ⟨Ac, kc, cc, rfl, mc, Nc, b8⟩
  have d8 : Below w.heap.size w w8 := dq.thn b8
  have NNc := hide mc
  have y4 := (unhide X4 w8 d8).1
  have HCM := hide (mc.cmp (unhide X4 w8 d8).2 hcb hgas)
  have hcg := cmp_gt nc f.gas
  generalize cmpI nc f.gas = cg at HCM hcg
  have NWc : New w Ac := Nc.later dq.size
  clear mc
  go_wp2_with fail
  refine (unhide HCM).mono ?_
  rintro e w9 ⟨rfl, q9⟩
  have b9 : Below w8.heap.size w8 w9 := q9.below _
  have d9 : Below w.heap.size w w9 := d8.thn b9
  clear q9 y4
  have hog : ¬ f.gas < nc := by omega
  rw [decide_eq_false hog] at hcg
  clear hog
  go_upto_region 17 with fail
  go_quiet (fail)
  have bq1 : Below w8.heap.size w8 (w9.drewN nq) := b9.thn (Quiet.below ⟨nq, rfl⟩ _)
  generalize w9.drewN nq = wq1 at bq1 ⊢
  go_upto_region 19 with fail
  go_quiet (fail)
  have bq2 : Below w8.heap.size w8 (wq1.drewN nq) := bq1.thn (Quiet.below ⟨nq, rfl⟩ _)
  generalize wq1.drewN nq = wq2 at bq2 ⊢
  go_upto_region 21 with fail
  go_quiet (fail)
  have bq3 : Below w8.heap.size w8 (wq2.drewN nq) := bq2.thn (Quiet.below ⟨nq, rfl⟩ _)
  generalize wq2.drewN nq = wq3 at bq3 ⊢
  go_wp2
  refine bodyPost_ret (results_tmp2 rfl _ _ _) rfl ?_
  exact ⟨Ac, kc, cc, rfl, (unhide NNc).kept bq3, NWc, d8.thn bq3⟩
set_option maxHeartbeats 16000000 in
theorem refuseX_240 (h : SR G bw gf cs fr d (f :: r) x w) (hx : XB x) (hf : AnyF f) (hgas : f.gas < BIG) (nc : Nat) (hcb : nc < BIG) (hC : ∀ wz, Below w.heap.size w wz → Calls Sakg.prog 204 #[.pointer (some ⟨bw, 0, none⟩), .pointer (some ⟨gf, 60 * r.length, none⟩), .int .u8 240] wz (MakesNat wz nc)) (hkn : famA 240 ≠ 0) (hun0 : takA 240 ≤ f.stk.length) (hov0 : f.stk.length - takA 240 + givA 240 ≤ 64) (hst : f.static = false) (hle : nc ≤ f.gas) (hinit : argN f.stk 2 ≤ 512) :
    Calls Sakg.prog 113 #[.pointer (some ⟨bw, 0, none⟩), .pointer (some ⟨gf, 60 * r.length, none⟩), .int .u8 240] w fun e w' => ∃ A k c, e = .returned (.tuple #[.int .u8 0, .slice A k c]) ∧ IsNat w' A k c nc ∧ New w A ∧ Below w.heap.size w w' := by
  have hBB := big_ge
  have hP := p256_ge
  have hPB := p256_big2
  have hs := argN_lt hf.stk
  have hsl := hf.slen
  have hcl := hf.code
  have hfx := h.fx
  obtain ⟨o, ho⟩ : ∃ o, o = 60 * r.length := ⟨_, rfl⟩
  rw [← ho] at hfx hC ⊢
  have HF := hide hfx
  have HS := hide hs
  have HC := hide hC
  obtain ⟨A8, l8, c8, g1, g2⟩ := hfx.kf.stk
  have hlen := g2.len
  have y8 : w.cell? ⟨gf, o + 8, none⟩ = some (.slice A8 l8 c8) := hfx.cell g1
  have y2 : w.cell? ⟨gf, o + 2, none⟩ = some (.bool f.static) := hfx.cell hfx.kf.static
  obtain ⟨A4, k4, c4, p1, p2⟩ := hfx.kf.gas
  have x4 : ∀ wz, Below w.heap.size w wz → wz.cell? ⟨gf, o + 4, none⟩ = some (.slice A4 k4 c4) ∧ IsNat wz A4 k4 c4 f.gas := fun wz hz => ⟨(hfx.kept hz).cell p1, (p2.kp (ChgS.of hz)).now⟩
  have X4 := hide x4
  obtain ⟨A0, k0, c0, q1, q2⟩ := hfx.kf.code
  have x10 : ∀ wz, Below w.heap.size w wz → wz.cell? ⟨gf, o + 10, none⟩ = some (.slice A0 k0 c0) ∧ Src wz A0 k0 c0 f.code := fun wz hz => ⟨(hfx.kept hz).cell q1, (q2.kp (ChgS.of hz)).now⟩
  have X10 := hide x10
  have hk0 := q2.now.len_eq
  obtain ⟨Ar, lr, cr, r1, r2⟩ := h.xs.ret
  have x3 : ∀ wz, Below w.heap.size w wz → wz.cell? ⟨bw, 10, none⟩ = some (.slice Ar lr cr) := fun wz hz => (h.cw.kept hz).cell r1
  have X3 := hide x3
  have hlr : lr ≤ 1000000 := by have := r2.now.len_eq; have := hx.ret; omega
  have HAR := hide (arity_any 240 (by omega) w)
  generalize hT : takA 240 = T at HAR
  generalize hV : givA 240 = V at HAR
  have HT := hide hT
  have HV := hide hV
  have hTl : T ≤ 17 := by rw [← hT]; exact takA_le _
  have hVl : V ≤ 17 := by rw [← hV]; exact givA_le _
  have hun : ¬ l8 < T := by rw [← hT, ← hlen]; omega
  have hovq : l8 - T + V ≤ 64 := by rw [← hT, ← hV, ← hlen]; exact hov0
  rw [hst] at y2
  clear h hfx hx hs ho hC x4 x10 x3 g1 g2 p1 p2 q1 q2 r1 r2 hT hV
  rw [decide_eq_true hkn] at HAR
  have HKN := hide hkn
  clear hkn
  have t1 : decide ((l8 : Int) < (T : Int)) = false := decide_eq_false (by omega)
  have t1n : decide (l8 < T) = false := decide_eq_false hun
  obtain ⟨q, hq⟩ : ∃ q, q = l8 - T := ⟨_, rfl⟩
  have eq1 : (l8 : Int) - (T : Int) = (q : Int) := by omega
  obtain ⟨q', hq'⟩ : ∃ q', q' = q + V := ⟨_, rfl⟩
  have eq2 : (q : Int) + (V : Int) = (q' : Int) := by omega
  have hqb : q ≤ 64 ∧ q' ≤ 100 := by omega
  have HQ := hide hq
  have HQ' := hide hq'
  have HUN := hide hun
  clear hq hq' hun
  have hov : ¬ 64 < q' := by have := unhide HQ; have := unhide HQ'; omega
  have t2 : decide ((64 : Int) < (q' : Int)) = false := decide_eq_false (by omega)
  have t2n : decide (64 < q') = false := decide_eq_false hov
  go_enter Sakg.func113, Sakg.ntmps113
  go_upto_region 8 with (go_at_call 202; refine (unhide HAR).mono ?_; rintro e w1 ⟨rfl, rfl⟩)
  go_upto_region 9 with fail
  obtain ⟨w2, hw2⟩ : ∃ w2, w2 = w := ⟨_, rfl⟩
  have d2 : Below w.heap.size w w2 := by rw [hw2]; exact Below.refl _ _
  try rw [← hw2]
  clear y8 y2 HAR
  obtain ⟨wi0, hwi0⟩ : ∃ wi0, wi0 = w2 := ⟨_, rfl⟩
  subst hwi0
  have HA := hide (((unhide HF).kept d2).arg (by omega) 2 (by omega))
  have ha2 := unhide HS 2
  generalize ha2e : argN f.stk 2 = a2 at HA ha2
  have HA2 := hide ha2e
  clear ha2e
  go_wp2_with fail
  refine (unhide HA).mono ?_
  rintro e w3 ⟨⟨A3, k3, c3, rfl, s3⟩, q3⟩
  have b3 : Below wi0.heap.size wi0 w3 := q3.below _
  have KK3 := hide (s3.kp (ChgS.of b3))
  have HN := hide (num_any 512 w3 (by omega))
  clear s3 q3
  go_wp2_with fail
  refine (unhide HN).mono ?_
  rintro e w4 ⟨A5, k5, c5, rfl, n5, N5, b4⟩
  have HCM := hide (((unhide KK3).kp (ChgS.of b4)).now.cmp n5 (by omega) (by omega))
  have hcg := cmp_gt a2 512
  generalize cmpI a2 512 = ci at HCM hcg
  clear n5
  go_wp2_with fail
  refine (unhide HCM).mono ?_
  rintro e w5 ⟨rfl, q5⟩
  have d5 : Below w.heap.size w w5 := d2.thn (b3.thn (b4.thn (q5.below _)))
  clear q5
  have hbig : ¬ 512 < a2 := by have := unhide HA2; omega
  rw [decide_eq_false hbig] at hcg
  clear hbig
  go_upto_region 12 with fail
  go_quiet (fail)
  have dq : Below w.heap.size w (w5.drewN nq) := d5.thn (Quiet.below ⟨nq, rfl⟩ _)
  generalize w5.drewN nq = wq0 at dq ⊢
  go_wp2_with fail
  refine (unhide HC _ dq).mono ?_
  rintro e w8 ⟨Ac, kc, cc, rfl, mc, Nc, b8⟩
  have d8 : Below w.heap.size w w8 := dq.thn b8
  have NNc := hide mc
  have y4 := (unhide X4 w8 d8).1
  have HCM := hide (mc.cmp (unhide X4 w8 d8).2 hcb hgas)
  have hcg := cmp_gt nc f.gas
  generalize cmpI nc f.gas = cg at HCM hcg
  have NWc : New w Ac := Nc.later dq.size
  clear mc
  go_wp2_with fail
  refine (unhide HCM).mono ?_
  rintro e w9 ⟨rfl, q9⟩
  have b9 : Below w8.heap.size w8 w9 := q9.below _
  have d9 : Below w.heap.size w w9 := d8.thn b9
  clear q9 y4
  have hog : ¬ f.gas < nc := by omega
  rw [decide_eq_false hog] at hcg
  clear hog
  go_upto_region 17 with fail
  go_quiet (fail)
  have bq1 : Below w8.heap.size w8 (w9.drewN nq) := b9.thn (Quiet.below ⟨nq, rfl⟩ _)
  generalize w9.drewN nq = wq1 at bq1 ⊢
  go_upto_region 19 with fail
  go_quiet (fail)
  have bq2 : Below w8.heap.size w8 (wq1.drewN nq) := bq1.thn (Quiet.below ⟨nq, rfl⟩ _)
  generalize wq1.drewN nq = wq2 at bq2 ⊢
  go_upto_region 21 with fail
  go_quiet (fail)
  have bq3 : Below w8.heap.size w8 (wq2.drewN nq) := bq2.thn (Quiet.below ⟨nq, rfl⟩ _)
  generalize wq2.drewN nq = wq3 at bq3 ⊢
  go_wp2
  refine bodyPost_ret (results_tmp2 rfl _ _ _) rfl ?_
  exact ⟨Ac, kc, cc, rfl, (unhide NNc).kept bq3, NWc, d8.thn bq3⟩
set_option maxHeartbeats 16000000 in
theorem refuseX_241 (p : Nat) (h1 : 241 ≤ p) (h2 : p ≤ 244) (h : SR G bw gf cs fr d (f :: r) x w) (hx : XB x) (hf : AnyF f) (hgas : f.gas < BIG) (nc : Nat) (hcb : nc < BIG) (hC : ∀ wz, Below w.heap.size w wz → Calls Sakg.prog 204 #[.pointer (some ⟨bw, 0, none⟩), .pointer (some ⟨gf, 60 * r.length, none⟩), .int .u8 p] wz (MakesNat wz nc)) (hkn : famA p ≠ 0) (hun0 : takA p ≤ f.stk.length) (hov0 : f.stk.length - takA p + givA p ≤ 64) (hst : f.static = false) (hle : nc ≤ f.gas) :
    Calls Sakg.prog 113 #[.pointer (some ⟨bw, 0, none⟩), .pointer (some ⟨gf, 60 * r.length, none⟩), .int .u8 p] w fun e w' => ∃ A k c, e = .returned (.tuple #[.int .u8 0, .slice A k c]) ∧ IsNat w' A k c nc ∧ New w A ∧ Below w.heap.size w w' := by
  have hBB := big_ge
  have hP := p256_ge
  have hPB := p256_big2
  have hs := argN_lt hf.stk
  have hsl := hf.slen
  have hcl := hf.code
  have hfx := h.fx
  obtain ⟨o, ho⟩ : ∃ o, o = 60 * r.length := ⟨_, rfl⟩
  rw [← ho] at hfx hC ⊢
  have HF := hide hfx
  have HS := hide hs
  have HC := hide hC
  obtain ⟨A8, l8, c8, g1, g2⟩ := hfx.kf.stk
  have hlen := g2.len
  have y8 : w.cell? ⟨gf, o + 8, none⟩ = some (.slice A8 l8 c8) := hfx.cell g1
  have y2 : w.cell? ⟨gf, o + 2, none⟩ = some (.bool f.static) := hfx.cell hfx.kf.static
  obtain ⟨A4, k4, c4, p1, p2⟩ := hfx.kf.gas
  have x4 : ∀ wz, Below w.heap.size w wz → wz.cell? ⟨gf, o + 4, none⟩ = some (.slice A4 k4 c4) ∧ IsNat wz A4 k4 c4 f.gas := fun wz hz => ⟨(hfx.kept hz).cell p1, (p2.kp (ChgS.of hz)).now⟩
  have X4 := hide x4
  obtain ⟨A0, k0, c0, q1, q2⟩ := hfx.kf.code
  have x10 : ∀ wz, Below w.heap.size w wz → wz.cell? ⟨gf, o + 10, none⟩ = some (.slice A0 k0 c0) ∧ Src wz A0 k0 c0 f.code := fun wz hz => ⟨(hfx.kept hz).cell q1, (q2.kp (ChgS.of hz)).now⟩
  have X10 := hide x10
  have hk0 := q2.now.len_eq
  obtain ⟨Ar, lr, cr, r1, r2⟩ := h.xs.ret
  have x3 : ∀ wz, Below w.heap.size w wz → wz.cell? ⟨bw, 10, none⟩ = some (.slice Ar lr cr) := fun wz hz => (h.cw.kept hz).cell r1
  have X3 := hide x3
  have hlr : lr ≤ 1000000 := by have := r2.now.len_eq; have := hx.ret; omega
  have HAR := hide (arity_any p (by omega) w)
  generalize hT : takA p = T at HAR
  generalize hV : givA p = V at HAR
  have HT := hide hT
  have HV := hide hV
  have hTl : T ≤ 17 := by rw [← hT]; exact takA_le _
  have hVl : V ≤ 17 := by rw [← hV]; exact givA_le _
  have hun : ¬ l8 < T := by rw [← hT, ← hlen]; omega
  have hovq : l8 - T + V ≤ 64 := by rw [← hT, ← hV, ← hlen]; exact hov0
  rw [hst] at y2
  clear h hfx hx hs ho hC x4 x10 x3 g1 g2 p1 p2 q1 q2 r1 r2 hT hV
  rw [decide_eq_true hkn] at HAR
  have HKN := hide hkn
  clear hkn
  have t1 : decide ((l8 : Int) < (T : Int)) = false := decide_eq_false (by omega)
  have t1n : decide (l8 < T) = false := decide_eq_false hun
  obtain ⟨q, hq⟩ : ∃ q, q = l8 - T := ⟨_, rfl⟩
  have eq1 : (l8 : Int) - (T : Int) = (q : Int) := by omega
  obtain ⟨q', hq'⟩ : ∃ q', q' = q + V := ⟨_, rfl⟩
  have eq2 : (q : Int) + (V : Int) = (q' : Int) := by omega
  have hqb : q ≤ 64 ∧ q' ≤ 100 := by omega
  have HQ := hide hq
  have HQ' := hide hq'
  have HUN := hide hun
  clear hq hq' hun
  have hov : ¬ 64 < q' := by have := unhide HQ; have := unhide HQ'; omega
  have t2 : decide ((64 : Int) < (q' : Int)) = false := decide_eq_false (by omega)
  have t2n : decide (64 < q') = false := decide_eq_false hov
  have z62 : ((p : Int) == 62) = false := by rw [beq_eq_false_iff_ne]; omega
  have z85 : ((p : Int) == 85) = false := by rw [beq_eq_false_iff_ne]; omega
  have z86 : ((p : Int) == 86) = false := by rw [beq_eq_false_iff_ne]; omega
  have z87 : ((p : Int) == 87) = false := by rw [beq_eq_false_iff_ne]; omega
  have z240 : ((p : Int) == 240) = false := by rw [beq_eq_false_iff_ne]; omega
  have z245 : ((p : Int) == 245) = false := by rw [beq_eq_false_iff_ne]; omega
  go_enter Sakg.func113, Sakg.ntmps113
  go_upto_region 8 with (go_at_call 202; refine (unhide HAR).mono ?_; rintro e w1 ⟨rfl, rfl⟩)
  go_upto_region 9 with fail
  obtain ⟨w2, hw2⟩ : ∃ w2, w2 = w := ⟨_, rfl⟩
  have d2 : Below w.heap.size w w2 := by rw [hw2]; exact Below.refl _ _
  try rw [← hw2]
  clear y8 y2 HAR
  go_upto_region 12 with fail
  go_quiet (fail)
  have dq : Below w.heap.size w (w2.drewN nq) := d2.thn (Quiet.below ⟨nq, rfl⟩ _)
  generalize w2.drewN nq = wq0 at dq ⊢
  go_wp2_with fail
  refine (unhide HC _ dq).mono ?_
  rintro e w8 ⟨Ac, kc, cc, rfl, mc, Nc, b8⟩
  have d8 : Below w.heap.size w w8 := dq.thn b8
  have NNc := hide mc
  have y4 := (unhide X4 w8 d8).1
  have HCM := hide (mc.cmp (unhide X4 w8 d8).2 hcb hgas)
  have hcg := cmp_gt nc f.gas
  generalize cmpI nc f.gas = cg at HCM hcg
  have NWc : New w Ac := Nc.later dq.size
  clear mc
  go_wp2_with fail
  refine (unhide HCM).mono ?_
  rintro e w9 ⟨rfl, q9⟩
  have b9 : Below w8.heap.size w8 w9 := q9.below _
  have d9 : Below w.heap.size w w9 := d8.thn b9
  clear q9 y4
  have hog : ¬ f.gas < nc := by omega
  rw [decide_eq_false hog] at hcg
  clear hog
  go_upto_region 17 with fail
  go_quiet (fail)
  have bq1 : Below w8.heap.size w8 (w9.drewN nq) := b9.thn (Quiet.below ⟨nq, rfl⟩ _)
  generalize w9.drewN nq = wq1 at bq1 ⊢
  go_upto_region 19 with fail
  go_quiet (fail)
  have bq2 : Below w8.heap.size w8 (wq1.drewN nq) := bq1.thn (Quiet.below ⟨nq, rfl⟩ _)
  generalize wq1.drewN nq = wq2 at bq2 ⊢
  go_upto_region 21 with fail
  go_quiet (fail)
  have bq3 : Below w8.heap.size w8 (wq2.drewN nq) := bq2.thn (Quiet.below ⟨nq, rfl⟩ _)
  generalize wq2.drewN nq = wq3 at bq3 ⊢
  go_wp2
  refine bodyPost_ret (results_tmp2 rfl _ _ _) rfl ?_
  exact ⟨Ac, kc, cc, rfl, (unhide NNc).kept bq3, NWc, d8.thn bq3⟩
set_option maxHeartbeats 16000000 in
theorem refuseX_245 (h : SR G bw gf cs fr d (f :: r) x w) (hx : XB x) (hf : AnyF f) (hgas : f.gas < BIG) (nc : Nat) (hcb : nc < BIG) (hC : ∀ wz, Below w.heap.size w wz → Calls Sakg.prog 204 #[.pointer (some ⟨bw, 0, none⟩), .pointer (some ⟨gf, 60 * r.length, none⟩), .int .u8 245] wz (MakesNat wz nc)) (hkn : famA 245 ≠ 0) (hun0 : takA 245 ≤ f.stk.length) (hov0 : f.stk.length - takA 245 + givA 245 ≤ 64) (hst : f.static = false) (hle : nc ≤ f.gas) (hinit : argN f.stk 2 ≤ 512) :
    Calls Sakg.prog 113 #[.pointer (some ⟨bw, 0, none⟩), .pointer (some ⟨gf, 60 * r.length, none⟩), .int .u8 245] w fun e w' => ∃ A k c, e = .returned (.tuple #[.int .u8 0, .slice A k c]) ∧ IsNat w' A k c nc ∧ New w A ∧ Below w.heap.size w w' := by
  have hBB := big_ge
  have hP := p256_ge
  have hPB := p256_big2
  have hs := argN_lt hf.stk
  have hsl := hf.slen
  have hcl := hf.code
  have hfx := h.fx
  obtain ⟨o, ho⟩ : ∃ o, o = 60 * r.length := ⟨_, rfl⟩
  rw [← ho] at hfx hC ⊢
  have HF := hide hfx
  have HS := hide hs
  have HC := hide hC
  obtain ⟨A8, l8, c8, g1, g2⟩ := hfx.kf.stk
  have hlen := g2.len
  have y8 : w.cell? ⟨gf, o + 8, none⟩ = some (.slice A8 l8 c8) := hfx.cell g1
  have y2 : w.cell? ⟨gf, o + 2, none⟩ = some (.bool f.static) := hfx.cell hfx.kf.static
  obtain ⟨A4, k4, c4, p1, p2⟩ := hfx.kf.gas
  have x4 : ∀ wz, Below w.heap.size w wz → wz.cell? ⟨gf, o + 4, none⟩ = some (.slice A4 k4 c4) ∧ IsNat wz A4 k4 c4 f.gas := fun wz hz => ⟨(hfx.kept hz).cell p1, (p2.kp (ChgS.of hz)).now⟩
  have X4 := hide x4
  obtain ⟨A0, k0, c0, q1, q2⟩ := hfx.kf.code
  have x10 : ∀ wz, Below w.heap.size w wz → wz.cell? ⟨gf, o + 10, none⟩ = some (.slice A0 k0 c0) ∧ Src wz A0 k0 c0 f.code := fun wz hz => ⟨(hfx.kept hz).cell q1, (q2.kp (ChgS.of hz)).now⟩
  have X10 := hide x10
  have hk0 := q2.now.len_eq
  obtain ⟨Ar, lr, cr, r1, r2⟩ := h.xs.ret
  have x3 : ∀ wz, Below w.heap.size w wz → wz.cell? ⟨bw, 10, none⟩ = some (.slice Ar lr cr) := fun wz hz => (h.cw.kept hz).cell r1
  have X3 := hide x3
  have hlr : lr ≤ 1000000 := by have := r2.now.len_eq; have := hx.ret; omega
  have HAR := hide (arity_any 245 (by omega) w)
  generalize hT : takA 245 = T at HAR
  generalize hV : givA 245 = V at HAR
  have HT := hide hT
  have HV := hide hV
  have hTl : T ≤ 17 := by rw [← hT]; exact takA_le _
  have hVl : V ≤ 17 := by rw [← hV]; exact givA_le _
  have hun : ¬ l8 < T := by rw [← hT, ← hlen]; omega
  have hovq : l8 - T + V ≤ 64 := by rw [← hT, ← hV, ← hlen]; exact hov0
  rw [hst] at y2
  clear h hfx hx hs ho hC x4 x10 x3 g1 g2 p1 p2 q1 q2 r1 r2 hT hV
  rw [decide_eq_true hkn] at HAR
  have HKN := hide hkn
  clear hkn
  have t1 : decide ((l8 : Int) < (T : Int)) = false := decide_eq_false (by omega)
  have t1n : decide (l8 < T) = false := decide_eq_false hun
  obtain ⟨q, hq⟩ : ∃ q, q = l8 - T := ⟨_, rfl⟩
  have eq1 : (l8 : Int) - (T : Int) = (q : Int) := by omega
  obtain ⟨q', hq'⟩ : ∃ q', q' = q + V := ⟨_, rfl⟩
  have eq2 : (q : Int) + (V : Int) = (q' : Int) := by omega
  have hqb : q ≤ 64 ∧ q' ≤ 100 := by omega
  have HQ := hide hq
  have HQ' := hide hq'
  have HUN := hide hun
  clear hq hq' hun
  have hov : ¬ 64 < q' := by have := unhide HQ; have := unhide HQ'; omega
  have t2 : decide ((64 : Int) < (q' : Int)) = false := decide_eq_false (by omega)
  have t2n : decide (64 < q') = false := decide_eq_false hov
  go_enter Sakg.func113, Sakg.ntmps113
  go_upto_region 8 with (go_at_call 202; refine (unhide HAR).mono ?_; rintro e w1 ⟨rfl, rfl⟩)
  go_upto_region 9 with fail
  obtain ⟨w2, hw2⟩ : ∃ w2, w2 = w := ⟨_, rfl⟩
  have d2 : Below w.heap.size w w2 := by rw [hw2]; exact Below.refl _ _
  try rw [← hw2]
  clear y8 y2 HAR
  obtain ⟨wi0, hwi0⟩ : ∃ wi0, wi0 = w2 := ⟨_, rfl⟩
  subst hwi0
  have HA := hide (((unhide HF).kept d2).arg (by omega) 2 (by omega))
  have ha2 := unhide HS 2
  generalize ha2e : argN f.stk 2 = a2 at HA ha2
  have HA2 := hide ha2e
  clear ha2e
  go_wp2_with fail
  refine (unhide HA).mono ?_
  rintro e w3 ⟨⟨A3, k3, c3, rfl, s3⟩, q3⟩
  have b3 : Below wi0.heap.size wi0 w3 := q3.below _
  have KK3 := hide (s3.kp (ChgS.of b3))
  have HN := hide (num_any 512 w3 (by omega))
  clear s3 q3
  go_wp2_with fail
  refine (unhide HN).mono ?_
  rintro e w4 ⟨A5, k5, c5, rfl, n5, N5, b4⟩
  have HCM := hide (((unhide KK3).kp (ChgS.of b4)).now.cmp n5 (by omega) (by omega))
  have hcg := cmp_gt a2 512
  generalize cmpI a2 512 = ci at HCM hcg
  clear n5
  go_wp2_with fail
  refine (unhide HCM).mono ?_
  rintro e w5 ⟨rfl, q5⟩
  have d5 : Below w.heap.size w w5 := d2.thn (b3.thn (b4.thn (q5.below _)))
  clear q5
  have hbig : ¬ 512 < a2 := by have := unhide HA2; omega
  rw [decide_eq_false hbig] at hcg
  clear hbig
  go_upto_region 12 with fail
  go_quiet (fail)
  have dq : Below w.heap.size w (w5.drewN nq) := d5.thn (Quiet.below ⟨nq, rfl⟩ _)
  generalize w5.drewN nq = wq0 at dq ⊢
  go_wp2_with fail
  refine (unhide HC _ dq).mono ?_
  rintro e w8 ⟨Ac, kc, cc, rfl, mc, Nc, b8⟩
  have d8 : Below w.heap.size w w8 := dq.thn b8
  have NNc := hide mc
  have y4 := (unhide X4 w8 d8).1
  have HCM := hide (mc.cmp (unhide X4 w8 d8).2 hcb hgas)
  have hcg := cmp_gt nc f.gas
  generalize cmpI nc f.gas = cg at HCM hcg
  have NWc : New w Ac := Nc.later dq.size
  clear mc
  go_wp2_with fail
  refine (unhide HCM).mono ?_
  rintro e w9 ⟨rfl, q9⟩
  have b9 : Below w8.heap.size w8 w9 := q9.below _
  have d9 : Below w.heap.size w w9 := d8.thn b9
  clear q9 y4
  have hog : ¬ f.gas < nc := by omega
  rw [decide_eq_false hog] at hcg
  clear hog
  go_upto_region 17 with fail
  go_quiet (fail)
  have bq1 : Below w8.heap.size w8 (w9.drewN nq) := b9.thn (Quiet.below ⟨nq, rfl⟩ _)
  generalize w9.drewN nq = wq1 at bq1 ⊢
  go_upto_region 19 with fail
  go_quiet (fail)
  have bq2 : Below w8.heap.size w8 (wq1.drewN nq) := bq1.thn (Quiet.below ⟨nq, rfl⟩ _)
  generalize wq1.drewN nq = wq2 at bq2 ⊢
  go_upto_region 21 with fail
  go_quiet (fail)
  have bq3 : Below w8.heap.size w8 (wq2.drewN nq) := bq2.thn (Quiet.below ⟨nq, rfl⟩ _)
  generalize wq2.drewN nq = wq3 at bq3 ⊢
  go_wp2
  refine bodyPost_ret (results_tmp2 rfl _ _ _) rfl ?_
  exact ⟨Ac, kc, cc, rfl, (unhide NNc).kept bq3, NWc, d8.thn bq3⟩
end

end Go.Proofs.YgcsakGreat
