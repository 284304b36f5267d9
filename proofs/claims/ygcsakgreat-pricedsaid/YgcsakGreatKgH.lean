/-
  yp: refusal at any instruction.
-/
import Derived.Test.YgcsakGreatKgG
namespace Go.Proofs.YgcsakGreat
set_option linter.unusedVariables false
set_option linter.unusedSimpArgs false
set_option maxRecDepth 100000
open Go.RowKit

/-- what a refusal answers; and what is known where it does not refuse -/
structure Fit (p : Nat) (f : FD) (n : Nat) : Prop where
  known : famA p ≠ 0
  takes : takA p ≤ f.stk.length
  gives : f.stk.length - takA p + givA p ≤ 64
  init : p = 240 ∨ p = 245 → argN f.stk 2 ≤ 512
  gas : n ≤ f.gas
  paid : Paid p f.stk f.ml n
def RefR (p : Nat) (f : FD) (w : World) (e : Ending) (w' : World) : Prop := ∃ st : Nat, ∃ A k c, e = .returned (.tuple #[.int .u8 st, .slice A k c]) ∧ st ≤ 13 ∧ (st = 0 → ∃ n, IsNat w' A k c n ∧ New w A ∧ Fit p f n) ∧ Below w.heap.size w w'
theorem RefR.no {p : Nat} {f : FD} {w w' : World} (st : Nat) (h0 : st ≠ 0) (hl : st ≤ 13) (A : Option Addr) (k c : Nat) (hb : Below w.heap.size w w') : RefR p f w (.returned (.tuple #[.int .u8 st, .slice A k c])) w' := ⟨st, A, k, c, rfl, hl, fun h => absurd h h0, hb⟩
theorem ite_leK {p : Prop} [Decidable p] {x y K : Nat} (h1 : p → x ≤ K) (h2 : ¬ p → y ≤ K) : (if p then x else y) ≤ K := by
  by_cases h : p
  · rw [if_pos h]; exact h1 h
  · rw [if_neg h]; exact h2 h
theorem takA_le (p : Nat) : takA p ≤ 17 := by
  unfold takA
  repeat' (refine ite_leK (fun _ => ?_) (fun _ => ?_))
  all_goals omega
theorem givA_le (p : Nat) : givA p ≤ 17 := by
  unfold givA
  repeat' (refine ite_leK (fun _ => ?_) (fun _ => ?_))
  all_goals omega
theorem cmp_le (m n : Nat) : decide (cmpI m n ≤ 0) = decide (m ≤ n) := by
  unfold cmpI
  by_cases h1 : m < n
  · rw [if_pos h1, decide_eq_true (show m ≤ n by omega)]; rfl
  · rw [if_neg h1]
    by_cases h2 : m = n
    · rw [if_pos h2, decide_eq_true (show m ≤ n by omega)]; rfl
    · rw [if_neg h2, decide_eq_false (show ¬ m ≤ n by omega)]; rfl
section
variable {G : Nat → Prop} {bw gf : Nat} {cs fr : List Value} {d : WD} {f : FD} {r : List FD} {x : XD} {w : World} {B : Nat}
set_option maxHeartbeats 16000000 in
theorem refuse_0 (p : Nat) (h1 : 0 ≤ p) (h2 : p ≤ 61) (h : SR G bw gf cs fr d (f :: r) x w) (hx : XB x) (hg : Good B d) (hf : AnyF f) (hml : f.ml ≤ 1000000) (hgas : f.gas < BIG) :
    Calls Sakg.prog 113 #[.pointer (some ⟨bw, 0, none⟩), .pointer (some ⟨gf, 60 * r.length, none⟩), .int .u8 p] w (RefR p f w) := by
  have hBB := big_ge
  have hP := p256_ge
  have hPB := p256_big2
  have hs := argN_lt hf.stk
  have hsl := hf.slen
  have hcl := hf.code
  have hfx := h.fx
  have hC : ∀ wz, Below w.heap.size w wz → Calls Sakg.prog 204 #[.pointer (some ⟨bw, 0, none⟩), .pointer (some ⟨gf, 60 * r.length, none⟩), .int .u8 p] wz (CostR2 p f.stk f.ml wz) := fun wz hz => (h.kept hz).cost hx hg hf hml p (by omega)
  obtain ⟨o, ho⟩ : ∃ o, o = 60 * r.length := ⟨_, rfl⟩
  rw [← ho] at hfx hC ⊢
  have HF := hide hfx
  have HS := hide hs
  have HC := hide hC
  have HW : ∀ wz, Below w.heap.size w wz → Hid (Calls Sakg.prog 203 #[.pointer (some ⟨gf, o, none⟩), .int .u8 p] wz fun e w' => (∃ b, e = .returned (.bool b)) ∧ Below wz.heap.size wz w') := fun wz hz => hide ((hfx.kept hz).writes hf p (by omega))
  obtain ⟨A8, l8, c8, g1, g2⟩ := hfx.kf.stk
  have hlen := g2.len
  have y8 : w.cell? ⟨gf, o + 8, none⟩ = some (.slice A8 l8 c8) := hfx.cell g1
  have y2 : w.cell? ⟨gf, o + 2, none⟩ = some (.bool f.static) := hfx.cell hfx.kf.static
  obtain ⟨A4, k4, c4, p1, p2⟩ := hfx.kf.gas
  have x4 : ∀ wz, Below w.heap.size w wz → wz.cell? ⟨gf, o + 4, none⟩ = some (.slice A4 k4 c4) ∧ IsNat wz A4 k4 c4 f.gas := fun wz hz => ⟨(hfx.kept hz).cell p1, (p2.kp (ChgS.of hz)).now⟩
  have X4 := hide x4
  obtain ⟨A0, k0, c0, q1, q2⟩ := hfx.kf.code
  have x10 : ∀ wz, Below w.heap.size w wz → wz.cell? ⟨gf, o + 10, none⟩ = some (.slice A0 k0 c0) ∧ Src wz A0 k0 c0 f.code := fun wz hz => ⟨(hfx.kept hz).cell q1, (q2.kp (ChgS.of hz)).now⟩
  have X10 := hide x10
  have hk0 := q2.now.len_eq
  obtain ⟨Ar, lr, cr, r1, r2⟩ := h.xs.ret
  have x3 : ∀ wz, Below w.heap.size w wz → wz.cell? ⟨bw, 10, none⟩ = some (.slice Ar lr cr) := fun wz hz => (h.cw.kept hz).cell r1
  have X3 := hide x3
  have hlr : lr ≤ 1000000 := by have := r2.now.len_eq; have := hx.ret; omega
  have HAR := hide (arity_any p (by omega) w)
  generalize hT : takA p = T at HAR
  generalize hV : givA p = V at HAR
  have HT := hide hT
  have HV := hide hV
  have hTl : T ≤ 17 := by rw [← hT]; exact takA_le _
  have hVl : V ≤ 17 := by rw [← hV]; exact givA_le _
  clear h hfx hx hg hs ho hC x4 x10 x3 g1 g2 p1 p2 q1 q2 r1 r2 hT hV
  by_cases hkn : famA p ≠ 0
  rotate_left
  · rw [decide_eq_false hkn] at HAR
    go_enter Sakg.func113, Sakg.ntmps113
    go_wp2_with (go_at_call 202; refine (unhide HAR).mono ?_; rintro e w1 ⟨rfl, rfl⟩)
    refine bodyPost_ret (results_tmp2 rfl _ _ _) rfl ?_
    exact RefR.no 5 (by omega) (by omega) _ _ _ (Below.refl _ _)
  rw [decide_eq_true hkn] at HAR
  have HKN := hide hkn
  clear hkn
  by_cases hun : l8 < T
  · have t1 : decide ((l8 : Int) < (T : Int)) = true := decide_eq_true (by omega)
    go_enter Sakg.func113, Sakg.ntmps113
    go_wp2_with (go_at_call 202; refine (unhide HAR).mono ?_; rintro e w1 ⟨rfl, rfl⟩)
    refine bodyPost_ret (results_tmp2 rfl _ _ _) rfl ?_
    exact RefR.no 3 (by omega) (by omega) _ _ _ (Below.refl _ _)
  have t1 : decide ((l8 : Int) < (T : Int)) = false := decide_eq_false (by omega)
  have t1n : decide (l8 < T) = false := decide_eq_false hun
  obtain ⟨q, hq⟩ : ∃ q, q = l8 - T := ⟨_, rfl⟩
  have eq1 : (l8 : Int) - (T : Int) = (q : Int) := by omega
  obtain ⟨q', hq'⟩ : ∃ q', q' = q + V := ⟨_, rfl⟩
  have eq2 : (q : Int) + (V : Int) = (q' : Int) := by omega
  have hqb : q ≤ 64 ∧ q' ≤ 100 := by omega
  have HQ := hide hq
  have HQ' := hide hq'
  have HUN := hide hun
  clear hq hq' hun
  by_cases hov : 64 < q'
  · have t2 : decide ((64 : Int) < (q' : Int)) = true := decide_eq_true (by omega)
    go_enter Sakg.func113, Sakg.ntmps113
    go_wp2_with (go_at_call 202; refine (unhide HAR).mono ?_; rintro e w1 ⟨rfl, rfl⟩)
    refine bodyPost_ret (results_tmp2 rfl _ _ _) rfl ?_
    exact RefR.no 4 (by omega) (by omega) _ _ _ (Below.refl _ _)
  have t2 : decide ((64 : Int) < (q' : Int)) = false := decide_eq_false (by omega)
  have t2n : decide (64 < q') = false := decide_eq_false hov
  have z62 : ((p : Int) == 62) = false := by rw [beq_eq_false_iff_ne]; omega
  have z85 : ((p : Int) == 85) = false := by rw [beq_eq_false_iff_ne]; omega
  have z86 : ((p : Int) == 86) = false := by rw [beq_eq_false_iff_ne]; omega
  have z87 : ((p : Int) == 87) = false := by rw [beq_eq_false_iff_ne]; omega
  have z240 : ((p : Int) == 240) = false := by rw [beq_eq_false_iff_ne]; omega
  have z245 : ((p : Int) == 245) = false := by rw [beq_eq_false_iff_ne]; omega
  go_enter Sakg.func113, Sakg.ntmps113
  go_upto_region 8 with (go_at_call 202; refine (unhide HAR).mono ?_; rintro e w1 ⟨rfl, rfl⟩)
  go_cut [39] (fun s39 wc => (∃ b, s39 = .bool b) ∧ Below w.heap.size w wc)
  case first =>
    generalize f.static = sb at y2
    cases sb
    · go_wp2_with fail
      go_meet
      case rel => exact ⟨⟨_, rfl⟩, Below.refl _ _⟩
    · go_wp2_with (go_at_call 203; refine (unhide (HW w (Below.refl _ _))).mono ?_; rintro e w2 ⟨⟨bb, rfl⟩, b2⟩)
      go_meet
      case rel => exact ⟨⟨_, rfl⟩, b2⟩
  case rest =>
  obtain ⟨w2, hw2⟩ : ∃ w2, w2 = wc := ⟨_, rfl⟩
  subst hw2
  obtain ⟨⟨sw, rfl⟩, d2⟩ := hcut
  clear y8 y2 HAR HW
  cases sw
  rotate_left
  · go_wp2
    refine bodyPost_ret (results_tmp2 rfl _ _ _) rfl ?_
    exact RefR.no 7 (by omega) (by omega) _ _ _ d2
  go_upto_region 12 with fail
  go_quiet (fail)
  have dq : Below w.heap.size w (w2.drewN nq) := d2.thn (Quiet.below ⟨nq, rfl⟩ _)
  generalize w2.drewN nq = wq0 at dq ⊢
  go_wp2_with fail
  refine (unhide HC _ dq).mono ?_
  rintro e w8 ⟨Ac, kc, cc, nc, rfl, mc, Nc, hcb, hpaid, b8⟩
  have d8 : Below w.heap.size w w8 := dq.thn b8
  have NNc := hide mc
  have HPAID := hide hpaid
  have y4 := (unhide X4 w8 d8).1
  have HCM := hide (mc.cmp (unhide X4 w8 d8).2 hcb hgas)
  have hcg := cmp_gt nc f.gas
  generalize cmpI nc f.gas = cg at HCM hcg
  have NWc : New w Ac := Nc.later dq.size
  clear mc hpaid
  go_wp2_with fail
  refine (unhide HCM).mono ?_
  rintro e w9 ⟨rfl, q9⟩
  have b9 : Below w8.heap.size w8 w9 := q9.below _
  have d9 : Below w.heap.size w w9 := d8.thn b9
  clear q9 y4
  by_cases hog : f.gas < nc
  · rw [decide_eq_true hog] at hcg
    go_wp2
    refine bodyPost_ret (results_tmp2 rfl _ _ _) rfl ?_
    exact RefR.no 2 (by omega) (by omega) _ _ _ d9
  rw [decide_eq_false hog] at hcg
  have hfit : Fit p f nc := ⟨unhide HKN, by rw [unhide HT, hlen]; have := unhide HUN; omega, by rw [unhide HT, unhide HV, hlen]; have h1 := unhide HQ; have h2 := unhide HQ'; omega, fun hh => by omega, by omega, unhide HPAID⟩
  have HFIT := hide hfit
  clear hfit hog
  go_upto_region 17 with fail
  go_quiet (fail)
  have bq1 : Below w8.heap.size w8 (w9.drewN nq) := b9.thn (Quiet.below ⟨nq, rfl⟩ _)
  generalize w9.drewN nq = wq1 at bq1 ⊢
  go_upto_region 19 with fail
  go_quiet (fail)
  have bq2 : Below w8.heap.size w8 (wq1.drewN nq) := bq1.thn (Quiet.below ⟨nq, rfl⟩ _)
  generalize wq1.drewN nq = wq2 at bq2 ⊢
  go_upto_region 21 with fail
  go_quiet (fail)
  have bq3 : Below w8.heap.size w8 (wq2.drewN nq) := bq2.thn (Quiet.below ⟨nq, rfl⟩ _)
  generalize wq2.drewN nq = wq3 at bq3 ⊢
  go_wp2
  refine bodyPost_ret (results_tmp2 rfl _ _ _) rfl ?_
  exact ⟨0, Ac, kc, cc, rfl, by omega, fun _ => ⟨nc, (unhide NNc).kept bq3, NWc, unhide HFIT⟩, d8.thn bq3⟩
set_option maxHeartbeats 16000000 in
theorem refuse_62 (h : SR G bw gf cs fr d (f :: r) x w) (hx : XB x) (hg : Good B d) (hf : AnyF f) (hml : f.ml ≤ 1000000) (hgas : f.gas < BIG) :
    Calls Sakg.prog 113 #[.pointer (some ⟨bw, 0, none⟩), .pointer (some ⟨gf, 60 * r.length, none⟩), .int .u8 62] w (RefR 62 f w) := by
  have hBB := big_ge
  have hP := p256_ge
  have hPB := p256_big2
  have hs := argN_lt hf.stk
  have hsl := hf.slen
  have hcl := hf.code
  have hfx := h.fx
  have hC : ∀ wz, Below w.heap.size w wz → Calls Sakg.prog 204 #[.pointer (some ⟨bw, 0, none⟩), .pointer (some ⟨gf, 60 * r.length, none⟩), .int .u8 62] wz (CostR2 62 f.stk f.ml wz) := fun wz hz => (h.kept hz).cost hx hg hf hml 62 (by omega)
  obtain ⟨o, ho⟩ : ∃ o, o = 60 * r.length := ⟨_, rfl⟩
  rw [← ho] at hfx hC ⊢
  have HF := hide hfx
  have HS := hide hs
  have HC := hide hC
  have HW : ∀ wz, Below w.heap.size w wz → Hid (Calls Sakg.prog 203 #[.pointer (some ⟨gf, o, none⟩), .int .u8 62] wz fun e w' => (∃ b, e = .returned (.bool b)) ∧ Below wz.heap.size wz w') := fun wz hz => hide ((hfx.kept hz).writes hf 62 (by omega))
  obtain ⟨A8, l8, c8, g1, g2⟩ := hfx.kf.stk
  have hlen := g2.len
  have y8 : w.cell? ⟨gf, o + 8, none⟩ = some (.slice A8 l8 c8) := hfx.cell g1
  have y2 : w.cell? ⟨gf, o + 2, none⟩ = some (.bool f.static) := hfx.cell hfx.kf.static
  obtain ⟨A4, k4, c4, p1, p2⟩ := hfx.kf.gas
  have x4 : ∀ wz, Below w.heap.size w wz → wz.cell? ⟨gf, o + 4, none⟩ = some (.slice A4 k4 c4) ∧ IsNat wz A4 k4 c4 f.gas := fun wz hz => ⟨(hfx.kept hz).cell p1, (p2.kp (ChgS.of hz)).now⟩
  have X4 := hide x4
  obtain ⟨A0, k0, c0, q1, q2⟩ := hfx.kf.code
  have x10 : ∀ wz, Below w.heap.size w wz → wz.cell? ⟨gf, o + 10, none⟩ = some (.slice A0 k0 c0) ∧ Src wz A0 k0 c0 f.code := fun wz hz => ⟨(hfx.kept hz).cell q1, (q2.kp (ChgS.of hz)).now⟩
  have X10 := hide x10
  have hk0 := q2.now.len_eq
  obtain ⟨Ar, lr, cr, r1, r2⟩ := h.xs.ret
  have x3 : ∀ wz, Below w.heap.size w wz → wz.cell? ⟨bw, 10, none⟩ = some (.slice Ar lr cr) := fun wz hz => (h.cw.kept hz).cell r1
  have X3 := hide x3
  have hlr : lr ≤ 1000000 := by have := r2.now.len_eq; have := hx.ret; omega
  have HAR := hide (arity_any 62 (by omega) w)
  generalize hT : takA 62 = T at HAR
  generalize hV : givA 62 = V at HAR
  have HT := hide hT
  have HV := hide hV
  have hTl : T ≤ 17 := by rw [← hT]; exact takA_le _
  have hVl : V ≤ 17 := by rw [← hV]; exact givA_le _
  clear h hfx hx hg hs ho hC x4 x10 x3 g1 g2 p1 p2 q1 q2 r1 r2 hT hV
  by_cases hkn : famA 62 ≠ 0
  rotate_left
  · rw [decide_eq_false hkn] at HAR
    go_enter Sakg.func113, Sakg.ntmps113
    go_wp2_with (go_at_call 202; refine (unhide HAR).mono ?_; rintro e w1 ⟨rfl, rfl⟩)
    refine bodyPost_ret (results_tmp2 rfl _ _ _) rfl ?_
    exact RefR.no 5 (by omega) (by omega) _ _ _ (Below.refl _ _)
  rw [decide_eq_true hkn] at HAR
  have HKN := hide hkn
  clear hkn
  by_cases hun : l8 < T
  · have t1 : decide ((l8 : Int) < (T : Int)) = true := decide_eq_true (by omega)
    go_enter Sakg.func113, Sakg.ntmps113
    go_wp2_with (go_at_call 202; refine (unhide HAR).mono ?_; rintro e w1 ⟨rfl, rfl⟩)
    refine bodyPost_ret (results_tmp2 rfl _ _ _) rfl ?_
    exact RefR.no 3 (by omega) (by omega) _ _ _ (Below.refl _ _)
  have t1 : decide ((l8 : Int) < (T : Int)) = false := decide_eq_false (by omega)
  have t1n : decide (l8 < T) = false := decide_eq_false hun
  obtain ⟨q, hq⟩ : ∃ q, q = l8 - T := ⟨_, rfl⟩
  have eq1 : (l8 : Int) - (T : Int) = (q : Int) := by omega
  obtain ⟨q', hq'⟩ : ∃ q', q' = q + V := ⟨_, rfl⟩
  have eq2 : (q : Int) + (V : Int) = (q' : Int) := by omega
  have hqb : q ≤ 64 ∧ q' ≤ 100 := by omega
  have HQ := hide hq
  have HQ' := hide hq'
  have HUN := hide hun
  clear hq hq' hun
  by_cases hov : 64 < q'
  · have t2 : decide ((64 : Int) < (q' : Int)) = true := decide_eq_true (by omega)
    go_enter Sakg.func113, Sakg.ntmps113
    go_wp2_with (go_at_call 202; refine (unhide HAR).mono ?_; rintro e w1 ⟨rfl, rfl⟩)
    refine bodyPost_ret (results_tmp2 rfl _ _ _) rfl ?_
    exact RefR.no 4 (by omega) (by omega) _ _ _ (Below.refl _ _)
  have t2 : decide ((64 : Int) < (q' : Int)) = false := decide_eq_false (by omega)
  have t2n : decide (64 < q') = false := decide_eq_false hov
  go_enter Sakg.func113, Sakg.ntmps113
  go_upto_region 8 with (go_at_call 202; refine (unhide HAR).mono ?_; rintro e w1 ⟨rfl, rfl⟩)
  go_cut [39] (fun s39 wc => (∃ b, s39 = .bool b) ∧ Below w.heap.size w wc)
  case first =>
    generalize f.static = sb at y2
    cases sb
    · go_wp2_with fail
      go_meet
      case rel => exact ⟨⟨_, rfl⟩, Below.refl _ _⟩
    · go_wp2_with (go_at_call 203; refine (unhide (HW w (Below.refl _ _))).mono ?_; rintro e w2 ⟨⟨bb, rfl⟩, b2⟩)
      go_meet
      case rel => exact ⟨⟨_, rfl⟩, b2⟩
  case rest =>
  obtain ⟨w2, hw2⟩ : ∃ w2, w2 = wc := ⟨_, rfl⟩
  subst hw2
  obtain ⟨⟨sw, rfl⟩, d2⟩ := hcut
  clear y8 y2 HAR HW
  cases sw
  rotate_left
  · go_wp2
    refine bodyPost_ret (results_tmp2 rfl _ _ _) rfl ?_
    exact RefR.no 7 (by omega) (by omega) _ _ _ d2
  go_upto_region 12 with fail
  have d2d : Below w.heap.size w w2.drew := d2.thn (Quiet.below ⟨1, rfl⟩ _)
  have ha1 := unhide HS 1
  have ha2 := unhide HS 2
  refine wp_region_noPanic ?_
  refine wp_region_held_drew (S := fun w' => Below w.heap.size w w') (by kernel_rfl) (d2d) (fun hHeld => ?_)
  refine held_takeD 0 (.int .u8 62) (some 64) (by rfl) (by rfl) (by kernel_rfl) (by kernel_rfl) (by kernel_rfl) (fun _ _ _ h => h) (.inl ⟨by rfl, fun _ _ => by rfl⟩) (hHeld) ?_
  simp only [Act.put, List.setIfInBounds_toArray, List.set_cons_zero, List.set_cons_succ]
  refine held_takeD 1 (.bool true) (some 65) (by rfl) (by rfl) (by kernel_rfl) (by kernel_rfl) (by kernel_rfl) (fun _ _ _ h => h) (.inl ⟨by rfl, fun _ _ => by go_simp⟩) (hHeld) ?_
  simp only [Act.put, List.setIfInBounds_toArray, List.set_cons_zero, List.set_cons_succ]
  refine held_takeD 2 (.bool true) (some 66) (by rfl) (by rfl) (by kernel_rfl) (by kernel_rfl) (by kernel_rfl) (fun _ _ _ h => h) (.inl ⟨by rfl, fun _ _ => by rfl⟩) (hHeld) ?_
  simp only [Act.put, List.setIfInBounds_toArray, List.set_cons_zero, List.set_cons_succ]
  refine held_takeD 3 (.pointer (some ⟨gf, o, none⟩)) (some 67) (by rfl) (by rfl) (by kernel_rfl) (by kernel_rfl) (by kernel_rfl) (fun _ _ _ h => h) (.inl ⟨by rfl, fun _ _ => by rfl⟩) (hHeld) ?_
  simp only [Act.put, List.setIfInBounds_toArray, List.set_cons_zero, List.set_cons_succ]
  refine held_takeD 5 (.pointer (some ⟨gf, o, none⟩)) (some 69) (by rfl) (by rfl) (by kernel_rfl) (by kernel_rfl) (by kernel_rfl) (fun _ _ _ h => h) (.inl ⟨by rfl, fun _ _ => by rfl⟩) (hHeld) ?_
  simp only [Act.put, List.setIfInBounds_toArray, List.set_cons_zero, List.set_cons_succ]
  refine held_takeD 8 (.pointer (some ⟨bw, 0, none⟩)) (some 72) (by rfl) (by rfl) (by kernel_rfl) (by kernel_rfl) (by kernel_rfl) (fun _ _ _ h => h) (.inl ⟨by rfl, fun _ _ => by rfl⟩) (hHeld) ?_
  simp only [Act.put, List.setIfInBounds_toArray, List.set_cons_zero, List.set_cons_succ]
  refine held_takeD 9 (.pointer (some ⟨bw, 0, none⟩)) (some 73) (by rfl) (by rfl) (by kernel_rfl) (by kernel_rfl) (by kernel_rfl) (fun _ _ _ h => h) (.inl ⟨by rfl, fun _ _ => by go_simp⟩) (hHeld) ?_
  simp only [Act.put, List.setIfInBounds_toArray, List.set_cons_zero, List.set_cons_succ]
  refine held_takeD 10 (.pointer (some ⟨bw, 10, none⟩)) (some 74) (by rfl) (by rfl) (by kernel_rfl) (by kernel_rfl) (by kernel_rfl) (fun _ _ _ h => h) (.inl ⟨by rfl, fun _ _ => by go_simp⟩) (hHeld) ?_
  simp only [Act.put, List.setIfInBounds_toArray, List.set_cons_zero, List.set_cons_succ]
  refine held_takeD 11 (.slice Ar lr cr) (some 75) (by rfl) (by rfl) (by kernel_rfl) (by kernel_rfl) (by kernel_rfl) (fun _ _ _ h => h) (.inl ⟨by rfl, fun wS hS => by have hc := unhide X3 wS hS; go_simp⟩) (hHeld) ?_
  simp only [Act.put, List.setIfInBounds_toArray, List.set_cons_zero, List.set_cons_succ]
  refine held_takeD 12 (.int .i64 lr) (some 76) (by rfl) (by rfl) (by kernel_rfl) (by kernel_rfl) (by kernel_rfl) (fun _ _ _ h => h) (.inl ⟨by rfl, fun _ _ => by go_simp⟩) (hHeld) ?_
  simp only [Act.put, List.setIfInBounds_toArray, List.set_cons_zero, List.set_cons_succ]
  have hwk : IntKind.u64.wrap (lr : Int) = (lr : Int) := by rw [IntKind.wrap_u64]; omega
  refine held_takeD 13 (.int .u64 lr) (some 77) (by rfl) (by rfl) (by kernel_rfl) (by kernel_rfl) (by kernel_rfl) (fun _ _ _ h => h) (.inl ⟨by rfl, fun _ _ => by go_simp⟩) (hHeld) ?_
  simp only [Act.put, List.setIfInBounds_toArray, List.set_cons_zero, List.set_cons_succ]
  clear hwk
  refine held_one 4 (by kernel_rfl) (by rfl) (fun K' hK' => ?_)
  go_simp
  refine (((unhide HF).kept d2d).arg (by omega) 1 (by omega)).mono ?_
  rintro e w3 ⟨⟨A3, k3, c3, rfl, s3⟩, q3⟩
  refine hK'.out _ _ (d2d.thn (q3.below _)) ?_
  clear hK' K'
  have b3 : Below w2.drew.heap.size w2.drew w3 := q3.below _
  have d3 : Below w.heap.size w w3 := d2d.thn b3
  refine held_one 6 (by kernel_rfl) (by rfl) (fun K' hK' => ?_)
  go_simp
  refine (((unhide HF).kept d3).arg (by omega) 2 (by omega)).mono ?_
  rintro e w4 ⟨⟨A5, k5, c5, rfl, s4⟩, q4⟩
  refine hK'.out _ _ (d3.thn (q4.below _)) ?_
  clear hK' K'
  have b4 : Below w3.heap.size w3 w4 := q4.below _
  have d4 : Below w.heap.size w w4 := d3.thn b4
  refine held_one 7 (by kernel_rfl) (by rfl) (fun K' hK' => ?_)
  go_simp
  refine ((s3.kp (ChgS.of (b3.thn b4))).now.add (s4.kp (ChgS.of b4)).now (by omega) (by omega)).mono ?_
  rintro e w5 ⟨A6, k6, c6, rfl, n6, N6, b5⟩
  refine hK'.out _ _ (d4.thn b5) ?_
  clear hK' K'
  have d5 : Below w.heap.size w w5 := d4.thn b5
  refine held_one 14 (by kernel_rfl) (by rfl) (fun K' hK' => ?_)
  go_simp
  refine (num_any lr w5 (by omega)).mono ?_
  rintro e w6 ⟨A7, k7, c7, rfl, n7, N7, b6⟩
  refine hK'.out _ _ (d5.thn b6) ?_
  clear hK' K'
  have d6 : Below w.heap.size w w6 := d5.thn b6
  refine held_one 15 (by kernel_rfl) (by rfl) (fun K' hK' => ?_)
  go_simp
  refine ((n6.kept b6).cmp n7 (by omega) (by omega)).mono ?_
  rintro e w7 ⟨rfl, q7⟩
  refine hK'.out _ _ (d6.thn (q7.below _)) ?_
  clear hK' K'
  have d7 : Below w.heap.size w w7 := d6.thn (q7.below _)
  refine held_takeD 16 (.bool (decide (0 < cmpI (argN f.stk 1 + argN f.stk 2) lr))) (some 80) (by rfl) (by rfl) (by kernel_rfl) (by kernel_rfl) (by kernel_rfl) (fun _ _ _ h => h) (.inl ⟨by rfl, fun _ _ => by go_simp⟩) (d7) ?_
  simp only [Act.put, List.setIfInBounds_toArray, List.set_cons_zero, List.set_cons_succ]
  refine held_takeD 17 (.bool (decide (0 < cmpI (argN f.stk 1 + argN f.stk 2) lr))) (some 81) (by rfl) (by rfl) (by kernel_rfl) (by kernel_rfl) (by kernel_rfl) (fun _ _ _ h => h) (.inl ⟨by rfl, fun _ _ => by go_simp⟩) (d7) ?_
  simp only [Act.put, List.setIfInBounds_toArray, List.set_cons_zero, List.set_cons_succ]
  refine held_takeD 18 (.bool (decide (0 < cmpI (argN f.stk 1 + argN f.stk 2) lr))) (some 63) (by rfl) (by rfl) (by kernel_rfl) (by kernel_rfl) (by kernel_rfl) (fun _ _ _ h => h) (.inl ⟨by rfl, fun _ _ => by rfl⟩) (d7) ?_
  simp only [Act.put, List.setIfInBounds_toArray, List.set_cons_zero, List.set_cons_succ]
  refine wpAnyH_done (by kernel_rfl) ?_ _
  refine NoPanic.normal ?_
  generalize decide (0 < cmpI (argN f.stk 1 + argN f.stk 2) lr) = rb
  clear s3 s4 q3 q4 n6 n7 q7
  cases rb
  rotate_left
  · go_wp2
    refine bodyPost_ret (results_tmp2 rfl _ _ _) rfl ?_
    exact RefR.no 8 (by omega) (by omega) _ _ _ d7
  go_wp2_with fail
  refine (unhide HC _ d7).mono ?_
  rintro e w8 ⟨Ac, kc, cc, nc, rfl, mc, Nc, hcb, hpaid, b8⟩
  have d8 : Below w.heap.size w w8 := d7.thn b8
  have NNc := hide mc
  have HPAID := hide hpaid
  have y4 := (unhide X4 w8 d8).1
  have HCM := hide (mc.cmp (unhide X4 w8 d8).2 hcb hgas)
  have hcg := cmp_gt nc f.gas
  generalize cmpI nc f.gas = cg at HCM hcg
  have NWc : New w Ac := Nc.later d7.size
  clear mc hpaid
  go_wp2_with fail
  refine (unhide HCM).mono ?_
  rintro e w9 ⟨rfl, q9⟩
  have b9 : Below w8.heap.size w8 w9 := q9.below _
  have d9 : Below w.heap.size w w9 := d8.thn b9
  clear q9 y4
  by_cases hog : f.gas < nc
  · rw [decide_eq_true hog] at hcg
    go_wp2
    refine bodyPost_ret (results_tmp2 rfl _ _ _) rfl ?_
    exact RefR.no 2 (by omega) (by omega) _ _ _ d9
  rw [decide_eq_false hog] at hcg
  have hfit : Fit 62 f nc := ⟨unhide HKN, by rw [unhide HT, hlen]; have := unhide HUN; omega, by rw [unhide HT, unhide HV, hlen]; have h1 := unhide HQ; have h2 := unhide HQ'; omega, fun hh => by omega, by omega, unhide HPAID⟩
  have HFIT := hide hfit
  clear hfit hog
  go_upto_region 17 with fail
  go_quiet (fail)
  have bq1 : Below w8.heap.size w8 (w9.drewN nq) := b9.thn (Quiet.below ⟨nq, rfl⟩ _)
  generalize w9.drewN nq = wq1 at bq1 ⊢
  go_upto_region 19 with fail
  go_quiet (fail)
  have bq2 : Below w8.heap.size w8 (wq1.drewN nq) := bq1.thn (Quiet.below ⟨nq, rfl⟩ _)
  generalize wq1.drewN nq = wq2 at bq2 ⊢
  go_upto_region 21 with fail
  go_quiet (fail)
  have bq3 : Below w8.heap.size w8 (wq2.drewN nq) := bq2.thn (Quiet.below ⟨nq, rfl⟩ _)
  generalize wq2.drewN nq = wq3 at bq3 ⊢
  go_wp2
  refine bodyPost_ret (results_tmp2 rfl _ _ _) rfl ?_
  exact ⟨0, Ac, kc, cc, rfl, by omega, fun _ => ⟨nc, (unhide NNc).kept bq3, NWc, unhide HFIT⟩, d8.thn bq3⟩
set_option maxHeartbeats 16000000 in
theorem refuse_63 (p : Nat) (h1 : 63 ≤ p) (h2 : p ≤ 84) (h : SR G bw gf cs fr d (f :: r) x w) (hx : XB x) (hg : Good B d) (hf : AnyF f) (hml : f.ml ≤ 1000000) (hgas : f.gas < BIG) :
    Calls Sakg.prog 113 #[.pointer (some ⟨bw, 0, none⟩), .pointer (some ⟨gf, 60 * r.length, none⟩), .int .u8 p] w (RefR p f w) := by
  have hBB := big_ge
  have hP := p256_ge
  have hPB := p256_big2
  have hs := argN_lt hf.stk
  have hsl := hf.slen
  have hcl := hf.code
  have hfx := h.fx
  have hC : ∀ wz, Below w.heap.size w wz → Calls Sakg.prog 204 #[.pointer (some ⟨bw, 0, none⟩), .pointer (some ⟨gf, 60 * r.length, none⟩), .int .u8 p] wz (CostR2 p f.stk f.ml wz) := fun wz hz => (h.kept hz).cost hx hg hf hml p (by omega)
  obtain ⟨o, ho⟩ : ∃ o, o = 60 * r.length := ⟨_, rfl⟩
  rw [← ho] at hfx hC ⊢
  have HF := hide hfx
  have HS := hide hs
  have HC := hide hC
  have HW : ∀ wz, Below w.heap.size w wz → Hid (Calls Sakg.prog 203 #[.pointer (some ⟨gf, o, none⟩), .int .u8 p] wz fun e w' => (∃ b, e = .returned (.bool b)) ∧ Below wz.heap.size wz w') := fun wz hz => hide ((hfx.kept hz).writes hf p (by omega))
  obtain ⟨A8, l8, c8, g1, g2⟩ := hfx.kf.stk
  have hlen := g2.len
  have y8 : w.cell? ⟨gf, o + 8, none⟩ = some (.slice A8 l8 c8) := hfx.cell g1
  have y2 : w.cell? ⟨gf, o + 2, none⟩ = some (.bool f.static) := hfx.cell hfx.kf.static
  obtain ⟨A4, k4, c4, p1, p2⟩ := hfx.kf.gas
  have x4 : ∀ wz, Below w.heap.size w wz → wz.cell? ⟨gf, o + 4, none⟩ = some (.slice A4 k4 c4) ∧ IsNat wz A4 k4 c4 f.gas := fun wz hz => ⟨(hfx.kept hz).cell p1, (p2.kp (ChgS.of hz)).now⟩
  have X4 := hide x4
  obtain ⟨A0, k0, c0, q1, q2⟩ := hfx.kf.code
  have x10 : ∀ wz, Below w.heap.size w wz → wz.cell? ⟨gf, o + 10, none⟩ = some (.slice A0 k0 c0) ∧ Src wz A0 k0 c0 f.code := fun wz hz => ⟨(hfx.kept hz).cell q1, (q2.kp (ChgS.of hz)).now⟩
  have X10 := hide x10
  have hk0 := q2.now.len_eq
  obtain ⟨Ar, lr, cr, r1, r2⟩ := h.xs.ret
  have x3 : ∀ wz, Below w.heap.size w wz → wz.cell? ⟨bw, 10, none⟩ = some (.slice Ar lr cr) := fun wz hz => (h.cw.kept hz).cell r1
  have X3 := hide x3
  have hlr : lr ≤ 1000000 := by have := r2.now.len_eq; have := hx.ret; omega
  have HAR := hide (arity_any p (by omega) w)
  generalize hT : takA p = T at HAR
  generalize hV : givA p = V at HAR
  have HT := hide hT
  have HV := hide hV
  have hTl : T ≤ 17 := by rw [← hT]; exact takA_le _
  have hVl : V ≤ 17 := by rw [← hV]; exact givA_le _
  clear h hfx hx hg hs ho hC x4 x10 x3 g1 g2 p1 p2 q1 q2 r1 r2 hT hV
  by_cases hkn : famA p ≠ 0
  rotate_left
  · rw [decide_eq_false hkn] at HAR
    go_enter Sakg.func113, Sakg.ntmps113
    go_wp2_with (go_at_call 202; refine (unhide HAR).mono ?_; rintro e w1 ⟨rfl, rfl⟩)
    refine bodyPost_ret (results_tmp2 rfl _ _ _) rfl ?_
    exact RefR.no 5 (by omega) (by omega) _ _ _ (Below.refl _ _)
  rw [decide_eq_true hkn] at HAR
  have HKN := hide hkn
  clear hkn
  by_cases hun : l8 < T
  · have t1 : decide ((l8 : Int) < (T : Int)) = true := decide_eq_true (by omega)
    go_enter Sakg.func113, Sakg.ntmps113
    go_wp2_with (go_at_call 202; refine (unhide HAR).mono ?_; rintro e w1 ⟨rfl, rfl⟩)
    refine bodyPost_ret (results_tmp2 rfl _ _ _) rfl ?_
    exact RefR.no 3 (by omega) (by omega) _ _ _ (Below.refl _ _)
  have t1 : decide ((l8 : Int) < (T : Int)) = false := decide_eq_false (by omega)
  have t1n : decide (l8 < T) = false := decide_eq_false hun
  obtain ⟨q, hq⟩ : ∃ q, q = l8 - T := ⟨_, rfl⟩
  have eq1 : (l8 : Int) - (T : Int) = (q : Int) := by omega
  obtain ⟨q', hq'⟩ : ∃ q', q' = q + V := ⟨_, rfl⟩
  have eq2 : (q : Int) + (V : Int) = (q' : Int) := by omega
  have hqb : q ≤ 64 ∧ q' ≤ 100 := by omega
  have HQ := hide hq
  have HQ' := hide hq'
  have HUN := hide hun
  clear hq hq' hun
  by_cases hov : 64 < q'
  · have t2 : decide ((64 : Int) < (q' : Int)) = true := decide_eq_true (by omega)
    go_enter Sakg.func113, Sakg.ntmps113
    go_wp2_with (go_at_call 202; refine (unhide HAR).mono ?_; rintro e w1 ⟨rfl, rfl⟩)
    refine bodyPost_ret (results_tmp2 rfl _ _ _) rfl ?_
    exact RefR.no 4 (by omega) (by omega) _ _ _ (Below.refl _ _)
  have t2 : decide ((64 : Int) < (q' : Int)) = false := decide_eq_false (by omega)
  have t2n : decide (64 < q') = false := decide_eq_false hov
  have z62 : ((p : Int) == 62) = false := by rw [beq_eq_false_iff_ne]; omega
  have z85 : ((p : Int) == 85) = false := by rw [beq_eq_false_iff_ne]; omega
  have z86 : ((p : Int) == 86) = false := by rw [beq_eq_false_iff_ne]; omega
  have z87 : ((p : Int) == 87) = false := by rw [beq_eq_false_iff_ne]; omega
  have z240 : ((p : Int) == 240) = false := by rw [beq_eq_false_iff_ne]; omega
  have z245 : ((p : Int) == 245) = false := by rw [beq_eq_false_iff_ne]; omega
  go_enter Sakg.func113, Sakg.ntmps113
  go_upto_region 8 with (go_at_call 202; refine (unhide HAR).mono ?_; rintro e w1 ⟨rfl, rfl⟩)
  go_cut [39] (fun s39 wc => (∃ b, s39 = .bool b) ∧ Below w.heap.size w wc)
  case first =>
    generalize f.static = sb at y2
    cases sb
    · go_wp2_with fail
      go_meet
      case rel => exact ⟨⟨_, rfl⟩, Below.refl _ _⟩
    · go_wp2_with (go_at_call 203; refine (unhide (HW w (Below.refl _ _))).mono ?_; rintro e w2 ⟨⟨bb, rfl⟩, b2⟩)
      go_meet
      case rel => exact ⟨⟨_, rfl⟩, b2⟩
  case rest =>
  obtain ⟨w2, hw2⟩ : ∃ w2, w2 = wc := ⟨_, rfl⟩
  subst hw2
  obtain ⟨⟨sw, rfl⟩, d2⟩ := hcut
  clear y8 y2 HAR HW
  cases sw
  rotate_left
  · go_wp2
    refine bodyPost_ret (results_tmp2 rfl _ _ _) rfl ?_
    exact RefR.no 7 (by omega) (by omega) _ _ _ d2
  go_upto_region 12 with fail
  go_quiet (fail)
  have dq : Below w.heap.size w (w2.drewN nq) := d2.thn (Quiet.below ⟨nq, rfl⟩ _)
  generalize w2.drewN nq = wq0 at dq ⊢
  go_wp2_with fail
  refine (unhide HC _ dq).mono ?_
  rintro e w8 ⟨Ac, kc, cc, nc, rfl, mc, Nc, hcb, hpaid, b8⟩
  have d8 : Below w.heap.size w w8 := dq.thn b8
  have NNc := hide mc
  have HPAID := hide hpaid
  have y4 := (unhide X4 w8 d8).1
  have HCM := hide (mc.cmp (unhide X4 w8 d8).2 hcb hgas)
  have hcg := cmp_gt nc f.gas
  generalize cmpI nc f.gas = cg at HCM hcg
  have NWc : New w Ac := Nc.later dq.size
  clear mc hpaid
  go_wp2_with fail
  refine (unhide HCM).mono ?_
  rintro e w9 ⟨rfl, q9⟩
  have b9 : Below w8.heap.size w8 w9 := q9.below _
  have d9 : Below w.heap.size w w9 := d8.thn b9
  clear q9 y4
  by_cases hog : f.gas < nc
  · rw [decide_eq_true hog] at hcg
    go_wp2
    refine bodyPost_ret (results_tmp2 rfl _ _ _) rfl ?_
    exact RefR.no 2 (by omega) (by omega) _ _ _ d9
  rw [decide_eq_false hog] at hcg
  have hfit : Fit p f nc := ⟨unhide HKN, by rw [unhide HT, hlen]; have := unhide HUN; omega, by rw [unhide HT, unhide HV, hlen]; have h1 := unhide HQ; have h2 := unhide HQ'; omega, fun hh => by omega, by omega, unhide HPAID⟩
  have HFIT := hide hfit
  clear hfit hog
  go_upto_region 17 with fail
  go_quiet (fail)
  have bq1 : Below w8.heap.size w8 (w9.drewN nq) := b9.thn (Quiet.below ⟨nq, rfl⟩ _)
  generalize w9.drewN nq = wq1 at bq1 ⊢
  go_upto_region 19 with fail
  go_quiet (fail)
  have bq2 : Below w8.heap.size w8 (wq1.drewN nq) := bq1.thn (Quiet.below ⟨nq, rfl⟩ _)
  generalize wq1.drewN nq = wq2 at bq2 ⊢
  go_upto_region 21 with fail
  go_quiet (fail)
  have bq3 : Below w8.heap.size w8 (wq2.drewN nq) := bq2.thn (Quiet.below ⟨nq, rfl⟩ _)
  generalize wq2.drewN nq = wq3 at bq3 ⊢
  go_wp2
  refine bodyPost_ret (results_tmp2 rfl _ _ _) rfl ?_
  exact ⟨0, Ac, kc, cc, rfl, by omega, fun _ => ⟨nc, (unhide NNc).kept bq3, NWc, unhide HFIT⟩, d8.thn bq3⟩
set_option maxHeartbeats 16000000 in
theorem refuse_85 (h : SR G bw gf cs fr d (f :: r) x w) (hx : XB x) (hg : Good B d) (hf : AnyF f) (hml : f.ml ≤ 1000000) (hgas : f.gas < BIG) :
    Calls Sakg.prog 113 #[.pointer (some ⟨bw, 0, none⟩), .pointer (some ⟨gf, 60 * r.length, none⟩), .int .u8 85] w (RefR 85 f w) := by
  have hBB := big_ge
  have hP := p256_ge
  have hPB := p256_big2
  have hs := argN_lt hf.stk
  have hsl := hf.slen
  have hcl := hf.code
  have hfx := h.fx
  have hC : ∀ wz, Below w.heap.size w wz → Calls Sakg.prog 204 #[.pointer (some ⟨bw, 0, none⟩), .pointer (some ⟨gf, 60 * r.length, none⟩), .int .u8 85] wz (CostR2 85 f.stk f.ml wz) := fun wz hz => (h.kept hz).cost hx hg hf hml 85 (by omega)
  obtain ⟨o, ho⟩ : ∃ o, o = 60 * r.length := ⟨_, rfl⟩
  rw [← ho] at hfx hC ⊢
  have HF := hide hfx
  have HS := hide hs
  have HC := hide hC
  have HW : ∀ wz, Below w.heap.size w wz → Hid (Calls Sakg.prog 203 #[.pointer (some ⟨gf, o, none⟩), .int .u8 85] wz fun e w' => (∃ b, e = .returned (.bool b)) ∧ Below wz.heap.size wz w') := fun wz hz => hide ((hfx.kept hz).writes hf 85 (by omega))
  obtain ⟨A8, l8, c8, g1, g2⟩ := hfx.kf.stk
  have hlen := g2.len
  have y8 : w.cell? ⟨gf, o + 8, none⟩ = some (.slice A8 l8 c8) := hfx.cell g1
  have y2 : w.cell? ⟨gf, o + 2, none⟩ = some (.bool f.static) := hfx.cell hfx.kf.static
  obtain ⟨A4, k4, c4, p1, p2⟩ := hfx.kf.gas
  have x4 : ∀ wz, Below w.heap.size w wz → wz.cell? ⟨gf, o + 4, none⟩ = some (.slice A4 k4 c4) ∧ IsNat wz A4 k4 c4 f.gas := fun wz hz => ⟨(hfx.kept hz).cell p1, (p2.kp (ChgS.of hz)).now⟩
  have X4 := hide x4
  obtain ⟨A0, k0, c0, q1, q2⟩ := hfx.kf.code
  have x10 : ∀ wz, Below w.heap.size w wz → wz.cell? ⟨gf, o + 10, none⟩ = some (.slice A0 k0 c0) ∧ Src wz A0 k0 c0 f.code := fun wz hz => ⟨(hfx.kept hz).cell q1, (q2.kp (ChgS.of hz)).now⟩
  have X10 := hide x10
  have hk0 := q2.now.len_eq
  obtain ⟨Ar, lr, cr, r1, r2⟩ := h.xs.ret
  have x3 : ∀ wz, Below w.heap.size w wz → wz.cell? ⟨bw, 10, none⟩ = some (.slice Ar lr cr) := fun wz hz => (h.cw.kept hz).cell r1
  have X3 := hide x3
  have hlr : lr ≤ 1000000 := by have := r2.now.len_eq; have := hx.ret; omega
  have HAR := hide (arity_any 85 (by omega) w)
  generalize hT : takA 85 = T at HAR
  generalize hV : givA 85 = V at HAR
  have HT := hide hT
  have HV := hide hV
  have hTl : T ≤ 17 := by rw [← hT]; exact takA_le _
  have hVl : V ≤ 17 := by rw [← hV]; exact givA_le _
  clear h hfx hx hg hs ho hC x4 x10 x3 g1 g2 p1 p2 q1 q2 r1 r2 hT hV
  by_cases hkn : famA 85 ≠ 0
  rotate_left
  · rw [decide_eq_false hkn] at HAR
    go_enter Sakg.func113, Sakg.ntmps113
    go_wp2_with (go_at_call 202; refine (unhide HAR).mono ?_; rintro e w1 ⟨rfl, rfl⟩)
    refine bodyPost_ret (results_tmp2 rfl _ _ _) rfl ?_
    exact RefR.no 5 (by omega) (by omega) _ _ _ (Below.refl _ _)
  rw [decide_eq_true hkn] at HAR
  have HKN := hide hkn
  clear hkn
  by_cases hun : l8 < T
  · have t1 : decide ((l8 : Int) < (T : Int)) = true := decide_eq_true (by omega)
    go_enter Sakg.func113, Sakg.ntmps113
    go_wp2_with (go_at_call 202; refine (unhide HAR).mono ?_; rintro e w1 ⟨rfl, rfl⟩)
    refine bodyPost_ret (results_tmp2 rfl _ _ _) rfl ?_
    exact RefR.no 3 (by omega) (by omega) _ _ _ (Below.refl _ _)
  have t1 : decide ((l8 : Int) < (T : Int)) = false := decide_eq_false (by omega)
  have t1n : decide (l8 < T) = false := decide_eq_false hun
  obtain ⟨q, hq⟩ : ∃ q, q = l8 - T := ⟨_, rfl⟩
  have eq1 : (l8 : Int) - (T : Int) = (q : Int) := by omega
  obtain ⟨q', hq'⟩ : ∃ q', q' = q + V := ⟨_, rfl⟩
  have eq2 : (q : Int) + (V : Int) = (q' : Int) := by omega
  have hqb : q ≤ 64 ∧ q' ≤ 100 := by omega
  have HQ := hide hq
  have HQ' := hide hq'
  have HUN := hide hun
  clear hq hq' hun
  by_cases hov : 64 < q'
  · have t2 : decide ((64 : Int) < (q' : Int)) = true := decide_eq_true (by omega)
    go_enter Sakg.func113, Sakg.ntmps113
    go_wp2_with (go_at_call 202; refine (unhide HAR).mono ?_; rintro e w1 ⟨rfl, rfl⟩)
    refine bodyPost_ret (results_tmp2 rfl _ _ _) rfl ?_
    exact RefR.no 4 (by omega) (by omega) _ _ _ (Below.refl _ _)
  have t2 : decide ((64 : Int) < (q' : Int)) = false := decide_eq_false (by omega)
  have t2n : decide (64 < q') = false := decide_eq_false hov
  go_enter Sakg.func113, Sakg.ntmps113
  go_upto_region 8 with (go_at_call 202; refine (unhide HAR).mono ?_; rintro e w1 ⟨rfl, rfl⟩)
  go_cut [39] (fun s39 wc => (∃ b, s39 = .bool b) ∧ Below w.heap.size w wc)
  case first =>
    generalize f.static = sb at y2
    cases sb
    · go_wp2_with fail
      go_meet
      case rel => exact ⟨⟨_, rfl⟩, Below.refl _ _⟩
    · go_wp2_with (go_at_call 203; refine (unhide (HW w (Below.refl _ _))).mono ?_; rintro e w2 ⟨⟨bb, rfl⟩, b2⟩)
      go_meet
      case rel => exact ⟨⟨_, rfl⟩, b2⟩
  case rest =>
  obtain ⟨w2, hw2⟩ : ∃ w2, w2 = wc := ⟨_, rfl⟩
  subst hw2
  obtain ⟨⟨sw, rfl⟩, d2⟩ := hcut
  clear y8 y2 HAR HW
  cases sw
  rotate_left
  · go_wp2
    refine bodyPost_ret (results_tmp2 rfl _ _ _) rfl ?_
    exact RefR.no 7 (by omega) (by omega) _ _ _ d2
  go_upto_region 12 with fail
  go_quiet (fail)
  have dq : Below w.heap.size w (w2.drewN nq) := d2.thn (Quiet.below ⟨nq, rfl⟩ _)
  generalize w2.drewN nq = wq0 at dq ⊢
  go_wp2_with fail
  refine (unhide HC _ dq).mono ?_
  rintro e w8 ⟨Ac, kc, cc, nc, rfl, mc, Nc, hcb, hpaid, b8⟩
  have d8 : Below w.heap.size w w8 := dq.thn b8
  have NNc := hide mc
  have HPAID := hide hpaid
  have y4 := (unhide X4 w8 d8).1
  have HCM := hide (mc.cmp (unhide X4 w8 d8).2 hcb hgas)
  have hcg := cmp_gt nc f.gas
  generalize cmpI nc f.gas = cg at HCM hcg
  have NWc : New w Ac := Nc.later dq.size
  clear mc hpaid
  go_wp2_with fail
  refine (unhide HCM).mono ?_
  rintro e w9 ⟨rfl, q9⟩
  have b9 : Below w8.heap.size w8 w9 := q9.below _
  have d9 : Below w.heap.size w w9 := d8.thn b9
  clear q9 y4
  by_cases hog : f.gas < nc
  · rw [decide_eq_true hog] at hcg
    go_wp2
    refine bodyPost_ret (results_tmp2 rfl _ _ _) rfl ?_
    exact RefR.no 2 (by omega) (by omega) _ _ _ d9
  rw [decide_eq_false hog] at hcg
  have hfit : Fit 85 f nc := ⟨unhide HKN, by rw [unhide HT, hlen]; have := unhide HUN; omega, by rw [unhide HT, unhide HV, hlen]; have h1 := unhide HQ; have h2 := unhide HQ'; omega, fun hh => by omega, by omega, unhide HPAID⟩
  have HFIT := hide hfit
  clear hfit hog
  go_upto_region 17 with fail
  have d9d : Below w8.heap.size w8 w9.drew := b9.thn (Quiet.below ⟨1, rfl⟩ _)
  refine wp_region_noPanic ?_
  refine wp_region_held_drew (S := fun w' => Below w8.heap.size w8 w') (by kernel_rfl) (d9d) (fun hHeld => ?_)
  refine held_takeD 0 (.int .u8 85) (some 96) (by rfl) (by rfl) (by kernel_rfl) (by kernel_rfl) (by kernel_rfl) (fun _ _ _ h => h) (.inl ⟨by rfl, fun _ _ => by rfl⟩) (hHeld) ?_
  simp only [Act.put, List.setIfInBounds_toArray, List.set_cons_zero, List.set_cons_succ]
  refine held_takeD 1 (.bool true) (some 97) (by rfl) (by rfl) (by kernel_rfl) (by kernel_rfl) (by kernel_rfl) (fun _ _ _ h => h) (.inl ⟨by rfl, fun _ _ => by go_simp⟩) (hHeld) ?_
  simp only [Act.put, List.setIfInBounds_toArray, List.set_cons_zero, List.set_cons_succ]
  refine held_takeD 2 (.bool true) (some 98) (by rfl) (by rfl) (by kernel_rfl) (by kernel_rfl) (by kernel_rfl) (fun _ _ _ h => h) (.inl ⟨by rfl, fun _ _ => by rfl⟩) (hHeld) ?_
  simp only [Act.put, List.setIfInBounds_toArray, List.set_cons_zero, List.set_cons_succ]
  refine held_takeD 3 (.pointer (some ⟨gf, o, none⟩)) (some 99) (by rfl) (by rfl) (by kernel_rfl) (by kernel_rfl) (by kernel_rfl) (fun _ _ _ h => h) (.inl ⟨by rfl, fun _ _ => by rfl⟩) (hHeld) ?_
  simp only [Act.put, List.setIfInBounds_toArray, List.set_cons_zero, List.set_cons_succ]
  refine held_takeD 4 (.pointer (some ⟨gf, o, none⟩)) (some 100) (by rfl) (by rfl) (by kernel_rfl) (by kernel_rfl) (by kernel_rfl) (fun _ _ _ h => h) (.inl ⟨by rfl, fun _ _ => by go_simp⟩) (hHeld) ?_
  simp only [Act.put, List.setIfInBounds_toArray, List.set_cons_zero, List.set_cons_succ]
  refine held_takeD 5 (.pointer (some ⟨gf, o + 4, none⟩)) (some 101) (by rfl) (by rfl) (by kernel_rfl) (by kernel_rfl) (by kernel_rfl) (fun _ _ _ h => h) (.inl ⟨by rfl, fun _ _ => by go_simp⟩) (hHeld) ?_
  simp only [Act.put, List.setIfInBounds_toArray, List.set_cons_zero, List.set_cons_succ]
  refine held_takeD 6 (.slice A4 k4 c4) (some 102) (by rfl) (by rfl) (by kernel_rfl) (by kernel_rfl) (by kernel_rfl) (fun _ _ _ h => h) (.inl ⟨by rfl, fun wS hS => by have hc := (unhide X4 wS (d8.thn hS)).1; go_simp⟩) (hHeld) ?_
  simp only [Act.put, List.setIfInBounds_toArray, List.set_cons_zero, List.set_cons_succ]
  refine held_one 7 (by kernel_rfl) (by rfl) (fun K' hK' => ?_)
  go_simp
  refine (num_any 2300 w9.drew (by omega)).mono ?_
  rintro e wa ⟨Aa, ka, ca, rfl, na, Na, ba⟩
  refine hK'.out _ _ (d9d.thn ba) ?_
  clear hK' K'
  have da : Below w8.heap.size w8 wa := d9d.thn ba
  refine held_one 8 (by kernel_rfl) (by rfl) (fun K' hK' => ?_)
  go_simp
  refine ((unhide X4 wa (d8.thn da)).2.cmp na hgas (by omega)).mono ?_
  rintro e wb ⟨rfl, qb⟩
  refine hK'.out _ _ (da.thn (qb.below _)) ?_
  clear hK' K'
  have db : Below w8.heap.size w8 wb := da.thn (qb.below _)
  refine held_takeD 9 (.bool (decide (cmpI f.gas 2300 ≤ 0))) (some 105) (by rfl) (by rfl) (by kernel_rfl) (by kernel_rfl) (by kernel_rfl) (fun _ _ _ h => h) (.inl ⟨by rfl, fun _ _ => by go_simp⟩) (db) ?_
  simp only [Act.put, List.setIfInBounds_toArray, List.set_cons_zero, List.set_cons_succ]
  refine held_takeD 10 (.bool (decide (cmpI f.gas 2300 ≤ 0))) (some 106) (by rfl) (by rfl) (by kernel_rfl) (by kernel_rfl) (by kernel_rfl) (fun _ _ _ h => h) (.inl ⟨by rfl, fun _ _ => by go_simp⟩) (db) ?_
  simp only [Act.put, List.setIfInBounds_toArray, List.set_cons_zero, List.set_cons_succ]
  refine held_takeD 11 (.bool (decide (cmpI f.gas 2300 ≤ 0))) (some 95) (by rfl) (by rfl) (by kernel_rfl) (by kernel_rfl) (by kernel_rfl) (fun _ _ _ h => h) (.inl ⟨by rfl, fun _ _ => by rfl⟩) (db) ?_
  simp only [Act.put, List.setIfInBounds_toArray, List.set_cons_zero, List.set_cons_succ]
  refine wpAnyH_done (by kernel_rfl) ?_ _
  refine NoPanic.normal ?_
  generalize decide (cmpI f.gas 2300 ≤ 0) = gb
  clear na qb
  cases gb
  rotate_left
  · go_wp2
    refine bodyPost_ret (results_tmp2 rfl _ _ _) rfl ?_
    exact RefR.no 2 (by omega) (by omega) _ _ _ (d8.thn db)
  go_upto_region 19 with fail
  go_quiet (fail)
  have bq2 : Below w8.heap.size w8 (wb.drewN nq) := db.thn (Quiet.below ⟨nq, rfl⟩ _)
  generalize wb.drewN nq = wq2 at bq2 ⊢
  go_upto_region 21 with fail
  go_quiet (fail)
  have bq3 : Below w8.heap.size w8 (wq2.drewN nq) := bq2.thn (Quiet.below ⟨nq, rfl⟩ _)
  generalize wq2.drewN nq = wq3 at bq3 ⊢
  go_wp2
  refine bodyPost_ret (results_tmp2 rfl _ _ _) rfl ?_
  exact ⟨0, Ac, kc, cc, rfl, by omega, fun _ => ⟨nc, (unhide NNc).kept bq3, NWc, unhide HFIT⟩, d8.thn bq3⟩
set_option maxHeartbeats 16000000 in
theorem refuse_86 (h : SR G bw gf cs fr d (f :: r) x w) (hx : XB x) (hg : Good B d) (hf : AnyF f) (hml : f.ml ≤ 1000000) (hgas : f.gas < BIG) :
    Calls Sakg.prog 113 #[.pointer (some ⟨bw, 0, none⟩), .pointer (some ⟨gf, 60 * r.length, none⟩), .int .u8 86] w (RefR 86 f w) := by
  have hBB := big_ge
  have hP := p256_ge
  have hPB := p256_big2
  have hs := argN_lt hf.stk
  have hsl := hf.slen
  have hcl := hf.code
  have hfx := h.fx
  have hC : ∀ wz, Below w.heap.size w wz → Calls Sakg.prog 204 #[.pointer (some ⟨bw, 0, none⟩), .pointer (some ⟨gf, 60 * r.length, none⟩), .int .u8 86] wz (CostR2 86 f.stk f.ml wz) := fun wz hz => (h.kept hz).cost hx hg hf hml 86 (by omega)
  obtain ⟨o, ho⟩ : ∃ o, o = 60 * r.length := ⟨_, rfl⟩
  rw [← ho] at hfx hC ⊢
  have HF := hide hfx
  have HS := hide hs
  have HC := hide hC
  have HW : ∀ wz, Below w.heap.size w wz → Hid (Calls Sakg.prog 203 #[.pointer (some ⟨gf, o, none⟩), .int .u8 86] wz fun e w' => (∃ b, e = .returned (.bool b)) ∧ Below wz.heap.size wz w') := fun wz hz => hide ((hfx.kept hz).writes hf 86 (by omega))
  obtain ⟨A8, l8, c8, g1, g2⟩ := hfx.kf.stk
  have hlen := g2.len
  have y8 : w.cell? ⟨gf, o + 8, none⟩ = some (.slice A8 l8 c8) := hfx.cell g1
  have y2 : w.cell? ⟨gf, o + 2, none⟩ = some (.bool f.static) := hfx.cell hfx.kf.static
  obtain ⟨A4, k4, c4, p1, p2⟩ := hfx.kf.gas
  have x4 : ∀ wz, Below w.heap.size w wz → wz.cell? ⟨gf, o + 4, none⟩ = some (.slice A4 k4 c4) ∧ IsNat wz A4 k4 c4 f.gas := fun wz hz => ⟨(hfx.kept hz).cell p1, (p2.kp (ChgS.of hz)).now⟩
  have X4 := hide x4
  obtain ⟨A0, k0, c0, q1, q2⟩ := hfx.kf.code
  have x10 : ∀ wz, Below w.heap.size w wz → wz.cell? ⟨gf, o + 10, none⟩ = some (.slice A0 k0 c0) ∧ Src wz A0 k0 c0 f.code := fun wz hz => ⟨(hfx.kept hz).cell q1, (q2.kp (ChgS.of hz)).now⟩
  have X10 := hide x10
  have hk0 := q2.now.len_eq
  obtain ⟨Ar, lr, cr, r1, r2⟩ := h.xs.ret
  have x3 : ∀ wz, Below w.heap.size w wz → wz.cell? ⟨bw, 10, none⟩ = some (.slice Ar lr cr) := fun wz hz => (h.cw.kept hz).cell r1
  have X3 := hide x3
  have hlr : lr ≤ 1000000 := by have := r2.now.len_eq; have := hx.ret; omega
  have HAR := hide (arity_any 86 (by omega) w)
  generalize hT : takA 86 = T at HAR
  generalize hV : givA 86 = V at HAR
  have HT := hide hT
  have HV := hide hV
  have hTl : T ≤ 17 := by rw [← hT]; exact takA_le _
  have hVl : V ≤ 17 := by rw [← hV]; exact givA_le _
  clear h hfx hx hg hs ho hC x4 x10 x3 g1 g2 p1 p2 q1 q2 r1 r2 hT hV
  by_cases hkn : famA 86 ≠ 0
  rotate_left
  · rw [decide_eq_false hkn] at HAR
    go_enter Sakg.func113, Sakg.ntmps113
    go_wp2_with (go_at_call 202; refine (unhide HAR).mono ?_; rintro e w1 ⟨rfl, rfl⟩)
    refine bodyPost_ret (results_tmp2 rfl _ _ _) rfl ?_
    exact RefR.no 5 (by omega) (by omega) _ _ _ (Below.refl _ _)
  rw [decide_eq_true hkn] at HAR
  have HKN := hide hkn
  clear hkn
  by_cases hun : l8 < T
  · have t1 : decide ((l8 : Int) < (T : Int)) = true := decide_eq_true (by omega)
    go_enter Sakg.func113, Sakg.ntmps113
    go_wp2_with (go_at_call 202; refine (unhide HAR).mono ?_; rintro e w1 ⟨rfl, rfl⟩)
    refine bodyPost_ret (results_tmp2 rfl _ _ _) rfl ?_
    exact RefR.no 3 (by omega) (by omega) _ _ _ (Below.refl _ _)
  have t1 : decide ((l8 : Int) < (T : Int)) = false := decide_eq_false (by omega)
  have t1n : decide (l8 < T) = false := decide_eq_false hun
  obtain ⟨q, hq⟩ : ∃ q, q = l8 - T := ⟨_, rfl⟩
  have eq1 : (l8 : Int) - (T : Int) = (q : Int) := by omega
  obtain ⟨q', hq'⟩ : ∃ q', q' = q + V := ⟨_, rfl⟩
  have eq2 : (q : Int) + (V : Int) = (q' : Int) := by omega
  have hqb : q ≤ 64 ∧ q' ≤ 100 := by omega
  have HQ := hide hq
  have HQ' := hide hq'
  have HUN := hide hun
  clear hq hq' hun
  by_cases hov : 64 < q'
  · have t2 : decide ((64 : Int) < (q' : Int)) = true := decide_eq_true (by omega)
    go_enter Sakg.func113, Sakg.ntmps113
    go_wp2_with (go_at_call 202; refine (unhide HAR).mono ?_; rintro e w1 ⟨rfl, rfl⟩)
    refine bodyPost_ret (results_tmp2 rfl _ _ _) rfl ?_
    exact RefR.no 4 (by omega) (by omega) _ _ _ (Below.refl _ _)
  have t2 : decide ((64 : Int) < (q' : Int)) = false := decide_eq_false (by omega)
  have t2n : decide (64 < q') = false := decide_eq_false hov
  go_enter Sakg.func113, Sakg.ntmps113
  go_upto_region 8 with (go_at_call 202; refine (unhide HAR).mono ?_; rintro e w1 ⟨rfl, rfl⟩)
  go_cut [39] (fun s39 wc => (∃ b, s39 = .bool b) ∧ Below w.heap.size w wc)
  case first =>
    generalize f.static = sb at y2
    cases sb
    · go_wp2_with fail
      go_meet
      case rel => exact ⟨⟨_, rfl⟩, Below.refl _ _⟩
    · go_wp2_with (go_at_call 203; refine (unhide (HW w (Below.refl _ _))).mono ?_; rintro e w2 ⟨⟨bb, rfl⟩, b2⟩)
      go_meet
      case rel => exact ⟨⟨_, rfl⟩, b2⟩
  case rest =>
  obtain ⟨w2, hw2⟩ : ∃ w2, w2 = wc := ⟨_, rfl⟩
  subst hw2
  obtain ⟨⟨sw, rfl⟩, d2⟩ := hcut
  clear y8 y2 HAR HW
  cases sw
  rotate_left
  · go_wp2
    refine bodyPost_ret (results_tmp2 rfl _ _ _) rfl ?_
    exact RefR.no 7 (by omega) (by omega) _ _ _ d2
  go_upto_region 12 with fail
  go_quiet (fail)
  have dq : Below w.heap.size w (w2.drewN nq) := d2.thn (Quiet.below ⟨nq, rfl⟩ _)
  generalize w2.drewN nq = wq0 at dq ⊢
  go_wp2_with fail
  refine (unhide HC _ dq).mono ?_
  rintro e w8 ⟨Ac, kc, cc, nc, rfl, mc, Nc, hcb, hpaid, b8⟩
  have d8 : Below w.heap.size w w8 := dq.thn b8
  have NNc := hide mc
  have HPAID := hide hpaid
  have y4 := (unhide X4 w8 d8).1
  have HCM := hide (mc.cmp (unhide X4 w8 d8).2 hcb hgas)
  have hcg := cmp_gt nc f.gas
  generalize cmpI nc f.gas = cg at HCM hcg
  have NWc : New w Ac := Nc.later dq.size
  clear mc hpaid
  go_wp2_with fail
  refine (unhide HCM).mono ?_
  rintro e w9 ⟨rfl, q9⟩
  have b9 : Below w8.heap.size w8 w9 := q9.below _
  have d9 : Below w.heap.size w w9 := d8.thn b9
  clear q9 y4
  by_cases hog : f.gas < nc
  · rw [decide_eq_true hog] at hcg
    go_wp2
    refine bodyPost_ret (results_tmp2 rfl _ _ _) rfl ?_
    exact RefR.no 2 (by omega) (by omega) _ _ _ d9
  rw [decide_eq_false hog] at hcg
  have hfit : Fit 86 f nc := ⟨unhide HKN, by rw [unhide HT, hlen]; have := unhide HUN; omega, by rw [unhide HT, unhide HV, hlen]; have h1 := unhide HQ; have h2 := unhide HQ'; omega, fun hh => by omega, by omega, unhide HPAID⟩
  have HFIT := hide hfit
  clear hfit hog
  go_upto_region 17 with fail
  go_quiet (fail)
  have bq1 : Below w8.heap.size w8 (w9.drewN nq) := b9.thn (Quiet.below ⟨nq, rfl⟩ _)
  generalize w9.drewN nq = wq1 at bq1 ⊢
  go_upto_region 19 with fail
  have ha0 := unhide HS 0
  have dj : Below w8.heap.size w8 wq1.drew := bq1.thn (Quiet.below ⟨1, rfl⟩ _)
  refine wp_region_noPanic ?_
  refine wp_region_held_drew (S := fun w' => Below w8.heap.size w8 w') (by kernel_rfl) (dj) (fun hHeld => ?_)
  refine held_takeD 0 (.int .u8 86) (some 109) (by rfl) (by rfl) (by kernel_rfl) (by kernel_rfl) (by kernel_rfl) (fun _ _ _ h => h) (.inl ⟨by rfl, fun _ _ => by rfl⟩) (hHeld) ?_
  simp only [Act.put, List.setIfInBounds_toArray, List.set_cons_zero, List.set_cons_succ]
  refine held_takeD 1 (.bool true) (some 110) (by rfl) (by rfl) (by kernel_rfl) (by kernel_rfl) (by kernel_rfl) (fun _ _ _ h => h) (.inl ⟨by rfl, fun _ _ => by go_simp⟩) (hHeld) ?_
  simp only [Act.put, List.setIfInBounds_toArray, List.set_cons_zero, List.set_cons_succ]
  refine held_takeD 2 (.bool true) (some 111) (by rfl) (by rfl) (by kernel_rfl) (by kernel_rfl) (by kernel_rfl) (fun _ _ _ h => h) (.inl ⟨by rfl, fun _ _ => by rfl⟩) (hHeld) ?_
  simp only [Act.put, List.setIfInBounds_toArray, List.set_cons_zero, List.set_cons_succ]
  refine held_takeD 3 (.pointer (some ⟨gf, o, none⟩)) (some 112) (by rfl) (by rfl) (by kernel_rfl) (by kernel_rfl) (by kernel_rfl) (fun _ _ _ h => h) (.inl ⟨by rfl, fun _ _ => by rfl⟩) (hHeld) ?_
  simp only [Act.put, List.setIfInBounds_toArray, List.set_cons_zero, List.set_cons_succ]
  refine held_takeD 4 (.pointer (some ⟨gf, o, none⟩)) (some 113) (by rfl) (by rfl) (by kernel_rfl) (by kernel_rfl) (by kernel_rfl) (fun _ _ _ h => h) (.inl ⟨by rfl, fun _ _ => by go_simp⟩) (hHeld) ?_
  simp only [Act.put, List.setIfInBounds_toArray, List.set_cons_zero, List.set_cons_succ]
  refine held_takeD 5 (.pointer (some ⟨gf, o + 10, none⟩)) (some 114) (by rfl) (by rfl) (by kernel_rfl) (by kernel_rfl) (by kernel_rfl) (fun _ _ _ h => h) (.inl ⟨by rfl, fun _ _ => by go_simp⟩) (hHeld) ?_
  simp only [Act.put, List.setIfInBounds_toArray, List.set_cons_zero, List.set_cons_succ]
  refine held_takeD 6 (.slice A0 k0 c0) (some 115) (by rfl) (by rfl) (by kernel_rfl) (by kernel_rfl) (by kernel_rfl) (fun _ _ _ h => h) (.inl ⟨by rfl, fun wS hS => by have hc := (unhide X10 wS (d8.thn hS)).1; go_simp⟩) (hHeld) ?_
  simp only [Act.put, List.setIfInBounds_toArray, List.set_cons_zero, List.set_cons_succ]
  refine held_takeD 7 (.pointer (some ⟨gf, o, none⟩)) (some 116) (by rfl) (by rfl) (by kernel_rfl) (by kernel_rfl) (by kernel_rfl) (fun _ _ _ h => h) (.inl ⟨by rfl, fun _ _ => by rfl⟩) (hHeld) ?_
  simp only [Act.put, List.setIfInBounds_toArray, List.set_cons_zero, List.set_cons_succ]
  refine held_one 8 (by kernel_rfl) (by rfl) (fun K' hK' => ?_)
  go_simp
  refine (((unhide HF).kept (d8.thn dj)).arg (by omega) 0 (by omega)).mono ?_
  rintro e wa ⟨⟨Aa, ka, ca, rfl, sa⟩, qa⟩
  refine hK'.out _ _ (dj.thn (qa.below _)) ?_
  clear hK' K'
  have da : Below w8.heap.size w8 wa := dj.thn (qa.below _)
  have sa' := (sa.kp (ChgS.of (qa.below _))).now
  refine held_one 9 (by kernel_rfl) (by rfl) (fun K' hK' => ?_)
  go_simp
  refine (isDest_any A0 k0 c0 f.code Aa ka ca _ wa (unhide X10 wa (d8.thn da)).2 (by omega) sa' (by omega)).mono ?_
  rintro e wb ⟨⟨jb, rfl⟩, bb⟩
  refine hK'.out _ _ (da.thn bb) ?_
  clear hK' K'
  have db : Below w8.heap.size w8 wb := da.thn bb
  refine held_takeD 10 (.bool (!jb)) (some 119) (by rfl) (by rfl) (by kernel_rfl) (by kernel_rfl) (by kernel_rfl) (fun _ _ _ h => h) (.inl ⟨by rfl, fun _ _ => by go_simp⟩) (db) ?_
  simp only [Act.put, List.setIfInBounds_toArray, List.set_cons_zero, List.set_cons_succ]
  refine held_takeD 11 (.bool (!jb)) (some 120) (by rfl) (by rfl) (by kernel_rfl) (by kernel_rfl) (by kernel_rfl) (fun _ _ _ h => h) (.inl ⟨by rfl, fun _ _ => by go_simp⟩) (db) ?_
  simp only [Act.put, List.setIfInBounds_toArray, List.set_cons_zero, List.set_cons_succ]
  refine held_takeD 12 (.bool (!jb)) (some 108) (by rfl) (by rfl) (by kernel_rfl) (by kernel_rfl) (by kernel_rfl) (fun _ _ _ h => h) (.inl ⟨by rfl, fun _ _ => by rfl⟩) (db) ?_
  simp only [Act.put, List.setIfInBounds_toArray, List.set_cons_zero, List.set_cons_succ]
  refine wpAnyH_done (by kernel_rfl) ?_ _
  refine NoPanic.normal ?_
  generalize (!jb) = nj
  clear sa sa' qa
  cases nj
  rotate_left
  · go_wp2
    refine bodyPost_ret (results_tmp2 rfl _ _ _) rfl ?_
    exact RefR.no 6 (by omega) (by omega) _ _ _ (d8.thn db)
  go_upto_region 21 with fail
  go_quiet (fail)
  have bq3 : Below w8.heap.size w8 (wb.drewN nq) := db.thn (Quiet.below ⟨nq, rfl⟩ _)
  generalize wb.drewN nq = wq3 at bq3 ⊢
  go_wp2
  refine bodyPost_ret (results_tmp2 rfl _ _ _) rfl ?_
  exact ⟨0, Ac, kc, cc, rfl, by omega, fun _ => ⟨nc, (unhide NNc).kept bq3, NWc, unhide HFIT⟩, d8.thn bq3⟩
set_option maxHeartbeats 16000000 in
theorem refuse_87 (h : SR G bw gf cs fr d (f :: r) x w) (hx : XB x) (hg : Good B d) (hf : AnyF f) (hml : f.ml ≤ 1000000) (hgas : f.gas < BIG) :
    Calls Sakg.prog 113 #[.pointer (some ⟨bw, 0, none⟩), .pointer (some ⟨gf, 60 * r.length, none⟩), .int .u8 87] w (RefR 87 f w) := by
  have hBB := big_ge
  have hP := p256_ge
  have hPB := p256_big2
  have hs := argN_lt hf.stk
  have hsl := hf.slen
  have hcl := hf.code
  have hfx := h.fx
  have hC : ∀ wz, Below w.heap.size w wz → Calls Sakg.prog 204 #[.pointer (some ⟨bw, 0, none⟩), .pointer (some ⟨gf, 60 * r.length, none⟩), .int .u8 87] wz (CostR2 87 f.stk f.ml wz) := fun wz hz => (h.kept hz).cost hx hg hf hml 87 (by omega)
  obtain ⟨o, ho⟩ : ∃ o, o = 60 * r.length := ⟨_, rfl⟩
  rw [← ho] at hfx hC ⊢
  have HF := hide hfx
  have HS := hide hs
  have HC := hide hC
  have HW : ∀ wz, Below w.heap.size w wz → Hid (Calls Sakg.prog 203 #[.pointer (some ⟨gf, o, none⟩), .int .u8 87] wz fun e w' => (∃ b, e = .returned (.bool b)) ∧ Below wz.heap.size wz w') := fun wz hz => hide ((hfx.kept hz).writes hf 87 (by omega))
  obtain ⟨A8, l8, c8, g1, g2⟩ := hfx.kf.stk
  have hlen := g2.len
  have y8 : w.cell? ⟨gf, o + 8, none⟩ = some (.slice A8 l8 c8) := hfx.cell g1
  have y2 : w.cell? ⟨gf, o + 2, none⟩ = some (.bool f.static) := hfx.cell hfx.kf.static
  obtain ⟨A4, k4, c4, p1, p2⟩ := hfx.kf.gas
  have x4 : ∀ wz, Below w.heap.size w wz → wz.cell? ⟨gf, o + 4, none⟩ = some (.slice A4 k4 c4) ∧ IsNat wz A4 k4 c4 f.gas := fun wz hz => ⟨(hfx.kept hz).cell p1, (p2.kp (ChgS.of hz)).now⟩
  have X4 := hide x4
  obtain ⟨A0, k0, c0, q1, q2⟩ := hfx.kf.code
  have x10 : ∀ wz, Below w.heap.size w wz → wz.cell? ⟨gf, o + 10, none⟩ = some (.slice A0 k0 c0) ∧ Src wz A0 k0 c0 f.code := fun wz hz => ⟨(hfx.kept hz).cell q1, (q2.kp (ChgS.of hz)).now⟩
  have X10 := hide x10
  have hk0 := q2.now.len_eq
  obtain ⟨Ar, lr, cr, r1, r2⟩ := h.xs.ret
  have x3 : ∀ wz, Below w.heap.size w wz → wz.cell? ⟨bw, 10, none⟩ = some (.slice Ar lr cr) := fun wz hz => (h.cw.kept hz).cell r1
  have X3 := hide x3
  have hlr : lr ≤ 1000000 := by have := r2.now.len_eq; have := hx.ret; omega
  have HAR := hide (arity_any 87 (by omega) w)
  generalize hT : takA 87 = T at HAR
  generalize hV : givA 87 = V at HAR
  have HT := hide hT
  have HV := hide hV
  have hTl : T ≤ 17 := by rw [← hT]; exact takA_le _
  have hVl : V ≤ 17 := by rw [← hV]; exact givA_le _
  clear h hfx hx hg hs ho hC x4 x10 x3 g1 g2 p1 p2 q1 q2 r1 r2 hT hV
  by_cases hkn : famA 87 ≠ 0
  rotate_left
  · rw [decide_eq_false hkn] at HAR
    go_enter Sakg.func113, Sakg.ntmps113
    go_wp2_with (go_at_call 202; refine (unhide HAR).mono ?_; rintro e w1 ⟨rfl, rfl⟩)
    refine bodyPost_ret (results_tmp2 rfl _ _ _) rfl ?_
    exact RefR.no 5 (by omega) (by omega) _ _ _ (Below.refl _ _)
  rw [decide_eq_true hkn] at HAR
  have HKN := hide hkn
  clear hkn
  by_cases hun : l8 < T
  · have t1 : decide ((l8 : Int) < (T : Int)) = true := decide_eq_true (by omega)
    go_enter Sakg.func113, Sakg.ntmps113
    go_wp2_with (go_at_call 202; refine (unhide HAR).mono ?_; rintro e w1 ⟨rfl, rfl⟩)
    refine bodyPost_ret (results_tmp2 rfl _ _ _) rfl ?_
    exact RefR.no 3 (by omega) (by omega) _ _ _ (Below.refl _ _)
  have t1 : decide ((l8 : Int) < (T : Int)) = false := decide_eq_false (by omega)
  have t1n : decide (l8 < T) = false := decide_eq_false hun
  obtain ⟨q, hq⟩ : ∃ q, q = l8 - T := ⟨_, rfl⟩
  have eq1 : (l8 : Int) - (T : Int) = (q : Int) := by omega
  obtain ⟨q', hq'⟩ : ∃ q', q' = q + V := ⟨_, rfl⟩
  have eq2 : (q : Int) + (V : Int) = (q' : Int) := by omega
  have hqb : q ≤ 64 ∧ q' ≤ 100 := by omega
  have HQ := hide hq
  have HQ' := hide hq'
  have HUN := hide hun
  clear hq hq' hun
  by_cases hov : 64 < q'
  · have t2 : decide ((64 : Int) < (q' : Int)) = true := decide_eq_true (by omega)
    go_enter Sakg.func113, Sakg.ntmps113
    go_wp2_with (go_at_call 202; refine (unhide HAR).mono ?_; rintro e w1 ⟨rfl, rfl⟩)
    refine bodyPost_ret (results_tmp2 rfl _ _ _) rfl ?_
    exact RefR.no 4 (by omega) (by omega) _ _ _ (Below.refl _ _)
  have t2 : decide ((64 : Int) < (q' : Int)) = false := decide_eq_false (by omega)
  have t2n : decide (64 < q') = false := decide_eq_false hov
  go_enter Sakg.func113, Sakg.ntmps113
  go_upto_region 8 with (go_at_call 202; refine (unhide HAR).mono ?_; rintro e w1 ⟨rfl, rfl⟩)
  go_cut [39] (fun s39 wc => (∃ b, s39 = .bool b) ∧ Below w.heap.size w wc)
  case first =>
    generalize f.static = sb at y2
    cases sb
    · go_wp2_with fail
      go_meet
      case rel => exact ⟨⟨_, rfl⟩, Below.refl _ _⟩
    · go_wp2_with (go_at_call 203; refine (unhide (HW w (Below.refl _ _))).mono ?_; rintro e w2 ⟨⟨bb, rfl⟩, b2⟩)
      go_meet
      case rel => exact ⟨⟨_, rfl⟩, b2⟩
  case rest =>
  obtain ⟨w2, hw2⟩ : ∃ w2, w2 = wc := ⟨_, rfl⟩
  subst hw2
  obtain ⟨⟨sw, rfl⟩, d2⟩ := hcut
  clear y8 y2 HAR HW
  cases sw
  rotate_left
  · go_wp2
    refine bodyPost_ret (results_tmp2 rfl _ _ _) rfl ?_
    exact RefR.no 7 (by omega) (by omega) _ _ _ d2
  go_upto_region 12 with fail
  go_quiet (fail)
  have dq : Below w.heap.size w (w2.drewN nq) := d2.thn (Quiet.below ⟨nq, rfl⟩ _)
  generalize w2.drewN nq = wq0 at dq ⊢
  go_wp2_with fail
  refine (unhide HC _ dq).mono ?_
  rintro e w8 ⟨Ac, kc, cc, nc, rfl, mc, Nc, hcb, hpaid, b8⟩
  have d8 : Below w.heap.size w w8 := dq.thn b8
  have NNc := hide mc
  have HPAID := hide hpaid
  have y4 := (unhide X4 w8 d8).1
  have HCM := hide (mc.cmp (unhide X4 w8 d8).2 hcb hgas)
  have hcg := cmp_gt nc f.gas
  generalize cmpI nc f.gas = cg at HCM hcg
  have NWc : New w Ac := Nc.later dq.size
  clear mc hpaid
  go_wp2_with fail
  refine (unhide HCM).mono ?_
  rintro e w9 ⟨rfl, q9⟩
  have b9 : Below w8.heap.size w8 w9 := q9.below _
  have d9 : Below w.heap.size w w9 := d8.thn b9
  clear q9 y4
  by_cases hog : f.gas < nc
  · rw [decide_eq_true hog] at hcg
    go_wp2
    refine bodyPost_ret (results_tmp2 rfl _ _ _) rfl ?_
    exact RefR.no 2 (by omega) (by omega) _ _ _ d9
  rw [decide_eq_false hog] at hcg
  have hfit : Fit 87 f nc := ⟨unhide HKN, by rw [unhide HT, hlen]; have := unhide HUN; omega, by rw [unhide HT, unhide HV, hlen]; have h1 := unhide HQ; have h2 := unhide HQ'; omega, fun hh => by omega, by omega, unhide HPAID⟩
  have HFIT := hide hfit
  clear hfit hog
  go_upto_region 17 with fail
  go_quiet (fail)
  have bq1 : Below w8.heap.size w8 (w9.drewN nq) := b9.thn (Quiet.below ⟨nq, rfl⟩ _)
  generalize w9.drewN nq = wq1 at bq1 ⊢
  go_upto_region 19 with fail
  go_quiet (fail)
  have bq2 : Below w8.heap.size w8 (wq1.drewN nq) := bq1.thn (Quiet.below ⟨nq, rfl⟩ _)
  generalize wq1.drewN nq = wq2 at bq2 ⊢
  go_upto_region 21 with fail
  have ha0 := unhide HS 0
  have ha1 := unhide HS 1
  have dj : Below w8.heap.size w8 wq2.drew := bq2.thn (Quiet.below ⟨1, rfl⟩ _)
  go_cut [122] (fun s122 wc => (∃ b, s122 = .bool b) ∧ Below w8.heap.size w8 wc)
  case first =>
    refine wp_region_noPanic ?_
    refine wp_region_held_drew (S := fun w' => Below w8.heap.size w8 w') (by kernel_rfl) (dj) (fun hHeld => ?_)
    refine held_takeD 0 (.int .u8 87) (some 123) (by rfl) (by rfl) (by kernel_rfl) (by kernel_rfl) (by kernel_rfl) (fun _ _ _ h => h) (.inl ⟨by rfl, fun _ _ => by rfl⟩) (hHeld) ?_
    simp only [Act.put, List.setIfInBounds_toArray, List.set_cons_zero, List.set_cons_succ]
    refine held_takeD 1 (.bool true) (some 124) (by rfl) (by rfl) (by kernel_rfl) (by kernel_rfl) (by kernel_rfl) (fun _ _ _ h => h) (.inl ⟨by rfl, fun _ _ => by go_simp⟩) (hHeld) ?_
    simp only [Act.put, List.setIfInBounds_toArray, List.set_cons_zero, List.set_cons_succ]
    refine held_takeD 2 (.bool true) (some 125) (by rfl) (by rfl) (by kernel_rfl) (by kernel_rfl) (by kernel_rfl) (fun _ _ _ h => h) (.inl ⟨by rfl, fun _ _ => by rfl⟩) (hHeld) ?_
    simp only [Act.put, List.setIfInBounds_toArray, List.set_cons_zero, List.set_cons_succ]
    refine held_takeD 3 (.pointer (some ⟨gf, o, none⟩)) (some 126) (by rfl) (by rfl) (by kernel_rfl) (by kernel_rfl) (by kernel_rfl) (fun _ _ _ h => h) (.inl ⟨by rfl, fun _ _ => by rfl⟩) (hHeld) ?_
    simp only [Act.put, List.setIfInBounds_toArray, List.set_cons_zero, List.set_cons_succ]
    refine held_one 4 (by kernel_rfl) (by rfl) (fun K' hK' => ?_)
    go_simp
    refine (((unhide HF).kept (d8.thn dj)).arg (by omega) 1 (by omega)).mono ?_
    rintro e wa ⟨⟨Aa, ka, ca, rfl, sa⟩, qa⟩
    refine hK'.out _ _ (dj.thn (qa.below _)) ?_
    clear hK' K'
    have da : Below w8.heap.size w8 wa := dj.thn (qa.below _)
    have sa' := (sa.kp (ChgS.of (qa.below _))).now
    refine held_one 5 (by kernel_rfl) (by rfl) (fun K' hK' => ?_)
    go_simp
    refine (isZero_any Aa ka ca _ wa sa' (by omega)).mono ?_
    rintro e wb ⟨rfl, qb⟩
    refine hK'.out _ _ (da.thn (qb.below _)) ?_
    clear hK' K'
    have db : Below w8.heap.size w8 wb := da.thn (qb.below _)
    generalize decide (argN f.stk 1 = 0) = zb
    cases zb
    · refine held_takeD 6 (.bool true) (some 129) (by rfl) (by rfl) (by kernel_rfl) (by kernel_rfl) (by kernel_rfl) (fun _ _ _ h => h) (.inl ⟨by rfl, fun _ _ => by go_simp⟩) (db) ?_
      simp only [Act.put, List.setIfInBounds_toArray, List.set_cons_zero, List.set_cons_succ]
      refine held_takeD 7 (.bool true) (some 130) (by rfl) (by rfl) (by kernel_rfl) (by kernel_rfl) (by kernel_rfl) (fun _ _ _ h => h) (.inl ⟨by rfl, fun _ _ => by go_simp⟩) (db) ?_
      simp only [Act.put, List.setIfInBounds_toArray, List.set_cons_zero, List.set_cons_succ]
      refine held_takeD 8 (.bool true) (some 131) (by rfl) (by rfl) (by kernel_rfl) (by kernel_rfl) (by kernel_rfl) (fun _ _ _ h => h) (.inl ⟨by rfl, fun _ _ => by rfl⟩) (db) ?_
      simp only [Act.put, List.setIfInBounds_toArray, List.set_cons_zero, List.set_cons_succ]
      refine held_takeD 9 (.pointer (some ⟨gf, o, none⟩)) (some 132) (by rfl) (by rfl) (by kernel_rfl) (by kernel_rfl) (by kernel_rfl) (fun _ _ _ h => h) (.inl ⟨by rfl, fun _ _ => by rfl⟩) (db) ?_
      simp only [Act.put, List.setIfInBounds_toArray, List.set_cons_zero, List.set_cons_succ]
      refine held_takeD 10 (.pointer (some ⟨gf, o, none⟩)) (some 133) (by rfl) (by rfl) (by kernel_rfl) (by kernel_rfl) (by kernel_rfl) (fun _ _ _ h => h) (.inl ⟨by rfl, fun _ _ => by go_simp⟩) (db) ?_
      simp only [Act.put, List.setIfInBounds_toArray, List.set_cons_zero, List.set_cons_succ]
      refine held_takeD 11 (.pointer (some ⟨gf, o + 10, none⟩)) (some 134) (by rfl) (by rfl) (by kernel_rfl) (by kernel_rfl) (by kernel_rfl) (fun _ _ _ h => h) (.inl ⟨by rfl, fun _ _ => by go_simp⟩) (db) ?_
      simp only [Act.put, List.setIfInBounds_toArray, List.set_cons_zero, List.set_cons_succ]
      refine held_takeD 12 (.slice A0 k0 c0) (some 135) (by rfl) (by rfl) (by kernel_rfl) (by kernel_rfl) (by kernel_rfl) (fun _ _ _ h => h) (.inl ⟨by rfl, fun wS hS => by have hc := (unhide X10 wS (d8.thn hS)).1; go_simp⟩) (db) ?_
      simp only [Act.put, List.setIfInBounds_toArray, List.set_cons_zero, List.set_cons_succ]
      refine held_takeD 13 (.pointer (some ⟨gf, o, none⟩)) (some 136) (by rfl) (by rfl) (by kernel_rfl) (by kernel_rfl) (by kernel_rfl) (fun _ _ _ h => h) (.inl ⟨by rfl, fun _ _ => by rfl⟩) (db) ?_
      simp only [Act.put, List.setIfInBounds_toArray, List.set_cons_zero, List.set_cons_succ]
      refine held_one 14 (by kernel_rfl) (by rfl) (fun K' hK' => ?_)
      go_simp
      refine (((unhide HF).kept (d8.thn db)).arg (by omega) 0 (by omega)).mono ?_
      rintro e wc1 ⟨⟨Ab, kb, cb, rfl, sb⟩, qc⟩
      refine hK'.out _ _ (db.thn (qc.below _)) ?_
      clear hK' K'
      have dc : Below w8.heap.size w8 wc1 := db.thn (qc.below _)
      have sb' := (sb.kp (ChgS.of (qc.below _))).now
      refine held_one 15 (by kernel_rfl) (by rfl) (fun K' hK' => ?_)
      go_simp
      refine (isDest_any A0 k0 c0 f.code Ab kb cb _ wc1 (unhide X10 wc1 (d8.thn dc)).2 (by omega) sb' (by omega)).mono ?_
      rintro e wd ⟨⟨jb, rfl⟩, bd⟩
      refine hK'.out _ _ (dc.thn bd) ?_
      clear hK' K'
      have dd : Below w8.heap.size w8 wd := dc.thn bd
      refine held_takeD 16 (.bool (!jb)) (some 139) (by rfl) (by rfl) (by kernel_rfl) (by kernel_rfl) (by kernel_rfl) (fun _ _ _ h => h) (.inl ⟨by rfl, fun _ _ => by go_simp⟩) (dd) ?_
      simp only [Act.put, List.setIfInBounds_toArray, List.set_cons_zero, List.set_cons_succ]
      refine held_takeD 17 (.bool (!jb)) (some 140) (by rfl) (by rfl) (by kernel_rfl) (by kernel_rfl) (by kernel_rfl) (fun _ _ _ h => h) (.inl ⟨by rfl, fun _ _ => by go_simp⟩) (dd) ?_
      simp only [Act.put, List.setIfInBounds_toArray, List.set_cons_zero, List.set_cons_succ]
      refine held_takeD 18 (.bool (!jb)) (some 122) (by rfl) (by rfl) (by kernel_rfl) (by kernel_rfl) (by kernel_rfl) (fun _ _ _ h => h) (.inl ⟨by rfl, fun _ _ => by rfl⟩) (dd) ?_
      simp only [Act.put, List.setIfInBounds_toArray, List.set_cons_zero, List.set_cons_succ]
      refine wpAnyH_done (by kernel_rfl) ?_ _
      refine NoPanic.normal ?_
      generalize (!jb) = nj
      clear sa sa' qa sb sb' qb qc
      go_wp2_with fail
      go_meet
      case rel => exact ⟨⟨_, rfl⟩, dd⟩
    · refine held_takeD 6 (.bool false) (some 129) (by rfl) (by rfl) (by kernel_rfl) (by kernel_rfl) (by kernel_rfl) (fun _ _ _ h => h) (.inl ⟨by rfl, fun _ _ => by go_simp⟩) (db) ?_
      simp only [Act.put, List.setIfInBounds_toArray, List.set_cons_zero, List.set_cons_succ]
      refine held_takeD 7 (.bool false) (some 130) (by rfl) (by rfl) (by kernel_rfl) (by kernel_rfl) (by kernel_rfl) (fun _ _ _ h => h) (.inl ⟨by rfl, fun _ _ => by go_simp⟩) (db) ?_
      simp only [Act.put, List.setIfInBounds_toArray, List.set_cons_zero, List.set_cons_succ]
      refine held_takeD 8 (.bool false) (some 131) (by rfl) (by rfl) (by kernel_rfl) (by kernel_rfl) (by kernel_rfl) (fun _ _ _ h => h) (.inl ⟨by rfl, fun _ _ => by rfl⟩) (db) ?_
      simp only [Act.put, List.setIfInBounds_toArray, List.set_cons_zero, List.set_cons_succ]
      refine held_takeD 9 undef (some 132) (by rfl) (by rfl) (by kernel_rfl) (by kernel_rfl) (by kernel_rfl) (fun _ _ _ h => h) (.inr ⟨by rfl, rfl⟩) (db) ?_
      simp only [Act.put, List.setIfInBounds_toArray, List.set_cons_zero, List.set_cons_succ]
      refine held_takeD 10 undef (some 133) (by rfl) (by rfl) (by kernel_rfl) (by kernel_rfl) (by kernel_rfl) (fun _ _ _ h => h) (.inr ⟨by rfl, rfl⟩) (db) ?_
      simp only [Act.put, List.setIfInBounds_toArray, List.set_cons_zero, List.set_cons_succ]
      refine held_takeD 11 undef (some 134) (by rfl) (by rfl) (by kernel_rfl) (by kernel_rfl) (by kernel_rfl) (fun _ _ _ h => h) (.inr ⟨by rfl, rfl⟩) (db) ?_
      simp only [Act.put, List.setIfInBounds_toArray, List.set_cons_zero, List.set_cons_succ]
      refine held_takeD 12 undef (some 135) (by rfl) (by rfl) (by kernel_rfl) (by kernel_rfl) (by kernel_rfl) (fun _ _ _ h => h) (.inr ⟨by rfl, rfl⟩) (db) ?_
      simp only [Act.put, List.setIfInBounds_toArray, List.set_cons_zero, List.set_cons_succ]
      refine held_takeD 13 undef (some 136) (by rfl) (by rfl) (by kernel_rfl) (by kernel_rfl) (by kernel_rfl) (fun _ _ _ h => h) (.inr ⟨by rfl, rfl⟩) (db) ?_
      simp only [Act.put, List.setIfInBounds_toArray, List.set_cons_zero, List.set_cons_succ]
      refine held_takeD 14 undef (some 137) (by rfl) (by rfl) (by kernel_rfl) (by kernel_rfl) (by kernel_rfl) (fun _ _ _ h => h) (.inr ⟨by rfl, rfl⟩) (db) ?_
      simp only [Act.put, List.setIfInBounds_toArray, List.set_cons_zero, List.set_cons_succ]
      refine held_takeD 15 undef (some 138) (by rfl) (by rfl) (by kernel_rfl) (by kernel_rfl) (by kernel_rfl) (fun _ _ _ h => h) (.inr ⟨by rfl, rfl⟩) (db) ?_
      simp only [Act.put, List.setIfInBounds_toArray, List.set_cons_zero, List.set_cons_succ]
      refine held_takeD 16 undef (some 139) (by rfl) (by rfl) (by kernel_rfl) (by kernel_rfl) (by kernel_rfl) (fun _ _ _ h => h) (.inr ⟨by rfl, rfl⟩) (db) ?_
      simp only [Act.put, List.setIfInBounds_toArray, List.set_cons_zero, List.set_cons_succ]
      refine held_takeD 17 (.bool false) (some 140) (by rfl) (by rfl) (by kernel_rfl) (by kernel_rfl) (by kernel_rfl) (fun _ _ _ h => h) (.inl ⟨by rfl, fun _ _ => by go_simp⟩) (db) ?_
      simp only [Act.put, List.setIfInBounds_toArray, List.set_cons_zero, List.set_cons_succ]
      refine held_takeD 18 (.bool false) (some 122) (by rfl) (by rfl) (by kernel_rfl) (by kernel_rfl) (by kernel_rfl) (fun _ _ _ h => h) (.inl ⟨by rfl, fun _ _ => by rfl⟩) (db) ?_
      simp only [Act.put, List.setIfInBounds_toArray, List.set_cons_zero, List.set_cons_succ]
      refine wpAnyH_done (by kernel_rfl) ?_ _
      refine NoPanic.normal ?_
      clear sa sa' qa qb
      go_wp2_with fail
      go_meet
      case rel => exact ⟨⟨_, rfl⟩, db⟩
  case rest =>
  obtain ⟨we, hwe⟩ : ∃ we, we = wc := ⟨_, rfl⟩
  subst hwe
  obtain ⟨⟨nj, rfl⟩, de⟩ := hcut
  cases nj
  rotate_left
  · go_wp2
    refine bodyPost_ret (results_tmp2 rfl _ _ _) rfl ?_
    exact RefR.no 6 (by omega) (by omega) _ _ _ (d8.thn de)
  go_wp2
  refine bodyPost_ret (results_tmp2 rfl _ _ _) rfl ?_
  exact ⟨0, Ac, kc, cc, rfl, by omega, fun _ => ⟨nc, (unhide NNc).kept de, NWc, unhide HFIT⟩, d8.thn de⟩
set_option maxHeartbeats 16000000 in
theorem refuse_88 (p : Nat) (h1 : 88 ≤ p) (h2 : p ≤ 239) (h : SR G bw gf cs fr d (f :: r) x w) (hx : XB x) (hg : Good B d) (hf : AnyF f) (hml : f.ml ≤ 1000000) (hgas : f.gas < BIG) :
    Calls Sakg.prog 113 #[.pointer (some ⟨bw, 0, none⟩), .pointer (some ⟨gf, 60 * r.length, none⟩), .int .u8 p] w (RefR p f w) := by
  have hBB := big_ge
  have hP := p256_ge
  have hPB := p256_big2
  have hs := argN_lt hf.stk
  have hsl := hf.slen
  have hcl := hf.code
  have hfx := h.fx
  have hC : ∀ wz, Below w.heap.size w wz → Calls Sakg.prog 204 #[.pointer (some ⟨bw, 0, none⟩), .pointer (some ⟨gf, 60 * r.length, none⟩), .int .u8 p] wz (CostR2 p f.stk f.ml wz) := fun wz hz => (h.kept hz).cost hx hg hf hml p (by omega)
  obtain ⟨o, ho⟩ : ∃ o, o = 60 * r.length := ⟨_, rfl⟩
  rw [← ho] at hfx hC ⊢
  have HF := hide hfx
  have HS := hide hs
  have HC := hide hC
  have HW : ∀ wz, Below w.heap.size w wz → Hid (Calls Sakg.prog 203 #[.pointer (some ⟨gf, o, none⟩), .int .u8 p] wz fun e w' => (∃ b, e = .returned (.bool b)) ∧ Below wz.heap.size wz w') := fun wz hz => hide ((hfx.kept hz).writes hf p (by omega))
  obtain ⟨A8, l8, c8, g1, g2⟩ := hfx.kf.stk
  have hlen := g2.len
  have y8 : w.cell? ⟨gf, o + 8, none⟩ = some (.slice A8 l8 c8) := hfx.cell g1
  have y2 : w.cell? ⟨gf, o + 2, none⟩ = some (.bool f.static) := hfx.cell hfx.kf.static
  obtain ⟨A4, k4, c4, p1, p2⟩ := hfx.kf.gas
  have x4 : ∀ wz, Below w.heap.size w wz → wz.cell? ⟨gf, o + 4, none⟩ = some (.slice A4 k4 c4) ∧ IsNat wz A4 k4 c4 f.gas := fun wz hz => ⟨(hfx.kept hz).cell p1, (p2.kp (ChgS.of hz)).now⟩
  have X4 := hide x4
  obtain ⟨A0, k0, c0, q1, q2⟩ := hfx.kf.code
  have x10 : ∀ wz, Below w.heap.size w wz → wz.cell? ⟨gf, o + 10, none⟩ = some (.slice A0 k0 c0) ∧ Src wz A0 k0 c0 f.code := fun wz hz => ⟨(hfx.kept hz).cell q1, (q2.kp (ChgS.of hz)).now⟩
  have X10 := hide x10
  have hk0 := q2.now.len_eq
  obtain ⟨Ar, lr, cr, r1, r2⟩ := h.xs.ret
  have x3 : ∀ wz, Below w.heap.size w wz → wz.cell? ⟨bw, 10, none⟩ = some (.slice Ar lr cr) := fun wz hz => (h.cw.kept hz).cell r1
  have X3 := hide x3
  have hlr : lr ≤ 1000000 := by have := r2.now.len_eq; have := hx.ret; omega
  have HAR := hide (arity_any p (by omega) w)
  generalize hT : takA p = T at HAR
  generalize hV : givA p = V at HAR
  have HT := hide hT
  have HV := hide hV
  have hTl : T ≤ 17 := by rw [← hT]; exact takA_le _
  have hVl : V ≤ 17 := by rw [← hV]; exact givA_le _
  clear h hfx hx hg hs ho hC x4 x10 x3 g1 g2 p1 p2 q1 q2 r1 r2 hT hV
  by_cases hkn : famA p ≠ 0
  rotate_left
  · rw [decide_eq_false hkn] at HAR
    go_enter Sakg.func113, Sakg.ntmps113
    go_wp2_with (go_at_call 202; refine (unhide HAR).mono ?_; rintro e w1 ⟨rfl, rfl⟩)
    refine bodyPost_ret (results_tmp2 rfl _ _ _) rfl ?_
    exact RefR.no 5 (by omega) (by omega) _ _ _ (Below.refl _ _)
  rw [decide_eq_true hkn] at HAR
  have HKN := hide hkn
  clear hkn
  by_cases hun : l8 < T
  · have t1 : decide ((l8 : Int) < (T : Int)) = true := decide_eq_true (by omega)
    go_enter Sakg.func113, Sakg.ntmps113
    go_wp2_with (go_at_call 202; refine (unhide HAR).mono ?_; rintro e w1 ⟨rfl, rfl⟩)
    refine bodyPost_ret (results_tmp2 rfl _ _ _) rfl ?_
    exact RefR.no 3 (by omega) (by omega) _ _ _ (Below.refl _ _)
  have t1 : decide ((l8 : Int) < (T : Int)) = false := decide_eq_false (by omega)
  have t1n : decide (l8 < T) = false := decide_eq_false hun
  obtain ⟨q, hq⟩ : ∃ q, q = l8 - T := ⟨_, rfl⟩
  have eq1 : (l8 : Int) - (T : Int) = (q : Int) := by omega
  obtain ⟨q', hq'⟩ : ∃ q', q' = q + V := ⟨_, rfl⟩
  have eq2 : (q : Int) + (V : Int) = (q' : Int) := by omega
  have hqb : q ≤ 64 ∧ q' ≤ 100 := by omega
  have HQ := hide hq
  have HQ' := hide hq'
  have HUN := hide hun
  clear hq hq' hun
  by_cases hov : 64 < q'
  · have t2 : decide ((64 : Int) < (q' : Int)) = true := decide_eq_true (by omega)
    go_enter Sakg.func113, Sakg.ntmps113
    go_wp2_with (go_at_call 202; refine (unhide HAR).mono ?_; rintro e w1 ⟨rfl, rfl⟩)
    refine bodyPost_ret (results_tmp2 rfl _ _ _) rfl ?_
    exact RefR.no 4 (by omega) (by omega) _ _ _ (Below.refl _ _)
  have t2 : decide ((64 : Int) < (q' : Int)) = false := decide_eq_false (by omega)
  have t2n : decide (64 < q') = false := decide_eq_false hov
  have z62 : ((p : Int) == 62) = false := by rw [beq_eq_false_iff_ne]; omega
  have z85 : ((p : Int) == 85) = false := by rw [beq_eq_false_iff_ne]; omega
  have z86 : ((p : Int) == 86) = false := by rw [beq_eq_false_iff_ne]; omega
  have z87 : ((p : Int) == 87) = false := by rw [beq_eq_false_iff_ne]; omega
  have z240 : ((p : Int) == 240) = false := by rw [beq_eq_false_iff_ne]; omega
  have z245 : ((p : Int) == 245) = false := by rw [beq_eq_false_iff_ne]; omega
  go_enter Sakg.func113, Sakg.ntmps113
  go_upto_region 8 with (go_at_call 202; refine (unhide HAR).mono ?_; rintro e w1 ⟨rfl, rfl⟩)
  go_cut [39] (fun s39 wc => (∃ b, s39 = .bool b) ∧ Below w.heap.size w wc)
  case first =>
    generalize f.static = sb at y2
    cases sb
    · go_wp2_with fail
      go_meet
      case rel => exact ⟨⟨_, rfl⟩, Below.refl _ _⟩
    · go_wp2_with (go_at_call 203; refine (unhide (HW w (Below.refl _ _))).mono ?_; rintro e w2 ⟨⟨bb, rfl⟩, b2⟩)
      go_meet
      case rel => exact ⟨⟨_, rfl⟩, b2⟩
  case rest =>
  obtain ⟨w2, hw2⟩ : ∃ w2, w2 = wc := ⟨_, rfl⟩
  subst hw2
  obtain ⟨⟨sw, rfl⟩, d2⟩ := hcut
  clear y8 y2 HAR HW
  cases sw
  rotate_left
  · go_wp2
    refine bodyPost_ret (results_tmp2 rfl _ _ _) rfl ?_
    exact RefR.no 7 (by omega) (by omega) _ _ _ d2
  go_upto_region 12 with fail
  go_quiet (fail)
  have dq : Below w.heap.size w (w2.drewN nq) := d2.thn (Quiet.below ⟨nq, rfl⟩ _)
  generalize w2.drewN nq = wq0 at dq ⊢
  go_wp2_with fail
  refine (unhide HC _ dq).mono ?_
  rintro e w8 ⟨Ac, kc, cc, nc, rfl, mc, Nc, hcb, hpaid, b8⟩
  have d8 : Below w.heap.size w w8 := dq.thn b8
  have NNc := hide mc
  have HPAID := hide hpaid
  have y4 := (unhide X4 w8 d8).1
  have HCM := hide (mc.cmp (unhide X4 w8 d8).2 hcb hgas)
  have hcg := cmp_gt nc f.gas
  generalize cmpI nc f.gas = cg at HCM hcg
  have NWc : New w Ac := Nc.later dq.size
  clear mc hpaid
  go_wp2_with fail
  refine (unhide HCM).mono ?_
  rintro e w9 ⟨rfl, q9⟩
  have b9 : Below w8.heap.size w8 w9 := q9.below _
  have d9 : Below w.heap.size w w9 := d8.thn b9
  clear q9 y4
  by_cases hog : f.gas < nc
  · rw [decide_eq_true hog] at hcg
    go_wp2
    refine bodyPost_ret (results_tmp2 rfl _ _ _) rfl ?_
    exact RefR.no 2 (by omega) (by omega) _ _ _ d9
  rw [decide_eq_false hog] at hcg
  have hfit : Fit p f nc := ⟨unhide HKN, by rw [unhide HT, hlen]; have := unhide HUN; omega, by rw [unhide HT, unhide HV, hlen]; have h1 := unhide HQ; have h2 := unhide HQ'; omega, fun hh => by omega, by omega, unhide HPAID⟩
  have HFIT := hide hfit
  clear hfit hog
  go_upto_region 17 with fail
  go_quiet (fail)
  have bq1 : Below w8.heap.size w8 (w9.drewN nq) := b9.thn (Quiet.below ⟨nq, rfl⟩ _)
  generalize w9.drewN nq = wq1 at bq1 ⊢
  go_upto_region 19 with fail
  go_quiet (fail)
  have bq2 : Below w8.heap.size w8 (wq1.drewN nq) := bq1.thn (Quiet.below ⟨nq, rfl⟩ _)
  generalize wq1.drewN nq = wq2 at bq2 ⊢
  go_upto_region 21 with fail
  go_quiet (fail)
  have bq3 : Below w8.heap.size w8 (wq2.drewN nq) := bq2.thn (Quiet.below ⟨nq, rfl⟩ _)
  generalize wq2.drewN nq = wq3 at bq3 ⊢
  go_wp2
  refine bodyPost_ret (results_tmp2 rfl _ _ _) rfl ?_
  exact ⟨0, Ac, kc, cc, rfl, by omega, fun _ => ⟨nc, (unhide NNc).kept bq3, NWc, unhide HFIT⟩, d8.thn bq3⟩
set_option maxHeartbeats 16000000 in
theorem refuse_240 (h : SR G bw gf cs fr d (f :: r) x w) (hx : XB x) (hg : Good B d) (hf : AnyF f) (hml : f.ml ≤ 1000000) (hgas : f.gas < BIG) :
    Calls Sakg.prog 113 #[.pointer (some ⟨bw, 0, none⟩), .pointer (some ⟨gf, 60 * r.length, none⟩), .int .u8 240] w (RefR 240 f w) := by
  have hBB := big_ge
  have hP := p256_ge
  have hPB := p256_big2
  have hs := argN_lt hf.stk
  have hsl := hf.slen
  have hcl := hf.code
  have hfx := h.fx
  have hC : ∀ wz, Below w.heap.size w wz → Calls Sakg.prog 204 #[.pointer (some ⟨bw, 0, none⟩), .pointer (some ⟨gf, 60 * r.length, none⟩), .int .u8 240] wz (CostR2 240 f.stk f.ml wz) := fun wz hz => (h.kept hz).cost hx hg hf hml 240 (by omega)
  obtain ⟨o, ho⟩ : ∃ o, o = 60 * r.length := ⟨_, rfl⟩
  rw [← ho] at hfx hC ⊢
  have HF := hide hfx
  have HS := hide hs
  have HC := hide hC
  have HW : ∀ wz, Below w.heap.size w wz → Hid (Calls Sakg.prog 203 #[.pointer (some ⟨gf, o, none⟩), .int .u8 240] wz fun e w' => (∃ b, e = .returned (.bool b)) ∧ Below wz.heap.size wz w') := fun wz hz => hide ((hfx.kept hz).writes hf 240 (by omega))
  obtain ⟨A8, l8, c8, g1, g2⟩ := hfx.kf.stk
  have hlen := g2.len
  have y8 : w.cell? ⟨gf, o + 8, none⟩ = some (.slice A8 l8 c8) := hfx.cell g1
  have y2 : w.cell? ⟨gf, o + 2, none⟩ = some (.bool f.static) := hfx.cell hfx.kf.static
  obtain ⟨A4, k4, c4, p1, p2⟩ := hfx.kf.gas
  have x4 : ∀ wz, Below w.heap.size w wz → wz.cell? ⟨gf, o + 4, none⟩ = some (.slice A4 k4 c4) ∧ IsNat wz A4 k4 c4 f.gas := fun wz hz => ⟨(hfx.kept hz).cell p1, (p2.kp (ChgS.of hz)).now⟩
  have X4 := hide x4
  obtain ⟨A0, k0, c0, q1, q2⟩ := hfx.kf.code
  have x10 : ∀ wz, Below w.heap.size w wz → wz.cell? ⟨gf, o + 10, none⟩ = some (.slice A0 k0 c0) ∧ Src wz A0 k0 c0 f.code := fun wz hz => ⟨(hfx.kept hz).cell q1, (q2.kp (ChgS.of hz)).now⟩
  have X10 := hide x10
  have hk0 := q2.now.len_eq
  obtain ⟨Ar, lr, cr, r1, r2⟩ := h.xs.ret
  have x3 : ∀ wz, Below w.heap.size w wz → wz.cell? ⟨bw, 10, none⟩ = some (.slice Ar lr cr) := fun wz hz => (h.cw.kept hz).cell r1
  have X3 := hide x3
  have hlr : lr ≤ 1000000 := by have := r2.now.len_eq; have := hx.ret; omega
  have HAR := hide (arity_any 240 (by omega) w)
  generalize hT : takA 240 = T at HAR
  generalize hV : givA 240 = V at HAR
  have HT := hide hT
  have HV := hide hV
  have hTl : T ≤ 17 := by rw [← hT]; exact takA_le _
  have hVl : V ≤ 17 := by rw [← hV]; exact givA_le _
  clear h hfx hx hg hs ho hC x4 x10 x3 g1 g2 p1 p2 q1 q2 r1 r2 hT hV
  by_cases hkn : famA 240 ≠ 0
  rotate_left
  · rw [decide_eq_false hkn] at HAR
    go_enter Sakg.func113, Sakg.ntmps113
    go_wp2_with (go_at_call 202; refine (unhide HAR).mono ?_; rintro e w1 ⟨rfl, rfl⟩)
    refine bodyPost_ret (results_tmp2 rfl _ _ _) rfl ?_
    exact RefR.no 5 (by omega) (by omega) _ _ _ (Below.refl _ _)
  rw [decide_eq_true hkn] at HAR
  have HKN := hide hkn
  clear hkn
  by_cases hun : l8 < T
  · have t1 : decide ((l8 : Int) < (T : Int)) = true := decide_eq_true (by omega)
    go_enter Sakg.func113, Sakg.ntmps113
    go_wp2_with (go_at_call 202; refine (unhide HAR).mono ?_; rintro e w1 ⟨rfl, rfl⟩)
    refine bodyPost_ret (results_tmp2 rfl _ _ _) rfl ?_
    exact RefR.no 3 (by omega) (by omega) _ _ _ (Below.refl _ _)
  have t1 : decide ((l8 : Int) < (T : Int)) = false := decide_eq_false (by omega)
  have t1n : decide (l8 < T) = false := decide_eq_false hun
  obtain ⟨q, hq⟩ : ∃ q, q = l8 - T := ⟨_, rfl⟩
  have eq1 : (l8 : Int) - (T : Int) = (q : Int) := by omega
  obtain ⟨q', hq'⟩ : ∃ q', q' = q + V := ⟨_, rfl⟩
  have eq2 : (q : Int) + (V : Int) = (q' : Int) := by omega
  have hqb : q ≤ 64 ∧ q' ≤ 100 := by omega
  have HQ := hide hq
  have HQ' := hide hq'
  have HUN := hide hun
  clear hq hq' hun
  by_cases hov : 64 < q'
  · have t2 : decide ((64 : Int) < (q' : Int)) = true := decide_eq_true (by omega)
    go_enter Sakg.func113, Sakg.ntmps113
    go_wp2_with (go_at_call 202; refine (unhide HAR).mono ?_; rintro e w1 ⟨rfl, rfl⟩)
    refine bodyPost_ret (results_tmp2 rfl _ _ _) rfl ?_
    exact RefR.no 4 (by omega) (by omega) _ _ _ (Below.refl _ _)
  have t2 : decide ((64 : Int) < (q' : Int)) = false := decide_eq_false (by omega)
  have t2n : decide (64 < q') = false := decide_eq_false hov
  go_enter Sakg.func113, Sakg.ntmps113
  go_upto_region 8 with (go_at_call 202; refine (unhide HAR).mono ?_; rintro e w1 ⟨rfl, rfl⟩)
  go_cut [39] (fun s39 wc => (∃ b, s39 = .bool b) ∧ Below w.heap.size w wc)
  case first =>
    generalize f.static = sb at y2
    cases sb
    · go_wp2_with fail
      go_meet
      case rel => exact ⟨⟨_, rfl⟩, Below.refl _ _⟩
    · go_wp2_with (go_at_call 203; refine (unhide (HW w (Below.refl _ _))).mono ?_; rintro e w2 ⟨⟨bb, rfl⟩, b2⟩)
      go_meet
      case rel => exact ⟨⟨_, rfl⟩, b2⟩
  case rest =>
  obtain ⟨w2, hw2⟩ : ∃ w2, w2 = wc := ⟨_, rfl⟩
  subst hw2
  obtain ⟨⟨sw, rfl⟩, d2⟩ := hcut
  clear y8 y2 HAR HW
  cases sw
  rotate_left
  · go_wp2
    refine bodyPost_ret (results_tmp2 rfl _ _ _) rfl ?_
    exact RefR.no 7 (by omega) (by omega) _ _ _ d2
  obtain ⟨wi0, hwi0⟩ : ∃ wi0, wi0 = w2 := ⟨_, rfl⟩
  subst hwi0
  have HA := hide (((unhide HF).kept d2).arg (by omega) 2 (by omega))
  have ha2 := unhide HS 2
  generalize ha2e : argN f.stk 2 = a2 at HA ha2
  have HA2 := hide ha2e
  clear ha2e
  go_wp2_with fail
  refine (unhide HA).mono ?_
  rintro e w3 ⟨⟨A3, k3, c3, rfl, s3⟩, q3⟩
  have b3 : Below wi0.heap.size wi0 w3 := q3.below _
  have KK3 := hide (s3.kp (ChgS.of b3))
  have HN := hide (num_any 512 w3 (by omega))
  clear s3 q3
  go_wp2_with fail
  refine (unhide HN).mono ?_
  rintro e w4 ⟨A5, k5, c5, rfl, n5, N5, b4⟩
  have HCM := hide (((unhide KK3).kp (ChgS.of b4)).now.cmp n5 (by omega) (by omega))
  have hcg := cmp_gt a2 512
  generalize cmpI a2 512 = ci at HCM hcg
  clear n5
  go_wp2_with fail
  refine (unhide HCM).mono ?_
  rintro e w5 ⟨rfl, q5⟩
  have d5 : Below w.heap.size w w5 := d2.thn (b3.thn (b4.thn (q5.below _)))
  clear q5
  by_cases hbig : 512 < a2
  · rw [decide_eq_true hbig] at hcg
    go_wp2
    refine bodyPost_ret (results_tmp2 rfl _ _ _) rfl ?_
    exact RefR.no 9 (by omega) (by omega) _ _ _ d5
  rw [decide_eq_false hbig] at hcg
  have HBIG : Hid (argN f.stk 2 ≤ 512) := hide (by rw [unhide HA2]; omega)
  clear hbig
  go_upto_region 12 with fail
  go_quiet (fail)
  have dq : Below w.heap.size w (w5.drewN nq) := d5.thn (Quiet.below ⟨nq, rfl⟩ _)
  generalize w5.drewN nq = wq0 at dq ⊢
  go_wp2_with fail
  refine (unhide HC _ dq).mono ?_
  rintro e w8 ⟨Ac, kc, cc, nc, rfl, mc, Nc, hcb, hpaid, b8⟩
  have d8 : Below w.heap.size w w8 := dq.thn b8
  have NNc := hide mc
  have HPAID := hide hpaid
  have y4 := (unhide X4 w8 d8).1
  have HCM := hide (mc.cmp (unhide X4 w8 d8).2 hcb hgas)
  have hcg := cmp_gt nc f.gas
  generalize cmpI nc f.gas = cg at HCM hcg
  have NWc : New w Ac := Nc.later dq.size
  clear mc hpaid
  go_wp2_with fail
  refine (unhide HCM).mono ?_
  rintro e w9 ⟨rfl, q9⟩
  have b9 : Below w8.heap.size w8 w9 := q9.below _
  have d9 : Below w.heap.size w w9 := d8.thn b9
  clear q9 y4
  by_cases hog : f.gas < nc
  · rw [decide_eq_true hog] at hcg
    go_wp2
    refine bodyPost_ret (results_tmp2 rfl _ _ _) rfl ?_
    exact RefR.no 2 (by omega) (by omega) _ _ _ d9
  rw [decide_eq_false hog] at hcg
  have hfit : Fit 240 f nc := ⟨unhide HKN, by rw [unhide HT, hlen]; have := unhide HUN; omega, by rw [unhide HT, unhide HV, hlen]; have h1 := unhide HQ; have h2 := unhide HQ'; omega, fun _ => unhide HBIG, by omega, unhide HPAID⟩
  have HFIT := hide hfit
  clear hfit hog
  go_upto_region 17 with fail
  go_quiet (fail)
  have bq1 : Below w8.heap.size w8 (w9.drewN nq) := b9.thn (Quiet.below ⟨nq, rfl⟩ _)
  generalize w9.drewN nq = wq1 at bq1 ⊢
  go_upto_region 19 with fail
  go_quiet (fail)
  have bq2 : Below w8.heap.size w8 (wq1.drewN nq) := bq1.thn (Quiet.below ⟨nq, rfl⟩ _)
  generalize wq1.drewN nq = wq2 at bq2 ⊢
  go_upto_region 21 with fail
  go_quiet (fail)
  have bq3 : Below w8.heap.size w8 (wq2.drewN nq) := bq2.thn (Quiet.below ⟨nq, rfl⟩ _)
  generalize wq2.drewN nq = wq3 at bq3 ⊢
  go_wp2
  refine bodyPost_ret (results_tmp2 rfl _ _ _) rfl ?_
  exact ⟨0, Ac, kc, cc, rfl, by omega, fun _ => ⟨nc, (unhide NNc).kept bq3, NWc, unhide HFIT⟩, d8.thn bq3⟩
set_option maxHeartbeats 16000000 in
theorem refuse_241 (p : Nat) (h1 : 241 ≤ p) (h2 : p ≤ 244) (h : SR G bw gf cs fr d (f :: r) x w) (hx : XB x) (hg : Good B d) (hf : AnyF f) (hml : f.ml ≤ 1000000) (hgas : f.gas < BIG) :
    Calls Sakg.prog 113 #[.pointer (some ⟨bw, 0, none⟩), .pointer (some ⟨gf, 60 * r.length, none⟩), .int .u8 p] w (RefR p f w) := by
  have hBB := big_ge
  have hP := p256_ge
  have hPB := p256_big2
  have hs := argN_lt hf.stk
  have hsl := hf.slen
  have hcl := hf.code
  have hfx := h.fx
  have hC : ∀ wz, Below w.heap.size w wz → Calls Sakg.prog 204 #[.pointer (some ⟨bw, 0, none⟩), .pointer (some ⟨gf, 60 * r.length, none⟩), .int .u8 p] wz (CostR2 p f.stk f.ml wz) := fun wz hz => (h.kept hz).cost hx hg hf hml p (by omega)
  obtain ⟨o, ho⟩ : ∃ o, o = 60 * r.length := ⟨_, rfl⟩
  rw [← ho] at hfx hC ⊢
  have HF := hide hfx
  have HS := hide hs
  have HC := hide hC
  have HW : ∀ wz, Below w.heap.size w wz → Hid (Calls Sakg.prog 203 #[.pointer (some ⟨gf, o, none⟩), .int .u8 p] wz fun e w' => (∃ b, e = .returned (.bool b)) ∧ Below wz.heap.size wz w') := fun wz hz => hide ((hfx.kept hz).writes hf p (by omega))
  obtain ⟨A8, l8, c8, g1, g2⟩ := hfx.kf.stk
  have hlen := g2.len
  have y8 : w.cell? ⟨gf, o + 8, none⟩ = some (.slice A8 l8 c8) := hfx.cell g1
  have y2 : w.cell? ⟨gf, o + 2, none⟩ = some (.bool f.static) := hfx.cell hfx.kf.static
  obtain ⟨A4, k4, c4, p1, p2⟩ := hfx.kf.gas
  have x4 : ∀ wz, Below w.heap.size w wz → wz.cell? ⟨gf, o + 4, none⟩ = some (.slice A4 k4 c4) ∧ IsNat wz A4 k4 c4 f.gas := fun wz hz => ⟨(hfx.kept hz).cell p1, (p2.kp (ChgS.of hz)).now⟩
  have X4 := hide x4
  obtain ⟨A0, k0, c0, q1, q2⟩ := hfx.kf.code
  have x10 : ∀ wz, Below w.heap.size w wz → wz.cell? ⟨gf, o + 10, none⟩ = some (.slice A0 k0 c0) ∧ Src wz A0 k0 c0 f.code := fun wz hz => ⟨(hfx.kept hz).cell q1, (q2.kp (ChgS.of hz)).now⟩
  have X10 := hide x10
  have hk0 := q2.now.len_eq
  obtain ⟨Ar, lr, cr, r1, r2⟩ := h.xs.ret
  have x3 : ∀ wz, Below w.heap.size w wz → wz.cell? ⟨bw, 10, none⟩ = some (.slice Ar lr cr) := fun wz hz => (h.cw.kept hz).cell r1
  have X3 := hide x3
  have hlr : lr ≤ 1000000 := by have := r2.now.len_eq; have := hx.ret; omega
  have HAR := hide (arity_any p (by omega) w)
  generalize hT : takA p = T at HAR
  generalize hV : givA p = V at HAR
  have HT := hide hT
  have HV := hide hV
  have hTl : T ≤ 17 := by rw [← hT]; exact takA_le _
  have hVl : V ≤ 17 := by rw [← hV]; exact givA_le _
  clear h hfx hx hg hs ho hC x4 x10 x3 g1 g2 p1 p2 q1 q2 r1 r2 hT hV
  by_cases hkn : famA p ≠ 0
  rotate_left
  · rw [decide_eq_false hkn] at HAR
    go_enter Sakg.func113, Sakg.ntmps113
    go_wp2_with (go_at_call 202; refine (unhide HAR).mono ?_; rintro e w1 ⟨rfl, rfl⟩)
    refine bodyPost_ret (results_tmp2 rfl _ _ _) rfl ?_
    exact RefR.no 5 (by omega) (by omega) _ _ _ (Below.refl _ _)
  rw [decide_eq_true hkn] at HAR
  have HKN := hide hkn
  clear hkn
  by_cases hun : l8 < T
  · have t1 : decide ((l8 : Int) < (T : Int)) = true := decide_eq_true (by omega)
    go_enter Sakg.func113, Sakg.ntmps113
    go_wp2_with (go_at_call 202; refine (unhide HAR).mono ?_; rintro e w1 ⟨rfl, rfl⟩)
    refine bodyPost_ret (results_tmp2 rfl _ _ _) rfl ?_
    exact RefR.no 3 (by omega) (by omega) _ _ _ (Below.refl _ _)
  have t1 : decide ((l8 : Int) < (T : Int)) = false := decide_eq_false (by omega)
  have t1n : decide (l8 < T) = false := decide_eq_false hun
  obtain ⟨q, hq⟩ : ∃ q, q = l8 - T := ⟨_, rfl⟩
  have eq1 : (l8 : Int) - (T : Int) = (q : Int) := by omega
  obtain ⟨q', hq'⟩ : ∃ q', q' = q + V := ⟨_, rfl⟩
  have eq2 : (q : Int) + (V : Int) = (q' : Int) := by omega
  have hqb : q ≤ 64 ∧ q' ≤ 100 := by omega
  have HQ := hide hq
  have HQ' := hide hq'
  have HUN := hide hun
  clear hq hq' hun
  by_cases hov : 64 < q'
  · have t2 : decide ((64 : Int) < (q' : Int)) = true := decide_eq_true (by omega)
    go_enter Sakg.func113, Sakg.ntmps113
    go_wp2_with (go_at_call 202; refine (unhide HAR).mono ?_; rintro e w1 ⟨rfl, rfl⟩)
    refine bodyPost_ret (results_tmp2 rfl _ _ _) rfl ?_
    exact RefR.no 4 (by omega) (by omega) _ _ _ (Below.refl _ _)
  have t2 : decide ((64 : Int) < (q' : Int)) = false := decide_eq_false (by omega)
  have t2n : decide (64 < q') = false := decide_eq_false hov
  have z62 : ((p : Int) == 62) = false := by rw [beq_eq_false_iff_ne]; omega
  have z85 : ((p : Int) == 85) = false := by rw [beq_eq_false_iff_ne]; omega
  have z86 : ((p : Int) == 86) = false := by rw [beq_eq_false_iff_ne]; omega
  have z87 : ((p : Int) == 87) = false := by rw [beq_eq_false_iff_ne]; omega
  have z240 : ((p : Int) == 240) = false := by rw [beq_eq_false_iff_ne]; omega
  have z245 : ((p : Int) == 245) = false := by rw [beq_eq_false_iff_ne]; omega
  go_enter Sakg.func113, Sakg.ntmps113
  go_upto_region 8 with (go_at_call 202; refine (unhide HAR).mono ?_; rintro e w1 ⟨rfl, rfl⟩)
  go_cut [39] (fun s39 wc => (∃ b, s39 = .bool b) ∧ Below w.heap.size w wc)
  case first =>
    generalize f.static = sb at y2
    cases sb
    · go_wp2_with fail
      go_meet
      case rel => exact ⟨⟨_, rfl⟩, Below.refl _ _⟩
    · go_wp2_with (go_at_call 203; refine (unhide (HW w (Below.refl _ _))).mono ?_; rintro e w2 ⟨⟨bb, rfl⟩, b2⟩)
      go_meet
      case rel => exact ⟨⟨_, rfl⟩, b2⟩
  case rest =>
  obtain ⟨w2, hw2⟩ : ∃ w2, w2 = wc := ⟨_, rfl⟩
  subst hw2
  obtain ⟨⟨sw, rfl⟩, d2⟩ := hcut
  clear y8 y2 HAR HW
  cases sw
  rotate_left
  · go_wp2
    refine bodyPost_ret (results_tmp2 rfl _ _ _) rfl ?_
    exact RefR.no 7 (by omega) (by omega) _ _ _ d2
  go_upto_region 12 with fail
  go_quiet (fail)
  have dq : Below w.heap.size w (w2.drewN nq) := d2.thn (Quiet.below ⟨nq, rfl⟩ _)
  generalize w2.drewN nq = wq0 at dq ⊢
  go_wp2_with fail
  refine (unhide HC _ dq).mono ?_
  rintro e w8 ⟨Ac, kc, cc, nc, rfl, mc, Nc, hcb, hpaid, b8⟩
  have d8 : Below w.heap.size w w8 := dq.thn b8
  have NNc := hide mc
  have HPAID := hide hpaid
  have y4 := (unhide X4 w8 d8).1
  have HCM := hide (mc.cmp (unhide X4 w8 d8).2 hcb hgas)
  have hcg := cmp_gt nc f.gas
  generalize cmpI nc f.gas = cg at HCM hcg
  have NWc : New w Ac := Nc.later dq.size
  clear mc hpaid
  go_wp2_with fail
  refine (unhide HCM).mono ?_
  rintro e w9 ⟨rfl, q9⟩
  have b9 : Below w8.heap.size w8 w9 := q9.below _
  have d9 : Below w.heap.size w w9 := d8.thn b9
  clear q9 y4
  by_cases hog : f.gas < nc
  · rw [decide_eq_true hog] at hcg
    go_wp2
    refine bodyPost_ret (results_tmp2 rfl _ _ _) rfl ?_
    exact RefR.no 2 (by omega) (by omega) _ _ _ d9
  rw [decide_eq_false hog] at hcg
  have hfit : Fit p f nc := ⟨unhide HKN, by rw [unhide HT, hlen]; have := unhide HUN; omega, by rw [unhide HT, unhide HV, hlen]; have h1 := unhide HQ; have h2 := unhide HQ'; omega, fun hh => by omega, by omega, unhide HPAID⟩
  have HFIT := hide hfit
  clear hfit hog
  go_upto_region 17 with fail
  go_quiet (fail)
  have bq1 : Below w8.heap.size w8 (w9.drewN nq) := b9.thn (Quiet.below ⟨nq, rfl⟩ _)
  generalize w9.drewN nq = wq1 at bq1 ⊢
  go_upto_region 19 with fail
  go_quiet (fail)
  have bq2 : Below w8.heap.size w8 (wq1.drewN nq) := bq1.thn (Quiet.below ⟨nq, rfl⟩ _)
  generalize wq1.drewN nq = wq2 at bq2 ⊢
  go_upto_region 21 with fail
  go_quiet (fail)
  have bq3 : Below w8.heap.size w8 (wq2.drewN nq) := bq2.thn (Quiet.below ⟨nq, rfl⟩ _)
  generalize wq2.drewN nq = wq3 at bq3 ⊢
  go_wp2
  refine bodyPost_ret (results_tmp2 rfl _ _ _) rfl ?_
  exact ⟨0, Ac, kc, cc, rfl, by omega, fun _ => ⟨nc, (unhide NNc).kept bq3, NWc, unhide HFIT⟩, d8.thn bq3⟩
set_option maxHeartbeats 16000000 in
theorem refuse_245 (h : SR G bw gf cs fr d (f :: r) x w) (hx : XB x) (hg : Good B d) (hf : AnyF f) (hml : f.ml ≤ 1000000) (hgas : f.gas < BIG) :
    Calls Sakg.prog 113 #[.pointer (some ⟨bw, 0, none⟩), .pointer (some ⟨gf, 60 * r.length, none⟩), .int .u8 245] w (RefR 245 f w) := by
  have hBB := big_ge
  have hP := p256_ge
  have hPB := p256_big2
  have hs := argN_lt hf.stk
  have hsl := hf.slen
  have hcl := hf.code
  have hfx := h.fx
  have hC : ∀ wz, Below w.heap.size w wz → Calls Sakg.prog 204 #[.pointer (some ⟨bw, 0, none⟩), .pointer (some ⟨gf, 60 * r.length, none⟩), .int .u8 245] wz (CostR2 245 f.stk f.ml wz) := fun wz hz => (h.kept hz).cost hx hg hf hml 245 (by omega)
  obtain ⟨o, ho⟩ : ∃ o, o = 60 * r.length := ⟨_, rfl⟩
  rw [← ho] at hfx hC ⊢
  have HF := hide hfx
  have HS := hide hs
  have HC := hide hC
  have HW : ∀ wz, Below w.heap.size w wz → Hid (Calls Sakg.prog 203 #[.pointer (some ⟨gf, o, none⟩), .int .u8 245] wz fun e w' => (∃ b, e = .returned (.bool b)) ∧ Below wz.heap.size wz w') := fun wz hz => hide ((hfx.kept hz).writes hf 245 (by omega))
  obtain ⟨A8, l8, c8, g1, g2⟩ := hfx.kf.stk
  have hlen := g2.len
  have y8 : w.cell? ⟨gf, o + 8, none⟩ = some (.slice A8 l8 c8) := hfx.cell g1
  have y2 : w.cell? ⟨gf, o + 2, none⟩ = some (.bool f.static) := hfx.cell hfx.kf.static
  obtain ⟨A4, k4, c4, p1, p2⟩ := hfx.kf.gas
  have x4 : ∀ wz, Below w.heap.size w wz → wz.cell? ⟨gf, o + 4, none⟩ = some (.slice A4 k4 c4) ∧ IsNat wz A4 k4 c4 f.gas := fun wz hz => ⟨(hfx.kept hz).cell p1, (p2.kp (ChgS.of hz)).now⟩
  have X4 := hide x4
  obtain ⟨A0, k0, c0, q1, q2⟩ := hfx.kf.code
  have x10 : ∀ wz, Below w.heap.size w wz → wz.cell? ⟨gf, o + 10, none⟩ = some (.slice A0 k0 c0) ∧ Src wz A0 k0 c0 f.code := fun wz hz => ⟨(hfx.kept hz).cell q1, (q2.kp (ChgS.of hz)).now⟩
  have X10 := hide x10
  have hk0 := q2.now.len_eq
  obtain ⟨Ar, lr, cr, r1, r2⟩ := h.xs.ret
  have x3 : ∀ wz, Below w.heap.size w wz → wz.cell? ⟨bw, 10, none⟩ = some (.slice Ar lr cr) := fun wz hz => (h.cw.kept hz).cell r1
  have X3 := hide x3
  have hlr : lr ≤ 1000000 := by have := r2.now.len_eq; have := hx.ret; omega
  have HAR := hide (arity_any 245 (by omega) w)
  generalize hT : takA 245 = T at HAR
  generalize hV : givA 245 = V at HAR
  have HT := hide hT
  have HV := hide hV
  have hTl : T ≤ 17 := by rw [← hT]; exact takA_le _
  have hVl : V ≤ 17 := by rw [← hV]; exact givA_le _
  clear h hfx hx hg hs ho hC x4 x10 x3 g1 g2 p1 p2 q1 q2 r1 r2 hT hV
  by_cases hkn : famA 245 ≠ 0
  rotate_left
  · rw [decide_eq_false hkn] at HAR
    go_enter Sakg.func113, Sakg.ntmps113
    go_wp2_with (go_at_call 202; refine (unhide HAR).mono ?_; rintro e w1 ⟨rfl, rfl⟩)
    refine bodyPost_ret (results_tmp2 rfl _ _ _) rfl ?_
    exact RefR.no 5 (by omega) (by omega) _ _ _ (Below.refl _ _)
  rw [decide_eq_true hkn] at HAR
  have HKN := hide hkn
  clear hkn
  by_cases hun : l8 < T
  · have t1 : decide ((l8 : Int) < (T : Int)) = true := decide_eq_true (by omega)
    go_enter Sakg.func113, Sakg.ntmps113
    go_wp2_with (go_at_call 202; refine (unhide HAR).mono ?_; rintro e w1 ⟨rfl, rfl⟩)
    refine bodyPost_ret (results_tmp2 rfl _ _ _) rfl ?_
    exact RefR.no 3 (by omega) (by omega) _ _ _ (Below.refl _ _)
  have t1 : decide ((l8 : Int) < (T : Int)) = false := decide_eq_false (by omega)
  have t1n : decide (l8 < T) = false := decide_eq_false hun
  obtain ⟨q, hq⟩ : ∃ q, q = l8 - T := ⟨_, rfl⟩
  have eq1 : (l8 : Int) - (T : Int) = (q : Int) := by omega
  obtain ⟨q', hq'⟩ : ∃ q', q' = q + V := ⟨_, rfl⟩
  have eq2 : (q : Int) + (V : Int) = (q' : Int) := by omega
  have hqb : q ≤ 64 ∧ q' ≤ 100 := by omega
  have HQ := hide hq
  have HQ' := hide hq'
  have HUN := hide hun
  clear hq hq' hun
  by_cases hov : 64 < q'
  · have t2 : decide ((64 : Int) < (q' : Int)) = true := decide_eq_true (by omega)
    go_enter Sakg.func113, Sakg.ntmps113
    go_wp2_with (go_at_call 202; refine (unhide HAR).mono ?_; rintro e w1 ⟨rfl, rfl⟩)
    refine bodyPost_ret (results_tmp2 rfl _ _ _) rfl ?_
    exact RefR.no 4 (by omega) (by omega) _ _ _ (Below.refl _ _)
  have t2 : decide ((64 : Int) < (q' : Int)) = false := decide_eq_false (by omega)
  have t2n : decide (64 < q') = false := decide_eq_false hov
  go_enter Sakg.func113, Sakg.ntmps113
  go_upto_region 8 with (go_at_call 202; refine (unhide HAR).mono ?_; rintro e w1 ⟨rfl, rfl⟩)
  go_cut [39] (fun s39 wc => (∃ b, s39 = .bool b) ∧ Below w.heap.size w wc)
  case first =>
    generalize f.static = sb at y2
    cases sb
    · go_wp2_with fail
      go_meet
      case rel => exact ⟨⟨_, rfl⟩, Below.refl _ _⟩
    · go_wp2_with (go_at_call 203; refine (unhide (HW w (Below.refl _ _))).mono ?_; rintro e w2 ⟨⟨bb, rfl⟩, b2⟩)
      go_meet
      case rel => exact ⟨⟨_, rfl⟩, b2⟩
  case rest =>
  obtain ⟨w2, hw2⟩ : ∃ w2, w2 = wc := ⟨_, rfl⟩
  subst hw2
  obtain ⟨⟨sw, rfl⟩, d2⟩ := hcut
  clear y8 y2 HAR HW
  cases sw
  rotate_left
  · go_wp2
    refine bodyPost_ret (results_tmp2 rfl _ _ _) rfl ?_
    exact RefR.no 7 (by omega) (by omega) _ _ _ d2
  obtain ⟨wi0, hwi0⟩ : ∃ wi0, wi0 = w2 := ⟨_, rfl⟩
  subst hwi0
  have HA := hide (((unhide HF).kept d2).arg (by omega) 2 (by omega))
  have ha2 := unhide HS 2
  generalize ha2e : argN f.stk 2 = a2 at HA ha2
  have HA2 := hide ha2e
  clear ha2e
  go_wp2_with fail
  refine (unhide HA).mono ?_
  rintro e w3 ⟨⟨A3, k3, c3, rfl, s3⟩, q3⟩
  have b3 : Below wi0.heap.size wi0 w3 := q3.below _
  have KK3 := hide (s3.kp (ChgS.of b3))
  have HN := hide (num_any 512 w3 (by omega))
  clear s3 q3
  go_wp2_with fail
  refine (unhide HN).mono ?_
  rintro e w4 ⟨A5, k5, c5, rfl, n5, N5, b4⟩
  have HCM := hide (((unhide KK3).kp (ChgS.of b4)).now.cmp n5 (by omega) (by omega))
  have hcg := cmp_gt a2 512
  generalize cmpI a2 512 = ci at HCM hcg
  clear n5
  go_wp2_with fail
  refine (unhide HCM).mono ?_
  rintro e w5 ⟨rfl, q5⟩
  have d5 : Below w.heap.size w w5 := d2.thn (b3.thn (b4.thn (q5.below _)))
  clear q5
  by_cases hbig : 512 < a2
  · rw [decide_eq_true hbig] at hcg
    go_wp2
    refine bodyPost_ret (results_tmp2 rfl _ _ _) rfl ?_
    exact RefR.no 9 (by omega) (by omega) _ _ _ d5
  rw [decide_eq_false hbig] at hcg
  have HBIG : Hid (argN f.stk 2 ≤ 512) := hide (by rw [unhide HA2]; omega)
  clear hbig
  go_upto_region 12 with fail
  go_quiet (fail)
  have dq : Below w.heap.size w (w5.drewN nq) := d5.thn (Quiet.below ⟨nq, rfl⟩ _)
  generalize w5.drewN nq = wq0 at dq ⊢
  go_wp2_with fail
  refine (unhide HC _ dq).mono ?_
  rintro e w8 ⟨Ac, kc, cc, nc, rfl, mc, Nc, hcb, hpaid, b8⟩
  have d8 : Below w.heap.size w w8 := dq.thn b8
  have NNc := hide mc
  have HPAID := hide hpaid
  have y4 := (unhide X4 w8 d8).1
  have HCM := hide (mc.cmp (unhide X4 w8 d8).2 hcb hgas)
  have hcg := cmp_gt nc f.gas
  generalize cmpI nc f.gas = cg at HCM hcg
  have NWc : New w Ac := Nc.later dq.size
  clear mc hpaid
  go_wp2_with fail
  refine (unhide HCM).mono ?_
  rintro e w9 ⟨rfl, q9⟩
  have b9 : Below w8.heap.size w8 w9 := q9.below _
  have d9 : Below w.heap.size w w9 := d8.thn b9
  clear q9 y4
  by_cases hog : f.gas < nc
  · rw [decide_eq_true hog] at hcg
    go_wp2
    refine bodyPost_ret (results_tmp2 rfl _ _ _) rfl ?_
    exact RefR.no 2 (by omega) (by omega) _ _ _ d9
  rw [decide_eq_false hog] at hcg
  have hfit : Fit 245 f nc := ⟨unhide HKN, by rw [unhide HT, hlen]; have := unhide HUN; omega, by rw [unhide HT, unhide HV, hlen]; have h1 := unhide HQ; have h2 := unhide HQ'; omega, fun _ => unhide HBIG, by omega, unhide HPAID⟩
  have HFIT := hide hfit
  clear hfit hog
  go_upto_region 17 with fail
  go_quiet (fail)
  have bq1 : Below w8.heap.size w8 (w9.drewN nq) := b9.thn (Quiet.below ⟨nq, rfl⟩ _)
  generalize w9.drewN nq = wq1 at bq1 ⊢
  go_upto_region 19 with fail
  go_quiet (fail)
  have bq2 : Below w8.heap.size w8 (wq1.drewN nq) := bq1.thn (Quiet.below ⟨nq, rfl⟩ _)
  generalize wq1.drewN nq = wq2 at bq2 ⊢
  go_upto_region 21 with fail
  go_quiet (fail)
  have bq3 : Below w8.heap.size w8 (wq2.drewN nq) := bq2.thn (Quiet.below ⟨nq, rfl⟩ _)
  generalize wq2.drewN nq = wq3 at bq3 ⊢
  go_wp2
  refine bodyPost_ret (results_tmp2 rfl _ _ _) rfl ?_
  exact ⟨0, Ac, kc, cc, rfl, by omega, fun _ => ⟨nc, (unhide NNc).kept bq3, NWc, unhide HFIT⟩, d8.thn bq3⟩
set_option maxHeartbeats 16000000 in
theorem refuse_246 (p : Nat) (h1 : 246 ≤ p) (h2 : p ≤ 255) (h : SR G bw gf cs fr d (f :: r) x w) (hx : XB x) (hg : Good B d) (hf : AnyF f) (hml : f.ml ≤ 1000000) (hgas : f.gas < BIG) :
    Calls Sakg.prog 113 #[.pointer (some ⟨bw, 0, none⟩), .pointer (some ⟨gf, 60 * r.length, none⟩), .int .u8 p] w (RefR p f w) := by
  have hBB := big_ge
  have hP := p256_ge
  have hPB := p256_big2
  have hs := argN_lt hf.stk
  have hsl := hf.slen
  have hcl := hf.code
  have hfx := h.fx
  have hC : ∀ wz, Below w.heap.size w wz → Calls Sakg.prog 204 #[.pointer (some ⟨bw, 0, none⟩), .pointer (some ⟨gf, 60 * r.length, none⟩), .int .u8 p] wz (CostR2 p f.stk f.ml wz) := fun wz hz => (h.kept hz).cost hx hg hf hml p (by omega)
  obtain ⟨o, ho⟩ : ∃ o, o = 60 * r.length := ⟨_, rfl⟩
  rw [← ho] at hfx hC ⊢
  have HF := hide hfx
  have HS := hide hs
  have HC := hide hC
  have HW : ∀ wz, Below w.heap.size w wz → Hid (Calls Sakg.prog 203 #[.pointer (some ⟨gf, o, none⟩), .int .u8 p] wz fun e w' => (∃ b, e = .returned (.bool b)) ∧ Below wz.heap.size wz w') := fun wz hz => hide ((hfx.kept hz).writes hf p (by omega))
  obtain ⟨A8, l8, c8, g1, g2⟩ := hfx.kf.stk
  have hlen := g2.len
  have y8 : w.cell? ⟨gf, o + 8, none⟩ = some (.slice A8 l8 c8) := hfx.cell g1
  have y2 : w.cell? ⟨gf, o + 2, none⟩ = some (.bool f.static) := hfx.cell hfx.kf.static
  obtain ⟨A4, k4, c4, p1, p2⟩ := hfx.kf.gas
  have x4 : ∀ wz, Below w.heap.size w wz → wz.cell? ⟨gf, o + 4, none⟩ = some (.slice A4 k4 c4) ∧ IsNat wz A4 k4 c4 f.gas := fun wz hz => ⟨(hfx.kept hz).cell p1, (p2.kp (ChgS.of hz)).now⟩
  have X4 := hide x4
  obtain ⟨A0, k0, c0, q1, q2⟩ := hfx.kf.code
  have x10 : ∀ wz, Below w.heap.size w wz → wz.cell? ⟨gf, o + 10, none⟩ = some (.slice A0 k0 c0) ∧ Src wz A0 k0 c0 f.code := fun wz hz => ⟨(hfx.kept hz).cell q1, (q2.kp (ChgS.of hz)).now⟩
  have X10 := hide x10
  have hk0 := q2.now.len_eq
  obtain ⟨Ar, lr, cr, r1, r2⟩ := h.xs.ret
  have x3 : ∀ wz, Below w.heap.size w wz → wz.cell? ⟨bw, 10, none⟩ = some (.slice Ar lr cr) := fun wz hz => (h.cw.kept hz).cell r1
  have X3 := hide x3
  have hlr : lr ≤ 1000000 := by have := r2.now.len_eq; have := hx.ret; omega
  have HAR := hide (arity_any p (by omega) w)
  generalize hT : takA p = T at HAR
  generalize hV : givA p = V at HAR
  have HT := hide hT
  have HV := hide hV
  have hTl : T ≤ 17 := by rw [← hT]; exact takA_le _
  have hVl : V ≤ 17 := by rw [← hV]; exact givA_le _
  clear h hfx hx hg hs ho hC x4 x10 x3 g1 g2 p1 p2 q1 q2 r1 r2 hT hV
  by_cases hkn : famA p ≠ 0
  rotate_left
  · rw [decide_eq_false hkn] at HAR
    go_enter Sakg.func113, Sakg.ntmps113
    go_wp2_with (go_at_call 202; refine (unhide HAR).mono ?_; rintro e w1 ⟨rfl, rfl⟩)
    refine bodyPost_ret (results_tmp2 rfl _ _ _) rfl ?_
    exact RefR.no 5 (by omega) (by omega) _ _ _ (Below.refl _ _)
  rw [decide_eq_true hkn] at HAR
  have HKN := hide hkn
  clear hkn
  by_cases hun : l8 < T
  · have t1 : decide ((l8 : Int) < (T : Int)) = true := decide_eq_true (by omega)
    go_enter Sakg.func113, Sakg.ntmps113
    go_wp2_with (go_at_call 202; refine (unhide HAR).mono ?_; rintro e w1 ⟨rfl, rfl⟩)
    refine bodyPost_ret (results_tmp2 rfl _ _ _) rfl ?_
    exact RefR.no 3 (by omega) (by omega) _ _ _ (Below.refl _ _)
  have t1 : decide ((l8 : Int) < (T : Int)) = false := decide_eq_false (by omega)
  have t1n : decide (l8 < T) = false := decide_eq_false hun
  obtain ⟨q, hq⟩ : ∃ q, q = l8 - T := ⟨_, rfl⟩
  have eq1 : (l8 : Int) - (T : Int) = (q : Int) := by omega
  obtain ⟨q', hq'⟩ : ∃ q', q' = q + V := ⟨_, rfl⟩
  have eq2 : (q : Int) + (V : Int) = (q' : Int) := by omega
  have hqb : q ≤ 64 ∧ q' ≤ 100 := by omega
  have HQ := hide hq
  have HQ' := hide hq'
  have HUN := hide hun
  clear hq hq' hun
  by_cases hov : 64 < q'
  · have t2 : decide ((64 : Int) < (q' : Int)) = true := decide_eq_true (by omega)
    go_enter Sakg.func113, Sakg.ntmps113
    go_wp2_with (go_at_call 202; refine (unhide HAR).mono ?_; rintro e w1 ⟨rfl, rfl⟩)
    refine bodyPost_ret (results_tmp2 rfl _ _ _) rfl ?_
    exact RefR.no 4 (by omega) (by omega) _ _ _ (Below.refl _ _)
  have t2 : decide ((64 : Int) < (q' : Int)) = false := decide_eq_false (by omega)
  have t2n : decide (64 < q') = false := decide_eq_false hov
  have z62 : ((p : Int) == 62) = false := by rw [beq_eq_false_iff_ne]; omega
  have z85 : ((p : Int) == 85) = false := by rw [beq_eq_false_iff_ne]; omega
  have z86 : ((p : Int) == 86) = false := by rw [beq_eq_false_iff_ne]; omega
  have z87 : ((p : Int) == 87) = false := by rw [beq_eq_false_iff_ne]; omega
  have z240 : ((p : Int) == 240) = false := by rw [beq_eq_false_iff_ne]; omega
  have z245 : ((p : Int) == 245) = false := by rw [beq_eq_false_iff_ne]; omega
  go_enter Sakg.func113, Sakg.ntmps113
  go_upto_region 8 with (go_at_call 202; refine (unhide HAR).mono ?_; rintro e w1 ⟨rfl, rfl⟩)
  go_cut [39] (fun s39 wc => (∃ b, s39 = .bool b) ∧ Below w.heap.size w wc)
  case first =>
    generalize f.static = sb at y2
    cases sb
    · go_wp2_with fail
      go_meet
      case rel => exact ⟨⟨_, rfl⟩, Below.refl _ _⟩
    · go_wp2_with (go_at_call 203; refine (unhide (HW w (Below.refl _ _))).mono ?_; rintro e w2 ⟨⟨bb, rfl⟩, b2⟩)
      go_meet
      case rel => exact ⟨⟨_, rfl⟩, b2⟩
  case rest =>
  obtain ⟨w2, hw2⟩ : ∃ w2, w2 = wc := ⟨_, rfl⟩
  subst hw2
  obtain ⟨⟨sw, rfl⟩, d2⟩ := hcut
  clear y8 y2 HAR HW
  cases sw
  rotate_left
  · go_wp2
    refine bodyPost_ret (results_tmp2 rfl _ _ _) rfl ?_
    exact RefR.no 7 (by omega) (by omega) _ _ _ d2
  go_upto_region 12 with fail
  go_quiet (fail)
  have dq : Below w.heap.size w (w2.drewN nq) := d2.thn (Quiet.below ⟨nq, rfl⟩ _)
  generalize w2.drewN nq = wq0 at dq ⊢
  go_wp2_with fail
  refine (unhide HC _ dq).mono ?_
  rintro e w8 ⟨Ac, kc, cc, nc, rfl, mc, Nc, hcb, hpaid, b8⟩
  have d8 : Below w.heap.size w w8 := dq.thn b8
  have NNc := hide mc
  have HPAID := hide hpaid
  have y4 := (unhide X4 w8 d8).1
  have HCM := hide (mc.cmp (unhide X4 w8 d8).2 hcb hgas)
  have hcg := cmp_gt nc f.gas
  generalize cmpI nc f.gas = cg at HCM hcg
  have NWc : New w Ac := Nc.later dq.size
  clear mc hpaid
  go_wp2_with fail
  refine (unhide HCM).mono ?_
  rintro e w9 ⟨rfl, q9⟩
  have b9 : Below w8.heap.size w8 w9 := q9.below _
  have d9 : Below w.heap.size w w9 := d8.thn b9
  clear q9 y4
  by_cases hog : f.gas < nc
  · rw [decide_eq_true hog] at hcg
    go_wp2
    refine bodyPost_ret (results_tmp2 rfl _ _ _) rfl ?_
    exact RefR.no 2 (by omega) (by omega) _ _ _ d9
  rw [decide_eq_false hog] at hcg
  have hfit : Fit p f nc := ⟨unhide HKN, by rw [unhide HT, hlen]; have := unhide HUN; omega, by rw [unhide HT, unhide HV, hlen]; have h1 := unhide HQ; have h2 := unhide HQ'; omega, fun hh => by omega, by omega, unhide HPAID⟩
  have HFIT := hide hfit
  clear hfit hog
  go_upto_region 17 with fail
  go_quiet (fail)
  have bq1 : Below w8.heap.size w8 (w9.drewN nq) := b9.thn (Quiet.below ⟨nq, rfl⟩ _)
  generalize w9.drewN nq = wq1 at bq1 ⊢
  go_upto_region 19 with fail
  go_quiet (fail)
  have bq2 : Below w8.heap.size w8 (wq1.drewN nq) := bq1.thn (Quiet.below ⟨nq, rfl⟩ _)
  generalize wq1.drewN nq = wq2 at bq2 ⊢
  go_upto_region 21 with fail
  go_quiet (fail)
  have bq3 : Below w8.heap.size w8 (wq2.drewN nq) := bq2.thn (Quiet.below ⟨nq, rfl⟩ _)
  generalize wq2.drewN nq = wq3 at bq3 ⊢
  go_wp2
  refine bodyPost_ret (results_tmp2 rfl _ _ _) rfl ?_
  exact ⟨0, Ac, kc, cc, rfl, by omega, fun _ => ⟨nc, (unhide NNc).kept bq3, NWc, unhide HFIT⟩, d8.thn bq3⟩
theorem SR.refusal (h : SR G bw gf cs fr d (f :: r) x w) (hx : XB x) (hg : Good B d) (hf : AnyF f) (hml : f.ml ≤ 1000000) (hgas : f.gas < BIG) (p : Nat) (hp : p ≤ 255) :
    Calls Sakg.prog 113 #[.pointer (some ⟨bw, 0, none⟩), .pointer (some ⟨gf, 60 * r.length, none⟩), .int .u8 p] w (RefR p f w) := by
  by_cases h0 : p ≤ 61
  · exact refuse_0 p (by omega) (by omega) h hx hg hf hml hgas
  by_cases h62 : p ≤ 62
  · obtain rfl : p = 62 := by omega
    exact refuse_62 h hx hg hf hml hgas
  by_cases h63 : p ≤ 84
  · exact refuse_63 p (by omega) (by omega) h hx hg hf hml hgas
  by_cases h85 : p ≤ 85
  · obtain rfl : p = 85 := by omega
    exact refuse_85 h hx hg hf hml hgas
  by_cases h86 : p ≤ 86
  · obtain rfl : p = 86 := by omega
    exact refuse_86 h hx hg hf hml hgas
  by_cases h87 : p ≤ 87
  · obtain rfl : p = 87 := by omega
    exact refuse_87 h hx hg hf hml hgas
  by_cases h88 : p ≤ 239
  · exact refuse_88 p (by omega) (by omega) h hx hg hf hml hgas
  by_cases h240 : p ≤ 240
  · obtain rfl : p = 240 := by omega
    exact refuse_240 h hx hg hf hml hgas
  by_cases h241 : p ≤ 244
  · exact refuse_241 p (by omega) (by omega) h hx hg hf hml hgas
  by_cases h245 : p ≤ 245
  · obtain rfl : p = 245 := by omega
    exact refuse_245 h hx hg hf hml hgas
  exact refuse_246 p (by omega) (by omega) h hx hg hf hml hgas
end

end Go.Proofs.YgcsakGreat
