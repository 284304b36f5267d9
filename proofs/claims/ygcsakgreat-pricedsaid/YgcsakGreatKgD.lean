/-
  yp: sstore, destroyCost, enterCost.
-/
import Derived.Test.YgcsakGreatKgC
namespace Go.Proofs.YgcsakGreat
set_option linter.unusedVariables false
set_option linter.unusedSimpArgs false
set_option maxRecDepth 100000
open Go.RowKit

section
variable {G : Nat → Prop} {bw gf : Nat} {cs fr : List Value} {d : WD} {f : FD} {r : List FD} {x : XD} {w : World} {B : Nat}
theorem SR.orig {fs : List FD} (h : SR G bw gf cs fr d fs x w) (hx : XB x) (a : List Int) (ha : IsAddr a) (A : Option Addr) (k c2 m : Nat) (hn : KNat G w A k c2 m) (hm : m < BIG) :
    Calls Sakg.prog 486 #[.pointer (some ⟨bw, 0, none⟩), .agg (bv a).toArray, .slice A k c2] w fun e w' => (∃ A k c v, e = .returned (.slice A k c) ∧ KNat G w' A k c v ∧ v < P256) ∧ Below w.heap.size w w' := by
  obtain ⟨ao, l, c, h1, h2⟩ := h.xs.start
  have hl := h2.len
  have := hx.nstart
  refine (orig_any G bw w ao l c x.start h2 (h.cw.cell h1) (by omega) a ha A k c2 m hn hm).mono ?_
  rintro e w' ⟨⟨A', k', c', v, he, hk, hv⟩, hb⟩
  refine ⟨⟨A', k', c', v, he, hk, ?_⟩, hb⟩
  rcases hv with rfl | ⟨t, ht, rfl⟩
  · exact p256_pos
  · exact (hx.start t ht).2

set_option maxHeartbeats 8000000 in
theorem SR.sstore (h : SR G bw gf cs fr d (f :: r) x w) (hx : XB x) (hg : Good B d) (hf : AnyF f) :
    Calls Sakg.prog 423 #[.pointer (some ⟨bw, 0, none⟩), .pointer (some ⟨gf, 60 * r.length, none⟩)] w (SstR w) := by
  have hs := argN_lt hf.stk
  have hsl := hf.slen
  have hfx := h.fx
  obtain ⟨o, ho⟩ : ∃ o, o = 60 * r.length := ⟨_, rfl⟩
  rw [← ho] at hfx ⊢
  have HX := hide hx
  have HSR := hide h
  have HF := hide hfx
  have HS := hide hs
  have hslf := hfx.kf.selfA
  have hu := Sakg.underlying26
  have hsz := hslf.size
  obtain ⟨sf, hsf⟩ : ∃ sf, sf = f.self := ⟨_, rfl⟩
  have HSF := hide hsf
  rw [← hsf] at hslf hsz
  clear h hfx hx hs ho hsf
  go_enter Sakg.func423, Sakg.ntmps423
  have HC1 := hide ((unhide HF).arg (by omega) 0 (by omega))
  go_wp2_with fail
  refine (unhide HC1).mono ?_
  rintro e w1 ⟨⟨A1, k1, c1, rfl, s1⟩, q1⟩
  have b1 : Below w.heap.size w w1 := q1.below _
  have KK1 := hide s1
  clear HC1 s1 q1
  have hK1 : ∀ wz, Below w1.heap.size w1 wz → KNat G wz A1 k1 c1 (argN f.stk 0) := fun wz hz => (unhide KK1).kp (ChgS.of (b1.thn hz))
  have hR1 : ∀ wz, Below w1.heap.size w1 wz → SR G bw gf cs fr d (f :: r) x wz := fun wz hz => (unhide HSR).kept (b1.thn hz)
  have hF1 : ∀ wz, Below w1.heap.size w1 wz → FX G gf o fr f wz := fun wz hz => (unhide HF).kept (b1.thn hz)
  have hr1 : ∀ wz, Below w1.heap.size w1 wz → wz.rangeAt gf (o + 12) (bv sf) := fun wz hz => by have := (hF1 wz hz).selfR; rwa [← unhide HSF] at this
  have HK1 := hide hK1
  have HR1 := hide hR1
  have HF1 := hide hF1
  have HRG := hide hr1
  have d1 : Below w1.heap.size w1 w1.drew := Quiet.below ⟨1, rfl⟩ _
  have ha0 : argN f.stk 0 < BIG := Nat.lt_trans (unhide HS 0) p256_lt
  have ha1 : argN f.stk 1 < BIG := Nat.lt_trans (unhide HS 1) p256_lt
  generalize argN f.stk 0 = a0 at HK1 ha0
  clear hK1 hR1 hF1 hr1
  go_upto_region 2 with fail
  refine wp_region_noPanic ?_
  refine wp_region_held_drew (S := fun w' => Below w1.heap.size w1 w') (by kernel_rfl) (d1) (fun hHeld => ?_)
  refine held_takeD 0 (.pointer (some ⟨bw, 0, none⟩)) (some 11) (by rfl) (by rfl) (by kernel_rfl) (by kernel_rfl) (by kernel_rfl) (fun _ _ _ h => h) (.inl ⟨by rfl, fun _ _ => by rfl⟩) (hHeld) ?_
  simp only [Act.put, List.setIfInBounds_toArray, List.set_cons_zero, List.set_cons_succ]
  refine held_takeD 1 (.pointer (some ⟨bw, 0, none⟩)) (some 12) (by rfl) (by rfl) (by kernel_rfl) (by kernel_rfl) (by kernel_rfl) (fun _ _ _ h => h) (.inl ⟨by rfl, fun _ _ => by go_simp⟩) (hHeld) ?_
  simp only [Act.put, List.setIfInBounds_toArray, List.set_cons_zero, List.set_cons_succ]
  refine held_takeD 2 (.pointer (some ⟨bw, 0, none⟩)) (some 13) (by rfl) (by rfl) (by kernel_rfl) (by kernel_rfl) (by kernel_rfl) (fun _ _ _ h => h) (.inl ⟨by rfl, fun _ _ => by go_simp⟩) (hHeld) ?_
  simp only [Act.put, List.setIfInBounds_toArray, List.set_cons_zero, List.set_cons_succ]
  refine held_takeD 3 (.pointer (some ⟨gf, o, none⟩)) (some 14) (by rfl) (by rfl) (by kernel_rfl) (by kernel_rfl) (by kernel_rfl) (fun _ _ _ h => h) (.inl ⟨by rfl, fun _ _ => by rfl⟩) (hHeld) ?_
  simp only [Act.put, List.setIfInBounds_toArray, List.set_cons_zero, List.set_cons_succ]
  refine held_takeD 4 (.pointer (some ⟨gf, o, none⟩)) (some 15) (by rfl) (by rfl) (by kernel_rfl) (by kernel_rfl) (by kernel_rfl) (fun _ _ _ h => h) (.inl ⟨by rfl, fun _ _ => by go_simp⟩) (hHeld) ?_
  simp only [Act.put, List.setIfInBounds_toArray, List.set_cons_zero, List.set_cons_succ]
  refine held_takeD 5 (.pointer (some ⟨gf, o + 12, none⟩)) (some 16) (by rfl) (by rfl) (by kernel_rfl) (by kernel_rfl) (by kernel_rfl) (fun _ _ _ h => h) (.inl ⟨by rfl, fun _ _ => by go_simp⟩) (hHeld) ?_
  simp only [Act.put, List.setIfInBounds_toArray, List.set_cons_zero, List.set_cons_succ]
  refine held_takeD 6 (.agg (bv sf).toArray) (some 17) (by rfl) (by rfl) (by kernel_rfl) (by kernel_rfl) (by kernel_rfl) (fun _ _ _ h => h) (yieldsIf_load_mid (by rfl) _ _ rfl _ _ rfl _ _ (fun wz hS => unhide HRG wz hS) hu rfl hsz) (hHeld) ?_
  simp only [Act.put, List.setIfInBounds_toArray, List.set_cons_zero, List.set_cons_succ]
  refine held_takeD 7 (.slice A1 k1 c1) (some 18) (by rfl) (by rfl) (by kernel_rfl) (by kernel_rfl) (by kernel_rfl) (fun _ _ _ h => h) (.inl ⟨by rfl, fun _ _ => by rfl⟩) (hHeld) ?_
  simp only [Act.put, List.setIfInBounds_toArray, List.set_cons_zero, List.set_cons_succ]
  refine held_one 8 (by kernel_rfl) (by rfl) (fun K' hK' => ?_)
  go_simp
  refine ((unhide HR1 _ d1).cw.isWarmSlot hg sf hslf A1 k1 c1 a0 (unhide HK1 _ d1) ha0).mono ?_
  rintro e w2 ⟨⟨bb, rfl⟩, b2⟩
  refine hK'.out _ _ (d1.thn b2) ?_
  clear hK' K'
  have d2 : Below w1.heap.size w1 w2 := d1.thn b2
  refine held_takeD 9 (.bool (!bb)) (some 20) (by rfl) (by rfl) (by kernel_rfl) (by kernel_rfl) (by kernel_rfl) (fun _ _ _ h => h) (.inl ⟨by rfl, fun _ _ => by go_simp⟩) (d2) ?_
  simp only [Act.put, List.setIfInBounds_toArray, List.set_cons_zero, List.set_cons_succ]
  refine held_takeD 10 (.bool (!bb)) (some 8) (by rfl) (by rfl) (by kernel_rfl) (by kernel_rfl) (by kernel_rfl) (fun _ _ _ h => h) (.inl ⟨by rfl, fun _ _ => by rfl⟩) (d2) ?_
  simp only [Act.put, List.setIfInBounds_toArray, List.set_cons_zero, List.set_cons_succ]
  refine wpAnyH_done (by kernel_rfl) ?_ _
  refine NoPanic.normal ?_
  generalize (!bb) = cold
  go_upto_region 3 with fail
  have d3 : Below w1.heap.size w1 w2.drew := d2.thn (Quiet.below ⟨1, rfl⟩ _)
  refine wp_region_noPanic ?_
  refine wp_region_held_drew (S := fun w' => Below w1.heap.size w1 w') (by kernel_rfl) (d3) (fun hHeld => ?_)
  refine held_takeD 0 (.pointer (some ⟨bw, 0, none⟩)) (some 21) (by rfl) (by rfl) (by kernel_rfl) (by kernel_rfl) (by kernel_rfl) (fun _ _ _ h => h) (.inl ⟨by rfl, fun _ _ => by rfl⟩) (hHeld) ?_
  simp only [Act.put, List.setIfInBounds_toArray, List.set_cons_zero, List.set_cons_succ]
  refine held_takeD 1 (.pointer (some ⟨gf, o, none⟩)) (some 22) (by rfl) (by rfl) (by kernel_rfl) (by kernel_rfl) (by kernel_rfl) (fun _ _ _ h => h) (.inl ⟨by rfl, fun _ _ => by rfl⟩) (hHeld) ?_
  simp only [Act.put, List.setIfInBounds_toArray, List.set_cons_zero, List.set_cons_succ]
  refine held_takeD 2 (.pointer (some ⟨gf, o, none⟩)) (some 23) (by rfl) (by rfl) (by kernel_rfl) (by kernel_rfl) (by kernel_rfl) (fun _ _ _ h => h) (.inl ⟨by rfl, fun _ _ => by go_simp⟩) (hHeld) ?_
  simp only [Act.put, List.setIfInBounds_toArray, List.set_cons_zero, List.set_cons_succ]
  refine held_takeD 3 (.pointer (some ⟨gf, o + 12, none⟩)) (some 24) (by rfl) (by rfl) (by kernel_rfl) (by kernel_rfl) (by kernel_rfl) (fun _ _ _ h => h) (.inl ⟨by rfl, fun _ _ => by go_simp⟩) (hHeld) ?_
  simp only [Act.put, List.setIfInBounds_toArray, List.set_cons_zero, List.set_cons_succ]
  refine held_takeD 4 (.agg (bv sf).toArray) (some 25) (by rfl) (by rfl) (by kernel_rfl) (by kernel_rfl) (by kernel_rfl) (fun _ _ _ h => h) (yieldsIf_load_mid (by rfl) _ _ rfl _ _ rfl _ _ (fun wz hS => unhide HRG wz hS) hu rfl hsz) (hHeld) ?_
  simp only [Act.put, List.setIfInBounds_toArray, List.set_cons_zero, List.set_cons_succ]
  refine held_takeD 5 (.slice A1 k1 c1) (some 26) (by rfl) (by rfl) (by kernel_rfl) (by kernel_rfl) (by kernel_rfl) (fun _ _ _ h => h) (.inl ⟨by rfl, fun _ _ => by rfl⟩) (hHeld) ?_
  simp only [Act.put, List.setIfInBounds_toArray, List.set_cons_zero, List.set_cons_succ]
  refine held_takeD 7 (.pointer (some ⟨bw, 0, none⟩)) (some 28) (by rfl) (by rfl) (by kernel_rfl) (by kernel_rfl) (by kernel_rfl) (fun _ _ _ h => h) (.inl ⟨by rfl, fun _ _ => by rfl⟩) (hHeld) ?_
  simp only [Act.put, List.setIfInBounds_toArray, List.set_cons_zero, List.set_cons_succ]
  refine held_takeD 8 (.pointer (some ⟨bw, 0, none⟩)) (some 29) (by rfl) (by rfl) (by kernel_rfl) (by kernel_rfl) (by kernel_rfl) (fun _ _ _ h => h) (.inl ⟨by rfl, fun _ _ => by go_simp⟩) (hHeld) ?_
  simp only [Act.put, List.setIfInBounds_toArray, List.set_cons_zero, List.set_cons_succ]
  refine held_takeD 9 (.pointer (some ⟨bw, 0, none⟩)) (some 30) (by rfl) (by rfl) (by kernel_rfl) (by kernel_rfl) (by kernel_rfl) (fun _ _ _ h => h) (.inl ⟨by rfl, fun _ _ => by go_simp⟩) (hHeld) ?_
  simp only [Act.put, List.setIfInBounds_toArray, List.set_cons_zero, List.set_cons_succ]
  refine held_takeD 10 (.pointer (some ⟨gf, o, none⟩)) (some 31) (by rfl) (by rfl) (by kernel_rfl) (by kernel_rfl) (by kernel_rfl) (fun _ _ _ h => h) (.inl ⟨by rfl, fun _ _ => by rfl⟩) (hHeld) ?_
  simp only [Act.put, List.setIfInBounds_toArray, List.set_cons_zero, List.set_cons_succ]
  refine held_takeD 11 (.pointer (some ⟨gf, o, none⟩)) (some 32) (by rfl) (by rfl) (by kernel_rfl) (by kernel_rfl) (by kernel_rfl) (fun _ _ _ h => h) (.inl ⟨by rfl, fun _ _ => by go_simp⟩) (hHeld) ?_
  simp only [Act.put, List.setIfInBounds_toArray, List.set_cons_zero, List.set_cons_succ]
  refine held_takeD 12 (.pointer (some ⟨gf, o + 12, none⟩)) (some 33) (by rfl) (by rfl) (by kernel_rfl) (by kernel_rfl) (by kernel_rfl) (fun _ _ _ h => h) (.inl ⟨by rfl, fun _ _ => by go_simp⟩) (hHeld) ?_
  simp only [Act.put, List.setIfInBounds_toArray, List.set_cons_zero, List.set_cons_succ]
  refine held_takeD 13 (.agg (bv sf).toArray) (some 34) (by rfl) (by rfl) (by kernel_rfl) (by kernel_rfl) (by kernel_rfl) (fun _ _ _ h => h) (yieldsIf_load_mid (by rfl) _ _ rfl _ _ rfl _ _ (fun wz hS => unhide HRG wz hS) hu rfl hsz) (hHeld) ?_
  simp only [Act.put, List.setIfInBounds_toArray, List.set_cons_zero, List.set_cons_succ]
  refine held_takeD 14 (.slice A1 k1 c1) (some 35) (by rfl) (by rfl) (by kernel_rfl) (by kernel_rfl) (by kernel_rfl) (fun _ _ _ h => h) (.inl ⟨by rfl, fun _ _ => by rfl⟩) (hHeld) ?_
  simp only [Act.put, List.setIfInBounds_toArray, List.set_cons_zero, List.set_cons_succ]
  refine held_takeD 16 (.pointer (some ⟨gf, o, none⟩)) (some 37) (by rfl) (by rfl) (by kernel_rfl) (by kernel_rfl) (by kernel_rfl) (fun _ _ _ h => h) (.inl ⟨by rfl, fun _ _ => by rfl⟩) (hHeld) ?_
  simp only [Act.put, List.setIfInBounds_toArray, List.set_cons_zero, List.set_cons_succ]
  refine held_takeD 18 (.bool cold) (some 39) (by rfl) (by rfl) (by kernel_rfl) (by kernel_rfl) (by kernel_rfl) (fun _ _ _ h => h) (.inl ⟨by rfl, fun _ _ => by rfl⟩) (hHeld) ?_
  simp only [Act.put, List.setIfInBounds_toArray, List.set_cons_zero, List.set_cons_succ]
  refine held_one 6 (by kernel_rfl) (by rfl) (fun K' hK' => ?_)
  go_simp
  refine ((unhide HR1 _ d3).orig (unhide HX) sf hslf A1 k1 c1 a0 (unhide HK1 _ d3) ha0).mono ?_
  rintro e w4 ⟨⟨A4, k4, c4, n4, rfl, K4, l4⟩, b4⟩
  refine hK'.out _ _ (d3.thn b4) ?_
  clear hK' K'
  have d4 : Below w1.heap.size w1 w4 := d3.thn b4
  refine held_one 15 (by kernel_rfl) (by rfl) (fun K' hK' => ?_)
  go_simp
  refine ((unhide HR1 _ d4).cw.load hg sf hslf A1 k1 c1 a0 (unhide HK1 _ d4) ha0).mono ?_
  rintro e w5 ⟨⟨A5, k5, c5, n5, rfl, K5, l5⟩, b5⟩
  refine hK'.out _ _ (d4.thn b5) ?_
  clear hK' K'
  have d5 : Below w1.heap.size w1 w5 := d4.thn b5
  refine held_one 17 (by kernel_rfl) (by rfl) (fun K' hK' => ?_)
  go_simp
  refine ((unhide HF1 _ d5).arg (by omega) 1 (by omega)).mono ?_
  rintro e w6 ⟨⟨A6, k6, c6, rfl, K6⟩, q6⟩
  refine hK'.out _ _ (d5.thn (q6.below _)) ?_
  clear hK' K'
  have b6 : Below w5.heap.size w5 w6 := q6.below _
  have d6 : Below w1.heap.size w1 w6 := d5.thn b6
  refine held_one 19 (by kernel_rfl) (by rfl) (fun K' hK' => ?_)
  go_simp
  refine (sstoreF_any A4 A5 A6 k4 c4 k5 c5 k6 c6 n4 n5 (argN f.stk 1) cold w6 (K4.kp (ChgS.of (b5.thn b6))).now (K5.kp (ChgS.of b6)).now (K6.kp (ChgS.of b6)).now (Nat.lt_trans l4 p256_lt) (Nat.lt_trans l5 p256_lt) ha1).mono ?_
  rintro e w7 ⟨A7, k7, c7, n7, Ap, kp, cp, np, Am, km, cm, nm, rfl, m7, mp, mm, N7, Np, Nm, x1, x2, x3, x4, b7⟩
  refine hK'.out _ _ (d6.thn b7) ?_
  clear hK' K'
  have d7 : Below w1.heap.size w1 w7 := d6.thn b7
  refine held_takeD 20 (.slice A7 k7 c7) (some 41) (by rfl) (by rfl) (by kernel_rfl) (by kernel_rfl) (by kernel_rfl) (fun _ _ _ h => h) (.inl ⟨by rfl, fun _ _ => by go_simp⟩) (d7) ?_
  simp only [Act.put, List.setIfInBounds_toArray, List.set_cons_zero, List.set_cons_succ]
  refine held_takeD 21 (.slice Ap kp cp) (some 42) (by rfl) (by rfl) (by kernel_rfl) (by kernel_rfl) (by kernel_rfl) (fun _ _ _ h => h) (.inl ⟨by rfl, fun _ _ => by go_simp⟩) (d7) ?_
  simp only [Act.put, List.setIfInBounds_toArray, List.set_cons_zero, List.set_cons_succ]
  refine held_takeD 22 (.slice Am km cm) (some 43) (by rfl) (by rfl) (by kernel_rfl) (by kernel_rfl) (by kernel_rfl) (fun _ _ _ h => h) (.inl ⟨by rfl, fun _ _ => by go_simp⟩) (d7) ?_
  simp only [Act.put, List.setIfInBounds_toArray, List.set_cons_zero, List.set_cons_succ]
  refine held_takeD 23 (.slice A7 k7 c7) (some 4) (by rfl) (by rfl) (by kernel_rfl) (by kernel_rfl) (by kernel_rfl) (fun _ _ _ h => h) (.inl ⟨by rfl, fun _ _ => by rfl⟩) (d7) ?_
  simp only [Act.put, List.setIfInBounds_toArray, List.set_cons_zero, List.set_cons_succ]
  refine held_takeD 24 (.slice Ap kp cp) (some 5) (by rfl) (by rfl) (by kernel_rfl) (by kernel_rfl) (by kernel_rfl) (fun _ _ _ h => h) (.inl ⟨by rfl, fun _ _ => by rfl⟩) (d7) ?_
  simp only [Act.put, List.setIfInBounds_toArray, List.set_cons_zero, List.set_cons_succ]
  refine held_takeD 25 (.slice Am km cm) (some 6) (by rfl) (by rfl) (by kernel_rfl) (by kernel_rfl) (by kernel_rfl) (fun _ _ _ h => h) (.inl ⟨by rfl, fun _ _ => by rfl⟩) (d7) ?_
  simp only [Act.put, List.setIfInBounds_toArray, List.set_cons_zero, List.set_cons_succ]
  refine wpAnyH_done (by kernel_rfl) ?_ _
  refine NoPanic.normal ?_
  have M7 := hide m7
  have Mp := hide mp
  have Mm := hide mm
  clear m7 mp mm K4 K5 K6
  go_wp2
  go_ret3
  have hs6 : w.heap.size ≤ w6.heap.size := Nat.le_trans b1.size d6.size
  exact ⟨A7, k7, c7, n7, Ap, kp, cp, np, Am, km, cm, nm, rfl, unhide M7, unhide Mp, unhide Mm, N7.later hs6, Np.later hs6, Nm.later hs6, x1, x2, x3, x4, b1.thn d7⟩

/-- account, told of an earlier world -/
theorem CW.accountAt {W wz : World} (h : CW G bw cs d W) (hg : Good B d) (hz : Below W.heap.size W wz) (a : List Int) (ha : IsAddr a) :
    Calls Sakg.prog 99 #[.pointer (some ⟨bw, 0, none⟩), .agg (bv a).toArray] wz fun e w' => ∃ r, e = .returned (.agg r.toArray) ∧ KAcct G W r (lookY d.accts a) ∧ Below wz.heap.size wz w' := by
  obtain ⟨ao, l, c, h1, h2⟩ := h.kw.accts
  have hl := h2.len
  have := hg.na
  obtain ⟨rows, r1, r2⟩ := h2
  exact account_any (KAcct G W) (karow G W) bw 0 ao l c rows d.accts a wz ((h.kept hz).cell h1) (r1.kp (ChgS.of hz)).now r2 ha (by omega)
theorem Good.lookB (hg : Good B d) (a : List Int) : (lookY d.accts a).nonce < BIG ∧ (lookY d.accts a).bal < BIG := ⟨nonce_big (hg.acc.look a).non, Nat.lt_trans (hg.bal a) p256_lt⟩

def CostIn (w : World) (lo hi : Nat) (e : Ending) (w' : World) : Prop := ∃ A k c n, e = .returned (.slice A k c) ∧ IsNat w' A k c n ∧ New w A ∧ lo ≤ n ∧ n ≤ hi ∧ Below w.heap.size w w'
set_option maxHeartbeats 16000000 in
theorem SR.destroyCost (h : SR G bw gf cs fr d (f :: r) x w) (hg : Good B d) (hf : AnyF f) :
    Calls Sakg.prog 424 #[.pointer (some ⟨bw, 0, none⟩), .pointer (some ⟨gf, 60 * r.length, none⟩)] w (CostIn w 5000 40000) := by
  have hBB := big_ge
  have hs := argN_lt hf.stk
  have hsl := hf.slen
  have hfx := h.fx
  obtain ⟨o, ho⟩ : ∃ o, o = 60 * r.length := ⟨_, rfl⟩
  rw [← ho] at hfx ⊢
  have hcw := h.cw
  have HCW := hide hcw
  have HF := hide hfx
  have HS := hide hs
  have hslf := hfx.kf.selfA
  have hu := Sakg.underlying26
  have hsz := hslf.size
  obtain ⟨sf, hsf⟩ : ∃ sf, sf = f.self := ⟨_, rfl⟩
  have HSF := hide hsf
  rw [← hsf] at hslf hsz
  have hZ20 : (bv (zeros 20)).length = 20 := by rw [bv_len, zeros_len]
  clear h hfx hs ho hsf hcw
  go_enter Sakg.func424, Sakg.ntmps424
  have HC1 := hide (num_any 5000 w (by omega))
  go_wp2_with fail
  refine (unhide HC1).mono ?_
  rintro e w1 ⟨A1, k1, c1, rfl, n1, N1, b1⟩
  have NN1 := hide n1
  clear HC1 n1
  have HC2 := hide (((unhide HF).kept b1).arg (by omega) 0 (by omega))
  go_wp2_with fail
  refine (unhide HC2).mono ?_
  rintro e w2 ⟨⟨A2, k2, c2, rfl, s2⟩, q2⟩
  have b2 : Below w1.heap.size w1 w2 := q2.below _
  have KK2 := hide s2
  clear HC2 s2 q2
  have ha0 : argN f.stk 0 < BIG := Nat.lt_trans (unhide HS 0) p256_lt
  have HC3 := hide (addrOf_any A2 k2 c2 _ w2 ((unhide KK2).kp (ChgS.of b2)).now ha0)
  go_wp2_with fail
  refine (unhide HC3).mono ?_
  rintro e w3 ⟨⟨ta, rfl, hta⟩, b3⟩
  clear HC3 
  have htz := hta.size
  have hbt : (bv ta).length = 20 := by rw [bv_len, hta.len]
  go_upto_region 3 with (first
    | ((with_reducible refine at_alloc 26 ?_); refine wpList_alloc_g (by rfl) 26 rfl (bv (zeros 20)) 20 infoAddr2 hZ20 ?_)
    | ((with_reducible refine at_store 26 ?_); refine wpList_store_whole rfl 26 (.tmp 6) (.tmp 11) rfl _ _ _ (bv ta) rfl rfl (RowT.new _ _ _) (by rw [hZ20, hbt]) htz (bv_one _) ?_; intro w4 hr4 hon4; have hbb4 := box_below hon4; clear hon4))
  have dw4 : Below w.heap.size w w4 := b1.thn (b2.thn (b3.thn hbb4.1))
  have hcw4 : CW G bw cs d w4 := (unhide HCW).kept dw4
  have hrg4 : ∀ wz, Below w4.heap.size w4 wz → wz.rangeAt w3.heap.size 0 (bv ta) := fun wz hz => (hr4.kept hz).rangeAll
  have hsr4 : ∀ wz, Below w4.heap.size w4 wz → wz.rangeAt gf (o + 12) (bv sf) := fun wz hz => by have := ((unhide HF).kept (dw4.thn hz)).selfR; rwa [← unhide HSF] at this
  have NN1' := hide ((unhide NN1).kept (b2.thn (b3.thn hbb4.1)))
  have HRG := hide hrg4
  have HSRG := hide hsr4
  have HCW4 := hide hcw4
  have hw34 := hbb4.2
  have HW34 := hide hw34
  have d4 : Below w4.heap.size w4 w4.drew := Quiet.below ⟨1, rfl⟩ _
  clear hrg4 hsr4 hcw4 hr4 hbb4 hw34
  simp only [Act.put, List.setIfInBounds_toArray, List.set_cons_zero, List.set_cons_succ]
  refine wp_region_noPanic ?_
  refine wp_region_held_drew (S := fun w' => Below w4.heap.size w4 w') (by kernel_rfl) (d4) (fun hHeld => ?_)
  refine held_takeD 0 (.pointer (some ⟨bw, 0, none⟩)) (some 12) (by rfl) (by rfl) (by kernel_rfl) (by kernel_rfl) (by kernel_rfl) (fun _ _ _ h => h) (.inl ⟨by rfl, fun _ _ => by rfl⟩) (hHeld) ?_
  simp only [Act.put, List.setIfInBounds_toArray, List.set_cons_zero, List.set_cons_succ]
  refine held_takeD 1 (.pointer (some ⟨bw, 0, none⟩)) (some 13) (by rfl) (by rfl) (by kernel_rfl) (by kernel_rfl) (by kernel_rfl) (fun _ _ _ h => h) (.inl ⟨by rfl, fun _ _ => by go_simp⟩) (hHeld) ?_
  simp only [Act.put, List.setIfInBounds_toArray, List.set_cons_zero, List.set_cons_succ]
  refine held_takeD 2 (.pointer (some ⟨bw, 0, none⟩)) (some 14) (by rfl) (by rfl) (by kernel_rfl) (by kernel_rfl) (by kernel_rfl) (fun _ _ _ h => h) (.inl ⟨by rfl, fun _ _ => by go_simp⟩) (hHeld) ?_
  simp only [Act.put, List.setIfInBounds_toArray, List.set_cons_zero, List.set_cons_succ]
  refine held_takeD 3 (.agg (bv ta).toArray) (some 15) (by rfl) (by rfl) (by kernel_rfl) (by kernel_rfl) (by kernel_rfl) (fun _ _ _ h => h) (yieldsIf_load_mid (by rfl) _ _ rfl _ _ rfl _ _ (fun wz hS => unhide HRG wz hS) hu rfl htz) (hHeld) ?_
  simp only [Act.put, List.setIfInBounds_toArray, List.set_cons_zero, List.set_cons_succ]
  refine held_one 4 (by kernel_rfl) (by rfl) (fun K' hK' => ?_)
  go_simp
  refine (((unhide HCW4).kept d4).isWarm hg ta hta).mono ?_
  rintro e w5 ⟨⟨bb, rfl⟩, b5⟩
  refine hK'.out _ _ (d4.thn b5) ?_
  clear hK' K'
  have d5 : Below w4.heap.size w4 w5 := d4.thn b5
  refine held_takeD 5 (.bool (!bb)) (some 17) (by rfl) (by rfl) (by kernel_rfl) (by kernel_rfl) (by kernel_rfl) (fun _ _ _ h => h) (.inl ⟨by rfl, fun _ _ => by go_simp⟩) (d5) ?_
  simp only [Act.put, List.setIfInBounds_toArray, List.set_cons_zero, List.set_cons_succ]
  refine wpAnyH_done (by kernel_rfl) ?_ _
  refine NoPanic.normal ?_
  generalize (!bb) = cold
  go_upto_if 17 with fail
  go_cut [5] (fun s5 wc => UpTo w s5 wc 5000 7600 ∧ Below w4.heap.size w4 wc)
  case first =>
    cases cold
    · go_wp2_with fail
      go_meet
      case rel => exact ⟨⟨A1, k1, c1, 5000, rfl, (unhide NN1').kept d5, N1, by omega, by omega⟩, d5⟩
    · have HN6 := hide (num_any 2600 w5 (by omega))
      go_wp2_with fail
      refine (unhide HN6).mono ?_
      rintro e w6 ⟨A6, k6, c6, rfl, n6, N6, b6⟩
      have HAD := hide (((unhide NN1').kept (d5.thn b6)).add n6 (by omega) (by omega))
      clear n6
      go_wp2_with (go_at_call 59; refine (unhide HAD).mono ?_; rintro e w7 ⟨A7, k7, c7, rfl, n7, N7, b7⟩; have NN7 := hide n7; clear n7)
      go_meet
      case rel => exact ⟨⟨A7, k7, c7, 7600, rfl, unhide NN7, N7.later (dw4.thn (d5.thn b6)).size, by omega, by omega⟩, d5.thn (b6.thn b7)⟩
  case rest =>
  obtain ⟨W, hWe⟩ : ∃ W, W = wc := ⟨_, rfl⟩
  subst hWe
  obtain ⟨⟨A8, k8, c8, n8, rfl, m8, M8, l8, u8⟩, d8⟩ := hcut
  have NN8 := hide m8
  have dW0 : Below w.heap.size w W := dw4.thn d8
  have dW : Below W.heap.size W W.drew := Quiet.below ⟨1, rfl⟩ _
  have hcwW : CW G bw cs d W := (unhide HCW4).kept d8
  have hacc : ∀ a, IsAddr a → ∀ wz, Below W.heap.size W wz → Calls Sakg.prog 99 #[.pointer (some ⟨bw, 0, none⟩), .agg (bv a).toArray] wz fun e w' => ∃ r, e = .returned (.agg r.toArray) ∧ KAcct G W r (lookY d.accts a) ∧ Below wz.heap.size wz w' := fun a ha wz hz => hcwW.accountAt hg hz a ha
  have HACC := hide hacc
  have hrgW : ∀ wz, Below W.heap.size W wz → wz.rangeAt w3.heap.size 0 (bv ta) := fun wz hz => unhide HRG wz (d8.thn hz)
  have hsrW : ∀ wz, Below W.heap.size W wz → wz.rangeAt gf (o + 12) (bv sf) := fun wz hz => unhide HSRG wz (d8.thn hz)
  have HRGW := hide hrgW
  have HSRW := hide hsrW
  clear m8 hacc hcwW d5 HRG HSRG hrgW hsrW
  go_upto_region 5 with fail
  go_cut [7] (fun s7 wc => ∃ (g : Nat) (rr : List Value), s7 = .pointer (some ⟨g, 0, none⟩) ∧ RowT 113 wc g rr ∧ KAcct G W rr (lookY d.accts ta) ∧ Below W.heap.size W wc)
  case first =>
    refine wp_region_noPanic ?_
    refine wp_region_held_drew (S := fun w' => Below W.heap.size W w') (by kernel_rfl) (dW) (fun hHeld => ?_)
    refine held_takeD 0 (.pointer (some ⟨bw, 0, none⟩)) (some 21) (by rfl) (by rfl) (by kernel_rfl) (by kernel_rfl) (by kernel_rfl) (fun _ _ _ h => h) (.inl ⟨by rfl, fun _ _ => by rfl⟩) (hHeld) ?_
    simp only [Act.put, List.setIfInBounds_toArray, List.set_cons_zero, List.set_cons_succ]
    refine held_takeD 1 (.pointer (some ⟨bw, 0, none⟩)) (some 22) (by rfl) (by rfl) (by kernel_rfl) (by kernel_rfl) (by kernel_rfl) (fun _ _ _ h => h) (.inl ⟨by rfl, fun _ _ => by go_simp⟩) (hHeld) ?_
    simp only [Act.put, List.setIfInBounds_toArray, List.set_cons_zero, List.set_cons_succ]
    refine held_takeD 2 (.pointer (some ⟨bw, 0, none⟩)) (some 23) (by rfl) (by rfl) (by kernel_rfl) (by kernel_rfl) (by kernel_rfl) (fun _ _ _ h => h) (.inl ⟨by rfl, fun _ _ => by go_simp⟩) (hHeld) ?_
    simp only [Act.put, List.setIfInBounds_toArray, List.set_cons_zero, List.set_cons_succ]
    refine held_takeD 3 (.agg (bv ta).toArray) (some 24) (by rfl) (by rfl) (by kernel_rfl) (by kernel_rfl) (by kernel_rfl) (fun _ _ _ h => h) (yieldsIf_load_mid (by rfl) _ _ rfl _ _ rfl _ _ (fun wz hS => unhide HRGW wz hS) hu rfl htz) (hHeld) ?_
    simp only [Act.put, List.setIfInBounds_toArray, List.set_cons_zero, List.set_cons_succ]
    refine held_two 4 5 (by kernel_rfl) (by rfl) (by rfl) (fun K' hK' => ?_) (fun K' hK' => ?_)
    · go_simp
      refine (unhide HACC ta hta _ dW).mono ?_
      rintro e w2 ⟨r, rfl, hrow, b2⟩
      have d2 := dW.trans (b2.mono dW.size)
      have hrl := hrow.now.len
      refine hK'.out _ _ (d2) ?_
      clear hK' K'
      refine held_one 5 (by kernel_rfl) (by rfl) (fun K' hK' => ?_)
      refine if_alloc (some 7) rfl 113 rfl (by rfl) _ 24 infoAcct2 (by simp [bv_len, zeros_len]) (fun wA rA bA sA => ?_)
      have dA := d2.trans (bA.mono d2.size)
      refine hK'.out _ _ (dA) ?_
      clear hK' K'
      simp only [Act.put, List.setIfInBounds_toArray, List.set_cons_zero, List.set_cons_succ]
      refine held_one 6 (by kernel_rfl) (by rfl) (fun K' hK' => ?_)
      refine if_store rfl (by rfl) 113 (.tmp 7) (.tmp 25) rfl w2.heap.size 0 113 _ r rfl rfl rA (by rw [hrl]; simp [bv_len, zeros_len]) (by rw [hrl]; exact sizeAcct) hrow.now.one (fun wS rS oS => ?_)
      have dS : Below W.heap.size W wS := dA.trans (oS.below _ (by exact d2.size))
      refine hK'.out _ _ (dS) ?_
      clear hK' K'
      refine wpAnyH_done (by kernel_rfl) ?_ _
      refine NoPanic.normal ?_
      rw [spl_all _ _ (by rw [hrl]; simp [bv_len, zeros_len])] at rS
      go_wp2_with fail
      go_meet
      case rel => exact ⟨_, r, rfl, rS, hrow, dS⟩
    · refine if_alloc (some 7) rfl 113 rfl (by rfl) _ 24 infoAcct2 (by simp [bv_len, zeros_len]) (fun wA rA bA sA => ?_)
      have dA := dW.trans (bA.mono dW.size)
      refine hK'.out _ _ (dA) ?_
      clear hK' K'
      simp only [Act.put, List.setIfInBounds_toArray, List.set_cons_zero, List.set_cons_succ]
      refine held_one 4 (by kernel_rfl) (by rfl) (fun K' hK' => ?_)
      go_simp
      refine (unhide HACC ta hta _ dA).mono ?_
      rintro e w2 ⟨r, rfl, hrow, b2⟩
      have d2 := dA.trans (b2.mono dA.size)
      have hrl := hrow.now.len
      refine hK'.out _ _ (d2) ?_
      clear hK' K'
      refine held_one 6 (by kernel_rfl) (by rfl) (fun K' hK' => ?_)
      refine if_store rfl (by rfl) 113 (.tmp 7) (.tmp 25) rfl W.heap.size 0 113 _ r rfl rfl (rA.kept b2) (by rw [hrl]; simp [bv_len, zeros_len]) (by rw [hrl]; exact sizeAcct) hrow.now.one (fun wS rS oS => ?_)
      have dS : Below W.heap.size W wS := d2.trans (oS.below _ (by exact Nat.le_refl _))
      refine hK'.out _ _ (dS) ?_
      clear hK' K'
      refine wpAnyH_done (by kernel_rfl) ?_ _
      refine NoPanic.normal ?_
      rw [spl_all _ _ (by rw [hrl]; simp [bv_len, zeros_len])] at rS
      go_wp2_with fail
      go_meet
      case rel => exact ⟨_, r, rfl, rS, hrow, dS⟩
  case rest =>
  obtain ⟨V, hVe⟩ : ∃ V, V = wc := ⟨_, rfl⟩
  subst hVe
  obtain ⟨g, rr, rfl, hrr, hrow, dV⟩ := hcut
  have hE := empty_any g rr (lookY d.accts ta) V.drew (hrr.kept (Quiet.below ⟨1, rfl⟩ _)) (hrow.go (ChgS.of (dV.thn (Quiet.below ⟨1, rfl⟩ _)))).now (hg.lookB ta).1 (hg.lookB ta).2
  generalize emptyY (lookY d.accts ta) = eb at hE
  have HE := hide hE
  have dVd : Below W.heap.size W V.drew := dV.thn (Quiet.below ⟨1, rfl⟩ _)
  clear hE hrr hrow
  go_upto_region 6 with fail
  go_cut [39] (fun s39 wc => (∃ b, s39 = .bool b) ∧ Below W.heap.size W wc)
  case first =>
    cases eb
    · refine wp_region_noPanic ?_
      refine wp_region_held_drew (S := fun w' => Below W.heap.size W w') (by kernel_rfl) (dVd) (fun hHeld => ?_)
      refine held_one 0 (by kernel_rfl) (by rfl) (fun K' hK' => ?_)
      go_simp
      refine (unhide HE).mono ?_
      rintro e w9 ⟨rfl, q9⟩
      refine hK'.out _ _ (dVd.thn (q9.below _)) ?_
      clear hK' K'
      have d9 : Below W.heap.size W w9 := dVd.thn (q9.below _)
      refine held_takeD 1 (.bool false) (some 27) (by rfl) (by rfl) (by kernel_rfl) (by kernel_rfl) (by kernel_rfl) (fun _ _ _ h => h) (.inl ⟨by rfl, fun _ _ => by rfl⟩) (d9) ?_
      simp only [Act.put, List.setIfInBounds_toArray, List.set_cons_zero, List.set_cons_succ]
      refine held_takeD 2 undef (some 28) (by rfl) (by rfl) (by kernel_rfl) (by kernel_rfl) (by kernel_rfl) (fun _ _ _ h => h) (.inr ⟨by rfl, rfl⟩) (d9) ?_
      simp only [Act.put, List.setIfInBounds_toArray, List.set_cons_zero, List.set_cons_succ]
      refine held_takeD 3 undef (some 29) (by rfl) (by rfl) (by kernel_rfl) (by kernel_rfl) (by kernel_rfl) (fun _ _ _ h => h) (.inr ⟨by rfl, rfl⟩) (d9) ?_
      simp only [Act.put, List.setIfInBounds_toArray, List.set_cons_zero, List.set_cons_succ]
      refine held_takeD 4 undef (some 30) (by rfl) (by rfl) (by kernel_rfl) (by kernel_rfl) (by kernel_rfl) (fun _ _ _ h => h) (.inr ⟨by rfl, rfl⟩) (d9) ?_
      simp only [Act.put, List.setIfInBounds_toArray, List.set_cons_zero, List.set_cons_succ]
      refine held_takeD 5 undef (some 31) (by rfl) (by rfl) (by kernel_rfl) (by kernel_rfl) (by kernel_rfl) (fun _ _ _ h => h) (.inr ⟨by rfl, rfl⟩) (d9) ?_
      simp only [Act.put, List.setIfInBounds_toArray, List.set_cons_zero, List.set_cons_succ]
      refine held_takeD 6 undef (some 32) (by rfl) (by rfl) (by kernel_rfl) (by kernel_rfl) (by kernel_rfl) (fun _ _ _ h => h) (.inr ⟨by rfl, rfl⟩) (d9) ?_
      simp only [Act.put, List.setIfInBounds_toArray, List.set_cons_zero, List.set_cons_succ]
      refine held_takeD 7 undef (some 33) (by rfl) (by rfl) (by kernel_rfl) (by kernel_rfl) (by kernel_rfl) (fun _ _ _ h => h) (.inr ⟨by rfl, rfl⟩) (d9) ?_
      simp only [Act.put, List.setIfInBounds_toArray, List.set_cons_zero, List.set_cons_succ]
      refine held_takeD 8 undef (some 34) (by rfl) (by rfl) (by kernel_rfl) (by kernel_rfl) (by kernel_rfl) (fun _ _ _ h => h) (.inr ⟨by rfl, rfl⟩) (d9) ?_
      simp only [Act.put, List.setIfInBounds_toArray, List.set_cons_zero, List.set_cons_succ]
      refine held_takeD 9 undef (some 35) (by rfl) (by rfl) (by kernel_rfl) (by kernel_rfl) (by kernel_rfl) (fun _ _ _ h => h) (.inr ⟨by rfl, rfl⟩) (d9) ?_
      simp only [Act.put, List.setIfInBounds_toArray, List.set_cons_zero, List.set_cons_succ]
      refine held_takeD 10 undef (some 36) (by rfl) (by rfl) (by kernel_rfl) (by kernel_rfl) (by kernel_rfl) (fun _ _ _ h => h) (.inr ⟨by rfl, rfl⟩) (d9) ?_
      simp only [Act.put, List.setIfInBounds_toArray, List.set_cons_zero, List.set_cons_succ]
      refine held_takeD 11 undef (some 37) (by rfl) (by rfl) (by kernel_rfl) (by kernel_rfl) (by kernel_rfl) (fun _ _ _ h => h) (.inr ⟨by rfl, rfl⟩) (d9) ?_
      simp only [Act.put, List.setIfInBounds_toArray, List.set_cons_zero, List.set_cons_succ]
      refine held_takeD 12 undef (some 38) (by rfl) (by rfl) (by kernel_rfl) (by kernel_rfl) (by kernel_rfl) (fun _ _ _ h => h) (.inr ⟨by rfl, rfl⟩) (d9) ?_
      simp only [Act.put, List.setIfInBounds_toArray, List.set_cons_zero, List.set_cons_succ]
      refine held_takeD 13 (.bool false) (some 39) (by rfl) (by rfl) (by kernel_rfl) (by kernel_rfl) (by kernel_rfl) (fun _ _ _ h => h) (.inl ⟨by rfl, fun _ _ => by go_simp⟩) (d9) ?_
      simp only [Act.put, List.setIfInBounds_toArray, List.set_cons_zero, List.set_cons_succ]
      refine wpAnyH_done (by kernel_rfl) ?_ _
      refine NoPanic.normal ?_
      go_wp2_with fail
      go_meet
      case rel => exact ⟨⟨_, rfl⟩, d9⟩
    · refine wp_region_noPanic ?_
      refine wp_region_held_drew (S := fun w' => Below W.heap.size W w') (by kernel_rfl) (dVd) (fun hHeld => ?_)
      refine held_one 0 (by kernel_rfl) (by rfl) (fun K' hK' => ?_)
      go_simp
      refine (unhide HE).mono ?_
      rintro e w9 ⟨rfl, q9⟩
      refine hK'.out _ _ (dVd.thn (q9.below _)) ?_
      clear hK' K'
      have d9 : Below W.heap.size W w9 := dVd.thn (q9.below _)
      refine held_takeD 1 (.bool true) (some 27) (by rfl) (by rfl) (by kernel_rfl) (by kernel_rfl) (by kernel_rfl) (fun _ _ _ h => h) (.inl ⟨by rfl, fun _ _ => by rfl⟩) (d9) ?_
      simp only [Act.put, List.setIfInBounds_toArray, List.set_cons_zero, List.set_cons_succ]
      refine held_takeD 2 (.pointer (some ⟨bw, 0, none⟩)) (some 28) (by rfl) (by rfl) (by kernel_rfl) (by kernel_rfl) (by kernel_rfl) (fun _ _ _ h => h) (.inl ⟨by rfl, fun _ _ => by rfl⟩) (d9) ?_
      simp only [Act.put, List.setIfInBounds_toArray, List.set_cons_zero, List.set_cons_succ]
      refine held_takeD 3 (.pointer (some ⟨bw, 0, none⟩)) (some 29) (by rfl) (by rfl) (by kernel_rfl) (by kernel_rfl) (by kernel_rfl) (fun _ _ _ h => h) (.inl ⟨by rfl, fun _ _ => by go_simp⟩) (d9) ?_
      simp only [Act.put, List.setIfInBounds_toArray, List.set_cons_zero, List.set_cons_succ]
      refine held_takeD 4 (.pointer (some ⟨bw, 0, none⟩)) (some 30) (by rfl) (by rfl) (by kernel_rfl) (by kernel_rfl) (by kernel_rfl) (fun _ _ _ h => h) (.inl ⟨by rfl, fun _ _ => by go_simp⟩) (d9) ?_
      simp only [Act.put, List.setIfInBounds_toArray, List.set_cons_zero, List.set_cons_succ]
      refine held_takeD 5 (.pointer (some ⟨gf, o, none⟩)) (some 31) (by rfl) (by rfl) (by kernel_rfl) (by kernel_rfl) (by kernel_rfl) (fun _ _ _ h => h) (.inl ⟨by rfl, fun _ _ => by rfl⟩) (d9) ?_
      simp only [Act.put, List.setIfInBounds_toArray, List.set_cons_zero, List.set_cons_succ]
      refine held_takeD 6 (.pointer (some ⟨gf, o, none⟩)) (some 32) (by rfl) (by rfl) (by kernel_rfl) (by kernel_rfl) (by kernel_rfl) (fun _ _ _ h => h) (.inl ⟨by rfl, fun _ _ => by go_simp⟩) (d9) ?_
      simp only [Act.put, List.setIfInBounds_toArray, List.set_cons_zero, List.set_cons_succ]
      refine held_takeD 7 (.pointer (some ⟨gf, o + 12, none⟩)) (some 33) (by rfl) (by rfl) (by kernel_rfl) (by kernel_rfl) (by kernel_rfl) (fun _ _ _ h => h) (.inl ⟨by rfl, fun _ _ => by go_simp⟩) (d9) ?_
      simp only [Act.put, List.setIfInBounds_toArray, List.set_cons_zero, List.set_cons_succ]
      refine held_takeD 8 (.agg (bv sf).toArray) (some 34) (by rfl) (by rfl) (by kernel_rfl) (by kernel_rfl) (by kernel_rfl) (fun _ _ _ h => h) (yieldsIf_load_mid (by rfl) _ _ rfl _ _ rfl _ _ (fun wz hS => unhide HSRW wz hS) hu rfl hsz) (d9) ?_
      simp only [Act.put, List.setIfInBounds_toArray, List.set_cons_zero, List.set_cons_succ]
      refine held_one 9 (by kernel_rfl) (by rfl) (fun K' hK' => ?_)
      go_simp
      refine (unhide HACC sf hslf _ d9).mono ?_
      rintro e w10 ⟨rs, rfl, hrs, b10⟩
      refine hK'.out _ _ (d9.thn b10) ?_
      clear hK' K'
      have d10 : Below W.heap.size W w10 := d9.thn b10
      obtain ⟨B1, j1, e1, B2, j2, e2, B3, j3, e3, B4, j4, e4, q20, q21, q22, q23, s1, s2, s3, s4⟩ := hrs.cells
      have hfld := run_field_slice fldBal Sakg.underlying54 rs _ q21
      refine held_takeD 10 (.slice B2 j2 e2) (some 36) (by rfl) (by rfl) (by kernel_rfl) (by kernel_rfl) (by kernel_rfl) (fun _ _ _ h => h) (.inl ⟨by rfl, fun _ _ => by go_simp⟩) (d10) ?_
      simp only [Act.put, List.setIfInBounds_toArray, List.set_cons_zero, List.set_cons_succ]
      refine held_one 11 (by kernel_rfl) (by rfl) (fun K' hK' => ?_)
      go_simp
      refine (isZero_any B2 j2 e2 _ w10 (s2.kp (ChgS.of d10)).now (hg.lookB sf).2).mono ?_
      rintro e w11 ⟨rfl, q11⟩
      refine hK'.out _ _ (d10.thn (q11.below _)) ?_
      clear hK' K'
      have d11 : Below W.heap.size W w11 := d10.thn (q11.below _)
      refine held_takeD 12 (.bool (!decide ((lookY d.accts sf).bal = 0))) (some 38) (by rfl) (by rfl) (by kernel_rfl) (by kernel_rfl) (by kernel_rfl) (fun _ _ _ h => h) (.inl ⟨by rfl, fun _ _ => by go_simp⟩) (d11) ?_
      simp only [Act.put, List.setIfInBounds_toArray, List.set_cons_zero, List.set_cons_succ]
      refine held_takeD 13 (.bool (!decide ((lookY d.accts sf).bal = 0))) (some 39) (by rfl) (by rfl) (by kernel_rfl) (by kernel_rfl) (by kernel_rfl) (fun _ _ _ h => h) (.inl ⟨by rfl, fun _ _ => by go_simp⟩) (d11) ?_
      simp only [Act.put, List.setIfInBounds_toArray, List.set_cons_zero, List.set_cons_succ]
      refine wpAnyH_done (by kernel_rfl) ?_ _
      refine NoPanic.normal ?_
      generalize (!decide ((lookY d.accts sf).bal = 0)) = zz
      clear hrs s1 s2 s3 s4 hfld q20 q21 q22 q23
      go_wp2_with fail
      go_meet
      case rel => exact ⟨⟨_, rfl⟩, d11⟩
  case rest =>
  obtain ⟨U, hUe⟩ : ∃ U, U = wc := ⟨_, rfl⟩
  subst hUe
  obtain ⟨⟨nb, rfl⟩, dU⟩ := hcut
  have hU : Below w.heap.size w U := dW0.thn dU
  cases nb
  · go_wp2
    go_ret
    exact ⟨A8, k8, c8, n8, rfl, (unhide NN8).kept dU, M8, by omega, by omega, hU⟩
  · have HN6 := hide (num_any 25000 U (by omega))
    go_wp2_with fail
    refine (unhide HN6).mono ?_
    rintro e w6 ⟨A6, k6, c6, rfl, n6, N6, b6⟩
    have HAD := hide (((unhide NN8).kept (dU.thn b6)).add n6 (by omega) (by omega))
    clear n6
    go_wp2_with (go_at_call 59; refine (unhide HAD).mono ?_; rintro e w7 ⟨A7, k7, c7, rfl, n7, N7, b7⟩; have NN7 := hide n7; clear n7)
    go_ret
    exact ⟨A7, k7, c7, n8 + 25000, rfl, unhide NN7, N7.later (hU.thn b6).size, by omega, by omega, hU.thn (b6.thn b7)⟩
end

end Go.Proofs.YgcsakGreat
