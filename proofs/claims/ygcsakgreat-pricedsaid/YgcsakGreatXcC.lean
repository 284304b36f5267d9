/-
  yp, exactly: SSTORE where a cold slot of 1 is cleared.
-/
import Derived.Test.YgcsakGreatKgF0
import Derived.Test.YgcsakGreatXwA
import Derived.Test.YgcsakGreatXwC
namespace Go.Proofs.YgcsakGreat
set_option linter.unusedVariables false
set_option linter.unusedSimpArgs false
set_option maxRecDepth 100000
open Go.RowKit

def SstX (w : World) (e : Ending) (w' : World) : Prop := ∃ A k c A' k' c', e = .returned (.tuple #[.slice A k c, .slice A' k' c', .slice none 0 0]) ∧ IsNat w' A k c 5000 ∧ IsNat w' A' k' c' 4800 ∧ New w A ∧ New w A' ∧ Below w.heap.size w w'
set_option maxHeartbeats 16000000 in
theorem sstoreF_x (Ao Av An : Option Addr) (lo co lv cv ln cn : Nat) (w : World) (ho : IsNat w Ao lo co 1) (hv : IsNat w Av lv cv 1) (hn : IsNat w An ln cn 0) :
    Calls Sakg.prog 485 #[.slice Ao lo co, .slice Av lv cv, .slice An ln cn, .bool true] w (SstX w) := by
  have hBB := big_ge
  have HO := hide ho
  have HV := hide hv
  have HN := hide hn
  have HC1 := hide (hn.cmp hv (by omega) (by omega))
  rw [show cmpI 0 1 = -1 from rfl] at HC1
  clear ho hv hn
  go_enter Sakg.func485, Sakg.ntmps485
  go_wp2_with fail
  refine (unhide HC1).mono ?_
  rintro e w1 ⟨rfl, q1⟩
  have b1 : Below w.heap.size w w1 := q1.below _
  have HC := hide (((unhide HV).kept b1).cmp ((unhide HO).kept b1) (by omega) (by omega))
  rw [show cmpI 1 1 = 0 from rfl] at HC
  clear q1
  go_wp2_with fail
  refine (unhide HC).mono ?_
  rintro e w2 ⟨rfl, q2⟩
  have d2 : Below w.heap.size w w2 := b1.thn (q2.below _)
  clear q2 HC HC1
  have HZ := hide (isZero_any Ao lo co 1 w2 ((unhide HO).kept d2) (by omega))
  rw [decide_eq_false (show ¬ (1 : Nat) = 0 by omega)] at HZ
  go_wp2_with fail
  refine (unhide HZ).mono ?_
  rintro e w3 ⟨rfl, q3⟩
  have d3 : Below w.heap.size w w3 := d2.thn (q3.below _)
  clear q3
  go_wp2_with fail
  refine (num_any 2900 w3 (by omega)).mono ?_
  rintro e w4 ⟨A4, k4, c4, rfl, n4, N4, b4⟩
  have d4 : Below w.heap.size w w4 := d3.thn b4
  have NN4 := hide n4
  clear n4
  go_wp2_with fail
  refine (num_any 2100 w4 (by omega)).mono ?_
  rintro e w5 ⟨A5, k5, c5, rfl, n5, N5, b5⟩
  have HAD := hide (((unhide NN4).kept b5).add n5 (by omega) (by omega))
  clear n5
  go_wp2_with fail
  refine (unhide HAD).mono ?_
  rintro e w6 ⟨A6, k6, c6, rfl, n6, N6, b6⟩
  have d6 : Below w.heap.size w w6 := d4.thn (b5.thn b6)
  have NN6 := hide n6
  have HZ1 := hide (isZero_any Ao lo co 1 w6 ((unhide HO).kept d6) (by omega))
  rw [decide_eq_false (show ¬ (1 : Nat) = 0 by omega)] at HZ1
  clear n6
  go_wp2_with fail
  refine (unhide HZ1).mono ?_
  rintro e w7 ⟨rfl, q7⟩
  have b7 : Below w6.heap.size w6 w7 := q7.below _
  have d7 : Below w.heap.size w w7 := d6.thn b7
  have HZ2 := hide (isZero_any An ln cn 0 w7 ((unhide HN).kept d7) (by omega))
  rw [decide_eq_true (rfl : (0 : Nat) = 0)] at HZ2
  clear q7
  go_wp2_with fail
  refine (unhide HZ2).mono ?_
  rintro e w8 ⟨rfl, q8⟩
  have b8 : Below w6.heap.size w6 w8 := b7.thn (q8.below _)
  have d8 : Below w.heap.size w w8 := d6.thn b8
  clear q8
  go_wp2_with fail
  refine (num_any 4800 w8 (by omega)).mono ?_
  rintro e w9 ⟨A9, k9, c9, rfl, n9, N9, b9⟩
  have NN9 := hide n9
  clear n9
  go_wp2
  go_ret3
  exact ⟨A6, k6, c6, A9, k9, c9, rfl, (unhide NN6).kept (b8.thn b9), unhide NN9, N6.later (d4.thn b5).size, N9.later d8.size, d8.thn b9⟩
/-- the top frame clears a cold slot that was 1 at the start and is 1 -/
structure Clears (d : WD) (f : FD) (x : XD) : Prop where
  cold : (f.self, argN f.stk 0) ∉ d.warmS
  orig : (∃ t ∈ x.start, t.addr = f.self ∧ t.key = argN f.stk 0) ∧ ∀ t ∈ x.start, t.addr = f.self → t.key = argN f.stk 0 → t.val = 1
  load : (∃ t ∈ (lookY d.accts f.self).slots, t.1 = argN f.stk 0) ∧ ∀ t ∈ (lookY d.accts f.self).slots, t.1 = argN f.stk 0 → t.2 = 1
  new : argN f.stk 1 = 0
section
variable {G : Nat → Prop} {bw gf : Nat} {cs fr : List Value} {d : WD} {f : FD} {r : List FD} {x : XD} {w : World} {B : Nat}
theorem SR.origX {fs : List FD} (h : SR G bw gf cs fr d fs x w) (hx : XB x) (a : List Int) (ha : IsAddr a) (A : Option Addr) (k c2 m : Nat) (hn : KNat G w A k c2 m) (hm : m < BIG) (ho : (∃ t ∈ x.start, t.addr = a ∧ t.key = m) ∧ ∀ t ∈ x.start, t.addr = a → t.key = m → t.val = 1) :
    Calls Sakg.prog 486 #[.pointer (some ⟨bw, 0, none⟩), .agg (bv a).toArray, .slice A k c2] w fun e w' => (∃ A k c, e = .returned (.slice A k c) ∧ KNat G w' A k c 1) ∧ Below w.heap.size w w' := by
  obtain ⟨ao, l, c, h1, h2⟩ := h.xs.start
  have hl := h2.len
  have := hx.nstart
  refine (orig_x G bw w ao l c x.start h2 (h.cw.cell h1) (by omega) a ha A k c2 m hn hm).mono ?_
  rintro e w' ⟨⟨A', k', c', v, he, hk, hv⟩, hb⟩
  refine ⟨⟨A', k', c', he, ?_⟩, hb⟩
  rcases hv with ⟨-, hv⟩ | ⟨t, ht, h5, h6, h7⟩
  · obtain ⟨t, ht, h8⟩ := ho.1
    exact absurd h8 (hv t ht)
  · rw [← h7, ho.2 t ht h5 h6] at hk
    exact hk
theorem CW.loadX (h : CW G bw cs d w) (hg : Good B d) (a : List Int) (ha : IsAddr a) (A : Option Addr) (k c2 m : Nat) (hn : KNat G w A k c2 m) (hm : m < BIG) (ho : (∃ t ∈ (lookY d.accts a).slots, t.1 = m) ∧ ∀ t ∈ (lookY d.accts a).slots, t.1 = m → t.2 = 1) :
    Calls Sakg.prog 308 #[.pointer (some ⟨bw, 0, none⟩), .agg (bv a).toArray, .slice A k c2] w fun e w' => (∃ A k c, e = .returned (.slice A k c) ∧ KNat G w' A k c 1) ∧ Below w.heap.size w w' := by
  obtain ⟨ao, l, c, h1, h2⟩ := h.kw.accts
  have hl := h2.len
  have := hg.na
  have := hg.nsl a
  have ga := hg.acc.look a
  refine (load_x G bw w ao l c d.accts h2 (h.cell h1) (by omega) a ha A k c2 m hn hm (fun s hs => Nat.lt_trans (ga.slots s hs).1 p256_lt) (by omega)).mono ?_
  rintro e w' ⟨⟨A', k', c', v, he, hk, hv⟩, hb⟩
  refine ⟨⟨A', k', c', he, ?_⟩, hb⟩
  rcases hv with ⟨-, hv⟩ | ⟨t, ht, h5, h7⟩
  · obtain ⟨t, ht, h8⟩ := ho.1
    exact absurd h8 (hv t ht)
  · rw [← h7, ho.2 t ht h5] at hk
    exact hk
set_option maxHeartbeats 8000000 in
theorem SR.sstoreX (h : SR G bw gf cs fr d (f :: r) x w) (hx : XB x) (hg : Good B d) (hf : AnyF f) (hc : Clears d f x) :
    Calls Sakg.prog 423 #[.pointer (some ⟨bw, 0, none⟩), .pointer (some ⟨gf, 60 * r.length, none⟩)] w (SstX w) := by
  have hs := argN_lt hf.stk
  have hsl := hf.slen
  have hfx := h.fx
  obtain ⟨o, ho⟩ : ∃ o, o = 60 * r.length := ⟨_, rfl⟩
  rw [← ho] at hfx ⊢
  have HX := hide hx
  have HSR := hide h
  have HF := hide hfx
  have HS := hide hs
  have hslf := hfx.kf.selfA
  have hu := Sakg.underlying26
  have hsz := hslf.size
  obtain ⟨sf, hsf⟩ : ∃ sf, sf = f.self := ⟨_, rfl⟩
  have HSF := hide hsf
  rw [← hsf] at hslf hsz
  have hcc := hc.cold
  have hco := hc.orig
  have hcl := hc.load
  have hcn := hc.new
  rw [← hsf] at hcc hco hcl
  obtain ⟨a0, hA0⟩ : ∃ a0, a0 = argN f.stk 0 := ⟨_, rfl⟩
  rw [← hA0] at hcc hco hcl
  have HA0 := hide hA0
  have HCC := hide hcc
  have HCO := hide hco
  have HCL := hide hcl
  have HCN := hide hcn
  clear h hfx hx hs ho hsf hcc hco hcl hcn hc hA0
  go_enter Sakg.func423, Sakg.ntmps423
  have HC1 := hide ((unhide HF).arg (by omega) 0 (by omega))
  go_wp2_with fail
  refine (unhide HC1).mono ?_
  rintro e w1 ⟨⟨A1, k1, c1, rfl, s1⟩, q1⟩
  have b1 : Below w.heap.size w w1 := q1.below _
  have KK1 := hide s1
  clear HC1 s1 q1
  have hK1 : ∀ wz, Below w1.heap.size w1 wz → KNat G wz A1 k1 c1 (argN f.stk 0) := fun wz hz => (unhide KK1).kp (ChgS.of (b1.thn hz))
  have hR1 : ∀ wz, Below w1.heap.size w1 wz → SR G bw gf cs fr d (f :: r) x wz := fun wz hz => (unhide HSR).kept (b1.thn hz)
  have hF1 : ∀ wz, Below w1.heap.size w1 wz → FX G gf o fr f wz := fun wz hz => (unhide HF).kept (b1.thn hz)
  have hr1 : ∀ wz, Below w1.heap.size w1 wz → wz.rangeAt gf (o + 12) (bv sf) := fun wz hz => by have := (hF1 wz hz).selfR; rwa [← unhide HSF] at this
  have HK1 := hide hK1
  have HR1 := hide hR1
  have HF1 := hide hF1
  have HRG := hide hr1
  have d1 : Below w1.heap.size w1 w1.drew := Quiet.below ⟨1, rfl⟩ _
  have ha0 : argN f.stk 0 < BIG := Nat.lt_trans (unhide HS 0) p256_lt
  have ha1 : argN f.stk 1 < BIG := Nat.lt_trans (unhide HS 1) p256_lt
  rw [← unhide HA0] at HK1 ha0
  clear hK1 hR1 hF1 hr1
  go_upto_region 2 with fail
  refine wp_region_noPanic ?_
  refine wp_region_held_drew (S := fun w' => Below w1.heap.size w1 w') (by kernel_rfl) (d1) (fun hHeld => ?_)
  refine held_takeD 0 (.pointer (some ⟨bw, 0, none⟩)) (some 11) (by rfl) (by rfl) (by kernel_rfl) (by kernel_rfl) (by kernel_rfl) (fun _ _ _ h => h) (.inl ⟨by rfl, fun _ _ => by rfl⟩) (hHeld) ?_
  simp only [Act.put, List.setIfInBounds_toArray, List.set_cons_zero, List.set_cons_succ]
  refine held_takeD 1 (.pointer (some ⟨bw, 0, none⟩)) (some 12) (by rfl) (by rfl) (by kernel_rfl) (by kernel_rfl) (by kernel_rfl) (fun _ _ _ h => h) (.inl ⟨by rfl, fun _ _ => by go_simp⟩) (hHeld) ?_
  simp only [Act.put, List.setIfInBounds_toArray, List.set_cons_zero, List.set_cons_succ]
  refine held_takeD 2 (.pointer (some ⟨bw, 0, none⟩)) (some 13) (by rfl) (by rfl) (by kernel_rfl) (by kernel_rfl) (by kernel_rfl) (fun _ _ _ h => h) (.inl ⟨by rfl, fun _ _ => by go_simp⟩) (hHeld) ?_
  simp only [Act.put, List.setIfInBounds_toArray, List.set_cons_zero, List.set_cons_succ]
  refine held_takeD 3 (.pointer (some ⟨gf, o, none⟩)) (some 14) (by rfl) (by rfl) (by kernel_rfl) (by kernel_rfl) (by kernel_rfl) (fun _ _ _ h => h) (.inl ⟨by rfl, fun _ _ => by rfl⟩) (hHeld) ?_
  simp only [Act.put, List.setIfInBounds_toArray, List.set_cons_zero, List.set_cons_succ]
  refine held_takeD 4 (.pointer (some ⟨gf, o, none⟩)) (some 15) (by rfl) (by rfl) (by kernel_rfl) (by kernel_rfl) (by kernel_rfl) (fun _ _ _ h => h) (.inl ⟨by rfl, fun _ _ => by go_simp⟩) (hHeld) ?_
  simp only [Act.put, List.setIfInBounds_toArray, List.set_cons_zero, List.set_cons_succ]
  refine held_takeD 5 (.pointer (some ⟨gf, o + 12, none⟩)) (some 16) (by rfl) (by rfl) (by kernel_rfl) (by kernel_rfl) (by kernel_rfl) (fun _ _ _ h => h) (.inl ⟨by rfl, fun _ _ => by go_simp⟩) (hHeld) ?_
  simp only [Act.put, List.setIfInBounds_toArray, List.set_cons_zero, List.set_cons_succ]
  refine held_takeD 6 (.agg (bv sf).toArray) (some 17) (by rfl) (by rfl) (by kernel_rfl) (by kernel_rfl) (by kernel_rfl) (fun _ _ _ h => h) (yieldsIf_load_mid (by rfl) _ _ rfl _ _ rfl _ _ (fun wz hS => unhide HRG wz hS) hu rfl hsz) (hHeld) ?_
  simp only [Act.put, List.setIfInBounds_toArray, List.set_cons_zero, List.set_cons_succ]
  refine held_takeD 7 (.slice A1 k1 c1) (some 18) (by rfl) (by rfl) (by kernel_rfl) (by kernel_rfl) (by kernel_rfl) (fun _ _ _ h => h) (.inl ⟨by rfl, fun _ _ => by rfl⟩) (hHeld) ?_
  simp only [Act.put, List.setIfInBounds_toArray, List.set_cons_zero, List.set_cons_succ]
  refine held_one 8 (by kernel_rfl) (by rfl) (fun K' hK' => ?_)
  go_simp
  refine ((unhide HR1 _ d1).cw.isWarmSlotX hg sf hslf A1 k1 c1 a0 (unhide HK1 _ d1) ha0).mono ?_
  rintro e w2 ⟨rfl, b2⟩
  refine hK'.out _ _ (d1.thn b2) ?_
  clear hK' K'
  have d2 : Below w1.heap.size w1 w2 := d1.thn b2
  rw [decide_eq_false (unhide HCC)]
  refine held_takeD 9 (.bool true) (some 20) (by rfl) (by rfl) (by kernel_rfl) (by kernel_rfl) (by kernel_rfl) (fun _ _ _ h => h) (.inl ⟨by rfl, fun _ _ => by go_simp⟩) (d2) ?_
  simp only [Act.put, List.setIfInBounds_toArray, List.set_cons_zero, List.set_cons_succ]
  refine held_takeD 10 (.bool true) (some 8) (by rfl) (by rfl) (by kernel_rfl) (by kernel_rfl) (by kernel_rfl) (fun _ _ _ h => h) (.inl ⟨by rfl, fun _ _ => by rfl⟩) (d2) ?_
  simp only [Act.put, List.setIfInBounds_toArray, List.set_cons_zero, List.set_cons_succ]
  refine wpAnyH_done (by kernel_rfl) ?_ _
  refine NoPanic.normal ?_
  go_upto_region 3 with fail
  have d3 : Below w1.heap.size w1 w2.drew := d2.thn (Quiet.below ⟨1, rfl⟩ _)
  refine wp_region_noPanic ?_
  refine wp_region_held_drew (S := fun w' => Below w1.heap.size w1 w') (by kernel_rfl) (d3) (fun hHeld => ?_)
  refine held_takeD 0 (.pointer (some ⟨bw, 0, none⟩)) (some 21) (by rfl) (by rfl) (by kernel_rfl) (by kernel_rfl) (by kernel_rfl) (fun _ _ _ h => h) (.inl ⟨by rfl, fun _ _ => by rfl⟩) (hHeld) ?_
  simp only [Act.put, List.setIfInBounds_toArray, List.set_cons_zero, List.set_cons_succ]
  refine held_takeD 1 (.pointer (some ⟨gf, o, none⟩)) (some 22) (by rfl) (by rfl) (by kernel_rfl) (by kernel_rfl) (by kernel_rfl) (fun _ _ _ h => h) (.inl ⟨by rfl, fun _ _ => by rfl⟩) (hHeld) ?_
  simp only [Act.put, List.setIfInBounds_toArray, List.set_cons_zero, List.set_cons_succ]
  refine held_takeD 2 (.pointer (some ⟨gf, o, none⟩)) (some 23) (by rfl) (by rfl) (by kernel_rfl) (by kernel_rfl) (by kernel_rfl) (fun _ _ _ h => h) (.inl ⟨by rfl, fun _ _ => by go_simp⟩) (hHeld) ?_
  simp only [Act.put, List.setIfInBounds_toArray, List.set_cons_zero, List.set_cons_succ]
  refine held_takeD 3 (.pointer (some ⟨gf, o + 12, none⟩)) (some 24) (by rfl) (by rfl) (by kernel_rfl) (by kernel_rfl) (by kernel_rfl) (fun _ _ _ h => h) (.inl ⟨by rfl, fun _ _ => by go_simp⟩) (hHeld) ?_
  simp only [Act.put, List.setIfInBounds_toArray, List.set_cons_zero, List.set_cons_succ]
  refine held_takeD 4 (.agg (bv sf).toArray) (some 25) (by rfl) (by rfl) (by kernel_rfl) (by kernel_rfl) (by kernel_rfl) (fun _ _ _ h => h) (yieldsIf_load_mid (by rfl) _ _ rfl _ _ rfl _ _ (fun wz hS => unhide HRG wz hS) hu rfl hsz) (hHeld) ?_
  simp only [Act.put, List.setIfInBounds_toArray, List.set_cons_zero, List.set_cons_succ]
  refine held_takeD 5 (.slice A1 k1 c1) (some 26) (by rfl) (by rfl) (by kernel_rfl) (by kernel_rfl) (by kernel_rfl) (fun _ _ _ h => h) (.inl ⟨by rfl, fun _ _ => by rfl⟩) (hHeld) ?_
  simp only [Act.put, List.setIfInBounds_toArray, List.set_cons_zero, List.set_cons_succ]
  refine held_takeD 7 (.pointer (some ⟨bw, 0, none⟩)) (some 28) (by rfl) (by rfl) (by kernel_rfl) (by kernel_rfl) (by kernel_rfl) (fun _ _ _ h => h) (.inl ⟨by rfl, fun _ _ => by rfl⟩) (hHeld) ?_
  simp only [Act.put, List.setIfInBounds_toArray, List.set_cons_zero, List.set_cons_succ]
  refine held_takeD 8 (.pointer (some ⟨bw, 0, none⟩)) (some 29) (by rfl) (by rfl) (by kernel_rfl) (by kernel_rfl) (by kernel_rfl) (fun _ _ _ h => h) (.inl ⟨by rfl, fun _ _ => by go_simp⟩) (hHeld) ?_
  simp only [Act.put, List.setIfInBounds_toArray, List.set_cons_zero, List.set_cons_succ]
  refine held_takeD 9 (.pointer (some ⟨bw, 0, none⟩)) (some 30) (by rfl) (by rfl) (by kernel_rfl) (by kernel_rfl) (by kernel_rfl) (fun _ _ _ h => h) (.inl ⟨by rfl, fun _ _ => by go_simp⟩) (hHeld) ?_
  simp only [Act.put, List.setIfInBounds_toArray, List.set_cons_zero, List.set_cons_succ]
  refine held_takeD 10 (.pointer (some ⟨gf, o, none⟩)) (some 31) (by rfl) (by rfl) (by kernel_rfl) (by kernel_rfl) (by kernel_rfl) (fun _ _ _ h => h) (.inl ⟨by rfl, fun _ _ => by rfl⟩) (hHeld) ?_
  simp only [Act.put, List.setIfInBounds_toArray, List.set_cons_zero, List.set_cons_succ]
  refine held_takeD 11 (.pointer (some ⟨gf, o, none⟩)) (some 32) (by rfl) (by rfl) (by kernel_rfl) (by kernel_rfl) (by kernel_rfl) (fun _ _ _ h => h) (.inl ⟨by rfl, fun _ _ => by go_simp⟩) (hHeld) ?_
  simp only [Act.put, List.setIfInBounds_toArray, List.set_cons_zero, List.set_cons_succ]
  refine held_takeD 12 (.pointer (some ⟨gf, o + 12, none⟩)) (some 33) (by rfl) (by rfl) (by kernel_rfl) (by kernel_rfl) (by kernel_rfl) (fun _ _ _ h => h) (.inl ⟨by rfl, fun _ _ => by go_simp⟩) (hHeld) ?_
  simp only [Act.put, List.setIfInBounds_toArray, List.set_cons_zero, List.set_cons_succ]
  refine held_takeD 13 (.agg (bv sf).toArray) (some 34) (by rfl) (by rfl) (by kernel_rfl) (by kernel_rfl) (by kernel_rfl) (fun _ _ _ h => h) (yieldsIf_load_mid (by rfl) _ _ rfl _ _ rfl _ _ (fun wz hS => unhide HRG wz hS) hu rfl hsz) (hHeld) ?_
  simp only [Act.put, List.setIfInBounds_toArray, List.set_cons_zero, List.set_cons_succ]
  refine held_takeD 14 (.slice A1 k1 c1) (some 35) (by rfl) (by rfl) (by kernel_rfl) (by kernel_rfl) (by kernel_rfl) (fun _ _ _ h => h) (.inl ⟨by rfl, fun _ _ => by rfl⟩) (hHeld) ?_
  simp only [Act.put, List.setIfInBounds_toArray, List.set_cons_zero, List.set_cons_succ]
  refine held_takeD 16 (.pointer (some ⟨gf, o, none⟩)) (some 37) (by rfl) (by rfl) (by kernel_rfl) (by kernel_rfl) (by kernel_rfl) (fun _ _ _ h => h) (.inl ⟨by rfl, fun _ _ => by rfl⟩) (hHeld) ?_
  simp only [Act.put, List.setIfInBounds_toArray, List.set_cons_zero, List.set_cons_succ]
  refine held_takeD 18 (.bool true) (some 39) (by rfl) (by rfl) (by kernel_rfl) (by kernel_rfl) (by kernel_rfl) (fun _ _ _ h => h) (.inl ⟨by rfl, fun _ _ => by rfl⟩) (hHeld) ?_
  simp only [Act.put, List.setIfInBounds_toArray, List.set_cons_zero, List.set_cons_succ]
  refine held_one 6 (by kernel_rfl) (by rfl) (fun K' hK' => ?_)
  go_simp
  refine ((unhide HR1 _ d3).origX (unhide HX) sf hslf A1 k1 c1 a0 (unhide HK1 _ d3) ha0 (unhide HCO)).mono ?_
  rintro e w4 ⟨⟨A4, k4, c4, rfl, K4⟩, b4⟩
  refine hK'.out _ _ (d3.thn b4) ?_
  clear hK' K'
  have d4 : Below w1.heap.size w1 w4 := d3.thn b4
  refine held_one 15 (by kernel_rfl) (by rfl) (fun K' hK' => ?_)
  go_simp
  refine ((unhide HR1 _ d4).cw.loadX hg sf hslf A1 k1 c1 a0 (unhide HK1 _ d4) ha0 (unhide HCL)).mono ?_
  rintro e w5 ⟨⟨A5, k5, c5, rfl, K5⟩, b5⟩
  refine hK'.out _ _ (d4.thn b5) ?_
  clear hK' K'
  have d5 : Below w1.heap.size w1 w5 := d4.thn b5
  refine held_one 17 (by kernel_rfl) (by rfl) (fun K' hK' => ?_)
  go_simp
  refine ((unhide HF1 _ d5).arg (by omega) 1 (by omega)).mono ?_
  rintro e w6 ⟨⟨A6, k6, c6, rfl, K6⟩, q6⟩
  refine hK'.out _ _ (d5.thn (q6.below _)) ?_
  clear hK' K'
  have b6 : Below w5.heap.size w5 w6 := q6.below _
  have d6 : Below w1.heap.size w1 w6 := d5.thn b6
  rw [unhide HCN] at K6
  refine held_one 19 (by kernel_rfl) (by rfl) (fun K' hK' => ?_)
  go_simp
  refine (sstoreF_x A4 A5 A6 k4 c4 k5 c5 k6 c6 w6 (K4.kp (ChgS.of (b5.thn b6))).now (K5.kp (ChgS.of b6)).now (K6.kp (ChgS.of b6)).now).mono ?_
  rintro e w7 ⟨A7, k7, c7, Ap, kp, cp, rfl, m7, mp, N7, Np, b7⟩
  refine hK'.out _ _ (d6.thn b7) ?_
  clear hK' K'
  have d7 : Below w1.heap.size w1 w7 := d6.thn b7
  refine held_takeD 20 (.slice A7 k7 c7) (some 41) (by rfl) (by rfl) (by kernel_rfl) (by kernel_rfl) (by kernel_rfl) (fun _ _ _ h => h) (.inl ⟨by rfl, fun _ _ => by go_simp⟩) (d7) ?_
  simp only [Act.put, List.setIfInBounds_toArray, List.set_cons_zero, List.set_cons_succ]
  refine held_takeD 21 (.slice Ap kp cp) (some 42) (by rfl) (by rfl) (by kernel_rfl) (by kernel_rfl) (by kernel_rfl) (fun _ _ _ h => h) (.inl ⟨by rfl, fun _ _ => by go_simp⟩) (d7) ?_
  simp only [Act.put, List.setIfInBounds_toArray, List.set_cons_zero, List.set_cons_succ]
  refine held_takeD 22 (.slice none 0 0) (some 43) (by rfl) (by rfl) (by kernel_rfl) (by kernel_rfl) (by kernel_rfl) (fun _ _ _ h => h) (.inl ⟨by rfl, fun _ _ => by go_simp⟩) (d7) ?_
  simp only [Act.put, List.setIfInBounds_toArray, List.set_cons_zero, List.set_cons_succ]
  refine held_takeD 23 (.slice A7 k7 c7) (some 4) (by rfl) (by rfl) (by kernel_rfl) (by kernel_rfl) (by kernel_rfl) (fun _ _ _ h => h) (.inl ⟨by rfl, fun _ _ => by rfl⟩) (d7) ?_
  simp only [Act.put, List.setIfInBounds_toArray, List.set_cons_zero, List.set_cons_succ]
  refine held_takeD 24 (.slice Ap kp cp) (some 5) (by rfl) (by rfl) (by kernel_rfl) (by kernel_rfl) (by kernel_rfl) (fun _ _ _ h => h) (.inl ⟨by rfl, fun _ _ => by rfl⟩) (d7) ?_
  simp only [Act.put, List.setIfInBounds_toArray, List.set_cons_zero, List.set_cons_succ]
  refine held_takeD 25 (.slice none 0 0) (some 6) (by rfl) (by rfl) (by kernel_rfl) (by kernel_rfl) (by kernel_rfl) (fun _ _ _ h => h) (.inl ⟨by rfl, fun _ _ => by rfl⟩) (d7) ?_
  simp only [Act.put, List.setIfInBounds_toArray, List.set_cons_zero, List.set_cons_succ]
  refine wpAnyH_done (by kernel_rfl) ?_ _
  refine NoPanic.normal ?_
  have M7 := hide m7
  have Mp := hide mp
  clear m7 mp K4 K5 K6
  go_wp2
  go_ret3
  have hs6 : w.heap.size ≤ w6.heap.size := Nat.le_trans b1.size d6.size
  exact ⟨A7, k7, c7, Ap, kp, cp, rfl, unhide M7, unhide Mp, N7.later hs6, Np.later hs6, b1.thn d7⟩

set_option maxHeartbeats 8000000 in
theorem bareX_85 (h : SR G bw gf cs fr d (f :: r) x w) (hx : XB x) (hg : Good B d) (hf : AnyF f) (hc : Clears d f x) :
    Calls Sakg.prog 300 #[.pointer (some ⟨bw, 0, none⟩), .pointer (some ⟨gf, 60 * r.length, none⟩), .int .u8 85] w (MakesNat w 5000) := by
  have hC := h.sstoreX hx hg hf hc
  have HC := hide hC
  generalize 60 * r.length = o at HC ⊢
  clear h hx hg hf hc hC
  go_enter Sakg.func300, Sakg.ntmps300
  go_wp2_with (go_at_call 423; refine (unhide HC).mono ?_; rintro e w1 ⟨A1, k1, c1, Ap, kp, cp, rfl, m1, mp, N1, Np, b1⟩; have NN1 := hide m1; clear m1 mp)
  go_ret
  exact ⟨A1, k1, c1, rfl, unhide NN1, N1, b1⟩
end

end Go.Proofs.YgcsakGreat
