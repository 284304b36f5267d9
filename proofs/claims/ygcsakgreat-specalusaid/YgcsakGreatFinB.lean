/-
  yp: Finish behind a frame that ended well: the walk.
-/
import Derived.Test.YgcsakGreatFinA
import Derived.Test.YgcsakGreatEntA
import Derived.Test.YgcsakGreatFrA
namespace Go.Proofs.YgcsakGreat
set_option linter.unusedVariables false
set_option linter.unusedSimpArgs false
set_option maxRecDepth 100000
open Go.RowKit

set_option maxHeartbeats 4000000 in
theorem goes_nil (bw : Nat) (w : World) (h : w.cell? ⟨bw, 7, none⟩ = some nilS) : Calls Sakg.prog 127 #[.pointer (some ⟨bw, 0, none⟩)] w fun e w' => e = .returned (.tuple #[]) ∧ w = w' := by
  have h' : w.cell? ⟨bw, 7, none⟩ = some (.slice none 0 0) := h
  go_enter Sakg.func127, Sakg.ntmps127
  go_wp2_with fail
  go_loopg [9] 0 (fun gk iv wr => iv = .int .i64 0 ∧ wr = w)
  case atStart => exact ⟨rfl, rfl⟩
  case round =>
    obtain ⟨rfl, rfl⟩ := hrel
    go_wp2
    refine bodyPost_done rfl rfl ?_
    exact ⟨rfl, rfl⟩

def FinPost (used : Nat) (xs : List Int) (bw : Nat) (w : World) (e : Ending) (w' : World) : Prop :=
  ∃ A k c m, e = .returned (.agg (rcptRow 0 (.slice A k c) used m).toArray) ∧ m.length = 20 ∧ Src w' A k c xs ∧ New w A ∧ Chg bw w w'

set_option maxHeartbeats 32000000 in
theorem finish_ok {bw : Nat} {cs : List Value} {cb fee org : List Int} {na nw nm : Nat} {w : World} (h : BS bw cs cb fee na nw nm w) (hna : na ≤ 900000) (h11 : cs[11]? = some (.int .u8 2)) (h12 : cs[12]? = some (.int .u8 0)) (h13 : cs[13]? = some (.int .u8 1))
    (Ar : Option Addr) (kr cr : Nat) (xs : List Int) (h10 : cs[10]? = some (.slice Ar kr cr)) (hret : Stab bw (fun w => Src w Ar kr cr xs) w) (hxs : xs.length ≤ 1000)
    (A14 : Option Addr) (k14 c14 lim : Nat) (h14 : cs[14]? = some (.slice A14 k14 c14)) (n14 : Stab bw (fun w => IsNat w A14 k14 c14 lim) w) (hlim : lim ≤ 1000000)
    (A16 : Option Addr) (k16 c16 left : Nat) (h16 : cs[16]? = some (.slice A16 k16 c16)) (n16 : Stab bw (fun w => IsNat w A16 k16 c16 left) w) (hleft : left ≤ lim)
    (A17 : Option Addr) (k17 c17 : Nat) (h17 : cs[17]? = some (.slice A17 k17 c17)) (n17 : Stab bw (fun w => IsNat w A17 k17 c17 0) w)
    (A18 : Option Addr) (k18 c18 tot : Nat) (h18 : cs[18]? = some (.slice A18 k18 c18)) (n18 : Stab bw (fun w => IsNat w A18 k18 c18 tot) w) (htot : tot < BIG)
    (horg : (cs.drop 19).take 20 = bv org) (ho : IsAddr org) (hcb : IsAddr cb) (hfee : IsW fee) (hone : ∀ (i : Nat) (v : Value), cs[i]? = some v → v.oneCell' = true) (mad : List Int) (hmad : (cs.drop 39).take 20 = bv mad) (hmd : IsAddr mad) :
    Calls Sakg.prog 50 #[.pointer (some ⟨bw, 0, none⟩)] w (FinPost (lim - left) xs bw w) := by
  have hBB := big_ge
  obtain ⟨W, hW⟩ : ∃ W, W = w.alloc (.cells (rcptRow 0 nilS 0 (zeros 20)).toArray 48) := ⟨_, rfl⟩
  have hb0 : Below w.heap.size w W := by rw [hW]; exact (Below.refl _ _).alloc (Nat.le_refl _) _
  have hr0 : RowT 48 W w.heap.size (rcptRow 0 nilS 0 (zeros 20)) := by rw [hW]; exact RowT.new _ _ _
  have hbw := h.lt
  have hWl := hr0.lt
  have e11 : W.cell? ⟨bw, 11, none⟩ = some (.int .u8 2) := (h.kept hb0).cell h11
  have hcW : ∀ wz, Below W.heap.size W wz → ∀ i v, cs[i]? = some v → wz.cell? ⟨bw, i, none⟩ = some v := fun wz hz i v hv => ((h.kept hb0).kept hz).cell hv
  have cW : Chg bw w W := Chg.of hb0
  have HC := hide hcW
  have HBS := hide (h.kept hb0)
  have HR0 := hide hr0
  have N14 := hide (n14.go cW)
  have N16 := hide (n16.go cW)
  have N17 := hide (n17.go cW)
  have N18 := hide (n18.go cW)
  have HRET := hide (hret.go cW)
  have H3 := hide h.c3
  have hu := Sakg.underlying26
  have hszo := ho.size
  have hszc := hcb.size
  have dW : Below W.heap.size W W.drew := Quiet.below ⟨1, rfl⟩ _
  have hzl : (rcptRow 0 nilS 0 (zeros 20)).length = 25 := rfl
  have C10 := hide h10
  have C12 := hide h12
  have C13 := hide h13
  have C14 := hide h14
  have C16 := hide h16
  have C17 := hide h17
  have C18 := hide h18
  have HORG := hide horg
  have HONE := hide hone
  have HMAD := hide hmad
  clear hr0 hcW n14 n16 n17 n18 hret h10 h11 h12 h13 h14 h16 h17 h18 horg hone hmad
  go_enter Sakg.func50, Sakg.ntmps50
  go_upto_region 1 with ((with_reducible refine at_alloc 48 ?_); refine wpList_alloc_g (by rfl) 48 rfl (rcptRow 0 nilS 0 (zeros 20)) 25 infoRcpt hzl ?_)
  rw [← hW]
  clear hW
  go_upto_region 4 with fail
  refine wp_region_noPanic ?_
  refine wp_region_held_drew (S := fun w' => Below W.heap.size W w') (by kernel_rfl) (dW) (fun hHeld => ?_)
  refine held_takeD 0 (.pointer (some ⟨bw, 0, none⟩)) (some 19) (by rfl) (by rfl) (by kernel_rfl) (by kernel_rfl) (by kernel_rfl) (fun _ _ _ h => h) (.inl ⟨by rfl, fun _ _ => by rfl⟩) (hHeld) ?_
  simp only [Act.put, List.setIfInBounds_toArray, List.set_cons_zero, List.set_cons_succ]
  refine held_takeD 1 (.pointer (some ⟨bw, 0, none⟩)) (some 20) (by rfl) (by rfl) (by kernel_rfl) (by kernel_rfl) (by kernel_rfl) (fun _ _ _ h => h) (.inl ⟨by rfl, fun _ _ => by go_simp⟩) (hHeld) ?_
  simp only [Act.put, List.setIfInBounds_toArray, List.set_cons_zero, List.set_cons_succ]
  refine held_takeD 2 (.pointer (some ⟨bw, 14, none⟩)) (some 21) (by rfl) (by rfl) (by kernel_rfl) (by kernel_rfl) (by kernel_rfl) (fun _ _ _ h => h) (.inl ⟨by rfl, fun _ _ => by go_simp⟩) (hHeld) ?_
  simp only [Act.put, List.setIfInBounds_toArray, List.set_cons_zero, List.set_cons_succ]
  refine held_takeD 3 (.slice A14 k14 c14) (some 22) (by rfl) (by rfl) (by kernel_rfl) (by kernel_rfl) (by kernel_rfl) (fun _ _ _ h => h) (.inl ⟨by rfl, fun wS hS => by have hc := unhide HC wS hS 14 _ (unhide C14); go_simp⟩) (hHeld) ?_
  simp only [Act.put, List.setIfInBounds_toArray, List.set_cons_zero, List.set_cons_succ]
  refine held_takeD 4 (.pointer (some ⟨bw, 0, none⟩)) (some 23) (by rfl) (by rfl) (by kernel_rfl) (by kernel_rfl) (by kernel_rfl) (fun _ _ _ h => h) (.inl ⟨by rfl, fun _ _ => by rfl⟩) (hHeld) ?_
  simp only [Act.put, List.setIfInBounds_toArray, List.set_cons_zero, List.set_cons_succ]
  refine held_takeD 5 (.pointer (some ⟨bw, 0, none⟩)) (some 24) (by rfl) (by rfl) (by kernel_rfl) (by kernel_rfl) (by kernel_rfl) (fun _ _ _ h => h) (.inl ⟨by rfl, fun _ _ => by go_simp⟩) (hHeld) ?_
  simp only [Act.put, List.setIfInBounds_toArray, List.set_cons_zero, List.set_cons_succ]
  refine held_takeD 6 (.pointer (some ⟨bw, 16, none⟩)) (some 25) (by rfl) (by rfl) (by kernel_rfl) (by kernel_rfl) (by kernel_rfl) (fun _ _ _ h => h) (.inl ⟨by rfl, fun _ _ => by go_simp⟩) (hHeld) ?_
  simp only [Act.put, List.setIfInBounds_toArray, List.set_cons_zero, List.set_cons_succ]
  refine held_takeD 7 (.slice A16 k16 c16) (some 26) (by rfl) (by rfl) (by kernel_rfl) (by kernel_rfl) (by kernel_rfl) (fun _ _ _ h => h) (.inl ⟨by rfl, fun wS hS => by have hc := unhide HC wS hS 16 _ (unhide C16); go_simp⟩) (hHeld) ?_
  simp only [Act.put, List.setIfInBounds_toArray, List.set_cons_zero, List.set_cons_succ]
  refine held_one 8 (by kernel_rfl) (by rfl) (fun K' hK' => ?_)
  go_simp
  refine (less_any A14 A16 k14 k16 c14 c16 lim left W.drew ((unhide N14) _ (Chg.of dW)) ((unhide N16) _ (Chg.of dW)) (by omega) (by omega)).mono ?_
  rintro e w1 ⟨A1, k1, c1, rfl, n1, N1, b1⟩
  refine hK'.out _ _ (dW.trans (b1.mono dW.size)) ?_
  clear hK' K'
  have d1 := dW.trans (b1.mono dW.size)
  refine held_takeD 9 (.slice A1 k1 c1) (some 4) (by rfl) (by rfl) (by kernel_rfl) (by kernel_rfl) (by kernel_rfl) (fun _ _ _ h => h) (.inl ⟨by rfl, fun _ _ => by rfl⟩) (d1) ?_
  simp only [Act.put, List.setIfInBounds_toArray, List.set_cons_zero, List.set_cons_succ]
  refine wpAnyH_done (by kernel_rfl) ?_ _
  refine NoPanic.normal ?_
  obtain ⟨ub, hub⟩ : ∃ ub, ub = lim - left := ⟨_, rfl⟩
  rw [← hub] at n1
  have HUB := hide hub
  have hubl : ub ≤ 1000000 := by omega
  have NN1 := hide n1
  have d1x : Below w1.heap.size w1 w1.drew := Quiet.below ⟨1, rfl⟩ _
  have D1 := hide (d1.trans (d1x.mono d1.size))
  clear n1 hub
  as_aux_lemma =>
  go_upto_region 5 with fail
  refine wp_region_noPanic ?_
  refine wp_region_held_drew (S := fun w' => Below W.heap.size W w') (by kernel_rfl) (unhide D1) (fun hHeld => ?_)
  refine held_takeD 0 (.slice A1 k1 c1) (some 28) (by rfl) (by rfl) (by kernel_rfl) (by kernel_rfl) (by kernel_rfl) (fun _ _ _ h => h) (.inl ⟨by rfl, fun _ _ => by rfl⟩) (hHeld) ?_
  simp only [Act.put, List.setIfInBounds_toArray, List.set_cons_zero, List.set_cons_succ]
  refine held_takeD 1 (.pointer (some ⟨bw, 0, none⟩)) (some 29) (by rfl) (by rfl) (by kernel_rfl) (by kernel_rfl) (by kernel_rfl) (fun _ _ _ h => h) (.inl ⟨by rfl, fun _ _ => by rfl⟩) (hHeld) ?_
  simp only [Act.put, List.setIfInBounds_toArray, List.set_cons_zero, List.set_cons_succ]
  refine held_takeD 2 (.pointer (some ⟨bw, 0, none⟩)) (some 30) (by rfl) (by rfl) (by kernel_rfl) (by kernel_rfl) (by kernel_rfl) (fun _ _ _ h => h) (.inl ⟨by rfl, fun _ _ => by go_simp⟩) (hHeld) ?_
  simp only [Act.put, List.setIfInBounds_toArray, List.set_cons_zero, List.set_cons_succ]
  refine held_takeD 3 (.pointer (some ⟨bw, 0, none⟩)) (some 31) (by rfl) (by rfl) (by kernel_rfl) (by kernel_rfl) (by kernel_rfl) (fun _ _ _ h => h) (.inl ⟨by rfl, fun _ _ => by go_simp⟩) (hHeld) ?_
  simp only [Act.put, List.setIfInBounds_toArray, List.set_cons_zero, List.set_cons_succ]
  refine held_takeD 4 (.pointer (some ⟨bw, 3, none⟩)) (some 32) (by rfl) (by rfl) (by kernel_rfl) (by kernel_rfl) (by kernel_rfl) (fun _ _ _ h => h) (.inl ⟨by rfl, fun _ _ => by go_simp⟩) (hHeld) ?_
  simp only [Act.put, List.setIfInBounds_toArray, List.set_cons_zero, List.set_cons_succ]
  refine held_takeD 5 (.slice none 0 0) (some 33) (by rfl) (by rfl) (by kernel_rfl) (by kernel_rfl) (by kernel_rfl) (fun _ _ _ h => h) (.inl ⟨by rfl, fun wS hS => by have hc := unhide HC wS hS 3 _ (unhide H3); go_simp⟩) (hHeld) ?_
  simp only [Act.put, List.setIfInBounds_toArray, List.set_cons_zero, List.set_cons_succ]
  refine held_takeD 6 (.slice A1 k1 c1) (some 34) (by rfl) (by rfl) (by kernel_rfl) (by kernel_rfl) (by kernel_rfl) (fun _ _ _ h => h) (.inl ⟨by rfl, fun _ _ => by rfl⟩) (hHeld) ?_
  simp only [Act.put, List.setIfInBounds_toArray, List.set_cons_zero, List.set_cons_succ]
  refine held_one 7 (by kernel_rfl) (by rfl) (fun K' hK' => ?_)
  go_simp
  refine (divided_any A1 k1 c1 ub 5 w1.drew ((unhide NN1).kept d1x) (by omega) (by omega) (by omega)).mono ?_
  rintro e w2 ⟨A2, k2, c2, rfl, n2, N2, b2⟩
  refine hK'.out _ _ ((unhide D1).trans (b2.mono (unhide D1).size)) ?_
  clear hK' K'
  have d2 := (unhide D1).trans (b2.mono (unhide D1).size)
  have hdv : ub / 5 ≤ ub := Nat.div_le_self _ _
  refine held_one 8 (by kernel_rfl) (by rfl) (fun K' hK' => ?_)
  go_simp
  refine (minNat_any none A2 0 k2 0 c2 0 (ub / 5) w2 (IsNat.nil _) n2 (by omega) (by omega)).mono ?_
  rintro e w3 ⟨A3, k3, c3, rfl, n3, -, q3⟩
  refine hK'.out _ _ (d2.trans (q3.below _)) ?_
  clear hK' K'
  have d3 : Below W.heap.size W w3 := d2.trans (q3.below _)
  have b13 : Below w1.heap.size w1 w3 := (d1x.trans (b2.mono d1x.size)).trans (q3.below _)
  rw [Nat.zero_min] at n3
  refine held_one 9 (by kernel_rfl) (by rfl) (fun K' hK' => ?_)
  go_simp
  refine (less_any A1 A3 k1 k3 c1 c3 ub 0 w3 ((unhide NN1).kept b13) n3 (by omega) (by omega)).mono ?_
  rintro e w4 ⟨A4, k4, c4, rfl, n4, N4, b4⟩
  refine hK'.out _ _ (d3.trans (b4.mono d3.size)) ?_
  clear hK' K'
  have d4 := d3.trans (b4.mono d3.size)
  refine held_takeD 10 (.slice A4 k4 c4) (some 5) (by rfl) (by rfl) (by kernel_rfl) (by kernel_rfl) (by kernel_rfl) (fun _ _ _ h => h) (.inl ⟨by rfl, fun _ _ => by rfl⟩) (d4) ?_
  simp only [Act.put, List.setIfInBounds_toArray, List.set_cons_zero, List.set_cons_succ]
  refine wpAnyH_done (by kernel_rfl) ?_ _
  refine NoPanic.normal ?_
  rw [Nat.sub_zero] at n4
  have hW4 : W.heap.size ≤ w3.heap.size := d3.size
  have nu4 : Stab bw (fun w => IsNat w A4 k4 c4 ub) w4 := Stab.nat n4 (N4.off (by omega) _)
  have NU := hide nu4
  have d4x : Below w4.heap.size w4 w4.drew := Quiet.below ⟨1, rfl⟩ _
  have D4 := hide (d4.trans (d4x.mono d4.size))
  have hmz : (lim - ub) * 0 = 0 := Nat.mul_zero _
  clear n2 n3 n4 nu4 NN1 D1
  as_aux_lemma =>
  go_upto_region 6 with fail
  refine wp_region_noPanic ?_
  refine wp_region_held_drew (S := fun w' => Below W.heap.size W w') (by kernel_rfl) (unhide D4) (fun hHeld => ?_)
  refine held_takeD 0 (.pointer (some ⟨bw, 0, none⟩)) (some 38) (by rfl) (by rfl) (by kernel_rfl) (by kernel_rfl) (by kernel_rfl) (fun _ _ _ h => h) (.inl ⟨by rfl, fun _ _ => by rfl⟩) (hHeld) ?_
  simp only [Act.put, List.setIfInBounds_toArray, List.set_cons_zero, List.set_cons_succ]
  refine held_takeD 1 (.pointer (some ⟨bw, 0, none⟩)) (some 39) (by rfl) (by rfl) (by kernel_rfl) (by kernel_rfl) (by kernel_rfl) (fun _ _ _ h => h) (.inl ⟨by rfl, fun _ _ => by go_simp⟩) (hHeld) ?_
  simp only [Act.put, List.setIfInBounds_toArray, List.set_cons_zero, List.set_cons_succ]
  refine held_takeD 2 (.pointer (some ⟨bw, 14, none⟩)) (some 40) (by rfl) (by rfl) (by kernel_rfl) (by kernel_rfl) (by kernel_rfl) (fun _ _ _ h => h) (.inl ⟨by rfl, fun _ _ => by go_simp⟩) (hHeld) ?_
  simp only [Act.put, List.setIfInBounds_toArray, List.set_cons_zero, List.set_cons_succ]
  refine held_takeD 3 (.slice A14 k14 c14) (some 41) (by rfl) (by rfl) (by kernel_rfl) (by kernel_rfl) (by kernel_rfl) (fun _ _ _ h => h) (.inl ⟨by rfl, fun wS hS => by have hc := unhide HC wS hS 14 _ (unhide C14); go_simp⟩) (hHeld) ?_
  simp only [Act.put, List.setIfInBounds_toArray, List.set_cons_zero, List.set_cons_succ]
  refine held_takeD 4 (.slice A4 k4 c4) (some 42) (by rfl) (by rfl) (by kernel_rfl) (by kernel_rfl) (by kernel_rfl) (fun _ _ _ h => h) (.inl ⟨by rfl, fun _ _ => by rfl⟩) (hHeld) ?_
  simp only [Act.put, List.setIfInBounds_toArray, List.set_cons_zero, List.set_cons_succ]
  refine held_takeD 6 (.pointer (some ⟨bw, 0, none⟩)) (some 44) (by rfl) (by rfl) (by kernel_rfl) (by kernel_rfl) (by kernel_rfl) (fun _ _ _ h => h) (.inl ⟨by rfl, fun _ _ => by rfl⟩) (hHeld) ?_
  simp only [Act.put, List.setIfInBounds_toArray, List.set_cons_zero, List.set_cons_succ]
  refine held_takeD 7 (.pointer (some ⟨bw, 0, none⟩)) (some 45) (by rfl) (by rfl) (by kernel_rfl) (by kernel_rfl) (by kernel_rfl) (fun _ _ _ h => h) (.inl ⟨by rfl, fun _ _ => by go_simp⟩) (hHeld) ?_
  simp only [Act.put, List.setIfInBounds_toArray, List.set_cons_zero, List.set_cons_succ]
  refine held_takeD 8 (.pointer (some ⟨bw, 17, none⟩)) (some 46) (by rfl) (by rfl) (by kernel_rfl) (by kernel_rfl) (by kernel_rfl) (fun _ _ _ h => h) (.inl ⟨by rfl, fun _ _ => by go_simp⟩) (hHeld) ?_
  simp only [Act.put, List.setIfInBounds_toArray, List.set_cons_zero, List.set_cons_succ]
  refine held_takeD 9 (.slice A17 k17 c17) (some 47) (by rfl) (by rfl) (by kernel_rfl) (by kernel_rfl) (by kernel_rfl) (fun _ _ _ h => h) (.inl ⟨by rfl, fun wS hS => by have hc := unhide HC wS hS 17 _ (unhide C17); go_simp⟩) (hHeld) ?_
  simp only [Act.put, List.setIfInBounds_toArray, List.set_cons_zero, List.set_cons_succ]
  refine held_one 5 (by kernel_rfl) (by rfl) (fun K' hK' => ?_)
  go_simp
  refine (less_any A14 A4 k14 k4 c14 c4 lim ub w4.drew ((unhide N14) _ (Chg.of (unhide D4))) (((unhide NU).go (Chg.of d4x)).now) (by omega) (by omega)).mono ?_
  rintro e w5 ⟨A5, k5, c5, rfl, n5, N5, b5⟩
  refine hK'.out _ _ ((unhide D4).trans (b5.mono (unhide D4).size)) ?_
  clear hK' K'
  have d5 := (unhide D4).trans (b5.mono (unhide D4).size)
  refine held_one 10 (by kernel_rfl) (by rfl) (fun K' hK' => ?_)
  go_simp
  refine (n5.mul ((unhide N17) _ (Chg.of d5)) (by omega) (by omega)).mono ?_
  rintro e w6 ⟨A6, k6, c6, rfl, n6, N6, b6⟩
  refine hK'.out _ _ (d5.trans (b6.mono d5.size)) ?_
  clear hK' K'
  have d6 := d5.trans (b6.mono d5.size)
  refine held_takeD 11 (.slice A6 k6 c6) (some 6) (by rfl) (by rfl) (by kernel_rfl) (by kernel_rfl) (by kernel_rfl) (fun _ _ _ h => h) (.inl ⟨by rfl, fun _ _ => by rfl⟩) (d6) ?_
  simp only [Act.put, List.setIfInBounds_toArray, List.set_cons_zero, List.set_cons_succ]
  refine wpAnyH_done (by kernel_rfl) ?_ _
  refine NoPanic.normal ?_
  rw [hmz] at n6
  have b46 : Below w4.heap.size w4 w6 := (d4x.trans (b5.mono d4x.size)).trans (b6.mono (Nat.le_trans d4x.size b5.size))
  have NU6 := hide ((unhide NU).go (Chg.of b46))
  have NN6 := hide n6
  have hs6 := (unhide HBS).kept d6
  have hrow : ∀ cs' wz, RowT 107 wz bw cs' → Same8 cs cs' → wz.rangeAt bw 19 (bv org) := fun cs' wz hr h8 => by
    have h1 := hr.range 19 20
    rwa [h8.range 19 20 (by omega), unhide HORG] at h1
  have HROW := hide hrow
  have d6x : Below w6.heap.size w6 w6.drew := Quiet.below ⟨1, rfl⟩ _
  have hrg6 := hrow _ _ (hs6.kept d6x).row (Same8.refl _)
  have HRG6 := hide hrg6
  have HS6 := hide hs6
  have HAC := hide (hs6.account (by omega) d6x org ho)
  have hbl6 := hs6.lt
  clear n5 n6 hs6 hrow hrg6 NU D4 hmz
  as_aux_lemma =>
  go_upto_region 7 with fail
  refine wp_region_noPanic ?_
  refine wp_region_held_drew (S := fun w' => w'.rangeAt bw 19 (bv org)) (by kernel_rfl) (unhide HRG6) (fun hHeld => ?_)
  refine held_takeD 0 (.pointer (some ⟨bw, 0, none⟩)) (some 49) (by rfl) (by rfl) (by kernel_rfl) (by kernel_rfl) (by kernel_rfl) (fun _ _ _ h => h) (.inl ⟨by rfl, fun _ _ => by rfl⟩) (hHeld) ?_
  simp only [Act.put, List.setIfInBounds_toArray, List.set_cons_zero, List.set_cons_succ]
  refine held_takeD 1 (.pointer (some ⟨bw, 0, none⟩)) (some 50) (by rfl) (by rfl) (by kernel_rfl) (by kernel_rfl) (by kernel_rfl) (fun _ _ _ h => h) (.inl ⟨by rfl, fun _ _ => by go_simp⟩) (hHeld) ?_
  simp only [Act.put, List.setIfInBounds_toArray, List.set_cons_zero, List.set_cons_succ]
  refine held_takeD 2 (.pointer (some ⟨bw, 0, none⟩)) (some 51) (by rfl) (by rfl) (by kernel_rfl) (by kernel_rfl) (by kernel_rfl) (fun _ _ _ h => h) (.inl ⟨by rfl, fun _ _ => by go_simp⟩) (hHeld) ?_
  simp only [Act.put, List.setIfInBounds_toArray, List.set_cons_zero, List.set_cons_succ]
  refine held_takeD 3 (.pointer (some ⟨bw, 0, none⟩)) (some 52) (by rfl) (by rfl) (by kernel_rfl) (by kernel_rfl) (by kernel_rfl) (fun _ _ _ h => h) (.inl ⟨by rfl, fun _ _ => by rfl⟩) (hHeld) ?_
  simp only [Act.put, List.setIfInBounds_toArray, List.set_cons_zero, List.set_cons_succ]
  refine held_takeD 4 (.pointer (some ⟨bw, 0, none⟩)) (some 53) (by rfl) (by rfl) (by kernel_rfl) (by kernel_rfl) (by kernel_rfl) (fun _ _ _ h => h) (.inl ⟨by rfl, fun _ _ => by go_simp⟩) (hHeld) ?_
  simp only [Act.put, List.setIfInBounds_toArray, List.set_cons_zero, List.set_cons_succ]
  refine held_takeD 5 (.pointer (some ⟨bw, 19, none⟩)) (some 54) (by rfl) (by rfl) (by kernel_rfl) (by kernel_rfl) (by kernel_rfl) (fun _ _ _ h => h) (.inl ⟨by rfl, fun _ _ => by go_simp⟩) (hHeld) ?_
  simp only [Act.put, List.setIfInBounds_toArray, List.set_cons_zero, List.set_cons_succ]
  refine held_takeD 6 (.agg (bv org).toArray) (some 55) (by rfl) (by rfl) (by kernel_rfl) (by kernel_rfl) (by kernel_rfl) (fun _ _ _ h => h) (yieldsIf_load_mid (by rfl) _ _ rfl _ _ rfl _ _ (fun wz hS => hS) hu rfl hszo) (hHeld) ?_
  simp only [Act.put, List.setIfInBounds_toArray, List.set_cons_zero, List.set_cons_succ]
  refine held_takeD 7 (.pointer (some ⟨bw, 0, none⟩)) (some 56) (by rfl) (by rfl) (by kernel_rfl) (by kernel_rfl) (by kernel_rfl) (fun _ _ _ h => h) (.inl ⟨by rfl, fun _ _ => by rfl⟩) (hHeld) ?_
  simp only [Act.put, List.setIfInBounds_toArray, List.set_cons_zero, List.set_cons_succ]
  refine held_takeD 8 (.pointer (some ⟨bw, 0, none⟩)) (some 57) (by rfl) (by rfl) (by kernel_rfl) (by kernel_rfl) (by kernel_rfl) (fun _ _ _ h => h) (.inl ⟨by rfl, fun _ _ => by go_simp⟩) (hHeld) ?_
  simp only [Act.put, List.setIfInBounds_toArray, List.set_cons_zero, List.set_cons_succ]
  refine held_takeD 9 (.pointer (some ⟨bw, 0, none⟩)) (some 58) (by rfl) (by rfl) (by kernel_rfl) (by kernel_rfl) (by kernel_rfl) (fun _ _ _ h => h) (.inl ⟨by rfl, fun _ _ => by go_simp⟩) (hHeld) ?_
  simp only [Act.put, List.setIfInBounds_toArray, List.set_cons_zero, List.set_cons_succ]
  refine held_takeD 10 (.pointer (some ⟨bw, 0, none⟩)) (some 59) (by rfl) (by rfl) (by kernel_rfl) (by kernel_rfl) (by kernel_rfl) (fun _ _ _ h => h) (.inl ⟨by rfl, fun _ _ => by rfl⟩) (hHeld) ?_
  simp only [Act.put, List.setIfInBounds_toArray, List.set_cons_zero, List.set_cons_succ]
  refine held_takeD 11 (.pointer (some ⟨bw, 0, none⟩)) (some 60) (by rfl) (by rfl) (by kernel_rfl) (by kernel_rfl) (by kernel_rfl) (fun _ _ _ h => h) (.inl ⟨by rfl, fun _ _ => by go_simp⟩) (hHeld) ?_
  simp only [Act.put, List.setIfInBounds_toArray, List.set_cons_zero, List.set_cons_succ]
  refine held_takeD 12 (.pointer (some ⟨bw, 19, none⟩)) (some 61) (by rfl) (by rfl) (by kernel_rfl) (by kernel_rfl) (by kernel_rfl) (fun _ _ _ h => h) (.inl ⟨by rfl, fun _ _ => by go_simp⟩) (hHeld) ?_
  simp only [Act.put, List.setIfInBounds_toArray, List.set_cons_zero, List.set_cons_succ]
  refine held_takeD 13 (.agg (bv org).toArray) (some 62) (by rfl) (by rfl) (by kernel_rfl) (by kernel_rfl) (by kernel_rfl) (fun _ _ _ h => h) (yieldsIf_load_mid (by rfl) _ _ rfl _ _ rfl _ _ (fun wz hS => hS) hu rfl hszo) (hHeld) ?_
  simp only [Act.put, List.setIfInBounds_toArray, List.set_cons_zero, List.set_cons_succ]
  refine held_takeD 16 (.slice A6 k6 c6) (some 65) (by rfl) (by rfl) (by kernel_rfl) (by kernel_rfl) (by kernel_rfl) (fun _ _ _ h => h) (.inl ⟨by rfl, fun _ _ => by rfl⟩) (hHeld) ?_
  simp only [Act.put, List.setIfInBounds_toArray, List.set_cons_zero, List.set_cons_succ]
  refine held_one 14 (by kernel_rfl) (by rfl) (fun K' hK' => ?_)
  go_simp
  refine (unhide HAC).mono ?_
  rintro e w7 ⟨rx, xx, rfl, hrx, hfx, b7⟩
  refine hK'.out _ _ (unhide HROW _ _ ((unhide HS6).kept (d6x.trans (b7.mono d6x.size))).row (Same8.refl _)) ?_
  clear hK' K'
  have d67 := d6x.trans (b7.mono d6x.size)
  have hR7 := unhide HROW _ _ ((unhide HS6).kept d67).row (Same8.refl _)
  obtain ⟨E1, p1, r1, E2, p2, r2, E3, p3, r3, E4, p4, r4, u20, u21, u22, u23, y1, y2, y3, y4⟩ := hrx.cells
  have hfld := run_field_slice fldBal Sakg.underlying54 rx _ u21
  have nb7 : IsNat w7 E2 p2 r2 xx.bal := (y2.go (Chg.of d67)).now
  have NB7 := hide nb7
  have hxb : xx.bal < 256 ^ 34 := hfx.2.1
  have hxB : xx.bal < BIG := Nat.lt_of_lt_of_le hxb pow34
  clear hrx u20 u21 u22 u23 y1 y2 y3 y4 nb7
  refine held_takeD 15 (.slice E2 p2 r2) (some 64) (by rfl) (by rfl) (by kernel_rfl) (by kernel_rfl) (by kernel_rfl) (fun _ _ _ h => h) (.inl ⟨by rfl, fun _ _ => by go_simp⟩) (hR7) ?_
  simp only [Act.put, List.setIfInBounds_toArray, List.set_cons_zero, List.set_cons_succ]
  refine held_one 17 (by kernel_rfl) (by rfl) (fun K' hK' => ?_)
  go_simp
  refine ((unhide NB7).add ((unhide NN6).kept d67) hxB (by omega)).mono ?_
  rintro e w8 ⟨A8, k8, c8, rfl, n8, N8, b8⟩
  refine hK'.out _ _ (unhide HROW _ _ ((unhide HS6).kept (d67.trans (b8.mono d67.size))).row (Same8.refl _)) ?_
  clear hK' K'
  have d68 := d67.trans (b8.mono d67.size)
  have o8 : Off bw A8 k8 := N8.off (by have := d67.size; omega) _
  refine held_one 18 (by kernel_rfl) (by rfl) (fun K' hK' => ?_)
  go_simp
  refine (((unhide HS6).kept d68).setBalance (by omega) org ho A8 k8 c8 (xx.bal + 0) (Stab.nat n8 o8) hxb).mono ?_
  rintro e w9 ⟨rfl, cs9, hs9, h98, hc9⟩
  refine hK'.out _ _ (unhide HROW _ _ hs9.row h98) ?_
  clear hK' K'
  refine wpAnyH_done (by kernel_rfl) ?_ _
  refine NoPanic.normal ?_
  have c69 : Chg bw w6 w9 := (Chg.of d68).trans hc9
  have cW9 : Chg bw W w9 := (Chg.of d6).trans c69
  have NU9 := hide ((unhide NU6).go c69)
  have H98 := hide h98
  have hl9 := hs9.len
  have hbl9 := hs9.lt
  have d9x : Below w9.heap.size w9 w9.drew := Quiet.below ⟨1, rfl⟩ _
  have HS9 := hide hs9
  have n17' := (unhide N17).go (cW9.trans (Chg.of d9x))
  have N179 := hide n17'
  have hfr9 := (hs9.kept d9x).fee
  have HFR9 := hide hfr9
  have hfB := hfee.big
  clear hs9 n8 N8 o8 hfld NB7 HRG6 HAC HS6 NN6 NU6 n17' hfr9 h98 hR7
  as_aux_lemma =>
  go_upto_region 8 with fail
  refine wp_region_noPanic ?_
  refine wp_region_held_drew (S := fun w' => Below w9.heap.size w9 w') (by kernel_rfl) (d9x) (fun hHeld => ?_)
  refine held_takeD 0 (.slice A4 k4 c4) (some 68) (by rfl) (by rfl) (by kernel_rfl) (by kernel_rfl) (by kernel_rfl) (fun _ _ _ h => h) (.inl ⟨by rfl, fun _ _ => by rfl⟩) (hHeld) ?_
  simp only [Act.put, List.setIfInBounds_toArray, List.set_cons_zero, List.set_cons_succ]
  refine held_takeD 1 (.pointer (some ⟨bw, 0, none⟩)) (some 69) (by rfl) (by rfl) (by kernel_rfl) (by kernel_rfl) (by kernel_rfl) (fun _ _ _ h => h) (.inl ⟨by rfl, fun _ _ => by rfl⟩) (hHeld) ?_
  simp only [Act.put, List.setIfInBounds_toArray, List.set_cons_zero, List.set_cons_succ]
  refine held_takeD 2 (.pointer (some ⟨bw, 0, none⟩)) (some 70) (by rfl) (by rfl) (by kernel_rfl) (by kernel_rfl) (by kernel_rfl) (fun _ _ _ h => h) (.inl ⟨by rfl, fun _ _ => by go_simp⟩) (hHeld) ?_
  simp only [Act.put, List.setIfInBounds_toArray, List.set_cons_zero, List.set_cons_succ]
  refine held_takeD 3 (.pointer (some ⟨bw, 17, none⟩)) (some 71) (by rfl) (by rfl) (by kernel_rfl) (by kernel_rfl) (by kernel_rfl) (fun _ _ _ h => h) (.inl ⟨by rfl, fun _ _ => by go_simp⟩) (hHeld) ?_
  simp only [Act.put, List.setIfInBounds_toArray, List.set_cons_zero, List.set_cons_succ]
  refine held_takeD 4 (.slice A17 k17 c17) (some 72) (by rfl) (by rfl) (by kernel_rfl) (by kernel_rfl) (by kernel_rfl) (fun _ _ _ h => h) (.inl ⟨by rfl, fun wS hS => by have hc := ((unhide HS9).kept hS).cell ((unhide H98 17 (by omega)).trans (unhide C17)); go_simp⟩) (hHeld) ?_
  simp only [Act.put, List.setIfInBounds_toArray, List.set_cons_zero, List.set_cons_succ]
  refine held_takeD 5 (.pointer (some ⟨bw, 0, none⟩)) (some 73) (by rfl) (by rfl) (by kernel_rfl) (by kernel_rfl) (by kernel_rfl) (fun _ _ _ h => h) (.inl ⟨by rfl, fun _ _ => by rfl⟩) (hHeld) ?_
  simp only [Act.put, List.setIfInBounds_toArray, List.set_cons_zero, List.set_cons_succ]
  refine held_one 6 (by kernel_rfl) (by rfl) (fun K' hK' => ?_)
  go_simp
  refine (baseFee_any bw fee w9.drew (unhide HFR9) hfee).mono ?_
  rintro e w10 ⟨A10, k10, c10, rfl, n10, N10, b10⟩
  refine hK'.out _ _ (d9x.trans (b10.mono d9x.size)) ?_
  clear hK' K'
  have d10 := d9x.trans (b10.mono d9x.size)
  refine held_one 7 (by kernel_rfl) (by rfl) (fun K' hK' => ?_)
  go_simp
  refine (less_any A17 A10 k17 k10 c17 c10 0 (beN fee) w10 (((unhide N179).go (Chg.of b10)).now) n10 (by omega) hfB).mono ?_
  rintro e w11 ⟨A11, k11, c11, rfl, n11, N11, b11⟩
  refine hK'.out _ _ (d10.trans (b11.mono d10.size)) ?_
  clear hK' K'
  have d11 := d10.trans (b11.mono d10.size)
  rw [Nat.zero_sub] at n11
  refine held_one 8 (by kernel_rfl) (by rfl) (fun K' hK' => ?_)
  go_simp
  refine ((((unhide NU9).go (Chg.of d11)).now).mul n11 (by omega) (by omega)).mono ?_
  rintro e w12 ⟨A12, k12, c12, rfl, n12, N12, b12⟩
  refine hK'.out _ _ (d11.trans (b12.mono d11.size)) ?_
  clear hK' K'
  have d12 := d11.trans (b12.mono d11.size)
  refine held_takeD 9 (.slice A12 k12 c12) (some 7) (by rfl) (by rfl) (by kernel_rfl) (by kernel_rfl) (by kernel_rfl) (fun _ _ _ h => h) (.inl ⟨by rfl, fun _ _ => by rfl⟩) (d12) ?_
  simp only [Act.put, List.setIfInBounds_toArray, List.set_cons_zero, List.set_cons_succ]
  refine wpAnyH_done (by kernel_rfl) ?_ _
  refine NoPanic.normal ?_
  rw [Nat.mul_zero] at n12
  have hs12 := (unhide HS9).kept d12
  have cW12 : Chg bw W w12 := cW9.trans (Chg.of d12)
  have NU12 := hide ((unhide NU9).go (Chg.of d12))
  have hd11s := d11.size
  have nf12 : Stab bw (fun w => IsNat w A12 k12 c12 0) w12 := Stab.nat n12 (N12.off (by omega) _)
  have NF12 := hide nf12
  have hbl12 := hs12.lt
  have d12x : Below w12.heap.size w12 w12.drew := Quiet.below ⟨1, rfl⟩ _
  have hS12 : ∀ wz, Below w12.heap.size w12 wz → Chg bw w12 wz ∧ wz.cell? ⟨bw, 17, none⟩ = some (Value.slice A17 k17 c17) := fun wz hz => ⟨Chg.of hz, (hs12.kept hz).cell ((unhide H98 17 (by omega)).trans (unhide C17))⟩
  have hc18 : cs9[18]? = some (.slice A18 k18 c18) := (unhide H98 18 (by omega)).trans (unhide C18)
  have HS12 := hide hS12
  have HB12 := hide hs12
  have H18 := hide hc18
  clear hs12 n10 n11 n12 nf12 hS12 hc18 NU9 HFR9 N179
  as_aux_lemma =>
  go_upto_region 9 with fail
  go_cut [7] (fun s7 wc => s7 = .slice A12 k12 c12 ∧ ∃ (A : Option Addr) (k c : Nat), RowT 107 wc bw (cs9.set 18 (.slice A k c)) ∧ Chg bw w12 wc)
  case first =>
    as_aux_lemma =>
    refine wp_region_noPanic ?_
    refine wp_region_held_drew (S := fun w' => Chg bw w12 w' ∧ w'.cell? ⟨bw, 17, none⟩ = some (Value.slice A17 k17 c17)) (by kernel_rfl) (unhide HS12 _ d12x) (fun hHeld => ?_)
    refine held_takeD 0 (.pointer (some ⟨bw, 0, none⟩)) (some 77) (by rfl) (by rfl) (by kernel_rfl) (by kernel_rfl) (by kernel_rfl) (fun _ _ _ h => h) (.inl ⟨by rfl, fun _ _ => by rfl⟩) (hHeld) ?_
    simp only [Act.put, List.setIfInBounds_toArray, List.set_cons_zero, List.set_cons_succ]
    refine held_takeD 1 (.pointer (some ⟨bw, 0, none⟩)) (some 78) (by rfl) (by rfl) (by kernel_rfl) (by kernel_rfl) (by kernel_rfl) (fun _ _ _ h => h) (.inl ⟨by rfl, fun _ _ => by rfl⟩) (hHeld) ?_
    simp only [Act.put, List.setIfInBounds_toArray, List.set_cons_zero, List.set_cons_succ]
    refine held_takeD 2 (.pointer (some ⟨bw, 0, none⟩)) (some 79) (by rfl) (by rfl) (by kernel_rfl) (by kernel_rfl) (by kernel_rfl) (fun _ _ _ h => h) (.inl ⟨by rfl, fun _ _ => by go_simp⟩) (hHeld) ?_
    simp only [Act.put, List.setIfInBounds_toArray, List.set_cons_zero, List.set_cons_succ]
    refine held_takeD 3 (.pointer (some ⟨bw, 18, none⟩)) (some 80) (by rfl) (by rfl) (by kernel_rfl) (by kernel_rfl) (by kernel_rfl) (fun _ _ _ h => h) (.inl ⟨by rfl, fun _ _ => by go_simp⟩) (hHeld) ?_
    simp only [Act.put, List.setIfInBounds_toArray, List.set_cons_zero, List.set_cons_succ]
    refine held_takeD 5 (.slice A4 k4 c4) (some 82) (by rfl) (by rfl) (by kernel_rfl) (by kernel_rfl) (by kernel_rfl) (fun _ _ _ h => h) (.inl ⟨by rfl, fun _ _ => by rfl⟩) (hHeld) ?_
    simp only [Act.put, List.setIfInBounds_toArray, List.set_cons_zero, List.set_cons_succ]
    refine held_takeD 6 (.pointer (some ⟨bw, 0, none⟩)) (some 83) (by rfl) (by rfl) (by kernel_rfl) (by kernel_rfl) (by kernel_rfl) (fun _ _ _ h => h) (.inl ⟨by rfl, fun _ _ => by rfl⟩) (hHeld) ?_
    simp only [Act.put, List.setIfInBounds_toArray, List.set_cons_zero, List.set_cons_succ]
    refine held_takeD 7 (.pointer (some ⟨bw, 0, none⟩)) (some 84) (by rfl) (by rfl) (by kernel_rfl) (by kernel_rfl) (by kernel_rfl) (fun _ _ _ h => h) (.inl ⟨by rfl, fun _ _ => by go_simp⟩) (hHeld) ?_
    simp only [Act.put, List.setIfInBounds_toArray, List.set_cons_zero, List.set_cons_succ]
    refine held_takeD 8 (.pointer (some ⟨bw, 17, none⟩)) (some 85) (by rfl) (by rfl) (by kernel_rfl) (by kernel_rfl) (by kernel_rfl) (fun _ _ _ h => h) (.inl ⟨by rfl, fun _ _ => by go_simp⟩) (hHeld) ?_
    simp only [Act.put, List.setIfInBounds_toArray, List.set_cons_zero, List.set_cons_succ]
    refine held_takeD 9 (.slice A17 k17 c17) (some 86) (by rfl) (by rfl) (by kernel_rfl) (by kernel_rfl) (by kernel_rfl) (fun _ _ _ h => h) (.inl ⟨by rfl, fun wS hS => by have hc := hS.2; go_simp⟩) (hHeld) ?_
    simp only [Act.put, List.setIfInBounds_toArray, List.set_cons_zero, List.set_cons_succ]
    refine held_takeD 11 (.slice A12 k12 c12) (some 88) (by rfl) (by rfl) (by kernel_rfl) (by kernel_rfl) (by kernel_rfl) (fun _ _ _ h => h) (.inl ⟨by rfl, fun _ _ => by rfl⟩) (hHeld) ?_
    simp only [Act.put, List.setIfInBounds_toArray, List.set_cons_zero, List.set_cons_succ]
    refine held_two 4 10 (by kernel_rfl) (by rfl) (by rfl) (fun K' hK' => ?_) (fun K' hK' => ?_)
    · have hcu : w12.drew.cell? ⟨bw, 18, none⟩ = some (.slice A18 k18 c18) := ((unhide HB12).kept d12x).cell (unhide H18)
      go_simp
      refine hK'.out _ _ (unhide HS12 _ d12x) ?_
      clear hK' K'
      refine held_one 10 (by kernel_rfl) (by rfl) (fun K' hK' => ?_)
      go_simp
      refine (((unhide NU12) _ (Chg.of d12x)).mul ((unhide N17) _ (cW12.trans (Chg.of d12x))) (by omega) (by omega)).mono ?_
      rintro e wa ⟨Aa, ka, ca, rfl, na1, Na, ba⟩
      have da := d12x.trans (ba.mono d12x.size)
      rw [Nat.mul_zero] at na1
      refine hK'.out _ _ (unhide HS12 _ da) ?_
      clear hK' K'
      refine held_one 12 (by kernel_rfl) (by rfl) (fun K' hK' => ?_)
      go_simp
      refine (less_any Aa A12 ka k12 ca c12 0 0 wa na1 ((unhide NF12) _ (Chg.of da)) (by omega) (by omega)).mono ?_
      rintro e wb ⟨Ab, kb, cb1, rfl, nb1, Nb, bb⟩
      have db := da.trans (bb.mono da.size)
      refine hK'.out _ _ (unhide HS12 _ db) ?_
      clear hK' K'
      refine held_one 13 (by kernel_rfl) (by rfl) (fun K' hK' => ?_)
      go_simp
      refine (less_any A18 Ab k18 kb c18 cb1 tot (0 - 0) wb ((unhide N18) _ (cW12.trans (Chg.of db))) nb1 htot (by omega)).mono ?_
      rintro e wc ⟨Ac, kc, cc, rfl, nc1, Nc, bc⟩
      have dc := db.trans (bc.mono db.size)
      refine hK'.out _ _ (unhide HS12 _ dc) ?_
      clear hK' K'
      refine held_takeD 14 (.pointer (some ⟨bw, 0, none⟩)) (some 91) (by rfl) (by rfl) (by kernel_rfl) (by kernel_rfl) (by kernel_rfl) (fun _ _ _ h => h) (.inl ⟨by rfl, fun _ _ => by go_simp⟩) (unhide HS12 _ dc) ?_
      simp only [Act.put, List.setIfInBounds_toArray, List.set_cons_zero, List.set_cons_succ]
      refine held_takeD 15 (.pointer (some ⟨bw, 18, none⟩)) (some 92) (by rfl) (by rfl) (by kernel_rfl) (by kernel_rfl) (by kernel_rfl) (fun _ _ _ h => h) (.inl ⟨by rfl, fun _ _ => by go_simp⟩) (unhide HS12 _ dc) ?_
      simp only [Act.put, List.setIfInBounds_toArray, List.set_cons_zero, List.set_cons_succ]
      refine held_one 16 (by kernel_rfl) (by rfl) (fun K' hK' => ?_)
      have hXp := ((unhide HB12).kept dc).row
      have hcx := ((unhide HB12).kept dc).cell (unhide H18)
      have hfx1 := hXp.froz 18
      go_simp
      obtain ⟨wS, hwS⟩ : ∃ x, x = wc.setCell ⟨bw, 18, none⟩ (Value.slice Ac kc cc) := ⟨_, rfl⟩
      rw [← hwS]
      have oS : Only bw wc wS := hwS ▸ (Only.refl bw wc).setCell 18 (Value.slice Ac kc cc)
      have rS := hwS ▸ hXp.set 18 (Value.slice Ac kc cc)
      have cS : Chg bw w12 wS := (Chg.of dc).trans (Chg.ofOnly oS)
      have dS : Chg bw w12 wS ∧ wS.cell? ⟨bw, 17, none⟩ = some (Value.slice A17 k17 c17) := ⟨cS, by rw [rS.cell, List.getElem?_set_ne (by omega)]; exact (unhide H98 17 (by omega)).trans (unhide C17)⟩
      clear hwS
      refine hK'.out _ _ (dS) ?_
      clear hK' K'
      refine wpAnyH_done (by kernel_rfl) ?_ _
      refine NoPanic.normal ?_
      go_wp2_with fail
      go_meet
      case rel => exact ⟨rfl, Ac, kc, cc, rS, cS⟩
    · go_simp
      refine (((unhide NU12) _ (Chg.of d12x)).mul ((unhide N17) _ (cW12.trans (Chg.of d12x))) (by omega) (by omega)).mono ?_
      rintro e wa ⟨Aa, ka, ca, rfl, na1, Na, ba⟩
      have da := d12x.trans (ba.mono d12x.size)
      rw [Nat.mul_zero] at na1
      refine hK'.out _ _ (unhide HS12 _ da) ?_
      clear hK' K'
      refine held_two 4 12 (by kernel_rfl) (by rfl) (by rfl) (fun K' hK' => ?_) (fun K' hK' => ?_)
      · have hcu : wa.cell? ⟨bw, 18, none⟩ = some (.slice A18 k18 c18) := ((unhide HB12).kept da).cell (unhide H18)
        go_simp
        refine hK'.out _ _ (unhide HS12 _ da) ?_
        clear hK' K'
        refine held_one 12 (by kernel_rfl) (by rfl) (fun K' hK' => ?_)
        go_simp
        refine (less_any Aa A12 ka k12 ca c12 0 0 wa na1 ((unhide NF12) _ (Chg.of da)) (by omega) (by omega)).mono ?_
        rintro e wb ⟨Ab, kb, cb1, rfl, nb1, Nb, bb⟩
        have db := da.trans (bb.mono da.size)
        refine hK'.out _ _ (unhide HS12 _ db) ?_
        clear hK' K'
        refine held_one 13 (by kernel_rfl) (by rfl) (fun K' hK' => ?_)
        go_simp
        refine (less_any A18 Ab k18 kb c18 cb1 tot (0 - 0) wb ((unhide N18) _ (cW12.trans (Chg.of db))) nb1 htot (by omega)).mono ?_
        rintro e wc ⟨Ac, kc, cc, rfl, nc1, Nc, bc⟩
        have dc := db.trans (bc.mono db.size)
        refine hK'.out _ _ (unhide HS12 _ dc) ?_
        clear hK' K'
        refine held_takeD 14 (.pointer (some ⟨bw, 0, none⟩)) (some 91) (by rfl) (by rfl) (by kernel_rfl) (by kernel_rfl) (by kernel_rfl) (fun _ _ _ h => h) (.inl ⟨by rfl, fun _ _ => by go_simp⟩) (unhide HS12 _ dc) ?_
        simp only [Act.put, List.setIfInBounds_toArray, List.set_cons_zero, List.set_cons_succ]
        refine held_takeD 15 (.pointer (some ⟨bw, 18, none⟩)) (some 92) (by rfl) (by rfl) (by kernel_rfl) (by kernel_rfl) (by kernel_rfl) (fun _ _ _ h => h) (.inl ⟨by rfl, fun _ _ => by go_simp⟩) (unhide HS12 _ dc) ?_
        simp only [Act.put, List.setIfInBounds_toArray, List.set_cons_zero, List.set_cons_succ]
        refine held_one 16 (by kernel_rfl) (by rfl) (fun K' hK' => ?_)
        have hXp := ((unhide HB12).kept dc).row
        have hcx := ((unhide HB12).kept dc).cell (unhide H18)
        have hfx1 := hXp.froz 18
        go_simp
        obtain ⟨wS, hwS⟩ : ∃ x, x = wc.setCell ⟨bw, 18, none⟩ (Value.slice Ac kc cc) := ⟨_, rfl⟩
        rw [← hwS]
        have oS : Only bw wc wS := hwS ▸ (Only.refl bw wc).setCell 18 (Value.slice Ac kc cc)
        have rS := hwS ▸ hXp.set 18 (Value.slice Ac kc cc)
        have cS : Chg bw w12 wS := (Chg.of dc).trans (Chg.ofOnly oS)
        have dS : Chg bw w12 wS ∧ wS.cell? ⟨bw, 17, none⟩ = some (Value.slice A17 k17 c17) := ⟨cS, by rw [rS.cell, List.getElem?_set_ne (by omega)]; exact (unhide H98 17 (by omega)).trans (unhide C17)⟩
        clear hwS
        refine hK'.out _ _ (dS) ?_
        clear hK' K'
        refine wpAnyH_done (by kernel_rfl) ?_ _
        refine NoPanic.normal ?_
        go_wp2_with fail
        go_meet
        case rel => exact ⟨rfl, Ac, kc, cc, rS, cS⟩
      · go_simp
        refine (less_any Aa A12 ka k12 ca c12 0 0 wa na1 ((unhide NF12) _ (Chg.of da)) (by omega) (by omega)).mono ?_
        rintro e wb ⟨Ab, kb, cb1, rfl, nb1, Nb, bb⟩
        have db := da.trans (bb.mono da.size)
        refine hK'.out _ _ (unhide HS12 _ db) ?_
        clear hK' K'
        refine held_one 4 (by kernel_rfl) (by rfl) (fun K' hK' => ?_)
        have hcu : wb.cell? ⟨bw, 18, none⟩ = some (.slice A18 k18 c18) := ((unhide HB12).kept db).cell (unhide H18)
        go_simp
        refine hK'.out _ _ (unhide HS12 _ db) ?_
        clear hK' K'
        refine held_one 13 (by kernel_rfl) (by rfl) (fun K' hK' => ?_)
        go_simp
        refine (less_any A18 Ab k18 kb c18 cb1 tot (0 - 0) wb ((unhide N18) _ (cW12.trans (Chg.of db))) nb1 htot (by omega)).mono ?_
        rintro e wc ⟨Ac, kc, cc, rfl, nc1, Nc, bc⟩
        have dc := db.trans (bc.mono db.size)
        refine hK'.out _ _ (unhide HS12 _ dc) ?_
        clear hK' K'
        refine held_takeD 14 (.pointer (some ⟨bw, 0, none⟩)) (some 91) (by rfl) (by rfl) (by kernel_rfl) (by kernel_rfl) (by kernel_rfl) (fun _ _ _ h => h) (.inl ⟨by rfl, fun _ _ => by go_simp⟩) (unhide HS12 _ dc) ?_
        simp only [Act.put, List.setIfInBounds_toArray, List.set_cons_zero, List.set_cons_succ]
        refine held_takeD 15 (.pointer (some ⟨bw, 18, none⟩)) (some 92) (by rfl) (by rfl) (by kernel_rfl) (by kernel_rfl) (by kernel_rfl) (fun _ _ _ h => h) (.inl ⟨by rfl, fun _ _ => by go_simp⟩) (unhide HS12 _ dc) ?_
        simp only [Act.put, List.setIfInBounds_toArray, List.set_cons_zero, List.set_cons_succ]
        refine held_one 16 (by kernel_rfl) (by rfl) (fun K' hK' => ?_)
        have hXp := ((unhide HB12).kept dc).row
        have hcx := ((unhide HB12).kept dc).cell (unhide H18)
        have hfx1 := hXp.froz 18
        go_simp
        obtain ⟨wS, hwS⟩ : ∃ x, x = wc.setCell ⟨bw, 18, none⟩ (Value.slice Ac kc cc) := ⟨_, rfl⟩
        rw [← hwS]
        have oS : Only bw wc wS := hwS ▸ (Only.refl bw wc).setCell 18 (Value.slice Ac kc cc)
        have rS := hwS ▸ hXp.set 18 (Value.slice Ac kc cc)
        have cS : Chg bw w12 wS := (Chg.of dc).trans (Chg.ofOnly oS)
        have dS : Chg bw w12 wS ∧ wS.cell? ⟨bw, 17, none⟩ = some (Value.slice A17 k17 c17) := ⟨cS, by rw [rS.cell, List.getElem?_set_ne (by omega)]; exact (unhide H98 17 (by omega)).trans (unhide C17)⟩
        clear hwS
        refine hK'.out _ _ (dS) ?_
        clear hK' K'
        refine wpAnyH_done (by kernel_rfl) ?_ _
        refine NoPanic.normal ?_
        go_wp2_with fail
        go_meet
        case rel => exact ⟨rfl, Ac, kc, cc, rS, cS⟩
  case rest =>
    as_aux_lemma =>
    obtain ⟨w13, hw13⟩ : ∃ w13, w13 = wc := ⟨_, rfl⟩
    subst hw13
    obtain ⟨rfl, At, kt, ct, r13, c13⟩ := hcut
    have hl13 : (cs9.set 18 (Value.slice At kt ct)).length = 179 := by rw [List.length_set]; exact hl9
    have m13 : ∀ i, i ≠ 18 → (cs9.set 18 (Value.slice At kt ct))[i]? = cs9[i]? := fun i hi => List.getElem?_set_ne (Ne.symm hi)
    have k13 : (cs9.set 18 (Value.slice At kt ct))[18]? = some (.slice At kt ct) := List.getElem?_set_self (by rw [hl9]; omega)
    have hs13 := (unhide HB12).turn r13 hl13 (fun i hi => m13 i (by omega)) c13
    have e13 : ∀ i, 8 ≤ i → i ≠ 18 → (cs9.set 18 (Value.slice At kt ct))[i]? = cs[i]? := fun i h8 hi => (m13 i hi).trans (unhide H98 i h8)
    generalize cs9.set 18 (Value.slice At kt ct) = cs13 at hs13 hl13 m13 k13 e13 r13
    have cW13 : Chg bw W w13 := cW12.trans c13
    have NU13 := hide ((unhide NU12).go c13)
    have NF13 := hide ((unhide NF12).go c13)
    have d13x : Below w13.heap.size w13 w13.drew := Quiet.below ⟨1, rfl⟩ _
    have HRG13 := hide (hs13.kept d13x).coinR
    have HAC13 := hide (hs13.account (by omega) d13x cb hcb)
    have HS13 := hide hs13
    have E13 := hide e13
    have K13 := hide k13
    have hbl13 := hs13.lt
    clear hs13 r13 m13 k13 e13 HB12 H18 HS12 NU12 NF12 HS9
    go_upto_region 10 with fail
    refine wp_region_noPanic ?_
    refine wp_region_held_drew (S := fun w' => w'.rangeAt bw 59 (bv cb)) (by kernel_rfl) (unhide HRG13) (fun hHeld => ?_)
    refine held_takeD 0 (.pointer (some ⟨bw, 0, none⟩)) (some 93) (by rfl) (by rfl) (by kernel_rfl) (by kernel_rfl) (by kernel_rfl) (fun _ _ _ h => h) (.inl ⟨by rfl, fun _ _ => by rfl⟩) (hHeld) ?_
    simp only [Act.put, List.setIfInBounds_toArray, List.set_cons_zero, List.set_cons_succ]
    refine held_takeD 1 (.pointer (some ⟨bw, 0, none⟩)) (some 94) (by rfl) (by rfl) (by kernel_rfl) (by kernel_rfl) (by kernel_rfl) (fun _ _ _ h => h) (.inl ⟨by rfl, fun _ _ => by go_simp⟩) (hHeld) ?_
    simp only [Act.put, List.setIfInBounds_toArray, List.set_cons_zero, List.set_cons_succ]
    refine held_takeD 2 (.pointer (some ⟨bw, 0, none⟩)) (some 95) (by rfl) (by rfl) (by kernel_rfl) (by kernel_rfl) (by kernel_rfl) (fun _ _ _ h => h) (.inl ⟨by rfl, fun _ _ => by go_simp⟩) (hHeld) ?_
    simp only [Act.put, List.setIfInBounds_toArray, List.set_cons_zero, List.set_cons_succ]
    refine held_takeD 3 (.pointer (some ⟨bw, 0, none⟩)) (some 96) (by rfl) (by rfl) (by kernel_rfl) (by kernel_rfl) (by kernel_rfl) (fun _ _ _ h => h) (.inl ⟨by rfl, fun _ _ => by rfl⟩) (hHeld) ?_
    simp only [Act.put, List.setIfInBounds_toArray, List.set_cons_zero, List.set_cons_succ]
    refine held_takeD 4 (.pointer (some ⟨bw, 0, none⟩)) (some 97) (by rfl) (by rfl) (by kernel_rfl) (by kernel_rfl) (by kernel_rfl) (fun _ _ _ h => h) (.inl ⟨by rfl, fun _ _ => by go_simp⟩) (hHeld) ?_
    simp only [Act.put, List.setIfInBounds_toArray, List.set_cons_zero, List.set_cons_succ]
    refine held_takeD 5 (.pointer (some ⟨bw, 59, none⟩)) (some 98) (by rfl) (by rfl) (by kernel_rfl) (by kernel_rfl) (by kernel_rfl) (fun _ _ _ h => h) (.inl ⟨by rfl, fun _ _ => by go_simp⟩) (hHeld) ?_
    simp only [Act.put, List.setIfInBounds_toArray, List.set_cons_zero, List.set_cons_succ]
    refine held_takeD 6 (.pointer (some ⟨bw, 59, none⟩)) (some 99) (by rfl) (by rfl) (by kernel_rfl) (by kernel_rfl) (by kernel_rfl) (fun _ _ _ h => h) (.inl ⟨by rfl, fun _ _ => by go_simp⟩) (hHeld) ?_
    simp only [Act.put, List.setIfInBounds_toArray, List.set_cons_zero, List.set_cons_succ]
    refine held_takeD 7 (.agg (bv cb).toArray) (some 100) (by rfl) (by rfl) (by kernel_rfl) (by kernel_rfl) (by kernel_rfl) (fun _ _ _ h => h) (yieldsIf_load_mid (by rfl) _ _ rfl _ _ rfl _ _ (fun wz hS => hS) hu rfl hszc) (hHeld) ?_
    simp only [Act.put, List.setIfInBounds_toArray, List.set_cons_zero, List.set_cons_succ]
    refine held_takeD 8 (.pointer (some ⟨bw, 0, none⟩)) (some 101) (by rfl) (by rfl) (by kernel_rfl) (by kernel_rfl) (by kernel_rfl) (fun _ _ _ h => h) (.inl ⟨by rfl, fun _ _ => by rfl⟩) (hHeld) ?_
    simp only [Act.put, List.setIfInBounds_toArray, List.set_cons_zero, List.set_cons_succ]
    refine held_takeD 9 (.pointer (some ⟨bw, 0, none⟩)) (some 102) (by rfl) (by rfl) (by kernel_rfl) (by kernel_rfl) (by kernel_rfl) (fun _ _ _ h => h) (.inl ⟨by rfl, fun _ _ => by go_simp⟩) (hHeld) ?_
    simp only [Act.put, List.setIfInBounds_toArray, List.set_cons_zero, List.set_cons_succ]
    refine held_takeD 10 (.pointer (some ⟨bw, 0, none⟩)) (some 103) (by rfl) (by rfl) (by kernel_rfl) (by kernel_rfl) (by kernel_rfl) (fun _ _ _ h => h) (.inl ⟨by rfl, fun _ _ => by go_simp⟩) (hHeld) ?_
    simp only [Act.put, List.setIfInBounds_toArray, List.set_cons_zero, List.set_cons_succ]
    refine held_takeD 11 (.pointer (some ⟨bw, 0, none⟩)) (some 104) (by rfl) (by rfl) (by kernel_rfl) (by kernel_rfl) (by kernel_rfl) (fun _ _ _ h => h) (.inl ⟨by rfl, fun _ _ => by rfl⟩) (hHeld) ?_
    simp only [Act.put, List.setIfInBounds_toArray, List.set_cons_zero, List.set_cons_succ]
    refine held_takeD 12 (.pointer (some ⟨bw, 0, none⟩)) (some 105) (by rfl) (by rfl) (by kernel_rfl) (by kernel_rfl) (by kernel_rfl) (fun _ _ _ h => h) (.inl ⟨by rfl, fun _ _ => by go_simp⟩) (hHeld) ?_
    simp only [Act.put, List.setIfInBounds_toArray, List.set_cons_zero, List.set_cons_succ]
    refine held_takeD 13 (.pointer (some ⟨bw, 59, none⟩)) (some 106) (by rfl) (by rfl) (by kernel_rfl) (by kernel_rfl) (by kernel_rfl) (fun _ _ _ h => h) (.inl ⟨by rfl, fun _ _ => by go_simp⟩) (hHeld) ?_
    simp only [Act.put, List.setIfInBounds_toArray, List.set_cons_zero, List.set_cons_succ]
    refine held_takeD 14 (.pointer (some ⟨bw, 59, none⟩)) (some 107) (by rfl) (by rfl) (by kernel_rfl) (by kernel_rfl) (by kernel_rfl) (fun _ _ _ h => h) (.inl ⟨by rfl, fun _ _ => by go_simp⟩) (hHeld) ?_
    simp only [Act.put, List.setIfInBounds_toArray, List.set_cons_zero, List.set_cons_succ]
    refine held_takeD 15 (.agg (bv cb).toArray) (some 108) (by rfl) (by rfl) (by kernel_rfl) (by kernel_rfl) (by kernel_rfl) (fun _ _ _ h => h) (yieldsIf_load_mid (by rfl) _ _ rfl _ _ rfl _ _ (fun wz hS => hS) hu rfl hszc) (hHeld) ?_
    simp only [Act.put, List.setIfInBounds_toArray, List.set_cons_zero, List.set_cons_succ]
    refine held_takeD 18 (.slice A12 k12 c12) (some 111) (by rfl) (by rfl) (by kernel_rfl) (by kernel_rfl) (by kernel_rfl) (fun _ _ _ h => h) (.inl ⟨by rfl, fun _ _ => by rfl⟩) (hHeld) ?_
    simp only [Act.put, List.setIfInBounds_toArray, List.set_cons_zero, List.set_cons_succ]
    refine held_one 16 (by kernel_rfl) (by rfl) (fun K' hK' => ?_)
    go_simp
    refine (unhide HAC13).mono ?_
    rintro e w14 ⟨rx, xx, rfl, hrx, hfx, b14⟩
    refine hK'.out _ _ (((unhide HS13).kept (d13x.trans (b14.mono d13x.size))).coinR) ?_
    clear hK' K'
    have d14 := d13x.trans (b14.mono d13x.size)
    have hR14 := ((unhide HS13).kept d14).coinR
    obtain ⟨E1, p1, r1, E2, p2, r2, E3, p3, r3, E4, p4, r4, u20, u21, u22, u23, y1, y2, y3, y4⟩ := hrx.cells
    have hfld := run_field_slice fldBal Sakg.underlying54 rx _ u21
    have nb14 : IsNat w14 E2 p2 r2 xx.bal := (y2.go (Chg.of d14)).now
    have NB14 := hide nb14
    have hxb : xx.bal < 256 ^ 34 := hfx.2.1
    have hxB : xx.bal < BIG := Nat.lt_of_lt_of_le hxb pow34
    clear hrx u20 u21 u22 u23 y1 y2 y3 y4 nb14
    refine held_takeD 17 (.slice E2 p2 r2) (some 110) (by rfl) (by rfl) (by kernel_rfl) (by kernel_rfl) (by kernel_rfl) (fun _ _ _ h => h) (.inl ⟨by rfl, fun _ _ => by go_simp⟩) (hR14) ?_
    simp only [Act.put, List.setIfInBounds_toArray, List.set_cons_zero, List.set_cons_succ]
    refine held_one 19 (by kernel_rfl) (by rfl) (fun K' hK' => ?_)
    go_simp
    refine ((unhide NB14).add ((unhide NF13) _ (Chg.of d14)) hxB (by omega)).mono ?_
    rintro e w15 ⟨A15, k15, c15, rfl, n15, N15, b15⟩
    refine hK'.out _ _ (((unhide HS13).kept (d14.trans (b15.mono d14.size))).coinR) ?_
    clear hK' K'
    have d15 := d14.trans (b15.mono d14.size)
    have o15 : Off bw A15 k15 := N15.off (by have := d14.size; omega) _
    refine held_one 20 (by kernel_rfl) (by rfl) (fun K' hK' => ?_)
    go_simp
    refine (((unhide HS13).kept d15).setBalance (by omega) cb hcb A15 k15 c15 (xx.bal + 0) (Stab.nat n15 o15) hxb).mono ?_
    rintro e w16 ⟨rfl, cs16, hs16, h168, hc16⟩
    refine hK'.out _ _ (hs16.coinR) ?_
    clear hK' K'
    refine wpAnyH_done (by kernel_rfl) ?_ _
    refine NoPanic.normal ?_
    have c1316 : Chg bw w13 w16 := (Chg.of d15).trans hc16
    have cW16 : Chg bw W w16 := cW13.trans c1316
    have NU16 := hide ((unhide NU13).go c1316)
    have hl16 := hs16.len
    have e16 : ∀ i, 8 ≤ i → i ≠ 18 → cs16[i]? = cs[i]? := fun i h8 hi => (h168 i h8).trans (unhide E13 i h8 hi)
    have k16' : cs16[18]? = some (.slice At kt ct) := (h168 18 (by omega)).trans (unhide K13)
    have E16 := hide e16
    have K16 := hide k16'
    have d16x : Below w16.heap.size w16 w16.drew := Quiet.below ⟨1, rfl⟩ _
    have hS16 : ∀ wz, Below w16.heap.size w16 wz → wz.cell? ⟨bw, 12, none⟩ = some (.int .u8 0) ∧ wz.cell? ⟨bw, 10, none⟩ = some (.slice Ar kr cr) ∧ wz.cell? ⟨bw, 4, none⟩ = some (.slice none 0 0) ∧ Src wz Ar kr cr xs := fun wz hz => ⟨(hs16.kept hz).cell ((e16 12 (by omega) (by omega)).trans (unhide C12)), (hs16.kept hz).cell ((e16 10 (by omega) (by omega)).trans (unhide C10)), (hs16.kept hz).cell hs16.c4, (unhide HRET) _ (cW16.trans (Chg.of hz))⟩
    have HS16c := hide hS16
    have hkr : kr ≤ 140737488355328 := by have := ((unhide HRET) _ cW16).len_eq; omega
    have HS16 := hide hs16
    have hbl16 := hs16.lt
    have hWl16 := cW16.size
    clear hs16 e16 k16' hS16 n15 N15 o15 hfld NB14 HRG13 HAC13 HS13 NU13 NF13 E13 K13 h168 hR14
    as_aux_lemma =>
    go_upto_region 11 with fail
    go_cut [8] (fun s8 wc => ∃ (gR : Nat) (A : Option Addr) (k : Nat), s8 = .pointer (some ⟨gR, 0, none⟩) ∧ w16.heap.size ≤ gR ∧ RowT 48 wc gR (rcptRow 0 (.slice A k k) 0 (zeros 20)) ∧ Src wc A k k xs ∧ OffS (· = gR) A k ∧ New w16 A ∧ Below w16.heap.size w16 wc)
    case first =>
      as_aux_lemma =>
      refine wp_region_noPanic ?_
      refine wp_region_held_drew (S := fun w' => Below w16.heap.size w16 w') (by kernel_rfl) (d16x) (fun hHeld => ?_)
      refine held_takeD 0 (.pointer (some ⟨bw, 0, none⟩)) (some 114) (by rfl) (by rfl) (by kernel_rfl) (by kernel_rfl) (by kernel_rfl) (fun _ _ _ h => h) (.inl ⟨by rfl, fun _ _ => by rfl⟩) (hHeld) ?_
      simp only [Act.put, List.setIfInBounds_toArray, List.set_cons_zero, List.set_cons_succ]
      refine held_takeD 1 (.pointer (some ⟨bw, 0, none⟩)) (some 115) (by rfl) (by rfl) (by kernel_rfl) (by kernel_rfl) (by kernel_rfl) (fun _ _ _ h => h) (.inl ⟨by rfl, fun _ _ => by go_simp⟩) (hHeld) ?_
      simp only [Act.put, List.setIfInBounds_toArray, List.set_cons_zero, List.set_cons_succ]
      refine held_takeD 2 (.pointer (some ⟨bw, 12, none⟩)) (some 116) (by rfl) (by rfl) (by kernel_rfl) (by kernel_rfl) (by kernel_rfl) (fun _ _ _ h => h) (.inl ⟨by rfl, fun _ _ => by go_simp⟩) (hHeld) ?_
      simp only [Act.put, List.setIfInBounds_toArray, List.set_cons_zero, List.set_cons_succ]
      refine held_takeD 3 (.int .u8 0) (some 117) (by rfl) (by rfl) (by kernel_rfl) (by kernel_rfl) (by kernel_rfl) (fun _ _ _ h => h) (.inl ⟨by rfl, fun wS hS => by have hc := (unhide HS16c wS hS).1; go_simp⟩) (hHeld) ?_
      simp only [Act.put, List.setIfInBounds_toArray, List.set_cons_zero, List.set_cons_succ]
      refine held_takeD 4 (.pointer (some ⟨bw, 0, none⟩)) (some 118) (by rfl) (by rfl) (by kernel_rfl) (by kernel_rfl) (by kernel_rfl) (fun _ _ _ h => h) (.inl ⟨by rfl, fun _ _ => by rfl⟩) (hHeld) ?_
      simp only [Act.put, List.setIfInBounds_toArray, List.set_cons_zero, List.set_cons_succ]
      refine held_takeD 5 (.pointer (some ⟨bw, 0, none⟩)) (some 119) (by rfl) (by rfl) (by kernel_rfl) (by kernel_rfl) (by kernel_rfl) (fun _ _ _ h => h) (.inl ⟨by rfl, fun _ _ => by go_simp⟩) (hHeld) ?_
      simp only [Act.put, List.setIfInBounds_toArray, List.set_cons_zero, List.set_cons_succ]
      refine held_takeD 6 (.pointer (some ⟨bw, 10, none⟩)) (some 120) (by rfl) (by rfl) (by kernel_rfl) (by kernel_rfl) (by kernel_rfl) (fun _ _ _ h => h) (.inl ⟨by rfl, fun _ _ => by go_simp⟩) (hHeld) ?_
      simp only [Act.put, List.setIfInBounds_toArray, List.set_cons_zero, List.set_cons_succ]
      refine held_takeD 7 (.slice Ar kr cr) (some 121) (by rfl) (by rfl) (by kernel_rfl) (by kernel_rfl) (by kernel_rfl) (fun _ _ _ h => h) (.inl ⟨by rfl, fun wS hS => by have hc := (unhide HS16c wS hS).2.1; go_simp⟩) (hHeld) ?_
      simp only [Act.put, List.setIfInBounds_toArray, List.set_cons_zero, List.set_cons_succ]
      refine held_takeD 9 (.pointer (some ⟨bw, 0, none⟩)) (some 123) (by rfl) (by rfl) (by kernel_rfl) (by kernel_rfl) (by kernel_rfl) (fun _ _ _ h => h) (.inl ⟨by rfl, fun _ _ => by rfl⟩) (hHeld) ?_
      simp only [Act.put, List.setIfInBounds_toArray, List.set_cons_zero, List.set_cons_succ]
      refine held_takeD 10 (.pointer (some ⟨bw, 0, none⟩)) (some 124) (by rfl) (by rfl) (by kernel_rfl) (by kernel_rfl) (by kernel_rfl) (fun _ _ _ h => h) (.inl ⟨by rfl, fun _ _ => by go_simp⟩) (hHeld) ?_
      simp only [Act.put, List.setIfInBounds_toArray, List.set_cons_zero, List.set_cons_succ]
      refine held_takeD 11 (.pointer (some ⟨bw, 0, none⟩)) (some 125) (by rfl) (by rfl) (by kernel_rfl) (by kernel_rfl) (by kernel_rfl) (fun _ _ _ h => h) (.inl ⟨by rfl, fun _ _ => by go_simp⟩) (hHeld) ?_
      simp only [Act.put, List.setIfInBounds_toArray, List.set_cons_zero, List.set_cons_succ]
      refine held_takeD 12 (.pointer (some ⟨bw, 4, none⟩)) (some 126) (by rfl) (by rfl) (by kernel_rfl) (by kernel_rfl) (by kernel_rfl) (fun _ _ _ h => h) (.inl ⟨by rfl, fun _ _ => by go_simp⟩) (hHeld) ?_
      simp only [Act.put, List.setIfInBounds_toArray, List.set_cons_zero, List.set_cons_succ]
      refine held_takeD 13 (.slice none 0 0) (some 127) (by rfl) (by rfl) (by kernel_rfl) (by kernel_rfl) (by kernel_rfl) (fun _ _ _ h => h) (.inl ⟨by rfl, fun wS hS => by have hc := (unhide HS16c wS hS).2.2.1; go_simp⟩) (hHeld) ?_
      simp only [Act.put, List.setIfInBounds_toArray, List.set_cons_zero, List.set_cons_succ]
      refine held_two 8 16 (by kernel_rfl) (by rfl) (by rfl) (fun K' hK' => ?_) (fun K' hK' => ?_)
      · go_simp
        refine (bytesOf_any Ar kr cr xs w16.drew (unhide HS16c _ d16x).2.2.2 hkr).mono ?_
        rintro e wa ⟨Ab, kb, rfl, na1, -, Na, ba⟩
        have da := d16x.trans (ba.mono d16x.size)
        refine hK'.out _ _ (da) ?_
        clear hK' K'
        refine held_two 14 16 (by kernel_rfl) (by rfl) (by rfl) (fun K' hK' => ?_) (fun K' hK' => ?_)
        · go_simp
          refine (logs_nil_b wa).mono ?_
          rintro e wb ⟨rfl, bb⟩
          have db := da.trans (bb.mono da.size)
          refine hK'.out _ _ (db) ?_
          clear hK' K'
          refine held_takeD 15 (.agg (rcptRow 0 (.slice Ab kb kb) 0 (zeros 20)).toArray) (some 129) (by rfl) (by rfl) (by kernel_rfl) (by kernel_rfl) (by kernel_rfl) (fun _ _ _ h => h) (yieldsIf_build (by rfl) 48 [(1, .tmp 117), (3, .tmp 122), (4, .tmp 128)] rfl _ (fun wx => run_rcpt wx 0 Ab kb kb)) db ?_
          simp only [Act.put, List.setIfInBounds_toArray, List.set_cons_zero, List.set_cons_succ]
          refine held_one 16 (by kernel_rfl) (by rfl) (fun K' hK' => ?_)
          refine if_alloc (some 8) rfl 48 rfl (by rfl) _ 25 infoRcpt hzl (fun wR rR bR sR => ?_)
          have dR := db.trans (bR.mono db.size)
          refine hK'.out _ _ (dR) ?_
          clear hK' K'
          simp only [Act.put, List.setIfInBounds_toArray, List.set_cons_zero, List.set_cons_succ]
          refine held_one 17 (by kernel_rfl) (by rfl) (fun K' hK' => ?_)
          refine if_store rfl (by rfl) 48 (.tmp 8) (.tmp 129) rfl wb.heap.size 0 48 _ (rcptRow 0 (.slice Ab kb kb) 0 (zeros 20)) rfl rfl rR (Nat.le_refl 25) sizeRcpt (rcptRow_one 0 Ab kb kb 0 (zeros 20)) (fun wS rS oS => ?_)
          have dS : Below w16.heap.size w16 wS := dR.trans (oS.below _ (db.size))
          refine hK'.out _ _ (dS) ?_
          clear hK' K'
          refine wpAnyH_done (by kernel_rfl) ?_ _
          refine NoPanic.normal ?_
          rw [spl_all (rcptRow 0 nilS 0 (zeros 20)) (rcptRow 0 (.slice Ab kb kb) 0 (zeros 20)) rfl] at rS
          have zd : w16.drew.heap.size = w16.heap.size := rfl
          have za := ba.size
          have zb := bb.size
          have zR := bR.size
          have qa := na1.kept (bb.trans (bR.mono bb.size))
          have ne : OffS (· = wb.heap.size) Ab kb := fun x hx h0 h1 => by have h2 := na1.lt x hx h0; have h3 := Na x hx; have h4 : x.block = wb.heap.size := h1; omega
          have nw' : New w16 Ab := fun x hx => by have h3 := Na x hx; omega
          have q1 : Src wS Ab kb kb xs := StabS.src (G := (· = wb.heap.size)) qa ne wS (ChgS.only oS rfl)
          go_wp2_with fail
          go_meet
          case rel => exact ⟨wb.heap.size, Ab, kb, rfl, by omega, rS, q1, ne, nw', dS⟩
        · refine if_alloc (some 8) rfl 48 rfl (by rfl) _ 25 infoRcpt hzl (fun wR rR bR sR => ?_)
          have dR := da.trans (bR.mono da.size)
          refine hK'.out _ _ (dR) ?_
          clear hK' K'
          simp only [Act.put, List.setIfInBounds_toArray, List.set_cons_zero, List.set_cons_succ]
          refine held_one 14 (by kernel_rfl) (by rfl) (fun K' hK' => ?_)
          go_simp
          refine (logs_nil_b wR).mono ?_
          rintro e wb ⟨rfl, bb⟩
          have db := dR.trans (bb.mono dR.size)
          refine hK'.out _ _ (db) ?_
          clear hK' K'
          refine held_takeD 15 (.agg (rcptRow 0 (.slice Ab kb kb) 0 (zeros 20)).toArray) (some 129) (by rfl) (by rfl) (by kernel_rfl) (by kernel_rfl) (by kernel_rfl) (fun _ _ _ h => h) (yieldsIf_build (by rfl) 48 [(1, .tmp 117), (3, .tmp 122), (4, .tmp 128)] rfl _ (fun wx => run_rcpt wx 0 Ab kb kb)) db ?_
          simp only [Act.put, List.setIfInBounds_toArray, List.set_cons_zero, List.set_cons_succ]
          refine held_one 17 (by kernel_rfl) (by rfl) (fun K' hK' => ?_)
          refine if_store rfl (by rfl) 48 (.tmp 8) (.tmp 129) rfl wa.heap.size 0 48 _ (rcptRow 0 (.slice Ab kb kb) 0 (zeros 20)) rfl rfl (rR.kept bb) (Nat.le_refl 25) sizeRcpt (rcptRow_one 0 Ab kb kb 0 (zeros 20)) (fun wS rS oS => ?_)
          have dS : Below w16.heap.size w16 wS := db.trans (oS.below _ (da.size))
          refine hK'.out _ _ (dS) ?_
          clear hK' K'
          refine wpAnyH_done (by kernel_rfl) ?_ _
          refine NoPanic.normal ?_
          rw [spl_all (rcptRow 0 nilS 0 (zeros 20)) (rcptRow 0 (.slice Ab kb kb) 0 (zeros 20)) rfl] at rS
          have zd : w16.drew.heap.size = w16.heap.size := rfl
          have za := ba.size
          have zR := bR.size
          have zb := bb.size
          have qa := na1.kept (bR.trans (bb.mono bR.size))
          have ne : OffS (· = wa.heap.size) Ab kb := fun x hx h0 h1 => by have h2 := na1.lt x hx h0; have h3 := Na x hx; have h4 : x.block = wa.heap.size := h1; omega
          have nw' : New w16 Ab := fun x hx => by have h3 := Na x hx; omega
          have q1 : Src wS Ab kb kb xs := StabS.src (G := (· = wa.heap.size)) qa ne wS (ChgS.only oS rfl)
          go_wp2_with fail
          go_meet
          case rel => exact ⟨wa.heap.size, Ab, kb, rfl, by omega, rS, q1, ne, nw', dS⟩
      · refine if_alloc (some 8) rfl 48 rfl (by rfl) _ 25 infoRcpt hzl (fun wR rR bR sR => ?_)
        have dR := d16x.trans (bR.mono d16x.size)
        refine hK'.out _ _ (dR) ?_
        clear hK' K'
        simp only [Act.put, List.setIfInBounds_toArray, List.set_cons_zero, List.set_cons_succ]
        refine held_one 8 (by kernel_rfl) (by rfl) (fun K' hK' => ?_)
        go_simp
        refine (bytesOf_any Ar kr cr xs wR (unhide HS16c _ dR).2.2.2 hkr).mono ?_
        rintro e wa ⟨Ab, kb, rfl, na1, -, Na, ba⟩
        have da := dR.trans (ba.mono dR.size)
        refine hK'.out _ _ (da) ?_
        clear hK' K'
        refine held_one 14 (by kernel_rfl) (by rfl) (fun K' hK' => ?_)
        go_simp
        refine (logs_nil_b wa).mono ?_
        rintro e wb ⟨rfl, bb⟩
        have db := da.trans (bb.mono da.size)
        refine hK'.out _ _ (db) ?_
        clear hK' K'
        refine held_takeD 15 (.agg (rcptRow 0 (.slice Ab kb kb) 0 (zeros 20)).toArray) (some 129) (by rfl) (by rfl) (by kernel_rfl) (by kernel_rfl) (by kernel_rfl) (fun _ _ _ h => h) (yieldsIf_build (by rfl) 48 [(1, .tmp 117), (3, .tmp 122), (4, .tmp 128)] rfl _ (fun wx => run_rcpt wx 0 Ab kb kb)) db ?_
        simp only [Act.put, List.setIfInBounds_toArray, List.set_cons_zero, List.set_cons_succ]
        refine held_one 17 (by kernel_rfl) (by rfl) (fun K' hK' => ?_)
        refine if_store rfl (by rfl) 48 (.tmp 8) (.tmp 129) rfl w16.heap.size 0 48 _ (rcptRow 0 (.slice Ab kb kb) 0 (zeros 20)) rfl rfl (rR.kept (ba.trans (bb.mono ba.size))) (Nat.le_refl 25) sizeRcpt (rcptRow_one 0 Ab kb kb 0 (zeros 20)) (fun wS rS oS => ?_)
        have dS : Below w16.heap.size w16 wS := db.trans (oS.below _ (Nat.le_refl _))
        refine hK'.out _ _ (dS) ?_
        clear hK' K'
        refine wpAnyH_done (by kernel_rfl) ?_ _
        refine NoPanic.normal ?_
        rw [spl_all (rcptRow 0 nilS 0 (zeros 20)) (rcptRow 0 (.slice Ab kb kb) 0 (zeros 20)) rfl] at rS
        have zd : w16.drew.heap.size = w16.heap.size := rfl
        have zR := bR.size
        have za := ba.size
        have zb := bb.size
        have qa := na1.kept bb
        have ne : OffS (· = w16.heap.size) Ab kb := fun x hx h0 h1 => by have h2 := na1.lt x hx h0; have h3 := Na x hx; have h4 : x.block = w16.heap.size := h1; omega
        have nw' : New w16 Ab := fun x hx => by have h3 := Na x hx; omega
        have q1 : Src wS Ab kb kb xs := StabS.src (G := (· = w16.heap.size)) qa ne wS (ChgS.only oS rfl)
        go_wp2_with fail
        go_meet
        case rel => exact ⟨w16.heap.size, Ab, kb, rfl, by omega, rS, q1, ne, nw', dS⟩
    case rest =>
      as_aux_lemma =>
      obtain ⟨w17, hw17⟩ : ∃ w17, w17 = wc := ⟨_, rfl⟩
      subst hw17
      obtain ⟨gR, Ab, kb, rfl, hgR, r17, s17, of17, nw17, b17⟩ := hcut
      have hu64 : u64N ub = ub := by unfold u64N; rw [if_pos (by omega)]
      have HSM := hide (small_any A4 k4 c4 ub w17 ((unhide NU16) _ (Chg.of b17)) (by omega))
      rw [hu64] at HSM
      have x172 : w17.cell? ⟨gR, 2, none⟩ = some (.int .u64 0) := by rw [r17.cell]; rfl
      have f172 := r17.froz 2
      have R17 := hide r17
      have hgRl := r17.lt
      have hgRbw : gR ≠ bw := by omega
      have S17 := hide s17
      have OF17 := hide of17
      have NW17 := hide nw17
      clear r17 s17 of17 nw17 hu64
      go_upto_region 13 with (go_at_call 55; refine (unhide HSM).mono ?_; rintro e w' ⟨rfl, rfl⟩)
      obtain ⟨w18, hw18⟩ : ∃ x, x = w17.setCell ⟨gR, 2, none⟩ (.int .u64 ub) := ⟨_, rfl⟩
      rw [← hw18]
      have o18 : Only gR w17 w18 := hw18 ▸ (Only.refl gR w17).setCell 2 _
      have r18 : RowT 48 w18 gR (rcptRow 0 (.slice Ab kb kb) ub (zeros 20)) := hw18 ▸ (unhide R17).set 2 _
      have hs18 := ((unhide HS16).kept b17).row.only o18 (by omega)
      have c1618 : Chg bw w16 w18 := (Chg.of b17).onlyNew o18 hgR
      have e1812 : w18.cell? ⟨bw, 12, none⟩ = some (.int .u8 0) := by rw [hs18.cell]; exact (unhide E16 12 (by omega) (by omega)).trans (unhide C12)
      have hrm : w18.rangeAt bw 39 (bv mad) := by
        have h1 := hs18.range 39 20
        rwa [range_eq2 (cs := cs) 39 20 (fun i h1 h2 => unhide E16 i (by omega) (by omega)), unhide HMAD] at h1
      have HRM := hide hrm
      have R18 := hide r18
      have CR18 := hide hs18
      have hszm := hmd.size
      have hle18 : 5 + (bv mad).length ≤ (rcptRow 0 (.slice Ab kb kb) ub (zeros 20)).length := by rw [bv_len, hmd.len, rcptRow_len _ _ _ _ (by rw [zeros_len])]; omega
      clear hw18 x172 f172 hrm r18 hs18 R17 HSM
      go_upto_region 15 with (first
        | ((with_reducible refine at_load 26 ?_); refine wpList_load_g (by rfl) 26 (.tmp 140) rfl bw 39 rfl (bv mad) _ (unhide HRM) hu rfl hszm ?_)
        | ((with_reducible refine at_store 26 ?_); refine wpList_store_part rfl 26 (.tmp 142) (.tmp 141) rfl gR 5 48 (rcptRow 0 (.slice Ab kb kb) ub (zeros 20)) (bv mad) rfl rfl (unhide R18) hle18 hszm (bv_one _) ?_; intro w19 hr19 ho19))
      have r19 : RowT 48 w19 gR (rcptRow 0 (.slice Ab kb kb) ub mad) := by
        have e : spl (rcptRow 0 (.slice Ab kb kb) ub (zeros 20)) 5 (bv mad) = rcptRow 0 (.slice Ab kb kb) ub mad := by
          unfold spl rcptRow
          rw [List.drop_of_length_le (by simp [bv_len, zeros_len, hmd.len])]
          simp
        rwa [e] at hr19
      have c1619 : Chg bw w16 w19 := c1618.onlyNew ho19 hgR
      have cr19 := (unhide CR18).only ho19 (by omega)
      have e197 : w19.cell? ⟨bw, 7, none⟩ = some nilS := by rw [cr19.cell]; exact (unhide HS16).c7
      have HGO := hide (goes_nil bw w19 e197)
      have R19 := hide r19
      have CR19 := hide cr19
      have HRC19 := hide cr19.rangeAll
      have hszS : (Sakg.prog.info? 105).map (·.size) = some cs16.length := by rw [hl16]; exact sizeYState
      have huS := Sakg.underlying105
      clear hr19 r19 cr19 e197 R18 CR18 HRM e1812
      as_aux_lemma =>
      have hone16 : ∀ v ∈ cs16, v.oneCell' = true := fun v hv => by
        obtain ⟨i, hi⟩ := List.mem_iff_getElem?.1 hv
        by_cases h8 : 8 ≤ i
        · by_cases h18 : i = 18
          · subst h18
            rw [unhide K16] at hi
            obtain rfl := Option.some.inj hi
            rfl
          · rw [unhide E16 i h8 h18] at hi
            exact unhide HONE i v hi
        · obtain ⟨x1, x2, x3, x4, x5, -⟩ := (unhide HS16).accts
          obtain ⟨y1, y2, y3, y4, y5, -⟩ := (unhide HS16).warmA
          obtain ⟨z1, z2, z3, z4, z5, -⟩ := (unhide HS16).warmS
          have hsl : ∀ A k c, cs16[i]? = some (Value.slice A k c) → v.oneCell' = true := fun A k c he => by
            rw [he] at hi
            obtain rfl := Option.some.inj hi
            rfl
          have hi8 : i = 0 ∨ i = 1 ∨ i = 2 ∨ i = 3 ∨ i = 4 ∨ i = 5 ∨ i = 6 ∨ i = 7 := by omega
          rcases hi8 with rfl | rfl | rfl | rfl | rfl | rfl | rfl | rfl
          · exact hsl _ _ _ x5
          · exact hsl _ _ _ y5
          · exact hsl _ _ _ z5
          · exact hsl _ _ _ (unhide HS16).c3
          · exact hsl _ _ _ (unhide HS16).c4
          · exact hsl _ _ _ (unhide HS16).c5
          · exact hsl _ _ _ (unhide HS16).c6
          · exact hsl _ _ _ (unhide HS16).c7
      obtain ⟨A0, l0, c0, ds0, h00, -⟩ := (unhide HS16).accts
      obtain ⟨env, henv⟩ : ∃ env, env = (cs16.drop 59).take 120 := ⟨_, rfl⟩
      have henvl : env.length = 120 := by rw [henv, List.length_take, List.length_drop, hl16]; rfl
      have henvo : ∀ v ∈ env, v.oneCell' = true := fun v hv => hone16 v (List.mem_of_mem_drop (List.mem_of_mem_take (henv ▸ hv)))
      have hszE : (Sakg.prog.info? 64).map (·.size) = some env.length := by rw [henvl]; exact sizeEnv
      have huE := Sakg.underlying64
      have H00 := hide h00
      have HENV := hide henv
      have HONE16 := hide hone16
      have hz179 : zeroC.length = cs16.length := by rw [zeroC_len, hl16]
      clear h00 henv hone16
      go_upto_region 17 with (first
        | (go_at_call 127; refine (unhide HGO).mono ?_; rintro e w' ⟨rfl, rfl⟩)
        | ((with_reducible refine at_load 105 ?_); refine wpList_load_g (by rfl) 105 (.tmp 148) rfl bw 0 rfl cs16 _ (unhide HRC19) huS rfl hszS ?_)
        | ((with_reducible refine at_alloc 105 ?_); refine wpList_alloc_g (by rfl) 105 rfl zeroC 179 infoYState zeroC_len ?_)
        | ((with_reducible refine at_store 105 ?_); refine wpList_store_whole rfl 105 (.tmp 9) (.tmp 149) rfl _ _ _ cs16 rfl rfl (RowT.new _ _ _) hz179 hszS (unhide HONE16) ?_; intro w20 hr20 hon20; have hbb20 := box_below hon20; clear hon20))
      have b1920 := hbb20.1
      have hgb : w19.heap.size < w20.heap.size := hr20.lt
      have x200 : w20.cell? ⟨w19.heap.size, 0, none⟩ = some (.slice A0 l0 c0) := by rw [hr20.cell]; exact unhide H00
      have x2013 : w20.cell? ⟨w19.heap.size, 13, none⟩ = some (.int .u8 1) := by rw [hr20.cell, unhide E16 13 (by omega) (by omega)]; exact unhide C13
      have x2018 : w20.cell? ⟨w19.heap.size, 18, none⟩ = some (.slice At kt ct) := by rw [hr20.cell]; exact unhide K16
      have hre : w20.rangeAt w19.heap.size 59 env := by
        have h1 := hr20.range 59 120
        rwa [← unhide HENV] at h1
      have HRE := hide hre
      have CR20 := hide ((unhide CR19).kept b1920)
      have R20 := hide ((unhide R19).kept b1920)
      have c1620 : Chg bw w16 w20 := c1619.trans (Chg.of b1920)
      have hel := endRow_len A0 l0 c0 1 At kt ct env henvl
      have heo := endRow_one A0 l0 c0 1 At kt ct env henvo
      have hes : (Sakg.prog.info? 105).map (·.size) = some (endRow A0 l0 c0 1 At kt ct env).length := by rw [hel]; exact sizeYState
      have hel2 : cs16.length = (endRow A0 l0 c0 1 At kt ct env).length := by rw [hel, hl16]
      have HRS := hide (fun wx => run_state wx A0 l0 c0 1 At kt ct env henvl)
      clear hr20 hbb20 hre HGO HRC19
      as_aux_lemma =>
      go_upto_region 18 with (first
        | ((with_reducible refine at_build 101 ?_); refine wpList_build_run (by rfl) 101 [(0, .tmp 153)] rfl (.agg (accWorld (.slice A0 l0 c0)).toArray) (run_world _ A0 l0 c0) ?_)
        | ((with_reducible refine at_load 64 ?_); refine wpList_load_g (by rfl) 64 (.tmp 159) rfl w19.heap.size 59 rfl env _ (unhide HRE) huE rfl hszE ?_)
        | ((with_reducible refine at_build 105 ?_); refine wpList_build_run (by rfl) 105 [(0, .tmp 154), (6, .tmp 156), (11, .tmp 158), (14, .tmp 160)] rfl (.agg (endRow A0 l0 c0 1 At kt ct env).toArray) (unhide HRS _) ?_)
        | ((with_reducible refine at_store 105 ?_); refine wpList_store_whole rfl 105 (.tmp 162) (.tmp 161) rfl bw 107 cs16 (endRow A0 l0 c0 1 At kt ct env) rfl rfl (unhide CR20) hel2 hes heo ?_; intro w21 hr21 ho21))
      have r21 := (unhide R20).only ho21 hgRbw
      have c1621 : Chg bw w16 w21 := c1620.trans (Chg.ofOnly ho21)
      have cW21 : Chg bw W w21 := cW16.trans c1621
      have rr21 : RowT 48 w21 w.heap.size (rcptRow 0 nilS 0 (zeros 20)) := cW21.row (unhide HR0) (by omega)
      have hszR : (Sakg.prog.info? 48).map (·.size) = some (rcptRow 0 (.slice Ab kb kb) ub mad).length := by rw [rcptRow_len _ _ _ _ hmd.len]; exact sizeRcpt
      have HRR := hide rr21
      have HRG := hide r21.rangeAll
      have huR := Sakg.underlying48
      have hlR : (rcptRow 0 nilS 0 (zeros 20)).length = (rcptRow 0 (.slice Ab kb kb) ub mad).length := by rw [rcptRow_len _ _ _ _ hmd.len]; rfl
      clear hr21 r21 rr21 x200 x2013 x2018 HRE HRS
      go_wp2_with (first
        | ((with_reducible refine at_load 48 ?_); refine wpList_load_g (by rfl) 48 (.tmp 8) rfl gR 0 rfl (rcptRow 0 (.slice Ab kb kb) ub mad) _ (unhide HRG) huR rfl hszR ?_)
        | ((with_reducible refine at_store 48 ?_); refine wpList_store_whole rfl 48 (.tmp 2) (.tmp 163) rfl w.heap.size 48 _ (rcptRow 0 (.slice Ab kb kb) ub mad) rfl rfl (unhide HRR) hlR hszR (rcptRow_one 0 Ab kb kb ub mad) ?_; intro w22 hr22 ho22))
      refine bodyPost_ret (results_cell_row rfl _ _ _ _ _ _ _ rfl hr22 Sakg.underlying48 rfl (by simpa using hszR)) rfl ?_
      have hG : ∀ k, (k = bw ∨ k = gR ∨ k = w.heap.size) → k = bw ∨ k = gR ∨ k = w.heap.size := fun _ h => h
      have s17 := unhide S17
      have hsrc : Src w22 Ab kb kb xs := by
        refine StabS.src (G := fun k => k = bw ∨ k = gR ∨ k = w.heap.size) s17 (fun x hx h0 hg => ?_) w22 ?_
        · have h1 := unhide NW17 x hx
          rcases hg with hg | hg | hg
          · omega
          · exact unhide OF17 x hx h0 hg
          · omega
        · have t1 : ChgS (fun k => k = bw ∨ k = gR ∨ k = w.heap.size) w17 w18 := ChgS.only o18 (.inr (.inl rfl))
          have t2 : ChgS (fun k => k = bw ∨ k = gR ∨ k = w.heap.size) w17 w19 := t1.then (ChgS.only (G := fun k => k = bw ∨ k = gR ∨ k = w.heap.size) ho19 (.inr (.inl rfl))) (fun _ h _ => h)
          have t3 : ChgS (fun k => k = bw ∨ k = gR ∨ k = w.heap.size) w17 w20 := t2.then (ChgS.of (G := fun k => k = bw ∨ k = gR ∨ k = w.heap.size) b1920) (fun _ h _ => h)
          have t4 : ChgS (fun k => k = bw ∨ k = gR ∨ k = w.heap.size) w17 w21 := t3.then (ChgS.only (G := fun k => k = bw ∨ k = gR ∨ k = w.heap.size) ho21 (.inl rfl)) (fun _ h _ => h)
          exact t4.then (ChgS.only (G := fun k => k = bw ∨ k = gR ∨ k = w.heap.size) ho22 (.inr (.inr rfl))) (fun _ h _ => h)
      exact ⟨Ab, kb, kb, mad, by rw [unhide HUB], hmd.len, hsrc, fun x hx => Nat.le_trans (Nat.le_trans hb0.size hWl16) (unhide NW17 x hx), ((Chg.of hb0).trans cW21).onlyNew ho22 (Nat.le_refl _)⟩

end Go.Proofs.YgcsakGreat
