/-
  yp: bareCost at any instruction.
-/
import Derived.Test.YgcsakGreatKgF0
namespace Go.Proofs.YgcsakGreat
set_option linter.unusedVariables false
set_option linter.unusedSimpArgs false
set_option maxRecDepth 100000
open Go.RowKit

section
variable {G : Nat → Prop} {bw gf : Nat} {cs fr : List Value} {d : WD} {f : FD} {r : List FD} {x : XD} {w : World} {B : Nat}
set_option maxHeartbeats 8000000 in
theorem bareC_10 (h : SR G bw gf cs fr d (f :: r) x w) (hx : XB x) (hg : Good B d) (hf : AnyF f) :
    Calls Sakg.prog 300 #[.pointer (some ⟨bw, 0, none⟩), .pointer (some ⟨gf, 60 * r.length, none⟩), .int .u8 10] w (BareR 10 f.stk w) := by
  have hBB := big_ge
  have hP := p256_ge
  have hPB := p256_big2
  have hP40 := pow40_ge
  have hP41 := pow41_ge
  have hB41 : (256 : Nat) ^ 41 ≤ BIG := big_pow 41 (by omega)
  have hs := argN_lt hf.stk
  have hsl := hf.slen
  have hfx := h.fx
  obtain ⟨o, ho⟩ : ∃ o, o = 60 * r.length := ⟨_, rfl⟩
  rw [← ho] at hfx ⊢
  have HF := hide hfx
  have HS := hide hs
  have HCW := hide h.cw
  clear h hfx ho hx hg hs
  go_enter Sakg.func300, Sakg.ntmps300
  have HC1 := hide ((unhide HF).arg (by omega) 1 (by omega))
  go_wp2_with fail
  refine (unhide HC1).mono ?_
  rintro e w1 ⟨⟨A1, k1, c1, rfl, s1⟩, q1⟩
  have b1 : Below w.heap.size w w1 := q1.below _
  have KK1 := hide s1
  clear HC1 s1 q1
  have HC2 := hide (expCost_any A1 k1 c1 _ w1 ((unhide KK1).kp (ChgS.of b1)).now (unhide HS 1))
  go_wp2_with fail
  refine (unhide HC2).mono ?_
  rintro e w2 ⟨A2, k2, c2, rfl, n2, N2, b2⟩
  have NN2 := hide n2
  clear HC2 n2
  have hdl := dlen_le (unhide HS 1)
  have hve : expN (argN f.stk 1) = 10 + 50 * dlen (argN f.stk 1) := rfl
  go_wp2
  go_ret
  exact ⟨A2, k2, c2, expN (argN f.stk 1), rfl, (unhide NN2), N2.later b1.size, by omega, ⟨fun _ _ _ => by omega, fun hh => by unfold growO at hh; omega, fun hh => by omega, fun h => by omega⟩, (b1.thn b2)⟩
set_option maxHeartbeats 8000000 in
theorem bareC_32 (h : SR G bw gf cs fr d (f :: r) x w) (hx : XB x) (hg : Good B d) (hf : AnyF f) :
    Calls Sakg.prog 300 #[.pointer (some ⟨bw, 0, none⟩), .pointer (some ⟨gf, 60 * r.length, none⟩), .int .u8 32] w (BareR 32 f.stk w) := by
  have hBB := big_ge
  have hP := p256_ge
  have hPB := p256_big2
  have hP40 := pow40_ge
  have hP41 := pow41_ge
  have hB41 : (256 : Nat) ^ 41 ≤ BIG := big_pow 41 (by omega)
  have hs := argN_lt hf.stk
  have hsl := hf.slen
  have hfx := h.fx
  obtain ⟨o, ho⟩ : ∃ o, o = 60 * r.length := ⟨_, rfl⟩
  rw [← ho] at hfx ⊢
  have HF := hide hfx
  have HS := hide hs
  have HCW := hide h.cw
  clear h hfx ho hx hg hs
  go_enter Sakg.func300, Sakg.ntmps300
  have HC1 := hide (num_any 30 w (by omega))
  go_wp2_with fail
  refine (unhide HC1).mono ?_
  rintro e w1 ⟨A1, k1, c1, rfl, n1, N1, b1⟩
  have NN1 := hide n1
  clear HC1 n1
  have HC2 := hide (num_any 6 w1 (by omega))
  go_wp2_with fail
  refine (unhide HC2).mono ?_
  rintro e w2 ⟨A2, k2, c2, rfl, n2, N2, b2⟩
  have NN2 := hide n2
  clear HC2 n2
  have HC3 := hide (((unhide HF).kept (b1.thn b2)).arg (by omega) 1 (by omega))
  go_wp2_with fail
  refine (unhide HC3).mono ?_
  rintro e w3 ⟨⟨A3, k3, c3, rfl, s3⟩, q3⟩
  have b3 : Below w2.heap.size w2 w3 := q3.below _
  have KK3 := hide s3
  clear HC3 s3 q3
  have ha := unhide HS 1
  generalize argN f.stk 1 = a1 at KK3 ha
  have HC4 := hide (words_any A3 k3 c3 _ w3 ((unhide KK3).kp (ChgS.of b3)).now (by omega))
  go_wp2_with fail
  refine (unhide HC4).mono ?_
  rintro e w4 ⟨A4, k4, c4, rfl, n4, N4, b4⟩
  have NN4 := hide n4
  clear HC4 n4
  obtain ⟨q, hq⟩ : ∃ q, q = (a1 + 31) / 32 := ⟨_, rfl⟩
  rw [← hq] at NN4
  have hql : q < P256 := by omega
  clear hq
  have HC5 := hide (((unhide NN2).kept (b3.thn b4)).mul (unhide NN4) (by omega) (by omega))
  go_wp2_with fail
  refine (unhide HC5).mono ?_
  rintro e w5 ⟨A5, k5, c5, rfl, n5, N5, b5⟩
  have NN5 := hide n5
  clear HC5 n5
  have HC6 := hide (((unhide NN1).kept (b2.thn (b3.thn (b4.thn b5)))).add (unhide NN5) (by omega) (by omega))
  go_wp2_with fail
  refine (unhide HC6).mono ?_
  rintro e w6 ⟨A6, k6, c6, rfl, n6, N6, b6⟩
  have NN6 := hide n6
  clear HC6 n6
  go_wp2
  go_ret
  exact ⟨A6, k6, c6, 30 + 6 * q, rfl, (unhide NN6), N6.later (b1.thn (b2.thn (b3.thn (b4.thn b5)))).size, by omega, ⟨fun _ _ _ => by omega, fun hh => by unfold growO at hh; omega, fun hh => by omega, fun h => by omega⟩, (b1.thn (b2.thn (b3.thn (b4.thn (b5.thn b6)))))⟩
set_option maxHeartbeats 8000000 in
theorem bareC_49 (h : SR G bw gf cs fr d (f :: r) x w) (hx : XB x) (hg : Good B d) (hf : AnyF f) :
    Calls Sakg.prog 300 #[.pointer (some ⟨bw, 0, none⟩), .pointer (some ⟨gf, 60 * r.length, none⟩), .int .u8 49] w (BareR 49 f.stk w) := by
  have hBB := big_ge
  have hP := p256_ge
  have hPB := p256_big2
  have hP40 := pow40_ge
  have hP41 := pow41_ge
  have hB41 : (256 : Nat) ^ 41 ≤ BIG := big_pow 41 (by omega)
  have hs := argN_lt hf.stk
  have hsl := hf.slen
  have hfx := h.fx
  obtain ⟨o, ho⟩ : ∃ o, o = 60 * r.length := ⟨_, rfl⟩
  rw [← ho] at hfx ⊢
  have HF := hide hfx
  have HS := hide hs
  have HCW := hide h.cw
  have d0 : Below w.heap.size w w.drew := Quiet.below ⟨1, rfl⟩ _
  have ha0 : argN f.stk 0 < BIG := Nat.lt_trans (unhide HS 0) p256_lt
  clear h hfx ho hx hs
  go_enter Sakg.func300, Sakg.ntmps300
  go_upto_region 39 with fail
  refine wp_region_noPanic ?_
  refine wp_region_held_drew (S := fun w' => Below w.heap.size w w') (by kernel_rfl) (d0) (fun hHeld => ?_)
  refine held_takeD 0 (.pointer (some ⟨bw, 0, none⟩)) (some 115) (by rfl) (by rfl) (by kernel_rfl) (by kernel_rfl) (by kernel_rfl) (fun _ _ _ h => h) (.inl ⟨by rfl, fun _ _ => by rfl⟩) (hHeld) ?_
  simp only [Act.put, List.setIfInBounds_toArray, List.set_cons_zero, List.set_cons_succ]
  refine held_takeD 1 (.pointer (some ⟨bw, 0, none⟩)) (some 116) (by rfl) (by rfl) (by kernel_rfl) (by kernel_rfl) (by kernel_rfl) (fun _ _ _ h => h) (.inl ⟨by rfl, fun _ _ => by go_simp⟩) (hHeld) ?_
  simp only [Act.put, List.setIfInBounds_toArray, List.set_cons_zero, List.set_cons_succ]
  refine held_takeD 2 (.pointer (some ⟨bw, 0, none⟩)) (some 117) (by rfl) (by rfl) (by kernel_rfl) (by kernel_rfl) (by kernel_rfl) (fun _ _ _ h => h) (.inl ⟨by rfl, fun _ _ => by go_simp⟩) (hHeld) ?_
  simp only [Act.put, List.setIfInBounds_toArray, List.set_cons_zero, List.set_cons_succ]
  refine held_takeD 3 (.pointer (some ⟨gf, o, none⟩)) (some 118) (by rfl) (by rfl) (by kernel_rfl) (by kernel_rfl) (by kernel_rfl) (fun _ _ _ h => h) (.inl ⟨by rfl, fun _ _ => by rfl⟩) (hHeld) ?_
  simp only [Act.put, List.setIfInBounds_toArray, List.set_cons_zero, List.set_cons_succ]
  refine held_one 4 (by kernel_rfl) (by rfl) (fun K' hK' => ?_)
  go_simp
  refine (((unhide HF).kept d0).arg (by omega) 0 (by omega)).mono ?_
  rintro e w1 ⟨⟨A1, k1, c1, rfl, s1⟩, q1⟩
  refine hK'.out _ _ (d0.thn (q1.below _)) ?_
  clear hK' K'
  have d1 : Below w.heap.size w w1 := d0.thn (q1.below _)
  have s1' := s1.kp (ChgS.of (q1.below _))
  refine held_one 5 (by kernel_rfl) (by rfl) (fun K' hK' => ?_)
  go_simp
  refine (addrOf_any A1 k1 c1 _ w1 s1'.now ha0).mono ?_
  rintro e w2 ⟨⟨ta, rfl, hta⟩, b2⟩
  refine hK'.out _ _ (d1.thn b2) ?_
  clear hK' K'
  have d2 : Below w.heap.size w w2 := d1.thn b2
  refine held_one 6 (by kernel_rfl) (by rfl) (fun K' hK' => ?_)
  go_simp
  refine (((unhide HCW).kept d2).access hg ta hta).mono ?_
  rintro e w3 ⟨A3, k3, c3, n3, rfl, m3, N3, l3, b3⟩
  refine hK'.out _ _ (d2.thn b3) ?_
  clear hK' K'
  have d3 : Below w.heap.size w w3 := d2.thn b3
  refine held_takeD 7 (.slice A3 k3 c3) (some 6) (by rfl) (by rfl) (by kernel_rfl) (by kernel_rfl) (by kernel_rfl) (fun _ _ _ h => h) (.inl ⟨by rfl, fun _ _ => by rfl⟩) (d3) ?_
  simp only [Act.put, List.setIfInBounds_toArray, List.set_cons_zero, List.set_cons_succ]
  refine wpAnyH_done (by kernel_rfl) ?_ _
  refine NoPanic.normal ?_
  have NN3 := hide m3
  clear s1 s1' q1 m3
  go_wp2
  go_ret
  exact ⟨A3, k3, c3, n3, rfl, unhide NN3, N3.later d2.size, by omega, ⟨fun _ _ _ => by omega, fun _ => by omega, fun h => by omega, fun h => by omega⟩, d3⟩
set_option maxHeartbeats 8000000 in
theorem bareC_55 (h : SR G bw gf cs fr d (f :: r) x w) (hx : XB x) (hg : Good B d) (hf : AnyF f) :
    Calls Sakg.prog 300 #[.pointer (some ⟨bw, 0, none⟩), .pointer (some ⟨gf, 60 * r.length, none⟩), .int .u8 55] w (BareR 55 f.stk w) := by
  have hBB := big_ge
  have hP := p256_ge
  have hPB := p256_big2
  have hP40 := pow40_ge
  have hP41 := pow41_ge
  have hB41 : (256 : Nat) ^ 41 ≤ BIG := big_pow 41 (by omega)
  have hs := argN_lt hf.stk
  have hsl := hf.slen
  have hfx := h.fx
  obtain ⟨o, ho⟩ : ∃ o, o = 60 * r.length := ⟨_, rfl⟩
  rw [← ho] at hfx ⊢
  have HF := hide hfx
  have HS := hide hs
  have HCW := hide h.cw
  clear h hfx ho hx hg hs
  go_enter Sakg.func300, Sakg.ntmps300
  have HC1 := hide (num_any 3 w (by omega))
  go_wp2_with fail
  refine (unhide HC1).mono ?_
  rintro e w1 ⟨A1, k1, c1, rfl, n1, N1, b1⟩
  have NN1 := hide n1
  clear HC1 n1
  have HC2 := hide (((unhide HF).kept b1).arg (by omega) 2 (by omega))
  go_wp2_with fail
  refine (unhide HC2).mono ?_
  rintro e w2 ⟨⟨A2, k2, c2, rfl, s2⟩, q2⟩
  have b2 : Below w1.heap.size w1 w2 := q2.below _
  have KK2 := hide s2
  clear HC2 s2 q2
  have ha := unhide HS 2
  generalize argN f.stk 2 = a1 at KK2 ha
  have HC3 := hide (copyCost_any A2 k2 c2 _ w2 ((unhide KK2).kp (ChgS.of b2)).now (by omega))
  go_wp2_with fail
  refine (unhide HC3).mono ?_
  rintro e w3 ⟨A3, k3, c3, rfl, n3, N3, b3⟩
  have NN3 := hide n3
  clear HC3 n3
  obtain ⟨q, hq, hql⟩ : ∃ q, q = copyN a1 ∧ q ≤ 256 * P256 := ⟨_, rfl, copyN_le ha⟩
  rw [← hq] at NN3
  clear hq
  have HC4 := hide (((unhide NN1).kept (b2.thn b3)).add (unhide NN3) (by omega) (by omega))
  go_wp2_with fail
  refine (unhide HC4).mono ?_
  rintro e w4 ⟨A4, k4, c4, rfl, n4, N4, b4⟩
  have NN4 := hide n4
  clear HC4 n4
  go_wp2
  go_ret
  exact ⟨A4, k4, c4, 3 + q, rfl, (unhide NN4), N4.later (b1.thn (b2.thn b3)).size, by omega, ⟨fun _ _ _ => by omega, fun hh => by unfold growO at hh; omega, fun hh => by omega, fun h => by omega⟩, (b1.thn (b2.thn (b3.thn b4)))⟩
set_option maxHeartbeats 8000000 in
theorem bareC_57 (h : SR G bw gf cs fr d (f :: r) x w) (hx : XB x) (hg : Good B d) (hf : AnyF f) :
    Calls Sakg.prog 300 #[.pointer (some ⟨bw, 0, none⟩), .pointer (some ⟨gf, 60 * r.length, none⟩), .int .u8 57] w (BareR 57 f.stk w) := by
  have hBB := big_ge
  have hP := p256_ge
  have hPB := p256_big2
  have hP40 := pow40_ge
  have hP41 := pow41_ge
  have hB41 : (256 : Nat) ^ 41 ≤ BIG := big_pow 41 (by omega)
  have hs := argN_lt hf.stk
  have hsl := hf.slen
  have hfx := h.fx
  obtain ⟨o, ho⟩ : ∃ o, o = 60 * r.length := ⟨_, rfl⟩
  rw [← ho] at hfx ⊢
  have HF := hide hfx
  have HS := hide hs
  have HCW := hide h.cw
  clear h hfx ho hx hg hs
  go_enter Sakg.func300, Sakg.ntmps300
  have HC1 := hide (num_any 3 w (by omega))
  go_wp2_with fail
  refine (unhide HC1).mono ?_
  rintro e w1 ⟨A1, k1, c1, rfl, n1, N1, b1⟩
  have NN1 := hide n1
  clear HC1 n1
  have HC2 := hide (((unhide HF).kept b1).arg (by omega) 2 (by omega))
  go_wp2_with fail
  refine (unhide HC2).mono ?_
  rintro e w2 ⟨⟨A2, k2, c2, rfl, s2⟩, q2⟩
  have b2 : Below w1.heap.size w1 w2 := q2.below _
  have KK2 := hide s2
  clear HC2 s2 q2
  have ha := unhide HS 2
  generalize argN f.stk 2 = a1 at KK2 ha
  have HC3 := hide (copyCost_any A2 k2 c2 _ w2 ((unhide KK2).kp (ChgS.of b2)).now (by omega))
  go_wp2_with fail
  refine (unhide HC3).mono ?_
  rintro e w3 ⟨A3, k3, c3, rfl, n3, N3, b3⟩
  have NN3 := hide n3
  clear HC3 n3
  obtain ⟨q, hq, hql⟩ : ∃ q, q = copyN a1 ∧ q ≤ 256 * P256 := ⟨_, rfl, copyN_le ha⟩
  rw [← hq] at NN3
  clear hq
  have HC4 := hide (((unhide NN1).kept (b2.thn b3)).add (unhide NN3) (by omega) (by omega))
  go_wp2_with fail
  refine (unhide HC4).mono ?_
  rintro e w4 ⟨A4, k4, c4, rfl, n4, N4, b4⟩
  have NN4 := hide n4
  clear HC4 n4
  go_wp2
  go_ret
  exact ⟨A4, k4, c4, 3 + q, rfl, (unhide NN4), N4.later (b1.thn (b2.thn b3)).size, by omega, ⟨fun _ _ _ => by omega, fun hh => by unfold growO at hh; omega, fun hh => by omega, fun h => by omega⟩, (b1.thn (b2.thn (b3.thn b4)))⟩
set_option maxHeartbeats 8000000 in
theorem bareC_59 (h : SR G bw gf cs fr d (f :: r) x w) (hx : XB x) (hg : Good B d) (hf : AnyF f) :
    Calls Sakg.prog 300 #[.pointer (some ⟨bw, 0, none⟩), .pointer (some ⟨gf, 60 * r.length, none⟩), .int .u8 59] w (BareR 59 f.stk w) := by
  have hBB := big_ge
  have hP := p256_ge
  have hPB := p256_big2
  have hP40 := pow40_ge
  have hP41 := pow41_ge
  have hB41 : (256 : Nat) ^ 41 ≤ BIG := big_pow 41 (by omega)
  have hs := argN_lt hf.stk
  have hsl := hf.slen
  have hfx := h.fx
  obtain ⟨o, ho⟩ : ∃ o, o = 60 * r.length := ⟨_, rfl⟩
  rw [← ho] at hfx ⊢
  have HF := hide hfx
  have HS := hide hs
  have HCW := hide h.cw
  have d0 : Below w.heap.size w w.drew := Quiet.below ⟨1, rfl⟩ _
  have ha0 : argN f.stk 0 < BIG := Nat.lt_trans (unhide HS 0) p256_lt
  clear h hfx ho hx hs
  go_enter Sakg.func300, Sakg.ntmps300
  go_upto_region 39 with fail
  refine wp_region_noPanic ?_
  refine wp_region_held_drew (S := fun w' => Below w.heap.size w w') (by kernel_rfl) (d0) (fun hHeld => ?_)
  refine held_takeD 0 (.pointer (some ⟨bw, 0, none⟩)) (some 115) (by rfl) (by rfl) (by kernel_rfl) (by kernel_rfl) (by kernel_rfl) (fun _ _ _ h => h) (.inl ⟨by rfl, fun _ _ => by rfl⟩) (hHeld) ?_
  simp only [Act.put, List.setIfInBounds_toArray, List.set_cons_zero, List.set_cons_succ]
  refine held_takeD 1 (.pointer (some ⟨bw, 0, none⟩)) (some 116) (by rfl) (by rfl) (by kernel_rfl) (by kernel_rfl) (by kernel_rfl) (fun _ _ _ h => h) (.inl ⟨by rfl, fun _ _ => by go_simp⟩) (hHeld) ?_
  simp only [Act.put, List.setIfInBounds_toArray, List.set_cons_zero, List.set_cons_succ]
  refine held_takeD 2 (.pointer (some ⟨bw, 0, none⟩)) (some 117) (by rfl) (by rfl) (by kernel_rfl) (by kernel_rfl) (by kernel_rfl) (fun _ _ _ h => h) (.inl ⟨by rfl, fun _ _ => by go_simp⟩) (hHeld) ?_
  simp only [Act.put, List.setIfInBounds_toArray, List.set_cons_zero, List.set_cons_succ]
  refine held_takeD 3 (.pointer (some ⟨gf, o, none⟩)) (some 118) (by rfl) (by rfl) (by kernel_rfl) (by kernel_rfl) (by kernel_rfl) (fun _ _ _ h => h) (.inl ⟨by rfl, fun _ _ => by rfl⟩) (hHeld) ?_
  simp only [Act.put, List.setIfInBounds_toArray, List.set_cons_zero, List.set_cons_succ]
  refine held_one 4 (by kernel_rfl) (by rfl) (fun K' hK' => ?_)
  go_simp
  refine (((unhide HF).kept d0).arg (by omega) 0 (by omega)).mono ?_
  rintro e w1 ⟨⟨A1, k1, c1, rfl, s1⟩, q1⟩
  refine hK'.out _ _ (d0.thn (q1.below _)) ?_
  clear hK' K'
  have d1 : Below w.heap.size w w1 := d0.thn (q1.below _)
  have s1' := s1.kp (ChgS.of (q1.below _))
  refine held_one 5 (by kernel_rfl) (by rfl) (fun K' hK' => ?_)
  go_simp
  refine (addrOf_any A1 k1 c1 _ w1 s1'.now ha0).mono ?_
  rintro e w2 ⟨⟨ta, rfl, hta⟩, b2⟩
  refine hK'.out _ _ (d1.thn b2) ?_
  clear hK' K'
  have d2 : Below w.heap.size w w2 := d1.thn b2
  refine held_one 6 (by kernel_rfl) (by rfl) (fun K' hK' => ?_)
  go_simp
  refine (((unhide HCW).kept d2).access hg ta hta).mono ?_
  rintro e w3 ⟨A3, k3, c3, n3, rfl, m3, N3, l3, b3⟩
  refine hK'.out _ _ (d2.thn b3) ?_
  clear hK' K'
  have d3 : Below w.heap.size w w3 := d2.thn b3
  refine held_takeD 7 (.slice A3 k3 c3) (some 6) (by rfl) (by rfl) (by kernel_rfl) (by kernel_rfl) (by kernel_rfl) (fun _ _ _ h => h) (.inl ⟨by rfl, fun _ _ => by rfl⟩) (d3) ?_
  simp only [Act.put, List.setIfInBounds_toArray, List.set_cons_zero, List.set_cons_succ]
  refine wpAnyH_done (by kernel_rfl) ?_ _
  refine NoPanic.normal ?_
  have NN3 := hide m3
  clear s1 s1' q1 m3
  go_wp2
  go_ret
  exact ⟨A3, k3, c3, n3, rfl, unhide NN3, N3.later d2.size, by omega, ⟨fun _ _ _ => by omega, fun _ => by omega, fun h => by omega, fun h => by omega⟩, d3⟩
set_option maxHeartbeats 8000000 in
theorem bareC_60 (h : SR G bw gf cs fr d (f :: r) x w) (hx : XB x) (hg : Good B d) (hf : AnyF f) :
    Calls Sakg.prog 300 #[.pointer (some ⟨bw, 0, none⟩), .pointer (some ⟨gf, 60 * r.length, none⟩), .int .u8 60] w (BareR 60 f.stk w) := by
  have hBB := big_ge
  have hP := p256_ge
  have hPB := p256_big2
  have hP40 := pow40_ge
  have hP41 := pow41_ge
  have hB41 : (256 : Nat) ^ 41 ≤ BIG := big_pow 41 (by omega)
  have hs := argN_lt hf.stk
  have hsl := hf.slen
  have hfx := h.fx
  obtain ⟨o, ho⟩ : ∃ o, o = 60 * r.length := ⟨_, rfl⟩
  rw [← ho] at hfx ⊢
  have HF := hide hfx
  have HS := hide hs
  have HCW := hide h.cw
  have d0 : Below w.heap.size w w.drew := Quiet.below ⟨1, rfl⟩ _
  have ha0 : argN f.stk 0 < BIG := Nat.lt_trans (unhide HS 0) p256_lt
  clear h hfx ho hx hs
  go_enter Sakg.func300, Sakg.ntmps300
  go_upto_region 41 with fail
  refine wp_region_noPanic ?_
  refine wp_region_held_drew (S := fun w' => Below w.heap.size w w') (by kernel_rfl) (d0) (fun hHeld => ?_)
  refine held_takeD 0 (.pointer (some ⟨bw, 0, none⟩)) (some 125) (by rfl) (by rfl) (by kernel_rfl) (by kernel_rfl) (by kernel_rfl) (fun _ _ _ h => h) (.inl ⟨by rfl, fun _ _ => by rfl⟩) (hHeld) ?_
  simp only [Act.put, List.setIfInBounds_toArray, List.set_cons_zero, List.set_cons_succ]
  refine held_takeD 1 (.pointer (some ⟨bw, 0, none⟩)) (some 126) (by rfl) (by rfl) (by kernel_rfl) (by kernel_rfl) (by kernel_rfl) (fun _ _ _ h => h) (.inl ⟨by rfl, fun _ _ => by go_simp⟩) (hHeld) ?_
  simp only [Act.put, List.setIfInBounds_toArray, List.set_cons_zero, List.set_cons_succ]
  refine held_takeD 2 (.pointer (some ⟨bw, 0, none⟩)) (some 127) (by rfl) (by rfl) (by kernel_rfl) (by kernel_rfl) (by kernel_rfl) (fun _ _ _ h => h) (.inl ⟨by rfl, fun _ _ => by go_simp⟩) (hHeld) ?_
  simp only [Act.put, List.setIfInBounds_toArray, List.set_cons_zero, List.set_cons_succ]
  refine held_takeD 3 (.pointer (some ⟨gf, o, none⟩)) (some 128) (by rfl) (by rfl) (by kernel_rfl) (by kernel_rfl) (by kernel_rfl) (fun _ _ _ h => h) (.inl ⟨by rfl, fun _ _ => by rfl⟩) (hHeld) ?_
  simp only [Act.put, List.setIfInBounds_toArray, List.set_cons_zero, List.set_cons_succ]
  refine held_takeD 7 (.pointer (some ⟨gf, o, none⟩)) (some 132) (by rfl) (by rfl) (by kernel_rfl) (by kernel_rfl) (by kernel_rfl) (fun _ _ _ h => h) (.inl ⟨by rfl, fun _ _ => by rfl⟩) (hHeld) ?_
  simp only [Act.put, List.setIfInBounds_toArray, List.set_cons_zero, List.set_cons_succ]
  refine held_one 4 (by kernel_rfl) (by rfl) (fun K' hK' => ?_)
  go_simp
  refine (((unhide HF).kept d0).arg (by omega) 0 (by omega)).mono ?_
  rintro e w1 ⟨⟨A1, k1, c1, rfl, s1⟩, q1⟩
  refine hK'.out _ _ (d0.thn (q1.below _)) ?_
  clear hK' K'
  have d1 : Below w.heap.size w w1 := d0.thn (q1.below _)
  have s1' := s1.kp (ChgS.of (q1.below _))
  refine held_one 5 (by kernel_rfl) (by rfl) (fun K' hK' => ?_)
  go_simp
  refine (addrOf_any A1 k1 c1 _ w1 s1'.now ha0).mono ?_
  rintro e w2 ⟨⟨ta, rfl, hta⟩, b2⟩
  refine hK'.out _ _ (d1.thn b2) ?_
  clear hK' K'
  have d2 : Below w.heap.size w w2 := d1.thn b2
  refine held_one 6 (by kernel_rfl) (by rfl) (fun K' hK' => ?_)
  go_simp
  refine (((unhide HCW).kept d2).access hg ta hta).mono ?_
  rintro e w3 ⟨A3, k3, c3, n3, rfl, m3, N3, l3, b3⟩
  refine hK'.out _ _ (d2.thn b3) ?_
  clear hK' K'
  have d3 : Below w.heap.size w w3 := d2.thn b3
  refine held_one 8 (by kernel_rfl) (by rfl) (fun K' hK' => ?_)
  go_simp
  refine (((unhide HF).kept d3).arg (by omega) 3 (by omega)).mono ?_
  rintro e w4 ⟨⟨A4, k4, c4, rfl, s4⟩, q4⟩
  refine hK'.out _ _ (d3.thn (q4.below _)) ?_
  clear hK' K'
  have b4 : Below w3.heap.size w3 w4 := q4.below _
  have d4 : Below w.heap.size w w4 := d3.thn b4
  have s4' := s4.kp (ChgS.of b4)
  have ha3 := unhide HS 3
  refine held_one 9 (by kernel_rfl) (by rfl) (fun K' hK' => ?_)
  go_simp
  refine (copyCost_any A4 k4 c4 _ w4 s4'.now (by omega)).mono ?_
  rintro e w5 ⟨A5, k5, c5, rfl, n5, N5, b5⟩
  refine hK'.out _ _ (d4.thn b5) ?_
  clear hK' K'
  have d5 : Below w.heap.size w w5 := d4.thn b5
  have hcl := copyN_le ha3
  refine held_one 10 (by kernel_rfl) (by rfl) (fun K' hK' => ?_)
  go_simp
  refine ((m3.kept (b4.thn b5)).add n5 (by omega) (by omega)).mono ?_
  rintro e w6 ⟨A6, k6, c6, rfl, n6, N6, b6⟩
  refine hK'.out _ _ (d5.thn b6) ?_
  clear hK' K'
  have d6 : Below w.heap.size w w6 := d5.thn b6
  refine held_takeD 11 (.slice A6 k6 c6) (some 6) (by rfl) (by rfl) (by kernel_rfl) (by kernel_rfl) (by kernel_rfl) (fun _ _ _ h => h) (.inl ⟨by rfl, fun _ _ => by rfl⟩) (d6) ?_
  simp only [Act.put, List.setIfInBounds_toArray, List.set_cons_zero, List.set_cons_succ]
  refine wpAnyH_done (by kernel_rfl) ?_ _
  refine NoPanic.normal ?_
  have NN6 := hide n6
  clear s1 s1' q1 m3 s4 s4' q4 n5 n6
  go_wp2
  go_ret
  exact ⟨A6, k6, c6, _, rfl, unhide NN6, N6.later d5.size, by omega, ⟨fun _ _ _ => by omega, fun _ => by omega, fun h => by omega, fun h => by omega⟩, d6⟩
set_option maxHeartbeats 8000000 in
theorem bareC_62 (h : SR G bw gf cs fr d (f :: r) x w) (hx : XB x) (hg : Good B d) (hf : AnyF f) :
    Calls Sakg.prog 300 #[.pointer (some ⟨bw, 0, none⟩), .pointer (some ⟨gf, 60 * r.length, none⟩), .int .u8 62] w (BareR 62 f.stk w) := by
  have hBB := big_ge
  have hP := p256_ge
  have hPB := p256_big2
  have hP40 := pow40_ge
  have hP41 := pow41_ge
  have hB41 : (256 : Nat) ^ 41 ≤ BIG := big_pow 41 (by omega)
  have hs := argN_lt hf.stk
  have hsl := hf.slen
  have hfx := h.fx
  obtain ⟨o, ho⟩ : ∃ o, o = 60 * r.length := ⟨_, rfl⟩
  rw [← ho] at hfx ⊢
  have HF := hide hfx
  have HS := hide hs
  have HCW := hide h.cw
  clear h hfx ho hx hg hs
  go_enter Sakg.func300, Sakg.ntmps300
  have HC1 := hide (num_any 3 w (by omega))
  go_wp2_with fail
  refine (unhide HC1).mono ?_
  rintro e w1 ⟨A1, k1, c1, rfl, n1, N1, b1⟩
  have NN1 := hide n1
  clear HC1 n1
  have HC2 := hide (((unhide HF).kept b1).arg (by omega) 2 (by omega))
  go_wp2_with fail
  refine (unhide HC2).mono ?_
  rintro e w2 ⟨⟨A2, k2, c2, rfl, s2⟩, q2⟩
  have b2 : Below w1.heap.size w1 w2 := q2.below _
  have KK2 := hide s2
  clear HC2 s2 q2
  have ha := unhide HS 2
  generalize argN f.stk 2 = a1 at KK2 ha
  have HC3 := hide (copyCost_any A2 k2 c2 _ w2 ((unhide KK2).kp (ChgS.of b2)).now (by omega))
  go_wp2_with fail
  refine (unhide HC3).mono ?_
  rintro e w3 ⟨A3, k3, c3, rfl, n3, N3, b3⟩
  have NN3 := hide n3
  clear HC3 n3
  obtain ⟨q, hq, hql⟩ : ∃ q, q = copyN a1 ∧ q ≤ 256 * P256 := ⟨_, rfl, copyN_le ha⟩
  rw [← hq] at NN3
  clear hq
  have HC4 := hide (((unhide NN1).kept (b2.thn b3)).add (unhide NN3) (by omega) (by omega))
  go_wp2_with fail
  refine (unhide HC4).mono ?_
  rintro e w4 ⟨A4, k4, c4, rfl, n4, N4, b4⟩
  have NN4 := hide n4
  clear HC4 n4
  go_wp2
  go_ret
  exact ⟨A4, k4, c4, 3 + q, rfl, (unhide NN4), N4.later (b1.thn (b2.thn b3)).size, by omega, ⟨fun _ _ _ => by omega, fun hh => by unfold growO at hh; omega, fun hh => by omega, fun h => by omega⟩, (b1.thn (b2.thn (b3.thn b4)))⟩
set_option maxHeartbeats 8000000 in
theorem bareC_63 (h : SR G bw gf cs fr d (f :: r) x w) (hx : XB x) (hg : Good B d) (hf : AnyF f) :
    Calls Sakg.prog 300 #[.pointer (some ⟨bw, 0, none⟩), .pointer (some ⟨gf, 60 * r.length, none⟩), .int .u8 63] w (BareR 63 f.stk w) := by
  have hBB := big_ge
  have hP := p256_ge
  have hPB := p256_big2
  have hP40 := pow40_ge
  have hP41 := pow41_ge
  have hB41 : (256 : Nat) ^ 41 ≤ BIG := big_pow 41 (by omega)
  have hs := argN_lt hf.stk
  have hsl := hf.slen
  have hfx := h.fx
  obtain ⟨o, ho⟩ : ∃ o, o = 60 * r.length := ⟨_, rfl⟩
  rw [← ho] at hfx ⊢
  have HF := hide hfx
  have HS := hide hs
  have HCW := hide h.cw
  have d0 : Below w.heap.size w w.drew := Quiet.below ⟨1, rfl⟩ _
  have ha0 : argN f.stk 0 < BIG := Nat.lt_trans (unhide HS 0) p256_lt
  clear h hfx ho hx hs
  go_enter Sakg.func300, Sakg.ntmps300
  go_upto_region 39 with fail
  refine wp_region_noPanic ?_
  refine wp_region_held_drew (S := fun w' => Below w.heap.size w w') (by kernel_rfl) (d0) (fun hHeld => ?_)
  refine held_takeD 0 (.pointer (some ⟨bw, 0, none⟩)) (some 115) (by rfl) (by rfl) (by kernel_rfl) (by kernel_rfl) (by kernel_rfl) (fun _ _ _ h => h) (.inl ⟨by rfl, fun _ _ => by rfl⟩) (hHeld) ?_
  simp only [Act.put, List.setIfInBounds_toArray, List.set_cons_zero, List.set_cons_succ]
  refine held_takeD 1 (.pointer (some ⟨bw, 0, none⟩)) (some 116) (by rfl) (by rfl) (by kernel_rfl) (by kernel_rfl) (by kernel_rfl) (fun _ _ _ h => h) (.inl ⟨by rfl, fun _ _ => by go_simp⟩) (hHeld) ?_
  simp only [Act.put, List.setIfInBounds_toArray, List.set_cons_zero, List.set_cons_succ]
  refine held_takeD 2 (.pointer (some ⟨bw, 0, none⟩)) (some 117) (by rfl) (by rfl) (by kernel_rfl) (by kernel_rfl) (by kernel_rfl) (fun _ _ _ h => h) (.inl ⟨by rfl, fun _ _ => by go_simp⟩) (hHeld) ?_
  simp only [Act.put, List.setIfInBounds_toArray, List.set_cons_zero, List.set_cons_succ]
  refine held_takeD 3 (.pointer (some ⟨gf, o, none⟩)) (some 118) (by rfl) (by rfl) (by kernel_rfl) (by kernel_rfl) (by kernel_rfl) (fun _ _ _ h => h) (.inl ⟨by rfl, fun _ _ => by rfl⟩) (hHeld) ?_
  simp only [Act.put, List.setIfInBounds_toArray, List.set_cons_zero, List.set_cons_succ]
  refine held_one 4 (by kernel_rfl) (by rfl) (fun K' hK' => ?_)
  go_simp
  refine (((unhide HF).kept d0).arg (by omega) 0 (by omega)).mono ?_
  rintro e w1 ⟨⟨A1, k1, c1, rfl, s1⟩, q1⟩
  refine hK'.out _ _ (d0.thn (q1.below _)) ?_
  clear hK' K'
  have d1 : Below w.heap.size w w1 := d0.thn (q1.below _)
  have s1' := s1.kp (ChgS.of (q1.below _))
  refine held_one 5 (by kernel_rfl) (by rfl) (fun K' hK' => ?_)
  go_simp
  refine (addrOf_any A1 k1 c1 _ w1 s1'.now ha0).mono ?_
  rintro e w2 ⟨⟨ta, rfl, hta⟩, b2⟩
  refine hK'.out _ _ (d1.thn b2) ?_
  clear hK' K'
  have d2 : Below w.heap.size w w2 := d1.thn b2
  refine held_one 6 (by kernel_rfl) (by rfl) (fun K' hK' => ?_)
  go_simp
  refine (((unhide HCW).kept d2).access hg ta hta).mono ?_
  rintro e w3 ⟨A3, k3, c3, n3, rfl, m3, N3, l3, b3⟩
  refine hK'.out _ _ (d2.thn b3) ?_
  clear hK' K'
  have d3 : Below w.heap.size w w3 := d2.thn b3
  refine held_takeD 7 (.slice A3 k3 c3) (some 6) (by rfl) (by rfl) (by kernel_rfl) (by kernel_rfl) (by kernel_rfl) (fun _ _ _ h => h) (.inl ⟨by rfl, fun _ _ => by rfl⟩) (d3) ?_
  simp only [Act.put, List.setIfInBounds_toArray, List.set_cons_zero, List.set_cons_succ]
  refine wpAnyH_done (by kernel_rfl) ?_ _
  refine NoPanic.normal ?_
  have NN3 := hide m3
  clear s1 s1' q1 m3
  go_wp2
  go_ret
  exact ⟨A3, k3, c3, n3, rfl, unhide NN3, N3.later d2.size, by omega, ⟨fun _ _ _ => by omega, fun _ => by omega, fun h => by omega, fun h => by omega⟩, d3⟩
set_option maxHeartbeats 8000000 in
theorem bareC_84 (h : SR G bw gf cs fr d (f :: r) x w) (hx : XB x) (hg : Good B d) (hf : AnyF f) :
    Calls Sakg.prog 300 #[.pointer (some ⟨bw, 0, none⟩), .pointer (some ⟨gf, 60 * r.length, none⟩), .int .u8 84] w (BareR 84 f.stk w) := by
  have hBB := big_ge
  have hP := p256_ge
  have hPB := p256_big2
  have hP40 := pow40_ge
  have hP41 := pow41_ge
  have hB41 : (256 : Nat) ^ 41 ≤ BIG := big_pow 41 (by omega)
  have hs := argN_lt hf.stk
  have hsl := hf.slen
  have hfx := h.fx
  obtain ⟨o, ho⟩ : ∃ o, o = 60 * r.length := ⟨_, rfl⟩
  rw [← ho] at hfx ⊢
  have HF := hide hfx
  have HS := hide hs
  have HCW := hide h.cw
  have hslf := hfx.kf.selfA
  have hu := Sakg.underlying26
  have hsz := hslf.size
  obtain ⟨sf, hsf⟩ : ∃ sf, sf = f.self := ⟨_, rfl⟩
  have hrg : ∀ wz, Below w.heap.size w wz → wz.rangeAt gf (o + 12) (bv sf) := fun wz hz => by rw [hsf]; exact (hfx.kept hz).selfR
  rw [← hsf] at hslf hsz
  have HRG := hide hrg
  have d0 : Below w.heap.size w w.drew := Quiet.below ⟨1, rfl⟩ _
  have ha0 : argN f.stk 0 < BIG := Nat.lt_trans (unhide HS 0) p256_lt
  clear h hfx ho hx hs hrg hsf
  go_enter Sakg.func300, Sakg.ntmps300
  go_upto_region 45 with fail
  refine wp_region_noPanic ?_
  refine wp_region_held_drew (S := fun w' => Below w.heap.size w w') (by kernel_rfl) (d0) (fun hHeld => ?_)
  refine held_takeD 0 (.pointer (some ⟨bw, 0, none⟩)) (some 157) (by rfl) (by rfl) (by kernel_rfl) (by kernel_rfl) (by kernel_rfl) (fun _ _ _ h => h) (.inl ⟨by rfl, fun _ _ => by rfl⟩) (hHeld) ?_
  simp only [Act.put, List.setIfInBounds_toArray, List.set_cons_zero, List.set_cons_succ]
  refine held_takeD 1 (.pointer (some ⟨bw, 0, none⟩)) (some 158) (by rfl) (by rfl) (by kernel_rfl) (by kernel_rfl) (by kernel_rfl) (fun _ _ _ h => h) (.inl ⟨by rfl, fun _ _ => by go_simp⟩) (hHeld) ?_
  simp only [Act.put, List.setIfInBounds_toArray, List.set_cons_zero, List.set_cons_succ]
  refine held_takeD 2 (.pointer (some ⟨bw, 0, none⟩)) (some 159) (by rfl) (by rfl) (by kernel_rfl) (by kernel_rfl) (by kernel_rfl) (fun _ _ _ h => h) (.inl ⟨by rfl, fun _ _ => by go_simp⟩) (hHeld) ?_
  simp only [Act.put, List.setIfInBounds_toArray, List.set_cons_zero, List.set_cons_succ]
  refine held_takeD 3 (.pointer (some ⟨gf, o, none⟩)) (some 160) (by rfl) (by rfl) (by kernel_rfl) (by kernel_rfl) (by kernel_rfl) (fun _ _ _ h => h) (.inl ⟨by rfl, fun _ _ => by rfl⟩) (hHeld) ?_
  simp only [Act.put, List.setIfInBounds_toArray, List.set_cons_zero, List.set_cons_succ]
  refine held_takeD 4 (.pointer (some ⟨gf, o, none⟩)) (some 161) (by rfl) (by rfl) (by kernel_rfl) (by kernel_rfl) (by kernel_rfl) (fun _ _ _ h => h) (.inl ⟨by rfl, fun _ _ => by go_simp⟩) (hHeld) ?_
  simp only [Act.put, List.setIfInBounds_toArray, List.set_cons_zero, List.set_cons_succ]
  refine held_takeD 5 (.pointer (some ⟨gf, o + 12, none⟩)) (some 162) (by rfl) (by rfl) (by kernel_rfl) (by kernel_rfl) (by kernel_rfl) (fun _ _ _ h => h) (.inl ⟨by rfl, fun _ _ => by go_simp⟩) (hHeld) ?_
  simp only [Act.put, List.setIfInBounds_toArray, List.set_cons_zero, List.set_cons_succ]
  refine held_takeD 6 (.agg (bv sf).toArray) (some 163) (by rfl) (by rfl) (by kernel_rfl) (by kernel_rfl) (by kernel_rfl) (fun _ _ _ h => h) (yieldsIf_load_mid (by rfl) _ _ rfl _ _ rfl _ _ (fun wz hS => unhide HRG wz hS) hu rfl hsz) (hHeld) ?_
  simp only [Act.put, List.setIfInBounds_toArray, List.set_cons_zero, List.set_cons_succ]
  refine held_takeD 7 (.pointer (some ⟨gf, o, none⟩)) (some 164) (by rfl) (by rfl) (by kernel_rfl) (by kernel_rfl) (by kernel_rfl) (fun _ _ _ h => h) (.inl ⟨by rfl, fun _ _ => by rfl⟩) (hHeld) ?_
  simp only [Act.put, List.setIfInBounds_toArray, List.set_cons_zero, List.set_cons_succ]
  refine held_one 8 (by kernel_rfl) (by rfl) (fun K' hK' => ?_)
  go_simp
  refine (((unhide HF).kept d0).arg (by omega) 0 (by omega)).mono ?_
  rintro e w1 ⟨⟨A1, k1, c1, rfl, s1⟩, q1⟩
  refine hK'.out _ _ (d0.thn (q1.below _)) ?_
  clear hK' K'
  have d1 : Below w.heap.size w w1 := d0.thn (q1.below _)
  have s1' := s1.kp (ChgS.of (q1.below _))
  refine held_one 9 (by kernel_rfl) (by rfl) (fun K' hK' => ?_)
  go_simp
  refine (((unhide HCW).kept d1).isWarmSlot hg sf hslf A1 k1 c1 _ s1' ha0).mono ?_
  rintro e w2 ⟨⟨bb, rfl⟩, b2⟩
  refine hK'.out _ _ (d1.thn b2) ?_
  clear hK' K'
  have d2 : Below w.heap.size w w2 := d1.thn b2
  refine wpAnyH_done (by kernel_rfl) ?_ _
  refine NoPanic.normal ?_
  clear s1 s1' q1
  cases bb
  · go_wp2_with (go_at_call 97; refine (num_any 2100 w2 (by omega)).mono ?_; rintro e w3 ⟨A3, k3, c3, rfl, n3, N3, b3⟩; have NN3 := hide n3; clear n3)
    go_ret
    exact ⟨A3, k3, c3, 2100, rfl, unhide NN3, N3.later d2.size, by omega, ⟨fun _ _ _ => by omega, fun _ => by omega, fun h => by omega, fun h => by omega⟩, d2.thn b3⟩
  · go_wp2_with (go_at_call 97; refine (num_any 100 w2 (by omega)).mono ?_; rintro e w3 ⟨A3, k3, c3, rfl, n3, N3, b3⟩; have NN3 := hide n3; clear n3)
    go_ret
    exact ⟨A3, k3, c3, 100, rfl, unhide NN3, N3.later d2.size, by omega, ⟨fun _ _ _ => by omega, fun _ => by omega, fun h => by omega, fun h => by omega⟩, d2.thn b3⟩
set_option maxHeartbeats 8000000 in
theorem bareC_85 (h : SR G bw gf cs fr d (f :: r) x w) (hx : XB x) (hg : Good B d) (hf : AnyF f) :
    Calls Sakg.prog 300 #[.pointer (some ⟨bw, 0, none⟩), .pointer (some ⟨gf, 60 * r.length, none⟩), .int .u8 85] w (BareR 85 f.stk w) := by
  have hBB := big_ge
  have hP := p256_ge
  have hPB := p256_big2
  have hP40 := pow40_ge
  have hP41 := pow41_ge
  have hB41 : (256 : Nat) ^ 41 ≤ BIG := big_pow 41 (by omega)
  have hs := argN_lt hf.stk
  have hsl := hf.slen
  have hfx := h.fx
  obtain ⟨o, ho⟩ : ∃ o, o = 60 * r.length := ⟨_, rfl⟩
  rw [← ho] at hfx ⊢
  have HF := hide hfx
  have HS := hide hs
  have HCW := hide h.cw
  have hC := h.sstore hx hg hf
  rw [← ho] at hC
  have HC := hide hC
  clear h hfx hs ho hx hg hf hC
  go_enter Sakg.func300, Sakg.ntmps300
  go_wp2_with (go_at_call 423; refine (unhide HC).mono ?_; rintro e w1 ⟨A1, k1, c1, n1, Ap, kp, cp, np, Am, km, cm, nm, rfl, m1, -, -, N1, -, -, x1, x2, -, -, b1⟩; have NN1 := hide m1; clear m1)
  go_ret
  exact ⟨A1, k1, c1, n1, rfl, unhide NN1, N1, by omega, ⟨fun _ _ _ => by omega, fun _ => by omega, fun hh => by omega, fun h => by omega⟩, b1⟩
set_option maxHeartbeats 8000000 in
theorem bareC_94 (h : SR G bw gf cs fr d (f :: r) x w) (hx : XB x) (hg : Good B d) (hf : AnyF f) :
    Calls Sakg.prog 300 #[.pointer (some ⟨bw, 0, none⟩), .pointer (some ⟨gf, 60 * r.length, none⟩), .int .u8 94] w (BareR 94 f.stk w) := by
  have hBB := big_ge
  have hP := p256_ge
  have hPB := p256_big2
  have hP40 := pow40_ge
  have hP41 := pow41_ge
  have hB41 : (256 : Nat) ^ 41 ≤ BIG := big_pow 41 (by omega)
  have hs := argN_lt hf.stk
  have hsl := hf.slen
  have hfx := h.fx
  obtain ⟨o, ho⟩ : ∃ o, o = 60 * r.length := ⟨_, rfl⟩
  rw [← ho] at hfx ⊢
  have HF := hide hfx
  have HS := hide hs
  have HCW := hide h.cw
  clear h hfx ho hx hg hs
  go_enter Sakg.func300, Sakg.ntmps300
  have HC1 := hide (num_any 3 w (by omega))
  go_wp2_with fail
  refine (unhide HC1).mono ?_
  rintro e w1 ⟨A1, k1, c1, rfl, n1, N1, b1⟩
  have NN1 := hide n1
  clear HC1 n1
  have HC2 := hide (((unhide HF).kept b1).arg (by omega) 2 (by omega))
  go_wp2_with fail
  refine (unhide HC2).mono ?_
  rintro e w2 ⟨⟨A2, k2, c2, rfl, s2⟩, q2⟩
  have b2 : Below w1.heap.size w1 w2 := q2.below _
  have KK2 := hide s2
  clear HC2 s2 q2
  have ha := unhide HS 2
  generalize argN f.stk 2 = a1 at KK2 ha
  have HC3 := hide (copyCost_any A2 k2 c2 _ w2 ((unhide KK2).kp (ChgS.of b2)).now (by omega))
  go_wp2_with fail
  refine (unhide HC3).mono ?_
  rintro e w3 ⟨A3, k3, c3, rfl, n3, N3, b3⟩
  have NN3 := hide n3
  clear HC3 n3
  obtain ⟨q, hq, hql⟩ : ∃ q, q = copyN a1 ∧ q ≤ 256 * P256 := ⟨_, rfl, copyN_le ha⟩
  rw [← hq] at NN3
  clear hq
  have HC4 := hide (((unhide NN1).kept (b2.thn b3)).add (unhide NN3) (by omega) (by omega))
  go_wp2_with fail
  refine (unhide HC4).mono ?_
  rintro e w4 ⟨A4, k4, c4, rfl, n4, N4, b4⟩
  have NN4 := hide n4
  clear HC4 n4
  go_wp2
  go_ret
  exact ⟨A4, k4, c4, 3 + q, rfl, (unhide NN4), N4.later (b1.thn (b2.thn b3)).size, by omega, ⟨fun _ _ _ => by omega, fun hh => by unfold growO at hh; omega, fun hh => by omega, fun h => by omega⟩, (b1.thn (b2.thn (b3.thn b4)))⟩
set_option maxHeartbeats 8000000 in
theorem bareC_160 (h : SR G bw gf cs fr d (f :: r) x w) (hx : XB x) (hg : Good B d) (hf : AnyF f) :
    Calls Sakg.prog 300 #[.pointer (some ⟨bw, 0, none⟩), .pointer (some ⟨gf, 60 * r.length, none⟩), .int .u8 160] w (BareR 160 f.stk w) := by
  have hBB := big_ge
  have hP := p256_ge
  have hPB := p256_big2
  have hP40 := pow40_ge
  have hP41 := pow41_ge
  have hB41 : (256 : Nat) ^ 41 ≤ BIG := big_pow 41 (by omega)
  have hs := argN_lt hf.stk
  have hsl := hf.slen
  have hfx := h.fx
  obtain ⟨o, ho⟩ : ∃ o, o = 60 * r.length := ⟨_, rfl⟩
  rw [← ho] at hfx ⊢
  have HF := hide hfx
  have HS := hide hs
  have HCW := hide h.cw
  clear h hfx ho hx hg hs
  go_enter Sakg.func300, Sakg.ntmps300
  have HC1 := hide (num_any 375 w (by omega))
  go_wp2_with fail
  refine (unhide HC1).mono ?_
  rintro e w1 ⟨A1, k1, c1, rfl, n1, N1, b1⟩
  have NN1 := hide n1
  clear HC1 n1
  have HC2 := hide (num_any 8 w1 (by omega))
  go_wp2_with fail
  refine (unhide HC2).mono ?_
  rintro e w2 ⟨A2, k2, c2, rfl, n2, N2, b2⟩
  have NN2 := hide n2
  clear HC2 n2
  have HC3 := hide (((unhide HF).kept (b1.thn b2)).arg (by omega) 1 (by omega))
  go_wp2_with fail
  refine (unhide HC3).mono ?_
  rintro e w3 ⟨⟨A3, k3, c3, rfl, s3⟩, q3⟩
  have b3 : Below w2.heap.size w2 w3 := q3.below _
  have KK3 := hide s3
  clear HC3 s3 q3
  have ha := unhide HS 1
  generalize ha1 : argN f.stk 1 = a1 at KK3 ha
  have HA1 := hide ha1
  clear ha1
  have HC4 := hide (((unhide NN2).kept b3).mul ((unhide KK3).kp (ChgS.of b3)).now (by omega) (by omega))
  go_wp2_with fail
  refine (unhide HC4).mono ?_
  rintro e w4 ⟨A4, k4, c4, rfl, n4, N4, b4⟩
  have NN4 := hide n4
  clear HC4 n4
  have HC5 := hide (((unhide NN1).kept (b2.thn (b3.thn b4))).add (unhide NN4) (by omega) (by omega))
  go_wp2_with fail
  refine (unhide HC5).mono ?_
  rintro e w5 ⟨A5, k5, c5, rfl, n5, N5, b5⟩
  have NN5 := hide n5
  clear HC5 n5
  go_wp2
  go_ret
  exact ⟨A5, k5, c5, 375 + 8 * a1, rfl, (unhide NN5), N5.later (b1.thn (b2.thn (b3.thn b4))).size, by omega, ⟨fun _ _ _ => by omega, fun hh => by omega, fun hh => by omega, fun _ _ => by rw [unhide HA1]; omega⟩, (b1.thn (b2.thn (b3.thn (b4.thn b5))))⟩
set_option maxHeartbeats 8000000 in
theorem bareC_161 (h : SR G bw gf cs fr d (f :: r) x w) (hx : XB x) (hg : Good B d) (hf : AnyF f) :
    Calls Sakg.prog 300 #[.pointer (some ⟨bw, 0, none⟩), .pointer (some ⟨gf, 60 * r.length, none⟩), .int .u8 161] w (BareR 161 f.stk w) := by
  have hBB := big_ge
  have hP := p256_ge
  have hPB := p256_big2
  have hP40 := pow40_ge
  have hP41 := pow41_ge
  have hB41 : (256 : Nat) ^ 41 ≤ BIG := big_pow 41 (by omega)
  have hs := argN_lt hf.stk
  have hsl := hf.slen
  have hfx := h.fx
  obtain ⟨o, ho⟩ : ∃ o, o = 60 * r.length := ⟨_, rfl⟩
  rw [← ho] at hfx ⊢
  have HF := hide hfx
  have HS := hide hs
  have HCW := hide h.cw
  clear h hfx ho hx hg hs
  go_enter Sakg.func300, Sakg.ntmps300
  have HC1 := hide (num_any 750 w (by omega))
  go_wp2_with fail
  refine (unhide HC1).mono ?_
  rintro e w1 ⟨A1, k1, c1, rfl, n1, N1, b1⟩
  have NN1 := hide n1
  clear HC1 n1
  have HC2 := hide (num_any 8 w1 (by omega))
  go_wp2_with fail
  refine (unhide HC2).mono ?_
  rintro e w2 ⟨A2, k2, c2, rfl, n2, N2, b2⟩
  have NN2 := hide n2
  clear HC2 n2
  have HC3 := hide (((unhide HF).kept (b1.thn b2)).arg (by omega) 1 (by omega))
  go_wp2_with fail
  refine (unhide HC3).mono ?_
  rintro e w3 ⟨⟨A3, k3, c3, rfl, s3⟩, q3⟩
  have b3 : Below w2.heap.size w2 w3 := q3.below _
  have KK3 := hide s3
  clear HC3 s3 q3
  have ha := unhide HS 1
  generalize ha1 : argN f.stk 1 = a1 at KK3 ha
  have HA1 := hide ha1
  clear ha1
  have HC4 := hide (((unhide NN2).kept b3).mul ((unhide KK3).kp (ChgS.of b3)).now (by omega) (by omega))
  go_wp2_with fail
  refine (unhide HC4).mono ?_
  rintro e w4 ⟨A4, k4, c4, rfl, n4, N4, b4⟩
  have NN4 := hide n4
  clear HC4 n4
  have HC5 := hide (((unhide NN1).kept (b2.thn (b3.thn b4))).add (unhide NN4) (by omega) (by omega))
  go_wp2_with fail
  refine (unhide HC5).mono ?_
  rintro e w5 ⟨A5, k5, c5, rfl, n5, N5, b5⟩
  have NN5 := hide n5
  clear HC5 n5
  go_wp2
  go_ret
  exact ⟨A5, k5, c5, 750 + 8 * a1, rfl, (unhide NN5), N5.later (b1.thn (b2.thn (b3.thn b4))).size, by omega, ⟨fun _ _ _ => by omega, fun hh => by omega, fun hh => by omega, fun _ _ => by rw [unhide HA1]; omega⟩, (b1.thn (b2.thn (b3.thn (b4.thn b5))))⟩
set_option maxHeartbeats 8000000 in
theorem bareC_162 (h : SR G bw gf cs fr d (f :: r) x w) (hx : XB x) (hg : Good B d) (hf : AnyF f) :
    Calls Sakg.prog 300 #[.pointer (some ⟨bw, 0, none⟩), .pointer (some ⟨gf, 60 * r.length, none⟩), .int .u8 162] w (BareR 162 f.stk w) := by
  have hBB := big_ge
  have hP := p256_ge
  have hPB := p256_big2
  have hP40 := pow40_ge
  have hP41 := pow41_ge
  have hB41 : (256 : Nat) ^ 41 ≤ BIG := big_pow 41 (by omega)
  have hs := argN_lt hf.stk
  have hsl := hf.slen
  have hfx := h.fx
  obtain ⟨o, ho⟩ : ∃ o, o = 60 * r.length := ⟨_, rfl⟩
  rw [← ho] at hfx ⊢
  have HF := hide hfx
  have HS := hide hs
  have HCW := hide h.cw
  clear h hfx ho hx hg hs
  go_enter Sakg.func300, Sakg.ntmps300
  have HC1 := hide (num_any 1125 w (by omega))
  go_wp2_with fail
  refine (unhide HC1).mono ?_
  rintro e w1 ⟨A1, k1, c1, rfl, n1, N1, b1⟩
  have NN1 := hide n1
  clear HC1 n1
  have HC2 := hide (num_any 8 w1 (by omega))
  go_wp2_with fail
  refine (unhide HC2).mono ?_
  rintro e w2 ⟨A2, k2, c2, rfl, n2, N2, b2⟩
  have NN2 := hide n2
  clear HC2 n2
  have HC3 := hide (((unhide HF).kept (b1.thn b2)).arg (by omega) 1 (by omega))
  go_wp2_with fail
  refine (unhide HC3).mono ?_
  rintro e w3 ⟨⟨A3, k3, c3, rfl, s3⟩, q3⟩
  have b3 : Below w2.heap.size w2 w3 := q3.below _
  have KK3 := hide s3
  clear HC3 s3 q3
  have ha := unhide HS 1
  generalize ha1 : argN f.stk 1 = a1 at KK3 ha
  have HA1 := hide ha1
  clear ha1
  have HC4 := hide (((unhide NN2).kept b3).mul ((unhide KK3).kp (ChgS.of b3)).now (by omega) (by omega))
  go_wp2_with fail
  refine (unhide HC4).mono ?_
  rintro e w4 ⟨A4, k4, c4, rfl, n4, N4, b4⟩
  have NN4 := hide n4
  clear HC4 n4
  have HC5 := hide (((unhide NN1).kept (b2.thn (b3.thn b4))).add (unhide NN4) (by omega) (by omega))
  go_wp2_with fail
  refine (unhide HC5).mono ?_
  rintro e w5 ⟨A5, k5, c5, rfl, n5, N5, b5⟩
  have NN5 := hide n5
  clear HC5 n5
  go_wp2
  go_ret
  exact ⟨A5, k5, c5, 1125 + 8 * a1, rfl, (unhide NN5), N5.later (b1.thn (b2.thn (b3.thn b4))).size, by omega, ⟨fun _ _ _ => by omega, fun hh => by omega, fun hh => by omega, fun _ _ => by rw [unhide HA1]; omega⟩, (b1.thn (b2.thn (b3.thn (b4.thn b5))))⟩
set_option maxHeartbeats 8000000 in
theorem bareC_163 (h : SR G bw gf cs fr d (f :: r) x w) (hx : XB x) (hg : Good B d) (hf : AnyF f) :
    Calls Sakg.prog 300 #[.pointer (some ⟨bw, 0, none⟩), .pointer (some ⟨gf, 60 * r.length, none⟩), .int .u8 163] w (BareR 163 f.stk w) := by
  have hBB := big_ge
  have hP := p256_ge
  have hPB := p256_big2
  have hP40 := pow40_ge
  have hP41 := pow41_ge
  have hB41 : (256 : Nat) ^ 41 ≤ BIG := big_pow 41 (by omega)
  have hs := argN_lt hf.stk
  have hsl := hf.slen
  have hfx := h.fx
  obtain ⟨o, ho⟩ : ∃ o, o = 60 * r.length := ⟨_, rfl⟩
  rw [← ho] at hfx ⊢
  have HF := hide hfx
  have HS := hide hs
  have HCW := hide h.cw
  clear h hfx ho hx hg hs
  go_enter Sakg.func300, Sakg.ntmps300
  have HC1 := hide (num_any 1500 w (by omega))
  go_wp2_with fail
  refine (unhide HC1).mono ?_
  rintro e w1 ⟨A1, k1, c1, rfl, n1, N1, b1⟩
  have NN1 := hide n1
  clear HC1 n1
  have HC2 := hide (num_any 8 w1 (by omega))
  go_wp2_with fail
  refine (unhide HC2).mono ?_
  rintro e w2 ⟨A2, k2, c2, rfl, n2, N2, b2⟩
  have NN2 := hide n2
  clear HC2 n2
  have HC3 := hide (((unhide HF).kept (b1.thn b2)).arg (by omega) 1 (by omega))
  go_wp2_with fail
  refine (unhide HC3).mono ?_
  rintro e w3 ⟨⟨A3, k3, c3, rfl, s3⟩, q3⟩
  have b3 : Below w2.heap.size w2 w3 := q3.below _
  have KK3 := hide s3
  clear HC3 s3 q3
  have ha := unhide HS 1
  generalize ha1 : argN f.stk 1 = a1 at KK3 ha
  have HA1 := hide ha1
  clear ha1
  have HC4 := hide (((unhide NN2).kept b3).mul ((unhide KK3).kp (ChgS.of b3)).now (by omega) (by omega))
  go_wp2_with fail
  refine (unhide HC4).mono ?_
  rintro e w4 ⟨A4, k4, c4, rfl, n4, N4, b4⟩
  have NN4 := hide n4
  clear HC4 n4
  have HC5 := hide (((unhide NN1).kept (b2.thn (b3.thn b4))).add (unhide NN4) (by omega) (by omega))
  go_wp2_with fail
  refine (unhide HC5).mono ?_
  rintro e w5 ⟨A5, k5, c5, rfl, n5, N5, b5⟩
  have NN5 := hide n5
  clear HC5 n5
  go_wp2
  go_ret
  exact ⟨A5, k5, c5, 1500 + 8 * a1, rfl, (unhide NN5), N5.later (b1.thn (b2.thn (b3.thn b4))).size, by omega, ⟨fun _ _ _ => by omega, fun hh => by omega, fun hh => by omega, fun _ _ => by rw [unhide HA1]; omega⟩, (b1.thn (b2.thn (b3.thn (b4.thn b5))))⟩
set_option maxHeartbeats 8000000 in
theorem bareC_164 (h : SR G bw gf cs fr d (f :: r) x w) (hx : XB x) (hg : Good B d) (hf : AnyF f) :
    Calls Sakg.prog 300 #[.pointer (some ⟨bw, 0, none⟩), .pointer (some ⟨gf, 60 * r.length, none⟩), .int .u8 164] w (BareR 164 f.stk w) := by
  have hBB := big_ge
  have hP := p256_ge
  have hPB := p256_big2
  have hP40 := pow40_ge
  have hP41 := pow41_ge
  have hB41 : (256 : Nat) ^ 41 ≤ BIG := big_pow 41 (by omega)
  have hs := argN_lt hf.stk
  have hsl := hf.slen
  have hfx := h.fx
  obtain ⟨o, ho⟩ : ∃ o, o = 60 * r.length := ⟨_, rfl⟩
  rw [← ho] at hfx ⊢
  have HF := hide hfx
  have HS := hide hs
  have HCW := hide h.cw
  clear h hfx ho hx hg hs
  go_enter Sakg.func300, Sakg.ntmps300
  have HC1 := hide (num_any 1875 w (by omega))
  go_wp2_with fail
  refine (unhide HC1).mono ?_
  rintro e w1 ⟨A1, k1, c1, rfl, n1, N1, b1⟩
  have NN1 := hide n1
  clear HC1 n1
  have HC2 := hide (num_any 8 w1 (by omega))
  go_wp2_with fail
  refine (unhide HC2).mono ?_
  rintro e w2 ⟨A2, k2, c2, rfl, n2, N2, b2⟩
  have NN2 := hide n2
  clear HC2 n2
  have HC3 := hide (((unhide HF).kept (b1.thn b2)).arg (by omega) 1 (by omega))
  go_wp2_with fail
  refine (unhide HC3).mono ?_
  rintro e w3 ⟨⟨A3, k3, c3, rfl, s3⟩, q3⟩
  have b3 : Below w2.heap.size w2 w3 := q3.below _
  have KK3 := hide s3
  clear HC3 s3 q3
  have ha := unhide HS 1
  generalize ha1 : argN f.stk 1 = a1 at KK3 ha
  have HA1 := hide ha1
  clear ha1
  have HC4 := hide (((unhide NN2).kept b3).mul ((unhide KK3).kp (ChgS.of b3)).now (by omega) (by omega))
  go_wp2_with fail
  refine (unhide HC4).mono ?_
  rintro e w4 ⟨A4, k4, c4, rfl, n4, N4, b4⟩
  have NN4 := hide n4
  clear HC4 n4
  have HC5 := hide (((unhide NN1).kept (b2.thn (b3.thn b4))).add (unhide NN4) (by omega) (by omega))
  go_wp2_with fail
  refine (unhide HC5).mono ?_
  rintro e w5 ⟨A5, k5, c5, rfl, n5, N5, b5⟩
  have NN5 := hide n5
  clear HC5 n5
  go_wp2
  go_ret
  exact ⟨A5, k5, c5, 1875 + 8 * a1, rfl, (unhide NN5), N5.later (b1.thn (b2.thn (b3.thn b4))).size, by omega, ⟨fun _ _ _ => by omega, fun hh => by omega, fun hh => by omega, fun _ _ => by rw [unhide HA1]; omega⟩, (b1.thn (b2.thn (b3.thn (b4.thn b5))))⟩
set_option maxHeartbeats 8000000 in
theorem bareC_240 (h : SR G bw gf cs fr d (f :: r) x w) (hx : XB x) (hg : Good B d) (hf : AnyF f) :
    Calls Sakg.prog 300 #[.pointer (some ⟨bw, 0, none⟩), .pointer (some ⟨gf, 60 * r.length, none⟩), .int .u8 240] w (BareR 240 f.stk w) := by
  have hBB := big_ge
  have hP := p256_ge
  have hPB := p256_big2
  have hP40 := pow40_ge
  have hP41 := pow41_ge
  have hB41 : (256 : Nat) ^ 41 ≤ BIG := big_pow 41 (by omega)
  have hs := argN_lt hf.stk
  have hsl := hf.slen
  have hfx := h.fx
  obtain ⟨o, ho⟩ : ∃ o, o = 60 * r.length := ⟨_, rfl⟩
  rw [← ho] at hfx ⊢
  have HF := hide hfx
  have HS := hide hs
  have HCW := hide h.cw
  have hC := h.enterCost hg hf 240 (by omega)
  rw [← ho] at hC
  have HC := hide hC
  clear h hfx hs ho hx hg hf hC
  have HFm := hide (family_any 240 (by omega) w)
  rw [show famA 240 = 16 from rfl] at HFm
  go_enter Sakg.func300, Sakg.ntmps300
  go_wp2_with (first | (go_at_call 120; refine (unhide HFm).mono ?_; rintro e w0 ⟨rfl, rfl⟩) | (go_at_call 425; refine (unhide HC).mono ?_; rintro e w1 ⟨A1, k1, c1, n1, rfl, m1, N1, x1, x2, x3, b1⟩; have NN1 := hide m1; clear m1))
  go_ret
  exact ⟨A1, k1, c1, n1, rfl, unhide NN1, N1, by omega, ⟨fun _ _ _ => by omega, fun _ => by omega, fun hh => by omega, fun h => by omega⟩, b1⟩
set_option maxHeartbeats 8000000 in
theorem bareC_241 (h : SR G bw gf cs fr d (f :: r) x w) (hx : XB x) (hg : Good B d) (hf : AnyF f) :
    Calls Sakg.prog 300 #[.pointer (some ⟨bw, 0, none⟩), .pointer (some ⟨gf, 60 * r.length, none⟩), .int .u8 241] w (BareR 241 f.stk w) := by
  have hBB := big_ge
  have hP := p256_ge
  have hPB := p256_big2
  have hP40 := pow40_ge
  have hP41 := pow41_ge
  have hB41 : (256 : Nat) ^ 41 ≤ BIG := big_pow 41 (by omega)
  have hs := argN_lt hf.stk
  have hsl := hf.slen
  have hfx := h.fx
  obtain ⟨o, ho⟩ : ∃ o, o = 60 * r.length := ⟨_, rfl⟩
  rw [← ho] at hfx ⊢
  have HF := hide hfx
  have HS := hide hs
  have HCW := hide h.cw
  have hC := h.enterCost hg hf 241 (by omega)
  rw [← ho] at hC
  have HC := hide hC
  clear h hfx hs ho hx hg hf hC
  have HFm := hide (family_any 241 (by omega) w)
  rw [show famA 241 = 16 from rfl] at HFm
  go_enter Sakg.func300, Sakg.ntmps300
  go_wp2_with (first | (go_at_call 120; refine (unhide HFm).mono ?_; rintro e w0 ⟨rfl, rfl⟩) | (go_at_call 425; refine (unhide HC).mono ?_; rintro e w1 ⟨A1, k1, c1, n1, rfl, m1, N1, x1, x2, x3, b1⟩; have NN1 := hide m1; clear m1))
  go_ret
  exact ⟨A1, k1, c1, n1, rfl, unhide NN1, N1, by omega, ⟨fun _ _ _ => by omega, fun _ => by omega, fun hh ha => x3 ⟨by simp, ha⟩, fun h => by omega⟩, b1⟩
set_option maxHeartbeats 8000000 in
theorem bareC_242 (h : SR G bw gf cs fr d (f :: r) x w) (hx : XB x) (hg : Good B d) (hf : AnyF f) :
    Calls Sakg.prog 300 #[.pointer (some ⟨bw, 0, none⟩), .pointer (some ⟨gf, 60 * r.length, none⟩), .int .u8 242] w (BareR 242 f.stk w) := by
  have hBB := big_ge
  have hP := p256_ge
  have hPB := p256_big2
  have hP40 := pow40_ge
  have hP41 := pow41_ge
  have hB41 : (256 : Nat) ^ 41 ≤ BIG := big_pow 41 (by omega)
  have hs := argN_lt hf.stk
  have hsl := hf.slen
  have hfx := h.fx
  obtain ⟨o, ho⟩ : ∃ o, o = 60 * r.length := ⟨_, rfl⟩
  rw [← ho] at hfx ⊢
  have HF := hide hfx
  have HS := hide hs
  have HCW := hide h.cw
  have hC := h.enterCost hg hf 242 (by omega)
  rw [← ho] at hC
  have HC := hide hC
  clear h hfx hs ho hx hg hf hC
  have HFm := hide (family_any 242 (by omega) w)
  rw [show famA 242 = 16 from rfl] at HFm
  go_enter Sakg.func300, Sakg.ntmps300
  go_wp2_with (first | (go_at_call 120; refine (unhide HFm).mono ?_; rintro e w0 ⟨rfl, rfl⟩) | (go_at_call 425; refine (unhide HC).mono ?_; rintro e w1 ⟨A1, k1, c1, n1, rfl, m1, N1, x1, x2, x3, b1⟩; have NN1 := hide m1; clear m1))
  go_ret
  exact ⟨A1, k1, c1, n1, rfl, unhide NN1, N1, by omega, ⟨fun _ _ _ => by omega, fun _ => by omega, fun hh ha => x3 ⟨by simp, ha⟩, fun h => by omega⟩, b1⟩
set_option maxHeartbeats 8000000 in
theorem bareC_244 (h : SR G bw gf cs fr d (f :: r) x w) (hx : XB x) (hg : Good B d) (hf : AnyF f) :
    Calls Sakg.prog 300 #[.pointer (some ⟨bw, 0, none⟩), .pointer (some ⟨gf, 60 * r.length, none⟩), .int .u8 244] w (BareR 244 f.stk w) := by
  have hBB := big_ge
  have hP := p256_ge
  have hPB := p256_big2
  have hP40 := pow40_ge
  have hP41 := pow41_ge
  have hB41 : (256 : Nat) ^ 41 ≤ BIG := big_pow 41 (by omega)
  have hs := argN_lt hf.stk
  have hsl := hf.slen
  have hfx := h.fx
  obtain ⟨o, ho⟩ : ∃ o, o = 60 * r.length := ⟨_, rfl⟩
  rw [← ho] at hfx ⊢
  have HF := hide hfx
  have HS := hide hs
  have HCW := hide h.cw
  have hC := h.enterCost hg hf 244 (by omega)
  rw [← ho] at hC
  have HC := hide hC
  clear h hfx hs ho hx hg hf hC
  have HFm := hide (family_any 244 (by omega) w)
  rw [show famA 244 = 16 from rfl] at HFm
  go_enter Sakg.func300, Sakg.ntmps300
  go_wp2_with (first | (go_at_call 120; refine (unhide HFm).mono ?_; rintro e w0 ⟨rfl, rfl⟩) | (go_at_call 425; refine (unhide HC).mono ?_; rintro e w1 ⟨A1, k1, c1, n1, rfl, m1, N1, x1, x2, x3, b1⟩; have NN1 := hide m1; clear m1))
  go_ret
  exact ⟨A1, k1, c1, n1, rfl, unhide NN1, N1, by omega, ⟨fun _ _ _ => by omega, fun _ => by omega, fun hh => by omega, fun h => by omega⟩, b1⟩
set_option maxHeartbeats 8000000 in
theorem bareC_245 (h : SR G bw gf cs fr d (f :: r) x w) (hx : XB x) (hg : Good B d) (hf : AnyF f) :
    Calls Sakg.prog 300 #[.pointer (some ⟨bw, 0, none⟩), .pointer (some ⟨gf, 60 * r.length, none⟩), .int .u8 245] w (BareR 245 f.stk w) := by
  have hBB := big_ge
  have hP := p256_ge
  have hPB := p256_big2
  have hP40 := pow40_ge
  have hP41 := pow41_ge
  have hB41 : (256 : Nat) ^ 41 ≤ BIG := big_pow 41 (by omega)
  have hs := argN_lt hf.stk
  have hsl := hf.slen
  have hfx := h.fx
  obtain ⟨o, ho⟩ : ∃ o, o = 60 * r.length := ⟨_, rfl⟩
  rw [← ho] at hfx ⊢
  have HF := hide hfx
  have HS := hide hs
  have HCW := hide h.cw
  have hC := h.enterCost hg hf 245 (by omega)
  rw [← ho] at hC
  have HC := hide hC
  clear h hfx hs ho hx hg hf hC
  have HFm := hide (family_any 245 (by omega) w)
  rw [show famA 245 = 16 from rfl] at HFm
  go_enter Sakg.func300, Sakg.ntmps300
  go_wp2_with (first | (go_at_call 120; refine (unhide HFm).mono ?_; rintro e w0 ⟨rfl, rfl⟩) | (go_at_call 425; refine (unhide HC).mono ?_; rintro e w1 ⟨A1, k1, c1, n1, rfl, m1, N1, x1, x2, x3, b1⟩; have NN1 := hide m1; clear m1))
  go_ret
  exact ⟨A1, k1, c1, n1, rfl, unhide NN1, N1, by omega, ⟨fun _ _ _ => by omega, fun _ => by omega, fun hh => by omega, fun h => by omega⟩, b1⟩
set_option maxHeartbeats 8000000 in
theorem bareC_250 (h : SR G bw gf cs fr d (f :: r) x w) (hx : XB x) (hg : Good B d) (hf : AnyF f) :
    Calls Sakg.prog 300 #[.pointer (some ⟨bw, 0, none⟩), .pointer (some ⟨gf, 60 * r.length, none⟩), .int .u8 250] w (BareR 250 f.stk w) := by
  have hBB := big_ge
  have hP := p256_ge
  have hPB := p256_big2
  have hP40 := pow40_ge
  have hP41 := pow41_ge
  have hB41 : (256 : Nat) ^ 41 ≤ BIG := big_pow 41 (by omega)
  have hs := argN_lt hf.stk
  have hsl := hf.slen
  have hfx := h.fx
  obtain ⟨o, ho⟩ : ∃ o, o = 60 * r.length := ⟨_, rfl⟩
  rw [← ho] at hfx ⊢
  have HF := hide hfx
  have HS := hide hs
  have HCW := hide h.cw
  have hC := h.enterCost hg hf 250 (by omega)
  rw [← ho] at hC
  have HC := hide hC
  clear h hfx hs ho hx hg hf hC
  have HFm := hide (family_any 250 (by omega) w)
  rw [show famA 250 = 16 from rfl] at HFm
  go_enter Sakg.func300, Sakg.ntmps300
  go_wp2_with (first | (go_at_call 120; refine (unhide HFm).mono ?_; rintro e w0 ⟨rfl, rfl⟩) | (go_at_call 425; refine (unhide HC).mono ?_; rintro e w1 ⟨A1, k1, c1, n1, rfl, m1, N1, x1, x2, x3, b1⟩; have NN1 := hide m1; clear m1))
  go_ret
  exact ⟨A1, k1, c1, n1, rfl, unhide NN1, N1, by omega, ⟨fun _ _ _ => by omega, fun _ => by omega, fun hh => by omega, fun h => by omega⟩, b1⟩
set_option maxHeartbeats 8000000 in
theorem bareC_255 (h : SR G bw gf cs fr d (f :: r) x w) (hx : XB x) (hg : Good B d) (hf : AnyF f) :
    Calls Sakg.prog 300 #[.pointer (some ⟨bw, 0, none⟩), .pointer (some ⟨gf, 60 * r.length, none⟩), .int .u8 255] w (BareR 255 f.stk w) := by
  have hBB := big_ge
  have hP := p256_ge
  have hPB := p256_big2
  have hP40 := pow40_ge
  have hP41 := pow41_ge
  have hB41 : (256 : Nat) ^ 41 ≤ BIG := big_pow 41 (by omega)
  have hs := argN_lt hf.stk
  have hsl := hf.slen
  have hfx := h.fx
  obtain ⟨o, ho⟩ : ∃ o, o = 60 * r.length := ⟨_, rfl⟩
  rw [← ho] at hfx ⊢
  have HF := hide hfx
  have HS := hide hs
  have HCW := hide h.cw
  have hC := h.destroyCost hg hf
  rw [← ho] at hC
  have HC := hide hC
  clear h hfx hs ho hx hg hf hC
  go_enter Sakg.func300, Sakg.ntmps300
  go_wp2_with (go_at_call 424; refine (unhide HC).mono ?_; rintro e w1 ⟨A1, k1, c1, n1, rfl, m1, N1, x1, x2, b1⟩; have NN1 := hide m1; clear m1)
  go_ret
  exact ⟨A1, k1, c1, n1, rfl, unhide NN1, N1, by omega, ⟨fun _ _ _ => by omega, fun _ => by omega, fun hh => by omega, fun h => by omega⟩, b1⟩
end

end Go.Proofs.YgcsakGreat
