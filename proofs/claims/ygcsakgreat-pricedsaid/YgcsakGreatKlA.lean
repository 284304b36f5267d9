/-
  yp: native.
-/
import Derived.Test.YgcsakGreatKkB
import Derived.Test.YgcsakGreatGbG
import Derived.Test.YgcsakGreatGbF
namespace Go.Proofs.YgcsakGreat
set_option linter.unusedVariables false
set_option linter.unusedSimpArgs false
set_option maxRecDepth 100000
open Go.RowKit

theorem nativeCost_any (kd : Nat) (A : Option Addr) (l c : Nat) (xs : List Int) (w : World) (hx : Src w A l c xs) (hl : l ≤ 1000000) : Calls Sakg.prog 199 #[.int .u8 kd, .slice A l c] w (CostR w) := by
  by_cases h4 : kd = 4
  · subst h4; exact nativeCost_4 A l c xs w hx hl
  by_cases h5 : kd = 5
  · subst h5; exact nativeCost_5 A l c xs w hx hl
  exact nativeCost_none kd h4 h5 A l c w
theorem nativeRun_any (kd : Nat) (A : Option Addr) (l c : Nat) (xs : List Int) (w : World) (hx : Src w A l c xs) (hl : l ≤ 1000000) : Calls Sakg.prog 200 #[.int .u8 kd, .slice A l c] w (OutR w) := by
  by_cases h4 : kd = 4
  · subst h4; exact nativeRun_4 A l c xs w hx hl
  by_cases h5 : kd = 5
  · subst h5; exact nativeRun_5 A l c xs w hx hl
  exact nativeRun_none kd h4 h5 A l c xs w hx hl
section
variable {G : Nat → Prop} {bw gf : Nat} {cs fr : List Value} {d : WD} {f : FD} {r : List FD} {x : XD} {w : World} {B : Nat}
/-- what an end of the top frame leaves, told of the frame and the world that it began with -/
def EndK (G : Nat → Prop) (bw gf : Nat) (fr : List Value) (B y : Nat) (d : WD) (f : FD) (r : List FD) (x : XD) (w : World) (e : Ending) (w' : World) : Prop :=
  e = .returned (.tuple #[]) ∧ ∃ cs' fr' d' s' gas' out', fr'.length = fr.length ∧ Mv G w w' ∧ gas' ≤ f.gas ∧ out'.length ≤ 1000000 ∧ s' ≤ 13 ∧ ((s' = 0 ∧ Gr B d d' y) ∨ (s' ≠ 0 ∧ d' = f.saved)) ∧
    ((r = [] ∧ SE G bw cs' d' { x with ret := out', status := s', left := gas' } w') ∨
      ∃ p r' v, r = p :: r' ∧ v < P256 ∧ SR G bw gf cs' fr' d' ({ p with gas := p.gas + gas', stk := p.stk ++ [v], pc := p.pc + 1 } :: r') { x with ret := out' } w')
theorem LevK.toEnd {d0 : WD} {f0 : FD} {fr0 : List Value} {s : Nat} {out : List Int} {w0 w' : World} {e : Ending} {y : Nat} (h : LevK G bw gf fr B d f r x s out w e w') (hfr : fr.length = fr0.length) (hm : Mv G w0 w) (hgas : f.gas ≤ f0.gas) (hsv : f.saved = f0.saved) (hout : out.length ≤ 1000000) (hd : Gr B d0 d y) : EndK G bw gf fr0 B (y + 2500) d0 f0 r x w0 e w' := by
  obtain ⟨h1, cs', fr', d', s', gas', out', a1, a2, a3, a4, a5, a6, -, -, a7⟩ := h
  refine ⟨h1, cs', fr', d', s', gas', out', a1.trans hfr, hm.trans a2, by omega, by omega, a5, ?_, a7⟩
  rcases a6 with ⟨b1, b2, b3⟩ | ⟨b1, b2⟩
  · exact .inl ⟨b1, hd.trans b3⟩
  · exact .inr ⟨b1, b2.trans hsv⟩
set_option maxHeartbeats 16000000 in
theorem native_any (h : SR G bw gf cs fr d (f :: r) x w) (hg : Good B d) (hf : AnyF f) (hgas : f.gas ≤ 1048576) (hP : ∀ p r', r = p :: r' → WaitF p ∧ p.ml ≤ 1000000 ∧ p.gas ≤ 1048576) (hrl : r.length ≤ 900) :
    Calls Sakg.prog 111 #[.pointer (some ⟨bw, 0, none⟩), .pointer (some ⟨gf, 60 * r.length, none⟩)] w (EndK G bw gf fr B 2500 d f r x w) := by
  have hBB := big_ge
  have hfx := h.fx
  obtain ⟨o, ho⟩ : ∃ o, o = 60 * r.length := ⟨_, rfl⟩
  rw [← ho] at hfx ⊢
  obtain ⟨Ai, li, ci, i1, i2⟩ := hfx.kf.input
  have hli : li ≤ 1000000 := by have := hf.input; have := i2.now.len_eq; omega
  have hx1 : ∀ wz, Below w.heap.size w wz → wz.cell? ⟨gf, o + 1, none⟩ = some (.int .u8 f.native) := fun wz hz => (hfx.kept hz).cell hfx.kf.native
  have hx11 : ∀ wz, Below w.heap.size w wz → wz.cell? ⟨gf, o + 11, none⟩ = some (.slice Ai li ci) := fun wz hz => (hfx.kept hz).cell i1
  have HX1 := hide hx1
  have HX11 := hide hx11
  have d0 : Below w.heap.size w w.drew := Quiet.below ⟨1, rfl⟩ _
  have HC := hide (nativeCost_any f.native Ai li ci f.input w.drew (i2.kp (ChgS.of d0)).now hli)
  have HI2 := hide i2
  have HF := hide hfx
  have HSR := hide h
  have HO := hide ho
  have HG := hide hg
  have HP := hide hP
  have HAF := hide hf
  clear hx1 hx11 i1 i2 hfx h ho hg hP hf
  go_enter Sakg.func111, Sakg.ntmps111
  go_upto_region 0 with fail
  refine wp_region_noPanic ?_
  refine wp_region_held_drew (S := fun w' => Below w.heap.size w w') (by kernel_rfl) (d0) (fun hHeld => ?_)
  refine held_takeD 0 (.pointer (some ⟨gf, o, none⟩)) (some 7) (by rfl) (by rfl) (by kernel_rfl) (by kernel_rfl) (by kernel_rfl) (fun _ _ _ h => h) (.inl ⟨by rfl, fun _ _ => by rfl⟩) (hHeld) ?_
  simp only [Act.put, List.setIfInBounds_toArray, List.set_cons_zero, List.set_cons_succ]
  refine held_takeD 1 (.pointer (some ⟨gf, o, none⟩)) (some 8) (by rfl) (by rfl) (by kernel_rfl) (by kernel_rfl) (by kernel_rfl) (fun _ _ _ h => h) (.inl ⟨by rfl, fun _ _ => by go_simp⟩) (hHeld) ?_
  simp only [Act.put, List.setIfInBounds_toArray, List.set_cons_zero, List.set_cons_succ]
  refine held_takeD 2 (.pointer (some ⟨gf, o + 1, none⟩)) (some 9) (by rfl) (by rfl) (by kernel_rfl) (by kernel_rfl) (by kernel_rfl) (fun _ _ _ h => h) (.inl ⟨by rfl, fun _ _ => by go_simp⟩) (hHeld) ?_
  simp only [Act.put, List.setIfInBounds_toArray, List.set_cons_zero, List.set_cons_succ]
  refine held_takeD 3 (.int .u8 f.native) (some 10) (by rfl) (by rfl) (by kernel_rfl) (by kernel_rfl) (by kernel_rfl) (fun _ _ _ h => h) (.inl ⟨by rfl, fun wS hS => by have hc := unhide HX1 wS hS; go_simp⟩) (hHeld) ?_
  simp only [Act.put, List.setIfInBounds_toArray, List.set_cons_zero, List.set_cons_succ]
  refine held_takeD 4 (.pointer (some ⟨gf, o, none⟩)) (some 11) (by rfl) (by rfl) (by kernel_rfl) (by kernel_rfl) (by kernel_rfl) (fun _ _ _ h => h) (.inl ⟨by rfl, fun _ _ => by rfl⟩) (hHeld) ?_
  simp only [Act.put, List.setIfInBounds_toArray, List.set_cons_zero, List.set_cons_succ]
  refine held_takeD 5 (.pointer (some ⟨gf, o, none⟩)) (some 12) (by rfl) (by rfl) (by kernel_rfl) (by kernel_rfl) (by kernel_rfl) (fun _ _ _ h => h) (.inl ⟨by rfl, fun _ _ => by go_simp⟩) (hHeld) ?_
  simp only [Act.put, List.setIfInBounds_toArray, List.set_cons_zero, List.set_cons_succ]
  refine held_takeD 6 (.pointer (some ⟨gf, o + 11, none⟩)) (some 13) (by rfl) (by rfl) (by kernel_rfl) (by kernel_rfl) (by kernel_rfl) (fun _ _ _ h => h) (.inl ⟨by rfl, fun _ _ => by go_simp⟩) (hHeld) ?_
  simp only [Act.put, List.setIfInBounds_toArray, List.set_cons_zero, List.set_cons_succ]
  refine held_takeD 7 (.slice Ai li ci) (some 14) (by rfl) (by rfl) (by kernel_rfl) (by kernel_rfl) (by kernel_rfl) (fun _ _ _ h => h) (.inl ⟨by rfl, fun wS hS => by have hc := unhide HX11 wS hS; go_simp⟩) (hHeld) ?_
  simp only [Act.put, List.setIfInBounds_toArray, List.set_cons_zero, List.set_cons_succ]
  refine held_one 8 (by kernel_rfl) (by rfl) (fun K' hK' => ?_)
  go_simp
  refine (unhide HC).mono ?_
  rintro e w1 ⟨A1, k1, c1, n1, ok, rfl, m1, hn1, N1, b1⟩
  refine hK'.out _ _ (d0.trans (b1.mono d0.size)) ?_
  clear hK' K'
  have d1 : Below w.heap.size w w1 := d0.trans (b1.mono d0.size)
  refine held_takeD 9 (.tuple #[.slice A1 k1 c1, .bool ok]) (some 6) (by rfl) (by rfl) (by kernel_rfl) (by kernel_rfl) (by kernel_rfl) (fun _ _ _ h => h) (.inl ⟨by rfl, fun _ _ => by rfl⟩) (d1) ?_
  simp only [Act.put, List.setIfInBounds_toArray, List.set_cons_zero, List.set_cons_succ]
  refine held_takeD 10 (.slice A1 k1 c1) (some 16) (by rfl) (by rfl) (by kernel_rfl) (by kernel_rfl) (by kernel_rfl) (fun _ _ _ h => h) (.inl ⟨by rfl, fun _ _ => by go_simp⟩) (d1) ?_
  simp only [Act.put, List.setIfInBounds_toArray, List.set_cons_zero, List.set_cons_succ]
  refine held_takeD 11 (.bool ok) (some 17) (by rfl) (by rfl) (by kernel_rfl) (by kernel_rfl) (by kernel_rfl) (fun _ _ _ h => h) (.inl ⟨by rfl, fun _ _ => by go_simp⟩) (d1) ?_
  simp only [Act.put, List.setIfInBounds_toArray, List.set_cons_zero, List.set_cons_succ]
  refine held_takeD 12 (.slice A1 k1 c1) (some 4) (by rfl) (by rfl) (by kernel_rfl) (by kernel_rfl) (by kernel_rfl) (fun _ _ _ h => h) (.inl ⟨by rfl, fun _ _ => by rfl⟩) (d1) ?_
  simp only [Act.put, List.setIfInBounds_toArray, List.set_cons_zero, List.set_cons_succ]
  refine held_takeD 13 (.bool ok) (some 5) (by rfl) (by rfl) (by kernel_rfl) (by kernel_rfl) (by kernel_rfl) (fun _ _ _ h => h) (.inl ⟨by rfl, fun _ _ => by rfl⟩) (d1) ?_
  simp only [Act.put, List.setIfInBounds_toArray, List.set_cons_zero, List.set_cons_succ]
  refine wpAnyH_done (by kernel_rfl) ?_ _
  refine NoPanic.normal ?_
  have HM1 := hide m1
  have hL2 : ∀ wz, Below w.heap.size w wz → Hid (Calls Sakg.prog 114 #[.pointer (some ⟨bw, 0, none⟩), .int .u8 2, .slice none 0 0] wz (EndK G bw gf fr B 2500 d f r x w)) := fun wz hz => by
    have hl := leave_any ((unhide HSR).kept hz) (unhide HG) (unhide HAF).kind hgas (unhide HP) 2 (by omega) none 0 0 [] (KSrc.nil G _) (by omega) hrl
    rw [show ((2 : Nat) : Int) = 2 from rfl] at hl
    refine hide (hl.mono fun e w' hk => ?_)
    have := hk.toEnd (d0 := d) (f0 := f) (fr0 := fr) (w0 := w) (y := 0) rfl (Mv.of hz) (Nat.le_refl _) rfl (by simp) (Gr.refl (unhide HG).snd _)
    simpa using this
  obtain ⟨A4, k4, c4, g1, g2⟩ := (unhide HF).kf.gas
  have hx4 : ∀ wz, Below w.heap.size w wz → wz.cell? ⟨gf, o + 4, none⟩ = some (.slice A4 k4 c4) := fun wz hz => ((unhide HF).kept hz).cell g1
  have HX4 := hide hx4
  have c4w := hx4 w1 d1
  have hn1B : n1 < BIG := Nat.lt_of_lt_of_le hn1 (big_pow 40 (by omega))
  have HCM := hide (m1.cmp (g2.kp (ChgS.of d1)).now hn1B (by omega))
  have HG2 := hide g2
  clear m1 hx4 g1 g2
  cases ok with
  | false =>
    go_wp2_with (go_at_call 114; refine (unhide (hL2 _ d1)).mono ?_; rintro e w9 hend; have HEND := hide hend; have hee := hend.1; subst hee; clear hend)
    refine bodyPost_ret (results_none rfl _ _ _) rfl ?_
    exact unhide HEND
  | true =>
    by_cases hle : n1 ≤ f.gas
    case neg =>
      have hcm : cmpI n1 f.gas = 1 := by unfold cmpI; rw [if_neg (by omega), if_neg (by omega)]
      rw [hcm] at HCM
      clear hcm
      go_upto_region 2 with (go_at_call 68; refine (unhide HCM).mono ?_; rintro e w2 ⟨rfl, q2⟩; have d2 : Below w.heap.size w w2 := d1.trans ((q2.below _).mono d1.size))
      go_wp2_with (go_at_call 114; refine (unhide (hL2 _ d2)).mono ?_; rintro e w9 hend; have HEND := hide hend; have hee := hend.1; subst hee; clear hend)
      refine bodyPost_ret (results_none rfl _ _ _) rfl ?_
      exact unhide HEND
    case pos =>
      have hcm : decide (0 < cmpI n1 f.gas) = false := by
        rw [decide_eq_false_iff_not]; unfold cmpI; split
        · omega
        · rw [if_pos (by omega)]; omega
      generalize cmpI n1 f.gas = cz at HCM hcm
      go_upto_region 3 with (go_at_call 68; refine (unhide HCM).mono ?_; rintro e w2 ⟨rfl, q2⟩; have d2 : Below w.heap.size w w2 := d1.trans ((q2.below _).mono d1.size); have c42 := unhide HX4 w2 d2; have b12 : Below w1.heap.size w1 w2 := q2.below _)
      have HLS := hide (less_any A4 A1 k4 k1 c4 c1 f.gas n1 w2 ((unhide HG2).kp (ChgS.of d2)).now ((unhide HM1).kept b12) (by omega) hn1B)
      clear c4w hcm
      go_upto_region 4 with (go_at_call 101; refine (unhide HLS).mono ?_; rintro e w3 ⟨A3, k3, c3, rfl, n3, N3, b3⟩; have d3 : Below w.heap.size w w3 := d2.trans (b3.mono d2.size); have hfx3 := (unhide HF).kept d3; obtain ⟨v43, hx43⟩ := hfx3.ex (i := 4) (by omega); have hf43 := hfx3.row.froz (o + 4); have NN3 := hide n3; clear n3 hfx3)
      have hsr3 := (unhide HSR).kept d3
      have k3N : KNat G w3 A3 k3 c3 (f.gas - n1) := KNat.new (unhide NN3) (N3.later d2.size) (unhide HSR).cw.ther
      obtain ⟨hsr4, ho4⟩ := hsr3.put (j := 4) (by omega) (hsr3.fx.kf.setGas k3N)
      rw [← unhide HO] at hsr4 ho4
      obtain ⟨w4, hw4⟩ : ∃ y, y = w3.setCell ⟨gf, o + 4, none⟩ (.slice A3 k3 c3) := ⟨_, rfl⟩
      rw [← hw4] at hsr4 ho4
      rw [← hw4]
      have hfr4 : (fr.set (o + 4) (Value.slice A3 k3 c3)).length = fr.length := List.length_set ..
      generalize fr.set (o + 4) (Value.slice A3 k3 c3) = fr4 at hsr4 hfr4
      have m4 : Mv G w w4 := (Mv.of d3).trans (Mv.frame hsr3.row hsr3.g (Chg.ofOnly ho4))
      have hfx4 := hsr4.fx
      rw [← unhide HO] at hfx4
      have y1 : ∀ wz, Below w4.heap.size w4 wz → wz.cell? ⟨gf, o + 1, none⟩ = some (.int .u8 f.native) := fun wz hz => (hfx4.kept hz).cell hfx4.kf.native
      obtain ⟨Aj, lj, cj, j1, j2⟩ := hfx4.kf.input
      have hlj : lj ≤ 1000000 := by have := (unhide HAF).input; have h2 := j2.now.len_eq; simp only at h2; omega
      have y11 : ∀ wz, Below w4.heap.size w4 wz → wz.cell? ⟨gf, o + 11, none⟩ = some (.slice Aj lj cj) := fun wz hz => (hfx4.kept hz).cell j1
      have Z1 := hide hfx4.kf.native
      have Z11 := hide j1
      have Y1 := hide y1
      have Y11 := hide y11
      have e0 : Below w4.heap.size w4 w4.drew := Quiet.below ⟨1, rfl⟩ _
      have HNR := hide (nativeRun_any f.native Aj lj cj f.input w4.drew (j2.kp (ChgS.of e0)).now hlj)
      have HS4 := hide hsr4
      clear y1 y11 j1 j2 hfx4 hsr4 ho4 hw4 hsr3 k3N c42 hx43 hf43
      refine wp_region_noPanic ?_
      refine wp_region_held_drew (S := fun w' => ChgS G w4 w' ∧ w'.cell? ⟨gf, o + 1, none⟩ = some (.int .u8 f.native) ∧ w'.cell? ⟨gf, o + 11, none⟩ = some (.slice Aj lj cj)) (by kernel_rfl) (⟨ChgS.of e0, unhide Y1 _ e0, unhide Y11 _ e0⟩) (fun hHeld => ?_)
      refine held_takeD 0 (.pointer (some ⟨bw, 0, none⟩)) (some 40) (by rfl) (by rfl) (by kernel_rfl) (by kernel_rfl) (by kernel_rfl) (fun _ _ _ h => h) (.inl ⟨by rfl, fun _ _ => by rfl⟩) (hHeld) ?_
      simp only [Act.put, List.setIfInBounds_toArray, List.set_cons_zero, List.set_cons_succ]
      refine held_takeD 1 (.pointer (some ⟨gf, o, none⟩)) (some 41) (by rfl) (by rfl) (by kernel_rfl) (by kernel_rfl) (by kernel_rfl) (fun _ _ _ h => h) (.inl ⟨by rfl, fun _ _ => by rfl⟩) (hHeld) ?_
      simp only [Act.put, List.setIfInBounds_toArray, List.set_cons_zero, List.set_cons_succ]
      refine held_takeD 2 (.pointer (some ⟨gf, o, none⟩)) (some 42) (by rfl) (by rfl) (by kernel_rfl) (by kernel_rfl) (by kernel_rfl) (fun _ _ _ h => h) (.inl ⟨by rfl, fun _ _ => by go_simp⟩) (hHeld) ?_
      simp only [Act.put, List.setIfInBounds_toArray, List.set_cons_zero, List.set_cons_succ]
      refine held_takeD 3 (.pointer (some ⟨gf, o + 1, none⟩)) (some 43) (by rfl) (by rfl) (by kernel_rfl) (by kernel_rfl) (by kernel_rfl) (fun _ _ _ h => h) (.inl ⟨by rfl, fun _ _ => by go_simp⟩) (hHeld) ?_
      simp only [Act.put, List.setIfInBounds_toArray, List.set_cons_zero, List.set_cons_succ]
      refine held_takeD 4 (.int .u8 f.native) (some 44) (by rfl) (by rfl) (by kernel_rfl) (by kernel_rfl) (by kernel_rfl) (fun _ _ _ h => h) (.inl ⟨by rfl, fun wS hS => by have hc := hS.2.1; go_simp⟩) (hHeld) ?_
      simp only [Act.put, List.setIfInBounds_toArray, List.set_cons_zero, List.set_cons_succ]
      refine held_takeD 5 (.pointer (some ⟨gf, o, none⟩)) (some 45) (by rfl) (by rfl) (by kernel_rfl) (by kernel_rfl) (by kernel_rfl) (fun _ _ _ h => h) (.inl ⟨by rfl, fun _ _ => by rfl⟩) (hHeld) ?_
      simp only [Act.put, List.setIfInBounds_toArray, List.set_cons_zero, List.set_cons_succ]
      refine held_takeD 6 (.pointer (some ⟨gf, o, none⟩)) (some 46) (by rfl) (by rfl) (by kernel_rfl) (by kernel_rfl) (by kernel_rfl) (fun _ _ _ h => h) (.inl ⟨by rfl, fun _ _ => by go_simp⟩) (hHeld) ?_
      simp only [Act.put, List.setIfInBounds_toArray, List.set_cons_zero, List.set_cons_succ]
      refine held_takeD 7 (.pointer (some ⟨gf, o + 11, none⟩)) (some 47) (by rfl) (by rfl) (by kernel_rfl) (by kernel_rfl) (by kernel_rfl) (fun _ _ _ h => h) (.inl ⟨by rfl, fun _ _ => by go_simp⟩) (hHeld) ?_
      simp only [Act.put, List.setIfInBounds_toArray, List.set_cons_zero, List.set_cons_succ]
      refine held_takeD 8 (.slice Aj lj cj) (some 48) (by rfl) (by rfl) (by kernel_rfl) (by kernel_rfl) (by kernel_rfl) (fun _ _ _ h => h) (.inl ⟨by rfl, fun wS hS => by have hc := hS.2.2; go_simp⟩) (hHeld) ?_
      simp only [Act.put, List.setIfInBounds_toArray, List.set_cons_zero, List.set_cons_succ]
      refine held_one 9 (by kernel_rfl) (by rfl) (fun K' hK' => ?_)
      go_simp
      refine (unhide HNR).mono ?_
      rintro e w5 ⟨A5, k5, c5, ys, rfl, s5, hk5, N5, b5⟩
      have e5 : Below w4.heap.size w4 w5 := e0.trans (b5.mono e0.size)
      refine hK'.out _ _ ⟨ChgS.of e5, unhide Y1 _ e5, unhide Y11 _ e5⟩ ?_
      clear hK' K'
      have k5S : KSrc G w5 A5 k5 c5 ys := KSrc.new s5 (N5.later e0.size) (unhide HS4).cw.ther
      have hLV := leave_any ((unhide HS4).kept e5) (unhide HG) (unhide HAF).kind (show f.gas - n1 ≤ 1048576 by omega) (unhide HP) 0 (by omega) A5 k5 c5 ys k5S hk5 hrl
      rw [show ((0 : Nat) : Int) = 0 from rfl] at hLV
      have HLV := hide hLV
      have hysl : ys.length ≤ 1000000 := by have := s5.len_eq; omega
      have hq1 : fr4[o + 1]? = some (.int .u8 f.native) := unhide Z1
      have hq11 : fr4[o + 11]? = some (.slice Aj lj cj) := unhide Z11
      refine held_one 10 (by kernel_rfl) (by rfl) (fun K' hK' => ?_)
      go_simp
      refine (unhide HLV).mono ?_
      intro e w6 hend
      have hEnd := hend.toEnd (d0 := d) (f0 := f) (fr0 := fr) (w0 := w) (y := 0) hfr4 (m4.trans (Mv.of e5)) (show f.gas - n1 ≤ f.gas by omega) rfl hysl (Gr.refl (unhide HG).snd _)
      obtain ⟨he6, cs6, fr6, d6, s6, g6, o6, a1, a2, a3, a4, a5, a6, hrow6, hsame6, a7⟩ := hend
      subst he6
      have ho := unhide HO
      refine hK'.out _ _ ⟨(ChgS.of e5).trans a2.chg, by rw [hrow6.cell, hsame6 _ (by omega)]; exact hq1, by rw [hrow6.cell, hsame6 _ (by omega)]; exact hq11⟩ ?_
      clear hK' K'
      refine wpAnyH_done (by kernel_rfl) ?_ _
      refine NoPanic.normal ?_
      have HEND := hide hEnd
      clear hEnd a1 a2 a3 a4 a5 a6 hrow6 hsame6 a7
      go_wp2
      refine bodyPost_done rfl rfl ?_
      simpa using unhide HEND
end

end Go.Proofs.YgcsakGreat
