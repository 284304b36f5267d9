/-
  yp, exactly: plain at an instruction that gives nothing.
-/
import Derived.Test.YgcsakGreatKjF
import Derived.Test.YgcsakGreatXsA
import Derived.Test.YgcsakGreatXeA
namespace Go.Proofs.YgcsakGreat
set_option linter.unusedVariables false
set_option linter.unusedSimpArgs false
set_option maxRecDepth 100000
open Go.RowKit

section
variable {G : Nat → Prop} {bw gf : Nat} {cs fr : List Value} {d : WD} {f : FD} {r : List FD} {x : XD} {w : World} {B : Nat}
/-- what plain leaves at an instruction that gives nothing -/
def PleX (G : Nat → Prop) (bw gf : Nat) (f : FD) (r : List FD) (x : XD) (p : Nat) (P : WD → Prop) (w : World) (e : Ending) (w' : World) : Prop :=
  e = .returned (.tuple #[]) ∧ ∃ G' cs' fr' d', Wider G G' w ∧ SR G' bw gf cs' fr' d' ({ f with stk := f.stk.take (f.stk.length - takA p), pc := f.pc + 1 + immA p } :: r) x w' ∧ P d' ∧ CT G w w'
set_option maxHeartbeats 16000000 in
theorem plain_effX (p : Nat) (hv : effO p) (hv87 : p ≠ 87) (h : SR G bw gf cs fr d (f :: r) x w) (hsl : f.stk.length ≤ 64) (htk : takA p ≤ f.stk.length) (hpc : f.pc < P256 + 34) (ha : ∀ v ∈ f.stk, v < P256) (P : WD → Prop)
    (heff : ∀ wz A, Below w.heap.size w wz → SStk G wz A (takA p) (takA p) (argsK f.stk (takA p)) → Calls Sakg.prog 218 #[.pointer (some ⟨bw, 0, none⟩), .pointer (some ⟨gf, 60 * r.length, none⟩), .int .u8 p, .slice A (takA p) (takA p)] wz (EffX G bw gf fr (f :: r) x P wz)) :
    Calls Sakg.prog 122 #[.pointer (some ⟨bw, 0, none⟩), .pointer (some ⟨gf, 60 * r.length, none⟩), .int .u8 p] w (PleX G bw gf f r x p P w) := by
  obtain ⟨hgv, hp⟩ := eff_giv p hv
  have hBB := big_ge
  have hPB := p256_big2
  have htk64 : takA p ≤ 64 := by omega
  have himm : immA p ≤ 32 := by unfold immA; split <;> omega
  have HAR := hide (arity_any p hp w)
  have HIM : ∀ wz, Hid (Calls Sakg.prog 216 #[.int .u8 p] wz fun e w' => e = .returned (.int .u8 (immA p)) ∧ wz = w') := fun wz => hide (imm_any p hp wz)
  have HGV := hide hgv
  rw [hgv] at HAR
  generalize htt : takA p = tk at htk htk64 HAR heff
  generalize hff : decide (famA p ≠ 0) = fv at HAR
  generalize hii : immA p = ik at himm HIM
  have HTT := hide htt
  have t86 : ((p : Int) == 86) = false := by rw [beq_eq_false_iff_ne]; unfold effO at hv; omega
  have t87 : ((p : Int) == 87) = false := by rw [beq_eq_false_iff_ne]; unfold effO at hv; omega
  obtain ⟨bq, t128⟩ : ∃ bq, decide ((128 : Int) ≤ (p : Int)) = bq := ⟨_, rfl⟩
  have t143 : bq = true → decide ((p : Int) ≤ (143 : Int)) = false := fun hb => decide_eq_false (by rw [hb, decide_eq_true_eq] at t128; unfold effO at hv; omega)
  have t144 : decide ((144 : Int) ≤ (p : Int)) = bq := by rw [← t128]; by_cases hb : 128 ≤ p <;> unfold effO at hv <;> simp <;> omega
  have t159 : bq = true → decide ((p : Int) ≤ (159 : Int)) = false := fun hb => decide_eq_false (by rw [hb, decide_eq_true_eq] at t128; unfold effO at hv; omega)
  have HEFF := hide heff
  have HAA := hide ha
  have HII := hide hii
  obtain ⟨i0, hi0, hz0, hz1, hz2⟩ := info_parts infoNatK
  have HI0 := hide hi0
  have HZ0 := hide hz0
  have HZ1 := hide hz1
  have HZ2 := hide hz2
  have hfx := h.fx
  obtain ⟨o, ho⟩ : ∃ o, o = 60 * r.length := ⟨_, rfl⟩
  rw [← ho] at hfx ⊢
  have hth := hfx.ther
  have HTH := hide hth
  have HF := hide hfx
  have HSR := hide h
  have HO := hide ho
  clear hi0 hz0 hz1 hz2 h htt hii hff hfx ho hth ha hgv hv heff hv87
  go_enter Sakg.func122, Sakg.ntmps122
  go_upto_region 2 with (first
    | (go_at_call 202; refine (unhide HAR).mono ?_; rintro e w1 ⟨rfl, rfl⟩)
    | (at_make; refine wpList_make_rows rfl _ _ 192 rfl 54 Sakg.underlying192 i0 _ 1 24 (unhide HI0) (unhide HZ0) (unhide HZ1) (unhide HZ2) _ _ tk rfl rfl rfl rfl (by omega) (by omega) ?_; intro w2 zs hr2 hzl hb2 hs2))
  have HR2 := hide hr2
  have HZL := hide hzl
  have HB2 := hide hb2
  clear hr2 hzl hb2 hs2
  go_wp2_with fail
  go_loopg [24] tk (fun gk iv wr => ∃ (i : Nat) (cs : List Value), i + gk = tk ∧ iv = .int .i64 i ∧ RowT 54 wr w.heap.size cs ∧ cs.length = tk ∧ LaidK G w f.stk cs i ∧ Below w.heap.size w wr)
  case atStart => exact ⟨0, zs, by omega, rfl, unhide HR2, by have := unhide HZL; omega, fun j hj => by omega, unhide HB2⟩
  case round =>
    obtain ⟨i, ca, hi, rfl, hr, hcl, hlaid, hbe⟩ := hrel
    have HR := hide hr
    have HLAID := hide hlaid
    clear hr hlaid
    by_cases hit : i < tk
    · have HA := hide ((unhide HF).argAt hbe (by omega) i (by omega))
      go_wp2_with (go_at_call 118; refine (unhide HA).mono ?_; rintro e w3 ⟨⟨A, k, c, rfl, hs⟩, q3⟩; have b3 : Below wr.heap.size wr w3 := q3.below _; have hr3 := (unhide HR).kept b3; have hx3 : ∃ v, w3.cell? ⟨w.heap.size, i, none⟩ = some v := by { rw [hr3.cell, List.getElem?_eq_getElem (by omega)]; exact ⟨_, rfl⟩ }; obtain ⟨v3, hx3⟩ := hx3; have hf3 := hr3.froz i; have HR3 := hide hr3; have HS := hide hs; clear hr3 hs q3)
      have hset := (unhide HR3).set i (Value.slice A k c)
      have hb4 : Below w.heap.size w (w3.setCell ⟨w.heap.size, i, none⟩ (Value.slice A k c)) := (hbe.trans (b3.mono hbe.size)).setCell (p := ⟨w.heap.size, i, none⟩) (Nat.le_refl _) _
      go_roundg (tk - 1 - i)
      case measure => omega
      case rel => exact ⟨i + 1, _, by omega, rfl, hset, by rw [List.length_set]; exact hcl, (unhide HLAID).snoc (by omega) (unhide HS), hb4⟩
    · obtain rfl : i = tk := by omega
      obtain ⟨Ap, kp, cp, p1, p2⟩ := (unhide HF).kf.pc
      obtain ⟨As, ls, cS, s1, s2⟩ := (unhide HF).kf.stk
      have x3 : ∀ wz, Below w.heap.size w wz → wz.cell? ⟨gf, o + 3, none⟩ = some (.slice Ap kp cp) ∧ IsNat wz Ap kp cp f.pc := fun wz hz => ⟨((unhide HF).kept hz).cell p1, p2 wz (ChgS.of hz)⟩
      have x8 : ∀ wz, Below w.heap.size w wz → wz.cell? ⟨gf, o + 8, none⟩ = some (.slice As ls cS) := fun wz hz => ((unhide HF).kept hz).cell s1
      obtain ⟨rowsS, sr1, sr2⟩ := s2
      have hls : f.stk.length = ls := by rw [← sr2.len, sr1.now.len_eq]
      have hlc := sr1.now.le
      have hnilS := sr1.now.nil
      have SR1 := hide sr1
      have SR2 := hide sr2
      have X3 := hide x3
      have X8 := hide x8
      have dR : Below wr.heap.size wr wr.drew := Quiet.below ⟨1, rfl⟩ _
      have hX : ∀ wz, Below wr.heap.size wr wz → Below w.heap.size w wz := fun wz hz => hbe.trans (hz.mono hbe.size)
      have HX := hide hX
      have hwk : IntKind.u64.wrap (ik : Int) = (ik : Int) := by rw [IntKind.wrap_u64]; omega
      obtain ⟨j1, hj1⟩ : ∃ j1, j1 = 1 + ik := ⟨_, rfl⟩
      have ej : (1 : Int) + (ik : Int) = (j1 : Int) := by omega
      have ejw : IntKind.u64.wrap ((1 : Int) + (ik : Int)) = (j1 : Int) := by rw [IntKind.wrap_u64]; omega
      have ejw2 : IntKind.u64.wrap (j1 : Int) = (j1 : Int) := by rw [IntKind.wrap_u64]; omega
      have hj1l : j1 ≤ 40 := by omega
      have HJ1 := hide hj1
      clear p1 p2 s1 x3 x8 hX hj1 sr1 sr2
      go_upto_region 7 with fail
      refine wp_region_noPanic ?_
      refine wp_region_held_drew (S := fun w' => Below wr.heap.size wr w') (by kernel_rfl) (dR) (fun hHeld => ?_)
      refine held_takeD 0 (.pointer (some ⟨gf, o, none⟩)) (some 34) (by rfl) (by rfl) (by kernel_rfl) (by kernel_rfl) (by kernel_rfl) (fun _ _ _ h => h) (.inl ⟨by rfl, fun _ _ => by rfl⟩) (hHeld) ?_
      simp only [Act.put, List.setIfInBounds_toArray, List.set_cons_zero, List.set_cons_succ]
      refine held_takeD 1 (.pointer (some ⟨gf, o, none⟩)) (some 35) (by rfl) (by rfl) (by kernel_rfl) (by kernel_rfl) (by kernel_rfl) (fun _ _ _ h => h) (.inl ⟨by rfl, fun _ _ => by go_simp⟩) (hHeld) ?_
      simp only [Act.put, List.setIfInBounds_toArray, List.set_cons_zero, List.set_cons_succ]
      refine held_takeD 2 (.pointer (some ⟨gf, o + 3, none⟩)) (some 36) (by rfl) (by rfl) (by kernel_rfl) (by kernel_rfl) (by kernel_rfl) (fun _ _ _ h => h) (.inl ⟨by rfl, fun _ _ => by go_simp⟩) (hHeld) ?_
      simp only [Act.put, List.setIfInBounds_toArray, List.set_cons_zero, List.set_cons_succ]
      refine held_takeD 3 (.slice Ap kp cp) (some 37) (by rfl) (by rfl) (by kernel_rfl) (by kernel_rfl) (by kernel_rfl) (fun _ _ _ h => h) (.inl ⟨by rfl, fun wS hS => by have hc := (unhide X3 wS (unhide HX wS hS)).1; go_simp⟩) (hHeld) ?_
      simp only [Act.put, List.setIfInBounds_toArray, List.set_cons_zero, List.set_cons_succ]
      refine held_takeD 4 (.int .u8 p) (some 38) (by rfl) (by rfl) (by kernel_rfl) (by kernel_rfl) (by kernel_rfl) (fun _ _ _ h => h) (.inl ⟨by rfl, fun _ _ => by rfl⟩) (hHeld) ?_
      simp only [Act.put, List.setIfInBounds_toArray, List.set_cons_zero, List.set_cons_succ]
      refine held_one 5 (by kernel_rfl) (by rfl) (fun K' hK' => ?_)
      go_simp
      refine (unhide (HIM wr.drew)).mono ?_
      rintro e w4 ⟨rfl, rfl⟩
      refine hK'.out _ _ (dR) ?_
      clear hK' K'
      refine held_takeD 6 (.int .u64 ik) (some 40) (by rfl) (by rfl) (by kernel_rfl) (by kernel_rfl) (by kernel_rfl) (fun _ _ _ h => h) (.inl ⟨by rfl, fun _ _ => by go_simp⟩) (dR) ?_
      simp only [Act.put, List.setIfInBounds_toArray, List.set_cons_zero, List.set_cons_succ]
      refine held_takeD 7 (.int .u64 j1) (some 41) (by rfl) (by rfl) (by kernel_rfl) (by kernel_rfl) (by kernel_rfl) (fun _ _ _ h => h) (.inl ⟨by rfl, fun _ _ => by go_simp⟩) (dR) ?_
      simp only [Act.put, List.setIfInBounds_toArray, List.set_cons_zero, List.set_cons_succ]
      refine held_one 8 (by kernel_rfl) (by rfl) (fun K' hK' => ?_)
      go_simp
      refine (num_any j1 wr.drew (by omega)).mono ?_
      rintro e w5 ⟨A5, k5, c5, rfl, n5, N5, b5⟩
      refine hK'.out _ _ (dR.trans (b5.mono dR.size)) ?_
      clear hK' K'
      have d5 := dR.trans (b5.mono dR.size)
      refine held_one 9 (by kernel_rfl) (by rfl) (fun K' hK' => ?_)
      go_simp
      refine ((unhide X3 w5 (unhide HX w5 d5)).2.add n5 (by omega) (by omega)).mono ?_
      rintro e w6 ⟨A6, k6, c6, rfl, n6, N6, b6⟩
      refine hK'.out _ _ (d5.trans (b6.mono d5.size)) ?_
      clear hK' K'
      have d6 := d5.trans (b6.mono d5.size)
      refine held_takeD 10 (.slice A6 k6 c6) (some 11) (by rfl) (by rfl) (by kernel_rfl) (by kernel_rfl) (by kernel_rfl) (fun _ _ _ h => h) (.inl ⟨by rfl, fun _ _ => by rfl⟩) (d6) ?_
      simp only [Act.put, List.setIfInBounds_toArray, List.set_cons_zero, List.set_cons_succ]
      refine wpAnyH_done (by kernel_rfl) ?_ _
      refine NoPanic.normal ?_
      have e6 : f.pc + j1 = f.pc + 1 + ik := by rw [unhide HJ1]; omega
      rw [e6] at n6
      have NN6 := hide n6
      have N6w : New w A6 := N6.later (Nat.le_trans hbe.size d5.size)
      have HR6 := hide ((unhide HR).kept d6)
      have dw6 : Below w.heap.size w w6 := unhide HX w6 d6
      have y8 := unhide X8 w6 dw6
      obtain ⟨q, hq⟩ : ∃ q, q = ls - i := ⟨_, rfl⟩
      have eq1 : (ls : Int) - (i : Int) = (q : Int) := by omega
      have hql : q ≤ ls := by omega
      have HQ := hide hq
      clear n6 n5 e6 ej ejw ejw2 hwk hq
      go_upto_region 8 with fail
      go_cut [12] (fun s12 wc => s12 = .slice As q q ∧ Below w6.heap.size w6 wc)
      case first =>
        cases As with
        | none =>
          obtain ⟨h1, h2⟩ := hnilS rfl
          obtain rfl : q = 0 := by omega
          subst h1 h2
          go_quiet (fail)
          go_wp2_with fail
          go_meet
          case rel => exact ⟨rfl, Quiet.below ⟨_, rfl⟩ _⟩
        | some ad =>
          clear hnilS
          go_quiet (fail)
          go_wp2_with fail
          go_meet
          case rel => exact ⟨rfl, Quiet.below ⟨_, rfl⟩ _⟩
      case rest =>
        obtain ⟨w7, hw7⟩ : ∃ w7, w7 = wc := ⟨_, rfl⟩
        subst hw7
        obtain ⟨rfl, b7⟩ := hcut
        have dw7 : Below w.heap.size w w7 := dw6.trans (b7.mono dw6.size)
        have hstk := (unhide HLAID).stk ((unhide HR6).kept b7) hcl (by omega) (fun hh => by have := unhide HTH _ hh; omega) (ChgS.of dw7)
        have hE := unhide HEFF w7 _ dw7 hstk
        rw [← unhide HO] at hE
        have HV := hide hE
        have dw7b := dw7
        have b7b : Below w7.heap.size w7 w7 := Below.refl _ _
        clear hstk hE y8 hnilS
        cases bq with
        | false =>
          clear t143 t159
          go_upto_region 9 with fail
          go_wp2_with fail
          refine (unhide HV).mono ?_
          rintro e w8 ⟨G', cs8, d8, rfl, hw8, hsr8, hgr8, hch8, htm8⟩
          have HS8 := hide hsr8
          have HG8 := hide hgr8
          have hsz7 := dw7b.size
          have HW8 : Hid (Wider G G' w) := hide ⟨hw8.sub, fun j hj hl => hw8.new j hj (by omega)⟩
          have HC8 : Hid (ChgS G w w8) := hide ((ChgS.of (G := G) dw7b).then hch8 (fun _ h _ => h))
          have HT8 : Hid (Tm w w8) := hide ((Tm.of dw7b).trans htm8)
          have HP8 : Hid (ChgS G w7 w8) := hide hch8
          clear hsr8 hgr8 hch8 htm8
          go_upto_region 25 with fail
          obtain ⟨w9, hw9⟩ : ∃ w9, w9 = w8 := ⟨_, rfl⟩
          subst hw9
          have hwd := unhide HW8
          have hsr9 := unhide HS8
          have p6 : KNat G w6 A6 k6 c6 (f.pc + 1 + ik) := KNat.new (unhide NN6) N6w (unhide HTH)
          have hb67 := b7.trans (b7b.mono b7.size)
          have hs67 := hb67.size
          have p6' : KNat G' w6 A6 k6 c6 (f.pc + 1 + ik) := StabS.to p6 (fun j hj hl => hw8.new j hj (by omega))
          have p9 := p6'.kp (((ChgS.of (G := G) hb67).then (unhide HP8) (fun _ h _ => h)).mono hw8.sub)
          have hS9 : SStk G' w9 As q q (f.stk.take q) := ((SStk.cut ⟨rowsS, unhide SR1, unhide SR2⟩ q hql).to hwd.new).go ((unhide HC8).mono hw8.sub)
          have hc9 := unhide HC8
          have ht9 := unhide HT8
          obtain ⟨fr', hfl9, hsrN, hmvN⟩ := hsr9.next hS9 p9
          rw [← unhide HO] at hsrN hmvN
          have r9 := hsr9.row
          have hlen9 : o + 60 ≤ fr.length := (unhide HF).len
          obtain ⟨v98, hx9⟩ : ∃ v, w9.cell? ⟨gf, o + 8, none⟩ = some v := by
            rw [r9.cell, List.getElem?_eq_getElem (by omega)]
            exact ⟨_, rfl⟩
          have hf9 := r9.froz (o + 8)
          obtain ⟨w10, hw10⟩ : ∃ x, x = w9.setCell ⟨gf, o + 8, none⟩ (.slice As q q) := ⟨_, rfl⟩
          have r10 := r9.set (o + 8) (.slice As q q)
          rw [← hw10] at r10 hsrN hmvN
          obtain ⟨v93, hx10⟩ : ∃ v, w10.cell? ⟨gf, o + 3, none⟩ = some v := by
            rw [r10.cell, List.getElem?_eq_getElem (by rw [List.length_set]; omega)]
            exact ⟨_, rfl⟩
          have hf10 := r10.froz (o + 3)
          have hct : CT G w _ := ⟨hc9.then hmvN.chg hwd.new, ht9.trans hmvN.tm⟩
          have HSN := hide hsrN
          have HCT := hide hct
          have HWD := hide hwd
          have HW10 := hide hw10
          have hqe : q = f.stk.length - takA p := by rw [unhide HTT, hls]; exact unhide HQ
          have hie : ik = immA p := (unhide HII).symm
          have HQE := hide hqe
          have HIE := hide hie
          clear r9 r10 hsrN hmvN hw10 hsr9 p9 hS9 hfl9 hc9 ht9 hct hwd p6 p6' hw8 hb67 hqe hie
          go_upto_region 26 with fail
          rw [← unhide HW10]
          go_wp2
          refine bodyPost_done rfl rfl ?_
          refine ⟨rfl, G', cs8, fr', d8, unhide HWD, ?_, unhide HG8, unhide HCT⟩
          rw [← unhide HQE, ← unhide HIE]
          exact unhide HSN
        | true =>
          have t143' := t143 rfl
          have t159' := t159 rfl
          clear t143 t159
          go_upto_region 9 with fail
          go_wp2_with fail
          refine (unhide HV).mono ?_
          rintro e w8 ⟨G', cs8, d8, rfl, hw8, hsr8, hgr8, hch8, htm8⟩
          have HS8 := hide hsr8
          have HG8 := hide hgr8
          have hsz7 := dw7b.size
          have HW8 : Hid (Wider G G' w) := hide ⟨hw8.sub, fun j hj hl => hw8.new j hj (by omega)⟩
          have HC8 : Hid (ChgS G w w8) := hide ((ChgS.of (G := G) dw7b).then hch8 (fun _ h _ => h))
          have HT8 : Hid (Tm w w8) := hide ((Tm.of dw7b).trans htm8)
          have HP8 : Hid (ChgS G w7 w8) := hide hch8
          clear hsr8 hgr8 hch8 htm8
          go_upto_region 25 with fail
          obtain ⟨w9, hw9⟩ : ∃ w9, w9 = w8 := ⟨_, rfl⟩
          subst hw9
          have hwd := unhide HW8
          have hsr9 := unhide HS8
          have p6 : KNat G w6 A6 k6 c6 (f.pc + 1 + ik) := KNat.new (unhide NN6) N6w (unhide HTH)
          have hb67 := b7.trans (b7b.mono b7.size)
          have hs67 := hb67.size
          have p6' : KNat G' w6 A6 k6 c6 (f.pc + 1 + ik) := StabS.to p6 (fun j hj hl => hw8.new j hj (by omega))
          have p9 := p6'.kp (((ChgS.of (G := G) hb67).then (unhide HP8) (fun _ h _ => h)).mono hw8.sub)
          have hS9 : SStk G' w9 As q q (f.stk.take q) := ((SStk.cut ⟨rowsS, unhide SR1, unhide SR2⟩ q hql).to hwd.new).go ((unhide HC8).mono hw8.sub)
          have hc9 := unhide HC8
          have ht9 := unhide HT8
          obtain ⟨fr', hfl9, hsrN, hmvN⟩ := hsr9.next hS9 p9
          rw [← unhide HO] at hsrN hmvN
          have r9 := hsr9.row
          have hlen9 : o + 60 ≤ fr.length := (unhide HF).len
          obtain ⟨v98, hx9⟩ : ∃ v, w9.cell? ⟨gf, o + 8, none⟩ = some v := by
            rw [r9.cell, List.getElem?_eq_getElem (by omega)]
            exact ⟨_, rfl⟩
          have hf9 := r9.froz (o + 8)
          obtain ⟨w10, hw10⟩ : ∃ x, x = w9.setCell ⟨gf, o + 8, none⟩ (.slice As q q) := ⟨_, rfl⟩
          have r10 := r9.set (o + 8) (.slice As q q)
          rw [← hw10] at r10 hsrN hmvN
          obtain ⟨v93, hx10⟩ : ∃ v, w10.cell? ⟨gf, o + 3, none⟩ = some v := by
            rw [r10.cell, List.getElem?_eq_getElem (by rw [List.length_set]; omega)]
            exact ⟨_, rfl⟩
          have hf10 := r10.froz (o + 3)
          have hct : CT G w _ := ⟨hc9.then hmvN.chg hwd.new, ht9.trans hmvN.tm⟩
          have HSN := hide hsrN
          have HCT := hide hct
          have HWD := hide hwd
          have HW10 := hide hw10
          have hqe : q = f.stk.length - takA p := by rw [unhide HTT, hls]; exact unhide HQ
          have hie : ik = immA p := (unhide HII).symm
          have HQE := hide hqe
          have HIE := hide hie
          clear r9 r10 hsrN hmvN hw10 hsr9 p9 hS9 hfl9 hc9 ht9 hct hwd p6 p6' hw8 hb67 hqe hie
          go_upto_region 26 with fail
          rw [← unhide HW10]
          go_wp2
          refine bodyPost_done rfl rfl ?_
          refine ⟨rfl, G', cs8, fr', d8, unhide HWD, ?_, unhide HG8, unhide HCT⟩
          rw [← unhide HQE, ← unhide HIE]
          exact unhide HSN
end

end Go.Proofs.YgcsakGreat
