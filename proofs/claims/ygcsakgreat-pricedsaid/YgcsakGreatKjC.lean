/-
  yp: plain at JUMP and at JUMPI that jumps.
-/
import Derived.Test.YgcsakGreatKjB
namespace Go.Proofs.YgcsakGreat
set_option linter.unusedVariables false
set_option linter.unusedSimpArgs false
set_option maxRecDepth 100000
open Go.RowKit

section
variable {G : Nat → Prop} {bw gf : Nat} {cs fr : List Value} {d : WD} {f : FD} {r : List FD} {x : XD} {w : World} {B : Nat} {fl : FD}
set_option maxHeartbeats 16000000 in
theorem plain_86 (h : SR G bw gf cs fr d (f :: r) x w) (hsl : f.stk.length ≤ 64) (htk : takA 86 ≤ f.stk.length) (hpc : f.pc < P256 + 34) (hg : Good B d) (ha : ∀ v ∈ f.stk, v < P256) :
    Calls Sakg.prog 122 #[.pointer (some ⟨bw, 0, none⟩), .pointer (some ⟨gf, 60 * r.length, none⟩), .int .u8 (86 : Nat)] w (PlaK G bw gf fr B d f r x fl 86 0 w) := by
  have hp : 86 ≤ 255 := by omega
  have hgv : givA 86 = 0 := by decide
  obtain ⟨p, hpp⟩ : ∃ p, p = 86 := ⟨_, rfl⟩
  rw [← hpp] at htk hp hgv ⊢
  have hBB := big_ge
  have hPB := p256_big2
  have htk64 : takA p ≤ 64 := by omega
  have himm : immA p ≤ 32 := by unfold immA; split <;> omega
  have HAR := hide (arity_any p hp w)
  have HIM : ∀ wz, Hid (Calls Sakg.prog 216 #[.int .u8 p] wz fun e w' => e = .returned (.int .u8 (immA p)) ∧ wz = w') := fun wz => hide (imm_any p hp wz)
  have HGV := hide hgv
  rw [hgv] at HAR
  generalize htt : takA p = tk at htk htk64 HAR
  generalize hff : decide (famA p ≠ 0) = fv at HAR
  generalize hii : immA p = ik at himm HIM
  have HTT := hide htt
  have htk1 : 1 ≤ tk := by rw [← htt, hpp]; decide
  have t86 : ((p : Int) == 86) = true := by rw [hpp]; decide
  have HG := hide hg
  have HAA := hide ha
  have HII := hide hii
  obtain ⟨i0, hi0, hz0, hz1, hz2⟩ := info_parts infoNatK
  have HI0 := hide hi0
  have HZ0 := hide hz0
  have HZ1 := hide hz1
  have HZ2 := hide hz2
  have hfx := h.fx
  obtain ⟨o, ho⟩ : ∃ o, o = 60 * r.length := ⟨_, rfl⟩
  rw [← ho] at hfx ⊢
  have hth := hfx.ther
  have HTH := hide hth
  have HF := hide hfx
  have HSR := hide h
  have HO := hide ho
  clear hi0 hz0 hz1 hz2 h htt hii hff hfx ho hth ha hgv hg hpp
  go_enter Sakg.func122, Sakg.ntmps122
  go_upto_region 2 with (first
    | (go_at_call 202; refine (unhide HAR).mono ?_; rintro e w1 ⟨rfl, rfl⟩)
    | (at_make; refine wpList_make_rows rfl _ _ 192 rfl 54 Sakg.underlying192 i0 _ 1 24 (unhide HI0) (unhide HZ0) (unhide HZ1) (unhide HZ2) _ _ tk rfl rfl rfl rfl (by omega) (by omega) ?_; intro w2 zs hr2 hzl hb2 hs2))
  have HR2 := hide hr2
  have HZL := hide hzl
  have HB2 := hide hb2
  clear hr2 hzl hb2 hs2
  go_wp2_with fail
  go_loopg [24] tk (fun gk iv wr => ∃ (i : Nat) (cs : List Value), i + gk = tk ∧ iv = .int .i64 i ∧ RowT 54 wr w.heap.size cs ∧ cs.length = tk ∧ LaidK G w f.stk cs i ∧ Below w.heap.size w wr)
  case atStart => exact ⟨0, zs, by omega, rfl, unhide HR2, by have := unhide HZL; omega, fun j hj => by omega, unhide HB2⟩
  case round =>
    obtain ⟨i, ca, hi, rfl, hr, hcl, hlaid, hbe⟩ := hrel
    have HR := hide hr
    have HLAID := hide hlaid
    clear hr hlaid
    by_cases hit : i < tk
    · have HA := hide ((unhide HF).argAt hbe (by omega) i (by omega))
      go_wp2_with (go_at_call 118; refine (unhide HA).mono ?_; rintro e w3 ⟨⟨A, k, c, rfl, hs⟩, q3⟩; have b3 : Below wr.heap.size wr w3 := q3.below _; have hr3 := (unhide HR).kept b3; have hx3 : ∃ v, w3.cell? ⟨w.heap.size, i, none⟩ = some v := by { rw [hr3.cell, List.getElem?_eq_getElem (by omega)]; exact ⟨_, rfl⟩ }; obtain ⟨v3, hx3⟩ := hx3; have hf3 := hr3.froz i; have HR3 := hide hr3; have HS := hide hs; clear hr3 hs q3)
      have hset := (unhide HR3).set i (Value.slice A k c)
      have hb4 : Below w.heap.size w (w3.setCell ⟨w.heap.size, i, none⟩ (Value.slice A k c)) := (hbe.trans (b3.mono hbe.size)).setCell (p := ⟨w.heap.size, i, none⟩) (Nat.le_refl _) _
      go_roundg (tk - 1 - i)
      case measure => omega
      case rel => exact ⟨i + 1, _, by omega, rfl, hset, by rw [List.length_set]; exact hcl, (unhide HLAID).snoc (by omega) (unhide HS), hb4⟩
    · obtain rfl : i = tk := by omega
      obtain ⟨Ap, kp, cp, p1, p2⟩ := (unhide HF).kf.pc
      obtain ⟨As, ls, cS, s1, s2⟩ := (unhide HF).kf.stk
      have x3 : ∀ wz, Below w.heap.size w wz → wz.cell? ⟨gf, o + 3, none⟩ = some (.slice Ap kp cp) ∧ IsNat wz Ap kp cp f.pc := fun wz hz => ⟨((unhide HF).kept hz).cell p1, p2 wz (ChgS.of hz)⟩
      have x8 : ∀ wz, Below w.heap.size w wz → wz.cell? ⟨gf, o + 8, none⟩ = some (.slice As ls cS) := fun wz hz => ((unhide HF).kept hz).cell s1
      obtain ⟨rowsS, sr1, sr2⟩ := s2
      have hls : f.stk.length = ls := by rw [← sr2.len, sr1.now.len_eq]
      have hlc := sr1.now.le
      have hnilS := sr1.now.nil
      have SR1 := hide sr1
      have SR2 := hide sr2
      have X3 := hide x3
      have X8 := hide x8
      have dR : Below wr.heap.size wr wr.drew := Quiet.below ⟨1, rfl⟩ _
      have hX : ∀ wz, Below wr.heap.size wr wz → Below w.heap.size w wz := fun wz hz => hbe.trans (hz.mono hbe.size)
      have HX := hide hX
      have hwk : IntKind.u64.wrap (ik : Int) = (ik : Int) := by rw [IntKind.wrap_u64]; omega
      obtain ⟨j1, hj1⟩ : ∃ j1, j1 = 1 + ik := ⟨_, rfl⟩
      have ej : (1 : Int) + (ik : Int) = (j1 : Int) := by omega
      have ejw : IntKind.u64.wrap ((1 : Int) + (ik : Int)) = (j1 : Int) := by rw [IntKind.wrap_u64]; omega
      have ejw2 : IntKind.u64.wrap (j1 : Int) = (j1 : Int) := by rw [IntKind.wrap_u64]; omega
      have hj1l : j1 ≤ 40 := by omega
      have HJ1 := hide hj1
      clear p1 p2 s1 x3 x8 hX hj1 sr1 sr2
      go_upto_region 7 with fail
      refine wp_region_noPanic ?_
      refine wp_region_held_drew (S := fun w' => Below wr.heap.size wr w') (by kernel_rfl) (dR) (fun hHeld => ?_)
      refine held_takeD 0 (.pointer (some ⟨gf, o, none⟩)) (some 34) (by rfl) (by rfl) (by kernel_rfl) (by kernel_rfl) (by kernel_rfl) (fun _ _ _ h => h) (.inl ⟨by rfl, fun _ _ => by rfl⟩) (hHeld) ?_
      simp only [Act.put, List.setIfInBounds_toArray, List.set_cons_zero, List.set_cons_succ]
      refine held_takeD 1 (.pointer (some ⟨gf, o, none⟩)) (some 35) (by rfl) (by rfl) (by kernel_rfl) (by kernel_rfl) (by kernel_rfl) (fun _ _ _ h => h) (.inl ⟨by rfl, fun _ _ => by go_simp⟩) (hHeld) ?_
      simp only [Act.put, List.setIfInBounds_toArray, List.set_cons_zero, List.set_cons_succ]
      refine held_takeD 2 (.pointer (some ⟨gf, o + 3, none⟩)) (some 36) (by rfl) (by rfl) (by kernel_rfl) (by kernel_rfl) (by kernel_rfl) (fun _ _ _ h => h) (.inl ⟨by rfl, fun _ _ => by go_simp⟩) (hHeld) ?_
      simp only [Act.put, List.setIfInBounds_toArray, List.set_cons_zero, List.set_cons_succ]
      refine held_takeD 3 (.slice Ap kp cp) (some 37) (by rfl) (by rfl) (by kernel_rfl) (by kernel_rfl) (by kernel_rfl) (fun _ _ _ h => h) (.inl ⟨by rfl, fun wS hS => by have hc := (unhide X3 wS (unhide HX wS hS)).1; go_simp⟩) (hHeld) ?_
      simp only [Act.put, List.setIfInBounds_toArray, List.set_cons_zero, List.set_cons_succ]
      refine held_takeD 4 (.int .u8 p) (some 38) (by rfl) (by rfl) (by kernel_rfl) (by kernel_rfl) (by kernel_rfl) (fun _ _ _ h => h) (.inl ⟨by rfl, fun _ _ => by rfl⟩) (hHeld) ?_
      simp only [Act.put, List.setIfInBounds_toArray, List.set_cons_zero, List.set_cons_succ]
      refine held_one 5 (by kernel_rfl) (by rfl) (fun K' hK' => ?_)
      go_simp
      refine (unhide (HIM wr.drew)).mono ?_
      rintro e w4 ⟨rfl, rfl⟩
      refine hK'.out _ _ (dR) ?_
      clear hK' K'
      refine held_takeD 6 (.int .u64 ik) (some 40) (by rfl) (by rfl) (by kernel_rfl) (by kernel_rfl) (by kernel_rfl) (fun _ _ _ h => h) (.inl ⟨by rfl, fun _ _ => by go_simp⟩) (dR) ?_
      simp only [Act.put, List.setIfInBounds_toArray, List.set_cons_zero, List.set_cons_succ]
      refine held_takeD 7 (.int .u64 j1) (some 41) (by rfl) (by rfl) (by kernel_rfl) (by kernel_rfl) (by kernel_rfl) (fun _ _ _ h => h) (.inl ⟨by rfl, fun _ _ => by go_simp⟩) (dR) ?_
      simp only [Act.put, List.setIfInBounds_toArray, List.set_cons_zero, List.set_cons_succ]
      refine held_one 8 (by kernel_rfl) (by rfl) (fun K' hK' => ?_)
      go_simp
      refine (num_any j1 wr.drew (by omega)).mono ?_
      rintro e w5 ⟨A5, k5, c5, rfl, n5, N5, b5⟩
      refine hK'.out _ _ (dR.trans (b5.mono dR.size)) ?_
      clear hK' K'
      have d5 := dR.trans (b5.mono dR.size)
      refine held_one 9 (by kernel_rfl) (by rfl) (fun K' hK' => ?_)
      go_simp
      refine ((unhide X3 w5 (unhide HX w5 d5)).2.add n5 (by omega) (by omega)).mono ?_
      rintro e w6 ⟨A6, k6, c6, rfl, n6, N6, b6⟩
      refine hK'.out _ _ (d5.trans (b6.mono d5.size)) ?_
      clear hK' K'
      have d6 := d5.trans (b6.mono d5.size)
      refine held_takeD 10 (.slice A6 k6 c6) (some 11) (by rfl) (by rfl) (by kernel_rfl) (by kernel_rfl) (by kernel_rfl) (fun _ _ _ h => h) (.inl ⟨by rfl, fun _ _ => by rfl⟩) (d6) ?_
      simp only [Act.put, List.setIfInBounds_toArray, List.set_cons_zero, List.set_cons_succ]
      refine wpAnyH_done (by kernel_rfl) ?_ _
      refine NoPanic.normal ?_
      have e6 : f.pc + j1 = f.pc + 1 + ik := by rw [unhide HJ1]; omega
      rw [e6] at n6
      have NN6 := hide n6
      have N6w : New w A6 := N6.later (Nat.le_trans hbe.size d5.size)
      have HR6 := hide ((unhide HR).kept d6)
      have dw6 : Below w.heap.size w w6 := unhide HX w6 d6
      have y8 := unhide X8 w6 dw6
      obtain ⟨q, hq⟩ : ∃ q, q = ls - i := ⟨_, rfl⟩
      have eq1 : (ls : Int) - (i : Int) = (q : Int) := by omega
      have hql : q ≤ ls := by omega
      have HQ := hide hq
      clear n6 n5 e6 ej ejw ejw2 hwk hq
      go_upto_region 8 with fail
      go_cut [12] (fun s12 wc => s12 = .slice As q q ∧ Below w6.heap.size w6 wc)
      case first =>
        cases As with
        | none =>
          obtain ⟨h1, h2⟩ := hnilS rfl
          exfalso; omega
        | some ad =>
          clear hnilS
          go_quiet (fail)
          go_wp2_with fail
          go_meet
          case rel => exact ⟨rfl, Quiet.below ⟨_, rfl⟩ _⟩
      case rest =>
        obtain ⟨w7, hw7⟩ : ∃ w7, w7 = wc := ⟨_, rfl⟩
        subst hw7
        obtain ⟨rfl, b7⟩ := hcut
        have dw7 : Below w.heap.size w w7 := dw6.trans (b7.mono dw6.size)
        have hstk := (unhide HLAID).stk ((unhide HR6).kept b7) hcl (by omega) (fun hh => by have := unhide HTH _ hh; omega) (ChgS.of dw7)
        obtain ⟨Aj, kj, cj, hj1, hj2⟩ := (unhide HLAID) 0 (by omega)
        have hR7 := (unhide HR6).kept b7
        have x0 : w7.cell? ⟨w.heap.size, 0, none⟩ = some (.slice Aj kj cj) := by rw [hR7.cell]; exact hj1
        have hlt0 := argN_lt (unhide HAA) 0
        generalize hm0 : argN f.stk 0 = m0 at hj2 hlt0
        have HN := hide (norm_knat Aj kj cj _ w7 (hj2 w7 (ChgS.of dw7)) (by omega))
        clear hj1 hj2 hR7 hstk y8 hnilS
        go_upto_region 25 with (go_at_call 90; refine (unhide HN).mono ?_; rintro e w9 ⟨A8, k8, c8, rfl, n8, N8, b9⟩)
        have dw8 := dw7
        have dw9 : Below w.heap.size w w9 := dw8.trans (b9.mono dw8.size)
        have p9 : KNat G w9 A8 k8 c8 m0 := KNat.new n8 (N8.later dw8.size) (unhide HTH)
        have hS9 : SStk G w9 As q q (f.stk.take q) := (SStk.cut ⟨rowsS, unhide SR1, unhide SR2⟩ q hql).go (ChgS.of dw9)
        have hsr9 := (unhide HSR).kept dw9
        have hc9 : ChgS G w w9 := ChgS.of dw9
        have ht9 : Tm w w9 := Tm.of dw9
        have hg9 : Gr B d d 0 := Gr.refl (unhide HG).snd _
        have hwd := Wider.refl G w
        have hvl : ∀ u ∈ f.stk.take q, u < P256 := fun u hu => unhide HAA u (List.mem_of_mem_take hu)
        have hvn : (f.stk.take q).length + takA p = f.stk.length + givA p := by
          rw [List.length_take, unhide HTT, unhide HGV]
          have := unhide HQ
          omega
        have hpc9 : m0 ≤ f.pc + 33 ∨ m0 < P256 := .inr hlt0
        obtain ⟨fr', hfl9, hsrN, hmvN⟩ := hsr9.next hS9 p9
        rw [← unhide HO] at hsrN hmvN
        have r9 := hsr9.row
        have hlen9 : o + 60 ≤ fr.length := (unhide HF).len
        obtain ⟨v98, hx9⟩ : ∃ v, w9.cell? ⟨gf, o + 8, none⟩ = some v := by
          rw [r9.cell, List.getElem?_eq_getElem (by omega)]
          exact ⟨_, rfl⟩
        have hf9 := r9.froz (o + 8)
        obtain ⟨w10, hw10⟩ : ∃ x, x = w9.setCell ⟨gf, o + 8, none⟩ (.slice As q q) := ⟨_, rfl⟩
        have r10 := r9.set (o + 8) (.slice As q q)
        rw [← hw10] at r10 hsrN hmvN
        obtain ⟨v93, hx10⟩ : ∃ v, w10.cell? ⟨gf, o + 3, none⟩ = some v := by
          rw [r10.cell, List.getElem?_eq_getElem (by rw [List.length_set]; omega)]
          exact ⟨_, rfl⟩
        have hf10 := r10.froz (o + 3)
        have HSN := hide hsrN
        have HMN := hide hmvN
        have HW10 := hide hw10
        have HFL9 := hide hfl9
        have HC9 := hide hc9
        have HT9 := hide ht9
        have HVL := hide hvl
        have HVN := hide hvn
        have HPC := hide hpc9
        have HG9 := hide hg9
        have HWD := hide hwd
        clear r9 r10 hsrN hmvN hw10 hsr9 p9 hS9 hfl9 hvl hvn hpc9 hg9 hc9 ht9 hwd n8 hm0 hlt0
        go_upto_region 26 with fail
        rw [← unhide HW10]
        go_wp2
        refine bodyPost_done rfl rfl ?_
        exact ⟨rfl, _, _, unhide HWD, (unhide HC9).then (unhide HMN).chg (unhide HWD).new, (unhide HT9).trans (unhide HMN).tm, .inl ⟨fr', _, _, _, unhide HFL9, unhide HSN, unhide HG9, unhide HVL, unhide HVN, unhide HPC⟩⟩
set_option maxHeartbeats 16000000 in
theorem plain_87 (h : SR G bw gf cs fr d (f :: r) x w) (hsl : f.stk.length ≤ 64) (htk : takA 87 ≤ f.stk.length) (hpc : f.pc < P256 + 34) (hg : Good B d) (ha : ∀ v ∈ f.stk, v < P256) (hj : argN f.stk 1 ≠ 0) :
    Calls Sakg.prog 122 #[.pointer (some ⟨bw, 0, none⟩), .pointer (some ⟨gf, 60 * r.length, none⟩), .int .u8 (87 : Nat)] w (PlaK G bw gf fr B d f r x fl 87 0 w) := by
  have hp : 87 ≤ 255 := by omega
  have hgv : givA 87 = 0 := by decide
  obtain ⟨p, hpp⟩ : ∃ p, p = 87 := ⟨_, rfl⟩
  rw [← hpp] at htk hp hgv ⊢
  have hBB := big_ge
  have hPB := p256_big2
  have htk64 : takA p ≤ 64 := by omega
  have himm : immA p ≤ 32 := by unfold immA; split <;> omega
  have HAR := hide (arity_any p hp w)
  have HIM : ∀ wz, Hid (Calls Sakg.prog 216 #[.int .u8 p] wz fun e w' => e = .returned (.int .u8 (immA p)) ∧ wz = w') := fun wz => hide (imm_any p hp wz)
  have HGV := hide hgv
  rw [hgv] at HAR
  generalize htt : takA p = tk at htk htk64 HAR
  generalize hff : decide (famA p ≠ 0) = fv at HAR
  generalize hii : immA p = ik at himm HIM
  have HTT := hide htt
  have htk1 : 2 ≤ tk := by rw [← htt, hpp]; decide
  have t86 : ((p : Int) == 86) = false := by rw [hpp]; decide
  have t87 : ((p : Int) == 87) = true := by rw [hpp]; decide
  have HG := hide hg
  have HAA := hide ha
  have HII := hide hii
  obtain ⟨i0, hi0, hz0, hz1, hz2⟩ := info_parts infoNatK
  have HI0 := hide hi0
  have HZ0 := hide hz0
  have HZ1 := hide hz1
  have HZ2 := hide hz2
  have hfx := h.fx
  obtain ⟨o, ho⟩ : ∃ o, o = 60 * r.length := ⟨_, rfl⟩
  rw [← ho] at hfx ⊢
  have hth := hfx.ther
  have HTH := hide hth
  have HF := hide hfx
  have HSR := hide h
  have HO := hide ho
  clear hi0 hz0 hz1 hz2 h htt hii hff hfx ho hth ha hgv hg hpp
  go_enter Sakg.func122, Sakg.ntmps122
  go_upto_region 2 with (first
    | (go_at_call 202; refine (unhide HAR).mono ?_; rintro e w1 ⟨rfl, rfl⟩)
    | (at_make; refine wpList_make_rows rfl _ _ 192 rfl 54 Sakg.underlying192 i0 _ 1 24 (unhide HI0) (unhide HZ0) (unhide HZ1) (unhide HZ2) _ _ tk rfl rfl rfl rfl (by omega) (by omega) ?_; intro w2 zs hr2 hzl hb2 hs2))
  have HR2 := hide hr2
  have HZL := hide hzl
  have HB2 := hide hb2
  clear hr2 hzl hb2 hs2
  go_wp2_with fail
  go_loopg [24] tk (fun gk iv wr => ∃ (i : Nat) (cs : List Value), i + gk = tk ∧ iv = .int .i64 i ∧ RowT 54 wr w.heap.size cs ∧ cs.length = tk ∧ LaidK G w f.stk cs i ∧ Below w.heap.size w wr)
  case atStart => exact ⟨0, zs, by omega, rfl, unhide HR2, by have := unhide HZL; omega, fun j hj => by omega, unhide HB2⟩
  case round =>
    obtain ⟨i, ca, hi, rfl, hr, hcl, hlaid, hbe⟩ := hrel
    have HR := hide hr
    have HLAID := hide hlaid
    clear hr hlaid
    by_cases hit : i < tk
    · have HA := hide ((unhide HF).argAt hbe (by omega) i (by omega))
      go_wp2_with (go_at_call 118; refine (unhide HA).mono ?_; rintro e w3 ⟨⟨A, k, c, rfl, hs⟩, q3⟩; have b3 : Below wr.heap.size wr w3 := q3.below _; have hr3 := (unhide HR).kept b3; have hx3 : ∃ v, w3.cell? ⟨w.heap.size, i, none⟩ = some v := by { rw [hr3.cell, List.getElem?_eq_getElem (by omega)]; exact ⟨_, rfl⟩ }; obtain ⟨v3, hx3⟩ := hx3; have hf3 := hr3.froz i; have HR3 := hide hr3; have HS := hide hs; clear hr3 hs q3)
      have hset := (unhide HR3).set i (Value.slice A k c)
      have hb4 : Below w.heap.size w (w3.setCell ⟨w.heap.size, i, none⟩ (Value.slice A k c)) := (hbe.trans (b3.mono hbe.size)).setCell (p := ⟨w.heap.size, i, none⟩) (Nat.le_refl _) _
      go_roundg (tk - 1 - i)
      case measure => omega
      case rel => exact ⟨i + 1, _, by omega, rfl, hset, by rw [List.length_set]; exact hcl, (unhide HLAID).snoc (by omega) (unhide HS), hb4⟩
    · obtain rfl : i = tk := by omega
      obtain ⟨Ap, kp, cp, p1, p2⟩ := (unhide HF).kf.pc
      obtain ⟨As, ls, cS, s1, s2⟩ := (unhide HF).kf.stk
      have x3 : ∀ wz, Below w.heap.size w wz → wz.cell? ⟨gf, o + 3, none⟩ = some (.slice Ap kp cp) ∧ IsNat wz Ap kp cp f.pc := fun wz hz => ⟨((unhide HF).kept hz).cell p1, p2 wz (ChgS.of hz)⟩
      have x8 : ∀ wz, Below w.heap.size w wz → wz.cell? ⟨gf, o + 8, none⟩ = some (.slice As ls cS) := fun wz hz => ((unhide HF).kept hz).cell s1
      obtain ⟨rowsS, sr1, sr2⟩ := s2
      have hls : f.stk.length = ls := by rw [← sr2.len, sr1.now.len_eq]
      have hlc := sr1.now.le
      have hnilS := sr1.now.nil
      have SR1 := hide sr1
      have SR2 := hide sr2
      have X3 := hide x3
      have X8 := hide x8
      have dR : Below wr.heap.size wr wr.drew := Quiet.below ⟨1, rfl⟩ _
      have hX : ∀ wz, Below wr.heap.size wr wz → Below w.heap.size w wz := fun wz hz => hbe.trans (hz.mono hbe.size)
      have HX := hide hX
      have hwk : IntKind.u64.wrap (ik : Int) = (ik : Int) := by rw [IntKind.wrap_u64]; omega
      obtain ⟨j1, hj1⟩ : ∃ j1, j1 = 1 + ik := ⟨_, rfl⟩
      have ej : (1 : Int) + (ik : Int) = (j1 : Int) := by omega
      have ejw : IntKind.u64.wrap ((1 : Int) + (ik : Int)) = (j1 : Int) := by rw [IntKind.wrap_u64]; omega
      have ejw2 : IntKind.u64.wrap (j1 : Int) = (j1 : Int) := by rw [IntKind.wrap_u64]; omega
      have hj1l : j1 ≤ 40 := by omega
      have HJ1 := hide hj1
      clear p1 p2 s1 x3 x8 hX hj1 sr1 sr2
      go_upto_region 7 with fail
      refine wp_region_noPanic ?_
      refine wp_region_held_drew (S := fun w' => Below wr.heap.size wr w') (by kernel_rfl) (dR) (fun hHeld => ?_)
      refine held_takeD 0 (.pointer (some ⟨gf, o, none⟩)) (some 34) (by rfl) (by rfl) (by kernel_rfl) (by kernel_rfl) (by kernel_rfl) (fun _ _ _ h => h) (.inl ⟨by rfl, fun _ _ => by rfl⟩) (hHeld) ?_
      simp only [Act.put, List.setIfInBounds_toArray, List.set_cons_zero, List.set_cons_succ]
      refine held_takeD 1 (.pointer (some ⟨gf, o, none⟩)) (some 35) (by rfl) (by rfl) (by kernel_rfl) (by kernel_rfl) (by kernel_rfl) (fun _ _ _ h => h) (.inl ⟨by rfl, fun _ _ => by go_simp⟩) (hHeld) ?_
      simp only [Act.put, List.setIfInBounds_toArray, List.set_cons_zero, List.set_cons_succ]
      refine held_takeD 2 (.pointer (some ⟨gf, o + 3, none⟩)) (some 36) (by rfl) (by rfl) (by kernel_rfl) (by kernel_rfl) (by kernel_rfl) (fun _ _ _ h => h) (.inl ⟨by rfl, fun _ _ => by go_simp⟩) (hHeld) ?_
      simp only [Act.put, List.setIfInBounds_toArray, List.set_cons_zero, List.set_cons_succ]
      refine held_takeD 3 (.slice Ap kp cp) (some 37) (by rfl) (by rfl) (by kernel_rfl) (by kernel_rfl) (by kernel_rfl) (fun _ _ _ h => h) (.inl ⟨by rfl, fun wS hS => by have hc := (unhide X3 wS (unhide HX wS hS)).1; go_simp⟩) (hHeld) ?_
      simp only [Act.put, List.setIfInBounds_toArray, List.set_cons_zero, List.set_cons_succ]
      refine held_takeD 4 (.int .u8 p) (some 38) (by rfl) (by rfl) (by kernel_rfl) (by kernel_rfl) (by kernel_rfl) (fun _ _ _ h => h) (.inl ⟨by rfl, fun _ _ => by rfl⟩) (hHeld) ?_
      simp only [Act.put, List.setIfInBounds_toArray, List.set_cons_zero, List.set_cons_succ]
      refine held_one 5 (by kernel_rfl) (by rfl) (fun K' hK' => ?_)
      go_simp
      refine (unhide (HIM wr.drew)).mono ?_
      rintro e w4 ⟨rfl, rfl⟩
      refine hK'.out _ _ (dR) ?_
      clear hK' K'
      refine held_takeD 6 (.int .u64 ik) (some 40) (by rfl) (by rfl) (by kernel_rfl) (by kernel_rfl) (by kernel_rfl) (fun _ _ _ h => h) (.inl ⟨by rfl, fun _ _ => by go_simp⟩) (dR) ?_
      simp only [Act.put, List.setIfInBounds_toArray, List.set_cons_zero, List.set_cons_succ]
      refine held_takeD 7 (.int .u64 j1) (some 41) (by rfl) (by rfl) (by kernel_rfl) (by kernel_rfl) (by kernel_rfl) (fun _ _ _ h => h) (.inl ⟨by rfl, fun _ _ => by go_simp⟩) (dR) ?_
      simp only [Act.put, List.setIfInBounds_toArray, List.set_cons_zero, List.set_cons_succ]
      refine held_one 8 (by kernel_rfl) (by rfl) (fun K' hK' => ?_)
      go_simp
      refine (num_any j1 wr.drew (by omega)).mono ?_
      rintro e w5 ⟨A5, k5, c5, rfl, n5, N5, b5⟩
      refine hK'.out _ _ (dR.trans (b5.mono dR.size)) ?_
      clear hK' K'
      have d5 := dR.trans (b5.mono dR.size)
      refine held_one 9 (by kernel_rfl) (by rfl) (fun K' hK' => ?_)
      go_simp
      refine ((unhide X3 w5 (unhide HX w5 d5)).2.add n5 (by omega) (by omega)).mono ?_
      rintro e w6 ⟨A6, k6, c6, rfl, n6, N6, b6⟩
      refine hK'.out _ _ (d5.trans (b6.mono d5.size)) ?_
      clear hK' K'
      have d6 := d5.trans (b6.mono d5.size)
      refine held_takeD 10 (.slice A6 k6 c6) (some 11) (by rfl) (by rfl) (by kernel_rfl) (by kernel_rfl) (by kernel_rfl) (fun _ _ _ h => h) (.inl ⟨by rfl, fun _ _ => by rfl⟩) (d6) ?_
      simp only [Act.put, List.setIfInBounds_toArray, List.set_cons_zero, List.set_cons_succ]
      refine wpAnyH_done (by kernel_rfl) ?_ _
      refine NoPanic.normal ?_
      have e6 : f.pc + j1 = f.pc + 1 + ik := by rw [unhide HJ1]; omega
      rw [e6] at n6
      have NN6 := hide n6
      have N6w : New w A6 := N6.later (Nat.le_trans hbe.size d5.size)
      have HR6 := hide ((unhide HR).kept d6)
      have dw6 : Below w.heap.size w w6 := unhide HX w6 d6
      have y8 := unhide X8 w6 dw6
      obtain ⟨q, hq⟩ : ∃ q, q = ls - i := ⟨_, rfl⟩
      have eq1 : (ls : Int) - (i : Int) = (q : Int) := by omega
      have hql : q ≤ ls := by omega
      have HQ := hide hq
      clear n6 n5 e6 ej ejw ejw2 hwk hq
      go_upto_region 8 with fail
      go_cut [12] (fun s12 wc => s12 = .slice As q q ∧ Below w6.heap.size w6 wc)
      case first =>
        cases As with
        | none =>
          obtain ⟨h1, h2⟩ := hnilS rfl
          exfalso; omega
        | some ad =>
          clear hnilS
          go_quiet (fail)
          go_wp2_with fail
          go_meet
          case rel => exact ⟨rfl, Quiet.below ⟨_, rfl⟩ _⟩
      case rest =>
        obtain ⟨w7, hw7⟩ : ∃ w7, w7 = wc := ⟨_, rfl⟩
        subst hw7
        obtain ⟨rfl, b7⟩ := hcut
        have dw7 : Below w.heap.size w w7 := dw6.trans (b7.mono dw6.size)
        have hstk := (unhide HLAID).stk ((unhide HR6).kept b7) hcl (by omega) (fun hh => by have := unhide HTH _ hh; omega) (ChgS.of dw7)
        obtain ⟨Aj, kj, cj, hj1, hj2⟩ := (unhide HLAID) 0 (by omega)
        have hR7 := (unhide HR6).kept b7
        have x0 : w7.cell? ⟨w.heap.size, 0, none⟩ = some (.slice Aj kj cj) := by rw [hR7.cell]; exact hj1
        have hlt0 := argN_lt (unhide HAA) 0
        generalize hm0 : argN f.stk 0 = m0 at hj2 hlt0
        obtain ⟨Az, kz, cz, hz1, hz2⟩ := (unhide HLAID) 1 (by omega)
        have x1 : w7.cell? ⟨w.heap.size, 1, none⟩ = some (.slice Az kz cz) := by rw [hR7.cell]; exact hz1
        have hlt1 := argN_lt (unhide HAA) 1
        have HZ := hide (isZero_any Az kz cz _ w7 (hz2 w7 (ChgS.of dw7)) (by omega))
        rw [decide_eq_false hj] at HZ
        have HN : ∀ wz, Quiet w7 wz → Hid (Calls Sakg.prog 90 #[.slice Aj kj cj] wz (MakesNat wz m0)) := fun wz hq => hide (norm_knat Aj kj cj _ wz (hj2 wz (ChgS.of (dw7.trans ((hq.below _).mono dw7.size)))) (by omega))
        have HR7 := hide hR7
        clear hj1 hj2 hz1 hz2 hR7 hstk y8 hnilS hlt1 hj
        go_upto_region 13 with (go_at_call 130; refine (unhide HZ).mono ?_; rintro e w8 ⟨rfl, q8⟩; have b8 : Below w7.heap.size w7 w8 := q8.below _; have HN8 := HN w8 q8; have x8 : w8.cell? ⟨w.heap.size, 0, none⟩ = some (.slice Aj kj cj) := by { rw [((unhide HR7).kept b8).cell, ← (unhide HR7).cell]; exact x0 }; clear q8 x1)
        clear x0
        go_upto_region 25 with (go_at_call 90; refine (unhide HN8).mono ?_; rintro e w9 ⟨A8, k8, c8, rfl, n8, N8, b9⟩)
        have dw8 : Below w.heap.size w w8 := dw7.trans (b8.mono dw7.size)
        have dw9 : Below w.heap.size w w9 := dw8.trans (b9.mono dw8.size)
        have p9 : KNat G w9 A8 k8 c8 m0 := KNat.new n8 (N8.later dw8.size) (unhide HTH)
        have hS9 : SStk G w9 As q q (f.stk.take q) := (SStk.cut ⟨rowsS, unhide SR1, unhide SR2⟩ q hql).go (ChgS.of dw9)
        have hsr9 := (unhide HSR).kept dw9
        have hc9 : ChgS G w w9 := ChgS.of dw9
        have ht9 : Tm w w9 := Tm.of dw9
        have hg9 : Gr B d d 0 := Gr.refl (unhide HG).snd _
        have hwd := Wider.refl G w
        have hvl : ∀ u ∈ f.stk.take q, u < P256 := fun u hu => unhide HAA u (List.mem_of_mem_take hu)
        have hvn : (f.stk.take q).length + takA p = f.stk.length + givA p := by
          rw [List.length_take, unhide HTT, unhide HGV]
          have := unhide HQ
          omega
        have hpc9 : m0 ≤ f.pc + 33 ∨ m0 < P256 := .inr hlt0
        obtain ⟨fr', hfl9, hsrN, hmvN⟩ := hsr9.next hS9 p9
        rw [← unhide HO] at hsrN hmvN
        have r9 := hsr9.row
        have hlen9 : o + 60 ≤ fr.length := (unhide HF).len
        obtain ⟨v98, hx9⟩ : ∃ v, w9.cell? ⟨gf, o + 8, none⟩ = some v := by
          rw [r9.cell, List.getElem?_eq_getElem (by omega)]
          exact ⟨_, rfl⟩
        have hf9 := r9.froz (o + 8)
        obtain ⟨w10, hw10⟩ : ∃ x, x = w9.setCell ⟨gf, o + 8, none⟩ (.slice As q q) := ⟨_, rfl⟩
        have r10 := r9.set (o + 8) (.slice As q q)
        rw [← hw10] at r10 hsrN hmvN
        obtain ⟨v93, hx10⟩ : ∃ v, w10.cell? ⟨gf, o + 3, none⟩ = some v := by
          rw [r10.cell, List.getElem?_eq_getElem (by rw [List.length_set]; omega)]
          exact ⟨_, rfl⟩
        have hf10 := r10.froz (o + 3)
        have HSN := hide hsrN
        have HMN := hide hmvN
        have HW10 := hide hw10
        have HFL9 := hide hfl9
        have HC9 := hide hc9
        have HT9 := hide ht9
        have HVL := hide hvl
        have HVN := hide hvn
        have HPC := hide hpc9
        have HG9 := hide hg9
        have HWD := hide hwd
        clear r9 r10 hsrN hmvN hw10 hsr9 p9 hS9 hfl9 hvl hvn hpc9 hg9 hc9 ht9 hwd n8 hm0 hlt0
        go_upto_region 26 with fail
        rw [← unhide HW10]
        go_wp2
        refine bodyPost_done rfl rfl ?_
        exact ⟨rfl, _, _, unhide HWD, (unhide HC9).then (unhide HMN).chg (unhide HWD).new, (unhide HT9).trans (unhide HMN).tm, .inl ⟨fr', _, _, _, unhide HFL9, unhide HSN, unhide HG9, unhide HVL, unhide HVN, unhide HPC⟩⟩
end

end Go.Proofs.YgcsakGreat
