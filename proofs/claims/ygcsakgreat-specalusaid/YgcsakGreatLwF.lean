/-
  law: Apply and applied on the stage.
-/
import Derived.Test.YgcsakGreatLwE
import Derived.Test.YgcsakGreatBegW
import Derived.Test.YgcsakGreatRunA
import Derived.Test.YgcsakGreatFinB
namespace Go.Proofs.YgcsakGreat
set_option linter.unusedVariables false
set_option linter.unusedSimpArgs false
set_option maxRecDepth 100000
open Go.RowKit

theorem NewOK.kept {bw : Nat} {cs re : List Value} {w w' : World} {l : Nat} {ds : List OAcct} (h : NewOK bw cs re w l ds) (hb : Below w.heap.size w w') : NewOK bw cs re w' l ds := by
  obtain ⟨ao, c, h1, h2, h3, h4⟩ := h
  exact ⟨ao, c, h1.kept hb, h2, h3, h4.go (Chg.of hb)⟩
theorem TotOK.kept {bw : Nat} {cs : List Value} {w w' : World} {l : Nat} (h : TotOK bw cs w l) (hb : Below w.heap.size w w') : TotOK bw cs w' l := by
  obtain ⟨A, k, c, n, h1, h2, h3⟩ := h
  exact ⟨A, k, c, n, h1, h2.go (Chg.of hb), h3⟩
theorem Laid1.play {bw gf cF : Nat} {cs' fr : List Value} {gas : Nat} {code : List Int} {w : World} (h : Laid1 bw gf cF cs' fr gas code w) : Play bw gf cF cs' fr 0 gas [] [] code w :=
  ⟨h.chain, h.clen, h.frames, h.phase, h.ne, ⟨h.row, h.len, h.native, h.static, ⟨none, 0, 0, h.pc, StabS.nat (IsNat.nil _) (OffS.nil _ _)⟩, h.gasN, ⟨none, 0, 0, h.stk, ⟨[], StabS.rws (Rws.ofNil _ 1) (OffS.nil _ _), trivial⟩⟩, ⟨none, 0, 0, h.mem, StabS.src (Src.ofNil _) (OffS.nil _ _)⟩, h.codeN⟩, h.kind, h.one⟩

section
variable {o : Nat} {a b c : List Int} {bw gf cF : Nat} {cs : List Value} {w0 w : World} (ho : aluO o) (ha : IsW a) (hb : IsW b) (hc : IsW c)
include ho ha hb hc
theorem at_any (j : Nat) (hj : j ≤ 8) (h : At o a b c bw gf cF cs w0 j w) : StepTo bw w (fun w' => (j + 1 ≤ 8 ∧ At o a b c bw gf cF cs w0 (j + 1) w') ∨ (j = 8 ∧ AtEnd o a b c bw gf cs w0 w')) := by
  have hj' : j = 0 ∨ j = 1 ∨ j = 2 ∨ j = 3 ∨ j = 4 ∨ j = 5 ∨ j = 6 ∨ j = 7 ∨ j = 8 := by omega
  rcases hj' with rfl | rfl | rfl | rfl | rfl | rfl | rfl | rfl | rfl
  · exact (at0 ho ha hb hc h).mono fun e w' ⟨h1, h2⟩ => ⟨h1, .inl ⟨by omega, h2⟩⟩
  · exact (at1 ho ha hb hc h).mono fun e w' ⟨h1, h2⟩ => ⟨h1, .inl ⟨by omega, h2⟩⟩
  · exact (at2 ho ha hb hc h).mono fun e w' ⟨h1, h2⟩ => ⟨h1, .inl ⟨by omega, h2⟩⟩
  · exact (at3 ho ha hb hc h).mono fun e w' ⟨h1, h2⟩ => ⟨h1, .inl ⟨by omega, h2⟩⟩
  · exact (at4 ho ha hb hc h).mono fun e w' ⟨h1, h2⟩ => ⟨h1, .inl ⟨by omega, h2⟩⟩
  · exact (at5 ho ha hb hc h).mono fun e w' ⟨h1, h2⟩ => ⟨h1, .inl ⟨by omega, h2⟩⟩
  · exact (at6 ho ha hb hc h).mono fun e w' ⟨h1, h2⟩ => ⟨h1, .inl ⟨by omega, h2⟩⟩
  · exact (at7 ho ha hb hc h).mono fun e w' ⟨h1, h2⟩ => ⟨h1, .inl ⟨by omega, h2⟩⟩
  · exact (at8 ho ha hb hc h).mono fun e w' ⟨h1, h2⟩ => ⟨h1, .inr ⟨rfl, h2⟩⟩
end

/-- Finish behind the program's run -/
theorem finish_run {o : Nat} {a b c : List Int} {bw gf : Nat} {cs cs' : List Value} {cb fee frm : List Int} {w0 w : World} (hb : IsW b) (hcb : IsAddr cb) (hfee : IsW fee) (hfrm : IsAddr frm) (hh : Held bw gf cs cs' cb fee frm 200000 0 w0) (he : AtEnd o a b c bw gf cs' w0 w) :
    Calls Sakg.prog 50 #[.pointer (some ⟨bw, 0, none⟩)] w (FinPost (21022 + gasA o (beN b)) (be32 (aluN o (beN a) (beN b) (beN c))) bw w) := by
  obtain ⟨csa, wa, A14, k14, c14, A17, k17, c17, hbs, hsa, hga, hca, h14, n14, h17, n17, At, kt, ct, nt, h18, n18, hnt⟩ := hh.ha
  obtain ⟨g, csE, A4, k4, c4, r1, r2, r3, r4, r5, r6, r7, r8, r9, r10, r11⟩ := he
  have hg := gasA_le o (beN b) hb.lt
  have cE : Chg bw wa w := ⟨r11.os.trans hca.os, r11.tape.trans hca.tape, r11.output.trans hca.output, Nat.le_trans hca.size r11.size, fun k hk hn => (r11.block k (Nat.lt_of_lt_of_le hk hca.size) (fun g => by rcases g with g | g; (exact hn g); (omega))).trans (hca.block k hk hn)⟩
  have hbE : BS bw csE cb fee 12 100 2000 w := hbs.turn r1 r2 (fun i hi => by rw [r3 i (by omega) (by omega) (by omega) (by omega) (by omega), hsa i (by omega)]) cE
  have hF := finish_ok hbE (by omega) r6 r7 (by rw [r3 13 (by omega) (by omega) (by omega) (by omega) (by omega)]; exact hh.app) _ 32 32 _ r5 r10 (by rw [be32_len]; omega)
    A14 k14 c14 200000 (by rw [r3 14 (by omega) (by omega) (by omega) (by omega) (by omega)]; exact h14) (n14.go cE) (by omega) A4 k4 c4 _ r8 r9 (by omega)
    A17 k17 c17 (by rw [r3 17 (by omega) (by omega) (by omega) (by omega) (by omega)]; exact h17) (n17.go cE) At kt ct nt (by rw [r3 18 (by omega) (by omega) (by omega) (by omega) (by omega)]; exact h18) (n18.go cE) hnt
    (by rw [range_eq2 (cs := cs') 19 20 (fun i h1 h2 => r3 i (by omega) (by omega) (by omega) (by omega) (by omega))]; exact hh.org) hfrm hcb hfee ?_ (zeros 20)
    (by rw [range_eq2 (cs := cs') 39 20 (fun i h1 h2 => r3 i (by omega) (by omega) (by omega) (by omega) (by omega))]; exact hh.mad) ⟨zeros_len 20, zeros_byt 20⟩
  · rw [show 200000 - (178978 - gasA o (beN b)) = 21022 + gasA o (beN b) by omega] at hF
    exact hF
  · intro i v hv
    by_cases e9 : i = 9
    · subst e9; rw [r4] at hv; obtain rfl := Option.some.inj hv; rfl
    by_cases e10 : i = 10
    · subst e10; rw [r5] at hv; obtain rfl := Option.some.inj hv; rfl
    by_cases e11 : i = 11
    · subst e11; rw [r6] at hv; obtain rfl := Option.some.inj hv; rfl
    by_cases e12 : i = 12
    · subst e12; rw [r7] at hv; obtain rfl := Option.some.inj hv; rfl
    by_cases e16 : i = 16
    · subst e16; rw [r8] at hv; obtain rfl := Option.some.inj hv; rfl
    rw [r3 i e9 e10 e11 e12 e16] at hv
    exact hh.one i v e9 hv

set_option maxHeartbeats 16000000 in
theorem apply_stage (o : Nat) (a b c : List Int) (ho : aluO o) (ha : IsW a) (hb : IsW b) (hc : IsW c) (bw : Nat) (cs : List Value) (w : World) (hn : NewOK bw cs stageEnv w 2 (stageDs (aluProg o a b c))) (ht : TotOK bw cs w 2) :
    Calls Sakg.prog 13 #[.pointer (some ⟨bw, 0, none⟩), .agg txA1.toArray] w (FinPost (21022 + gasA o (beN b)) (be32 (aluN o (beN a) (beN b) (beN c))) bw w) := by
  obtain ⟨W, hW⟩ : ∃ W, W = (w.alloc (.cells txA1.toArray 33)).alloc (.cells (rcptRow 0 nilS 0 (zeros 20)).toArray 48) := ⟨_, rfl⟩
  have hb0 : Below w.heap.size w W := by rw [hW]; exact ((Below.refl _ _).alloc (Nat.le_refl _) _).alloc (by simp) _
  have rt : RowT 33 W w.heap.size txA1 := by rw [hW]; exact (RowT.new _ _ _).alloc _
  have rr : RowT 48 W (w.heap.size + 1) (rcptRow 0 nilS 0 (zeros 20)) := by
    rw [hW]
    have := RowT.new 48 (w.alloc (.cells txA1.toArray 33)) (rcptRow 0 nilS 0 (zeros 20))
    rwa [World.size_alloc] at this
  have hbwl : bw < w.heap.size := by obtain ⟨_, _, h1, _⟩ := hn; exact h1.lt
  have hpl : (aluProg o a b c).length = 106 := aluProg_len o a b c ha.len hb.len hc.len
  have HB := hide (begin_call (hn.kept hb0) (ht.kept hb0) (by omega) (stage_world _ (by omega)) (stage_small _) stageEnv_c txA1_c rfl rfl (aluProg o a b c) (by rw [show dA1.dst = lowAddr 1 from rfl, stage_look1]; rfl) (stage_slots _) ne_A1 (stage_verd _) rfl value_A1 native_A1)
  rw [intr_A1, price_A1, show dA1.gas - 21000 = 179000 from rfl, show dA1.gas = 200000 from rfl, show dA1.frm = lowAddr 240 from rfl] at HB
  have HRT := hide rt.rangeAll
  have HRR := hide rr
  have hz25 : (rcptRow 0 nilS 0 (zeros 20)).length = 25 := rfl
  have hszT : (Sakg.prog.info? 33).map (·.size) = some txA1.length := by rw [txA1_len]; exact sizeTx
  have huT := Sakg.underlying33
  clear rt rr hn ht
  go_enter Sakg.func13, Sakg.ntmps13
  go_upto_region 1 with ((with_reducible refine at_alloc 48 ?_); refine wpList_alloc_g (by rfl) 48 rfl (rcptRow 0 nilS 0 (zeros 20)) 25 infoRcpt hz25 ?_)
  rw [← hW]
  clear hW
  go_wp2_with ((with_reducible refine at_load 33 ?_); refine wpList_load_g (by rfl) 33 (.tmp 3) rfl w.heap.size 0 rfl txA1 _ (unhide HRT) huT rfl hszT ?_)
  refine (unhide HB).mono ?_
  rintro e w1 ⟨rfl, gf, cF, cs', fr, hl1, hh, hc1, hgf⟩
  have h0 : At o a b c bw gf cF cs' w1 0 w1 := ⟨fr, hl1.play, hl1.mem, Chg.refl _ _⟩
  have HH := hide hh
  have H0 := hide h0
  clear hl1 hh h0 HB
  go_wp2_with fail
  go_loopg [] 9 (fun gk wr => (∃ j, j + gk = 9 ∧ j ≤ 8 ∧ At o a b c bw gf cF cs' w1 j wr) ∨ (gk = 0 ∧ AtEnd o a b c bw gf cs' w1 wr))
  case atStart => exact .inl ⟨0, rfl, by omega, unhide H0⟩
  case round =>
    rcases hrel with ⟨j, hj, hj8, hat⟩ | ⟨hg0, hend⟩
    · have HS := hide (at_any ho ha hb hc j hj8 hat)
      clear hat
      go_wp2_with fail
      refine (unhide HS).mono ?_
      rintro e w2 ⟨rfl, hor⟩
      have HOR := hide hor
      clear hor
      go_wp2
      go_roundg (gk - 1)
      case measure => omega
      case rel =>
        rcases unhide HOR with ⟨h1, h2⟩ | ⟨h1, h2⟩
        · exact .inl ⟨j + 1, by omega, h1, h2⟩
        · exact .inr ⟨by omega, h2⟩
    · subst hg0
      have HE := hide hend
      have HSE : Hid (Calls Sakg.prog 49 #[.pointer (some ⟨bw, 0, none⟩)] wr fun e w' => e = .returned (.bool false) ∧ wr = w') := hide (by
        obtain ⟨g, csE, A4, k4, c4, r1, r2, r3, r4, r5, r6, -⟩ := hend
        exact step_ended r1 r6)
      have HF := hide (finish_run (o := o) (a := a) (c := c) hb (lowAddr_is 192 (by omega) (by omega)) zeroW_is addr240_is (unhide HH) hend)
      have cWr : Chg bw W wr := by
        obtain ⟨g, csE, A4, k4, c4, r1, r2, r3, r4, r5, r6, r7, r8, r9, r10, r11⟩ := hend
        exact ⟨r11.os.trans hc1.os, r11.tape.trans hc1.tape, r11.output.trans hc1.output, Nat.le_trans hc1.size r11.size, fun k hk hn => (r11.block k (Nat.lt_of_lt_of_le hk hc1.size) (fun g => by rcases g with g | g; (exact hn g); (omega))).trans (hc1.block k hk hn)⟩
      clear hend
      go_wp2_with fail
      refine (unhide HSE).mono ?_
      rintro e w2 ⟨rfl, rfl⟩
      have hWl := (unhide HRR).lt
      go_wp2_with (first
        | (go_at_call 50; refine (unhide HF).mono ?_; rintro e w3 ⟨Ar, kr, cr, mr, rfl, hmr, hsr, hnr, hc3⟩; have hR3 := (cWr.trans hc3).row (unhide HRR) (by omega); have HR3 := hide hR3; have HSR := hide hsr; have hlr := rcptRow_len 0 (.slice Ar kr cr) (21022 + gasA o (beN b)) mr hmr; have hszr : (Sakg.prog.info? 48).map (·.size) = some (rcptRow 0 (.slice Ar kr cr) (21022 + gasA o (beN b)) mr).length := by { rw [hlr]; exact sizeRcpt }; clear hR3 hsr)
        | ((with_reducible refine at_store 48 ?_); refine wpList_store_whole rfl 48 (.tmp 4) (.tmp 16) rfl (w.heap.size + 1) 48 _ (rcptRow 0 (.slice Ar kr cr) (21022 + gasA o (beN b)) mr) rfl rfl (unhide HR3) (by rw [hlr]; rfl) hszr (rcptRow_one _ _ _ _ _ _) ?_; intro w4 hr4 ho4))
      refine bodyPost_ret (results_cell_row rfl _ _ _ _ _ _ _ rfl hr4 Sakg.underlying48 rfl (by simpa using hszr)) rfl ?_
      have hs4 : Src w4 Ar kr cr (be32 (aluN o (beN a) (beN b) (beN c))) := StabS.src (G := (· = w.heap.size + 1)) (unhide HSR) (fun x hx h0 hg => by have h1 := hnr x hx; have h2 : x.block = w.heap.size + 1 := hg; have h3 := cWr.size; omega) w4 (ChgS.only ho4 rfl)
      have cw : Chg bw w wr := (Chg.of hb0).trans cWr
      exact ⟨Ar, kr, cr, mr, rfl, hmr, hs4, fun x hx => Nat.le_trans cw.size (hnr x hx), (cw.trans hc3).onlyNew ho4 (by omega)⟩

set_option maxHeartbeats 16000000 in
theorem applied_stage (o : Nat) (a b c : List Int) (ho : aluO o) (ha : IsW a) (hb : IsW b) (hc : IsW c) (A : Option Addr) (cA : Nat) (w : World) (h : OAcctsR w A 2 cA (stageDs (aluProg o a b c))) :
    Calls Sakg.prog 20 #[.slice A 2 cA, .agg txA1.toArray] w fun e w' => ∃ A k c' m, e = .returned (.agg (rcptRow 0 (.slice A k c') (21022 + gasA o (beN b)) m).toArray) ∧ m.length = 20 ∧ Src w' A k c' (be32 (aluN o (beN a) (beN b) (beN c))) ∧ Below w.heap.size w w' := by
  obtain ⟨W, hW⟩ : ∃ W, W = (w.alloc (.cells txA1.toArray 33)).alloc (.cells (rcptRow 0 nilS 0 (zeros 20)).toArray 48) := ⟨_, rfl⟩
  have hb0 : Below w.heap.size w W := by rw [hW]; exact ((Below.refl _ _).alloc (Nat.le_refl _) _).alloc (by simp) _
  have rt : RowT 33 W w.heap.size txA1 := by rw [hW]; exact (RowT.new _ _ _).alloc _
  have rr : RowT 48 W (w.heap.size + 1) (rcptRow 0 nilS 0 (zeros 20)) := by
    rw [hW]
    have := RowT.new 48 (w.alloc (.cells txA1.toArray 33)) (rcptRow 0 nilS 0 (zeros 20))
    rwa [World.size_alloc] at this
  have hpl : (aluProg o a b c).length = 106 := aluProg_len o a b c ha.len hb.len hc.len
  have hWl := rr.lt
  have hz25 : (rcptRow 0 nilS 0 (zeros 20)).length = 25 := rfl
  have hszT : (Sakg.prog.info? 33).map (·.size) = some txA1.length := by rw [txA1_len]; exact sizeTx
  have huT := Sakg.underlying33
  have dW : Below W.heap.size W W.drew := Quiet.below ⟨1, rfl⟩ _
  have hS : ∀ wz, Below W.heap.size W wz → wz.rangeAt w.heap.size 0 txA1 := fun wz hz => (rt.kept hz).rangeAll
  have hsT : ∀ wz wy bw, Below W.heap.size W wz → W.heap.size ≤ bw → Chg bw wz wy → wy.rangeAt w.heap.size 0 txA1 ∧ RowT 48 wy (w.heap.size + 1) (rcptRow 0 nilS 0 (zeros 20)) := fun wz wy bw hz hb hc => ⟨(hc.row (rt.kept hz) (by omega)).rangeAll, hc.row (rr.kept hz) (by omega)⟩
  have HST := hide hsT
  have HSS := hide hS
  have HSP := hide (specOf_stage A cA (aluProg o a b c) W.drew ((h.kept hb0).kept dW) (by omega))
  clear rt rr h hS hsT
  go_enter Sakg.func20, Sakg.ntmps20
  go_upto_region 1 with ((with_reducible refine at_alloc 48 ?_); refine wpList_alloc_g (by rfl) 48 rfl (rcptRow 0 nilS 0 (zeros 20)) 25 infoRcpt hz25 ?_)
  rw [← hW]
  clear hW
  refine wp_region_noPanic ?_
  refine wp_region_held_drew (S := fun w' => w'.rangeAt w.heap.size 0 txA1) (by kernel_rfl) (unhide HSS _ dW) (fun hHeld => ?_)
  refine held_takeD 0 (.slice A 2 cA) (some 5) (by rfl) (by rfl) (by kernel_rfl) (by kernel_rfl) (by kernel_rfl) (fun _ _ _ h => h) (.inl ⟨by rfl, fun _ _ => by rfl⟩) (hHeld) ?_
  simp only [Act.put, List.setIfInBounds_toArray, List.set_cons_zero, List.set_cons_succ]
  refine held_takeD 2 (.agg txA1.toArray) (some 7) (by rfl) (by rfl) (by kernel_rfl) (by kernel_rfl) (by kernel_rfl) (fun _ _ _ h => h) (yieldsIf_load_mid (by rfl) _ _ rfl _ _ rfl _ _ (fun wz hS => hS) huT rfl hszT) (hHeld) ?_
  simp only [Act.put, List.setIfInBounds_toArray, List.set_cons_zero, List.set_cons_succ]
  refine held_one 1 (by kernel_rfl) (by rfl) (fun K' hK' => ?_)
  go_simp
  refine (unhide HSP).mono ?_
  rintro e w1 ⟨bw, cs, rfl, hbw, hn1, ht1, b1⟩
  refine hK'.out _ _ (unhide HSS _ (dW.trans (b1.mono dW.size))) ?_
  clear hK' K'
  have d1 := dW.trans (b1.mono dW.size)
  have hbw' : W.heap.size ≤ bw := hbw
  have HAP := hide (apply_stage o a b c ho ha hb hc bw cs w1 hn1 ht1)
  clear hn1 ht1
  refine held_one 3 (by kernel_rfl) (by rfl) (fun K' hK' => ?_)
  go_simp
  refine (unhide HAP).mono ?_
  rintro e w2 ⟨Ar, kr, cr, mr, rfl, hmr, hsr, hnr, hc2⟩
  refine hK'.out _ _ ((unhide HST w1 w2 bw d1 hbw' hc2).1) ?_
  clear hK' K'
  have rr2 := (unhide HST w1 w2 bw d1 hbw' hc2).2
  have hlr := rcptRow_len 0 (.slice Ar kr cr) (21022 + gasA o (beN b)) mr hmr
  have hszr : (Sakg.prog.info? 48).map (·.size) = some (rcptRow 0 (.slice Ar kr cr) (21022 + gasA o (beN b)) mr).length := by rw [hlr]; exact sizeRcpt
  refine held_store 4 (by kernel_rfl) (by rfl) rfl (by rfl) 48 (.tmp 4) (.tmp 8) rfl (w.heap.size + 1) 0 48 _ (rcptRow 0 (.slice Ar kr cr) (21022 + gasA o (beN b)) mr) rfl rfl rr2 (by rw [hlr]; exact Nat.le_refl 25) hszr (rcptRow_one _ _ _ _ _ _) ?_
  intro w3 hr3 ho3
  rw [spl_all (rcptRow 0 nilS 0 (zeros 20)) _ (by rw [hlr]; rfl)] at hr3
  have dw2 : Below w.heap.size w w2 := (hb0.trans (d1.mono hb0.size)).trans (hc2.below w.heap.size (by have := hb0.size; omega) (by have := d1.size; have := hb0.size; omega))
  have hs3 : Src w3 Ar kr cr (be32 (aluN o (beN a) (beN b) (beN c))) := StabS.src (G := (· = w.heap.size + 1)) hsr (fun x hx h0 hg => by have h1 := hnr x hx; have h2 : x.block = w.heap.size + 1 := hg; have h3 := d1.size; omega) w3 (ChgS.only ho3 rfl)
  refine ⟨?_, ?_⟩
  · exact range_below (unhide HST w1 w2 bw d1 hbw' hc2).1 (ho3.below (w.heap.size + 1) (Nat.le_refl _)) (fun _ => by omega)
  have R3 := hide hr3
  have S3 := hide hs3
  clear hr3 hs3 rr2 hsr
  refine wpAnyH_done (by kernel_rfl) ?_ _
  refine NoPanic.normal ?_
  have hr3 := unhide R3
  go_wp2
  refine bodyPost_ret (results_cell_row rfl _ _ _ _ _ _ _ rfl hr3 Sakg.underlying48 rfl (by simpa using hszr)) rfl ?_
  exact ⟨Ar, kr, cr, mr, rfl, hmr, unhide S3, dw2.trans (ho3.below _ (by omega))⟩

end Go.Proofs.YgcsakGreat
