/-
  yp, exactly: enter.
-/
import Derived.Test.YgcsakGreatKnB
namespace Go.Proofs.YgcsakGreat
set_option linter.unusedVariables false
set_option linter.unusedSimpArgs false
set_option maxRecDepth 100000
open Go.RowKit

/-- a creation's account has its nonce -/
def EntD (cb : Bool) (d : WD) (sf : List Int) (d1 : WD) : Prop := (cb = false ∧ d1 = d) ∨ (cb = true ∧ ∃ ms, d1 = { d with accts := nonY d.accts sf 1, made := ms })
section
variable {G : Nat → Prop} {bw gf : Nat} {cs fr : List Value} {d : WD} {fs : List FD} {x : XD} {w : World} {B : Nat}
def EntX (G : Nat → Prop) (bw B : Nat) (d : WD) (f : FD) (fs : List FD) (x : XD) (w : World) (e : Ending) (w' : World) : Prop :=
  e = .returned (.tuple #[]) ∧ ∃ G' gf' cs' fr' d', Wider G G' w ∧ Mv G w w' ∧ Gr B d d' 10000 ∧ (∃ d1, EntD (createsB f.kind) d f.self d1 ∧ d' = { d1 with accts := moveY d1.accts f.caller f.self f.value }) ∧ SR G' bw gf' cs' fr' d' ({ f with saved := d } :: fs) { x with ret := [] } w'
set_option maxHeartbeats 32000000 in
theorem enter_x0 (h : SB G bw cs d x w) (hfb : FB G bw gf cs fr fs w) (hgf : gf < w.heap.size) (hg : Good B d) (hwt : wt d + 40000 ≤ 2250000000) (f : FD) (fv : List Value) (hfl : fv.length = 60) (hf : KF G (fun i => fv[i]?) f w) (hkd : f.kind ≤ 7) (hval : f.value < P256) (hn : fs.length ≤ 900) (hk3 : f.kind ≠ 3) (hk7 : f.kind ≠ 7) :
    Calls Sakg.prog 110 #[.pointer (some ⟨bw, 0, none⟩), .agg fv.toArray] w (EntX G bw B d f fs x w) := by
  have hBB := big_ge
  have hPB := p256_lt
  obtain ⟨W, hW⟩ : ∃ W, W = w.alloc (.cells fv.toArray 194) := ⟨_, rfl⟩
  have hb0 : Below w.heap.size w W := by rw [hW]; exact (Below.refl _ _).alloc (Nat.le_refl _) _
  have hr0 : RowT 194 W w.heap.size fv := by rw [hW]; exact RowT.new _ _ _
  have hbw := h.cw.lt
  obtain ⟨E, hEdef⟩ : ∃ E, E = Plus G w.heap.size := ⟨_, rfl⟩
  have hEG : ∀ i, E i → i < w.heap.size → G i := by rw [hEdef]; exact plus_new (Nat.le_refl _)
  have hGE : ∀ i, G i → E i := fun i hi => by rw [hEdef]; exact .inl hi
  have hEw : E w.heap.size := by rw [hEdef]; exact .inr rfl
  have hTE : Ther E W := by rw [hEdef]; exact (h.cw.ther.go hb0.size).plus hr0.lt
  have hsb := h.lift hb0 hEG hGE hTE
  have hfbE := hfb.lift hb0 hEG hGE
  have hfE := (hf.to hEG hGE).go (Mv.of hb0)
  have HCL := hide (hsb.cw.clone hg (hsb.logsOf hg))
  have hfvo : ∀ v ∈ fv, v.oneCell' = true := fun v hv => by
    obtain ⟨i, hi⟩ := List.mem_iff_getElem?.1 hv
    have hil : i < 60 := by
      rcases Nat.lt_or_ge i 60 with h' | h'
      · exact h'
      · rw [List.getElem?_eq_none (by omega)] at hi; cases hi
    exact hf.one i hil v hi
  have HR0 := hide hr0
  have HSB := hide hsb
  have HFB := hide hfbE
  have HG := hide hg
  have HF := hide hfE
  have HFO := hide hfvo
  have HEG := hide hEG
  have HGE := hide hGE
  have HEW := hide hEw
  have hfin : ∀ (G' : Nat → Prop) (wz : World), Wider E G' W → Wider G G' w := fun G' _ hh => ⟨fun i hi => hh.sub i (hGE i hi), fun i hi hl => hEG i (hh.new i hi (by have := hb0.size; omega)) hl⟩
  have HFIN := hide hfin
  clear hr0 h hfb hg hf hfvo hEdef hEG hGE hEw hTE hsb hfbE hfE hfin
  go_enter Sakg.func110, Sakg.ntmps110
  go_upto_region 1 with fail
  rw [← hW]
  clear hW
  go_upto_region 2 with (first
    | (go_at_call 196; refine (unhide HCL).mono ?_; rintro e w2 ⟨⟨rc, rfl, hrc, hkw⟩, b2⟩; have HRC := hide hrc; have HKW := hide hkw; have hrcl := hrc.1; have HSZ : Hid ((Sakg.prog.info? 101).map (·.size) = some rc.length) := hide (by rw [hrcl]; exact sizeWorld); have hle2 : 52 + rc.length ≤ fv.length := by { rw [hrcl, hfl]; omega }; have HR2 := hide ((unhide HR0).kept b2); clear hrc hkw)
    | ((with_reducible refine at_store 101 ?_); refine wpList_store_part rfl 101 (.tmp 8) (.tmp 7) rfl w.heap.size 52 194 fv rc rfl rfl (unhide HR2) hle2 (unhide HSZ) (unhide HRC).one ?_; intro w3 hr3 ho3))
  have mW2 : Mv E W w2 := Mv.of b2
  have m3 : Mv E W w3 := mW2.trans (Mv.frame (unhide HR2) (unhide HEW) (Chg.ofOnly ho3))
  have hne3 : bw ≠ w.heap.size := by omega
  have hc23 : Chg w.heap.size w2 w3 := Chg.ofOnly ho3
  have hsb3 : SB E bw cs d x w3 := by
    have h2 := (unhide HSB).kept b2
    have hm := Mv.frame (G := E) (unhide HR2) (unhide HEW) hc23
    exact ⟨h2.cw.turn (hc23.row h2.cw.row hne3) h2.cw.len (fun _ _ => rfl) hm.chg, h2.logsGo hm rfl rfl, h2.xs.go hm.chg, h2.phase⟩
  have hgfw : FB E bw gf cs fr fs w3 := by
    rcases (unhide HFB).kept b2 with h' | ⟨k1, k2, k3, k4, k5, k6⟩
    · exact .inl h'
    · exact .inr ⟨k1, hc23.row k2 (by omega), k3, k4, k5, k6.go (Mv.frame (G := E) (unhide HR2) (unhide HEW) hc23)⟩
  have hkw3 : KW E rc d w3 := (unhide HKW).go (Mv.frame (G := E) (unhide HR2) (unhide HEW) hc23).chg
  have hkf3 : KF E (fun i => (spl fv 52 rc)[i]?) { f with saved := d } w3 := ((unhide HF).go m3).setSaved (unhide HRC) hkw3 (fun i hi => spl_get hle2 i (.inl hi)) (fun i hi => spl_hi hle2 i (by omega))
  have hf1l : (spl fv 52 rc).length = 60 := by rw [spl_len _ _ _ hle2]; exact hfl
  have hf1o : ∀ v ∈ spl fv 52 rc, v.oneCell' = true := spl_one (unhide HFO) (unhide HRC).one
  generalize spl fv 52 rc = f1 at hr3 hkf3 hf1l hf1o
  have hslf := hkf3.selfA
  have hcal := hkf3.callerA
  simp only at hslf hcal
  have hszs := hslf.size
  have hszc := hcal.size
  have hu := Sakg.underlying26
  have hsR : ∀ wz, RowT 194 wz w.heap.size f1 → wz.rangeAt w.heap.size 12 (bv f.self) := fun wz hz => row_range hz (by rw [bv_len, hslf.len]) (fun i hi => hkf3.self i hi)
  have hcR : ∀ wz, RowT 194 wz w.heap.size f1 → wz.rangeAt w.heap.size 32 (bv f.caller) := fun wz hz => row_range hz (by rw [bv_len, hcal.len]) (fun i hi => hkf3.caller i hi)
  obtain ⟨Av, kv, cv, v1, v2⟩ := hkf3.value
  simp only at v2
  have e0 : w3.cell? ⟨w.heap.size, 0, none⟩ = some (.int .u8 f.kind) := by rw [hr3.cell]; exact hkf3.kind
  have f10 : f1[0]? = some (.int .u8 f.kind) := hkf3.kind
  have hcb := hide (creates_any f.kind w3 (by omega))
  generalize hcbd : createsB f.kind = cb at hcb
  have HCBD := hide hcbd
  obtain ⟨kd, hkd'⟩ : ∃ kd, kd = f.kind := ⟨_, rfl⟩
  rw [← hkd'] at e0 f10 hcb hkd
  have HSR := hide hsR
  have HCR := hide hcR
  have HV1 := hide v1
  have HV2 := hide v2
  have HKF := hide hkf3
  have HS3 := hide hsb3
  have HB3 := hide hgfw
  have HR3 := hide hr3
  have F10 := hide f10
  have e3 : Below w3.heap.size w3 w3.drew := Quiet.below ⟨1, rfl⟩ _
  have hbw3 : bw < w3.heap.size := hsb3.cw.lt
  have hbox3 : w.heap.size < w3.heap.size := hr3.lt
  obtain ⟨sf, hsf⟩ : ∃ sf, sf = f.self := ⟨_, rfl⟩
  obtain ⟨cl, hcl⟩ : ∃ cl, cl = f.caller := ⟨_, rfl⟩
  rw [← hsf] at hslf hszs HSR
  have HSFD := hide hsf
  clear hsf
  rw [← hcl] at hcal hszc HCR
  have HCLD := hide hcl
  have HK3 := hide (show kd ≠ 3 by rw [hkd']; exact hk3)
  have HK7 := hide (show kd ≠ 7 by rw [hkd']; exact hk7)
  clear hsR hcR v1 v2 hkf3 hsb3 hgfw hr3 f10 ho3 hc23 hkw3 HR0 HSB HFB HF HKW HRC HSZ HR2 HCL HFO hcl hkd' hcbd
  go_upto_if 11 with (go_at_call 197; refine (unhide hcb).mono ?_; rintro e w4 ⟨rfl, rfl⟩)
  go_cut [] (fun wc => ∃ (cs5 : List Value) (d5 : WD), SB E bw cs5 d5 x wc ∧ FB E bw gf cs5 fr fs wc ∧ Gr B d d5 5000 ∧ EntD cb d sf d5 ∧ RowT 194 wc w.heap.size f1 ∧ Mv E w3 wc)
  case first =>
    as_aux_lemma =>
    cases cb with
    | false =>
      go_wp2_with fail
      go_meet
      case rel => exact ⟨cs, d, unhide HS3, unhide HB3, Gr.refl (unhide HG).snd _, .inl ⟨rfl, rfl⟩, unhide HR3, Mv.refl _ _⟩
    | true =>
      go_upto_region 3 with fail
      refine wp_region_noPanic ?_
      refine wp_region_held_drew (S := fun w' => RowT 194 w' w.heap.size f1) (by kernel_rfl) ((unhide HR3).kept e3) (fun hHeld => ?_)
      refine held_takeD 0 (.pointer (some ⟨bw, 0, none⟩)) (some 12) (by rfl) (by rfl) (by kernel_rfl) (by kernel_rfl) (by kernel_rfl) (fun _ _ _ h => h) (.inl ⟨by rfl, fun _ _ => by rfl⟩) (hHeld) ?_
      simp only [Act.put, List.setIfInBounds_toArray, List.set_cons_zero, List.set_cons_succ]
      refine held_takeD 1 (.pointer (some ⟨bw, 0, none⟩)) (some 13) (by rfl) (by rfl) (by kernel_rfl) (by kernel_rfl) (by kernel_rfl) (fun _ _ _ h => h) (.inl ⟨by rfl, fun _ _ => by go_simp⟩) (hHeld) ?_
      simp only [Act.put, List.setIfInBounds_toArray, List.set_cons_zero, List.set_cons_succ]
      refine held_takeD 2 (.pointer (some ⟨bw, 0, none⟩)) (some 14) (by rfl) (by rfl) (by kernel_rfl) (by kernel_rfl) (by kernel_rfl) (fun _ _ _ h => h) (.inl ⟨by rfl, fun _ _ => by go_simp⟩) (hHeld) ?_
      simp only [Act.put, List.setIfInBounds_toArray, List.set_cons_zero, List.set_cons_succ]
      refine held_takeD 3 (.pointer (some ⟨w.heap.size, 12, none⟩)) (some 15) (by rfl) (by rfl) (by kernel_rfl) (by kernel_rfl) (by kernel_rfl) (fun _ _ _ h => h) (.inl ⟨by rfl, fun _ _ => by go_simp⟩) (hHeld) ?_
      simp only [Act.put, List.setIfInBounds_toArray, List.set_cons_zero, List.set_cons_succ]
      refine held_takeD 4 (.agg (bv sf).toArray) (some 16) (by rfl) (by rfl) (by kernel_rfl) (by kernel_rfl) (by kernel_rfl) (fun _ _ _ h => h) (yieldsIf_load_mid (by rfl) _ _ rfl _ _ rfl _ _ (fun wz hS => unhide HSR wz hS) hu rfl hszs) (hHeld) ?_
      simp only [Act.put, List.setIfInBounds_toArray, List.set_cons_zero, List.set_cons_succ]
      refine held_one 5 (by kernel_rfl) (by rfl) (fun K' hK' => ?_)
      go_simp
      refine (num_any 1 w3.drew (by omega)).mono ?_
      rintro e w5 ⟨A5, k5, c5, rfl, n5, N5, b5⟩
      refine hK'.out _ _ ((unhide HR3).kept (e3.trans (b5.mono e3.size))) ?_
      clear hK' K'
      have d5 : Below w3.heap.size w3 w5 := e3.trans (b5.mono e3.size)
      have hSN := ((unhide HS3).kept d5).cw.setNonce (unhide HG) sf hslf A5 k5 c5 1 (KNat.new n5 (N5.later e3.size) (unhide HS3).cw.ther) (by omega)
      have HSN := hide hSN
      clear hSN n5 N5
      refine held_one 6 (by kernel_rfl) (by rfl) (fun K' hK' => ?_)
      go_simp
      refine (unhide HSN).mono ?_
      rintro e w6 ⟨rfl, hw6⟩
      obtain ⟨cs6, hsb6, hmv6, hs86, hch6⟩ := ((unhide HS3).kept d5).world hw6
      have hr6 := hch6.row ((unhide HR3).kept d5) (show w.heap.size ≠ bw by omega)
      have hfb6 : FB E bw gf cs6 fr fs w6 := ((unhide HB3).kept d5).chain (hs86 9 (by omega)) hmv6 hch6
      refine hK'.out _ _ hr6 ?_
      clear hK' K'
      refine wpAnyH_done (by kernel_rfl) ?_ _
      refine NoPanic.normal ?_
      have hgr6 : Gr B d { d with accts := nonY d.accts sf 1 } 2500 := Gr.nonce (unhide HG).snd hslf (by omega) (by omega)
      have hg6 : Good B { d with accts := nonY d.accts sf 1 } := hgr6.good (K := 2250000000) (by omega) (by omega)
      obtain ⟨aM, lM, cM, M1, M2⟩ := hsb6.cw.kw.made
      have hlM : lM ≤ 1000000 := by have h1 := M2.now.len; have h2 := hg6.nd; omega
      have e6 : Below w6.heap.size w6 w6.drew := Quiet.below ⟨1, rfl⟩ _
      have HWA := hide ((M2.go (ChgS.of e6)).with (hsb6.kept e6).cw.ther sf hslf hlM)
      have y6 : ∀ wz, Below w6.heap.size w6 wz → wz.cell? ⟨bw, 6, none⟩ = some (.slice aM lM cM) := fun wz hz => (hsb6.cw.kept hz).cell M1
      have Y6 := hide y6
      have HS6 := hide hsb6
      have HR6 := hide hr6
      have HB6 := hide hfb6
      have HM2 := hide M2
      have HGR6 := hide hgr6
      have m6 : Mv E w3 w6 := (Mv.of d5).trans hmv6
      clear y6 M1 M2 hsb6 hr6 hfb6 hgr6 hw6 hs86 hch6
      go_upto_region 4 with fail
      refine wp_region_noPanic ?_
      refine wp_region_held_drew (S := fun w' => RowT 194 w' w.heap.size f1) (by kernel_rfl) ((unhide HR6).kept e6) (fun hHeld => ?_)
      refine held_takeD 0 (.pointer (some ⟨bw, 0, none⟩)) (some 19) (by rfl) (by rfl) (by kernel_rfl) (by kernel_rfl) (by kernel_rfl) (fun _ _ _ h => h) (.inl ⟨by rfl, fun _ _ => by rfl⟩) (hHeld) ?_
      simp only [Act.put, List.setIfInBounds_toArray, List.set_cons_zero, List.set_cons_succ]
      refine held_takeD 1 (.pointer (some ⟨bw, 0, none⟩)) (some 20) (by rfl) (by rfl) (by kernel_rfl) (by kernel_rfl) (by kernel_rfl) (fun _ _ _ h => h) (.inl ⟨by rfl, fun _ _ => by rfl⟩) (hHeld) ?_
      simp only [Act.put, List.setIfInBounds_toArray, List.set_cons_zero, List.set_cons_succ]
      refine held_takeD 2 (.pointer (some ⟨bw, 0, none⟩)) (some 21) (by rfl) (by rfl) (by kernel_rfl) (by kernel_rfl) (by kernel_rfl) (fun _ _ _ h => h) (.inl ⟨by rfl, fun _ _ => by go_simp⟩) (hHeld) ?_
      simp only [Act.put, List.setIfInBounds_toArray, List.set_cons_zero, List.set_cons_succ]
      refine held_takeD 3 (.pointer (some ⟨bw, 0, none⟩)) (some 22) (by rfl) (by rfl) (by kernel_rfl) (by kernel_rfl) (by kernel_rfl) (fun _ _ _ h => h) (.inl ⟨by rfl, fun _ _ => by go_simp⟩) (hHeld) ?_
      simp only [Act.put, List.setIfInBounds_toArray, List.set_cons_zero, List.set_cons_succ]
      refine held_takeD 4 (.pointer (some ⟨bw, 6, none⟩)) (some 23) (by rfl) (by rfl) (by kernel_rfl) (by kernel_rfl) (by kernel_rfl) (fun _ _ _ h => h) (.inl ⟨by rfl, fun _ _ => by go_simp⟩) (hHeld) ?_
      simp only [Act.put, List.setIfInBounds_toArray, List.set_cons_zero, List.set_cons_succ]
      refine held_takeD 6 (.pointer (some ⟨w.heap.size, 12, none⟩)) (some 25) (by rfl) (by rfl) (by kernel_rfl) (by kernel_rfl) (by kernel_rfl) (fun _ _ _ h => h) (.inl ⟨by rfl, fun _ _ => by go_simp⟩) (hHeld) ?_
      simp only [Act.put, List.setIfInBounds_toArray, List.set_cons_zero, List.set_cons_succ]
      refine held_takeD 7 (.agg (bv sf).toArray) (some 26) (by rfl) (by rfl) (by kernel_rfl) (by kernel_rfl) (by kernel_rfl) (fun _ _ _ h => h) (yieldsIf_load_mid (by rfl) _ _ rfl _ _ rfl _ _ (fun wz hS => unhide HSR wz hS) hu rfl hszs) (hHeld) ?_
      simp only [Act.put, List.setIfInBounds_toArray, List.set_cons_zero, List.set_cons_succ]
      have hcu := unhide Y6 w6.drew e6
      refine held_one 5 (by kernel_rfl) (by rfl) (fun K' hK' => ?_)
      go_simp
      refine hK'.out _ _ ((unhide HR6).kept e6) ?_
      clear hK' K' hcu
      refine held_one 8 (by kernel_rfl) (by rfl) (fun K' hK' => ?_)
      go_simp
      refine (unhide HWA).mono ?_
      rintro e w7 ⟨A7, k7, c7, rfl, ⟨als, hal, hkl, -⟩, b7⟩
      have d7 : Below w6.heap.size w6 w7 := e6.trans (b7.mono e6.size)
      have f7 := (unhide HR6).kept d7
      refine hK'.out _ _ f7 ?_
      clear hK' K'
      refine held_takeD 9 (.pointer (some ⟨bw, 0, none⟩)) (some 28) (by rfl) (by rfl) (by kernel_rfl) (by kernel_rfl) (by kernel_rfl) (fun _ _ _ h => h) (.inl ⟨by rfl, fun _ _ => by go_simp⟩) (f7) ?_
      simp only [Act.put, List.setIfInBounds_toArray, List.set_cons_zero, List.set_cons_succ]
      refine held_takeD 10 (.pointer (some ⟨bw, 0, none⟩)) (some 29) (by rfl) (by rfl) (by kernel_rfl) (by kernel_rfl) (by kernel_rfl) (fun _ _ _ h => h) (.inl ⟨by rfl, fun _ _ => by go_simp⟩) (f7) ?_
      simp only [Act.put, List.setIfInBounds_toArray, List.set_cons_zero, List.set_cons_succ]
      refine held_takeD 11 (.pointer (some ⟨bw, 6, none⟩)) (some 30) (by rfl) (by rfl) (by kernel_rfl) (by kernel_rfl) (by kernel_rfl) (fun _ _ _ h => h) (.inl ⟨by rfl, fun _ _ => by go_simp⟩) (f7) ?_
      simp only [Act.put, List.setIfInBounds_toArray, List.set_cons_zero, List.set_cons_succ]
      have hcx := unhide Y6 w7 d7
      have hfz := ((unhide HS6).cw.kept d7).row.froz 6
      refine held_one 12 (by kernel_rfl) (by rfl) (fun K' hK' => ?_)
      go_simp
      obtain ⟨w8, hw8⟩ : ∃ y, y = w7.setCell ⟨bw, 6, none⟩ (.slice A7 k7 c7) := ⟨_, rfl⟩
      rw [← hw8]
      have ho8 : Only bw w7 w8 := by rw [hw8]; exact (Only.refl _ _).setCell _ _
      have hr8 : RowT 107 w8 bw (cs6.set 6 (.slice A7 k7 c7)) := by rw [hw8]; exact ((unhide HS6).cw.kept d7).row.set 6 _
      have hWP := ((unhide HS6).cw.kept d7).put6 hr8 (hal.go (ChgS.only ho8 (unhide HS6).cw.g)) (Chg.ofOnly ho8)
      obtain ⟨cs8, hsb8, hmv8, hs88, hch8⟩ := ((unhide HS6).kept d7).world hWP
      have hgr8 : Gr B { d with accts := nonY d.accts sf 1 } { d with accts := nonY d.accts sf 1, made := als } 2500 := Gr.made (unhide HGR6).snd (by have h1 := hal.now.len; have h2 := (unhide HM2).now.len; omega)
      have hfr8 := hch8.row f7 (show w.heap.size ≠ bw by omega)
      have hfb8 : FB E bw gf cs8 fr fs w8 := ((unhide HB6).kept d7).chain (hs88 9 (by omega)) hmv8 hch8
      refine hK'.out _ _ hfr8 ?_
      clear hK' K'
      refine wpAnyH_done (by kernel_rfl) ?_ _
      refine NoPanic.normal ?_
      have HS8 := hide hsb8
      have HR8 := hide hfr8
      have HB8 := hide hfb8
      have m8 : Mv E w3 w8 := m6.trans ((Mv.of d7).trans hmv8)
      have HGR8 := hide ((unhide HGR6).trans hgr8)
      clear hsb8 hWP hr8 hw8 hch8 f7 hcx hfz hfr8 hfb8 hgr8
      go_wp2_with fail
      go_meet
      case rel => exact ⟨cs8, _, unhide HS8, unhide HB8, unhide HGR8, .inr ⟨rfl, als, rfl⟩, unhide HR8, m8⟩
  case rest =>
  as_aux_lemma =>
  obtain ⟨w5, hw5⟩ : ∃ w5, w5 = wc := ⟨_, rfl⟩
  subst hw5
  obtain ⟨cs5, d5, hsb5, hfb5, hgr5, hlv5, hr5, m5⟩ := hcut
  have HLV5 := hide hlv5
  clear hlv5
  have hg5 : Good B d5 := hgr5.good (K := 2250000000) (by omega) (by omega)
  have e05 : w5.cell? ⟨w.heap.size, 0, none⟩ = some (.int .u8 kd) := by rw [hr5.cell]; exact unhide F10
  have hbw5 : bw < w5.heap.size := hsb5.cw.lt
  have HS5 := hide hsb5
  have HB5 := hide hfb5
  have HGR5 := hide hgr5
  have HR5 := hide hr5
  clear hsb5 hfb5 hgr5 hr5 e0
  go_upto_region 5 with fail
  go_cut [38] (fun s38 wc => s38 = .bool true ∧ wc = w5)
  case first =>
    have hk3' := unhide HK3
    have hk7' := unhide HK7
    have t3 : ((kd : Int) != 3) = true := by rw [bne_iff_ne]; omega
    have t7 : ((kd : Int) != 7) = true := by rw [bne_iff_ne]; omega
    clear hk3' hk7'
    go_wp2_with fail
    go_meet
    case rel => exact ⟨rfl, rfl⟩
  case rest =>
  obtain ⟨rfl, hwe⟩ := hcut
  subst hwe
  obtain ⟨w5, hw5⟩ : ∃ w5, w5 = wc := ⟨_, rfl⟩
  subst hw5
  have e5 : Below w5.heap.size w5 w5.drew := Quiet.below ⟨1, rfl⟩ _
  clear e05
  go_upto_if 38 with fail
  go_cut [] (fun wc => ∃ (cs6 : List Value) (d6 : WD), SB E bw cs6 d6 x wc ∧ FB E bw gf cs6 fr fs wc ∧ Gr B d5 d6 5000 ∧ d6 = { d5 with accts := moveY d5.accts cl sf f.value } ∧ RowT 194 wc w.heap.size f1 ∧ Mv E w5 wc)
  case first =>
    as_aux_lemma =>
    by_cases hdum : True
    case neg => exact absurd trivial hdum
    case pos =>
      clear hdum
      have HMV := hide (((unhide HS5).kept e5).cw.move hg5 cl sf hcal hslf Av kv cv f.value (((unhide HV2).kp m5.chg).kp (ChgS.of e5)) (by omega))
      go_upto_region 6 with fail
      refine wp_region_noPanic ?_
      refine wp_region_held_drew (S := fun w' => RowT 194 w' w.heap.size f1) (by kernel_rfl) ((unhide HR5).kept e5) (fun hHeld => ?_)
      refine held_takeD 0 (.pointer (some ⟨bw, 0, none⟩)) (some 39) (by rfl) (by rfl) (by kernel_rfl) (by kernel_rfl) (by kernel_rfl) (fun _ _ _ h => h) (.inl ⟨by rfl, fun _ _ => by rfl⟩) (hHeld) ?_
      simp only [Act.put, List.setIfInBounds_toArray, List.set_cons_zero, List.set_cons_succ]
      refine held_takeD 1 (.pointer (some ⟨bw, 0, none⟩)) (some 40) (by rfl) (by rfl) (by kernel_rfl) (by kernel_rfl) (by kernel_rfl) (fun _ _ _ h => h) (.inl ⟨by rfl, fun _ _ => by go_simp⟩) (hHeld) ?_
      simp only [Act.put, List.setIfInBounds_toArray, List.set_cons_zero, List.set_cons_succ]
      refine held_takeD 2 (.pointer (some ⟨bw, 0, none⟩)) (some 41) (by rfl) (by rfl) (by kernel_rfl) (by kernel_rfl) (by kernel_rfl) (fun _ _ _ h => h) (.inl ⟨by rfl, fun _ _ => by go_simp⟩) (hHeld) ?_
      simp only [Act.put, List.setIfInBounds_toArray, List.set_cons_zero, List.set_cons_succ]
      refine held_takeD 3 (.pointer (some ⟨w.heap.size, 32, none⟩)) (some 42) (by rfl) (by rfl) (by kernel_rfl) (by kernel_rfl) (by kernel_rfl) (fun _ _ _ h => h) (.inl ⟨by rfl, fun _ _ => by go_simp⟩) (hHeld) ?_
      simp only [Act.put, List.setIfInBounds_toArray, List.set_cons_zero, List.set_cons_succ]
      refine held_takeD 4 (.agg (bv cl).toArray) (some 43) (by rfl) (by rfl) (by kernel_rfl) (by kernel_rfl) (by kernel_rfl) (fun _ _ _ h => h) (yieldsIf_load_mid (by rfl) _ _ rfl _ _ rfl _ _ (fun wz hS => unhide HCR wz hS) hu rfl hszc) (hHeld) ?_
      simp only [Act.put, List.setIfInBounds_toArray, List.set_cons_zero, List.set_cons_succ]
      refine held_takeD 5 (.pointer (some ⟨w.heap.size, 12, none⟩)) (some 44) (by rfl) (by rfl) (by kernel_rfl) (by kernel_rfl) (by kernel_rfl) (fun _ _ _ h => h) (.inl ⟨by rfl, fun _ _ => by go_simp⟩) (hHeld) ?_
      simp only [Act.put, List.setIfInBounds_toArray, List.set_cons_zero, List.set_cons_succ]
      refine held_takeD 6 (.agg (bv sf).toArray) (some 45) (by rfl) (by rfl) (by kernel_rfl) (by kernel_rfl) (by kernel_rfl) (fun _ _ _ h => h) (yieldsIf_load_mid (by rfl) _ _ rfl _ _ rfl _ _ (fun wz hS => unhide HSR wz hS) hu rfl hszs) (hHeld) ?_
      simp only [Act.put, List.setIfInBounds_toArray, List.set_cons_zero, List.set_cons_succ]
      refine held_takeD 7 (.pointer (some ⟨w.heap.size, 5, none⟩)) (some 46) (by rfl) (by rfl) (by kernel_rfl) (by kernel_rfl) (by kernel_rfl) (fun _ _ _ h => h) (.inl ⟨by rfl, fun _ _ => by go_simp⟩) (hHeld) ?_
      simp only [Act.put, List.setIfInBounds_toArray, List.set_cons_zero, List.set_cons_succ]
      refine held_takeD 8 (.slice Av kv cv) (some 47) (by rfl) (by rfl) (by kernel_rfl) (by kernel_rfl) (by kernel_rfl) (fun _ _ _ h => h) (.inl ⟨by rfl, fun wS hS => by have hc : wS.cell? ⟨w.heap.size, 5, none⟩ = some (.slice Av kv cv) := by { rw [hS.cell]; exact unhide HV1 }; go_simp⟩) (hHeld) ?_
      simp only [Act.put, List.setIfInBounds_toArray, List.set_cons_zero, List.set_cons_succ]
      refine held_one 9 (by kernel_rfl) (by rfl) (fun K' hK' => ?_)
      go_simp
      refine (unhide HMV).mono ?_
      rintro e w6 ⟨rfl, hw6⟩
      obtain ⟨cs6, hsb6, hmv6, hs86, hch6⟩ := ((unhide HS5).kept e5).world hw6
      have hr6 := hch6.row ((unhide HR5).kept e5) (show w.heap.size ≠ bw by omega)
      have hfb6 : FB E bw gf cs6 fr fs w6 := ((unhide HB5).kept e5).chain (hs86 9 (by omega)) hmv6 hch6
      refine hK'.out _ _ hr6 ?_
      clear hK' K'
      refine wpAnyH_done (by kernel_rfl) ?_ _
      refine NoPanic.normal ?_
      have HS6 := hide hsb6
      have HR6 := hide hr6
      have HB6 := hide hfb6
      have m6 : Mv E w5 w6 := (Mv.of e5).trans hmv6
      clear hsb6 hr6 hfb6 hw6 hs86 hch6
      go_wp2_with fail
      go_meet
      case rel => exact ⟨cs6, _, unhide HS6, unhide HB6, Gr.move (unhide HGR5).snd hcal hslf _, rfl, unhide HR6, m6⟩
  case rest =>
  as_aux_lemma =>
  obtain ⟨w6, hw6⟩ : ∃ w6, w6 = wc := ⟨_, rfl⟩
  subst hw6
  obtain ⟨cs6, d6, hsb6, hfb6, hgr6, hd6e, hr6, m6⟩ := hcut
  obtain ⟨v10, hx10⟩ := hsb6.cw.ex (i := 10) (by omega)
  have hf10 := hsb6.cw.row.froz 10
  obtain ⟨hsb7, ho7⟩ := hsb6.ret (KSrc.nil E w6)
  obtain ⟨w7, hw7⟩ : ∃ y, y = w6.setCell ⟨bw, 10, none⟩ (.slice none 0 0) := ⟨_, rfl⟩
  rw [← hw7] at hsb7 ho7
  have mv7 : Mv E w6 w7 := Mv.chain hsb6.cw.row hsb6.cw.g (Chg.ofOnly ho7)
  have hfb7 : FB E bw gf (cs6.set 10 (.slice none 0 0)) fr fs w7 := hfb6.chain (List.getElem?_set_ne (by omega)) mv7 (Chg.ofOnly ho7)
  have hr7 := (Chg.ofOnly ho7).row hr6 (show w.heap.size ≠ bw by have := hsb6.cw.lt; omega)
  generalize cs6.set 10 (Value.slice none 0 0) = cs7 at hsb7 hfb7
  have HW7 := hide hw7
  have hgr06 : Gr B d d6 10000 := (unhide HGR5).trans hgr6
  have hlv6 : ∃ d1, EntD (createsB f.kind) d f.self d1 ∧ d6 = { d1 with accts := moveY d1.accts f.caller f.self f.value } := ⟨d5, by rw [unhide HCBD, ← unhide HSFD]; exact unhide HLV5, by rw [hd6e, unhide HCLD, unhide HSFD]⟩
  have HLV6 := hide hlv6
  clear hlv6
  have mE7 : Mv E W w7 := m3.trans (m5.trans (m6.trans mv7))
  have hkf7 := (unhide HKF).go (m5.trans (m6.trans mv7))
  obtain ⟨v9, h9⟩ : ∃ v, cs7[9]? = some v := by rw [List.getElem?_eq_getElem (by rw [hsb7.cw.len]; omega)]; exact ⟨_, rfl⟩
  have H9 := hide h9
  have HS7 := hide hsb7
  have HB7 := hide hfb7
  have HR7 := hide hr7
  have HKF7 := hide hkf7
  have HGR := hide hgr06
  have d7 : Below w7.heap.size w7 w7.drew := Quiet.below ⟨1, rfl⟩ _
  have huF := Sakg.underlying194
  have hxs : (Sakg.prog.info? 194).map (·.size) = some f1.length := by rw [hf1l]; exact sizeFrame
  have hwG : Wider G E w := unhide HFIN E w (Wider.refl _ _)
  clear hd6e hsb6 hfb6 hgr6 hr6 hsb7 ho7 hw7 hfb7 hr7 hgr06 hkf7 h9
  go_upto_region 8 with fail
  rw [← unhide HW7]
  clear hx10 hf10
  refine wp_region_noPanic ?_
  refine wp_region_held_drew (S := fun w' => RowT 194 w' w.heap.size f1) (by kernel_rfl) ((unhide HR7).kept d7) (fun hHeld => ?_)
  refine held_takeD 0 (.pointer (some ⟨bw, 0, none⟩)) (some 52) (by rfl) (by rfl) (by kernel_rfl) (by kernel_rfl) (by kernel_rfl) (fun _ _ _ h => h) (.inl ⟨by rfl, fun _ _ => by rfl⟩) (hHeld) ?_
  simp only [Act.put, List.setIfInBounds_toArray, List.set_cons_zero, List.set_cons_succ]
  refine held_takeD 1 (.pointer (some ⟨bw, 0, none⟩)) (some 53) (by rfl) (by rfl) (by kernel_rfl) (by kernel_rfl) (by kernel_rfl) (fun _ _ _ h => h) (.inl ⟨by rfl, fun _ _ => by rfl⟩) (hHeld) ?_
  simp only [Act.put, List.setIfInBounds_toArray, List.set_cons_zero, List.set_cons_succ]
  refine held_takeD 2 (.pointer (some ⟨bw, 0, none⟩)) (some 54) (by rfl) (by rfl) (by kernel_rfl) (by kernel_rfl) (by kernel_rfl) (fun _ _ _ h => h) (.inl ⟨by rfl, fun _ _ => by go_simp⟩) (hHeld) ?_
  simp only [Act.put, List.setIfInBounds_toArray, List.set_cons_zero, List.set_cons_succ]
  refine held_takeD 3 (.pointer (some ⟨bw, 9, none⟩)) (some 55) (by rfl) (by rfl) (by kernel_rfl) (by kernel_rfl) (by kernel_rfl) (fun _ _ _ h => h) (.inl ⟨by rfl, fun _ _ => by go_simp⟩) (hHeld) ?_
  simp only [Act.put, List.setIfInBounds_toArray, List.set_cons_zero, List.set_cons_succ]
  refine held_takeD 5 (.agg f1.toArray) (some 57) (by rfl) (by rfl) (by kernel_rfl) (by kernel_rfl) (by kernel_rfl) (fun _ _ _ h => h) (yieldsIf_load_mid (by rfl) _ _ rfl _ _ rfl _ _ (fun wz hS => hS.rangeAll) huF rfl hxs) (hHeld) ?_
  simp only [Act.put, List.setIfInBounds_toArray, List.set_cons_zero, List.set_cons_succ]
  refine held_two 4 6 (by kernel_rfl) (by rfl) (by rfl) (fun K' hK' => ?_) (fun K' hK' => ?_)
  · have hcu : w7.drew.cell? ⟨bw, 9, none⟩ = some v9 := ((unhide HS7).cw.kept d7).cell (unhide H9)
    go_simp
    refine hK'.out _ _ ((unhide HR7).kept d7) ?_
    clear hK' K'
    refine held_one 6 (by kernel_rfl) (by rfl) (fun K' hK' => ?_)
    refine if_build_one (some 58) rfl (by rfl) 103 (.tmp 57) rfl 194 60 456 Sakg.underlying103 _ infoFrame zeroF_len (by omega) (by omega) f1 rfl hf1l (fun wn rn bn sn => ?_)
    have dn := d7.trans (bn.mono d7.size)
    refine hK'.out _ _ ((unhide HR7).kept dn) ?_
    clear hK' K'
    simp only [Act.put, List.setIfInBounds_toArray, List.set_cons_zero, List.set_cons_succ]
    refine held_one 7 (by kernel_rfl) (by rfl) (fun K' hK' => ?_)
    refine if_append_frames (some 59) rfl (by rfl) (.tmp 56) (.tmp 58) rfl v9 rfl (unhide H9) ((unhide HB7).kept dn) hn _ 194 f1 rfl rn hf1l hf1o (fun g' c' fr' wp own hrp hlp hcp hmp hp1 hp2 hgg grp how => ?_)
    have rowp : RowT 194 wp w.heap.size f1 := ((unhide HR7).kept dn).grown grp (fun hh => by { have := (how _ hh.symm).1; omega })
    have dp : True := trivial
    refine hK'.out _ _ (rowp) ?_
    clear hK' K'
    simp only [Act.put, List.setIfInBounds_toArray, List.set_cons_zero, List.set_cons_succ]
    refine held_takeD 8 (.pointer (some ⟨bw, 0, none⟩)) (some 60) (by rfl) (by rfl) (by kernel_rfl) (by kernel_rfl) (by kernel_rfl) (fun _ _ _ h => h) (.inl ⟨by rfl, fun _ _ => by go_simp⟩) (rowp) ?_
    simp only [Act.put, List.setIfInBounds_toArray, List.set_cons_zero, List.set_cons_succ]
    refine held_takeD 9 (.pointer (some ⟨bw, 9, none⟩)) (some 61) (by rfl) (by rfl) (by kernel_rfl) (by kernel_rfl) (by kernel_rfl) (fun _ _ _ h => h) (.inl ⟨by rfl, fun _ _ => by go_simp⟩) (rowp) ?_
    simp only [Act.put, List.setIfInBounds_toArray, List.set_cons_zero, List.set_cons_succ]
    refine held_one 10 (by kernel_rfl) (by rfl) (fun K' hK' => ?_)
    obtain ⟨G', hW', hS', hM'⟩ := (unhide HS7).entered (unhide HB7) dn (unhide HKF7) hrp hlp hcp hmp hp1 hp2 hgg grp (fun k hk => (how k hk).2)
    have hBp : RowT 107 wp bw cs7 := ((unhide HS7).cw.row.kept dn).grown grp (fun hh => by { obtain ⟨_, _, cs', h2⟩ := how bw hh.symm; exact absurd (RowT.types h2 ((unhide HS7).cw.row.kept dn)) (by decide) })
    have hcx : wp.cell? ⟨bw, 9, none⟩ = some v9 := by { rw [hBp.cell]; exact unhide H9 }
    have hfz := hBp.froz 9
    have HS' := hide hS'
    have HM' := hide hM'
    clear hS' hM' hBp hrp
    go_simp
    obtain ⟨wS, hwS⟩ : ∃ y, y = wp.setCell ⟨bw, 9, none⟩ (Value.slice (some ⟨g', 0, none⟩) (fs.length + 1) c') := ⟨_, rfl⟩
    rw [← hwS]
    rw [← hwS] at HS' HM'
    have rowS : RowT 194 wS w.heap.size f1 := by { rw [hwS]; exact rowp.only ((Only.refl bw wp).setCell 9 _) (by omega) }
    clear hwS
    have dS : True := trivial
    refine hK'.out _ _ (rowS) ?_
    clear hK' K'
    refine wpAnyH_done (by kernel_rfl) ?_ _
    refine NoPanic.normal ?_
    clear dS
    go_wp2_with fail
    refine bodyPost_done rfl rfl ?_
    have hM := ((Mv.of hb0).then (mE7.trans (unhide HM')) hwG.new)
    exact ⟨rfl, G', g', _, fr', d6, unhide HFIN G' w ⟨hW'.sub, fun i hi hl => hW'.new i hi (by have := mE7.size; omega)⟩, hM, unhide HGR, unhide HLV6, unhide HS'⟩
  · refine if_build_one (some 58) rfl (by rfl) 103 (.tmp 57) rfl 194 60 456 Sakg.underlying103 _ infoFrame zeroF_len (by omega) (by omega) f1 rfl hf1l (fun wn rn bn sn => ?_)
    have dn := d7.trans (bn.mono d7.size)
    refine hK'.out _ _ ((unhide HR7).kept dn) ?_
    clear hK' K'
    simp only [Act.put, List.setIfInBounds_toArray, List.set_cons_zero, List.set_cons_succ]
    refine held_one 4 (by kernel_rfl) (by rfl) (fun K' hK' => ?_)
    have hcu : wn.cell? ⟨bw, 9, none⟩ = some v9 := ((unhide HS7).cw.kept dn).cell (unhide H9)
    go_simp
    refine hK'.out _ _ ((unhide HR7).kept dn) ?_
    clear hK' K'
    refine held_one 7 (by kernel_rfl) (by rfl) (fun K' hK' => ?_)
    refine if_append_frames (some 59) rfl (by rfl) (.tmp 56) (.tmp 58) rfl v9 rfl (unhide H9) ((unhide HB7).kept dn) hn _ 194 f1 rfl rn hf1l hf1o (fun g' c' fr' wp own hrp hlp hcp hmp hp1 hp2 hgg grp how => ?_)
    have rowp : RowT 194 wp w.heap.size f1 := ((unhide HR7).kept dn).grown grp (fun hh => by { have := (how _ hh.symm).1; omega })
    have dp : True := trivial
    refine hK'.out _ _ (rowp) ?_
    clear hK' K'
    simp only [Act.put, List.setIfInBounds_toArray, List.set_cons_zero, List.set_cons_succ]
    refine held_takeD 8 (.pointer (some ⟨bw, 0, none⟩)) (some 60) (by rfl) (by rfl) (by kernel_rfl) (by kernel_rfl) (by kernel_rfl) (fun _ _ _ h => h) (.inl ⟨by rfl, fun _ _ => by go_simp⟩) (rowp) ?_
    simp only [Act.put, List.setIfInBounds_toArray, List.set_cons_zero, List.set_cons_succ]
    refine held_takeD 9 (.pointer (some ⟨bw, 9, none⟩)) (some 61) (by rfl) (by rfl) (by kernel_rfl) (by kernel_rfl) (by kernel_rfl) (fun _ _ _ h => h) (.inl ⟨by rfl, fun _ _ => by go_simp⟩) (rowp) ?_
    simp only [Act.put, List.setIfInBounds_toArray, List.set_cons_zero, List.set_cons_succ]
    refine held_one 10 (by kernel_rfl) (by rfl) (fun K' hK' => ?_)
    obtain ⟨G', hW', hS', hM'⟩ := (unhide HS7).entered (unhide HB7) dn (unhide HKF7) hrp hlp hcp hmp hp1 hp2 hgg grp (fun k hk => (how k hk).2)
    have hBp : RowT 107 wp bw cs7 := ((unhide HS7).cw.row.kept dn).grown grp (fun hh => by { obtain ⟨_, _, cs', h2⟩ := how bw hh.symm; exact absurd (RowT.types h2 ((unhide HS7).cw.row.kept dn)) (by decide) })
    have hcx : wp.cell? ⟨bw, 9, none⟩ = some v9 := by { rw [hBp.cell]; exact unhide H9 }
    have hfz := hBp.froz 9
    have HS' := hide hS'
    have HM' := hide hM'
    clear hS' hM' hBp hrp
    go_simp
    obtain ⟨wS, hwS⟩ : ∃ y, y = wp.setCell ⟨bw, 9, none⟩ (Value.slice (some ⟨g', 0, none⟩) (fs.length + 1) c') := ⟨_, rfl⟩
    rw [← hwS]
    rw [← hwS] at HS' HM'
    have rowS : RowT 194 wS w.heap.size f1 := by { rw [hwS]; exact rowp.only ((Only.refl bw wp).setCell 9 _) (by omega) }
    clear hwS
    have dS : True := trivial
    refine hK'.out _ _ (rowS) ?_
    clear hK' K'
    refine wpAnyH_done (by kernel_rfl) ?_ _
    refine NoPanic.normal ?_
    clear dS
    go_wp2_with fail
    refine bodyPost_done rfl rfl ?_
    have hM := ((Mv.of hb0).then (mE7.trans (unhide HM')) hwG.new)
    exact ⟨rfl, G', g', _, fr', d6, unhide HFIN G' w ⟨hW'.sub, fun i hi hl => hW'.new i hi (by have := mE7.size; omega)⟩, hM, unhide HGR, unhide HLV6, unhide HS'⟩
theorem enter_x (h : SB G bw cs d x w) (hfb : FB G bw gf cs fr fs w) (hg : Good B d) (hwt : wt d + 40000 ≤ 2250000000) (f : FD) (fv : List Value) (hfl : fv.length = 60) (hf : KF G (fun i => fv[i]?) f w) (hkd : f.kind ≤ 7) (hval : f.value < P256) (hn : fs.length ≤ 900) (hk3 : f.kind ≠ 3) (hk7 : f.kind ≠ 7) :
    Calls Sakg.prog 110 #[.pointer (some ⟨bw, 0, none⟩), .agg fv.toArray] w (EntX G bw B d f fs x w) := by
  rcases hfb with h' | h'
  · exact enter_x0 (gf := bw) (fr := fr) h (.inl h') h.cw.lt hg hwt f fv hfl hf hkd hval hn hk3 hk7
  · exact enter_x0 h (.inr h') h'.2.1.lt hg hwt f fv hfl hf hkd hval hn hk3 hk7
end

end Go.Proofs.YgcsakGreat
