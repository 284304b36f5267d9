/-
  yp: destroys.
-/
import Derived.Test.YgcsakGreatKlA
namespace Go.Proofs.YgcsakGreat
set_option linter.unusedVariables false
set_option linter.unusedSimpArgs false
set_option maxRecDepth 100000
open Go.RowKit

section
variable {G : Nat → Prop} {bw gf : Nat} {cs fr : List Value} {d : WD} {f : FD} {r : List FD} {x : XD} {w : World} {B : Nat}
theorem CW.put7 (h : CW G bw cs d w) {w' : World} {A : Option Addr} {n c : Nat} {als : List (List Int)} (hr : RowT 107 w' bw (cs.set 7 (.slice A n c))) (hx : KAddrs G w' A n c als) (hc : Chg bw w w') : WPost G bw cs { d with gone := als } w w' :=
  ⟨_, ⟨hr, by rw [List.length_set]; exact h.len, (h.kw.go (ChgS.chg hc h.g)).set7 hx (by rw [h.len]; omega), h.g, h.ther.go hc.size⟩, Same8.set (by omega) _, List.getElem?_set_ne (by omega), hc⟩
theorem CW.put6 (h : CW G bw cs d w) {w' : World} {A : Option Addr} {n c : Nat} {als : List (List Int)} (hr : RowT 107 w' bw (cs.set 6 (.slice A n c))) (hx : KAddrs G w' A n c als) (hc : Chg bw w w') : WPost G bw cs { d with made := als } w w' :=
  ⟨_, ⟨hr, by rw [List.length_set]; exact h.len, (h.kw.go (ChgS.chg hc h.g)).set6 hx (by rw [h.len]; omega), h.g, h.ther.go hc.size⟩, Same8.set (by omega) _, List.getElem?_set_ne (by omega), hc⟩
/-- a frame's own address, out of its row -/
theorem FX.selfRow {o : Nat} (h : FX G gf o fr f w) : ∀ wz, RowT 194 wz gf fr → wz.rangeAt gf (o + 12) (bv f.self) := by
  intro wz hr j v hv
  have hbl : (bv f.self).length = 20 := by rw [bv_len, h.kf.selfA.len]
  have hj : j < 20 := by
    rcases Nat.lt_or_ge j 20 with h' | h'
    · exact h'
    · rw [List.getElem?_eq_none (by omega)] at hv; cases hv
  rw [hr.cell]
  have := h.kf.self j hj
  unfold cellsAt at this
  rw [show o + 12 + j = o + (12 + j) by omega, this]
  exact hv
set_option maxHeartbeats 32000000 in
theorem destroys_any (h : SR G bw gf cs fr d (f :: r) x w) (hg : Good B d) (hwt : wt d + 40000 ≤ 2250000000) (hf : AnyF f) (hgas : f.gas ≤ 1048576) (hP : ∀ p r', r = p :: r' → WaitF p ∧ p.ml ≤ 1000000 ∧ p.gas ≤ 1048576) (hrl : r.length ≤ 900) :
    Calls Sakg.prog 119 #[.pointer (some ⟨bw, 0, none⟩), .pointer (some ⟨gf, 60 * r.length, none⟩)] w (EndK G bw gf fr B 15000 d f r x w) := by
  have hBB := big_ge
  have hs := argN_lt hf.stk
  have hsl := hf.slen
  have hfx := h.fx
  obtain ⟨o, ho⟩ : ∃ o, o = 60 * r.length := ⟨_, rfl⟩
  rw [← ho] at hfx ⊢
  have HF := hide hfx
  have HS := hide hs
  have hslf := hfx.kf.selfA
  have hsR := hfx.selfRow
  have hu := Sakg.underlying26
  have hsz := hslf.size
  obtain ⟨sf, hsf⟩ : ∃ sf, sf = f.self := ⟨_, rfl⟩
  rw [← hsf] at hslf hsz hsR
  have HSF := hide hsf
  have HSLF := hide hsR
  have hZ20 : (bv (zeros 20)).length = 20 := by rw [bv_len, zeros_len]
  have HSR := hide h
  have HO := hide ho
  have HG := hide hg
  have HP := hide hP
  have HAF := hide hf
  have hbw := h.lt
  have hgfl := h.row.lt
  have hgfb := h.ne
  clear h hfx hs ho hsf hsR hg hP hf
  go_enter Sakg.func119, Sakg.ntmps119
  have HC1 := hide ((unhide HF).arg (by omega) 0 (by omega))
  go_wp2_with fail
  refine (unhide HC1).mono ?_
  rintro e w1 ⟨⟨A1, k1, c1, rfl, s1⟩, q1⟩
  have b1 : Below w.heap.size w w1 := q1.below _
  have KK1 := hide s1
  clear HC1 s1 q1
  have ha0 : argN f.stk 0 < BIG := Nat.lt_trans (unhide HS 0) p256_lt
  have HC2 := hide (addrOf_any A1 k1 c1 _ w1 ((unhide KK1).kp (ChgS.of b1)).now ha0)
  go_wp2_with fail
  refine (unhide HC2).mono ?_
  rintro e w2 ⟨⟨ta, rfl, hta⟩, b2⟩
  clear HC2 
  have htz := hta.size
  have hbt : (bv ta).length = 20 := by rw [bv_len, hta.len]
  go_upto_region 1 with (first
    | ((with_reducible refine at_alloc 26 ?_); refine wpList_alloc_g (by rfl) 26 rfl (bv (zeros 20)) 20 infoAddr2 hZ20 ?_)
    | ((with_reducible refine at_store 26 ?_); refine wpList_store_whole rfl 26 (.tmp 4) (.tmp 7) rfl _ _ _ (bv ta) rfl rfl (RowT.new _ _ _) (by rw [hZ20, hbt]) htz (bv_one _) ?_; intro w4 hr4 hon4; have hbb4 := box_below hon4; clear hon4))
  have dw4 : Below w.heap.size w w4 := b1.thn (b2.thn hbb4.1)
  have hsr4 := (unhide HSR).kept dw4
  have hgtw : w.heap.size ≤ w2.heap.size := (b1.thn b2).size
  have HS4 := hide hsr4
  have HR4 := hide hr4
  have e4 : Below w4.heap.size w4 w4.drew := Quiet.below ⟨1, rfl⟩ _
  have HWM := hide ((hsr4.kept e4).cw.warm (unhide HG) ta hta)
  clear hsr4 hr4 hbb4
  simp only [Act.put, List.setIfInBounds_toArray, List.set_cons_zero, List.set_cons_succ]
  go_cut [] (fun wc => ∃ (cs5 : List Value) (d5 : WD), SR G bw gf cs5 fr d5 (f :: r) x wc ∧ Gr B d d5 2500 ∧ RowT 26 wc w2.heap.size (bv ta) ∧ Mv G w wc)
  case first =>
    refine wp_region_noPanic ?_
    refine wp_region_held_drew (S := fun w' => RowT 26 w' w2.heap.size (bv ta)) (by kernel_rfl) ((unhide HR4).kept e4) (fun hHeld => ?_)
    refine held_takeD 0 (.pointer (some ⟨bw, 0, none⟩)) (some 8) (by rfl) (by rfl) (by kernel_rfl) (by kernel_rfl) (by kernel_rfl) (fun _ _ _ h => h) (.inl ⟨by rfl, fun _ _ => by rfl⟩) (hHeld) ?_
    simp only [Act.put, List.setIfInBounds_toArray, List.set_cons_zero, List.set_cons_succ]
    refine held_takeD 1 (.pointer (some ⟨bw, 0, none⟩)) (some 9) (by rfl) (by rfl) (by kernel_rfl) (by kernel_rfl) (by kernel_rfl) (fun _ _ _ h => h) (.inl ⟨by rfl, fun _ _ => by go_simp⟩) (hHeld) ?_
    simp only [Act.put, List.setIfInBounds_toArray, List.set_cons_zero, List.set_cons_succ]
    refine held_takeD 2 (.pointer (some ⟨bw, 0, none⟩)) (some 10) (by rfl) (by rfl) (by kernel_rfl) (by kernel_rfl) (by kernel_rfl) (fun _ _ _ h => h) (.inl ⟨by rfl, fun _ _ => by go_simp⟩) (hHeld) ?_
    simp only [Act.put, List.setIfInBounds_toArray, List.set_cons_zero, List.set_cons_succ]
    refine held_takeD 3 (.agg (bv ta).toArray) (some 11) (by rfl) (by rfl) (by kernel_rfl) (by kernel_rfl) (by kernel_rfl) (fun _ _ _ h => h) (yieldsIf_load_mid (by rfl) _ _ rfl _ _ rfl _ _ (fun wz hS => hS.rangeAll) hu rfl htz) (hHeld) ?_
    simp only [Act.put, List.setIfInBounds_toArray, List.set_cons_zero, List.set_cons_succ]
    refine held_one 4 (by kernel_rfl) (by rfl) (fun K' hK' => ?_)
    go_simp
    refine (unhide HWM).mono ?_
    rintro e w5 ⟨rfl, als, hal, hw5⟩
    obtain ⟨cs5, hsr5, hmv5, -, hch5⟩ := ((unhide HS4).kept e4).world hw5
    have hrow5 := hch5.row ((unhide HR4).kept e4) (show w2.heap.size ≠ bw by omega)
    refine hK'.out _ _ hrow5 ?_
    clear hK' K'
    refine wpAnyH_done (by kernel_rfl) ?_ _
    refine NoPanic.normal ?_
    have HS5 := hide hsr5
    have HR5 := hide hrow5
    have m5 : Mv G w w5 := ((Mv.of dw4).trans (Mv.of e4)).trans hmv5
    clear hw5 hsr5 hrow5 hch5
    go_wp2_with fail
    go_meet
    case rel => exact ⟨cs5, _, unhide HS5, Gr.warm (unhide HG).snd hal, unhide HR5, m5⟩
  case rest =>
  obtain ⟨w5, hw5⟩ : ∃ w5, w5 = wc := ⟨_, rfl⟩
  subst hw5
  obtain ⟨cs5, d5, hsr5, hgr5, hr5, m5⟩ := hcut
  have hg5 : Good B d5 := hgr5.good (K := 2250000000) (by omega) (by omega)
  have heq : ∀ wz : World, (Op.equalIn 10000 26 (.agg (bv ta).toArray) (.agg (bv sf).toArray)).run Sakg.prog wz = .ok (decide (ta = sf)) wz := fun wz => addr_eq wz ta sf hta hslf
  have HS5 := hide hsr5
  have HR5 := hide hr5
  have HG5 := hide hgr5
  have e5 : Below w5.heap.size w5 w5.drew := Quiet.below ⟨1, rfl⟩ _
  have hrg5 : ∀ wz, Below w5.heap.size w5 wz → wz.rangeAt w2.heap.size 0 (bv ta) ∧ wz.rangeAt gf (o + 12) (bv sf) := fun wz hz => ⟨(hr5.kept hz).rangeAll, unhide HSLF wz (hsr5.row.kept hz)⟩
  have HRG5 := hide hrg5
  clear hsr5 hr5 hgr5 hrg5
  go_upto_region 2 with fail
  go_cut [18] (fun s18 wc => (∃ b, s18 = .bool b) ∧ Below w5.heap.size w5 wc)
  case first =>
    refine wp_region_noPanic ?_
    refine wp_region_held_drew (S := fun w' => Below w5.heap.size w5 w') (by kernel_rfl) (e5) (fun hHeld => ?_)
    refine held_takeD 0 (.agg (bv ta).toArray) (some 13) (by rfl) (by rfl) (by kernel_rfl) (by kernel_rfl) (by kernel_rfl) (fun _ _ _ h => h) (yieldsIf_load_mid (by rfl) _ _ rfl _ _ rfl _ _ (fun wz hS => (unhide HRG5 wz hS).1) hu rfl htz) (hHeld) ?_
    simp only [Act.put, List.setIfInBounds_toArray, List.set_cons_zero, List.set_cons_succ]
    refine held_takeD 1 (.pointer (some ⟨gf, o, none⟩)) (some 14) (by rfl) (by rfl) (by kernel_rfl) (by kernel_rfl) (by kernel_rfl) (fun _ _ _ h => h) (.inl ⟨by rfl, fun _ _ => by rfl⟩) (hHeld) ?_
    simp only [Act.put, List.setIfInBounds_toArray, List.set_cons_zero, List.set_cons_succ]
    refine held_takeD 2 (.pointer (some ⟨gf, o, none⟩)) (some 15) (by rfl) (by rfl) (by kernel_rfl) (by kernel_rfl) (by kernel_rfl) (fun _ _ _ h => h) (.inl ⟨by rfl, fun _ _ => by go_simp⟩) (hHeld) ?_
    simp only [Act.put, List.setIfInBounds_toArray, List.set_cons_zero, List.set_cons_succ]
    refine held_takeD 3 (.pointer (some ⟨gf, o + 12, none⟩)) (some 16) (by rfl) (by rfl) (by kernel_rfl) (by kernel_rfl) (by kernel_rfl) (fun _ _ _ h => h) (.inl ⟨by rfl, fun _ _ => by go_simp⟩) (hHeld) ?_
    simp only [Act.put, List.setIfInBounds_toArray, List.set_cons_zero, List.set_cons_succ]
    refine held_takeD 4 (.agg (bv sf).toArray) (some 17) (by rfl) (by rfl) (by kernel_rfl) (by kernel_rfl) (by kernel_rfl) (fun _ _ _ h => h) (yieldsIf_load_mid (by rfl) _ _ rfl _ _ rfl _ _ (fun wz hS => (unhide HRG5 wz hS).2) hu rfl hsz) (hHeld) ?_
    simp only [Act.put, List.setIfInBounds_toArray, List.set_cons_zero, List.set_cons_succ]
    refine held_takeD 5 (.bool (!decide (ta = sf))) (some 18) (by rfl) (by rfl) (by kernel_rfl) (by kernel_rfl) (by kernel_rfl) (fun _ _ _ h => h) (.inl ⟨by rfl, fun wS hS => by have hc := heq wS; go_simp⟩) (hHeld) ?_
    simp only [Act.put, List.setIfInBounds_toArray, List.set_cons_zero, List.set_cons_succ]
    refine wpAnyH_done (by kernel_rfl) ?_ _
    refine NoPanic.normal ?_
    generalize (!decide (ta = sf)) = bz
    go_wp2_with fail
    go_meet
    case rel => exact ⟨⟨_, rfl⟩, e5⟩
  case rest =>
  obtain ⟨w6, hw6⟩ : ∃ w6, w6 = wc := ⟨_, rfl⟩
  subst hw6
  obtain ⟨⟨b18, rfl⟩, b6⟩ := hcut
  have HS6 := hide ((unhide HS5).kept b6)
  have HR6 := hide ((unhide HR5).kept b6)
  have m6 : Mv G w w6 := m5.trans (Mv.of b6)
  have e6 : Below w6.heap.size w6 w6.drew := Quiet.below ⟨1, rfl⟩ _
  clear heq
  go_upto_if 18 with fail
  go_cut [] (fun wc => ∃ (cs7 : List Value) (d7 : WD), SR G bw gf cs7 fr d7 (f :: r) x wc ∧ Gr B d5 d7 5000 ∧ Mv G w6 wc)
  case first =>
    cases b18 with
    | false =>
      go_wp2_with fail
      go_meet
      case rel => exact ⟨cs5, d5, unhide HS6, Gr.refl (unhide HG5).snd _, Mv.refl _ _⟩
    | true =>
      have hacc := ((unhide HS6).kept e6).cw.account hg5 sf hslf
      have HACC := hide hacc
      clear hacc
      go_upto_region 3 with fail
      refine wp_region_noPanic ?_
      refine wp_region_held_drew (S := fun w' => RowT 194 w' gf fr ∧ RowT 26 w' w2.heap.size (bv ta)) (by kernel_rfl) (⟨(unhide HS6).row.kept e6, (unhide HR6).kept e6⟩) (fun hHeld => ?_)
      refine held_takeD 0 (.pointer (some ⟨bw, 0, none⟩)) (some 19) (by rfl) (by rfl) (by kernel_rfl) (by kernel_rfl) (by kernel_rfl) (fun _ _ _ h => h) (.inl ⟨by rfl, fun _ _ => by rfl⟩) (hHeld) ?_
      simp only [Act.put, List.setIfInBounds_toArray, List.set_cons_zero, List.set_cons_succ]
      refine held_takeD 1 (.pointer (some ⟨bw, 0, none⟩)) (some 20) (by rfl) (by rfl) (by kernel_rfl) (by kernel_rfl) (by kernel_rfl) (fun _ _ _ h => h) (.inl ⟨by rfl, fun _ _ => by go_simp⟩) (hHeld) ?_
      simp only [Act.put, List.setIfInBounds_toArray, List.set_cons_zero, List.set_cons_succ]
      refine held_takeD 2 (.pointer (some ⟨bw, 0, none⟩)) (some 21) (by rfl) (by rfl) (by kernel_rfl) (by kernel_rfl) (by kernel_rfl) (fun _ _ _ h => h) (.inl ⟨by rfl, fun _ _ => by go_simp⟩) (hHeld) ?_
      simp only [Act.put, List.setIfInBounds_toArray, List.set_cons_zero, List.set_cons_succ]
      refine held_takeD 3 (.pointer (some ⟨gf, o, none⟩)) (some 22) (by rfl) (by rfl) (by kernel_rfl) (by kernel_rfl) (by kernel_rfl) (fun _ _ _ h => h) (.inl ⟨by rfl, fun _ _ => by rfl⟩) (hHeld) ?_
      simp only [Act.put, List.setIfInBounds_toArray, List.set_cons_zero, List.set_cons_succ]
      refine held_takeD 4 (.pointer (some ⟨gf, o, none⟩)) (some 23) (by rfl) (by rfl) (by kernel_rfl) (by kernel_rfl) (by kernel_rfl) (fun _ _ _ h => h) (.inl ⟨by rfl, fun _ _ => by go_simp⟩) (hHeld) ?_
      simp only [Act.put, List.setIfInBounds_toArray, List.set_cons_zero, List.set_cons_succ]
      refine held_takeD 5 (.pointer (some ⟨gf, o + 12, none⟩)) (some 24) (by rfl) (by rfl) (by kernel_rfl) (by kernel_rfl) (by kernel_rfl) (fun _ _ _ h => h) (.inl ⟨by rfl, fun _ _ => by go_simp⟩) (hHeld) ?_
      simp only [Act.put, List.setIfInBounds_toArray, List.set_cons_zero, List.set_cons_succ]
      refine held_takeD 6 (.agg (bv sf).toArray) (some 25) (by rfl) (by rfl) (by kernel_rfl) (by kernel_rfl) (by kernel_rfl) (fun _ _ _ h => h) (yieldsIf_load_mid (by rfl) _ _ rfl _ _ rfl _ _ (fun wz hS => unhide HSLF wz hS.1) hu rfl hsz) (hHeld) ?_
      simp only [Act.put, List.setIfInBounds_toArray, List.set_cons_zero, List.set_cons_succ]
      refine held_takeD 7 (.agg (bv ta).toArray) (some 26) (by rfl) (by rfl) (by kernel_rfl) (by kernel_rfl) (by kernel_rfl) (fun _ _ _ h => h) (yieldsIf_load_mid (by rfl) _ _ rfl _ _ rfl _ _ (fun wz hS => hS.2.rangeAll) hu rfl htz) (hHeld) ?_
      simp only [Act.put, List.setIfInBounds_toArray, List.set_cons_zero, List.set_cons_succ]
      refine held_takeD 8 (.pointer (some ⟨bw, 0, none⟩)) (some 27) (by rfl) (by rfl) (by kernel_rfl) (by kernel_rfl) (by kernel_rfl) (fun _ _ _ h => h) (.inl ⟨by rfl, fun _ _ => by rfl⟩) (hHeld) ?_
      simp only [Act.put, List.setIfInBounds_toArray, List.set_cons_zero, List.set_cons_succ]
      refine held_takeD 9 (.pointer (some ⟨bw, 0, none⟩)) (some 28) (by rfl) (by rfl) (by kernel_rfl) (by kernel_rfl) (by kernel_rfl) (fun _ _ _ h => h) (.inl ⟨by rfl, fun _ _ => by go_simp⟩) (hHeld) ?_
      simp only [Act.put, List.setIfInBounds_toArray, List.set_cons_zero, List.set_cons_succ]
      refine held_takeD 10 (.pointer (some ⟨bw, 0, none⟩)) (some 29) (by rfl) (by rfl) (by kernel_rfl) (by kernel_rfl) (by kernel_rfl) (fun _ _ _ h => h) (.inl ⟨by rfl, fun _ _ => by go_simp⟩) (hHeld) ?_
      simp only [Act.put, List.setIfInBounds_toArray, List.set_cons_zero, List.set_cons_succ]
      refine held_takeD 11 (.pointer (some ⟨gf, o, none⟩)) (some 30) (by rfl) (by rfl) (by kernel_rfl) (by kernel_rfl) (by kernel_rfl) (fun _ _ _ h => h) (.inl ⟨by rfl, fun _ _ => by rfl⟩) (hHeld) ?_
      simp only [Act.put, List.setIfInBounds_toArray, List.set_cons_zero, List.set_cons_succ]
      refine held_takeD 12 (.pointer (some ⟨gf, o, none⟩)) (some 31) (by rfl) (by rfl) (by kernel_rfl) (by kernel_rfl) (by kernel_rfl) (fun _ _ _ h => h) (.inl ⟨by rfl, fun _ _ => by go_simp⟩) (hHeld) ?_
      simp only [Act.put, List.setIfInBounds_toArray, List.set_cons_zero, List.set_cons_succ]
      refine held_takeD 13 (.pointer (some ⟨gf, o + 12, none⟩)) (some 32) (by rfl) (by rfl) (by kernel_rfl) (by kernel_rfl) (by kernel_rfl) (fun _ _ _ h => h) (.inl ⟨by rfl, fun _ _ => by go_simp⟩) (hHeld) ?_
      simp only [Act.put, List.setIfInBounds_toArray, List.set_cons_zero, List.set_cons_succ]
      refine held_takeD 14 (.agg (bv sf).toArray) (some 33) (by rfl) (by rfl) (by kernel_rfl) (by kernel_rfl) (by kernel_rfl) (fun _ _ _ h => h) (yieldsIf_load_mid (by rfl) _ _ rfl _ _ rfl _ _ (fun wz hS => unhide HSLF wz hS.1) hu rfl hsz) (hHeld) ?_
      simp only [Act.put, List.setIfInBounds_toArray, List.set_cons_zero, List.set_cons_succ]
      refine held_one 15 (by kernel_rfl) (by rfl) (fun K' hK' => ?_)
      go_simp
      refine (unhide HACC).mono ?_
      rintro e w7 ⟨rs, rfl, hrs, b7⟩
      have d7 : Below w6.heap.size w6 w7 := e6.trans (b7.mono e6.size)
      have hS7 : RowT 194 w7 gf fr ∧ RowT 26 w7 w2.heap.size (bv ta) := ⟨(unhide HS6).row.kept d7, (unhide HR6).kept d7⟩
      refine hK'.out _ _ hS7 ?_
      clear hK' K'
      obtain ⟨B1, j1, e1, B2, j2, e2, B3, j3, e3, B4, j4, e4', q20, q21, q22, q23, s1, s2, s3, s4⟩ := hrs.cells
      have hfld := run_field_slice fldBal Sakg.underlying54 rs _ q21
      refine held_takeD 16 (.slice B2 j2 e2) (some 35) (by rfl) (by rfl) (by kernel_rfl) (by kernel_rfl) (by kernel_rfl) (fun _ _ _ h => h) (.inl ⟨by rfl, fun _ _ => by go_simp⟩) (hS7) ?_
      simp only [Act.put, List.setIfInBounds_toArray, List.set_cons_zero, List.set_cons_succ]
      have hMV := ((unhide HS6).kept d7).cw.move hg5 sf ta hslf hta B2 j2 e2 _ s2 (hg5.lookB sf).2
      have HMV := hide hMV
      clear hMV hfld q20 q21 q22 q23 s1 s2 s3 s4 hrs
      refine held_one 17 (by kernel_rfl) (by rfl) (fun K' hK' => ?_)
      go_simp
      refine (unhide HMV).mono ?_
      rintro e w8 ⟨rfl, hw8⟩
      obtain ⟨cs8, hsr8, hmv8, -, hch8⟩ := ((unhide HS6).kept d7).world hw8
      refine hK'.out _ _ ⟨hsr8.row, hch8.row hS7.2 (show w2.heap.size ≠ bw by omega)⟩ ?_
      clear hK' K'
      refine wpAnyH_done (by kernel_rfl) ?_ _
      refine NoPanic.normal ?_
      have HS8 := hide hsr8
      have m8 : Mv G w6 w8 := (Mv.of d7).trans hmv8
      clear hw8 hsr8 hch8 hS7
      go_wp2_with fail
      go_meet
      case rel => exact ⟨cs8, _, unhide HS8, Gr.move (unhide HG5).snd hslf hta _, m8⟩
  case rest =>
  obtain ⟨w7, hw7⟩ : ∃ w7, w7 = wc := ⟨_, rfl⟩
  subst hw7
  obtain ⟨cs7, d7, hsr7, hgr7, m7⟩ := hcut
  have hgr07 : Gr B d d7 7500 := ((unhide HG5).trans hgr7)
  have hg7 : Good B d7 := hgr07.good (K := 2250000000) (by omega) (by omega)
  obtain ⟨aM, lM, cM, M1, M2⟩ := hsr7.cw.kw.made
  obtain ⟨aN, lN, cN, N1', N2⟩ := hsr7.cw.kw.gone
  have e7 : Below w7.heap.size w7 w7.drew := Quiet.below ⟨1, rfl⟩ _
  have hlM : lM ≤ 1000000 := by have h1 := M2.now.len; have h2 := hg7.nd; omega
  have hlN : lN ≤ 1000000 := by have h1 := N2.now.len; have h2 := hg7.ng; omega
  have hM6 : ∀ wz, Below w7.heap.size w7 wz → wz.cell? ⟨bw, 6, none⟩ = some (.slice aM lM cM) := fun wz hz => (hsr7.cw.kept hz).cell M1
  have hsl7 : ∀ wz, Below w7.heap.size w7 wz → wz.rangeAt gf (o + 12) (bv sf) := fun wz hz => unhide HSLF wz (hsr7.row.kept hz)
  have HLI := hide (listed_any aM lM cM d7.made sf w7.drew (M2.go (ChgS.of e7)).now hslf hlM)
  have HM6 := hide hM6
  have HSL7 := hide hsl7
  have HS7 := hide hsr7
  have HG07 := hide hgr07
  have HN1 := hide N1'
  have HN2 := hide N2
  have m07 : Mv G w w7 := m6.trans m7
  clear hM6 hsl7 hsr7 hgr7 hgr07 M1 M2 N1' N2 HS5 HR5 HS6 HR6
  go_upto_region 4 with fail
  go_cut [46] (fun s46 wc => (∃ b, s46 = .bool b) ∧ Below w7.heap.size w7 wc)
  case first =>
    refine wp_region_noPanic ?_
    refine wp_region_held_drew (S := fun w' => Below w7.heap.size w7 w') (by kernel_rfl) (e7) (fun hHeld => ?_)
    refine held_takeD 0 (.pointer (some ⟨bw, 0, none⟩)) (some 37) (by rfl) (by rfl) (by kernel_rfl) (by kernel_rfl) (by kernel_rfl) (fun _ _ _ h => h) (.inl ⟨by rfl, fun _ _ => by rfl⟩) (hHeld) ?_
    simp only [Act.put, List.setIfInBounds_toArray, List.set_cons_zero, List.set_cons_succ]
    refine held_takeD 1 (.pointer (some ⟨bw, 0, none⟩)) (some 38) (by rfl) (by rfl) (by kernel_rfl) (by kernel_rfl) (by kernel_rfl) (fun _ _ _ h => h) (.inl ⟨by rfl, fun _ _ => by go_simp⟩) (hHeld) ?_
    simp only [Act.put, List.setIfInBounds_toArray, List.set_cons_zero, List.set_cons_succ]
    refine held_takeD 2 (.pointer (some ⟨bw, 0, none⟩)) (some 39) (by rfl) (by rfl) (by kernel_rfl) (by kernel_rfl) (by kernel_rfl) (fun _ _ _ h => h) (.inl ⟨by rfl, fun _ _ => by go_simp⟩) (hHeld) ?_
    simp only [Act.put, List.setIfInBounds_toArray, List.set_cons_zero, List.set_cons_succ]
    refine held_takeD 3 (.pointer (some ⟨bw, 6, none⟩)) (some 40) (by rfl) (by rfl) (by kernel_rfl) (by kernel_rfl) (by kernel_rfl) (fun _ _ _ h => h) (.inl ⟨by rfl, fun _ _ => by go_simp⟩) (hHeld) ?_
    simp only [Act.put, List.setIfInBounds_toArray, List.set_cons_zero, List.set_cons_succ]
    refine held_takeD 4 (.slice aM lM cM) (some 41) (by rfl) (by rfl) (by kernel_rfl) (by kernel_rfl) (by kernel_rfl) (fun _ _ _ h => h) (.inl ⟨by rfl, fun wS hS => by have hc := unhide HM6 wS hS; go_simp⟩) (hHeld) ?_
    simp only [Act.put, List.setIfInBounds_toArray, List.set_cons_zero, List.set_cons_succ]
    refine held_takeD 5 (.pointer (some ⟨gf, o, none⟩)) (some 42) (by rfl) (by rfl) (by kernel_rfl) (by kernel_rfl) (by kernel_rfl) (fun _ _ _ h => h) (.inl ⟨by rfl, fun _ _ => by rfl⟩) (hHeld) ?_
    simp only [Act.put, List.setIfInBounds_toArray, List.set_cons_zero, List.set_cons_succ]
    refine held_takeD 6 (.pointer (some ⟨gf, o, none⟩)) (some 43) (by rfl) (by rfl) (by kernel_rfl) (by kernel_rfl) (by kernel_rfl) (fun _ _ _ h => h) (.inl ⟨by rfl, fun _ _ => by go_simp⟩) (hHeld) ?_
    simp only [Act.put, List.setIfInBounds_toArray, List.set_cons_zero, List.set_cons_succ]
    refine held_takeD 7 (.pointer (some ⟨gf, o + 12, none⟩)) (some 44) (by rfl) (by rfl) (by kernel_rfl) (by kernel_rfl) (by kernel_rfl) (fun _ _ _ h => h) (.inl ⟨by rfl, fun _ _ => by go_simp⟩) (hHeld) ?_
    simp only [Act.put, List.setIfInBounds_toArray, List.set_cons_zero, List.set_cons_succ]
    refine held_takeD 8 (.agg (bv sf).toArray) (some 45) (by rfl) (by rfl) (by kernel_rfl) (by kernel_rfl) (by kernel_rfl) (fun _ _ _ h => h) (yieldsIf_load_mid (by rfl) _ _ rfl _ _ rfl _ _ (fun wz hS => unhide HSL7 wz hS) hu rfl hsz) (hHeld) ?_
    simp only [Act.put, List.setIfInBounds_toArray, List.set_cons_zero, List.set_cons_succ]
    refine held_one 9 (by kernel_rfl) (by rfl) (fun K' hK' => ?_)
    go_simp
    refine (unhide HLI).mono ?_
    rintro e w8 ⟨rfl, b8⟩
    refine hK'.out _ _ (e7.trans (b8.mono e7.size)) ?_
    clear hK' K'
    have d8 : Below w7.heap.size w7 w8 := e7.trans (b8.mono e7.size)
    refine wpAnyH_done (by kernel_rfl) ?_ _
    refine NoPanic.normal ?_
    generalize decide (sf ∈ d7.made) = bz
    go_wp2_with fail
    go_meet
    case rel => exact ⟨⟨_, rfl⟩, d8⟩
  case rest =>
  obtain ⟨w8, hw8⟩ : ∃ w8, w8 = wc := ⟨_, rfl⟩
  subst hw8
  obtain ⟨⟨b46, rfl⟩, b8⟩ := hcut
  have HS8 := hide ((unhide HS7).kept b8)
  have e8 : Below w8.heap.size w8 w8.drew := Quiet.below ⟨1, rfl⟩ _
  go_upto_if 46 with fail
  go_cut [] (fun wc => ∃ (cs9 : List Value) (d9 : WD), SR G bw gf cs9 fr d9 (f :: r) x wc ∧ Gr B d7 d9 5000 ∧ Mv G w8 wc)
  case first =>
    cases b46 with
    | false =>
      go_wp2_with fail
      go_meet
      case rel => exact ⟨cs7, d7, unhide HS8, Gr.refl (unhide HG07).snd _, Mv.refl _ _⟩
    | true =>
      have d8e : Below w7.heap.size w7 w8.drew := b8.trans (e8.mono b8.size)
      have HWA := hide (((unhide HN2).go (ChgS.of d8e)).with ((unhide HS8).kept e8).cw.ther sf hslf hlN)
      have y7 : ∀ wz, Below w8.heap.size w8 wz → wz.cell? ⟨bw, 7, none⟩ = some (.slice aN lN cN) := fun wz hz => ((unhide HS8).cw.kept hz).cell (unhide HN1)
      have y12 : ∀ wz, Below w8.heap.size w8 wz → wz.rangeAt gf (o + 12) (bv sf) := fun wz hz => unhide HSLF wz ((unhide HS8).row.kept hz)
      have Y7 := hide y7
      have Y12 := hide y12
      clear y7 y12
      go_upto_region 5 with fail
      refine wp_region_noPanic ?_
      refine wp_region_held_drew (S := fun w' => RowT 194 w' gf fr ∧ (Below w8.heap.size w8 w' ∨ Chg bw w8 w')) (by kernel_rfl) (⟨(unhide HS8).row.kept e8, .inl e8⟩) (fun hHeld => ?_)
      refine held_takeD 0 (.pointer (some ⟨bw, 0, none⟩)) (some 47) (by rfl) (by rfl) (by kernel_rfl) (by kernel_rfl) (by kernel_rfl) (fun _ _ _ h => h) (.inl ⟨by rfl, fun _ _ => by rfl⟩) (hHeld) ?_
      simp only [Act.put, List.setIfInBounds_toArray, List.set_cons_zero, List.set_cons_succ]
      refine held_takeD 1 (.pointer (some ⟨bw, 0, none⟩)) (some 48) (by rfl) (by rfl) (by kernel_rfl) (by kernel_rfl) (by kernel_rfl) (fun _ _ _ h => h) (.inl ⟨by rfl, fun _ _ => by rfl⟩) (hHeld) ?_
      simp only [Act.put, List.setIfInBounds_toArray, List.set_cons_zero, List.set_cons_succ]
      refine held_takeD 2 (.pointer (some ⟨bw, 0, none⟩)) (some 49) (by rfl) (by rfl) (by kernel_rfl) (by kernel_rfl) (by kernel_rfl) (fun _ _ _ h => h) (.inl ⟨by rfl, fun _ _ => by go_simp⟩) (hHeld) ?_
      simp only [Act.put, List.setIfInBounds_toArray, List.set_cons_zero, List.set_cons_succ]
      refine held_takeD 3 (.pointer (some ⟨bw, 0, none⟩)) (some 50) (by rfl) (by rfl) (by kernel_rfl) (by kernel_rfl) (by kernel_rfl) (fun _ _ _ h => h) (.inl ⟨by rfl, fun _ _ => by go_simp⟩) (hHeld) ?_
      simp only [Act.put, List.setIfInBounds_toArray, List.set_cons_zero, List.set_cons_succ]
      refine held_takeD 4 (.pointer (some ⟨bw, 7, none⟩)) (some 51) (by rfl) (by rfl) (by kernel_rfl) (by kernel_rfl) (by kernel_rfl) (fun _ _ _ h => h) (.inl ⟨by rfl, fun _ _ => by go_simp⟩) (hHeld) ?_
      simp only [Act.put, List.setIfInBounds_toArray, List.set_cons_zero, List.set_cons_succ]
      refine held_takeD 6 (.pointer (some ⟨gf, o, none⟩)) (some 53) (by rfl) (by rfl) (by kernel_rfl) (by kernel_rfl) (by kernel_rfl) (fun _ _ _ h => h) (.inl ⟨by rfl, fun _ _ => by rfl⟩) (hHeld) ?_
      simp only [Act.put, List.setIfInBounds_toArray, List.set_cons_zero, List.set_cons_succ]
      refine held_takeD 7 (.pointer (some ⟨gf, o, none⟩)) (some 54) (by rfl) (by rfl) (by kernel_rfl) (by kernel_rfl) (by kernel_rfl) (fun _ _ _ h => h) (.inl ⟨by rfl, fun _ _ => by go_simp⟩) (hHeld) ?_
      simp only [Act.put, List.setIfInBounds_toArray, List.set_cons_zero, List.set_cons_succ]
      refine held_takeD 8 (.pointer (some ⟨gf, o + 12, none⟩)) (some 55) (by rfl) (by rfl) (by kernel_rfl) (by kernel_rfl) (by kernel_rfl) (fun _ _ _ h => h) (.inl ⟨by rfl, fun _ _ => by go_simp⟩) (hHeld) ?_
      simp only [Act.put, List.setIfInBounds_toArray, List.set_cons_zero, List.set_cons_succ]
      refine held_takeD 9 (.agg (bv sf).toArray) (some 56) (by rfl) (by rfl) (by kernel_rfl) (by kernel_rfl) (by kernel_rfl) (fun _ _ _ h => h) (yieldsIf_load_mid (by rfl) _ _ rfl _ _ rfl _ _ (fun wz hS => unhide HSLF wz hS.1) hu rfl hsz) (hHeld) ?_
      simp only [Act.put, List.setIfInBounds_toArray, List.set_cons_zero, List.set_cons_succ]
      have hcu := unhide Y7 w8.drew e8
      refine held_one 5 (by kernel_rfl) (by rfl) (fun K' hK' => ?_)
      go_simp
      refine hK'.out _ _ ⟨(unhide HS8).row.kept e8, .inl e8⟩ ?_
      clear hK' K'
      refine held_one 10 (by kernel_rfl) (by rfl) (fun K' hK' => ?_)
      go_simp
      refine (unhide HWA).mono ?_
      rintro e w9 ⟨A9, k9, c9, rfl, ⟨als, hal, hkl, -⟩, b9⟩
      have d9 : Below w8.heap.size w8 w9 := e8.trans (b9.mono e8.size)
      have hS9 : RowT 194 w9 gf fr ∧ (Below w8.heap.size w8 w9 ∨ Chg bw w8 w9) := ⟨(unhide HS8).row.kept d9, .inl d9⟩
      refine hK'.out _ _ hS9 ?_
      clear hK' K' hcu
      refine held_takeD 11 (.pointer (some ⟨bw, 0, none⟩)) (some 58) (by rfl) (by rfl) (by kernel_rfl) (by kernel_rfl) (by kernel_rfl) (fun _ _ _ h => h) (.inl ⟨by rfl, fun _ _ => by go_simp⟩) (hS9) ?_
      simp only [Act.put, List.setIfInBounds_toArray, List.set_cons_zero, List.set_cons_succ]
      refine held_takeD 12 (.pointer (some ⟨bw, 0, none⟩)) (some 59) (by rfl) (by rfl) (by kernel_rfl) (by kernel_rfl) (by kernel_rfl) (fun _ _ _ h => h) (.inl ⟨by rfl, fun _ _ => by go_simp⟩) (hS9) ?_
      simp only [Act.put, List.setIfInBounds_toArray, List.set_cons_zero, List.set_cons_succ]
      refine held_takeD 13 (.pointer (some ⟨bw, 7, none⟩)) (some 60) (by rfl) (by rfl) (by kernel_rfl) (by kernel_rfl) (by kernel_rfl) (fun _ _ _ h => h) (.inl ⟨by rfl, fun _ _ => by go_simp⟩) (hS9) ?_
      simp only [Act.put, List.setIfInBounds_toArray, List.set_cons_zero, List.set_cons_succ]
      have hcx := unhide Y7 w9 d9
      have hfz := ((unhide HS8).cw.kept d9).row.froz 7
      refine held_one 14 (by kernel_rfl) (by rfl) (fun K' hK' => ?_)
      go_simp
      obtain ⟨w10, hw10⟩ : ∃ y, y = w9.setCell ⟨bw, 7, none⟩ (.slice A9 k9 c9) := ⟨_, rfl⟩
      rw [← hw10]
      have ho10 : Only bw w9 w10 := by rw [hw10]; exact (Only.refl _ _).setCell _ _
      have hr10 : RowT 107 w10 bw (cs7.set 7 (.slice A9 k9 c9)) := by rw [hw10]; exact ((unhide HS8).cw.kept d9).row.set 7 _
      have hWP := ((unhide HS8).cw.kept d9).put7 hr10 (hal.go (ChgS.only ho10 (unhide HS8).cw.g)) (Chg.ofOnly ho10)
      obtain ⟨cs10, hsr10, hmv10, -, hch10⟩ := ((unhide HS8).kept d9).world hWP
      have hgr10 : Gr B d7 { d7 with gone := als } 5000 := Gr.gone (unhide HG07).snd (by have h1 := hal.now.len; have h2 := (unhide HN2).now.len; omega)
      refine hK'.out _ _ ⟨hsr10.row, .inr ((Chg.of d9).trans hch10)⟩ ?_
      clear hK' K'
      refine wpAnyH_done (by kernel_rfl) ?_ _
      refine NoPanic.normal ?_
      have HS10 := hide hsr10
      have m10 : Mv G w8 w10 := (Mv.of d9).trans hmv10
      clear hsr10 hWP hr10 hw10 hch10 hS9 hcx hfz
      go_wp2_with fail
      go_meet
      case rel => exact ⟨cs10, _, unhide HS10, hgr10, m10⟩
  case rest =>
  obtain ⟨w9, hw9⟩ : ∃ w9, w9 = wc := ⟨_, rfl⟩
  subst hw9
  obtain ⟨cs9, d9, hsr9, hgr9, m9⟩ := hcut
  have hgr09 : Gr B d d9 12500 := (unhide HG07).trans hgr9
  have hg9 : Good B d9 := hgr09.good (K := 2250000000) (by omega) (by omega)
  have hLV := leave_any hsr9 hg9 (unhide HAF).kind hgas (unhide HP) 0 (by omega) none 0 0 [] (KSrc.nil G _) (by omega) hrl
  rw [show ((0 : Nat) : Int) = 0 from rfl] at hLV
  have m09 : Mv G w w9 := (m07.trans (Mv.of b8)).trans m9
  have HLV := hide hLV
  have HGR := hide hgr09
  clear hLV hsr9 hgr9 hgr09
  go_wp2_with (go_at_call 114; refine (unhide HLV).mono ?_; rintro e w10 hend; have HEND := hide hend; have hee := hend.1; subst hee; clear hend)
  refine bodyPost_done rfl rfl ?_
  exact (unhide HEND).toEnd rfl m09 (Nat.le_refl _) rfl (by simp) (unhide HGR)
end

end Go.Proofs.YgcsakGreat
