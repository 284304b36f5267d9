/-
  yp: effect at LOG.
-/
import Derived.Test.YgcsakGreatKhF0
import Derived.Test.YgcsakGreatXeA
namespace Go.Proofs.YgcsakGreat
set_option linter.unusedVariables false
set_option linter.unusedSimpArgs false
set_option maxRecDepth 100000
open Go.RowKit

section
variable {G : Nat → Prop} {bw gf : Nat} {cs fr : List Value} {d : WD} {f : FD} {r : List FD} {x : XD} {w : World} {B : Nat}
set_option maxHeartbeats 32000000 in
theorem effX_log (p : Nat) (h1 : 160 ≤ p) (h2 : p ≤ 164) (h : SR G bw gf cs fr d (f :: r) x w) (hx : XB x) (hg : Good B d) (hf : AnyF f) (hml : f.ml ≤ 1000000) (hwt : wt d + 40000 ≤ 2250000000) (ao : Option Addr) (l c : Nat) (xs : List Nat) (hA : SStk G w ao l c xs) (hl : l = p - 158) (ha : ∀ i, xs.getD i 0 < P256) (hn : xs.getD 1 0 ≤ 1000000) :
    Calls Sakg.prog 218 #[.pointer (some ⟨bw, 0, none⟩), .pointer (some ⟨gf, 60 * r.length, none⟩), .int .u8 p, .slice ao l c] w (EffX G bw gf fr (f :: r) x (fun d2 => ∃ ls, Gr B d { d with logs := ls } 2500 ∧ d2 = { d with logs := ls }) w) := by
  have hBB := big_ge
  have hPB := p256_lt
  have hfx := h.fx
  obtain ⟨o, ho⟩ : ∃ o, o = 60 * r.length := ⟨_, rfl⟩
  rw [← ho] at hfx ⊢
  have HF := hide hfx
  have HSR := hide h
  have H0 := hide (operandK G ao l c xs 0 w hA (by omega) (by omega))
  have H1 := hide (operandK G ao l c xs 1 w hA (by omega) (by omega))
  have H2 := hide (operandK G ao l c xs 2 w hA (by omega) (by omega))
  have x0 := ha 0
  have x1 := ha 1
  have t55 : ((p : Int) == 55) = false := by rw [beq_eq_false_iff_ne]; omega
  have t57 : ((p : Int) == 57) = false := by rw [beq_eq_false_iff_ne]; omega
  have t62 : ((p : Int) == 62) = false := by rw [beq_eq_false_iff_ne]; omega
  have t94 : ((p : Int) == 94) = false := by rw [beq_eq_false_iff_ne]; omega
  have t60 : ((p : Int) == 60) = false := by rw [beq_eq_false_iff_ne]; omega
  have t82 : ((p : Int) == 82) = false := by rw [beq_eq_false_iff_ne]; omega
  have t83 : ((p : Int) == 83) = false := by rw [beq_eq_false_iff_ne]; omega
  have t85 : ((p : Int) == 85) = false := by rw [beq_eq_false_iff_ne]; omega
  have t93 : ((p : Int) == 93) = false := by rw [beq_eq_false_iff_ne]; omega
  have u160 : decide ((160 : Int) ≤ (p : Int)) = true := decide_eq_true (by omega)
  have v164 : decide ((p : Int) ≤ 164) = true := decide_eq_true (by omega)
  have hslf := hfx.kf.selfA
  have hu := Sakg.underlying26
  have hsz := hslf.size
  obtain ⟨sf, hsf⟩ : ∃ sf, sf = f.self := ⟨_, rfl⟩
  have hrg : ∀ wz, Below w.heap.size w wz → wz.rangeAt gf (o + 12) (bv sf) := fun wz hz => by rw [hsf]; exact (hfx.kept hz).selfR
  rw [← hsf] at hslf hsz
  have HRG := hide hrg
  have dW : Below w.heap.size w w.drew := Quiet.below ⟨1, rfl⟩ _
  obtain ⟨arows, ar1, ar2⟩ := hA
  have hal := ar1.now.len_eq
  have hxl : xs.length = l := by rw [← ar2.len, hal]
  have hlc := ar1.now.le
  obtain ⟨ba, offa, rfl, hlta, hata⟩ := rows_at' 0 ar1.now ar2 (by omega)
  have HATA := hide hata
  have HHA := hide ha
  generalize xs.getD 0 0 = m0 at H0 x0
  generalize xs.getD 1 0 = m1 at H1 x1 hn
  generalize xs.getD 2 0 = m2 at H2
  have hZ22 : (bv (zeros 20) ++ [nilS, nilS]).length = 22 := by simp [bv_len, zeros_len]
  have HL := hide hl
  have HXL := hide hxl
  have HLC := hide hlc
  have HLT := hide hlta
  clear h hfx hx hf hrg hsf ho ar1 ar2 hata ha hal hl hxl hlc hlta
  go_enter Sakg.func218, Sakg.ntmps218
  go_wp2_with fail
  refine (unhide H0).mono ?_
  rintro e w1 ⟨⟨A0, k0, c0, rfl, n0⟩, rfl⟩
  have N0 := hide n0
  clear n0
  go_wp2_with fail
  refine (unhide H1).mono ?_
  rintro e w1 ⟨⟨A1, k1, c1, rfl, n1⟩, rfl⟩
  have N1 := hide n1
  clear n1
  go_wp2_with fail
  refine (unhide H2).mono ?_
  rintro e w1 ⟨⟨A2, k2, c2, rfl, -⟩, rfl⟩
  go_upto_region 26 with fail
  go_cut [14] (fun s14 wc => ∃ (gX : Nat) (D : Option Addr) (cD : Nat) (ys : List Int), s14 = .pointer (some ⟨gX, 0, none⟩) ∧ RowT 311 wc gX (bv sf ++ [nilS, .slice D m1 cD]) ∧ Src wc D m1 cD ys ∧ (∀ y, D = some y → 0 < m1 → y.block ≠ gX) ∧ New w D ∧ w.heap.size ≤ gX ∧ Below w.heap.size w wc)
  case first =>
    refine wp_region_noPanic ?_
    refine wp_region_held_drew (S := fun w' => Below w.heap.size w w') (by kernel_rfl) (dW) (fun hHeld => ?_)
    refine held_takeD 0 (.pointer (some ⟨gf, o, none⟩)) (some 140) (by rfl) (by rfl) (by kernel_rfl) (by kernel_rfl) (by kernel_rfl) (fun _ _ _ h => h) (.inl ⟨by rfl, fun _ _ => by rfl⟩) (hHeld) ?_
    simp only [Act.put, List.setIfInBounds_toArray, List.set_cons_zero, List.set_cons_succ]
    refine held_takeD 1 (.pointer (some ⟨gf, o, none⟩)) (some 141) (by rfl) (by rfl) (by kernel_rfl) (by kernel_rfl) (by kernel_rfl) (fun _ _ _ h => h) (.inl ⟨by rfl, fun _ _ => by go_simp⟩) (hHeld) ?_
    simp only [Act.put, List.setIfInBounds_toArray, List.set_cons_zero, List.set_cons_succ]
    refine held_takeD 2 (.pointer (some ⟨gf, o + 12, none⟩)) (some 142) (by rfl) (by rfl) (by kernel_rfl) (by kernel_rfl) (by kernel_rfl) (fun _ _ _ h => h) (.inl ⟨by rfl, fun _ _ => by go_simp⟩) (hHeld) ?_
    simp only [Act.put, List.setIfInBounds_toArray, List.set_cons_zero, List.set_cons_succ]
    refine held_takeD 3 (.agg (bv sf).toArray) (some 143) (by rfl) (by rfl) (by kernel_rfl) (by kernel_rfl) (by kernel_rfl) (fun _ _ _ h => h) (yieldsIf_load_mid (by rfl) _ _ rfl _ _ rfl _ _ (fun wz hS => unhide HRG wz hS) hu rfl hsz) (hHeld) ?_
    simp only [Act.put, List.setIfInBounds_toArray, List.set_cons_zero, List.set_cons_succ]
    refine held_takeD 4 (.pointer (some ⟨gf, o, none⟩)) (some 144) (by rfl) (by rfl) (by kernel_rfl) (by kernel_rfl) (by kernel_rfl) (fun _ _ _ h => h) (.inl ⟨by rfl, fun _ _ => by rfl⟩) (hHeld) ?_
    simp only [Act.put, List.setIfInBounds_toArray, List.set_cons_zero, List.set_cons_succ]
    refine held_takeD 5 (.slice A0 k0 c0) (some 145) (by rfl) (by rfl) (by kernel_rfl) (by kernel_rfl) (by kernel_rfl) (fun _ _ _ h => h) (.inl ⟨by rfl, fun _ _ => by rfl⟩) (hHeld) ?_
    simp only [Act.put, List.setIfInBounds_toArray, List.set_cons_zero, List.set_cons_succ]
    refine held_takeD 6 (.slice A1 k1 c1) (some 146) (by rfl) (by rfl) (by kernel_rfl) (by kernel_rfl) (by kernel_rfl) (fun _ _ _ h => h) (.inl ⟨by rfl, fun _ _ => by rfl⟩) (hHeld) ?_
    simp only [Act.put, List.setIfInBounds_toArray, List.set_cons_zero, List.set_cons_succ]
    refine held_two 7 9 (by kernel_rfl) (by rfl) (by rfl) (fun K' hK' => ?_) (fun K' hK' => ?_)
    · go_simp
      refine (((unhide HF).kept dW).read hml A0 A1 k0 c0 k1 c1 m0 m1 ((unhide N0).kp (ChgS.of dW)).now ((unhide N1).kp (ChgS.of dW)).now (by omega) (by omega)).mono ?_
      rintro e wD ⟨D, cD, ys, rfl, sD, ND, bD⟩
      have dD := dW.trans (bD.mono dW.size)
      refine hK'.out _ _ (dD) ?_
      clear hK' K'
      refine held_takeD 8 (.agg (bv sf ++ [nilS, Value.slice D m1 cD]).toArray) (some 148) (by rfl) (by rfl) (by kernel_rfl) (by kernel_rfl) (by kernel_rfl) (fun _ _ _ h => h) (yieldsIf_build (by rfl) 311 [(0, .tmp 143), (2, .tmp 147)] rfl _ (fun wx => run_log2 wx sf hslf D m1 cD)) dD ?_
      simp only [Act.put, List.setIfInBounds_toArray, List.set_cons_zero, List.set_cons_succ]
      refine held_one 9 (by kernel_rfl) (by rfl) (fun K' hK' => ?_)
      refine if_alloc (some 14) rfl 311 rfl (by rfl) _ 22 infoLog2 hZ22 (fun wA rA bA sA => ?_)
      have dA := dD.trans (bA.mono dD.size)
      refine hK'.out _ _ (dA) ?_
      clear hK' K'
      simp only [Act.put, List.setIfInBounds_toArray, List.set_cons_zero, List.set_cons_succ]
      refine held_one 10 (by kernel_rfl) (by rfl) (fun K' hK' => ?_)
      refine if_store rfl (by rfl) 311 (.tmp 14) (.tmp 148) rfl wD.heap.size 0 311 _ (bv sf ++ [nilS, Value.slice D m1 cD]) rfl rfl rA (by rw [log_len sf hslf, hZ22]; exact Nat.le_refl _) (by rw [log_len sf hslf]; exact sizeLog) (log_one sf nilS rfl D m1 cD) (fun wS rS oS => ?_)
      have dS : Below w.heap.size w wS := dA.trans (oS.below _ (by exact dD.size))
      refine hK'.out _ _ (dS) ?_
      clear hK' K'
      refine wpAnyH_done (by kernel_rfl) ?_ _
      refine NoPanic.normal ?_
      rw [spl_all _ _ (by rw [log_len sf hslf, hZ22])] at rS
      have hne : ∀ y, D = some y → 0 < m1 → y.block ≠ wD.heap.size := fun y hy h0 => by have h3 := sD.lt y hy h0; omega
      have sS := oS.src (sD.kept bA) hne
      go_wp2_with fail
      go_meet
      case rel => exact ⟨wD.heap.size, D, cD, ys, rfl, rS, sS, hne, ND.later dW.size, dD.size, dS⟩
    · refine if_alloc (some 14) rfl 311 rfl (by rfl) _ 22 infoLog2 hZ22 (fun wA rA bA sA => ?_)
      have dA := dW.trans (bA.mono dW.size)
      refine hK'.out _ _ (dA) ?_
      clear hK' K'
      simp only [Act.put, List.setIfInBounds_toArray, List.set_cons_zero, List.set_cons_succ]
      refine held_one 7 (by kernel_rfl) (by rfl) (fun K' hK' => ?_)
      go_simp
      refine (((unhide HF).kept dA).read hml A0 A1 k0 c0 k1 c1 m0 m1 ((unhide N0).kp (ChgS.of dA)).now ((unhide N1).kp (ChgS.of dA)).now (by omega) (by omega)).mono ?_
      rintro e wD ⟨D, cD, ys, rfl, sD, ND, bD⟩
      have dD := dA.trans (bD.mono dA.size)
      refine hK'.out _ _ (dD) ?_
      clear hK' K'
      refine held_takeD 8 (.agg (bv sf ++ [nilS, Value.slice D m1 cD]).toArray) (some 148) (by rfl) (by rfl) (by kernel_rfl) (by kernel_rfl) (by kernel_rfl) (fun _ _ _ h => h) (yieldsIf_build (by rfl) 311 [(0, .tmp 143), (2, .tmp 147)] rfl _ (fun wx => run_log2 wx sf hslf D m1 cD)) dD ?_
      simp only [Act.put, List.setIfInBounds_toArray, List.set_cons_zero, List.set_cons_succ]
      refine held_one 10 (by kernel_rfl) (by rfl) (fun K' hK' => ?_)
      refine if_store rfl (by rfl) 311 (.tmp 14) (.tmp 148) rfl w.heap.size 0 311 _ (bv sf ++ [nilS, Value.slice D m1 cD]) rfl rfl (rA.kept bD) (by rw [log_len sf hslf, hZ22]; exact Nat.le_refl _) (by rw [log_len sf hslf]; exact sizeLog) (log_one sf nilS rfl D m1 cD) (fun wS rS oS => ?_)
      have dS : Below w.heap.size w wS := dD.trans (oS.below _ (by exact Nat.le_refl _))
      refine hK'.out _ _ (dS) ?_
      clear hK' K'
      refine wpAnyH_done (by kernel_rfl) ?_ _
      refine NoPanic.normal ?_
      rw [spl_all _ _ (by rw [log_len sf hslf, hZ22])] at rS
      have hne : ∀ y, D = some y → 0 < m1 → y.block ≠ w.heap.size := fun y hy h0 => by have h3 : wA.heap.size ≤ y.block := ND y hy; have h4 : w.heap.size < wA.heap.size := rA.lt; omega
      have sS := oS.src sD hne
      go_wp2_with fail
      go_meet
      case rel => exact ⟨w.heap.size, D, cD, ys, rfl, rS, sS, hne, ND.later dA.size, Nat.le_refl _, dS⟩
  case rest =>
  -- as_aux_lemma =>
  obtain ⟨W, hWe⟩ : ∃ W, W = wc := ⟨_, rfl⟩
  subst hWe
  obtain ⟨gX, D, cD, ys, rfl, rX, sD, hneD, ND, hgX, dW0⟩ := hcut
  have KD : StabS (fun k => k = gX) (fun w => Src w D m1 cD ys) W := StabS.src sD (fun y hy h0 hg => hneD y hy h0 hg)
  have HKD := hide KD
  have RX := hide rX
  obtain ⟨n, hn2, hnl, hl2, hcc⟩ : ∃ n, l = n + 2 ∧ n ≤ 4 ∧ 2 ≤ l ∧ 2 ≤ c := ⟨l - 2, by have := unhide HL; omega, by have := unhide HL; omega, by have := unhide HL; omega, by have := unhide HL; have := unhide HLC; omega⟩
  subst hn2
  clear rX sD KD hneD
  go_upto_region 27 with fail
  go_cut [150, 151, 152] (fun s150 s151 s152 wc => ∃ (q cq : Nat), s150 = .slice (some ⟨ba, q, none⟩) n cq ∧ s151 = .int .i64 n ∧ s152 = .int .i64 0 ∧ (0 < n → q = offa + 2) ∧ wc = W)
  case first =>
    go_wp2_with fail
    · have hc2 : c = 2 := by assumption
      subst hc2
      go_meet
      case rel => exact ⟨offa, 0, rfl, rfl, rfl, fun h0 => by have := unhide HLC; omega, rfl⟩
    · go_meet
      case rel => exact ⟨offa + 2, c - 2, rfl, rfl, rfl, fun _ => rfl, rfl⟩
  case rest =>
  obtain ⟨q, cq, rfl, rfl, rfl, hq, rfl⟩ := hcut
  obtain ⟨W, hWe⟩ : ∃ W, W = wc := ⟨_, rfl⟩
  subst hWe
  have HQ := hide hq
  clear hq
  go_wp2_with fail
  go_loopg [152] n (fun gk iv wr => ∃ (j : Nat) (u : Value) (trows : List (List Value)), j + gk = n ∧ iv = .int .i64 j ∧ RowT 311 wr gX (bv sf ++ [u, .slice D m1 cD]) ∧ wr.ownsRow W.heap.size 29 32 u j trows.flatten ∧ ChgS (· = gX) W wr ∧ trows.length = j ∧ ∀ r ∈ trows, r.length = 32 ∧ ∀ v ∈ r, v.oneCell' = true)
  case atStart => exact ⟨0, nilS, [], by omega, rfl, unhide RX, World.ownsRow_nil _ _ _ _, ChgS.refl _ _, rfl, fun _ h => absurd h (by simp)⟩
  case round =>
    obtain ⟨j, u, trows, hj, rfl, ru, hou, hch, htl, hta⟩ := hrel
    have hgXl : gX < W.heap.size := (unhide RX).lt
    have hcs := hch.size
    have hbW : Below w.heap.size w wr := dW0.trans (hch.below w.heap.size (fun k hk => by omega) dW0.size)
    by_cases hjl : j < n
    · obtain ⟨rt, hrt, At, kt, ct, rfl, hnt⟩ := unhide HATA (2 + j) (by omega)
      have hmt := unhide HHA (2 + j)
      have hnw : ∀ wz, Below wr.heap.size wr wz → IsNat wz At kt ct (xs.getD (2 + j) 0) := fun wz hz => hnt.now.kept (hbW.trans (hz.mono hbW.size))
      generalize xs.getD (2 + j) 0 = mt at hmt hnw hnt
      have hce := range_below hrt hbW (fun _ => unhide HLT)
      have hqe : offa + (2 + j) * 1 = q + j := by have := unhide HQ (by omega); omega
      rw [hqe] at hce
      have hcell : wr.cell? ⟨ba, q + j, none⟩ = some (.slice At kt ct) := by
        have := hce 0 _ rfl
        simpa using this
      have HNW := hide hnw
      have RU := hide ru
      have HOU := hide hou
      clear hnw hnt hrt hce ru hou
      go_upto_region 30 with fail
      have hul : ∀ k, u.ownBlock = some k → W.heap.size ≤ k ∧ k < wr.heap.size := fun k hk => (unhide HOU).lt k hk
      have d3 : Below wr.heap.size wr wr.drew := Quiet.below ⟨1, rfl⟩ _
      have hz32 : (bv (zeros 32)).length = 32 := by rw [bv_len, zeros_len]
      have hb32 : (bv (be32 mt)).length = 32 := by rw [bv_len, be32_len]
      refine wp_region_noPanic ?_
      refine wp_region_held_drew (S := fun w' => ChgS (fun k => k = gX ∨ u.ownBlock = some k) wr w') (by kernel_rfl) (ChgS.of d3) (fun hHeld => ?_)
      refine held_takeD 0 (.pointer (some ⟨gX, 20, none⟩)) (some 156) (by rfl) (by rfl) (by kernel_rfl) (by kernel_rfl) (by kernel_rfl) (fun _ _ _ h => h) (.inl ⟨by rfl, fun _ _ => by go_simp⟩) (hHeld) ?_
      simp only [Act.put, List.setIfInBounds_toArray, List.set_cons_zero, List.set_cons_succ]
      refine held_takeD 2 (.slice At kt ct) (some 158) (by rfl) (by rfl) (by kernel_rfl) (by kernel_rfl) (by kernel_rfl) (fun _ _ _ h => h) (.inl ⟨by rfl, fun _ _ => by rfl⟩) (hHeld) ?_
      simp only [Act.put, List.setIfInBounds_toArray, List.set_cons_zero, List.set_cons_succ]
      refine held_two 1 3 (by kernel_rfl) (by rfl) (by rfl) (fun K' hK' => ?_) (fun K' hK' => ?_)
      · have hcu : wr.drew.cell? ⟨gX, 20, none⟩ = some u := by { rw [((unhide RU).kept d3).cell]; exact log_20 sf hslf u _ }
        go_simp
        refine hK'.out _ _ (ChgS.of d3) ?_
        clear hK' K'
        refine held_one 3 (by kernel_rfl) (by rfl) (fun K' hK' => ?_)
        go_simp
        refine (word_any At kt ct mt wr.drew (unhide HNW _ d3) hmt).mono ?_
        rintro e wk ⟨rfl, bk⟩
        have dk := d3.trans (bk.mono d3.size)
        refine hK'.out _ _ (ChgS.of dk) ?_
        clear hK' K'
        refine held_one 4 (by kernel_rfl) (by rfl) (fun K' hK' => ?_)
        refine if_build_one (some 160) rfl (by rfl) 62 (.tmp 159) rfl 29 32 32 Sakg.underlying62 (bv (zeros 32)) infoW hz32 (by omega) (by omega) (bv (be32 mt)) rfl hb32 (fun wn rn bn sn => ?_)
        have dn := dk.trans (bn.mono dk.size)
        refine hK'.out _ _ (ChgS.of dn) ?_
        clear hK' K'
        simp only [Act.put, List.setIfInBounds_toArray, List.set_cons_zero, List.set_cons_succ]
        refine held_one 5 (by kernel_rfl) (by rfl) (fun K' hK' => ?_)
        refine if_append_at (some 161) rfl (by rfl) (.tmp 157) (.tmp 160) 62 rfl 29 32 32 Sakg.underlying62 (bv (zeros 32)) infoW hz32 (by omega) W.heap.size u j trows rfl (own_kept (unhide HOU) dn) _ 29 (bv (be32 mt)) rfl rn hb32 (bv_one _) (by omega) (by omega) (by have := dn.size; omega) (fun vp wp op grp bkp => ?_)
        have dp : ChgS (fun k => k = gX ∨ u.ownBlock = some k) wr wp := (ChgS.of (G := (fun k => k = gX ∨ u.ownBlock = some k)) dn).then (ChgS.grown (G := (fun k => k = gX ∨ u.ownBlock = some k)) grp (fun k hk => .inr hk)) (fun _ h _ => h)
        obtain ⟨Ap, cp, rfl⟩ := own_slice op
        refine hK'.out _ _ (dp) ?_
        clear hK' K'
        simp only [Act.put, List.setIfInBounds_toArray, List.set_cons_zero, List.set_cons_succ]
        refine held_takeD 6 (.pointer (some ⟨gX, 20, none⟩)) (some 162) (by rfl) (by rfl) (by kernel_rfl) (by kernel_rfl) (by kernel_rfl) (fun _ _ _ h => h) (.inl ⟨by rfl, fun _ _ => by go_simp⟩) (dp) ?_
        simp only [Act.put, List.setIfInBounds_toArray, List.set_cons_zero, List.set_cons_succ]
        refine held_one 7 (by kernel_rfl) (by rfl) (fun K' hK' => ?_)
        have hXp : RowT 311 wp gX (bv sf ++ [u, .slice D m1 cD]) := by { unfold RowT; rw [grp.block gX (by have := dn.size; omega) (fun h => by have := (hul _ h.symm).1; omega)]; exact (unhide RU).kept dn }
        have hcx : wp.cell? ⟨gX, 20, none⟩ = some u := by { rw [hXp.cell]; exact log_20 sf hslf u _ }
        have hfz := hXp.froz 20
        go_simp
        obtain ⟨wS, hwS⟩ : ∃ x, x = wp.setCell ⟨gX, 20, none⟩ (Value.slice Ap (j + 1) cp) := ⟨_, rfl⟩
        rw [← hwS]
        have oS : Only gX wp wS := hwS ▸ (Only.refl gX wp).setCell 20 (Value.slice Ap (j + 1) cp)
        have rS := hwS ▸ hXp.set 20 (Value.slice Ap (j + 1) cp)
        have dS : ChgS (fun k => k = gX ∨ u.ownBlock = some k) wr wS := dp.then (ChgS.only (G := (fun k => k = gX ∨ u.ownBlock = some k)) oS (.inl rfl)) (fun _ h _ => h)
        clear hwS
        refine hK'.out _ _ (dS) ?_
        clear hK' K'
        refine wpAnyH_done (by kernel_rfl) ?_ _
        refine NoPanic.normal ?_
        have zn := bn.size
        have zk := bk.size
        have zd : wr.drew.heap.size = wr.heap.size := rfl
        have znn := dn.size
        have hne : ∀ k, (Value.slice Ap (j + 1) cp).ownBlock = some k → k ≠ gX := fun k hk h0 => by { subst h0; rcases bkp with h | h; (rw [h] at hk; have := (hul _ hk).1; omega); (rw [h] at hk; have := Option.some.inj hk; omega) }
        have own2 := op.kept (row := some gX) ⟨oS.os, oS.tape, oS.output, Nat.le_of_eq oS.size.symm, fun k hk hn => oS.block k (fun e => hn (by rw [e]))⟩ (.inr (fun h => hne gX h rfl))
        have chS : ChgS (· = gX) W wS := hch.then dS (fun k hg hk => by rcases hg with h | h; (exact h); (have := (hul _ h).1; omega))
        rw [log_set20 sf hslf] at rS
        have rS' := hide rS
        have own2' := hide own2
        clear rS own2
        go_wp2
        go_roundg (n - 1 - j)
        case measure => omega
        case rel => exact ⟨j + 1, (Value.slice Ap (j + 1) cp), trows ++ [bv (be32 mt)], by omega, rfl, unhide rS', unhide own2', chS, topics_len _ htl, topics_all hta hb32 (bv_one _)⟩
      · go_simp
        refine (word_any At kt ct mt wr.drew (unhide HNW _ d3) hmt).mono ?_
        rintro e wk ⟨rfl, bk⟩
        have dk := d3.trans (bk.mono d3.size)
        refine hK'.out _ _ (ChgS.of dk) ?_
        clear hK' K'
        refine held_two 1 4 (by kernel_rfl) (by rfl) (by rfl) (fun K' hK' => ?_) (fun K' hK' => ?_)
        · have hcu : wk.cell? ⟨gX, 20, none⟩ = some u := by { rw [((unhide RU).kept dk).cell]; exact log_20 sf hslf u _ }
          go_simp
          refine hK'.out _ _ (ChgS.of dk) ?_
          clear hK' K'
          refine held_one 4 (by kernel_rfl) (by rfl) (fun K' hK' => ?_)
          refine if_build_one (some 160) rfl (by rfl) 62 (.tmp 159) rfl 29 32 32 Sakg.underlying62 (bv (zeros 32)) infoW hz32 (by omega) (by omega) (bv (be32 mt)) rfl hb32 (fun wn rn bn sn => ?_)
          have dn := dk.trans (bn.mono dk.size)
          refine hK'.out _ _ (ChgS.of dn) ?_
          clear hK' K'
          simp only [Act.put, List.setIfInBounds_toArray, List.set_cons_zero, List.set_cons_succ]
          refine held_one 5 (by kernel_rfl) (by rfl) (fun K' hK' => ?_)
          refine if_append_at (some 161) rfl (by rfl) (.tmp 157) (.tmp 160) 62 rfl 29 32 32 Sakg.underlying62 (bv (zeros 32)) infoW hz32 (by omega) W.heap.size u j trows rfl (own_kept (unhide HOU) dn) _ 29 (bv (be32 mt)) rfl rn hb32 (bv_one _) (by omega) (by omega) (by have := dn.size; omega) (fun vp wp op grp bkp => ?_)
          have dp : ChgS (fun k => k = gX ∨ u.ownBlock = some k) wr wp := (ChgS.of (G := (fun k => k = gX ∨ u.ownBlock = some k)) dn).then (ChgS.grown (G := (fun k => k = gX ∨ u.ownBlock = some k)) grp (fun k hk => .inr hk)) (fun _ h _ => h)
          obtain ⟨Ap, cp, rfl⟩ := own_slice op
          refine hK'.out _ _ (dp) ?_
          clear hK' K'
          simp only [Act.put, List.setIfInBounds_toArray, List.set_cons_zero, List.set_cons_succ]
          refine held_takeD 6 (.pointer (some ⟨gX, 20, none⟩)) (some 162) (by rfl) (by rfl) (by kernel_rfl) (by kernel_rfl) (by kernel_rfl) (fun _ _ _ h => h) (.inl ⟨by rfl, fun _ _ => by go_simp⟩) (dp) ?_
          simp only [Act.put, List.setIfInBounds_toArray, List.set_cons_zero, List.set_cons_succ]
          refine held_one 7 (by kernel_rfl) (by rfl) (fun K' hK' => ?_)
          have hXp : RowT 311 wp gX (bv sf ++ [u, .slice D m1 cD]) := by { unfold RowT; rw [grp.block gX (by have := dn.size; omega) (fun h => by have := (hul _ h.symm).1; omega)]; exact (unhide RU).kept dn }
          have hcx : wp.cell? ⟨gX, 20, none⟩ = some u := by { rw [hXp.cell]; exact log_20 sf hslf u _ }
          have hfz := hXp.froz 20
          go_simp
          obtain ⟨wS, hwS⟩ : ∃ x, x = wp.setCell ⟨gX, 20, none⟩ (Value.slice Ap (j + 1) cp) := ⟨_, rfl⟩
          rw [← hwS]
          have oS : Only gX wp wS := hwS ▸ (Only.refl gX wp).setCell 20 (Value.slice Ap (j + 1) cp)
          have rS := hwS ▸ hXp.set 20 (Value.slice Ap (j + 1) cp)
          have dS : ChgS (fun k => k = gX ∨ u.ownBlock = some k) wr wS := dp.then (ChgS.only (G := (fun k => k = gX ∨ u.ownBlock = some k)) oS (.inl rfl)) (fun _ h _ => h)
          clear hwS
          refine hK'.out _ _ (dS) ?_
          clear hK' K'
          refine wpAnyH_done (by kernel_rfl) ?_ _
          refine NoPanic.normal ?_
          have zn := bn.size
          have zk := bk.size
          have zd : wr.drew.heap.size = wr.heap.size := rfl
          have znn := dn.size
          have hne : ∀ k, (Value.slice Ap (j + 1) cp).ownBlock = some k → k ≠ gX := fun k hk h0 => by { subst h0; rcases bkp with h | h; (rw [h] at hk; have := (hul _ hk).1; omega); (rw [h] at hk; have := Option.some.inj hk; omega) }
          have own2 := op.kept (row := some gX) ⟨oS.os, oS.tape, oS.output, Nat.le_of_eq oS.size.symm, fun k hk hn => oS.block k (fun e => hn (by rw [e]))⟩ (.inr (fun h => hne gX h rfl))
          have chS : ChgS (· = gX) W wS := hch.then dS (fun k hg hk => by rcases hg with h | h; (exact h); (have := (hul _ h).1; omega))
          rw [log_set20 sf hslf] at rS
          have rS' := hide rS
          have own2' := hide own2
          clear rS own2
          go_wp2
          go_roundg (n - 1 - j)
          case measure => omega
          case rel => exact ⟨j + 1, (Value.slice Ap (j + 1) cp), trows ++ [bv (be32 mt)], by omega, rfl, unhide rS', unhide own2', chS, topics_len _ htl, topics_all hta hb32 (bv_one _)⟩
        · refine if_build_one (some 160) rfl (by rfl) 62 (.tmp 159) rfl 29 32 32 Sakg.underlying62 (bv (zeros 32)) infoW hz32 (by omega) (by omega) (bv (be32 mt)) rfl hb32 (fun wn rn bn sn => ?_)
          have dn := dk.trans (bn.mono dk.size)
          refine hK'.out _ _ (ChgS.of dn) ?_
          clear hK' K'
          simp only [Act.put, List.setIfInBounds_toArray, List.set_cons_zero, List.set_cons_succ]
          refine held_one 1 (by kernel_rfl) (by rfl) (fun K' hK' => ?_)
          have hcu : wn.cell? ⟨gX, 20, none⟩ = some u := by { rw [((unhide RU).kept dn).cell]; exact log_20 sf hslf u _ }
          go_simp
          refine hK'.out _ _ (ChgS.of dn) ?_
          clear hK' K'
          refine held_one 5 (by kernel_rfl) (by rfl) (fun K' hK' => ?_)
          refine if_append_at (some 161) rfl (by rfl) (.tmp 157) (.tmp 160) 62 rfl 29 32 32 Sakg.underlying62 (bv (zeros 32)) infoW hz32 (by omega) W.heap.size u j trows rfl (own_kept (unhide HOU) dn) _ 29 (bv (be32 mt)) rfl rn hb32 (bv_one _) (by omega) (by omega) (by have := dn.size; omega) (fun vp wp op grp bkp => ?_)
          have dp : ChgS (fun k => k = gX ∨ u.ownBlock = some k) wr wp := (ChgS.of (G := (fun k => k = gX ∨ u.ownBlock = some k)) dn).then (ChgS.grown (G := (fun k => k = gX ∨ u.ownBlock = some k)) grp (fun k hk => .inr hk)) (fun _ h _ => h)
          obtain ⟨Ap, cp, rfl⟩ := own_slice op
          refine hK'.out _ _ (dp) ?_
          clear hK' K'
          simp only [Act.put, List.setIfInBounds_toArray, List.set_cons_zero, List.set_cons_succ]
          refine held_takeD 6 (.pointer (some ⟨gX, 20, none⟩)) (some 162) (by rfl) (by rfl) (by kernel_rfl) (by kernel_rfl) (by kernel_rfl) (fun _ _ _ h => h) (.inl ⟨by rfl, fun _ _ => by go_simp⟩) (dp) ?_
          simp only [Act.put, List.setIfInBounds_toArray, List.set_cons_zero, List.set_cons_succ]
          refine held_one 7 (by kernel_rfl) (by rfl) (fun K' hK' => ?_)
          have hXp : RowT 311 wp gX (bv sf ++ [u, .slice D m1 cD]) := by { unfold RowT; rw [grp.block gX (by have := dn.size; omega) (fun h => by have := (hul _ h.symm).1; omega)]; exact (unhide RU).kept dn }
          have hcx : wp.cell? ⟨gX, 20, none⟩ = some u := by { rw [hXp.cell]; exact log_20 sf hslf u _ }
          have hfz := hXp.froz 20
          go_simp
          obtain ⟨wS, hwS⟩ : ∃ x, x = wp.setCell ⟨gX, 20, none⟩ (Value.slice Ap (j + 1) cp) := ⟨_, rfl⟩
          rw [← hwS]
          have oS : Only gX wp wS := hwS ▸ (Only.refl gX wp).setCell 20 (Value.slice Ap (j + 1) cp)
          have rS := hwS ▸ hXp.set 20 (Value.slice Ap (j + 1) cp)
          have dS : ChgS (fun k => k = gX ∨ u.ownBlock = some k) wr wS := dp.then (ChgS.only (G := (fun k => k = gX ∨ u.ownBlock = some k)) oS (.inl rfl)) (fun _ h _ => h)
          clear hwS
          refine hK'.out _ _ (dS) ?_
          clear hK' K'
          refine wpAnyH_done (by kernel_rfl) ?_ _
          refine NoPanic.normal ?_
          have zn := bn.size
          have zk := bk.size
          have zd : wr.drew.heap.size = wr.heap.size := rfl
          have znn := dn.size
          have hne : ∀ k, (Value.slice Ap (j + 1) cp).ownBlock = some k → k ≠ gX := fun k hk h0 => by { subst h0; rcases bkp with h | h; (rw [h] at hk; have := (hul _ hk).1; omega); (rw [h] at hk; have := Option.some.inj hk; omega) }
          have own2 := op.kept (row := some gX) ⟨oS.os, oS.tape, oS.output, Nat.le_of_eq oS.size.symm, fun k hk hn => oS.block k (fun e => hn (by rw [e]))⟩ (.inr (fun h => hne gX h rfl))
          have chS : ChgS (· = gX) W wS := hch.then dS (fun k hg hk => by rcases hg with h | h; (exact h); (have := (hul _ h).1; omega))
          rw [log_set20 sf hslf] at rS
          have rS' := hide rS
          have own2' := hide own2
          clear rS own2
          go_wp2
          go_roundg (n - 1 - j)
          case measure => omega
          case rel => exact ⟨j + 1, (Value.slice Ap (j + 1) cp), trows ++ [bv (be32 mt)], by omega, rfl, unhide rS', unhide own2', chS, topics_len _ htl, topics_all hta hb32 (bv_one _)⟩
    · obtain rfl : j = n := by omega
      as_aux_lemma =>
      have hsr0 := unhide HSR
      have hT := hsr0.cw.ther
      have hsr : SR G bw gf cs fr d (f :: r) x wr := hsr0.kept hbW
      have hDr := unhide HKD wr hch
      obtain ⟨Au, cu, rfl, hkl⟩ := KLog.made (G := G) (gX := gX) hT dW0.size hslf hou htl hta hDr ND
      obtain ⟨aL, lL, cL, hc4, hNL⟩ := hsr.logs
      have hlL : lL ≤ 900000 := by have := hNL.len; have := hg.nl; omega
      obtain ⟨lrow, hlr⟩ : ∃ lrow, lrow = bv sf ++ [Value.slice Au j cu, .slice D m1 cD] := ⟨_, rfl⟩
      rw [← hlr] at hkl ru
      have hll : lrow.length = 22 := hkl.len
      have hone := hkl.one
      have hgxn : ¬ G gX := fun hh => by have := hT _ hh; omega
      have hszl : (Sakg.prog.info? 311).map (·.size) = some lrow.length := by rw [hll]; exact sizeLog
      have hZ22' : (bv (zeros 20) ++ [nilS, nilS]).length = 22 := hZ22
      have d3 : Below wr.heap.size wr wr.drew := Quiet.below ⟨1, rfl⟩ _
      have hrl : ∀ wz, ChgS G wr wz → wz.rangeAt gX 0 lrow := fun wz hz => by
        have h2 : RowT 311 wz gX lrow := by
          unfold RowT
          rw [hz.block gX ru.lt hgxn]
          exact ru
        exact h2.rangeAll
      have hgl := Gr.log hg.snd (l := ⟨sf, j, m1⟩) hnl hn
      have HGL := hide hgl
      have HKL := hide hkl
      have HRL := hide hrl
      have HSW := hide hsr
      have HNL := hide hNL
      have HC4 := hide hc4
      clear hgl hkl hrl hsr hsr0 hNL hc4 hDr hou ru hlr
      go_upto_region 32 with fail
      refine wp_region_noPanic ?_
      refine wp_region_held_drew (S := fun w' => ChgS G wr w') (by kernel_rfl) (ChgS.of d3) (fun hHeld => ?_)
      refine held_takeD 0 (.pointer (some ⟨bw, 0, none⟩)) (some 164) (by rfl) (by rfl) (by kernel_rfl) (by kernel_rfl) (by kernel_rfl) (fun _ _ _ h => h) (.inl ⟨by rfl, fun _ _ => by rfl⟩) (hHeld) ?_
      simp only [Act.put, List.setIfInBounds_toArray, List.set_cons_zero, List.set_cons_succ]
      refine held_takeD 1 (.pointer (some ⟨bw, 0, none⟩)) (some 165) (by rfl) (by rfl) (by kernel_rfl) (by kernel_rfl) (by kernel_rfl) (fun _ _ _ h => h) (.inl ⟨by rfl, fun _ _ => by rfl⟩) (hHeld) ?_
      simp only [Act.put, List.setIfInBounds_toArray, List.set_cons_zero, List.set_cons_succ]
      refine held_takeD 2 (.pointer (some ⟨bw, 0, none⟩)) (some 166) (by rfl) (by rfl) (by kernel_rfl) (by kernel_rfl) (by kernel_rfl) (fun _ _ _ h => h) (.inl ⟨by rfl, fun _ _ => by go_simp⟩) (hHeld) ?_
      simp only [Act.put, List.setIfInBounds_toArray, List.set_cons_zero, List.set_cons_succ]
      refine held_takeD 3 (.pointer (some ⟨bw, 0, none⟩)) (some 167) (by rfl) (by rfl) (by kernel_rfl) (by kernel_rfl) (by kernel_rfl) (fun _ _ _ h => h) (.inl ⟨by rfl, fun _ _ => by go_simp⟩) (hHeld) ?_
      simp only [Act.put, List.setIfInBounds_toArray, List.set_cons_zero, List.set_cons_succ]
      refine held_takeD 4 (.pointer (some ⟨bw, 4, none⟩)) (some 168) (by rfl) (by rfl) (by kernel_rfl) (by kernel_rfl) (by kernel_rfl) (fun _ _ _ h => h) (.inl ⟨by rfl, fun _ _ => by go_simp⟩) (hHeld) ?_
      simp only [Act.put, List.setIfInBounds_toArray, List.set_cons_zero, List.set_cons_succ]
      refine held_takeD 6 (.agg lrow.toArray) (some 170) (by rfl) (by rfl) (by kernel_rfl) (by kernel_rfl) (by kernel_rfl) (fun _ _ _ h => h) (yieldsIf_load_mid (by rfl) _ _ rfl _ _ rfl _ _ (fun wz hS => unhide HRL wz hS) Sakg.underlying311 rfl hszl) (hHeld) ?_
      simp only [Act.put, List.setIfInBounds_toArray, List.set_cons_zero, List.set_cons_succ]
      refine held_two 5 7 (by kernel_rfl) (by rfl) (by rfl) (fun K' hK' => ?_) (fun K' hK' => ?_)
      · have hcu : wr.drew.cell? ⟨bw, 4, none⟩ = some (.slice aL lL cL) := by { rw [((unhide HSW).cw.row.kept d3).cell]; exact unhide HC4 }
        go_simp
        refine hK'.out _ _ (ChgS.of d3) ?_
        clear hK' K'
        refine held_one 7 (by kernel_rfl) (by rfl) (fun K' hK' => ?_)
        refine if_build_one (some 171) rfl (by rfl) 46 (.tmp 170) rfl 311 22 72 Sakg.underlying46 _ infoLog hZ22' (by omega) (by omega) lrow rfl hll (fun wn rn bn sn => ?_)
        have dn := d3.trans (bn.mono d3.size)
        refine hK'.out _ _ (ChgS.of dn) ?_
        clear hK' K'
        simp only [Act.put, List.setIfInBounds_toArray, List.set_cons_zero, List.set_cons_succ]
        refine held_one 8 (by kernel_rfl) (by rfl) (fun K' hK' => ?_)
        refine if_append_logs (some 172) rfl (by rfl) (.tmp 169) (.tmp 171) rfl aL lL cL rfl ((unhide HNL).go (Mv.of dn)) hlL _ 311 lrow rfl rn hll hone (fun g' c' rows junk wp own hrp hrl hes hjl hcl hcm hgg grp how => ?_)
        have dp : ChgS G wr wp := (ChgS.of (G := G) dn).then (ChgS.grown (G := G) grp (fun k hk => (how k hk).1)) (fun _ h _ => h)
        refine hK'.out _ _ (dp) ?_
        clear hK' K'
        simp only [Act.put, List.setIfInBounds_toArray, List.set_cons_zero, List.set_cons_succ]
        refine held_takeD 9 (.pointer (some ⟨bw, 0, none⟩)) (some 173) (by rfl) (by rfl) (by kernel_rfl) (by kernel_rfl) (by kernel_rfl) (fun _ _ _ h => h) (.inl ⟨by rfl, fun _ _ => by go_simp⟩) (dp) ?_
        simp only [Act.put, List.setIfInBounds_toArray, List.set_cons_zero, List.set_cons_succ]
        refine held_takeD 10 (.pointer (some ⟨bw, 0, none⟩)) (some 174) (by rfl) (by rfl) (by kernel_rfl) (by kernel_rfl) (by kernel_rfl) (fun _ _ _ h => h) (.inl ⟨by rfl, fun _ _ => by go_simp⟩) (dp) ?_
        simp only [Act.put, List.setIfInBounds_toArray, List.set_cons_zero, List.set_cons_succ]
        refine held_takeD 11 (.pointer (some ⟨bw, 4, none⟩)) (some 175) (by rfl) (by rfl) (by kernel_rfl) (by kernel_rfl) (by kernel_rfl) (fun _ _ _ h => h) (.inl ⟨by rfl, fun _ _ => by go_simp⟩) (dp) ?_
        simp only [Act.put, List.setIfInBounds_toArray, List.set_cons_zero, List.set_cons_succ]
        refine held_one 12 (by kernel_rfl) (by rfl) (fun K' hK' => ?_)
        have hBp : RowT 107 wp bw cs := ((unhide HSW).cw.row.kept dn).grown grp (fun hh => by { obtain ⟨_, cs', h2⟩ := how bw hh.symm; exact absurd (RowT.types h2 ((unhide HSW).cw.row.kept dn)) (by decide) })
        have hcx : wp.cell? ⟨bw, 4, none⟩ = some (.slice aL lL cL) := by { rw [hBp.cell]; exact unhide HC4 }
        have hfz := hBp.froz 4
        obtain ⟨G', hW', hS', hC', hT'⟩ := SR.logged (unhide HSW) dn (unhide HKL) hrp hrl hes hjl hcl hcm hgg grp how
        have HS' := hide hS'
        have HC' := hide hC'
        have HT' := hide hT'
        clear hS' hC' hT' hBp hes hrp
        go_simp
        have dS := unhide HC'
        refine hK'.out _ _ (dS) ?_
        clear hK' K'
        refine wpAnyH_done (by kernel_rfl) ?_ _
        refine NoPanic.normal ?_
        clear dS
        go_wp2
        go_ret
        exact ⟨G', _, _, rfl, ⟨hW'.sub, fun i hi hl => hW'.new i hi (by have := hbW.size; omega)⟩, unhide HS', ⟨_, (unhide HGL).mono (by omega), rfl⟩, (ChgS.of (G := G) (hbW.mono (Nat.le_refl _))).then (unhide HC') (fun _ h _ => h), (Tm.of hbW).trans (unhide HT')⟩
      · refine if_build_one (some 171) rfl (by rfl) 46 (.tmp 170) rfl 311 22 72 Sakg.underlying46 _ infoLog hZ22' (by omega) (by omega) lrow rfl hll (fun wn rn bn sn => ?_)
        have dn := d3.trans (bn.mono d3.size)
        refine hK'.out _ _ (ChgS.of dn) ?_
        clear hK' K'
        simp only [Act.put, List.setIfInBounds_toArray, List.set_cons_zero, List.set_cons_succ]
        refine held_one 5 (by kernel_rfl) (by rfl) (fun K' hK' => ?_)
        have hcu : wn.cell? ⟨bw, 4, none⟩ = some (.slice aL lL cL) := by { rw [((unhide HSW).cw.row.kept dn).cell]; exact unhide HC4 }
        go_simp
        refine hK'.out _ _ (ChgS.of dn) ?_
        clear hK' K'
        refine held_one 8 (by kernel_rfl) (by rfl) (fun K' hK' => ?_)
        refine if_append_logs (some 172) rfl (by rfl) (.tmp 169) (.tmp 171) rfl aL lL cL rfl ((unhide HNL).go (Mv.of dn)) hlL _ 311 lrow rfl rn hll hone (fun g' c' rows junk wp own hrp hrl hes hjl hcl hcm hgg grp how => ?_)
        have dp : ChgS G wr wp := (ChgS.of (G := G) dn).then (ChgS.grown (G := G) grp (fun k hk => (how k hk).1)) (fun _ h _ => h)
        refine hK'.out _ _ (dp) ?_
        clear hK' K'
        simp only [Act.put, List.setIfInBounds_toArray, List.set_cons_zero, List.set_cons_succ]
        refine held_takeD 9 (.pointer (some ⟨bw, 0, none⟩)) (some 173) (by rfl) (by rfl) (by kernel_rfl) (by kernel_rfl) (by kernel_rfl) (fun _ _ _ h => h) (.inl ⟨by rfl, fun _ _ => by go_simp⟩) (dp) ?_
        simp only [Act.put, List.setIfInBounds_toArray, List.set_cons_zero, List.set_cons_succ]
        refine held_takeD 10 (.pointer (some ⟨bw, 0, none⟩)) (some 174) (by rfl) (by rfl) (by kernel_rfl) (by kernel_rfl) (by kernel_rfl) (fun _ _ _ h => h) (.inl ⟨by rfl, fun _ _ => by go_simp⟩) (dp) ?_
        simp only [Act.put, List.setIfInBounds_toArray, List.set_cons_zero, List.set_cons_succ]
        refine held_takeD 11 (.pointer (some ⟨bw, 4, none⟩)) (some 175) (by rfl) (by rfl) (by kernel_rfl) (by kernel_rfl) (by kernel_rfl) (fun _ _ _ h => h) (.inl ⟨by rfl, fun _ _ => by go_simp⟩) (dp) ?_
        simp only [Act.put, List.setIfInBounds_toArray, List.set_cons_zero, List.set_cons_succ]
        refine held_one 12 (by kernel_rfl) (by rfl) (fun K' hK' => ?_)
        have hBp : RowT 107 wp bw cs := ((unhide HSW).cw.row.kept dn).grown grp (fun hh => by { obtain ⟨_, cs', h2⟩ := how bw hh.symm; exact absurd (RowT.types h2 ((unhide HSW).cw.row.kept dn)) (by decide) })
        have hcx : wp.cell? ⟨bw, 4, none⟩ = some (.slice aL lL cL) := by { rw [hBp.cell]; exact unhide HC4 }
        have hfz := hBp.froz 4
        obtain ⟨G', hW', hS', hC', hT'⟩ := SR.logged (unhide HSW) dn (unhide HKL) hrp hrl hes hjl hcl hcm hgg grp how
        have HS' := hide hS'
        have HC' := hide hC'
        have HT' := hide hT'
        clear hS' hC' hT' hBp hes hrp
        go_simp
        have dS := unhide HC'
        refine hK'.out _ _ (dS) ?_
        clear hK' K'
        refine wpAnyH_done (by kernel_rfl) ?_ _
        refine NoPanic.normal ?_
        clear dS
        go_wp2
        go_ret
        exact ⟨G', _, _, rfl, ⟨hW'.sub, fun i hi hl => hW'.new i hi (by have := hbW.size; omega)⟩, unhide HS', ⟨_, (unhide HGL).mono (by omega), rfl⟩, (ChgS.of (G := G) (hbW.mono (Nat.le_refl _))).then (unhide HC') (fun _ h _ => h), (Tm.of hbW).trans (unhide HT')⟩
end

end Go.Proofs.YgcsakGreat
