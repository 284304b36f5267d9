/-
  law: Conserves.
-/
import Derived.Test.YgcsakGreatLbB
import Derived.Test.YgcsakGreatLcF
import Derived.Test.YgcsakGreatKuB
namespace Go.Proofs.YgcsakGreat
set_option linter.unusedVariables false
set_option linter.unusedSimpArgs false
set_option maxRecDepth 100000
open Go.RowKit

/-- a row of transactions: one of them -/
def TxRow (w : World) (r : List Value) (d : YTx) : Prop := ∃ A1 k1 c1 A2 k2 c2, TxC r d A1 k1 c1 A2 k2 c2 ∧ Src w A1 k1 c1 d.data ∧ AccsR w A2 k2 c2 d.access
def zeroTxR : List Value := bv (zeros 20) ++ (bv (zeros 20) ++ ([.bool false, .int .u64 0, .int .u64 0] ++ (bv (zeros 32) ++ (bv (zeros 32) ++ ([nilS, .bool false] ++ (bv (zeros 32) ++ (bv (zeros 32) ++ [nilS])))))))
theorem infoTxR : (Sakg.prog.info? 33).map (fun i => (i.zero, i.size)) = some (some (.agg zeroTxR.toArray), 174) := by kernel_rfl
def zeroT : YTx := ⟨[], [], false, 0, 0, [], [], [], false, [], [], []⟩
/-- the chain between transactions, i of them played -/
structure Between (G : Nat → Prop) (bw : Nat) (fee : List Int) (W : World) (i B : Nat) (wr : World) : Prop where
  si : ∃ cs ds x, SI G bw 0 cs (freshD ds) x wr ∧ XB x ∧ Good B (freshD ds) ∧ wt (freshD ds) ≤ 340000 + i * 425010000 ∧ x.applied ≤ i ∧ x.fee = fee
  far : ∀ j, G j → W.heap.size ≤ j
  old : Below W.heap.size W wr
  ther : Ther G wr
theorem Between.kept {G : Nat → Prop} {bw : Nat} {fee : List Int} {W wr wz : World} {i B : Nat} (h : Between G bw fee W i B wr) (hb : Below wr.heap.size wr wz) : Between G bw fee W i B wz := by
  obtain ⟨⟨cs, ds, x, h1, h2⟩, h3, h4, h5⟩ := h
  exact ⟨⟨cs, ds, x, h1.kept hb, h2⟩, h3, h4.trans (hb.mono h4.size), h5.go hb.size⟩
/-- what Apply leaves, told by the accounts' sum -/
def ApS (G : Nat → Prop) (bw : Nat) (fee : List Int) (W : World) (i B : Nat) (w : World) (e : Ending) (w' : World) : Prop :=
  ∃ (row : List Value) (used : Nat) (G' : Nat → Prop) (B' : Nat), e = .returned (.agg row.toArray) ∧ row.length = 25 ∧ (∀ v ∈ row, v.oneCell' = true) ∧ row[2]? = some (.int .u64 used) ∧ used ≤ 1048576 ∧ B' + used * beN fee = B ∧ Between G' bw fee W (i + 1) B' w' ∧ ChgS G w w'
theorem Between.apply {G : Nat → Prop} {bw : Nat} {fee : List Int} {W w : World} {i B : Nat} (h : Between G bw fee W i B w) (hi : i ≤ 3) (r : List Value) (d : YTx) (A1 : Option Addr) (k1 c1 : Nat) (A2 : Option Addr) (k2 c2 : Nat) (ht : TxC r d A1 k1 c1 A2 k2 c2) (hd0 : Src W A1 k1 c1 d.data) (ha0 : AccsR W A2 k2 c2 d.access) :
    Calls Sakg.prog 13 #[.pointer (some ⟨bw, 0, none⟩), .agg r.toArray] w (ApS G bw fee W i B w) := by
  obtain ⟨⟨cs, ds, x, h1, h2, h3, h4, h5, h6⟩, hf, ho, hth⟩ := h
  have hm : i * 425010000 ≤ 3 * 425010000 := Nat.mul_le_mul_right _ hi
  refine (apply_c W hf ho h1 h2 h3 (by omega) (by omega) r d A1 k1 c1 A2 k2 c2 ht hd0 ha0).mono ?_
  rintro e w' ⟨row, used, G', cs', ds', x', B', rfl, a1, a2, a3, a4, a5, a6, a7, a8, a9, a10, a11, a12, a13⟩
  have hz := ho.size
  have ho' : Below W.heap.size W w' := ho.trans (a13.below W.heap.size hf hz)
  rw [h6] at a8 a10
  refine ⟨row, used, G', B', rfl, a1, a2, a3, a4, a8, ⟨⟨cs', ds', x', a5, a6, a7, by omega, by omega, a10⟩, fun j hj => ?_, ho', a5.cw.ther⟩, a13⟩
  rcases Nat.lt_or_ge j w.heap.size with hl | hl
  · exact hf j (a12.new j hj hl)
  · omega
/-- what Export answers -/
theorem Between.export {G : Nat → Prop} {bw : Nat} {fee : List Int} {W w : World} {i B : Nat} (h : Between G bw fee W i B w) :
    Calls Sakg.prog 16 #[.pointer (some ⟨bw, 0, none⟩)] w fun e w' => (∃ A l c os, e = .returned (.slice A l c) ∧ OAcctsR w' A l c os ∧ l ≤ 1000000 ∧ FormO os ∧ (∀ o ∈ os, SoundO o) ∧ balsN os = B) ∧ Below w.heap.size w w' := by
  obtain ⟨⟨cs, ds, x, h1, h2, h3, -⟩, -⟩ := h
  refine (export_any h1.cw h3).mono ?_
  rintro e w' ⟨A, l, c, rfl, a1, a2⟩
  have hsz : szA ds ≤ 900000 := by
    have := h3.sz
    have e : szW (freshD ds) = szA ds + 0 + 0 + 0 + 0 + 0 + 0 := rfl
    omega
  have hll := a1.len
  have hol := outs_len ds
  have hna := szA_ge ds
  have e2 : (freshD ds).accts = ds := rfl
  rw [e2] at a1 hll
  exact ⟨⟨A, l, c, outs ds, rfl, a1, by omega, form_outs h3.acc h3.tot hsz, sound_outs h3.acc, good_bals h3.acc h3.tot⟩, a2⟩
set_option maxHeartbeats 16000000 in
theorem conserves_any (ao : Option Addr) (l c : Nat) (ds : List OAcct) (re : List Value) (cb : List Int) (nm tm gl : Nat) (rn ch fee : List Int) (A3 : Option Addr) (k3 c3 : Nat) (ks : List (List Int)) (T : Option Addr) (lt ct : Nat) (rowsT : List (List Value)) (xs : List YTx) (w : World)
    (hds : OAcctsR w ao l c ds) (hl : l ≤ 140737488355328) (he : EnvX re cb nm tm gl rn ch fee A3 k3 c3) (hH : wordsR w A3 k3 c3 ks) (hk3 : k3 ≤ 140737488355328)
    (hsm : Small ds) (hrx : Rws w 174 T lt ct rowsT) (hex : Each (TxRow w) rowsT xs) :
    Calls Sakg.prog 6 #[.slice ao l c, .agg re.toArray, .slice T lt ct] w fun e w' => e = .returned (.bool true) ∧ Below w.heap.size w w' := by
  obtain ⟨W, hW⟩ : ∃ W, W = w.alloc (.cells re.toArray 64) := ⟨_, rfl⟩
  have hb0 : Below w.heap.size w W := by rw [hW]; exact (Below.refl _ _).alloc (Nat.le_refl _) _
  have hr0 : RowT 64 W w.heap.size re := by rw [hW]; exact RowT.new _ _ _
  have hH1 : ∀ r ∈ ks.map bv, ∀ v ∈ r, v.oneCell' = true := fun r hr v hv => by
    obtain ⟨a, -, rfl⟩ := List.mem_map.1 hr
    exact bv_one _ v hv
  have HS := hide (startable_k ao l c ds re cb gl fee A3 k3 c3 (ks.map bv) W (hds.kept hb0) hl he.c (hH.1.kept hb0) hH1 hk3)
  have hsE : (Sakg.prog.info? 64).map (·.size) = some re.length := by rw [he.c.len]; exact sizeEnv
  have HRE := hide hr0.rangeAll
  have hfeeW := he.c.hfee
  have hfsrc : ∀ wz, Below W.heap.size W wz → Src wz (some ⟨w.heap.size, 87, none⟩) 32 32 fee := fun wz hz => src_of_range (by have := (hr0.kept hz).range 87 32; rwa [he.c.base] at this) hfeeW.byt hfeeW.len max32
  have HFS := hide hfsrc
  have huE := Sakg.underlying64
  have hwW : w.heap.size < W.heap.size := hr0.lt
  have hcap := hrx.le
  clear hr0 hfsrc
  go_enter Sakg.func6, Sakg.ntmps6
  go_upto_region 1 with fail
  rw [← hW]
  clear hW
  go_wp2_with (first
    | ((with_reducible refine at_load 64 ?_); refine wpList_load_g (by rfl) 64 (.tmp 4) rfl w.heap.size 0 rfl re _ (unhide HRE) Sakg.underlying64 rfl hsE ?_))
  refine (unhide HS).mono ?_
  rintro e w2 ⟨b2, hpost⟩
  have b02 : Below w.heap.size w w2 := hb0.trans (b2.mono hb0.size)
  clear HS HRE
  rcases hpost with ⟨hok, rfl⟩ | ⟨hok, bw, cs, rfl, hle, hn, ht, hh⟩
  · clear hok
    go_wp2
    go_ret
    exact ⟨rfl, b02⟩
  · have hwb : worldB ds = true := by simp at hok; exact hok.1
    have hk4 : k3 ≤ 4 := by simp at hok; exact hok.2
    have hl8 : l ≤ 8 := by
      have h1 := hds.len
      have h2 := hwb
      unfold worldB at h2
      simp at h2
      omega
    have hksl : ks.length ≤ 4 := by have h1 := hH.1.len_eq; rw [List.length_map] at h1; omega
    obtain ⟨tot, hsi, hxb⟩ := new_si hn ht hh he hl8 hH.2 hksl
    obtain ⟨hgd, hbP, hsz⟩ := good_world hwb hsm
    have hwt : wt (freshD (ds.map acctOf)) ≤ 340000 := by
      have h2 : wt (freshD (ds.map acctOf)) = 0 + 2500 * (szA (ds.map acctOf) + 0 + 0 + 0 + 0 + 0 + 0 + 0) := rfl
      omega
    have hg0 : Good (balsN ds) (freshD (ds.map acctOf)) := Snd.good ⟨hgd, fun t ht => (by cases ht), fun t ht => (by cases ht), hbP⟩ (by omega)
    have hG0 : ∀ i, i = bw → W.heap.size ≤ i := fun i hi => by omega
    have HBE : Hid (Between (· = bw) bw fee W 0 (balsN ds) w2) := hide ⟨⟨cs, _, _, hsi, hxb, hg0, by omega, Nat.le_refl _, rfl⟩, hG0, b2, hsi.cw.ther⟩
    have HSM := hide (sumOf_any ao l c ds w2 (hds.kept b02) (by omega))
    have HRX := hide hrx
    have HEX := hide hex
    have hbP2 : balsN ds < P256 := hbP
    have hzW := hb0.size
    clear hok hn ht hh hsi hxb hgd hg0 hG0 hrx hex hwt hsz
    go_upto_if 29 with fail
    go_cut [2] (fun s2 wc => ∃ n : Nat, s2 = .slice T n ct ∧ n ≤ 4 ∧ n ≤ lt ∧ wc = w2)
    case first =>
      as_aux_lemma =>
      by_cases h4 : 4 < lt
      · have t4 : decide ((4 : Int) < (lt : Int)) = true := by rw [decide_eq_true_iff]; omega
        obtain ⟨bT, oT, rfl, -, -⟩ := rows_at' zeroT (unhide HRX) (unhide HEX) (by omega)
        have hc4 : 4 ≤ ct := by omega
        have hc4i : (4 : Int) ≤ (ct : Int) := by omega
        go_wp2
        go_meet
        case rel => exact ⟨4, rfl, by omega, by omega, rfl⟩
      · have t4 : decide ((4 : Int) < (lt : Int)) = false := by rw [decide_eq_false_iff_not]; omega
        go_wp2
        go_meet
        case rel => exact ⟨lt, rfl, by omega, by omega, rfl⟩
    case rest =>
      as_aux_lemma =>
      obtain ⟨n, rfl, hn4, hnl, rfl⟩ := hcut
      go_wp2_with fail
      refine (unhide HSM).mono ?_
      rintro e wS ⟨⟨As, kS, cS, rfl, nS, NS⟩, bS⟩
      have HB0 : Hid (Between (· = bw) bw fee W 0 (balsN ds) wS) := hide ((unhide HBE).kept bS)
      have HN0 := hide (KNat.new nS NS (unhide HBE).ther)
      clear nS NS HSM HBE
      go_wp2_with fail
      go_loopg [9, 36] n (fun gk s9 iv wr => ∃ (i : Nat) (G : Nat → Prop) (B : Nat) (A : Option Addr) (k c' : Nat), i + gk = n ∧ iv = .int .i64 i ∧ s9 = .slice A k c' ∧ KNat G wr A k c' B ∧ B < P256 ∧ Between G bw fee W i B wr)
      case atStart => exact ⟨0, _, _, _, _, _, by omega, rfl, rfl, unhide HN0, hbP2, unhide HB0⟩
      case round =>
        obtain ⟨i, G, B, A, k, c', hi, rfl, rfl, hnat, hBP, hbt⟩ := hrel
        have HNAT := hide hnat
        have HBT := hide hbt
        have hoW := hbt.old
        clear hnat hbt
        by_cases hil : i < n
        · as_aux_lemma =>
          obtain ⟨b, off, rfl, hlt, hat⟩ := rows_at' zeroT (unhide HRX) (unhide HEX) (by omega)
          obtain ⟨ri, hrg, A1, k1, c1, A2, k2, c2, htx, hsrc, hacc⟩ := hat i (by omega)
          have hrl := htx.len
          have hszT : (Sakg.prog.info? 33).map (·.size) = some ri.length := by rw [hrl]; exact sizeTx
          have bwr : Below w.heap.size w wr := hb0.trans (hoW.mono hzW)
          have hrg2 := range_below hrg bwr (fun _ => hlt)
          have HRG := hide hrg2
          have HON := hide htx.one
          have HTX := hide htx
          have HSRC := hide (hsrc.kept hb0)
          have HACC := hide (hacc.kept hb0)
          have hzt : zeroTxR.length = 174 := by kernel_rfl
          have HRL := hide hrl
          have HSZT := hide hszT
          clear hat hrg hrg2 htx hsrc hacc hrl hszT
          go_upto_region 10 with (first
            | ((with_reducible refine at_load 33 ?_); refine wpList_load_g (by rfl) 33 (.tmp 38) rfl b _ rfl ri _ (unhide HRG) Sakg.underlying33 rfl (unhide HSZT) ?_)
            | ((with_reducible refine at_alloc 33 ?_); refine wpList_alloc_g (by rfl) 33 rfl zeroTxR 174 infoTxR hzt ?_)
            | ((with_reducible refine at_store 33 ?_); refine wpList_store_whole rfl 33 (.tmp 11) (.tmp 39) rfl _ _ _ ri rfl rfl (RowT.new _ _ _) (by rw [unhide HRL, hzt]) (unhide HSZT) (unhide HON) ?_; intro w1 hr1 hon1; have hbb1 := box_below hon1; clear hon1))
          have b1 := hbb1.1
          have HR1 := hide hr1.rangeAll
          have HAP := hide (((unhide HBT).kept b1).apply (by omega) ri _ A1 k1 c1 A2 k2 c2 (unhide HTX) (unhide HSRC) (unhide HACC))
          have hz25 : (rcptRow 0 nilS 0 (zeros 20)).length = 25 := rfl
          clear hbb1 hr1
          go_upto_region 11 with (first
            | ((with_reducible refine at_load 33 ?_); refine wpList_load_g (by rfl) 33 (.tmp 11) rfl wr.heap.size 0 rfl ri _ (unhide HR1) Sakg.underlying33 rfl (unhide HSZT) ?_)
            | (go_at_call 13; refine (unhide HAP).mono ?_; rintro e w3 ⟨row, us, G', B', rfl, hrl, hro, hr2, hus, hBB, hbt, hc3⟩; have HBT3 := hide hbt; have HR2 := hide hr2; have hszr : (Sakg.prog.info? 48).map (·.size) = some row.length := by { rw [hrl]; exact sizeRcpt }; clear hbt hr2)
            | ((with_reducible refine at_alloc 48 ?_); refine wpList_alloc_g (by rfl) 48 rfl (rcptRow 0 nilS 0 (zeros 20)) 25 infoRcpt hz25 ?_)
            | ((with_reducible refine at_store 48 ?_); refine wpList_store_whole rfl 48 (.tmp 12) (.tmp 42) rfl _ _ _ row rfl rfl (RowT.new _ _ _) (by rw [hrl, hz25]) hszr hro ?_; intro w4 hr4 hon4; have hbb4 := box_below hon4; clear hon4))
          have b4 := hbb4.1
          have HBT4 := hide ((unhide HBT3).kept b4)
          have hc4 : ChgS G wr w4 := (ChgS.of b1).trans (hc3.trans (ChgS.of b4))
          have hnat4 := (unhide HNAT).kp hc4
          have HN4 := hide hnat4
          have hc2 : ∀ wz, Below w4.heap.size w4 wz → wz.cell? ⟨w3.heap.size, 2, none⟩ = some (.int .u64 us) := fun wz hz => by rw [(hr4.kept hz).cell]; exact unhide HR2
          have HC2 := hide hc2
          have hus8 : us < 256 ^ 8 := Nat.lt_of_le_of_lt hus (by decide)
          have hoW4 := (unhide HBT4).old
          have HTH4 := hide (unhide HBT4).ther
          have d4 : Below w4.heap.size w4 w4.drew := Quiet.below ⟨1, rfl⟩ _
          have hPB := p256_lt
          have hfb := hfeeW.big
          have husB : us < BIG := by have := big_ge; omega
          have HBB := hide hBB
          clear hbb4 hr4 hc2 hnat4 hBB
          simp only [Act.put, List.setIfInBounds_toArray, List.set_cons_zero, List.set_cons_succ]
          go_cut [13] (fun s13 wc => ∃ (Am : Option Addr) (km cm : Nat), s13 = .slice Am km cm ∧ IsNat wc Am km cm (us * beN fee) ∧ Below w4.heap.size w4 wc)
          case first =>
            as_aux_lemma =>
            refine wp_region_noPanic ?_
            refine wp_region_held_drew (S := fun w' => Below w4.heap.size w4 w') (by kernel_rfl) (d4) (fun hHeld => ?_)
            refine held_takeD 0 (.pointer (some ⟨w3.heap.size, 2, none⟩)) (some 43) (by rfl) (by rfl) (by kernel_rfl) (by kernel_rfl) (by kernel_rfl) (fun _ _ _ h => h) (.inl ⟨by rfl, fun _ _ => by go_simp⟩) (hHeld) ?_
            simp only [Act.put, List.setIfInBounds_toArray, List.set_cons_zero, List.set_cons_succ]
            refine held_takeD 1 (.int .u64 us) (some 44) (by rfl) (by rfl) (by kernel_rfl) (by kernel_rfl) (by kernel_rfl) (fun _ _ _ h => h) (.inl ⟨by rfl, fun wS hS => by have hc := unhide HC2 wS hS; go_simp⟩) (hHeld) ?_
            simp only [Act.put, List.setIfInBounds_toArray, List.set_cons_zero, List.set_cons_succ]
            refine held_takeD 3 (.pointer (some ⟨w.heap.size, 87, none⟩)) (some 46) (by rfl) (by rfl) (by kernel_rfl) (by kernel_rfl) (by kernel_rfl) (fun _ _ _ h => h) (.inl ⟨by rfl, fun _ _ => by go_simp⟩) (hHeld) ?_
            simp only [Act.put, List.setIfInBounds_toArray, List.set_cons_zero, List.set_cons_succ]
            refine held_takeD 4 (.slice (some ⟨w.heap.size, 87, none⟩) 32 32) (some 47) (by rfl) (by rfl) (by kernel_rfl) (by kernel_rfl) (by kernel_rfl) (fun _ _ _ h => h) (.inl ⟨by rfl, fun _ _ => by go_simp⟩) (hHeld) ?_
            simp only [Act.put, List.setIfInBounds_toArray, List.set_cons_zero, List.set_cons_succ]
            refine held_one 2 (by kernel_rfl) (by rfl) (fun K' hK' => ?_)
            go_simp
            refine (fromU64_any us w4.drew hus8).mono ?_
            rintro e w5 ⟨A5, k5, c5, rfl, n5, N5, b5⟩
            refine hK'.out _ _ (d4.trans (b5.mono d4.size)) ?_
            clear hK' K'
            have d5 := d4.trans (b5.mono d4.size)
            refine held_one 5 (by kernel_rfl) (by rfl) (fun K' hK' => ?_)
            go_simp
            refine (fromBE_any _ 32 32 fee w5 (unhide HFS w5 (hoW4.trans (d5.mono hoW4.size))) (by omega)).mono ?_
            rintro e w6 ⟨A6, k6, c6, rfl, n6, N6, b6⟩
            refine hK'.out _ _ (d5.trans (b6.mono d5.size)) ?_
            clear hK' K'
            have d6 := d5.trans (b6.mono d5.size)
            refine held_one 6 (by kernel_rfl) (by rfl) (fun K' hK' => ?_)
            go_simp
            refine ((n5.kept b6).mul n6 husB hfb).mono ?_
            rintro e w7 ⟨A7, k7, c7, rfl, n7, N7, b7⟩
            refine hK'.out _ _ (d6.trans (b7.mono d6.size)) ?_
            clear hK' K'
            have d7 := d6.trans (b7.mono d6.size)
            refine held_takeD 7 (.slice A7 k7 c7) (some 13) (by rfl) (by rfl) (by kernel_rfl) (by kernel_rfl) (by kernel_rfl) (fun _ _ _ h => h) (.inl ⟨by rfl, fun _ _ => by rfl⟩) (d7) ?_
            simp only [Act.put, List.setIfInBounds_toArray, List.set_cons_zero, List.set_cons_succ]
            refine wpAnyH_done (by kernel_rfl) ?_ _
            refine NoPanic.normal ?_
            have N7' := hide n7
            clear n5 n6 n7
            go_wp2_with fail
            go_meet
            case rel => exact ⟨A7, k7, c7, rfl, unhide N7', d7⟩
          case rest =>
            as_aux_lemma =>
            obtain ⟨Am, km, cm, rfl, hm, bc⟩ := hcut
            have hBB := unhide HBB
            have hlB : us * beN fee < BIG := by omega
            have hsub := (((unhide HN4).kp (ChgS.of bc)).now).sub hm (by omega) hlB
            have e1 : B - us * beN fee = B' := by omega
            have hdec : decide (us * beN fee ≤ B) = true := by rw [decide_eq_true_iff]; omega
            rw [e1, hdec] at hsub
            have HSUB := hide hsub
            have hB'P : B' < P256 := by omega
            clear hsub hm hdec e1 hBB
            go_upto_region 13 with (go_at_call 35; refine (unhide HSUB).mono ?_; rintro e w8 ⟨A8, k8, c8, rfl, n8, N8, b8⟩)
            have b48 : Below w4.heap.size w4 w8 := bc.trans (b8.mono bc.size)
            have HBT8 := hide ((unhide HBT4).kept b48)
            have hN4 : New w4 A8 := fun y hy => by have h4 := N8 y hy; have h5 := bc.size; omega
            have HN8 := hide n8
            have HN4' := hide hN4
            have HEXP := hide (unhide HBT8).export
            clear n8 N8 hN4
            go_wp2_with (first
              | (go_at_call 16; refine (unhide HEXP).mono ?_; rintro e w9 ⟨⟨A9, l9, c9, os, rfl, g1, g2, g3, g4, g5⟩, b9⟩; have HHT := hide (holds_true A8 k8 c8 B' A9 l9 c9 os w9 g1 g2 g3 g4 ((unhide HN8).kept b9) g5 (by omega)); clear g1 g2 g3 g4 g5)
              | (go_at_call 36; refine (unhide HHT).mono ?_; rintro e w10 ⟨rfl, b10⟩; have b810 : Below w8.heap.size w8 w10 := b9.trans (b10.mono b9.size)))
            go_roundg (n - 1 - i)
            case measure => omega
            case rel => exact ⟨i + 1, G', B', A8, k8, c8, by omega, rfl, rfl, KNat.new ((unhide HN8).kept b810) (unhide HN4') (unhide HTH4), hB'P, (unhide HBT8).kept b810⟩
        · as_aux_lemma =>
          go_wp2
          go_ret
          exact ⟨rfl, hb0.trans (hoW.mono hzW)⟩

end Go.Proofs.YgcsakGreat
