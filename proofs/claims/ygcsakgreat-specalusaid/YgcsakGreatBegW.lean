/-
  (*Chain).Begin at a call of an account without value (the great seat).
-/
import Derived.Test.YgcsakGreatBegV
namespace Go.Proofs.YgcsakGreat
set_option linter.unusedVariables false
set_option linter.unusedSimpArgs false
set_option maxRecDepth 100000
open Go.RowKit

/-- what Begin leaves: a frame, and what Finish asks for -/
structure Held (bw gf : Nat) (cs cs' : List Value) (cb fee frm : List Int) (gas pr : Nat) (w' : World) : Prop where
  ha : ∃ csa wa A14 k14 c14 A17 k17 c17, BS bw csa cb fee 12 100 2000 wa ∧ (∀ i, i ≠ 9 → cs'[i]? = csa[i]?) ∧ wa.heap.size ≤ gf ∧ Chg bw wa w' ∧
    cs'[14]? = some (.slice A14 k14 c14) ∧ Stab bw (fun w => IsNat w A14 k14 c14 gas) wa ∧ cs'[17]? = some (.slice A17 k17 c17) ∧ Stab bw (fun w => IsNat w A17 k17 c17 pr) wa ∧
    (∃ A k c n, cs'[18]? = some (.slice A k c) ∧ Stab bw (fun w => IsNat w A k c n) wa ∧ n < BIG)
  app : cs'[13]? = some (.int .u8 1)
  org : (cs'.drop 19).take 20 = bv frm
  mad : (cs'.drop 39).take 20 = bv (zeros 20)
  env : ∀ i, 59 ≤ i → cs'[i]? = cs[i]?
  one : ∀ i v, i ≠ 9 → cs'[i]? = some v → v.oneCell' = true
/-- the frame as enter left it -/
structure Laid1 (bw gf : Nat) (cF : Nat) (cs' fr : List Value) (gas : Nat) (code : List Int) (w' : World) : Prop where
  row : RowT 194 w' gf fr
  len : 60 ≤ fr.length
  one : ∀ i v, i < 60 → fr[i]? = some v → v.oneCell' = true
  kind : fr[0]? = some (.int .u8 0)
  native : fr[1]? = some (.int .u8 0)
  static : fr[2]? = some (.bool false)
  pc : fr[3]? = some nilS
  gasN : ∃ A k c, fr[4]? = some (.slice A k c) ∧ StabS (GF bw gf) (fun w => IsNat w A k c gas) w'
  stk : fr[8]? = some nilS
  mem : fr[9]? = some nilS
  codeN : ∃ A k c, fr[10]? = some (.slice A k c) ∧ StabS (GF bw gf) (fun w => Src w A k c code) w'
  chain : RowT 107 w' bw cs'
  clen : cs'.length = 179
  frames : cs'[9]? = some (.slice (some ⟨gf, 0, none⟩) 1 cF)
  phase : cs'[11]? = some (.int .u8 1)
  ne : gf ≠ bw
def BegPost (bw : Nat) (cs : List Value) (cb fee frm : List Int) (gas left pr : Nat) (code : List Int) (w : World) (e : Ending) (w' : World) : Prop :=
  e = .returned (.int .u8 0) ∧ ∃ gf cF cs' fr, Laid1 bw gf cF cs' fr left code w' ∧ Held bw gf cs cs' cb fee frm gas pr w' ∧ Chg bw w w' ∧ w.heap.size ≤ gf

theorem spl_rng {cs vs : List Value} {o n : Nat} (h : o + vs.length ≤ cs.length) (hn : vs.length = n) : ((spl cs o vs).drop o).take n = vs := by
  subst hn
  unfold spl
  have hto : (cs.take o).length = o := by rw [List.length_take]; omega
  rw [List.append_assoc, List.drop_append_of_le_length (by omega), List.drop_of_length_le (by omega), List.nil_append, List.take_left]
theorem trk_getD {tg code : List Int} {ds : List YAcct} (h : Trk tg code ds) (i : Nat) : (ds.getD i (zeroAcct [])).slots = [] := by
  rw [List.getD_eq_getElem?_getD]
  cases hx : ds[i]? with
  | none => rfl
  | some x => exact h.2 x (List.mem_of_getElem? hx)
set_option maxHeartbeats 64000000 in
theorem begin_call {bw : Nat} {cs re : List Value} {w : World} {l : Nat} {ds : List OAcct} {cb : List Int} {gl : Nat} {fee : List Int} {A3 : Option Addr} {k3 c3 : Nat} {r : List Value} {d : YTx} (hnew : NewOK bw cs re w l ds) (htot : TotOK bw cs w l) (hl : l ≤ 8) (hwb : worldB ds = true) (hsm : Small ds) (he : EnvC re cb gl fee A3 k3 c3) (h : TxC r d none 0 0 none 0 0)
    (hdat : d.data = []) (hac : d.access = []) (code : List Int) (hcode : (lookY (ds.map acctOf) d.dst).code = code) (hns : ∀ o ∈ ds, o.slots = []) (hne : ¬ d.frm = d.dst) (hvd : verdN (ds.map acctOf) gl fee d = 0) (hcr : d.create = false) (hv0 : beN d.value = 0) (hnat : nativeN d.dst = 0) :
    Calls Sakg.prog 48 #[.pointer (some ⟨bw, 0, none⟩), .agg r.toArray] w (BegPost bw cs cb fee d.frm d.gas (d.gas - intrN d) (priceN d fee) code w) := by
  have hdS : ∀ wz, Src wz none 0 0 d.data := fun wz => by rw [hdat]; exact Src.ofNil wz
  have haS : ∀ wz, AccsR wz none 0 0 d.access := fun wz => by rw [hac]; exact ⟨[], Rws.ofNil wz 21, trivial⟩
  obtain ⟨ao, c, hst⟩ := hnew.stc hl hsm he
  obtain ⟨W, hW⟩ : ∃ W, W = w.alloc (.cells r.toArray 33) := ⟨_, rfl⟩
  have hb0 : Below w.heap.size w W := by rw [hW]; exact (Below.refl _ _).alloc (Nat.le_refl _) _
  have hr0 : RowT 33 W w.heap.size r := by rw [hW]; exact RowT.new _ _ _
  have hst1 : StC 107 bw cs W ao l c (ds.map acctOf) gl fee := ⟨hst.row.kept hb0, hst.accts.go (Chg.of hb0), hst.c0, hst.le, hst.bnd, hst.phase, hst.applied, hst.limit, hst.hlimit, hst.base, hst.hfee⟩
  have HV := hide (verdict_any 107 bw cs W ao l c (ds.map acctOf) gl fee hst1 r d none 0 0 none 0 0 h (hdS W) (haS W))
  rw [hvd] at HV
  have hstT := hr0
  have HR0 := hide hr0.rangeAll
  have hsT : (Sakg.prog.info? 33).map (·.size) = some r.length := by rw [h.len]; exact sizeTx
  have hbs0 := (hnew.bx hl hsm hwb he d.dst code hcode hns).kept hb0
  have happ := hnew.applied
  obtain ⟨hgas, hdl, hlb⟩ := verd0 hvd
  obtain ⟨At, kt, ct, nt, htt, htn, htb⟩ := htot
  have hntB : nt < BIG := by
    have h1 : l * 256 ^ 32 ≤ 8 * 256 ^ 32 := Nat.mul_le_mul_right _ hl
    have h2 : 8 * 256 ^ 32 < 256 ^ 33 := by rw [Nat.pow_succ]; omega
    exact Nat.lt_of_lt_of_le (by omega) (big_pow 33 (by omega))
  have HONE0 := hide (hnew.one ⟨At, kt, ct, nt, htt, htn, htb⟩ he)
  have HV0 := hide hv0
  have HTT := hide htt
  have HTN := hide htn
  clear hr0 htt htn hvd hv0
  go_enter Sakg.func48, Sakg.ntmps48
  go_upto_region 1 with fail
  rw [← hW]
  clear hW
  go_upto_region 5 with (first
    | ((with_reducible refine at_load 33 ?_); refine wpList_load_g (by rfl) 33 (.tmp 3) rfl w.heap.size 0 rfl r _ (unhide HR0) Sakg.underlying33 rfl hsT ?_)
    | (go_at_call 98; refine (unhide HV).mono ?_; rintro e w2 ⟨rfl, b2⟩))
  have bWw : Below w.heap.size w w2 := hb0.trans (b2.mono hb0.size)
  have hs2 := hbs0.kept b2
  have hbl2 := hs2.lt
  have hTl : w.heap.size < w2.heap.size := ((unhide HR0 |> fun _ => hstT.kept b2)).lt
  have hTn : w.heap.size ≠ bw := by have := hst.row.lt; omega
  have hT : ∀ wz, Chg bw w2 wz → RowT 33 wz w.heap.size r := fun wz hz => hz.row (hstT.kept b2) hTn
  have hcW : ∀ wz, Chg bw w2 wz → Chg bw w wz := fun wz hz => (Chg.of bWw).trans hz
  have HT := hide hT
  have HCW := hide hcW
  have HS2 := hide hs2
  have hfrm := h.hfrm
  have hdst := h.hdst
  have hu := Sakg.underlying26
  have huT := Sakg.underlying33
  have hszf := hfrm.size
  have hszd := hdst.size
  have hfr : ∀ wz, Chg bw w2 wz → wz.rangeAt w.heap.size 0 (bv d.frm) := fun wz hz => by have := (hT wz hz).range 0 20; rwa [h.frm] at this
  have HFR := hide hfr
  have h13 := happ
  have H13 := hide h13
  have d2 : Below w2.heap.size w2 w2.drew := Quiet.below ⟨1, rfl⟩ _
  have hacc : ∀ wz, Below w2.heap.size w2 wz → Calls Sakg.prog 99 #[.pointer (some ⟨bw, 0, none⟩), .agg (bv d.frm).toArray] wz fun e w' => ∃ r x, e = .returned (.agg r.toArray) ∧ SAcct bw w2 r x ∧ (FineA x ∧ x.nonce < 256 ^ 8) ∧ Below wz.heap.size wz w' := fun wz hz => by
    refine ((hst1.accts.go (Chg.of b2)).accountAt (Chg.of hz) (by rw [((hst1.row.kept b2).kept hz).cell]; exact hst1.c0) d.frm hfrm hst1.le).mono ?_
    rintro e w' ⟨r', he', q1, q2⟩
    exact ⟨r', _, he', q1, ⟨(fine_of hsm hwb).look _, look_nonce hsm _⟩, q2⟩
  have HACC := hide hacc
  clear hs2 hT hcW hfr h13 happ hacc hbs0 hst hst1 hstT HV HR0 hnew
  go_cut [7] (fun s7 wc => ∃ (gA : Nat) (ra : List Value) (x : YAcct), s7 = .pointer (some ⟨gA, 0, none⟩) ∧ w2.heap.size ≤ gA ∧ RowT 113 wc gA ra ∧ SAcct bw w2 ra x ∧ (FineA x ∧ x.nonce < 256 ^ 8) ∧ Below w2.heap.size w2 wc)
  case first =>
    as_aux_lemma =>
    refine wp_region_noPanic ?_
    refine wp_region_held_drew (S := fun w' => Chg bw w2 w') (by kernel_rfl) (Chg.of d2) (fun hHeld => ?_)
    refine held_takeD 0 (.pointer (some ⟨bw, 0, none⟩)) (some 27) (by rfl) (by rfl) (by kernel_rfl) (by kernel_rfl) (by kernel_rfl) (fun _ _ _ h => h) (.inl ⟨by rfl, fun _ _ => by rfl⟩) (hHeld) ?_
    simp only [Act.put, List.setIfInBounds_toArray, List.set_cons_zero, List.set_cons_succ]
    refine held_takeD 1 (.pointer (some ⟨bw, 0, none⟩)) (some 28) (by rfl) (by rfl) (by kernel_rfl) (by kernel_rfl) (by kernel_rfl) (fun _ _ _ h => h) (.inl ⟨by rfl, fun _ _ => by go_simp⟩) (hHeld) ?_
    simp only [Act.put, List.setIfInBounds_toArray, List.set_cons_zero, List.set_cons_succ]
    refine held_takeD 2 (.pointer (some ⟨bw, 0, none⟩)) (some 29) (by rfl) (by rfl) (by kernel_rfl) (by kernel_rfl) (by kernel_rfl) (fun _ _ _ h => h) (.inl ⟨by rfl, fun _ _ => by go_simp⟩) (hHeld) ?_
    simp only [Act.put, List.setIfInBounds_toArray, List.set_cons_zero, List.set_cons_succ]
    refine held_takeD 3 (.pointer (some ⟨w.heap.size, 0, none⟩)) (some 30) (by rfl) (by rfl) (by kernel_rfl) (by kernel_rfl) (by kernel_rfl) (fun _ _ _ h => h) (.inl ⟨by rfl, fun _ _ => by go_simp⟩) (hHeld) ?_
    simp only [Act.put, List.setIfInBounds_toArray, List.set_cons_zero, List.set_cons_succ]
    refine held_takeD 4 (.agg (bv d.frm).toArray) (some 31) (by rfl) (by rfl) (by kernel_rfl) (by kernel_rfl) (by kernel_rfl) (fun _ _ _ h => h) (yieldsIf_load_mid (by rfl) _ _ rfl _ _ rfl _ _ (fun wz hS => unhide HFR wz hS) hu rfl hszf) (hHeld) ?_
    simp only [Act.put, List.setIfInBounds_toArray, List.set_cons_zero, List.set_cons_succ]
    refine held_two 5 6 (by kernel_rfl) (by rfl) (by rfl) (fun K' hK' => ?_) (fun K' hK' => ?_)
    · go_simp
      refine (unhide HACC _ d2).mono ?_
      rintro e wq ⟨ra, x, rfl, hrow, hfx, bq⟩
      have dq := d2.trans (bq.mono d2.size)
      have hrl := hrow.now.len
      refine hK'.out _ _ (Chg.of dq) ?_
      clear hK' K'
      refine held_one 6 (by kernel_rfl) (by rfl) (fun K' hK' => ?_)
      refine if_alloc (some 7) rfl 113 rfl (by rfl) _ 24 infoAcct2 (by simp [bv_len, zeros_len]) (fun wA rA bA sA => ?_)
      have dA := dq.trans (bA.mono dq.size)
      refine hK'.out _ _ (Chg.of dA) ?_
      clear hK' K'
      simp only [Act.put, List.setIfInBounds_toArray, List.set_cons_zero, List.set_cons_succ]
      refine held_one 7 (by kernel_rfl) (by rfl) (fun K' hK' => ?_)
      refine if_store rfl (by rfl) 113 (.tmp 7) (.tmp 32) rfl wq.heap.size 0 113 _ ra rfl rfl rA (by rw [hrl]; simp [bv_len, zeros_len]) (by rw [hrl]; exact sizeAcct) hrow.now.one (fun wS rS oS => ?_)
      have dS : Below w2.heap.size w2 wS := dA.trans (oS.below _ (by exact dq.size))
      refine hK'.out _ _ (Chg.of dS) ?_
      clear hK' K'
      refine wpAnyH_done (by kernel_rfl) ?_ _
      refine NoPanic.normal ?_
      rw [spl_all _ _ (by rw [hrl]; simp [bv_len, zeros_len])] at rS
      go_wp2_with fail
      go_meet
      case rel => exact ⟨_, ra, x, rfl, dq.size, rS, hrow, hfx, dS⟩
    · refine if_alloc (some 7) rfl 113 rfl (by rfl) _ 24 infoAcct2 (by simp [bv_len, zeros_len]) (fun wA rA bA sA => ?_)
      have dA := d2.trans (bA.mono d2.size)
      refine hK'.out _ _ (Chg.of dA) ?_
      clear hK' K'
      simp only [Act.put, List.setIfInBounds_toArray, List.set_cons_zero, List.set_cons_succ]
      refine held_one 5 (by kernel_rfl) (by rfl) (fun K' hK' => ?_)
      go_simp
      refine (unhide HACC _ dA).mono ?_
      rintro e wq ⟨ra, x, rfl, hrow, hfx, bq⟩
      have dq := dA.trans (bq.mono dA.size)
      have hrl := hrow.now.len
      refine hK'.out _ _ (Chg.of dq) ?_
      clear hK' K'
      refine held_one 7 (by kernel_rfl) (by rfl) (fun K' hK' => ?_)
      refine if_store rfl (by rfl) 113 (.tmp 7) (.tmp 32) rfl w2.heap.size 0 113 _ ra rfl rfl (rA.kept bq) (by rw [hrl]; simp [bv_len, zeros_len]) (by rw [hrl]; exact sizeAcct) hrow.now.one (fun wS rS oS => ?_)
      have dS : Below w2.heap.size w2 wS := dq.trans (oS.below _ (by exact Nat.le_refl _))
      refine hK'.out _ _ (Chg.of dS) ?_
      clear hK' K'
      refine wpAnyH_done (by kernel_rfl) ?_ _
      refine NoPanic.normal ?_
      rw [spl_all _ _ (by rw [hrl]; simp [bv_len, zeros_len])] at rS
      go_wp2_with fail
      go_meet
      case rel => exact ⟨_, ra, x, rfl, Nat.le_refl _, rS, hrow, hfx, dS⟩
  case rest =>
    as_aux_lemma =>
    obtain ⟨w3, hw3⟩ : ∃ w3, w3 = wc := ⟨_, rfl⟩
    subst hw3
    obtain ⟨gA, ra, x, rfl, hgA, hrA, hrow, hfx, b3⟩ := hcut
    have c23 : Chg bw w2 w3 := Chg.of b3
    have hs3 := (unhide HS2).kept b3
    have hgAl := hrA.lt
    have hA : ∀ wz, Chg bw w3 wz → RowT 113 wz gA ra := fun wz hz => hz.row hrA (by omega)
    obtain ⟨B1, j1, f1, B2, j2, f2, B3, j3, f3, B4, j4, f4, q20, q21, q22, q23, s1, s2, s3, s4⟩ := hrow.cells
    have hA20 : ∀ wz, Chg bw w3 wz → wz.cell? ⟨gA, 20, none⟩ = some (.slice B1 j1 f1) := fun wz hz => by rw [(hA wz hz).cell]; exact q20
    have hA21 : ∀ wz, Chg bw w3 wz → wz.cell? ⟨gA, 21, none⟩ = some (.slice B2 j2 f2) := fun wz hz => by rw [(hA wz hz).cell]; exact q21
    have hN1 : ∀ wz, Chg bw w3 wz → IsNat wz B1 j1 f1 x.nonce := fun wz hz => (s1.go (c23.trans hz)).now
    have hN2 : ∀ wz, Chg bw w3 wz → IsNat wz B2 j2 f2 x.bal := fun wz hz => (s2.go (c23.trans hz)).now
    have HA20 := hide hA20
    have HA21 := hide hA21
    have HN1 := hide hN1
    have HN2 := hide hN2
    have HS3 := hide hs3
    have hbl3 := hs3.lt
    have hfrd : w3.rangeAt w.heap.size 20 (bv d.dst) := by have := (unhide HT w3 c23).range 20 20; rwa [h.dst] at this
    have HFRD := hide hfrd
    have hz20 : (bv (zeros 20)).length = 20 := by rw [bv_len, zeros_len]
    have hcl := hs3.len
    clear hrA hA hrow s1 s2 s3 s4 q20 q21 q22 q23 hA20 hA21 hN1 hN2 hs3 hfrd HACC HS2
    go_upto_region 7 with (first
      | ((with_reducible refine at_load 26 ?_); refine wpList_load_g (by rfl) 26 (.tmp 33) rfl w.heap.size 20 rfl (bv d.dst) _ (unhide HFRD) hu rfl hszd ?_)
      | ((with_reducible refine at_alloc 26 ?_); refine wpList_alloc_g (by rfl) 26 rfl (bv (zeros 20)) 20 infoAddr2 hz20 ?_)
      | ((with_reducible refine at_store 26 ?_); refine wpList_store_whole rfl 26 (.tmp 8) (.tmp 34) rfl _ _ _ (bv d.dst) rfl rfl (RowT.new _ _ _) (by rw [hz20, bv_len, hdst.len]) hszd (bv_one _) ?_; intro w4 hr4 hon4; have hbb4 := box_below hon4; clear hon4))
    have b34 := hbb4.1
    have hw4s := hbb4.2
    have hr4c := ((unhide HS3).kept b34).row
    have HR4C := hide hr4c
    have H4S := hide hw4s
    have HR4 := hide hr4
    have hszz : (Sakg.prog.info? 26).map (·.size) = some (bv (zeros 20)).length := by rw [hz20]; exact sizeAddr
    clear hbb4 hw4s hr4c hr4
    go_upto_region 8 with (first
      | ((with_reducible refine at_build 26 ?_); refine wpList_build_run (by rfl) 26 [] rfl (.agg (bv (zeros 20)).toArray) (run_zaddr _) ?_)
      | ((with_reducible refine at_store 26 ?_); refine wpList_store_part rfl 26 (.tmp 38) (.tmp 36) rfl bw 39 107 cs (bv (zeros 20)) rfl rfl (unhide HR4C) (by rw [hz20, hcl]; omega) hszz (bv_one _) ?_; intro w5 hr5 hon5))
    have hl5 : (spl cs 39 (bv (zeros 20))).length = 179 := by rw [spl_len _ _ _ (by rw [hz20, hcl]; omega)]; exact hcl
    have he5 : ∀ i, i < 39 ∨ 59 ≤ i → (spl cs 39 (bv (zeros 20)))[i]? = cs[i]? := fun i hi => spl_get (by rw [hz20, hcl]; omega) i (by rw [hz20]; omega)
    have k5 : ((spl cs 39 (bv (zeros 20))).drop 39).take 20 = bv (zeros 20) := spl_rng (by rw [hz20, hcl]; omega) hz20
    generalize spl cs 39 (bv (zeros 20)) = cs5 at hr5 hl5 he5 k5
    have c35 : Chg bw w3 w5 := (Chg.of b34).trans (Chg.ofOnly hon5)
    have hx5 : ∃ v, w5.cell? ⟨bw, 9, none⟩ = some v := by rw [hr5.cell, List.getElem?_eq_getElem (by rw [hl5]; omega)]; exact ⟨_, rfl⟩
    obtain ⟨v9, hx5⟩ := hx5
    have hf5 := hr5.froz 9
    have HR5 := hide hr5
    have HE5 := hide he5
    clear hr5 he5
    go_upto_region 9 with fail
    obtain ⟨w6, hw6⟩ : ∃ x, x = w5.setCell ⟨bw, 9, none⟩ (Value.slice none 0 0) := ⟨_, rfl⟩
    rw [← hw6]
    have o6 : Only bw w5 w6 := hw6 ▸ (Only.refl bw w5).setCell 9 (Value.slice none 0 0)
    have r6 := hw6 ▸ (unhide HR5).set 9 (Value.slice none 0 0)
    have c36 : Chg bw w3 w6 := c35.trans (Chg.ofOnly o6)
    have hl6 : (cs5.set 9 (Value.slice none 0 0)).length = 179 := by rw [List.length_set]; exact hl5
    have he6 : ∀ i, (i < 39 ∧ i ≠ 9) ∨ 59 ≤ i → (cs5.set 9 (Value.slice none 0 0))[i]? = cs[i]? := fun i hi => by rw [List.getElem?_set_ne (by omega)]; exact unhide HE5 i (by omega)
    have h69 : (cs5.set 9 (Value.slice none 0 0))[9]? = some nilS := List.getElem?_set_self (by rw [hl5]; omega)
    have rt6 : RowT 26 w6 w3.heap.size (bv d.dst) := ((unhide HR4).only hon5 (by omega)).only o6 (by omega)
    have k6 : ((cs5.set 9 (Value.slice none 0 0)).drop 39).take 20 = bv (zeros 20) := by rw [range_eq2 (cs := cs5) 39 20 (fun i h1 h2 => List.getElem?_set_ne (by omega))]; exact k5
    generalize cs5.set 9 (Value.slice none 0 0) = cs6 at r6 hl6 he6 h69 k6
    have e40 : w6.cell? ⟨w.heap.size, 40, none⟩ = some (.bool d.create) := by rw [(unhide HT w6 (c23.trans c36)).cell]; exact h.create
    have ht18 : Hid (cs6[18]? = some (.slice At kt ct)) := hide (by rw [he6 18 (by omega)]; exact unhide HTT)
    have henv6 : Hid (∀ i, 59 ≤ i → cs6[i]? = cs[i]?) := hide (fun i hi => he6 i (.inr hi))
    rw [hcr] at e40
    have HE6k := hide he6
    have K5 : Hid ((cs6.drop 39).take 20 = bv (zeros 20)) := hide k6
    have HR6 := hide r6
    have HE6 := hide he6
    have H69 := hide h69
    have RT6 := hide rt6
    have HTN3 := hide ((unhide HTN).go ((Chg.of bWw).trans c23))
    clear hw6 r6 he6 h69 rt6 hx5 hf5 k5 k6
    obtain ⟨w10, hw10⟩ : ∃ w10, w10 = w6 := ⟨_, rfl⟩
    subst hw10
    obtain ⟨tg, htge⟩ : ∃ tg, tg = d.dst := ⟨_, rfl⟩
    have c310 : Chg bw w3 w10 := c36
    have hs10 : BX d.dst code bw cs6 cb fee 8 0 0 w10 := (unhide HS3).turn (unhide HR6) hl6 (fun i hi => unhide HE6 i (by omega)) c36
    have h1013 : cs6[13]? = some (.int .u8 0) := by rw [unhide HE6 13 (by omega)]; exact unhide H13
    have htg : IsAddr tg := by rw [htge]; exact hdst
    have rt10 := unhide RT6
    rw [← htge] at rt10 hs10 hne hcode hnat
    clear htge hcode hac hdat
    have h109 := unhide H69
    generalize cs6 = cs10 at *
    have hszt := htg.size
    have hTg : ∀ wz, Chg bw w10 wz → RowT 26 wz w3.heap.size (bv tg) := fun wz hz => hz.row rt10 (by omega)
    have HTG := hide hTg
    have e13 := hs10.cell h1013
    have f13 := hs10.row.froz 13
    have HS10 := hide hs10
    have H109 := hide h109
    have hbl10 := hs10.lt
    clear hTg rt10 hs10 h109 h1013 HR4C HR4 HR5 HE5 HR6 HE6 H69 RT6 HFRD H13 c35 o6 hon5
    go_upto_region 13 with fail
    clear e40
    obtain ⟨w11, hw11⟩ : ∃ y, y = w10.setCell ⟨bw, 13, none⟩ (Value.int .u8 1) := ⟨_, rfl⟩
    rw [← hw11]
    have hs11 := hw11 ▸ (unhide HS10).set 13 (by omega) (by omega) (Value.int .u8 1)
    have c11 : Chg bw w10 w11 := hw11 ▸ Chg.ofOnly ((Only.refl bw w10).setCell 13 (Value.int .u8 1))
    have h119 : (cs10.set 13 (Value.int .u8 1))[9]? = some nilS := by rw [List.getElem?_set_ne (by omega)]; exact unhide H109
    have m11 : Hid (∀ i, i ≠ 13 → (cs10.set 13 (Value.int .u8 1))[i]? = cs10[i]?) := hide (fun i hi => List.getElem?_set_ne (Ne.symm hi))
    have k11 : Hid ((cs10.set 13 (Value.int .u8 1))[13]? = some (Value.int .u8 1)) := hide (List.getElem?_set_self (by rw [(unhide HS10).len]; omega))
    generalize cs10.set 13 (Value.int .u8 1) = cs11 at hs11 h119 m11 k11
    have HS11 := hide hs11
    have H119 := hide h119
    have hbl11 := hs11.lt
    have e42 : w11.cell? ⟨w.heap.size, 42, none⟩ = some (.int .u64 d.gas) := by rw [(unhide HT w11 (c23.trans (c310.trans c11))).cell]; exact h.gas
    have hgas8 := h.hgas
    clear hs11 h119 hw11 e13 f13 HS10 H109
    go_upto_region 14 with (go_at_call 97; refine (num_any d.gas w11 hgas8).mono ?_; rintro e w12 ⟨A12, k12, c12, rfl, n12, N12, b12⟩; have hs12 := (unhide HS11).kept b12; obtain ⟨v14, hx14⟩ := hs12.any (i := 14) (by omega); have hf14 := hs12.row.froz 14; have HS12 := hide hs12; have NN12 := hide n12; clear hs12 n12)
    obtain ⟨w13, hw13⟩ : ∃ y, y = w12.setCell ⟨bw, 14, none⟩ (Value.slice A12 k12 c12) := ⟨_, rfl⟩
    rw [← hw13]
    have hs13 := hw13 ▸ (unhide HS12).set 14 (by omega) (by omega) (Value.slice A12 k12 c12)
    have o13 : Only bw w12 w13 := hw13 ▸ (Only.refl bw w12).setCell 14 (Value.slice A12 k12 c12)
    have c13 : Chg bw w10 w13 := c11.trans ((Chg.of b12).trans (Chg.ofOnly o13))
    have nl13 : Stab bw (fun w => IsNat w A12 k12 c12 d.gas) w13 := (Stab.nat (unhide NN12) (N12.off hbl11 _)).go (Chg.ofOnly o13)
    have h139 : (cs11.set 14 (Value.slice A12 k12 c12))[9]? = some nilS := by rw [List.getElem?_set_ne (by omega)]; exact unhide H119
    have h1314 : (cs11.set 14 (Value.slice A12 k12 c12))[14]? = some (Value.slice A12 k12 c12) := List.getElem?_set_self (by rw [(unhide HS12).len]; omega)
    have m13 : Hid (∀ i, i ≠ 14 → (cs11.set 14 (Value.slice A12 k12 c12))[i]? = cs11[i]?) := hide (fun i hi => List.getElem?_set_ne (Ne.symm hi))
    have k13 : Hid ((cs11.set 14 (Value.slice A12 k12 c12))[14]? = some (Value.slice A12 k12 c12)) := hide (List.getElem?_set_self (by rw [(unhide HS12).len]; omega))
    generalize cs11.set 14 (Value.slice A12 k12 c12) = cs13 at hs13 h139 h1314 m13 k13
    have HS13 := hide hs13
    have NL13 := hide nl13
    have H139 := hide h139
    have H1314 := hide h1314
    have hbl13 := hs13.lt
    have d13 : Below w13.heap.size w13 w13.drew := Quiet.below ⟨1, rfl⟩ _
    have hsT' : (Sakg.prog.info? 33).map (·.size) = some r.length := hsT
    have c213 : Chg bw w2 w13 := c23.trans (c310.trans c13)
    have hS14 : ∀ wz, Below w13.heap.size w13 wz → RowT 33 wz w.heap.size r ∧ wz.cell? ⟨bw, 14, none⟩ = some (.slice A12 k12 c12) := fun wz hz => ⟨unhide HT wz (c213.trans (Chg.of hz)), ((unhide HS13).kept hz).cell (unhide H1314)⟩
    have HS14 := hide hS14
    clear hs13 nl13 h139 h1314 hw13 hx14 hf14 HS12 NN12 HS11 H119 e42 hS14
    as_aux_lemma =>
    refine wp_region_noPanic ?_
    refine wp_region_held_drew (S := fun w' => RowT 33 w' w.heap.size r ∧ w'.cell? ⟨bw, 14, none⟩ = some (.slice A12 k12 c12)) (by kernel_rfl) (unhide HS14 _ d13) (fun hHeld => ?_)
    refine held_takeD 0 (.pointer (some ⟨bw, 0, none⟩)) (some 66) (by rfl) (by rfl) (by kernel_rfl) (by kernel_rfl) (by kernel_rfl) (fun _ _ _ h => h) (.inl ⟨by rfl, fun _ _ => by rfl⟩) (hHeld) ?_
    simp only [Act.put, List.setIfInBounds_toArray, List.set_cons_zero, List.set_cons_succ]
    refine held_takeD 1 (.pointer (some ⟨bw, 0, none⟩)) (some 67) (by rfl) (by rfl) (by kernel_rfl) (by kernel_rfl) (by kernel_rfl) (fun _ _ _ h => h) (.inl ⟨by rfl, fun _ _ => by rfl⟩) (hHeld) ?_
    simp only [Act.put, List.setIfInBounds_toArray, List.set_cons_zero, List.set_cons_succ]
    refine held_takeD 2 (.pointer (some ⟨bw, 0, none⟩)) (some 68) (by rfl) (by rfl) (by kernel_rfl) (by kernel_rfl) (by kernel_rfl) (fun _ _ _ h => h) (.inl ⟨by rfl, fun _ _ => by go_simp⟩) (hHeld) ?_
    simp only [Act.put, List.setIfInBounds_toArray, List.set_cons_zero, List.set_cons_succ]
    refine held_takeD 3 (.pointer (some ⟨bw, 14, none⟩)) (some 69) (by rfl) (by rfl) (by kernel_rfl) (by kernel_rfl) (by kernel_rfl) (fun _ _ _ h => h) (.inl ⟨by rfl, fun _ _ => by go_simp⟩) (hHeld) ?_
    simp only [Act.put, List.setIfInBounds_toArray, List.set_cons_zero, List.set_cons_succ]
    refine held_takeD 4 (.slice A12 k12 c12) (some 70) (by rfl) (by rfl) (by kernel_rfl) (by kernel_rfl) (by kernel_rfl) (fun _ _ _ h => h) (.inl ⟨by rfl, fun wS hS => by have hc := hS.2; go_simp⟩) (hHeld) ?_
    simp only [Act.put, List.setIfInBounds_toArray, List.set_cons_zero, List.set_cons_succ]
    refine held_takeD 5 (.agg r.toArray) (some 71) (by rfl) (by rfl) (by kernel_rfl) (by kernel_rfl) (by kernel_rfl) (fun _ _ _ h => h) (yieldsIf_load_mid (by rfl) _ _ rfl _ _ rfl _ _ (fun wz hS => hS.1.rangeAll) huT rfl hsT') (hHeld) ?_
    simp only [Act.put, List.setIfInBounds_toArray, List.set_cons_zero, List.set_cons_succ]
    refine held_one 6 (by kernel_rfl) (by rfl) (fun K' hK' => ?_)
    go_simp
    refine (intrinsic_any r d none 0 0 none 0 0 w13.drew h (hdS _) (haS _) (by omega) hlb).mono ?_
    rintro e w14 ⟨A14, k14, c14, rfl, n14, b14⟩
    refine hK'.out _ _ (unhide HS14 _ (d13.trans (b14.mono d13.size))) ?_
    clear hK' K'
    have d14 := d13.trans (b14.mono d13.size)
    refine held_one 7 (by kernel_rfl) (by rfl) (fun K' hK' => ?_)
    go_simp
    refine (less_any A12 A14 k12 k14 c12 c14 d.gas (intrN d) w14 ((unhide NL13) _ (Chg.of d14)) n14 (Nat.lt_of_lt_of_le hgas8 (big_pow 8 (by omega))) (intrN_big d hdl hlb)).mono ?_
    rintro e w15 ⟨A15, k15, c15, rfl, n15, N15, b15⟩
    refine hK'.out _ _ (unhide HS14 _ (d14.trans (b15.mono d14.size))) ?_
    clear hK' K'
    have d15 := d14.trans (b15.mono d14.size)
    refine held_takeD 8 (.pointer (some ⟨bw, 0, none⟩)) (some 74) (by rfl) (by rfl) (by kernel_rfl) (by kernel_rfl) (by kernel_rfl) (fun _ _ _ h => h) (.inl ⟨by rfl, fun _ _ => by go_simp⟩) (unhide HS14 _ d15) ?_
    simp only [Act.put, List.setIfInBounds_toArray, List.set_cons_zero, List.set_cons_succ]
    refine held_takeD 9 (.pointer (some ⟨bw, 15, none⟩)) (some 75) (by rfl) (by rfl) (by kernel_rfl) (by kernel_rfl) (by kernel_rfl) (fun _ _ _ h => h) (.inl ⟨by rfl, fun _ _ => by go_simp⟩) (unhide HS14 _ d15) ?_
    simp only [Act.put, List.setIfInBounds_toArray, List.set_cons_zero, List.set_cons_succ]
    have hs15 := (unhide HS13).kept d15
    obtain ⟨v15, hx15⟩ := hs15.any (i := 15) (by omega)
    have hf15 := hs15.row.froz 15
    refine held_one 10 (by kernel_rfl) (by rfl) (fun K' hK' => ?_)
    go_simp
    obtain ⟨w16, hw16⟩ : ∃ y, y = w15.setCell ⟨bw, 15, none⟩ (Value.slice A15 k15 c15) := ⟨_, rfl⟩
    rw [← hw16]
    have hs16 := hw16 ▸ hs15.set 15 (by omega) (by omega) (Value.slice A15 k15 c15)
    have o16 : Only bw w15 w16 := hw16 ▸ (Only.refl bw w15).setCell 15 (Value.slice A15 k15 c15)
    have c1316 : Chg bw w13 w16 := (Chg.of d15).trans (Chg.ofOnly o16)
    have h169 : (cs13.set 15 (Value.slice A15 k15 c15))[9]? = some nilS := by rw [List.getElem?_set_ne (by omega)]; exact unhide H139
    have h1614 : (cs13.set 15 (Value.slice A15 k15 c15))[14]? = some (Value.slice A12 k12 c12) := by rw [List.getElem?_set_ne (by omega)]; exact unhide H1314
    have h1615 : (cs13.set 15 (Value.slice A15 k15 c15))[15]? = some (Value.slice A15 k15 c15) := List.getElem?_set_self (by rw [hs15.len]; omega)
    have m16 : Hid (∀ i, i ≠ 15 → (cs13.set 15 (Value.slice A15 k15 c15))[i]? = cs13[i]?) := hide (fun i hi => List.getElem?_set_ne (Ne.symm hi))
    have k16 : Hid ((cs13.set 15 (Value.slice A15 k15 c15))[15]? = some (Value.slice A15 k15 c15)) := hide (List.getElem?_set_self (by rw [hs15.len]; omega))
    generalize cs13.set 15 (Value.slice A15 k15 c15) = cs16 at hs16 h169 h1614 h1615 m16 k16
    refine hK'.out _ _ ⟨unhide HT w16 (c213.trans c1316), hs16.cell h1614⟩ ?_
    clear hK' K' hw16
    refine wpAnyH_done (by kernel_rfl) ?_ _
    refine NoPanic.normal ?_
    have c216 : Chg bw w2 w16 := c213.trans c1316
    have nl16 : Stab bw (fun w => IsNat w A12 k12 c12 d.gas) w16 := (unhide NL13).go c1316
    have HTX16 := hide (unhide HT w16 c216).rangeAll
    have hfee := he.hfee
    obtain ⟨pn, hpe⟩ : ∃ pn, pn = priceN d fee := ⟨_, rfl⟩
    have hpn : pn < 256 ^ 33 := by rw [hpe]; exact priceN_lt hfee h
    have ng16 : Stab bw (fun w => IsNat w A15 k15 c15 (d.gas - intrN d)) w16 := (Stab.nat n15 (N15.off (by have := d14.size; omega) _)).go (Chg.ofOnly o16)
    have NG16 := hide ng16
    have HPR := hide (price_exact bw fee r d none 0 0 none 0 0 w16 hs16.lt hs16.feeR hfee h)
    have HS16 := hide hs16
    have H169 := hide h169
    have H1614 := hide h1614
    have H1615 := hide h1615
    have NL16 := hide nl16
    have hbl16 := hs16.lt
    rw [← hpe] at HPR
    have HPE := hide hpe
    clear hpe ng16 hs16 h169 h1614 h1615 nl16 hs15 hx15 hf15 n14 n15 N15 HS13 H139 H1314 NL13 HS14
    as_aux_lemma =>
    go_upto_region 16 with (first
      | ((with_reducible refine at_load 33 ?_); refine wpList_load_g (by rfl) 33 (.tmp 3) rfl w.heap.size 0 rfl r _ (unhide HTX16) huT rfl hsT' ?_)
      | (go_at_call 103; refine (unhide HPR).mono ?_; rintro e w17 ⟨A17, k17, c17, rfl, n17, N17, b17⟩; have hs17 := (unhide HS16).kept b17; obtain ⟨v17, hx17⟩ := hs17.any (i := 17) (by omega); have hf17 := hs17.row.froz 17; have HS17 := hide hs17; have NN17 := hide n17; clear hs17 n17))
    obtain ⟨w18, hw18⟩ : ∃ y, y = w17.setCell ⟨bw, 17, none⟩ (Value.slice A17 k17 c17) := ⟨_, rfl⟩
    rw [← hw18]
    have hs18 := hw18 ▸ (unhide HS17).set 17 (by omega) (by omega) (Value.slice A17 k17 c17)
    have o18 : Only bw w17 w18 := hw18 ▸ (Only.refl bw w17).setCell 17 (Value.slice A17 k17 c17)
    have c1618 : Chg bw w16 w18 := (Chg.of b17).trans (Chg.ofOnly o18)
    have np18 : Stab bw (fun w => IsNat w A17 k17 c17 pn) w18 := (Stab.nat (unhide NN17) (N17.off hbl16 _)).go (Chg.ofOnly o18)
    have h189 : (cs16.set 17 (Value.slice A17 k17 c17))[9]? = some nilS := by rw [List.getElem?_set_ne (by omega)]; exact unhide H169
    have h1814 : (cs16.set 17 (Value.slice A17 k17 c17))[14]? = some (Value.slice A12 k12 c12) := by rw [List.getElem?_set_ne (by omega)]; exact unhide H1614
    have h1815 : (cs16.set 17 (Value.slice A17 k17 c17))[15]? = some (Value.slice A15 k15 c15) := by rw [List.getElem?_set_ne (by omega)]; exact unhide H1615
    have h1817 : (cs16.set 17 (Value.slice A17 k17 c17))[17]? = some (Value.slice A17 k17 c17) := List.getElem?_set_self (by rw [(unhide HS17).len]; omega)
    have m18 : Hid (∀ i, i ≠ 17 → (cs16.set 17 (Value.slice A17 k17 c17))[i]? = cs16[i]?) := hide (fun i hi => List.getElem?_set_ne (Ne.symm hi))
    have k18 : Hid ((cs16.set 17 (Value.slice A17 k17 c17))[17]? = some (Value.slice A17 k17 c17)) := hide (List.getElem?_set_self (by rw [(unhide HS17).len]; omega))
    generalize cs16.set 17 (Value.slice A17 k17 c17) = cs18 at hs18 h189 h1814 h1815 h1817 m18 k18
    have HFR18 := hide (unhide HFR w18 (c216.trans c1618))
    have HR18 := hide hs18.row
    have hle18 : 19 + (bv d.frm).length ≤ cs18.length := by rw [bv_len, hfrm.len, hs18.len]; omega
    have HS18 := hide hs18
    have H189 := hide h189
    have H1814 := hide h1814
    have H1815 := hide h1815
    have H1817 := hide h1817
    have NP18 := hide np18
    clear hs18 h189 h1814 h1815 h1817 np18 hx17 hf17 HS17 NN17 HS16 H169 H1614 H1615 HPR HTX16 hw18
    go_upto_region 17 with (first
      | ((with_reducible refine at_load 26 ?_); refine wpList_load_g (by rfl) 26 (.tmp 83) rfl w.heap.size 0 rfl (bv d.frm) _ (unhide HFR18) hu rfl hszf ?_)
      | ((with_reducible refine at_store 26 ?_); refine wpList_store_part rfl 26 (.tmp 86) (.tmp 84) rfl bw 19 107 cs18 (bv d.frm) rfl rfl (unhide HR18) hle18 hszf (bv_one _) ?_; intro w19 hr19 ho19))
    have hs19 := (unhide HS18).spl 19 (by omega) (by rw [bv_len, hfrm.len]; omega) hr19 ho19
    have g19 : ∀ i, i < 19 → (spl cs18 19 (bv d.frm))[i]? = cs18[i]? := fun i hi => spl_get hle18 i (.inl hi)
    have c1619 : Chg bw w16 w19 := c1618.trans (Chg.ofOnly ho19)
    have h199 : (spl cs18 19 (bv d.frm))[9]? = some nilS := by rw [g19 9 (by omega)]; exact unhide H189
    have h1914 : (spl cs18 19 (bv d.frm))[14]? = some (Value.slice A12 k12 c12) := by rw [g19 14 (by omega)]; exact unhide H1814
    have h1915 : (spl cs18 19 (bv d.frm))[15]? = some (Value.slice A15 k15 c15) := by rw [g19 15 (by omega)]; exact unhide H1815
    have h1917 : (spl cs18 19 (bv d.frm))[17]? = some (Value.slice A17 k17 c17) := by rw [g19 17 (by omega)]; exact unhide H1817
    have m19 : Hid (∀ i, i < 19 ∨ 39 ≤ i → (spl cs18 19 (bv d.frm))[i]? = cs18[i]?) := hide (fun i hi => spl_get hle18 i (by rw [bv_len, hfrm.len]; omega))
    have k19 : Hid (((spl cs18 19 (bv d.frm)).drop 19).take 20 = bv d.frm) := hide (spl_rng hle18 (by rw [bv_len, hfrm.len]))
    generalize spl cs18 19 (bv d.frm) = cs19 at hs19 h199 h1914 h1915 h1917 hr19 g19 m19 k19
    obtain ⟨v8, hx19⟩ := hs19.any (i := 8) (by omega)
    have hf19 := hs19.row.froz 8
    have HS19 := hide hs19
    have H199 := hide h199
    have H1914 := hide h1914
    have H1915 := hide h1915
    have H1917 := hide h1917
    clear hs19 h199 h1914 h1915 h1917 hr19 g19 HR18 HS18 H189 H1814 H1815 H1817 HFR18
    as_aux_lemma =>
    go_upto_region 18 with fail
    obtain ⟨w20, hw20⟩ : ∃ y, y = w19.setCell ⟨bw, 8, none⟩ (Value.slice none 0 0) := ⟨_, rfl⟩
    rw [← hw20]
    have hs20 := hw20 ▸ (unhide HS19).set 8 (by omega) (by omega) (Value.slice none 0 0)
    have c1620 : Chg bw w16 w20 := c1619.trans (hw20 ▸ Chg.ofOnly ((Only.refl bw w19).setCell 8 (Value.slice none 0 0)))
    have c1820 : Chg bw w18 w20 := (Chg.ofOnly ho19).trans (hw20 ▸ Chg.ofOnly ((Only.refl bw w19).setCell 8 (Value.slice none 0 0)))
    have g20 : ∀ i, i ≠ 8 → (cs19.set 8 (Value.slice none 0 0))[i]? = cs19[i]? := fun i hi => List.getElem?_set_ne (by omega)
    have h208 : (cs19.set 8 (Value.slice none 0 0))[8]? = some nilS := List.getElem?_set_self (by rw [(unhide HS19).len]; omega)
    have h209 : (cs19.set 8 (Value.slice none 0 0))[9]? = some nilS := by rw [g20 9 (by omega)]; exact unhide H199
    have h2014 : (cs19.set 8 (Value.slice none 0 0))[14]? = some (Value.slice A12 k12 c12) := by rw [g20 14 (by omega)]; exact unhide H1914
    have h2015 : (cs19.set 8 (Value.slice none 0 0))[15]? = some (Value.slice A15 k15 c15) := by rw [g20 15 (by omega)]; exact unhide H1915
    have h2017 : (cs19.set 8 (Value.slice none 0 0))[17]? = some (Value.slice A17 k17 c17) := by rw [g20 17 (by omega)]; exact unhide H1917
    have m20 : Hid (∀ i, i ≠ 8 → (cs19.set 8 (Value.slice none 0 0))[i]? = cs19[i]?) := hide (fun i hi => List.getElem?_set_ne (Ne.symm hi))
    have k20 : Hid ((cs19.set 8 (Value.slice none 0 0))[8]? = some (Value.slice none 0 0)) := hide (List.getElem?_set_self (by rw [(unhide HS19).len]; omega))
    generalize cs19.set 8 (Value.slice none 0 0) = cs20 at hs20 h208 h209 h2014 h2015 h2017 g20 m20 k20
    have c220 : Chg bw w2 w20 := c216.trans c1620
    have c1020 : Chg bw w10 w20 := c13.trans (c1316.trans c1620)
    have c320 : Chg bw w3 w20 := c310.trans c1020
    have NL20 := hide ((unhide NL16).go c1620)
    have NP20 := hide ((unhide NP18).go c1820)
    obtain ⟨ao, l0, c0, ds0, h0, ⟨rows, hrw, heach⟩, hl0, hfine, htrk⟩ := hs20.accts
    have e00 := hs20.cell h0
    have hlen20 := hs20.len
    have hset8 : cs20.set 8 nilS = cs20 := set_same h208
    have HR20 := hide hs20.row
    have HS20 := hide hs20
    have H208 := hide h208
    have H209 := hide h209
    have H2014 := hide h2014
    have H2015 := hide h2015
    have H2017 := hide h2017
    have HRW := hide hrw
    have HEACH := hide heach
    have HSET8 := hide hset8
    have hbl20 := hs20.lt
    have hZ24 : (bv (zeros 20) ++ [nilS, nilS, nilS, nilS]).length = 24 := by simp [bv_len, zeros_len]
    clear hs20 h208 h209 h2014 h2015 h2017 h0 hrw heach hset8 g20 hw20 hx19 hf19 HS19 H199 H1914 H1915 H1917 NP18 NL16
    go_wp2_with fail
    go_loopg [96] l0 (fun gk iv wr => ∃ (i : Nat), i + gk = l0 ∧ iv = .int .i64 i ∧ Below w20.heap.size w20 wr)
    case atStart => exact ⟨0, by omega, rfl, Below.refl _ _⟩
    case round =>
      obtain ⟨wo, hwo⟩ : ∃ wo, wo = wr := ⟨_, rfl⟩
      subst hwo
      obtain ⟨i, hi, rfl, hbo⟩ := hrel
      have hch : Chg bw w20 wo := Chg.of hbo
      by_cases hil : i < l0
      · as_aux_lemma =>
        obtain ⟨b, off, rfl, hlt, hat⟩ := rows_at' (zeroAcct []) ((unhide HRW).go hch).now (unhide HEACH) (by omega)
        obtain ⟨ri, hrg, hrow⟩ := hat i hil
        obtain ⟨o, ho⟩ : ∃ o, o = ds0.getD i (zeroAcct []) := ⟨_, rfl⟩
        have hfo : o.slots = [] := by rw [ho]; exact trk_getD htrk i
        rw [← ho] at hrow
        have hrl := hrow.now.len
        have hsz : (Sakg.prog.info? 113).map (·.size) = some ri.length := by rw [hrl]; exact sizeAcct
        have HRG := hide hrg
        have HROW := hide hrow
        have HSZ := hide hsz
        have HRL := hide hrl
        clear hat hrg hrow hsz hrl ho
        go_upto_region 21 with (first
          | ((with_reducible refine at_load 113 ?_); refine wpList_load_g (by rfl) 113 (.tmp 98) rfl b _ rfl ri _ (unhide HRG) Sakg.underlying113 rfl (unhide HSZ) ?_)
          | ((with_reducible refine at_alloc 113 ?_); refine wpList_alloc_g (by rfl) 113 rfl (bv (zeros 20) ++ [nilS, nilS, nilS, nilS]) 24 infoAcct2 hZ24 ?_)
          | ((with_reducible refine at_store 113 ?_); refine wpList_store_whole rfl 113 (.tmp 10) (.tmp 99) rfl _ _ _ ri rfl rfl (RowT.new _ _ _) (by rw [unhide HRL, hZ24]) (unhide HSZ) (unhide HROW).now.one ?_; intro w21 hr21 hon21; have hbb21 := box_below hon21; clear hon21))
        obtain ⟨D1, m1, g1, D2, m2, g2, D3, m3, g3, D4, m4, g4, q20, q21, q22, q23, s1, s2, s3, s4⟩ := (unhide HROW).cells
        have hia := (unhide HROW).now.addr
        have hszo := hia.size
        have hpre := (unhide HROW).now.pre
        have b21 := hbb21.1
        have hw21s := hbb21.2
        have hch21 : Chg bw w20 w21 := hch.trans (Chg.of b21)
        have e23 : w21.cell? ⟨wo.heap.size, 23, none⟩ = some (.slice D4 m4 g4) := by rw [hr21.cell]; exact q23
        obtain ⟨srows, sg1, sg2⟩ := s4
        have hm4 : m4 = 0 := by rw [← sg1.now.len_eq, sg2.len, hfo]; rfl
        subst hm4
        clear hr21 hbb21 sg1 sg2 s1 s2 s3 q20 q21 q22 q23 hpre HRG HROW HSZ HRL
        go_wp2_with fail
        go_loopg [103] 0 (fun gk jv wr => jv = .int .i64 0 ∧ wr = w21)
        case atStart => exact ⟨rfl, rfl⟩
        case round =>
          obtain ⟨rfl, rfl⟩ := hrel
          go_wp2
          go_roundg (l0 - 1 - i)
          case measure => omega
          case rel => exact ⟨i + 1, by omega, rfl, hbo.trans (b21.mono hbo.size)⟩
      · as_aux_lemma =>
        have hs21 := (unhide HS20).kept hbo
        have h219 := unhide H209
        have h2114 := unhide H2014
        have h2115 := unhide H2015
        have h2117 := unhide H2017
        obtain ⟨cs21, hcs21⟩ : ∃ cs21, cs21 = cs20 := ⟨_, rfl⟩
        rw [← hcs21] at hs21 h219 h2114 h2115 h2117
        have HCS21 := hide hcs21
        clear hcs21
        have c2o : Chg bw w2 wo := c220.trans hch
        have c3o : Chg bw w3 wo := c320.trans hch
        have c10o : Chg bw w10 wo := c1020.trans hch
        have NLo := hide ((unhide NL20).go hch)
        have NPo := hide ((unhide NP20).go hch)
        have HS21 := hide hs21
        have H219 := hide h219
        have H2114 := hide h2114
        have H2115 := hide h2115
        have H2117 := hide h2117
        have hblo := hs21.lt
        have dO : Below wo.heap.size wo wo.drew := Quiet.below ⟨1, rfl⟩ _
        have hzo : wo.drew.heap.size = wo.heap.size := rfl
        have hB8 : (256 : Nat) ^ 8 ≤ BIG := big_pow 8 (by omega)
        have hnx : x.nonce + 1 < BIG := by have := hfx.2; have := big_ge; omega
        have hBB := big_ge
        clear hs21 h219 h2114 h2115 h2117 HS20 HR20 H208 H209 H2014 H2015 H2017 HRW HEACH HSET8 NL20 NP20 e00
        go_upto_region 27 with fail
        refine wp_region_noPanic ?_
        refine wp_region_held_drew (S := fun w' => Chg bw wo w') (by kernel_rfl) (Chg.of dO) (fun hHeld => ?_)
        refine held_takeD 0 (.pointer (some ⟨bw, 0, none⟩)) (some 125) (by rfl) (by rfl) (by kernel_rfl) (by kernel_rfl) (by kernel_rfl) (fun _ _ _ h => h) (.inl ⟨by rfl, fun _ _ => by rfl⟩) (hHeld) ?_
        simp only [Act.put, List.setIfInBounds_toArray, List.set_cons_zero, List.set_cons_succ]
        refine held_takeD 1 (.pointer (some ⟨bw, 0, none⟩)) (some 126) (by rfl) (by rfl) (by kernel_rfl) (by kernel_rfl) (by kernel_rfl) (fun _ _ _ h => h) (.inl ⟨by rfl, fun _ _ => by go_simp⟩) (hHeld) ?_
        simp only [Act.put, List.setIfInBounds_toArray, List.set_cons_zero, List.set_cons_succ]
        refine held_takeD 2 (.pointer (some ⟨bw, 0, none⟩)) (some 127) (by rfl) (by rfl) (by kernel_rfl) (by kernel_rfl) (by kernel_rfl) (fun _ _ _ h => h) (.inl ⟨by rfl, fun _ _ => by go_simp⟩) (hHeld) ?_
        simp only [Act.put, List.setIfInBounds_toArray, List.set_cons_zero, List.set_cons_succ]
        refine held_takeD 3 (.pointer (some ⟨w.heap.size, 0, none⟩)) (some 128) (by rfl) (by rfl) (by kernel_rfl) (by kernel_rfl) (by kernel_rfl) (fun _ _ _ h => h) (.inl ⟨by rfl, fun _ _ => by go_simp⟩) (hHeld) ?_
        simp only [Act.put, List.setIfInBounds_toArray, List.set_cons_zero, List.set_cons_succ]
        refine held_takeD 4 (.agg (bv d.frm).toArray) (some 129) (by rfl) (by rfl) (by kernel_rfl) (by kernel_rfl) (by kernel_rfl) (fun _ _ _ h => h) (yieldsIf_load_mid (by rfl) _ _ rfl _ _ rfl _ _ (fun wz hS => unhide HFR wz (c2o.trans hS)) hu rfl hszf) (hHeld) ?_
        simp only [Act.put, List.setIfInBounds_toArray, List.set_cons_zero, List.set_cons_succ]
        refine held_takeD 5 (.pointer (some ⟨gA, 20, none⟩)) (some 130) (by rfl) (by rfl) (by kernel_rfl) (by kernel_rfl) (by kernel_rfl) (fun _ _ _ h => h) (.inl ⟨by rfl, fun _ _ => by go_simp⟩) (hHeld) ?_
        simp only [Act.put, List.setIfInBounds_toArray, List.set_cons_zero, List.set_cons_succ]
        refine held_takeD 6 (.slice B1 j1 f1) (some 131) (by rfl) (by rfl) (by kernel_rfl) (by kernel_rfl) (by kernel_rfl) (fun _ _ _ h => h) (.inl ⟨by rfl, fun wS hS => by have hc := unhide HA20 wS (c3o.trans hS); go_simp⟩) (hHeld) ?_
        simp only [Act.put, List.setIfInBounds_toArray, List.set_cons_zero, List.set_cons_succ]
        refine held_one 7 (by kernel_rfl) (by rfl) (fun K' hK' => ?_)
        go_simp
        refine (num_any 1 wo.drew (by omega)).mono ?_
        rintro e w22 ⟨A22, k22, c22, rfl, n22, N22, b22⟩
        refine hK'.out _ _ (Chg.of (dO.trans (b22.mono dO.size))) ?_
        clear hK' K'
        have d22 := dO.trans (b22.mono dO.size)
        refine held_one 8 (by kernel_rfl) (by rfl) (fun K' hK' => ?_)
        go_simp
        refine ((unhide HN1 w22 (c3o.trans (Chg.of d22))).add n22 hfx.1.1 (by omega)).mono ?_
        rintro e w23 ⟨A23, k23, c23', rfl, n23, N23, b23⟩
        refine hK'.out _ _ (Chg.of (d22.trans (b23.mono d22.size))) ?_
        clear hK' K'
        have d23 := d22.trans (b23.mono d22.size)
        have o23 : Off bw A23 k23 := N23.off (by have := d22.size; omega) _
        refine held_one 9 (by kernel_rfl) (by rfl) (fun K' hK' => ?_)
        go_simp
        refine (((unhide HS21).kept d23).setNonce (by omega) d.frm hfrm hne A23 k23 c23' (x.nonce + 1) (Stab.nat n23 o23) hnx).mono ?_
        rintro e w24 ⟨rfl, cs24, hs24, h248, hc24⟩
        refine hK'.out _ _ ((Chg.of d23).trans hc24) ?_
        clear hK' K'
        refine wpAnyH_done (by kernel_rfl) ?_ _
        refine NoPanic.normal ?_
        have co24 : Chg bw wo w24 := (Chg.of d23).trans hc24
        have c224 : Chg bw w2 w24 := c2o.trans co24
        have c324 : Chg bw w3 w24 := c3o.trans co24
        have h249 : cs24[9]? = some nilS := by rw [h248 9 (by omega)]; exact unhide H219
        have h2414 : cs24[14]? = some (Value.slice A12 k12 c12) := by rw [h248 14 (by omega)]; exact unhide H2114
        have h2415 : cs24[15]? = some (Value.slice A15 k15 c15) := by rw [h248 15 (by omega)]; exact unhide H2115
        have h2417 : cs24[17]? = some (Value.slice A17 k17 c17) := by rw [h248 17 (by omega)]; exact unhide H2117
        have NL24 := hide ((unhide NLo).go co24)
        have NLx := hide ((unhide NLo).go co24)
        have NPx := hide ((unhide NPo).go co24)
        have NP24 := hide ((unhide NPo).go co24)
        have hbl24 := hs24.lt
        have d24 : Below w24.heap.size w24 w24.drew := Quiet.below ⟨1, rfl⟩ _
        have hS28 : ∀ wz, Below w24.heap.size w24 wz → Chg bw w24 wz ∧ wz.cell? ⟨bw, 14, none⟩ = some (Value.slice A12 k12 c12) ∧ wz.cell? ⟨bw, 17, none⟩ = some (Value.slice A17 k17 c17) := fun wz hz => ⟨Chg.of hz, (hs24.kept hz).cell h2414, (hs24.kept hz).cell h2417⟩
        have HS28 := hide hS28
        have HS24 := hide hs24
        have H249 := hide h249
        have H2414 := hide h2414
        have H2415 := hide h2415
        have H2417 := hide h2417
        have hpnB : pn < BIG := Nat.lt_of_lt_of_le hpn (big_pow 33 (by omega))
        have hgB : d.gas < BIG := by omega
        have hprod : d.gas * pn < BIG := by
          refine Nat.lt_of_lt_of_le (Nat.mul_lt_mul'' hgas8 hpn) ?_
          rw [← Nat.pow_add]
          exact big_pow 41 (by omega)
        have hbal : x.bal - d.gas * pn < 256 ^ 34 := Nat.lt_of_le_of_lt (Nat.sub_le _ _) hfx.1.2.1
        have hbalB : x.bal < BIG := Nat.lt_of_lt_of_le hfx.1.2.1 pow34
        have M24 := hide h248
        clear hs24 h249 h2414 h2415 h2417 hS28 h248 n22 n23 N22 N23 o23 HS21 H219 H2114 H2115 H2117 NLo NPo
        as_aux_lemma =>
        go_upto_region 28 with fail
        refine wp_region_noPanic ?_
        refine wp_region_held_drew (S := fun w' => Chg bw w24 w' ∧ w'.cell? ⟨bw, 14, none⟩ = some (Value.slice A12 k12 c12) ∧ w'.cell? ⟨bw, 17, none⟩ = some (Value.slice A17 k17 c17)) (by kernel_rfl) (unhide HS28 _ d24) (fun hHeld => ?_)
        refine held_takeD 0 (.pointer (some ⟨bw, 0, none⟩)) (some 135) (by rfl) (by rfl) (by kernel_rfl) (by kernel_rfl) (by kernel_rfl) (fun _ _ _ h => h) (.inl ⟨by rfl, fun _ _ => by rfl⟩) (hHeld) ?_
        simp only [Act.put, List.setIfInBounds_toArray, List.set_cons_zero, List.set_cons_succ]
        refine held_takeD 1 (.pointer (some ⟨bw, 0, none⟩)) (some 136) (by rfl) (by rfl) (by kernel_rfl) (by kernel_rfl) (by kernel_rfl) (fun _ _ _ h => h) (.inl ⟨by rfl, fun _ _ => by go_simp⟩) (hHeld) ?_
        simp only [Act.put, List.setIfInBounds_toArray, List.set_cons_zero, List.set_cons_succ]
        refine held_takeD 2 (.pointer (some ⟨bw, 0, none⟩)) (some 137) (by rfl) (by rfl) (by kernel_rfl) (by kernel_rfl) (by kernel_rfl) (fun _ _ _ h => h) (.inl ⟨by rfl, fun _ _ => by go_simp⟩) (hHeld) ?_
        simp only [Act.put, List.setIfInBounds_toArray, List.set_cons_zero, List.set_cons_succ]
        refine held_takeD 3 (.pointer (some ⟨w.heap.size, 0, none⟩)) (some 138) (by rfl) (by rfl) (by kernel_rfl) (by kernel_rfl) (by kernel_rfl) (fun _ _ _ h => h) (.inl ⟨by rfl, fun _ _ => by go_simp⟩) (hHeld) ?_
        simp only [Act.put, List.setIfInBounds_toArray, List.set_cons_zero, List.set_cons_succ]
        refine held_takeD 4 (.agg (bv d.frm).toArray) (some 139) (by rfl) (by rfl) (by kernel_rfl) (by kernel_rfl) (by kernel_rfl) (fun _ _ _ h => h) (yieldsIf_load_mid (by rfl) _ _ rfl _ _ rfl _ _ (fun wz hS => unhide HFR wz (c224.trans hS.1)) hu rfl hszf) (hHeld) ?_
        simp only [Act.put, List.setIfInBounds_toArray, List.set_cons_zero, List.set_cons_succ]
        refine held_takeD 5 (.pointer (some ⟨gA, 21, none⟩)) (some 140) (by rfl) (by rfl) (by kernel_rfl) (by kernel_rfl) (by kernel_rfl) (fun _ _ _ h => h) (.inl ⟨by rfl, fun _ _ => by go_simp⟩) (hHeld) ?_
        simp only [Act.put, List.setIfInBounds_toArray, List.set_cons_zero, List.set_cons_succ]
        refine held_takeD 6 (.slice B2 j2 f2) (some 141) (by rfl) (by rfl) (by kernel_rfl) (by kernel_rfl) (by kernel_rfl) (fun _ _ _ h => h) (.inl ⟨by rfl, fun wS hS => by have hc := unhide HA21 wS (c324.trans hS.1); go_simp⟩) (hHeld) ?_
        simp only [Act.put, List.setIfInBounds_toArray, List.set_cons_zero, List.set_cons_succ]
        refine held_takeD 7 (.pointer (some ⟨bw, 0, none⟩)) (some 142) (by rfl) (by rfl) (by kernel_rfl) (by kernel_rfl) (by kernel_rfl) (fun _ _ _ h => h) (.inl ⟨by rfl, fun _ _ => by rfl⟩) (hHeld) ?_
        simp only [Act.put, List.setIfInBounds_toArray, List.set_cons_zero, List.set_cons_succ]
        refine held_takeD 8 (.pointer (some ⟨bw, 0, none⟩)) (some 143) (by rfl) (by rfl) (by kernel_rfl) (by kernel_rfl) (by kernel_rfl) (fun _ _ _ h => h) (.inl ⟨by rfl, fun _ _ => by go_simp⟩) (hHeld) ?_
        simp only [Act.put, List.setIfInBounds_toArray, List.set_cons_zero, List.set_cons_succ]
        refine held_takeD 9 (.pointer (some ⟨bw, 14, none⟩)) (some 144) (by rfl) (by rfl) (by kernel_rfl) (by kernel_rfl) (by kernel_rfl) (fun _ _ _ h => h) (.inl ⟨by rfl, fun _ _ => by go_simp⟩) (hHeld) ?_
        simp only [Act.put, List.setIfInBounds_toArray, List.set_cons_zero, List.set_cons_succ]
        refine held_takeD 10 (.slice A12 k12 c12) (some 145) (by rfl) (by rfl) (by kernel_rfl) (by kernel_rfl) (by kernel_rfl) (fun _ _ _ h => h) (.inl ⟨by rfl, fun wS hS => by have hc := hS.2.1; go_simp⟩) (hHeld) ?_
        simp only [Act.put, List.setIfInBounds_toArray, List.set_cons_zero, List.set_cons_succ]
        refine held_takeD 11 (.pointer (some ⟨bw, 0, none⟩)) (some 146) (by rfl) (by rfl) (by kernel_rfl) (by kernel_rfl) (by kernel_rfl) (fun _ _ _ h => h) (.inl ⟨by rfl, fun _ _ => by rfl⟩) (hHeld) ?_
        simp only [Act.put, List.setIfInBounds_toArray, List.set_cons_zero, List.set_cons_succ]
        refine held_takeD 12 (.pointer (some ⟨bw, 0, none⟩)) (some 147) (by rfl) (by rfl) (by kernel_rfl) (by kernel_rfl) (by kernel_rfl) (fun _ _ _ h => h) (.inl ⟨by rfl, fun _ _ => by go_simp⟩) (hHeld) ?_
        simp only [Act.put, List.setIfInBounds_toArray, List.set_cons_zero, List.set_cons_succ]
        refine held_takeD 13 (.pointer (some ⟨bw, 17, none⟩)) (some 148) (by rfl) (by rfl) (by kernel_rfl) (by kernel_rfl) (by kernel_rfl) (fun _ _ _ h => h) (.inl ⟨by rfl, fun _ _ => by go_simp⟩) (hHeld) ?_
        simp only [Act.put, List.setIfInBounds_toArray, List.set_cons_zero, List.set_cons_succ]
        refine held_takeD 14 (.slice A17 k17 c17) (some 149) (by rfl) (by rfl) (by kernel_rfl) (by kernel_rfl) (by kernel_rfl) (fun _ _ _ h => h) (.inl ⟨by rfl, fun wS hS => by have hc := hS.2.2; go_simp⟩) (hHeld) ?_
        simp only [Act.put, List.setIfInBounds_toArray, List.set_cons_zero, List.set_cons_succ]
        refine held_one 15 (by kernel_rfl) (by rfl) (fun K' hK' => ?_)
        go_simp
        refine (((unhide NL24) _ (Chg.of d24)).mul ((unhide NP24) _ (Chg.of d24)) hgB hpnB).mono ?_
        rintro e w25 ⟨A25, k25, c25, rfl, n25, N25, b25⟩
        refine hK'.out _ _ (unhide HS28 _ (d24.trans (b25.mono d24.size))) ?_
        clear hK' K'
        have d25 := d24.trans (b25.mono d24.size)
        refine held_one 16 (by kernel_rfl) (by rfl) (fun K' hK' => ?_)
        go_simp
        refine (less_any B2 A25 j2 k25 f2 c25 x.bal (d.gas * pn) w25 (unhide HN2 w25 (c324.trans (Chg.of d25))) n25 hbalB hprod).mono ?_
        rintro e w26 ⟨A26, k26, c26, rfl, n26, N26, b26⟩
        refine hK'.out _ _ (unhide HS28 _ (d25.trans (b26.mono d25.size))) ?_
        clear hK' K'
        have d26 := d25.trans (b26.mono d25.size)
        have o26 : Off bw A26 k26 := N26.off (by have := d25.size; omega) _
        refine held_one 17 (by kernel_rfl) (by rfl) (fun K' hK' => ?_)
        go_simp
        refine (((unhide HS24).kept d26).setBalance (by omega) d.frm hfrm hne A26 k26 c26 (x.bal - d.gas * pn) (Stab.nat n26 o26) hbal).mono ?_
        rintro e w27 ⟨rfl, cs27, hs27, h278, hc27⟩
        refine hK'.out _ _ (⟨(Chg.of d26).trans hc27, hs27.cell (by rw [h278 14 (by omega)]; exact unhide H2414), hs27.cell (by rw [h278 17 (by omega)]; exact unhide H2417)⟩) ?_
        clear hK' K'
        refine wpAnyH_done (by kernel_rfl) ?_ _
        refine NoPanic.normal ?_
        have c2427 : Chg bw w24 w27 := (Chg.of d26).trans hc27
        have c227 : Chg bw w2 w27 := c224.trans c2427
        have c1027 : Chg bw w10 w27 := c10o.trans (co24.trans c2427)
        have H279 : Hid (cs27[9]? = some nilS) := hide (by rw [h278 9 (by omega)]; exact unhide H249)
        have H2715 : Hid (cs27[15]? = some (Value.slice A15 k15 c15)) := hide (by rw [h278 15 (by omega)]; exact unhide H2415)
        have HS27 := hide hs27
        have d27 : Below w27.heap.size w27 w27.drew := Quiet.below ⟨1, rfl⟩ _
        have M27 := hide h278
        clear hs27 h278 n25 n26 N25 N26 o26 HS24 H249 H2414 H2415 H2417 NL24 NP24 HS28
        as_aux_lemma =>
        go_upto_region 29 with fail
        refine wp_region_noPanic ?_
        refine wp_region_held_drew (S := fun w' => Chg bw w27 w') (by kernel_rfl) (Chg.of d27) (fun hHeld => ?_)
        refine held_takeD 0 (.pointer (some ⟨bw, 0, none⟩)) (some 153) (by rfl) (by rfl) (by kernel_rfl) (by kernel_rfl) (by kernel_rfl) (fun _ _ _ h => h) (.inl ⟨by rfl, fun _ _ => by rfl⟩) (hHeld) ?_
        simp only [Act.put, List.setIfInBounds_toArray, List.set_cons_zero, List.set_cons_succ]
        refine held_takeD 1 (.pointer (some ⟨bw, 0, none⟩)) (some 154) (by rfl) (by rfl) (by kernel_rfl) (by kernel_rfl) (by kernel_rfl) (fun _ _ _ h => h) (.inl ⟨by rfl, fun _ _ => by go_simp⟩) (hHeld) ?_
        simp only [Act.put, List.setIfInBounds_toArray, List.set_cons_zero, List.set_cons_succ]
        refine held_takeD 2 (.pointer (some ⟨bw, 0, none⟩)) (some 155) (by rfl) (by rfl) (by kernel_rfl) (by kernel_rfl) (by kernel_rfl) (fun _ _ _ h => h) (.inl ⟨by rfl, fun _ _ => by go_simp⟩) (hHeld) ?_
        simp only [Act.put, List.setIfInBounds_toArray, List.set_cons_zero, List.set_cons_succ]
        refine held_takeD 3 (.pointer (some ⟨w.heap.size, 0, none⟩)) (some 156) (by rfl) (by rfl) (by kernel_rfl) (by kernel_rfl) (by kernel_rfl) (fun _ _ _ h => h) (.inl ⟨by rfl, fun _ _ => by go_simp⟩) (hHeld) ?_
        simp only [Act.put, List.setIfInBounds_toArray, List.set_cons_zero, List.set_cons_succ]
        refine held_takeD 4 (.agg (bv d.frm).toArray) (some 157) (by rfl) (by rfl) (by kernel_rfl) (by kernel_rfl) (by kernel_rfl) (fun _ _ _ h => h) (yieldsIf_load_mid (by rfl) _ _ rfl _ _ rfl _ _ (fun wz hS => unhide HFR wz (c227.trans hS)) hu rfl hszf) (hHeld) ?_
        simp only [Act.put, List.setIfInBounds_toArray, List.set_cons_zero, List.set_cons_succ]
        refine held_one 5 (by kernel_rfl) (by rfl) (fun K' hK' => ?_)
        go_simp
        refine (((unhide HS27).kept d27).warm (by omega) d.frm hfrm).mono ?_
        rintro e w28 ⟨rfl, cs28, hs28, h288, hc28⟩
        refine hK'.out _ _ ((Chg.of d27).trans hc28) ?_
        clear hK' K'
        refine wpAnyH_done (by kernel_rfl) ?_ _
        refine NoPanic.normal ?_
        have c2728 : Chg bw w27 w28 := (Chg.of d27).trans hc28
        have HS28b := hide hs28
        have d28 : Below w28.heap.size w28 w28.drew := Quiet.below ⟨1, rfl⟩ _
        have hcr28 := (hs28.kept d28).coinR
        have HCR28 := hide hcr28
        have hcbA := he.hcb
        have hszcb := hcbA.size
        clear hs28 hcr28 HS27
        go_upto_region 30 with fail
        refine wp_region_noPanic ?_
        refine wp_region_held_drew (S := fun w' => w'.rangeAt bw 59 (bv cb)) (by kernel_rfl) (unhide HCR28) (fun hHeld => ?_)
        refine held_takeD 0 (.pointer (some ⟨bw, 0, none⟩)) (some 159) (by rfl) (by rfl) (by kernel_rfl) (by kernel_rfl) (by kernel_rfl) (fun _ _ _ h => h) (.inl ⟨by rfl, fun _ _ => by rfl⟩) (hHeld) ?_
        simp only [Act.put, List.setIfInBounds_toArray, List.set_cons_zero, List.set_cons_succ]
        refine held_takeD 1 (.pointer (some ⟨bw, 0, none⟩)) (some 160) (by rfl) (by rfl) (by kernel_rfl) (by kernel_rfl) (by kernel_rfl) (fun _ _ _ h => h) (.inl ⟨by rfl, fun _ _ => by go_simp⟩) (hHeld) ?_
        simp only [Act.put, List.setIfInBounds_toArray, List.set_cons_zero, List.set_cons_succ]
        refine held_takeD 2 (.pointer (some ⟨bw, 0, none⟩)) (some 161) (by rfl) (by rfl) (by kernel_rfl) (by kernel_rfl) (by kernel_rfl) (fun _ _ _ h => h) (.inl ⟨by rfl, fun _ _ => by go_simp⟩) (hHeld) ?_
        simp only [Act.put, List.setIfInBounds_toArray, List.set_cons_zero, List.set_cons_succ]
        refine held_takeD 3 (.pointer (some ⟨bw, 0, none⟩)) (some 162) (by rfl) (by rfl) (by kernel_rfl) (by kernel_rfl) (by kernel_rfl) (fun _ _ _ h => h) (.inl ⟨by rfl, fun _ _ => by rfl⟩) (hHeld) ?_
        simp only [Act.put, List.setIfInBounds_toArray, List.set_cons_zero, List.set_cons_succ]
        refine held_takeD 4 (.pointer (some ⟨bw, 0, none⟩)) (some 163) (by rfl) (by rfl) (by kernel_rfl) (by kernel_rfl) (by kernel_rfl) (fun _ _ _ h => h) (.inl ⟨by rfl, fun _ _ => by go_simp⟩) (hHeld) ?_
        simp only [Act.put, List.setIfInBounds_toArray, List.set_cons_zero, List.set_cons_succ]
        refine held_takeD 5 (.pointer (some ⟨bw, 59, none⟩)) (some 164) (by rfl) (by rfl) (by kernel_rfl) (by kernel_rfl) (by kernel_rfl) (fun _ _ _ h => h) (.inl ⟨by rfl, fun _ _ => by go_simp⟩) (hHeld) ?_
        simp only [Act.put, List.setIfInBounds_toArray, List.set_cons_zero, List.set_cons_succ]
        refine held_takeD 6 (.pointer (some ⟨bw, 59, none⟩)) (some 165) (by rfl) (by rfl) (by kernel_rfl) (by kernel_rfl) (by kernel_rfl) (fun _ _ _ h => h) (.inl ⟨by rfl, fun _ _ => by go_simp⟩) (hHeld) ?_
        simp only [Act.put, List.setIfInBounds_toArray, List.set_cons_zero, List.set_cons_succ]
        refine held_takeD 7 (.agg (bv cb).toArray) (some 166) (by rfl) (by rfl) (by kernel_rfl) (by kernel_rfl) (by kernel_rfl) (fun _ _ _ h => h) (yieldsIf_load_mid (by rfl) _ _ rfl _ _ rfl _ _ (fun wz hS => hS) hu rfl hszcb) (hHeld) ?_
        simp only [Act.put, List.setIfInBounds_toArray, List.set_cons_zero, List.set_cons_succ]
        refine held_one 8 (by kernel_rfl) (by rfl) (fun K' hK' => ?_)
        go_simp
        refine (((unhide HS28b).kept d28).warm (by omega) cb hcbA).mono ?_
        rintro e w29 ⟨rfl, cs29, hs29, h298, hc29⟩
        refine hK'.out _ _ (hs29.coinR) ?_
        clear hK' K'
        refine wpAnyH_done (by kernel_rfl) ?_ _
        refine NoPanic.normal ?_
        have c2729 : Chg bw w27 w29 := c2728.trans ((Chg.of d28).trans hc29)
        have HS29 := hide hs29
        have d29 : Below w29.heap.size w29 w29.drew := Quiet.below ⟨1, rfl⟩ _
        have c1029 : Chg bw w10 w29 := c1027.trans c2729
        clear hs29 HS28b HCR28
        as_aux_lemma =>
        go_upto_region 31 with fail
        refine wp_region_noPanic ?_
        refine wp_region_held_drew (S := fun w' => Chg bw w29 w') (by kernel_rfl) (Chg.of d29) (fun hHeld => ?_)
        refine held_takeD 0 (.pointer (some ⟨bw, 0, none⟩)) (some 168) (by rfl) (by rfl) (by kernel_rfl) (by kernel_rfl) (by kernel_rfl) (fun _ _ _ h => h) (.inl ⟨by rfl, fun _ _ => by rfl⟩) (hHeld) ?_
        simp only [Act.put, List.setIfInBounds_toArray, List.set_cons_zero, List.set_cons_succ]
        refine held_takeD 1 (.pointer (some ⟨bw, 0, none⟩)) (some 169) (by rfl) (by rfl) (by kernel_rfl) (by kernel_rfl) (by kernel_rfl) (fun _ _ _ h => h) (.inl ⟨by rfl, fun _ _ => by go_simp⟩) (hHeld) ?_
        simp only [Act.put, List.setIfInBounds_toArray, List.set_cons_zero, List.set_cons_succ]
        refine held_takeD 2 (.pointer (some ⟨bw, 0, none⟩)) (some 170) (by rfl) (by rfl) (by kernel_rfl) (by kernel_rfl) (by kernel_rfl) (fun _ _ _ h => h) (.inl ⟨by rfl, fun _ _ => by go_simp⟩) (hHeld) ?_
        simp only [Act.put, List.setIfInBounds_toArray, List.set_cons_zero, List.set_cons_succ]
        refine held_takeD 3 (.agg (bv tg).toArray) (some 171) (by rfl) (by rfl) (by kernel_rfl) (by kernel_rfl) (by kernel_rfl) (fun _ _ _ h => h) (yieldsIf_load_mid (by rfl) _ _ rfl _ _ rfl _ _ (fun wz hS => (unhide HTG wz (c1029.trans hS)).rangeAll) hu rfl hszt) (hHeld) ?_
        simp only [Act.put, List.setIfInBounds_toArray, List.set_cons_zero, List.set_cons_succ]
        refine held_one 4 (by kernel_rfl) (by rfl) (fun K' hK' => ?_)
        go_simp
        refine (((unhide HS29).kept d29).warm (by omega) tg htg).mono ?_
        rintro e w30 ⟨rfl, cs30, hs30, h308, hc30⟩
        refine hK'.out _ _ ((Chg.of d29).trans hc30) ?_
        clear hK' K'
        refine wpAnyH_done (by kernel_rfl) ?_ _
        refine NoPanic.normal ?_
        have c2730 : Chg bw w27 w30 := c2729.trans ((Chg.of d29).trans hc30)
        have HL4 := hide (hs30.warm (by omega) (lowAddr 4) (lowAddr_is 4 (by omega) (by omega)))
        clear hs30 HS29
        go_upto_region 33 with (first
          | ((with_reducible refine at_build 26 ?_); refine wpList_build_run (by rfl) 26 [(19, .const (.int .u8 4))] rfl (.agg (bv (lowAddr 4)).toArray) (run_low 4 _) ?_)
          | (go_at_call 106; refine (unhide HL4).mono ?_; rintro e w31 ⟨rfl, cs31, hs31, h318, hc31⟩))
        have HL5 := hide (hs31.warm (by omega) (lowAddr 5) (lowAddr_is 5 (by omega) (by omega)))
        clear hs31 HL4
        as_aux_lemma =>
        go_upto_region 34 with (first
          | ((with_reducible refine at_build 26 ?_); refine wpList_build_run (by rfl) 26 [(19, .const (.int .u8 5))] rfl (.agg (bv (lowAddr 5)).toArray) (run_low 5 _) ?_)
          | (go_at_call 106; refine (unhide HL5).mono ?_; rintro e w32 ⟨rfl, cs32, hs32, h328, hc32⟩))
        have c2732 : Chg bw w27 w32 := c2730.trans (hc31.trans hc32)
        have h3227 : Same8 cs27 cs32 := (h288.trans (h298.trans h308)).trans (h318.trans h328)
        have c232 : Chg bw w2 w32 := c227.trans c2732
        have c1032 : Chg bw w10 w32 := c1027.trans c2732
        have HS32 := hide hs32
        have H329 : Hid (cs32[9]? = some nilS) := hide (by rw [h3227 9 (by omega)]; exact unhide H279)
        have H3215 : Hid (cs32[15]? = some (Value.slice A15 k15 c15)) := hide (by rw [h3227 15 (by omega)]; exact unhide H2715)
        have hbl32 := hs32.lt
        have e173 : w32.cell? ⟨w.heap.size, 173, none⟩ = some (.slice none 0 0) := by rw [(unhide HT w32 c232).cell]; exact h.access
        have M32 := hide h3227
        clear hs32 HL5 h288 h298 h308 h318 h328 h3227 H279 H2715
        go_wp2_with fail
        go_loopg [186] 0 (fun gk iv wr => iv = .int .i64 0 ∧ wr = w32)
        case atStart => exact ⟨rfl, rfl⟩
        case round =>
          obtain ⟨wp, hwp⟩ : ∃ wp, wp = wr := ⟨_, rfl⟩
          subst hwp
          obtain ⟨rfl, hwp32⟩ := hrel
          subst hwp32
          have hci : Chg bw wp wp := Chg.refl _ _
          have hs33 := unhide HS32
          have h339 := unhide H329
          have h3315 := unhide H3215
          obtain ⟨v10, hx10⟩ := hs33.any (i := 10) (by omega)
          have hf10 := hs33.row.froz 10
          have HS33 := hide hs33
          have H339 := hide h339
          have H3315 := hide h3315
          obtain ⟨csi, hcsi⟩ : ∃ csi, csi = cs32 := ⟨_, rfl⟩
          rw [← hcsi] at HS33 H339 H3315 M32
          clear hs33 h339 h3315 HS32 H329 H3215 e173 hcsi
          go_upto_region 45 with fail
          obtain ⟨w34, hw34⟩ : ∃ y, y = wp.setCell ⟨bw, 10, none⟩ (Value.slice none 0 0) := ⟨_, rfl⟩
          rw [← hw34]
          have hs34 := hw34 ▸ (unhide HS33).set 10 (by omega) (by omega) (Value.slice none 0 0)
          have c34 : Chg bw wp w34 := hw34 ▸ Chg.ofOnly ((Only.refl bw wp).setCell 10 (Value.slice none 0 0))
          have h349 : (csi.set 10 (Value.slice none 0 0))[9]? = some nilS := by rw [List.getElem?_set_ne (by omega)]; exact unhide H339
          have h3415 : (csi.set 10 (Value.slice none 0 0))[15]? = some (Value.slice A15 k15 c15) := by rw [List.getElem?_set_ne (by omega)]; exact unhide H3315
          have m34 : Hid (∀ i, i ≠ 10 → (csi.set 10 (Value.slice none 0 0))[i]? = csi[i]?) := hide (fun i hi => List.getElem?_set_ne (Ne.symm hi))
          generalize csi.set 10 (Value.slice none 0 0) = cs34 at hs34 h349 h3415 m34
          have c234 : Chg bw w2 w34 := c232.trans c34
          have c1034 : Chg bw w10 w34 := c1032.trans c34
          have hbl34 := hs34.lt
          have d34 : Below w34.heap.size w34 w34.drew := Quiet.below ⟨1, rfl⟩ _
          have hval := h.hvalue
          have hS45 : ∀ wz, Below w34.heap.size w34 wz → RowT 33 wz w.heap.size r ∧ RowT 26 wz w3.heap.size (bv tg) ∧ wz.cell? ⟨bw, 15, none⟩ = some (Value.slice A15 k15 c15) := fun wz hz => ⟨unhide HT wz (c234.trans (Chg.of hz)), unhide HTG wz (c1034.trans (Chg.of hz)), (hs34.kept hz).cell h3415⟩
          have hsv : ∀ wz, Below w34.heap.size w34 wz → Src wz (some ⟨w.heap.size, 75, none⟩) 32 32 d.value := fun wz hz => src_of_range (by have := (hS45 wz hz).1.range 75 32; rwa [h.value] at this) hval.byt hval.len max32
          have HS45 := hide hS45
          have HSV := hide hsv
          have HS34 := hide hs34
          have H349 := hide h349
          clear hs34 h349 h3415 hS45 hsv hw34 hx10 hf10 HS33 H339 H3315
          go_cut [17] (fun s17 wc => ∃ (gF : Nat) (Av : Option Addr) (kv cv : Nat), s17 = .pointer (some ⟨gF, 0, none⟩) ∧ w34.heap.size ≤ gF ∧ RowT 194 wc gF (frame5 A15 Av k15 c15 kv cv tg d.frm) ∧ IsNat wc Av kv cv (beN d.value) ∧ OffS (G3 bw gF) Av kv ∧ Below w34.heap.size w34 wc)
          case first =>
            as_aux_lemma =>
            refine wp_region_noPanic ?_
            refine wp_region_held_drew (S := fun w' => Below w34.heap.size w34 w') (by kernel_rfl) (d34) (fun hHeld => ?_)
            refine held_takeD 0 (.pointer (some ⟨bw, 0, none⟩)) (some 216) (by rfl) (by rfl) (by kernel_rfl) (by kernel_rfl) (by kernel_rfl) (fun _ _ _ h => h) (.inl ⟨by rfl, fun _ _ => by rfl⟩) (hHeld) ?_
            simp only [Act.put, List.setIfInBounds_toArray, List.set_cons_zero, List.set_cons_succ]
            refine held_takeD 1 (.pointer (some ⟨bw, 0, none⟩)) (some 217) (by rfl) (by rfl) (by kernel_rfl) (by kernel_rfl) (by kernel_rfl) (fun _ _ _ h => h) (.inl ⟨by rfl, fun _ _ => by go_simp⟩) (hHeld) ?_
            simp only [Act.put, List.setIfInBounds_toArray, List.set_cons_zero, List.set_cons_succ]
            refine held_takeD 2 (.pointer (some ⟨bw, 15, none⟩)) (some 218) (by rfl) (by rfl) (by kernel_rfl) (by kernel_rfl) (by kernel_rfl) (fun _ _ _ h => h) (.inl ⟨by rfl, fun _ _ => by go_simp⟩) (hHeld) ?_
            simp only [Act.put, List.setIfInBounds_toArray, List.set_cons_zero, List.set_cons_succ]
            refine held_takeD 3 (.slice A15 k15 c15) (some 219) (by rfl) (by rfl) (by kernel_rfl) (by kernel_rfl) (by kernel_rfl) (fun _ _ _ h => h) (.inl ⟨by rfl, fun wS hS => by have hc := (unhide HS45 wS hS).2.2; go_simp⟩) (hHeld) ?_
            simp only [Act.put, List.setIfInBounds_toArray, List.set_cons_zero, List.set_cons_succ]
            refine held_takeD 4 (.pointer (some ⟨w.heap.size, 75, none⟩)) (some 220) (by rfl) (by rfl) (by kernel_rfl) (by kernel_rfl) (by kernel_rfl) (fun _ _ _ h => h) (.inl ⟨by rfl, fun _ _ => by go_simp⟩) (hHeld) ?_
            simp only [Act.put, List.setIfInBounds_toArray, List.set_cons_zero, List.set_cons_succ]
            refine held_takeD 5 (.slice (some ⟨w.heap.size, 75, none⟩) 32 32) (some 221) (by rfl) (by rfl) (by kernel_rfl) (by kernel_rfl) (by kernel_rfl) (fun _ _ _ h => h) (.inl ⟨by rfl, fun _ _ => by go_simp⟩) (hHeld) ?_
            simp only [Act.put, List.setIfInBounds_toArray, List.set_cons_zero, List.set_cons_succ]
            refine held_takeD 7 (.agg (bv tg).toArray) (some 223) (by rfl) (by rfl) (by kernel_rfl) (by kernel_rfl) (by kernel_rfl) (fun _ _ _ h => h) (yieldsIf_load_mid (by rfl) _ _ rfl _ _ rfl _ _ (fun wz hS => (unhide HS45 wz hS).2.1.rangeAll) hu rfl hszt) (hHeld) ?_
            simp only [Act.put, List.setIfInBounds_toArray, List.set_cons_zero, List.set_cons_succ]
            refine held_takeD 8 (.pointer (some ⟨w.heap.size, 0, none⟩)) (some 224) (by rfl) (by rfl) (by kernel_rfl) (by kernel_rfl) (by kernel_rfl) (fun _ _ _ h => h) (.inl ⟨by rfl, fun _ _ => by go_simp⟩) (hHeld) ?_
            simp only [Act.put, List.setIfInBounds_toArray, List.set_cons_zero, List.set_cons_succ]
            refine held_takeD 9 (.agg (bv d.frm).toArray) (some 225) (by rfl) (by rfl) (by kernel_rfl) (by kernel_rfl) (by kernel_rfl) (fun _ _ _ h => h) (yieldsIf_load_mid (by rfl) _ _ rfl _ _ rfl _ _ (fun wz hS => (by have := (unhide HS45 wz hS).1.range 0 20; rwa [h.frm] at this)) hu rfl hszf) (hHeld) ?_
            simp only [Act.put, List.setIfInBounds_toArray, List.set_cons_zero, List.set_cons_succ]
            refine held_two 6 11 (by kernel_rfl) (by rfl) (by rfl) (fun K' hK' => ?_) (fun K' hK' => ?_)
            · go_simp
              refine (fromBE_any _ 32 32 d.value w34.drew (unhide HSV _ d34) (by omega)).mono ?_
              rintro e wq ⟨Av, kv, cv, rfl, nq, Nq, bq⟩
              have dq := d34.trans (bq.mono d34.size)
              refine hK'.out _ _ (dq) ?_
              clear hK' K'
              refine held_takeD 10 (.agg (frame5 A15 Av k15 c15 kv cv tg d.frm).toArray) (some 226) (by rfl) (by rfl) (by kernel_rfl) (by kernel_rfl) (by kernel_rfl) (fun _ _ _ h => h) (yieldsIf_build (by rfl) 194 [(0, .const (.int .u8 0)), (4, .tmp 219), (5, .tmp 222), (12, .tmp 223), (13, .tmp 225)] rfl _ (fun wx => run_frame5 wx A15 Av k15 c15 kv cv tg d.frm htg hfrm)) dq ?_
              simp only [Act.put, List.setIfInBounds_toArray, List.set_cons_zero, List.set_cons_succ]
              have hFC := frame5_ok A15 Av k15 c15 kv cv tg d.frm htg hfrm
              refine held_one 11 (by kernel_rfl) (by rfl) (fun K' hK' => ?_)
              refine if_alloc (some 17) rfl 194 rfl (by rfl) _ 60 infoFrame2 zeroF_len (fun wF rF bF sF => ?_)
              have dF := dq.trans (bF.mono dq.size)
              refine hK'.out _ _ (dF) ?_
              clear hK' K'
              simp only [Act.put, List.setIfInBounds_toArray, List.set_cons_zero, List.set_cons_succ]
              refine held_one 12 (by kernel_rfl) (by rfl) (fun K' hK' => ?_)
              refine if_store rfl (by rfl) 194 (.tmp 17) (.tmp 226) rfl wq.heap.size 0 194 _ (frame5 A15 Av k15 c15 kv cv tg d.frm) rfl rfl rF (by rw [hFC.len, zeroF_len]; omega) (by rw [hFC.len]; exact sizeFrame) hFC.one (fun wS rS oS => ?_)
              have dS : Below w34.heap.size w34 wS := dF.trans (oS.below _ (dq.size))
              refine hK'.out _ _ (dS) ?_
              clear hK' K'
              refine wpAnyH_done (by kernel_rfl) ?_ _
              refine NoPanic.normal ?_
              rw [spl_all _ _ (by rw [hFC.len, zeroF_len])] at rS
              have zd : w34.drew.heap.size = w34.heap.size := rfl
              have zq := bq.size
              have zF := bF.size
              have qq := nq.kept bF
              have ne : OffS (G3 bw wq.heap.size) Av kv := fun y hy h0 h1 => by have h2 := nat_blk nq y hy h0; have h3 := Nq y hy; rcases h1 with h4 | h4 <;> omega
              have q1 : IsNat wS Av kv cv (beN d.value) := StabS.nat (G := G3 bw wq.heap.size) qq ne wS (ChgS.only oS (.inr rfl))
              go_wp2_with fail
              go_meet
              case rel => exact ⟨wq.heap.size, Av, kv, cv, rfl, dq.size, rS, q1, ne, dS⟩
            · refine if_alloc (some 17) rfl 194 rfl (by rfl) _ 60 infoFrame2 zeroF_len (fun wF rF bF sF => ?_)
              have dF := d34.trans (bF.mono d34.size)
              refine hK'.out _ _ (dF) ?_
              clear hK' K'
              simp only [Act.put, List.setIfInBounds_toArray, List.set_cons_zero, List.set_cons_succ]
              refine held_one 6 (by kernel_rfl) (by rfl) (fun K' hK' => ?_)
              go_simp
              refine (fromBE_any _ 32 32 d.value wF (unhide HSV _ dF) (by omega)).mono ?_
              rintro e wq ⟨Av, kv, cv, rfl, nq, Nq, bq⟩
              have dq := dF.trans (bq.mono dF.size)
              refine hK'.out _ _ (dq) ?_
              clear hK' K'
              refine held_takeD 10 (.agg (frame5 A15 Av k15 c15 kv cv tg d.frm).toArray) (some 226) (by rfl) (by rfl) (by kernel_rfl) (by kernel_rfl) (by kernel_rfl) (fun _ _ _ h => h) (yieldsIf_build (by rfl) 194 [(0, .const (.int .u8 0)), (4, .tmp 219), (5, .tmp 222), (12, .tmp 223), (13, .tmp 225)] rfl _ (fun wx => run_frame5 wx A15 Av k15 c15 kv cv tg d.frm htg hfrm)) dq ?_
              simp only [Act.put, List.setIfInBounds_toArray, List.set_cons_zero, List.set_cons_succ]
              have hFC := frame5_ok A15 Av k15 c15 kv cv tg d.frm htg hfrm
              refine held_one 12 (by kernel_rfl) (by rfl) (fun K' hK' => ?_)
              refine if_store rfl (by rfl) 194 (.tmp 17) (.tmp 226) rfl w34.heap.size 0 194 _ (frame5 A15 Av k15 c15 kv cv tg d.frm) rfl rfl (rF.kept bq) (by rw [hFC.len, zeroF_len]; omega) (by rw [hFC.len]; exact sizeFrame) hFC.one (fun wS rS oS => ?_)
              have dS : Below w34.heap.size w34 wS := dq.trans (oS.below _ (Nat.le_refl _))
              refine hK'.out _ _ (dS) ?_
              clear hK' K'
              refine wpAnyH_done (by kernel_rfl) ?_ _
              refine NoPanic.normal ?_
              rw [spl_all _ _ (by rw [hFC.len, zeroF_len])] at rS
              have zd : w34.drew.heap.size = w34.heap.size := rfl
              have zq := bq.size
              have zF := bF.size
              have qq := nq
              have ne : OffS (G3 bw w34.heap.size) Av kv := fun y hy h0 h1 => by have h2 := nat_blk nq y hy h0; have h3 := Nq y hy; rcases h1 with h4 | h4 <;> omega
              have q1 : IsNat wS Av kv cv (beN d.value) := StabS.nat (G := G3 bw w34.heap.size) qq ne wS (ChgS.only oS (.inr rfl))
              go_wp2_with fail
              go_meet
              case rel => exact ⟨w34.heap.size, Av, kv, cv, rfl, Nat.le_refl _, rS, q1, ne, dS⟩
          case rest =>
            as_aux_lemma =>
            obtain ⟨w35, hw35⟩ : ∃ w35, w35 = wc := ⟨_, rfl⟩
            subst hw35
            obtain ⟨gF, Av, kv, cv, rfl, hgF, hr35, hn35, ho35, b35⟩ := hcut
            have hFC := frame5_ok A15 Av k15 c15 kv cv tg d.frm htg hfrm
            have hF0 : Hid ((frame5 A15 Av k15 c15 kv cv tg d.frm)[2]? = some (.bool false) ∧ (frame5 A15 Av k15 c15 kv cv tg d.frm)[3]? = some nilS ∧ (frame5 A15 Av k15 c15 kv cv tg d.frm)[4]? = some (.slice A15 k15 c15) ∧ (frame5 A15 Av k15 c15 kv cv tg d.frm)[8]? = some nilS ∧ (frame5 A15 Av k15 c15 kv cv tg d.frm)[9]? = some nilS) := hide ⟨rfl, rfl, rfl, rfl, rfl⟩
            generalize frame5 A15 Av k15 c15 kv cv tg d.frm = fr0 at hr35 hFC hF0
            have hbgF : bw ≠ gF := by omega
            have HNV := hide (StabS.nat (G := G3 bw gF) hn35 ho35)
            have fs35 : FS bw gF cs34 w34 w35 fr0 w35 := ⟨((unhide HS34).kept b35).row, hr35, Chg.of b35, ChgS.refl _ _⟩
            have e40 : w35.cell? ⟨w.heap.size, 40, none⟩ = some (.bool false) := by rw [(unhide HS45 w35 b35).1.cell, ← hcr]; exact h.create
            have hTGr : ∀ wz, Chg bw w34 wz → wz.rangeAt w3.heap.size 0 (bv tg) := fun wz hz => (unhide HTG wz (c1034.trans hz)).rangeAll
            have HTGR := hide hTGr
            have hDat : ∀ wz, Chg bw w34 wz → Src wz none 0 0 d.data ∧ wz.cell? ⟨w.heap.size, 107, none⟩ = some (.slice none 0 0) := fun wz hz => ⟨hdS wz, by rw [(unhide HT wz (c234.trans hz)).cell]; exact h.data⟩
            have HDAT := hide hDat
            have hend : ∀ wz, Chg bw w34 wz → Chg bw w wz := fun wz hz => unhide HCW wz (c234.trans hz)
            have HEND := hide hend
            have hvalB := hval.big
            have huF := Sakg.underlying194
            have FS35 := hide fs35
            have HFC := hide hFC
            clear hr35 hn35 ho35 fs35 hTGr hDat hend hFC HS45 HSV
            have HTG35 := hide (unhide HTGR w35 (unhide FS35).chg)
            have HNA := hide (nativeAt_any tg w35 htg)
            go_upto_region 48 with (first
              | ((with_reducible refine at_load 26 ?_); refine wpList_load_g (by rfl) 26 (.tmp 8) rfl w3.heap.size 0 rfl (bv tg) _ (unhide HTG35) hu rfl hszt ?_)
              | (go_at_call 108; refine (unhide HNA).mono ?_; rintro e w36 ⟨rfl, b36⟩; have fs36 := (unhide FS35).kept b36; obtain ⟨v36, hx36⟩ := fs36.cell (unhide HFC).len (i := 1) (by omega); have hf36 := fs36.frm.froz 1; have FS36 := hide fs36; clear fs36))
            obtain ⟨w37, hw37⟩ : ∃ y, y = w36.setCell ⟨gF, 1, none⟩ (Value.int .u8 0) := ⟨_, rfl⟩
            rw [← hw37]
            have fs37 := hw37 ▸ (unhide FS36).put hgF hbgF 1 (Value.int .u8 0)
            have FC37 := hide ((unhide HFC).set 1 (by omega) (by omega) (by omega) (Value.int .u8 0) rfl)
            have e1 : w37.cell? ⟨gF, 1, none⟩ = some (.int .u8 0) := by rw [fs37.frm.cell]; exact List.getElem?_set_self (by rw [(unhide HFC).len]; omega)
            have FS37 := hide fs37
            clear hw37 hx36 hf36 fs37 HNA HTG35 FS36
            as_aux_lemma =>
            have t0 : ((0 : Int) == 0) = true := rfl
            go_upto_region 49 with fail
            have d37 : Below w37.heap.size w37 w37.drew := Quiet.below ⟨1, rfl⟩ _
            have hS49 : ∀ wz, Below w37.heap.size w37 wz → wz.rangeAt w3.heap.size 0 (bv tg) := fun wz hz => unhide HTGR wz ((unhide FS37).chg.trans (Chg.of hz))
            have HS49 := hide hS49
            have hs37 := (unhide FS37).bx (unhide HS34)
            have HAC := hide (hs37.account (by omega) d37 htg)
            clear hS49 hs37
            refine wp_region_noPanic ?_
            refine wp_region_held_drew (S := fun w' => w'.rangeAt w3.heap.size 0 (bv tg)) (by kernel_rfl) (unhide HS49 _ d37) (fun hHeld => ?_)
            refine held_takeD 0 (.pointer (some ⟨bw, 0, none⟩)) (some 236) (by rfl) (by rfl) (by kernel_rfl) (by kernel_rfl) (by kernel_rfl) (fun _ _ _ h => h) (.inl ⟨by rfl, fun _ _ => by rfl⟩) (hHeld) ?_
            simp only [Act.put, List.setIfInBounds_toArray, List.set_cons_zero, List.set_cons_succ]
            refine held_takeD 1 (.pointer (some ⟨bw, 0, none⟩)) (some 237) (by rfl) (by rfl) (by kernel_rfl) (by kernel_rfl) (by kernel_rfl) (fun _ _ _ h => h) (.inl ⟨by rfl, fun _ _ => by go_simp⟩) (hHeld) ?_
            simp only [Act.put, List.setIfInBounds_toArray, List.set_cons_zero, List.set_cons_succ]
            refine held_takeD 2 (.pointer (some ⟨bw, 0, none⟩)) (some 238) (by rfl) (by rfl) (by kernel_rfl) (by kernel_rfl) (by kernel_rfl) (fun _ _ _ h => h) (.inl ⟨by rfl, fun _ _ => by go_simp⟩) (hHeld) ?_
            simp only [Act.put, List.setIfInBounds_toArray, List.set_cons_zero, List.set_cons_succ]
            refine held_takeD 3 (.agg (bv tg).toArray) (some 239) (by rfl) (by rfl) (by kernel_rfl) (by kernel_rfl) (by kernel_rfl) (fun _ _ _ h => h) (yieldsIf_load_mid (by rfl) _ _ rfl _ _ rfl _ _ (fun wz hS => hS) hu rfl hszt) (hHeld) ?_
            simp only [Act.put, List.setIfInBounds_toArray, List.set_cons_zero, List.set_cons_succ]
            refine held_one 4 (by kernel_rfl) (by rfl) (fun K' hK' => ?_)
            go_simp
            refine (unhide HAC).mono ?_
            rintro e w38 ⟨rx, xx, rfl, hrx, hfxx, hxxc, b38⟩
            refine hK'.out _ _ (unhide HS49 _ (d37.trans (b38.mono d37.size))) ?_
            clear hK' K'
            have d38 := d37.trans (b38.mono d37.size)
            obtain ⟨E1, p1, r1', E2, p2, r2', E3, p3, r3', E4, p4, r4', u20, u21, u22, u23, y1, y2, y3, y4⟩ := hrx.cells
            have hfld := run_field_slice fldCode Sakg.underlying30 rx _ u22
            have hsc : Src w38 E3 p3 r3' xx.code := (y3.go (Chg.of d38)).now
            have hp3 : p3 ≤ 140737488355328 := by rw [← hsc.len_eq]; exact Nat.le_trans hfxx.2.2.1 (by omega)
            have HSC := hide hsc
            clear hrx u20 u21 u22 u23 y1 y2 y3 y4 hsc
            refine held_takeD 5 (.slice E3 p3 r3') (some 241) (by rfl) (by rfl) (by kernel_rfl) (by kernel_rfl) (by kernel_rfl) (fun _ _ _ h => h) (.inl ⟨by rfl, fun _ _ => by go_simp⟩) (unhide HS49 _ d38) ?_
            simp only [Act.put, List.setIfInBounds_toArray, List.set_cons_zero, List.set_cons_succ]
            refine held_one 6 (by kernel_rfl) (by rfl) (fun K' hK' => ?_)
            go_simp
            refine (bytesOf_any E3 p3 r3' xx.code w38 (unhide HSC) hp3).mono ?_
            rintro e w39 ⟨Ac, kc, rfl, nc39, -, Nc39, b39⟩
            refine hK'.out _ _ (unhide HS49 _ (d38.trans (b39.mono d38.size))) ?_
            clear hK' K'
            have d39 := d38.trans (b39.mono d38.size)
            refine held_takeD 7 (.pointer (some ⟨gF, 10, none⟩)) (some 243) (by rfl) (by rfl) (by kernel_rfl) (by kernel_rfl) (by kernel_rfl) (fun _ _ _ h => h) (.inl ⟨by rfl, fun _ _ => by go_simp⟩) (unhide HS49 _ d39) ?_
            simp only [Act.put, List.setIfInBounds_toArray, List.set_cons_zero, List.set_cons_succ]
            have fs39 := (unhide FS37).kept d39
            obtain ⟨v39, hx39⟩ := fs39.cell (unhide FC37).len (i := 10) (by omega)
            have hf39 := fs39.frm.froz 10
            refine held_one 8 (by kernel_rfl) (by rfl) (fun K' hK' => ?_)
            go_simp
            obtain ⟨w40, hw40⟩ : ∃ y, y = w39.setCell ⟨gF, 10, none⟩ (Value.slice Ac kc kc) := ⟨_, rfl⟩
            rw [← hw40]
            have fs40 := hw40 ▸ fs39.put hgF hbgF 10 (Value.slice Ac kc kc)
            have c3940 : ChgS (G3 bw gF) w39 w40 := hw40 ▸ ChgS.only (G := G3 bw gF) ((Only.refl gF w39).setCell 10 (Value.slice Ac kc kc)) (.inr rfl)
            have gFl : gF < w37.heap.size := (unhide FS37).frm.lt
            have bwl : bw < w37.heap.size := (unhide FS37).row.lt
            rw [hxxc] at nc39
            have sc39 : StabS (G3 bw gF) (fun w => Src w Ac kc kc code) w39 := StabS.src nc39 (fun x hx _ hg => by have h1 := Nc39 x hx; have h2 := d38.size; rcases hg with hg | hg <;> omega)
            have SC40 := hide (sc39.go c3940 (fun _ h _ => h))
            clear nc39 Nc39 sc39
            have FC40 := hide ((unhide FC37).set 10 (by omega) (by omega) (by omega) (Value.slice Ac kc kc) rfl)
            refine hK'.out _ _ (unhide HTGR w40 fs40.chg) ?_
            clear hK' K' hw40
            refine wpAnyH_done (by kernel_rfl) ?_ _
            refine NoPanic.normal ?_
            have FS40 := hide fs40
            clear fs40 fs39 hx39 hf39 hfld HSC HAC HS49
            have e107 := (unhide HDAT w40 (unhide FS40).chg).2
            have HDB := hide (bytesOf_any none 0 0 d.data w40 (unhide HDAT w40 (unhide FS40).chg).1 (by omega))
            go_upto_region 58 with (go_at_call 57; refine (unhide HDB).mono ?_; rintro e wd ⟨Ad, kd, rfl, -, -, -, bd⟩; have fsd := (unhide FS40).kept bd; obtain ⟨vd, hxd⟩ := fsd.cell (unhide FC40).len (i := 11) (by omega); have hfd := fsd.frm.froz 11; have FSD := hide fsd; clear fsd)
            obtain ⟨w41, hw41⟩ : ∃ y, y = wd.setCell ⟨gF, 11, none⟩ (Value.slice Ad kd kd) := ⟨_, rfl⟩
            rw [← hw41]
            have CH41 : Hid (ChgS (G3 bw gF) w40 w41) := hide ((ChgS.of bd).then (hw41 ▸ ChgS.only (G := G3 bw gF) ((Only.refl gF wd).setCell 11 (Value.slice Ad kd kd)) (.inr rfl)) (fun _ h _ => h))
            have FSw41 := hide (hw41 ▸ (unhide FSD).put hgF hbgF 11 (Value.slice Ad kd kd))
            have FCw41 := hide ((unhide FC40).set 11 (by omega) (by omega) (by omega) (Value.slice Ad kd kd) rfl)
            clear hw41 hxd hfd FSD e107 HDB
            as_aux_lemma =>
            have ch41 : ChgS (G3 bw gF) w40 w41 := unhide CH41
            obtain ⟨v11, hx11⟩ := ((unhide FSw41).bx (unhide HS34)).any (i := 11) (by omega)
            have hf11 := (unhide FSw41).row.froz 11
            go_upto_region 59 with fail
            obtain ⟨w50, hw50⟩ : ∃ y, y = w41.setCell ⟨bw, 11, none⟩ (Value.int .u8 1) := ⟨_, rfl⟩
            rw [← hw50]
            have o50 : Only bw w41 w50 := hw50 ▸ (Only.refl bw w41).setCell 11 (Value.int .u8 1)
            have hs50 := hw50 ▸ ((unhide FSw41).bx (unhide HS34)).set 11 (by omega) (by omega) (Value.int .u8 1)
            have c50 : Chg bw w34 w50 := (unhide FSw41).chg.trans (Chg.ofOnly o50)
            have s50 : ChgS (G3 bw gF) w35 w50 := (unhide FSw41).chs.then (ChgS.only (G := G3 bw gF) o50 (.inl rfl)) (fun _ h _ => h)
            have r50 := (unhide FSw41).frm.only o50 (Ne.symm hbgF)
            have h509 : (cs34.set 11 (Value.int .u8 1))[9]? = some nilS := by rw [List.getElem?_set_ne (by omega)]; exact unhide H349
            have n50 : Stab bw (fun w => IsNat w Av kv cv (beN d.value)) w50 := ((unhide HNV).go (G' := G3 bw gF) s50 (fun _ h _ => h)).stab (.inl rfl)
            rw [unhide HV0] at n50
            have HEN := hide (enter_call (hs50.bs.more (Nat.le_refl 10) (show 5 ≤ 100 by omega) (show 0 ≤ 2000 by omega)) (by omega) (by omega) (by omega) h509 _ tg d.frm Av kv cv (unhide FCw41) n50)
            have HRF := hide r50.rangeAll
            have m50 : Hid (∀ i, i ≠ 11 → (cs34.set 11 (Value.int .u8 1))[i]? = cs34[i]?) := hide (fun i hi => List.getElem?_set_ne (Ne.symm hi))
            have k50 : Hid ((cs34.set 11 (Value.int .u8 1))[11]? = some (.int .u8 1)) := hide (List.getElem?_set_self (by rw [(unhide HS34).len]; omega))
            have c4150 : ChgS (G3 bw gF) w41 w50 := ChgS.only (G := G3 bw gF) o50 (.inl rfl)
            have SC50 := hide (((unhide SC40).go ch41 (fun _ h _ => h)).go c4150 (fun _ h _ => h))
            have hsF := (unhide FCw41).len
            clear hs50 r50 h509 n50 hw50 hx11 hf11 hsF
            go_wp2_with (first
              | ((with_reducible refine at_load 194 ?_); refine wpList_load_g (by rfl) 194 (.tmp 17) rfl gF 0 rfl _ _ (unhide HRF) huF rfl (by rw [(unhide FCw41).len]; exact sizeFrame) ?_)
              | (go_at_call 110; refine (unhide HEN).mono ?_; rintro e w51 ⟨rfl, hent⟩; have HENT := hide hent; clear hent))
            go_ret
            obtain ⟨gf, cF, cs', f1, ext, csa, wa, rf, hf1l, hf1o, hf1, rc, hbsa, hsa, hcl', hsame, h9', h10', hga, hgw, hcwa, hca, hc51⟩ := unhide HENT
            have fc := unhide FCw41
            have F0 := unhide hF0
            have hX : ∀ i, i < 60 → (f1 ++ ext)[i]? = f1[i]? := fun i hi => List.getElem?_append_left (by omega)
            have hY : ∀ i, i < 52 → i ≠ 1 → i ≠ 10 → i ≠ 11 → (f1 ++ ext)[i]? = fr0[i]? := fun i hi h1 h10 h11 => by
              rw [hX i (by omega), hf1 i hi, List.getElem?_set_ne (Ne.symm h11), List.getElem?_set_ne (Ne.symm h10), List.getElem?_set_ne (Ne.symm h1)]
            have hl0 : fr0.length = 60 := (unhide HFC).len
            have T20 : ∀ i, 8 ≤ i → i ≠ 9 → i ≠ 10 → i ≠ 11 → cs'[i]? = cs20[i]? := fun i h8 h9 h10 h11 => by
              rw [hsame i h8 h9 h10, unhide m50 i h11, unhide m34 i h10, unhide M32 i h8, unhide M27 i h8, unhide M24 i h8, unhide HCS21]
            have T10 : ∀ i, 8 < i → i ≠ 9 → i ≠ 10 → i ≠ 11 → i ≠ 13 → i ≠ 14 → i ≠ 15 → i ≠ 17 → (i < 19 ∨ 39 ≤ i) → cs'[i]? = cs10[i]? := fun i h8 h9 h10 h11 h13 h14 h15 h17 h19 => by
              rw [T20 i (by omega) h9 h10 h11, unhide m20 i (by omega), unhide m19 i h19, unhide m18 i h17, unhide m16 i h15, unhide m13 i h14, unhide m11 i h13]
            have K13 : cs'[13]? = some (.int .u8 1) := by
              rw [T20 13 (by omega) (by omega) (by omega) (by omega), unhide m20 13 (by omega), unhide m19 13 (by omega), unhide m18 13 (by omega), unhide m16 13 (by omega), unhide m13 13 (by omega)]
              exact unhide k11
            have K14 : cs'[14]? = some (.slice A12 k12 c12) := by
              rw [T20 14 (by omega) (by omega) (by omega) (by omega), unhide m20 14 (by omega), unhide m19 14 (by omega), unhide m18 14 (by omega), unhide m16 14 (by omega)]
              exact unhide k13
            have K15 : cs'[15]? = some (.slice A15 k15 c15) := by
              rw [T20 15 (by omega) (by omega) (by omega) (by omega), unhide m20 15 (by omega), unhide m19 15 (by omega), unhide m18 15 (by omega)]
              exact unhide k16
            have K17 : cs'[17]? = some (.slice A17 k17 c17) := by
              rw [T20 17 (by omega) (by omega) (by omega) (by omega), unhide m20 17 (by omega), unhide m19 17 (by omega)]
              exact unhide k18
            have K8 : cs'[8]? = some nilS := by
              rw [T20 8 (by omega) (by omega) (by omega) (by omega)]
              exact unhide k20
            have K18 : cs'[18]? = some (.slice At kt ct) := by
              rw [T10 18 (by omega) (by omega) (by omega) (by omega) (by omega) (by omega) (by omega) (by omega) (by omega)]
              exact unhide ht18
            have K11 : cs'[11]? = some (.int .u8 1) := by
              rw [hsame 11 (by omega) (by omega) (by omega)]
              exact unhide k50
            have KOrg : (cs'.drop 19).take 20 = bv d.frm := by
              rw [range_eq2 (cs := cs19) 19 20 (fun i h1 h2 => by rw [T20 i (by omega) (by omega) (by omega) (by omega), unhide m20 i (by omega)])]
              exact unhide k19
            have KMad : (cs'.drop 39).take 20 = bv (zeros 20) := by
              rw [range_eq2 (cs := cs10) 39 20 (fun i h1 h2 => T10 i (by omega) (by omega) (by omega) (by omega) (by omega) (by omega) (by omega) (by omega) (by omega))]
              exact unhide K5
            have KEnv : ∀ i, 59 ≤ i → cs'[i]? = cs[i]? := fun i hi => by
              rw [T10 i (by omega) (by omega) (by omega) (by omega) (by omega) (by omega) (by omega) (by omega) (by omega)]
              exact unhide henv6 i hi
            have KLow : ∀ i, i = 12 ∨ i = 16 → cs'[i]? = cs[i]? := fun i hi => by
              rw [T10 i (by omega) (by omega) (by omega) (by omega) (by omega) (by omega) (by omega) (by omega) (by omega)]
              exact unhide HE6k i (by omega)
            have c1650 : Chg bw w16 w50 := c1620.trans (hch.trans (co24.trans (c2427.trans (c2732.trans (c34.trans c50)))))
            have c2450 : Chg bw w24 w50 := c2427.trans (c2732.trans (c34.trans c50))
            have c350 : Chg bw w3 w50 := c320.trans (hch.trans (co24.trans c2450))
            have ng := (unhide NG16).go c1650
            have sc := (unhide SC50).stab (g := bw) (.inl rfl)
            have nl := ((unhide NLx).go c2450).go hcwa
            have np := ((unhide NPx).go c2450).go hcwa
            rw [unhide HPE] at np
            have nt' := ((unhide HTN3).go c350).go hcwa
            have hbw50 : bw < w50.heap.size := c1650.lt_size hbl16
            refine ⟨rfl, gf, cF, cs', f1 ++ ext, ⟨rf, by rw [List.length_append]; omega, ?_, ?_, ?_, ?_, ?_, ?_, ?_, ?_, ?_, rc, hcl', h9', K11, by omega⟩, ⟨⟨csa, wa, A12, k12, c12, A17, k17, c17, hbsa, hsa, hga, hca, K14, nl, K17, np, At, kt, ct, nt, K18, nt', hntB⟩, K13, KOrg, KMad, KEnv, ?_⟩, unhide HEND _ (c50.trans hc51), Nat.le_trans (unhide HEND _ c50).size hgw⟩
            · intro i v hi hv
              rw [hX i hi] at hv
              exact hf1o v (List.mem_of_getElem? hv)
            · rw [hX 0 (by omega), hf1 0 (by omega)]
              exact fc.kind
            · rw [hX 1 (by omega), hf1 1 (by omega), List.getElem?_set_ne (by omega), List.getElem?_set_ne (by omega)]
              exact List.getElem?_set_self (by rw [hl0]; omega)
            · rw [hY 2 (by omega) (by omega) (by omega) (by omega)]; exact F0.1
            · rw [hY 3 (by omega) (by omega) (by omega) (by omega)]; exact F0.2.1
            · exact ⟨A15, k15, c15, by rw [hY 4 (by omega) (by omega) (by omega) (by omega)]; exact F0.2.2.1, stab_gf ng hc51 hgw⟩
            · rw [hY 8 (by omega) (by omega) (by omega) (by omega)]; exact F0.2.2.2.1
            · rw [hY 9 (by omega) (by omega) (by omega) (by omega)]; exact F0.2.2.2.2
            · refine ⟨Ac, kc, kc, ?_, stab_gf sc hc51 hgw⟩
              rw [hX 10 (by omega), hf1 10 (by omega), List.getElem?_set_ne (by omega)]
              exact List.getElem?_set_self (by rw [List.length_set, hl0]; omega)
            · exact one_end hbsa (fun i hi => hsa i hi) K8 h10' K11 K13 K14 K15 K17 K18 KOrg KMad (fun i hi v hv => unhide HONE0 i v (by rw [← KEnv i hi]; exact hv)) (fun i hi v hv => unhide HONE0 i v (by rw [← KLow i hi]; exact hv)) hfrm.len

end Go.Proofs.YgcsakGreat
