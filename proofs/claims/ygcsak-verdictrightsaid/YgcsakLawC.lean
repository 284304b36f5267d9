/-
  law: verdictOf.
-/
import Derived.Test.YgcsakLawB
import Derived.Test.YgcsakVer
namespace Go.Proofs.Ygcsak
set_option linter.unusedVariables false
set_option linter.unusedSimpArgs false
set_option maxRecDepth 100000
open Go.RowKit

/-- an environment's 120 cells -/
structure EnvC (r : List Value) (cb : List Int) (gl : Nat) (fee : List Int) (A : Option Addr) (k c : Nat) : Prop where
  len : r.length = 120
  one : ∀ v ∈ r, v.oneCell' = true
  coin : (r.drop 0).take 20 = bv cb
  limit : r[22]? = some (.int .u64 gl)
  base : (r.drop 87).take 32 = bv fee
  hashes : r[119]? = some (.slice A k c)
  hcb : IsAddr cb
  hlimit : gl < 256 ^ 8
  hfee : IsW fee

def acctOf (o : OAcct) : YAcct := ⟨o.addr, o.nonce, beN o.bal, o.code, o.slots.map fun s => (beN s.1, beN s.2)⟩
theorem beN_zeros : beN (zeros 32) = 0 := by
  unfold beN zeros
  rw [List.reverse_replicate]
  exact val_zeros 32
theorem acctOf_zero (a : List Int) : acctOf (zeroOA a) = zeroAcct a := by
  unfold acctOf zeroOA zeroAcct
  rw [beN_zeros]
  rfl
theorem look_acct : ∀ (ds : List OAcct) (a : List Int), lookY (ds.map acctOf) a = acctOf (lookO ds a)
  | [], a => (acctOf_zero a).symm
  | d :: ds, a => by
    rw [List.map_cons, lookY, lookO]
    by_cases h : d.addr = a
    · rw [if_pos h, if_pos (by exact h)]
    · rw [if_neg h, if_neg (by exact h)]
      exact look_acct ds a

set_option maxHeartbeats 16000000 in
theorem verdictOf_any (ao : Option Addr) (l c : Nat) (ds : List OAcct) (re : List Value) (cb : List Int) (gl : Nat) (fee : List Int) (A3 : Option Addr) (k3 c3 : Nat) (r : List Value) (d : YTx) (A1 : Option Addr) (k1 c1 : Nat) (A2 : Option Addr) (k2 c2 : Nat) (w : World)
    (hds : OAcctsR w ao l c ds) (he : EnvC re cb gl fee A3 k3 c3) (h : TxC r d A1 k1 c1 A2 k2 c2) (hd : Src w A1 k1 c1 d.data) (ha : AccsR w A2 k2 c2 d.access) (hre : Reach d.access) :
    Calls Sakg.prog 60 #[.slice ao l c, .agg re.toArray, .agg r.toArray] w fun e w' => e = .returned (.int .u8 (verdN (ds.map acctOf) gl fee d)) ∧ Below w.heap.size w w' := by
  obtain ⟨W, hW⟩ : ∃ W, W = (w.alloc (.cells re.toArray 68)).alloc (.cells r.toArray 71) := ⟨_, rfl⟩
  have hb0 : Below w.heap.size w W := by rw [hW]; exact ((Below.refl _ _).alloc (Nat.le_refl _) _).alloc (by simp) _
  have hr0 : RowT 68 W w.heap.size re := by rw [hW]; exact (RowT.new _ _ _).alloc _
  have hr1 : RowT 71 W (w.heap.size + 1) r := by rw [hW]; exact row_second _ _ _ _
  have hlk := hide (lookup_any ao l c ds d.frm W (hds.kept hb0) h.hfrm)
  have HR0 := hide hr0
  have HR1 := hide hr1
  have hfr : W.rangeAt (w.heap.size + 1) 0 (bv d.frm) := by have := hr1.range 0 20; rwa [h.frm] at this
  have HFR := hide hfr
  have hacl := ha.len
  have hz20 : (rowOA (zeros 20)).length = 55 := by simp [rowOA, bv_len, zeros_len]
  clear hr0 hr1 hfr
  go_enter Sakg.func60, Sakg.ntmps60
  go_upto_region 1 with fail
  rw [← hW]
  clear hW
  go_upto_region 2 with (first
    | ((with_reducible refine at_load 63 ?_); refine wpList_load_g (by rfl) 63 (.tmp 12) rfl (w.heap.size + 1) 0 rfl (bv d.frm) _ (unhide HFR) Sakg.underlying63 rfl h.hfrm.size ?_)
    | (go_at_call 94; refine (unhide hlk).mono ?_; rintro e w2 ⟨ra, rfl, hrow, b2⟩; have hrl := hrow.len; have hsz : (Sakg.prog.info? 107).map (·.size) = some ra.length := by { rw [hrl]; exact sizeOA })
    | ((with_reducible refine at_alloc 107 ?_); refine wpList_alloc_g (by rfl) 107 rfl (rowOA (zeros 20)) 55 infoOA hz20 ?_)
    | ((with_reducible refine at_store 107 ?_); refine wpList_store_whole rfl 107 (.tmp 7) (.tmp 14) rfl w2.heap.size 107 (rowOA (zeros 20)) ra rfl rfl (RowT.new _ _ _) (by rw [hrl, hz20]) hsz hrow.one ?_; intro w3 hr3 hon3; have hbb := box_below hon3; clear hon3))
  obtain ⟨B3, j3, e3, B4, j4, e4, q20, q21, q53, q54, hia, hnn, hbal, hcode, -⟩ := hrow.cells
  have hcl := hcode.len_eq
  have b03 : Below W.heap.size W w3 := b2.trans (hbb.1.mono b2.size)
  have hX : ∀ wz, Below w3.heap.size w3 wz → Below w.heap.size w wz := fun wz hz => hb0.trans ((b03.trans (hz.mono b03.size)).mono hb0.size)
  have hTx : ∀ wz, Below w3.heap.size w3 wz → RowT 71 wz (w.heap.size + 1) r := fun wz hz => ((unhide HR1).kept b03).kept hz
  have hEn : ∀ wz, Below w3.heap.size w3 wz → RowT 68 wz w.heap.size re := fun wz hz => ((unhide HR0).kept b03).kept hz
  have hAc : ∀ wz, Below w3.heap.size w3 wz → RowT 107 wz w2.heap.size ra := fun wz hz => hr3.kept hz
  have hlook : lookY (ds.map acctOf) d.frm = acctOf (lookO ds d.frm) := look_acct ds d.frm
  have hv : verdN (ds.map acctOf) gl fee d = verdN (ds.map acctOf) gl fee d := rfl
  conv at hv => rhs; unfold verdN
  rw [hlook] at hv
  obtain ⟨o, ho⟩ : ∃ o, o = lookO ds d.frm := ⟨_, rfl⟩
  rw [← ho] at hv hnn hbal hcl q20 q21
  have hv' : verdN (ds.map acctOf) gl fee d = if 1048576 < d.gas then 3 else if 1024 < d.data.length then 3 else if listB d.access = false then 3
    else if d.nonce ≠ o.nonce then 4 else if o.nonce = 18446744073709551615 then 5 else if 0 < o.code.length then 6
    else if d.create = true ∧ 512 < d.data.length then 7 else if d.gas < intrN d then 8 else if gl < d.gas then 9
    else if beN o.bal < d.gas * beN (mostW d) + beN d.value then 10 else if beN (mostW d) < beN (tipW d) then 11 else if beN (mostW d) < beN fee then 12 else 0 := hv
  have HV := hide hv'
  have HX := hide hX
  have HTX := hide hTx
  have HEN := hide hEn
  have HAC := hide hAc
  have hlk1 := hd.len_eq
  have hBB := big_ge
  have hgas := h.hgas
  have hm := h.most
  have ht := h.tipW
  have g8 : d.gas < BIG := Nat.lt_of_lt_of_le hgas (big_pow 8 (by omega))
  have c42 : ∀ wz, Below w3.heap.size w3 wz → wz.cell? ⟨w.heap.size + 1, 42, none⟩ = some (.int .u64 d.gas) := fun wz hz => by rw [(hTx wz hz).cell]; exact h.gas
  have c107 : ∀ wz, Below w3.heap.size w3 wz → wz.cell? ⟨w.heap.size + 1, 107, none⟩ = some (.slice A1 k1 c1) := fun wz hz => by rw [(hTx wz hz).cell]; exact h.data
  have c173 : ∀ wz, Below w3.heap.size w3 wz → wz.cell? ⟨w.heap.size + 1, 173, none⟩ = some (.slice A2 k2 c2) := fun wz hz => by rw [(hTx wz hz).cell]; exact h.access
  have c41 : ∀ wz, Below w3.heap.size w3 wz → wz.cell? ⟨w.heap.size + 1, 41, none⟩ = some (.int .u64 d.nonce) := fun wz hz => by rw [(hTx wz hz).cell]; exact h.nonce
  have c40 : ∀ wz, Below w3.heap.size w3 wz → wz.cell? ⟨w.heap.size + 1, 40, none⟩ = some (.bool d.create) := fun wz hz => by rw [(hTx wz hz).cell]; exact h.create
  have a20 : ∀ wz, Below w3.heap.size w3 wz → wz.cell? ⟨w2.heap.size, 20, none⟩ = some (.int .u64 o.nonce) := fun wz hz => by rw [(hAc wz hz).cell]; exact q20
  have a53 : ∀ wz, Below w3.heap.size w3 wz → wz.cell? ⟨w2.heap.size, 53, none⟩ = some (.slice B3 j3 e3) := fun wz hz => by rw [(hAc wz hz).cell]; exact q53
  have n22 : ∀ wz, Below w3.heap.size w3 wz → wz.cell? ⟨w.heap.size, 22, none⟩ = some (.int .u64 gl) := fun wz hz => by rw [(hEn wz hz).cell]; exact he.limit
  have C42 := hide c42
  have C107 := hide c107
  have C173 := hide c173
  have C41 := hide c41
  have C40 := hide c40
  have A20 := hide a20
  have A53 := hide a53
  have N22 := hide n22
  have hhr : ∀ wz, Below w3.heap.size w3 wz → AccsR wz A2 k2 c2 d.access ∧ Src wz A1 k1 c1 d.data := fun wz hz => ⟨ha.kept (hX wz hz), hd.kept (hX wz hz)⟩
  have HHR := hide hhr
  have hrlen : (Sakg.prog.info? 71).map (·.size) = some r.length := by rw [h.len]; exact sizeTx
  have sbal : ∀ wz, Below w3.heap.size w3 wz → Src wz (some ⟨w2.heap.size, 21, none⟩) 32 32 o.bal := fun wz hz => src_of_range (by have := (hAc wz hz).range 21 32; rwa [q21] at this) hbal.byt hbal.len max32
  have SBAL := hide sbal
  have sfee : ∀ wz, Below w3.heap.size w3 wz → Src wz (some ⟨w.heap.size, 87, none⟩) 32 32 fee := fun wz hz => src_of_range (by have := (hEn wz hz).range 87 32; rwa [he.base] at this) he.hfee.byt he.hfee.len max32
  have SFEE := hide sfee
  have sval : ∀ wz, Below w3.heap.size w3 wz → Src wz (some ⟨w.heap.size + 1, 75, none⟩) 32 32 d.value := fun wz hz => src_of_range (by have := (hTx wz hz).range 75 32; rwa [h.value] at this) h.hvalue.byt h.hvalue.len max32
  have SVAL := hide sval
  have f0 : Below w3.heap.size w3 w3 := Below.refl _ _
  clear ho
  clear hrow hr3 hbb hX hTx hEn hAc hv hv' c42 c107 c173 c41 c40 a20 a53 n22 hhr sbal sfee sval q20 q21 q53 q54 hcode hlook hsz hrl hlk HFR b2
  have x42 := unhide C42 _ f0
  by_cases hg : 1048576 < d.gas
  · have hv := unhide HV
    rw [if_pos hg] at hv
    have HV3 := hide hv
    have dg : decide ((1048576 : Int) < (d.gas : Int)) = true := decide_eq_true (by omega)
    clear hv hg
    go_wp2
    go_ret
    exact ⟨by rw [unhide HV3]; rfl, unhide HX _ f0⟩
  have hv := unhide HV
  rw [if_neg hg] at hv
  have HV := hide hv
  have dg : decide ((1048576 : Int) < (d.gas : Int)) = false := decide_eq_false (by omega)
  clear hv hg
  have x107 := unhide C107 _ f0
  by_cases hk : 1024 < k1
  · have hv := unhide HV
    rw [if_pos (by rw [hlk1]; exact hk)] at hv
    have HV3 := hide hv
    have dk : decide ((1024 : Int) < (k1 : Int)) = true := decide_eq_true (by omega)
    clear hv hk
    go_wp2
    go_ret
    exact ⟨by rw [unhide HV3]; rfl, unhide HX _ f0⟩
  have hv := unhide HV
  rw [if_neg (by rw [hlk1]; exact hk)] at hv
  have HV := hide hv
  have hk1024 : k1 ≤ 1024 := by omega
  have dk : decide ((1024 : Int) < (k1 : Int)) = false := decide_eq_false (by omega)
  clear hv hk
  have x173 := unhide C173 _ f0
  by_cases hk16 : 16 < k2
  · have hv := unhide HV
    rw [if_pos (by unfold listB; rw [hacl, decide_eq_true hk16]; rfl)] at hv
    have HV3 := hide hv
    have dk : decide ((16 : Int) < (k2 : Int)) = true := decide_eq_true (by omega)
    clear hv hk16
    go_wp2
    go_ret
    exact ⟨by rw [unhide HV3]; rfl, unhide HX _ f0⟩
  have dk16 : decide ((16 : Int) < (k2 : Int)) = false := decide_eq_false (by omega)
  have hkk := hide (lawKeys_any r d A1 k1 c1 A2 k2 c2 w3 h (unhide HHR _ f0).1 (by omega) hre)
  have htxr := hide (unhide HTX _ f0).rangeAll
  by_cases hk64 : 64 < keysN d.access
  · have hv := unhide HV
    rw [if_pos (by unfold listB; rw [decide_eq_true hk64]; simp)] at hv
    have HV3 := hide hv
    have dk : decide ((64 : Int) < (keysN d.access : Int)) = true := decide_eq_true (by omega)
    generalize keysN d.access = kn at hkk dk
    clear hv hk64
    go_wp2_with (first
      | ((with_reducible refine at_load 71 ?_); refine wpList_load_g (by rfl) 71 (.tmp 5) rfl (w.heap.size + 1) 0 rfl r _ (unhide htxr) Sakg.underlying71 rfl hrlen ?_)
      | (go_at_call 95; refine (unhide hkk).mono ?_; rintro e w4 ⟨rfl, b4⟩))
    go_ret
    exact ⟨by rw [unhide HV3]; rfl, unhide HX _ b4⟩
  have hlb : listB d.access = true := by unfold listB; rw [hacl, decide_eq_false hk16, decide_eq_false hk64]; rfl
  have hv := unhide HV
  rw [if_neg (by rw [hlb]; decide)] at hv
  have HV := hide hv
  have dk64 : decide ((64 : Int) < (keysN d.access : Int)) = false := decide_eq_false (by omega)
  generalize keysN d.access = kn at hkk dk64
  clear hv hk64 hk16
  go_upto_region 4 with (first
    | ((with_reducible refine at_load 71 ?_); refine wpList_load_g (by rfl) 71 (.tmp 5) rfl (w.heap.size + 1) 0 rfl r _ (unhide htxr) Sakg.underlying71 rfl hrlen ?_)
    | (go_at_call 95; refine (unhide hkk).mono ?_; rintro e w4 ⟨rfl, b4⟩))
  clear x42 x107 x173 dk16 dk64 dk dg hkk htxr f0
  have x20 := unhide A20 _ b4
  have x41 := unhide C41 _ b4
  by_cases hn : d.nonce = o.nonce
  case neg =>
    have hv := unhide HV
    rw [if_pos hn] at hv
    have HV3 := hide hv
    have t1 : ((o.nonce : Int) != (d.nonce : Int)) = true := by
      have : ¬ (o.nonce : Int) = (d.nonce : Int) := by omega
      simp [this]
    have t2 : ((o.nonce : Int) == (d.nonce : Int)) = false := by
      have : ¬ (o.nonce : Int) = (d.nonce : Int) := by omega
      simp [this]
    have t3 : ¬ o.nonce = d.nonce := fun h => hn h.symm
    have t4 : (o.nonce == d.nonce) = false := by simp [t3]
    have t5 : ¬ (o.nonce : Int) = (d.nonce : Int) := by omega
    clear hv hn
    go_wp2
    go_ret
    exact ⟨by rw [unhide HV3]; rfl, unhide HX _ b4⟩
  have hv := unhide HV
  rw [if_neg (fun h => h hn)] at hv
  have HV := hide hv
  rw [hn] at x41
  clear hv
  by_cases hmx : o.nonce = 18446744073709551615
  · have hv := unhide HV
    rw [if_pos hmx] at hv
    have HV3 := hide hv
    rw [hmx] at x20 x41
    clear hv hmx
    go_wp2
    go_ret
    exact ⟨by rw [unhide HV3]; rfl, unhide HX _ b4⟩
  have hv := unhide HV
  rw [if_neg hmx] at hv
  have HV := hide hv
  have t1 : ((o.nonce : Int) == 18446744073709551615) = false := by
    have : ¬ (o.nonce : Int) = 18446744073709551615 := by omega
    simp [this]
  have t2 : ¬ (o.nonce : Int) = 18446744073709551615 := by omega
  clear hv
  go_upto_region 8 with fail
  clear x20 x41 t1 t2 hmx
  have x53 := unhide A53 _ b4
  by_cases hcd : 0 < j3
  · have hv := unhide HV
    rw [if_pos (by rw [hcl]; exact hcd)] at hv
    have HV3 := hide hv
    clear hv
    go_wp2
    go_ret
    exact ⟨by rw [unhide HV3]; rfl, unhide HX _ b4⟩
  have hv := unhide HV
  rw [if_neg (by rw [hcl]; exact hcd)] at hv
  have HV := hide hv
  have hj3 : j3 = 0 := by omega
  clear hv hcd
  go_upto_region 10 with fail
  clear x53
  have x107 := unhide C107 _ b4
  have x40 := unhide C40 _ b4
  go_cut [54] (fun s54 wk => s54 = .bool (d.create && decide (512 < k1)) ∧ w4 = wk)
  case first =>
    have dk : decide ((512 : Int) < (k1 : Int)) = decide (512 < k1) := decide_eq_decide.2 (by omega)
    obtain ⟨dd, hdd⟩ : ∃ dd, decide (512 < k1) = dd := ⟨_, rfl⟩
    rw [hdd] at dk
    have HDD := hide hdd
    clear hdd
    cases hcr : d.create with
    | false =>
      rw [hcr] at x40
      have HCR := hide hcr
      clear hcr
      go_wp2_with fail
      go_meet
      case rel => exact ⟨by rw [unhide HCR]; rfl, rfl⟩
    | true =>
      rw [hcr] at x40
      have HCR := hide hcr
      clear hcr
      go_wp2_with fail
      go_meet
      case rel => exact ⟨by rw [unhide HCR, unhide HDD]; rfl, rfl⟩
  case rest =>
    obtain ⟨rfl, rfl⟩ := hcut
    clear x107 x40
    by_cases hcc : d.create = true ∧ 512 < d.data.length
    · have hv := unhide HV
      rw [if_pos hcc] at hv
      have HV3 := hide hv
      have tt : (d.create && decide (512 < k1)) = true := by rw [hcc.1, decide_eq_true (by rw [← hlk1]; exact hcc.2)]; rfl
      rw [tt]
      clear hv hcc tt
      go_wp2
      go_ret
      exact ⟨by rw [unhide HV3]; rfl, unhide HX _ b4⟩
    have hv := unhide HV
    rw [if_neg hcc] at hv
    have HV := hide hv
    have tt : (d.create && decide (512 < k1)) = false := by
      cases hcr : d.create with
      | false => rfl
      | true => rw [decide_eq_false (fun h' => hcc ⟨hcr, by rw [hlk1]; exact h'⟩)]; rfl
    rw [tt]
    clear hv hcc tt
    go_upto_region 12 with fail
    have e5 := b4.trans (Quiet.below (w := w4) ⟨1, rfl⟩ w3.heap.size)
    have huT := Sakg.underlying71
    refine wp_region_noPanic ?_
    refine wp_region_held_drew (S := fun w' => Below w3.heap.size w3 w') (by kernel_rfl) (e5) (fun hHeld => ?_)
    refine held_takeD 0 (.pointer (some ⟨w.heap.size + 1, 42, none⟩)) (some 55) (by rfl) (by rfl) (by kernel_rfl) (by kernel_rfl) (by kernel_rfl) (fun _ _ _ h => h) (.inl ⟨by rfl, fun _ _ => by go_simp⟩) (hHeld) ?_
    simp only [Act.put, List.setIfInBounds_toArray, List.set_cons_zero, List.set_cons_succ]
    refine held_takeD 1 (.int .u64 d.gas) (some 56) (by rfl) (by rfl) (by kernel_rfl) (by kernel_rfl) (by kernel_rfl) (fun _ _ _ h => h) (.inl ⟨by rfl, fun wS hS => by have hc := unhide C42 _ hS; go_simp⟩) (hHeld) ?_
    simp only [Act.put, List.setIfInBounds_toArray, List.set_cons_zero, List.set_cons_succ]
    refine held_takeD 2 (.agg r.toArray) (some 57) (by rfl) (by rfl) (by kernel_rfl) (by kernel_rfl) (by kernel_rfl) (fun _ _ _ h => h) (yieldsIf_load_mid (by rfl) _ _ rfl _ _ rfl _ _ (fun wz hS => (unhide HTX wz hS).rangeAll) huT rfl hrlen) (hHeld) ?_
    simp only [Act.put, List.setIfInBounds_toArray, List.set_cons_zero, List.set_cons_succ]
    refine held_one 3 (by kernel_rfl) (by rfl) (fun K' hK' => ?_)
    go_simp
    refine (lawIntrinsic_any r d A1 k1 c1 A2 k2 c2 w4.drew h (unhide HHR _ e5).2 (unhide HHR _ e5).1 hk1024 hlb).mono ?_
    rintro e w5 ⟨rfl, b5⟩
    refine hK'.out _ _ (e5.trans (b5.mono e5.size)) ?_
    clear hK' K'
    have e6 := e5.trans (b5.mono e5.size)
    obtain ⟨dI, hdI⟩ : ∃ dI, decide (d.gas < intrN d) = dI := ⟨_, rfl⟩
    have hdI2 : decide ((d.gas : Int) < (intrN d : Int)) = dI := by rw [← hdI]; exact decide_eq_decide.2 (by omega)
    refine held_takeD 4 (.bool dI) (some 59) (by rfl) (by rfl) (by kernel_rfl) (by kernel_rfl) (by kernel_rfl) (fun _ _ _ h => h) (.inl ⟨by rfl, fun _ _ => by go_simp⟩) (e6) ?_
    simp only [Act.put, List.setIfInBounds_toArray, List.set_cons_zero, List.set_cons_succ]
    refine wpAnyH_done (by kernel_rfl) ?_ _
    refine NoPanic.normal ?_
    clear e5 b5 b4 hdI2
    cases dI with
    | true =>
      have hv := unhide HV
      rw [if_pos (of_decide_eq_true hdI)] at hv
      have HV3 := hide hv
      clear hv hdI
      go_wp2
      go_ret
      exact ⟨by rw [unhide HV3]; rfl, unhide HX _ e6⟩
    | false =>
      have hv := unhide HV
      rw [if_neg (of_decide_eq_false hdI)] at hv
      have HV := hide hv
      clear hv hdI
      go_upto_region 14 with fail
      have x42 := unhide C42 _ e6
      have x22 := unhide N22 _ e6
      by_cases hgl : gl < d.gas
      · have hv := unhide HV
        rw [if_pos hgl] at hv
        have HV3 := hide hv
        clear hv
        go_wp2
        go_ret
        exact ⟨by rw [unhide HV3]; rfl, unhide HX _ e6⟩
      have hv := unhide HV
      rw [if_neg hgl] at hv
      have HV := hide hv
      have hgl2 : d.gas ≤ gl := by omega
      clear hv hgl
      go_upto_region 16 with fail
      clear x42 x22 hgl2
      have htxr := hide (unhide HTX _ e6).rangeAll
      have hfe := hide (lawFees_any r d A1 k1 c1 A2 k2 c2 w5 h)
      go_upto_region 17 with (first
        | ((with_reducible refine at_load 71 ?_); refine wpList_load_g (by rfl) 71 (.tmp 5) rfl (w.heap.size + 1) 0 rfl r _ (unhide htxr) Sakg.underlying71 rfl hrlen ?_)
        | (go_at_call 97; refine (unhide hfe).mono ?_; rintro e w6 ⟨Am, km, cm, At, kt, ct, rfl, nm, nt, b6⟩))
      have e7 := e6.trans (b6.mono e6.size)
      have e8 := e7.trans (Quiet.below (w := w6) ⟨1, rfl⟩ w3.heap.size)
      have NM := hide nm
      have NT := hide nt
      clear nm nt htxr hfe
      have d6 : Below w6.heap.size w6 w6.drew := Quiet.below ⟨1, rfl⟩ _
      have hprod : d.gas * beN (mostW d) < 256 ^ 40 := by
        have h1 := hm.lt
        have : d.gas * beN (mostW d) < 256 ^ 8 * 256 ^ 32 := Nat.mul_lt_mul'' hgas h1
        rwa [← Nat.pow_add] at this
      have hpb : d.gas * beN (mostW d) < BIG := Nat.lt_of_lt_of_le hprod (big_pow 40 (by omega))
      have hneed : d.gas * beN (mostW d) + beN d.value < BIG := by
        have h1 := h.hvalue.lt
        have h2 : (256 : Nat) ^ 41 ≤ BIG := big_pow 41 (by omega)
        have h3 : (256 : Nat) ^ 41 = 256 * 256 ^ 40 := by rw [Nat.pow_succ, Nat.mul_comm]
        have h4 : (256 : Nat) ^ 32 ≤ 256 ^ 40 := Nat.pow_le_pow_right (by omega) (by omega)
        omega
      refine wp_region_noPanic ?_
      refine wp_region_held_drew (S := fun w' => Below w3.heap.size w3 w') (by kernel_rfl) (e8) (fun hHeld => ?_)
      refine held_takeD 0 (.pointer (some ⟨w.heap.size + 1, 42, none⟩)) (some 70) (by rfl) (by rfl) (by kernel_rfl) (by kernel_rfl) (by kernel_rfl) (fun _ _ _ h => h) (.inl ⟨by rfl, fun _ _ => by go_simp⟩) (hHeld) ?_
      simp only [Act.put, List.setIfInBounds_toArray, List.set_cons_zero, List.set_cons_succ]
      refine held_takeD 1 (.int .u64 d.gas) (some 71) (by rfl) (by rfl) (by kernel_rfl) (by kernel_rfl) (by kernel_rfl) (fun _ _ _ h => h) (.inl ⟨by rfl, fun wS hS => by have hc := unhide C42 _ hS; go_simp⟩) (hHeld) ?_
      simp only [Act.put, List.setIfInBounds_toArray, List.set_cons_zero, List.set_cons_succ]
      refine held_takeD 3 (.slice Am km cm) (some 73) (by rfl) (by rfl) (by kernel_rfl) (by kernel_rfl) (by kernel_rfl) (fun _ _ _ h => h) (.inl ⟨by rfl, fun _ _ => by rfl⟩) (hHeld) ?_
      simp only [Act.put, List.setIfInBounds_toArray, List.set_cons_zero, List.set_cons_succ]
      refine held_takeD 5 (.pointer (some ⟨w.heap.size + 1, 75, none⟩)) (some 75) (by rfl) (by rfl) (by kernel_rfl) (by kernel_rfl) (by kernel_rfl) (fun _ _ _ h => h) (.inl ⟨by rfl, fun _ _ => by go_simp⟩) (hHeld) ?_
      simp only [Act.put, List.setIfInBounds_toArray, List.set_cons_zero, List.set_cons_succ]
      refine held_takeD 6 (.slice (some ⟨w.heap.size + 1, 75, none⟩) 32 32) (some 76) (by rfl) (by rfl) (by kernel_rfl) (by kernel_rfl) (by kernel_rfl) (fun _ _ _ h => h) (.inl ⟨by rfl, fun _ _ => by go_simp⟩) (hHeld) ?_
      simp only [Act.put, List.setIfInBounds_toArray, List.set_cons_zero, List.set_cons_succ]
      refine held_one 2 (by kernel_rfl) (by rfl) (fun K' hK' => ?_)
      go_simp
      refine (fromU64_any d.gas w6.drew hgas).mono ?_
      rintro e w7 ⟨Aa, ka, ca, rfl, na, -, b7⟩
      refine hK'.out _ _ (e8.trans (b7.mono e8.size)) ?_
      clear hK' K'
      have e9 := e8.trans (b7.mono e8.size)
      have d7 := d6.trans (b7.mono d6.size)
      refine held_one 4 (by kernel_rfl) (by rfl) (fun K' hK' => ?_)
      go_simp
      refine (na.mul ((unhide NM).kept d7) g8 hm.big).mono ?_
      rintro e w8 ⟨Ab, kb, cb', rfl, nb, -, b8⟩
      refine hK'.out _ _ (e9.trans (b8.mono e9.size)) ?_
      clear hK' K'
      have e10 := e9.trans (b8.mono e9.size)
      refine held_one 7 (by kernel_rfl) (by rfl) (fun K' hK' => ?_)
      go_simp
      refine (fromBE_any _ 32 32 d.value w8 (unhide SVAL _ e10) (by omega)).mono ?_
      rintro e w9 ⟨Ac, kc, cc, rfl, nc, -, b9⟩
      refine hK'.out _ _ (e10.trans (b9.mono e10.size)) ?_
      clear hK' K'
      have e11 := e10.trans (b9.mono e10.size)
      refine held_one 8 (by kernel_rfl) (by rfl) (fun K' hK' => ?_)
      go_simp
      refine ((nb.kept b9).add nc hpb h.hvalue.big).mono ?_
      rintro e w10 ⟨An, kn, cn, rfl, nn, -, b10⟩
      refine hK'.out _ _ (e11.trans (b10.mono e11.size)) ?_
      clear hK' K'
      have e12 := e11.trans (b10.mono e11.size)
      refine held_takeD 9 (.slice An kn cn) (some 10) (by rfl) (by rfl) (by kernel_rfl) (by kernel_rfl) (by kernel_rfl) (fun _ _ _ h => h) (.inl ⟨by rfl, fun _ _ => by rfl⟩) (e12) ?_
      simp only [Act.put, List.setIfInBounds_toArray, List.set_cons_zero, List.set_cons_succ]
      refine wpAnyH_done (by kernel_rfl) ?_ _
      refine NoPanic.normal ?_
      have b610 : Below w6.heap.size w6 w10 := d7.trans ((b8.trans ((b9.mono b8.size).trans (b10.mono (Nat.le_trans b8.size b9.size)))).mono d7.size)
      have NN : Hid (IsNat w10 An kn cn (d.gas * beN (mostW d) + beN d.value)) := hide nn
      have NM2 := hide ((unhide NM).kept b610)
      have NT2 := hide ((unhide NT).kept b610)
      clear na nb nc nn NM NT b7 b8 b9 b10 b610 e8 e9 e10 e11 d6 d7 e7
      go_upto_region 18 with fail
      go_wp2_with fail
      refine (fromBE_any _ 32 32 o.bal w10 (unhide SBAL _ e12) (by omega)).mono ?_
      rintro e w11 ⟨Ax, kx, cx, rfl, nx, -, b11⟩
      have e13 := e12.trans (b11.mono e12.size)
      have nx' : IsNat w11 Ax kx cx (beN o.bal) := nx
      have HC := hide (nx'.cmp ((unhide NN).kept b11) hbal.big hneed)
      clear nx nx'
      by_cases hgi : beN o.bal < d.gas * beN (mostW d) + beN d.value
      · have HC2 : Hid (Calls Sakg.prog 99 #[.slice Ax kx cx, .slice An kn cn] w11 fun e w' => e = .returned (.int .i8 (-1)) ∧ Quiet w11 w') := by
          have := unhide HC
          rw [show cmpI (beN o.bal) _ = -1 from cmpI_lt hgi] at this
          exact this
        have hv := unhide HV
        rw [if_pos hgi] at hv
        have HV3 := hide hv
        clear hv hgi HC
        go_wp2_with (go_at_call 99; refine (unhide HC2).mono ?_; rintro e w20 ⟨rfl, q20⟩)
        go_ret
        exact ⟨by rw [unhide HV3]; rfl, unhide HX _ (e13.trans (q20.below _))⟩
      have hv := unhide HV
      rw [if_neg hgi] at hv
      have HV := hide hv
      have hcr : decide (cmpI (beN o.bal) (d.gas * beN (mostW d) + beN d.value) < 0) = false := decide_eq_false (by unfold cmpI; rw [if_neg hgi]; split <;> omega)
      have HC2 : Hid (∃ cr : Int, decide (cr < 0) = false ∧ Calls Sakg.prog 99 #[.slice Ax kx cx, .slice An kn cn] w11 fun e w' => e = .returned (.int .i8 cr) ∧ Quiet w11 w') := hide ⟨_, hcr, unhide HC⟩
      clear hv hgi HC hcr
      obtain ⟨cr, hcr, HC3⟩ := unhide HC2
      have HC := hide HC3
      clear HC3 HC2
      go_upto_region 20 with (go_at_call 99; refine (unhide HC).mono ?_; rintro e w12 ⟨rfl, q12⟩)
      have e14 := e13.trans (q12.below w3.heap.size)
      have b1012 : Below w10.heap.size w10 w12 := b11.trans (q12.below _)
      clear HC hcr q12 b11 e13 e12
      have HC := hide (((unhide NT2).kept b1012).cmp ((unhide NM2).kept b1012) ht.big hm.big)
      by_cases hgi : beN (mostW d) < beN (tipW d)
      · have HC2 : Hid (Calls Sakg.prog 99 #[.slice At kt ct, .slice Am km cm] w12 fun e w' => e = .returned (.int .i8 1) ∧ Quiet w12 w') := by
          have := unhide HC
          rw [show cmpI (beN (tipW d)) _ = 1 from cmpI_gt hgi] at this
          exact this
        have hv := unhide HV
        rw [if_pos hgi] at hv
        have HV3 := hide hv
        clear hv hgi HC
        go_wp2_with (go_at_call 99; refine (unhide HC2).mono ?_; rintro e w22 ⟨rfl, q22⟩)
        go_ret
        exact ⟨by rw [unhide HV3]; rfl, unhide HX _ (e14.trans (q22.below _))⟩
      have hv := unhide HV
      rw [if_neg hgi] at hv
      have HV := hide hv
      have hcr : decide ((0 : Int) < cmpI (beN (tipW d)) (beN (mostW d))) = false := decide_eq_false (by unfold cmpI; split <;> (try split) <;> omega)
      have HC2 : Hid (∃ cr : Int, decide (0 < cr) = false ∧ Calls Sakg.prog 99 #[.slice At kt ct, .slice Am km cm] w12 fun e w' => e = .returned (.int .i8 cr) ∧ Quiet w12 w') := hide ⟨_, hcr, unhide HC⟩
      clear hv hgi HC hcr
      obtain ⟨cr, hcr, HC3⟩ := unhide HC2
      have HC := hide HC3
      clear HC3 HC2
      go_upto_region 22 with (go_at_call 99; refine (unhide HC).mono ?_; rintro e w13 ⟨rfl, q13⟩)
      have e15 := e14.trans (q13.below w3.heap.size)
      have b1013 : Below w10.heap.size w10 w13 := b1012.trans (q13.below _)
      clear HC hcr q13 e14 b1012
      go_wp2_with fail
      refine (fromBE_any _ 32 32 fee w13 (unhide SFEE _ e15) (by omega)).mono ?_
      rintro e w14 ⟨Ay, ky, cy, rfl, ny, -, b14⟩
      have e16 := e15.trans (b14.mono e15.size)
      have ny' : IsNat w14 Ay ky cy (beN fee) := ny
      have HC := hide (((unhide NM2).kept (b1013.trans (b14.mono b1013.size))).cmp ny' hm.big he.hfee.big)
      clear ny ny'
      by_cases hgi : beN (mostW d) < beN fee
      · have HC2 : Hid (Calls Sakg.prog 99 #[.slice Am km cm, .slice Ay ky cy] w14 fun e w' => e = .returned (.int .i8 (-1)) ∧ Quiet w14 w') := by
          have := unhide HC
          rw [show cmpI _ (beN fee) = -1 from cmpI_lt hgi] at this
          exact this
        have hv := unhide HV
        rw [if_pos hgi] at hv
        have HV3 := hide hv
        clear hv hgi HC
        go_wp2_with (go_at_call 99; refine (unhide HC2).mono ?_; rintro e w24 ⟨rfl, q24⟩)
        go_ret
        exact ⟨by rw [unhide HV3]; rfl, unhide HX _ (e16.trans (q24.below _))⟩
      have hv := unhide HV
      rw [if_neg hgi] at hv
      have HV3 := hide hv
      have hcr : decide (cmpI (beN (mostW d)) (beN fee) < 0) = false := decide_eq_false (by unfold cmpI; rw [if_neg hgi]; split <;> omega)
      have HC2 : Hid (∃ cr : Int, decide (cr < 0) = false ∧ Calls Sakg.prog 99 #[.slice Am km cm, .slice Ay ky cy] w14 fun e w' => e = .returned (.int .i8 cr) ∧ Quiet w14 w') := hide ⟨_, hcr, unhide HC⟩
      clear hv hgi HC hcr
      obtain ⟨cr, hcr, HC3⟩ := unhide HC2
      have HC := hide HC3
      clear HC3 HC2
      go_wp2_with (go_at_call 99; refine (unhide HC).mono ?_; rintro e w24 ⟨rfl, q24⟩)
      go_ret
      exact ⟨by rw [unhide HV3]; rfl, unhide HX _ (e16.trans (q24.below _))⟩

end Go.Proofs.Ygcsak
