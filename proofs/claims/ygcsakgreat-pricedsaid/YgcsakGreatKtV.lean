/-
  yp: verdict, after some transactions.
-/
import Derived.Test.YgcsakGreatVer
namespace Go.Proofs.YgcsakGreat
set_option linter.unusedVariables false
set_option linter.unusedSimpArgs false
set_option maxRecDepth 100000
open Go.RowKit

/-- what the state must show -/
structure StN (ap : Nat) (T : TypeId) (bw : Nat) (cs : List Value) (w : World) (ao : Option Addr) (l c : Nat) (ds : List YAcct) (gl : Nat) (fee : List Int) : Prop where
  row : RowT T w bw cs
  accts : SAccts bw w ao l c ds
  c0 : cs[0]? = some (.slice ao l c)
  le : l ≤ 1000000
  bnd : Bnd ds
  phase : cs[11]? = some (.int .u8 0)
  applied : cs[13]? = some (.int .u8 ap)
  hap : ap ≤ 3
  limit : cs[81]? = some (.int .u64 gl)
  hlimit : gl < 256 ^ 8
  base : (cs.drop 146).take 32 = bv fee
  hfee : IsW fee

set_option maxHeartbeats 16000000 in
theorem verdict_n (ap : Nat) (T : TypeId) (bw : Nat) (cs : List Value) (w : World) (ao : Option Addr) (l c : Nat) (ds : List YAcct) (gl : Nat) (fee : List Int) (hst : StN ap T bw cs w ao l c ds gl fee)
    (r : List Value) (d : YTx) (A1 : Option Addr) (k1 c1 : Nat) (A2 : Option Addr) (k2 c2 : Nat) (h : TxC r d A1 k1 c1 A2 k2 c2) (hd : Src w A1 k1 c1 d.data) (ha : AccsR w A2 k2 c2 d.access) :
    Calls Sakg.prog 98 #[.pointer (some ⟨bw, 0, none⟩), .agg r.toArray] w fun e w' => e = .returned (.int .u8 (verdN ds gl fee d)) ∧ Below w.heap.size w w' := by
  obtain ⟨W, hW⟩ : ∃ W, W = w.alloc (.cells r.toArray 33) := ⟨_, rfl⟩
  have hbw := hst.row.lt
  have hb0 : Below w.heap.size w W := by rw [hW]; exact (Below.refl _ _).alloc (Nat.le_refl _) _
  have hr0 : RowT 33 W w.heap.size r := by rw [hW]; exact RowT.new _ _ _
  have hacc : ∀ wz, Below W.heap.size W wz → Calls Sakg.prog 99 #[.pointer (some ⟨bw, 0, none⟩), .agg (bv d.frm).toArray] wz fun e w' => ∃ r, e = .returned (.agg r.toArray) ∧ SAcct bw w r (lookY ds d.frm) ∧ Below wz.heap.size wz w' := fun wz hz => by
    have hb : Below w.heap.size w wz := hb0.trans (hz.mono hb0.size)
    exact hst.accts.accountAt (Chg.of hb) (by rw [(hst.row.kept hb).cell]; exact hst.c0) d.frm h.hfrm hst.le
  have hrg : ∀ wz, Below W.heap.size W wz → wz.rangeAt w.heap.size 0 (bv d.frm) := fun wz hz => by
    have := (hr0.kept hz).range 0 20
    rwa [h.frm] at this
  have HACC := hide hacc
  have HRG := hide hrg
  have HR0 := hide hr0
  have hu := Sakg.underlying26
  have hsz := h.hfrm.size
  have hm := h.most
  have ht := h.tipW
  clear hacc hrg hr0
  go_enter Sakg.func98, Sakg.ntmps98
  go_upto_region 1 with fail
  rw [← hW]
  clear hW
  have dW : Below W.heap.size W W.drew := Quiet.below ⟨1, rfl⟩ _
  go_cut [5] (fun s5 wc => ∃ (g : Nat) (r1 : List Value), s5 = .pointer (some ⟨g, 0, none⟩) ∧ W.heap.size ≤ g ∧ RowT 113 wc g r1 ∧ SAcct bw w r1 (lookY ds d.frm) ∧ Below W.heap.size W wc)
  case first =>
    refine wp_region_noPanic ?_
    refine wp_region_held_drew (S := fun w' => w'.rangeAt w.heap.size 0 (bv d.frm)) (by kernel_rfl) (unhide HRG _ dW) (fun hHeld => ?_)
    refine held_takeD 0 (.pointer (some ⟨bw, 0, none⟩)) (some 11) (by rfl) (by rfl) (by kernel_rfl) (by kernel_rfl) (by kernel_rfl) (fun _ _ _ h => h) (.inl ⟨by rfl, fun _ _ => by rfl⟩) (hHeld) ?_
    simp only [Act.put, List.setIfInBounds_toArray, List.set_cons_zero, List.set_cons_succ]
    refine held_takeD 1 (.pointer (some ⟨bw, 0, none⟩)) (some 12) (by rfl) (by rfl) (by kernel_rfl) (by kernel_rfl) (by kernel_rfl) (fun _ _ _ h => h) (.inl ⟨by rfl, fun _ _ => by go_simp⟩) (hHeld) ?_
    simp only [Act.put, List.setIfInBounds_toArray, List.set_cons_zero, List.set_cons_succ]
    refine held_takeD 2 (.pointer (some ⟨bw, 0, none⟩)) (some 13) (by rfl) (by rfl) (by kernel_rfl) (by kernel_rfl) (by kernel_rfl) (fun _ _ _ h => h) (.inl ⟨by rfl, fun _ _ => by go_simp⟩) (hHeld) ?_
    simp only [Act.put, List.setIfInBounds_toArray, List.set_cons_zero, List.set_cons_succ]
    refine held_takeD 3 (.pointer (some ⟨w.heap.size, 0, none⟩)) (some 14) (by rfl) (by rfl) (by kernel_rfl) (by kernel_rfl) (by kernel_rfl) (fun _ _ _ h => h) (.inl ⟨by rfl, fun _ _ => by go_simp⟩) (hHeld) ?_
    simp only [Act.put, List.setIfInBounds_toArray, List.set_cons_zero, List.set_cons_succ]
    refine held_takeD 4 (.agg (bv d.frm).toArray) (some 15) (by rfl) (by rfl) (by kernel_rfl) (by kernel_rfl) (by kernel_rfl) (fun _ _ _ h => h) (yieldsIf_load_mid (by rfl) _ _ rfl _ _ rfl _ _ (fun _ h => h) hu rfl hsz) (hHeld) ?_
    simp only [Act.put, List.setIfInBounds_toArray, List.set_cons_zero, List.set_cons_succ]
    refine held_two 5 6 (by kernel_rfl) (by rfl) (by rfl) (fun K' hK' => ?_) (fun K' hK' => ?_)
    · go_simp
      refine (unhide HACC _ dW).mono ?_
      rintro e w2 ⟨r1, rfl, hrow, b2⟩
      have d2 := dW.trans (b2.mono dW.size)
      have hrl := hrow.now.len
      refine hK'.out _ _ (unhide HRG _ d2) ?_
      clear hK' K'
      refine held_one 6 (by kernel_rfl) (by rfl) (fun K' hK' => ?_)
      refine if_alloc (some 5) rfl 113 rfl (by rfl) _ 24 infoAcct2 (by simp [bv_len, zeros_len]) (fun wA rA bA sA => ?_)
      have dA := d2.trans (bA.mono d2.size)
      refine hK'.out _ _ (unhide HRG _ dA) ?_
      clear hK' K'
      simp only [Act.put, List.setIfInBounds_toArray, List.set_cons_zero, List.set_cons_succ]
      refine held_one 7 (by kernel_rfl) (by rfl) (fun K' hK' => ?_)
      refine if_store rfl (by rfl) 113 (.tmp 5) (.tmp 16) rfl w2.heap.size 0 113 _ r1 rfl rfl rA (by rw [hrl]; simp [bv_len, zeros_len]) (by rw [hrl]; exact sizeAcct) hrow.now.one (fun wS rS oS => ?_)
      have dS : Below W.heap.size W wS := dA.trans (oS.below _ (by exact d2.size))
      refine hK'.out _ _ (unhide HRG _ dS) ?_
      clear hK' K'
      refine wpAnyH_done (by kernel_rfl) ?_ _
      refine NoPanic.normal ?_
      rw [spl_all _ _ (by rw [hrl]; simp [bv_len, zeros_len])] at rS
      go_wp2_with fail
      go_meet
      case rel => exact ⟨_, r1, rfl, d2.size, rS, hrow, dS⟩
    · refine if_alloc (some 5) rfl 113 rfl (by rfl) _ 24 infoAcct2 (by simp [bv_len, zeros_len]) (fun wA rA bA sA => ?_)
      have dA := dW.trans (bA.mono dW.size)
      refine hK'.out _ _ (unhide HRG _ dA) ?_
      clear hK' K'
      simp only [Act.put, List.setIfInBounds_toArray, List.set_cons_zero, List.set_cons_succ]
      refine held_one 5 (by kernel_rfl) (by rfl) (fun K' hK' => ?_)
      go_simp
      refine (unhide HACC _ dA).mono ?_
      rintro e w2 ⟨r1, rfl, hrow, b2⟩
      have d2 := dA.trans (b2.mono dA.size)
      have hrl := hrow.now.len
      refine hK'.out _ _ (unhide HRG _ d2) ?_
      clear hK' K'
      refine held_one 7 (by kernel_rfl) (by rfl) (fun K' hK' => ?_)
      refine if_store rfl (by rfl) 113 (.tmp 5) (.tmp 16) rfl W.heap.size 0 113 _ r1 rfl rfl (rA.kept b2) (by rw [hrl]; simp [bv_len, zeros_len]) (by rw [hrl]; exact sizeAcct) hrow.now.one (fun wS rS oS => ?_)
      have dS : Below W.heap.size W wS := d2.trans (oS.below _ (by exact Nat.le_refl _))
      refine hK'.out _ _ (unhide HRG _ dS) ?_
      clear hK' K'
      refine wpAnyH_done (by kernel_rfl) ?_ _
      refine NoPanic.normal ?_
      rw [spl_all _ _ (by rw [hrl]; simp [bv_len, zeros_len])] at rS
      go_wp2_with fail
      go_meet
      case rel => exact ⟨_, r1, rfl, Nat.le_refl _, rS, hrow, dS⟩
  case rest =>
    obtain ⟨gA, r1, rfl, hgA, hrA, hrow, hbc⟩ := hcut
    have hbwc : Below w.heap.size w wc := hb0.trans (hbc.mono hb0.size)
    have hgl := hrA.lt
    obtain ⟨B1, j1, e1, B2, j2, e2, B3, j3, e3, B4, j4, e4, q20, q21, q22, q23, s1, s2, s3, s4⟩ := hrow.cells
    have hT : ∀ wz, Below wc.heap.size wc wz → RowT 33 wz w.heap.size r := fun wz hz => ((unhide HR0).kept hbc).kept hz
    have hS' : ∀ wz, Below wc.heap.size wc wz → Below w.heap.size w wz := fun wz hz => hbwc.trans (hz.mono hbwc.size)
    have hA : ∀ wz, Below wc.heap.size wc wz → wz.cell? ⟨gA, 20, none⟩ = some (.slice B1 j1 e1) ∧ wz.cell? ⟨gA, 21, none⟩ = some (.slice B2 j2 e2) ∧ wz.cell? ⟨gA, 22, none⟩ = some (.slice B3 j3 e3) := fun wz hz => by
      have hq := hrA.kept hz
      exact ⟨by rw [hq.cell]; exact q20, by rw [hq.cell]; exact q21, by rw [hq.cell]; exact q22⟩
    have hN1 : ∀ wz, Below wc.heap.size wc wz → IsNat wz B1 j1 e1 (lookY ds d.frm).nonce := fun wz hz => (s1.go (Chg.of (hS' wz hz))).now
    have hN2 : ∀ wz, Below wc.heap.size wc wz → IsNat wz B2 j2 e2 (lookY ds d.frm).bal := fun wz hz => (s2.go (Chg.of (hS' wz hz))).now
    have hcl := s3.now.len_eq
    have hnb := (hst.bnd.look d.frm).1
    have hbb := (hst.bnd.look d.frm).2
    have HT := hide hT
    have HS := hide hS'
    have HAC := hide hA
    have HN1 := hide hN1
    have HN2 := hide hN2
    have hgas := h.hgas
    have hnon := h.hnonce
    have c42 : wc.cell? ⟨w.heap.size, 42, none⟩ = some (.int .u64 d.gas) := by rw [(hT wc (Below.refl _ _)).cell]; exact h.gas
    clear hrA HACC HRG hT hS' hA hN1 hN2 q20 q21 q22 q23 s1 s2 s3 s4 hrow
    go_wp2_with fail
    refine (num_any d.gas wc hgas).mono ?_
    rintro e w1 ⟨Ag, kg, cg, rfl, ng, -, b1⟩
    have NG := hide ng
    have HFE := hide (fees_any w.heap.size r d A1 k1 c1 A2 k2 c2 w1 (unhide HT w1 b1) h)
    clear ng
    go_upto_region 4 with (first
      | (go_at_call 188; refine (unhide HFE).mono ?_; rintro e w2 ⟨rfl, b2⟩)
      | ((with_reducible refine at_alloc 29 ?_); refine wpList_alloc_g (by rfl) 29 rfl (bv (zeros 32)) 32 infoW2 (by rw [bv_len, zeros_len]) ?_)
      | ((with_reducible refine at_store 29 ?_); refine wpList_store_whole rfl 29 (.tmp 7) (.tmp 22) rfl w2.heap.size 29 (bv (zeros 32)) (bv (mostW d)) rfl rfl ((RowT.new _ _ _).alloc _) (by rw [bv_len, bv_len, hm.len, zeros_len]) hm.size (bv_one _) ?_; intro w3 hr3 ho3; have hq4 : RowT 29 w3 (w2.alloc (.cells (bv (zeros 32)).toArray 29)).heap.size (bv (zeros 32)) := (RowT.new 29 (w2.alloc (.cells (bv (zeros 32)).toArray 29)) (bv (zeros 32))).only ho3 (by rw [World.size_alloc]; omega); have d3 : Below w2.heap.size w2 w3 := (((Below.refl w2.heap.size w2).alloc (Nat.le_refl _) _).alloc (by simp) _).trans (ho3.below _ (Nat.le_refl _)))
      | ((with_reducible refine at_store 29 ?_); refine wpList_store_whole rfl 29 (.tmp 8) (.tmp 23) rfl _ 29 (bv (zeros 32)) (bv (tipW d)) rfl rfl hq4 (by rw [bv_len, bv_len, ht.len, zeros_len]) ht.size (bv_one _) ?_; intro w4 hr4 ho4))
    rw [World.size_alloc] at hr4 ho4
    have hr3' := hr3.only ho4 (by omega)
    have d4 : Below w2.heap.size w2 w4 := d3.trans (ho4.below _ (by omega))
    have b14 : Below w1.heap.size w1 w4 := b2.trans (d4.mono b2.size)
    have s5 : Src w4 (some ⟨w2.heap.size, 0, none⟩) 32 32 (mostW d) := src_of_range hr3'.rangeAll hm.byt hm.len max32
    have HR4 := hide hr4
    have HS5 := hide s5
    clear hr3 hr3' hr4 ho3 ho4 hq4 d3 d4 s5 HFE
    go_wp2_with fail
    refine (fromBE_any _ 32 32 (mostW d) w4 (unhide HS5) (by omega)).mono ?_
    rintro e w5 ⟨Am, km, cm, rfl, nm, -, b5⟩
    have b15 : Below w1.heap.size w1 w5 := b14.trans (b5.mono b14.size)
    have bc5 : Below wc.heap.size wc w5 := b1.trans (b15.mono b1.size)
    have NM := hide nm
    have dZ : Below w5.heap.size w5 w5.drew := Quiet.below ⟨1, rfl⟩ _
    clear nm
    go_upto_region 5 with fail
    refine wp_region_noPanic ?_
    refine wp_region_held_drew (S := fun _ => True) (by kernel_rfl) (trivial) (fun hHeld => ?_)
    refine held_takeD 0 (.slice Ag kg cg) (some 26) (by rfl) (by rfl) (by kernel_rfl) (by kernel_rfl) (by kernel_rfl) (fun _ _ _ h => h) (.inl ⟨by rfl, fun _ _ => by rfl⟩) (hHeld) ?_
    simp only [Act.put, List.setIfInBounds_toArray, List.set_cons_zero, List.set_cons_succ]
    refine held_takeD 1 (.slice Am km cm) (some 27) (by rfl) (by rfl) (by kernel_rfl) (by kernel_rfl) (by kernel_rfl) (fun _ _ _ h => h) (.inl ⟨by rfl, fun _ _ => by rfl⟩) (hHeld) ?_
    simp only [Act.put, List.setIfInBounds_toArray, List.set_cons_zero, List.set_cons_succ]
    refine held_takeD 3 (.pointer (some ⟨w.heap.size, 75, none⟩)) (some 29) (by rfl) (by rfl) (by kernel_rfl) (by kernel_rfl) (by kernel_rfl) (fun _ _ _ h => h) (.inl ⟨by rfl, fun _ _ => by go_simp⟩) (hHeld) ?_
    simp only [Act.put, List.setIfInBounds_toArray, List.set_cons_zero, List.set_cons_succ]
    refine held_takeD 4 (.slice (some ⟨w.heap.size, 75, none⟩) 32 32) (some 30) (by rfl) (by rfl) (by kernel_rfl) (by kernel_rfl) (by kernel_rfl) (fun _ _ _ h => h) (.inl ⟨by rfl, fun _ _ => by go_simp⟩) (hHeld) ?_
    simp only [Act.put, List.setIfInBounds_toArray, List.set_cons_zero, List.set_cons_succ]
    have b1d : Below w1.heap.size w1 w5.drew := b15.trans (Quiet.below ⟨1, rfl⟩ _)
    have g8 : d.gas < BIG := Nat.lt_of_lt_of_le hgas (big_pow 8 (by omega))
    have hprod : d.gas * beN (mostW d) < 256 ^ 40 := by
      have h1 := hm.lt
      have : d.gas * beN (mostW d) < 256 ^ 8 * 256 ^ 32 := Nat.mul_lt_mul'' hgas h1
      rwa [← Nat.pow_add] at this
    refine held_one 2 (by kernel_rfl) (by rfl) (fun K' hK' => ?_)
    go_simp
    refine (((unhide NG).kept b1d).mul ((unhide NM).kept dZ) g8 hm.big).mono ?_
    rintro e w6 ⟨Ap, kp, cp, rfl, np, -, b6⟩
    refine hK'.out _ _ (trivial) ?_
    clear hK' K'
    have bc6 : Below wc.heap.size wc w6 := bc5.trans ((dZ.trans (b6.mono dZ.size)).mono bc5.size)
    have sv : Src w6 (some ⟨w.heap.size, 75, none⟩) 32 32 d.value := src_of_range (by have := (unhide HT w6 bc6).range 75 32; rwa [h.value] at this) h.hvalue.byt h.hvalue.len max32
    refine held_one 5 (by kernel_rfl) (by rfl) (fun K' hK' => ?_)
    go_simp
    refine (fromBE_any _ 32 32 d.value w6 sv (by omega)).mono ?_
    rintro e w7 ⟨Av, kv, cv, rfl, nv, -, b7⟩
    refine hK'.out _ _ (trivial) ?_
    clear hK' K'
    have hpb : d.gas * beN (mostW d) < BIG := Nat.lt_of_lt_of_le hprod (big_pow 40 (by omega))
    refine held_one 6 (by kernel_rfl) (by rfl) (fun K' hK' => ?_)
    go_simp
    refine ((np.kept b7).add nv hpb h.hvalue.big).mono ?_
    rintro e w8 ⟨An, kn, cn, rfl, nn, -, b8⟩
    refine hK'.out _ _ (trivial) ?_
    clear hK' K'
    refine held_takeD 7 (.slice An kn cn) (some 10) (by rfl) (by rfl) (by kernel_rfl) (by kernel_rfl) (by kernel_rfl) (fun _ _ _ h => h) (.inl ⟨by rfl, fun _ _ => by rfl⟩) (trivial) ?_
    simp only [Act.put, List.setIfInBounds_toArray, List.set_cons_zero, List.set_cons_succ]
    refine wpAnyH_done (by kernel_rfl) ?_ _
    refine NoPanic.normal ?_
    have b58 : Below w5.heap.size w5 w8 := dZ.trans ((b6.trans ((b7.mono b6.size).trans (b8.mono (Nat.le_trans b6.size b7.size)))).mono dZ.size)
    have bc8 : Below wc.heap.size wc w8 := bc5.trans (b58.mono bc5.size)
    have hneed : d.gas * beN (mostW d) + beN d.value < BIG := by
      have h1 := h.hvalue.lt
      have h2 : (256 : Nat) ^ 41 ≤ BIG := big_pow 41 (by omega)
      have h3 : (256 : Nat) ^ 41 = 256 * 256 ^ 40 := by rw [Nat.pow_succ, Nat.mul_comm]
      have h4 : (256 : Nat) ^ 32 ≤ 256 ^ 40 := Nat.pow_le_pow_right (by omega) (by omega)
      omega
    have NG8 := hide ((unhide NG).kept (b15.trans (b58.mono b15.size)))
    have NM8 : Hid (IsNat w8 Am km cm (beN (mostW d))) := hide ((unhide NM).kept b58)
    have NN8 : Hid (IsNat w8 An kn cn (d.gas * beN (mostW d) + beN d.value)) := hide nn
    have HR8 := hide ((unhide HR4).kept (b5.trans (b58.mono b5.size)))
    have p11 : w8.cell? ⟨bw, 11, none⟩ = some (.int .u8 0) := by rw [(hst.row.kept (unhide HS w8 bc8)).cell]; exact hst.phase
    have hap := hst.hap
    have t13a : decide ((4 : Int) ≤ (ap : Int)) = false := by rw [decide_eq_false_iff_not]; omega
    have t13b : decide ((ap : Int) < 4) = true := by rw [decide_eq_true_iff]; omega
    have p13 : w8.cell? ⟨bw, 13, none⟩ = some (.int .u8 ap) := by rw [(hst.row.kept (unhide HS w8 bc8)).cell]; exact hst.applied
    have hv : verdN ds gl fee d = verdN ds gl fee d := rfl
    conv at hv => rhs; unfold verdN
    have HV := hide hv
    have hZ : ∀ wz, Below w8.heap.size w8 wz → Below wc.heap.size wc wz := fun wz hz => bc8.trans (hz.mono bc8.size)
    have hX : ∀ wz, Below w8.heap.size w8 wz → Below w.heap.size w wz := fun wz hz => unhide HS wz (hZ wz hz)
    have h107 : ∀ wz, Below w8.heap.size w8 wz → wz.cell? ⟨w.heap.size, 107, none⟩ = some (.slice A1 k1 c1) := fun wz hz => by rw [(unhide HT wz (hZ wz hz)).cell]; exact h.data
    have h41 : ∀ wz, Below w8.heap.size w8 wz → wz.cell? ⟨w.heap.size, 41, none⟩ = some (.int .u64 d.nonce) := fun wz hz => by rw [(unhide HT wz (hZ wz hz)).cell]; exact h.nonce
    have h40 : ∀ wz, Below w8.heap.size w8 wz → wz.cell? ⟨w.heap.size, 40, none⟩ = some (.bool d.create) := fun wz hz => by rw [(unhide HT wz (hZ wz hz)).cell]; exact h.create
    have h81 : ∀ wz, Below w8.heap.size w8 wz → wz.cell? ⟨bw, 81, none⟩ = some (.int .u64 gl) := fun wz hz => by rw [(hst.row.kept (hX wz hz)).cell]; exact hst.limit
    have hBF : ∀ wz, Below w8.heap.size w8 wz → wz.rangeAt bw 146 (bv fee) := fun wz hz => by have := (hst.row.kept (hX wz hz)).range 146 32; rwa [hst.base] at this
    have HZ := hide hZ
    have HX := hide hX
    have H107 := hide h107
    have H41 := hide h41
    have H40 := hide h40
    have H81 := hide h81
    have HBF := hide hBF
    have hlk := hd.len_eq
    have hBB := big_ge
    clear hv np nv nn NG NM HR4 HS5 sv b6 b7 b8 b1d dZ b5 b14 b15 b58 bc5 bc6 b1 b2 hZ hX h107 h41 h40 h81 hBF
    go_upto_region 10 with fail
    clear p11 p13
    go_wp2_with fail
    refine (num_any 1048576 w8 (by omega)).mono ?_
    rintro e w9 ⟨Ax, kx, cx, rfl, nx, -, b9⟩
    have HC := hide (((unhide NG8).kept b9).cmp nx g8 (by omega))
    clear nx
    by_cases hg : 1048576 < d.gas
    · rw [cmpI_gt hg] at HC
      have hv := unhide HV
      rw [if_pos hg] at hv
      have HV3 := hide hv
      clear hv
      go_wp2_with (go_at_call 68; refine (unhide HC).mono ?_; rintro e w10 ⟨rfl, q10⟩)
      go_ret
      exact ⟨by rw [unhide HV3]; rfl, unhide HX _ (b9.trans (q10.below _))⟩
    have hv := unhide HV
    rw [if_neg hg] at hv
    have HV := hide hv
    have hcr : decide ((0 : Int) < cmpI d.gas 1048576) = false := decide_eq_false (by unfold cmpI; split <;> (try split) <;> omega)
    generalize cmpI d.gas 1048576 = cr at HC hcr
    clear hv hg
    by_cases hk : 1024 < k1
    · have hv := unhide HV
      rw [if_pos (by rw [hlk]; exact hk)] at hv
      have HV3 := hide hv
      have dk : decide ((1024 : Int) < (k1 : Int)) = true := decide_eq_true (by omega)
      clear hv hk
      go_wp2_with (go_at_call 68; refine (unhide HC).mono ?_; rintro e w10 ⟨rfl, q10⟩; have c107 := unhide H107 _ (b9.trans (q10.below _)))
      go_ret
      exact ⟨by rw [unhide HV3]; rfl, unhide HX _ (b9.trans (q10.below _))⟩
    have hv := unhide HV
    rw [if_neg (by rw [hlk]; exact hk)] at hv
    have HV := hide hv
    have hk1024 : k1 ≤ 1024 := by omega
    have dk : decide ((1024 : Int) < (k1 : Int)) = false := decide_eq_false (by omega)
    clear hv hk
    have hkeep : ∀ wz, Below w8.heap.size w8 wz → AccsR wz A2 k2 c2 d.access := fun wz hz => ha.kept (unhide HX wz hz)
    have hlist : ∀ wz, Below w8.heap.size w8 wz → Calls Sakg.prog 189 #[.pointer (some ⟨w.heap.size, 0, none⟩)] wz fun e w' => e = .returned (.bool (listB d.access)) ∧ Below wz.heap.size wz w' := fun wz hz => listOK_any w.heap.size r d A1 k1 c1 A2 k2 c2 wz (unhide HT wz (unhide HZ wz hz)) h (hkeep wz hz)
    have HLIST := hide hlist
    clear hlist
    cases hlb : listB d.access with
    | false =>
      rw [hlb] at HLIST
      have hv := unhide HV
      rw [if_pos hlb] at hv
      have HV3 := hide hv
      clear hv hlb
      go_wp2_with (first
        | (go_at_call 68; refine (unhide HC).mono ?_; rintro e w10 ⟨rfl, q10⟩; have e10 := b9.trans (q10.below _); have c107 := unhide H107 _ e10)
        | (go_at_call 189; refine (unhide HLIST _ e10).mono ?_; rintro e w11 ⟨rfl, b11⟩))
      go_ret
      exact ⟨by rw [unhide HV3]; rfl, unhide HX _ (e10.trans (b11.mono e10.size))⟩
    | true =>
      rw [hlb] at HLIST
      have hv := unhide HV
      rw [if_neg (by rw [hlb]; decide)] at hv
      have HV := hide hv
      clear hv
      go_upto_region 12 with (first
        | (go_at_call 68; refine (unhide HC).mono ?_; rintro e w10 ⟨rfl, q10⟩; have e10 := b9.trans (q10.below _); have c107 := unhide H107 _ e10)
        | (go_at_call 189; refine (unhide HLIST _ e10).mono ?_; rintro e w11 ⟨rfl, b11⟩))
      have e11 := e10.trans (b11.mono e10.size)
      clear c107 hcr HC q10 b9 b11 e10 HLIST dk
      have e12 := e11.trans (Quiet.below (w := w11) ⟨1, rfl⟩ w8.heap.size)
      have hcz := cmp_zero d.nonce (lookY ds d.frm).nonce
      refine wp_region_noPanic ?_
      refine wp_region_held_drew (S := fun w' => Below w8.heap.size w8 w') (by kernel_rfl) (e12) (fun hHeld => ?_)
      refine held_takeD 0 (.pointer (some ⟨w.heap.size, 41, none⟩)) (some 61) (by rfl) (by rfl) (by kernel_rfl) (by kernel_rfl) (by kernel_rfl) (fun _ _ _ h => h) (.inl ⟨by rfl, fun _ _ => by go_simp⟩) (hHeld) ?_
      simp only [Act.put, List.setIfInBounds_toArray, List.set_cons_zero, List.set_cons_succ]
      refine held_takeD 1 (.int .u64 d.nonce) (some 62) (by rfl) (by rfl) (by kernel_rfl) (by kernel_rfl) (by kernel_rfl) (fun _ _ _ h => h) (.inl ⟨by rfl, fun wS hS => by have hc := unhide H41 _ hS; go_simp⟩) (hHeld) ?_
      simp only [Act.put, List.setIfInBounds_toArray, List.set_cons_zero, List.set_cons_succ]
      refine held_takeD 3 (.pointer (some ⟨gA, 20, none⟩)) (some 64) (by rfl) (by rfl) (by kernel_rfl) (by kernel_rfl) (by kernel_rfl) (fun _ _ _ h => h) (.inl ⟨by rfl, fun _ _ => by go_simp⟩) (hHeld) ?_
      simp only [Act.put, List.setIfInBounds_toArray, List.set_cons_zero, List.set_cons_succ]
      refine held_takeD 4 (.slice B1 j1 e1) (some 65) (by rfl) (by rfl) (by kernel_rfl) (by kernel_rfl) (by kernel_rfl) (fun _ _ _ h => h) (.inl ⟨by rfl, fun wS hS => by have hc := (unhide HAC _ (unhide HZ _ hS)).1; go_simp⟩) (hHeld) ?_
      simp only [Act.put, List.setIfInBounds_toArray, List.set_cons_zero, List.set_cons_succ]
      refine held_one 2 (by kernel_rfl) (by rfl) (fun K' hK' => ?_)
      go_simp
      refine (num_any d.nonce w11.drew hnon).mono ?_
      rintro e w12 ⟨Ax, kx, cx, rfl, nx, -, b12⟩
      refine hK'.out _ _ (e12.trans (b12.mono e12.size)) ?_
      clear hK' K'
      have e13 := e12.trans (b12.mono e12.size)
      refine held_one 5 (by kernel_rfl) (by rfl) (fun K' hK' => ?_)
      go_simp
      refine (nx.cmp (unhide HN1 w12 (unhide HZ _ e13)) (Nat.lt_of_lt_of_le hnon (big_pow 8 (by omega))) hnb).mono ?_
      rintro e w13 ⟨rfl, q13⟩
      refine hK'.out _ _ (e13.trans (q13.below _)) ?_
      clear hK' K'
      have e14 := e13.trans (q13.below w8.heap.size)
      generalize hbn : decide (d.nonce = (lookY ds d.frm).nonce) = bn at hcz
      generalize cmpI d.nonce (lookY ds d.frm).nonce = cr at hcz ⊢
      have hcz2 : (cr != 0) = !bn := by unfold bne; rw [hcz]
      refine held_takeD 6 (.bool (!bn)) (some 67) (by rfl) (by rfl) (by kernel_rfl) (by kernel_rfl) (by kernel_rfl) (fun _ _ _ h => h) (.inl ⟨by rfl, fun _ _ => by go_simp⟩) (e14) ?_
      simp only [Act.put, List.setIfInBounds_toArray, List.set_cons_zero, List.set_cons_succ]
      refine held_takeD 7 (.bool (!bn)) (some 60) (by rfl) (by rfl) (by kernel_rfl) (by kernel_rfl) (by kernel_rfl) (fun _ _ _ h => h) (.inl ⟨by rfl, fun _ _ => by rfl⟩) (e14) ?_
      simp only [Act.put, List.setIfInBounds_toArray, List.set_cons_zero, List.set_cons_succ]
      refine wpAnyH_done (by kernel_rfl) ?_ _
      refine NoPanic.normal ?_
      clear nx b12 e13 q13 e11 e12 hcz hcz2
      cases bn with
      | false =>
        have hn : ¬ d.nonce = (lookY ds d.frm).nonce := of_decide_eq_false hbn
        have hv := unhide HV
        rw [if_pos hn] at hv
        have HV3 := hide hv
        clear hv hn hbn
        go_wp2
        go_ret
        exact ⟨by rw [unhide HV3]; rfl, unhide HX _ e14⟩
      | true =>
        have hn : d.nonce = (lookY ds d.frm).nonce := of_decide_eq_true hbn
        have hv := unhide HV
        rw [if_neg (fun h => h hn)] at hv
        have HV := hide hv
        clear hv hn hbn
        go_upto_region 14 with fail
        have e12 := e14.trans (Quiet.below (w := w13) ⟨1, rfl⟩ w8.heap.size)
        have hcz := cmp_zero (lookY ds d.frm).nonce 18446744073709551615
        refine wp_region_noPanic ?_
        refine wp_region_held_drew (S := fun w' => Below w8.heap.size w8 w') (by kernel_rfl) (e12) (fun hHeld => ?_)
        refine held_takeD 0 (.pointer (some ⟨gA, 20, none⟩)) (some 69) (by rfl) (by rfl) (by kernel_rfl) (by kernel_rfl) (by kernel_rfl) (fun _ _ _ h => h) (.inl ⟨by rfl, fun _ _ => by go_simp⟩) (hHeld) ?_
        simp only [Act.put, List.setIfInBounds_toArray, List.set_cons_zero, List.set_cons_succ]
        refine held_takeD 1 (.slice B1 j1 e1) (some 70) (by rfl) (by rfl) (by kernel_rfl) (by kernel_rfl) (by kernel_rfl) (fun _ _ _ h => h) (.inl ⟨by rfl, fun wS hS => by have hc := (unhide HAC _ (unhide HZ _ hS)).1; go_simp⟩) (hHeld) ?_
        simp only [Act.put, List.setIfInBounds_toArray, List.set_cons_zero, List.set_cons_succ]
        refine held_one 2 (by kernel_rfl) (by rfl) (fun K' hK' => ?_)
        go_simp
        refine (num_any 18446744073709551615 w13.drew (by omega)).mono ?_
        rintro e w14 ⟨Ax, kx, cx, rfl, nx, -, b14⟩
        refine hK'.out _ _ (e12.trans (b14.mono e12.size)) ?_
        clear hK' K'
        have e15 := e12.trans (b14.mono e12.size)
        refine held_one 3 (by kernel_rfl) (by rfl) (fun K' hK' => ?_)
        go_simp
        refine ((unhide HN1 w14 (unhide HZ _ e15)).cmp nx hnb (by omega)).mono ?_
        rintro e w15 ⟨rfl, q15⟩
        refine hK'.out _ _ (e15.trans (q15.below _)) ?_
        clear hK' K'
        have e16 := e15.trans (q15.below w8.heap.size)
        generalize hbn : decide ((lookY ds d.frm).nonce = 18446744073709551615) = bn at hcz
        generalize cmpI (lookY ds d.frm).nonce 18446744073709551615 = cr at hcz ⊢
        refine held_takeD 4 (.bool bn) (some 73) (by rfl) (by rfl) (by kernel_rfl) (by kernel_rfl) (by kernel_rfl) (fun _ _ _ h => h) (.inl ⟨by rfl, fun _ _ => by go_simp⟩) (e16) ?_
        simp only [Act.put, List.setIfInBounds_toArray, List.set_cons_zero, List.set_cons_succ]
        refine held_takeD 5 (.bool bn) (some 68) (by rfl) (by rfl) (by kernel_rfl) (by kernel_rfl) (by kernel_rfl) (fun _ _ _ h => h) (.inl ⟨by rfl, fun _ _ => by rfl⟩) (e16) ?_
        simp only [Act.put, List.setIfInBounds_toArray, List.set_cons_zero, List.set_cons_succ]
        refine wpAnyH_done (by kernel_rfl) ?_ _
        refine NoPanic.normal ?_
        clear nx b14 e15 q15 e12 e14 hcz
        cases bn with
        | true =>
          have hn := of_decide_eq_true hbn
          have hv := unhide HV
          rw [if_pos hn] at hv
          have HV3 := hide hv
          clear hv hn hbn
          go_wp2
          go_ret
          exact ⟨by rw [unhide HV3]; rfl, unhide HX _ e16⟩
        | false =>
          have hn := of_decide_eq_false hbn
          have hv := unhide HV
          rw [if_neg hn] at hv
          have HV := hide hv
          clear hv hn hbn
          have c22 := (unhide HAC _ (unhide HZ _ e16)).2.2
          by_cases hcd : 0 < j3
          · have hv := unhide HV
            rw [if_pos (by rw [hcl]; exact hcd)] at hv
            have HV3 := hide hv
            clear hv
            go_wp2
            go_ret
            exact ⟨by rw [unhide HV3]; rfl, unhide HX _ e16⟩
          have hv := unhide HV
          rw [if_neg (by rw [hcl]; exact hcd)] at hv
          have HV := hide hv
          have hj3 : j3 = 0 := by omega
          clear hv hcd
          have c107 := unhide H107 _ e16
          have c40 := unhide H40 _ e16
          go_upto_region 18 with fail
          go_cut [79] (fun s79 wk => s79 = .bool (d.create && decide (512 < k1)) ∧ w15 = wk)
          case first =>
            have dk : decide ((512 : Int) < (k1 : Int)) = decide (512 < k1) := decide_eq_decide.2 (by omega)
            obtain ⟨dd, hdd⟩ : ∃ dd, decide (512 < k1) = dd := ⟨_, rfl⟩
            rw [hdd] at dk
            have HDD := hide hdd
            clear hdd
            cases hcr : d.create with
            | false =>
              rw [hcr] at c40
              have HCR := hide hcr
              clear hcr
              go_wp2_with fail
              go_meet
              case rel => exact ⟨by rw [unhide HCR]; rfl, rfl⟩
            | true =>
              rw [hcr] at c40
              have HCR := hide hcr
              clear hcr
              go_wp2_with fail
              go_meet
              case rel => exact ⟨by rw [unhide HCR, unhide HDD]; rfl, rfl⟩
          case rest =>
            obtain ⟨rfl, rfl⟩ := hcut
            clear c107 c40 c22
            by_cases hcc : d.create = true ∧ 512 < d.data.length
            · have hv := unhide HV
              rw [if_pos hcc] at hv
              have HV3 := hide hv
              have tt : (d.create && decide (512 < k1)) = true := by rw [hcc.1, decide_eq_true (by rw [← hlk]; exact hcc.2)]; rfl
              rw [tt]
              clear hv hcc tt
              go_wp2
              go_ret
              exact ⟨by rw [unhide HV3]; rfl, unhide HX _ e16⟩
            have hv := unhide HV
            rw [if_neg hcc] at hv
            have HV := hide hv
            have tt : (d.create && decide (512 < k1)) = false := by
              cases hcr : d.create with
              | false => rfl
              | true => rw [decide_eq_false (fun h' => hcc ⟨hcr, by rw [hlk]; exact h'⟩)]; rfl
            rw [tt]
            clear hv hcc tt
            have htx := unhide HT _ (unhide HZ _ e16)
            have hrlen : (Sakg.prog.info? 33).map (·.size) = some r.length := by rw [h.len]; exact sizeTx
            have HTX := hide htx.rangeAll
            have HIN := hide (intrinsic_any r d A1 k1 c1 A2 k2 c2 w15 h (hd.kept (unhide HX _ e16)) (hkeep _ e16) hk1024 hlb)
            clear htx
            have hin : intrN d < BIG := by
              have h1 : accN d.access ≤ 1000000 := by
                have h2 := hlb
                unfold listB at h2
                simp at h2
                have := accN_le d.access
                omega
              have h3 := zerosN_le d.data
              have h4 : intrN d ≤ 2000000 := by
                unfold intrN dataN
                split <;> omega
              omega
            go_wp2_with (first
              | ((with_reducible refine at_load 33 ?_); refine wpList_load_g (by rfl) 33 (.tmp 3) rfl w.heap.size 0 rfl r _ (unhide HTX) Sakg.underlying33 rfl hrlen ?_))
            refine (unhide HIN).mono ?_
            rintro e w16 ⟨Ai, ki, ci, rfl, ni, b16⟩
            have e17 := e16.trans (b16.mono e16.size)
            have HC := hide (((unhide NG8).kept e17).cmp ni g8 hin)
            clear ni HTX HIN
            by_cases hgi : d.gas < intrN d
            · rw [cmpI_lt hgi] at HC
              have hv := unhide HV
              rw [if_pos hgi] at hv
              have HV3 := hide hv
              clear hv hgi
              go_wp2_with (go_at_call 68; refine (unhide HC).mono ?_; rintro e w17 ⟨rfl, q17⟩)
              go_ret
              exact ⟨by rw [unhide HV3]; rfl, unhide HX _ (e17.trans (q17.below _))⟩
            have hv := unhide HV
            rw [if_neg hgi] at hv
            have HV := hide hv
            have hcr : decide (cmpI d.gas (intrN d) < 0) = false := decide_eq_false (by unfold cmpI; rw [if_neg hgi]; split <;> omega)
            generalize cmpI d.gas (intrN d) = cr at HC hcr
            clear hv hgi
            go_upto_region 22 with (go_at_call 68; refine (unhide HC).mono ?_; rintro e w17 ⟨rfl, q17⟩)
            have e18 := e17.trans (q17.below w8.heap.size)
            have c81 := unhide H81 _ e18
            clear HC hcr e17 q17 b16 e16
            go_wp2_with fail
            refine (num_any gl w17 hst.hlimit).mono ?_
            rintro e w18 ⟨Ax, kx, cx, rfl, nx, -, b18⟩
            have e19 := e18.trans (b18.mono e18.size)
            have HC := hide (((unhide NG8).kept e19).cmp nx g8 (Nat.lt_of_lt_of_le hst.hlimit (big_pow 8 (by omega))))
            clear nx c81
            by_cases hgi : gl < d.gas
            · rw [cmpI_gt hgi] at HC
              have hv := unhide HV
              rw [if_pos hgi] at hv
              have HV3 := hide hv
              clear hv hgi
              go_wp2_with (go_at_call 68; refine (unhide HC).mono ?_; rintro e w19 ⟨rfl, q19⟩)
              go_ret
              exact ⟨by rw [unhide HV3]; rfl, unhide HX _ (e19.trans (q19.below _))⟩
            have hv := unhide HV
            rw [if_neg hgi] at hv
            have HV := hide hv
            have hcr : decide ((0 : Int) < cmpI d.gas gl) = false := decide_eq_false (by unfold cmpI; split <;> (try split) <;> omega)
            generalize cmpI d.gas gl = cr at HC hcr
            clear hv hgi
            go_upto_region 24 with (go_at_call 68; refine (unhide HC).mono ?_; rintro e w19 ⟨rfl, q19⟩)
            have e20 := e19.trans (q19.below w8.heap.size)
            have c21 := (unhide HAC _ (unhide HZ _ e20)).2.1
            clear HC hcr e19 q19 b18 e18
            have HC := hide ((unhide HN2 _ (unhide HZ _ e20)).cmp ((unhide NN8).kept e20) hbb hneed)
            by_cases hgi : (lookY ds d.frm).bal < d.gas * beN (mostW d) + beN d.value
            · have HC2 : Hid (Calls Sakg.prog 68 #[.slice B2 j2 e2, .slice An kn cn] w19 fun e w' => e = .returned (.int .i8 (-1)) ∧ Quiet w19 w') := by
                have := unhide HC
                rw [show cmpI (lookY ds d.frm).bal _ = -1 from cmpI_lt hgi] at this
                exact this
              have hv := unhide HV
              rw [if_pos hgi] at hv
              have HV3 := hide hv
              clear hv hgi HC
              go_wp2_with (go_at_call 68; refine (unhide HC2).mono ?_; rintro e w20 ⟨rfl, q20⟩)
              go_ret
              exact ⟨by rw [unhide HV3]; rfl, unhide HX _ (e20.trans (q20.below _))⟩
            have hv := unhide HV
            rw [if_neg hgi] at hv
            have HV := hide hv
            have hcr : decide (cmpI (lookY ds d.frm).bal (d.gas * beN (mostW d) + beN d.value) < 0) = false := decide_eq_false (by unfold cmpI; rw [if_neg hgi]; split <;> omega)
            have HC2 : Hid (∃ cr : Int, decide (cr < 0) = false ∧ Calls Sakg.prog 68 #[.slice B2 j2 e2, .slice An kn cn] w19 fun e w' => e = .returned (.int .i8 cr) ∧ Quiet w19 w') := hide ⟨_, hcr, unhide HC⟩
            clear hv hgi HC hcr
            obtain ⟨cr, hcr, HC3⟩ := unhide HC2
            have HC := hide HC3
            clear HC3 HC2
            go_upto_region 26 with (go_at_call 68; refine (unhide HC).mono ?_; rintro e w20 ⟨rfl, q20⟩)
            have e21 := e20.trans (q20.below w8.heap.size)
            clear HC hcr e20 q20 c21
            have stip : Src w20 (some ⟨w2.heap.size + 1, 0, none⟩) 32 32 (tipW d) := src_of_range ((unhide HR8).kept e21).rangeAll ht.byt ht.len max32
            have HST := hide stip
            clear stip
            go_wp2_with fail
            refine (fromBE_any _ 32 32 (tipW d) w20 (unhide HST) (by omega)).mono ?_
            rintro e w21 ⟨Ax, kx, cx, rfl, nx, -, b21⟩
            have e22 := e21.trans (b21.mono e21.size)
            have nx' : IsNat w21 Ax kx cx (beN (tipW d)) := nx
            have HC := hide (nx'.cmp ((unhide NM8).kept e22) ht.big hm.big)
            clear nx nx'
            by_cases hgi : beN (mostW d) < beN (tipW d)
            · have HC2 : Hid (Calls Sakg.prog 68 #[.slice Ax kx cx, .slice Am km cm] w21 fun e w' => e = .returned (.int .i8 1) ∧ Quiet w21 w') := by
                have := unhide HC
                rw [show cmpI (beN (tipW d)) _ = 1 from cmpI_gt hgi] at this
                exact this
              have hv := unhide HV
              rw [if_pos hgi] at hv
              have HV3 := hide hv
              clear hv hgi HC
              go_wp2_with (go_at_call 68; refine (unhide HC2).mono ?_; rintro e w22 ⟨rfl, q22⟩)
              go_ret
              exact ⟨by rw [unhide HV3]; rfl, unhide HX _ (e22.trans (q22.below _))⟩
            have hv := unhide HV
            rw [if_neg hgi] at hv
            have HV := hide hv
            have hcr : decide ((0 : Int) < cmpI (beN (tipW d)) (beN (mostW d))) = false := decide_eq_false (by unfold cmpI; split <;> (try split) <;> omega)
            have HC2 : Hid (∃ cr : Int, decide (0 < cr) = false ∧ Calls Sakg.prog 68 #[.slice Ax kx cx, .slice Am km cm] w21 fun e w' => e = .returned (.int .i8 cr) ∧ Quiet w21 w') := hide ⟨_, hcr, unhide HC⟩
            clear hv hgi HC hcr
            obtain ⟨cr, hcr, HC3⟩ := unhide HC2
            have HC := hide HC3
            clear HC3 HC2
            go_upto_region 28 with (go_at_call 68; refine (unhide HC).mono ?_; rintro e w22 ⟨rfl, q22⟩)
            have e23 := e22.trans (q22.below w8.heap.size)
            clear HC hcr e22 q22 b21 e21 HST
            go_wp2_with fail
            refine (baseFee_any bw fee w22 (unhide HBF _ e23) hst.hfee).mono ?_
            rintro e w23 ⟨Ay, ky, cy, rfl, ny, -, b23⟩
            have e24 := e23.trans (b23.mono e23.size)
            have HC := hide (((unhide NM8).kept e24).cmp ny hm.big hst.hfee.big)
            clear ny
            by_cases hgi : beN (mostW d) < beN fee
            · have HC2 : Hid (Calls Sakg.prog 68 #[.slice Am km cm, .slice Ay ky cy] w23 fun e w' => e = .returned (.int .i8 (-1)) ∧ Quiet w23 w') := by
                have := unhide HC
                rw [show cmpI _ (beN fee) = -1 from cmpI_lt hgi] at this
                exact this
              have hv := unhide HV
              rw [if_pos hgi] at hv
              have HV3 := hide hv
              clear hv hgi HC
              go_wp2_with (go_at_call 68; refine (unhide HC2).mono ?_; rintro e w24 ⟨rfl, q24⟩)
              go_ret
              exact ⟨by rw [unhide HV3]; rfl, unhide HX _ (e24.trans (q24.below _))⟩
            have hv := unhide HV
            rw [if_neg hgi] at hv
            have HV3 := hide hv
            have hcr : decide (cmpI (beN (mostW d)) (beN fee) < 0) = false := decide_eq_false (by unfold cmpI; rw [if_neg hgi]; split <;> omega)
            have HC2 : Hid (∃ cr : Int, decide (cr < 0) = false ∧ Calls Sakg.prog 68 #[.slice Am km cm, .slice Ay ky cy] w23 fun e w' => e = .returned (.int .i8 cr) ∧ Quiet w23 w') := hide ⟨_, hcr, unhide HC⟩
            clear hv hgi HC hcr
            obtain ⟨cr, hcr, HC3⟩ := unhide HC2
            have HC := hide HC3
            clear HC3 HC2
            go_wp2_with (go_at_call 68; refine (unhide HC).mono ?_; rintro e w24 ⟨rfl, q24⟩)
            go_ret
            exact ⟨by rw [unhide HV3]; rfl, unhide HX _ (e24.trans (q24.below _))⟩

end Go.Proofs.YgcsakGreat
