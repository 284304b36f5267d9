/-
  yp: enterCall.
-/
import Derived.Test.YgcsakGreatKoD
namespace Go.Proofs.YgcsakGreat
set_option linter.unusedVariables false
set_option linter.unusedSimpArgs false
set_option maxRecDepth 100000
open Go.RowKit

section
variable {G : Nat → Prop} {bw gf : Nat} {cs fr : List Value} {d : WD} {f : FD} {r : List FD} {x : XD} {w : World} {B : Nat}
/-- what a call with value hands its child besides -/
def stipN (p : Nat) (f : FD) : Nat := if (p = 241 ∨ p = 242) ∧ argN f.stk 2 ≠ 0 then 2300 else 0
set_option maxHeartbeats 64000000 in
theorem enterCall_any (p : Nat) (hp : p = 241 ∨ p = 242 ∨ p = 244 ∨ p = 250) (h : SR G bw gf cs fr d (f :: r) x w) (hg : Good B d) (hwt : wt d + 60000 ≤ 2250000000) (hf : AnyF f) (hml : f.ml ≤ 1000000) (hgas : f.gas ≤ 1048576) (htk : takA p ≤ f.stk.length) (hin : argN f.stk (takA p - 3) ≤ 1000000) (hlive : Live d.accts f.self) (hret : x.ret = []) (hrl : r.length ≤ 900) :
    Calls Sakg.prog 215 #[.pointer (some ⟨bw, 0, none⟩), .pointer (some ⟨gf, 60 * r.length, none⟩), .int .u8 p] w (EnsK G bw B 20000 d f r x (takA p) (stipN p f) w) := by
  have hBB := big_ge
  have hPB := p256_lt
  have hP1 := p256_ge
  have hp255 : p ≤ 255 := by omega
  have hs := argN_lt hf.stk
  have hsl := hf.slen
  have htk6 : 6 ≤ takA p := by rcases hp with rfl | rfl | rfl | rfl <;> decide
  have HAR := hide (arity_any p hp255 w)
  generalize htt : takA p = tk at htk HAR htk6 hin ⊢
  generalize hff : decide (famA p ≠ 0) = fv at HAR
  generalize givA p = gv at HAR
  have hfx := h.fx
  obtain ⟨o, ho⟩ : ∃ o, o = 60 * r.length := ⟨_, rfl⟩
  rw [← ho] at hfx ⊢
  have hslf := hfx.kf.selfA
  have hsR := hfx.selfRow
  have hu := Sakg.underlying26
  have hsz := hslf.size
  obtain ⟨sf, hsf⟩ : ∃ sf, sf = f.self := ⟨_, rfl⟩
  rw [← hsf] at hslf hsz hsR hlive
  have HF := hide hfx
  have HS := hide hs
  have HSF := hide hsf
  have HSLF := hide hsR
  have HSR := hide h
  have HO := hide ho
  have HG := hide hg
  have HAF := hide hf
  have HRET := hide hret
  have HLIV := hide hlive
  have HIN := hide hin
  have hbw := h.lt
  have hgfl := h.row.lt
  have hgfb := h.ne
  have hZ20 : (bv (zeros 20)).length = 20 := by rw [bv_len, zeros_len]
  obtain ⟨cap, e9, -, hcap, hcap2⟩ := h.frames
  rw [List.length_cons] at e9 hcap
  obtain ⟨nr, hnr⟩ : ∃ nr, nr = r.length := ⟨_, rfl⟩
  obtain ⟨nf, hnf⟩ : ∃ nf, nf = r.length + 1 := ⟨_, rfl⟩
  rw [← hnf] at e9 hcap
  have enf : (nf : Int) - 1 = (nr : Int) := by omega
  have hwnr : IntKind.i64.wrap (nr : Int) = (nr : Int) := by rw [IntKind.wrap_i64]; omega
  have HNR := hide hnr
  have HNF := hide hnf
  have HHP := hide hp
  obtain ⟨n4, hn4⟩ : ∃ n4, n4 = tk - 4 := ⟨_, rfl⟩
  have en4 : (tk : Int) - 4 = (n4 : Int) := by omega
  have hwn4 : IntKind.i64.wrap (n4 : Int) = (n4 : Int) := by rw [IntKind.wrap_i64]; omega
  have HN4 := hide hn4
  have hn4l : n4 + 4 ≤ 64 := by omega
  clear h hfx hs ho hsf hsR hg hf hret htt hff e9 hnr hnf hp hlive hin hn4
  go_enter Sakg.func215, Sakg.ntmps215
  go_upto_region 1 with (go_at_call 202; refine (unhide HAR).mono ?_; rintro e w1 ⟨rfl, rfl⟩)
  have HA0 := hide ((unhide HF).arg (by omega) 0 (by omega))
  rw [show ((0 : Nat) : Int) = 0 from rfl] at HA0
  go_upto_region 2 with (go_at_call 118; refine (unhide HA0).mono ?_; rintro e w1 ⟨⟨A9, k9, c9, rfl, hn9⟩, q9⟩; have b1 : Below w.heap.size w w1 := q9.below _; have HN9 := hide hn9; clear hn9 q9)
  have hv9 := unhide HS 0
  generalize argN f.stk 0 = asked at HN9 hv9
  have HA1 := hide ((unhide HF).argAt b1 (by omega) 1 (by omega))
  rw [show ((1 : Nat) : Int) = 1 from rfl] at HA1
  have hm1 := unhide HS 1
  go_wp2_with fail
  refine (unhide HA1).mono ?_
  rintro e w2 ⟨⟨A1, k1, c1, rfl, hn1⟩, q2⟩
  have b2 : Below w1.heap.size w1 w2 := q2.below _
  have d2 : Below w.heap.size w w2 := b1.trans (b2.mono b1.size)
  have HAO := hide (addrOf_any A1 k1 c1 _ w2 (hn1.kp (ChgS.of d2)).now (by omega))
  clear hn1 q2
  go_wp2_with fail
  refine (unhide HAO).mono ?_
  rintro e w3 ⟨⟨ta, rfl, hta⟩, b3⟩
  have htz := hta.size
  have hbt : (bv ta).length = 20 := by rw [bv_len, hta.len]
  go_upto_region 3 with (first
    | ((with_reducible refine at_alloc 26 ?_); refine wpList_alloc_g (by rfl) 26 rfl (bv (zeros 20)) 20 infoAddr2 hZ20 ?_)
    | ((with_reducible refine at_store 26 ?_); refine wpList_store_whole rfl 26 (.tmp 10) (.tmp 25) rfl _ _ _ (bv ta) rfl rfl (RowT.new _ _ _) (by rw [hZ20, hbt]) htz (bv_one _) ?_; intro w4 hr4 hon4; have hbb4 := box_below hon4; clear hon4))
  have d3 : Below w.heap.size w w3 := d2.trans (b3.mono d2.size)
  have d4 : Below w.heap.size w w4 := d3.trans (hbb4.1.mono d3.size)
  have hsr4 := (unhide HSR).kept d4
  have hgtw : w.heap.size ≤ w3.heap.size := d3.size
  have HS4 := hide hsr4
  have HR4 := hide hr4
  have e4 : Below w4.heap.size w4 w4.drew := Quiet.below ⟨1, rfl⟩ _
  have HWM := hide ((hsr4.kept e4).cw.warm (unhide HG) ta hta)
  clear hsr4 hr4 hbb4
  simp only [Act.put, List.setIfInBounds_toArray, List.set_cons_zero, List.set_cons_succ]
  go_cut [] (fun wc => ∃ (cs5 : List Value) (d5 : WD), SR G bw gf cs5 fr d5 (f :: r) x wc ∧ Gr B d d5 2500 ∧ RowT 26 wc w3.heap.size (bv ta) ∧ Mv G w wc)
  case first =>
    --S1
    as_aux_lemma =>
    refine wp_region_noPanic ?_
    refine wp_region_held_drew (S := fun w' => RowT 26 w' w3.heap.size (bv ta)) (by kernel_rfl) ((unhide HR4).kept e4) (fun hHeld => ?_)
    refine held_takeD 0 (.pointer (some ⟨bw, 0, none⟩)) (some 26) (by rfl) (by rfl) (by kernel_rfl) (by kernel_rfl) (by kernel_rfl) (fun _ _ _ h => h) (.inl ⟨by rfl, fun _ _ => by rfl⟩) (hHeld) ?_
    simp only [Act.put, List.setIfInBounds_toArray, List.set_cons_zero, List.set_cons_succ]
    refine held_takeD 1 (.pointer (some ⟨bw, 0, none⟩)) (some 27) (by rfl) (by rfl) (by kernel_rfl) (by kernel_rfl) (by kernel_rfl) (fun _ _ _ h => h) (.inl ⟨by rfl, fun _ _ => by go_simp⟩) (hHeld) ?_
    simp only [Act.put, List.setIfInBounds_toArray, List.set_cons_zero, List.set_cons_succ]
    refine held_takeD 2 (.pointer (some ⟨bw, 0, none⟩)) (some 28) (by rfl) (by rfl) (by kernel_rfl) (by kernel_rfl) (by kernel_rfl) (fun _ _ _ h => h) (.inl ⟨by rfl, fun _ _ => by go_simp⟩) (hHeld) ?_
    simp only [Act.put, List.setIfInBounds_toArray, List.set_cons_zero, List.set_cons_succ]
    refine held_takeD 3 (.agg (bv ta).toArray) (some 29) (by rfl) (by rfl) (by kernel_rfl) (by kernel_rfl) (by kernel_rfl) (fun _ _ _ h => h) (yieldsIf_load_mid (by rfl) _ _ rfl _ _ rfl _ _ (fun wz hS => hS.rangeAll) hu rfl htz) (hHeld) ?_
    simp only [Act.put, List.setIfInBounds_toArray, List.set_cons_zero, List.set_cons_succ]
    refine held_one 4 (by kernel_rfl) (by rfl) (fun K' hK' => ?_)
    go_simp
    refine (unhide HWM).mono ?_
    rintro e w5 ⟨rfl, als, hal, hw5⟩
    obtain ⟨cs5, hsr5, hmv5, -, hch5⟩ := ((unhide HS4).kept e4).world hw5
    have hrow5 := hch5.row ((unhide HR4).kept e4) (show w3.heap.size ≠ bw by omega)
    refine hK'.out _ _ hrow5 ?_
    clear hK' K'
    refine wpAnyH_done (by kernel_rfl) ?_ _
    refine NoPanic.normal ?_
    have HS5 := hide hsr5
    have HR5 := hide hrow5
    have m5 : Mv G w w5 := ((Mv.of d4).trans (Mv.of e4)).trans hmv5
    clear hw5 hsr5 hrow5 hch5
    go_wp2_with fail
    go_meet
    case rel => exact ⟨cs5, _, unhide HS5, Gr.warm (unhide HG).snd hal, unhide HR5, m5⟩
    --E1
  case rest =>
  as_aux_lemma =>
  obtain ⟨w5, hw5⟩ : ∃ w5, w5 = wc := ⟨_, rfl⟩
  subst hw5
  obtain ⟨cs5, d5, hsr5, hgr5, hr5, m5⟩ := hcut
  have hg5 : Good B d5 := hgr5.good (K := 2250000000) (by omega) (by omega)
  have hwt5 : wt d5 + 50000 ≤ 2250000000 := by have := hgr5.wtle; omega
  have HL5 := hide (hgr5.live _ (unhide HLIV))
  obtain ⟨gt, hgt⟩ : ∃ gt, gt = w3.heap.size := ⟨_, rfl⟩
  have HGT := hide hgt
  obtain ⟨cap5, e95, -, hcap5, -⟩ := hsr5.frames
  rw [List.length_cons, ← unhide HNF] at e95 hcap5
  have HE9 := hide e95
  have HS5 := hide hsr5
  have HR5 := hide hr5
  have HG5 := hide hgr5
  have HN95 := hide ((unhide HN9).kp m5.chg)
  have hg3l : w3.heap.size < w5.heap.size := hr5.lt
  clear hsr5 hr5 hgr5 e95 hgt
  go_upto_region 5 with fail
  go_cut [36] (fun s36 wc => (∃ b, s36 = .bool b ∧ (b = true → p = 241 ∨ p = 242)) ∧ wc = w5)
  case first =>
    --S2
    as_aux_lemma =>
    by_cases h1 : p = 241
    case pos =>
      have t1 : ((p : Int) == 241) = true := by rw [beq_iff_eq]; omega
      have H1 := hide h1
      clear h1
      go_wp2_with fail
      go_meet
      case rel => exact ⟨⟨_, rfl, fun _ => .inl (unhide H1)⟩, rfl⟩
    case neg =>
      have t1 : ((p : Int) == 241) = false := by rw [beq_eq_false_iff_ne]; omega
      by_cases h2 : p = 242
      case pos =>
        have t2 : ((p : Int) == 242) = true := by rw [beq_iff_eq]; omega
        have H2 := hide h2
        clear h2
        go_wp2_with fail
        go_meet
        case rel => exact ⟨⟨_, rfl, fun _ => .inr (unhide H2)⟩, rfl⟩
      case neg =>
        have t2 : ((p : Int) == 242) = false := by rw [beq_eq_false_iff_ne]; omega
        go_wp2_with fail
        go_meet
        case rel => exact ⟨⟨_, rfl, fun hh => by cases hh⟩, rfl⟩
    --E2
  case rest =>
  obtain ⟨⟨b36, rfl, hb36⟩, hwe⟩ := hcut
  subst hwe
  obtain ⟨w5, hw5⟩ : ∃ w5, w5 = wc := ⟨_, rfl⟩
  subst hw5
  have hfx5 := (unhide HS5).fx
  rw [← unhide HO] at hfx5
  have HA2 := hide (hfx5.arg (by omega) 2 (by omega))
  rw [show ((2 : Nat) : Int) = 2 from rfl] at HA2
  have hm2 := unhide HS 2
  have HFX5 := hide hfx5
  clear hfx5
  go_upto_if 36 with fail
  go_cut [11] (fun s11 wc => ∃ (A : Option Addr) (k c v : Nat), s11 = .slice A k c ∧ KNat G wc A k c v ∧ v < P256 ∧ (v ≠ 0 → (p = 241 ∨ p = 242) ∧ argN f.stk 2 = v) ∧ Below w5.heap.size w5 wc)
  case first =>
    --S3
    as_aux_lemma =>
    cases b36 with
    | false =>
      go_wp2_with fail
      go_meet
      case rel => exact ⟨none, 0, 0, 0, rfl, KNat.nil G _, by omega, fun hh => absurd rfl hh, Below.refl _ _⟩
    | true =>
      go_wp2_with (go_at_call 118; refine (unhide HA2).mono ?_; rintro e w6 ⟨⟨A6, k6, c6, rfl, hn6⟩, q6⟩; have b6 : Below w5.heap.size w5 w6 := q6.below _; have HN6 := hide (hn6.kp (ChgS.of b6)); clear hn6 q6)
      go_meet
      case rel => exact ⟨A6, k6, c6, _, rfl, unhide HN6, hm2, fun _ => ⟨hb36 (by trivial), rfl⟩, b6⟩
    --E3
  case rest =>
  as_aux_lemma =>
  obtain ⟨w6, hw6⟩ : ∃ w6, w6 = wc := ⟨_, rfl⟩
  subst hw6
  obtain ⟨Av, kv, cv, v, rfl, hkv, hvP, hvs, b6⟩ := hcut
  have HKV := hide hkv
  have HVS := hide hvs
  have hsr6 := (unhide HS5).kept b6
  have HS6 := hide hsr6
  have hr6 := (unhide HR5).kept b6
  have HR6 := hide hr6
  have e6 : Below w6.heap.size w6 w6.drew := Quiet.below ⟨1, rfl⟩ _
  have hst : ∀ wz, Below w6.heap.size w6 wz → wz.cell? ⟨gf, o + 2, none⟩ = some (.bool f.static) := fun wz hz => by
    have hq := hsr6.fx
    rw [← unhide HO] at hq
    exact (hq.kept hz).cell hq.kf.static
  have hrr : ∀ wz, Below w6.heap.size w6 wz → wz.rangeAt gf (o + 12) (bv sf) ∧ wz.rangeAt w3.heap.size 0 (bv ta) := fun wz hz => ⟨unhide HSLF wz (hsr6.row.kept hz), (hr6.kept hz).rangeAll⟩
  have HST := hide hst
  have HRR := hide hrr
  have HNO : ∀ wz, Below w6.heap.size w6 wz → Hid (Calls Sakg.prog 90 #[.slice Av kv cv] wz (MakesNat wz v)) := fun wz hz => hide (norm_knat Av kv cv v wz (hkv.kp (ChgS.of hz)).now (by omega))
  have hT : Ther G w6 := hsr6.cw.ther
  clear hkv hvs hsr6 hr6 hst hrr
  go_upto_region 8 with fail
  go_cut [13] (fun s13 wc => ∃ (gb : Nat) (AN : Option Addr) (kN cN : Nat), s13 = .pointer (some ⟨gb, 0, none⟩) ∧ RowT 194 wc gb (rowOf (cells12 2 f.static (.slice AN kN cN) (.slice none 0 0)) ta sf) ∧ KNat (Plus G gb) wc AN kN cN v ∧ Below w6.heap.size w6 wc ∧ w6.heap.size ≤ gb)
  case first =>
    --S4
    as_aux_lemma =>
    refine wp_region_noPanic ?_
    refine wp_region_held_drew (S := fun w' => Below w6.heap.size w6 w') (by kernel_rfl) (e6) (fun hHeld => ?_)
    refine held_takeD 0 (.pointer (some ⟨gf, o, none⟩)) (some 41) (by rfl) (by rfl) (by kernel_rfl) (by kernel_rfl) (by kernel_rfl) (fun _ _ _ h => h) (.inl ⟨by rfl, fun _ _ => by rfl⟩) (hHeld) ?_
    simp only [Act.put, List.setIfInBounds_toArray, List.set_cons_zero, List.set_cons_succ]
    refine held_takeD 1 (.pointer (some ⟨gf, o, none⟩)) (some 42) (by rfl) (by rfl) (by kernel_rfl) (by kernel_rfl) (by kernel_rfl) (fun _ _ _ h => h) (.inl ⟨by rfl, fun _ _ => by go_simp⟩) (hHeld) ?_
    simp only [Act.put, List.setIfInBounds_toArray, List.set_cons_zero, List.set_cons_succ]
    refine held_takeD 2 (.pointer (some ⟨gf, o + 2, none⟩)) (some 43) (by rfl) (by rfl) (by kernel_rfl) (by kernel_rfl) (by kernel_rfl) (fun _ _ _ h => h) (.inl ⟨by rfl, fun _ _ => by go_simp⟩) (hHeld) ?_
    simp only [Act.put, List.setIfInBounds_toArray, List.set_cons_zero, List.set_cons_succ]
    refine held_takeD 3 (.bool f.static) (some 44) (by rfl) (by rfl) (by kernel_rfl) (by kernel_rfl) (by kernel_rfl) (fun _ _ _ h => h) (.inl ⟨by rfl, fun wS hS => by have hc := unhide HST wS hS; go_simp⟩) (hHeld) ?_
    simp only [Act.put, List.setIfInBounds_toArray, List.set_cons_zero, List.set_cons_succ]
    refine held_takeD 4 (.slice Av kv cv) (some 45) (by rfl) (by rfl) (by kernel_rfl) (by kernel_rfl) (by kernel_rfl) (fun _ _ _ h => h) (.inl ⟨by rfl, fun _ _ => by rfl⟩) (hHeld) ?_
    simp only [Act.put, List.setIfInBounds_toArray, List.set_cons_zero, List.set_cons_succ]
    refine held_takeD 6 (.agg (bv ta).toArray) (some 47) (by rfl) (by rfl) (by kernel_rfl) (by kernel_rfl) (by kernel_rfl) (fun _ _ _ h => h) (yieldsIf_load_mid (by rfl) _ _ rfl _ _ rfl _ _ (fun wz hS => (unhide HRR wz hS).2) hu rfl htz) (hHeld) ?_
    simp only [Act.put, List.setIfInBounds_toArray, List.set_cons_zero, List.set_cons_succ]
    refine held_takeD 7 (.pointer (some ⟨gf, o, none⟩)) (some 48) (by rfl) (by rfl) (by kernel_rfl) (by kernel_rfl) (by kernel_rfl) (fun _ _ _ h => h) (.inl ⟨by rfl, fun _ _ => by rfl⟩) (hHeld) ?_
    simp only [Act.put, List.setIfInBounds_toArray, List.set_cons_zero, List.set_cons_succ]
    refine held_takeD 8 (.pointer (some ⟨gf, o, none⟩)) (some 49) (by rfl) (by rfl) (by kernel_rfl) (by kernel_rfl) (by kernel_rfl) (fun _ _ _ h => h) (.inl ⟨by rfl, fun _ _ => by go_simp⟩) (hHeld) ?_
    simp only [Act.put, List.setIfInBounds_toArray, List.set_cons_zero, List.set_cons_succ]
    refine held_takeD 9 (.pointer (some ⟨gf, o + 12, none⟩)) (some 50) (by rfl) (by rfl) (by kernel_rfl) (by kernel_rfl) (by kernel_rfl) (fun _ _ _ h => h) (.inl ⟨by rfl, fun _ _ => by go_simp⟩) (hHeld) ?_
    simp only [Act.put, List.setIfInBounds_toArray, List.set_cons_zero, List.set_cons_succ]
    refine held_takeD 10 (.agg (bv sf).toArray) (some 51) (by rfl) (by rfl) (by kernel_rfl) (by kernel_rfl) (by kernel_rfl) (fun _ _ _ h => h) (yieldsIf_load_mid (by rfl) _ _ rfl _ _ rfl _ _ (fun wz hS => (unhide HRR wz hS).1) hu rfl hsz) (hHeld) ?_
    simp only [Act.put, List.setIfInBounds_toArray, List.set_cons_zero, List.set_cons_succ]
    refine held_two 5 12 (by kernel_rfl) (by rfl) (by rfl) (fun K' hK' => ?_) (fun K' hK' => ?_)
    · go_simp
      refine (unhide (HNO _ e6)).mono ?_
      rintro e wN ⟨AN, kN, cN, rfl, nN, NnN, bN⟩
      have dN := e6.trans (bN.mono e6.size)
      refine hK'.out _ _ (dN) ?_
      clear hK' K'
      refine held_takeD 11 (.agg (rowOf (cells12 2 f.static (.slice AN kN cN) (.slice none 0 0)) ta sf).toArray) (some 52) (by rfl) (by rfl) (by kernel_rfl) (by kernel_rfl) (by kernel_rfl) (fun _ _ _ h => h) (yieldsIf_build (by rfl) 194 [(0, .const (.int .u8 2)), (2, .tmp 44), (5, .tmp 46), (12, .tmp 47), (13, .tmp 51)] rfl _ (fun wx => run_call wx AN kN cN f.static ta sf hta hslf)) (dN) ?_
      simp only [Act.put, List.setIfInBounds_toArray, List.set_cons_zero, List.set_cons_succ]
      refine held_one 12 (by kernel_rfl) (by rfl) (fun K' hK' => ?_)
      refine if_alloc (some 13) rfl 194 rfl (by rfl) zeroF 60 infoFrame2 zeroF_len (fun wA rA bA sA => ?_)
      have dA := dN.trans (bA.mono dN.size)
      refine hK'.out _ _ (dA) ?_
      clear hK' K'
      simp only [Act.put, List.setIfInBounds_toArray, List.set_cons_zero, List.set_cons_succ]
      refine held_one 13 (by kernel_rfl) (by rfl) (fun K' hK' => ?_)
      refine if_store rfl (by rfl) 194 (.tmp 13) (.tmp 52) rfl wN.heap.size 0 194 _ (rowOf (cells12 2 f.static (.slice AN kN cN) (.slice none 0 0)) ta sf) rfl rfl rA (by rw [rowOf_len rfl hta hslf, zeroF_len]; omega) (by rw [rowOf_len rfl hta hslf]; exact sizeFrame) (row_one rfl (by simp [cells12, Value.oneCell'])) (fun wS rS oS => ?_)
      have dS : Below w6.heap.size w6 wS := dA.trans (oS.below _ (by have := e6.size; have := dN.size; have := dA.size; first | exact Nat.le_refl _ | omega))
      refine hK'.out _ _ (dS) ?_
      clear hK' K'
      refine wpAnyH_done (by kernel_rfl) ?_ _
      refine NoPanic.normal ?_
      rw [spl_all _ _ (by rw [rowOf_len rfl hta hslf, zeroF_len])] at rS
      have zU : w6.drew.heap.size = w6.heap.size := rfl
      have zN := bN.size
      have zA := bA.size
      have hkN : KNat (Plus G (wN.heap.size)) wS AN kN cN v := knat_box nN NnN (hT.go e6.size) (by omega) ((ChgS.of (G := Plus G (wN.heap.size)) bA).trans (ChgS.only oS (.inr rfl)))
      have HKN := hide hkN
      have HRS := hide rS
      clear hkN rS nN rA
      go_wp2_with fail
      go_meet
      exact ⟨_, AN, kN, cN, rfl, unhide HRS, unhide HKN, dS, by omega⟩
    · refine if_alloc (some 13) rfl 194 rfl (by rfl) zeroF 60 infoFrame2 zeroF_len (fun wA rA bA sA => ?_)
      have dA := e6.trans (bA.mono e6.size)
      refine hK'.out _ _ (dA) ?_
      clear hK' K'
      simp only [Act.put, List.setIfInBounds_toArray, List.set_cons_zero, List.set_cons_succ]
      refine held_one 5 (by kernel_rfl) (by rfl) (fun K' hK' => ?_)
      go_simp
      refine (unhide (HNO _ dA)).mono ?_
      rintro e wN ⟨AN, kN, cN, rfl, nN, NnN, bN⟩
      have dN := dA.trans (bN.mono dA.size)
      refine hK'.out _ _ (dN) ?_
      clear hK' K'
      refine held_takeD 11 (.agg (rowOf (cells12 2 f.static (.slice AN kN cN) (.slice none 0 0)) ta sf).toArray) (some 52) (by rfl) (by rfl) (by kernel_rfl) (by kernel_rfl) (by kernel_rfl) (fun _ _ _ h => h) (yieldsIf_build (by rfl) 194 [(0, .const (.int .u8 2)), (2, .tmp 44), (5, .tmp 46), (12, .tmp 47), (13, .tmp 51)] rfl _ (fun wx => run_call wx AN kN cN f.static ta sf hta hslf)) (dN) ?_
      simp only [Act.put, List.setIfInBounds_toArray, List.set_cons_zero, List.set_cons_succ]
      refine held_one 13 (by kernel_rfl) (by rfl) (fun K' hK' => ?_)
      refine if_store rfl (by rfl) 194 (.tmp 13) (.tmp 52) rfl w6.drew.heap.size 0 194 _ (rowOf (cells12 2 f.static (.slice AN kN cN) (.slice none 0 0)) ta sf) rfl rfl (rA.kept bN) (by rw [rowOf_len rfl hta hslf, zeroF_len]; omega) (by rw [rowOf_len rfl hta hslf]; exact sizeFrame) (row_one rfl (by simp [cells12, Value.oneCell'])) (fun wS rS oS => ?_)
      have dS : Below w6.heap.size w6 wS := dN.trans (oS.below _ (by have := e6.size; have := dA.size; have := dN.size; first | exact Nat.le_refl _ | omega))
      refine hK'.out _ _ (dS) ?_
      clear hK' K'
      refine wpAnyH_done (by kernel_rfl) ?_ _
      refine NoPanic.normal ?_
      rw [spl_all _ _ (by rw [rowOf_len rfl hta hslf, zeroF_len])] at rS
      have zU : w6.drew.heap.size = w6.heap.size := rfl
      have zA := bA.size
      have zN := bN.size
      have hkN : KNat (Plus G (w6.drew.heap.size)) wS AN kN cN v := knat_box nN NnN (hT.go dA.size) (by omega) (ChgS.only oS (.inr rfl))
      have HKN := hide hkN
      have HRS := hide rS
      clear hkN rS nN rA
      go_wp2_with fail
      go_meet
      exact ⟨_, AN, kN, cN, rfl, unhide HRS, unhide HKN, dS, by omega⟩
    --E4
  case rest =>
  as_aux_lemma =>
  obtain ⟨w8, hw8⟩ : ∃ w8, w8 = wc := ⟨_, rfl⟩
  subst hw8
  obtain ⟨gb, AN, kN, cN, rfl, hrb, hkN, d8, hgb⟩ := hcut
  obtain ⟨E, hE⟩ : ∃ E, E = Plus G gb := ⟨_, rfl⟩
  have hEG : ∀ i, E i → i < w6.heap.size → G i := by rw [hE]; exact plus_new hgb
  have hGE : ∀ i, G i → E i := fun i hi => by rw [hE]; exact .inl hi
  have hEb : E gb := by rw [hE]; exact .inr rfl
  have hTE : Ther E w8 := by rw [hE]; exact (hT.go d8.size).plus hrb.lt
  rw [← hE] at hkN
  have z56 := b6.size
  have hEt : ¬ E w3.heap.size := fun hh => by
    have h1 := (unhide HSR).cw.ther _ (hEG _ hh (by omega))
    omega
  have hsr8 := (unhide HS6).lift d8 hEG hGE hTE
  obtain ⟨fb, hfb⟩ : ∃ fb, fb = rowOf (cells12 2 f.static (.slice AN kN cN) (.slice none 0 0)) ta sf := ⟨_, rfl⟩
  have hfbl : fb.length = 60 := by rw [hfb]; exact rowOf_len rfl hta hslf
  have hfx8 : FX E gb 0 fb (childF 2 f.static v [] ta sf) w8 := by
    rw [← hfb] at hrb
    refine ⟨hrb, by omega, hEb, hTE, ?_⟩
    have hk := KF.child 2 f.static hkN (KSrc.nil E w8) hta hslf
    rw [← hfb] at hk
    exact hk.eq (fun i hi => by unfold cellsAt; rw [Nat.zero_add])
  have hrt8 := (unhide HR6).kept d8
  have hmsz := m5.size
  have hgbf : gb ≠ gf := by omega
  have hgbb : gb ≠ bw := by omega
  have hgbt : gb ≠ w3.heap.size := by omega
  have m08 : Mv G w w8 := (m5.trans (Mv.of b6)).trans (Mv.of d8)
  have hwid : ∀ (G' : Nat → Prop) (wz : World), Wider E G' wz → w8.heap.size ≤ wz.heap.size → Wider G G' w := fun G' wz hh hz => ⟨fun i hi => hh.sub i (hGE i hi), fun i hi hl => by
    have z8 := d8.size
    exact hEG i (hh.new i hi (by omega)) (by omega)⟩
  have hmv : ∀ wz, Mv E w8 wz → Mv G w wz := fun wz hh => m08.then hh (fun i hi hl => hEG i hi (by omega))
  have hxr : ({ x with ret := [] } : XD) = x := by have := unhide HRET; cases x; simp_all
  have HXR := hide hxr
  have HWID := hide hwid
  have HMV := hide hmv
  have HSR8 := hide hsr8
  have HFX8 := hide hfx8
  have HRT8 := hide hrt8
  have HKV8 := hide (StabS.kp (StabS.to (unhide HKV) hEG) (ChgS.of (G := E) d8))
  have HN98 := hide (StabS.kp (StabS.to (unhide HN95) (fun i hi hl => hEG i hi (by omega))) (ChgS.of (G := E) (b6.trans (d8.mono b6.size))))
  clear hE hEG hGE hTE hrb hkN hsr8 hfb hfx8 hrt8 hwid hmv hxr
  go_upto_block 0 with fail
  go_cut [] (fun wc => ∃ (fb9 : List Value) (kd : Nat) (st : Bool) (vv : Nat) (sl cl : List Int), FX E gb 0 fb9 (childF kd st vv [] sl cl) wc ∧ fb9.length = 60 ∧ kd ≤ 7 ∧ vv < P256 ∧ (sl = ta ∨ sl = sf) ∧ SR E bw gf cs5 fr d5 (f :: r) x wc ∧ RowT 26 wc w3.heap.size (bv ta) ∧ Mv E w8 wc)
  case first =>
    --S5
    as_aux_lemma =>
    obtain ⟨Aw, kw, cw, v1, v2⟩ : ∃ A k n, cellsAt fr o 5 = some (.slice A k n) ∧ KNat E w8 A k n f.value := by
      have hq := (unhide HSR8).fx
      rw [← unhide HO] at hq
      exact hq.kf.value
    have hcal : IsAddr f.caller := by
      have hq := (unhide HSR8).fx
      exact hq.kf.callerA
    have hslR : ∀ wz, RowT 194 wz gf fr → wz.rangeAt gf (o + 12) (bv sf) := fun wz hz => unhide HSLF wz hz
    have hclR : ∀ wz, RowT 194 wz gf fr → wz.rangeAt gf (o + 32) (bv f.caller) := fun wz hz => row_range hz (by rw [bv_len, hcal.len]) (fun i hi => by
      have hq := (unhide HSR8).fx
      rw [← unhide HO] at hq
      have := hq.kf.caller i hi
      unfold cellsAt at this
      rw [show o + 32 + i = o + (32 + i) by omega]
      exact this)
    have hcz := hcal.size
    have hle12 : ∀ (q : List Value), q.length = 60 → 12 + (bv sf).length ≤ q.length := fun q hq => by rw [bv_len, hslf.len, hq]; omega
    have hle32 : ∀ (q : List Value), q.length = 60 → 32 + (bv f.caller).length ≤ q.length := fun q hq => by rw [bv_len, hcal.len, hq]; omega
    have hfvP := (unhide HAF).value
    rcases unhide HHP with hp | hp | hp | hp
    · have t2 : ((p : Int) == 242) = false := by rw [beq_eq_false_iff_ne]; omega
      have t4 : ((p : Int) == 244) = false := by rw [beq_eq_false_iff_ne]; omega
      have t5 : ((p : Int) == 250) = false := by rw [beq_eq_false_iff_ne]; omega
      clear hp
      go_wp2_with fail
      go_meet
      case rel => exact ⟨fb, 2, f.static, v, ta, sf, unhide HFX8, hfbl, by omega, hvP, .inl rfl, unhide HSR8, unhide HRT8, Mv.refl _ _⟩
    · have t2 : ((p : Int) == 242) = true := by rw [beq_iff_eq]; omega
      have t4 : ((p : Int) == 244) = false := by rw [beq_eq_false_iff_ne]; omega
      have t5 : ((p : Int) == 250) = false := by rw [beq_eq_false_iff_ne]; omega
      clear hp
      have hfl8 := hfbl
      have m8 : Mv E w8 w8 := Mv.refl _ _
      obtain ⟨vx8, hx8⟩ : ∃ v, w8.cell? ⟨gb, 0, none⟩ = some v := by
        obtain ⟨v, hv⟩ := (unhide HFX8).ex (i := 0) (by omega)
        exact ⟨v, by rw [Nat.zero_add] at hv; exact hv⟩
      have hf8 := (unhide HFX8).row.froz 0
      have hfx9 := (unhide HFX8).put (j := 0) (by omega) ((unhide HFX8).kf.setKind 7)
      rw [Nat.zero_add, show ((7 : Nat) : Int) = 7 from rfl] at hfx9
      have ho9 : Only gb w8 (w8.setCell ⟨gb, 0, none⟩ (.int .u8 7)) := (Only.refl _ _).setCell _ _
      obtain ⟨w9, hw9⟩ : ∃ y, y = w8.setCell ⟨gb, 0, none⟩ (.int .u8 7) := ⟨_, rfl⟩
      rw [← hw9] at hfx9 ho9
      have hfl9 : (fb.set 0 (.int .u8 7)).length = 60 := by rw [List.length_set]; exact hfl8
      generalize fb.set 0 (.int .u8 7) = fb9 at hfx9 hfl9
      have hsr9 := (unhide HSR8).off (Chg.ofOnly ho9) hEb (unhide HFX8).row hgbb hgbf
      have hrt9 := (Chg.ofOnly ho9).row (unhide HRT8) (Ne.symm hgbt)
      have m9 : Mv E w8 w9 := m8.trans (Mv.frame (unhide HFX8).row hEb (Chg.ofOnly ho9))
      have HFX9 := hide hfx9
      have HSR9 := hide hsr9
      have HRT9 := hide hrt9
      have HW9 := hide hw9
      clear hfx9 hsr9 hrt9 hw9 ho9
      go_upto_region 12 with fail
      rw [← unhide HW9]
      clear hx8 hf8
      have hrgA9 := hslR w9 (unhide HSR9).row
      have hleA9 := hle12 fb9 hfl9
      go_wp2_with (first | ((with_reducible refine at_load 26 ?_); refine wpList_load_g rfl 26 (.tmp 59) rfl gf (o + 12) rfl (bv sf) _ hrgA9 Sakg.underlying26 rfl hsz ?_) | ((with_reducible refine at_store 26 ?_); refine wpList_store_part rfl 26 (.tmp 61) (.tmp 60) rfl gb 12 194 fb9 (bv sf) rfl rfl (unhide HFX9).row hleA9 hsz (bv_one _) ?_; intro w10 hr10 ho10))
      have hfx10 := (unhide HFX9).self hfl9 hslf hr10 (Chg.ofOnly ho10)
      have hfl10 : (spl fb9 12 (bv sf)).length = 60 := by rw [spl_len _ _ _ hleA9]; exact hfl9
      generalize spl fb9 12 (bv sf) = fb10 at hfx10 hfl10 hr10
      have hsr10 := (unhide HSR9).off (Chg.ofOnly ho10) hEb (unhide HFX9).row hgbb hgbf
      have hrt10 := (Chg.ofOnly ho10).row (unhide HRT9) (Ne.symm hgbt)
      have m10 : Mv E w8 w10 := m9.trans (Mv.frame (unhide HFX9).row hEb (Chg.ofOnly ho10))
      have HFX10 := hide hfx10
      have HSR10 := hide hsr10
      have HRT10 := hide hrt10
      clear hfx10 hsr10 hrt10 ho10 hr10
      go_meet
      case rel => exact ⟨_, 7, f.static, v, sf, sf, unhide HFX10, hfl10, by omega, hvP, .inr rfl, unhide HSR10, unhide HRT10, m10⟩
    · have t2 : ((p : Int) == 242) = false := by rw [beq_eq_false_iff_ne]; omega
      have t4 : ((p : Int) == 244) = true := by rw [beq_iff_eq]; omega
      have t5 : ((p : Int) == 250) = false := by rw [beq_eq_false_iff_ne]; omega
      clear hp
      have hfl8 := hfbl
      have m8 : Mv E w8 w8 := Mv.refl _ _
      obtain ⟨vx8, hx8⟩ : ∃ v, w8.cell? ⟨gb, 0, none⟩ = some v := by
        obtain ⟨v, hv⟩ := (unhide HFX8).ex (i := 0) (by omega)
        exact ⟨v, by rw [Nat.zero_add] at hv; exact hv⟩
      have hf8 := (unhide HFX8).row.froz 0
      have hfx9 := (unhide HFX8).put (j := 0) (by omega) ((unhide HFX8).kf.setKind 3)
      rw [Nat.zero_add, show ((3 : Nat) : Int) = 3 from rfl] at hfx9
      have ho9 : Only gb w8 (w8.setCell ⟨gb, 0, none⟩ (.int .u8 3)) := (Only.refl _ _).setCell _ _
      obtain ⟨w9, hw9⟩ : ∃ y, y = w8.setCell ⟨gb, 0, none⟩ (.int .u8 3) := ⟨_, rfl⟩
      rw [← hw9] at hfx9 ho9
      have hfl9 : (fb.set 0 (.int .u8 3)).length = 60 := by rw [List.length_set]; exact hfl8
      generalize fb.set 0 (.int .u8 3) = fb9 at hfx9 hfl9
      have hsr9 := (unhide HSR8).off (Chg.ofOnly ho9) hEb (unhide HFX8).row hgbb hgbf
      have hrt9 := (Chg.ofOnly ho9).row (unhide HRT8) (Ne.symm hgbt)
      have m9 : Mv E w8 w9 := m8.trans (Mv.frame (unhide HFX8).row hEb (Chg.ofOnly ho9))
      have HFX9 := hide hfx9
      have HSR9 := hide hsr9
      have HRT9 := hide hrt9
      have HW9 := hide hw9
      clear hfx9 hsr9 hrt9 hw9 ho9
      go_upto_region 15 with fail
      rw [← unhide HW9]
      clear hx8 hf8
      have c59 : w9.cell? ⟨gf, o + 5, none⟩ = some (.slice Aw kw cw) := by
        rw [(unhide HSR9).row.cell]
        exact v1
      obtain ⟨vx9, hx9⟩ : ∃ v, w9.cell? ⟨gb, 5, none⟩ = some v := by
        obtain ⟨v, hv⟩ := (unhide HFX9).ex (i := 5) (by omega)
        exact ⟨v, by rw [Nat.zero_add] at hv; exact hv⟩
      have hf9 := (unhide HFX9).row.froz 5
      have hfx10 := (unhide HFX9).put (j := 5) (by omega) ((unhide HFX9).kf.setValue (v2.kp m9.chg))
      rw [Nat.zero_add] at hfx10
      have ho10 : Only gb w9 (w9.setCell ⟨gb, 5, none⟩ (.slice Aw kw cw)) := (Only.refl _ _).setCell _ _
      obtain ⟨w10, hw10⟩ : ∃ y, y = w9.setCell ⟨gb, 5, none⟩ (.slice Aw kw cw) := ⟨_, rfl⟩
      rw [← hw10] at hfx10 ho10
      have hfl10 : (fb9.set 5 (.slice Aw kw cw)).length = 60 := by rw [List.length_set]; exact hfl9
      generalize fb9.set 5 (.slice Aw kw cw) = fb10 at hfx10 hfl10
      have hsr10 := (unhide HSR9).off (Chg.ofOnly ho10) hEb (unhide HFX9).row hgbb hgbf
      have hrt10 := (Chg.ofOnly ho10).row (unhide HRT9) (Ne.symm hgbt)
      have m10 : Mv E w8 w10 := m9.trans (Mv.frame (unhide HFX9).row hEb (Chg.ofOnly ho10))
      have HFX10 := hide hfx10
      have HSR10 := hide hsr10
      have HRT10 := hide hrt10
      have HW10 := hide hw10
      clear hfx10 hsr10 hrt10 hw10 ho10
      go_upto_region 16 with fail
      rw [← unhide HW10]
      clear hx9 hf9
      have hrgA10 := hslR w10 (unhide HSR10).row
      have hleA10 := hle12 fb10 hfl10
      go_upto_region 17 with (first | ((with_reducible refine at_load 26 ?_); refine wpList_load_g rfl 26 (.tmp 72) rfl gf (o + 12) rfl (bv sf) _ hrgA10 Sakg.underlying26 rfl hsz ?_) | ((with_reducible refine at_store 26 ?_); refine wpList_store_part rfl 26 (.tmp 74) (.tmp 73) rfl gb 12 194 fb10 (bv sf) rfl rfl (unhide HFX10).row hleA10 hsz (bv_one _) ?_; intro w11 hr11 ho11))
      have hfx11 := (unhide HFX10).self hfl10 hslf hr11 (Chg.ofOnly ho11)
      have hfl11 : (spl fb10 12 (bv sf)).length = 60 := by rw [spl_len _ _ _ hleA10]; exact hfl10
      generalize spl fb10 12 (bv sf) = fb11 at hfx11 hfl11 hr11
      have hsr11 := (unhide HSR10).off (Chg.ofOnly ho11) hEb (unhide HFX10).row hgbb hgbf
      have hrt11 := (Chg.ofOnly ho11).row (unhide HRT10) (Ne.symm hgbt)
      have m11 : Mv E w8 w11 := m10.trans (Mv.frame (unhide HFX10).row hEb (Chg.ofOnly ho11))
      have HFX11 := hide hfx11
      have HSR11 := hide hsr11
      have HRT11 := hide hrt11
      clear hfx11 hsr11 hrt11 ho11 hr11
      have hrgA11 := hclR w11 (unhide HSR11).row
      have hleA11 := hle32 fb11 hfl11
      go_wp2_with (first | ((with_reducible refine at_load 26 ?_); refine wpList_load_g rfl 26 (.tmp 77) rfl gf (o + 32) rfl (bv f.caller) _ hrgA11 Sakg.underlying26 rfl hcz ?_) | ((with_reducible refine at_store 26 ?_); refine wpList_store_part rfl 26 (.tmp 79) (.tmp 78) rfl gb 32 194 fb11 (bv f.caller) rfl rfl (unhide HFX11).row hleA11 hcz (bv_one _) ?_; intro w12 hr12 ho12))
      have hfx12 := (unhide HFX11).caller hfl11 hcal hr12 (Chg.ofOnly ho12)
      have hfl12 : (spl fb11 32 (bv f.caller)).length = 60 := by rw [spl_len _ _ _ hleA11]; exact hfl11
      generalize spl fb11 32 (bv f.caller) = fb12 at hfx12 hfl12 hr12
      have hsr12 := (unhide HSR11).off (Chg.ofOnly ho12) hEb (unhide HFX11).row hgbb hgbf
      have hrt12 := (Chg.ofOnly ho12).row (unhide HRT11) (Ne.symm hgbt)
      have m12 : Mv E w8 w12 := m11.trans (Mv.frame (unhide HFX11).row hEb (Chg.ofOnly ho12))
      have HFX12 := hide hfx12
      have HSR12 := hide hsr12
      have HRT12 := hide hrt12
      clear hfx12 hsr12 hrt12 ho12 hr12
      go_meet
      case rel => exact ⟨_, 3, f.static, f.value, sf, f.caller, unhide HFX12, hfl12, by omega, hfvP, .inr rfl, unhide HSR12, unhide HRT12, m12⟩
    · have t2 : ((p : Int) == 242) = false := by rw [beq_eq_false_iff_ne]; omega
      have t4 : ((p : Int) == 244) = false := by rw [beq_eq_false_iff_ne]; omega
      have t5 : ((p : Int) == 250) = true := by rw [beq_iff_eq]; omega
      clear hp
      have hfl8 := hfbl
      have m8 : Mv E w8 w8 := Mv.refl _ _
      obtain ⟨vx8, hx8⟩ : ∃ v, w8.cell? ⟨gb, 0, none⟩ = some v := by
        obtain ⟨v, hv⟩ := (unhide HFX8).ex (i := 0) (by omega)
        exact ⟨v, by rw [Nat.zero_add] at hv; exact hv⟩
      have hf8 := (unhide HFX8).row.froz 0
      have hfx9 := (unhide HFX8).put (j := 0) (by omega) ((unhide HFX8).kf.setKind 4)
      rw [Nat.zero_add, show ((4 : Nat) : Int) = 4 from rfl] at hfx9
      have ho9 : Only gb w8 (w8.setCell ⟨gb, 0, none⟩ (.int .u8 4)) := (Only.refl _ _).setCell _ _
      obtain ⟨w9, hw9⟩ : ∃ y, y = w8.setCell ⟨gb, 0, none⟩ (.int .u8 4) := ⟨_, rfl⟩
      rw [← hw9] at hfx9 ho9
      have hfl9 : (fb.set 0 (.int .u8 4)).length = 60 := by rw [List.length_set]; exact hfl8
      generalize fb.set 0 (.int .u8 4) = fb9 at hfx9 hfl9
      have hsr9 := (unhide HSR8).off (Chg.ofOnly ho9) hEb (unhide HFX8).row hgbb hgbf
      have hrt9 := (Chg.ofOnly ho9).row (unhide HRT8) (Ne.symm hgbt)
      have m9 : Mv E w8 w9 := m8.trans (Mv.frame (unhide HFX8).row hEb (Chg.ofOnly ho9))
      have HFX9 := hide hfx9
      have HSR9 := hide hsr9
      have HRT9 := hide hrt9
      have HW9 := hide hw9
      clear hfx9 hsr9 hrt9 hw9 ho9
      go_upto_region 20 with fail
      rw [← unhide HW9]
      clear hx8 hf8
      obtain ⟨vx9, hx9⟩ : ∃ v, w9.cell? ⟨gb, 2, none⟩ = some v := by
        obtain ⟨v, hv⟩ := (unhide HFX9).ex (i := 2) (by omega)
        exact ⟨v, by rw [Nat.zero_add] at hv; exact hv⟩
      have hf9 := (unhide HFX9).row.froz 2
      have hfx10 := (unhide HFX9).put (j := 2) (by omega) ((unhide HFX9).kf.setStatic true)
      rw [Nat.zero_add] at hfx10
      have ho10 : Only gb w9 (w9.setCell ⟨gb, 2, none⟩ (.bool true)) := (Only.refl _ _).setCell _ _
      obtain ⟨w10, hw10⟩ : ∃ y, y = w9.setCell ⟨gb, 2, none⟩ (.bool true) := ⟨_, rfl⟩
      rw [← hw10] at hfx10 ho10
      have hfl10 : (fb9.set 2 (.bool true)).length = 60 := by rw [List.length_set]; exact hfl9
      generalize fb9.set 2 (.bool true) = fb10 at hfx10 hfl10
      have hsr10 := (unhide HSR9).off (Chg.ofOnly ho10) hEb (unhide HFX9).row hgbb hgbf
      have hrt10 := (Chg.ofOnly ho10).row (unhide HRT9) (Ne.symm hgbt)
      have m10 : Mv E w8 w10 := m9.trans (Mv.frame (unhide HFX9).row hEb (Chg.ofOnly ho10))
      have HFX10 := hide hfx10
      have HSR10 := hide hsr10
      have HRT10 := hide hrt10
      have HW10 := hide hw10
      clear hfx10 hsr10 hrt10 hw10 ho10
      go_wp2_with fail
      rw [← unhide HW10]
      clear hx9 hf9
      go_meet
      case rel => exact ⟨_, 4, true, v, ta, sf, unhide HFX10, hfl10, by omega, hvP, .inl rfl, unhide HSR10, unhide HRT10, m10⟩
    --E5
  case rest =>
  as_aux_lemma =>
  obtain ⟨w9, hw9⟩ : ∃ w9, w9 = wc := ⟨_, rfl⟩
  subst hw9
  obtain ⟨fb9, kd, st, vv, sl, cl, hfx9, hfl9, hkd, hvv, hslt, hsr9, hrt9, m9⟩ := hcut
  have hfq9 := hsr9.fx
  rw [← unhide HO] at hfq9
  obtain ⟨Ag, kg, cg, g1, g2⟩ := hfq9.kf.gas
  have c49 : w9.cell? ⟨gf, o + 4, none⟩ = some (.slice Ag kg cg) := hfq9.cell g1
  have HSG := hide (sentGas_k (G := E) Ag A9 kg cg k9 c9 f.gas asked w9 hfq9.ther g2 ((unhide HN98).kp m9.chg) (by omega) (by omega))
  have HFX9 := hide hfx9
  have HSR9 := hide hsr9
  have HRT9 := hide hrt9
  have HG1 := hide g1
  have HG2 := hide g2
  have HKV9 := hide ((unhide HKV8).kp m9.chg)
  clear hfx9 hsr9 hrt9 hfq9 g1 g2
  go_upto_region 22 with (go_at_call 303; refine (unhide HSG).mono ?_; rintro e w10 ⟨As, ks, cs_, rfl, hks, b10⟩; have HKS := hide hks; clear hks)
  have hsle := sentN_le f.gas asked
  generalize sentN f.gas asked = sg at HKS hsle
  have hfq10 := ((unhide HSR9).kept b10).fx
  rw [← unhide HO] at hfq10
  have c410 : w10.cell? ⟨gf, o + 4, none⟩ = some (.slice Ag kg cg) := hfq10.cell (unhide HG1)
  have HLS := hide (less_any Ag As kg ks cg cs_ f.gas sg w10 ((unhide HG2).kp (ChgS.of b10)).now (unhide HKS).now (by omega) (by omega))
  have HFQ10 := hide hfq10
  clear hfq10 c49
  go_upto_region 23 with (go_at_call 101; refine (unhide HLS).mono ?_; rintro e w11 ⟨A11, k11, c11, rfl, n11, N11, b11⟩; have hfq11 := (unhide HFQ10).kept b11; obtain ⟨v4x, hx4⟩ := hfq11.ex (i := 4) (by omega); have hf4 := hfq11.row.froz (o + 4); have NN11 := hide n11; clear n11 hfq11)
  have d11 : Below w9.heap.size w9 w11 := b10.trans (b11.mono b10.size)
  have hsr11 := (unhide HSR9).kept d11
  have k11N : KNat E w11 A11 k11 c11 (f.gas - sg) := KNat.new (unhide NN11) (N11.later b10.size) (unhide HSR9).cw.ther
  obtain ⟨hsr12, ho12⟩ := hsr11.put (j := 4) (by omega) (hsr11.fx.kf.setGas k11N)
  rw [← unhide HO] at hsr12 ho12
  obtain ⟨w12, hw12⟩ : ∃ y, y = w11.setCell ⟨gf, o + 4, none⟩ (.slice A11 k11 c11) := ⟨_, rfl⟩
  rw [← hw12] at hsr12 ho12
  rw [← hw12]
  have hfr12 : (fr.set (o + 4) (Value.slice A11 k11 c11)).length = fr.length := List.length_set ..
  have h124 : (fr.set (o + 4) (Value.slice A11 k11 c11))[o + 4]? = some (.slice A11 k11 c11) := List.getElem?_set_self (by have := (unhide HFQ10).len; omega)
  generalize fr.set (o + 4) (Value.slice A11 k11 c11) = fr12 at hsr12 hfr12 h124
  have mv12 := Mv.frame (G := E) hsr11.row hsr11.g (Chg.ofOnly ho12)
  have m12 : Mv E w9 w12 := (Mv.of d11).trans mv12
  have hfx12 := (unhide HFX9).go m12 ((Chg.ofOnly ho12).row ((unhide HFX9).row.kept d11) hgbf)
  have hrt12 := (Chg.ofOnly ho12).row ((unhide HRT9).kept d11) (show w3.heap.size ≠ gf by omega)
  have hks12 := (unhide HKS).kp ((Mv.of (G := E) b11).trans mv12).chg
  have hk1112 := k11N.kp mv12.chg
  obtain ⟨v4z, hz4⟩ : ∃ v, w12.cell? ⟨gb, 4, none⟩ = some v := by
    obtain ⟨v, hv⟩ := hfx12.ex (i := 4) (by omega)
    exact ⟨v, by rw [Nat.zero_add] at hv; exact hv⟩
  have hzf := hfx12.row.froz 4
  have hfx13 := hfx12.put (j := 4) (by omega) (hfx12.kf.setGas hks12)
  have ho13 : Only gb w12 (w12.setCell ⟨gb, 4, none⟩ (.slice As ks cs_)) := (Only.refl _ _).setCell _ _
  rw [Nat.zero_add] at hfx13
  obtain ⟨w13, hw13⟩ : ∃ y, y = w12.setCell ⟨gb, 4, none⟩ (.slice As ks cs_) := ⟨_, rfl⟩
  rw [← hw13] at hfx13 ho13
  have hfl13 : (fb9.set 4 (.slice As ks cs_)).length = 60 := by rw [List.length_set]; exact hfl9
  have h134 : (fb9.set 4 (.slice As ks cs_))[4]? = some (.slice As ks cs_) := List.getElem?_set_self (by omega)
  generalize fb9.set 4 (.slice As ks cs_) = fb13 at hfx13 hfl13 h134
  have mv13 := Mv.frame (G := E) hfx12.row hEb (Chg.ofOnly ho13)
  have hsr13 := hsr12.off (Chg.ofOnly ho13) hEb hfx12.row hgbb hgbf
  have hrt13 := (Chg.ofOnly ho13).row hrt12 (Ne.symm hgbt)
  have m13 : Mv E w9 w13 := m12.trans mv13
  have HFX13 := hide hfx13
  have HSR13 := hide hsr13
  have HRT13 := hide hrt13
  have HW13 := hide hw13
  have HKS13 := hide (hks12.kp mv13.chg)
  have HKF13 := hide (hk1112.kp mv13.chg)
  have HKV13 := hide ((unhide HKV9).kp m13.chg)
  have H124 := hide h124
  have H134 := hide h134
  clear hx4 hf4 hsr11 k11N hsr12 ho12 hw12 hfx12 hrt12 hks12 hk1112 hfx13 ho13 hw13 hsr13 hrt13 h124 h134 c410 HFX9 HSR9 HRT9 HFQ10 HKS mv12 mv13
  go_upto_region 24 with fail
  rw [← unhide HW13]
  clear hz4 hzf
  have HZ := hide (isZero_any Av kv cv v w13 (unhide HKV13).now (by omega))
  go_upto_if 103 with (go_at_call 130; refine (unhide HZ).mono ?_; rintro e w14 ⟨rfl, q14⟩; have b14 : Below w13.heap.size w13 w14 := q14.below _; clear q14)
  obtain ⟨bz, hbz⟩ : ∃ bz, bz = decide (v = 0) := ⟨_, rfl⟩
  rw [← hbz]
  have HFX14 := hide ((unhide HFX13).kept b14)
  have HSR14 := hide ((unhide HSR13).kept b14)
  have HRT14 := hide ((unhide HRT13).kept b14)
  have HKS14 := hide ((unhide HKS13).kp (ChgS.of b14))
  have hstip : bz = false → stipN p f = 2300 := fun hh => by
    rw [hbz] at hh
    have hv0 : v ≠ 0 := of_decide_eq_false hh
    obtain ⟨a1, a2⟩ := unhide HVS hv0
    unfold stipN
    rw [if_pos ⟨a1, by rw [a2]; exact hv0⟩]
  have HSTIP := hide hstip
  clear hbz hstip HFX13 HSR13 HRT13 HKS13
  go_cut [] (fun wc => ∃ (fbc : List Value) (cg : Nat) (Ac : Option Addr) (kc cc : Nat), FX E gb 0 fbc { childF kd st vv [] sl cl with gas := cg } wc ∧ fbc.length = 60 ∧ fbc[4]? = some (.slice Ac kc cc) ∧ KNat E wc Ac kc cc cg ∧ cg ≤ sg + stipN p f ∧ SR E bw gf cs5 fr12 d5 ({ f with gas := f.gas - sg } :: r) x wc ∧ RowT 26 wc w3.heap.size (bv ta) ∧ Mv E w14 wc)
  case first =>
    --S6
    as_aux_lemma =>
    cases bz with
    | true =>
      go_wp2_with fail
      go_meet
      case rel => exact ⟨fb13, sg, As, ks, cs_, unhide HFX14, hfl13, unhide H134, unhide HKS14, by omega, unhide HSR14, unhide HRT14, Mv.refl _ _⟩
    | false =>
      have hst := unhide HSTIP (by trivial)
      have HST := hide hst
      clear hst
      have HN1 := hide (num_any 2300 w14 (by omega))
      rw [show ((2300 : Nat) : Int) = 2300 from rfl] at HN1
      go_wp2_with fail
      refine (unhide HN1).mono ?_
      rintro e w15 ⟨A15, k15, c15, rfl, n15, N15, b15⟩
      have HAD := hide (((unhide HKS14).kp (ChgS.of b15)).now.add n15 (by omega) (by omega))
      clear n15
      go_wp2_with (go_at_call 59; refine (unhide HAD).mono ?_; rintro e w16 ⟨A16, k16, c16, rfl, n16, N16, b16⟩; have d16 : Below w14.heap.size w14 w16 := b15.trans (b16.mono b15.size); have hfx16 := (unhide HFX14).kept d16; have hex := hfx16.ex (i := 4) (by omega); rw [Nat.zero_add] at hex; obtain ⟨v4q, hx4⟩ := hex; have hf4 := hfx16.row.froz 4; have HFX16 := hide hfx16; have NN16 := hide n16; clear n16 hfx16)
      have k16N : KNat E w16 A16 k16 c16 (sg + 2300) := KNat.new (unhide NN16) (N16.later b15.size) (unhide HSR14).cw.ther
      have hfx17 := (unhide HFX16).put (j := 4) (by omega) ((unhide HFX16).kf.setGas k16N)
      have ho17 : Only gb w16 (w16.setCell ⟨gb, 4, none⟩ (.slice A16 k16 c16)) := (Only.refl _ _).setCell _ _
      rw [Nat.zero_add] at hfx17
      have hsr17 := ((unhide HSR14).kept d16).off (Chg.ofOnly ho17) hEb (unhide HFX16).row hgbb hgbf
      have hrt17 := (Chg.ofOnly ho17).row ((unhide HRT14).kept d16) (Ne.symm hgbt)
      have mv17 := Mv.frame (G := E) (unhide HFX16).row hEb (Chg.ofOnly ho17)
      have m17 := (Mv.of (G := E) d16).trans mv17
      have k17 := k16N.kp mv17.chg
      go_meet
      case rel => exact ⟨_, sg + 2300, A16, k16, c16, hfx17, by rw [List.length_set]; exact hfl13, List.getElem?_set_self (by omega), k17, by rw [unhide HST]; omega, hsr17, hrt17, m17⟩
    --E6
  case rest =>
  as_aux_lemma =>
  obtain ⟨w15, hw15⟩ : ∃ w15, w15 = wc := ⟨_, rfl⟩
  subst hw15
  obtain ⟨fb15, cg', Ac, kc, cc, hfx15, hfl15, h154, hkc, hcg, hsr15, hrt15, m1415⟩ := hcut
  have m15 : Mv E w8 w15 := m9.trans (m13.trans ((Mv.of b14).trans m1415))
  have HKV15 := hide ((unhide HKV13).kp ((Mv.of (G := E) b14).trans m1415).chg)
  have HKF15 := hide ((unhide HKF13).kp ((Mv.of (G := E) b14).trans m1415).chg)
  have e15 : Below w15.heap.size w15 w15.drew := Quiet.below ⟨1, rfl⟩ _
  have hsx : ∀ wz, RowT 194 wz gf fr12 → wz.rangeAt gf (o + 12) (bv sf) := by
    have hq := hsr15.fx
    rw [← unhide HO] at hq
    have hq2 := hq.selfRow
    simp only at hq2
    rw [← unhide HSF] at hq2
    exact hq2
  have HSX := hide hsx
  have y9 : ∀ wz, Below w15.heap.size w15 wz → wz.cell? ⟨bw, 9, none⟩ = some (.slice (some ⟨gf, 0, none⟩) nf cap5) := fun wz hz => (hsr15.cw.kept hz).cell (unhide HE9)
  have Y9 := hide y9
  have HACC := hide ((hsr15.kept e15).cw.account hg5 sf hslf)
  have HFX15 := hide hfx15
  have HSR15 := hide hsr15
  have HRT15 := hide hrt15
  have H154 := hide h154
  have HKC := hide hkc
  clear hfx15 hsr15 hrt15 h154 hkc hsx y9 m1415 HFX14 HSR14 HRT14
  go_upto_region 26 with fail
  go_cut [128] (fun s128 wc => (∃ b, s128 = .bool b ∧ (b = false → nr < 6)) ∧ Below w15.heap.size w15 wc)
  case first =>
    --S7
    as_aux_lemma =>
    by_cases h6 : 6 ≤ nr
    case pos =>
      have t6 : decide ((6 : Int) ≤ (nr : Int)) = true := decide_eq_true (by omega)
      have t6' : decide (6 ≤ nr) = true := decide_eq_true h6
      refine wp_region_noPanic ?_
      refine wp_region_held_drew (S := fun w' => Below w15.heap.size w15 w') (by kernel_rfl) (e15) (fun hHeld => ?_)
      refine held_takeD 0 (.pointer (some ⟨bw, 0, none⟩)) (some 108) (by rfl) (by rfl) (by kernel_rfl) (by kernel_rfl) (by kernel_rfl) (fun _ _ _ h => h) (.inl ⟨by rfl, fun _ _ => by rfl⟩) (hHeld) ?_
      simp only [Act.put, List.setIfInBounds_toArray, List.set_cons_zero, List.set_cons_succ]
      refine held_takeD 1 (.pointer (some ⟨bw, 0, none⟩)) (some 109) (by rfl) (by rfl) (by kernel_rfl) (by kernel_rfl) (by kernel_rfl) (fun _ _ _ h => h) (.inl ⟨by rfl, fun _ _ => by go_simp⟩) (hHeld) ?_
      simp only [Act.put, List.setIfInBounds_toArray, List.set_cons_zero, List.set_cons_succ]
      refine held_takeD 2 (.pointer (some ⟨bw, 9, none⟩)) (some 110) (by rfl) (by rfl) (by kernel_rfl) (by kernel_rfl) (by kernel_rfl) (fun _ _ _ h => h) (.inl ⟨by rfl, fun _ _ => by go_simp⟩) (hHeld) ?_
      simp only [Act.put, List.setIfInBounds_toArray, List.set_cons_zero, List.set_cons_succ]
      refine held_takeD 3 (.slice (some ⟨gf, 0, none⟩) nf cap5) (some 111) (by rfl) (by rfl) (by kernel_rfl) (by kernel_rfl) (by kernel_rfl) (fun _ _ _ h => h) (.inl ⟨by rfl, fun wS hS => by have hc := unhide Y9 wS hS; go_simp⟩) (hHeld) ?_
      simp only [Act.put, List.setIfInBounds_toArray, List.set_cons_zero, List.set_cons_succ]
      refine held_takeD 4 (.int .i64 nf) (some 112) (by rfl) (by rfl) (by kernel_rfl) (by kernel_rfl) (by kernel_rfl) (fun _ _ _ h => h) (.inl ⟨by rfl, fun _ _ => by go_simp⟩) (hHeld) ?_
      simp only [Act.put, List.setIfInBounds_toArray, List.set_cons_zero, List.set_cons_succ]
      refine held_takeD 5 (.int .i64 nr) (some 113) (by rfl) (by rfl) (by kernel_rfl) (by kernel_rfl) (by kernel_rfl) (fun _ _ _ h => h) (.inl ⟨by rfl, fun _ _ => by go_simp⟩) (hHeld) ?_
      simp only [Act.put, List.setIfInBounds_toArray, List.set_cons_zero, List.set_cons_succ]
      refine held_takeD 6 (.bool true) (some 114) (by rfl) (by rfl) (by kernel_rfl) (by kernel_rfl) (by kernel_rfl) (fun _ _ _ h => h) (.inl ⟨by rfl, fun _ _ => by go_simp⟩) (hHeld) ?_
      simp only [Act.put, List.setIfInBounds_toArray, List.set_cons_zero, List.set_cons_succ]
      refine held_takeD 7 (.bool true) (some 115) (by rfl) (by rfl) (by kernel_rfl) (by kernel_rfl) (by kernel_rfl) (fun _ _ _ h => h) (.inl ⟨by rfl, fun _ _ => by rfl⟩) (hHeld) ?_
      simp only [Act.put, List.setIfInBounds_toArray, List.set_cons_zero, List.set_cons_succ]
      refine held_takeD 8 undef (some 116) (by rfl) (by rfl) (by kernel_rfl) (by kernel_rfl) (by kernel_rfl) (fun _ _ _ h => h) (.inr ⟨by rfl, rfl⟩) (hHeld) ?_
      simp only [Act.put, List.setIfInBounds_toArray, List.set_cons_zero, List.set_cons_succ]
      refine held_takeD 9 undef (some 117) (by rfl) (by rfl) (by kernel_rfl) (by kernel_rfl) (by kernel_rfl) (fun _ _ _ h => h) (.inr ⟨by rfl, rfl⟩) (hHeld) ?_
      simp only [Act.put, List.setIfInBounds_toArray, List.set_cons_zero, List.set_cons_succ]
      refine held_takeD 10 undef (some 118) (by rfl) (by rfl) (by kernel_rfl) (by kernel_rfl) (by kernel_rfl) (fun _ _ _ h => h) (.inr ⟨by rfl, rfl⟩) (hHeld) ?_
      simp only [Act.put, List.setIfInBounds_toArray, List.set_cons_zero, List.set_cons_succ]
      refine held_takeD 11 undef (some 119) (by rfl) (by rfl) (by kernel_rfl) (by kernel_rfl) (by kernel_rfl) (fun _ _ _ h => h) (.inr ⟨by rfl, rfl⟩) (hHeld) ?_
      simp only [Act.put, List.setIfInBounds_toArray, List.set_cons_zero, List.set_cons_succ]
      refine held_takeD 12 undef (some 120) (by rfl) (by rfl) (by kernel_rfl) (by kernel_rfl) (by kernel_rfl) (fun _ _ _ h => h) (.inr ⟨by rfl, rfl⟩) (hHeld) ?_
      simp only [Act.put, List.setIfInBounds_toArray, List.set_cons_zero, List.set_cons_succ]
      refine held_takeD 13 undef (some 121) (by rfl) (by rfl) (by kernel_rfl) (by kernel_rfl) (by kernel_rfl) (fun _ _ _ h => h) (.inr ⟨by rfl, rfl⟩) (hHeld) ?_
      simp only [Act.put, List.setIfInBounds_toArray, List.set_cons_zero, List.set_cons_succ]
      refine held_takeD 14 undef (some 122) (by rfl) (by rfl) (by kernel_rfl) (by kernel_rfl) (by kernel_rfl) (fun _ _ _ h => h) (.inr ⟨by rfl, rfl⟩) (hHeld) ?_
      simp only [Act.put, List.setIfInBounds_toArray, List.set_cons_zero, List.set_cons_succ]
      refine held_takeD 15 undef (some 123) (by rfl) (by rfl) (by kernel_rfl) (by kernel_rfl) (by kernel_rfl) (fun _ _ _ h => h) (.inr ⟨by rfl, rfl⟩) (hHeld) ?_
      simp only [Act.put, List.setIfInBounds_toArray, List.set_cons_zero, List.set_cons_succ]
      refine held_takeD 16 undef (some 124) (by rfl) (by rfl) (by kernel_rfl) (by kernel_rfl) (by kernel_rfl) (fun _ _ _ h => h) (.inr ⟨by rfl, rfl⟩) (hHeld) ?_
      simp only [Act.put, List.setIfInBounds_toArray, List.set_cons_zero, List.set_cons_succ]
      refine held_takeD 17 undef (some 125) (by rfl) (by rfl) (by kernel_rfl) (by kernel_rfl) (by kernel_rfl) (fun _ _ _ h => h) (.inr ⟨by rfl, rfl⟩) (hHeld) ?_
      simp only [Act.put, List.setIfInBounds_toArray, List.set_cons_zero, List.set_cons_succ]
      refine held_takeD 18 undef (some 126) (by rfl) (by rfl) (by kernel_rfl) (by kernel_rfl) (by kernel_rfl) (fun _ _ _ h => h) (.inr ⟨by rfl, rfl⟩) (hHeld) ?_
      simp only [Act.put, List.setIfInBounds_toArray, List.set_cons_zero, List.set_cons_succ]
      refine held_takeD 19 undef (some 127) (by rfl) (by rfl) (by kernel_rfl) (by kernel_rfl) (by kernel_rfl) (fun _ _ _ h => h) (.inr ⟨by rfl, rfl⟩) (hHeld) ?_
      simp only [Act.put, List.setIfInBounds_toArray, List.set_cons_zero, List.set_cons_succ]
      refine held_takeD 20 (.bool true) (some 128) (by rfl) (by rfl) (by kernel_rfl) (by kernel_rfl) (by kernel_rfl) (fun _ _ _ h => h) (.inl ⟨by rfl, fun _ _ => by go_simp⟩) (hHeld) ?_
      simp only [Act.put, List.setIfInBounds_toArray, List.set_cons_zero, List.set_cons_succ]
      refine wpAnyH_done (by kernel_rfl) ?_ _
      refine NoPanic.normal ?_
      go_wp2_with fail
      go_meet
      case rel => exact ⟨⟨_, rfl, fun hh => by cases hh⟩, e15⟩
    case neg =>
      have t6 : decide ((6 : Int) ≤ (nr : Int)) = false := decide_eq_false (by omega)
      have t6' : decide (6 ≤ nr) = false := decide_eq_false h6
      refine wp_region_noPanic ?_
      refine wp_region_held_drew (S := fun w' => Below w15.heap.size w15 w') (by kernel_rfl) (e15) (fun hHeld => ?_)
      refine held_takeD 0 (.pointer (some ⟨bw, 0, none⟩)) (some 108) (by rfl) (by rfl) (by kernel_rfl) (by kernel_rfl) (by kernel_rfl) (fun _ _ _ h => h) (.inl ⟨by rfl, fun _ _ => by rfl⟩) (hHeld) ?_
      simp only [Act.put, List.setIfInBounds_toArray, List.set_cons_zero, List.set_cons_succ]
      refine held_takeD 1 (.pointer (some ⟨bw, 0, none⟩)) (some 109) (by rfl) (by rfl) (by kernel_rfl) (by kernel_rfl) (by kernel_rfl) (fun _ _ _ h => h) (.inl ⟨by rfl, fun _ _ => by go_simp⟩) (hHeld) ?_
      simp only [Act.put, List.setIfInBounds_toArray, List.set_cons_zero, List.set_cons_succ]
      refine held_takeD 2 (.pointer (some ⟨bw, 9, none⟩)) (some 110) (by rfl) (by rfl) (by kernel_rfl) (by kernel_rfl) (by kernel_rfl) (fun _ _ _ h => h) (.inl ⟨by rfl, fun _ _ => by go_simp⟩) (hHeld) ?_
      simp only [Act.put, List.setIfInBounds_toArray, List.set_cons_zero, List.set_cons_succ]
      refine held_takeD 3 (.slice (some ⟨gf, 0, none⟩) nf cap5) (some 111) (by rfl) (by rfl) (by kernel_rfl) (by kernel_rfl) (by kernel_rfl) (fun _ _ _ h => h) (.inl ⟨by rfl, fun wS hS => by have hc := unhide Y9 wS hS; go_simp⟩) (hHeld) ?_
      simp only [Act.put, List.setIfInBounds_toArray, List.set_cons_zero, List.set_cons_succ]
      refine held_takeD 4 (.int .i64 nf) (some 112) (by rfl) (by rfl) (by kernel_rfl) (by kernel_rfl) (by kernel_rfl) (fun _ _ _ h => h) (.inl ⟨by rfl, fun _ _ => by go_simp⟩) (hHeld) ?_
      simp only [Act.put, List.setIfInBounds_toArray, List.set_cons_zero, List.set_cons_succ]
      refine held_takeD 5 (.int .i64 nr) (some 113) (by rfl) (by rfl) (by kernel_rfl) (by kernel_rfl) (by kernel_rfl) (fun _ _ _ h => h) (.inl ⟨by rfl, fun _ _ => by go_simp⟩) (hHeld) ?_
      simp only [Act.put, List.setIfInBounds_toArray, List.set_cons_zero, List.set_cons_succ]
      refine held_takeD 6 (.bool false) (some 114) (by rfl) (by rfl) (by kernel_rfl) (by kernel_rfl) (by kernel_rfl) (fun _ _ _ h => h) (.inl ⟨by rfl, fun _ _ => by go_simp⟩) (hHeld) ?_
      simp only [Act.put, List.setIfInBounds_toArray, List.set_cons_zero, List.set_cons_succ]
      refine held_takeD 7 (.bool false) (some 115) (by rfl) (by rfl) (by kernel_rfl) (by kernel_rfl) (by kernel_rfl) (fun _ _ _ h => h) (.inl ⟨by rfl, fun _ _ => by rfl⟩) (hHeld) ?_
      simp only [Act.put, List.setIfInBounds_toArray, List.set_cons_zero, List.set_cons_succ]
      refine held_takeD 8 (.pointer (some ⟨bw, 0, none⟩)) (some 116) (by rfl) (by rfl) (by kernel_rfl) (by kernel_rfl) (by kernel_rfl) (fun _ _ _ h => h) (.inl ⟨by rfl, fun _ _ => by rfl⟩) (hHeld) ?_
      simp only [Act.put, List.setIfInBounds_toArray, List.set_cons_zero, List.set_cons_succ]
      refine held_takeD 9 (.pointer (some ⟨bw, 0, none⟩)) (some 117) (by rfl) (by rfl) (by kernel_rfl) (by kernel_rfl) (by kernel_rfl) (fun _ _ _ h => h) (.inl ⟨by rfl, fun _ _ => by go_simp⟩) (hHeld) ?_
      simp only [Act.put, List.setIfInBounds_toArray, List.set_cons_zero, List.set_cons_succ]
      refine held_takeD 10 (.pointer (some ⟨bw, 0, none⟩)) (some 118) (by rfl) (by rfl) (by kernel_rfl) (by kernel_rfl) (by kernel_rfl) (fun _ _ _ h => h) (.inl ⟨by rfl, fun _ _ => by go_simp⟩) (hHeld) ?_
      simp only [Act.put, List.setIfInBounds_toArray, List.set_cons_zero, List.set_cons_succ]
      refine held_takeD 11 (.pointer (some ⟨gf, o, none⟩)) (some 119) (by rfl) (by rfl) (by kernel_rfl) (by kernel_rfl) (by kernel_rfl) (fun _ _ _ h => h) (.inl ⟨by rfl, fun _ _ => by rfl⟩) (hHeld) ?_
      simp only [Act.put, List.setIfInBounds_toArray, List.set_cons_zero, List.set_cons_succ]
      refine held_takeD 12 (.pointer (some ⟨gf, o, none⟩)) (some 120) (by rfl) (by rfl) (by kernel_rfl) (by kernel_rfl) (by kernel_rfl) (fun _ _ _ h => h) (.inl ⟨by rfl, fun _ _ => by go_simp⟩) (hHeld) ?_
      simp only [Act.put, List.setIfInBounds_toArray, List.set_cons_zero, List.set_cons_succ]
      refine held_takeD 13 (.pointer (some ⟨gf, o + 12, none⟩)) (some 121) (by rfl) (by rfl) (by kernel_rfl) (by kernel_rfl) (by kernel_rfl) (fun _ _ _ h => h) (.inl ⟨by rfl, fun _ _ => by go_simp⟩) (hHeld) ?_
      simp only [Act.put, List.setIfInBounds_toArray, List.set_cons_zero, List.set_cons_succ]
      refine held_takeD 14 (.agg (bv sf).toArray) (some 122) (by rfl) (by rfl) (by kernel_rfl) (by kernel_rfl) (by kernel_rfl) (fun _ _ _ h => h) (yieldsIf_load_mid (by rfl) _ _ rfl _ _ rfl _ _ (fun wz hS => unhide HSX wz ((unhide HSR15).row.kept hS)) hu rfl hsz) (hHeld) ?_
      simp only [Act.put, List.setIfInBounds_toArray, List.set_cons_zero, List.set_cons_succ]
      refine held_takeD 17 (.slice Av kv cv) (some 125) (by rfl) (by rfl) (by kernel_rfl) (by kernel_rfl) (by kernel_rfl) (fun _ _ _ h => h) (.inl ⟨by rfl, fun _ _ => by rfl⟩) (hHeld) ?_
      simp only [Act.put, List.setIfInBounds_toArray, List.set_cons_zero, List.set_cons_succ]
      refine held_one 15 (by kernel_rfl) (by rfl) (fun K' hK' => ?_)
      go_simp
      refine (unhide HACC).mono ?_
      rintro e w16 ⟨rs, rfl, hrs, b16⟩
      refine hK'.out _ _ (e15.trans (b16.mono e15.size)) ?_
      clear hK' K'
      have d16 : Below w15.heap.size w15 w16 := e15.trans (b16.mono e15.size)
      obtain ⟨B1, j1, x1, B2, j2, x2, B3, j3, x3, B4, j4, x4, q20, q21, q22, q23, s1, s2, s3, s4⟩ := hrs.cells
      have hfld := run_field_slice fldBal Sakg.underlying54 rs _ q21
      refine held_takeD 16 (.slice B2 j2 x2) (some 124) (by rfl) (by rfl) (by kernel_rfl) (by kernel_rfl) (by kernel_rfl) (fun _ _ _ h => h) (.inl ⟨by rfl, fun _ _ => by go_simp⟩) (d16) ?_
      simp only [Act.put, List.setIfInBounds_toArray, List.set_cons_zero, List.set_cons_succ]
      have HCM := hide (s2.now.cmp ((unhide HKV15).kp (ChgS.of d16)).now (hg5.lookB sf).2 (by omega))
      obtain ⟨bq, hbq⟩ : ∃ bq, decide (cmpI (lookY d5.accts sf).bal v < 0) = bq := ⟨_, rfl⟩
      generalize cmpI (lookY d5.accts sf).bal v = cz at HCM hbq
      refine held_one 18 (by kernel_rfl) (by rfl) (fun K' hK' => ?_)
      go_simp
      refine (unhide HCM).mono ?_
      rintro e w17 ⟨rfl, q17⟩
      refine hK'.out _ _ (d16.trans ((q17.below _).mono d16.size)) ?_
      clear hK' K'
      have d17 : Below w15.heap.size w15 w17 := d16.trans ((q17.below _).mono d16.size)
      refine held_takeD 19 (.bool bq) (some 127) (by rfl) (by rfl) (by kernel_rfl) (by kernel_rfl) (by kernel_rfl) (fun _ _ _ h => h) (.inl ⟨by rfl, fun _ _ => by go_simp⟩) (d17) ?_
      simp only [Act.put, List.setIfInBounds_toArray, List.set_cons_zero, List.set_cons_succ]
      refine held_takeD 20 (.bool bq) (some 128) (by rfl) (by rfl) (by kernel_rfl) (by kernel_rfl) (by kernel_rfl) (fun _ _ _ h => h) (.inl ⟨by rfl, fun _ _ => by go_simp⟩) (d17) ?_
      simp only [Act.put, List.setIfInBounds_toArray, List.set_cons_zero, List.set_cons_succ]
      refine wpAnyH_done (by kernel_rfl) ?_ _
      refine NoPanic.normal ?_
      clear hrs s1 s2 s3 s4 hfld q20 q21 q22 q23 hbq
      go_wp2_with fail
      go_meet
      case rel => exact ⟨⟨_, rfl, fun _ => by omega⟩, d17⟩
    --E7
  case rest =>
  as_aux_lemma =>
  obtain ⟨w16, hw16⟩ : ∃ w16, w16 = wc := ⟨_, rfl⟩
  subst hw16
  obtain ⟨⟨b128, rfl, hb128⟩, b16⟩ := hcut
  have m16 : Mv E w8 w16 := m15.trans (Mv.of b16)
  have HFX16 := hide ((unhide HFX15).kept b16)
  have HSR16 := hide ((unhide HSR15).kept b16)
  have HRT16 := hide ((unhide HRT15).kept b16)
  have HKC16 := hide ((unhide HKC).kp (ChgS.of b16))
  have HKF16 := hide ((unhide HKF15).kp (ChgS.of b16))
  have e16 : Below w16.heap.size w16 w16.drew := Quiet.below ⟨1, rfl⟩ _
  have hgx : ∀ wz, RowT 194 wz gf fr12 → wz.cell? ⟨gf, o + 4, none⟩ = some (.slice A11 k11 c11) := fun wz hz => by rw [hz.cell]; exact unhide H124
  have HGX := hide hgx
  clear hgx HFX15 HSR15 HRT15 HKC HKF15
  cases b128 with
  | true =>
    --S9
    as_aux_lemma =>
    have HAD := hide (((unhide HKF16).kp (ChgS.of e16)).now.add ((unhide HKC16).kp (ChgS.of e16)).now (by omega) (by have : stipN p f ≤ 2300 := by { unfold stipN; split <;> omega }; omega))
    go_upto_region 27 with fail
    refine wp_region_noPanic ?_
    refine wp_region_held_drew (S := fun w' => RowT 194 w' gb fb15) (by kernel_rfl) ((unhide HFX16).row.kept e16) (fun hHeld => ?_)
    refine held_takeD 0 (.pointer (some ⟨gf, o, none⟩)) (some 129) (by rfl) (by rfl) (by kernel_rfl) (by kernel_rfl) (by kernel_rfl) (fun _ _ _ h => h) (.inl ⟨by rfl, fun _ _ => by rfl⟩) (hHeld) ?_
    simp only [Act.put, List.setIfInBounds_toArray, List.set_cons_zero, List.set_cons_succ]
    refine held_takeD 1 (.pointer (some ⟨gf, o, none⟩)) (some 130) (by rfl) (by rfl) (by kernel_rfl) (by kernel_rfl) (by kernel_rfl) (fun _ _ _ h => h) (.inl ⟨by rfl, fun _ _ => by rfl⟩) (hHeld) ?_
    simp only [Act.put, List.setIfInBounds_toArray, List.set_cons_zero, List.set_cons_succ]
    refine held_takeD 2 (.pointer (some ⟨gf, o, none⟩)) (some 131) (by rfl) (by rfl) (by kernel_rfl) (by kernel_rfl) (by kernel_rfl) (fun _ _ _ h => h) (.inl ⟨by rfl, fun _ _ => by go_simp⟩) (hHeld) ?_
    simp only [Act.put, List.setIfInBounds_toArray, List.set_cons_zero, List.set_cons_succ]
    refine held_takeD 3 (.pointer (some ⟨gf, o + 4, none⟩)) (some 132) (by rfl) (by rfl) (by kernel_rfl) (by kernel_rfl) (by kernel_rfl) (fun _ _ _ h => h) (.inl ⟨by rfl, fun _ _ => by go_simp⟩) (hHeld) ?_
    simp only [Act.put, List.setIfInBounds_toArray, List.set_cons_zero, List.set_cons_succ]
    refine held_takeD 5 (.pointer (some ⟨gb, 4, none⟩)) (some 134) (by rfl) (by rfl) (by kernel_rfl) (by kernel_rfl) (by kernel_rfl) (fun _ _ _ h => h) (.inl ⟨by rfl, fun _ _ => by go_simp⟩) (hHeld) ?_
    simp only [Act.put, List.setIfInBounds_toArray, List.set_cons_zero, List.set_cons_succ]
    refine held_takeD 6 (.slice Ac kc cc) (some 135) (by rfl) (by rfl) (by kernel_rfl) (by kernel_rfl) (by kernel_rfl) (fun _ _ _ h => h) (.inl ⟨by rfl, fun wS hS => by have hc : wS.cell? ⟨gb, 4, none⟩ = some (.slice Ac kc cc) := by { rw [hS.cell]; exact unhide H154 }; go_simp⟩) (hHeld) ?_
    simp only [Act.put, List.setIfInBounds_toArray, List.set_cons_zero, List.set_cons_succ]
    have hcu := unhide HGX w16.drew ((unhide HSR16).row.kept e16)
    refine held_one 4 (by kernel_rfl) (by rfl) (fun K' hK' => ?_)
    go_simp
    refine hK'.out _ _ ((unhide HFX16).row.kept e16) ?_
    clear hK' K' hcu
    refine held_one 7 (by kernel_rfl) (by rfl) (fun K' hK' => ?_)
    go_simp
    refine (unhide HAD).mono ?_
    rintro e w17 ⟨A17, k17, c17, rfl, n17, N17, b17⟩
    have d17 : Below w16.heap.size w16 w17 := e16.trans (b17.mono e16.size)
    have s17 := (unhide HFX16).row.kept d17
    refine hK'.out _ _ s17 ?_
    clear hK' K'
    refine held_takeD 8 (.pointer (some ⟨gf, o, none⟩)) (some 137) (by rfl) (by rfl) (by kernel_rfl) (by kernel_rfl) (by kernel_rfl) (fun _ _ _ h => h) (.inl ⟨by rfl, fun _ _ => by go_simp⟩) (s17) ?_
    simp only [Act.put, List.setIfInBounds_toArray, List.set_cons_zero, List.set_cons_succ]
    refine held_takeD 9 (.pointer (some ⟨gf, o + 4, none⟩)) (some 138) (by rfl) (by rfl) (by kernel_rfl) (by kernel_rfl) (by kernel_rfl) (fun _ _ _ h => h) (.inl ⟨by rfl, fun _ _ => by go_simp⟩) (s17) ?_
    simp only [Act.put, List.setIfInBounds_toArray, List.set_cons_zero, List.set_cons_succ]
    have hsr17 := (unhide HSR16).kept d17
    have hfq17 := hsr17.fx
    rw [← unhide HO] at hfq17
    obtain ⟨v4y, hx4⟩ := hfq17.ex (i := 4) (by omega)
    have hf4 := hfq17.row.froz (o + 4)
    have k17N : KNat E w17 A17 k17 c17 (f.gas - sg + cg') := KNat.new n17 (N17.later e16.size) (unhide HSR16).cw.ther
    refine held_one 10 (by kernel_rfl) (by rfl) (fun K' hK' => ?_)
    go_simp
    obtain ⟨hsr18, ho18⟩ := hsr17.put (j := 4) (by omega) (hsr17.fx.kf.setGas k17N)
    rw [← unhide HO] at hsr18 ho18
    obtain ⟨w18, hw18⟩ : ∃ y, y = w17.setCell ⟨gf, o + 4, none⟩ (.slice A17 k17 c17) := ⟨_, rfl⟩
    rw [← hw18] at hsr18 ho18
    rw [← hw18]
    generalize fr12.set (o + 4) (Value.slice A17 k17 c17) = fr18 at hsr18
    refine hK'.out _ _ ((Chg.ofOnly ho18).row s17 hgbf) ?_
    clear hK' K'
    refine wpAnyH_done (by kernel_rfl) ?_ _
    refine NoPanic.normal ?_
    have m18 : Mv E w8 w18 := m16.trans ((Mv.of d17).trans (Mv.frame hsr17.row hsr17.g (Chg.ofOnly ho18)))
    have hfq18 := hsr18.fx
    rw [← unhide HO] at hfq18
    have HAN := hide (hfq18.answer tk htk (show f.stk.length ≤ 64 by omega) (unhide HAF).pc none 0 0 0 (KNat.nil E w18))
    have HS18 := hide hsr18
    clear hfq18 hsr18 hsr17 hfq17 k17N ho18 hw18 hx4 hf4 s17 n17
    go_wp2_with (go_at_call 208; refine (unhide HAN).mono ?_; rintro e w19 ⟨rfl, fr19, hfx19, hfl19, hfe19, hch19⟩; have HFX19 := hide hfx19; have HFE19 := hide hfe19; have HFL19 := hide hfl19; have HCH19 := hide hch19; clear hfx19 hfe19 hfl19 hch19)
    refine bodyPost_ret (results_none rfl _ _ _) rfl ?_
    have hfx19 := unhide HFX19
    have hfe19 := unhide HFE19
    rw [unhide HO] at hfx19 hfe19
    have hsr19 := (unhide HS18).top hfx19 (unhide HFL19) (fun i hi => hfe19 i (.inl hi)) (unhide HCH19)
    have m19 : Mv E w8 w19 := m18.trans (Mv.frame (unhide HS18).row (unhide HS18).g (unhide HCH19))
    exact ⟨rfl, E, gf, cs5, fr19, d5, unhide HWID E w8 (Wider.refl _ _) (Nat.le_refl _), unhide HMV w19 m19, (unhide HG5).mono (by omega), .inl ⟨f.gas - sg + cg', by omega, hsr19⟩⟩
    --E9
  | false =>
  as_aux_lemma =>
  have h6 := hb128 (by trivial)
  obtain ⟨n5, hn5⟩ : ∃ n5, n5 = n4 + 1 := ⟨_, rfl⟩
  obtain ⟨n6, hn6⟩ : ∃ n6, n6 = n4 + 2 := ⟨_, rfl⟩
  obtain ⟨n7, hn7⟩ : ∃ n7, n7 = n4 + 3 := ⟨_, rfl⟩
  have en5 : (n4 : Int) + 1 = (n5 : Int) := by omega
  have en6 : (n4 : Int) + 2 = (n6 : Int) := by omega
  have en7 : (n4 : Int) + 3 = (n7 : Int) := by omega
  have hw5 : IntKind.i64.wrap (n5 : Int) = (n5 : Int) := by rw [IntKind.wrap_i64]; omega
  have hw6 : IntKind.i64.wrap (n6 : Int) = (n6 : Int) := by rw [IntKind.wrap_i64]; omega
  have hw7 : IntKind.i64.wrap (n7 : Int) = (n7 : Int) := by rw [IntKind.wrap_i64]; omega
  have hl5 : n5 ≤ 1024 := by omega
  have hl6 : n6 ≤ 1024 := by omega
  have hl7 : n7 ≤ 1024 := by omega
  have hin5 : argN f.stk n5 ≤ 1000000 := by
    have h1 := unhide HIN
    have h2 := unhide HN4
    rw [show n5 = tk - 3 by omega]
    exact h1
  have hmA := unhide HS n4
  have hmC := unhide HS n6
  have hmD := unhide HS n7
  clear hn5 hn6 hn7
  have hfq16 := (unhide HSR16).fx
  rw [← unhide HO] at hfq16
  have HFQ := hide hfq16
  have HAa := hide (hfq16.arg (show f.stk.length ≤ 1024 by omega) n4 (by omega))
  clear hfq16
  go_wp2_with fail
  refine (unhide HAa).mono ?_
  rintro e w17 ⟨⟨Aa, ka, ca, rfl, na⟩, q17⟩
  have b17 : Below w16.heap.size w16 w17 := q17.below _
  have HAb := hide ((unhide HFQ).argAt b17 (show f.stk.length ≤ 1024 by omega) n5 hl5)
  clear q17
  go_wp2_with fail
  refine (unhide HAb).mono ?_
  rintro e w18 ⟨⟨Ab, kb, cb, rfl, nb⟩, q18⟩
  have b18 : Below w17.heap.size w17 w18 := q18.below _
  have d18 : Below w16.heap.size w16 w18 := b17.trans (b18.mono b17.size)
  have HRD := hide (((unhide HFQ).kept d18).read hml Aa Ab ka ca kb cb _ _ (na.kp (ChgS.of d18)).now (nb.kp (ChgS.of d18)).now (show argN f.stk n4 < BIG by omega) (show argN f.stk n5 ≤ 100000000 by omega))
  clear na nb q18
  have hil : ∃ il, il = argN f.stk n5 := ⟨_, rfl⟩
  obtain ⟨il, hil⟩ := hil
  rw [← hil] at HRD hin5
  clear hil
  go_upto_region 30 with (go_at_call 117; refine (unhide HRD).mono ?_; rintro e w19 ⟨A19, c19, ys, rfl, s19, N19, b19⟩; have d19 : Below w16.heap.size w16 w19 := d18.trans (b19.mono d18.size); have hfx19 := (unhide HFX16).kept d19; have hex := hfx19.ex (i := 11) (by omega); rw [Nat.zero_add] at hex; obtain ⟨v11q, hx11⟩ := hex; have hf11 := hfx19.row.froz 11; have HFX19 := hide hfx19; have SS19 := hide s19; clear s19 hfx19)
  have k19 : KSrc E w19 A19 il c19 ys := KSrc.new (unhide SS19) (N19.later d18.size) (unhide HSR16).cw.ther
  have hyl : ys.length = il := (unhide SS19).len_eq
  have hfx20 := (unhide HFX19).put (j := 11) (by omega) ((unhide HFX19).kf.setInput k19)
  have ho20 : Only gb w19 (w19.setCell ⟨gb, 11, none⟩ (.slice A19 il c19)) := (Only.refl _ _).setCell _ _
  rw [Nat.zero_add] at hfx20
  obtain ⟨w20, hw20⟩ : ∃ y, y = w19.setCell ⟨gb, 11, none⟩ (.slice A19 il c19) := ⟨_, rfl⟩
  rw [← hw20] at hfx20 ho20
  rw [← hw20]
  have hfl20 : (fb15.set 11 (.slice A19 il c19)).length = 60 := by rw [List.length_set]; exact hfl15
  generalize fb15.set 11 (.slice A19 il c19) = fb20 at hfx20 hfl20
  have hsr20 := ((unhide HSR16).kept d19).off (Chg.ofOnly ho20) hEb (unhide HFX19).row hgbb hgbf
  have hrt20 := (Chg.ofOnly ho20).row ((unhide HRT16).kept d19) (Ne.symm hgbt)
  have m20 : Mv E w8 w20 := m16.trans ((Mv.of d19).trans (Mv.frame (unhide HFX19).row hEb (Chg.ofOnly ho20)))
  have HFX20 := hide hfx20
  have HSR20 := hide hsr20
  have HRT20 := hide hrt20
  have hrg20 := hrt20.rangeAll
  have HNA := hide (nativeAt_any ta w20 hta)
  clear hfx20 hsr20 hrt20 hw20 ho20 k19 hx11 hf11 HFX16 HSR16 HRT16 HFX19
  go_upto_region 31 with (first
    | ((with_reducible refine at_load 26 ?_); refine wpList_load_g rfl 26 (.tmp 10) rfl w3.heap.size 0 rfl (bv ta) _ hrg20 Sakg.underlying26 rfl htz ?_)
    | (go_at_call 108; refine (unhide HNA).mono ?_; rintro e w21 ⟨rfl, b21⟩; have hfx21 := (unhide HFX20).kept b21; have hex := hfx21.ex (i := 1) (by omega); rw [Nat.zero_add] at hex; obtain ⟨v1q, hx1⟩ := hex; have hf1 := hfx21.row.froz 1; have HFX21 := hide hfx21; clear hfx21))
  have hnl : nativeN ta ≤ 5 := by
    unfold nativeN
    split
    · omega
    · split <;> omega
  generalize nativeN ta = nt at hnl ⊢
  have hfx22 := (unhide HFX21).put (j := 1) (by omega) ((unhide HFX21).kf.setNative nt)
  have ho22 : Only gb w21 (w21.setCell ⟨gb, 1, none⟩ (.int .u8 nt)) := (Only.refl _ _).setCell _ _
  rw [Nat.zero_add] at hfx22
  obtain ⟨w22, hw22⟩ : ∃ y, y = w21.setCell ⟨gb, 1, none⟩ (.int .u8 (nt : Int)) := ⟨_, rfl⟩
  rw [← hw22] at hfx22 ho22
  rw [← hw22]
  have hfl22 : (fb20.set 1 (.int .u8 nt)).length = 60 := by rw [List.length_set]; exact hfl20
  have h221 : (fb20.set 1 (.int .u8 (nt : Int)))[1]? = some (.int .u8 nt) := List.getElem?_set_self (by omega)
  generalize fb20.set 1 (.int .u8 (nt : Int)) = fb22 at hfx22 hfl22 h221
  have hsr22 := ((unhide HSR20).kept b21).off (Chg.ofOnly ho22) hEb (unhide HFX21).row hgbb hgbf
  have hrt22 := (Chg.ofOnly ho22).row ((unhide HRT20).kept b21) (Ne.symm hgbt)
  have m22 : Mv E w8 w22 := m20.trans ((Mv.of b21).trans (Mv.frame (unhide HFX21).row hEb (Chg.ofOnly ho22)))
  have c122 : w22.cell? ⟨gb, 1, none⟩ = some (.int .u8 nt) := by rw [hfx22.row.cell]; exact h221
  have HFX22 := hide hfx22
  have HSR22 := hide hsr22
  have HRT22 := hide hrt22
  have e22 : Below w22.heap.size w22 w22.drew := Quiet.below ⟨1, rfl⟩ _
  clear hfx22 hsr22 hrt22 hw22 ho22 h221 hx1 hf1 HFX20 HSR20 HRT20 HFX21 hrg20
  go_upto_if 157 with fail
  go_cut [] (fun wc => ∃ (fbc : List Value) (code : List Int), FX E gb 0 fbc { childF kd st vv code sl cl with gas := cg', input := ys, native := nt } wc ∧ fbc.length = 60 ∧ code.length ≤ 256 ∧ (code ≠ [] → Live d5.accts ta) ∧ SR E bw gf cs5 fr12 d5 ({ f with gas := f.gas - sg } :: r) x wc ∧ Mv E w22 wc)
  case first =>
    --S8
    as_aux_lemma =>
    by_cases h0 : nt = 0
    case neg =>
      have t0 : ((nt : Int) == 0) = false := by rw [beq_eq_false_iff_ne]; omega
      go_wp2_with fail
      go_meet
      case rel => exact ⟨fb22, [], unhide HFX22, hfl22, by simp, fun hh => absurd rfl hh, unhide HSR22, Mv.refl _ _⟩
    case pos =>
      have t0 : ((nt : Int) == 0) = true := by rw [beq_iff_eq]; omega
      clear h0
      have HAC := hide (((unhide HSR22).kept e22).cw.account hg5 ta hta)
      go_upto_region 32 with fail
      refine wp_region_noPanic ?_
      refine wp_region_held_drew (S := fun w' => RowT 26 w' w3.heap.size (bv ta)) (by kernel_rfl) ((unhide HRT22).kept e22) (fun hHeld => ?_)
      refine held_takeD 0 (.pointer (some ⟨bw, 0, none⟩)) (some 158) (by rfl) (by rfl) (by kernel_rfl) (by kernel_rfl) (by kernel_rfl) (fun _ _ _ h => h) (.inl ⟨by rfl, fun _ _ => by rfl⟩) (hHeld) ?_
      simp only [Act.put, List.setIfInBounds_toArray, List.set_cons_zero, List.set_cons_succ]
      refine held_takeD 1 (.pointer (some ⟨bw, 0, none⟩)) (some 159) (by rfl) (by rfl) (by kernel_rfl) (by kernel_rfl) (by kernel_rfl) (fun _ _ _ h => h) (.inl ⟨by rfl, fun _ _ => by go_simp⟩) (hHeld) ?_
      simp only [Act.put, List.setIfInBounds_toArray, List.set_cons_zero, List.set_cons_succ]
      refine held_takeD 2 (.pointer (some ⟨bw, 0, none⟩)) (some 160) (by rfl) (by rfl) (by kernel_rfl) (by kernel_rfl) (by kernel_rfl) (fun _ _ _ h => h) (.inl ⟨by rfl, fun _ _ => by go_simp⟩) (hHeld) ?_
      simp only [Act.put, List.setIfInBounds_toArray, List.set_cons_zero, List.set_cons_succ]
      refine held_takeD 3 (.agg (bv ta).toArray) (some 161) (by rfl) (by rfl) (by kernel_rfl) (by kernel_rfl) (by kernel_rfl) (fun _ _ _ h => h) (yieldsIf_load_mid (by rfl) _ _ rfl _ _ rfl _ _ (fun wz hS => hS.rangeAll) hu rfl htz) (hHeld) ?_
      simp only [Act.put, List.setIfInBounds_toArray, List.set_cons_zero, List.set_cons_succ]
      refine held_one 4 (by kernel_rfl) (by rfl) (fun K' hK' => ?_)
      go_simp
      refine (unhide HAC).mono ?_
      rintro e w23 ⟨rs, rfl, hrs, b23⟩
      refine hK'.out _ _ ((unhide HRT22).kept (e22.trans (b23.mono e22.size))) ?_
      clear hK' K'
      have d23 : Below w22.heap.size w22 w23 := e22.trans (b23.mono e22.size)
      have s23 := (unhide HRT22).kept d23
      obtain ⟨B1, j1, x1, B2, j2, x2, B3, j3, x3, B4, j4, x4, q20, q21, q22, q23, s1, s2, s3, s4⟩ := hrs.cells
      have hfld := run_field_slice fldCode Sakg.underlying30 rs _ q22
      refine held_takeD 5 (.slice B3 j3 x3) (some 163) (by rfl) (by rfl) (by kernel_rfl) (by kernel_rfl) (by kernel_rfl) (fun _ _ _ h => h) (.inl ⟨by rfl, fun _ _ => by go_simp⟩) (s23) ?_
      simp only [Act.put, List.setIfInBounds_toArray, List.set_cons_zero, List.set_cons_succ]
      have hcl256 := (hg5.acc.look ta).code
      have hjl := s3.now.len_eq
      have HBO := hide (bytesOf_any B3 j3 x3 (lookY d5.accts ta).code w23 s3.now (by omega))
      refine held_one 6 (by kernel_rfl) (by rfl) (fun K' hK' => ?_)
      go_simp
      refine (unhide HBO).mono ?_
      rintro e w24 ⟨A24, k24, rfl, s24, -, N24, b24⟩
      refine hK'.out _ _ ((unhide HRT22).kept (d23.trans (b24.mono d23.size))) ?_
      clear hK' K'
      have d24 : Below w22.heap.size w22 w24 := d23.trans (b24.mono d23.size)
      have s24r := (unhide HRT22).kept d24
      refine held_takeD 7 (.pointer (some ⟨gb, 10, none⟩)) (some 165) (by rfl) (by rfl) (by kernel_rfl) (by kernel_rfl) (by kernel_rfl) (fun _ _ _ h => h) (.inl ⟨by rfl, fun _ _ => by go_simp⟩) (s24r) ?_
      simp only [Act.put, List.setIfInBounds_toArray, List.set_cons_zero, List.set_cons_succ]
      have hfx24 := (unhide HFX22).kept d24
      obtain ⟨v10q, hx10⟩ : ∃ v, w24.cell? ⟨gb, 10, none⟩ = some v := by
        obtain ⟨v, hv⟩ := hfx24.ex (i := 10) (by omega)
        exact ⟨v, by rw [Nat.zero_add] at hv; exact hv⟩
      have hf10 := hfx24.row.froz 10
      have kS24 : KSrc E w24 A24 k24 k24 (lookY d5.accts ta).code := KSrc.new s24 (N24.later d23.size) (unhide HSR22).cw.ther
      refine held_one 8 (by kernel_rfl) (by rfl) (fun K' hK' => ?_)
      go_simp
      obtain ⟨w25, hw25⟩ : ∃ y, y = w24.setCell ⟨gb, 10, none⟩ (.slice A24 k24 k24) := ⟨_, rfl⟩
      rw [← hw25]
      have ho25 : Only gb w24 w25 := by rw [hw25]; exact (Only.refl _ _).setCell _ _
      have hfx25 := hfx24.put (j := 10) (by omega) (hfx24.kf.setCode kS24)
      rw [Nat.zero_add, ← hw25] at hfx25
      have hsr25 := ((unhide HSR22).kept d24).off (Chg.ofOnly ho25) hEb hfx24.row hgbb hgbf
      have m25 : Mv E w22 w25 := (Mv.of d24).trans (Mv.frame hfx24.row hEb (Chg.ofOnly ho25))
      refine hK'.out _ _ ((Chg.ofOnly ho25).row s24r (Ne.symm hgbt)) ?_
      clear hK' K'
      refine wpAnyH_done (by kernel_rfl) ?_ _
      refine NoPanic.normal ?_
      have hfl25 : (fb22.set 10 (.slice A24 k24 k24)).length = 60 := by rw [List.length_set]; exact hfl22
      have HFX25 := hide hfx25
      have HSR25 := hide hsr25
      clear hfx25 hsr25 hfx24 hw25 ho25 kS24 hrs s1 s2 s3 s4 hfld q20 q21 q22 q23 s24 hx10 hf10 s24r s23
      go_wp2_with fail
      go_meet
      case rel => exact ⟨_, (lookY d5.accts ta).code, unhide HFX25, hfl25, hcl256, fun hh => .inr hh, unhide HSR25, m25⟩
    --E8
  case rest =>
  as_aux_lemma =>
  obtain ⟨w25, hw25⟩ : ∃ w25, w25 = wc := ⟨_, rfl⟩
  subst hw25
  obtain ⟨fb25, code, hfx25, hfl25, hcl, hcLive, hsr25, m2225⟩ := hcut
  have m25 : Mv E w8 w25 := m22.trans m2225
  have hfq25 := hsr25.fx
  rw [← unhide HO] at hfq25
  have HFQ25 := hide hfq25
  have HSR25 := hide hsr25
  have HFX25 := hide hfx25
  have HCL := hide hcLive
  have HAc := hide (hfq25.arg (show f.stk.length ≤ 1024 by omega) n6 hl6)
  clear hfq25 hsr25 hfx25 hcLive HSR22 HFX22 HRT22 c122
  go_wp2_with fail
  refine (unhide HAc).mono ?_
  rintro e w26 ⟨⟨Aa', ka', ca', rfl, na'⟩, q26⟩
  have b26 : Below w25.heap.size w25 w26 := q26.below _
  have HAd := hide ((unhide HFQ25).argAt b26 (show f.stk.length ≤ 1024 by omega) n7 hl7)
  have HNc := hide na'
  clear q26 na'
  go_wp2_with fail
  refine (unhide HAd).mono ?_
  rintro e w27 ⟨⟨Ab', kb', cb', rfl, nb'⟩, q27⟩
  have b27 : Below w26.heap.size w26 w27 := q27.below _
  have d27 : Below w25.heap.size w25 w27 := b26.trans (b27.mono b26.size)
  have hfq27 := (unhide HFQ25).kept d27
  have HWT := hide (hfq27.wait tk htk (show f.stk.length ≤ 64 by omega) Aa' ka' ca' _ ((unhide HNc).kp (ChgS.of d27)) hmC Ab' kb' cb' _ (nb'.kp (ChgS.of d27)) hmD)
  have HS27 := hide ((unhide HSR25).kept d27)
  have HB27 := hide ((unhide HFX25).kept d27)
  have HG25 := unhide HG5
  clear hfq27 nb' q27
  go_upto_region 34 with (go_at_call 304; refine (unhide HWT).mono ?_; rintro e w28 ⟨mO, hmO, rfl, fr28, hfx28, hfl28, hfe28, hch28⟩)
  have hfx28' := hfx28
  have hfe28' := hfe28
  rw [unhide HO] at hfx28' hfe28'
  have hsr28 := (unhide HS27).top hfx28' hfl28 (fun i hi => hfe28' i (.inl hi)) hch28
  have mv28 := Mv.frame (G := E) (unhide HS27).row (unhide HS27).g hch28
  have hb28 := (unhide HB27).go mv28 (hch28.row (unhide HB27).row hgbf)
  have m28 : Mv E w8 w28 := m25.trans ((Mv.of d27).trans mv28)
  have hrgF : w28.rangeAt gb 0 fb25 := hb28.row.rangeAll
  have hszF : (Sakg.prog.info? 194).map (·.size) = some fb25.length := by rw [hfl25]; exact sizeFrame
  have HEN := hide (enter_k hsr28.sb hsr28.fb hg5 (show wt d5 + 40000 ≤ 2250000000 by omega) _ fb25 hfl25 hb28.kfRow (show kd ≤ 7 by omega) (show vv < P256 by omega) (by have := unhide HNR; rw [List.length_cons]; omega))
  have HRGF := hide hrgF
  clear hfx28 hfe28 hfx28' hfe28' hsr28 hb28 hrgF hch28 hfl28
  go_wp2_with (first
    | ((with_reducible refine at_load 194 ?_); refine wpList_load_g rfl 194 (.tmp 13) rfl gb 0 rfl fb25 _ (unhide HRGF) Sakg.underlying194 rfl hszF ?_)
    | (go_at_call 110; refine (unhide HEN).mono ?_; rintro e w29 ⟨rfl, hen⟩; have HENT := hide hen; clear hen))
  refine bodyPost_done rfl rfl ?_
  obtain ⟨G', gf', cs', fr', d', hW', hM', hG', hL', hS'⟩ := unhide HENT
  rw [unhide HXR] at hS'
  refine ⟨rfl, G', gf', cs', fr', d', unhide HWID G' w28 hW' m28.size, unhide HMV w29 (m28.trans hM'), ((unhide HG5).trans hG').mono (by omega), .inr ⟨_, f.gas - sg, mO, argN f.stk n7, d5, hS', ?_, hmO, hmD, rfl, (unhide HG5).mono (by omega), ?_, rfl, rfl, rfl, by have := unhide HNR; omega, ?_, hG'.mono (by omega)⟩⟩
  · show cg' + (f.gas - sg) ≤ f.gas + stipN p f
    omega
  · exact ⟨by show 0 < P256; omega, by show vv < P256; omega, by show 0 < P256; omega, by show 0 < P256; omega, (fun y hy => by cases hy), by show 0 ≤ 64; omega, by show code.length ≤ 1000; omega, by show ys.length ≤ 1000000; omega, by show kd ≤ 7; omega, by show nt ≤ 255; omega⟩
  · intro hcode
    show Live d'.accts sl
    rcases hslt with hq | hq
    · rw [hq]; exact hG'.live _ (unhide HCL hcode)
    · rw [hq]; exact hG'.live _ (unhide HL5)
end

end Go.Proofs.YgcsakGreat
