/-
  yp: Begin in general.
-/
import Derived.Test.YgcsakGreatKtA
namespace Go.Proofs.YgcsakGreat
set_option linter.unusedVariables false
set_option linter.unusedSimpArgs false
set_option maxRecDepth 100000
open Go.RowKit

/-- what Begin lays in the rest of the state -/
structure OpenX (x x' : XD) (d : YTx) : Prop where
  eq : ∃ st s lf m, x' = opX x st [] s (x.applied + 1) d.gas (d.gas - intrN d) lf (priceN d x.fee) d.frm m
  b : XB x'
/-- what Begin leaves -/
def BegK (vn : Nat) (G : Nat → Prop) (bw B0 : Nat) (ds : List YAcct) (x : XD) (d : YTx) (w : World) (e : Ending) (w' : World) : Prop :=
  e = .returned (.int .u8 vn) ∧ ((vn ≠ 0 ∧ Below w.heap.size w w') ∨ (vn = 0 ∧ ∃ (G' : Nat → Prop) (cs' : List Value) (D : WD) (x' : XD) (B : Nat), Wider G G' w ∧ ChgS G w w' ∧ Tm w w' ∧ OpenX x x' d ∧ B + d.gas * priceN d x.fee = B0 ∧
    ((∃ gf fr f K, SR G' bw gf cs' fr D [f] x' w' ∧ Inv B K (d.gas - intrN d) [f] D ∧ K ≤ wt (freshD ds) + 425000000) ∨ (SE G' bw cs' D x' w' ∧ Good B D ∧ x'.left = 0 ∧ wt D ≤ wt (freshD ds) + 425000000))))
theorem infoAcc2 : (Sakg.prog.info? 191).map (fun i => (i.zero, i.size)) = some (some (.agg (bv (zeros 20) ++ [nilS]).toArray), 21) := by kernel_rfl
theorem wordsR.atK {w : World} {ao : Option Addr} {l c : Nat} {ks : List (List Int)} (h : wordsR w ao l c ks) (hl : 0 < l) : ∃ b off, ao = some ⟨b, off, none⟩ ∧ b < w.heap.size ∧ ∀ i, i < l → w.rangeAt b (off + i * 32) (bv (ks.getD i [])) ∧ IsW (ks.getD i []) := by
  obtain ⟨b, off, h1, h2, h3⟩ := h.1.at_ hl
  refine ⟨b, off, h1, h2, fun i hi => ?_⟩
  have hlen := h.len
  have h4 := h3 i hi
  rw [getD_map_bv ks i (by omega)] at h4
  exact ⟨h4, h.2 _ (mem_getD (by omega))⟩
theorem memGetD {α : Type} {xs : List α} {i : Nat} {d0 : α} (h : i < xs.length) : xs.getD i d0 ∈ xs := by simp [List.getD, h]
section
variable {G : Nat → Prop} {bw : Nat} {cs : List Value} {ds : List YAcct} {x : XD} {w : World} {B0 : Nat}
/-- the outer frame has been laid -/
theorem begin_end {E : Nat → Prop} {wz wy : World} {e' : Ending} {f : FD} {X : XD} {D : WD} {B tgs : Nat} {d : YTx} (hc : ChgS G w wz) (ht : Tm w wz) (hW : Wider G E w) (hent : EntK E bw B D f [] X wz e' wy) (hX : OpenX x X d) (hret : ({ X with ret := [] } : XD) = X) (hB : B + d.gas * priceN d x.fee = B0) (hs : Snd B D) (haf : AnyF f) (hfg : f.gas = tgs) (htgs : tgs = d.gas - intrN d) (hgas : d.gas ≤ 1048576) (hfm : f.ml = 0) (hfl : f.code ≠ [] → createsB f.kind = true ∨ Live D.accts f.self) (hwt : wt D ≤ wt (freshD ds) + 3000000) (hw2 : wt (freshD ds) + 425000000 ≤ 2249900000) : BegK 0 G bw B0 ds x d w (.returned (.int .u8 0)) wy := by
  obtain ⟨-, G', gf', cs', fr', D', hW2, hM2, hGr, hlv, hSR⟩ := hent
  rw [hret] at hSR
  have hz := hc.size
  have hw3 : Wider G G' w := ⟨fun i hi => hW2.sub i (hW.sub i hi), fun i hi hl => hW.new i (hW2.new i hi (by omega)) hl⟩
  have hi : Inv B (wt D + 10000 + 400 * (tgs + 30)) (d.gas - intrN d) [{ f with saved := D }] D' := inv_first hs hGr haf hfg hfm (fun hc => (hfl hc).elim hlv (hGr.live _)) (by omega) (by omega) (by omega)
  exact ⟨rfl, .inr ⟨rfl, G', cs', D', X, B, hw3, hc.then hM2.chg hW.new, ht.trans hM2.tm, hX, hB, .inl ⟨gf', fr', _, _, hSR, hi, by omega⟩⟩⟩
set_option maxHeartbeats 64000000 in
theorem begin_k (w0 : World) (hG0 : ∀ i, G i → w0.heap.size ≤ i) (hbelow : Below w0.heap.size w0 w) (hs0 : SI G bw 0 cs (freshD ds) x w) (hx : XB x) (hg0 : Good B0 (freshD ds)) (hwt : wt (freshD ds) + 425000000 ≤ 2249900000) (hap : x.applied ≤ 3)
    (r : List Value) (d : YTx) (A1 : Option Addr) (k1 c1 : Nat) (A2 : Option Addr) (k2 c2 : Nat) (h : TxC r d A1 k1 c1 A2 k2 c2) (hd0 : Src w0 A1 k1 c1 d.data) (ha0 : AccsR w0 A2 k2 c2 d.access) :
    Calls Sakg.prog 48 #[.pointer (some ⟨bw, 0, none⟩), .agg r.toArray] w (BegK (verdN ds x.glimit x.fee d) G bw B0 ds x d w) := by
  have hd := hd0.kept hbelow
  have ha := ha0.kept hbelow
  have hgb := hs0.cw.g
  have hw0 := hG0 bw hgb
  obtain ⟨W, hW⟩ : ∃ W, W = w.alloc (.cells r.toArray 33) := ⟨_, rfl⟩
  have hb0 : Below w.heap.size w W := by rw [hW]; exact (Below.refl _ _).alloc (Nat.le_refl _) _
  have hr0 : RowT 33 W w.heap.size r := by rw [hW]; exact RowT.new _ _ _
  obtain ⟨ao, l, c, hst1⟩ := (hs0.kept hb0).stn hx hg0 hap
  have HV := hide (verdict_n x.applied 107 bw cs W ao l c ds x.glimit x.fee hst1 r d A1 k1 c1 A2 k2 c2 h (hd.kept hb0) (ha.kept hb0))
  have hstT := hr0
  have HR0 := hide hr0.rangeAll
  have hsT : (Sakg.prog.info? 33).map (·.size) = some r.length := by rw [h.len]; exact sizeTx
  have hbs0 := hs0.kept hb0
  have hbwl := hs0.lt
  generalize hvn : verdN ds x.glimit x.fee d = vn at HV ⊢
  have HVN := hide hvn
  have HG0 := hide hg0
  have HX := hide hx
  have HROW0 := hide hs0.cw.row
  clear hr0 hvn hs0 hst1 hg0 hx
  go_enter Sakg.func48, Sakg.ntmps48
  go_upto_region 1 with fail
  rw [← hW]
  clear hW
  by_cases hv0 : vn = 0
  case neg =>
    have t0 : ((vn : Int) == 0) = false := by rw [beq_eq_false_iff_ne]; omega
    have t1 : ((vn : Int) != 0) = true := by rw [bne_iff_ne]; omega
    go_wp2_with (first
      | ((with_reducible refine at_load 33 ?_); refine wpList_load_g (by rfl) 33 (.tmp 3) rfl w.heap.size 0 rfl r _ (unhide HR0) Sakg.underlying33 rfl hsT ?_)
      | (go_at_call 98; refine (unhide HV).mono ?_; rintro e w2 ⟨rfl, b2⟩))
    go_ret
    exact ⟨rfl, .inl ⟨hv0, hb0.trans (b2.mono hb0.size)⟩⟩
  subst hv0
  go_upto_region 5 with (first
    | ((with_reducible refine at_load 33 ?_); refine wpList_load_g (by rfl) 33 (.tmp 3) rfl w.heap.size 0 rfl r _ (unhide HR0) Sakg.underlying33 rfl hsT ?_)
    | (go_at_call 98; refine (unhide HV).mono ?_; rintro e w2 ⟨rfl, b2⟩))
  have hVK := verdK (unhide HVN)
  have hgas := hVK.gas
  have hdl := hVK.data
  have hlb := hVK.list
  have HVK := hide hVK
  have bWw : Below w.heap.size w w2 := hb0.trans (b2.mono hb0.size)
  have hs2 := hbs0.kept b2
  have hbl2 := hs2.lt
  have hTl : w.heap.size < w2.heap.size := (hstT.kept b2).lt
  have hTn : w.heap.size ≠ bw := by omega
  have hT : ∀ wz, Chg bw w2 wz → RowT 33 wz w.heap.size r := fun wz hz => hz.row (hstT.kept b2) hTn
  have hB0 : ∀ wz, Chg bw w2 wz → Below w0.heap.size w0 wz := fun wz hz => (hbelow.trans (bWw.mono hbelow.size)).trans (hz.below w0.heap.size hw0 (by have := hbelow.size; have := bWw.size; omega))
  have hcW : ∀ wz, Chg bw w2 wz → Chg bw w wz := fun wz hz => (Chg.of bWw).trans hz
  have HT := hide hT
  have HB0 := hide hB0
  have HCW := hide hcW
  have HS2 := hide hs2
  have hfrm := h.hfrm
  have hdst := h.hdst
  have hu := Sakg.underlying26
  have huT := Sakg.underlying33
  have hszf := hfrm.size
  have hszd := hdst.size
  have hfr : ∀ wz, Chg bw w2 wz → wz.rangeAt w.heap.size 0 (bv d.frm) := fun wz hz => by have := (hT wz hz).range 0 20; rwa [h.frm] at this
  have HFR := hide hfr
  have d2 : Below w2.heap.size w2 w2.drew := Quiet.below ⟨1, rfl⟩ _
  have HACC := hide (fun wz (hz : Below w2.heap.size w2 wz) => hs2.cw.accountW (unhide HG0) hz d.frm hfrm)
  obtain ⟨xx, hxx⟩ : ∃ xx, xx = lookY (freshD ds).accts d.frm := ⟨_, rfl⟩
  rw [← hxx] at HACC
  have HXX := hide hxx
  obtain ⟨an, han⟩ : ∃ an, an = x.applied + 1 := ⟨_, rfl⟩
  have hanI : (x.applied : Int) + 1 = (an : Int) := by omega
  have hwan : IntKind.u8.wrap (an : Int) = (an : Int) := by
    have h4 : an = 1 ∨ an = 2 ∨ an = 3 ∨ an = 4 := by omega
    rcases h4 with h4 | h4 | h4 | h4 <;> rw [h4] <;> rfl
  have HAN := hide han
  clear hs2 hT hB0 hcW hfr hbs0 hstT HV HR0 hd ha hVK hxx han
  go_cut [7] (fun s7 wc => ∃ (gA : Nat) (ra : List Value), s7 = .pointer (some ⟨gA, 0, none⟩) ∧ w2.heap.size ≤ gA ∧ RowT 113 wc gA ra ∧ KAcct G w2 ra xx ∧ Below w2.heap.size w2 wc)
  case first =>
    --S6
    as_aux_lemma =>
    refine wp_region_noPanic ?_
    refine wp_region_held_drew (S := fun w' => Chg bw w2 w') (by kernel_rfl) (Chg.of d2) (fun hHeld => ?_)
    refine held_takeD 0 (.pointer (some ⟨bw, 0, none⟩)) (some 27) (by rfl) (by rfl) (by kernel_rfl) (by kernel_rfl) (by kernel_rfl) (fun _ _ _ h => h) (.inl ⟨by rfl, fun _ _ => by rfl⟩) (hHeld) ?_
    simp only [Act.put, List.setIfInBounds_toArray, List.set_cons_zero, List.set_cons_succ]
    refine held_takeD 1 (.pointer (some ⟨bw, 0, none⟩)) (some 28) (by rfl) (by rfl) (by kernel_rfl) (by kernel_rfl) (by kernel_rfl) (fun _ _ _ h => h) (.inl ⟨by rfl, fun _ _ => by go_simp⟩) (hHeld) ?_
    simp only [Act.put, List.setIfInBounds_toArray, List.set_cons_zero, List.set_cons_succ]
    refine held_takeD 2 (.pointer (some ⟨bw, 0, none⟩)) (some 29) (by rfl) (by rfl) (by kernel_rfl) (by kernel_rfl) (by kernel_rfl) (fun _ _ _ h => h) (.inl ⟨by rfl, fun _ _ => by go_simp⟩) (hHeld) ?_
    simp only [Act.put, List.setIfInBounds_toArray, List.set_cons_zero, List.set_cons_succ]
    refine held_takeD 3 (.pointer (some ⟨w.heap.size, 0, none⟩)) (some 30) (by rfl) (by rfl) (by kernel_rfl) (by kernel_rfl) (by kernel_rfl) (fun _ _ _ h => h) (.inl ⟨by rfl, fun _ _ => by go_simp⟩) (hHeld) ?_
    simp only [Act.put, List.setIfInBounds_toArray, List.set_cons_zero, List.set_cons_succ]
    refine held_takeD 4 (.agg (bv d.frm).toArray) (some 31) (by rfl) (by rfl) (by kernel_rfl) (by kernel_rfl) (by kernel_rfl) (fun _ _ _ h => h) (yieldsIf_load_mid (by rfl) _ _ rfl _ _ rfl _ _ (fun wz hS => unhide HFR wz hS) hu rfl hszf) (hHeld) ?_
    simp only [Act.put, List.setIfInBounds_toArray, List.set_cons_zero, List.set_cons_succ]
    refine held_two 5 6 (by kernel_rfl) (by rfl) (by rfl) (fun K' hK' => ?_) (fun K' hK' => ?_)
    · go_simp
      refine (unhide HACC _ d2).mono ?_
      rintro e wq ⟨ra, rfl, hrow, bq⟩
      have dq := d2.trans (bq.mono d2.size)
      have hrl := hrow.now.len
      refine hK'.out _ _ (Chg.of dq) ?_
      clear hK' K'
      refine held_one 6 (by kernel_rfl) (by rfl) (fun K' hK' => ?_)
      refine if_alloc (some 7) rfl 113 rfl (by rfl) _ 24 infoAcct2 (by simp [bv_len, zeros_len]) (fun wA rA bA sA => ?_)
      have dA := dq.trans (bA.mono dq.size)
      refine hK'.out _ _ (Chg.of dA) ?_
      clear hK' K'
      simp only [Act.put, List.setIfInBounds_toArray, List.set_cons_zero, List.set_cons_succ]
      refine held_one 7 (by kernel_rfl) (by rfl) (fun K' hK' => ?_)
      refine if_store rfl (by rfl) 113 (.tmp 7) (.tmp 32) rfl wq.heap.size 0 113 _ ra rfl rfl rA (by rw [hrl]; simp [bv_len, zeros_len]) (by rw [hrl]; exact sizeAcct) hrow.now.one (fun wS rS oS => ?_)
      have dS : Below w2.heap.size w2 wS := dA.trans (oS.below _ (by exact dq.size))
      refine hK'.out _ _ (Chg.of dS) ?_
      clear hK' K'
      refine wpAnyH_done (by kernel_rfl) ?_ _
      refine NoPanic.normal ?_
      rw [spl_all _ _ (by rw [hrl]; simp [bv_len, zeros_len])] at rS
      go_wp2_with fail
      go_meet
      case rel => exact ⟨_, ra, rfl, dq.size, rS, hrow, dS⟩
    · refine if_alloc (some 7) rfl 113 rfl (by rfl) _ 24 infoAcct2 (by simp [bv_len, zeros_len]) (fun wA rA bA sA => ?_)
      have dA := d2.trans (bA.mono d2.size)
      refine hK'.out _ _ (Chg.of dA) ?_
      clear hK' K'
      simp only [Act.put, List.setIfInBounds_toArray, List.set_cons_zero, List.set_cons_succ]
      refine held_one 5 (by kernel_rfl) (by rfl) (fun K' hK' => ?_)
      go_simp
      refine (unhide HACC _ dA).mono ?_
      rintro e wq ⟨ra, rfl, hrow, bq⟩
      have dq := dA.trans (bq.mono dA.size)
      have hrl := hrow.now.len
      refine hK'.out _ _ (Chg.of dq) ?_
      clear hK' K'
      refine held_one 7 (by kernel_rfl) (by rfl) (fun K' hK' => ?_)
      refine if_store rfl (by rfl) 113 (.tmp 7) (.tmp 32) rfl w2.heap.size 0 113 _ ra rfl rfl (rA.kept bq) (by rw [hrl]; simp [bv_len, zeros_len]) (by rw [hrl]; exact sizeAcct) hrow.now.one (fun wS rS oS => ?_)
      have dS : Below w2.heap.size w2 wS := dq.trans (oS.below _ (by exact Nat.le_refl _))
      refine hK'.out _ _ (Chg.of dS) ?_
      clear hK' K'
      refine wpAnyH_done (by kernel_rfl) ?_ _
      refine NoPanic.normal ?_
      rw [spl_all _ _ (by rw [hrl]; simp [bv_len, zeros_len])] at rS
      go_wp2_with fail
      go_meet
      case rel => exact ⟨_, ra, rfl, Nat.le_refl _, rS, hrow, dS⟩
    --E6
  case rest =>
    as_aux_lemma =>
    obtain ⟨w3, hw3⟩ : ∃ w3, w3 = wc := ⟨_, rfl⟩
    subst hw3
    obtain ⟨gA, ra, rfl, hgA, hrA, hrow, b3⟩ := hcut
    have c23 : Chg bw w2 w3 := Chg.of b3
    have hs3 := (unhide HS2).kept b3
    have hgAl := hrA.lt
    have hA : ∀ wz, Chg bw w3 wz → RowT 113 wz gA ra := fun wz hz => hz.row hrA (by omega)
    obtain ⟨B1, j1, f1, B2, j2, f2, B3, j3, f3, B4, j4, f4, q20, q21, q22, q23, s1, s2, s3, s4⟩ := hrow.cells
    have hA20 : ∀ wz, Chg bw w3 wz → wz.cell? ⟨gA, 20, none⟩ = some (.slice B1 j1 f1) := fun wz hz => by rw [(hA wz hz).cell]; exact q20
    have hA21 : ∀ wz, Chg bw w3 wz → wz.cell? ⟨gA, 21, none⟩ = some (.slice B2 j2 f2) := fun wz hz => by rw [(hA wz hz).cell]; exact q21
    have hN1 : ∀ wz, Chg bw w3 wz → IsNat wz B1 j1 f1 xx.nonce := fun wz hz => (s1.kp (ChgS.chg (c23.trans hz) hgb)).now
    have hN2 : ∀ wz, Chg bw w3 wz → IsNat wz B2 j2 f2 xx.bal := fun wz hz => (s2.kp (ChgS.chg (c23.trans hz) hgb)).now
    have hxg : GoodA xx := by rw [unhide HXX]; exact (unhide HG0).acc.look _
    have hxB : xx.bal ≤ B0 := by rw [unhide HXX]; exact (unhide HG0).acc.bal _
    have hB0P := (unhide HG0).tot
    have hxnB : xx.nonce < BIG := nonce_big hxg.non
    have hxbB : xx.bal < BIG := bal_big hxB hB0P
    have HA20 := hide hA20
    have HA21 := hide hA21
    have HN1 := hide hN1
    have HN2 := hide hN2
    have HS3 := hide hs3
    have hbl3 := hs3.lt
    have hfrd : w3.rangeAt w.heap.size 20 (bv d.dst) := by have := (unhide HT w3 c23).range 20 20; rwa [h.dst] at this
    have HFRD := hide hfrd
    have hz20 : (bv (zeros 20)).length = 20 := by rw [bv_len, zeros_len]
    have hcl := hs3.cw.len
    clear hrA hA hrow s1 s2 s3 s4 q20 q21 q22 q23 hA20 hA21 hN1 hN2 hs3 hfrd HACC HS2
    go_upto_region 7 with (first
      | ((with_reducible refine at_load 26 ?_); refine wpList_load_g (by rfl) 26 (.tmp 33) rfl w.heap.size 20 rfl (bv d.dst) _ (unhide HFRD) hu rfl hszd ?_)
      | ((with_reducible refine at_alloc 26 ?_); refine wpList_alloc_g (by rfl) 26 rfl (bv (zeros 20)) 20 infoAddr2 hz20 ?_)
      | ((with_reducible refine at_store 26 ?_); refine wpList_store_whole rfl 26 (.tmp 8) (.tmp 34) rfl _ _ _ (bv d.dst) rfl rfl (RowT.new _ _ _) (by rw [hz20, bv_len, hdst.len]) hszd (bv_one _) ?_; intro w4 hr4 hon4; have hbb4 := box_below hon4; clear hon4))
    have b34 := hbb4.1
    have hs4 := (unhide HS3).kept b34
    have HR4C := hide hs4.cw.row
    have HS4 := hide hs4
    have HR4 := hide hr4
    have hszz : (Sakg.prog.info? 26).map (·.size) = some (bv (zeros 20)).length := by rw [hz20]; exact sizeAddr
    clear hbb4 hs4 hr4
    go_upto_region 8 with (first
      | ((with_reducible refine at_build 26 ?_); refine wpList_build_run (by rfl) 26 [] rfl (.agg (bv (zeros 20)).toArray) (run_zaddr _) ?_)
      | ((with_reducible refine at_store 26 ?_); refine wpList_store_part rfl 26 (.tmp 38) (.tmp 36) rfl bw 39 107 cs (bv (zeros 20)) rfl rfl (unhide HR4C) (by rw [hz20, hcl]; omega) hszz (bv_one _) ?_; intro w5 hr5 hon5))
    have hs5 : SI G bw 0 (spl cs 39 (bv (zeros 20))) (freshD ds) (opX x x.start x.ret x.status x.applied x.limit x.txgas x.left x.price x.origin (zeros 20)) w5 := (unhide HS4).setMade zeros_adr hr5 hon5
    have hxs5 : XS G (spl cs 39 (bv (zeros 20))) (opX x x.start x.ret x.status x.applied x.limit x.txgas x.left x.price x.origin (zeros 20)) w3 := (unhide HS3).xs.setMade hcl zeros_adr
    have hlo5 : ∀ i, i < 8 → (spl cs 39 (bv (zeros 20)))[i]? = cs[i]? := fun i hi => spl_get (by rw [hz20, hcl]; omega) i (by omega)
    generalize spl cs 39 (bv (zeros 20)) = cs5 at hr5 hs5 hxs5 hlo5
    have c35 : Chg bw w3 w5 := (Chg.of b34).trans (Chg.ofOnly hon5)
    obtain ⟨v9, hx5⟩ := hs5.cw.ex (i := 9) (by omega)
    have hf5 := hr5.froz 9
    have HS5 := hide hs5
    clear hr5 hs5 HS4 HR4C
    go_upto_region 9 with fail
    obtain ⟨w6, hw6⟩ : ∃ y, y = w5.setCell ⟨bw, 9, none⟩ (Value.slice none 0 0) := ⟨_, rfl⟩
    rw [← hw6]
    obtain ⟨hs6, o6⟩ := (unhide HS5).setFrames
    rw [show w5.setCell ⟨bw, 9, none⟩ nilS = w6 from hw6.symm] at hs6 o6
    have hxs6 : XS G (cs5.set 9 nilS) (opX x x.start x.ret x.status x.applied x.limit x.txgas x.left x.price x.origin (zeros 20)) w3 := hxs5.eq (fun i hi h9 _ => List.getElem?_set_ne (Ne.symm h9))
    have hlo6 : ∀ i, i < 8 → (cs5.set 9 nilS)[i]? = cs[i]? := fun i hi => (List.getElem?_set_ne (by omega)).trans (hlo5 i hi)
    generalize cs5.set 9 nilS = cs6 at hs6 hxs6 hlo6
    have HXS6 := hide hxs6
    have HLO6 := hide hlo6
    have c36 : Chg bw w3 w6 := c35.trans (Chg.ofOnly o6)
    have rt6 : RowT 26 w6 w3.heap.size (bv d.dst) := ((unhide HR4).only hon5 (by omega)).only o6 (by omega)
    have e40 : w6.cell? ⟨w.heap.size, 40, none⟩ = some (.bool d.create) := by rw [(unhide HT w6 (c23.trans c36)).cell]; exact h.create
    obtain ⟨cr, hcr⟩ : ∃ cr, cr = d.create := ⟨_, rfl⟩
    rw [← hcr] at e40
    have HCR := hide hcr
    have HS6 := hide hs6
    have RT6 := hide rt6
    have hl6 := hs6.cw.len
    clear hw6 hs6 rt6 hx5 hf5 hcr HS5 HR4 hxs5 hxs6 hlo5 hlo6
    go_upto_if 43 with fail
    go_cut [8] (fun s8 wc => s8 = .pointer (some ⟨w3.heap.size, 0, none⟩) ∧ ∃ (tg md : List Int) (cs' : List Value), IsAddr tg ∧ IsAddr md ∧ RowT 26 wc w3.heap.size (bv tg) ∧ SI G bw 0 cs' (freshD ds) (opX x x.start x.ret x.status x.applied x.limit x.txgas x.left x.price x.origin md) wc ∧ Chg bw w3 wc)
    case first =>
      --S1
      as_aux_lemma =>
      cases cr with
      | false =>
        go_wp2_with fail
        go_meet
        case rel => exact ⟨rfl, d.dst, zeros 20, cs6, hdst, zeros_adr, unhide RT6, unhide HS6, c36⟩
      | true =>
        have hfr6 := unhide HFR w6 (c23.trans c36)
        have e20 := unhide HA20 w6 c36
        have HFR6 := hide hfr6
        have HCA := hide (createAddr_any d.frm B1 j1 f1 xx.nonce w6 hfrm (unhide HN1 w6 c36) hxnB)
        clear hfr6
        go_upto_region 11 with (first
          | ((with_reducible refine at_load 26 ?_); refine wpList_load_g (by rfl) 26 (.tmp 44) rfl w.heap.size 0 rfl (bv d.frm) _ (unhide HFR6) hu rfl hszf ?_)
          | (go_at_call 100; refine (unhide HCA).mono ?_; rintro e w7 ⟨⟨tg, rfl, htg⟩, b7⟩; have RT7 := hide ((unhide RT6).kept b7))
          | ((with_reducible refine at_store 26 ?_); refine wpList_store_whole rfl 26 (.tmp 8) (.tmp 48) rfl w3.heap.size 26 (bv d.dst) (bv tg) rfl rfl (unhide RT7) (by rw [bv_len, bv_len, hdst.len, htg.len]) htg.size (bv_one _) ?_; intro w8 hr8 hon8))
        have c38 : Chg bw w3 w8 := (c36.trans (Chg.of b7)).onlyNew hon8 (Nat.le_refl _)
        have hs8 : SI G bw 0 cs6 (freshD ds) (opX x x.start x.ret x.status x.applied x.limit x.txgas x.left x.price x.origin (zeros 20)) w8 := (unhide HS3).turn (((unhide HS6).cw.row.kept b7).only hon8 (by omega)) hl6 (unhide HLO6) (ChgS.chg c38 hgb) ((unhide HXS6).go (ChgS.chg c38 hgb)) (unhide HS6).phase (unhide HS6).frames
        have HS8 := hide hs8
        have HR8 := hide hs8.cw.row
        have HRG8 := hide hr8.rangeAll
        have hszt := htg.size
        have RT8 := hide hr8
        have hle8 : 39 + (bv tg).length ≤ cs6.length := by rw [bv_len, htg.len, hl6]; omega
        clear hs8 hr8
        go_wp2_with (first
          | ((with_reducible refine at_load 26 ?_); refine wpList_load_g (by rfl) 26 (.tmp 8) rfl w3.heap.size 0 rfl (bv tg) _ (unhide HRG8) hu rfl hszt ?_)
          | ((with_reducible refine at_store 26 ?_); refine wpList_store_part rfl 26 (.tmp 52) (.tmp 50) rfl bw 39 107 cs6 (bv tg) rfl rfl (unhide HR8) hle8 hszt (bv_one _) ?_; intro w9 hr9 hon9))
        go_meet
        case rel => exact ⟨rfl, tg, tg, _, htg, htg, (unhide RT8).only hon9 (by omega), (unhide HS8).setMade htg hr9 hon9, c38.trans (Chg.ofOnly hon9)⟩
      --E1
    case rest =>
      as_aux_lemma =>
      obtain ⟨w10, hw10⟩ : ∃ w10, w10 = wc := ⟨_, rfl⟩
      subst hw10
      obtain ⟨rfl, tg, md, cs10, htg, hmd, rt10, hs10, c310⟩ := hcut
      have hszt := htg.size
      have hTg : ∀ wz, Chg bw w10 wz → RowT 26 wz w3.heap.size (bv tg) := fun wz hz => hz.row rt10 (by omega)
      have HTG := hide hTg
      have e13 : w10.cell? ⟨bw, 13, none⟩ = some (.int .u8 x.applied) := hs10.cw.cell hs10.xs.applied
      have f13 := hs10.cw.row.froz 13
      have HS10 := hide hs10
      have hbl10 := hs10.lt
      clear hTg rt10 hs10 HS6 HXS6 HLO6 RT6 e40 HFRD c35 c36 o6 hon5
      go_upto_region 13 with fail
      obtain ⟨w11, hw11⟩ : ∃ y, y = w10.setCell ⟨bw, 13, none⟩ (Value.int .u8 an) := ⟨_, rfl⟩
      rw [← hw11]
      have hs11 : SI G bw 0 (cs10.set 13 (Value.int .u8 an)) (freshD ds) (opX x x.start x.ret x.status an x.limit x.txgas x.left x.price x.origin md) w11 := hw11 ▸ ((unhide HS10).setApplied an).1
      have c11 : Chg bw w10 w11 := hw11 ▸ Chg.ofOnly ((unhide HS10).setApplied an).2
      generalize cs10.set 13 (Value.int .u8 an) = cs11 at hs11
      have HS11 := hide hs11
      have hbl11 := hs11.lt
      have e42 : w11.cell? ⟨w.heap.size, 42, none⟩ = some (.int .u64 d.gas) := by rw [(unhide HT w11 (c23.trans (c310.trans c11))).cell]; exact h.gas
      have hgas8 := h.hgas
      clear hs11 hw11 e13 f13 HS10
      go_upto_region 14 with (go_at_call 97; refine (num_any d.gas w11 hgas8).mono ?_; rintro e w12 ⟨A12, k12, c12, rfl, n12, N12, b12⟩; have hs12 := (unhide HS11).kept b12; obtain ⟨v14, hx14⟩ := hs12.cw.ex (i := 14) (by omega); have hf14 := hs12.cw.row.froz 14; have HS12 := hide hs12; have NN12 := hide (KNat.new (G := G) n12 N12 (unhide HS11).cw.ther); clear hs12 n12)
      obtain ⟨w13, hw13⟩ : ∃ y, y = w12.setCell ⟨bw, 14, none⟩ (Value.slice A12 k12 c12) := ⟨_, rfl⟩
      rw [← hw13]
      have hs13 : SI G bw 0 (cs11.set 14 (Value.slice A12 k12 c12)) (freshD ds) (opX x x.start x.ret x.status an d.gas x.txgas x.left x.price x.origin md) w13 := hw13 ▸ ((unhide HS12).setLimit (unhide NN12)).1
      have o13 : Only bw w12 w13 := hw13 ▸ ((unhide HS12).setLimit (unhide NN12)).2
      have c13 : Chg bw w10 w13 := c11.trans ((Chg.of b12).trans (Chg.ofOnly o13))
      have h1314 : (cs11.set 14 (Value.slice A12 k12 c12))[14]? = some (Value.slice A12 k12 c12) := List.getElem?_set_self (by rw [(unhide HS12).cw.len]; omega)
      generalize cs11.set 14 (Value.slice A12 k12 c12) = cs13 at hs13 h1314
      have HS13 := hide hs13
      have NL13 := hide ((unhide NN12).kp (ChgS.only o13 hgb))
      have H1314 := hide h1314
      have hbl13 := hs13.lt
      have d13 : Below w13.heap.size w13 w13.drew := Quiet.below ⟨1, rfl⟩ _
      have hsT' : (Sakg.prog.info? 33).map (·.size) = some r.length := hsT
      have c213 : Chg bw w2 w13 := c23.trans (c310.trans c13)
      have hS14 : ∀ wz, Below w13.heap.size w13 wz → RowT 33 wz w.heap.size r ∧ wz.cell? ⟨bw, 14, none⟩ = some (.slice A12 k12 c12) := fun wz hz => ⟨unhide HT wz (c213.trans (Chg.of hz)), ((unhide HS13).kept hz).cw.cell (unhide H1314)⟩
      have HS14 := hide hS14
      obtain ⟨tgs, htgs⟩ : ∃ tgs, tgs = d.gas - intrN d := ⟨_, rfl⟩
      have HTGS := hide htgs
      clear hs13 h1314 hw13 hx14 hf14 HS12 NN12 HS11 e42 hS14
      as_aux_lemma =>
      refine wp_region_noPanic ?_
      refine wp_region_held_drew (S := fun w' => RowT 33 w' w.heap.size r ∧ w'.cell? ⟨bw, 14, none⟩ = some (.slice A12 k12 c12)) (by kernel_rfl) (unhide HS14 _ d13) (fun hHeld => ?_)
      refine held_takeD 0 (.pointer (some ⟨bw, 0, none⟩)) (some 66) (by rfl) (by rfl) (by kernel_rfl) (by kernel_rfl) (by kernel_rfl) (fun _ _ _ h => h) (.inl ⟨by rfl, fun _ _ => by rfl⟩) (hHeld) ?_
      simp only [Act.put, List.setIfInBounds_toArray, List.set_cons_zero, List.set_cons_succ]
      refine held_takeD 1 (.pointer (some ⟨bw, 0, none⟩)) (some 67) (by rfl) (by rfl) (by kernel_rfl) (by kernel_rfl) (by kernel_rfl) (fun _ _ _ h => h) (.inl ⟨by rfl, fun _ _ => by rfl⟩) (hHeld) ?_
      simp only [Act.put, List.setIfInBounds_toArray, List.set_cons_zero, List.set_cons_succ]
      refine held_takeD 2 (.pointer (some ⟨bw, 0, none⟩)) (some 68) (by rfl) (by rfl) (by kernel_rfl) (by kernel_rfl) (by kernel_rfl) (fun _ _ _ h => h) (.inl ⟨by rfl, fun _ _ => by go_simp⟩) (hHeld) ?_
      simp only [Act.put, List.setIfInBounds_toArray, List.set_cons_zero, List.set_cons_succ]
      refine held_takeD 3 (.pointer (some ⟨bw, 14, none⟩)) (some 69) (by rfl) (by rfl) (by kernel_rfl) (by kernel_rfl) (by kernel_rfl) (fun _ _ _ h => h) (.inl ⟨by rfl, fun _ _ => by go_simp⟩) (hHeld) ?_
      simp only [Act.put, List.setIfInBounds_toArray, List.set_cons_zero, List.set_cons_succ]
      refine held_takeD 4 (.slice A12 k12 c12) (some 70) (by rfl) (by rfl) (by kernel_rfl) (by kernel_rfl) (by kernel_rfl) (fun _ _ _ h => h) (.inl ⟨by rfl, fun wS hS => by have hc := hS.2; go_simp⟩) (hHeld) ?_
      simp only [Act.put, List.setIfInBounds_toArray, List.set_cons_zero, List.set_cons_succ]
      refine held_takeD 5 (.agg r.toArray) (some 71) (by rfl) (by rfl) (by kernel_rfl) (by kernel_rfl) (by kernel_rfl) (fun _ _ _ h => h) (yieldsIf_load_mid (by rfl) _ _ rfl _ _ rfl _ _ (fun wz hS => hS.1.rangeAll) huT rfl hsT') (hHeld) ?_
      simp only [Act.put, List.setIfInBounds_toArray, List.set_cons_zero, List.set_cons_succ]
      have b0d := unhide HB0 _ (c213.trans (Chg.of d13))
      refine held_one 6 (by kernel_rfl) (by rfl) (fun K' hK' => ?_)
      go_simp
      refine (intrinsic_any r d A1 k1 c1 A2 k2 c2 w13.drew h (hd0.kept b0d) (ha0.kept b0d) (by rw [← hd0.len_eq]; exact hdl) hlb).mono ?_
      rintro e w14 ⟨A14, k14, c14, rfl, n14, b14⟩
      refine hK'.out _ _ (unhide HS14 _ (d13.trans (b14.mono d13.size))) ?_
      clear hK' K'
      have d14 := d13.trans (b14.mono d13.size)
      refine held_one 7 (by kernel_rfl) (by rfl) (fun K' hK' => ?_)
      go_simp
      refine (less_any A12 A14 k12 k14 c12 c14 d.gas (intrN d) w14 ((unhide NL13).kp (ChgS.of d14)).now n14 (Nat.lt_of_lt_of_le hgas8 (big_pow 8 (by omega))) (intrN_big d hdl hlb)).mono ?_
      rintro e w15 ⟨A15, k15, c15, rfl, n15, N15, b15⟩
      refine hK'.out _ _ (unhide HS14 _ (d14.trans (b15.mono d14.size))) ?_
      clear hK' K'
      have d15 := d14.trans (b15.mono d14.size)
      refine held_takeD 8 (.pointer (some ⟨bw, 0, none⟩)) (some 74) (by rfl) (by rfl) (by kernel_rfl) (by kernel_rfl) (by kernel_rfl) (fun _ _ _ h => h) (.inl ⟨by rfl, fun _ _ => by go_simp⟩) (unhide HS14 _ d15) ?_
      simp only [Act.put, List.setIfInBounds_toArray, List.set_cons_zero, List.set_cons_succ]
      refine held_takeD 9 (.pointer (some ⟨bw, 15, none⟩)) (some 75) (by rfl) (by rfl) (by kernel_rfl) (by kernel_rfl) (by kernel_rfl) (fun _ _ _ h => h) (.inl ⟨by rfl, fun _ _ => by go_simp⟩) (unhide HS14 _ d15) ?_
      simp only [Act.put, List.setIfInBounds_toArray, List.set_cons_zero, List.set_cons_succ]
      rw [← htgs] at n15
      have hs15 := (unhide HS13).kept d15
      have nt15 : KNat G w15 A15 k15 c15 tgs := KNat.new n15 (N15.later d14.size) (unhide HS13).cw.ther
      obtain ⟨v15, hx15⟩ := hs15.cw.ex (i := 15) (by omega)
      have hf15 := hs15.cw.row.froz 15
      refine held_one 10 (by kernel_rfl) (by rfl) (fun K' hK' => ?_)
      go_simp
      obtain ⟨w16, hw16⟩ : ∃ y, y = w15.setCell ⟨bw, 15, none⟩ (Value.slice A15 k15 c15) := ⟨_, rfl⟩
      rw [← hw16]
      have hs16 : SI G bw 0 (cs13.set 15 (Value.slice A15 k15 c15)) (freshD ds) (opX x x.start x.ret x.status an d.gas tgs x.left x.price x.origin md) w16 := hw16 ▸ (hs15.setTxgas nt15).1
      have o16 : Only bw w15 w16 := hw16 ▸ (hs15.setTxgas nt15).2
      have c1316 : Chg bw w13 w16 := (Chg.of d15).trans (Chg.ofOnly o16)
      have h1614 : (cs13.set 15 (Value.slice A15 k15 c15))[14]? = some (Value.slice A12 k12 c12) := by rw [List.getElem?_set_ne (by omega)]; exact unhide H1314
      generalize cs13.set 15 (Value.slice A15 k15 c15) = cs16 at hs16 h1614
      refine hK'.out _ _ ⟨unhide HT w16 (c213.trans c1316), hs16.cw.cell h1614⟩ ?_
      clear hK' K' hw16
      refine wpAnyH_done (by kernel_rfl) ?_ _
      refine NoPanic.normal ?_
      have c216 : Chg bw w2 w16 := c213.trans c1316
      have HTX16 := hide (unhide HT w16 c216).rangeAll
      have hfee := (unhide HX).fee
      have hX3 : XB (opX x x.start x.ret x.status an d.gas tgs x.left x.price x.origin md) := (unhide HX).opens (unhide HX).start (unhide HX).nstart (unhide HX).ret hgas (by rw [htgs]; omega) (unhide HX).left (unhide HX).price (unhide HX).origin hmd
      have hfe16 : w16.rangeAt bw 146 (bv x.fee) := hs16.feeR hX3
      have HPR := hide (price_exact bw x.fee r d A1 k1 c1 A2 k2 c2 w16 hs16.lt hfe16 hfee h)
      obtain ⟨pn, hpn⟩ : ∃ pn, pn = priceN d x.fee := ⟨_, rfl⟩
      rw [← hpn] at HPR
      have hpm := (unhide HVK).price
      rw [← hpn] at hpm
      have hmostP : beN (mostW d) < P256 := h.most.lt
      have hpnP : pn < P256 := by omega
      have HPN := hide hpn
      have HS16 := hide hs16
      have hbl16 := hs16.lt
      clear hs16 h1614 hs15 hx15 hf15 n14 n15 N15 HS13 H1314 NL13 HS14 hX3 hfe16 hpn htgs nt15
      as_aux_lemma =>
      go_upto_region 16 with (first
        | ((with_reducible refine at_load 33 ?_); refine wpList_load_g (by rfl) 33 (.tmp 3) rfl w.heap.size 0 rfl r _ (unhide HTX16) huT rfl hsT' ?_)
        | (go_at_call 103; refine (unhide HPR).mono ?_; rintro e w17 ⟨A17, k17, c17, rfl, n17, N17, b17⟩; have hs17 := (unhide HS16).kept b17; obtain ⟨v17, hx17⟩ := hs17.cw.ex (i := 17) (by omega); have hf17 := hs17.cw.row.froz 17; have HS17 := hide hs17; have NN17 := hide (KNat.new (G := G) n17 N17 (unhide HS16).cw.ther); clear hs17 n17))
      obtain ⟨w18, hw18⟩ : ∃ y, y = w17.setCell ⟨bw, 17, none⟩ (Value.slice A17 k17 c17) := ⟨_, rfl⟩
      rw [← hw18]
      have hs18 : SI G bw 0 (cs16.set 17 (Value.slice A17 k17 c17)) (freshD ds) (opX x x.start x.ret x.status an d.gas tgs x.left pn x.origin md) w18 := hw18 ▸ ((unhide HS17).setPrice (unhide NN17)).1
      have o18 : Only bw w17 w18 := hw18 ▸ ((unhide HS17).setPrice (unhide NN17)).2
      have c1618 : Chg bw w16 w18 := (Chg.of b17).trans (Chg.ofOnly o18)
      generalize cs16.set 17 (Value.slice A17 k17 c17) = cs18 at hs18
      have HFR18 := hide (unhide HFR w18 (c216.trans c1618))
      have HR18 := hide hs18.cw.row
      have hle18 : 19 + (bv d.frm).length ≤ cs18.length := by rw [bv_len, hfrm.len, hs18.cw.len]; omega
      have HS18 := hide hs18
      clear hs18 hx17 hf17 HS17 NN17 HS16 HPR HTX16 hw18
      go_upto_region 17 with (first
        | ((with_reducible refine at_load 26 ?_); refine wpList_load_g (by rfl) 26 (.tmp 83) rfl w.heap.size 0 rfl (bv d.frm) _ (unhide HFR18) hu rfl hszf ?_)
        | ((with_reducible refine at_store 26 ?_); refine wpList_store_part rfl 26 (.tmp 86) (.tmp 84) rfl bw 19 107 cs18 (bv d.frm) rfl rfl (unhide HR18) hle18 hszf (bv_one _) ?_; intro w19 hr19 ho19))
      have hs19 : SI G bw 0 (spl cs18 19 (bv d.frm)) (freshD ds) (opX x x.start x.ret x.status an d.gas tgs x.left pn d.frm md) w19 := (unhide HS18).setOrigin hfrm hr19 ho19
      have c1619 : Chg bw w16 w19 := c1618.trans (Chg.ofOnly ho19)
      generalize spl cs18 19 (bv d.frm) = cs19 at hs19 hr19
      obtain ⟨v8, hx19⟩ := hs19.cw.ex (i := 8) (by omega)
      have hf19 := hs19.cw.row.froz 8
      have HS19 := hide hs19
      clear hs19 hr19 HR18 HS18 HFR18
      as_aux_lemma =>
      go_upto_region 18 with fail
      obtain ⟨w20, hw20⟩ : ∃ y, y = w19.setCell ⟨bw, 8, none⟩ (Value.slice none 0 0) := ⟨_, rfl⟩
      rw [← hw20]
      have hs20 : SI G bw 0 (cs19.set 8 (Value.slice none 0 0)) (freshD ds) (opX x [] x.ret x.status an d.gas tgs x.left pn d.frm md) w20 := hw20 ▸ ((unhide HS19).setStart (KTemps.nil G w19)).1
      have c1620 : Chg bw w16 w20 := c1619.trans (hw20 ▸ Chg.ofOnly ((unhide HS19).setStart (KTemps.nil G w19)).2)
      have h208 : (cs19.set 8 (Value.slice none 0 0))[8]? = some nilS := List.getElem?_set_self (by rw [(unhide HS19).cw.len]; omega)
      generalize cs19.set 8 (Value.slice none 0 0) = cs20 at hs20 h208
      have c220 : Chg bw w2 w20 := c216.trans c1620
      have c1020 : Chg bw w10 w20 := c13.trans (c1316.trans c1620)
      have c320 : Chg bw w3 w20 := c310.trans c1020
      obtain ⟨ao, l0, c0, h0, rows, hrw, heach⟩ := hs20.cw.kw.accts
      have hl0 : ds.length = l0 := by have h1 := heach.len; have h2 := hrw.now.len_eq; have h3 : (freshD ds).accts.length = ds.length := rfl; omega
      have hszA : szA ds ≤ 900000 := by have h1 := (unhide HG0).sz; have h2 : szW (freshD ds) = szA ds + 0 + 0 + 0 + 0 + 0 + 0 := rfl; omega
      have hl9 : l0 ≤ 900000 := by have := szA_ge ds; omega
      have e00 := hs20.cw.cell h0
      have hlen20 := hs20.cw.len
      have hset8 : cs20.set 8 nilS = cs20 := set_same h208
      have HR20 := hide hs20.cw.row
      have HS20 := hide hs20
      have HRW := hide hrw
      have HEACH : Hid (Each (KAcct G w20) rows ds) := hide heach
      have HSET8 := hide hset8
      have hbl20 := hs20.lt
      have hZ24 : (bv (zeros 20) ++ [nilS, nilS, nilS, nilS]).length = 24 := by simp [bv_len, zeros_len]
      have hZ22 : (bv (zeros 20) ++ [nilS, nilS]).length = 22 := by simp [bv_len, zeros_len]
      clear hs20 h208 h0 hrw heach hset8 hw20 hx19 hf19 HS19
      go_wp2_with fail
      go_loopg [96] l0 (fun gk iv wr => ∃ (i n : Nat) (v : Value) (os : List (List Value)) (ms : List YTemp), i + gk = l0 ∧ iv = .int .i64 i ∧ RowT 107 wr bw (cs20.set 8 v) ∧ wr.ownsRow w20.heap.size 187 22 v n os.flatten ∧ n + szA (ds.drop i) ≤ szA ds ∧ Each (KTemp G w20) os ms ∧ ms.length = n ∧ (∀ t ∈ ms, t.key < P256 ∧ t.val < P256) ∧ Chg bw w20 wr)
      case atStart => exact ⟨0, 0, nilS, [], [], by omega, rfl, by rw [unhide HSET8]; exact unhide HR20, World.ownsRow_nil _ _ _ _, by simp, trivial, rfl, fun t ht => by simp at ht, Chg.refl _ _⟩
      case round =>
        obtain ⟨wo, hwo⟩ : ∃ wo, wo = wr := ⟨_, rfl⟩
        subst hwo
        obtain ⟨i, n, v, os, ms, hi, rfl, hr, hown, hn, hem, hml, hmb, hch⟩ := hrel
        have HR := hide hr
        have HOWN := hide hown
        have HEM := hide hem
        have HMB := hide hmb
        clear hr hown hem hmb
        by_cases hil : i < l0
        · --S2
          as_aux_lemma =>
          obtain ⟨b, off, rfl, hlt, hat⟩ := rows_at' (zeroAcct []) ((unhide HRW).kp (ChgS.chg hch hgb)).now (unhide HEACH) (by omega)
          obtain ⟨ri, hrg, hrow⟩ := hat i hil
          obtain ⟨o, ho⟩ : ∃ o, o = ds.getD i (zeroAcct []) := ⟨_, rfl⟩
          have hom : o ∈ ds := by rw [ho]; exact memGetD (by omega)
          have hgo : GoodA o := (unhide HG0).acc.all o hom
          have hdrop : szA (ds.drop i) = 1 + o.slots.length + szA (ds.drop (i + 1)) := by
            rw [List.drop_eq_getElem_cons (by omega), szA_cons]
            have e1 : ds[i]'(by omega) = o := by rw [ho, List.getD_eq_getElem?_getD, List.getElem?_eq_getElem (by omega)]; rfl
            rw [e1]
          rw [← ho] at hrow
          have hrl := hrow.now.len
          have hsz : (Sakg.prog.info? 113).map (·.size) = some ri.length := by rw [hrl]; exact sizeAcct
          have HRG := hide hrg
          have HROW := hide hrow
          have HSZ := hide hsz
          have HRL := hide hrl
          have HGO := hide hgo
          clear hat hrg hrow hsz hrl ho hgo
          go_upto_region 21 with (first
            | ((with_reducible refine at_load 113 ?_); refine wpList_load_g (by rfl) 113 (.tmp 98) rfl b _ rfl ri _ (unhide HRG) Sakg.underlying113 rfl (unhide HSZ) ?_)
            | ((with_reducible refine at_alloc 113 ?_); refine wpList_alloc_g (by rfl) 113 rfl (bv (zeros 20) ++ [nilS, nilS, nilS, nilS]) 24 infoAcct2 hZ24 ?_)
            | ((with_reducible refine at_store 113 ?_); refine wpList_store_whole rfl 113 (.tmp 10) (.tmp 99) rfl _ _ _ ri rfl rfl (RowT.new _ _ _) (by rw [unhide HRL, hZ24]) (unhide HSZ) (unhide HROW).now.one ?_; intro w21 hr21 hon21; have hbb21 := box_below hon21; clear hon21))
          obtain ⟨D1, m1, g1, D2, m2, g2, D3, m3, g3, D4, m4, g4, q20, q21, q22, q23, s1, s2, s3, s4⟩ := (unhide HROW).cells
          have hia := (unhide HROW).now.addr
          have hszo := hia.size
          have hpre := (unhide HROW).now.pre
          have b21 := hbb21.1
          have hw21s := hbb21.2
          have hch21 : Chg bw w20 w21 := hch.trans (Chg.of b21)
          have e23 : w21.cell? ⟨wo.heap.size, 23, none⟩ = some (.slice D4 m4 g4) := by rw [hr21.cell]; exact q23
          have hm4e : o.slots.length = m4 := s4.len
          obtain ⟨srows, sg1, sg2⟩ := s4
          have hm4 : m4 ≤ 900000 := by omega
          have SG1 := hide sg1
          have SG2 := hide sg2
          have R21 := hide hr21
          have HPRE := hide hpre
          have RC21 : Hid (RowT 107 w21 bw (cs20.set 8 v)) := hide ((unhide HR).kept b21)
          have OW21 : Hid (w21.ownsRow w20.heap.size 187 22 v n os.flatten) := hide (own_kept (unhide HOWN) b21)
          have hvb0 : ∀ k, v.ownBlock = some k → k ≠ wo.heap.size := fun k hk => by have := ((unhide HOWN).lt k hk).2; omega
          have HVB0 := hide hvb0
          have H21S := hide hw21s
          have hchs := hch.size
          clear hr21 hbb21 sg1 sg2 s1 s2 s3 q20 q21 q22 q23 hpre hvb0 hw21s HRG HROW HSZ HRL HR HOWN
          go_wp2_with fail
          go_loopg [103] m4 (fun gk jv wr => ∃ (j n' : Nat) (u : Value) (os' : List (List Value)) (ms' : List YTemp), j + gk = m4 ∧ jv = .int .i64 j ∧ RowT 107 wr bw (cs20.set 8 u) ∧ wr.ownsRow w20.heap.size 187 22 u n' os'.flatten ∧ n' = n + j ∧ Each (KTemp G w20) os' ms' ∧ ms'.length = n' ∧ (∀ t ∈ ms', t.key < P256 ∧ t.val < P256) ∧ Chg bw w20 wr ∧ RowT 113 wr wo.heap.size ri ∧ (∀ k, u.ownBlock = some k → k ≠ wo.heap.size))
          case atStart => exact ⟨0, n, v, os, ms, by omega, rfl, unhide RC21, unhide OW21, rfl, unhide HEM, hml, unhide HMB, hch21, unhide R21, unhide HVB0⟩
          case round =>
            obtain ⟨j, n', u, os', ms', hj, rfl, hrc, hou, hn', hem', hml', hmb', hchr, hrB, hub⟩ := hrel
            have HEM' := hide hem'
            have HMB' := hide hmb'
            clear hem' hmb'
            by_cases hjl : j < m4
            · as_aux_lemma =>
              obtain ⟨bs, offs, rfl, hlts, hats⟩ := rows_at' ((0, 0) : Nat × Nat) ((unhide SG1).kp (ChgS.chg hchr hgb)).now (unhide SG2) (by omega)
              obtain ⟨rs, hrgs, hrs⟩ := hats j hjl
              have hsm : o.slots.getD j (0, 0) ∈ o.slots := memGetD (by omega)
              obtain ⟨so, hso⟩ : ∃ so, so = o.slots.getD j (0, 0) := ⟨_, rfl⟩
              rw [← hso] at hrs hsm
              have hsg := (unhide HGO).slots so hsm
              obtain ⟨Ak, kk, ck, Av, kv, cv, rfl, hkk, hkv⟩ := hrs
              have hkt : KTemp G w20 (bv o.addr ++ [Value.slice Ak kk ck, .slice Av kv cv]) ⟨o.addr, so.1, so.2⟩ := ⟨Ak, kk, ck, Av, kv, cv, rfl, hia, hkk, hkv, Nat.lt_trans hsg.1 p256_lt, Nat.lt_trans hsg.2.1 p256_lt⟩
              have hem2 : Each (KTemp G w20) (os' ++ [bv o.addr ++ [Value.slice Ak kk ck, .slice Av kv cv]]) (ms' ++ [⟨o.addr, so.1, so.2⟩]) := (unhide HEM').append ⟨hkt, trivial⟩
              have hmb2 : ∀ t ∈ ms' ++ [(⟨o.addr, so.1, so.2⟩ : YTemp)], t.key < P256 ∧ t.val < P256 := fun t ht => by
                rcases List.mem_append.1 ht with ht | ht
                · exact unhide HMB' t ht
                · rw [List.mem_singleton.1 ht]; exact ⟨hsg.1, hsg.2.1⟩
              have HEM2 := hide hem2
              have HMB2 := hide hmb2
              have hss : (Sakg.prog.info? 117).map (·.size) = some [Value.slice Ak kk ck, .slice Av kv cv].length := sizeSlot
              have hones := row2_one Ak Av kk ck kv cv
              have HRG3 := hide hrgs
              have RCr := hide hrc
              have HOU := hide hou
              have RB := hide hrB
              clear hats hrgs hrc hou hrB hkk hkv hkt hem2 hmb2 hso HEM' HMB'
              go_upto_region 24 with (first
                | ((with_reducible refine at_load 117 ?_); refine wpList_load_g (by rfl) 117 (.tmp 105) rfl bs _ rfl [Value.slice Ak kk ck, .slice Av kv cv] _ (unhide HRG3) Sakg.underlying117 rfl hss ?_)
                | ((with_reducible refine at_alloc 117 ?_); refine wpList_alloc_g (by rfl) 117 rfl [nilS, nilS] 2 infoSlot2c rfl ?_)
                | ((with_reducible refine at_store 117 ?_); refine wpList_store_whole rfl 117 (.tmp 12) (.tmp 106) rfl _ _ _ [Value.slice Ak kk ck, .slice Av kv cv] rfl rfl (RowT.new _ _ _) rfl hss hones ?_; intro wq hrq honq; have hbbq := box_below honq; clear honq))
              simp only [Act.put, List.setIfInBounds_toArray, List.set_cons_zero, List.set_cons_succ]
              have hbq := hbbq.1
              have HWQS := hide hbbq.2
              have hul : ∀ k, u.ownBlock = some k → w20.heap.size ≤ k ∧ k < wr.heap.size := fun k hk => (unhide HOU).lt k hk
              have hrBq := (unhide RB).kept hbq
              have hrBl := hrBq.lt
              have hBne : ¬ G2 bw u wo.heap.size := fun hg => by rcases hg with h | h; (omega); (exact hub _ h rfl)
              have hCne : ¬ G2 bw u wr.heap.size := fun hg => by rcases hg with h | h; (have := hchr.size; omega); (have := (hul _ h).2; omega)
              have hBC : ∀ wz, ChgS (G2 bw u) wq wz → RowT 113 wz wo.heap.size ri ∧ RowT 117 wz wr.heap.size [Value.slice Ak kk ck, .slice Av kv cv] := fun wz hz => by
                constructor
                · unfold RowT; rw [hz.block _ hrBl hBne]; exact hrBq
                · unfold RowT; rw [hz.block _ hrq.lt hCne]; exact hrq
              have HBC := hide hBC
              have CBq : Hid (RowT 107 wq bw (cs20.set 8 u)) := hide ((unhide RCr).kept hbq)
              have OWq : Hid (wq.ownsRow w20.heap.size 187 22 u n' os'.flatten) := hide (own_kept (unhide HOU) hbq)
              have RBq : Hid (RowT 113 wq wo.heap.size ri) := hide hrBq
              have hu8 : (cs20.set 8 u)[8]? = some u := List.getElem?_set_self (by rw [hlen20]; omega)
              have HU8 := hide hu8
              have c20q : Chg bw w20 wq := hchr.trans (Chg.of hbq)
              have dq : Below wq.heap.size wq wq.drew := Quiet.below ⟨1, rfl⟩ _
              have hblq : bw < wq.heap.size := by have := c20q.size; omega
              have h20q := c20q.size
              have hxl : (bv o.addr ++ [Value.slice Ak kk ck, .slice Av kv cv]).length = 22 := by simp [bv_len, hia.len]
              have hxo := orig_one o.addr Ak Av kk ck kv cv
              have hn900 : n' + 1 ≤ 900001 := by omega
              have HNJ : Hid (n' + 1 = n + (j + 1)) := hide (by omega)
              clear hbbq hrq hrBq hBC hu8 hn'
              as_aux_lemma =>
              refine wp_region_noPanic ?_
              refine wp_region_held_drew (S := fun w' => ChgS (G2 bw u) wq w') (by kernel_rfl) (ChgS.of dq) (fun hHeld => ?_)
              refine held_takeD 0 (.pointer (some ⟨bw, 0, none⟩)) (some 107) (by rfl) (by rfl) (by kernel_rfl) (by kernel_rfl) (by kernel_rfl) (fun _ _ _ h => h) (.inl ⟨by rfl, fun _ _ => by rfl⟩) (hHeld) ?_
              simp only [Act.put, List.setIfInBounds_toArray, List.set_cons_zero, List.set_cons_succ]
              refine held_takeD 1 (.pointer (some ⟨bw, 0, none⟩)) (some 108) (by rfl) (by rfl) (by kernel_rfl) (by kernel_rfl) (by kernel_rfl) (fun _ _ _ h => h) (.inl ⟨by rfl, fun _ _ => by rfl⟩) (hHeld) ?_
              simp only [Act.put, List.setIfInBounds_toArray, List.set_cons_zero, List.set_cons_succ]
              refine held_takeD 2 (.pointer (some ⟨bw, 0, none⟩)) (some 109) (by rfl) (by rfl) (by kernel_rfl) (by kernel_rfl) (by kernel_rfl) (fun _ _ _ h => h) (.inl ⟨by rfl, fun _ _ => by go_simp⟩) (hHeld) ?_
              simp only [Act.put, List.setIfInBounds_toArray, List.set_cons_zero, List.set_cons_succ]
              refine held_takeD 3 (.pointer (some ⟨bw, 8, none⟩)) (some 110) (by rfl) (by rfl) (by kernel_rfl) (by kernel_rfl) (by kernel_rfl) (fun _ _ _ h => h) (.inl ⟨by rfl, fun _ _ => by go_simp⟩) (hHeld) ?_
              simp only [Act.put, List.setIfInBounds_toArray, List.set_cons_zero, List.set_cons_succ]
              refine held_takeD 5 (.pointer (some ⟨wo.heap.size, 0, none⟩)) (some 112) (by rfl) (by rfl) (by kernel_rfl) (by kernel_rfl) (by kernel_rfl) (fun _ _ _ h => h) (.inl ⟨by rfl, fun _ _ => by go_simp⟩) (hHeld) ?_
              simp only [Act.put, List.setIfInBounds_toArray, List.set_cons_zero, List.set_cons_succ]
              refine held_takeD 6 (.agg (bv o.addr).toArray) (some 113) (by rfl) (by rfl) (by kernel_rfl) (by kernel_rfl) (by kernel_rfl) (fun _ _ _ h => h) (yieldsIf_load_mid (by rfl) _ _ rfl _ _ rfl _ _ (fun wz hS => (by have := (unhide HBC wz hS).1.range 0 20; rwa [unhide HPRE] at this)) hu rfl hszo) (hHeld) ?_
              simp only [Act.put, List.setIfInBounds_toArray, List.set_cons_zero, List.set_cons_succ]
              refine held_takeD 7 (.pointer (some ⟨wr.heap.size, 0, none⟩)) (some 114) (by rfl) (by rfl) (by kernel_rfl) (by kernel_rfl) (by kernel_rfl) (fun _ _ _ h => h) (.inl ⟨by rfl, fun _ _ => by go_simp⟩) (hHeld) ?_
              simp only [Act.put, List.setIfInBounds_toArray, List.set_cons_zero, List.set_cons_succ]
              refine held_takeD 8 (.slice Ak kk ck) (some 115) (by rfl) (by rfl) (by kernel_rfl) (by kernel_rfl) (by kernel_rfl) (fun _ _ _ h => h) (.inl ⟨by rfl, fun wS hS => by have hc : wS.cell? ⟨wr.heap.size, 0, none⟩ = some (.slice Ak kk ck) := by { rw [(unhide HBC wS hS).2.cell]; rfl }; go_simp⟩) (hHeld) ?_
              simp only [Act.put, List.setIfInBounds_toArray, List.set_cons_zero, List.set_cons_succ]
              refine held_takeD 9 (.pointer (some ⟨wr.heap.size, 1, none⟩)) (some 116) (by rfl) (by rfl) (by kernel_rfl) (by kernel_rfl) (by kernel_rfl) (fun _ _ _ h => h) (.inl ⟨by rfl, fun _ _ => by go_simp⟩) (hHeld) ?_
              simp only [Act.put, List.setIfInBounds_toArray, List.set_cons_zero, List.set_cons_succ]
              refine held_takeD 10 (.slice Av kv cv) (some 117) (by rfl) (by rfl) (by kernel_rfl) (by kernel_rfl) (by kernel_rfl) (fun _ _ _ h => h) (.inl ⟨by rfl, fun wS hS => by have hc : wS.cell? ⟨wr.heap.size, 1, none⟩ = some (.slice Av kv cv) := by { rw [(unhide HBC wS hS).2.cell]; rfl }; go_simp⟩) (hHeld) ?_
              simp only [Act.put, List.setIfInBounds_toArray, List.set_cons_zero, List.set_cons_succ]
              refine held_takeD 11 (.agg (bv o.addr ++ [Value.slice Ak kk ck, .slice Av kv cv]).toArray) (some 118) (by rfl) (by rfl) (by kernel_rfl) (by kernel_rfl) (by kernel_rfl) (fun _ _ _ h => h) (yieldsIf_build (by rfl) 187 [(0, .tmp 113), (1, .tmp 115), (2, .tmp 117)] rfl _ (fun wx => run_orig wx o.addr hia Ak Av kk ck kv cv)) hHeld ?_
              simp only [Act.put, List.setIfInBounds_toArray, List.set_cons_zero, List.set_cons_succ]
              refine held_two 4 12 (by kernel_rfl) (by rfl) (by rfl) (fun K' hK' => ?_) (fun K' hK' => ?_)
              · have hcu : wq.drew.cell? ⟨bw, 8, none⟩ = some u := by { rw [((unhide CBq).kept dq).cell]; exact unhide HU8 }
                go_simp
                refine hK'.out _ _ (ChgS.of dq) ?_
                clear hK' K'
                refine held_one 12 (by kernel_rfl) (by rfl) (fun K' hK' => ?_)
                refine if_build_one (some 119) rfl (by rfl) 102 (.tmp 118) rfl 187 22 72 Sakg.underlying102 _ infoOrig hZ22 (by omega) (by omega) (bv o.addr ++ [Value.slice Ak kk ck, .slice Av kv cv]) rfl hxl (fun wn rn bn sn => ?_)
                have dn := dq.trans (bn.mono dq.size)
                refine hK'.out _ _ (ChgS.of dn) ?_
                clear hK' K'
                simp only [Act.put, List.setIfInBounds_toArray, List.set_cons_zero, List.set_cons_succ]
                refine held_one 13 (by kernel_rfl) (by rfl) (fun K' hK' => ?_)
                refine if_append_at (some 120) rfl (by rfl) (.tmp 111) (.tmp 119) 102 rfl 187 22 72 Sakg.underlying102 _ infoOrig hZ22 (by omega) w20.heap.size u n' os' rfl (own_kept (unhide OWq) dn) _ 187 (bv o.addr ++ [Value.slice Ak kk ck, .slice Av kv cv]) rfl rn hxl hxo (by omega) (by omega) (by have := dn.size; omega) (fun vp wp op grp bkp => ?_)
                have dp : ChgS (G2 bw u) wq wp := (ChgS.of (G := G2 bw u) dn).then (ChgS.grown (G := G2 bw u) grp (fun k hk => .inr hk)) (fun _ h _ => h)
                obtain ⟨Ap, cp, rfl⟩ := own_slice op
                refine hK'.out _ _ (dp) ?_
                clear hK' K'
                simp only [Act.put, List.setIfInBounds_toArray, List.set_cons_zero, List.set_cons_succ]
                refine held_takeD 14 (.pointer (some ⟨bw, 0, none⟩)) (some 121) (by rfl) (by rfl) (by kernel_rfl) (by kernel_rfl) (by kernel_rfl) (fun _ _ _ h => h) (.inl ⟨by rfl, fun _ _ => by go_simp⟩) (dp) ?_
                simp only [Act.put, List.setIfInBounds_toArray, List.set_cons_zero, List.set_cons_succ]
                refine held_takeD 15 (.pointer (some ⟨bw, 8, none⟩)) (some 122) (by rfl) (by rfl) (by kernel_rfl) (by kernel_rfl) (by kernel_rfl) (fun _ _ _ h => h) (.inl ⟨by rfl, fun _ _ => by go_simp⟩) (dp) ?_
                simp only [Act.put, List.setIfInBounds_toArray, List.set_cons_zero, List.set_cons_succ]
                refine held_one 16 (by kernel_rfl) (by rfl) (fun K' hK' => ?_)
                have hXp : RowT 107 wp bw (cs20.set 8 u) := by { unfold RowT; rw [grp.block bw (by have := dn.size; omega) (fun h => by have := (hul _ h.symm).1; omega)]; exact (unhide CBq).kept dn }
                have hcx : wp.cell? ⟨bw, 8, none⟩ = some u := by { rw [hXp.cell]; exact unhide HU8 }
                have hfx2 := hXp.froz 8
                go_simp
                obtain ⟨wS, hwS⟩ : ∃ y, y = wp.setCell ⟨bw, 8, none⟩ (Value.slice Ap (n' + 1) cp) := ⟨_, rfl⟩
                rw [← hwS]
                have oS : Only bw wp wS := hwS ▸ (Only.refl bw wp).setCell 8 (Value.slice Ap (n' + 1) cp)
                have rS := hwS ▸ hXp.set 8 (Value.slice Ap (n' + 1) cp)
                have dS : ChgS (G2 bw u) wq wS := dp.then (ChgS.only (G := G2 bw u) oS (.inl rfl)) (fun _ h _ => h)
                clear hwS
                refine hK'.out _ _ (dS) ?_
                clear hK' K'
                refine wpAnyH_done (by kernel_rfl) ?_ _
                refine NoPanic.normal ?_
                rw [List.set_set] at rS
                have zn := bn.size
                have zd : wq.drew.heap.size = wq.heap.size := rfl
                have hne : ∀ k, (Value.slice Ap (n' + 1) cp).ownBlock = some k → k ≠ bw := fun k hk h0 => by { subst h0; rcases bkp with h | h; (rw [h] at hk; have := (hul _ hk).1; omega); (rw [h] at hk; have := Option.some.inj hk; omega) }
                have hneB : ∀ k, (Value.slice Ap (n' + 1) cp).ownBlock = some k → k ≠ wo.heap.size := fun k hk h0 => by { subst h0; rcases bkp with h | h; (rw [h] at hk; exact hub _ hk rfl); (rw [h] at hk; have := Option.some.inj hk; omega) }
                have own2 := op.kept (row := some bw) ⟨oS.os, oS.tape, oS.output, Nat.le_of_eq oS.size.symm, fun k hk hn => oS.block k (fun e => hn (by rw [e]))⟩ (.inr (fun h => hne bw h rfl))
                have c20S : Chg bw w20 wS := ⟨dS.os.trans c20q.os, dS.tape.trans c20q.tape, dS.output.trans c20q.output, Nat.le_trans h20q dS.size, fun k hk hn => (dS.block k (by omega) (fun hg => by rcases hg with h | h; (exact hn h); (have := (hul _ h).1; omega))).trans (c20q.block k hk hn)⟩
                have rBS := (unhide HBC wS dS).1
                have RS := hide rS
                have OW2 := hide own2
                have RBS := hide rBS
                clear rS own2 rBS op rn hXp hcx hfx2
                go_wp2
                go_roundg (m4 - 1 - j)
                case measure => omega
                case rel => exact ⟨j + 1, n' + 1, Value.slice Ap (n' + 1) cp, os' ++ [(bv o.addr ++ [Value.slice Ak kk ck, .slice Av kv cv])], ms' ++ [⟨o.addr, so.1, so.2⟩], by omega, rfl, unhide RS, unhide OW2, unhide HNJ, unhide HEM2, by rw [List.length_append, hml']; rfl, unhide HMB2, c20S, unhide RBS, hneB⟩
              · refine if_build_one (some 119) rfl (by rfl) 102 (.tmp 118) rfl 187 22 72 Sakg.underlying102 _ infoOrig hZ22 (by omega) (by omega) (bv o.addr ++ [Value.slice Ak kk ck, .slice Av kv cv]) rfl hxl (fun wn rn bn sn => ?_)
                have dn := dq.trans (bn.mono dq.size)
                refine hK'.out _ _ (ChgS.of dn) ?_
                clear hK' K'
                simp only [Act.put, List.setIfInBounds_toArray, List.set_cons_zero, List.set_cons_succ]
                refine held_one 4 (by kernel_rfl) (by rfl) (fun K' hK' => ?_)
                have hcu : wn.cell? ⟨bw, 8, none⟩ = some u := by { rw [((unhide CBq).kept dn).cell]; exact unhide HU8 }
                go_simp
                refine hK'.out _ _ (ChgS.of dn) ?_
                clear hK' K'
                refine held_one 13 (by kernel_rfl) (by rfl) (fun K' hK' => ?_)
                refine if_append_at (some 120) rfl (by rfl) (.tmp 111) (.tmp 119) 102 rfl 187 22 72 Sakg.underlying102 _ infoOrig hZ22 (by omega) w20.heap.size u n' os' rfl (own_kept (unhide OWq) dn) _ 187 (bv o.addr ++ [Value.slice Ak kk ck, .slice Av kv cv]) rfl rn hxl hxo (by omega) (by omega) (by have := dn.size; omega) (fun vp wp op grp bkp => ?_)
                have dp : ChgS (G2 bw u) wq wp := (ChgS.of (G := G2 bw u) dn).then (ChgS.grown (G := G2 bw u) grp (fun k hk => .inr hk)) (fun _ h _ => h)
                obtain ⟨Ap, cp, rfl⟩ := own_slice op
                refine hK'.out _ _ (dp) ?_
                clear hK' K'
                simp only [Act.put, List.setIfInBounds_toArray, List.set_cons_zero, List.set_cons_succ]
                refine held_takeD 14 (.pointer (some ⟨bw, 0, none⟩)) (some 121) (by rfl) (by rfl) (by kernel_rfl) (by kernel_rfl) (by kernel_rfl) (fun _ _ _ h => h) (.inl ⟨by rfl, fun _ _ => by go_simp⟩) (dp) ?_
                simp only [Act.put, List.setIfInBounds_toArray, List.set_cons_zero, List.set_cons_succ]
                refine held_takeD 15 (.pointer (some ⟨bw, 8, none⟩)) (some 122) (by rfl) (by rfl) (by kernel_rfl) (by kernel_rfl) (by kernel_rfl) (fun _ _ _ h => h) (.inl ⟨by rfl, fun _ _ => by go_simp⟩) (dp) ?_
                simp only [Act.put, List.setIfInBounds_toArray, List.set_cons_zero, List.set_cons_succ]
                refine held_one 16 (by kernel_rfl) (by rfl) (fun K' hK' => ?_)
                have hXp : RowT 107 wp bw (cs20.set 8 u) := by { unfold RowT; rw [grp.block bw (by have := dn.size; omega) (fun h => by have := (hul _ h.symm).1; omega)]; exact (unhide CBq).kept dn }
                have hcx : wp.cell? ⟨bw, 8, none⟩ = some u := by { rw [hXp.cell]; exact unhide HU8 }
                have hfx2 := hXp.froz 8
                go_simp
                obtain ⟨wS, hwS⟩ : ∃ y, y = wp.setCell ⟨bw, 8, none⟩ (Value.slice Ap (n' + 1) cp) := ⟨_, rfl⟩
                rw [← hwS]
                have oS : Only bw wp wS := hwS ▸ (Only.refl bw wp).setCell 8 (Value.slice Ap (n' + 1) cp)
                have rS := hwS ▸ hXp.set 8 (Value.slice Ap (n' + 1) cp)
                have dS : ChgS (G2 bw u) wq wS := dp.then (ChgS.only (G := G2 bw u) oS (.inl rfl)) (fun _ h _ => h)
                clear hwS
                refine hK'.out _ _ (dS) ?_
                clear hK' K'
                refine wpAnyH_done (by kernel_rfl) ?_ _
                refine NoPanic.normal ?_
                rw [List.set_set] at rS
                have zn := bn.size
                have zd : wq.drew.heap.size = wq.heap.size := rfl
                have hne : ∀ k, (Value.slice Ap (n' + 1) cp).ownBlock = some k → k ≠ bw := fun k hk h0 => by { subst h0; rcases bkp with h | h; (rw [h] at hk; have := (hul _ hk).1; omega); (rw [h] at hk; have := Option.some.inj hk; omega) }
                have hneB : ∀ k, (Value.slice Ap (n' + 1) cp).ownBlock = some k → k ≠ wo.heap.size := fun k hk h0 => by { subst h0; rcases bkp with h | h; (rw [h] at hk; exact hub _ hk rfl); (rw [h] at hk; have := Option.some.inj hk; omega) }
                have own2 := op.kept (row := some bw) ⟨oS.os, oS.tape, oS.output, Nat.le_of_eq oS.size.symm, fun k hk hn => oS.block k (fun e => hn (by rw [e]))⟩ (.inr (fun h => hne bw h rfl))
                have c20S : Chg bw w20 wS := ⟨dS.os.trans c20q.os, dS.tape.trans c20q.tape, dS.output.trans c20q.output, Nat.le_trans h20q dS.size, fun k hk hn => (dS.block k (by omega) (fun hg => by rcases hg with h | h; (exact hn h); (have := (hul _ h).1; omega))).trans (c20q.block k hk hn)⟩
                have rBS := (unhide HBC wS dS).1
                have RS := hide rS
                have OW2 := hide own2
                have RBS := hide rBS
                clear rS own2 rBS op rn hXp hcx hfx2
                go_wp2
                go_roundg (m4 - 1 - j)
                case measure => omega
                case rel => exact ⟨j + 1, n' + 1, Value.slice Ap (n' + 1) cp, os' ++ [(bv o.addr ++ [Value.slice Ak kk ck, .slice Av kv cv])], ms' ++ [⟨o.addr, so.1, so.2⟩], by omega, rfl, unhide RS, unhide OW2, unhide HNJ, unhide HEM2, by rw [List.length_append, hml']; rfl, unhide HMB2, c20S, unhide RBS, hneB⟩
            · as_aux_lemma =>
              have hn2 : n' + szA (ds.drop (i + 1)) ≤ szA ds := by omega
              have RCr := hide hrc
              have HOU := hide hou
              clear hrc hou hrB hub
              go_wp2
              go_roundg (l0 - 1 - i)
              case measure => omega
              case rel => exact ⟨i + 1, n', u, os', ms', by omega, rfl, unhide RCr, unhide HOU, hn2, unhide HEM', hml', unhide HMB', hchr⟩
          --E2
        · as_aux_lemma =>
          obtain ⟨As, cS, rfl, hrs⟩ := own_rws (unhide HOWN) ((unhide HEM).all (p := fun r => r.length = 22) (fun r d h => h.len)) (by rw [(unhide HEM).len]; exact hml)
          have hT20 := (unhide HS20).cw.ther
          have hkts : KTemps G wo As n cS ms := ⟨os, StabS.rws hrs (fun y hy hn0 hg => by
            have h1 := ((unhide HOWN).lt y.block (by rw [hy]; rfl)).1
            have h2 := hT20 _ hg
            omega), (unhide HEM).imp fun _ _ h => h.go (ChgS.chg hch hgb)⟩
          have hs21 : SI G bw 0 (cs20.set 8 (Value.slice As n cS)) (freshD ds) (opX x ms x.ret x.status an d.gas tgs x.left pn d.frm md) wo := (unhide HS20).turn (unhide HR) (by rw [List.length_set]; exact hlen20) (fun i hi => List.getElem?_set_ne (by omega)) (ChgS.chg hch hgb) (((unhide HS20).xs.go (ChgS.chg hch hgb)).setStart hlen20 hkts) ((List.getElem?_set_ne (by omega)).trans (unhide HS20).phase) ((List.getElem?_set_ne (by omega)).trans (unhide HS20).frames)
          generalize cs20.set 8 (Value.slice As n cS) = cs21 at hs21
          have c2o : Chg bw w2 wo := c220.trans hch
          have c3o : Chg bw w3 wo := c320.trans hch
          have c10o : Chg bw w10 wo := c1020.trans hch
          have HS21 := hide hs21
          have hblo := hs21.lt
          have hmsl : ms.length ≤ 900000 := by omega
          have dO : Below wo.heap.size wo wo.drew := Quiet.below ⟨1, rfl⟩ _
          have hzo : wo.drew.heap.size = wo.heap.size := rfl
          have hp8 : (256 : Nat) ^ 8 = 18446744073709551616 := by decide
          have hxx2 : xx = lookY ds d.frm := unhide HXX
          have hnx1 : xx.nonce + 1 < 256 ^ 8 := by have h1 := (unhide HVK).nonmax; rw [← hxx2] at h1; have h2 := hxg.non; omega
          have hnx : xx.nonce + 1 < BIG := nonce_big hnx1
          have hBB := big_ge
          have hPB := p256_lt
          clear hs21 hkts hrs HS20 HR20 HRW HEACH HSET8 HR HOWN e00 HEM hT20
          go_upto_region 27 with fail
          refine wp_region_noPanic ?_
          refine wp_region_held_drew (S := fun w' => Chg bw wo w') (by kernel_rfl) (Chg.of dO) (fun hHeld => ?_)
          refine held_takeD 0 (.pointer (some ⟨bw, 0, none⟩)) (some 125) (by rfl) (by rfl) (by kernel_rfl) (by kernel_rfl) (by kernel_rfl) (fun _ _ _ h => h) (.inl ⟨by rfl, fun _ _ => by rfl⟩) (hHeld) ?_
          simp only [Act.put, List.setIfInBounds_toArray, List.set_cons_zero, List.set_cons_succ]
          refine held_takeD 1 (.pointer (some ⟨bw, 0, none⟩)) (some 126) (by rfl) (by rfl) (by kernel_rfl) (by kernel_rfl) (by kernel_rfl) (fun _ _ _ h => h) (.inl ⟨by rfl, fun _ _ => by go_simp⟩) (hHeld) ?_
          simp only [Act.put, List.setIfInBounds_toArray, List.set_cons_zero, List.set_cons_succ]
          refine held_takeD 2 (.pointer (some ⟨bw, 0, none⟩)) (some 127) (by rfl) (by rfl) (by kernel_rfl) (by kernel_rfl) (by kernel_rfl) (fun _ _ _ h => h) (.inl ⟨by rfl, fun _ _ => by go_simp⟩) (hHeld) ?_
          simp only [Act.put, List.setIfInBounds_toArray, List.set_cons_zero, List.set_cons_succ]
          refine held_takeD 3 (.pointer (some ⟨w.heap.size, 0, none⟩)) (some 128) (by rfl) (by rfl) (by kernel_rfl) (by kernel_rfl) (by kernel_rfl) (fun _ _ _ h => h) (.inl ⟨by rfl, fun _ _ => by go_simp⟩) (hHeld) ?_
          simp only [Act.put, List.setIfInBounds_toArray, List.set_cons_zero, List.set_cons_succ]
          refine held_takeD 4 (.agg (bv d.frm).toArray) (some 129) (by rfl) (by rfl) (by kernel_rfl) (by kernel_rfl) (by kernel_rfl) (fun _ _ _ h => h) (yieldsIf_load_mid (by rfl) _ _ rfl _ _ rfl _ _ (fun wz hS => unhide HFR wz (c2o.trans hS)) hu rfl hszf) (hHeld) ?_
          simp only [Act.put, List.setIfInBounds_toArray, List.set_cons_zero, List.set_cons_succ]
          refine held_takeD 5 (.pointer (some ⟨gA, 20, none⟩)) (some 130) (by rfl) (by rfl) (by kernel_rfl) (by kernel_rfl) (by kernel_rfl) (fun _ _ _ h => h) (.inl ⟨by rfl, fun _ _ => by go_simp⟩) (hHeld) ?_
          simp only [Act.put, List.setIfInBounds_toArray, List.set_cons_zero, List.set_cons_succ]
          refine held_takeD 6 (.slice B1 j1 f1) (some 131) (by rfl) (by rfl) (by kernel_rfl) (by kernel_rfl) (by kernel_rfl) (fun _ _ _ h => h) (.inl ⟨by rfl, fun wS hS => by have hc := unhide HA20 wS (c3o.trans hS); go_simp⟩) (hHeld) ?_
          simp only [Act.put, List.setIfInBounds_toArray, List.set_cons_zero, List.set_cons_succ]
          refine held_one 7 (by kernel_rfl) (by rfl) (fun K' hK' => ?_)
          go_simp
          refine (num_any 1 wo.drew (by omega)).mono ?_
          rintro e w22 ⟨A22, k22, c22, rfl, n22, N22, b22⟩
          refine hK'.out _ _ (Chg.of (dO.trans (b22.mono dO.size))) ?_
          clear hK' K'
          have d22 := dO.trans (b22.mono dO.size)
          refine held_one 8 (by kernel_rfl) (by rfl) (fun K' hK' => ?_)
          go_simp
          refine ((unhide HN1 w22 (c3o.trans (Chg.of d22))).add n22 hxnB (by omega)).mono ?_
          rintro e w23 ⟨A23, k23, c23', rfl, n23, N23, b23⟩
          refine hK'.out _ _ (Chg.of (d22.trans (b23.mono d22.size))) ?_
          clear hK' K'
          have d23 := d22.trans (b23.mono d22.size)
          have HSN := hide (((unhide HS21).kept d23).cw.setNonce (unhide HG0) d.frm hfrm A23 k23 c23' (xx.nonce + 1) (KNat.new n23 (N23.later d22.size) (unhide HS21).cw.ther) hnx)
          refine held_one 9 (by kernel_rfl) (by rfl) (fun K' hK' => ?_)
          go_simp
          refine (unhide HSN).mono ?_
          rintro e w24 ⟨rfl, hw24⟩
          obtain ⟨cs24, hs24, hmv24, -, hc24⟩ := ((unhide HS21).kept d23).world hw24
          refine hK'.out _ _ ((Chg.of d23).trans hc24) ?_
          clear hK' K'
          refine wpAnyH_done (by kernel_rfl) ?_ _
          refine NoPanic.normal ?_
          have co24 : Chg bw wo w24 := (Chg.of d23).trans hc24
          have c224 : Chg bw w2 w24 := c2o.trans co24
          have c324 : Chg bw w3 w24 := c3o.trans co24
          obtain ⟨D24, hD24⟩ : ∃ D24, D24 = { freshD ds with accts := nonY (freshD ds).accts d.frm (xx.nonce + 1) } := ⟨_, rfl⟩
          rw [← hD24] at hs24
          have hgr24 : Gr B0 (freshD ds) D24 2500 := by rw [hD24]; exact Gr.nonce (unhide HG0).snd hfrm hnx1 (by omega)
          have hwt24 := hgr24.wtle
          have hg24 : Good B0 D24 := hgr24.good (K := 2250000000) (by omega) (by omega)
          have hbal24 : (lookY D24.accts d.frm).bal = xx.bal := by
            rw [hD24, unhide HXX]
            exact bal_nonY (unhide HG0).acc hfrm _ (by omega)
          obtain ⟨A12, k12, c12, h2414, n2414⟩ := hs24.xs.limit
          obtain ⟨A17, k17, c17, h2417, n2417⟩ := hs24.xs.price
          have NL24 : Hid (KNat G w24 A12 k12 c12 d.gas) := hide n2414
          have NP24 : Hid (KNat G w24 A17 k17 c17 pn) := hide n2417
          have hbl24 := hs24.lt
          have d24 : Below w24.heap.size w24 w24.drew := Quiet.below ⟨1, rfl⟩ _
          have hS28 : ∀ wz, Below w24.heap.size w24 wz → Chg bw w24 wz ∧ wz.cell? ⟨bw, 14, none⟩ = some (Value.slice A12 k12 c12) ∧ wz.cell? ⟨bw, 17, none⟩ = some (Value.slice A17 k17 c17) := fun wz hz => ⟨Chg.of hz, (hs24.kept hz).cw.cell h2414, (hs24.kept hz).cw.cell h2417⟩
          have HS28 := hide hS28
          have HS24 := hide hs24
          have HG24 := hide hg24
          have hpnB : pn < BIG := by omega
          have hgB : d.gas < BIG := by omega
          have hcost : d.gas * pn + beN d.value ≤ xx.bal := by
            have h1 := (unhide HVK).funds
            rw [← hxx2] at h1
            have h2 := Nat.mul_le_mul_left d.gas hpm.2
            omega
          obtain ⟨cost, hcost0⟩ : ∃ cost, cost = d.gas * pn := ⟨_, rfl⟩
          rw [← hcost0] at hcost
          have HCO := hide hcost0
          have hprod : cost < BIG := by omega
          clear hs24 hS28 hgr24 hg24 hD24 n2414 n2417 hw24 hmv24 n22 n23 N22 N23 HS21 HSN hcost0
          as_aux_lemma =>
          go_upto_region 28 with fail
          refine wp_region_noPanic ?_
          refine wp_region_held_drew (S := fun w' => Chg bw w24 w' ∧ w'.cell? ⟨bw, 14, none⟩ = some (Value.slice A12 k12 c12) ∧ w'.cell? ⟨bw, 17, none⟩ = some (Value.slice A17 k17 c17)) (by kernel_rfl) (unhide HS28 _ d24) (fun hHeld => ?_)
          refine held_takeD 0 (.pointer (some ⟨bw, 0, none⟩)) (some 135) (by rfl) (by rfl) (by kernel_rfl) (by kernel_rfl) (by kernel_rfl) (fun _ _ _ h => h) (.inl ⟨by rfl, fun _ _ => by rfl⟩) (hHeld) ?_
          simp only [Act.put, List.setIfInBounds_toArray, List.set_cons_zero, List.set_cons_succ]
          refine held_takeD 1 (.pointer (some ⟨bw, 0, none⟩)) (some 136) (by rfl) (by rfl) (by kernel_rfl) (by kernel_rfl) (by kernel_rfl) (fun _ _ _ h => h) (.inl ⟨by rfl, fun _ _ => by go_simp⟩) (hHeld) ?_
          simp only [Act.put, List.setIfInBounds_toArray, List.set_cons_zero, List.set_cons_succ]
          refine held_takeD 2 (.pointer (some ⟨bw, 0, none⟩)) (some 137) (by rfl) (by rfl) (by kernel_rfl) (by kernel_rfl) (by kernel_rfl) (fun _ _ _ h => h) (.inl ⟨by rfl, fun _ _ => by go_simp⟩) (hHeld) ?_
          simp only [Act.put, List.setIfInBounds_toArray, List.set_cons_zero, List.set_cons_succ]
          refine held_takeD 3 (.pointer (some ⟨w.heap.size, 0, none⟩)) (some 138) (by rfl) (by rfl) (by kernel_rfl) (by kernel_rfl) (by kernel_rfl) (fun _ _ _ h => h) (.inl ⟨by rfl, fun _ _ => by go_simp⟩) (hHeld) ?_
          simp only [Act.put, List.setIfInBounds_toArray, List.set_cons_zero, List.set_cons_succ]
          refine held_takeD 4 (.agg (bv d.frm).toArray) (some 139) (by rfl) (by rfl) (by kernel_rfl) (by kernel_rfl) (by kernel_rfl) (fun _ _ _ h => h) (yieldsIf_load_mid (by rfl) _ _ rfl _ _ rfl _ _ (fun wz hS => unhide HFR wz (c224.trans hS.1)) hu rfl hszf) (hHeld) ?_
          simp only [Act.put, List.setIfInBounds_toArray, List.set_cons_zero, List.set_cons_succ]
          refine held_takeD 5 (.pointer (some ⟨gA, 21, none⟩)) (some 140) (by rfl) (by rfl) (by kernel_rfl) (by kernel_rfl) (by kernel_rfl) (fun _ _ _ h => h) (.inl ⟨by rfl, fun _ _ => by go_simp⟩) (hHeld) ?_
          simp only [Act.put, List.setIfInBounds_toArray, List.set_cons_zero, List.set_cons_succ]
          refine held_takeD 6 (.slice B2 j2 f2) (some 141) (by rfl) (by rfl) (by kernel_rfl) (by kernel_rfl) (by kernel_rfl) (fun _ _ _ h => h) (.inl ⟨by rfl, fun wS hS => by have hc := unhide HA21 wS (c324.trans hS.1); go_simp⟩) (hHeld) ?_
          simp only [Act.put, List.setIfInBounds_toArray, List.set_cons_zero, List.set_cons_succ]
          refine held_takeD 7 (.pointer (some ⟨bw, 0, none⟩)) (some 142) (by rfl) (by rfl) (by kernel_rfl) (by kernel_rfl) (by kernel_rfl) (fun _ _ _ h => h) (.inl ⟨by rfl, fun _ _ => by rfl⟩) (hHeld) ?_
          simp only [Act.put, List.setIfInBounds_toArray, List.set_cons_zero, List.set_cons_succ]
          refine held_takeD 8 (.pointer (some ⟨bw, 0, none⟩)) (some 143) (by rfl) (by rfl) (by kernel_rfl) (by kernel_rfl) (by kernel_rfl) (fun _ _ _ h => h) (.inl ⟨by rfl, fun _ _ => by go_simp⟩) (hHeld) ?_
          simp only [Act.put, List.setIfInBounds_toArray, List.set_cons_zero, List.set_cons_succ]
          refine held_takeD 9 (.pointer (some ⟨bw, 14, none⟩)) (some 144) (by rfl) (by rfl) (by kernel_rfl) (by kernel_rfl) (by kernel_rfl) (fun _ _ _ h => h) (.inl ⟨by rfl, fun _ _ => by go_simp⟩) (hHeld) ?_
          simp only [Act.put, List.setIfInBounds_toArray, List.set_cons_zero, List.set_cons_succ]
          refine held_takeD 10 (.slice A12 k12 c12) (some 145) (by rfl) (by rfl) (by kernel_rfl) (by kernel_rfl) (by kernel_rfl) (fun _ _ _ h => h) (.inl ⟨by rfl, fun wS hS => by have hc := hS.2.1; go_simp⟩) (hHeld) ?_
          simp only [Act.put, List.setIfInBounds_toArray, List.set_cons_zero, List.set_cons_succ]
          refine held_takeD 11 (.pointer (some ⟨bw, 0, none⟩)) (some 146) (by rfl) (by rfl) (by kernel_rfl) (by kernel_rfl) (by kernel_rfl) (fun _ _ _ h => h) (.inl ⟨by rfl, fun _ _ => by rfl⟩) (hHeld) ?_
          simp only [Act.put, List.setIfInBounds_toArray, List.set_cons_zero, List.set_cons_succ]
          refine held_takeD 12 (.pointer (some ⟨bw, 0, none⟩)) (some 147) (by rfl) (by rfl) (by kernel_rfl) (by kernel_rfl) (by kernel_rfl) (fun _ _ _ h => h) (.inl ⟨by rfl, fun _ _ => by go_simp⟩) (hHeld) ?_
          simp only [Act.put, List.setIfInBounds_toArray, List.set_cons_zero, List.set_cons_succ]
          refine held_takeD 13 (.pointer (some ⟨bw, 17, none⟩)) (some 148) (by rfl) (by rfl) (by kernel_rfl) (by kernel_rfl) (by kernel_rfl) (fun _ _ _ h => h) (.inl ⟨by rfl, fun _ _ => by go_simp⟩) (hHeld) ?_
          simp only [Act.put, List.setIfInBounds_toArray, List.set_cons_zero, List.set_cons_succ]
          refine held_takeD 14 (.slice A17 k17 c17) (some 149) (by rfl) (by rfl) (by kernel_rfl) (by kernel_rfl) (by kernel_rfl) (fun _ _ _ h => h) (.inl ⟨by rfl, fun wS hS => by have hc := hS.2.2; go_simp⟩) (hHeld) ?_
          simp only [Act.put, List.setIfInBounds_toArray, List.set_cons_zero, List.set_cons_succ]
          refine held_one 15 (by kernel_rfl) (by rfl) (fun K' hK' => ?_)
          go_simp
          refine (((unhide NL24).kp (ChgS.of d24)).now.mul ((unhide NP24).kp (ChgS.of d24)).now hgB hpnB).mono ?_
          rintro e w25 ⟨A25, k25, c25, rfl, n25, N25, b25⟩
          refine hK'.out _ _ (unhide HS28 _ (d24.trans (b25.mono d24.size))) ?_
          clear hK' K'
          rw [← unhide HCO] at n25
          have d25 := d24.trans (b25.mono d24.size)
          refine held_one 16 (by kernel_rfl) (by rfl) (fun K' hK' => ?_)
          go_simp
          refine (less_any B2 A25 j2 k25 f2 c25 xx.bal cost w25 (unhide HN2 w25 (c324.trans (Chg.of d25))) n25 hxbB hprod).mono ?_
          rintro e w26 ⟨A26, k26, c26, rfl, n26, N26, b26⟩
          refine hK'.out _ _ (unhide HS28 _ (d25.trans (b26.mono d25.size))) ?_
          clear hK' K'
          have d26 := d25.trans (b26.mono d25.size)
          have HSB := hide (((unhide HS24).kept d26).cw.setBalance (unhide HG24) d.frm hfrm A26 k26 c26 (xx.bal - cost) (KNat.new n26 (N26.later d25.size) (unhide HS24).cw.ther) (by omega))
          refine held_one 17 (by kernel_rfl) (by rfl) (fun K' hK' => ?_)
          go_simp
          refine (unhide HSB).mono ?_
          rintro e w27 ⟨rfl, hw27⟩
          obtain ⟨cs27, hs27, hmv27, h278, hc27⟩ := ((unhide HS24).kept d26).world hw27
          refine hK'.out _ _ ⟨(Chg.of d26).trans hc27, hs27.cw.cell (by rw [h278 14 (by omega)]; exact h2414), hs27.cw.cell (by rw [h278 17 (by omega)]; exact h2417)⟩ ?_
          clear hK' K'
          refine wpAnyH_done (by kernel_rfl) ?_ _
          refine NoPanic.normal ?_
          have c2427 : Chg bw w24 w27 := (Chg.of d26).trans hc27
          have c227 : Chg bw w2 w27 := c224.trans c2427
          have c1027 : Chg bw w10 w27 := c10o.trans (co24.trans c2427)
          obtain ⟨D27, hD27⟩ : ∃ D27, D27 = { D24 with accts := balY D24.accts d.frm (xx.bal - cost) } := ⟨_, rfl⟩
          rw [← hD27] at hs27
          obtain ⟨B, hB⟩ : ∃ B, B = B0 - cost := ⟨_, rfl⟩
          have hBs : B + cost = B0 := by omega
          have hg27 : Good B D27 := by rw [hD27]; exact Good.bal' (unhide HG24).snd hfrm (by omega) (by omega) (by omega)
          have hwt27 : wt D27 ≤ wt (freshD ds) + 5000 := by
            have h1 := (wt_bal (unhide HG24).snd hfrm (xx.bal - cost)).1
            rw [← hD27] at h1
            omega
          have HS27 := hide hs27
          have HG27 := hide hg27
          have d27 : Below w27.heap.size w27 w27.drew := Quiet.below ⟨1, rfl⟩ _
          have HWA := hide ((hs27.kept d27).cw.warm hg27 d.frm hfrm)
          clear hs27 hg27 hD27 hB hw27 hmv27 h278 n25 n26 N25 N26 HS24 HG24 NL24 NP24 HS28 HSB h2414 h2417
          as_aux_lemma =>
          go_upto_region 29 with fail
          refine wp_region_noPanic ?_
          refine wp_region_held_drew (S := fun w' => Chg bw w27 w') (by kernel_rfl) (Chg.of d27) (fun hHeld => ?_)
          refine held_takeD 0 (.pointer (some ⟨bw, 0, none⟩)) (some 153) (by rfl) (by rfl) (by kernel_rfl) (by kernel_rfl) (by kernel_rfl) (fun _ _ _ h => h) (.inl ⟨by rfl, fun _ _ => by rfl⟩) (hHeld) ?_
          simp only [Act.put, List.setIfInBounds_toArray, List.set_cons_zero, List.set_cons_succ]
          refine held_takeD 1 (.pointer (some ⟨bw, 0, none⟩)) (some 154) (by rfl) (by rfl) (by kernel_rfl) (by kernel_rfl) (by kernel_rfl) (fun _ _ _ h => h) (.inl ⟨by rfl, fun _ _ => by go_simp⟩) (hHeld) ?_
          simp only [Act.put, List.setIfInBounds_toArray, List.set_cons_zero, List.set_cons_succ]
          refine held_takeD 2 (.pointer (some ⟨bw, 0, none⟩)) (some 155) (by rfl) (by rfl) (by kernel_rfl) (by kernel_rfl) (by kernel_rfl) (fun _ _ _ h => h) (.inl ⟨by rfl, fun _ _ => by go_simp⟩) (hHeld) ?_
          simp only [Act.put, List.setIfInBounds_toArray, List.set_cons_zero, List.set_cons_succ]
          refine held_takeD 3 (.pointer (some ⟨w.heap.size, 0, none⟩)) (some 156) (by rfl) (by rfl) (by kernel_rfl) (by kernel_rfl) (by kernel_rfl) (fun _ _ _ h => h) (.inl ⟨by rfl, fun _ _ => by go_simp⟩) (hHeld) ?_
          simp only [Act.put, List.setIfInBounds_toArray, List.set_cons_zero, List.set_cons_succ]
          refine held_takeD 4 (.agg (bv d.frm).toArray) (some 157) (by rfl) (by rfl) (by kernel_rfl) (by kernel_rfl) (by kernel_rfl) (fun _ _ _ h => h) (yieldsIf_load_mid (by rfl) _ _ rfl _ _ rfl _ _ (fun wz hS => unhide HFR wz (c227.trans hS)) hu rfl hszf) (hHeld) ?_
          simp only [Act.put, List.setIfInBounds_toArray, List.set_cons_zero, List.set_cons_succ]
          refine held_one 5 (by kernel_rfl) (by rfl) (fun K' hK' => ?_)
          go_simp
          refine (unhide HWA).mono ?_
          rintro e w28 ⟨rfl, als28, hal28, hw28⟩
          obtain ⟨cs28, hs28, hmv28, -, hc28⟩ := ((unhide HS27).kept d27).world hw28
          refine hK'.out _ _ ((Chg.of d27).trans hc28) ?_
          clear hK' K'
          refine wpAnyH_done (by kernel_rfl) ?_ _
          refine NoPanic.normal ?_
          have c2728 : Chg bw w27 w28 := (Chg.of d27).trans hc28
          have hgr28 := Gr.warm (unhide HG27).snd hal28
          generalize ({ D27 with warmA := als28 } : WD) = D28 at hs28 hgr28
          have hg28 : Good B D28 := hgr28.good (K := 2250000000) (by omega) (by omega)
          have hwt28 := hgr28.wtle
          have HS28b := hide hs28
          have HG28 := hide hg28
          have d28 : Below w28.heap.size w28 w28.drew := Quiet.below ⟨1, rfl⟩ _
          have hcbA : IsAddr x.coin := (unhide HX).coin
          obtain ⟨cb, hcb⟩ : ∃ cb, cb = x.coin := ⟨_, rfl⟩
          rw [← hcb] at hcbA
          have hCoin : ∀ cs' (D' : WD) wz, SI G bw 0 cs' D' (opX x ms x.ret x.status an d.gas tgs x.left pn d.frm md) wz → wz.rangeAt bw 59 (bv cb) := fun cs' D' wz hz => by rw [hcb]; exact hz.coinR (unhide HX).coin
          have HCOIN := hide hCoin
          have HWA2 := hide ((hs28.kept d28).cw.warm hg28 cb hcbA)
          have hszcb := hcbA.size
          clear hs28 hg28 hCoin hcb HS27 HWA hw28 hmv28
          go_upto_region 30 with fail
          refine wp_region_noPanic ?_
          refine wp_region_held_drew (S := fun w' => w'.rangeAt bw 59 (bv cb)) (by kernel_rfl) (unhide HCOIN _ _ _ ((unhide HS28b).kept d28)) (fun hHeld => ?_)
          refine held_takeD 0 (.pointer (some ⟨bw, 0, none⟩)) (some 159) (by rfl) (by rfl) (by kernel_rfl) (by kernel_rfl) (by kernel_rfl) (fun _ _ _ h => h) (.inl ⟨by rfl, fun _ _ => by rfl⟩) (hHeld) ?_
          simp only [Act.put, List.setIfInBounds_toArray, List.set_cons_zero, List.set_cons_succ]
          refine held_takeD 1 (.pointer (some ⟨bw, 0, none⟩)) (some 160) (by rfl) (by rfl) (by kernel_rfl) (by kernel_rfl) (by kernel_rfl) (fun _ _ _ h => h) (.inl ⟨by rfl, fun _ _ => by go_simp⟩) (hHeld) ?_
          simp only [Act.put, List.setIfInBounds_toArray, List.set_cons_zero, List.set_cons_succ]
          refine held_takeD 2 (.pointer (some ⟨bw, 0, none⟩)) (some 161) (by rfl) (by rfl) (by kernel_rfl) (by kernel_rfl) (by kernel_rfl) (fun _ _ _ h => h) (.inl ⟨by rfl, fun _ _ => by go_simp⟩) (hHeld) ?_
          simp only [Act.put, List.setIfInBounds_toArray, List.set_cons_zero, List.set_cons_succ]
          refine held_takeD 3 (.pointer (some ⟨bw, 0, none⟩)) (some 162) (by rfl) (by rfl) (by kernel_rfl) (by kernel_rfl) (by kernel_rfl) (fun _ _ _ h => h) (.inl ⟨by rfl, fun _ _ => by rfl⟩) (hHeld) ?_
          simp only [Act.put, List.setIfInBounds_toArray, List.set_cons_zero, List.set_cons_succ]
          refine held_takeD 4 (.pointer (some ⟨bw, 0, none⟩)) (some 163) (by rfl) (by rfl) (by kernel_rfl) (by kernel_rfl) (by kernel_rfl) (fun _ _ _ h => h) (.inl ⟨by rfl, fun _ _ => by go_simp⟩) (hHeld) ?_
          simp only [Act.put, List.setIfInBounds_toArray, List.set_cons_zero, List.set_cons_succ]
          refine held_takeD 5 (.pointer (some ⟨bw, 59, none⟩)) (some 164) (by rfl) (by rfl) (by kernel_rfl) (by kernel_rfl) (by kernel_rfl) (fun _ _ _ h => h) (.inl ⟨by rfl, fun _ _ => by go_simp⟩) (hHeld) ?_
          simp only [Act.put, List.setIfInBounds_toArray, List.set_cons_zero, List.set_cons_succ]
          refine held_takeD 6 (.pointer (some ⟨bw, 59, none⟩)) (some 165) (by rfl) (by rfl) (by kernel_rfl) (by kernel_rfl) (by kernel_rfl) (fun _ _ _ h => h) (.inl ⟨by rfl, fun _ _ => by go_simp⟩) (hHeld) ?_
          simp only [Act.put, List.setIfInBounds_toArray, List.set_cons_zero, List.set_cons_succ]
          refine held_takeD 7 (.agg (bv cb).toArray) (some 166) (by rfl) (by rfl) (by kernel_rfl) (by kernel_rfl) (by kernel_rfl) (fun _ _ _ h => h) (yieldsIf_load_mid (by rfl) _ _ rfl _ _ rfl _ _ (fun wz hS => hS) hu rfl hszcb) (hHeld) ?_
          simp only [Act.put, List.setIfInBounds_toArray, List.set_cons_zero, List.set_cons_succ]
          refine held_one 8 (by kernel_rfl) (by rfl) (fun K' hK' => ?_)
          go_simp
          refine (unhide HWA2).mono ?_
          rintro e w29 ⟨rfl, als29, hal29, hw29⟩
          obtain ⟨cs29, hs29, hmv29, -, hc29⟩ := ((unhide HS28b).kept d28).world hw29
          refine hK'.out _ _ (unhide HCOIN _ _ _ hs29) ?_
          clear hK' K'
          refine wpAnyH_done (by kernel_rfl) ?_ _
          refine NoPanic.normal ?_
          have c2729 : Chg bw w27 w29 := c2728.trans ((Chg.of d28).trans hc29)
          have hgr29 := Gr.warm (unhide HG28).snd hal29
          generalize ({ D28 with warmA := als29 } : WD) = D29 at hs29 hgr29
          have hg29 : Good B D29 := hgr29.good (K := 2250000000) (by omega) (by omega)
          have hwt29 := hgr29.wtle
          have HS29 := hide hs29
          have HG29 := hide hg29
          have d29 : Below w29.heap.size w29 w29.drew := Quiet.below ⟨1, rfl⟩ _
          have c1029 : Chg bw w10 w29 := c1027.trans c2729
          have HWA3 := hide ((hs29.kept d29).cw.warm hg29 tg htg)
          clear hs29 hg29 HS28b HCOIN HWA2 hw29 hmv29 HG28
          as_aux_lemma =>
          go_upto_region 31 with fail
          refine wp_region_noPanic ?_
          refine wp_region_held_drew (S := fun w' => Chg bw w29 w') (by kernel_rfl) (Chg.of d29) (fun hHeld => ?_)
          refine held_takeD 0 (.pointer (some ⟨bw, 0, none⟩)) (some 168) (by rfl) (by rfl) (by kernel_rfl) (by kernel_rfl) (by kernel_rfl) (fun _ _ _ h => h) (.inl ⟨by rfl, fun _ _ => by rfl⟩) (hHeld) ?_
          simp only [Act.put, List.setIfInBounds_toArray, List.set_cons_zero, List.set_cons_succ]
          refine held_takeD 1 (.pointer (some ⟨bw, 0, none⟩)) (some 169) (by rfl) (by rfl) (by kernel_rfl) (by kernel_rfl) (by kernel_rfl) (fun _ _ _ h => h) (.inl ⟨by rfl, fun _ _ => by go_simp⟩) (hHeld) ?_
          simp only [Act.put, List.setIfInBounds_toArray, List.set_cons_zero, List.set_cons_succ]
          refine held_takeD 2 (.pointer (some ⟨bw, 0, none⟩)) (some 170) (by rfl) (by rfl) (by kernel_rfl) (by kernel_rfl) (by kernel_rfl) (fun _ _ _ h => h) (.inl ⟨by rfl, fun _ _ => by go_simp⟩) (hHeld) ?_
          simp only [Act.put, List.setIfInBounds_toArray, List.set_cons_zero, List.set_cons_succ]
          refine held_takeD 3 (.agg (bv tg).toArray) (some 171) (by rfl) (by rfl) (by kernel_rfl) (by kernel_rfl) (by kernel_rfl) (fun _ _ _ h => h) (yieldsIf_load_mid (by rfl) _ _ rfl _ _ rfl _ _ (fun wz hS => (unhide HTG wz (c1029.trans hS)).rangeAll) hu rfl hszt) (hHeld) ?_
          simp only [Act.put, List.setIfInBounds_toArray, List.set_cons_zero, List.set_cons_succ]
          refine held_one 4 (by kernel_rfl) (by rfl) (fun K' hK' => ?_)
          go_simp
          refine (unhide HWA3).mono ?_
          rintro e w30 ⟨rfl, als30, hal30, hw30⟩
          obtain ⟨cs30, hs30, hmv30, -, hc30⟩ := ((unhide HS29).kept d29).world hw30
          refine hK'.out _ _ ((Chg.of d29).trans hc30) ?_
          clear hK' K'
          refine wpAnyH_done (by kernel_rfl) ?_ _
          refine NoPanic.normal ?_
          have c2730 : Chg bw w27 w30 := c2729.trans ((Chg.of d29).trans hc30)
          have hgr30 := Gr.warm (unhide HG29).snd hal30
          generalize ({ D29 with warmA := als30 } : WD) = D30 at hs30 hgr30
          have hg30 : Good B D30 := hgr30.good (K := 2250000000) (by omega) (by omega)
          have hwt30 := hgr30.wtle
          have HL4 := hide (hs30.cw.warm hg30 (lowAddr 4) (lowAddr_is 4 (by omega) (by omega)))
          have HS30 := hide hs30
          have HG30 := hide hg30
          clear hs30 hg30 HS29 HWA3 hw30 hmv30 HG29
          go_upto_region 33 with (first
            | ((with_reducible refine at_build 26 ?_); refine wpList_build_run (by rfl) 26 [(19, .const (.int .u8 4))] rfl (.agg (bv (lowAddr 4)).toArray) (run_low 4 _) ?_)
            | (go_at_call 106; refine (unhide HL4).mono ?_; rintro e w31 ⟨rfl, als31, hal31, hw31⟩))
          obtain ⟨cs31, hs31, hmv31, -, hc31⟩ := (unhide HS30).world hw31
          have hgr31 := Gr.warm (unhide HG30).snd hal31
          generalize ({ D30 with warmA := als31 } : WD) = D31 at hs31 hgr31
          have hg31 : Good B D31 := hgr31.good (K := 2250000000) (by omega) (by omega)
          have hwt31 := hgr31.wtle
          have HL5 := hide (hs31.cw.warm hg31 (lowAddr 5) (lowAddr_is 5 (by omega) (by omega)))
          have HS31 := hide hs31
          have HG31 := hide hg31
          clear hs31 hg31 HL4 hw31 hmv31 HS30 HG30
          as_aux_lemma =>
          go_upto_region 34 with (first
            | ((with_reducible refine at_build 26 ?_); refine wpList_build_run (by rfl) 26 [(19, .const (.int .u8 5))] rfl (.agg (bv (lowAddr 5)).toArray) (run_low 5 _) ?_)
            | (go_at_call 106; refine (unhide HL5).mono ?_; rintro e w32 ⟨rfl, als32, hal32, hw32⟩))
          obtain ⟨cs32, hs32, hmv32, -, hc32⟩ := (unhide HS31).world hw32
          have hgr32 := Gr.warm (unhide HG31).snd hal32
          generalize ({ D31 with warmA := als32 } : WD) = D32 at hs32 hgr32
          have hwt32 := hgr32.wtle
          have hsn32 := hgr32.snd
          have hwtD : wt D32 ≤ wt (freshD ds) + 17500 := by omega
          have c2732 : Chg bw w27 w32 := c2730.trans (hc31.trans hc32)
          have c232 : Chg bw w2 w32 := c227.trans c2732
          have c1032 : Chg bw w10 w32 := c1027.trans c2732
          have HS32 := hide hs32
          have HSN32 := hide hsn32
          have hbl32 := hs32.lt
          have hlist := listB_le hlb
          have hk2 : k2 ≤ 16 := by rw [← ha0.len]; exact hlist.1
          have e173 : w32.cell? ⟨w.heap.size, 173, none⟩ = some (.slice A2 k2 c2) := by rw [(unhide HT w32 c232).cell]; exact h.access
          have halen := ha0.len
          obtain ⟨arows, ag1, ag2⟩ := ha0
          have AG1 := hide ag1
          have AG2 := hide ag2
          have HALEN := hide halen
          have hZ21 : (bv (zeros 20) ++ [nilS]).length = 21 := by simp [bv_len, zeros_len]
          have HBSS := hide hBs
          clear hs32 hsn32 ag1 ag2 halen HL5 hw32 hmv32 HS31 HG31 hgr28 hgr29 hgr30 hgr31 hgr32
          clear hBs
          try clear hwt24
          try clear hbal24
          try clear hpnB
          try clear hgB
          try clear hcost
          try clear hprod
          try clear hwt27
          try clear hwt28
          try clear hwt29
          try clear hwt30
          try clear hwt31
          try clear hwt32
          try clear hnx
          try clear hnx1
          try clear hp8
          try clear hxx2
          try clear hxB
          try clear hB0P
          try clear hxnB
          try clear hxbB
          try clear hBB
          try clear hPB
          try clear hpm
          try clear hmostP
          try clear hl9
          try clear hszA
          try clear hml
          try clear hn
          try clear hi
          try clear hil
          try clear hl0
          try clear hgAl
          try clear hgA
          try clear hal28
          try clear hal29
          try clear hal30
          try clear hal31
          try clear hal32
          try clear hbl2
          try clear hbl3
          try clear hbl10
          try clear hbl11
          try clear hbl13
          try clear hbl16
          try clear hbl20
          try clear hblo
          try clear hbl24
          try clear hle18
          try clear hcl
          try clear hl6
          try clear hlen20
          try clear hzo
          go_wp2_with fail
          go_loopg [186] k2 (fun gk iv wr => ∃ (i : Nat) (cs' : List Value) (D : WD), i + gk = k2 ∧ iv = .int .i64 i ∧ SI G bw 0 cs' D (opX x ms x.ret x.status an d.gas tgs x.left pn d.frm md) wr ∧ Snd B D ∧ wt D ≤ wt D32 + 162500 * i ∧ Chg bw w32 wr)
          case atStart => exact ⟨0, cs32, D32, by omega, rfl, unhide HS32, unhide HSN32, by omega, Chg.refl _ _⟩
          case round =>
            obtain ⟨wp, hwp⟩ : ∃ wp, wp = wr := ⟨_, rfl⟩
            subst hwp
            obtain ⟨i, csi, Di, hi, rfl, hsi, hsndi, hwti, hci⟩ := hrel
            have hbli := hsi.lt
            have hgi : Good B Di := hsndi.good (by omega)
            have HSI := hide hsi
            have HGI := hide hgi
            clear hsi hsndi hgi
            by_cases hil : i < k2
            · --S3
              as_aux_lemma =>
              obtain ⟨b, off, rfl, hlt, hat⟩ := rows_at' (([], []) : List Int × List (List Int)) ((unhide AG1).kept (unhide HB0 wp (c232.trans hci))) (unhide AG2) (by omega)
              obtain ⟨ri, hrg, hrow⟩ := hat i hil
              obtain ⟨y, hy⟩ : ∃ y, y = d.access.getD i ([], []) := ⟨_, rfl⟩
              have hyk : y.2.length ≤ 64 := by
                refine Nat.le_trans (keysN_mem (xs := d.access) ?_) hlist.2
                rw [hy, List.getD_eq_getElem?_getD, List.getElem?_eq_getElem (by have := unhide HALEN; omega)]
                simp
              rw [← hy] at hrow
              have hrl := hrow.len
              have hro := hrow.one
              obtain ⟨Ay, ky, cy, hrie, hya, hyw⟩ := hrow
              have hky : ky ≤ 64 := by rw [← hyw.len]; exact hyk
              have hsz : (Sakg.prog.info? 191).map (·.size) = some ri.length := by rw [hrl]; exact sizeAcc
              have HRG := hide hrg
              have HRL := hide hrl
              have HSZ := hide hsz
              have HRO := hide hro
              have HYW := hide hyw
              have hpre : (ri.drop 0).take 20 = bv y.1 := by rw [hrie, List.drop_zero, List.take_append_of_le_length (by rw [bv_len, hya.len]; omega), List.take_of_length_le (by rw [bv_len, hya.len]; omega)]
              have h20 : ri[20]? = some (.slice Ay ky cy) := by rw [hrie, List.getElem?_append_right (by rw [bv_len, hya.len]; omega), bv_len, hya.len]; rfl
              have HPRE := hide hpre
              have H20 := hide h20
              have hszy := hya.size
              clear hat hrg hrl hro hsz hyw hrie hpre h20 hy hyk
              go_upto_region 37 with (first
                | ((with_reducible refine at_load 191 ?_); refine wpList_load_g (by rfl) 191 (.tmp 188) rfl b _ rfl ri _ (unhide HRG) Sakg.underlying191 rfl (unhide HSZ) ?_)
                | ((with_reducible refine at_alloc 191 ?_); refine wpList_alloc_g (by rfl) 191 rfl (bv (zeros 20) ++ [nilS]) 21 infoAcc2 hZ21 ?_)
                | ((with_reducible refine at_store 191 ?_); refine wpList_store_whole rfl 191 (.tmp 14) (.tmp 189) rfl _ _ _ ri rfl rfl (RowT.new _ _ _) (by rw [unhide HRL, hZ21]) (unhide HSZ) (unhide HRO) ?_; intro wa hra hona; have hbba := box_below hona; clear hona))
              try simp only [Act.put, List.setIfInBounds_toArray, List.set_cons_zero, List.set_cons_succ]
              have hba := hbba.1
              have HWAS := hide hbba.2
              have hsa := (unhide HSI).kept hba
              have hbla := hsa.lt
              have hral := hra.lt
              have hBx : ∀ wz, Chg bw wa wz → RowT 191 wz wp.heap.size ri := fun wz hz => hz.row hra (Nat.ne_of_gt hbli)
              have HBX := hide hBx
              have HSA := hide hsa
              have da : Below wa.heap.size wa wa.drew := Quiet.below ⟨1, rfl⟩ _
              have c32a : Chg bw w32 wa := hci.trans (Chg.of hba)
              have HWA := hide ((hsa.kept da).cw.warm (unhide HGI) y.1 hya)
              clear hbba hsa hra hBx
              as_aux_lemma =>
              refine wp_region_noPanic ?_
              refine wp_region_held_drew (S := fun w' => RowT 191 w' wp.heap.size ri) (by kernel_rfl) (unhide HBX _ (Chg.of da)) (fun hHeld => ?_)
              refine held_takeD 0 (.pointer (some ⟨bw, 0, none⟩)) (some 190) (by rfl) (by rfl) (by kernel_rfl) (by kernel_rfl) (by kernel_rfl) (fun _ _ _ h => h) (.inl ⟨by rfl, fun _ _ => by rfl⟩) (hHeld) ?_
              simp only [Act.put, List.setIfInBounds_toArray, List.set_cons_zero, List.set_cons_succ]
              refine held_takeD 1 (.pointer (some ⟨bw, 0, none⟩)) (some 191) (by rfl) (by rfl) (by kernel_rfl) (by kernel_rfl) (by kernel_rfl) (fun _ _ _ h => h) (.inl ⟨by rfl, fun _ _ => by go_simp⟩) (hHeld) ?_
              simp only [Act.put, List.setIfInBounds_toArray, List.set_cons_zero, List.set_cons_succ]
              refine held_takeD 2 (.pointer (some ⟨bw, 0, none⟩)) (some 192) (by rfl) (by rfl) (by kernel_rfl) (by kernel_rfl) (by kernel_rfl) (fun _ _ _ h => h) (.inl ⟨by rfl, fun _ _ => by go_simp⟩) (hHeld) ?_
              simp only [Act.put, List.setIfInBounds_toArray, List.set_cons_zero, List.set_cons_succ]
              refine held_takeD 3 (.pointer (some ⟨wp.heap.size, 0, none⟩)) (some 193) (by rfl) (by rfl) (by kernel_rfl) (by kernel_rfl) (by kernel_rfl) (fun _ _ _ h => h) (.inl ⟨by rfl, fun _ _ => by go_simp⟩) (hHeld) ?_
              simp only [Act.put, List.setIfInBounds_toArray, List.set_cons_zero, List.set_cons_succ]
              refine held_takeD 4 (.agg (bv y.1).toArray) (some 194) (by rfl) (by rfl) (by kernel_rfl) (by kernel_rfl) (by kernel_rfl) (fun _ _ _ h => h) (yieldsIf_load_mid (by rfl) _ _ rfl _ _ rfl _ _ (fun wz hS => (by have := hS.range 0 20; rwa [unhide HPRE] at this)) hu rfl hszy) (hHeld) ?_
              simp only [Act.put, List.setIfInBounds_toArray, List.set_cons_zero, List.set_cons_succ]
              refine held_one 5 (by kernel_rfl) (by rfl) (fun K' hK' => ?_)
              go_simp
              refine (unhide HWA).mono ?_
              rintro e wb ⟨rfl, alsb, halb, hwb⟩
              obtain ⟨csb, hsb, hmvb, -, hcb'⟩ := ((unhide HSA).kept da).world hwb
              refine hK'.out _ _ (unhide HBX _ ((Chg.of da).trans hcb')) ?_
              clear hK' K'
              refine wpAnyH_done (by kernel_rfl) ?_ _
              refine NoPanic.normal ?_
              have cab : Chg bw wa wb := (Chg.of da).trans hcb'
              have c32b : Chg bw w32 wb := c32a.trans cab
              have hgrb := Gr.warm (unhide HGI).snd halb
              generalize ({ Di with warmA := alsb } : WD) = Db at hsb hgrb
              have hsndb := hgrb.snd
              have hwtb : wt Db ≤ wt D32 + 162500 * i + 2500 := by have := hgrb.wtle; omega
              have hrb := unhide HBX _ cab
              have e20 : wb.cell? ⟨wp.heap.size, 20, none⟩ = some (.slice Ay ky cy) := by rw [hrb.cell]; exact unhide H20
              have HRB := hide hrb
              have HSB := hide hsb
              have HSNB := hide hsndb
              have hblb := hsb.lt
              clear hsb hrb hsndb hgrb HSA HBX HWA hwb hmvb
              go_wp2_with fail
              go_loopg [199] ky (fun gk jv wr => ∃ (j : Nat) (cs' : List Value) (D : WD), j + gk = ky ∧ jv = .int .i64 j ∧ SI G bw 0 cs' D (opX x ms x.ret x.status an d.gas tgs x.left pn d.frm md) wr ∧ Snd B D ∧ wt D ≤ wt D32 + 162500 * i + 2500 + 2500 * j ∧ Chg bw w32 wr ∧ RowT 191 wr wp.heap.size ri)
              case atStart => exact ⟨0, csb, Db, by omega, rfl, unhide HSB, unhide HSNB, by omega, c32b, unhide HRB⟩
              case round =>
                obtain ⟨j, csj, Dj, hj, rfl, hsj, hsndj, hwtj, hcj, hrj⟩ := hrel
                have hblj := hsj.lt
                have hrjl := hrj.lt
                have HSJ := hide hsj
                have HSNJ := hide hsndj
                have HRJ := hide hrj
                clear hsj hsndj hrj
                by_cases hjl : j < ky
                · as_aux_lemma =>
                  obtain ⟨bk, ok, rfl, hltk, hatk⟩ := ((unhide HYW).kept (unhide HB0 wr (c232.trans hcj))).atK (by omega)
                  obtain ⟨hrgk, hwk⟩ := hatk j hjl
                  obtain ⟨kw, hkw⟩ : ∃ kw, kw = y.2.getD j [] := ⟨_, rfl⟩
                  rw [← hkw] at hrgk hwk
                  have HRGK := hide hrgk
                  have hszk := hwk.size
                  have hz32 : (bv (zeros 32)).length = 32 := by rw [bv_len, zeros_len]
                  have hgj : Good B Dj := (unhide HSNJ).good (by omega)
                  have HGJ := hide hgj
                  clear hatk hrgk hkw hgj
                  go_upto_region 41 with (first
                    | ((with_reducible refine at_load 29 ?_); refine wpList_load_g (by rfl) 29 (.tmp 201) rfl bk _ rfl (bv kw) _ (unhide HRGK) Sakg.underlying29 rfl hszk ?_)
                    | ((with_reducible refine at_alloc 29 ?_); refine wpList_alloc_g (by rfl) 29 rfl (bv (zeros 32)) 32 infoW2 hz32 ?_)
                    | ((with_reducible refine at_store 29 ?_); refine wpList_store_whole rfl 29 (.tmp 16) (.tmp 202) rfl _ _ _ (bv kw) rfl rfl (RowT.new _ _ _) (by rw [hz32, bv_len, hwk.len]) hszk (bv_one _) ?_; intro wk hrk honk; have hbbk := box_below honk; clear honk))
                  try simp only [Act.put, List.setIfInBounds_toArray, List.set_cons_zero, List.set_cons_succ]
                  have hbk := hbbk.1
                  have HWKS := hide hbbk.2
                  have hsk := (unhide HSJ).kept hbk
                  have hblk := hsk.lt
                  have HSK := hide hsk
                  have hrkA := (unhide HRJ).kept hbk
                  have hrkl := hrkA.lt
                  have hBy : ∀ wz, Chg bw wk wz → RowT 191 wz wp.heap.size ri := fun wz hz => hz.row hrkA (by omega)
                  have HBY := hide hBy
                  have dk : Below wk.heap.size wk wk.drew := Quiet.below ⟨1, rfl⟩ _
                  have c32k : Chg bw w32 wk := hcj.trans (Chg.of hbk)
                  have hsrc : Src wk.drew (some ⟨wr.heap.size, 0, none⟩) 32 32 kw := src_of_range (hrk.kept dk).rangeAll hwk.byt hwk.len max32
                  have HSRC := hide hsrc
                  have hzk : wk.drew.heap.size = wk.heap.size := rfl
                  clear hbbk hsk hrk hrkA hBy hsrc
                  refine wp_region_noPanic ?_
                  refine wp_region_held_drew (S := fun w' => RowT 191 w' wp.heap.size ri) (by kernel_rfl) (unhide HBY _ (Chg.of dk)) (fun hHeld => ?_)
                  refine held_takeD 0 (.pointer (some ⟨bw, 0, none⟩)) (some 203) (by rfl) (by rfl) (by kernel_rfl) (by kernel_rfl) (by kernel_rfl) (fun _ _ _ h => h) (.inl ⟨by rfl, fun _ _ => by rfl⟩) (hHeld) ?_
                  simp only [Act.put, List.setIfInBounds_toArray, List.set_cons_zero, List.set_cons_succ]
                  refine held_takeD 1 (.pointer (some ⟨bw, 0, none⟩)) (some 204) (by rfl) (by rfl) (by kernel_rfl) (by kernel_rfl) (by kernel_rfl) (fun _ _ _ h => h) (.inl ⟨by rfl, fun _ _ => by go_simp⟩) (hHeld) ?_
                  simp only [Act.put, List.setIfInBounds_toArray, List.set_cons_zero, List.set_cons_succ]
                  refine held_takeD 2 (.pointer (some ⟨bw, 0, none⟩)) (some 205) (by rfl) (by rfl) (by kernel_rfl) (by kernel_rfl) (by kernel_rfl) (fun _ _ _ h => h) (.inl ⟨by rfl, fun _ _ => by go_simp⟩) (hHeld) ?_
                  simp only [Act.put, List.setIfInBounds_toArray, List.set_cons_zero, List.set_cons_succ]
                  refine held_takeD 3 (.pointer (some ⟨wp.heap.size, 0, none⟩)) (some 206) (by rfl) (by rfl) (by kernel_rfl) (by kernel_rfl) (by kernel_rfl) (fun _ _ _ h => h) (.inl ⟨by rfl, fun _ _ => by go_simp⟩) (hHeld) ?_
                  simp only [Act.put, List.setIfInBounds_toArray, List.set_cons_zero, List.set_cons_succ]
                  refine held_takeD 4 (.agg (bv y.1).toArray) (some 207) (by rfl) (by rfl) (by kernel_rfl) (by kernel_rfl) (by kernel_rfl) (fun _ _ _ h => h) (yieldsIf_load_mid (by rfl) _ _ rfl _ _ rfl _ _ (fun wz hS => (by have := hS.range 0 20; rwa [unhide HPRE] at this)) hu rfl hszy) (hHeld) ?_
                  simp only [Act.put, List.setIfInBounds_toArray, List.set_cons_zero, List.set_cons_succ]
                  refine held_takeD 5 (.slice (some ⟨wr.heap.size, 0, none⟩) 32 32) (some 208) (by rfl) (by rfl) (by kernel_rfl) (by kernel_rfl) (by kernel_rfl) (fun _ _ _ h => h) (.inl ⟨by rfl, fun _ _ => by go_simp⟩) (hHeld) ?_
                  simp only [Act.put, List.setIfInBounds_toArray, List.set_cons_zero, List.set_cons_succ]
                  refine held_one 6 (by kernel_rfl) (by rfl) (fun K' hK' => ?_)
                  go_simp
                  refine (fromBE_any _ 32 32 kw wk.drew (unhide HSRC) (by omega)).mono ?_
                  rintro e wl ⟨Al, kl, cl, rfl, nl, Nl, bl⟩
                  refine hK'.out _ _ (unhide HBY _ (Chg.of (dk.trans (bl.mono dk.size)))) ?_
                  clear hK' K'
                  have dl := dk.trans (bl.mono dk.size)
                  have HWS := hide (((unhide HSK).kept dl).cw.warmSlot (unhide HGJ) y.1 hya Al kl cl _ (KNat.new nl (Nl.later dk.size) (unhide HSK).cw.ther) hwk.big)
                  refine held_one 7 (by kernel_rfl) (by rfl) (fun K' hK' => ?_)
                  go_simp
                  refine (unhide HWS).mono ?_
                  rintro e wm ⟨rfl, msm, hmsm, hwm⟩
                  obtain ⟨csm, hsm', hmvm, -, hcm⟩ := ((unhide HSK).kept dl).world hwm
                  refine hK'.out _ _ (unhide HBY _ ((Chg.of dl).trans hcm)) ?_
                  clear hK' K'
                  refine wpAnyH_done (by kernel_rfl) ?_ _
                  refine NoPanic.normal ?_
                  have ckm : Chg bw wk wm := (Chg.of dl).trans hcm
                  have c32m : Chg bw w32 wm := c32k.trans ckm
                  have hgrm := Gr.warmS (unhide HGJ).snd hmsm
                  generalize ({ Dj with warmS := msm } : WD) = Dm at hsm' hgrm
                  have hsndm := hgrm.snd
                  have hwtm : wt Dm ≤ wt D32 + 162500 * i + 2500 + 2500 * (j + 1) := by have := hgrm.wtle; omega
                  have hrm := unhide HBY _ ckm
                  have HRM := hide hrm
                  have HSM := hide hsm'
                  have HSNM := hide hsndm
                  clear hrm hsm' hsndm hgrm nl Nl HWS hwm hmvm
                  go_wp2
                  go_roundg (ky - 1 - j)
                  case measure => omega
                  case rel => exact ⟨j + 1, csm, Dm, by omega, rfl, unhide HSM, unhide HSNM, hwtm, c32m, unhide HRM⟩
                · as_aux_lemma =>
                  have hwtn : wt Dj ≤ wt D32 + 162500 * (i + 1) := by omega
                  go_wp2
                  go_roundg (k2 - 1 - i)
                  case measure => omega
                  case rel => exact ⟨i + 1, csj, Dj, by omega, rfl, unhide HSJ, unhide HSNJ, hwtn, hcj⟩
              --E3
            · as_aux_lemma =>
              have hs33 := unhide HSI
              obtain ⟨v10, hx10⟩ := hs33.cw.ex (i := 10) (by omega)
              have hf10 := hs33.cw.row.froz 10
              have HS33 := hide hs33
              clear hs33 HSI HS32 AG1 AG2 e173 HALEN
              go_upto_region 45 with fail
              obtain ⟨w34, hw34⟩ : ∃ y, y = wp.setCell ⟨bw, 10, none⟩ (Value.slice none 0 0) := ⟨_, rfl⟩
              rw [← hw34]
              have hs34 : SI G bw 0 (csi.set 10 (Value.slice none 0 0)) Di (opX x ms [] x.status an d.gas tgs x.left pn d.frm md) w34 := hw34 ▸ ((unhide HS33).setRet (KSrc.nil G wp)).1
              have c34 : Chg bw wp w34 := hw34 ▸ Chg.ofOnly ((unhide HS33).setRet (KSrc.nil G wp)).2
              generalize csi.set 10 (Value.slice none 0 0) = cs34 at hs34
              have c234 : Chg bw w2 w34 := c232.trans (hci.trans c34)
              have c1034 : Chg bw w10 w34 := c1032.trans (hci.trans c34)
              have hbl34 := hs34.lt
              have d34 : Below w34.heap.size w34 w34.drew := Quiet.below ⟨1, rfl⟩ _
              have hval := h.hvalue
              obtain ⟨A15, k15, c15, h3415, n15⟩ := hs34.xs.txgas
              have N15 : Hid (KNat G w34 A15 k15 c15 tgs) := hide n15
              have hS45 : ∀ wz, Below w34.heap.size w34 wz → RowT 33 wz w.heap.size r ∧ RowT 26 wz w3.heap.size (bv tg) ∧ wz.cell? ⟨bw, 15, none⟩ = some (Value.slice A15 k15 c15) := fun wz hz => ⟨unhide HT wz (c234.trans (Chg.of hz)), unhide HTG wz (c1034.trans (Chg.of hz)), (hs34.kept hz).cw.cell h3415⟩
              have hsv : ∀ wz, Below w34.heap.size w34 wz → Src wz (some ⟨w.heap.size, 75, none⟩) 32 32 d.value := fun wz hz => src_of_range (by have := (hS45 wz hz).1.range 75 32; rwa [h.value] at this) hval.byt hval.len max32
              have HS45 := hide hS45
              have HSV := hide hsv
              have HS34 := hide hs34
              have hT34 := hs34.cw.ther
              have hwtDi : wt Di ≤ wt (freshD ds) + 3000000 := by omega
              clear hs34 h3415 n15 hS45 hsv hw34 hx10 hf10 HS33
              go_cut [17] (fun s17 wc => ∃ (gF : Nat) (Av : Option Addr) (kv cv : Nat), s17 = .pointer (some ⟨gF, 0, none⟩) ∧ w34.heap.size ≤ gF ∧ RowT 194 wc gF (frame5 A15 Av k15 c15 kv cv tg d.frm) ∧ KNat (Plus G gF) wc Av kv cv (beN d.value) ∧ Below w34.heap.size w34 wc)
              case first =>
                --S4
                as_aux_lemma =>
                refine wp_region_noPanic ?_
                refine wp_region_held_drew (S := fun w' => Below w34.heap.size w34 w') (by kernel_rfl) (d34) (fun hHeld => ?_)
                refine held_takeD 0 (.pointer (some ⟨bw, 0, none⟩)) (some 216) (by rfl) (by rfl) (by kernel_rfl) (by kernel_rfl) (by kernel_rfl) (fun _ _ _ h => h) (.inl ⟨by rfl, fun _ _ => by rfl⟩) (hHeld) ?_
                simp only [Act.put, List.setIfInBounds_toArray, List.set_cons_zero, List.set_cons_succ]
                refine held_takeD 1 (.pointer (some ⟨bw, 0, none⟩)) (some 217) (by rfl) (by rfl) (by kernel_rfl) (by kernel_rfl) (by kernel_rfl) (fun _ _ _ h => h) (.inl ⟨by rfl, fun _ _ => by go_simp⟩) (hHeld) ?_
                simp only [Act.put, List.setIfInBounds_toArray, List.set_cons_zero, List.set_cons_succ]
                refine held_takeD 2 (.pointer (some ⟨bw, 15, none⟩)) (some 218) (by rfl) (by rfl) (by kernel_rfl) (by kernel_rfl) (by kernel_rfl) (fun _ _ _ h => h) (.inl ⟨by rfl, fun _ _ => by go_simp⟩) (hHeld) ?_
                simp only [Act.put, List.setIfInBounds_toArray, List.set_cons_zero, List.set_cons_succ]
                refine held_takeD 3 (.slice A15 k15 c15) (some 219) (by rfl) (by rfl) (by kernel_rfl) (by kernel_rfl) (by kernel_rfl) (fun _ _ _ h => h) (.inl ⟨by rfl, fun wS hS => by have hc := (unhide HS45 wS hS).2.2; go_simp⟩) (hHeld) ?_
                simp only [Act.put, List.setIfInBounds_toArray, List.set_cons_zero, List.set_cons_succ]
                refine held_takeD 4 (.pointer (some ⟨w.heap.size, 75, none⟩)) (some 220) (by rfl) (by rfl) (by kernel_rfl) (by kernel_rfl) (by kernel_rfl) (fun _ _ _ h => h) (.inl ⟨by rfl, fun _ _ => by go_simp⟩) (hHeld) ?_
                simp only [Act.put, List.setIfInBounds_toArray, List.set_cons_zero, List.set_cons_succ]
                refine held_takeD 5 (.slice (some ⟨w.heap.size, 75, none⟩) 32 32) (some 221) (by rfl) (by rfl) (by kernel_rfl) (by kernel_rfl) (by kernel_rfl) (fun _ _ _ h => h) (.inl ⟨by rfl, fun _ _ => by go_simp⟩) (hHeld) ?_
                simp only [Act.put, List.setIfInBounds_toArray, List.set_cons_zero, List.set_cons_succ]
                refine held_takeD 7 (.agg (bv tg).toArray) (some 223) (by rfl) (by rfl) (by kernel_rfl) (by kernel_rfl) (by kernel_rfl) (fun _ _ _ h => h) (yieldsIf_load_mid (by rfl) _ _ rfl _ _ rfl _ _ (fun wz hS => (unhide HS45 wz hS).2.1.rangeAll) hu rfl hszt) (hHeld) ?_
                simp only [Act.put, List.setIfInBounds_toArray, List.set_cons_zero, List.set_cons_succ]
                refine held_takeD 8 (.pointer (some ⟨w.heap.size, 0, none⟩)) (some 224) (by rfl) (by rfl) (by kernel_rfl) (by kernel_rfl) (by kernel_rfl) (fun _ _ _ h => h) (.inl ⟨by rfl, fun _ _ => by go_simp⟩) (hHeld) ?_
                simp only [Act.put, List.setIfInBounds_toArray, List.set_cons_zero, List.set_cons_succ]
                refine held_takeD 9 (.agg (bv d.frm).toArray) (some 225) (by rfl) (by rfl) (by kernel_rfl) (by kernel_rfl) (by kernel_rfl) (fun _ _ _ h => h) (yieldsIf_load_mid (by rfl) _ _ rfl _ _ rfl _ _ (fun wz hS => (by have := (unhide HS45 wz hS).1.range 0 20; rwa [h.frm] at this)) hu rfl hszf) (hHeld) ?_
                simp only [Act.put, List.setIfInBounds_toArray, List.set_cons_zero, List.set_cons_succ]
                refine held_two 6 11 (by kernel_rfl) (by rfl) (by rfl) (fun K' hK' => ?_) (fun K' hK' => ?_)
                · go_simp
                  refine (fromBE_any _ 32 32 d.value w34.drew (unhide HSV _ d34) (by omega)).mono ?_
                  rintro e wq ⟨Av, kv, cv, rfl, nq, Nq, bq⟩
                  have dq := d34.trans (bq.mono d34.size)
                  refine hK'.out _ _ (dq) ?_
                  clear hK' K'
                  refine held_takeD 10 (.agg (frame5 A15 Av k15 c15 kv cv tg d.frm).toArray) (some 226) (by rfl) (by rfl) (by kernel_rfl) (by kernel_rfl) (by kernel_rfl) (fun _ _ _ h => h) (yieldsIf_build (by rfl) 194 [(0, .const (.int .u8 0)), (4, .tmp 219), (5, .tmp 222), (12, .tmp 223), (13, .tmp 225)] rfl _ (fun wx => run_frame5 wx A15 Av k15 c15 kv cv tg d.frm htg hfrm)) dq ?_
                  simp only [Act.put, List.setIfInBounds_toArray, List.set_cons_zero, List.set_cons_succ]
                  have hFC := frame5_ok A15 Av k15 c15 kv cv tg d.frm htg hfrm
                  refine held_one 11 (by kernel_rfl) (by rfl) (fun K' hK' => ?_)
                  refine if_alloc (some 17) rfl 194 rfl (by rfl) _ 60 infoFrame2 zeroF_len (fun wF rF bF sF => ?_)
                  have dF := dq.trans (bF.mono dq.size)
                  refine hK'.out _ _ (dF) ?_
                  clear hK' K'
                  simp only [Act.put, List.setIfInBounds_toArray, List.set_cons_zero, List.set_cons_succ]
                  refine held_one 12 (by kernel_rfl) (by rfl) (fun K' hK' => ?_)
                  refine if_store rfl (by rfl) 194 (.tmp 17) (.tmp 226) rfl wq.heap.size 0 194 _ (frame5 A15 Av k15 c15 kv cv tg d.frm) rfl rfl rF (by rw [hFC.len, zeroF_len]; omega) (by rw [hFC.len]; exact sizeFrame) hFC.one (fun wS rS oS => ?_)
                  have dS : Below w34.heap.size w34 wS := dF.trans (oS.below _ (dq.size))
                  refine hK'.out _ _ (dS) ?_
                  clear hK' K'
                  refine wpAnyH_done (by kernel_rfl) ?_ _
                  refine NoPanic.normal ?_
                  rw [spl_all _ _ (by rw [hFC.len, zeroF_len])] at rS
                  have zd : w34.drew.heap.size = w34.heap.size := rfl
                  have zq := bq.size
                  have zF := bF.size
                  have q1 : KNat (Plus G (wq.heap.size)) wS Av kv cv (beN d.value) := knatBx nq Nq (hT34.go d34.size) (by omega) ((ChgS.of (G := Plus G (wq.heap.size)) bF).trans (ChgS.only oS (.inr rfl)))
                  have Q1 := hide q1
                  have RS := hide rS
                  clear q1 rS nq rF
                  go_wp2_with fail
                  go_meet
                  case rel => exact ⟨wq.heap.size, Av, kv, cv, rfl, dq.size, unhide RS, unhide Q1, dS⟩
                · refine if_alloc (some 17) rfl 194 rfl (by rfl) _ 60 infoFrame2 zeroF_len (fun wF rF bF sF => ?_)
                  have dF := d34.trans (bF.mono d34.size)
                  refine hK'.out _ _ (dF) ?_
                  clear hK' K'
                  simp only [Act.put, List.setIfInBounds_toArray, List.set_cons_zero, List.set_cons_succ]
                  refine held_one 6 (by kernel_rfl) (by rfl) (fun K' hK' => ?_)
                  go_simp
                  refine (fromBE_any _ 32 32 d.value wF (unhide HSV _ dF) (by omega)).mono ?_
                  rintro e wq ⟨Av, kv, cv, rfl, nq, Nq, bq⟩
                  have dq := dF.trans (bq.mono dF.size)
                  refine hK'.out _ _ (dq) ?_
                  clear hK' K'
                  refine held_takeD 10 (.agg (frame5 A15 Av k15 c15 kv cv tg d.frm).toArray) (some 226) (by rfl) (by rfl) (by kernel_rfl) (by kernel_rfl) (by kernel_rfl) (fun _ _ _ h => h) (yieldsIf_build (by rfl) 194 [(0, .const (.int .u8 0)), (4, .tmp 219), (5, .tmp 222), (12, .tmp 223), (13, .tmp 225)] rfl _ (fun wx => run_frame5 wx A15 Av k15 c15 kv cv tg d.frm htg hfrm)) dq ?_
                  simp only [Act.put, List.setIfInBounds_toArray, List.set_cons_zero, List.set_cons_succ]
                  have hFC := frame5_ok A15 Av k15 c15 kv cv tg d.frm htg hfrm
                  refine held_one 12 (by kernel_rfl) (by rfl) (fun K' hK' => ?_)
                  refine if_store rfl (by rfl) 194 (.tmp 17) (.tmp 226) rfl w34.heap.size 0 194 _ (frame5 A15 Av k15 c15 kv cv tg d.frm) rfl rfl (rF.kept bq) (by rw [hFC.len, zeroF_len]; omega) (by rw [hFC.len]; exact sizeFrame) hFC.one (fun wS rS oS => ?_)
                  have dS : Below w34.heap.size w34 wS := dq.trans (oS.below _ (Nat.le_refl _))
                  refine hK'.out _ _ (dS) ?_
                  clear hK' K'
                  refine wpAnyH_done (by kernel_rfl) ?_ _
                  refine NoPanic.normal ?_
                  rw [spl_all _ _ (by rw [hFC.len, zeroF_len])] at rS
                  have zd : w34.drew.heap.size = w34.heap.size := rfl
                  have zq := bq.size
                  have zF := bF.size
                  have q1 : KNat (Plus G (w34.heap.size)) wS Av kv cv (beN d.value) := knatBx nq Nq (hT34.go dF.size) (by omega) (ChgS.only oS (.inr rfl))
                  have Q1 := hide q1
                  have RS := hide rS
                  clear q1 rS nq rF
                  go_wp2_with fail
                  go_meet
                  case rel => exact ⟨w34.heap.size, Av, kv, cv, rfl, Nat.le_refl _, unhide RS, unhide Q1, dS⟩
                --E4
              case rest =>
                as_aux_lemma =>
                obtain ⟨w35, hw35⟩ : ∃ w35, w35 = wc := ⟨_, rfl⟩
                subst hw35
                obtain ⟨gF, Av, kv, cv, rfl, hgF, hr35, hn35, b35⟩ := hcut
                have hbgF : gF ≠ bw := by omega
                obtain ⟨E, hE⟩ : ∃ E, E = Plus G gF := ⟨_, rfl⟩
                have hEG : ∀ i, E i → i < w34.heap.size → G i := by rw [hE]; exact plus_new hgF
                have hGE : ∀ i, G i → E i := fun i hi => by rw [hE]; exact .inl hi
                have hEb : E gF := by rw [hE]; exact .inr rfl
                have hTE : Ther E w35 := by rw [hE]; exact (hT34.go b35.size).plus hr35.lt
                rw [← hE] at hn35
                have hkf := KF.outer (G := E) (w := w35) ((StabS.to (unhide N15) hEG).kp (ChgS.of b35)) hn35 htg hfrm
                have hl35 : (frame5 A15 Av k15 c15 kv cv tg d.frm).length = 60 := (frame5_ok A15 Av k15 c15 kv cv tg d.frm htg hfrm).len
                generalize frame5 A15 Av k15 c15 kv cv tg d.frm = fr0 at hr35 hkf hl35
                have of35 : OF E bw gF cs34 Di (opX x ms [] x.status an d.gas tgs x.left pn d.frm md) fr0 (outerF tgs (beN d.value) tg d.frm) w34 w35 := ⟨(unhide HS34).lift b35 hEG hGE hTE, ⟨hr35, by omega, hEb, hTE, hkf.eq (fun i hi => by unfold cellsAt; rw [Nat.zero_add])⟩, Chg.of b35, hl35⟩
                have e40 : w35.cell? ⟨w.heap.size, 40, none⟩ = some (.bool cr) := by rw [(unhide HS45 w35 b35).1.cell, unhide HCR]; exact h.create
                have hTGr : ∀ wz, Chg bw w34 wz → wz.rangeAt w3.heap.size 0 (bv tg) := fun wz hz => (unhide HTG wz (c1034.trans hz)).rangeAll
                have HTGR := hide hTGr
                have hDat : ∀ wz, Chg bw w34 wz → Src wz A1 k1 c1 d.data ∧ wz.cell? ⟨w.heap.size, 107, none⟩ = some (.slice A1 k1 c1) := fun wz hz => ⟨hd0.kept (unhide HB0 wz (c234.trans hz)), by rw [(unhide HT wz (c234.trans hz)).cell]; exact h.data⟩
                have HDAT := hide hDat
                have hk1 : k1 ≤ 140737488355328 := by rw [← hd0.len_eq]; omega
                have hcw34 : ChgS G w w34 := ChgS.chg (unhide HCW w34 c234) hgb
                have hsz34 := hcw34.size
                have hWid : Wider G E w := ⟨hGE, fun i hi hl => hEG i hi (by omega)⟩
                have hOX : ∀ s lf, lf ≤ 1048576 → OpenX x (opX x ms [] s an d.gas tgs lf pn d.frm md) d := fun s lf hlf => ⟨⟨ms, s, lf, md, by rw [unhide HAN, unhide HTGS, unhide HPN]⟩, (unhide HX).opens (unhide HMB) hmsl (by simp) hgas (by rw [unhide HTGS]; omega) hlf hpnP hfrm hmd⟩
                have hBf : B + d.gas * priceN d x.fee = B0 := by rw [← unhide HPN, ← unhide HCO]; exact unhide HBSS
                have hvalP := hval.lt
                have hvalB := hval.big
                have huF := Sakg.underlying194
                have OF35 := hide of35
                have HOX := hide hOX
                clear hr35 hn35 of35 hkf hTGr hDat hOX HS45 HSV N15 HS34 hE hTE
                cases cr with
                | false =>
                  as_aux_lemma =>
                  have HTG35 := hide (unhide HTGR w35 (unhide OF35).chg)
                  have HNA := hide (nativeAt_any tg w35 htg)
                  have hnv255 : nativeN tg ≤ 255 := by unfold nativeN; split <;> (try split) <;> omega
                  go_upto_region 48 with (first
                    | ((with_reducible refine at_load 26 ?_); refine wpList_load_g (by rfl) 26 (.tmp 8) rfl w3.heap.size 0 rfl (bv tg) _ (unhide HTG35) hu rfl hszt ?_)
                    | (go_at_call 108; refine (unhide HNA).mono ?_; rintro e w36 ⟨rfl, b36⟩; have of36 := (unhide OF35).kept b36; obtain ⟨v36, hx36⟩ := of36.cell (i := 1) (by omega); have hf36 := of36.fx.row.froz 1; have OF36 := hide of36; clear of36))
                  obtain ⟨nv, hnv⟩ : ∃ nv, nv = nativeN tg := ⟨_, rfl⟩
                  rw [← hnv] at hnv255 ⊢
                  obtain ⟨w37, hw37⟩ : ∃ y, y = w36.setCell ⟨gF, 1, none⟩ (Value.int .u8 nv) := ⟨_, rfl⟩
                  rw [← hw37]
                  have of37 := hw37 ▸ (unhide OF36).put hgF hbgF (j := 1) (by omega) ((unhide OF36).fx.kf.setNative nv)
                  have e1 : w37.cell? ⟨gF, 1, none⟩ = some (.int .u8 nv) := by rw [of37.fx.row.cell]; exact List.getElem?_set_self (by rw [hl35]; omega)
                  generalize fr0.set 1 (Value.int .u8 nv) = fr1 at of37
                  have OF37 := hide of37
                  clear hw37 hx36 hf36 of37 HNA HTG35 hnv OF36
                  go_upto_if 235 with fail
                  go_cut [17] (fun s17 wc => s17 = .pointer (some ⟨gF, 0, none⟩) ∧ ∃ (fb : List Value) (code : List Int), OF E bw gF cs34 Di (opX x ms [] x.status an d.gas tgs x.left pn d.frm md) fb { outerF tgs (beN d.value) tg d.frm with native := nv, code := code } w34 wc ∧ code.length ≤ 256 ∧ (code ≠ [] → Live Di.accts tg))
                  case first =>
                    --S5
                    as_aux_lemma =>
                    by_cases hnv : nv = 0
                    · subst hnv
                      have t0 : ((0 : Int) == 0) = true := rfl
                      go_upto_region 49 with fail
                      have d37 : Below w37.heap.size w37 w37.drew := Quiet.below ⟨1, rfl⟩ _
                      have hS49 : ∀ wz, Below w37.heap.size w37 wz → wz.rangeAt w3.heap.size 0 (bv tg) := fun wz hz => unhide HTGR wz ((unhide OF37).chg.trans (Chg.of hz))
                      have HS49 := hide hS49
                      have HAC := hide (((unhide OF37).si.kept d37).cw.account (unhide HGI) tg htg)
                      have hgt := (unhide HGI).acc.look tg
                      have hlvt : (lookY Di.accts tg).code ≠ [] → Live Di.accts tg := fun hc => .inr hc
                      obtain ⟨ct, hct⟩ : ∃ ct, ct = (lookY Di.accts tg).code := ⟨_, rfl⟩
                      have hctl : ct.length ≤ 256 := by rw [hct]; exact hgt.code
                      rw [← hct] at hlvt
                      have HCT := hide hct
                      clear hS49 hct hgt
                      refine wp_region_noPanic ?_
                      refine wp_region_held_drew (S := fun w' => w'.rangeAt w3.heap.size 0 (bv tg)) (by kernel_rfl) (unhide HS49 _ d37) (fun hHeld => ?_)
                      refine held_takeD 0 (.pointer (some ⟨bw, 0, none⟩)) (some 236) (by rfl) (by rfl) (by kernel_rfl) (by kernel_rfl) (by kernel_rfl) (fun _ _ _ h => h) (.inl ⟨by rfl, fun _ _ => by rfl⟩) (hHeld) ?_
                      simp only [Act.put, List.setIfInBounds_toArray, List.set_cons_zero, List.set_cons_succ]
                      refine held_takeD 1 (.pointer (some ⟨bw, 0, none⟩)) (some 237) (by rfl) (by rfl) (by kernel_rfl) (by kernel_rfl) (by kernel_rfl) (fun _ _ _ h => h) (.inl ⟨by rfl, fun _ _ => by go_simp⟩) (hHeld) ?_
                      simp only [Act.put, List.setIfInBounds_toArray, List.set_cons_zero, List.set_cons_succ]
                      refine held_takeD 2 (.pointer (some ⟨bw, 0, none⟩)) (some 238) (by rfl) (by rfl) (by kernel_rfl) (by kernel_rfl) (by kernel_rfl) (fun _ _ _ h => h) (.inl ⟨by rfl, fun _ _ => by go_simp⟩) (hHeld) ?_
                      simp only [Act.put, List.setIfInBounds_toArray, List.set_cons_zero, List.set_cons_succ]
                      refine held_takeD 3 (.agg (bv tg).toArray) (some 239) (by rfl) (by rfl) (by kernel_rfl) (by kernel_rfl) (by kernel_rfl) (fun _ _ _ h => h) (yieldsIf_load_mid (by rfl) _ _ rfl _ _ rfl _ _ (fun wz hS => hS) hu rfl hszt) (hHeld) ?_
                      simp only [Act.put, List.setIfInBounds_toArray, List.set_cons_zero, List.set_cons_succ]
                      refine held_one 4 (by kernel_rfl) (by rfl) (fun K' hK' => ?_)
                      go_simp
                      refine (unhide HAC).mono ?_
                      rintro e w38 ⟨rx, rfl, hrx, b38⟩
                      refine hK'.out _ _ (unhide HS49 _ (d37.trans (b38.mono d37.size))) ?_
                      clear hK' K'
                      have d38 := d37.trans (b38.mono d37.size)
                      obtain ⟨E1, p1, r1', E2, p2, r2', E3, p3, r3', E4, p4, r4', u20, u21, u22, u23, y1, y2, y3, y4⟩ := hrx.cells
                      have hfld := run_field_slice fldCode Sakg.underlying30 rx _ u22
                      rw [← unhide HCT] at y3
                      have hsc : Src w38 E3 p3 r3' ct := y3.now
                      have hp3 : p3 ≤ 140737488355328 := by rw [← hsc.len_eq]; omega
                      have HSC := hide hsc
                      clear hrx u20 u21 u22 u23 y1 y2 y3 y4 hsc
                      refine held_takeD 5 (.slice E3 p3 r3') (some 241) (by rfl) (by rfl) (by kernel_rfl) (by kernel_rfl) (by kernel_rfl) (fun _ _ _ h => h) (.inl ⟨by rfl, fun _ _ => by go_simp⟩) (unhide HS49 _ d38) ?_
                      simp only [Act.put, List.setIfInBounds_toArray, List.set_cons_zero, List.set_cons_succ]
                      refine held_one 6 (by kernel_rfl) (by rfl) (fun K' hK' => ?_)
                      go_simp
                      refine (bytesOf_any E3 p3 r3' ct w38 (unhide HSC) hp3).mono ?_
                      rintro e w39 ⟨Ac, kc, rfl, nac, -, Nac, b39⟩
                      refine hK'.out _ _ (unhide HS49 _ (d38.trans (b39.mono d38.size))) ?_
                      clear hK' K'
                      have d39 := d38.trans (b39.mono d38.size)
                      refine held_takeD 7 (.pointer (some ⟨gF, 10, none⟩)) (some 243) (by rfl) (by rfl) (by kernel_rfl) (by kernel_rfl) (by kernel_rfl) (fun _ _ _ h => h) (.inl ⟨by rfl, fun _ _ => by go_simp⟩) (unhide HS49 _ d39) ?_
                      simp only [Act.put, List.setIfInBounds_toArray, List.set_cons_zero, List.set_cons_succ]
                      have of39 := (unhide OF37).kept d39
                      have kc39 : KSrc E w39 Ac kc kc ct := KSrc.new nac (Nac.later d38.size) (unhide OF37).si.cw.ther
                      obtain ⟨v39, hx39⟩ := of39.cell (i := 10) (by omega)
                      have hf39 := of39.fx.row.froz 10
                      refine held_one 8 (by kernel_rfl) (by rfl) (fun K' hK' => ?_)
                      go_simp
                      obtain ⟨w40, hw40⟩ : ∃ y, y = w39.setCell ⟨gF, 10, none⟩ (Value.slice Ac kc kc) := ⟨_, rfl⟩
                      rw [← hw40]
                      have of40 := hw40 ▸ of39.put hgF hbgF (j := 10) (by omega) (of39.fx.kf.setCode kc39)
                      refine hK'.out _ _ (unhide HTGR w40 of40.chg) ?_
                      clear hK' K' hw40
                      refine wpAnyH_done (by kernel_rfl) ?_ _
                      refine NoPanic.normal ?_
                      have OF40 := hide of40
                      clear of40 of39 hx39 hf39 hfld HSC HAC HS49 nac kc39
                      go_wp2_with fail
                      go_meet
                      case rel => exact ⟨rfl, _, ct, unhide OF40, hctl, hlvt⟩
                    · have t0 : ((nv : Int) == 0) = false := by rw [beq_eq_false_iff_ne]; omega
                      go_wp2_with fail
                      go_meet
                      case rel => exact ⟨rfl, fr1, [], unhide OF37, by simp, fun hh => absurd rfl hh⟩
                    --E5
                  case rest =>
                  as_aux_lemma =>
                  obtain ⟨w40, hw40⟩ : ∃ w40, w40 = wc := ⟨_, rfl⟩
                  subst hw40
                  obtain ⟨rfl, fb40, code, of40, hcdl, hcdv⟩ := hcut
                  have OF40 := hide of40
                  have e107 := (unhide HDAT w40 of40.chg).2
                  have HDB := hide (bytesOf_any A1 k1 c1 d.data w40 (unhide HDAT w40 of40.chg).1 hk1)
                  clear of40
                  go_upto_region 58 with (go_at_call 57; refine (unhide HDB).mono ?_; rintro e wd ⟨Ad, kd, rfl, nad, -, Nad, bd⟩; have ofd := (unhide OF40).kept bd; have kd0 : KSrc E wd Ad kd kd d.data := KSrc.new nad Nad (unhide OF40).si.cw.ther; obtain ⟨vd, hxd⟩ := ofd.cell (i := 11) (by omega); have hfd := ofd.fx.row.froz 11; have OFD := hide ofd; have KD := hide kd0; clear ofd kd0 nad)
                  obtain ⟨w41, hw41⟩ : ∃ y, y = wd.setCell ⟨gF, 11, none⟩ (Value.slice Ad kd kd) := ⟨_, rfl⟩
                  rw [← hw41]
                  have of41 := hw41 ▸ (unhide OFD).put hgF hbgF (j := 11) (by omega) ((unhide OFD).fx.kf.setInput (unhide KD))
                  generalize fb40.set 11 (Value.slice Ad kd kd) = fb41 at of41
                  obtain ⟨v11, hx11⟩ := of41.si.cw.ex (i := 11) (by omega)
                  have hf11 := of41.si.cw.row.froz 11
                  obtain ⟨hsi50, hkf50, hc50⟩ := of41.phase
                  have hfrn := hsi50.frames
                  have HEN50 := hide (enter_k (gf := bw) (fr := []) (fs := []) hsi50.sb (.inl ⟨rfl, hsi50.frames⟩) (unhide HGI) (by omega) _ fb41 of41.len hkf50 (show (0 : Nat) ≤ 7 by omega) hvalP (by simp))
                  have HC50 := hide hc50
                  have HRF := hide (of41.fx.row.only ((Only.refl bw w41).setCell 11 (Value.int .u8 1)) hbgF).rangeAll
                  have hl41 := of41.len
                  clear of41 hsi50 hkf50 hc50 hw41 hxd hfd OFD KD e107 HDB hfrn
                  go_upto_region 59 with fail
                  go_wp2_with (first
                    | ((with_reducible refine at_load 194 ?_); refine wpList_load_g (by rfl) 194 (.tmp 17) rfl gF 0 rfl fb41 _ (unhide HRF) huF rfl (by rw [hl41]; exact sizeFrame) ?_)
                    | (go_at_call 110; refine (unhide HEN50).mono ?_; rintro e w51 hent; have HENT := hide hent; have hee := hent.1; subst hee; clear hent))
                  go_ret
                  exact begin_end (hcw34.trans (ChgS.chg (unhide HC50) hgb)) (Tm.chg (by decide) (unhide HROW0) ((unhide HCW w34 c234).trans (unhide HC50))) hWid (unhide HENT) (unhide HOX x.status x.left (unhide HX).left) rfl hBf (unhide HGI).snd ⟨p256_pos, hvalP, p256_pos, p256_pos, fun y hy => by simp [outerF] at hy, by simp [outerF], by show code.length ≤ 1000; omega, by show d.data.length ≤ 1000000; omega, by show (0 : Nat) ≤ 7; omega, hnv255⟩ rfl (unhide HTGS) hgas rfl (fun hc => .inr (hcdv hc)) hwtDi hwt
                | true =>
                  as_aux_lemma =>
                  obtain ⟨v36, hx36⟩ := (unhide OF35).cell (i := 0) (by omega)
                  have hf36 := (unhide OF35).fx.row.froz 0
                  go_upto_region 52 with fail
                  obtain ⟨w37, hw37⟩ : ∃ y, y = w35.setCell ⟨gF, 0, none⟩ (Value.int .u8 1) := ⟨_, rfl⟩
                  rw [← hw37]
                  have of37 := hw37 ▸ (unhide OF35).put hgF hbgF (j := 0) (by omega) ((unhide OF35).fx.kf.setKind 1)
                  generalize fr0.set 0 (Value.int .u8 1) = fr1 at of37
                  have e107 := (unhide HDAT w37 of37.chg).2
                  have HDB := hide (bytesOf_any A1 k1 c1 d.data w37 (unhide HDAT w37 of37.chg).1 hk1)
                  have OF37 := hide of37
                  clear hw37 hx36 hf36 of37
                  go_upto_region 53 with (go_at_call 57; refine (unhide HDB).mono ?_; rintro e wd ⟨Ad, kd, rfl, nad, -, Nad, bd⟩; have ofd := (unhide OF37).kept bd; have kd0 : KSrc E wd Ad kd kd d.data := KSrc.new nad Nad (unhide OF37).si.cw.ther; obtain ⟨vd, hxd⟩ := ofd.cell (i := 10) (by omega); have hfd := ofd.fx.row.froz 10; have OFD := hide ofd; have KD := hide kd0; clear ofd kd0 nad)
                  obtain ⟨w41, hw41⟩ : ∃ y, y = wd.setCell ⟨gF, 10, none⟩ (Value.slice Ad kd kd) := ⟨_, rfl⟩
                  rw [← hw41]
                  have of41 := hw41 ▸ (unhide OFD).put hgF hbgF (j := 10) (by omega) ((unhide OFD).fx.kf.setCode (unhide KD))
                  generalize fr1.set 10 (Value.slice Ad kd kd) = fb41 at of41
                  have HTG41 := hide (unhide HTGR w41 of41.chg)
                  have HTK := hide (of41.si.cw.taken (unhide HGI) tg htg)
                  have OF41 := hide of41
                  clear of41 hw41 hxd hfd OFD KD e107 HDB
                  go_upto_if 255 with (first
                    | ((with_reducible refine at_load 26 ?_); refine wpList_load_g (by rfl) 26 (.tmp 8) rfl w3.heap.size 0 rfl (bv tg) _ (unhide HTG41) hu rfl hszt ?_)
                    | (go_at_call 109; refine (unhide HTK).mono ?_; rintro e w42 ⟨⟨tk, rfl⟩, b42⟩))
                  have OF42 := hide ((unhide OF41).kept b42)
                  clear HTG41 HTK OF41
                  cases tk with
                  | true =>
                    as_aux_lemma =>
                    obtain ⟨v11, hx11⟩ := (unhide OF42).si.cw.ex (i := 11) (by omega)
                    have hf11 := (unhide OF42).si.cw.row.froz 11
                    go_upto_region 55 with fail
                    obtain ⟨w43, hw43⟩ : ∃ y, y = w42.setCell ⟨bw, 11, none⟩ (Value.int .u8 2) := ⟨_, rfl⟩
                    rw [← hw43]
                    obtain ⟨hs43, o43⟩ := (unhide OF42).si.setPhase 2
                    rw [show w42.setCell ⟨bw, 11, none⟩ (Value.int .u8 (2 : Nat)) = w43 from hw43.symm] at hs43 o43
                    obtain ⟨v12, hx12⟩ := hs43.cw.ex (i := 12) (by omega)
                    have hf12 := hs43.cw.row.froz 12
                    have HS43 := hide hs43
                    clear hs43 hw43 hx11 hf11
                    go_upto_region 56 with fail
                    obtain ⟨w44, hw44⟩ : ∃ y, y = w43.setCell ⟨bw, 12, none⟩ (Value.int .u8 12) := ⟨_, rfl⟩
                    rw [← hw44]
                    obtain ⟨hs44, o44⟩ := (unhide HS43).setStatus 12
                    rw [show w43.setCell ⟨bw, 12, none⟩ (Value.int .u8 (12 : Nat)) = w44 from hw44.symm] at hs44 o44
                    obtain ⟨v16, hx16⟩ := hs44.cw.ex (i := 16) (by omega)
                    have hf16 := hs44.cw.row.froz 16
                    have HS44 := hide hs44
                    clear hs44 hw44 hx12 hf12
                    go_wp2_with fail
                    go_ret
                    obtain ⟨hs45, o45⟩ := (unhide HS44).setLeft (KNat.nil E w44)
                    have hc45 : Chg bw w34 (w44.setCell ⟨bw, 16, none⟩ (.slice none 0 0)) := (unhide OF42).chg.trans ((Chg.ofOnly o43).trans ((Chg.ofOnly o44).trans (Chg.ofOnly o45)))
                    exact ⟨rfl, .inr ⟨rfl, E, _, Di, _, B, hWid, hcw34.trans (ChgS.chg hc45 hgb), Tm.chg (by decide) (unhide HROW0) ((unhide HCW w34 c234).trans hc45), unhide HOX 12 0 (by omega), hBf, .inr ⟨hs45.se, unhide HGI, rfl, by omega⟩⟩⟩
                  | false =>
                    as_aux_lemma =>
                    obtain ⟨v11, hx11⟩ := (unhide OF42).si.cw.ex (i := 11) (by omega)
                    have hf11 := (unhide OF42).si.cw.row.froz 11
                    obtain ⟨hsi50, hkf50, hc50⟩ := (unhide OF42).phase
                    have HEN50 := hide (enter_k (gf := bw) (fr := []) (fs := []) hsi50.sb (.inl ⟨rfl, hsi50.frames⟩) (unhide HGI) (by omega) _ fb41 (unhide OF42).len hkf50 (show (1 : Nat) ≤ 7 by omega) hvalP (by simp))
                    have HC50 := hide hc50
                    have HRF := hide ((unhide OF42).fx.row.only ((Only.refl bw w42).setCell 11 (Value.int .u8 1)) hbgF).rangeAll
                    have hl41 := (unhide OF42).len
                    have hdi := (unhide HVK).init (unhide HCR).symm
                    clear hsi50 hkf50 hc50
                    go_upto_region 59 with fail
                    go_wp2_with (first
                      | ((with_reducible refine at_load 194 ?_); refine wpList_load_g (by rfl) 194 (.tmp 17) rfl gF 0 rfl fb41 _ (unhide HRF) huF rfl (by rw [hl41]; exact sizeFrame) ?_)
                      | (go_at_call 110; refine (unhide HEN50).mono ?_; rintro e w51 hent; have HENT := hide hent; have hee := hent.1; subst hee; clear hent))
                    go_ret
                    exact begin_end (hcw34.trans (ChgS.chg (unhide HC50) hgb)) (Tm.chg (by decide) (unhide HROW0) ((unhide HCW w34 c234).trans (unhide HC50))) hWid (unhide HENT) (unhide HOX x.status x.left (unhide HX).left) rfl hBf (unhide HGI).snd ⟨p256_pos, hvalP, p256_pos, p256_pos, fun y hy => by simp [outerF] at hy, by simp [outerF], by show d.data.length ≤ 1000; omega, by simp [outerF], by show (1 : Nat) ≤ 7; omega, by show (0 : Nat) ≤ 255; omega⟩ rfl (unhide HTGS) hgas rfl (fun hc => .inl rfl) hwtDi hwt
end

end Go.Proofs.YgcsakGreat
