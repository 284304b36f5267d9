/-
  yp: Apply in general, with the chain that it leaves.
-/
import Derived.Test.YgcsakGreatKuA
namespace Go.Proofs.YgcsakGreat
set_option linter.unusedVariables false
set_option linter.unusedSimpArgs false
set_option maxRecDepth 100000
open Go.RowKit

/-- what Apply leaves of the chain -/
def ApC (G : Nat → Prop) (bw B0 : Nat) (ds : List YAcct) (x : XD) (w : World) (e : Ending) (w' : World) : Prop :=
  ∃ (row : List Value) (used : Nat) (G' : Nat → Prop) (cs' : List Value) (ds' : List YAcct) (x' : XD) (B' : Nat), e = .returned (.agg row.toArray) ∧ row.length = 25 ∧ (∀ v ∈ row, v.oneCell' = true) ∧ row[2]? = some (.int .u64 used) ∧ used ≤ 1048576 ∧
    SI G' bw 0 cs' (freshD ds') x' w' ∧ XB x' ∧ Good B' (freshD ds') ∧ B' + used * beN x.fee = B0 ∧ wt (freshD ds') ≤ wt (freshD ds) + 425010000 ∧ x'.fee = x.fee ∧ x'.applied ≤ x.applied + 1 ∧ Wider G G' w ∧ ChgS G w w'
theorem burnt {B lim used price fee B0 : Nat} (h : B + lim * price = B0) (hu : used ≤ lim) (hf : fee ≤ price) : B + (lim - used) * price + used * (price - fee) + used * fee = B0 := by
  have h1 : used * (price - fee) + used * fee = used * price := by rw [← Nat.mul_add]; congr 1; omega
  have h2 : (lim - used) * price + used * price = lim * price := by rw [← Nat.add_mul]; congr 1; omega
  omega
theorem wt_fresh (ds : List YAcct) : wt (freshD ds) = 2500 * szA ds := by
  have h : wt (freshD ds) = 0 + 2500 * (szA ds + 0 + 0 + 0 + 0 + 0 + 0 + 0) := rfl
  omega
theorem wt_after {ds : List YAcct} {D : WD} (h : szA ds ≤ szA D.accts + D.gone.length + 2) : wt (freshD ds) ≤ wt D + 5000 := by
  rw [wt_fresh]
  unfold wt szW
  omega
section
variable {G0 : Nat → Prop} {bw : Nat} {cs : List Value} {ds : List YAcct} {x : XD} {w : World} {B0 : Nat}
set_option maxHeartbeats 32000000 in
theorem apply_c (w0 : World) (hG0 : ∀ i, G0 i → w0.heap.size ≤ i) (hbelow : Below w0.heap.size w0 w) (hs0 : SI G0 bw 0 cs (freshD ds) x w) (hx : XB x) (hg0 : Good B0 (freshD ds)) (hwt : wt (freshD ds) + 425000000 ≤ 2249900000) (hap : x.applied ≤ 3)
    (r : List Value) (d : YTx) (A1 : Option Addr) (k1 c1 : Nat) (A2 : Option Addr) (k2 c2 : Nat) (h : TxC r d A1 k1 c1 A2 k2 c2) (hd0 : Src w0 A1 k1 c1 d.data) (ha0 : AccsR w0 A2 k2 c2 d.access) :
    Calls Sakg.prog 13 #[.pointer (some ⟨bw, 0, none⟩), .agg r.toArray] w (ApC G0 bw B0 ds x w) := by
  obtain ⟨W, hW⟩ : ∃ W, W = (w.alloc (.cells r.toArray 33)).alloc (.cells (rcptRow 0 nilS 0 (zeros 20)).toArray 48) := ⟨_, rfl⟩
  have hb0 : Below w.heap.size w W := by rw [hW]; exact ((Below.refl _ _).alloc (Nat.le_refl _) _).alloc (by simp) _
  have rt : RowT 33 W w.heap.size r := by rw [hW]; exact (RowT.new _ _ _).alloc _
  have rr : RowT 48 W (w.heap.size + 1) (rcptRow 0 nilS 0 (zeros 20)) := by
    rw [hW]
    have := RowT.new 48 (w.alloc (.cells r.toArray 33)) (rcptRow 0 nilS 0 (zeros 20))
    rwa [World.size_alloc] at this
  have hbwl := hs0.lt
  have hTw := hs0.cw.ther
  have hgb := hs0.cw.g
  obtain ⟨GW, hGW⟩ : ∃ GW, GW = Plus G0 (w.heap.size + 1) := ⟨_, rfl⟩
  have hGs : ∀ i, G0 i → GW i := fun i hi => by rw [hGW]; exact .inl hi
  have hGn : ∀ i, GW i → i < w.heap.size → G0 i := by rw [hGW]; exact plus_new (Nat.le_succ _)
  have hGR : GW (w.heap.size + 1) := by rw [hGW]; exact .inr rfl
  have hTW : Ther GW W := by rw [hGW]; exact (hTw.go hb0.size).plus rr.lt
  have hG1 : ∀ i, GW i → w0.heap.size ≤ i := fun i hi => by
    rw [hGW] at hi
    rcases hi with hi | hi
    · exact hG0 i hi
    · have := hbelow.size; omega
  clear hGW
  have HB := hide (begin_k w0 hG1 (hbelow.trans (hb0.mono hbelow.size)) (hs0.lift hb0 hGn hGs hTW) hx hg0 hwt hap r d A1 k1 c1 A2 k2 c2 h hd0 ha0)
  have hkp : ∀ wz, Below w.heap.size w wz → SI G0 bw 0 cs (freshD ds) x wz := fun wz hz => hs0.kept hz
  have HKP := hide hkp
  have HX := hide hx
  have HG0 := hide hg0
  have HRT := hide rt.rangeAll
  have HRR := hide rr
  have hB0P := hg0.tot
  have hz25 : (rcptRow 0 nilS 0 (zeros 20)).length = 25 := rfl
  have hszT : (Sakg.prog.info? 33).map (·.size) = some r.length := by rw [h.len]; exact sizeTx
  have huT := Sakg.underlying33
  have hWl := rr.lt
  have hVN : verdN ds x.glimit x.fee d = 0 → VerdK ds x.glimit x.fee d := fun hv => verdK hv
  have HVN := hide hVN
  generalize verdN ds x.glimit x.fee d = vn at HB HVN ⊢
  clear rt rr hs0 hx hg0 hVN hkp
  go_enter Sakg.func13, Sakg.ntmps13
  go_upto_region 1 with ((with_reducible refine at_alloc 48 ?_); refine wpList_alloc_g (by rfl) 48 rfl (rcptRow 0 nilS 0 (zeros 20)) 25 infoRcpt hz25 ?_)
  rw [← hW]
  clear hW
  by_cases hv0 : vn = 0
  case neg =>
    have t0 : ((vn : Int) == 0) = false := by rw [beq_eq_false_iff_ne]; omega
    have t1 : ((vn : Int) != 0) = true := by rw [bne_iff_ne]; omega
    have hszV : (Sakg.prog.info? 48).map (·.size) = some (rcptV vn).length := by rw [rcptV_len]; exact sizeRcpt
    go_wp2_with (first
      | ((with_reducible refine at_load 33 ?_); refine wpList_load_g (by rfl) 33 (.tmp 3) rfl w.heap.size 0 rfl r _ (unhide HRT) huT rfl hszT ?_)
      | (go_at_call 48; refine (unhide HB).mono ?_; rintro e w1 ⟨rfl, hbk⟩; have b1 : Below W.heap.size W w1 := by { rcases hbk with ⟨-, h1⟩ | ⟨h1, -⟩; (exact h1); (exact absurd h1 hv0) }; have HR1 := hide ((unhide HRR).kept b1); clear hbk)
      | ((with_reducible refine at_build 48 ?_); refine wpList_build_run (by rfl) 48 [(0, .tmp 11)] rfl (.agg (rcptV vn).toArray) (run_rcptV _ vn) ?_)
      | ((with_reducible refine at_store 48 ?_); refine wpList_store_whole rfl 48 (.tmp 4) (.tmp 12) rfl (w.heap.size + 1) 48 _ (rcptV vn) rfl rfl (unhide HR1) (by rw [rcptV_len]; rfl) hszV (rcptV_one vn) ?_; intro w2 hr2 ho2))
    refine bodyPost_ret (results_cell_row rfl _ _ _ _ _ _ _ rfl hr2 Sakg.underlying48 rfl (by simpa using hszV)) rfl ?_
    have bw2 : Below w.heap.size w w2 := (hb0.trans (b1.mono hb0.size)).trans (ho2.below _ (by omega))
    exact ⟨rcptV vn, 0, G0, cs, ds, x, B0, rfl, rcptV_len vn, rcptV_one vn, rfl, Nat.zero_le _, unhide HKP w2 bw2, unhide HX, unhide HG0, by omega, by omega, rfl, by omega, Wider.refl _ _, ChgS.of bw2⟩
  subst hv0
  have hVK := unhide HVN rfl
  have hgas := hVK.gas
  have hintr := hVK.intr
  have hpri := hVK.price.1
  clear hVK HVN
  go_wp2_with ((with_reducible refine at_load 33 ?_); refine wpList_load_g (by rfl) 33 (.tmp 3) rfl w.heap.size 0 rfl r _ (unhide HRT) huT rfl hszT ?_)
  refine (unhide HB).mono ?_
  rintro e w1 ⟨rfl, hbk⟩
  have hbk2 : ∃ (x1 : XD) (B n : Nat), Plays GW bw B (d.gas - intrN d) (wt (freshD ds) + 425000000) x1 W n w1 ∧ x1.limit = d.gas ∧ B + x1.limit * x1.price = B0 ∧ beN x1.fee ≤ x1.price ∧ x1.fee = x.fee ∧ x1.applied = x.applied + 1 := by
    rcases hbk with ⟨h1, -⟩ | ⟨-, G1, cs1, D1, x1, B, q1, q2, qt, q3, q4, q5⟩
    · exact absurd rfl h1
    · obtain ⟨st, s, lf, m, hx1⟩ := q3.eq
      have e1 : x1.limit = d.gas := by rw [hx1]; rfl
      have e2 : x1.price = priceN d x.fee := by rw [hx1]; rfl
      have e3 : x1.fee = x.fee := by rw [hx1]; rfl
      have e4 : x1.applied = x.applied + 1 := by rw [hx1]; rfl
      have hq : SameQ x1 x1 := ⟨x1.ret, x1.status, x1.left, rfl⟩
      refine ⟨x1, B, ?_⟩
      rcases q5 with ⟨gf, fr, f, K, a1, a2, a3⟩ | ⟨a1, a2, a3, a4⟩
      · exact ⟨meas [f] + 1, ⟨G1, cs1, x1, q1, ⟨q2, qt⟩, hq, q3.b, .inl ⟨gf, fr, f, [], D1, K, a1, a2, a3, by omega⟩⟩, e1, by rw [e1, e2]; exact q4, by rw [e3, e2]; exact hpri, e3, e4⟩
      · exact ⟨1, ⟨G1, cs1, x1, q1, ⟨q2, qt⟩, hq, q3.b, .inr ⟨D1, a1, a2, by omega, a4⟩⟩, e1, by rw [e1, e2]; exact q4, by rw [e3, e2]; exact hpri, e3, e4⟩
  clear hbk
  obtain ⟨x1, B, n, hpl, hlim, hBl, hfp, hfe, hapn⟩ := hbk2
  have HPL := hide hpl
  clear hpl HB
  go_wp2_with fail
  go_loopg [] n (fun gk wr => Plays GW bw B (d.gas - intrN d) (wt (freshD ds) + 425000000) x1 W gk wr)
  case atStart => exact unhide HPL
  case round =>
    obtain ⟨G', cs', x', p1, p2, p3, p4, p5⟩ := hrel
    rcases p5 with ⟨gf, fr, f, rr, D, K, a1, a2, a3, a4⟩ | ⟨D, a1, a2, a3, a4⟩
    · as_aux_lemma =>
      have HS := hide (step_k a1 a2 p4 (by omega))
      have hst : ∀ w2, StepK G' bw B K (d.gas - intrN d) (meas (f :: rr)) x' wr w2 → Plays GW bw B (d.gas - intrN d) (wt (freshD ds) + 425000000) x1 W (gk - 1) w2 := fun w2 hh => Plays.step (gf := gf) (by omega) p1 p2 p3 p4 a3 a4 hh
      have HST := hide hst
      clear a1 a2 p1 p2 p3 p4 hst
      go_wp2_with fail
      refine (unhide HS).mono ?_
      rintro e w2 ⟨rfl, hk⟩
      have HPN := hide (unhide HST w2 hk)
      clear hk
      go_wp2
      go_roundg (gk - 1)
      case measure => omega
      case rel => exact unhide HPN
    · as_aux_lemma =>
      have HSE : Hid (Calls Sakg.prog 49 #[.pointer (some ⟨bw, 0, none⟩)] wr fun e w' => e = .returned (.bool false) ∧ wr = w') := hide (step_stop a1.cw.row a1.phase)
      have hl' : x'.limit = d.gas ∧ x'.price = x1.price ∧ x'.fee = x.fee ∧ x'.applied = x.applied + 1 := by
        obtain ⟨q1, q2, q3, rfl⟩ := p3
        exact ⟨hlim, rfl, hfe, hapn⟩
      rw [hlim] at hBl
      rw [hfe, ← hl'.2.1] at hfp
      rw [← hl'.2.1, ← hl'.1] at hBl
      have hxt := p4.total
      have hxb := p4
      have HF := hide (finish_k a1 a2 p4 (by rw [hl'.1]; omega) (by omega) (by omega))
      have hRr : RowT 48 wr (w.heap.size + 1) (rcptRow 0 nilS 0 (zeros 20)) := by
        exact p2.t.rc _ _ (unhide HRR)
      have hbu := burnt hBl (usedN_le x'.limit x'.left D.refund) hfp
      have hle : usedN x'.limit x'.left D.refund ≤ d.gas := by rw [hl'.1]; exact usedN_le d.gas x'.left D.refund
      have HRr := hide hRr
      have hzr := p2.c.size
      have hgbn : w.heap.size + 1 ≠ bw := by omega
      have HC := hide p2.c
      have HP1 := hide p1
      have HXB := hide hxb
      have HBU := hide hbu
      have hfe' := hl'.2.2.1
      have hap' := hl'.2.2.2
      clear hRr a1 a2 p1 p2 p3 p4 hl' hxb hbu
      go_wp2_with fail
      refine (unhide HSE).mono ?_
      rintro e w2 ⟨rfl, rfl⟩
      go_wp2_with (first
        | (go_at_call 50; refine (unhide HF).mono ?_; rintro e w3 ⟨Ar, Lr, kr, lr, mr, G3, cs3, ds3, tot3, rfl, hmr, hw3, hsi3, htot, hgd3, hsz3, hc3⟩; have HSI3 := hide hsi3; have HW3 := hide hw3; have HGD3 := hide hgd3; have hsz3' := wt_after hsz3; clear hsi3 hw3 hgd3 hsz3; have HR3 := hide (hc3.row (unhide HRr) hgbn); have hlr := rcptG_len x'.status (.slice Ar kr kr) (.slice Lr lr lr) (usedN x'.limit x'.left D.refund) mr hmr.len; have hszr : (Sakg.prog.info? 48).map (·.size) = some (rcptG x'.status (.slice Ar kr kr) (.slice Lr lr lr) (usedN x'.limit x'.left D.refund) mr).length := by { rw [hlr]; exact sizeRcpt })
        | ((with_reducible refine at_store 48 ?_); refine wpList_store_whole rfl 48 (.tmp 4) (.tmp 16) rfl (w.heap.size + 1) 48 _ (rcptG x'.status (.slice Ar kr kr) (.slice Lr lr lr) (usedN x'.limit x'.left D.refund) mr) rfl rfl (unhide HR3) (by rw [hlr]; rfl) hszr (rcptG_one _ _ _ _ _ _ _ _ _) ?_; intro w4 hr4 ho4))
      refine bodyPost_ret (results_cell_row rfl _ _ _ _ _ _ _ rfl hr4 Sakg.underlying48 rfl (by simpa using hszr)) rfl ?_
      have hcr : ChgS G0 w wr := (ChgS.of hb0).then (unhide HC) (fun i hi hl => hGn i hi hl)
      have hcw : ChgS G0 w w4 := by
        have h2 : ChgS G0 w w3 := hcr.then (ChgS.chg (G := (· = bw)) hc3 rfl) (fun i hi _ => by have : i = bw := hi; rw [this]; exact hgb)
        exact h2.then (ChgS.only (G := (· = w.heap.size + 1)) ho4 rfl) (fun i hi hl => by have : i = w.heap.size + 1 := hi; omega)
      have hp1 := unhide HP1
      have hw3 := unhide HW3
      have hzw := hb0.size
      have hwid : Wider G0 G3 w := ⟨fun i hi => hw3.sub i (hp1.sub i (hGs i hi)), fun i hi hl => hGn i (hp1.new i (hw3.new i hi (by omega)) (by omega)) hl⟩
      have hsi4 := (unhide HSI3).off ho4 (hw3.sub _ (hp1.sub _ hGR)) hgbn
      have hbu := unhide HBU
      have hgood := Snd.good (d := freshD ds3) ⟨unhide HGD3, fun t ht => (by cases ht), fun t ht => (by cases ht), by rw [hfe']; omega⟩ (by omega)
      exact ⟨_, _, G3, cs3, ds3, idleX x' tot3, _, rfl, hlr, rcptG_one _ _ _ _ _ _ _ _ _, rfl, by omega, hsi4, idleX_b (unhide HXB) (by omega), hgood, by rw [hfe']; exact hbu, by omega, hfe', Nat.le_of_eq hap', hwid, hcw⟩
end

end Go.Proofs.YgcsakGreat
