/-
  yp: Apply in general.
-/
import Derived.Test.YgcsakGreatKtB
import Derived.Test.YgcsakGreatKrB
import Derived.Test.YgcsakGreatKqD
namespace Go.Proofs.YgcsakGreat
set_option linter.unusedVariables false
set_option linter.unusedSimpArgs false
set_option maxRecDepth 100000
open Go.RowKit

theorem step_stop {bw : Nat} {cs : List Value} {w : World} (h : RowT 107 w bw cs) (h11 : cs[11]? = some (.int .u8 2)) :
    Calls Sakg.prog 49 #[.pointer (some ⟨bw, 0, none⟩)] w fun e w' => e = .returned (.bool false) ∧ w = w' := by
  have e11 : w.cell? ⟨bw, 11, none⟩ = some (.int .u8 2) := by rw [h.cell]; exact h11
  clear h h11
  go_enter Sakg.func49, Sakg.ntmps49
  go_wp2
  go_ret
  exact ⟨rfl, rfl⟩
/-- a receipt of a transaction that was not applied -/
def rcptV (v : Nat) : List Value := .int .u8 v :: .int .u8 0 :: .int .u64 0 :: nilS :: nilS :: bv (zeros 20)
theorem rcptV_len (v : Nat) : (rcptV v).length = 25 := by simp [rcptV, bv_len, zeros_len]
theorem rcptV_one (v : Nat) : ∀ u ∈ rcptV v, u.oneCell' = true := by
  intro u hu
  simp only [rcptV, List.mem_cons] at hu
  rcases hu with rfl | rfl | rfl | rfl | rfl | hu
  · rfl
  · rfl
  · rfl
  · rfl
  · rfl
  · exact bv_one _ u hu
theorem run_rcptV (wx : World) (v : Nat) : (Instr.build 48 #[(0, .int .u8 v)]).run Sakg.prog wx = .ok (.agg (rcptV v).toArray) wx := by
  cases hi : Sakg.prog.info? 48 with
  | none => have := infoRcpt; rw [hi] at this; cases this
  | some i0 =>
    have hz := infoRcpt
    rw [hi] at hz
    simp only [Option.map_some, Option.some.injEq, Prod.mk.injEq] at hz
    refine run_build_struct wx 48 _ placesRcpt i0 _ hi hz.1 (rcptRow 0 nilS 0 (zeros 20)) rfl _ _ ?_
    rw [fill_cons _ _ 0 (.int .u8 v) _ 0 1 rfl [.int .u8 v] rfl rfl (by simp [rcptRow, bv_len, zeros_len])]
    rfl

/-- what Apply answers -/
def ApG (vn : Nat) (G : Nat → Prop) (d : YTx) (w : World) (e : Ending) (w' : World) : Prop :=
  ∃ (row : List Value) (used : Nat), e = .returned (.agg row.toArray) ∧ row.length = 25 ∧ (∀ v ∈ row, v.oneCell' = true) ∧ row[0]? = some (.int .u8 vn) ∧ row[2]? = some (.int .u64 used) ∧ (vn = 0 → intrN d - intrN d / 5 ≤ used ∧ used ≤ d.gas) ∧ ChgS G w w'
theorem used_ge {lim left ref it : Nat} (h : left + it ≤ lim) : it - it / 5 ≤ usedN lim left ref := by
  unfold usedN
  have h2 : min ref ((lim - left) / 5) ≤ (lim - left) / 5 := Nat.min_le_right _ _
  omega
theorem XB.same {x x' : XD} (h : XB x) (hs : SameX x x') (hl : x'.left ≤ 1048576) : XB x' := by
  have hr := hs.ret
  obtain ⟨rt, hrt⟩ : ∃ rt, rt = x'.ret := ⟨_, rfl⟩
  obtain ⟨s, hst⟩ : ∃ s, s = x'.status := ⟨_, rfl⟩
  obtain ⟨lf, hlf⟩ : ∃ lf, lf = x'.left := ⟨_, rfl⟩
  have e := hs.eq
  rw [← hrt] at hr
  rw [← hlf] at hl
  rw [← hrt, ← hst, ← hlf] at e
  rw [e]
  exact ⟨h.start, h.nstart, hr, h.limit, h.txgas, hl, h.price, h.total, h.origin, h.made, h.coin, h.number, h.time, h.glimit, h.randao, h.chain, h.fee⟩
/-- only what a run may turn -/
def SameQ (x x' : XD) : Prop := ∃ rt s lf, x' = { x with ret := rt, status := s, left := lf }
theorem SameQ.step {x x' x'' : XD} (h : SameQ x x') (hs : SameX x' x'') : SameQ x x'' := by
  obtain ⟨rt, s, lf, rfl⟩ := h
  exact ⟨_, _, _, hs.eq⟩
section
variable {G0 : Nat → Prop} {bw : Nat} {cs : List Value} {ds : List YAcct} {x : XD} {w : World} {B0 : Nat}
/-- a transaction at work, or at its end -/
def Plays (G0 : Nat → Prop) (bw B T KK : Nat) (x1 : XD) (W : World) (gk : Nat) (wr : World) : Prop :=
  ∃ (G' : Nat → Prop) (cs' : List Value) (x' : XD), Wider G0 G' W ∧ CT G0 W wr ∧ SameQ x1 x' ∧ XB x' ∧
    ((∃ gf fr f r D K, SR G' bw gf cs' fr D (f :: r) x' wr ∧ Inv B K T (f :: r) D ∧ K ≤ KK ∧ meas (f :: r) < gk) ∨ (∃ D, SE G' bw cs' D x' wr ∧ Good B D ∧ x'.left ≤ T ∧ wt D ≤ KK))
theorem Plays.step {B T KK gk gf K : Nat} {x1 x' : XD} {W wr w2 : World} {G' : Nat → Prop} {f : FD} {r : List FD} (hT : T ≤ 1048576) (hW : Wider G0 G' W) (hC : CT G0 W wr) (hq : SameQ x1 x') (hb : XB x') (hK : K ≤ KK) (hm : meas (f :: r) < gk) (h : StepK G' bw B K T (meas (f :: r)) x' wr w2) : Plays G0 bw B T KK x1 W (gk - 1) w2 := by
  obtain ⟨G2, cs2, x2, h1, h2, h3, h4⟩ := h
  have hz := hC.c.size
  have hW2 : Wider G0 G2 W := ⟨fun i hi => h1.sub i (hW.sub i hi), fun i hi hl => hW.new i (h1.new i hi (by omega)) hl⟩
  have hC2 : CT G0 W w2 := ⟨hC.c.then h2.c hW.new, hC.t.trans h2.t⟩
  rcases h4 with ⟨gf', fr', f', r', d', a1, a2, a3, a4⟩ | ⟨d', a1, a2, a3, a4⟩
  · exact ⟨G2, cs2, x2, hW2, hC2, hq.step h3, hb.same h3 (by rw [a4]; exact hb.left), .inl ⟨gf', fr', f', r', d', K, a1, a2, hK, by omega⟩⟩
  · exact ⟨G2, cs2, x2, hW2, hC2, hq.step h3, hb.same h3 (by omega), .inr ⟨d', a1, a2, a3, by omega⟩⟩
set_option maxHeartbeats 32000000 in
theorem apply_g (w0 : World) (hG0 : ∀ i, G0 i → w0.heap.size ≤ i) (hbelow : Below w0.heap.size w0 w) (hs0 : SI G0 bw 0 cs (freshD ds) x w) (hx : XB x) (hg0 : Good B0 (freshD ds)) (hwt : wt (freshD ds) + 425000000 ≤ 2249900000) (hap : x.applied ≤ 3)
    (r : List Value) (d : YTx) (A1 : Option Addr) (k1 c1 : Nat) (A2 : Option Addr) (k2 c2 : Nat) (h : TxC r d A1 k1 c1 A2 k2 c2) (hd0 : Src w0 A1 k1 c1 d.data) (ha0 : AccsR w0 A2 k2 c2 d.access) :
    Calls Sakg.prog 13 #[.pointer (some ⟨bw, 0, none⟩), .agg r.toArray] w (ApG (verdN ds x.glimit x.fee d) G0 d w) := by
  obtain ⟨W, hW⟩ : ∃ W, W = (w.alloc (.cells r.toArray 33)).alloc (.cells (rcptRow 0 nilS 0 (zeros 20)).toArray 48) := ⟨_, rfl⟩
  have hb0 : Below w.heap.size w W := by rw [hW]; exact ((Below.refl _ _).alloc (Nat.le_refl _) _).alloc (by simp) _
  have rt : RowT 33 W w.heap.size r := by rw [hW]; exact (RowT.new _ _ _).alloc _
  have rr : RowT 48 W (w.heap.size + 1) (rcptRow 0 nilS 0 (zeros 20)) := by
    rw [hW]
    have := RowT.new 48 (w.alloc (.cells r.toArray 33)) (rcptRow 0 nilS 0 (zeros 20))
    rwa [World.size_alloc] at this
  have hbwl := hs0.lt
  have hTw := hs0.cw.ther
  have hgb := hs0.cw.g
  have HB := hide (begin_k w0 hG0 (hbelow.trans (hb0.mono hbelow.size)) (hs0.kept hb0) hx hg0 hwt hap r d A1 k1 c1 A2 k2 c2 h hd0 ha0)
  have hgRn : ¬ G0 (w.heap.size + 1) := fun hh => by have := hTw _ hh; omega
  have HRT := hide rt.rangeAll
  have HRR := hide rr
  have hB0P := hg0.tot
  have hz25 : (rcptRow 0 nilS 0 (zeros 20)).length = 25 := rfl
  have hszT : (Sakg.prog.info? 33).map (·.size) = some r.length := by rw [h.len]; exact sizeTx
  have huT := Sakg.underlying33
  have hWl := rr.lt
  have hVN : verdN ds x.glimit x.fee d = 0 → VerdK ds x.glimit x.fee d := fun hv => verdK hv
  have HVN := hide hVN
  generalize verdN ds x.glimit x.fee d = vn at HB HVN ⊢
  clear rt rr hs0 hx hg0 hVN
  go_enter Sakg.func13, Sakg.ntmps13
  go_upto_region 1 with ((with_reducible refine at_alloc 48 ?_); refine wpList_alloc_g (by rfl) 48 rfl (rcptRow 0 nilS 0 (zeros 20)) 25 infoRcpt hz25 ?_)
  rw [← hW]
  clear hW
  by_cases hv0 : vn = 0
  case neg =>
    have t0 : ((vn : Int) == 0) = false := by rw [beq_eq_false_iff_ne]; omega
    have t1 : ((vn : Int) != 0) = true := by rw [bne_iff_ne]; omega
    have hszV : (Sakg.prog.info? 48).map (·.size) = some (rcptV vn).length := by rw [rcptV_len]; exact sizeRcpt
    go_wp2_with (first
      | ((with_reducible refine at_load 33 ?_); refine wpList_load_g (by rfl) 33 (.tmp 3) rfl w.heap.size 0 rfl r _ (unhide HRT) huT rfl hszT ?_)
      | (go_at_call 48; refine (unhide HB).mono ?_; rintro e w1 ⟨rfl, hbk⟩; have b1 : Below W.heap.size W w1 := by { rcases hbk with ⟨-, h1⟩ | ⟨h1, -⟩; (exact h1); (exact absurd h1 hv0) }; have HR1 := hide ((unhide HRR).kept b1); clear hbk)
      | ((with_reducible refine at_build 48 ?_); refine wpList_build_run (by rfl) 48 [(0, .tmp 11)] rfl (.agg (rcptV vn).toArray) (run_rcptV _ vn) ?_)
      | ((with_reducible refine at_store 48 ?_); refine wpList_store_whole rfl 48 (.tmp 4) (.tmp 12) rfl (w.heap.size + 1) 48 _ (rcptV vn) rfl rfl (unhide HR1) (by rw [rcptV_len]; rfl) hszV (rcptV_one vn) ?_; intro w2 hr2 ho2))
    refine bodyPost_ret (results_cell_row rfl _ _ _ _ _ _ _ rfl hr2 Sakg.underlying48 rfl (by simpa using hszV)) rfl ?_
    have bw2 : Below w.heap.size w w2 := (hb0.trans (b1.mono hb0.size)).trans (ho2.below _ (by omega))
    exact ⟨rcptV vn, 0, rfl, rcptV_len vn, rcptV_one vn, rfl, rfl, fun hh => absurd hh hv0, ChgS.of bw2⟩
  subst hv0
  have hVK := unhide HVN rfl
  have hgas := hVK.gas
  have hintr := hVK.intr
  clear hVK HVN
  go_wp2_with ((with_reducible refine at_load 33 ?_); refine wpList_load_g (by rfl) 33 (.tmp 3) rfl w.heap.size 0 rfl r _ (unhide HRT) huT rfl hszT ?_)
  refine (unhide HB).mono ?_
  rintro e w1 ⟨rfl, hbk⟩
  have hbk2 : ∃ (x1 : XD) (B n : Nat), Plays G0 bw B (d.gas - intrN d) (wt (freshD ds) + 425000000) x1 W n w1 ∧ x1.limit = d.gas ∧ B + x1.limit * x1.price < P256 := by
    rcases hbk with ⟨h1, -⟩ | ⟨-, G1, cs1, D1, x1, B, q1, q2, qt, q3, q4, q5⟩
    · exact absurd rfl h1
    · obtain ⟨st, s, lf, m, hx1⟩ := q3.eq
      have e1 : x1.limit = d.gas := by rw [hx1]; rfl
      have e2 : x1.price = priceN d x.fee := by rw [hx1]; rfl
      have hq : SameQ x1 x1 := ⟨x1.ret, x1.status, x1.left, rfl⟩
      refine ⟨x1, B, ?_⟩
      rcases q5 with ⟨gf, fr, f, K, a1, a2, a3⟩ | ⟨a1, a2, a3, a4⟩
      · exact ⟨meas [f] + 1, ⟨G1, cs1, x1, q1, ⟨q2, qt⟩, hq, q3.b, .inl ⟨gf, fr, f, [], D1, K, a1, a2, a3, by omega⟩⟩, e1, by rw [e1, e2]; omega⟩
      · exact ⟨1, ⟨G1, cs1, x1, q1, ⟨q2, qt⟩, hq, q3.b, .inr ⟨D1, a1, a2, by omega, a4⟩⟩, e1, by rw [e1, e2]; omega⟩
  clear hbk
  obtain ⟨x1, B, n, hpl, hlim, hBl⟩ := hbk2
  have HPL := hide hpl
  clear hpl HB
  go_wp2_with fail
  go_loopg [] n (fun gk wr => Plays G0 bw B (d.gas - intrN d) (wt (freshD ds) + 425000000) x1 W gk wr)
  case atStart => exact unhide HPL
  case round =>
    obtain ⟨G', cs', x', p1, p2, p3, p4, p5⟩ := hrel
    rcases p5 with ⟨gf, fr, f, rr, D, K, a1, a2, a3, a4⟩ | ⟨D, a1, a2, a3, a4⟩
    · as_aux_lemma =>
      have HS := hide (step_k a1 a2 p4 (by omega))
      have hst : ∀ w2, StepK G' bw B K (d.gas - intrN d) (meas (f :: rr)) x' wr w2 → Plays G0 bw B (d.gas - intrN d) (wt (freshD ds) + 425000000) x1 W (gk - 1) w2 := fun w2 hh => Plays.step (gf := gf) (by omega) p1 p2 p3 p4 a3 a4 hh
      have HST := hide hst
      clear a1 a2 p1 p2 p3 p4 hst
      go_wp2_with fail
      refine (unhide HS).mono ?_
      rintro e w2 ⟨rfl, hk⟩
      have HPN := hide (unhide HST w2 hk)
      clear hk
      go_wp2
      go_roundg (gk - 1)
      case measure => omega
      case rel => exact unhide HPN
    · as_aux_lemma =>
      have HSE : Hid (Calls Sakg.prog 49 #[.pointer (some ⟨bw, 0, none⟩)] wr fun e w' => e = .returned (.bool false) ∧ wr = w') := hide (step_stop a1.cw.row a1.phase)
      have hl' : x'.limit = d.gas ∧ x'.price = x1.price := by
        obtain ⟨q1, q2, q3, rfl⟩ := p3
        exact ⟨hlim, rfl⟩
      rw [hlim] at hBl
      have HF := hide (finish_k a1 a2 p4 (by rw [hl'.1]; omega) (by rw [hl'.1, hl'.2]; exact hBl) (by omega))
      have hRr : RowT 48 wr (w.heap.size + 1) (rcptRow 0 nilS 0 (zeros 20)) := by
        unfold RowT
        rw [p2.c.block (w.heap.size + 1) hWl hgRn]
        exact unhide HRR
      have hge : intrN d - intrN d / 5 ≤ usedN x'.limit x'.left D.refund := by rw [hl'.1]; exact used_ge (ref := D.refund) (show x'.left + intrN d ≤ d.gas by omega)
      have hle : usedN x'.limit x'.left D.refund ≤ d.gas := by rw [hl'.1]; exact usedN_le d.gas x'.left D.refund
      have HRr := hide hRr
      have hzr := p2.c.size
      have hgbn : w.heap.size + 1 ≠ bw := by omega
      have HC := hide p2.c
      have HP1 := hide p1
      clear hRr a1 a2 p1 p2 p3 p4 hl'
      go_wp2_with fail
      refine (unhide HSE).mono ?_
      rintro e w2 ⟨rfl, rfl⟩
      go_wp2_with (first
        | (go_at_call 50; refine (unhide HF).mono ?_; rintro e w3 ⟨Ar, Lr, kr, lr, mr, G3, cs3, ds3, tot3, rfl, hmr, -, -, -, -, -, hc3⟩; have HR3 := hide (hc3.row (unhide HRr) hgbn); have hlr := rcptG_len x'.status (.slice Ar kr kr) (.slice Lr lr lr) (usedN x'.limit x'.left D.refund) mr hmr.len; have hszr : (Sakg.prog.info? 48).map (·.size) = some (rcptG x'.status (.slice Ar kr kr) (.slice Lr lr lr) (usedN x'.limit x'.left D.refund) mr).length := by { rw [hlr]; exact sizeRcpt })
        | ((with_reducible refine at_store 48 ?_); refine wpList_store_whole rfl 48 (.tmp 4) (.tmp 16) rfl (w.heap.size + 1) 48 _ (rcptG x'.status (.slice Ar kr kr) (.slice Lr lr lr) (usedN x'.limit x'.left D.refund) mr) rfl rfl (unhide HR3) (by rw [hlr]; rfl) hszr (rcptG_one _ _ _ _ _ _ _ _ _) ?_; intro w4 hr4 ho4))
      refine bodyPost_ret (results_cell_row rfl _ _ _ _ _ _ _ rfl hr4 Sakg.underlying48 rfl (by simpa using hszr)) rfl ?_
      have hcw : ChgS G0 w w4 := by
        have h1 : ChgS G0 w wr := (ChgS.of hb0).trans (unhide HC)
        have h2 : ChgS G0 w w3 := h1.then (ChgS.chg (G := (· = bw)) hc3 rfl) (fun i hi _ => by have : i = bw := hi; rw [this]; exact hgb)
        exact h2.then (ChgS.only (G := (· = w.heap.size + 1)) ho4 rfl) (fun i hi hl => by have : i = w.heap.size + 1 := hi; omega)
      exact ⟨_, _, rfl, hlr, rcptG_one _ _ _ _ _ _ _ _ _, rfl, rfl, fun _ => ⟨hge, hle⟩, hcw⟩
end

end Go.Proofs.YgcsakGreat
