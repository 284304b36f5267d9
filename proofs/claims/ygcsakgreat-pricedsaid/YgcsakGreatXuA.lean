/-
  yp, exactly: Apply, its run being told by a hypothesis.
-/
import Derived.Test.YgcsakGreatKuB
import Derived.Test.YgcsakGreatXrD
import Derived.Test.YgcsakGreatXbA
import Derived.Test.YgcsakGreatXfA
namespace Go.Proofs.YgcsakGreat
set_option linter.unusedVariables false
set_option linter.unusedSimpArgs false
set_option maxRecDepth 100000
open Go.RowKit

/-- the chain's rest while the transaction runs -/
def begX (ds : List YAcct) (x : XD) (d : YTx) (md : List Int) : XD := opX x (startOf ds) [] x.status (x.applied + 1) d.gas (d.gas - intrN d) x.left (priceN d x.fee) d.frm md
/-- .. and when it has ended -/
def endedX (ds : List YAcct) (x : XD) (d : YTx) (md : List Int) (rt : List Int) (left : Nat) : XD := { begX ds x d md with ret := rt, status := 0, left := left }
/-- the outer frame's world -/
def outD (ds : List YAcct) (x : XD) (d : YTx) (tg : List Int) (als : List (List Int)) (D1 : WD) : WD := { D1 with accts := moveY D1.accts d.frm tg (beN d.value) }
def outFr (ds : List YAcct) (x : XD) (d : YTx) (tg : List Int) (als : List (List Int)) : FD := { begF ds d (priceN d x.fee) tg with saved := begD ds d (priceN d x.fee) als }
/-- what the run does, from the outer frame on -/
def RunsTo (bw : Nat) (ds : List YAcct) (x : XD) (d : YTx) (PD : List Int → List Int → WD → Nat → Prop) : Prop :=
  ∀ (GW : Nat → Prop) (W w1 : World) (B : Nat) (tg md : List Int) (als : List (List Int)) (D1 : WD), TgX d tg md → IsAddr tg → (∀ a, a ∈ als ↔ a = lowAddr 5 ∨ a = lowAddr 4 ∨ a = tg ∨ a = x.coin ∨ a = d.frm) → EntD d.create (begD ds d (priceN d x.fee) als) tg D1 → Good B (begD ds d (priceN d x.fee) als) →
    RunX GW W bw B 4000000 (outD ds x d tg als D1) (outFr ds x d tg als) [] (begX ds x d md) true w1 → ∃ n, Goes bw (fun w' => ∃ D left, PD tg md D left ∧ D.gone = [] ∧ left ≤ d.gas ∧ EndX GW W bw B 5000000 D (begX ds x d md) left w') n w1
/-- what Apply leaves -/
def ApX (G : Nat → Prop) (bw : Nat) (ds : List YAcct) (x : XD) (d : YTx) (PD : List Int → List Int → WD → Nat → Prop) (w : World) (e : Ending) (w' : World) : Prop :=
  ∃ (A L : Option Addr) (k l : Nat) (G' : Nat → Prop) (cs' : List Value) (tg md rt : List Int) (D : WD) (left B' : Nat) (x' : XD), e = .returned (.agg (rcptG 0 (.slice A k k) (.slice L l l) (usedN d.gas left D.refund) md).toArray) ∧ TgX d tg md ∧ IsAddr tg ∧ IsAddr md ∧ PD tg md D left ∧ left ≤ d.gas ∧
    SI G' bw 0 cs' (freshD (finA D (endedX ds x d md rt left))) x' w' ∧ Good B' (freshD (finA D (endedX ds x d md rt left))) ∧ Wider G G' w ∧ ChgS G w w'
theorem XB.ended {x : XD} (h : XB x) {rt : List Int} {left : Nat} (hr : rt.length ≤ 1000000) (hl : left ≤ 1048576) : XB { x with ret := rt, status := 0, left := left } := ⟨h.start, h.nstart, hr, h.limit, h.txgas, hl, h.price, h.total, h.origin, h.made, h.coin, h.number, h.time, h.glimit, h.randao, h.chain, h.fee⟩
section
variable {G0 : Nat → Prop} {bw : Nat} {cs : List Value} {ds : List YAcct} {x : XD} {w : World} {B0 : Nat}
/-- what Begin leaves may run -/
theorem BegX.runs {G : Nat → Prop} {d : YTx} {w w' : World} {e : Ending} (hb : BegX G bw B0 ds x d w e w') (hwt : wt (freshD ds) ≤ 400000) (hgas : d.gas ≤ 1048576) (hdl : d.data.length ≤ 1000) (hval : IsW d.value) :
    e = .returned (.int .u8 0) ∧ ∃ B tg md als D1, B + d.gas * priceN d x.fee = B0 ∧ TgX d tg md ∧ IsAddr tg ∧ (∀ a, a ∈ als ↔ a = lowAddr 5 ∨ a = lowAddr 4 ∨ a = tg ∨ a = x.coin ∨ a = d.frm) ∧ EntD d.create (begD ds d (priceN d x.fee) als) tg D1 ∧ Good B (begD ds d (priceN d x.fee) als) ∧ RunX G w bw B 4000000 (outD ds x d tg als D1) (outFr ds x d tg als) [] (begX ds x d md) true w' := by
  obtain ⟨rfl, G', cs', gf, fr, als, tg, md, B, D1, D, h1, h2, h3, h4, h5, h6, h7, h8, h9, hD, h11, h12, h13, h14⟩ := hb
  have hP1 := p256_ge
  have hw := h12.wtle
  refine ⟨rfl, B, tg, md, als, D1, h4, h5, h6, h7, h9, h11, ?_⟩
  have hout : outD ds x d tg als D1 = D := hD.symm
  have hvl : beN d.value < P256 := hval.lt
  have hcode := (h11.acc.look tg).code
  have hc0 : (outFr ds x d tg als).value = beN d.value := by unfold outFr begF; split <;> rfl
  have hc1 : (outFr ds x d tg als).code.length ≤ 1000 := by
    unfold outFr begF
    split
    · exact hdl
    · show (lookY (begA ds d (priceN d x.fee)) tg).code.length ≤ 1000
      have : (begD ds d (priceN d x.fee) als).accts = begA ds d (priceN d x.fee) := rfl
      rw [this] at hcode
      omega
  have hc2 : (outFr ds x d tg als).input.length ≤ 1000000 := by
    unfold outFr begF
    split
    · show ([] : List Int).length ≤ 1000000
      simp
    · show d.data.length ≤ 1000000
      omega
  have hc3 : (outFr ds x d tg als).kind ≤ 7 := by
    unfold outFr begF
    split
    · show 1 ≤ 7
      omega
    · show 0 ≤ 7
      omega
  have hc4 : (outFr ds x d tg als).pc = 0 ∧ (outFr ds x d tg als).outOff = 0 ∧ (outFr ds x d tg als).outLen = 0 ∧ (outFr ds x d tg als).stk = [] ∧ (outFr ds x d tg als).native = 0 ∧ (outFr ds x d tg als).static = false ∧ (outFr ds x d tg als).ml = 0 ∧ (outFr ds x d tg als).gas = d.gas - intrN d := by unfold outFr begF; split <;> exact ⟨rfl, rfl, rfl, rfl, rfl, rfl, rfl, rfl⟩
  obtain ⟨e1, e2, e3, e4, e5, e6, e7, e8⟩ := hc4
  have hsr : SR G' bw gf cs' fr D [outFr ds x d tg als] { begX ds x d md with ret := [] } w' := h14
  refine ⟨⟨G', gf, cs', fr, [], h1, ⟨h2, h3⟩, by rw [hout]; exact hsr, by simp, fun _ => by rw [← hout] at hsr; exact zm_none hsr e7⟩, h8, by rw [hout]; exact h12.good (K := 2250000000) (by omega) (Nat.le_refl _), by rw [hout]; omega, by omega, ⟨by rw [e1]; omega, by rw [hc0]; exact hvl, by rw [e2]; omega, by rw [e3]; omega, by rw [e4]; intro y hy; (cases hy), by rw [e4]; simp, hc1, hc2, hc3, by rw [e5]; omega⟩, by rw [e7]; omega, by rw [e8]; omega, by simp, e5, e6⟩
set_option maxHeartbeats 32000000 in
theorem apply_x (w0 : World) (hG0 : ∀ i, G0 i → w0.heap.size ≤ i) (hbelow : Below w0.heap.size w0 w) (hs0 : SI G0 bw 0 cs (freshD ds) x w) (hx : XB x) (hg0 : Good B0 (freshD ds)) (hwt : wt (freshD ds) ≤ 400000) (hap : x.applied ≤ 3)
    (r : List Value) (d : YTx) (A1 : Option Addr) (k1 c1 : Nat) (A2 : Option Addr) (k2 c2 : Nat) (h : TxC r d A1 k1 c1 A2 k2 c2) (hd0 : Src w0 A1 k1 c1 d.data) (ha0 : AccsR w0 A2 k2 c2 d.access) (hverd : verdN ds x.glimit x.fee d = 0) (hk20 : k2 = 0) (hnat : d.create = false → nativeN d.dst = 0) (hnon : d.create = true → (lookY ds d.frm).nonce = 0) (hfree : ∀ a, IsAddr a → AddrIs ([214, 148] ++ d.frm ++ [128]) a → (lookY (begA ds d (priceN d x.fee)) a).nonce = 0 ∧ (lookY (begA ds d (priceN d x.fee)) a).code = []) (hdl : d.data.length ≤ 1000) (hval : IsW d.value) (PD : List Int → List Int → WD → Nat → Prop) (hrun : RunsTo bw ds x d PD) :
    Calls Sakg.prog 13 #[.pointer (some ⟨bw, 0, none⟩), .agg r.toArray] w (ApX G0 bw ds x d PD w) := by
  obtain ⟨W, hW⟩ : ∃ W, W = (w.alloc (.cells r.toArray 33)).alloc (.cells (rcptRow 0 nilS 0 (zeros 20)).toArray 48) := ⟨_, rfl⟩
  have hb0 : Below w.heap.size w W := by rw [hW]; exact ((Below.refl _ _).alloc (Nat.le_refl _) _).alloc (by simp) _
  have rt : RowT 33 W w.heap.size r := by rw [hW]; exact (RowT.new _ _ _).alloc _
  have rr : RowT 48 W (w.heap.size + 1) (rcptRow 0 nilS 0 (zeros 20)) := by
    rw [hW]
    have := RowT.new 48 (w.alloc (.cells r.toArray 33)) (rcptRow 0 nilS 0 (zeros 20))
    rwa [World.size_alloc] at this
  have hbwl := hs0.lt
  have hTw := hs0.cw.ther
  have hgb := hs0.cw.g
  obtain ⟨GW, hGW⟩ : ∃ GW, GW = Plus G0 (w.heap.size + 1) := ⟨_, rfl⟩
  have hGs : ∀ i, G0 i → GW i := fun i hi => by rw [hGW]; exact .inl hi
  have hGn : ∀ i, GW i → i < w.heap.size → G0 i := by rw [hGW]; exact plus_new (Nat.le_succ _)
  have hGR : GW (w.heap.size + 1) := by rw [hGW]; exact .inr rfl
  have hTW : Ther GW W := by rw [hGW]; exact (hTw.go hb0.size).plus rr.lt
  have hG1 : ∀ i, GW i → w0.heap.size ≤ i := fun i hi => by
    rw [hGW] at hi
    rcases hi with hi | hi
    · exact hG0 i hi
    · have := hbelow.size; omega
  clear hGW
  have hVK := verdK hverd
  have hgas := hVK.gas
  have hintr := hVK.intr
  have hpri := hVK.price.1
  have HB := hide ((begin_x w0 hG1 (hbelow.trans (hb0.mono hbelow.size)) (hs0.lift hb0 hGn hGs hTW) hx hg0 (by omega) hap r d A1 k1 c1 A2 k2 c2 h hd0 ha0 hverd hk20 hnat hnon hfree).mono fun e w1 hb => hb.runs hwt (by omega) hdl hval)
  have HRUN := hide hrun
  have hkp : ∀ wz, Below w.heap.size w wz → SI G0 bw 0 cs (freshD ds) x wz := fun wz hz => hs0.kept hz
  have HKP := hide hkp
  have HX := hide hx
  have HG0 := hide hg0
  have HRT := hide rt.rangeAll
  have HRR := hide rr
  have hB0P := hg0.tot
  have hz25 : (rcptRow 0 nilS 0 (zeros 20)).length = 25 := rfl
  have hszT : (Sakg.prog.info? 33).map (·.size) = some r.length := by rw [h.len]; exact sizeTx
  have huT := Sakg.underlying33
  have hWl := rr.lt
  clear rt rr hs0 hx hg0 hkp hrun hVK hverd hk20 hnat hnon hfree
  go_enter Sakg.func13, Sakg.ntmps13
  go_upto_region 1 with ((with_reducible refine at_alloc 48 ?_); refine wpList_alloc_g (by rfl) 48 rfl (rcptRow 0 nilS 0 (zeros 20)) 25 infoRcpt hz25 ?_)
  rw [← hW]
  clear hW
  go_wp2_with ((with_reducible refine at_load 33 ?_); refine wpList_load_g (by rfl) 33 (.tmp 3) rfl w.heap.size 0 rfl r _ (unhide HRT) huT rfl hszT ?_)
  refine (unhide HB).mono ?_
  rintro e w1 ⟨rfl, B, tg, md, als, D1, hBl, htg, hta, hal, hent, hgb1, hrx⟩
  obtain ⟨n, hgo⟩ := unhide HRUN GW W w1 B tg md als D1 htg hta hal hent hgb1 hrx
  have hxb := hrx.xb
  have HGO := hide hgo
  have HXB := hide hxb
  have HTG := hide htg
  clear hgo HB HRUN hrx hent hgb1 hal hxb htg
  go_wp2_with fail
  go_loopg [] n (fun gk wr => Goes bw (fun w' => ∃ D left, PD tg md D left ∧ D.gone = [] ∧ left ≤ d.gas ∧ EndX GW W bw B 5000000 D (begX ds x d md) left w') gk wr)
  case atStart => exact unhide HGO
  case round =>
    rcases Nat.eq_zero_or_pos gk with h0 | h0
    case inr =>
      as_aux_lemma =>
      obtain ⟨q, hq⟩ : ∃ q, gk = q + 1 := ⟨gk - 1, by omega⟩
      rw [hq] at hrel
      have HS : Hid (Calls Sakg.prog 49 #[.pointer (some ⟨bw, 0, none⟩)] wr fun e w' => e = .returned (.bool true) ∧ Goes bw (fun w' => ∃ D left, PD tg md D left ∧ D.gone = [] ∧ left ≤ d.gas ∧ EndX GW W bw B 5000000 D (begX ds x d md) left w') q w') := hide hrel
      clear hrel
      go_wp2_with fail
      refine (unhide HS).mono ?_
      rintro e w2 ⟨rfl, hk⟩
      have HPN := hide hk
      clear hk
      go_wp2
      go_roundg q
      case measure => omega
      case rel => exact unhide HPN
    case inl =>
      as_aux_lemma =>
      rw [h0] at hrel
      obtain ⟨D, left, hPD, hgone, hleft, ⟨G', cs', rt, p1, p2, a1, hrt⟩, -, hgD, hwD, -, hl2⟩ := (hrel : ∃ D left, PD tg md D left ∧ D.gone = [] ∧ left ≤ d.gas ∧ EndX GW W bw B 5000000 D (begX ds x d md) left wr)
      have HSE : Hid (Calls Sakg.prog 49 #[.pointer (some ⟨bw, 0, none⟩)] wr fun e w' => e = .returned (.bool false) ∧ wr = w') := hide (step_stop a1.cw.row a1.phase)
      have hxe : XB (endedX ds x d md rt left) := (unhide HXB).ended hrt hl2
      have hFX := finish_x hgone (x := endedX ds x d md rt left) a1 hgD hxe hleft (by show B + d.gas * priceN d x.fee < P256; omega) (by omega)
      have hima : IsAddr md := (unhide HXB).made
      have hRr : RowT 48 wr (w.heap.size + 1) (rcptRow 0 nilS 0 (zeros 20)) := by
        exact p2.t.rc _ _ (unhide HRR)
      have hbu := burnt (used := usedN d.gas left D.refund) hBl (usedN_le d.gas left D.refund) hpri
      have hle : usedN d.gas left D.refund ≤ d.gas := usedN_le d.gas left D.refund
      have HRr := hide hRr
      have hzr := p2.c.size
      have hgbn : w.heap.size + 1 ≠ bw := by omega
      have HC := hide p2.c
      have HP1 := hide p1
      have HBU := hide hbu
      have HPD := hide hPD
      have HGO := hide hgone
      have HIMA := hide hima
      have hFX2 : Calls Sakg.prog 50 #[.pointer (some ⟨bw, 0, none⟩)] wr fun e w' => ∃ (A L : Option Addr) (k l : Nat) (G2 : Nat → Prop) (cs2 : List Value) (tot : Nat), e = .returned (.agg (rcptG 0 (.slice A k k) (.slice L l l) (usedN d.gas left D.refund) md).toArray) ∧ Wider G' G2 wr ∧ SI G2 bw 0 cs2 (freshD (finA D (endedX ds x d md rt left))) (idleX (endedX ds x d md rt left) tot) w' ∧ GoodD (B + (d.gas - usedN d.gas left D.refund) * priceN d x.fee + usedN d.gas left D.refund * (priceN d x.fee - beN x.fee)) (finA D (endedX ds x d md rt left)) ∧ szA (finA D (endedX ds x d md rt left)) ≤ szA D.accts + 2 ∧ Chg bw wr w' := hFX
      have HF := hide hFX2
      generalize hun : usedN d.gas left D.refund = un at HF HBU hle hbu ⊢
      have HUN := hide hun
      clear hRr a1 p1 p2 hbu hPD hgone hima hFX hFX2 hxe hun hgD hrt
      go_wp2_with fail
      refine (unhide HSE).mono ?_
      rintro e w2 ⟨rfl, rfl⟩
      go_wp2_with (first
        | (go_at_call 50; refine (unhide HF).mono ?_; rintro e w3 ⟨Ar, Lr, kr, lr, G3, cs3, tot3, rfl, hw3, hsi3, hgd3, hsz3, hc3⟩; have HSI3 := hide hsi3; have HW3 := hide hw3; have HGD3 := hide hgd3; have HSZ3 := hide hsz3; clear hsi3 hw3 hgd3 hsz3; have HR3 := hide (hc3.row (unhide HRr) hgbn); have hlr := rcptG_len 0 (.slice Ar kr kr) (.slice Lr lr lr) un md (unhide HIMA).len; have hszr : (Sakg.prog.info? 48).map (·.size) = some (rcptG 0 (.slice Ar kr kr) (.slice Lr lr lr) un md).length := by { rw [hlr]; exact sizeRcpt })
        | ((with_reducible refine at_store 48 ?_); refine wpList_store_whole rfl 48 (.tmp 4) (.tmp 16) rfl (w.heap.size + 1) 48 _ (rcptG 0 (.slice Ar kr kr) (.slice Lr lr lr) un md) rfl rfl (unhide HR3) (by rw [hlr]; rfl) hszr (rcptG_one _ _ _ _ _ _ _ _ _) ?_; intro w4 hr4 ho4))
      refine bodyPost_ret (results_cell_row rfl _ _ _ _ _ _ _ rfl hr4 Sakg.underlying48 rfl (by simpa using hszr)) rfl ?_
      have hcr : ChgS G0 w wr := (ChgS.of hb0).then (unhide HC) (fun i hi hl => hGn i hi hl)
      have hcw : ChgS G0 w w4 := by
        have h2 : ChgS G0 w w3 := hcr.then (ChgS.chg (G := (· = bw)) hc3 rfl) (fun i hi _ => by have : i = bw := hi; rw [this]; exact hgb)
        exact h2.then (ChgS.only (G := (· = w.heap.size + 1)) ho4 rfl) (fun i hi hl => by have : i = w.heap.size + 1 := hi; omega)
      have hp1 := unhide HP1
      have hw3 := unhide HW3
      have hzw := hb0.size
      have hwid : Wider G0 G3 w := ⟨fun i hi => hw3.sub i (hp1.sub i (hGs i hi)), fun i hi hl => hGn i (hp1.new i (hw3.new i hi (by omega)) (by omega)) hl⟩
      have hsi4 := (unhide HSI3).off ho4 (hw3.sub _ (hp1.sub _ hGR)) hgbn
      have hbu := unhide HBU
      have hsz3' := wt_after (ds := finA D (endedX ds x d md rt left)) (D := D) (by have := unhide HSZ3; omega)
      have hgood := Snd.good (d := freshD (finA D (endedX ds x d md rt left))) ⟨unhide HGD3, fun t ht => (by cases ht), fun t ht => (by cases ht), by omega⟩ (by omega)
      rw [← unhide HUN]
      exact ⟨_, _, _, _, G3, cs3, tg, md, rt, D, left, _, _, rfl, unhide HTG, hta, unhide HIMA, unhide HPD, hleft, hsi4, hgood, hwid, hcw⟩
end

end Go.Proofs.YgcsakGreat
