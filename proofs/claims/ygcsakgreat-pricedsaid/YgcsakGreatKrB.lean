/-
  yp: Finish in general (in hand: gas used, what goes back to the origin).
-/
import Derived.Test.YgcsakGreatKrA
import Derived.Test.YgcsakGreatKoC
import Derived.Test.YgcsakGreatFinA
import Derived.Test.YgcsakGreatKhA
import Derived.Test.YgcsakGreatKrA1
namespace Go.Proofs.YgcsakGreat
set_option linter.unusedVariables false
set_option linter.unusedSimpArgs false
set_option maxRecDepth 100000
open Go.RowKit

section
variable {G : Nat → Prop} {bw : Nat} {cs : List Value} {d d' : WD} {x : XD} {w w' : World} {B : Nat}
theorem SE.kept (h : SE G bw cs d x w) (hb : Below w.heap.size w w') : SE G bw cs d x w' := by
  obtain ⟨ao, l, c, h1, h2⟩ := h.logs
  exact ⟨h.cw.kept hb, ⟨ao, l, c, h1, h2.go (Mv.of hb)⟩, h.xs.go (ChgS.of hb), h.phase, h.frames⟩
theorem SE.world (h : SE G bw cs d x w) (hp : WPost G bw cs d' w w') (hl : d'.logs = d.logs := by rfl) : ∃ cs', SE G bw cs' d' x w' ∧ Mv G w w' ∧ Same8 cs cs' ∧ Chg bw w w' := by
  obtain ⟨cs', h1, h2, h4, h3⟩ := hp
  have hm : Mv G w w' := Mv.chain h.cw.row h.cw.g h3
  obtain ⟨ao, l, c, e1, e2⟩ := h.logs
  exact ⟨cs', ⟨h1, ⟨ao, l, c, h4.trans e1, by rw [hl]; exact e2.go hm⟩, (h.xs.go hm.chg).eq (fun i hi _ _ => h2 i hi), (h2 11 (by omega)).trans h.phase, (h2 9 (by omega)).trans h.frames⟩, hm, h2, h3⟩
theorem SE.originR (h : SE G bw cs d x w) (ho : IsAddr x.origin) : w.rangeAt bw 19 (bv x.origin) := row_range h.cw.row (by rw [bv_len, ho.len]) h.xs.origin
theorem SE.coinR (h : SE G bw cs d x w) (hc : IsAddr x.coin) : w.rangeAt bw 59 (bv x.coin) := row_range h.cw.row (by rw [bv_len, hc.len]) (fun i hi => by
  rw [h.xs.env i (by omega)]
  unfold envRow
  rw [List.getElem?_append_left (by rw [bv_len, hc.len]; omega)])
theorem SE.feeR (h : SE G bw cs d x w) (hx : XB x) : w.rangeAt bw 146 (bv x.fee) := rng_cells h.cw.row.cell hx.fee.len (fun j hj => by rw [show 146 + j = 59 + (87 + j) by omega, h.xs.env _ (by omega)]; exact env_fee hx j hj)
/-- the chain's total is laid anew -/
theorem XS.setTotal {cs : List Value} (h : XS G cs x w) (hl : cs.length = 179) {A : Option Addr} {l c n : Nat} (hs : KNat G w A l c n) : XS G (cs.set 18 (.slice A l c)) { x with total := n } w := by
  obtain ⟨⟨a8, l8, c8, e8, h8⟩, ⟨a10, l10, c10, e10, h10⟩, e12, e13, ⟨a14, l14, c14, e14, h14⟩, ⟨a15, l15, c15, e15, h15⟩, ⟨a16, l16, c16, e16, h16⟩, ⟨a17, l17, c17, e17, h17⟩, ⟨a18, l18, c18, e18, h18⟩, h19, h39, h59, ⟨A', k, c', rows, p1, p2, p3, p4⟩⟩ := h
  have E : ∀ i, i ≠ 18 → ∀ v, cs[i]? = v → (cs.set 18 (.slice A l c))[i]? = v := fun i h1 v hv => (List.getElem?_set_ne (Ne.symm h1)).trans hv
  exact ⟨⟨a8, l8, c8, E _ (by omega) _ e8, h8⟩, ⟨a10, l10, c10, E _ (by omega) _ e10, h10⟩, E _ (by omega) _ e12, E _ (by omega) _ e13, ⟨a14, l14, c14, E _ (by omega) _ e14, h14⟩, ⟨a15, l15, c15, E _ (by omega) _ e15, h15⟩, ⟨a16, l16, c16, E _ (by omega) _ e16, h16⟩, ⟨a17, l17, c17, E _ (by omega) _ e17, h17⟩, ⟨A, l, c, List.getElem?_set_self (by omega), hs⟩, fun i hi => E _ (by omega) _ (h19 i hi), fun i hi => E _ (by omega) _ (h39 i hi), fun i hi => E _ (by omega) _ (h59 i hi), ⟨A', k, c', rows, E _ (by omega) _ p1, p2, p3, p4⟩⟩
theorem SE.total (h : SE G bw cs d x w) {A : Option Addr} {l c n : Nat} (hs : KNat G w A l c n) : SE G bw (cs.set 18 (.slice A l c)) d { x with total := n } (w.setCell ⟨bw, 18, none⟩ (.slice A l c)) ∧ Only bw w (w.setCell ⟨bw, 18, none⟩ (.slice A l c)) := by
  have ho : Only bw w (w.setCell ⟨bw, 18, none⟩ (.slice A l c)) := (Only.refl _ _).setCell _ _
  have hm : Mv G w (w.setCell ⟨bw, 18, none⟩ (.slice A l c)) := Mv.chain h.cw.row h.cw.g (Chg.ofOnly ho)
  obtain ⟨ao, l', c', e1, e2⟩ := h.logs
  exact ⟨⟨h.cw.set 18 (by omega) _, ⟨ao, l', c', (List.getElem?_set_ne (by omega)).trans e1, e2.go hm⟩, (h.xs.setTotal h.cw.len hs).go hm.chg, (List.getElem?_set_ne (by omega)).trans h.phase, (List.getElem?_set_ne (by omega)).trans h.frames⟩, ho⟩
/-- the gas that is used in the end -/
def usedN (lim left ref : Nat) : Nat := (lim - left) - min ref ((lim - left) / 5)
theorem usedN_le (lim left ref : Nat) : usedN lim left ref ≤ lim := by unfold usedN; omega
theorem SE.lift {G' : Nat → Prop} (h : SE G bw cs d x w) (hb : Below w.heap.size w w') (hs : ∀ i, G' i → i < w.heap.size → G i) (hG : ∀ i, G i → G' i) (hT : Ther G' w') : SE G' bw cs d x w' := by
  obtain ⟨ao, l, c, h1, h2⟩ := h.logs
  exact ⟨⟨h.cw.row.kept hb, h.cw.len, (h.cw.kw.to hs).go (ChgS.of hb), hG _ h.cw.g, hT⟩, ⟨ao, l, c, h1, (h2.to hs hG).go (Mv.of hb)⟩, (h.xs.to hs).go (ChgS.of hb), h.phase, h.frames⟩
/-- what Finish leaves -/
def FinK (G : Nat → Prop) (bw B : Nat) (d : WD) (x : XD) (w : World) (e : Ending) (w' : World) : Prop :=
  ∃ (A L : Option Addr) (k l : Nat) (m : List Int) (G' : Nat → Prop) (cs' : List Value) (ds : List YAcct) (tot : Nat), e = .returned (.agg (rcptG x.status (.slice A k k) (.slice L l l) (usedN x.limit x.left d.refund) m).toArray) ∧ IsAddr m ∧ Wider G G' w ∧
    SI G' bw 0 cs' (freshD ds) (idleX x tot) w' ∧ tot ≤ x.total ∧ GoodD (B + (x.limit - usedN x.limit x.left d.refund) * x.price + usedN x.limit x.left d.refund * (x.price - beN x.fee)) ds ∧ szA ds ≤ szA d.accts + d.gone.length + 2 ∧ Chg bw w w'
end
section
variable {G0 : Nat → Prop} {bw : Nat} {cs : List Value} {d d' : WD} {x : XD} {w w' : World} {B : Nat}
set_option maxHeartbeats 32000000 in
theorem finish_k (h : SE G0 bw cs d x w) (hg : Good B d) (hx : XB x) (hll : x.left ≤ x.limit) (hB : B + x.limit * x.price < P256) (hwt : wt d + 10000 ≤ 2250000000) :
    Calls Sakg.prog 50 #[.pointer (some ⟨bw, 0, none⟩)] w (FinK G0 bw B d x w) := by
  have hBB := big_ge
  have hPB := p256_lt
  have hP2 := p256_big2
  have hlim := hx.limit
  have hprice := hx.price
  obtain ⟨W, hW⟩ : ∃ W, W = w.alloc (.cells (rcptRow 0 nilS 0 (zeros 20)).toArray 48) := ⟨_, rfl⟩
  have hb0 : Below w.heap.size w W := by rw [hW]; exact (Below.refl _ _).alloc (Nat.le_refl _) _
  have hr0 : RowT 48 W w.heap.size (rcptRow 0 nilS 0 (zeros 20)) := by rw [hW]; exact RowT.new _ _ _
  obtain ⟨G, hGdef⟩ : ∃ G, G = Plus G0 w.heap.size := ⟨_, rfl⟩
  have hEG : ∀ i, G i → i < w.heap.size → G0 i := by rw [hGdef]; exact plus_new (Nat.le_refl _)
  have hGE : ∀ i, G0 i → G i := fun i hi => by rw [hGdef]; exact .inl hi
  have hEw : G w.heap.size := by rw [hGdef]; exact .inr rfl
  have hTE : Ther G W := by rw [hGdef]; exact (h.cw.ther.go hb0.size).plus hr0.lt
  have hseW := h.lift hb0 hEG hGE hTE
  have HWID : Hid (Wider G0 G w) := hide ⟨hGE, hEG⟩
  clear hGdef hEG hGE hTE
  have e11 : W.cell? ⟨bw, 11, none⟩ = some (.int .u8 2) := hseW.cw.cell hseW.phase
  obtain ⟨A14, k14, c14, h14, n14⟩ := hseW.xs.limit
  obtain ⟨A16, k16, c16, h16, n16⟩ := hseW.xs.left
  obtain ⟨A17, k17, c17, h17, n17⟩ := hseW.xs.price
  obtain ⟨A3r, k3r, c3r, h3, n3r⟩ := hseW.cw.kw.refund
  have hrefB : d.refund < BIG := Nat.lt_of_lt_of_le hg.refund (big_pow 20 (by omega))
  have hcW : ∀ wz, Below W.heap.size W wz → ∀ i v, cs[i]? = some v → wz.cell? ⟨bw, i, none⟩ = some v := fun wz hz i v hv => (hseW.cw.kept hz).cell hv
  have HC := hide hcW
  have HSE := hide hseW
  have HR0 := hide hr0
  have N14 := hide n14
  have N16 := hide n16
  have N17 := hide n17
  have N3 := hide n3r
  have C14 := hide h14
  have C16 := hide h16
  have C17 := hide h17
  have C3 := hide h3
  have HG := hide hg
  have HX := hide hx
  have dW : Below W.heap.size W W.drew := Quiet.below ⟨1, rfl⟩ _
  have hzl : (rcptRow 0 nilS 0 (zeros 20)).length = 25 := rfl
  have hbw := h.cw.lt
  clear h hseW hr0 hcW n14 n16 n17 n3r h14 h16 h17 h3 hg hx
  go_enter Sakg.func50, Sakg.ntmps50
  go_upto_region 1 with ((with_reducible refine at_alloc 48 ?_); refine wpList_alloc_g (by rfl) 48 rfl (rcptRow 0 nilS 0 (zeros 20)) 25 infoRcpt hzl ?_)
  rw [← hW]
  clear hW
  go_upto_region 4 with fail
  refine wp_region_noPanic ?_
  refine wp_region_held_drew (S := fun w' => Below W.heap.size W w') (by kernel_rfl) (dW) (fun hHeld => ?_)
  refine held_takeD 0 (.pointer (some ⟨bw, 0, none⟩)) (some 19) (by rfl) (by rfl) (by kernel_rfl) (by kernel_rfl) (by kernel_rfl) (fun _ _ _ h => h) (.inl ⟨by rfl, fun _ _ => by rfl⟩) (hHeld) ?_
  simp only [Act.put, List.setIfInBounds_toArray, List.set_cons_zero, List.set_cons_succ]
  refine held_takeD 1 (.pointer (some ⟨bw, 0, none⟩)) (some 20) (by rfl) (by rfl) (by kernel_rfl) (by kernel_rfl) (by kernel_rfl) (fun _ _ _ h => h) (.inl ⟨by rfl, fun _ _ => by go_simp⟩) (hHeld) ?_
  simp only [Act.put, List.setIfInBounds_toArray, List.set_cons_zero, List.set_cons_succ]
  refine held_takeD 2 (.pointer (some ⟨bw, 14, none⟩)) (some 21) (by rfl) (by rfl) (by kernel_rfl) (by kernel_rfl) (by kernel_rfl) (fun _ _ _ h => h) (.inl ⟨by rfl, fun _ _ => by go_simp⟩) (hHeld) ?_
  simp only [Act.put, List.setIfInBounds_toArray, List.set_cons_zero, List.set_cons_succ]
  refine held_takeD 3 (.slice A14 k14 c14) (some 22) (by rfl) (by rfl) (by kernel_rfl) (by kernel_rfl) (by kernel_rfl) (fun _ _ _ h => h) (.inl ⟨by rfl, fun wS hS => by have hc := unhide HC wS hS 14 _ (unhide C14); go_simp⟩) (hHeld) ?_
  simp only [Act.put, List.setIfInBounds_toArray, List.set_cons_zero, List.set_cons_succ]
  refine held_takeD 4 (.pointer (some ⟨bw, 0, none⟩)) (some 23) (by rfl) (by rfl) (by kernel_rfl) (by kernel_rfl) (by kernel_rfl) (fun _ _ _ h => h) (.inl ⟨by rfl, fun _ _ => by rfl⟩) (hHeld) ?_
  simp only [Act.put, List.setIfInBounds_toArray, List.set_cons_zero, List.set_cons_succ]
  refine held_takeD 5 (.pointer (some ⟨bw, 0, none⟩)) (some 24) (by rfl) (by rfl) (by kernel_rfl) (by kernel_rfl) (by kernel_rfl) (fun _ _ _ h => h) (.inl ⟨by rfl, fun _ _ => by go_simp⟩) (hHeld) ?_
  simp only [Act.put, List.setIfInBounds_toArray, List.set_cons_zero, List.set_cons_succ]
  refine held_takeD 6 (.pointer (some ⟨bw, 16, none⟩)) (some 25) (by rfl) (by rfl) (by kernel_rfl) (by kernel_rfl) (by kernel_rfl) (fun _ _ _ h => h) (.inl ⟨by rfl, fun _ _ => by go_simp⟩) (hHeld) ?_
  simp only [Act.put, List.setIfInBounds_toArray, List.set_cons_zero, List.set_cons_succ]
  refine held_takeD 7 (.slice A16 k16 c16) (some 26) (by rfl) (by rfl) (by kernel_rfl) (by kernel_rfl) (by kernel_rfl) (fun _ _ _ h => h) (.inl ⟨by rfl, fun wS hS => by have hc := unhide HC wS hS 16 _ (unhide C16); go_simp⟩) (hHeld) ?_
  simp only [Act.put, List.setIfInBounds_toArray, List.set_cons_zero, List.set_cons_succ]
  refine held_one 8 (by kernel_rfl) (by rfl) (fun K' hK' => ?_)
  go_simp
  refine (less_any A14 A16 k14 k16 c14 c16 x.limit x.left W.drew ((unhide N14).kp (ChgS.of dW)).now ((unhide N16).kp (ChgS.of dW)).now (by omega) (by omega)).mono ?_
  rintro e w1 ⟨A1, k1, c1, rfl, n1, N1, b1⟩
  refine hK'.out _ _ (dW.trans (b1.mono dW.size)) ?_
  clear hK' K'
  have d1 := dW.trans (b1.mono dW.size)
  refine held_takeD 9 (.slice A1 k1 c1) (some 4) (by rfl) (by rfl) (by kernel_rfl) (by kernel_rfl) (by kernel_rfl) (fun _ _ _ h => h) (.inl ⟨by rfl, fun _ _ => by rfl⟩) (d1) ?_
  simp only [Act.put, List.setIfInBounds_toArray, List.set_cons_zero, List.set_cons_succ]
  refine wpAnyH_done (by kernel_rfl) ?_ _
  refine NoPanic.normal ?_
  obtain ⟨ub, hub⟩ : ∃ ub, ub = x.limit - x.left := ⟨_, rfl⟩
  rw [← hub] at n1
  have HUB := hide hub
  have hubl : ub ≤ 1048576 := by omega
  have NN1 := hide n1
  have d1x : Below w1.heap.size w1 w1.drew := Quiet.below ⟨1, rfl⟩ _
  have D1 := hide (d1.trans (d1x.mono d1.size))
  clear n1 hub
  as_aux_lemma =>
  go_upto_region 5 with fail
  refine wp_region_noPanic ?_
  refine wp_region_held_drew (S := fun w' => Below W.heap.size W w') (by kernel_rfl) (unhide D1) (fun hHeld => ?_)
  refine held_takeD 0 (.slice A1 k1 c1) (some 28) (by rfl) (by rfl) (by kernel_rfl) (by kernel_rfl) (by kernel_rfl) (fun _ _ _ h => h) (.inl ⟨by rfl, fun _ _ => by rfl⟩) (hHeld) ?_
  simp only [Act.put, List.setIfInBounds_toArray, List.set_cons_zero, List.set_cons_succ]
  refine held_takeD 1 (.pointer (some ⟨bw, 0, none⟩)) (some 29) (by rfl) (by rfl) (by kernel_rfl) (by kernel_rfl) (by kernel_rfl) (fun _ _ _ h => h) (.inl ⟨by rfl, fun _ _ => by rfl⟩) (hHeld) ?_
  simp only [Act.put, List.setIfInBounds_toArray, List.set_cons_zero, List.set_cons_succ]
  refine held_takeD 2 (.pointer (some ⟨bw, 0, none⟩)) (some 30) (by rfl) (by rfl) (by kernel_rfl) (by kernel_rfl) (by kernel_rfl) (fun _ _ _ h => h) (.inl ⟨by rfl, fun _ _ => by go_simp⟩) (hHeld) ?_
  simp only [Act.put, List.setIfInBounds_toArray, List.set_cons_zero, List.set_cons_succ]
  refine held_takeD 3 (.pointer (some ⟨bw, 0, none⟩)) (some 31) (by rfl) (by rfl) (by kernel_rfl) (by kernel_rfl) (by kernel_rfl) (fun _ _ _ h => h) (.inl ⟨by rfl, fun _ _ => by go_simp⟩) (hHeld) ?_
  simp only [Act.put, List.setIfInBounds_toArray, List.set_cons_zero, List.set_cons_succ]
  refine held_takeD 4 (.pointer (some ⟨bw, 3, none⟩)) (some 32) (by rfl) (by rfl) (by kernel_rfl) (by kernel_rfl) (by kernel_rfl) (fun _ _ _ h => h) (.inl ⟨by rfl, fun _ _ => by go_simp⟩) (hHeld) ?_
  simp only [Act.put, List.setIfInBounds_toArray, List.set_cons_zero, List.set_cons_succ]
  refine held_takeD 5 (.slice A3r k3r c3r) (some 33) (by rfl) (by rfl) (by kernel_rfl) (by kernel_rfl) (by kernel_rfl) (fun _ _ _ h => h) (.inl ⟨by rfl, fun wS hS => by have hc := unhide HC wS hS 3 _ (unhide C3); go_simp⟩) (hHeld) ?_
  simp only [Act.put, List.setIfInBounds_toArray, List.set_cons_zero, List.set_cons_succ]
  refine held_takeD 6 (.slice A1 k1 c1) (some 34) (by rfl) (by rfl) (by kernel_rfl) (by kernel_rfl) (by kernel_rfl) (fun _ _ _ h => h) (.inl ⟨by rfl, fun _ _ => by rfl⟩) (hHeld) ?_
  simp only [Act.put, List.setIfInBounds_toArray, List.set_cons_zero, List.set_cons_succ]
  refine held_one 7 (by kernel_rfl) (by rfl) (fun K' hK' => ?_)
  go_simp
  refine (divided_any A1 k1 c1 ub 5 w1.drew ((unhide NN1).kept d1x) (by omega) (by omega) (by omega)).mono ?_
  rintro e w2 ⟨A2, k2, c2, rfl, n2, N2, b2⟩
  refine hK'.out _ _ ((unhide D1).trans (b2.mono (unhide D1).size)) ?_
  clear hK' K'
  have d2 := (unhide D1).trans (b2.mono (unhide D1).size)
  have hdv : ub / 5 ≤ ub := Nat.div_le_self _ _
  refine held_one 8 (by kernel_rfl) (by rfl) (fun K' hK' => ?_)
  go_simp
  refine (minNat_any A3r A2 k3r k2 c3r c2 d.refund (ub / 5) w2 ((unhide N3).kp (ChgS.of d2)).now n2 hrefB (by omega)).mono ?_
  rintro e w3 ⟨A3, k3, c3, rfl, n3, -, q3⟩
  refine hK'.out _ _ (d2.trans (q3.below _)) ?_
  clear hK' K'
  have d3 : Below W.heap.size W w3 := d2.trans (q3.below _)
  have b13 : Below w1.heap.size w1 w3 := (d1x.trans (b2.mono d1x.size)).trans (q3.below _)
  have hmin : min d.refund (ub / 5) ≤ ub := by omega
  refine held_one 9 (by kernel_rfl) (by rfl) (fun K' hK' => ?_)
  go_simp
  refine (less_any A1 A3 k1 k3 c1 c3 ub (min d.refund (ub / 5)) w3 ((unhide NN1).kept b13) n3 (by omega) (by omega)).mono ?_
  rintro e w4 ⟨A4, k4, c4, rfl, n4, N4, b4⟩
  refine hK'.out _ _ (d3.trans (b4.mono d3.size)) ?_
  clear hK' K'
  have d4 := d3.trans (b4.mono d3.size)
  refine held_takeD 10 (.slice A4 k4 c4) (some 5) (by rfl) (by rfl) (by kernel_rfl) (by kernel_rfl) (by kernel_rfl) (fun _ _ _ h => h) (.inl ⟨by rfl, fun _ _ => by rfl⟩) (d4) ?_
  simp only [Act.put, List.setIfInBounds_toArray, List.set_cons_zero, List.set_cons_succ]
  refine wpAnyH_done (by kernel_rfl) ?_ _
  refine NoPanic.normal ?_
  obtain ⟨us, hus⟩ : ∃ us, us = ub - min d.refund (ub / 5) := ⟨_, rfl⟩
  rw [← hus] at n4
  have HUS := hide hus
  have husl : us ≤ x.limit := by have := unhide HUB; omega
  have NU := hide (KNat.new (G := G) n4 (N4.later d3.size) (unhide HSE).cw.ther)
  have d4x : Below w4.heap.size w4 w4.drew := Quiet.below ⟨1, rfl⟩ _
  have D4 := hide (d4.trans (d4x.mono d4.size))
  have hbk : (x.limit - us) * x.price ≤ x.limit * x.price := Nat.mul_le_mul_right _ (by omega)
  clear n2 n3 n4 hus NN1 D1
  as_aux_lemma =>
  go_upto_region 6 with fail
  refine wp_region_noPanic ?_
  refine wp_region_held_drew (S := fun w' => Below W.heap.size W w') (by kernel_rfl) (unhide D4) (fun hHeld => ?_)
  refine held_takeD 0 (.pointer (some ⟨bw, 0, none⟩)) (some 38) (by rfl) (by rfl) (by kernel_rfl) (by kernel_rfl) (by kernel_rfl) (fun _ _ _ h => h) (.inl ⟨by rfl, fun _ _ => by rfl⟩) (hHeld) ?_
  simp only [Act.put, List.setIfInBounds_toArray, List.set_cons_zero, List.set_cons_succ]
  refine held_takeD 1 (.pointer (some ⟨bw, 0, none⟩)) (some 39) (by rfl) (by rfl) (by kernel_rfl) (by kernel_rfl) (by kernel_rfl) (fun _ _ _ h => h) (.inl ⟨by rfl, fun _ _ => by go_simp⟩) (hHeld) ?_
  simp only [Act.put, List.setIfInBounds_toArray, List.set_cons_zero, List.set_cons_succ]
  refine held_takeD 2 (.pointer (some ⟨bw, 14, none⟩)) (some 40) (by rfl) (by rfl) (by kernel_rfl) (by kernel_rfl) (by kernel_rfl) (fun _ _ _ h => h) (.inl ⟨by rfl, fun _ _ => by go_simp⟩) (hHeld) ?_
  simp only [Act.put, List.setIfInBounds_toArray, List.set_cons_zero, List.set_cons_succ]
  refine held_takeD 3 (.slice A14 k14 c14) (some 41) (by rfl) (by rfl) (by kernel_rfl) (by kernel_rfl) (by kernel_rfl) (fun _ _ _ h => h) (.inl ⟨by rfl, fun wS hS => by have hc := unhide HC wS hS 14 _ (unhide C14); go_simp⟩) (hHeld) ?_
  simp only [Act.put, List.setIfInBounds_toArray, List.set_cons_zero, List.set_cons_succ]
  refine held_takeD 4 (.slice A4 k4 c4) (some 42) (by rfl) (by rfl) (by kernel_rfl) (by kernel_rfl) (by kernel_rfl) (fun _ _ _ h => h) (.inl ⟨by rfl, fun _ _ => by rfl⟩) (hHeld) ?_
  simp only [Act.put, List.setIfInBounds_toArray, List.set_cons_zero, List.set_cons_succ]
  refine held_takeD 6 (.pointer (some ⟨bw, 0, none⟩)) (some 44) (by rfl) (by rfl) (by kernel_rfl) (by kernel_rfl) (by kernel_rfl) (fun _ _ _ h => h) (.inl ⟨by rfl, fun _ _ => by rfl⟩) (hHeld) ?_
  simp only [Act.put, List.setIfInBounds_toArray, List.set_cons_zero, List.set_cons_succ]
  refine held_takeD 7 (.pointer (some ⟨bw, 0, none⟩)) (some 45) (by rfl) (by rfl) (by kernel_rfl) (by kernel_rfl) (by kernel_rfl) (fun _ _ _ h => h) (.inl ⟨by rfl, fun _ _ => by go_simp⟩) (hHeld) ?_
  simp only [Act.put, List.setIfInBounds_toArray, List.set_cons_zero, List.set_cons_succ]
  refine held_takeD 8 (.pointer (some ⟨bw, 17, none⟩)) (some 46) (by rfl) (by rfl) (by kernel_rfl) (by kernel_rfl) (by kernel_rfl) (fun _ _ _ h => h) (.inl ⟨by rfl, fun _ _ => by go_simp⟩) (hHeld) ?_
  simp only [Act.put, List.setIfInBounds_toArray, List.set_cons_zero, List.set_cons_succ]
  refine held_takeD 9 (.slice A17 k17 c17) (some 47) (by rfl) (by rfl) (by kernel_rfl) (by kernel_rfl) (by kernel_rfl) (fun _ _ _ h => h) (.inl ⟨by rfl, fun wS hS => by have hc := unhide HC wS hS 17 _ (unhide C17); go_simp⟩) (hHeld) ?_
  simp only [Act.put, List.setIfInBounds_toArray, List.set_cons_zero, List.set_cons_succ]
  refine held_one 5 (by kernel_rfl) (by rfl) (fun K' hK' => ?_)
  go_simp
  refine (less_any A14 A4 k14 k4 c14 c4 x.limit us w4.drew ((unhide N14).kp (ChgS.of (unhide D4))).now ((unhide NU).kp (ChgS.of d4x)).now (by omega) (by omega)).mono ?_
  rintro e w5 ⟨A5, k5, c5, rfl, n5, N5, b5⟩
  refine hK'.out _ _ ((unhide D4).trans (b5.mono (unhide D4).size)) ?_
  clear hK' K'
  have d5 := (unhide D4).trans (b5.mono (unhide D4).size)
  refine held_one 10 (by kernel_rfl) (by rfl) (fun K' hK' => ?_)
  go_simp
  refine (n5.mul ((unhide N17).kp (ChgS.of d5)).now (by omega) (by omega)).mono ?_
  rintro e w6 ⟨A6, k6, c6, rfl, n6, N6, b6⟩
  refine hK'.out _ _ (d5.trans (b6.mono d5.size)) ?_
  clear hK' K'
  have d6 := d5.trans (b6.mono d5.size)
  refine held_takeD 11 (.slice A6 k6 c6) (some 6) (by rfl) (by rfl) (by kernel_rfl) (by kernel_rfl) (by kernel_rfl) (fun _ _ _ h => h) (.inl ⟨by rfl, fun _ _ => by rfl⟩) (d6) ?_
  simp only [Act.put, List.setIfInBounds_toArray, List.set_cons_zero, List.set_cons_succ]
  refine wpAnyH_done (by kernel_rfl) ?_ _
  refine NoPanic.normal ?_
  obtain ⟨bk, hbke⟩ : ∃ bk, bk = (x.limit - us) * x.price := ⟨_, rfl⟩
  rw [← hbke] at n6 hbk
  have HBK := hide hbke
  have b46 : Below w4.heap.size w4 w6 := (d4x.trans (b5.mono d4x.size)).trans (b6.mono (Nat.le_trans d4x.size b5.size))
  have NU6 := hide ((unhide NU).kp (ChgS.of b46))
  have NN6 := hide (KNat.new (G := G) n6 (N6.later d5.size) (unhide HSE).cw.ther)
  have hse6 := (unhide HSE).kept d6
  have d6x : Below w6.heap.size w6 w6.drew := Quiet.below ⟨1, rfl⟩ _
  obtain ⟨org, horg⟩ : ∃ org, org = x.origin := ⟨_, rfl⟩
  have hio : IsAddr org := by rw [horg]; exact (unhide HX).origin
  have hszo := hio.size
  have hu := Sakg.underlying26
  have HAC := hide ((hse6.cw.kept d6x).account (unhide HG) org hio)
  have hRG : ∀ cs' (d' : WD) wz, SE G bw cs' d' x wz → wz.rangeAt bw 19 (bv org) := fun cs' d' wz hz => by rw [horg]; exact hz.originR (unhide HX).origin
  have HRG := hide hRG
  have HS6 := hide hse6
  have hbl6 := hse6.cw.lt
  have HORG := hide horg
  clear n5 n6 hse6 hRG horg hbke D4 NU
  as_aux_lemma =>
  go_upto_region 7 with fail
  refine wp_region_noPanic ?_
  refine wp_region_held_drew (S := fun w' => w'.rangeAt bw 19 (bv org)) (by kernel_rfl) (unhide HRG _ _ _ ((unhide HS6).kept d6x)) (fun hHeld => ?_)
  refine held_takeD 0 (.pointer (some ⟨bw, 0, none⟩)) (some 49) (by rfl) (by rfl) (by kernel_rfl) (by kernel_rfl) (by kernel_rfl) (fun _ _ _ h => h) (.inl ⟨by rfl, fun _ _ => by rfl⟩) (hHeld) ?_
  simp only [Act.put, List.setIfInBounds_toArray, List.set_cons_zero, List.set_cons_succ]
  refine held_takeD 1 (.pointer (some ⟨bw, 0, none⟩)) (some 50) (by rfl) (by rfl) (by kernel_rfl) (by kernel_rfl) (by kernel_rfl) (fun _ _ _ h => h) (.inl ⟨by rfl, fun _ _ => by go_simp⟩) (hHeld) ?_
  simp only [Act.put, List.setIfInBounds_toArray, List.set_cons_zero, List.set_cons_succ]
  refine held_takeD 2 (.pointer (some ⟨bw, 0, none⟩)) (some 51) (by rfl) (by rfl) (by kernel_rfl) (by kernel_rfl) (by kernel_rfl) (fun _ _ _ h => h) (.inl ⟨by rfl, fun _ _ => by go_simp⟩) (hHeld) ?_
  simp only [Act.put, List.setIfInBounds_toArray, List.set_cons_zero, List.set_cons_succ]
  refine held_takeD 3 (.pointer (some ⟨bw, 0, none⟩)) (some 52) (by rfl) (by rfl) (by kernel_rfl) (by kernel_rfl) (by kernel_rfl) (fun _ _ _ h => h) (.inl ⟨by rfl, fun _ _ => by rfl⟩) (hHeld) ?_
  simp only [Act.put, List.setIfInBounds_toArray, List.set_cons_zero, List.set_cons_succ]
  refine held_takeD 4 (.pointer (some ⟨bw, 0, none⟩)) (some 53) (by rfl) (by rfl) (by kernel_rfl) (by kernel_rfl) (by kernel_rfl) (fun _ _ _ h => h) (.inl ⟨by rfl, fun _ _ => by go_simp⟩) (hHeld) ?_
  simp only [Act.put, List.setIfInBounds_toArray, List.set_cons_zero, List.set_cons_succ]
  refine held_takeD 5 (.pointer (some ⟨bw, 19, none⟩)) (some 54) (by rfl) (by rfl) (by kernel_rfl) (by kernel_rfl) (by kernel_rfl) (fun _ _ _ h => h) (.inl ⟨by rfl, fun _ _ => by go_simp⟩) (hHeld) ?_
  simp only [Act.put, List.setIfInBounds_toArray, List.set_cons_zero, List.set_cons_succ]
  refine held_takeD 6 (.agg (bv org).toArray) (some 55) (by rfl) (by rfl) (by kernel_rfl) (by kernel_rfl) (by kernel_rfl) (fun _ _ _ h => h) (yieldsIf_load_mid (by rfl) _ _ rfl _ _ rfl _ _ (fun wz hS => hS) hu rfl hszo) (hHeld) ?_
  simp only [Act.put, List.setIfInBounds_toArray, List.set_cons_zero, List.set_cons_succ]
  refine held_takeD 7 (.pointer (some ⟨bw, 0, none⟩)) (some 56) (by rfl) (by rfl) (by kernel_rfl) (by kernel_rfl) (by kernel_rfl) (fun _ _ _ h => h) (.inl ⟨by rfl, fun _ _ => by rfl⟩) (hHeld) ?_
  simp only [Act.put, List.setIfInBounds_toArray, List.set_cons_zero, List.set_cons_succ]
  refine held_takeD 8 (.pointer (some ⟨bw, 0, none⟩)) (some 57) (by rfl) (by rfl) (by kernel_rfl) (by kernel_rfl) (by kernel_rfl) (fun _ _ _ h => h) (.inl ⟨by rfl, fun _ _ => by go_simp⟩) (hHeld) ?_
  simp only [Act.put, List.setIfInBounds_toArray, List.set_cons_zero, List.set_cons_succ]
  refine held_takeD 9 (.pointer (some ⟨bw, 0, none⟩)) (some 58) (by rfl) (by rfl) (by kernel_rfl) (by kernel_rfl) (by kernel_rfl) (fun _ _ _ h => h) (.inl ⟨by rfl, fun _ _ => by go_simp⟩) (hHeld) ?_
  simp only [Act.put, List.setIfInBounds_toArray, List.set_cons_zero, List.set_cons_succ]
  refine held_takeD 10 (.pointer (some ⟨bw, 0, none⟩)) (some 59) (by rfl) (by rfl) (by kernel_rfl) (by kernel_rfl) (by kernel_rfl) (fun _ _ _ h => h) (.inl ⟨by rfl, fun _ _ => by rfl⟩) (hHeld) ?_
  simp only [Act.put, List.setIfInBounds_toArray, List.set_cons_zero, List.set_cons_succ]
  refine held_takeD 11 (.pointer (some ⟨bw, 0, none⟩)) (some 60) (by rfl) (by rfl) (by kernel_rfl) (by kernel_rfl) (by kernel_rfl) (fun _ _ _ h => h) (.inl ⟨by rfl, fun _ _ => by go_simp⟩) (hHeld) ?_
  simp only [Act.put, List.setIfInBounds_toArray, List.set_cons_zero, List.set_cons_succ]
  refine held_takeD 12 (.pointer (some ⟨bw, 19, none⟩)) (some 61) (by rfl) (by rfl) (by kernel_rfl) (by kernel_rfl) (by kernel_rfl) (fun _ _ _ h => h) (.inl ⟨by rfl, fun _ _ => by go_simp⟩) (hHeld) ?_
  simp only [Act.put, List.setIfInBounds_toArray, List.set_cons_zero, List.set_cons_succ]
  refine held_takeD 13 (.agg (bv org).toArray) (some 62) (by rfl) (by rfl) (by kernel_rfl) (by kernel_rfl) (by kernel_rfl) (fun _ _ _ h => h) (yieldsIf_load_mid (by rfl) _ _ rfl _ _ rfl _ _ (fun wz hS => hS) hu rfl hszo) (hHeld) ?_
  simp only [Act.put, List.setIfInBounds_toArray, List.set_cons_zero, List.set_cons_succ]
  refine held_takeD 16 (.slice A6 k6 c6) (some 65) (by rfl) (by rfl) (by kernel_rfl) (by kernel_rfl) (by kernel_rfl) (fun _ _ _ h => h) (.inl ⟨by rfl, fun _ _ => by rfl⟩) (hHeld) ?_
  simp only [Act.put, List.setIfInBounds_toArray, List.set_cons_zero, List.set_cons_succ]
  refine held_one 14 (by kernel_rfl) (by rfl) (fun K' hK' => ?_)
  go_simp
  refine (unhide HAC).mono ?_
  rintro e w7 ⟨rx, rfl, hrx, b7⟩
  refine hK'.out _ _ (unhide HRG _ _ _ ((unhide HS6).kept (d6x.trans (b7.mono d6x.size)))) ?_
  clear hK' K'
  have d67 := d6x.trans (b7.mono d6x.size)
  have hR7 := unhide HRG _ _ _ ((unhide HS6).kept d67)
  obtain ⟨E1, p1, r1, E2, p2, r2, E3, p3, r3, E4, p4, r4, u20, u21, u22, u23, y1, y2, y3, y4⟩ := hrx.cells
  have hfld := run_field_slice fldBal Sakg.underlying54 rx _ u21
  have hxB := ((unhide HG).lookB org).2
  have hxP := (unhide HG).bal org
  have NB7 := hide y2.now
  clear hrx u20 u21 u22 u23 y1 y2 y3 y4
  refine held_takeD 15 (.slice E2 p2 r2) (some 64) (by rfl) (by rfl) (by kernel_rfl) (by kernel_rfl) (by kernel_rfl) (fun _ _ _ h => h) (.inl ⟨by rfl, fun _ _ => by go_simp⟩) (hR7) ?_
  simp only [Act.put, List.setIfInBounds_toArray, List.set_cons_zero, List.set_cons_succ]
  refine held_one 17 (by kernel_rfl) (by rfl) (fun K' hK' => ?_)
  go_simp
  refine ((unhide NB7).add ((unhide NN6).kp (ChgS.of d67)).now hxB (by omega)).mono ?_
  rintro e w8 ⟨A8, k8, c8, rfl, n8, N8, b8⟩
  refine hK'.out _ _ (unhide HRG _ _ _ ((unhide HS6).kept (d67.trans (b8.mono d67.size)))) ?_
  clear hK' K'
  have d68 := d67.trans (b8.mono d67.size)
  have hSB := ((unhide HS6).kept d68).cw.setBalance (unhide HG) org hio A8 k8 c8 ((lookY d.accts org).bal + bk) (KNat.new n8 (N8.later d67.size) (unhide HS6).cw.ther) (by omega)
  have HSB := hide hSB
  clear hSB hfld n8
  refine held_one 18 (by kernel_rfl) (by rfl) (fun K' hK' => ?_)
  go_simp
  refine (unhide HSB).mono ?_
  rintro e w9 ⟨rfl, hw9⟩
  obtain ⟨cs9, hse9, hmv9, h89, hch9⟩ := ((unhide HS6).kept d68).world hw9
  refine hK'.out _ _ (unhide HRG _ _ _ hse9) ?_
  clear hK' K'
  refine wpAnyH_done (by kernel_rfl) ?_ _
  refine NoPanic.normal ?_
  obtain ⟨d9, hd9⟩ : ∃ d9, d9 = { d with accts := balY d.accts org ((lookY d.accts org).bal + bk) } := ⟨_, rfl⟩
  have hd9L : d9.logs = d.logs := by rw [hd9]
  have hg9 : Good (B + bk) d9 := by rw [hd9]; exact Good.bal' (unhide HG).snd hio (by omega) (by omega) (by omega)
  rw [← hd9] at hse9
  have hwt9 : wt d9 ≤ wt d + 2500 ∧ szA d9.accts ≤ szA d.accts + 1 := by rw [hd9]; exact wt_bal (unhide HG).snd hio _
  have hgn9 : d9.gone = d.gone := by rw [hd9]
  have cW9 : Chg bw W w9 := ((Chg.of d6).trans (Chg.of d68)).trans hch9
  have m69 : Mv G w6 w9 := (Mv.of d68).trans hmv9
  have mW9 : Mv G W w9 := (Mv.of d6).trans m69
  have NU9 := hide ((unhide NU6).kp m69.chg)
  have N179 := hide ((unhide N17).kp mW9.chg)
  have C179 := hide ((h89 17 (by omega)).trans (unhide C17))
  have d9x : Below w9.heap.size w9 w9.drew := Quiet.below ⟨1, rfl⟩ _
  have HFR9 := hide ((hse9.kept d9x).feeR (unhide HX))
  have hfee := (unhide HX).fee
  have hfB := hfee.big
  have HS9 := hide hse9
  have HG9 := hide hg9
  obtain ⟨fee, hfe⟩ : ∃ fee, fee = x.fee := ⟨_, rfl⟩
  rw [← hfe] at HFR9 hfee hfB
  have HFE := hide hfe
  clear hse9 hw9 hch9 h89 hg9 hd9 hfe NB7 HAC NN6 NU6 HS6
  as_aux_lemma =>
  go_upto_region 8 with fail
  refine wp_region_noPanic ?_
  refine wp_region_held_drew (S := fun w' => Below w9.heap.size w9 w') (by kernel_rfl) (d9x) (fun hHeld => ?_)
  refine held_takeD 0 (.slice A4 k4 c4) (some 68) (by rfl) (by rfl) (by kernel_rfl) (by kernel_rfl) (by kernel_rfl) (fun _ _ _ h => h) (.inl ⟨by rfl, fun _ _ => by rfl⟩) (hHeld) ?_
  simp only [Act.put, List.setIfInBounds_toArray, List.set_cons_zero, List.set_cons_succ]
  refine held_takeD 1 (.pointer (some ⟨bw, 0, none⟩)) (some 69) (by rfl) (by rfl) (by kernel_rfl) (by kernel_rfl) (by kernel_rfl) (fun _ _ _ h => h) (.inl ⟨by rfl, fun _ _ => by rfl⟩) (hHeld) ?_
  simp only [Act.put, List.setIfInBounds_toArray, List.set_cons_zero, List.set_cons_succ]
  refine held_takeD 2 (.pointer (some ⟨bw, 0, none⟩)) (some 70) (by rfl) (by rfl) (by kernel_rfl) (by kernel_rfl) (by kernel_rfl) (fun _ _ _ h => h) (.inl ⟨by rfl, fun _ _ => by go_simp⟩) (hHeld) ?_
  simp only [Act.put, List.setIfInBounds_toArray, List.set_cons_zero, List.set_cons_succ]
  refine held_takeD 3 (.pointer (some ⟨bw, 17, none⟩)) (some 71) (by rfl) (by rfl) (by kernel_rfl) (by kernel_rfl) (by kernel_rfl) (fun _ _ _ h => h) (.inl ⟨by rfl, fun _ _ => by go_simp⟩) (hHeld) ?_
  simp only [Act.put, List.setIfInBounds_toArray, List.set_cons_zero, List.set_cons_succ]
  refine held_takeD 4 (.slice A17 k17 c17) (some 72) (by rfl) (by rfl) (by kernel_rfl) (by kernel_rfl) (by kernel_rfl) (fun _ _ _ h => h) (.inl ⟨by rfl, fun wS hS => by have hc := ((unhide HS9).cw.kept hS).cell (unhide C179); go_simp⟩) (hHeld) ?_
  simp only [Act.put, List.setIfInBounds_toArray, List.set_cons_zero, List.set_cons_succ]
  refine held_takeD 5 (.pointer (some ⟨bw, 0, none⟩)) (some 73) (by rfl) (by rfl) (by kernel_rfl) (by kernel_rfl) (by kernel_rfl) (fun _ _ _ h => h) (.inl ⟨by rfl, fun _ _ => by rfl⟩) (hHeld) ?_
  simp only [Act.put, List.setIfInBounds_toArray, List.set_cons_zero, List.set_cons_succ]
  refine held_one 6 (by kernel_rfl) (by rfl) (fun K' hK' => ?_)
  go_simp
  refine (baseFee_any bw fee w9.drew (unhide HFR9) hfee).mono ?_
  rintro e w10 ⟨A10, k10, c10, rfl, n10, N10, b10⟩
  refine hK'.out _ _ (d9x.trans (b10.mono d9x.size)) ?_
  clear hK' K'
  have d10 := d9x.trans (b10.mono d9x.size)
  refine held_one 7 (by kernel_rfl) (by rfl) (fun K' hK' => ?_)
  go_simp
  refine (less_any A17 A10 k17 k10 c17 c10 x.price (beN fee) w10 ((unhide N179).kp (ChgS.of d10)).now n10 (by omega) hfB).mono ?_
  rintro e w11 ⟨A11, k11, c11, rfl, n11, N11, b11⟩
  refine hK'.out _ _ (d10.trans (b11.mono d10.size)) ?_
  clear hK' K'
  have d11 := d10.trans (b11.mono d10.size)
  refine held_one 8 (by kernel_rfl) (by rfl) (fun K' hK' => ?_)
  go_simp
  refine (((unhide NU9).kp (ChgS.of d11)).now.mul n11 (by omega) (by omega)).mono ?_
  rintro e w12 ⟨A12, k12, c12, rfl, n12, N12, b12⟩
  refine hK'.out _ _ (d11.trans (b12.mono d11.size)) ?_
  clear hK' K'
  have d12 := d11.trans (b12.mono d11.size)
  refine held_takeD 9 (.slice A12 k12 c12) (some 7) (by rfl) (by rfl) (by kernel_rfl) (by kernel_rfl) (by kernel_rfl) (fun _ _ _ h => h) (.inl ⟨by rfl, fun _ _ => by rfl⟩) (d12) ?_
  simp only [Act.put, List.setIfInBounds_toArray, List.set_cons_zero, List.set_cons_succ]
  refine wpAnyH_done (by kernel_rfl) ?_ _
  refine NoPanic.normal ?_
  obtain ⟨fv, hfv⟩ : ∃ fv, fv = us * (x.price - beN fee) := ⟨_, rfl⟩
  rw [← hfv] at n12
  have hfvl : fv ≤ us * x.price := by rw [hfv]; exact Nat.mul_le_mul_left _ (by omega)
  have hsum : bk + us * x.price = x.limit * x.price := by
    rw [unhide HBK, ← Nat.add_mul]
    congr 1
    omega
  have HFV := hide hfv
  have hse12 := (unhide HS9).kept d12
  have NF12 := hide (KNat.new (G := G) n12 (N12.later d11.size) (unhide HS9).cw.ther)
  have NU12 := hide ((unhide NU9).kp (ChgS.of d12))
  have N1712 := hide ((unhide N179).kp (ChgS.of d12))
  obtain ⟨A18, k18, c18, h18, n18⟩ := hse12.xs.total
  have htotB := (unhide HX).total
  have C18 := hide h18
  have N18 := hide n18
  have HS12 := hide hse12
  have d12x : Below w12.heap.size w12 w12.drew := Quiet.below ⟨1, rfl⟩ _
  clear n10 n11 n12 hfv hse12 h18 n18 NU9 N179 HFR9 HS9
  as_aux_lemma =>
  go_upto_region 9 with fail
  go_cut [7] (fun s7 wc => s7 = .slice A12 k12 c12 ∧ ∃ (A : Option Addr) (k c tot : Nat), tot = x.total - (us * x.price - fv) ∧ SE G bw (cs9.set 18 (.slice A k c)) d9 { x with total := tot } wc ∧ Mv G w12 wc ∧ Chg bw w12 wc)
  case first =>
    as_aux_lemma =>
    have hS12 : ∀ wz, Below w12.heap.size w12 wz → ChgS G w12 wz ∧ wz.cell? ⟨bw, 17, none⟩ = some (Value.slice A17 k17 c17) := fun wz hz => ⟨ChgS.of hz, ((unhide HS12).cw.kept hz).cell (unhide C179)⟩
    have HS12c := hide hS12
    clear hS12
    refine wp_region_noPanic ?_
    refine wp_region_held_drew (S := fun w' => ChgS G w12 w' ∧ w'.cell? ⟨bw, 17, none⟩ = some (Value.slice A17 k17 c17)) (by kernel_rfl) (unhide HS12c _ d12x) (fun hHeld => ?_)
    refine held_takeD 0 (.pointer (some ⟨bw, 0, none⟩)) (some 77) (by rfl) (by rfl) (by kernel_rfl) (by kernel_rfl) (by kernel_rfl) (fun _ _ _ h => h) (.inl ⟨by rfl, fun _ _ => by rfl⟩) (hHeld) ?_
    simp only [Act.put, List.setIfInBounds_toArray, List.set_cons_zero, List.set_cons_succ]
    refine held_takeD 1 (.pointer (some ⟨bw, 0, none⟩)) (some 78) (by rfl) (by rfl) (by kernel_rfl) (by kernel_rfl) (by kernel_rfl) (fun _ _ _ h => h) (.inl ⟨by rfl, fun _ _ => by rfl⟩) (hHeld) ?_
    simp only [Act.put, List.setIfInBounds_toArray, List.set_cons_zero, List.set_cons_succ]
    refine held_takeD 2 (.pointer (some ⟨bw, 0, none⟩)) (some 79) (by rfl) (by rfl) (by kernel_rfl) (by kernel_rfl) (by kernel_rfl) (fun _ _ _ h => h) (.inl ⟨by rfl, fun _ _ => by go_simp⟩) (hHeld) ?_
    simp only [Act.put, List.setIfInBounds_toArray, List.set_cons_zero, List.set_cons_succ]
    refine held_takeD 3 (.pointer (some ⟨bw, 18, none⟩)) (some 80) (by rfl) (by rfl) (by kernel_rfl) (by kernel_rfl) (by kernel_rfl) (fun _ _ _ h => h) (.inl ⟨by rfl, fun _ _ => by go_simp⟩) (hHeld) ?_
    simp only [Act.put, List.setIfInBounds_toArray, List.set_cons_zero, List.set_cons_succ]
    refine held_takeD 5 (.slice A4 k4 c4) (some 82) (by rfl) (by rfl) (by kernel_rfl) (by kernel_rfl) (by kernel_rfl) (fun _ _ _ h => h) (.inl ⟨by rfl, fun _ _ => by rfl⟩) (hHeld) ?_
    simp only [Act.put, List.setIfInBounds_toArray, List.set_cons_zero, List.set_cons_succ]
    refine held_takeD 6 (.pointer (some ⟨bw, 0, none⟩)) (some 83) (by rfl) (by rfl) (by kernel_rfl) (by kernel_rfl) (by kernel_rfl) (fun _ _ _ h => h) (.inl ⟨by rfl, fun _ _ => by rfl⟩) (hHeld) ?_
    simp only [Act.put, List.setIfInBounds_toArray, List.set_cons_zero, List.set_cons_succ]
    refine held_takeD 7 (.pointer (some ⟨bw, 0, none⟩)) (some 84) (by rfl) (by rfl) (by kernel_rfl) (by kernel_rfl) (by kernel_rfl) (fun _ _ _ h => h) (.inl ⟨by rfl, fun _ _ => by go_simp⟩) (hHeld) ?_
    simp only [Act.put, List.setIfInBounds_toArray, List.set_cons_zero, List.set_cons_succ]
    refine held_takeD 8 (.pointer (some ⟨bw, 17, none⟩)) (some 85) (by rfl) (by rfl) (by kernel_rfl) (by kernel_rfl) (by kernel_rfl) (fun _ _ _ h => h) (.inl ⟨by rfl, fun _ _ => by go_simp⟩) (hHeld) ?_
    simp only [Act.put, List.setIfInBounds_toArray, List.set_cons_zero, List.set_cons_succ]
    refine held_takeD 9 (.slice A17 k17 c17) (some 86) (by rfl) (by rfl) (by kernel_rfl) (by kernel_rfl) (by kernel_rfl) (fun _ _ _ h => h) (.inl ⟨by rfl, fun wS hS => by have hc := hS.2; go_simp⟩) (hHeld) ?_
    simp only [Act.put, List.setIfInBounds_toArray, List.set_cons_zero, List.set_cons_succ]
    refine held_takeD 11 (.slice A12 k12 c12) (some 88) (by rfl) (by rfl) (by kernel_rfl) (by kernel_rfl) (by kernel_rfl) (fun _ _ _ h => h) (.inl ⟨by rfl, fun _ _ => by rfl⟩) (hHeld) ?_
    simp only [Act.put, List.setIfInBounds_toArray, List.set_cons_zero, List.set_cons_succ]
    refine held_two 4 10 (by kernel_rfl) (by rfl) (by rfl) (fun K' hK' => ?_) (fun K' hK' => ?_)
    · have hcu : w12.drew.cell? ⟨bw, 18, none⟩ = some (.slice A18 k18 c18) := ((unhide HS12).cw.kept d12x).cell (unhide C18)
      go_simp
      refine hK'.out _ _ (unhide HS12c _ d12x) ?_
      clear hK' K'
      refine held_one 10 (by kernel_rfl) (by rfl) (fun K' hK' => ?_)
      go_simp
      refine (((unhide NU12).kp (ChgS.of d12x)).now.mul ((unhide N1712).kp (ChgS.of d12x)).now (by omega) (by omega)).mono ?_
      rintro e wa ⟨Aa, ka, ca, rfl, na1, Na, ba⟩
      have da := d12x.trans (ba.mono d12x.size)
      refine hK'.out _ _ (unhide HS12c _ da) ?_
      clear hK' K'
      refine held_one 12 (by kernel_rfl) (by rfl) (fun K' hK' => ?_)
      go_simp
      refine (less_any Aa A12 ka k12 ca c12 _ fv wa na1 ((unhide NF12).kp (ChgS.of da)).now (by omega) (by omega)).mono ?_
      rintro e wb ⟨Ab, kb, cb1, rfl, nb1, Nb, bb⟩
      have db := da.trans (bb.mono da.size)
      refine hK'.out _ _ (unhide HS12c _ db) ?_
      clear hK' K'
      refine held_one 13 (by kernel_rfl) (by rfl) (fun K' hK' => ?_)
      go_simp
      refine (less_any A18 Ab k18 kb c18 cb1 x.total _ wb ((unhide N18).kp (ChgS.of db)).now nb1 htotB (by omega)).mono ?_
      rintro e wc ⟨Ac, kc, cc, rfl, nc1, Nc, bc⟩
      have dc := db.trans (bc.mono db.size)
      refine hK'.out _ _ (unhide HS12c _ dc) ?_
      clear hK' K'
      refine held_takeD 14 (.pointer (some ⟨bw, 0, none⟩)) (some 91) (by rfl) (by rfl) (by kernel_rfl) (by kernel_rfl) (by kernel_rfl) (fun _ _ _ h => h) (.inl ⟨by rfl, fun _ _ => by go_simp⟩) (unhide HS12c _ dc) ?_
      simp only [Act.put, List.setIfInBounds_toArray, List.set_cons_zero, List.set_cons_succ]
      refine held_takeD 15 (.pointer (some ⟨bw, 18, none⟩)) (some 92) (by rfl) (by rfl) (by kernel_rfl) (by kernel_rfl) (by kernel_rfl) (fun _ _ _ h => h) (.inl ⟨by rfl, fun _ _ => by go_simp⟩) (unhide HS12c _ dc) ?_
      simp only [Act.put, List.setIfInBounds_toArray, List.set_cons_zero, List.set_cons_succ]
      refine held_one 16 (by kernel_rfl) (by rfl) (fun K' hK' => ?_)
      have hseC := (unhide HS12).kept dc
      have hcx := hseC.cw.cell (unhide C18)
      have hfx1 := hseC.cw.row.froz 18
      go_simp
      obtain ⟨hseS, oS⟩ := hseC.total (KNat.new (G := G) nc1 (Nc.later db.size) (unhide HS12).cw.ther)
      obtain ⟨wS, hwS⟩ : ∃ x, x = wc.setCell ⟨bw, 18, none⟩ (Value.slice Ac kc cc) := ⟨_, rfl⟩
      rw [← hwS] at hseS oS
      rw [← hwS]
      have mS : Mv G w12 wS := (Mv.of dc).trans (Mv.chain hseC.cw.row hseC.cw.g (Chg.ofOnly oS))
      have dS : ChgS G w12 wS ∧ wS.cell? ⟨bw, 17, none⟩ = some (Value.slice A17 k17 c17) := ⟨mS.chg, hseS.cw.cell ((List.getElem?_set_ne (by omega)).trans (unhide C179))⟩
      have cS : Chg bw w12 wS := (Chg.of dc).trans (Chg.ofOnly oS)
      have HSES := hide hseS
      clear hwS hseS hseC hcx hfx1
      refine hK'.out _ _ (dS) ?_
      clear hK' K'
      refine wpAnyH_done (by kernel_rfl) ?_ _
      refine NoPanic.normal ?_
      go_wp2_with fail
      go_meet
      case rel => exact ⟨rfl, Ac, kc, cc, _, rfl, unhide HSES, mS, cS⟩
    · go_simp
      refine (((unhide NU12).kp (ChgS.of d12x)).now.mul ((unhide N1712).kp (ChgS.of d12x)).now (by omega) (by omega)).mono ?_
      rintro e wa ⟨Aa, ka, ca, rfl, na1, Na, ba⟩
      have da := d12x.trans (ba.mono d12x.size)
      refine hK'.out _ _ (unhide HS12c _ da) ?_
      clear hK' K'
      refine held_two 4 12 (by kernel_rfl) (by rfl) (by rfl) (fun K' hK' => ?_) (fun K' hK' => ?_)
      · have hcu : wa.cell? ⟨bw, 18, none⟩ = some (.slice A18 k18 c18) := ((unhide HS12).cw.kept da).cell (unhide C18)
        go_simp
        refine hK'.out _ _ (unhide HS12c _ da) ?_
        clear hK' K'
        refine held_one 12 (by kernel_rfl) (by rfl) (fun K' hK' => ?_)
        go_simp
        refine (less_any Aa A12 ka k12 ca c12 _ fv wa na1 ((unhide NF12).kp (ChgS.of da)).now (by omega) (by omega)).mono ?_
        rintro e wb ⟨Ab, kb, cb1, rfl, nb1, Nb, bb⟩
        have db := da.trans (bb.mono da.size)
        refine hK'.out _ _ (unhide HS12c _ db) ?_
        clear hK' K'
        refine held_one 13 (by kernel_rfl) (by rfl) (fun K' hK' => ?_)
        go_simp
        refine (less_any A18 Ab k18 kb c18 cb1 x.total _ wb ((unhide N18).kp (ChgS.of db)).now nb1 htotB (by omega)).mono ?_
        rintro e wc ⟨Ac, kc, cc, rfl, nc1, Nc, bc⟩
        have dc := db.trans (bc.mono db.size)
        refine hK'.out _ _ (unhide HS12c _ dc) ?_
        clear hK' K'
        refine held_takeD 14 (.pointer (some ⟨bw, 0, none⟩)) (some 91) (by rfl) (by rfl) (by kernel_rfl) (by kernel_rfl) (by kernel_rfl) (fun _ _ _ h => h) (.inl ⟨by rfl, fun _ _ => by go_simp⟩) (unhide HS12c _ dc) ?_
        simp only [Act.put, List.setIfInBounds_toArray, List.set_cons_zero, List.set_cons_succ]
        refine held_takeD 15 (.pointer (some ⟨bw, 18, none⟩)) (some 92) (by rfl) (by rfl) (by kernel_rfl) (by kernel_rfl) (by kernel_rfl) (fun _ _ _ h => h) (.inl ⟨by rfl, fun _ _ => by go_simp⟩) (unhide HS12c _ dc) ?_
        simp only [Act.put, List.setIfInBounds_toArray, List.set_cons_zero, List.set_cons_succ]
        refine held_one 16 (by kernel_rfl) (by rfl) (fun K' hK' => ?_)
        have hseC := (unhide HS12).kept dc
        have hcx := hseC.cw.cell (unhide C18)
        have hfx1 := hseC.cw.row.froz 18
        go_simp
        obtain ⟨hseS, oS⟩ := hseC.total (KNat.new (G := G) nc1 (Nc.later db.size) (unhide HS12).cw.ther)
        obtain ⟨wS, hwS⟩ : ∃ x, x = wc.setCell ⟨bw, 18, none⟩ (Value.slice Ac kc cc) := ⟨_, rfl⟩
        rw [← hwS] at hseS oS
        rw [← hwS]
        have mS : Mv G w12 wS := (Mv.of dc).trans (Mv.chain hseC.cw.row hseC.cw.g (Chg.ofOnly oS))
        have dS : ChgS G w12 wS ∧ wS.cell? ⟨bw, 17, none⟩ = some (Value.slice A17 k17 c17) := ⟨mS.chg, hseS.cw.cell ((List.getElem?_set_ne (by omega)).trans (unhide C179))⟩
        have cS : Chg bw w12 wS := (Chg.of dc).trans (Chg.ofOnly oS)
        have HSES := hide hseS
        clear hwS hseS hseC hcx hfx1
        refine hK'.out _ _ (dS) ?_
        clear hK' K'
        refine wpAnyH_done (by kernel_rfl) ?_ _
        refine NoPanic.normal ?_
        go_wp2_with fail
        go_meet
        case rel => exact ⟨rfl, Ac, kc, cc, _, rfl, unhide HSES, mS, cS⟩
      · go_simp
        refine (less_any Aa A12 ka k12 ca c12 _ fv wa na1 ((unhide NF12).kp (ChgS.of da)).now (by omega) (by omega)).mono ?_
        rintro e wb ⟨Ab, kb, cb1, rfl, nb1, Nb, bb⟩
        have db := da.trans (bb.mono da.size)
        refine hK'.out _ _ (unhide HS12c _ db) ?_
        clear hK' K'
        refine held_one 4 (by kernel_rfl) (by rfl) (fun K' hK' => ?_)
        have hcu : wb.cell? ⟨bw, 18, none⟩ = some (.slice A18 k18 c18) := ((unhide HS12).cw.kept db).cell (unhide C18)
        go_simp
        refine hK'.out _ _ (unhide HS12c _ db) ?_
        clear hK' K'
        refine held_one 13 (by kernel_rfl) (by rfl) (fun K' hK' => ?_)
        go_simp
        refine (less_any A18 Ab k18 kb c18 cb1 x.total _ wb ((unhide N18).kp (ChgS.of db)).now nb1 htotB (by omega)).mono ?_
        rintro e wc ⟨Ac, kc, cc, rfl, nc1, Nc, bc⟩
        have dc := db.trans (bc.mono db.size)
        refine hK'.out _ _ (unhide HS12c _ dc) ?_
        clear hK' K'
        refine held_takeD 14 (.pointer (some ⟨bw, 0, none⟩)) (some 91) (by rfl) (by rfl) (by kernel_rfl) (by kernel_rfl) (by kernel_rfl) (fun _ _ _ h => h) (.inl ⟨by rfl, fun _ _ => by go_simp⟩) (unhide HS12c _ dc) ?_
        simp only [Act.put, List.setIfInBounds_toArray, List.set_cons_zero, List.set_cons_succ]
        refine held_takeD 15 (.pointer (some ⟨bw, 18, none⟩)) (some 92) (by rfl) (by rfl) (by kernel_rfl) (by kernel_rfl) (by kernel_rfl) (fun _ _ _ h => h) (.inl ⟨by rfl, fun _ _ => by go_simp⟩) (unhide HS12c _ dc) ?_
        simp only [Act.put, List.setIfInBounds_toArray, List.set_cons_zero, List.set_cons_succ]
        refine held_one 16 (by kernel_rfl) (by rfl) (fun K' hK' => ?_)
        have hseC := (unhide HS12).kept dc
        have hcx := hseC.cw.cell (unhide C18)
        have hfx1 := hseC.cw.row.froz 18
        go_simp
        obtain ⟨hseS, oS⟩ := hseC.total (KNat.new (G := G) nc1 (Nc.later db.size) (unhide HS12).cw.ther)
        obtain ⟨wS, hwS⟩ : ∃ x, x = wc.setCell ⟨bw, 18, none⟩ (Value.slice Ac kc cc) := ⟨_, rfl⟩
        rw [← hwS] at hseS oS
        rw [← hwS]
        have mS : Mv G w12 wS := (Mv.of dc).trans (Mv.chain hseC.cw.row hseC.cw.g (Chg.ofOnly oS))
        have dS : ChgS G w12 wS ∧ wS.cell? ⟨bw, 17, none⟩ = some (Value.slice A17 k17 c17) := ⟨mS.chg, hseS.cw.cell ((List.getElem?_set_ne (by omega)).trans (unhide C179))⟩
        have cS : Chg bw w12 wS := (Chg.of dc).trans (Chg.ofOnly oS)
        have HSES := hide hseS
        clear hwS hseS hseC hcx hfx1
        refine hK'.out _ _ (dS) ?_
        clear hK' K'
        refine wpAnyH_done (by kernel_rfl) ?_ _
        refine NoPanic.normal ?_
        go_wp2_with fail
        go_meet
        case rel => exact ⟨rfl, Ac, kc, cc, _, rfl, unhide HSES, mS, cS⟩
  case rest =>
  as_aux_lemma =>
  obtain ⟨w13, hw13⟩ : ∃ w13, w13 = wc := ⟨_, rfl⟩
  subst hw13
  obtain ⟨rfl, At, kt, ct, tot, htot, hse13, m13, c13⟩ := hcut
  generalize cs9.set 18 (Value.slice At kt ct) = cs13 at hse13
  have cW13 : Chg bw W w13 := (cW9.trans (Chg.of d12)).trans c13
  have mW13 : Mv G W w13 := (mW9.trans (Mv.of d12)).trans m13
  have NU13 := hide ((unhide NU12).kp m13.chg)
  have NF13 := hide ((unhide NF12).kp m13.chg)
  obtain ⟨cb, hcbe⟩ : ∃ cb, cb = x.coin := ⟨_, rfl⟩
  have hcb : IsAddr cb := by rw [hcbe]; exact (unhide HX).coin
  have hszc := hcb.size
  have d13x : Below w13.heap.size w13 w13.drew := Quiet.below ⟨1, rfl⟩ _
  have HAC13 := hide ((hse13.cw.kept d13x).account (unhide HG9) cb hcb)
  have hRG13 : ∀ cs' (d' : WD) wz, SE G bw cs' d' { x with total := tot } wz → wz.rangeAt bw 59 (bv cb) := fun cs' d' wz hz => by rw [hcbe]; exact hz.coinR (unhide HX).coin
  have HRG13 := hide hRG13
  have HS13 := hide hse13
  have hPB13 : B + bk + fv < P256 := by omega
  clear hse13 hRG13 hcbe HS12 NU12 NF12 N1712 N18
  go_upto_region 10 with fail
  refine wp_region_noPanic ?_
  refine wp_region_held_drew (S := fun w' => w'.rangeAt bw 59 (bv cb)) (by kernel_rfl) (unhide HRG13 _ _ _ ((unhide HS13).kept d13x)) (fun hHeld => ?_)
  refine held_takeD 0 (.pointer (some ⟨bw, 0, none⟩)) (some 93) (by rfl) (by rfl) (by kernel_rfl) (by kernel_rfl) (by kernel_rfl) (fun _ _ _ h => h) (.inl ⟨by rfl, fun _ _ => by rfl⟩) (hHeld) ?_
  simp only [Act.put, List.setIfInBounds_toArray, List.set_cons_zero, List.set_cons_succ]
  refine held_takeD 1 (.pointer (some ⟨bw, 0, none⟩)) (some 94) (by rfl) (by rfl) (by kernel_rfl) (by kernel_rfl) (by kernel_rfl) (fun _ _ _ h => h) (.inl ⟨by rfl, fun _ _ => by go_simp⟩) (hHeld) ?_
  simp only [Act.put, List.setIfInBounds_toArray, List.set_cons_zero, List.set_cons_succ]
  refine held_takeD 2 (.pointer (some ⟨bw, 0, none⟩)) (some 95) (by rfl) (by rfl) (by kernel_rfl) (by kernel_rfl) (by kernel_rfl) (fun _ _ _ h => h) (.inl ⟨by rfl, fun _ _ => by go_simp⟩) (hHeld) ?_
  simp only [Act.put, List.setIfInBounds_toArray, List.set_cons_zero, List.set_cons_succ]
  refine held_takeD 3 (.pointer (some ⟨bw, 0, none⟩)) (some 96) (by rfl) (by rfl) (by kernel_rfl) (by kernel_rfl) (by kernel_rfl) (fun _ _ _ h => h) (.inl ⟨by rfl, fun _ _ => by rfl⟩) (hHeld) ?_
  simp only [Act.put, List.setIfInBounds_toArray, List.set_cons_zero, List.set_cons_succ]
  refine held_takeD 4 (.pointer (some ⟨bw, 0, none⟩)) (some 97) (by rfl) (by rfl) (by kernel_rfl) (by kernel_rfl) (by kernel_rfl) (fun _ _ _ h => h) (.inl ⟨by rfl, fun _ _ => by go_simp⟩) (hHeld) ?_
  simp only [Act.put, List.setIfInBounds_toArray, List.set_cons_zero, List.set_cons_succ]
  refine held_takeD 5 (.pointer (some ⟨bw, 59, none⟩)) (some 98) (by rfl) (by rfl) (by kernel_rfl) (by kernel_rfl) (by kernel_rfl) (fun _ _ _ h => h) (.inl ⟨by rfl, fun _ _ => by go_simp⟩) (hHeld) ?_
  simp only [Act.put, List.setIfInBounds_toArray, List.set_cons_zero, List.set_cons_succ]
  refine held_takeD 6 (.pointer (some ⟨bw, 59, none⟩)) (some 99) (by rfl) (by rfl) (by kernel_rfl) (by kernel_rfl) (by kernel_rfl) (fun _ _ _ h => h) (.inl ⟨by rfl, fun _ _ => by go_simp⟩) (hHeld) ?_
  simp only [Act.put, List.setIfInBounds_toArray, List.set_cons_zero, List.set_cons_succ]
  refine held_takeD 7 (.agg (bv cb).toArray) (some 100) (by rfl) (by rfl) (by kernel_rfl) (by kernel_rfl) (by kernel_rfl) (fun _ _ _ h => h) (yieldsIf_load_mid (by rfl) _ _ rfl _ _ rfl _ _ (fun wz hS => hS) hu rfl hszc) (hHeld) ?_
  simp only [Act.put, List.setIfInBounds_toArray, List.set_cons_zero, List.set_cons_succ]
  refine held_takeD 8 (.pointer (some ⟨bw, 0, none⟩)) (some 101) (by rfl) (by rfl) (by kernel_rfl) (by kernel_rfl) (by kernel_rfl) (fun _ _ _ h => h) (.inl ⟨by rfl, fun _ _ => by rfl⟩) (hHeld) ?_
  simp only [Act.put, List.setIfInBounds_toArray, List.set_cons_zero, List.set_cons_succ]
  refine held_takeD 9 (.pointer (some ⟨bw, 0, none⟩)) (some 102) (by rfl) (by rfl) (by kernel_rfl) (by kernel_rfl) (by kernel_rfl) (fun _ _ _ h => h) (.inl ⟨by rfl, fun _ _ => by go_simp⟩) (hHeld) ?_
  simp only [Act.put, List.setIfInBounds_toArray, List.set_cons_zero, List.set_cons_succ]
  refine held_takeD 10 (.pointer (some ⟨bw, 0, none⟩)) (some 103) (by rfl) (by rfl) (by kernel_rfl) (by kernel_rfl) (by kernel_rfl) (fun _ _ _ h => h) (.inl ⟨by rfl, fun _ _ => by go_simp⟩) (hHeld) ?_
  simp only [Act.put, List.setIfInBounds_toArray, List.set_cons_zero, List.set_cons_succ]
  refine held_takeD 11 (.pointer (some ⟨bw, 0, none⟩)) (some 104) (by rfl) (by rfl) (by kernel_rfl) (by kernel_rfl) (by kernel_rfl) (fun _ _ _ h => h) (.inl ⟨by rfl, fun _ _ => by rfl⟩) (hHeld) ?_
  simp only [Act.put, List.setIfInBounds_toArray, List.set_cons_zero, List.set_cons_succ]
  refine held_takeD 12 (.pointer (some ⟨bw, 0, none⟩)) (some 105) (by rfl) (by rfl) (by kernel_rfl) (by kernel_rfl) (by kernel_rfl) (fun _ _ _ h => h) (.inl ⟨by rfl, fun _ _ => by go_simp⟩) (hHeld) ?_
  simp only [Act.put, List.setIfInBounds_toArray, List.set_cons_zero, List.set_cons_succ]
  refine held_takeD 13 (.pointer (some ⟨bw, 59, none⟩)) (some 106) (by rfl) (by rfl) (by kernel_rfl) (by kernel_rfl) (by kernel_rfl) (fun _ _ _ h => h) (.inl ⟨by rfl, fun _ _ => by go_simp⟩) (hHeld) ?_
  simp only [Act.put, List.setIfInBounds_toArray, List.set_cons_zero, List.set_cons_succ]
  refine held_takeD 14 (.pointer (some ⟨bw, 59, none⟩)) (some 107) (by rfl) (by rfl) (by kernel_rfl) (by kernel_rfl) (by kernel_rfl) (fun _ _ _ h => h) (.inl ⟨by rfl, fun _ _ => by go_simp⟩) (hHeld) ?_
  simp only [Act.put, List.setIfInBounds_toArray, List.set_cons_zero, List.set_cons_succ]
  refine held_takeD 15 (.agg (bv cb).toArray) (some 108) (by rfl) (by rfl) (by kernel_rfl) (by kernel_rfl) (by kernel_rfl) (fun _ _ _ h => h) (yieldsIf_load_mid (by rfl) _ _ rfl _ _ rfl _ _ (fun wz hS => hS) hu rfl hszc) (hHeld) ?_
  simp only [Act.put, List.setIfInBounds_toArray, List.set_cons_zero, List.set_cons_succ]
  refine held_takeD 18 (.slice A12 k12 c12) (some 111) (by rfl) (by rfl) (by kernel_rfl) (by kernel_rfl) (by kernel_rfl) (fun _ _ _ h => h) (.inl ⟨by rfl, fun _ _ => by rfl⟩) (hHeld) ?_
  simp only [Act.put, List.setIfInBounds_toArray, List.set_cons_zero, List.set_cons_succ]
  refine held_one 16 (by kernel_rfl) (by rfl) (fun K' hK' => ?_)
  go_simp
  refine (unhide HAC13).mono ?_
  rintro e w14 ⟨rx, rfl, hrx, b14⟩
  refine hK'.out _ _ (unhide HRG13 _ _ _ ((unhide HS13).kept (d13x.trans (b14.mono d13x.size)))) ?_
  clear hK' K'
  have d14 := d13x.trans (b14.mono d13x.size)
  have hR14 := unhide HRG13 _ _ _ ((unhide HS13).kept d14)
  obtain ⟨E1, p1, r1, E2, p2, r2, E3, p3, r3, E4, p4, r4, u20, u21, u22, u23, y1, y2, y3, y4⟩ := hrx.cells
  have hfld := run_field_slice fldBal Sakg.underlying54 rx _ u21
  have hxB := ((unhide HG9).lookB cb).2
  have hxP := (unhide HG9).bal cb
  have NB14 := hide y2.now
  clear hrx u20 u21 u22 u23 y1 y2 y3 y4
  refine held_takeD 17 (.slice E2 p2 r2) (some 110) (by rfl) (by rfl) (by kernel_rfl) (by kernel_rfl) (by kernel_rfl) (fun _ _ _ h => h) (.inl ⟨by rfl, fun _ _ => by go_simp⟩) (hR14) ?_
  simp only [Act.put, List.setIfInBounds_toArray, List.set_cons_zero, List.set_cons_succ]
  refine held_one 19 (by kernel_rfl) (by rfl) (fun K' hK' => ?_)
  go_simp
  refine ((unhide NB14).add ((unhide NF13).kp (ChgS.of d14)).now hxB (by omega)).mono ?_
  rintro e w15 ⟨A15, k15, c15, rfl, n15, N15, b15⟩
  refine hK'.out _ _ (unhide HRG13 _ _ _ ((unhide HS13).kept (d14.trans (b15.mono d14.size)))) ?_
  clear hK' K'
  have d15 := d14.trans (b15.mono d14.size)
  have HSB15 := hide (((unhide HS13).kept d15).cw.setBalance (unhide HG9) cb hcb A15 k15 c15 ((lookY d9.accts cb).bal + fv) (KNat.new n15 (N15.later d14.size) (unhide HS13).cw.ther) (by omega))
  clear hfld n15
  refine held_one 20 (by kernel_rfl) (by rfl) (fun K' hK' => ?_)
  go_simp
  refine (unhide HSB15).mono ?_
  rintro e w16 ⟨rfl, hw16⟩
  obtain ⟨cs16, hse16, hmv16, h816, hch16⟩ := ((unhide HS13).kept d15).world hw16
  refine hK'.out _ _ (unhide HRG13 _ _ _ hse16) ?_
  clear hK' K'
  refine wpAnyH_done (by kernel_rfl) ?_ _
  refine NoPanic.normal ?_
  obtain ⟨d16, hd16⟩ : ∃ d16, d16 = { d9 with accts := balY d9.accts cb ((lookY d9.accts cb).bal + fv) } := ⟨_, rfl⟩
  rw [← hd16] at hse16
  have hnl16 : d16.logs = d.logs := by rw [hd16, hd9L]
  have hg16 : Good (B + bk + fv) d16 := by rw [hd16]; exact Good.bal' (unhide HG9).snd hcb (by omega) hPB13 (by omega)
  have hwt16 := wt_bal (unhide HG9).snd hcb ((lookY d9.accts cb).bal + fv)
  rw [← hd16] at hwt16
  have hgn16 : d16.gone = d.gone := by rw [hd16]; exact hgn9
  have hsz16 : szA d16.accts ≤ szA d.accts + 2 := by have h1 := hwt16.2; have h2 : d16.accts = balY d9.accts cb ((lookY d9.accts cb).bal + fv) := by { rw [hd16] }; rw [← h2] at h1; omega
  have hgo16 : wt d16 ≤ 2250000000 := by omega
  have cW16 : Chg bw W w16 := cW13.trans ((Chg.of d15).trans hch16)
  have NU16 := hide ((unhide NU13).kp ((Mv.of (G := G) d15).trans hmv16).chg)
  obtain ⟨Ar, kr, cr, h10, n10⟩ := hse16.xs.ret
  obtain ⟨Al, ll, cl, h4, n4⟩ := hse16.logs
  obtain ⟨stt, hstt⟩ : ∃ stt, stt = x.status := ⟨_, rfl⟩
  have d16x : Below w16.heap.size w16 w16.drew := Quiet.below ⟨1, rfl⟩ _
  have hS16 : ∀ wz, Below w16.heap.size w16 wz → wz.cell? ⟨bw, 12, none⟩ = some (.int .u8 stt) ∧ wz.cell? ⟨bw, 10, none⟩ = some (.slice Ar kr cr) ∧ wz.cell? ⟨bw, 4, none⟩ = some (.slice Al ll cl) := fun wz hz => ⟨by rw [hstt]; exact (hse16.cw.kept hz).cell hse16.xs.status, (hse16.cw.kept hz).cell h10, (hse16.cw.kept hz).cell h4⟩
  have HS16c := hide hS16
  have hkr : kr ≤ 140737488355328 := by have h1 := n10.now.len_eq; have h2 := (unhide HX).ret; have h3 : x.ret.length = kr := h1; omega
  have hRT : ∀ wz, Below w16.heap.size w16 wz → Src wz Ar kr cr x.ret := fun wz hz => (n10.kp (ChgS.of hz)).now
  have hnll : ll ≤ 900000 := by rw [← n4.len]; exact hg16.nl
  have hLG : ∀ wz, Below w16.heap.size w16 wz → Calls Sakg.prog 126 #[.slice Al ll cl] wz fun e w' => (∃ A, e = .returned (.slice A ll ll) ∧ KLogs G w' A ll ll d16.logs) ∧ Below wz.heap.size wz w' := fun wz hz =>
    logsOf_rows G G Al ll cl d16.logs wz (hse16.cw.ther.go hz.size) ((n4.go (Mv.of hz)).rows hnll) (by omega) (fun m hm => ⟨by have := (hg16.logs m hm).1; omega, (hg16.logs m hm).2⟩)
  have HRT := hide hRT
  have HLG := hide hLG
  have HS16 := hide hse16
  have HG16 := hide hg16
  have HSTT := hide hstt
  have hbl16 := hse16.cw.lt
  have hWl16 := cW16.size
  have hWl := (unhide HR0).lt
  have hwlW : w.heap.size < w16.heap.size := by omega
  clear hse16 hg16 hS16 hRT hLG n10 n4 h10 h4 hd16 hw16 h816 hch16 hmv16 hstt NB14 HAC13 HRG13 HS13 HSB15 NU13 NF13 HG9 hR14
  as_aux_lemma =>
  go_upto_region 11 with fail
  go_cut [8] (fun s8 wc => ∃ (gR : Nat) (A L : Option Addr) (k l : Nat), s8 = .pointer (some ⟨gR, 0, none⟩) ∧ w16.heap.size ≤ gR ∧ RowT 48 wc gR (rcptG stt (.slice A k k) (.slice L l l) 0 (zeros 20)) ∧ Below w16.heap.size w16 wc)
  case first =>
    as_aux_lemma =>
    refine wp_region_noPanic ?_
    refine wp_region_held_drew (S := fun w' => Below w16.heap.size w16 w') (by kernel_rfl) (d16x) (fun hHeld => ?_)
    refine held_takeD 0 (.pointer (some ⟨bw, 0, none⟩)) (some 114) (by rfl) (by rfl) (by kernel_rfl) (by kernel_rfl) (by kernel_rfl) (fun _ _ _ h => h) (.inl ⟨by rfl, fun _ _ => by rfl⟩) (hHeld) ?_
    simp only [Act.put, List.setIfInBounds_toArray, List.set_cons_zero, List.set_cons_succ]
    refine held_takeD 1 (.pointer (some ⟨bw, 0, none⟩)) (some 115) (by rfl) (by rfl) (by kernel_rfl) (by kernel_rfl) (by kernel_rfl) (fun _ _ _ h => h) (.inl ⟨by rfl, fun _ _ => by go_simp⟩) (hHeld) ?_
    simp only [Act.put, List.setIfInBounds_toArray, List.set_cons_zero, List.set_cons_succ]
    refine held_takeD 2 (.pointer (some ⟨bw, 12, none⟩)) (some 116) (by rfl) (by rfl) (by kernel_rfl) (by kernel_rfl) (by kernel_rfl) (fun _ _ _ h => h) (.inl ⟨by rfl, fun _ _ => by go_simp⟩) (hHeld) ?_
    simp only [Act.put, List.setIfInBounds_toArray, List.set_cons_zero, List.set_cons_succ]
    refine held_takeD 3 (.int .u8 stt) (some 117) (by rfl) (by rfl) (by kernel_rfl) (by kernel_rfl) (by kernel_rfl) (fun _ _ _ h => h) (.inl ⟨by rfl, fun wS hS => by have hc := (unhide HS16c wS hS).1; go_simp⟩) (hHeld) ?_
    simp only [Act.put, List.setIfInBounds_toArray, List.set_cons_zero, List.set_cons_succ]
    refine held_takeD 4 (.pointer (some ⟨bw, 0, none⟩)) (some 118) (by rfl) (by rfl) (by kernel_rfl) (by kernel_rfl) (by kernel_rfl) (fun _ _ _ h => h) (.inl ⟨by rfl, fun _ _ => by rfl⟩) (hHeld) ?_
    simp only [Act.put, List.setIfInBounds_toArray, List.set_cons_zero, List.set_cons_succ]
    refine held_takeD 5 (.pointer (some ⟨bw, 0, none⟩)) (some 119) (by rfl) (by rfl) (by kernel_rfl) (by kernel_rfl) (by kernel_rfl) (fun _ _ _ h => h) (.inl ⟨by rfl, fun _ _ => by go_simp⟩) (hHeld) ?_
    simp only [Act.put, List.setIfInBounds_toArray, List.set_cons_zero, List.set_cons_succ]
    refine held_takeD 6 (.pointer (some ⟨bw, 10, none⟩)) (some 120) (by rfl) (by rfl) (by kernel_rfl) (by kernel_rfl) (by kernel_rfl) (fun _ _ _ h => h) (.inl ⟨by rfl, fun _ _ => by go_simp⟩) (hHeld) ?_
    simp only [Act.put, List.setIfInBounds_toArray, List.set_cons_zero, List.set_cons_succ]
    refine held_takeD 7 (.slice Ar kr cr) (some 121) (by rfl) (by rfl) (by kernel_rfl) (by kernel_rfl) (by kernel_rfl) (fun _ _ _ h => h) (.inl ⟨by rfl, fun wS hS => by have hc := (unhide HS16c wS hS).2.1; go_simp⟩) (hHeld) ?_
    simp only [Act.put, List.setIfInBounds_toArray, List.set_cons_zero, List.set_cons_succ]
    refine held_takeD 9 (.pointer (some ⟨bw, 0, none⟩)) (some 123) (by rfl) (by rfl) (by kernel_rfl) (by kernel_rfl) (by kernel_rfl) (fun _ _ _ h => h) (.inl ⟨by rfl, fun _ _ => by rfl⟩) (hHeld) ?_
    simp only [Act.put, List.setIfInBounds_toArray, List.set_cons_zero, List.set_cons_succ]
    refine held_takeD 10 (.pointer (some ⟨bw, 0, none⟩)) (some 124) (by rfl) (by rfl) (by kernel_rfl) (by kernel_rfl) (by kernel_rfl) (fun _ _ _ h => h) (.inl ⟨by rfl, fun _ _ => by go_simp⟩) (hHeld) ?_
    simp only [Act.put, List.setIfInBounds_toArray, List.set_cons_zero, List.set_cons_succ]
    refine held_takeD 11 (.pointer (some ⟨bw, 0, none⟩)) (some 125) (by rfl) (by rfl) (by kernel_rfl) (by kernel_rfl) (by kernel_rfl) (fun _ _ _ h => h) (.inl ⟨by rfl, fun _ _ => by go_simp⟩) (hHeld) ?_
    simp only [Act.put, List.setIfInBounds_toArray, List.set_cons_zero, List.set_cons_succ]
    refine held_takeD 12 (.pointer (some ⟨bw, 4, none⟩)) (some 126) (by rfl) (by rfl) (by kernel_rfl) (by kernel_rfl) (by kernel_rfl) (fun _ _ _ h => h) (.inl ⟨by rfl, fun _ _ => by go_simp⟩) (hHeld) ?_
    simp only [Act.put, List.setIfInBounds_toArray, List.set_cons_zero, List.set_cons_succ]
    refine held_takeD 13 (.slice Al ll cl) (some 127) (by rfl) (by rfl) (by kernel_rfl) (by kernel_rfl) (by kernel_rfl) (fun _ _ _ h => h) (.inl ⟨by rfl, fun wS hS => by have hc := (unhide HS16c wS hS).2.2; go_simp⟩) (hHeld) ?_
    simp only [Act.put, List.setIfInBounds_toArray, List.set_cons_zero, List.set_cons_succ]
    refine held_two 8 16 (by kernel_rfl) (by rfl) (by rfl) (fun K' hK' => ?_) (fun K' hK' => ?_)
    · go_simp
      refine (bytesOf_any Ar kr cr x.ret w16.drew (unhide HRT _ d16x) hkr).mono ?_
      rintro e wa ⟨Ab, kb, rfl, na1, -, Na, ba⟩
      have da := d16x.trans (ba.mono d16x.size)
      refine hK'.out _ _ (da) ?_
      clear hK' K'
      refine held_two 14 16 (by kernel_rfl) (by rfl) (by rfl) (fun K' hK' => ?_) (fun K' hK' => ?_)
      · go_simp
        refine (unhide HLG _ da).mono ?_
        rintro e wb ⟨⟨Lb, rfl, nlb⟩, bb⟩
        have db := da.trans (bb.mono da.size)
        refine hK'.out _ _ (db) ?_
        clear hK' K'
        refine held_takeD 15 (.agg (rcptG stt (.slice Ab kb kb) (.slice Lb ll ll) 0 (zeros 20)).toArray) (some 129) (by rfl) (by rfl) (by kernel_rfl) (by kernel_rfl) (by kernel_rfl) (fun _ _ _ h => h) (yieldsIf_build (by rfl) 48 [(1, .tmp 117), (3, .tmp 122), (4, .tmp 128)] rfl _ (fun wx => run_rcptG wx stt Ab Lb kb kb ll ll)) db ?_
        simp only [Act.put, List.setIfInBounds_toArray, List.set_cons_zero, List.set_cons_succ]
        refine held_one 16 (by kernel_rfl) (by rfl) (fun K' hK' => ?_)
        refine if_alloc (some 8) rfl 48 rfl (by rfl) _ 25 infoRcpt hzl (fun wR rR bR sR => ?_)
        have dR := db.trans (bR.mono db.size)
        refine hK'.out _ _ (dR) ?_
        clear hK' K'
        simp only [Act.put, List.setIfInBounds_toArray, List.set_cons_zero, List.set_cons_succ]
        refine held_one 17 (by kernel_rfl) (by rfl) (fun K' hK' => ?_)
        refine if_store rfl (by rfl) 48 (.tmp 8) (.tmp 129) rfl wb.heap.size 0 48 _ (rcptG stt (.slice Ab kb kb) (.slice Lb ll ll) 0 (zeros 20)) rfl rfl rR (Nat.le_refl 25) sizeRcpt (rcptG_one stt Ab Lb kb kb ll ll 0 (zeros 20)) (fun wS rS oS => ?_)
        have dS : Below w16.heap.size w16 wS := dR.trans (oS.below _ (db.size))
        refine hK'.out _ _ (dS) ?_
        clear hK' K'
        refine wpAnyH_done (by kernel_rfl) ?_ _
        refine NoPanic.normal ?_
        rw [spl_all (rcptRow 0 nilS 0 (zeros 20)) (rcptG stt (.slice Ab kb kb) (.slice Lb ll ll) 0 (zeros 20)) rfl] at rS
        have zd : w16.drew.heap.size = w16.heap.size := rfl
        go_wp2_with fail
        go_meet
        case rel => exact ⟨wb.heap.size, Ab, Lb, kb, ll, rfl, db.size, rS, dS⟩
      · refine if_alloc (some 8) rfl 48 rfl (by rfl) _ 25 infoRcpt hzl (fun wR rR bR sR => ?_)
        have dR := da.trans (bR.mono da.size)
        refine hK'.out _ _ (dR) ?_
        clear hK' K'
        simp only [Act.put, List.setIfInBounds_toArray, List.set_cons_zero, List.set_cons_succ]
        refine held_one 14 (by kernel_rfl) (by rfl) (fun K' hK' => ?_)
        go_simp
        refine (unhide HLG _ dR).mono ?_
        rintro e wb ⟨⟨Lb, rfl, nlb⟩, bb⟩
        have db := dR.trans (bb.mono dR.size)
        refine hK'.out _ _ (db) ?_
        clear hK' K'
        refine held_takeD 15 (.agg (rcptG stt (.slice Ab kb kb) (.slice Lb ll ll) 0 (zeros 20)).toArray) (some 129) (by rfl) (by rfl) (by kernel_rfl) (by kernel_rfl) (by kernel_rfl) (fun _ _ _ h => h) (yieldsIf_build (by rfl) 48 [(1, .tmp 117), (3, .tmp 122), (4, .tmp 128)] rfl _ (fun wx => run_rcptG wx stt Ab Lb kb kb ll ll)) db ?_
        simp only [Act.put, List.setIfInBounds_toArray, List.set_cons_zero, List.set_cons_succ]
        refine held_one 17 (by kernel_rfl) (by rfl) (fun K' hK' => ?_)
        refine if_store rfl (by rfl) 48 (.tmp 8) (.tmp 129) rfl wa.heap.size 0 48 _ (rcptG stt (.slice Ab kb kb) (.slice Lb ll ll) 0 (zeros 20)) rfl rfl (rR.kept bb) (Nat.le_refl 25) sizeRcpt (rcptG_one stt Ab Lb kb kb ll ll 0 (zeros 20)) (fun wS rS oS => ?_)
        have dS : Below w16.heap.size w16 wS := db.trans (oS.below _ (da.size))
        refine hK'.out _ _ (dS) ?_
        clear hK' K'
        refine wpAnyH_done (by kernel_rfl) ?_ _
        refine NoPanic.normal ?_
        rw [spl_all (rcptRow 0 nilS 0 (zeros 20)) (rcptG stt (.slice Ab kb kb) (.slice Lb ll ll) 0 (zeros 20)) rfl] at rS
        have zd : w16.drew.heap.size = w16.heap.size := rfl
        go_wp2_with fail
        go_meet
        case rel => exact ⟨wa.heap.size, Ab, Lb, kb, ll, rfl, da.size, rS, dS⟩
    · refine if_alloc (some 8) rfl 48 rfl (by rfl) _ 25 infoRcpt hzl (fun wR rR bR sR => ?_)
      have dR := d16x.trans (bR.mono d16x.size)
      refine hK'.out _ _ (dR) ?_
      clear hK' K'
      simp only [Act.put, List.setIfInBounds_toArray, List.set_cons_zero, List.set_cons_succ]
      refine held_one 8 (by kernel_rfl) (by rfl) (fun K' hK' => ?_)
      go_simp
      refine (bytesOf_any Ar kr cr x.ret wR (unhide HRT _ dR) hkr).mono ?_
      rintro e wa ⟨Ab, kb, rfl, na1, -, Na, ba⟩
      have da := dR.trans (ba.mono dR.size)
      refine hK'.out _ _ (da) ?_
      clear hK' K'
      refine held_one 14 (by kernel_rfl) (by rfl) (fun K' hK' => ?_)
      go_simp
      refine (unhide HLG _ da).mono ?_
      rintro e wb ⟨⟨Lb, rfl, nlb⟩, bb⟩
      have db := da.trans (bb.mono da.size)
      refine hK'.out _ _ (db) ?_
      clear hK' K'
      refine held_takeD 15 (.agg (rcptG stt (.slice Ab kb kb) (.slice Lb ll ll) 0 (zeros 20)).toArray) (some 129) (by rfl) (by rfl) (by kernel_rfl) (by kernel_rfl) (by kernel_rfl) (fun _ _ _ h => h) (yieldsIf_build (by rfl) 48 [(1, .tmp 117), (3, .tmp 122), (4, .tmp 128)] rfl _ (fun wx => run_rcptG wx stt Ab Lb kb kb ll ll)) db ?_
      simp only [Act.put, List.setIfInBounds_toArray, List.set_cons_zero, List.set_cons_succ]
      refine held_one 17 (by kernel_rfl) (by rfl) (fun K' hK' => ?_)
      refine if_store rfl (by rfl) 48 (.tmp 8) (.tmp 129) rfl w16.heap.size 0 48 _ (rcptG stt (.slice Ab kb kb) (.slice Lb ll ll) 0 (zeros 20)) rfl rfl (rR.kept (ba.trans (bb.mono ba.size))) (Nat.le_refl 25) sizeRcpt (rcptG_one stt Ab Lb kb kb ll ll 0 (zeros 20)) (fun wS rS oS => ?_)
      have dS : Below w16.heap.size w16 wS := db.trans (oS.below _ (Nat.le_refl _))
      refine hK'.out _ _ (dS) ?_
      clear hK' K'
      refine wpAnyH_done (by kernel_rfl) ?_ _
      refine NoPanic.normal ?_
      rw [spl_all (rcptRow 0 nilS 0 (zeros 20)) (rcptG stt (.slice Ab kb kb) (.slice Lb ll ll) 0 (zeros 20)) rfl] at rS
      have zd : w16.drew.heap.size = w16.heap.size := rfl
      go_wp2_with fail
      go_meet
      case rel => exact ⟨w16.heap.size, Ab, Lb, kb, ll, rfl, Nat.le_refl _, rS, dS⟩
  case rest =>
  as_aux_lemma =>
  obtain ⟨w17, hw17⟩ : ∃ w17, w17 = wc := ⟨_, rfl⟩
  subst hw17
  obtain ⟨gR, Ab, Lb, kb, lb, rfl, hgR, r17, b17⟩ := hcut
  have hu64 : u64N us = us := by unfold u64N; rw [if_pos (by omega)]
  have HSM := hide (small_any A4 k4 c4 us w17 ((unhide NU16).kp (ChgS.of b17)).now (by omega))
  rw [hu64] at HSM
  have x172 : w17.cell? ⟨gR, 2, none⟩ = some (.int .u64 0) := by rw [r17.cell]; rfl
  have f172 := r17.froz 2
  have R17 := hide r17
  have hgRl := r17.lt
  have hgRbw : gR ≠ bw := by omega
  clear r17 hu64
  go_upto_region 13 with (go_at_call 55; refine (unhide HSM).mono ?_; rintro e w' ⟨rfl, rfl⟩)
  obtain ⟨w18, hw18⟩ : ∃ y, y = w17.setCell ⟨gR, 2, none⟩ (.int .u64 us) := ⟨_, rfl⟩
  rw [← hw18]
  have o18 : Only gR w17 w18 := hw18 ▸ (Only.refl gR w17).setCell 2 _
  have r18 : RowT 48 w18 gR (rcptG stt (.slice Ab kb kb) (.slice Lb lb lb) us (zeros 20)) := hw18 ▸ (unhide R17).set 2 _
  have b18 : Below w16.heap.size w16 w18 := b17.trans (o18.below _ hgR)
  have hse18 := (unhide HS16).kept b18
  have e1812 : w18.cell? ⟨bw, 12, none⟩ = some (.int .u8 stt) := by rw [unhide HSTT]; exact hse18.cw.cell hse18.xs.status
  have hmd := (unhide HX).made
  obtain ⟨mad, hmade⟩ : ∃ mad, mad = x.made := ⟨_, rfl⟩
  have hrm : w18.rangeAt bw 39 (bv mad) := by rw [hmade]; exact row_range hse18.cw.row (by rw [bv_len, hmd.len]) hse18.xs.made
  rw [← hmade] at hmd
  have HRM := hide hrm
  have R18 := hide r18
  have hszm := hmd.size
  have hu := Sakg.underlying26
  have hle18 : 5 + (bv mad).length ≤ (rcptG stt (.slice Ab kb kb) (.slice Lb lb lb) us (zeros 20)).length := by rw [bv_len, hmd.len, rcptG_len _ _ _ _ _ (by rw [zeros_len])]; omega
  clear hw18 x172 f172 hrm r18 hse18 R17 HSM hmade
  go_upto_if 137 with fail
  go_cut [8] (fun s8 wc => s8 = .pointer (some ⟨gR, 0, none⟩) ∧ ∃ m, IsAddr m ∧ RowT 48 wc gR (rcptG stt (.slice Ab kb kb) (.slice Lb lb lb) us m) ∧ Below w16.heap.size w16 wc)
  case first =>
    as_aux_lemma =>
    by_cases hs0 : stt = 0
    · subst hs0
      have t0 : ((0 : Int) == 0) = true := rfl
      go_wp2_with (first
        | ((with_reducible refine at_load 26 ?_); refine wpList_load_g (by rfl) 26 (.tmp 140) rfl bw 39 rfl (bv mad) _ (unhide HRM) hu rfl hszm ?_)
        | ((with_reducible refine at_store 26 ?_); refine wpList_store_part rfl 26 (.tmp 142) (.tmp 141) rfl gR 5 48 (rcptG 0 (.slice Ab kb kb) (.slice Lb lb lb) us (zeros 20)) (bv mad) rfl rfl (unhide R18) hle18 hszm (bv_one _) ?_; intro w19 hr19 ho19))
      have r19 : RowT 48 w19 gR (rcptG 0 (.slice Ab kb kb) (.slice Lb lb lb) us mad) := by
        have e : spl (rcptG 0 (.slice Ab kb kb) (.slice Lb lb lb) us (zeros 20)) 5 (bv mad) = rcptG 0 (.slice Ab kb kb) (.slice Lb lb lb) us mad := by
          unfold spl rcptG
          rw [List.drop_of_length_le (by simp [bv_len, zeros_len, hmd.len])]
          simp
        rwa [e] at hr19
      have b19 : Below w16.heap.size w16 w19 := b18.trans (ho19.below _ hgR)
      have R19 := hide r19
      clear r19 hr19
      go_meet
      case rel => exact ⟨rfl, mad, hmd, unhide R19, b19⟩
    · have t0 : ((stt : Int) == 0) = false := by rw [beq_eq_false_iff_ne]; omega
      go_wp2_with fail
      go_meet
      case rel => exact ⟨rfl, zeros 20, zeros_adr, unhide R18, b18⟩
  case rest =>
  as_aux_lemma =>
  obtain ⟨w19, hw19⟩ : ∃ w19, w19 = wc := ⟨_, rfl⟩
  subst hw19
  obtain ⟨rfl, m, hmA, r19, b19⟩ := hcut
  have hse19 := (unhide HS16).kept b19
  have HGO := hide (hse19.cw.goes (unhide HG16).snd hgo16)
  have HS19 := hide hse19
  have R19 := hide r19
  have huS := Sakg.underlying105
  have huE := Sakg.underlying64
  clear hse19 r19 R18 HRM e1812
  go_upto_region 16 with (go_at_call 127; refine (unhide HGO).mono ?_; rintro e w20 ⟨rfl, ds, hgd, hszd, hwp⟩)
  obtain ⟨cs20, hse20, hmv20, h820, hch20⟩ := (unhide HS19).world hwp
  have hl20 := hse20.cw.len
  have R20 := hide (hch20.row (unhide R19) hgRbw)
  have c1620 : Chg bw w16 w20 := (Chg.of b19).trans hch20
  have hone20 := chain_one hl20 hse20.cw.kw hse20.xs ⟨_, hse20.frames, rfl⟩ ⟨_, hse20.phase, rfl⟩
  have hszS : (Sakg.prog.info? 105).map (·.size) = some cs20.length := by rw [hl20]; exact sizeYState
  have hz179 : zeroC.length = cs20.length := by rw [zeroC_len, hl20]
  obtain ⟨A0, l0, c0, h00, hk0⟩ := hse20.cw.kw.accts
  obtain ⟨At', kt', ct', h18, n18⟩ := hse20.xs.total
  obtain ⟨env, henv⟩ : ∃ env, env = (cs20.drop 59).take 120 := ⟨_, rfl⟩
  have henvl : env.length = 120 := by rw [henv, List.length_take, List.length_drop, hl20]; rfl
  have henvo : ∀ v ∈ env, v.oneCell' = true := fun v hv => hone20 v (List.mem_of_mem_drop (List.mem_of_mem_take (henv ▸ hv)))
  have henvg : ∀ i, i < 120 → env[i]? = cs20[59 + i]? := fun i hi => by rw [henv, List.getElem?_take, if_pos hi, List.getElem?_drop]
  have hszE : (Sakg.prog.info? 64).map (·.size) = some env.length := by rw [henvl]; exact sizeEnv
  have HRC20 := hide hse20.cw.row.rangeAll
  have CR20 := hide hse20.cw.row
  have H00 := hide h00
  have H18 := hide h18
  have HK0 := hide hk0
  have N18 := hide n18
  have HENV := hide henv
  have HENVG := hide henvg
  have HONE20 := hide hone20
  have HS20 := hide hse20
  have h2013 : cs20[13]? = some (.int .u8 x.applied) := hse20.xs.applied
  have H2013 := hide h2013
  obtain ⟨ap, hap⟩ : ∃ ap, ap = x.applied := ⟨_, rfl⟩
  rw [← hap] at H2013
  have HAP := hide hap
  clear hse20 h00 h18 hk0 n18 henv henvg hone20 h2013 hap HGO hwp hmv20 h820 R19
  as_aux_lemma =>
  go_upto_region 17 with (first
    | ((with_reducible refine at_load 105 ?_); refine wpList_load_g (by rfl) 105 (.tmp 148) rfl bw 0 rfl cs20 _ (unhide HRC20) huS rfl hszS ?_)
    | ((with_reducible refine at_alloc 105 ?_); refine wpList_alloc_g (by rfl) 105 rfl zeroC 179 infoYState zeroC_len ?_)
    | ((with_reducible refine at_store 105 ?_); refine wpList_store_whole rfl 105 (.tmp 9) (.tmp 149) rfl _ _ _ cs20 rfl rfl (RowT.new _ _ _) hz179 hszS (unhide HONE20) ?_; intro w21 hr21 hon21; have hbb21 := box_below hon21; clear hon21))
  have b21 := hbb21.1
  have hgb : w20.heap.size < w21.heap.size := hr21.lt
  have x210 : w21.cell? ⟨w20.heap.size, 0, none⟩ = some (.slice A0 l0 c0) := by rw [hr21.cell]; exact unhide H00
  have x2113 : w21.cell? ⟨w20.heap.size, 13, none⟩ = some (.int .u8 ap) := by rw [hr21.cell]; exact unhide H2013
  have x2118 : w21.cell? ⟨w20.heap.size, 18, none⟩ = some (.slice At' kt' ct') := by rw [hr21.cell]; exact unhide H18
  have hre : w21.rangeAt w20.heap.size 59 env := by
    have h1 := hr21.range 59 120
    rwa [← unhide HENV] at h1
  have HRE := hide hre
  have CR21 := hide ((unhide CR20).kept b21)
  have R21 := hide ((unhide R20).kept b21)
  have c1621 : Chg bw w16 w21 := c1620.trans (Chg.of b21)
  have hel := endRow_len A0 l0 c0 ap At' kt' ct' env henvl
  have heo := endRow_one A0 l0 c0 ap At' kt' ct' env henvo
  have hes : (Sakg.prog.info? 105).map (·.size) = some (endRow A0 l0 c0 ap At' kt' ct' env).length := by rw [hel]; exact sizeYState
  have hel2 : cs20.length = (endRow A0 l0 c0 ap At' kt' ct' env).length := by rw [hel, hl20]
  have HRS := hide (fun wx => run_state wx A0 l0 c0 ap At' kt' ct' env henvl)
  clear hr21 hbb21 hre HRC20 CR20 R20
  as_aux_lemma =>
  go_upto_region 18 with (first
    | ((with_reducible refine at_build 101 ?_); refine wpList_build_run (by rfl) 101 [(0, .tmp 153)] rfl (.agg (accWorld (.slice A0 l0 c0)).toArray) (run_world _ A0 l0 c0) ?_)
    | ((with_reducible refine at_load 64 ?_); refine wpList_load_g (by rfl) 64 (.tmp 159) rfl w20.heap.size 59 rfl env _ (unhide HRE) huE rfl hszE ?_)
    | ((with_reducible refine at_build 105 ?_); refine wpList_build_run (by rfl) 105 [(0, .tmp 154), (6, .tmp 156), (11, .tmp 158), (14, .tmp 160)] rfl (.agg (endRow A0 l0 c0 ap At' kt' ct' env).toArray) (unhide HRS _) ?_)
    | ((with_reducible refine at_store 105 ?_); refine wpList_store_whole rfl 105 (.tmp 162) (.tmp 161) rfl bw 107 cs20 (endRow A0 l0 c0 ap At' kt' ct' env) rfl rfl (unhide CR21) hel2 hes heo ?_; intro w22 hr22 ho22))
  have r22 := (unhide R21).only ho22 hgRbw
  have c1622 : Chg bw w16 w22 := c1621.trans (Chg.ofOnly ho22)
  have cW22 : Chg bw W w22 := cW16.trans c1622
  have rr22 : RowT 48 w22 w.heap.size (rcptRow 0 nilS 0 (zeros 20)) := cW22.row (unhide HR0) (by omega)
  have hc2022 : ChgS G w20 w22 := (ChgS.of b21).trans (ChgS.only ho22 (unhide HS20).cw.g)
  have hsi22 : SI G bw 0 (endRow A0 l0 c0 ap At' kt' ct' env) (freshD ds) (idleX x tot) w22 := by
    have h1 := SI.made (bw := bw) (tot := tot) (unhide HS20).xs hc2022 ((unhide HS20).cw.ther.go hc2022.size) (unhide HS20).cw.g ((unhide HK0).go hc2022) ((unhide N18).kp hc2022) henvl (unhide HENVG) (by rw [unhide HAP] at hr22; exact hr22)
    rw [unhide HAP]
    exact h1
  have hszR : (Sakg.prog.info? 48).map (·.size) = some (rcptG stt (.slice Ab kb kb) (.slice Lb lb lb) us m).length := by rw [rcptG_len _ _ _ _ _ hmA.len]; exact sizeRcpt
  have HRR := hide rr22
  have HRG := hide r22.rangeAll
  have HSI := hide hsi22
  have huR := Sakg.underlying48
  have hlR : (rcptRow 0 nilS 0 (zeros 20)).length = (rcptG stt (.slice Ab kb kb) (.slice Lb lb lb) us m).length := by rw [rcptG_len _ _ _ _ _ hmA.len]; rfl
  clear hr22 r22 rr22 hsi22 x210 x2113 x2118 HRE HRS
  go_wp2_with (first
    | ((with_reducible refine at_load 48 ?_); refine wpList_load_g (by rfl) 48 (.tmp 8) rfl gR 0 rfl (rcptG stt (.slice Ab kb kb) (.slice Lb lb lb) us m) _ (unhide HRG) huR rfl hszR ?_)
    | ((with_reducible refine at_store 48 ?_); refine wpList_store_whole rfl 48 (.tmp 2) (.tmp 163) rfl w.heap.size 48 _ (rcptG stt (.slice Ab kb kb) (.slice Lb lb lb) us m) rfl rfl (unhide HRR) hlR hszR (rcptG_one stt Ab Lb kb kb lb lb us m) ?_; intro w23 hr23 ho23))
  refine bodyPost_ret (results_cell_row rfl _ _ _ _ _ _ _ rfl hr23 Sakg.underlying48 rfl (by simpa using hszR)) rfl ?_
  have hsi23 := (unhide HSI).off ho23 hEw (by omega)
  have hus2 : us = usedN x.limit x.left d.refund := by unfold usedN; rw [unhide HUS, unhide HUB]
  refine ⟨Ab, Lb, kb, lb, m, G, _, ds, tot, by rw [unhide HSTT, ← hus2], hmA, unhide HWID, hsi23, by rw [htot]; omega, ?_, by have := hszd; rw [hgn16] at this; omega, ((Chg.of hb0).trans cW22).onlyNew ho23 (Nat.le_refl _)⟩
  rw [← hus2, ← unhide HFE, ← unhide HFV, ← unhide HBK]
  exact hgd
end

end Go.Proofs.YgcsakGreat
