/-
  yp, exactly: effect at the copies and at SSTORE.
-/
import Derived.Test.YgcsakGreatKhE
import Derived.Test.YgcsakGreatXcC
import Derived.Test.YgcsakGreatXwA
namespace Go.Proofs.YgcsakGreat
set_option linter.unusedVariables false
set_option linter.unusedSimpArgs false
set_option maxRecDepth 100000
open Go.RowKit

def EffX (G : Nat → Prop) (bw gf : Nat) (fr : List Value) (fs : List FD) (x : XD) (P : WD → Prop) (w : World) (e : Ending) (w' : World) : Prop :=
  ∃ G' cs' d', e = .returned (.bool true) ∧ Wider G G' w ∧ SR G' bw gf cs' fr d' fs x w' ∧ P d' ∧ ChgS G w w' ∧ Tm w w'
section
variable {G : Nat → Prop} {bw gf : Nat} {cs fr : List Value} {d : WD} {f : FD} {r : List FD} {x : XD} {w : World} {B : Nat}
theorem EffX.mem {w1 w' : World} (h : SR G bw gf cs fr d (f :: r) x w) (b1 : Below w.heap.size w w1) (hm : Mv G w1 w') (hr : ∀ k T (cs : List Value), T ≠ 5 → RowT T w1 k cs → RowT T w' k cs) : EffX G bw gf fr (f :: r) x (fun d2 => d2 = d) w (.returned (.bool true)) w' :=
  ⟨G, cs, d, rfl, Wider.refl _ _, (h.kept b1).mem hm hr, rfl, (ChgS.of b1).trans hm.chg, (Tm.of b1).trans hm.tm⟩
set_option maxHeartbeats 16000000 in
theorem SR.storesX (h : SR G bw gf cs fr d (f :: r) x w) (hx : XB x) (hg : Good B d) (hf : AnyF f) (hwt : wt d + 40000 ≤ 2250000000) (hlive : Live d.accts f.self) (hcl : Clears d f x) (A : Option Addr) (k c m : Nat) (hA : KNat G w A k c m) (hm : m < P256) (Bv : Option Addr) (k2 c2 v : Nat) (hB : KNat G w Bv k2 c2 v) (hv : v < P256) :
    Calls Sakg.prog 311 #[.pointer (some ⟨bw, 0, none⟩), .pointer (some ⟨gf, 60 * r.length, none⟩), .slice A k c, .slice Bv k2 c2] w (EffX G bw gf fr (f :: r) x (fun d2 => ∃ ms, (∀ y, y ∈ ms ↔ y = (f.self, m) ∨ y ∈ d.warmS) ∧ Gr B d d2 32500 ∧ d2 = { d with refund := d.refund + 4800, warmS := ms, accts := stoY d.accts f.self m v }) w) := by
  have hBB := big_ge
  have hPB := p256_lt
  have hfx := h.fx
  have hrfB : d.refund < BIG := Nat.lt_of_lt_of_le hg.refund (big_pow 20 (by omega))
  have hrf : d.refund ≤ 2250000000 := by unfold wt at hwt; omega
  have hSS := h.sstoreX hx hg hf hcl
  obtain ⟨o, ho⟩ : ∃ o, o = 60 * r.length := ⟨_, rfl⟩
  rw [← ho] at hfx hSS ⊢
  have HO := hide ho
  have HSS := hide hSS
  have HSR := hide h
  have KA := hide hA
  have KB := hide hB
  obtain ⟨A3, k3, c3, g1, g2⟩ := h.cw.kw.refund
  have x3 : ∀ wz, Below w.heap.size w wz → wz.cell? ⟨bw, 3, none⟩ = some (.slice A3 k3 c3) ∧ IsNat wz A3 k3 c3 d.refund := fun wz hz => ⟨(h.cw.kept hz).cell g1, (g2.kp (ChgS.of hz)).now⟩
  have X3 := hide x3
  have hslf := hfx.kf.selfA
  have hu := Sakg.underlying26
  have hsz := hslf.size
  obtain ⟨sf, hsf⟩ : ∃ sf, sf = f.self := ⟨_, rfl⟩
  have HSF := hide hsf
  rw [← hsf] at hslf hsz hlive
  have HLV := hide hlive
  clear h hfx hx hf hSS ho hA hB g1 g2 x3 hsf hlive
  go_enter Sakg.func311, Sakg.ntmps311
  go_wp2_with fail
  refine (unhide HSS).mono ?_
  rintro e w1 ⟨A1, k1, c1, Ap, kp, cp, rfl, -, mp, -, Np, b1⟩
  obtain ⟨np, hnp⟩ : ∃ np, np = 4800 := ⟨_, rfl⟩
  have mm : IsNat w1 none 0 0 0 := IsNat.nil _
  rw [← hnp] at mp
  have lp : np ≤ 25000 := by omega
  have HNP := hide hnp
  clear hnp
  have MP := hide mp
  have y3 := (unhide X3 w1 b1).1
  have HSB := hide ((unhide X3 w1 b1).2.sub mm hrfB (by omega))
  clear mp mm HSS
  have hle : 0 ≤ d.refund := Nat.zero_le _
  rw [decide_eq_true hle] at HSB
  go_wp2_with fail
  refine (unhide HSB).mono ?_
  rintro e w2 ⟨A2, j2, e2, rfl, n2, N2, b2⟩
  have d2 : Below w.heap.size w w2 := b1.thn b2
  have HAD := hide (n2.add ((unhide MP).kept b2) (by omega) (by omega))
  clear n2 HSB y3
  go_wp2_with fail
  refine (unhide HAD).mono ?_
  rintro e w3 ⟨A4, j4, e4, rfl, n4, N4, b3⟩
  have d3 : Below w.heap.size w w3 := d2.thn b3
  have hsr3 := (unhide HSR).kept d3
  obtain ⟨hsr4, ho4⟩ := hsr3.refund (KNat.new n4 (N4.later d2.size) (unhide HSR).cw.ther)
  have hgr4 : Gr B d { d with refund := d.refund - 0 + np } 25000 := Gr.refund hg.snd (by omega)
  have hgood4 := hgr4.good (K := 2250000000) (by omega) (Nat.le_refl _)
  obtain ⟨v3, hx3⟩ := hsr3.cw.ex (i := 3) (by omega)
  have hf3 := hsr3.cw.row.froz 3
  have hmv4 : Mv G w (w3.setCell ⟨bw, 3, none⟩ (.slice A4 j4 e4)) := (Mv.of d3).trans (Mv.chain hsr3.cw.row hsr3.cw.g (Chg.ofOnly ho4))
  obtain ⟨w4, hw4⟩ : ∃ y, y = w3.setCell ⟨bw, 3, none⟩ (Value.slice A4 j4 e4) := ⟨_, rfl⟩
  rw [← hw4] at hsr4 ho4 hmv4
  have HSR4 := hide hsr4
  have HW4 := hide hw4
  have HMV4 := hide hmv4
  have HGR4 := hide hgr4
  have hrg4 : ∀ wz, Below w4.heap.size w4 wz → wz.rangeAt gf (o + 12) (bv sf) := fun wz hz => by rw [unhide HO, unhide HSF]; exact (hsr4.kept hz).fx.selfR
  have HRG4 := hide hrg4
  have d4 : Below w4.heap.size w4 w4.drew := Quiet.below ⟨1, rfl⟩ _
  have hKA4 := (unhide KA).kp (hmv4.chg.trans (ChgS.of d4))
  have KA4 := hide hKA4
  clear n4 hsr3 hsr4 ho4 hmv4 hgr4 hw4 hrg4 hKA4 HAD
  go_upto_region 6 with fail
  rw [← unhide HW4]
  refine wp_region_noPanic ?_
  refine wp_region_held_drew (S := fun w' => w'.rangeAt gf (o + 12) (bv sf)) (by kernel_rfl) (unhide HRG4 _ d4) (fun hHeld => ?_)
  refine held_takeD 0 (.pointer (some ⟨bw, 0, none⟩)) (some 40) (by rfl) (by rfl) (by kernel_rfl) (by kernel_rfl) (by kernel_rfl) (fun _ _ _ h => h) (.inl ⟨by rfl, fun _ _ => by rfl⟩) (hHeld) ?_
  simp only [Act.put, List.setIfInBounds_toArray, List.set_cons_zero, List.set_cons_succ]
  refine held_takeD 1 (.pointer (some ⟨bw, 0, none⟩)) (some 41) (by rfl) (by rfl) (by kernel_rfl) (by kernel_rfl) (by kernel_rfl) (fun _ _ _ h => h) (.inl ⟨by rfl, fun _ _ => by go_simp⟩) (hHeld) ?_
  simp only [Act.put, List.setIfInBounds_toArray, List.set_cons_zero, List.set_cons_succ]
  refine held_takeD 2 (.pointer (some ⟨bw, 0, none⟩)) (some 42) (by rfl) (by rfl) (by kernel_rfl) (by kernel_rfl) (by kernel_rfl) (fun _ _ _ h => h) (.inl ⟨by rfl, fun _ _ => by go_simp⟩) (hHeld) ?_
  simp only [Act.put, List.setIfInBounds_toArray, List.set_cons_zero, List.set_cons_succ]
  refine held_takeD 3 (.pointer (some ⟨gf, o, none⟩)) (some 43) (by rfl) (by rfl) (by kernel_rfl) (by kernel_rfl) (by kernel_rfl) (fun _ _ _ h => h) (.inl ⟨by rfl, fun _ _ => by rfl⟩) (hHeld) ?_
  simp only [Act.put, List.setIfInBounds_toArray, List.set_cons_zero, List.set_cons_succ]
  refine held_takeD 4 (.pointer (some ⟨gf, o, none⟩)) (some 44) (by rfl) (by rfl) (by kernel_rfl) (by kernel_rfl) (by kernel_rfl) (fun _ _ _ h => h) (.inl ⟨by rfl, fun _ _ => by go_simp⟩) (hHeld) ?_
  simp only [Act.put, List.setIfInBounds_toArray, List.set_cons_zero, List.set_cons_succ]
  refine held_takeD 5 (.pointer (some ⟨gf, o + 12, none⟩)) (some 45) (by rfl) (by rfl) (by kernel_rfl) (by kernel_rfl) (by kernel_rfl) (fun _ _ _ h => h) (.inl ⟨by rfl, fun _ _ => by go_simp⟩) (hHeld) ?_
  simp only [Act.put, List.setIfInBounds_toArray, List.set_cons_zero, List.set_cons_succ]
  refine held_takeD 6 (.agg (bv sf).toArray) (some 46) (by rfl) (by rfl) (by kernel_rfl) (by kernel_rfl) (by kernel_rfl) (fun _ _ _ h => h) (yieldsIf_load_mid (by rfl) _ _ rfl _ _ rfl _ _ (fun wz hS => hS) hu rfl hsz) (hHeld) ?_
  simp only [Act.put, List.setIfInBounds_toArray, List.set_cons_zero, List.set_cons_succ]
  refine held_takeD 7 (.slice A k c) (some 47) (by rfl) (by rfl) (by kernel_rfl) (by kernel_rfl) (by kernel_rfl) (fun _ _ _ h => h) (.inl ⟨by rfl, fun _ _ => by rfl⟩) (hHeld) ?_
  simp only [Act.put, List.setIfInBounds_toArray, List.set_cons_zero, List.set_cons_succ]
  refine held_one 8 (by kernel_rfl) (by rfl) (fun K' hK' => ?_)
  go_simp
  refine (((unhide HSR4).kept d4).cw.warmSlotX hgood4 sf hslf A k c m (unhide KA4) (by omega)).mono ?_
  rintro e w5 ⟨rfl, ms, hms, hmm, hwp⟩
  refine hK'.out _ _ ((((unhide HSR4).kept d4).world hwp).elim fun _ hh => (by rw [unhide HO, unhide HSF]; exact hh.1.fx.selfR)) ?_
  clear hK' K'
  refine wpAnyH_done (by kernel_rfl) ?_ _
  refine NoPanic.normal ?_
  obtain ⟨cs5, hsr5, hmv5, -, hch5⟩ := ((unhide HSR4).kept d4).world hwp
  have hgr5 : Gr B d { d with refund := d.refund - 0 + np, warmS := ms } 27500 := (unhide HGR4).trans (Gr.warmS hgood4.snd hms)
  have hgood5 := hgr5.good (K := 2250000000) (by omega) (Nat.le_refl _)
  have hmv : Mv G w w5 := (unhide HMV4).trans ((Mv.of d4).trans hmv5)
  have HSR5 := hide hsr5
  have HMM := hide hmm
  clear hmm
  have HGR5 := hide hgr5
  have HMV5 := hide hmv
  have hrg5 : ∀ wz, Below w5.heap.size w5 wz → wz.rangeAt gf (o + 12) (bv sf) := fun wz hz => by rw [unhide HO, unhide HSF]; exact (hsr5.kept hz).fx.selfR
  have HRG5 := hide hrg5
  have d5 : Below w5.heap.size w5 w5.drew := Quiet.below ⟨1, rfl⟩ _
  have KA5 := hide ((unhide KA).kp (hmv.chg.trans (ChgS.of d5)))
  have KB5 := hide ((unhide KB).kp (hmv.chg.trans (ChgS.of d5)))
  clear hwp hsr5 hgr5 hmv hmv5 hch5 hrg5
  go_upto_region 7 with fail
  refine wp_region_noPanic ?_
  refine wp_region_held_drew (S := fun w' => w'.rangeAt gf (o + 12) (bv sf)) (by kernel_rfl) (unhide HRG5 _ d5) (fun hHeld => ?_)
  refine held_takeD 0 (.pointer (some ⟨bw, 0, none⟩)) (some 49) (by rfl) (by rfl) (by kernel_rfl) (by kernel_rfl) (by kernel_rfl) (fun _ _ _ h => h) (.inl ⟨by rfl, fun _ _ => by rfl⟩) (hHeld) ?_
  simp only [Act.put, List.setIfInBounds_toArray, List.set_cons_zero, List.set_cons_succ]
  refine held_takeD 1 (.pointer (some ⟨bw, 0, none⟩)) (some 50) (by rfl) (by rfl) (by kernel_rfl) (by kernel_rfl) (by kernel_rfl) (fun _ _ _ h => h) (.inl ⟨by rfl, fun _ _ => by go_simp⟩) (hHeld) ?_
  simp only [Act.put, List.setIfInBounds_toArray, List.set_cons_zero, List.set_cons_succ]
  refine held_takeD 2 (.pointer (some ⟨bw, 0, none⟩)) (some 51) (by rfl) (by rfl) (by kernel_rfl) (by kernel_rfl) (by kernel_rfl) (fun _ _ _ h => h) (.inl ⟨by rfl, fun _ _ => by go_simp⟩) (hHeld) ?_
  simp only [Act.put, List.setIfInBounds_toArray, List.set_cons_zero, List.set_cons_succ]
  refine held_takeD 3 (.pointer (some ⟨gf, o, none⟩)) (some 52) (by rfl) (by rfl) (by kernel_rfl) (by kernel_rfl) (by kernel_rfl) (fun _ _ _ h => h) (.inl ⟨by rfl, fun _ _ => by rfl⟩) (hHeld) ?_
  simp only [Act.put, List.setIfInBounds_toArray, List.set_cons_zero, List.set_cons_succ]
  refine held_takeD 4 (.pointer (some ⟨gf, o, none⟩)) (some 53) (by rfl) (by rfl) (by kernel_rfl) (by kernel_rfl) (by kernel_rfl) (fun _ _ _ h => h) (.inl ⟨by rfl, fun _ _ => by go_simp⟩) (hHeld) ?_
  simp only [Act.put, List.setIfInBounds_toArray, List.set_cons_zero, List.set_cons_succ]
  refine held_takeD 5 (.pointer (some ⟨gf, o + 12, none⟩)) (some 54) (by rfl) (by rfl) (by kernel_rfl) (by kernel_rfl) (by kernel_rfl) (fun _ _ _ h => h) (.inl ⟨by rfl, fun _ _ => by go_simp⟩) (hHeld) ?_
  simp only [Act.put, List.setIfInBounds_toArray, List.set_cons_zero, List.set_cons_succ]
  refine held_takeD 6 (.agg (bv sf).toArray) (some 55) (by rfl) (by rfl) (by kernel_rfl) (by kernel_rfl) (by kernel_rfl) (fun _ _ _ h => h) (yieldsIf_load_mid (by rfl) _ _ rfl _ _ rfl _ _ (fun wz hS => hS) hu rfl hsz) (hHeld) ?_
  simp only [Act.put, List.setIfInBounds_toArray, List.set_cons_zero, List.set_cons_succ]
  refine held_takeD 7 (.slice A k c) (some 56) (by rfl) (by rfl) (by kernel_rfl) (by kernel_rfl) (by kernel_rfl) (fun _ _ _ h => h) (.inl ⟨by rfl, fun _ _ => by rfl⟩) (hHeld) ?_
  simp only [Act.put, List.setIfInBounds_toArray, List.set_cons_zero, List.set_cons_succ]
  refine held_takeD 8 (.slice Bv k2 c2) (some 57) (by rfl) (by rfl) (by kernel_rfl) (by kernel_rfl) (by kernel_rfl) (fun _ _ _ h => h) (.inl ⟨by rfl, fun _ _ => by rfl⟩) (hHeld) ?_
  simp only [Act.put, List.setIfInBounds_toArray, List.set_cons_zero, List.set_cons_succ]
  refine held_one 9 (by kernel_rfl) (by rfl) (fun K' hK' => ?_)
  go_simp
  refine (((unhide HSR5).kept d5).cw.store hgood5 sf hslf A k c m (unhide KA5) hm Bv k2 c2 v (unhide KB5) hv).mono ?_
  rintro e w6 ⟨rfl, hwp⟩
  refine hK'.out _ _ ((((unhide HSR5).kept d5).world hwp).elim fun _ hh => (by rw [unhide HO, unhide HSF]; exact hh.1.fx.selfR)) ?_
  clear hK' K'
  refine wpAnyH_done (by kernel_rfl) ?_ _
  refine NoPanic.normal ?_
  obtain ⟨cs6, hsr6, hmv6, -, hch6⟩ := ((unhide HSR5).kept d5).world hwp
  have hgr6 := (unhide HGR5).trans (Gr.store hgood5.snd hslf (unhide HLV) hm hv)
  have hmv : Mv G w w6 := (unhide HMV5).trans ((Mv.of d5).trans hmv6)
  have HSR6 := hide hsr6
  have HGR6 := hide hgr6
  have HMV6 := hide hmv
  clear hwp hsr6 hgr6 hmv hmv6 hch6
  go_wp2
  go_ret
  exact ⟨G, cs6, _, rfl, Wider.refl _ _, unhide HSR6, ⟨ms, by rw [← unhide HSF]; intro a b; simpa using unhide HMM (a, b), (unhide HGR6).mono (by omega), by rw [← unhide HSF, unhide HNP]; rfl⟩, (unhide HMV6).chg, (unhide HMV6).tm⟩
set_option maxHeartbeats 8000000 in
theorem effX_55 (h : SR G bw gf cs fr d (f :: r) x w) (hx : XB x) (hg : Good B d) (hf : AnyF f) (hml : f.ml ≤ 1000000) (hwt : wt d + 40000 ≤ 2250000000) (ao : Option Addr) (l c : Nat) (xs : List Nat) (hA : SStk G w ao l c xs) (hl : l ≤ 100) (ha : ∀ i, xs.getD i 0 < P256) (hn : xs.getD 2 0 ≤ 1000000) :
    Calls Sakg.prog 218 #[.pointer (some ⟨bw, 0, none⟩), .pointer (some ⟨gf, 60 * r.length, none⟩), .int .u8 55, .slice ao l c] w (EffX G bw gf fr (f :: r) x (fun d2 => d2 = d) w) := by
  have hBB := big_ge
  have hPB := p256_lt
  have hfx := h.fx
  obtain ⟨o, ho⟩ : ∃ o, o = 60 * r.length := ⟨_, rfl⟩
  rw [← ho] at hfx ⊢
  have HO := hide ho
  have HF := hide hfx
  have HSR := hide h
  have HX := hide hx
  have HFF := hide hf
  have H0 := hide (operandK G ao l c xs 0 w hA hl (by omega))
  have H1 := hide (operandK G ao l c xs 1 w hA hl (by omega))
  have H2 := hide (operandK G ao l c xs 2 w hA hl (by omega))
  have H3 := hide (fun wz (hz : Below w.heap.size w wz) => operandK G ao l c xs 3 wz (hA.go (ChgS.of hz)) hl (by omega))
  have x0 := ha 0
  have x1 := ha 1
  have x2 := ha 2
  have x3 := ha 3
  obtain ⟨Av, kv, cv, p1, p2⟩ := hfx.kf.input
  have hc : w.cell? ⟨gf, o + 11, none⟩ = some (.slice Av kv cv) := hfx.cell p1
  have hkv : kv ≤ 1000000 := by have := p2.now.len_eq; have := hf.input; omega
  have HSV := hide p2.now
  clear p1 p2
  generalize xs.getD 0 0 = m0 at H0 x0
  generalize xs.getD 1 0 = m1 at H1 x1
  generalize xs.getD 2 0 = m2 at H2 x2 hn
  generalize xs.getD 3 0 = m3 at H3 x3
  clear h hfx hx hA ha ho hf
  go_enter Sakg.func218, Sakg.ntmps218
  go_wp2_with fail
  refine (unhide H0).mono ?_
  rintro e w1 ⟨⟨A0, k0, c0, rfl, n0⟩, rfl⟩
  have N0 := hide n0
  clear n0
  go_wp2_with fail
  refine (unhide H1).mono ?_
  rintro e w1 ⟨⟨A1, k1, c1, rfl, n1⟩, rfl⟩
  have N1 := hide n1
  clear n1
  go_wp2_with fail
  refine (unhide H2).mono ?_
  rintro e w1 ⟨⟨A2, k2, c2, rfl, n2⟩, rfl⟩
  have N2 := hide n2
  clear n2
  have HCP := hide ((unhide HF).copied hml A0 k0 c0 m0 (unhide N0) (by omega) Av kv cv _ (unhide HSV) hkv A1 k1 c1 m1 (unhide N1).now (by omega) A2 k2 c2 m2 (unhide N2).now (by omega))
  go_wp2_with (go_at_call 310; refine (unhide HCP).mono ?_; rintro e w3 ⟨rfl, -, hm3, hr3⟩; have HM3 := hide hm3; have HR3 := hide hr3; clear hm3 hr3)
  go_ret
  exact EffX.mem (unhide HSR) (Below.refl _ _) (unhide HM3) (unhide HR3)
set_option maxHeartbeats 8000000 in
theorem effX_57 (h : SR G bw gf cs fr d (f :: r) x w) (hx : XB x) (hg : Good B d) (hf : AnyF f) (hml : f.ml ≤ 1000000) (hwt : wt d + 40000 ≤ 2250000000) (ao : Option Addr) (l c : Nat) (xs : List Nat) (hA : SStk G w ao l c xs) (hl : l ≤ 100) (ha : ∀ i, xs.getD i 0 < P256) (hn : xs.getD 2 0 ≤ 1000000) :
    Calls Sakg.prog 218 #[.pointer (some ⟨bw, 0, none⟩), .pointer (some ⟨gf, 60 * r.length, none⟩), .int .u8 57, .slice ao l c] w (EffX G bw gf fr (f :: r) x (fun d2 => d2 = d) w) := by
  have hBB := big_ge
  have hPB := p256_lt
  have hfx := h.fx
  obtain ⟨o, ho⟩ : ∃ o, o = 60 * r.length := ⟨_, rfl⟩
  rw [← ho] at hfx ⊢
  have HO := hide ho
  have HF := hide hfx
  have HSR := hide h
  have HX := hide hx
  have HFF := hide hf
  have H0 := hide (operandK G ao l c xs 0 w hA hl (by omega))
  have H1 := hide (operandK G ao l c xs 1 w hA hl (by omega))
  have H2 := hide (operandK G ao l c xs 2 w hA hl (by omega))
  have H3 := hide (fun wz (hz : Below w.heap.size w wz) => operandK G ao l c xs 3 wz (hA.go (ChgS.of hz)) hl (by omega))
  have x0 := ha 0
  have x1 := ha 1
  have x2 := ha 2
  have x3 := ha 3
  obtain ⟨Av, kv, cv, p1, p2⟩ := hfx.kf.code
  have hc : w.cell? ⟨gf, o + 10, none⟩ = some (.slice Av kv cv) := hfx.cell p1
  have hkv : kv ≤ 1000000 := by have := p2.now.len_eq; have := hf.code; omega
  have HSV := hide p2.now
  clear p1 p2
  generalize xs.getD 0 0 = m0 at H0 x0
  generalize xs.getD 1 0 = m1 at H1 x1
  generalize xs.getD 2 0 = m2 at H2 x2 hn
  generalize xs.getD 3 0 = m3 at H3 x3
  clear h hfx hx hA ha ho hf
  go_enter Sakg.func218, Sakg.ntmps218
  go_wp2_with fail
  refine (unhide H0).mono ?_
  rintro e w1 ⟨⟨A0, k0, c0, rfl, n0⟩, rfl⟩
  have N0 := hide n0
  clear n0
  go_wp2_with fail
  refine (unhide H1).mono ?_
  rintro e w1 ⟨⟨A1, k1, c1, rfl, n1⟩, rfl⟩
  have N1 := hide n1
  clear n1
  go_wp2_with fail
  refine (unhide H2).mono ?_
  rintro e w1 ⟨⟨A2, k2, c2, rfl, n2⟩, rfl⟩
  have N2 := hide n2
  clear n2
  have HCP := hide ((unhide HF).copied hml A0 k0 c0 m0 (unhide N0) (by omega) Av kv cv _ (unhide HSV) hkv A1 k1 c1 m1 (unhide N1).now (by omega) A2 k2 c2 m2 (unhide N2).now (by omega))
  go_wp2_with (go_at_call 310; refine (unhide HCP).mono ?_; rintro e w3 ⟨rfl, -, hm3, hr3⟩; have HM3 := hide hm3; have HR3 := hide hr3; clear hm3 hr3)
  go_ret
  exact EffX.mem (unhide HSR) (Below.refl _ _) (unhide HM3) (unhide HR3)
set_option maxHeartbeats 8000000 in
theorem effX_94 (h : SR G bw gf cs fr d (f :: r) x w) (hx : XB x) (hg : Good B d) (hf : AnyF f) (hml : f.ml ≤ 1000000) (hwt : wt d + 40000 ≤ 2250000000) (ao : Option Addr) (l c : Nat) (xs : List Nat) (hA : SStk G w ao l c xs) (hl : l ≤ 100) (ha : ∀ i, xs.getD i 0 < P256) (hn : xs.getD 2 0 ≤ 1000000) :
    Calls Sakg.prog 218 #[.pointer (some ⟨bw, 0, none⟩), .pointer (some ⟨gf, 60 * r.length, none⟩), .int .u8 94, .slice ao l c] w (EffX G bw gf fr (f :: r) x (fun d2 => d2 = d) w) := by
  have hBB := big_ge
  have hPB := p256_lt
  have hfx := h.fx
  obtain ⟨o, ho⟩ : ∃ o, o = 60 * r.length := ⟨_, rfl⟩
  rw [← ho] at hfx ⊢
  have HO := hide ho
  have HF := hide hfx
  have HSR := hide h
  have HX := hide hx
  have HFF := hide hf
  have H0 := hide (operandK G ao l c xs 0 w hA hl (by omega))
  have H1 := hide (operandK G ao l c xs 1 w hA hl (by omega))
  have H2 := hide (operandK G ao l c xs 2 w hA hl (by omega))
  have H3 := hide (fun wz (hz : Below w.heap.size w wz) => operandK G ao l c xs 3 wz (hA.go (ChgS.of hz)) hl (by omega))
  have x0 := ha 0
  have x1 := ha 1
  have x2 := ha 2
  have x3 := ha 3
  obtain ⟨Av, cv, p1, p2⟩ := hfx.kf.mem
  have hc : w.cell? ⟨gf, o + 9, none⟩ = some (.slice Av f.ml cv) := hfx.cell p1
  obtain ⟨bs, hbs⟩ := p2.src hml
  have hbl := hbs.len_eq
  have HBO := hide (bytesOf_any Av f.ml cv bs w hbs (by omega))
  clear p1 p2 hbs
  generalize xs.getD 0 0 = m0 at H0 x0
  generalize xs.getD 1 0 = m1 at H1 x1
  generalize xs.getD 2 0 = m2 at H2 x2 hn
  generalize xs.getD 3 0 = m3 at H3 x3
  clear h hfx hx hA ha ho hf
  go_enter Sakg.func218, Sakg.ntmps218
  go_wp2_with fail
  refine (unhide H0).mono ?_
  rintro e w1 ⟨⟨A0, k0, c0, rfl, n0⟩, rfl⟩
  have N0 := hide n0
  clear n0
  go_wp2_with fail
  refine (unhide H1).mono ?_
  rintro e w1 ⟨⟨A1, k1, c1, rfl, n1⟩, rfl⟩
  have N1 := hide n1
  clear n1
  go_wp2_with fail
  refine (unhide H2).mono ?_
  rintro e w1 ⟨⟨A2, k2, c2, rfl, n2⟩, rfl⟩
  have N2 := hide n2
  clear n2
  go_wp2_with fail
  refine (unhide HBO).mono ?_
  rintro e w2 ⟨Ab, kb, rfl, sb, -, Nb, b2⟩
  have hkb : kb ≤ 1000000 := by have := sb.len_eq; omega
  have HCP := hide (((unhide HF).kept b2).copied hml A0 k0 c0 m0 ((unhide N0).kp (ChgS.of b2)) (by omega) Ab kb kb _ sb hkb A1 k1 c1 m1 ((unhide N1).kp (ChgS.of b2)).now (by omega) A2 k2 c2 m2 ((unhide N2).kp (ChgS.of b2)).now (by omega))
  clear sb
  go_wp2_with (go_at_call 310; refine (unhide HCP).mono ?_; rintro e w3 ⟨rfl, -, hm3, hr3⟩; have HM3 := hide hm3; have HR3 := hide hr3; clear hm3 hr3)
  go_ret
  exact EffX.mem (unhide HSR) b2 (unhide HM3) (unhide HR3)
set_option maxHeartbeats 8000000 in
theorem effX_85 (h : SR G bw gf cs fr d (f :: r) x w) (hx : XB x) (hg : Good B d) (hf : AnyF f) (hml : f.ml ≤ 1000000) (hwt : wt d + 40000 ≤ 2250000000) (ao : Option Addr) (l c : Nat) (xs : List Nat) (hA : SStk G w ao l c xs) (hl : l ≤ 100) (ha : ∀ i, xs.getD i 0 < P256) (hlive : Live d.accts f.self) (hcl : Clears d f x) :
    Calls Sakg.prog 218 #[.pointer (some ⟨bw, 0, none⟩), .pointer (some ⟨gf, 60 * r.length, none⟩), .int .u8 85, .slice ao l c] w (EffX G bw gf fr (f :: r) x (fun d2 => ∃ ms, (∀ y, y ∈ ms ↔ y = (f.self, xs.getD 0 0) ∨ y ∈ d.warmS) ∧ Gr B d d2 32500 ∧ d2 = { d with refund := d.refund + 4800, warmS := ms, accts := stoY d.accts f.self (xs.getD 0 0) (xs.getD 1 0) }) w) := by
  have hBB := big_ge
  have hPB := p256_lt
  have hfx := h.fx
  obtain ⟨o, ho⟩ : ∃ o, o = 60 * r.length := ⟨_, rfl⟩
  rw [← ho] at hfx ⊢
  have HO := hide ho
  have HF := hide hfx
  have HSR := hide h
  have HX := hide hx
  have HFF := hide hf
  have H0 := hide (operandK G ao l c xs 0 w hA hl (by omega))
  have H1 := hide (operandK G ao l c xs 1 w hA hl (by omega))
  have H2 := hide (operandK G ao l c xs 2 w hA hl (by omega))
  have H3 := hide (fun wz (hz : Below w.heap.size w wz) => operandK G ao l c xs 3 wz (hA.go (ChgS.of hz)) hl (by omega))
  have x0 := ha 0
  have x1 := ha 1
  have x2 := ha 2
  have x3 := ha 3
  have hC := fun A k c m hA hm Bv k2 c2 v hB hv => h.storesX hx hg hf hwt hlive hcl A k c m hA hm Bv k2 c2 v hB hv
  rw [← ho] at hC
  have HC := hide hC
  clear hC hcl
  obtain ⟨m0, hm0⟩ : ∃ m0, m0 = xs.getD 0 0 := ⟨_, rfl⟩
  obtain ⟨m1, hm1⟩ : ∃ m1, m1 = xs.getD 1 0 := ⟨_, rfl⟩
  rw [← hm0] at H0 x0
  rw [← hm1] at H1 x1
  rw [← hm0, ← hm1]
  clear hm0 hm1
  clear h hfx hx hA ha ho hf
  go_enter Sakg.func218, Sakg.ntmps218
  go_wp2_with fail
  refine (unhide H0).mono ?_
  rintro e w1 ⟨⟨A0, k0, c0, rfl, n0⟩, rfl⟩
  have N0 := hide n0
  clear n0
  go_wp2_with fail
  refine (unhide H1).mono ?_
  rintro e w1 ⟨⟨A1, k1, c1, rfl, n1⟩, rfl⟩
  have N1 := hide n1
  clear n1
  go_wp2_with fail
  refine (unhide H2).mono ?_
  rintro e w1 ⟨⟨A2, k2, c2, rfl, n2⟩, rfl⟩
  have N2 := hide n2
  clear n2
  have HC2 := hide (unhide HC A0 k0 c0 m0 (unhide N0) x0 A1 k1 c1 m1 (unhide N1) x1)
  go_wp2_with (go_at_call 311; refine (unhide HC2).mono ?_; rintro e w3 ⟨G', cs', d', rfl, e1, e2, e3, e4, e5⟩; have E1 := hide e1; have E2 := hide e2; have E3 := hide e3; have E4 := hide e4; have E5 := hide e5; clear e1 e2 e3 e4 e5)
  go_ret
  exact ⟨G', cs', d', rfl, unhide E1, unhide E2, unhide E3, unhide E4, unhide E5⟩
set_option maxHeartbeats 8000000 in
theorem effX_60 (h : SR G bw gf cs fr d (f :: r) x w) (hx : XB x) (hg : Good B d) (hf : AnyF f) (hml : f.ml ≤ 1000000) (hwt : wt d + 40000 ≤ 2250000000) (ao : Option Addr) (l c : Nat) (xs : List Nat) (hA : SStk G w ao l c xs) (hl : l ≤ 100) (ha : ∀ i, xs.getD i 0 < P256) (hn : xs.getD 3 0 ≤ 1000000) :
    Calls Sakg.prog 218 #[.pointer (some ⟨bw, 0, none⟩), .pointer (some ⟨gf, 60 * r.length, none⟩), .int .u8 60, .slice ao l c] w (EffX G bw gf fr (f :: r) x (fun d2 => ∃ als, Gr B d { d with warmA := als } 2500 ∧ d2 = { d with warmA := als }) w) := by
  have hBB := big_ge
  have hPB := p256_lt
  have hfx := h.fx
  obtain ⟨o, ho⟩ : ∃ o, o = 60 * r.length := ⟨_, rfl⟩
  rw [← ho] at hfx ⊢
  have HO := hide ho
  have HF := hide hfx
  have HSR := hide h
  have HX := hide hx
  have HFF := hide hf
  have H0 := hide (operandK G ao l c xs 0 w hA hl (by omega))
  have H1 := hide (operandK G ao l c xs 1 w hA hl (by omega))
  have H2 := hide (operandK G ao l c xs 2 w hA hl (by omega))
  have H3 := hide (fun wz (hz : Below w.heap.size w wz) => operandK G ao l c xs 3 wz (hA.go (ChgS.of hz)) hl (by omega))
  have x0 := ha 0
  have x1 := ha 1
  have x2 := ha 2
  have x3 := ha 3
  have dW : Below w.heap.size w w.drew := Quiet.below ⟨1, rfl⟩ _
  have HSA := hide hA
  generalize xs.getD 0 0 = m0 at H0 x0
  generalize xs.getD 1 0 = m1 at H1 x1
  generalize xs.getD 2 0 = m2 at H2 x2
  generalize hm3e : xs.getD 3 0 = m3 at H3 x3 hn
  have HM3E := hide hm3e
  clear hm3e
  clear h hfx hx hA ha ho hf
  go_enter Sakg.func218, Sakg.ntmps218
  go_wp2_with fail
  refine (unhide H0).mono ?_
  rintro e w1 ⟨⟨A0, k0, c0, rfl, n0⟩, rfl⟩
  have N0 := hide n0
  clear n0
  go_wp2_with fail
  refine (unhide H1).mono ?_
  rintro e w1 ⟨⟨A1, k1, c1, rfl, n1⟩, rfl⟩
  have N1 := hide n1
  clear n1
  go_wp2_with fail
  refine (unhide H2).mono ?_
  rintro e w1 ⟨⟨A2, k2, c2, rfl, n2⟩, rfl⟩
  have N2 := hide n2
  clear n2
  go_upto_region 13 with fail
  refine wp_region_noPanic ?_
  refine wp_region_held_drew (S := fun _ => True) (by kernel_rfl) (trivial) (fun hHeld => ?_)
  refine held_takeD 0 (.pointer (some ⟨bw, 0, none⟩)) (some 75) (by rfl) (by rfl) (by kernel_rfl) (by kernel_rfl) (by kernel_rfl) (fun _ _ _ h => h) (.inl ⟨by rfl, fun _ _ => by rfl⟩) (hHeld) ?_
  simp only [Act.put, List.setIfInBounds_toArray, List.set_cons_zero, List.set_cons_succ]
  refine held_takeD 1 (.pointer (some ⟨bw, 0, none⟩)) (some 76) (by rfl) (by rfl) (by kernel_rfl) (by kernel_rfl) (by kernel_rfl) (fun _ _ _ h => h) (.inl ⟨by rfl, fun _ _ => by go_simp⟩) (hHeld) ?_
  simp only [Act.put, List.setIfInBounds_toArray, List.set_cons_zero, List.set_cons_succ]
  refine held_takeD 2 (.pointer (some ⟨bw, 0, none⟩)) (some 77) (by rfl) (by rfl) (by kernel_rfl) (by kernel_rfl) (by kernel_rfl) (fun _ _ _ h => h) (.inl ⟨by rfl, fun _ _ => by go_simp⟩) (hHeld) ?_
  simp only [Act.put, List.setIfInBounds_toArray, List.set_cons_zero, List.set_cons_succ]
  refine held_takeD 3 (.slice A0 k0 c0) (some 78) (by rfl) (by rfl) (by kernel_rfl) (by kernel_rfl) (by kernel_rfl) (fun _ _ _ h => h) (.inl ⟨by rfl, fun _ _ => by rfl⟩) (hHeld) ?_
  simp only [Act.put, List.setIfInBounds_toArray, List.set_cons_zero, List.set_cons_succ]
  refine held_one 4 (by kernel_rfl) (by rfl) (fun K' hK' => ?_)
  go_simp
  refine (addrOf_any A0 k0 c0 m0 w.drew ((unhide N0).kp (ChgS.of dW)).now (by omega)).mono ?_
  rintro e w2 ⟨⟨ta, rfl, hta⟩, b2⟩
  refine hK'.out _ _ (trivial) ?_
  clear hK' K'
  have d2 : Below w.heap.size w w2 := dW.thn b2
  refine held_one 5 (by kernel_rfl) (by rfl) (fun K' hK' => ?_)
  go_simp
  refine (((unhide HSR).kept d2).cw.warm hg ta hta).mono ?_
  rintro e w3 ⟨rfl, als, hals, hwp⟩
  refine hK'.out _ _ (trivial) ?_
  clear hK' K'
  refine wpAnyH_done (by kernel_rfl) ?_ _
  refine NoPanic.normal ?_
  obtain ⟨cs3, hsr3, hmv3, hs83, hch3⟩ := ((unhide HSR).kept d2).world hwp
  have hgr3 : Gr B d { d with warmA := als } 2500 := Gr.warm hg.snd hals
  have hmv : Mv G w w3 := (Mv.of d2).trans hmv3
  have hgood3 := hgr3.good (K := 2250000000) (by omega) (Nat.le_refl _)
  have hfx3 : FX G gf o fr f w3 := by rw [unhide HO]; exact hsr3.fx
  have HF3 := hide hfx3
  have HSR3 := hide hsr3
  have HGR3 := hide hgr3
  have HMV := hide hmv
  have K0 := hide ((unhide N0).kp hmv.chg)
  have K1 := hide ((unhide N1).kp hmv.chg)
  have K2 := hide ((unhide N2).kp hmv.chg)
  have KS := hide ((unhide HSA).go hmv.chg)
  clear hwp hsr3 hgr3 hmv hmv3 hs83 hch3 hfx3
  go_upto_region 14 with fail
  have dV : Below w3.heap.size w3 w3.drew := Quiet.below ⟨1, rfl⟩ _
  refine wp_region_noPanic ?_
  refine wp_region_held_drew (S := fun _ => True) (by kernel_rfl) (trivial) (fun hHeld => ?_)
  refine held_takeD 0 (.pointer (some ⟨gf, o, none⟩)) (some 81) (by rfl) (by rfl) (by kernel_rfl) (by kernel_rfl) (by kernel_rfl) (fun _ _ _ h => h) (.inl ⟨by rfl, fun _ _ => by rfl⟩) (hHeld) ?_
  simp only [Act.put, List.setIfInBounds_toArray, List.set_cons_zero, List.set_cons_succ]
  refine held_takeD 1 (.slice A1 k1 c1) (some 82) (by rfl) (by rfl) (by kernel_rfl) (by kernel_rfl) (by kernel_rfl) (fun _ _ _ h => h) (.inl ⟨by rfl, fun _ _ => by rfl⟩) (hHeld) ?_
  simp only [Act.put, List.setIfInBounds_toArray, List.set_cons_zero, List.set_cons_succ]
  refine held_takeD 2 (.pointer (some ⟨bw, 0, none⟩)) (some 83) (by rfl) (by rfl) (by kernel_rfl) (by kernel_rfl) (by kernel_rfl) (fun _ _ _ h => h) (.inl ⟨by rfl, fun _ _ => by rfl⟩) (hHeld) ?_
  simp only [Act.put, List.setIfInBounds_toArray, List.set_cons_zero, List.set_cons_succ]
  refine held_takeD 3 (.pointer (some ⟨bw, 0, none⟩)) (some 84) (by rfl) (by rfl) (by kernel_rfl) (by kernel_rfl) (by kernel_rfl) (fun _ _ _ h => h) (.inl ⟨by rfl, fun _ _ => by go_simp⟩) (hHeld) ?_
  simp only [Act.put, List.setIfInBounds_toArray, List.set_cons_zero, List.set_cons_succ]
  refine held_takeD 4 (.pointer (some ⟨bw, 0, none⟩)) (some 85) (by rfl) (by rfl) (by kernel_rfl) (by kernel_rfl) (by kernel_rfl) (fun _ _ _ h => h) (.inl ⟨by rfl, fun _ _ => by go_simp⟩) (hHeld) ?_
  simp only [Act.put, List.setIfInBounds_toArray, List.set_cons_zero, List.set_cons_succ]
  refine held_takeD 5 (.slice A0 k0 c0) (some 86) (by rfl) (by rfl) (by kernel_rfl) (by kernel_rfl) (by kernel_rfl) (fun _ _ _ h => h) (.inl ⟨by rfl, fun _ _ => by rfl⟩) (hHeld) ?_
  simp only [Act.put, List.setIfInBounds_toArray, List.set_cons_zero, List.set_cons_succ]
  refine held_takeD 9 (.slice A2 k2 c2) (some 90) (by rfl) (by rfl) (by kernel_rfl) (by kernel_rfl) (by kernel_rfl) (fun _ _ _ h => h) (.inl ⟨by rfl, fun _ _ => by rfl⟩) (hHeld) ?_
  simp only [Act.put, List.setIfInBounds_toArray, List.set_cons_zero, List.set_cons_succ]
  refine held_takeD 10 (.slice ao l c) (some 91) (by rfl) (by rfl) (by kernel_rfl) (by kernel_rfl) (by kernel_rfl) (fun _ _ _ h => h) (.inl ⟨by rfl, fun _ _ => by rfl⟩) (hHeld) ?_
  simp only [Act.put, List.setIfInBounds_toArray, List.set_cons_zero, List.set_cons_succ]
  refine held_one 6 (by kernel_rfl) (by rfl) (fun K' hK' => ?_)
  go_simp
  refine (addrOf_any A0 k0 c0 m0 w3.drew ((unhide K0).kp (ChgS.of dV)).now (by omega)).mono ?_
  rintro e w4 ⟨⟨tb, rfl, htb⟩, b4⟩
  refine hK'.out _ _ (trivial) ?_
  clear hK' K'
  have d4 : Below w3.heap.size w3 w4 := dV.thn b4
  refine held_one 7 (by kernel_rfl) (by rfl) (fun K' hK' => ?_)
  go_simp
  refine ((unhide HSR3).cw.accountAt hgood3 d4 tb htb).mono ?_
  rintro e w5 ⟨rs, rfl, hrs, b5⟩
  refine hK'.out _ _ (trivial) ?_
  clear hK' K'
  have d5 : Below w3.heap.size w3 w5 := d4.thn b5
  obtain ⟨B1, j1, e1, B2, j2, e2, B3, j3, e3, B4, j4, e4, q20, q21, q22, q23, s1, s2, s3, s4⟩ := hrs.cells
  have hfld := run_field_slice fldCodeK Sakg.underlying30 rs _ q22
  refine held_takeD 8 (.slice B3 j3 e3) (some 89) (by rfl) (by rfl) (by kernel_rfl) (by kernel_rfl) (by kernel_rfl) (fun _ _ _ h => h) (.inl ⟨by rfl, fun _ _ => by go_simp⟩) (trivial) ?_
  simp only [Act.put, List.setIfInBounds_toArray, List.set_cons_zero, List.set_cons_succ]
  have hj3 : j3 ≤ 1000000 := by have h1 := s3.now.len_eq; have h2 := (hgood3.acc.look tb).code; omega
  have hop := operandK G ao l c xs 3 w5 ((unhide KS).go (ChgS.of d5)) hl (by omega)
  rw [unhide HM3E] at hop
  refine held_one 11 (by kernel_rfl) (by rfl) (fun K' hK' => ?_)
  go_simp
  refine (hop).mono ?_
  rintro e w6 ⟨⟨A3, k3, c3, rfl, n3⟩, rfl⟩
  refine hK'.out _ _ (trivial) ?_
  clear hK' K'
  refine held_one 12 (by kernel_rfl) (by rfl) (fun K' hK' => ?_)
  go_simp
  refine (((unhide HF3).kept d5).copied hml A1 k1 c1 m1 ((unhide K1).kp (ChgS.of d5)) (by omega) B3 j3 e3 _ (s3.kp (ChgS.of d5)).now hj3 A2 k2 c2 m2 ((unhide K2).kp (ChgS.of d5)).now (by omega) A3 k3 c3 m3 n3.now (by omega)).mono ?_
  rintro e w7 ⟨rfl, -, hm7, hr7⟩
  refine hK'.out _ _ (trivial) ?_
  clear hK' K'
  refine wpAnyH_done (by kernel_rfl) ?_ _
  refine NoPanic.normal ?_
  have HM7 := hide hm7
  have HR7 := hide hr7
  clear hrs s1 s2 s3 s4 hfld q20 q21 q22 q23 hm7 hr7 n3 hop
  go_wp2
  go_ret
  exact ⟨G, cs3, _, rfl, Wider.refl _ _, ((unhide HSR3).kept d5).mem (unhide HM7) (unhide HR7), ⟨als, unhide HGR3, rfl⟩, (unhide HMV).chg.trans ((ChgS.of d5).trans (unhide HM7).chg), (unhide HMV).tm.trans ((Tm.of d5).trans (unhide HM7).tm)⟩
end

end Go.Proofs.YgcsakGreat
