/-
  yp: stores (SSTORE).
-/
import Derived.Test.YgcsakGreatKhC
import Derived.Test.YgcsakGreatKgD
import Derived.Test.YgcsakGreatKhB
namespace Go.Proofs.YgcsakGreat
set_option linter.unusedVariables false
set_option linter.unusedSimpArgs false
set_option maxRecDepth 100000
open Go.RowKit

/-- a yes or a no, and a world that may have grown -/
def EffR (G : Nat → Prop) (bw gf : Nat) (fr : List Value) (B : Nat) (d : WD) (fs : List FD) (x : XD) (y : Nat) (w : World) (e : Ending) (w' : World) : Prop :=
  ∃ b G' cs' d', e = .returned (.bool b) ∧ Wider G G' w ∧ SR G' bw gf cs' fr d' fs x w' ∧ Gr B d d' y ∧ ChgS G w w' ∧ Tm w w'
section
variable {G : Nat → Prop} {bw gf : Nat} {cs fr : List Value} {d : WD} {f : FD} {r : List FD} {x : XD} {w : World} {B : Nat}
/-- the refund counter's cell -/
theorem SR.refund {fs : List FD} (h : SR G bw gf cs fr d fs x w) {A : Option Addr} {k c n : Nat} (hn : KNat G w A k c n) : SR G bw gf (cs.set 3 (.slice A k c)) fr { d with refund := n } fs x (w.setCell ⟨bw, 3, none⟩ (.slice A k c)) ∧ Only bw w (w.setCell ⟨bw, 3, none⟩ (.slice A k c)) := by
  have ho : Only bw w (w.setCell ⟨bw, 3, none⟩ (.slice A k c)) := (Only.refl _ _).setCell _ _
  have hm : Mv G w (w.setCell ⟨bw, 3, none⟩ (.slice A k c)) := Mv.chain h.cw.row h.cw.g (Chg.ofOnly ho)
  obtain ⟨cap, e1, e2⟩ := h.frames
  exact ⟨⟨⟨h.cw.row.set 3 _, by rw [List.length_set]; exact h.cw.len, (h.cw.kw.go hm.chg).set3 (hn.kp hm.chg) (by rw [h.cw.len]; omega), h.cw.g, h.cw.ther.go (Nat.le_of_eq ho.size.symm)⟩, h.logsGo hm (List.getElem?_set_ne (by omega)) rfl, (h.xs.go hm.chg).eq (fun i hi _ _ => List.getElem?_set_ne (by omega)), (List.getElem?_set_ne (by omega)).trans h.phase, h.ne, h.row.only ho h.ne, h.g, ⟨cap, (List.getElem?_set_ne (by omega)).trans e1, e2⟩, h.len, h.kfs.go hm⟩, ho⟩

set_option maxHeartbeats 16000000 in
theorem SR.stores (h : SR G bw gf cs fr d (f :: r) x w) (hx : XB x) (hg : Good B d) (hf : AnyF f) (hwt : wt d + 40000 ≤ 2250000000) (hlive : Live d.accts f.self) (A : Option Addr) (k c m : Nat) (hA : KNat G w A k c m) (hm : m < P256) (Bv : Option Addr) (k2 c2 v : Nat) (hB : KNat G w Bv k2 c2 v) (hv : v < P256) :
    Calls Sakg.prog 311 #[.pointer (some ⟨bw, 0, none⟩), .pointer (some ⟨gf, 60 * r.length, none⟩), .slice A k c, .slice Bv k2 c2] w (EffR G bw gf fr B d (f :: r) x 32500 w) := by
  have hBB := big_ge
  have hPB := p256_lt
  have hfx := h.fx
  have hrfB : d.refund < BIG := Nat.lt_of_lt_of_le hg.refund (big_pow 20 (by omega))
  have hrf : d.refund ≤ 2250000000 := by unfold wt at hwt; omega
  have hSS := h.sstore hx hg hf
  obtain ⟨o, ho⟩ : ∃ o, o = 60 * r.length := ⟨_, rfl⟩
  rw [← ho] at hfx hSS ⊢
  have HO := hide ho
  have HSS := hide hSS
  have HSR := hide h
  have KA := hide hA
  have KB := hide hB
  obtain ⟨A3, k3, c3, g1, g2⟩ := h.cw.kw.refund
  have x3 : ∀ wz, Below w.heap.size w wz → wz.cell? ⟨bw, 3, none⟩ = some (.slice A3 k3 c3) ∧ IsNat wz A3 k3 c3 d.refund := fun wz hz => ⟨(h.cw.kept hz).cell g1, (g2.kp (ChgS.of hz)).now⟩
  have X3 := hide x3
  have hslf := hfx.kf.selfA
  have hu := Sakg.underlying26
  have hsz := hslf.size
  obtain ⟨sf, hsf⟩ : ∃ sf, sf = f.self := ⟨_, rfl⟩
  have HSF := hide hsf
  rw [← hsf] at hslf hsz hlive
  have HLV := hide hlive
  clear h hfx hx hf hSS ho hA hB g1 g2 x3 hsf hlive
  go_enter Sakg.func311, Sakg.ntmps311
  go_wp2_with fail
  refine (unhide HSS).mono ?_
  rintro e w1 ⟨A1, k1, c1, n1, Ap, kp, cp, np, Am, km, cm, nm, rfl, -, mp, mm, -, Np, Nm, -, -, lp, lm, b1⟩
  have MP := hide mp
  have y3 := (unhide X3 w1 b1).1
  have HSB := hide ((unhide X3 w1 b1).2.sub mm hrfB (by omega))
  clear mp mm HSS
  by_cases hle : nm ≤ d.refund
  rotate_left
  · rw [decide_eq_false hle] at HSB
    go_wp2_with (go_at_call 35; refine (unhide HSB).mono ?_; rintro e w2 ⟨A2, j2, e2, rfl, -, -, b2⟩)
    go_ret
    have d2 : Below w.heap.size w w2 := b1.thn b2
    exact ⟨_, G, cs, d, rfl, Wider.refl _ _, (unhide HSR).kept d2, Gr.refl hg.snd _, ChgS.of d2, Tm.of d2⟩
  rw [decide_eq_true hle] at HSB
  go_wp2_with fail
  refine (unhide HSB).mono ?_
  rintro e w2 ⟨A2, j2, e2, rfl, n2, N2, b2⟩
  have d2 : Below w.heap.size w w2 := b1.thn b2
  have HAD := hide (n2.add ((unhide MP).kept b2) (by omega) (by omega))
  clear n2 HSB y3
  go_wp2_with fail
  refine (unhide HAD).mono ?_
  rintro e w3 ⟨A4, j4, e4, rfl, n4, N4, b3⟩
  have d3 : Below w.heap.size w w3 := d2.thn b3
  have hsr3 := (unhide HSR).kept d3
  obtain ⟨hsr4, ho4⟩ := hsr3.refund (KNat.new n4 (N4.later d2.size) (unhide HSR).cw.ther)
  have hgr4 : Gr B d { d with refund := d.refund - nm + np } 25000 := Gr.refund hg.snd (by omega)
  have hgood4 := hgr4.good (K := 2250000000) (by omega) (Nat.le_refl _)
  obtain ⟨v3, hx3⟩ := hsr3.cw.ex (i := 3) (by omega)
  have hf3 := hsr3.cw.row.froz 3
  have hmv4 : Mv G w (w3.setCell ⟨bw, 3, none⟩ (.slice A4 j4 e4)) := (Mv.of d3).trans (Mv.chain hsr3.cw.row hsr3.cw.g (Chg.ofOnly ho4))
  obtain ⟨w4, hw4⟩ : ∃ y, y = w3.setCell ⟨bw, 3, none⟩ (Value.slice A4 j4 e4) := ⟨_, rfl⟩
  rw [← hw4] at hsr4 ho4 hmv4
  have HSR4 := hide hsr4
  have HW4 := hide hw4
  have HMV4 := hide hmv4
  have HGR4 := hide hgr4
  have hrg4 : ∀ wz, Below w4.heap.size w4 wz → wz.rangeAt gf (o + 12) (bv sf) := fun wz hz => by rw [unhide HO, unhide HSF]; exact (hsr4.kept hz).fx.selfR
  have HRG4 := hide hrg4
  have d4 : Below w4.heap.size w4 w4.drew := Quiet.below ⟨1, rfl⟩ _
  have hKA4 := (unhide KA).kp (hmv4.chg.trans (ChgS.of d4))
  have KA4 := hide hKA4
  clear n4 hsr3 hsr4 ho4 hmv4 hgr4 hw4 hrg4 hKA4 HAD
  go_upto_region 6 with fail
  rw [← unhide HW4]
  refine wp_region_noPanic ?_
  refine wp_region_held_drew (S := fun w' => w'.rangeAt gf (o + 12) (bv sf)) (by kernel_rfl) (unhide HRG4 _ d4) (fun hHeld => ?_)
  refine held_takeD 0 (.pointer (some ⟨bw, 0, none⟩)) (some 40) (by rfl) (by rfl) (by kernel_rfl) (by kernel_rfl) (by kernel_rfl) (fun _ _ _ h => h) (.inl ⟨by rfl, fun _ _ => by rfl⟩) (hHeld) ?_
  simp only [Act.put, List.setIfInBounds_toArray, List.set_cons_zero, List.set_cons_succ]
  refine held_takeD 1 (.pointer (some ⟨bw, 0, none⟩)) (some 41) (by rfl) (by rfl) (by kernel_rfl) (by kernel_rfl) (by kernel_rfl) (fun _ _ _ h => h) (.inl ⟨by rfl, fun _ _ => by go_simp⟩) (hHeld) ?_
  simp only [Act.put, List.setIfInBounds_toArray, List.set_cons_zero, List.set_cons_succ]
  refine held_takeD 2 (.pointer (some ⟨bw, 0, none⟩)) (some 42) (by rfl) (by rfl) (by kernel_rfl) (by kernel_rfl) (by kernel_rfl) (fun _ _ _ h => h) (.inl ⟨by rfl, fun _ _ => by go_simp⟩) (hHeld) ?_
  simp only [Act.put, List.setIfInBounds_toArray, List.set_cons_zero, List.set_cons_succ]
  refine held_takeD 3 (.pointer (some ⟨gf, o, none⟩)) (some 43) (by rfl) (by rfl) (by kernel_rfl) (by kernel_rfl) (by kernel_rfl) (fun _ _ _ h => h) (.inl ⟨by rfl, fun _ _ => by rfl⟩) (hHeld) ?_
  simp only [Act.put, List.setIfInBounds_toArray, List.set_cons_zero, List.set_cons_succ]
  refine held_takeD 4 (.pointer (some ⟨gf, o, none⟩)) (some 44) (by rfl) (by rfl) (by kernel_rfl) (by kernel_rfl) (by kernel_rfl) (fun _ _ _ h => h) (.inl ⟨by rfl, fun _ _ => by go_simp⟩) (hHeld) ?_
  simp only [Act.put, List.setIfInBounds_toArray, List.set_cons_zero, List.set_cons_succ]
  refine held_takeD 5 (.pointer (some ⟨gf, o + 12, none⟩)) (some 45) (by rfl) (by rfl) (by kernel_rfl) (by kernel_rfl) (by kernel_rfl) (fun _ _ _ h => h) (.inl ⟨by rfl, fun _ _ => by go_simp⟩) (hHeld) ?_
  simp only [Act.put, List.setIfInBounds_toArray, List.set_cons_zero, List.set_cons_succ]
  refine held_takeD 6 (.agg (bv sf).toArray) (some 46) (by rfl) (by rfl) (by kernel_rfl) (by kernel_rfl) (by kernel_rfl) (fun _ _ _ h => h) (yieldsIf_load_mid (by rfl) _ _ rfl _ _ rfl _ _ (fun wz hS => hS) hu rfl hsz) (hHeld) ?_
  simp only [Act.put, List.setIfInBounds_toArray, List.set_cons_zero, List.set_cons_succ]
  refine held_takeD 7 (.slice A k c) (some 47) (by rfl) (by rfl) (by kernel_rfl) (by kernel_rfl) (by kernel_rfl) (fun _ _ _ h => h) (.inl ⟨by rfl, fun _ _ => by rfl⟩) (hHeld) ?_
  simp only [Act.put, List.setIfInBounds_toArray, List.set_cons_zero, List.set_cons_succ]
  refine held_one 8 (by kernel_rfl) (by rfl) (fun K' hK' => ?_)
  go_simp
  refine (((unhide HSR4).kept d4).cw.warmSlot hgood4 sf hslf A k c m (unhide KA4) (by omega)).mono ?_
  rintro e w5 ⟨rfl, ms, hms, hwp⟩
  refine hK'.out _ _ ((((unhide HSR4).kept d4).world hwp).elim fun _ hh => (by rw [unhide HO, unhide HSF]; exact hh.1.fx.selfR)) ?_
  clear hK' K'
  refine wpAnyH_done (by kernel_rfl) ?_ _
  refine NoPanic.normal ?_
  obtain ⟨cs5, hsr5, hmv5, -, hch5⟩ := ((unhide HSR4).kept d4).world hwp
  have hgr5 : Gr B d { d with refund := d.refund - nm + np, warmS := ms } 27500 := (unhide HGR4).trans (Gr.warmS hgood4.snd hms)
  have hgood5 := hgr5.good (K := 2250000000) (by omega) (Nat.le_refl _)
  have hmv : Mv G w w5 := (unhide HMV4).trans ((Mv.of d4).trans hmv5)
  have HSR5 := hide hsr5
  have HGR5 := hide hgr5
  have HMV5 := hide hmv
  have hrg5 : ∀ wz, Below w5.heap.size w5 wz → wz.rangeAt gf (o + 12) (bv sf) := fun wz hz => by rw [unhide HO, unhide HSF]; exact (hsr5.kept hz).fx.selfR
  have HRG5 := hide hrg5
  have d5 : Below w5.heap.size w5 w5.drew := Quiet.below ⟨1, rfl⟩ _
  have KA5 := hide ((unhide KA).kp (hmv.chg.trans (ChgS.of d5)))
  have KB5 := hide ((unhide KB).kp (hmv.chg.trans (ChgS.of d5)))
  clear hwp hsr5 hgr5 hmv hmv5 hch5 hrg5
  go_upto_region 7 with fail
  refine wp_region_noPanic ?_
  refine wp_region_held_drew (S := fun w' => w'.rangeAt gf (o + 12) (bv sf)) (by kernel_rfl) (unhide HRG5 _ d5) (fun hHeld => ?_)
  refine held_takeD 0 (.pointer (some ⟨bw, 0, none⟩)) (some 49) (by rfl) (by rfl) (by kernel_rfl) (by kernel_rfl) (by kernel_rfl) (fun _ _ _ h => h) (.inl ⟨by rfl, fun _ _ => by rfl⟩) (hHeld) ?_
  simp only [Act.put, List.setIfInBounds_toArray, List.set_cons_zero, List.set_cons_succ]
  refine held_takeD 1 (.pointer (some ⟨bw, 0, none⟩)) (some 50) (by rfl) (by rfl) (by kernel_rfl) (by kernel_rfl) (by kernel_rfl) (fun _ _ _ h => h) (.inl ⟨by rfl, fun _ _ => by go_simp⟩) (hHeld) ?_
  simp only [Act.put, List.setIfInBounds_toArray, List.set_cons_zero, List.set_cons_succ]
  refine held_takeD 2 (.pointer (some ⟨bw, 0, none⟩)) (some 51) (by rfl) (by rfl) (by kernel_rfl) (by kernel_rfl) (by kernel_rfl) (fun _ _ _ h => h) (.inl ⟨by rfl, fun _ _ => by go_simp⟩) (hHeld) ?_
  simp only [Act.put, List.setIfInBounds_toArray, List.set_cons_zero, List.set_cons_succ]
  refine held_takeD 3 (.pointer (some ⟨gf, o, none⟩)) (some 52) (by rfl) (by rfl) (by kernel_rfl) (by kernel_rfl) (by kernel_rfl) (fun _ _ _ h => h) (.inl ⟨by rfl, fun _ _ => by rfl⟩) (hHeld) ?_
  simp only [Act.put, List.setIfInBounds_toArray, List.set_cons_zero, List.set_cons_succ]
  refine held_takeD 4 (.pointer (some ⟨gf, o, none⟩)) (some 53) (by rfl) (by rfl) (by kernel_rfl) (by kernel_rfl) (by kernel_rfl) (fun _ _ _ h => h) (.inl ⟨by rfl, fun _ _ => by go_simp⟩) (hHeld) ?_
  simp only [Act.put, List.setIfInBounds_toArray, List.set_cons_zero, List.set_cons_succ]
  refine held_takeD 5 (.pointer (some ⟨gf, o + 12, none⟩)) (some 54) (by rfl) (by rfl) (by kernel_rfl) (by kernel_rfl) (by kernel_rfl) (fun _ _ _ h => h) (.inl ⟨by rfl, fun _ _ => by go_simp⟩) (hHeld) ?_
  simp only [Act.put, List.setIfInBounds_toArray, List.set_cons_zero, List.set_cons_succ]
  refine held_takeD 6 (.agg (bv sf).toArray) (some 55) (by rfl) (by rfl) (by kernel_rfl) (by kernel_rfl) (by kernel_rfl) (fun _ _ _ h => h) (yieldsIf_load_mid (by rfl) _ _ rfl _ _ rfl _ _ (fun wz hS => hS) hu rfl hsz) (hHeld) ?_
  simp only [Act.put, List.setIfInBounds_toArray, List.set_cons_zero, List.set_cons_succ]
  refine held_takeD 7 (.slice A k c) (some 56) (by rfl) (by rfl) (by kernel_rfl) (by kernel_rfl) (by kernel_rfl) (fun _ _ _ h => h) (.inl ⟨by rfl, fun _ _ => by rfl⟩) (hHeld) ?_
  simp only [Act.put, List.setIfInBounds_toArray, List.set_cons_zero, List.set_cons_succ]
  refine held_takeD 8 (.slice Bv k2 c2) (some 57) (by rfl) (by rfl) (by kernel_rfl) (by kernel_rfl) (by kernel_rfl) (fun _ _ _ h => h) (.inl ⟨by rfl, fun _ _ => by rfl⟩) (hHeld) ?_
  simp only [Act.put, List.setIfInBounds_toArray, List.set_cons_zero, List.set_cons_succ]
  refine held_one 9 (by kernel_rfl) (by rfl) (fun K' hK' => ?_)
  go_simp
  refine (((unhide HSR5).kept d5).cw.store hgood5 sf hslf A k c m (unhide KA5) hm Bv k2 c2 v (unhide KB5) hv).mono ?_
  rintro e w6 ⟨rfl, hwp⟩
  refine hK'.out _ _ ((((unhide HSR5).kept d5).world hwp).elim fun _ hh => (by rw [unhide HO, unhide HSF]; exact hh.1.fx.selfR)) ?_
  clear hK' K'
  refine wpAnyH_done (by kernel_rfl) ?_ _
  refine NoPanic.normal ?_
  obtain ⟨cs6, hsr6, hmv6, -, hch6⟩ := ((unhide HSR5).kept d5).world hwp
  have hgr6 := (unhide HGR5).trans (Gr.store hgood5.snd hslf (unhide HLV) hm hv)
  have hmv : Mv G w w6 := (unhide HMV5).trans ((Mv.of d5).trans hmv6)
  have HSR6 := hide hsr6
  have HGR6 := hide hgr6
  have HMV6 := hide hmv
  clear hwp hsr6 hgr6 hmv hmv6 hch6
  go_wp2
  go_ret
  exact ⟨_, G, cs6, _, rfl, Wider.refl _ _, unhide HSR6, (unhide HGR6).mono (by omega), (unhide HMV6).chg, (unhide HMV6).tm⟩
end

end Go.Proofs.YgcsakGreat
