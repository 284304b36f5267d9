/-
  (*State).enter at an outer call without value: where the frame lies.
-/
import Derived.Test.YgcsakGreatEntA
import Derived.Test.YgcsakGreatFrB
namespace Go.Proofs.YgcsakGreat
set_option linter.unusedVariables false
set_option linter.unusedSimpArgs false
set_option maxRecDepth 100000
open Go.RowKit

theorem moveY_zero (ds : List YAcct) (f t : List Int) : moveY ds f t 0 = ds := by unfold moveY; rw [if_neg (by omega)]
/-- move of nothing -/
theorem moveZ_of {bw : Nat} {cs : List Value} {cb fee : List Int} {na nw nm : Nat} {w : World} (h : BS bw cs cb fee na nw nm w) (hna : na ≤ 999990) (f t : List Int) (hf : IsAddr f) (ht : IsAddr t) (A : Option Addr) (k c2 : Nat) (hn : Stab bw (fun w => IsNat w A k c2 0) w) :
    Calls Sakg.prog 198 #[.pointer (some ⟨bw, 0, none⟩), .agg (bv f).toArray, .agg (bv t).toArray, .slice A k c2] w (Step8 bw cs cb fee (na + 2) nw nm w) := by
  obtain ⟨ao, l, c, ds, h1, h2, h3, h4⟩ := h.accts
  refine (move_any 107 bw cs w ao l c ds h2 h.row h1 (by omega) h4.bnd (256 ^ 34) h4.bal (Nat.pow_pos (by omega)) (Nat.pow_le_pow_right (by omega) (by omega)) f t hf ht A k c2 0 hn big_pos).mono ?_
  rw [moveY_zero]
  rintro e w' ⟨he, A', n', c', k1, k2, k3, k4⟩
  exact ⟨he, _, h.turn0 k1 k2 (by omega) h4 k4, Same8.set (by omega) _, k4⟩

/-- the one row of a slice that has just been laid -/
theorem own_first {w : World} {base : Nat} {v : Value} {f1 : List Value} (h : w.ownsRow base 194 60 v 1 f1) : ∃ gf cF ext, v = .slice (some ⟨gf, 0, none⟩) 1 cF ∧ base ≤ gf ∧ RowT 194 w gf (f1 ++ ext) := by
  have hl := h.1
  rcases h.2 with ⟨h1, h2⟩ | ⟨gg, cap, cur, rfl, hbg, hg, hnc, hcm, hcs, htake⟩
  · cases h2
  · refine ⟨gg, cap, cur.toList.drop f1.length, rfl, hbg, ?_⟩
    have : f1 ++ cur.toList.drop f1.length = cur.toList := by
      rw [← htake, List.length_take, Nat.min_eq_left (by rw [Array.length_toList, hcs]; omega)]
      exact List.take_append_drop _ _
    rw [this]
    exact hg

def EnterPost (bw : Nat) (cs : List Value) (cb fee : List Int) (na nw nm : Nat) (fr : List Value) (w w' : World) : Prop :=
  ∃ gf cF cs' f1 ext csa wa, RowT 194 w' gf (f1 ++ ext) ∧ f1.length = 60 ∧ (∀ v ∈ f1, v.oneCell' = true) ∧ (∀ i, i < 52 → f1[i]? = fr[i]?) ∧ RowT 107 w' bw cs' ∧ BS bw csa cb fee (na + 2) nw nm wa ∧ (∀ i, i ≠ 9 → cs'[i]? = csa[i]?) ∧ cs'.length = 179 ∧ (∀ i, 8 ≤ i → i ≠ 9 → i ≠ 10 → cs'[i]? = cs[i]?) ∧
    cs'[9]? = some (.slice (some ⟨gf, 0, none⟩) 1 cF) ∧ cs'[10]? = some nilS ∧ wa.heap.size ≤ gf ∧ w.heap.size ≤ gf ∧ Chg bw w wa ∧ Chg bw wa w' ∧ Chg bw w w'

set_option maxHeartbeats 16000000 in
theorem enter_call {bw : Nat} {cs : List Value} {cb fee : List Int} {na nw nm : Nat} {w : World} (h : BS bw cs cb fee na nw nm w) (hna : na ≤ 900000) (hnw : nw ≤ 900000) (hnm : nm ≤ 900000) (h9 : cs[9]? = some nilS)
    (fr : List Value) (slf caller : List Int) (A : Option Addr) (kv cv : Nat) (hf : FrC fr 0 slf caller A kv cv) (hn : Stab bw (fun w => IsNat w A kv cv 0) w) :
    Calls Sakg.prog 110 #[.pointer (some ⟨bw, 0, none⟩), .agg fr.toArray] w fun e w' => e = .returned (.tuple #[]) ∧ EnterPost bw cs cb fee na nw nm fr w w' := by
  obtain ⟨W, hW⟩ : ∃ W, W = w.alloc (.cells fr.toArray 194) := ⟨_, rfl⟩
  have hb0 : Below w.heap.size w W := by rw [hW]; exact (Below.refl _ _).alloc (Nat.le_refl _) _
  have hr0 : RowT 194 W w.heap.size fr := by rw [hW]; exact RowT.new _ _ _
  have hbw := h.lt
  have HCL := hide (clone_any (h.kept hb0) (by omega) (by omega) (by omega))
  have HR0 := hide hr0
  clear hr0
  go_enter Sakg.func110, Sakg.ntmps110
  go_upto_region 1 with fail
  rw [← hW]
  clear hW
  go_upto_region 2 with (first
    | (go_at_call 196; refine (unhide HCL).mono ?_; rintro e w2 ⟨⟨rc, rfl, hrc⟩, b2⟩; have HRC := hide hrc; have hrcl := hrc.1; have HSZ : Hid ((Sakg.prog.info? 101).map (·.size) = some rc.length) := hide (by rw [hrcl]; exact sizeWorld); have hle2 : 52 + rc.length ≤ fr.length := by { rw [hrcl, hf.len]; omega }; have HR2 := hide ((unhide HR0).kept b2); clear hrc hrcl)
    | ((with_reducible refine at_store 101 ?_); refine wpList_store_part rfl 101 (.tmp 8) (.tmp 7) rfl w.heap.size 52 194 fr rc rfl rfl (unhide HR2) hle2 (unhide HSZ) (unhide HRC).one ?_; intro w3 hr3 ho3))
  have hf1 := hf.saved rc (unhide HRC)
  have hsame : ∀ i, i < 52 → (spl fr 52 rc)[i]? = fr[i]? := fun i hi => spl_get hle2 i (.inl hi)
  have b3 : Below w.heap.size w w3 := (hb0.trans (b2.mono hb0.size)).trans (ho3.below _ (Nat.le_refl _))
  generalize spl fr 52 rc = f1 at hr3 hf1 hsame
  have hs3 := h.kept b3
  have hn3 := hn.go (g := bw) (Chg.of b3)
  have e0 : w3.cell? ⟨w.heap.size, 0, none⟩ = some (.int .u8 0) := by rw [hr3.cell]; exact hf1.kind
  have HF1 := hide hf1
  have HSAME := hide hsame
  have HR3 := hide hr3
  have HS3 := hide hs3
  have HN3 := hide hn3
  have H9 := hide h9
  have hcb := hide (creates_any 0 w3 (by omega))
  have hcf : createsB 0 = false := rfl
  rw [hcf] at hcb
  have hfs := hf1.hself
  have hfc := hf1.hcaller
  have hu := Sakg.underlying26
  have hszs := hfs.size
  have hszc := hfc.size
  have h3l := hr3.lt
  have hbl3 := hs3.lt
  clear hf1 hsame hr3 hs3 hn3 h9 hf HCL HR0 HR2 HRC HSZ ho3 b2 h hn hcf
  obtain ⟨w5, hw5⟩ : ∃ w5, w5 = w3 := ⟨_, rfl⟩
  subst hw5
  go_upto_region 6 with (go_at_call 197; refine (unhide hcb).mono ?_; rintro e w4 ⟨rfl, rfl⟩)
  have d5 : Below w5.heap.size w5 w5.drew := Quiet.below ⟨1, rfl⟩ _
  have hbl5 : bw < w5.heap.size := (unhide HS3).lt
  have hwl5 := b3.size
  have hfr5 : ∀ wy, Chg bw w5 wy → RowT 194 wy w.heap.size f1 := fun wy hy => hy.row (unhide HR3) (by omega)
  have HFR5 := hide hfr5
  have hmv := hide (moveZ_of ((unhide HS3).kept d5) (by omega) caller slf hfc hfs A kv cv ((unhide HN3).go (Chg.of d5)))
  clear hfr5 e0
  refine wp_region_noPanic ?_
  refine wp_region_held_drew (S := fun w' => RowT 194 w' w.heap.size f1) (by kernel_rfl) (unhide HFR5 _ (Chg.of d5)) (fun hHeld => ?_)
  refine held_takeD 0 (.pointer (some ⟨bw, 0, none⟩)) (some 39) (by rfl) (by rfl) (by kernel_rfl) (by kernel_rfl) (by kernel_rfl) (fun _ _ _ h => h) (.inl ⟨by rfl, fun _ _ => by rfl⟩) (hHeld) ?_
  simp only [Act.put, List.setIfInBounds_toArray, List.set_cons_zero, List.set_cons_succ]
  refine held_takeD 1 (.pointer (some ⟨bw, 0, none⟩)) (some 40) (by rfl) (by rfl) (by kernel_rfl) (by kernel_rfl) (by kernel_rfl) (fun _ _ _ h => h) (.inl ⟨by rfl, fun _ _ => by go_simp⟩) (hHeld) ?_
  simp only [Act.put, List.setIfInBounds_toArray, List.set_cons_zero, List.set_cons_succ]
  refine held_takeD 2 (.pointer (some ⟨bw, 0, none⟩)) (some 41) (by rfl) (by rfl) (by kernel_rfl) (by kernel_rfl) (by kernel_rfl) (fun _ _ _ h => h) (.inl ⟨by rfl, fun _ _ => by go_simp⟩) (hHeld) ?_
  simp only [Act.put, List.setIfInBounds_toArray, List.set_cons_zero, List.set_cons_succ]
  refine held_takeD 3 (.pointer (some ⟨w.heap.size, 32, none⟩)) (some 42) (by rfl) (by rfl) (by kernel_rfl) (by kernel_rfl) (by kernel_rfl) (fun _ _ _ h => h) (.inl ⟨by rfl, fun _ _ => by go_simp⟩) (hHeld) ?_
  simp only [Act.put, List.setIfInBounds_toArray, List.set_cons_zero, List.set_cons_succ]
  refine held_takeD 4 (.agg (bv caller).toArray) (some 43) (by rfl) (by rfl) (by kernel_rfl) (by kernel_rfl) (by kernel_rfl) (fun _ _ _ h => h) (yieldsIf_load_mid (by rfl) _ _ rfl _ _ rfl _ _ (fun wz hS => (by have := hS.range 32 20; rwa [(unhide HF1).callerR] at this)) hu rfl hszc) (hHeld) ?_
  simp only [Act.put, List.setIfInBounds_toArray, List.set_cons_zero, List.set_cons_succ]
  refine held_takeD 5 (.pointer (some ⟨w.heap.size, 12, none⟩)) (some 44) (by rfl) (by rfl) (by kernel_rfl) (by kernel_rfl) (by kernel_rfl) (fun _ _ _ h => h) (.inl ⟨by rfl, fun _ _ => by go_simp⟩) (hHeld) ?_
  simp only [Act.put, List.setIfInBounds_toArray, List.set_cons_zero, List.set_cons_succ]
  refine held_takeD 6 (.agg (bv slf).toArray) (some 45) (by rfl) (by rfl) (by kernel_rfl) (by kernel_rfl) (by kernel_rfl) (fun _ _ _ h => h) (yieldsIf_load_mid (by rfl) _ _ rfl _ _ rfl _ _ (fun wz hS => (by have := hS.range 12 20; rwa [(unhide HF1).selfR] at this)) hu rfl hszs) (hHeld) ?_
  simp only [Act.put, List.setIfInBounds_toArray, List.set_cons_zero, List.set_cons_succ]
  refine held_takeD 7 (.pointer (some ⟨w.heap.size, 5, none⟩)) (some 46) (by rfl) (by rfl) (by kernel_rfl) (by kernel_rfl) (by kernel_rfl) (fun _ _ _ h => h) (.inl ⟨by rfl, fun _ _ => by go_simp⟩) (hHeld) ?_
  simp only [Act.put, List.setIfInBounds_toArray, List.set_cons_zero, List.set_cons_succ]
  refine held_takeD 8 (.slice A kv cv) (some 47) (by rfl) (by rfl) (by kernel_rfl) (by kernel_rfl) (by kernel_rfl) (fun _ _ _ h => h) (.inl ⟨by rfl, fun wS hS => by have hc : wS.cell? ⟨w.heap.size, 5, none⟩ = some (.slice A kv cv) := by { rw [hS.cell]; exact (unhide HF1).val }; go_simp⟩) (hHeld) ?_
  simp only [Act.put, List.setIfInBounds_toArray, List.set_cons_zero, List.set_cons_succ]
  refine held_one 9 (by kernel_rfl) (by rfl) (fun K' hK' => ?_)
  go_simp
  refine (unhide hmv).mono ?_
  rintro e w6 ⟨rfl, cs6, hs6, h68, hc6⟩
  refine hK'.out _ _ (unhide HFR5 _ ((Chg.of d5).trans hc6)) ?_
  clear hK' K'
  refine wpAnyH_done (by kernel_rfl) ?_ _
  refine NoPanic.normal ?_
  have c56 := (Chg.of (g := bw) d5).trans hc6
  have hr6 := hs6.row
  have hl6 := hs6.len
  have hbl6 : bw < w6.heap.size := hr6.lt
  have HS6 := hide hs6
  have H68 := hide h68
  have h69 : cs6[9]? = some nilS := by rw [h68 9 (by omega)]; exact unhide H9
  have hx6 : ∃ v, w6.cell? ⟨bw, 10, none⟩ = some v := by rw [hr6.cell, List.getElem?_eq_getElem (by rw [hl6]; omega)]; exact ⟨_, rfl⟩
  obtain ⟨v10, hx6⟩ := hx6
  have hz6 := hr6.froz 10
  have H69 := hide h69
  have HR6 := hide hr6
  clear h69 hr6 h68 hs6
  go_upto_region 8 with fail
  obtain ⟨w7, hw7⟩ : ∃ x, x = w6.setCell ⟨bw, 10, none⟩ (Value.slice none 0 0) := ⟨_, rfl⟩
  rw [← hw7]
  have o7 : Only bw w6 w7 := hw7 ▸ (Only.refl bw w6).setCell 10 (Value.slice none 0 0)
  have r7 := hw7 ▸ (unhide HR6).set 10 (Value.slice none 0 0)
  have h79 : (cs6.set 10 (Value.slice none 0 0))[9]? = some nilS := by rw [List.getElem?_set_ne (by omega)]; exact unhide H69
  have c57 : Chg bw w5 w7 := c56.trans (Chg.ofOnly o7)
  have f7 := unhide HFR5 w7 c57
  have hbl7 : bw < w7.heap.size := r7.lt
  have d7 : Below w7.heap.size w7 w7.drew := Quiet.below ⟨1, rfl⟩ _
  have hs7 := (unhide HS6).turn r7 (by rw [List.length_set]; exact hl6) (fun i hi => List.getElem?_set_ne (by omega)) (Chg.ofOnly o7)
  have h78 : ∀ i, 8 ≤ i → i ≠ 10 → (cs6.set 10 (Value.slice none 0 0))[i]? = cs[i]? := fun i hi hn => by rw [List.getElem?_set_ne (by omega)]; exact unhide H68 i hi
  have h710 : (cs6.set 10 (Value.slice none 0 0))[10]? = some nilS := List.getElem?_set_self (by rw [hl6]; omega)
  have hsz7 : w.heap.size ≤ w7.heap.size := by have := c57.size; omega
  generalize cs6.set 10 (Value.slice none 0 0) = cs7 at r7 h79 hs7 h78 h710
  have HS7 := hide hs7
  have H78 := hide h78
  have H710 := hide h710
  have hfw : ∀ wy, Chg bw w7 wy → RowT 194 wy w.heap.size f1 := fun wy hy => unhide HFR5 wy (c57.trans hy)
  have HFW := hide hfw
  have R7 := hide r7
  have H79 := hide h79
  have huF := Sakg.underlying194
  have hxl := (unhide HF1).len
  have hxo := (unhide HF1).one
  have hxs : (Sakg.prog.info? 194).map (·.size) = some f1.length := by rw [hxl]; exact sizeFrame
  clear hw7 hfw r7 h79 f7 hx6 hz6 hs7 h78 h710
  refine wp_region_noPanic ?_
  refine wp_region_held_drew (S := fun w' => Chg bw w7 w') (by kernel_rfl) (Chg.of d7) (fun hHeld => ?_)
  refine held_takeD 0 (.pointer (some ⟨bw, 0, none⟩)) (some 52) (by rfl) (by rfl) (by kernel_rfl) (by kernel_rfl) (by kernel_rfl) (fun _ _ _ h => h) (.inl ⟨by rfl, fun _ _ => by rfl⟩) (hHeld) ?_
  simp only [Act.put, List.setIfInBounds_toArray, List.set_cons_zero, List.set_cons_succ]
  refine held_takeD 1 (.pointer (some ⟨bw, 0, none⟩)) (some 53) (by rfl) (by rfl) (by kernel_rfl) (by kernel_rfl) (by kernel_rfl) (fun _ _ _ h => h) (.inl ⟨by rfl, fun _ _ => by rfl⟩) (hHeld) ?_
  simp only [Act.put, List.setIfInBounds_toArray, List.set_cons_zero, List.set_cons_succ]
  refine held_takeD 2 (.pointer (some ⟨bw, 0, none⟩)) (some 54) (by rfl) (by rfl) (by kernel_rfl) (by kernel_rfl) (by kernel_rfl) (fun _ _ _ h => h) (.inl ⟨by rfl, fun _ _ => by go_simp⟩) (hHeld) ?_
  simp only [Act.put, List.setIfInBounds_toArray, List.set_cons_zero, List.set_cons_succ]
  refine held_takeD 3 (.pointer (some ⟨bw, 9, none⟩)) (some 55) (by rfl) (by rfl) (by kernel_rfl) (by kernel_rfl) (by kernel_rfl) (fun _ _ _ h => h) (.inl ⟨by rfl, fun _ _ => by go_simp⟩) (hHeld) ?_
  simp only [Act.put, List.setIfInBounds_toArray, List.set_cons_zero, List.set_cons_succ]
  refine held_takeD 5 (.agg f1.toArray) (some 57) (by rfl) (by rfl) (by kernel_rfl) (by kernel_rfl) (by kernel_rfl) (fun _ _ _ h => h) (yieldsIf_load_mid (by rfl) _ _ rfl _ _ rfl _ _ (fun wz hS => (unhide HFW wz hS).rangeAll) huF rfl hxs) (hHeld) ?_
  simp only [Act.put, List.setIfInBounds_toArray, List.set_cons_zero, List.set_cons_succ]
  refine held_two 4 6 (by kernel_rfl) (by rfl) (by rfl) (fun K' hK' => ?_) (fun K' hK' => ?_)
  · have hcu : w7.drew.cell? ⟨bw, 9, none⟩ = some nilS := by { rw [((unhide R7).kept d7).cell]; exact unhide H79 }
    go_simp
    refine hK'.out _ _ (Chg.of d7) ?_
    clear hK' K'
    refine held_one 6 (by kernel_rfl) (by rfl) (fun K' hK' => ?_)
    refine if_build_one (some 58) rfl (by rfl) 103 (.tmp 57) rfl 194 60 456 Sakg.underlying103 _ infoFrame zeroF_len (by omega) (by omega) f1 rfl hxl (fun wn rn bn sn => ?_)
    have dn := d7.trans (bn.mono d7.size)
    refine hK'.out _ _ (Chg.of dn) ?_
    clear hK' K'
    simp only [Act.put, List.setIfInBounds_toArray, List.set_cons_zero, List.set_cons_succ]
    refine held_one 7 (by kernel_rfl) (by rfl) (fun K' hK' => ?_)
    refine if_append_at (some 59) rfl (by rfl) (.tmp 56) (.tmp 58) 103 rfl 194 60 456 Sakg.underlying103 _ infoFrame zeroF_len (by omega) w7.heap.size nilS 0 [] rfl (World.ownsRow_nil _ _ _ _) _ 194 f1 rfl rn hxl hxo (by omega) (by omega) (by have := dn.size; omega) (fun vp wp op grp bkp => ?_)
    have dp : Chg bw w7 wp := (Chg.of (g := bw) dn).trans ⟨grp.os, grp.tape, grp.output, grp.size, fun k hk _ => grp.block k hk (fun h => by cases h)⟩
    have op2 : wp.ownsRow w7.heap.size 194 60 vp 1 f1 := by simpa using op
    obtain ⟨gf, cp, ext, rfl, hgf, rowp⟩ := own_first op2
    have ROWP := hide rowp
    clear rowp
    refine hK'.out _ _ (dp) ?_
    clear hK' K'
    simp only [Act.put, List.setIfInBounds_toArray, List.set_cons_zero, List.set_cons_succ]
    refine held_takeD 8 (.pointer (some ⟨bw, 0, none⟩)) (some 60) (by rfl) (by rfl) (by kernel_rfl) (by kernel_rfl) (by kernel_rfl) (fun _ _ _ h => h) (.inl ⟨by rfl, fun _ _ => by go_simp⟩) (dp) ?_
    simp only [Act.put, List.setIfInBounds_toArray, List.set_cons_zero, List.set_cons_succ]
    refine held_takeD 9 (.pointer (some ⟨bw, 9, none⟩)) (some 61) (by rfl) (by rfl) (by kernel_rfl) (by kernel_rfl) (by kernel_rfl) (fun _ _ _ h => h) (.inl ⟨by rfl, fun _ _ => by go_simp⟩) (dp) ?_
    simp only [Act.put, List.setIfInBounds_toArray, List.set_cons_zero, List.set_cons_succ]
    refine held_one 10 (by kernel_rfl) (by rfl) (fun K' hK' => ?_)
    have hXp : RowT 107 wp bw cs7 := by { unfold RowT; rw [grp.block bw (by have := dn.size; omega) (fun h => by cases h)]; exact (unhide R7).kept dn }
    have hcx : wp.cell? ⟨bw, 9, none⟩ = some nilS := by { rw [hXp.cell]; exact unhide H79 }
    have hfx := hXp.froz 9
    go_simp
    obtain ⟨wS, hwS⟩ : ∃ x, x = wp.setCell ⟨bw, 9, none⟩ (Value.slice (some ⟨gf, 0, none⟩) 1 cp) := ⟨_, rfl⟩
    rw [← hwS]
    have oS : Only bw wp wS := hwS ▸ (Only.refl bw wp).setCell 9 (Value.slice (some ⟨gf, 0, none⟩) 1 cp)
    have dS : Chg bw w7 wS := dp.trans (Chg.ofOnly oS)
    have rS := hwS ▸ hXp.set 9 (Value.slice (some ⟨gf, 0, none⟩) 1 cp)
    clear hwS
    refine hK'.out _ _ (dS) ?_
    clear hK' K'
    refine wpAnyH_done (by kernel_rfl) ?_ _
    refine NoPanic.normal ?_
    go_wp2_with fail
    refine bodyPost_done rfl rfl ?_
    exact ⟨rfl, gf, cp, _, f1, ext, cs7, w7, (unhide ROWP).only oS (by have := hbl5; omega), (unhide HF1).len, (unhide HF1).one, unhide HSAME, rS, unhide HS7, fun i h9 => List.getElem?_set_ne (Ne.symm h9), by rw [List.length_set]; exact (unhide HS7).len, fun i h8 h9 h10 => by rw [List.getElem?_set_ne (Ne.symm h9)]; exact unhide H78 i h8 h10, List.getElem?_set_self (by rw [(unhide HS7).len]; omega), by rw [List.getElem?_set_ne (by omega)]; exact unhide H710, hgf, Nat.le_trans hsz7 hgf, (Chg.of b3).trans c57, dS, (Chg.of b3).trans (c57.trans dS)⟩
  · refine if_build_one (some 58) rfl (by rfl) 103 (.tmp 57) rfl 194 60 456 Sakg.underlying103 _ infoFrame zeroF_len (by omega) (by omega) f1 rfl hxl (fun wn rn bn sn => ?_)
    have dn := d7.trans (bn.mono d7.size)
    refine hK'.out _ _ (Chg.of dn) ?_
    clear hK' K'
    simp only [Act.put, List.setIfInBounds_toArray, List.set_cons_zero, List.set_cons_succ]
    refine held_one 4 (by kernel_rfl) (by rfl) (fun K' hK' => ?_)
    have hcu : wn.cell? ⟨bw, 9, none⟩ = some nilS := by { rw [((unhide R7).kept dn).cell]; exact unhide H79 }
    go_simp
    refine hK'.out _ _ (Chg.of dn) ?_
    clear hK' K'
    refine held_one 7 (by kernel_rfl) (by rfl) (fun K' hK' => ?_)
    refine if_append_at (some 59) rfl (by rfl) (.tmp 56) (.tmp 58) 103 rfl 194 60 456 Sakg.underlying103 _ infoFrame zeroF_len (by omega) w7.heap.size nilS 0 [] rfl (World.ownsRow_nil _ _ _ _) _ 194 f1 rfl rn hxl hxo (by omega) (by omega) (by have := dn.size; omega) (fun vp wp op grp bkp => ?_)
    have dp : Chg bw w7 wp := (Chg.of (g := bw) dn).trans ⟨grp.os, grp.tape, grp.output, grp.size, fun k hk _ => grp.block k hk (fun h => by cases h)⟩
    have op2 : wp.ownsRow w7.heap.size 194 60 vp 1 f1 := by simpa using op
    obtain ⟨gf, cp, ext, rfl, hgf, rowp⟩ := own_first op2
    have ROWP := hide rowp
    clear rowp
    refine hK'.out _ _ (dp) ?_
    clear hK' K'
    simp only [Act.put, List.setIfInBounds_toArray, List.set_cons_zero, List.set_cons_succ]
    refine held_takeD 8 (.pointer (some ⟨bw, 0, none⟩)) (some 60) (by rfl) (by rfl) (by kernel_rfl) (by kernel_rfl) (by kernel_rfl) (fun _ _ _ h => h) (.inl ⟨by rfl, fun _ _ => by go_simp⟩) (dp) ?_
    simp only [Act.put, List.setIfInBounds_toArray, List.set_cons_zero, List.set_cons_succ]
    refine held_takeD 9 (.pointer (some ⟨bw, 9, none⟩)) (some 61) (by rfl) (by rfl) (by kernel_rfl) (by kernel_rfl) (by kernel_rfl) (fun _ _ _ h => h) (.inl ⟨by rfl, fun _ _ => by go_simp⟩) (dp) ?_
    simp only [Act.put, List.setIfInBounds_toArray, List.set_cons_zero, List.set_cons_succ]
    refine held_one 10 (by kernel_rfl) (by rfl) (fun K' hK' => ?_)
    have hXp : RowT 107 wp bw cs7 := by { unfold RowT; rw [grp.block bw (by have := dn.size; omega) (fun h => by cases h)]; exact (unhide R7).kept dn }
    have hcx : wp.cell? ⟨bw, 9, none⟩ = some nilS := by { rw [hXp.cell]; exact unhide H79 }
    have hfx := hXp.froz 9
    go_simp
    obtain ⟨wS, hwS⟩ : ∃ x, x = wp.setCell ⟨bw, 9, none⟩ (Value.slice (some ⟨gf, 0, none⟩) 1 cp) := ⟨_, rfl⟩
    rw [← hwS]
    have oS : Only bw wp wS := hwS ▸ (Only.refl bw wp).setCell 9 (Value.slice (some ⟨gf, 0, none⟩) 1 cp)
    have dS : Chg bw w7 wS := dp.trans (Chg.ofOnly oS)
    have rS := hwS ▸ hXp.set 9 (Value.slice (some ⟨gf, 0, none⟩) 1 cp)
    clear hwS
    refine hK'.out _ _ (dS) ?_
    clear hK' K'
    refine wpAnyH_done (by kernel_rfl) ?_ _
    refine NoPanic.normal ?_
    go_wp2_with fail
    refine bodyPost_done rfl rfl ?_
    exact ⟨rfl, gf, cp, _, f1, ext, cs7, w7, (unhide ROWP).only oS (by have := hbl5; omega), (unhide HF1).len, (unhide HF1).one, unhide HSAME, rS, unhide HS7, fun i h9 => List.getElem?_set_ne (Ne.symm h9), by rw [List.length_set]; exact (unhide HS7).len, fun i h8 h9 h10 => by rw [List.getElem?_set_ne (Ne.symm h9)]; exact unhide H78 i h8 h10, List.getElem?_set_self (by rw [(unhide HS7).len]; omega), by rw [List.getElem?_set_ne (by omega)]; exact unhide H710, hgf, Nat.le_trans hsz7 hgf, (Chg.of b3).trans c57, dS, (Chg.of b3).trans (c57.trans dS)⟩

end Go.Proofs.YgcsakGreat
