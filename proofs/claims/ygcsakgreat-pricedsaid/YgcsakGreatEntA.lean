/-
  (*State).enter.
-/
import Derived.Test.YgcsakGreatCloA
namespace Go.Proofs.YgcsakGreat
set_option linter.unusedVariables false
set_option linter.unusedSimpArgs false
set_option maxRecDepth 100000
open Go.RowKit

theorem range_eq2 {cs cs' : List Value} (o n : Nat) (h : ∀ i, o ≤ i → i < o + n → cs'[i]? = cs[i]?) : (cs'.drop o).take n = (cs.drop o).take n := by
  apply List.ext_getElem?
  intro j
  rw [List.getElem?_take, List.getElem?_take]
  split
  · rw [List.getElem?_drop, List.getElem?_drop, h (o + j) (by omega) (by omega)]
  · rfl
theorem spl_one {zs cs : List Value} {o : Nat} (h : ∀ v ∈ zs, v.oneCell' = true) (h2 : ∀ v ∈ cs, v.oneCell' = true) : ∀ v ∈ spl zs o cs, v.oneCell' = true := by
  intro v hv
  unfold spl at hv
  rcases List.mem_append.1 hv with hv | hv
  · rcases List.mem_append.1 hv with hv | hv
    · exact h v (List.mem_of_mem_take hv)
    · exact h2 v hv
  · exact h v (List.mem_of_mem_drop hv)
theorem set_one {zs : List Value} {i : Nat} {u : Value} (h : ∀ v ∈ zs, v.oneCell' = true) (h2 : u.oneCell' = true) : ∀ v ∈ zs.set i u, v.oneCell' = true := by
  intro v hv
  rcases List.mem_or_eq_of_mem_set hv with h1 | h1
  · exact h v h1
  · rw [h1]; exact h2

theorem own_slice2 {w : World} {base e sz : Nat} {v : Value} {n : Nat} {xs : List Value} (h : w.ownsRow base e sz v n xs) : ∃ A c, v = .slice A n c := by
  rcases h.2 with ⟨h1, h2⟩ | ⟨g, cap, cur, hv, _⟩
  · exact ⟨none, 0, by rw [h1, h2]⟩
  · exact ⟨_, _, hv⟩

/-- a frame's cells -/
structure FrC (r : List Value) (k : Nat) (slf caller : List Int) (A : Option Addr) (kv cv : Nat) : Prop where
  len : r.length = 60
  one : ∀ v ∈ r, v.oneCell' = true
  kind : r[0]? = some (.int .u8 k)
  val : r[5]? = some (.slice A kv cv)
  selfR : (r.drop 12).take 20 = bv slf
  callerR : (r.drop 32).take 20 = bv caller
  hself : IsAddr slf
  hcaller : IsAddr caller
theorem FrC.set {r : List Value} {k : Nat} {slf caller : List Int} {A : Option Addr} {kv cv : Nat} (h : FrC r k slf caller A kv cv) (i : Nat) (h0 : 0 < i) (h5 : i ≠ 5) (hi : i < 12) (v : Value) (hv : v.oneCell' = true) : FrC (r.set i v) k slf caller A kv cv :=
  ⟨by rw [List.length_set]; exact h.len, set_one h.one hv, by rw [List.getElem?_set_ne (by omega)]; exact h.kind, by rw [List.getElem?_set_ne (by omega)]; exact h.val,
    by rw [range_eq2 12 20 (fun j h1 _ => List.getElem?_set_ne (by omega))]; exact h.selfR, by rw [range_eq2 32 20 (fun j h1 _ => List.getElem?_set_ne (by omega))]; exact h.callerR, h.hself, h.hcaller⟩
theorem FrC.setKind {r : List Value} {k : Nat} {slf caller : List Int} {A : Option Addr} {kv cv : Nat} (h : FrC r k slf caller A kv cv) (k' : Nat) : FrC (r.set 0 (.int .u8 k')) k' slf caller A kv cv :=
  ⟨by rw [List.length_set]; exact h.len, set_one h.one rfl, List.getElem?_set_self (by rw [h.len]; omega), by rw [List.getElem?_set_ne (by omega)]; exact h.val,
    by rw [range_eq2 12 20 (fun j h1 _ => List.getElem?_set_ne (by omega))]; exact h.selfR, by rw [range_eq2 32 20 (fun j h1 _ => List.getElem?_set_ne (by omega))]; exact h.callerR, h.hself, h.hcaller⟩
theorem FrC.saved {r : List Value} {k : Nat} {slf caller : List Int} {A : Option Addr} {kv cv : Nat} (h : FrC r k slf caller A kv cv) (c : List Value) (hc : Slices 8 c) : FrC (spl r 52 c) k slf caller A kv cv := by
  have hle : 52 + c.length ≤ r.length := by rw [h.len, hc.1]; omega
  have g : ∀ i, i < 52 → (spl r 52 c)[i]? = r[i]? := fun i hi => spl_get hle i (.inl hi)
  exact ⟨by rw [spl_len _ _ _ hle]; exact h.len, spl_one h.one hc.one, by rw [g 0 (by omega)]; exact h.kind, by rw [g 5 (by omega)]; exact h.val,
    by rw [range_eq2 12 20 (fun j h1 h2 => g j (by omega))]; exact h.selfR, by rw [range_eq2 32 20 (fun j h1 h2 => g j (by omega))]; exact h.callerR, h.hself, h.hcaller⟩

def zeroF : List Value := [.int .u8 0, .int .u8 0, .bool false] ++ (List.replicate 9 nilS ++ (bv (zeros 40) ++ List.replicate 8 nilS))
theorem zeroF_len : zeroF.length = 60 := by simp [zeroF, bv_len, zeros_len]
theorem infoFrame : (Sakg.prog.info? 194).map (fun i => (i.zero, i.size, i.bytes)) = some (some (.agg zeroF.toArray), 60, 456) := by kernel_rfl
theorem infoFrame2 : (Sakg.prog.info? 194).map (fun i => (i.zero, i.size)) = some (some (.agg zeroF.toArray), 60) := by kernel_rfl
theorem sizeFrame : (Sakg.prog.info? 194).map (·.size) = some 60 := by kernel_rfl

/-- move, told of an earlier state: what is behind the accounts stays -/
theorem moveAt_of {bw : Nat} {cs cs1 : List Value} {cb fee : List Int} {na nw nm : Nat} {w w1 : World} (h : BS bw cs cb fee na nw nm w) (hna : na ≤ 999999) (hc : Chg bw w w1) (hr : RowT 107 w1 bw cs1) (hl : cs1.length = 179) (h0 : cs1[0]? = cs[0]?)
    (f t : List Int) (hf : IsAddr f) (ht : IsAddr t) (A : Option Addr) (k c2 m : Nat) (hn : Stab bw (fun w => IsNat w A k c2 m) w1) (hm : m < BIG) :
    Calls Sakg.prog 198 #[.pointer (some ⟨bw, 0, none⟩), .agg (bv f).toArray, .agg (bv t).toArray, .slice A k c2] w1 fun e w' => e = .returned (.tuple #[]) ∧ ∃ cs', RowT 107 w' bw cs' ∧ cs'.length = 179 ∧ Same8 cs1 cs' ∧ Chg bw w1 w' := by
  obtain ⟨ao, l, c, ds, h1, h2, h3, h4⟩ := h.accts
  refine (move_any 107 bw cs1 w1 ao l c ds (h2.go hc) hr (by rw [h0]; exact h1) (by omega) h4.bnd (256 ^ 34) h4.bal (Nat.pow_pos (by omega)) (Nat.pow_le_pow_right (by omega) (by omega)) f t hf ht A k c2 m hn hm).mono ?_
  rintro e w' ⟨he, A', n', c', k1, k2, k3, k4⟩
  exact ⟨he, _, k1, by rw [List.length_set]; exact hl, Same8.set (by omega) _, k4⟩

set_option maxHeartbeats 16000000 in
theorem enter_any {bw : Nat} {cs : List Value} {cb fee : List Int} {na nw nm : Nat} {w : World} (h : BS bw cs cb fee na nw nm w) (hna : na ≤ 900000) (hnw : nw ≤ 900000) (hnm : nm ≤ 900000) (h9 : cs[9]? = some nilS)
    (fr : List Value) (k : Nat) (slf caller : List Int) (A : Option Addr) (kv cv m : Nat) (hf : FrC fr k slf caller A kv cv) (hk : k = 0 ∨ k = 1) (hn : Stab bw (fun w => IsNat w A kv cv m) w) (hm : m < BIG) :
    Calls Sakg.prog 110 #[.pointer (some ⟨bw, 0, none⟩), .agg fr.toArray] w fun e w' => e = .returned (.tuple #[]) ∧ Chg bw w w' := by
  obtain ⟨W, hW⟩ : ∃ W, W = w.alloc (.cells fr.toArray 194) := ⟨_, rfl⟩
  have hb0 : Below w.heap.size w W := by rw [hW]; exact (Below.refl _ _).alloc (Nat.le_refl _) _
  have hr0 : RowT 194 W w.heap.size fr := by rw [hW]; exact RowT.new _ _ _
  have hbw := h.lt
  have HCL := hide (clone_any (h.kept hb0) (by omega) (by omega) (by omega))
  have HR0 := hide hr0
  clear hr0
  go_enter Sakg.func110, Sakg.ntmps110
  go_upto_region 1 with fail
  rw [← hW]
  clear hW
  go_upto_region 2 with (first
    | (go_at_call 196; refine (unhide HCL).mono ?_; rintro e w2 ⟨⟨rc, rfl, hrc⟩, b2⟩; have HRC := hide hrc; have hrcl := hrc.1; have HSZ : Hid ((Sakg.prog.info? 101).map (·.size) = some rc.length) := hide (by rw [hrcl]; exact sizeWorld); have hle2 : 52 + rc.length ≤ fr.length := by { rw [hrcl, hf.len]; omega }; have HR2 := hide ((unhide HR0).kept b2); clear hrc hrcl)
    | ((with_reducible refine at_store 101 ?_); refine wpList_store_part rfl 101 (.tmp 8) (.tmp 7) rfl w.heap.size 52 194 fr rc rfl rfl (unhide HR2) hle2 (unhide HSZ) (unhide HRC).one ?_; intro w3 hr3 ho3))
  have hf1 := hf.saved rc (unhide HRC)
  have b3 : Below w.heap.size w w3 := (hb0.trans (b2.mono hb0.size)).trans (ho3.below _ (Nat.le_refl _))
  generalize spl fr 52 rc = f1 at hr3 hf1
  have hs3 := h.kept b3
  have hn3 := hn.go (g := bw) (Chg.of b3)
  have e0 : w3.cell? ⟨w.heap.size, 0, none⟩ = some (.int .u8 k) := by rw [hr3.cell]; exact hf1.kind
  have HF1 := hide hf1
  have HR3 := hide hr3
  have HS3 := hide hs3
  have HN3 := hide hn3
  have H9 := hide h9
  have hcb := hide (creates_any k w3 (by omega))
  have hfs := hf1.hself
  have hfc := hf1.hcaller
  have hu := Sakg.underlying26
  have hszs := hfs.size
  have hszc := hfc.size
  have h3l := hr3.lt
  have hbl3 := hs3.lt
  clear hf1 hr3 hs3 hn3 h9 hf HCL HR0 HR2 HRC HSZ ho3 b2 h hn
  go_upto_if 11 with (go_at_call 197; refine (unhide hcb).mono ?_; rintro e w4 ⟨rfl, rfl⟩)
  go_cut [3] (fun s3 wc => s3 = .pointer (some ⟨w.heap.size, 0, none⟩) ∧ ∃ (cs0 cs1 : List Value) (wz : World), BS bw cs0 cb fee (na + 1) nw nm wz ∧ Chg bw wz wc ∧ RowT 107 wc bw cs1 ∧ cs1.length = 179 ∧ cs1[0]? = cs0[0]? ∧ cs1[9]? = some nilS ∧ RowT 194 wc w.heap.size f1 ∧ Chg bw w3 wc)
  case first =>
    rcases hk with rfl | rfl
    · have hcf : createsB 0 = false := rfl
      go_wp2_with fail
      go_meet
      case rel => exact ⟨rfl, cs, cs, w3, (unhide HS3).more (by omega) (Nat.le_refl _) (Nat.le_refl _), Chg.refl _ _, (unhide HS3).row, (unhide HS3).len, rfl, unhide H9, unhide HR3, Chg.refl _ _⟩
    · have hcf : createsB 1 = true := rfl
      have d3 : Below w3.heap.size w3 w3.drew := Quiet.below ⟨1, rfl⟩ _
      have hfr : ∀ wz, Chg bw w3 wz → RowT 194 wz w.heap.size f1 := fun wz hz => hz.row (unhide HR3) (by omega)
      have HFR := hide hfr
      clear hfr
      go_upto_region 3 with fail
      refine wp_region_noPanic ?_
      refine wp_region_held_drew (S := fun w' => RowT 194 w' w.heap.size f1) (by kernel_rfl) (unhide HFR _ (Chg.of d3)) (fun hHeld => ?_)
      refine held_takeD 0 (.pointer (some ⟨bw, 0, none⟩)) (some 12) (by rfl) (by rfl) (by kernel_rfl) (by kernel_rfl) (by kernel_rfl) (fun _ _ _ h => h) (.inl ⟨by rfl, fun _ _ => by rfl⟩) (hHeld) ?_
      simp only [Act.put, List.setIfInBounds_toArray, List.set_cons_zero, List.set_cons_succ]
      refine held_takeD 1 (.pointer (some ⟨bw, 0, none⟩)) (some 13) (by rfl) (by rfl) (by kernel_rfl) (by kernel_rfl) (by kernel_rfl) (fun _ _ _ h => h) (.inl ⟨by rfl, fun _ _ => by go_simp⟩) (hHeld) ?_
      simp only [Act.put, List.setIfInBounds_toArray, List.set_cons_zero, List.set_cons_succ]
      refine held_takeD 2 (.pointer (some ⟨bw, 0, none⟩)) (some 14) (by rfl) (by rfl) (by kernel_rfl) (by kernel_rfl) (by kernel_rfl) (fun _ _ _ h => h) (.inl ⟨by rfl, fun _ _ => by go_simp⟩) (hHeld) ?_
      simp only [Act.put, List.setIfInBounds_toArray, List.set_cons_zero, List.set_cons_succ]
      refine held_takeD 3 (.pointer (some ⟨w.heap.size, 12, none⟩)) (some 15) (by rfl) (by rfl) (by kernel_rfl) (by kernel_rfl) (by kernel_rfl) (fun _ _ _ h => h) (.inl ⟨by rfl, fun _ _ => by go_simp⟩) (hHeld) ?_
      simp only [Act.put, List.setIfInBounds_toArray, List.set_cons_zero, List.set_cons_succ]
      refine held_takeD 4 (.agg (bv slf).toArray) (some 16) (by rfl) (by rfl) (by kernel_rfl) (by kernel_rfl) (by kernel_rfl) (fun _ _ _ h => h) (yieldsIf_load_mid (by rfl) _ _ rfl _ _ rfl _ _ (fun wz hS => (by have := hS.range 12 20; rwa [(unhide HF1).selfR] at this)) hu rfl hszs) (hHeld) ?_
      simp only [Act.put, List.setIfInBounds_toArray, List.set_cons_zero, List.set_cons_succ]
      refine held_one 5 (by kernel_rfl) (by rfl) (fun K' hK' => ?_)
      go_simp
      refine (num_any 1 w3.drew (by omega)).mono ?_
      rintro e w5 ⟨A5, k5, c5, rfl, n5, N5, b5⟩
      refine hK'.out _ _ (unhide HFR _ (Chg.of (d3.trans (b5.mono d3.size)))) ?_
      clear hK' K'
      have d5 := d3.trans (b5.mono d3.size)
      have o5 : Off bw A5 k5 := N5.off (by have : w3.drew.heap.size = w3.heap.size := rfl; omega) _
      refine held_one 6 (by kernel_rfl) (by rfl) (fun K' hK' => ?_)
      go_simp
      refine (((unhide HS3).kept d5).setNonce (by omega) slf hfs A5 k5 c5 1 (Stab.nat n5 o5) (by have := big_ge; omega)).mono ?_
      rintro e w6 ⟨rfl, cs6, hs6, h68, hc6⟩
      refine hK'.out _ _ (unhide HFR _ ((Chg.of d5).trans hc6)) ?_
      clear hK' K'
      refine wpAnyH_done (by kernel_rfl) ?_ _
      refine NoPanic.normal ?_
      have c36 := (Chg.of (g := bw) d5).trans hc6
      have h69 : cs6[9]? = some nilS := by rw [h68 9 (by omega)]; exact unhide H9
      have HS6 := hide hs6
      have H69 := hide h69
      have hbl6 := hs6.lt
      have hc66 := hs6.c6
      have d6 : Below w6.heap.size w6 w6.drew := Quiet.below ⟨1, rfl⟩ _
      have HC66 := hide hc66
      clear hs6 h69 hc66 n5 N5 o5 h68
      go_upto_region 4 with fail
      refine wp_region_noPanic ?_
      refine wp_region_held_drew (S := fun w' => RowT 194 w' w.heap.size f1) (by kernel_rfl) (unhide HFR _ (c36.trans (Chg.of d6))) (fun hHeld => ?_)
      refine held_takeD 0 (.pointer (some ⟨bw, 0, none⟩)) (some 19) (by rfl) (by rfl) (by kernel_rfl) (by kernel_rfl) (by kernel_rfl) (fun _ _ _ h => h) (.inl ⟨by rfl, fun _ _ => by rfl⟩) (hHeld) ?_
      simp only [Act.put, List.setIfInBounds_toArray, List.set_cons_zero, List.set_cons_succ]
      refine held_takeD 1 (.pointer (some ⟨bw, 0, none⟩)) (some 20) (by rfl) (by rfl) (by kernel_rfl) (by kernel_rfl) (by kernel_rfl) (fun _ _ _ h => h) (.inl ⟨by rfl, fun _ _ => by rfl⟩) (hHeld) ?_
      simp only [Act.put, List.setIfInBounds_toArray, List.set_cons_zero, List.set_cons_succ]
      refine held_takeD 2 (.pointer (some ⟨bw, 0, none⟩)) (some 21) (by rfl) (by rfl) (by kernel_rfl) (by kernel_rfl) (by kernel_rfl) (fun _ _ _ h => h) (.inl ⟨by rfl, fun _ _ => by go_simp⟩) (hHeld) ?_
      simp only [Act.put, List.setIfInBounds_toArray, List.set_cons_zero, List.set_cons_succ]
      refine held_takeD 3 (.pointer (some ⟨bw, 0, none⟩)) (some 22) (by rfl) (by rfl) (by kernel_rfl) (by kernel_rfl) (by kernel_rfl) (fun _ _ _ h => h) (.inl ⟨by rfl, fun _ _ => by go_simp⟩) (hHeld) ?_
      simp only [Act.put, List.setIfInBounds_toArray, List.set_cons_zero, List.set_cons_succ]
      refine held_takeD 4 (.pointer (some ⟨bw, 6, none⟩)) (some 23) (by rfl) (by rfl) (by kernel_rfl) (by kernel_rfl) (by kernel_rfl) (fun _ _ _ h => h) (.inl ⟨by rfl, fun _ _ => by go_simp⟩) (hHeld) ?_
      simp only [Act.put, List.setIfInBounds_toArray, List.set_cons_zero, List.set_cons_succ]
      refine held_takeD 6 (.pointer (some ⟨w.heap.size, 12, none⟩)) (some 25) (by rfl) (by rfl) (by kernel_rfl) (by kernel_rfl) (by kernel_rfl) (fun _ _ _ h => h) (.inl ⟨by rfl, fun _ _ => by go_simp⟩) (hHeld) ?_
      simp only [Act.put, List.setIfInBounds_toArray, List.set_cons_zero, List.set_cons_succ]
      refine held_takeD 7 (.agg (bv slf).toArray) (some 26) (by rfl) (by rfl) (by kernel_rfl) (by kernel_rfl) (by kernel_rfl) (fun _ _ _ h => h) (yieldsIf_load_mid (by rfl) _ _ rfl _ _ rfl _ _ (fun wz hS => (by have := hS.range 12 20; rwa [(unhide HF1).selfR] at this)) hu rfl hszs) (hHeld) ?_
      simp only [Act.put, List.setIfInBounds_toArray, List.set_cons_zero, List.set_cons_succ]
      refine held_one 5 (by kernel_rfl) (by rfl) (fun K' hK' => ?_)
      have hcu := ((unhide HS6).kept d6).cell (unhide HC66)
      go_simp
      refine hK'.out _ _ (unhide HFR _ (c36.trans (Chg.of d6))) ?_
      clear hK' K' hcu
      refine held_one 8 (by kernel_rfl) (by rfl) (fun K' hK' => ?_)
      go_simp
      refine ((SAddrs.nil bw w6.drew).with (by have : w6.drew.heap.size = w6.heap.size := rfl; omega) slf hfs (by omega)).mono ?_
      rintro e w7 ⟨A7, k7, c7, rfl, -, b7⟩
      refine hK'.out _ _ (unhide HFR _ (c36.trans (Chg.of (d6.trans (b7.mono d6.size))))) ?_
      clear hK' K'
      have d7 := d6.trans (b7.mono d6.size)
      have f7 := unhide HFR _ (c36.trans (Chg.of d7))
      refine held_takeD 9 (.pointer (some ⟨bw, 0, none⟩)) (some 28) (by rfl) (by rfl) (by kernel_rfl) (by kernel_rfl) (by kernel_rfl) (fun _ _ _ h => h) (.inl ⟨by rfl, fun _ _ => by go_simp⟩) (f7) ?_
      simp only [Act.put, List.setIfInBounds_toArray, List.set_cons_zero, List.set_cons_succ]
      refine held_takeD 10 (.pointer (some ⟨bw, 0, none⟩)) (some 29) (by rfl) (by rfl) (by kernel_rfl) (by kernel_rfl) (by kernel_rfl) (fun _ _ _ h => h) (.inl ⟨by rfl, fun _ _ => by go_simp⟩) (f7) ?_
      simp only [Act.put, List.setIfInBounds_toArray, List.set_cons_zero, List.set_cons_succ]
      refine held_takeD 11 (.pointer (some ⟨bw, 6, none⟩)) (some 30) (by rfl) (by rfl) (by kernel_rfl) (by kernel_rfl) (by kernel_rfl) (fun _ _ _ h => h) (.inl ⟨by rfl, fun _ _ => by go_simp⟩) (f7) ?_
      simp only [Act.put, List.setIfInBounds_toArray, List.set_cons_zero, List.set_cons_succ]
      refine held_one 12 (by kernel_rfl) (by rfl) (fun K' hK' => ?_)
      have r7 := ((unhide HS6).kept d7).row
      have hcx := ((unhide HS6).kept d7).cell (unhide HC66)
      have hfx := r7.froz 6
      go_simp
      obtain ⟨wS, hwS⟩ : ∃ x, x = w7.setCell ⟨bw, 6, none⟩ (Value.slice A7 k7 c7) := ⟨_, rfl⟩
      rw [← hwS]
      have oS : Only bw w7 wS := hwS ▸ (Only.refl bw w7).setCell 6 (Value.slice A7 k7 c7)
      have rS := hwS ▸ r7.set 6 (Value.slice A7 k7 c7)
      have c6S : Chg bw w6 wS := (Chg.of d7).trans (Chg.ofOnly oS)
      have fS := unhide HFR wS (c36.trans c6S)
      clear hwS
      refine hK'.out _ _ fS ?_
      clear hK' K'
      refine wpAnyH_done (by kernel_rfl) ?_ _
      refine NoPanic.normal ?_
      have FS := hide fS
      have RS := hide rS
      clear fS rS r7 f7 hcx hfx
      go_wp2_with fail
      go_meet
      case rel => exact ⟨rfl, cs6, cs6.set 6 (Value.slice A7 k7 c7), w6, unhide HS6, c6S, unhide RS, by rw [List.length_set]; exact (unhide HS6).len, List.getElem?_set_ne (by omega), by rw [List.getElem?_set_ne (by omega)]; exact unhide H69, unhide FS, c36.trans c6S⟩
  case rest =>
    obtain ⟨rfl, cs0, cs1, wz, hsz, hcz, hr1, hl1, h10, h19, hfr, hc3⟩ := hcut
    obtain ⟨w5, hw5⟩ : ∃ w5, w5 = wc := ⟨_, rfl⟩
    subst hw5
    have t3 : ((k : Int) != 3) = true := by rw [bne_iff_ne]; omega
    have t7 : ((k : Int) != 7) = true := by rw [bne_iff_ne]; omega
    have e0' : w5.cell? ⟨w.heap.size, 0, none⟩ = some (.int .u8 k) := by rw [hfr.cell]; exact (unhide HF1).kind
    have d5 : Below w5.heap.size w5 w5.drew := Quiet.below ⟨1, rfl⟩ _
    have hbl5 : bw < w5.heap.size := hr1.lt
    have hwl5 := hc3.size
    have hfr5 : ∀ wy, Chg bw w5 wy → RowT 194 wy w.heap.size f1 := fun wy hy => hy.row hfr (by omega)
    have HFR5 := hide hfr5
    have hmv := hide (moveAt_of hsz (by omega) (hcz.trans (Chg.of d5)) (hr1.kept d5) hl1 h10 caller slf hfc hfs A kv cv m ((unhide HN3).go (hc3.trans (Chg.of d5))) hm)
    have H19 := hide h19
    have HCZ := hide hcz
    clear hsz hr1 h10 hfr hfr5 h19 e0 hcz
    go_upto_region 6 with fail
    refine wp_region_noPanic ?_
    refine wp_region_held_drew (S := fun w' => RowT 194 w' w.heap.size f1) (by kernel_rfl) (unhide HFR5 _ (Chg.of d5)) (fun hHeld => ?_)
    refine held_takeD 0 (.pointer (some ⟨bw, 0, none⟩)) (some 39) (by rfl) (by rfl) (by kernel_rfl) (by kernel_rfl) (by kernel_rfl) (fun _ _ _ h => h) (.inl ⟨by rfl, fun _ _ => by rfl⟩) (hHeld) ?_
    simp only [Act.put, List.setIfInBounds_toArray, List.set_cons_zero, List.set_cons_succ]
    refine held_takeD 1 (.pointer (some ⟨bw, 0, none⟩)) (some 40) (by rfl) (by rfl) (by kernel_rfl) (by kernel_rfl) (by kernel_rfl) (fun _ _ _ h => h) (.inl ⟨by rfl, fun _ _ => by go_simp⟩) (hHeld) ?_
    simp only [Act.put, List.setIfInBounds_toArray, List.set_cons_zero, List.set_cons_succ]
    refine held_takeD 2 (.pointer (some ⟨bw, 0, none⟩)) (some 41) (by rfl) (by rfl) (by kernel_rfl) (by kernel_rfl) (by kernel_rfl) (fun _ _ _ h => h) (.inl ⟨by rfl, fun _ _ => by go_simp⟩) (hHeld) ?_
    simp only [Act.put, List.setIfInBounds_toArray, List.set_cons_zero, List.set_cons_succ]
    refine held_takeD 3 (.pointer (some ⟨w.heap.size, 32, none⟩)) (some 42) (by rfl) (by rfl) (by kernel_rfl) (by kernel_rfl) (by kernel_rfl) (fun _ _ _ h => h) (.inl ⟨by rfl, fun _ _ => by go_simp⟩) (hHeld) ?_
    simp only [Act.put, List.setIfInBounds_toArray, List.set_cons_zero, List.set_cons_succ]
    refine held_takeD 4 (.agg (bv caller).toArray) (some 43) (by rfl) (by rfl) (by kernel_rfl) (by kernel_rfl) (by kernel_rfl) (fun _ _ _ h => h) (yieldsIf_load_mid (by rfl) _ _ rfl _ _ rfl _ _ (fun wz hS => (by have := hS.range 32 20; rwa [(unhide HF1).callerR] at this)) hu rfl hszc) (hHeld) ?_
    simp only [Act.put, List.setIfInBounds_toArray, List.set_cons_zero, List.set_cons_succ]
    refine held_takeD 5 (.pointer (some ⟨w.heap.size, 12, none⟩)) (some 44) (by rfl) (by rfl) (by kernel_rfl) (by kernel_rfl) (by kernel_rfl) (fun _ _ _ h => h) (.inl ⟨by rfl, fun _ _ => by go_simp⟩) (hHeld) ?_
    simp only [Act.put, List.setIfInBounds_toArray, List.set_cons_zero, List.set_cons_succ]
    refine held_takeD 6 (.agg (bv slf).toArray) (some 45) (by rfl) (by rfl) (by kernel_rfl) (by kernel_rfl) (by kernel_rfl) (fun _ _ _ h => h) (yieldsIf_load_mid (by rfl) _ _ rfl _ _ rfl _ _ (fun wz hS => (by have := hS.range 12 20; rwa [(unhide HF1).selfR] at this)) hu rfl hszs) (hHeld) ?_
    simp only [Act.put, List.setIfInBounds_toArray, List.set_cons_zero, List.set_cons_succ]
    refine held_takeD 7 (.pointer (some ⟨w.heap.size, 5, none⟩)) (some 46) (by rfl) (by rfl) (by kernel_rfl) (by kernel_rfl) (by kernel_rfl) (fun _ _ _ h => h) (.inl ⟨by rfl, fun _ _ => by go_simp⟩) (hHeld) ?_
    simp only [Act.put, List.setIfInBounds_toArray, List.set_cons_zero, List.set_cons_succ]
    refine held_takeD 8 (.slice A kv cv) (some 47) (by rfl) (by rfl) (by kernel_rfl) (by kernel_rfl) (by kernel_rfl) (fun _ _ _ h => h) (.inl ⟨by rfl, fun wS hS => by have hc : wS.cell? ⟨w.heap.size, 5, none⟩ = some (.slice A kv cv) := by { rw [hS.cell]; exact (unhide HF1).val }; go_simp⟩) (hHeld) ?_
    simp only [Act.put, List.setIfInBounds_toArray, List.set_cons_zero, List.set_cons_succ]
    refine held_one 9 (by kernel_rfl) (by rfl) (fun K' hK' => ?_)
    go_simp
    refine (unhide hmv).mono ?_
    rintro e w6 ⟨rfl, cs6, hr6, hl6, h68, hc6⟩
    refine hK'.out _ _ (unhide HFR5 _ ((Chg.of d5).trans hc6)) ?_
    clear hK' K'
    refine wpAnyH_done (by kernel_rfl) ?_ _
    refine NoPanic.normal ?_
    have c56 := (Chg.of (g := bw) d5).trans hc6
    have hbl6 : bw < w6.heap.size := hr6.lt
    have h69 : cs6[9]? = some nilS := by rw [h68 9 (by omega)]; exact unhide H19
    have hx6 : ∃ v, w6.cell? ⟨bw, 10, none⟩ = some v := by rw [hr6.cell, List.getElem?_eq_getElem (by rw [hl6]; omega)]; exact ⟨_, rfl⟩
    obtain ⟨v10, hx6⟩ := hx6
    have hz6 := hr6.froz 10
    have H69 := hide h69
    have HR6 := hide hr6
    clear h69 hr6 h68
    go_upto_region 8 with fail
    obtain ⟨w7, hw7⟩ : ∃ x, x = w6.setCell ⟨bw, 10, none⟩ (Value.slice none 0 0) := ⟨_, rfl⟩
    rw [← hw7]
    have o7 : Only bw w6 w7 := hw7 ▸ (Only.refl bw w6).setCell 10 (Value.slice none 0 0)
    have r7 := hw7 ▸ (unhide HR6).set 10 (Value.slice none 0 0)
    have h79 : (cs6.set 10 (Value.slice none 0 0))[9]? = some nilS := by rw [List.getElem?_set_ne (by omega)]; exact unhide H69
    have c57 : Chg bw w5 w7 := c56.trans (Chg.ofOnly o7)
    have f7 := unhide HFR5 w7 c57
    have hbl7 : bw < w7.heap.size := r7.lt
    have d7 : Below w7.heap.size w7 w7.drew := Quiet.below ⟨1, rfl⟩ _
    generalize cs6.set 10 (Value.slice none 0 0) = cs7 at r7 h79
    have hfw : ∀ wy, Chg bw w7 wy → RowT 194 wy w.heap.size f1 := fun wy hy => unhide HFR5 wy (c57.trans hy)
    have HFW := hide hfw
    have R7 := hide r7
    have H79 := hide h79
    have huF := Sakg.underlying194
    have hxl := (unhide HF1).len
    have hxo := (unhide HF1).one
    have hxs : (Sakg.prog.info? 194).map (·.size) = some f1.length := by rw [hxl]; exact sizeFrame
    clear hw7 hfw r7 h79 f7 hx6 hz6
    refine wp_region_noPanic ?_
    refine wp_region_held_drew (S := fun w' => Chg bw w7 w') (by kernel_rfl) (Chg.of d7) (fun hHeld => ?_)
    refine held_takeD 0 (.pointer (some ⟨bw, 0, none⟩)) (some 52) (by rfl) (by rfl) (by kernel_rfl) (by kernel_rfl) (by kernel_rfl) (fun _ _ _ h => h) (.inl ⟨by rfl, fun _ _ => by rfl⟩) (hHeld) ?_
    simp only [Act.put, List.setIfInBounds_toArray, List.set_cons_zero, List.set_cons_succ]
    refine held_takeD 1 (.pointer (some ⟨bw, 0, none⟩)) (some 53) (by rfl) (by rfl) (by kernel_rfl) (by kernel_rfl) (by kernel_rfl) (fun _ _ _ h => h) (.inl ⟨by rfl, fun _ _ => by rfl⟩) (hHeld) ?_
    simp only [Act.put, List.setIfInBounds_toArray, List.set_cons_zero, List.set_cons_succ]
    refine held_takeD 2 (.pointer (some ⟨bw, 0, none⟩)) (some 54) (by rfl) (by rfl) (by kernel_rfl) (by kernel_rfl) (by kernel_rfl) (fun _ _ _ h => h) (.inl ⟨by rfl, fun _ _ => by go_simp⟩) (hHeld) ?_
    simp only [Act.put, List.setIfInBounds_toArray, List.set_cons_zero, List.set_cons_succ]
    refine held_takeD 3 (.pointer (some ⟨bw, 9, none⟩)) (some 55) (by rfl) (by rfl) (by kernel_rfl) (by kernel_rfl) (by kernel_rfl) (fun _ _ _ h => h) (.inl ⟨by rfl, fun _ _ => by go_simp⟩) (hHeld) ?_
    simp only [Act.put, List.setIfInBounds_toArray, List.set_cons_zero, List.set_cons_succ]
    refine held_takeD 5 (.agg f1.toArray) (some 57) (by rfl) (by rfl) (by kernel_rfl) (by kernel_rfl) (by kernel_rfl) (fun _ _ _ h => h) (yieldsIf_load_mid (by rfl) _ _ rfl _ _ rfl _ _ (fun wz hS => (unhide HFW wz hS).rangeAll) huF rfl hxs) (hHeld) ?_
    simp only [Act.put, List.setIfInBounds_toArray, List.set_cons_zero, List.set_cons_succ]
    refine held_two 4 6 (by kernel_rfl) (by rfl) (by rfl) (fun K' hK' => ?_) (fun K' hK' => ?_)
    · have hcu : w7.drew.cell? ⟨bw, 9, none⟩ = some nilS := by { rw [((unhide R7).kept d7).cell]; exact unhide H79 }
      go_simp
      refine hK'.out _ _ (Chg.of d7) ?_
      clear hK' K'
      refine held_one 6 (by kernel_rfl) (by rfl) (fun K' hK' => ?_)
      refine if_build_one (some 58) rfl (by rfl) 103 (.tmp 57) rfl 194 60 456 Sakg.underlying103 _ infoFrame zeroF_len (by omega) (by omega) f1 rfl hxl (fun wn rn bn sn => ?_)
      have dn := d7.trans (bn.mono d7.size)
      refine hK'.out _ _ (Chg.of dn) ?_
      clear hK' K'
      simp only [Act.put, List.setIfInBounds_toArray, List.set_cons_zero, List.set_cons_succ]
      refine held_one 7 (by kernel_rfl) (by rfl) (fun K' hK' => ?_)
      refine if_append_at (some 59) rfl (by rfl) (.tmp 56) (.tmp 58) 103 rfl 194 60 456 Sakg.underlying103 _ infoFrame zeroF_len (by omega) (bw + 1) nilS 0 [] rfl (World.ownsRow_nil _ _ _ _) _ 194 f1 rfl rn hxl hxo (by omega) (by omega) (by have := dn.size; omega) (fun vp wp op grp bkp => ?_)
      have dp : Chg bw w7 wp := (Chg.of (g := bw) dn).trans ⟨grp.os, grp.tape, grp.output, grp.size, fun k hk _ => grp.block k hk (fun h => by cases h)⟩
      obtain ⟨Ap, cp, rfl⟩ := own_slice2 op
      refine hK'.out _ _ (dp) ?_
      clear hK' K'
      simp only [Act.put, List.setIfInBounds_toArray, List.set_cons_zero, List.set_cons_succ]
      refine held_takeD 8 (.pointer (some ⟨bw, 0, none⟩)) (some 60) (by rfl) (by rfl) (by kernel_rfl) (by kernel_rfl) (by kernel_rfl) (fun _ _ _ h => h) (.inl ⟨by rfl, fun _ _ => by go_simp⟩) (dp) ?_
      simp only [Act.put, List.setIfInBounds_toArray, List.set_cons_zero, List.set_cons_succ]
      refine held_takeD 9 (.pointer (some ⟨bw, 9, none⟩)) (some 61) (by rfl) (by rfl) (by kernel_rfl) (by kernel_rfl) (by kernel_rfl) (fun _ _ _ h => h) (.inl ⟨by rfl, fun _ _ => by go_simp⟩) (dp) ?_
      simp only [Act.put, List.setIfInBounds_toArray, List.set_cons_zero, List.set_cons_succ]
      refine held_one 10 (by kernel_rfl) (by rfl) (fun K' hK' => ?_)
      have hXp : RowT 107 wp bw cs7 := by { unfold RowT; rw [grp.block bw (by have := dn.size; omega) (fun h => by cases h)]; exact (unhide R7).kept dn }
      have hcx : wp.cell? ⟨bw, 9, none⟩ = some nilS := by { rw [hXp.cell]; exact unhide H79 }
      have hfx := hXp.froz 9
      go_simp
      obtain ⟨wS, hwS⟩ : ∃ x, x = wp.setCell ⟨bw, 9, none⟩ (Value.slice Ap 1 cp) := ⟨_, rfl⟩
      rw [← hwS]
      have oS : Only bw wp wS := hwS ▸ (Only.refl bw wp).setCell 9 (Value.slice Ap 1 cp)
      have dS : Chg bw w7 wS := dp.trans (Chg.ofOnly oS)
      clear hwS
      refine hK'.out _ _ (dS) ?_
      clear hK' K'
      refine wpAnyH_done (by kernel_rfl) ?_ _
      refine NoPanic.normal ?_
      go_wp2_with fail
      refine bodyPost_done rfl rfl ?_
      exact ⟨rfl, (Chg.of b3).trans (hc3.trans (c57.trans dS))⟩
    · refine if_build_one (some 58) rfl (by rfl) 103 (.tmp 57) rfl 194 60 456 Sakg.underlying103 _ infoFrame zeroF_len (by omega) (by omega) f1 rfl hxl (fun wn rn bn sn => ?_)
      have dn := d7.trans (bn.mono d7.size)
      refine hK'.out _ _ (Chg.of dn) ?_
      clear hK' K'
      simp only [Act.put, List.setIfInBounds_toArray, List.set_cons_zero, List.set_cons_succ]
      refine held_one 4 (by kernel_rfl) (by rfl) (fun K' hK' => ?_)
      have hcu : wn.cell? ⟨bw, 9, none⟩ = some nilS := by { rw [((unhide R7).kept dn).cell]; exact unhide H79 }
      go_simp
      refine hK'.out _ _ (Chg.of dn) ?_
      clear hK' K'
      refine held_one 7 (by kernel_rfl) (by rfl) (fun K' hK' => ?_)
      refine if_append_at (some 59) rfl (by rfl) (.tmp 56) (.tmp 58) 103 rfl 194 60 456 Sakg.underlying103 _ infoFrame zeroF_len (by omega) (bw + 1) nilS 0 [] rfl (World.ownsRow_nil _ _ _ _) _ 194 f1 rfl rn hxl hxo (by omega) (by omega) (by have := dn.size; omega) (fun vp wp op grp bkp => ?_)
      have dp : Chg bw w7 wp := (Chg.of (g := bw) dn).trans ⟨grp.os, grp.tape, grp.output, grp.size, fun k hk _ => grp.block k hk (fun h => by cases h)⟩
      obtain ⟨Ap, cp, rfl⟩ := own_slice2 op
      refine hK'.out _ _ (dp) ?_
      clear hK' K'
      simp only [Act.put, List.setIfInBounds_toArray, List.set_cons_zero, List.set_cons_succ]
      refine held_takeD 8 (.pointer (some ⟨bw, 0, none⟩)) (some 60) (by rfl) (by rfl) (by kernel_rfl) (by kernel_rfl) (by kernel_rfl) (fun _ _ _ h => h) (.inl ⟨by rfl, fun _ _ => by go_simp⟩) (dp) ?_
      simp only [Act.put, List.setIfInBounds_toArray, List.set_cons_zero, List.set_cons_succ]
      refine held_takeD 9 (.pointer (some ⟨bw, 9, none⟩)) (some 61) (by rfl) (by rfl) (by kernel_rfl) (by kernel_rfl) (by kernel_rfl) (fun _ _ _ h => h) (.inl ⟨by rfl, fun _ _ => by go_simp⟩) (dp) ?_
      simp only [Act.put, List.setIfInBounds_toArray, List.set_cons_zero, List.set_cons_succ]
      refine held_one 10 (by kernel_rfl) (by rfl) (fun K' hK' => ?_)
      have hXp : RowT 107 wp bw cs7 := by { unfold RowT; rw [grp.block bw (by have := dn.size; omega) (fun h => by cases h)]; exact (unhide R7).kept dn }
      have hcx : wp.cell? ⟨bw, 9, none⟩ = some nilS := by { rw [hXp.cell]; exact unhide H79 }
      have hfx := hXp.froz 9
      go_simp
      obtain ⟨wS, hwS⟩ : ∃ x, x = wp.setCell ⟨bw, 9, none⟩ (Value.slice Ap 1 cp) := ⟨_, rfl⟩
      rw [← hwS]
      have oS : Only bw wp wS := hwS ▸ (Only.refl bw wp).setCell 9 (Value.slice Ap 1 cp)
      have dS : Chg bw w7 wS := dp.trans (Chg.ofOnly oS)
      clear hwS
      refine hK'.out _ _ (dS) ?_
      clear hK' K'
      refine wpAnyH_done (by kernel_rfl) ?_ _
      refine NoPanic.normal ?_
      go_wp2_with fail
      refine bodyPost_done rfl rfl ?_
      exact ⟨rfl, (Chg.of b3).trans (hc3.trans (c57.trans dS))⟩

end Go.Proofs.YgcsakGreat
