/-
  yp: setBalance, setNonce, warm, move, warmSlot, where the data last whatever comes to the blocks of G.
-/
import Derived.Test.YgcsakGreatKsA
namespace Go.Proofs.YgcsakGreat
set_option linter.unusedVariables false
set_option linter.unusedSimpArgs false
set_option maxRecDepth 100000
open Go.RowKit

theorem KAccts.kp {G : Nat → Prop} {w w' : World} {ao : Option Addr} {l c : Nat} {ds : List YAcct} (h : KAccts G w ao l c ds) (hc : ChgS G w w') : KAccts G w' ao l c ds := h.go hc
theorem KAcct.kp {G : Nat → Prop} {w w' : World} {r : List Value} {d : YAcct} (h : KAcct G w r d) (hc : ChgS G w w') : KAcct G w' r d := h.go hc
theorem KMark.kp {G : Nat → Prop} {w w' : World} {r : List Value} {s : YMark} (h : KMark G w r s) (hc : ChgS G w w') : KMark G w' r s := h.go hc
theorem KMarks.kp {G : Nat → Prop} {w w' : World} {ao : Option Addr} {l c : Nat} {ms : List YMark} (h : KMarks G w ao l c ms) (hc : ChgS G w w') : KMarks G w' ao l c ms := h.go hc
theorem KAddrs.kp {G : Nat → Prop} {w w' : World} {ao : Option Addr} {l c : Nat} {als : List (List Int)} (h : KAddrs G w ao l c als) (hc : ChgS G w w') : KAddrs G w' ao l c als := StabS.kp h hc
/-- a list of addresses in the state has turned -/
def KAddrsPost (G : Nat → Prop) (T : TypeId) (bw i : Nat) (cs : List Value) (l : Nat) (a : List Int) (als : List (List Int)) (w w' : World) : Prop :=
  ∃ A n c' als', RowT T w' bw (cs.set i (.slice A n c')) ∧ KAddrs G w' A n c' als' ∧ n ≤ l + 1 ∧ (∀ x, x ∈ als' ↔ x = a ∨ x ∈ als) ∧ Chg bw w w'
def KMovePost (G : Nat → Prop) (T : TypeId) (bw : Nat) (cs : List Value) (l : Nat) (ds : List YAcct) (w w' : World) : Prop :=
  ∃ A n c', RowT T w' bw (cs.set 0 (.slice A n c')) ∧ KAccts G w' A n c' ds ∧ n ≤ l + 2 ∧ Chg bw w w'
def KMarksPost (G : Nat → Prop) (T : TypeId) (bw : Nat) (cs : List Value) (l : Nat) (x0 : YMark) (ms : List YMark) (w w' : World) : Prop :=
  ∃ A n c' ms', RowT T w' bw (cs.set 2 (.slice A n c')) ∧ KMarks G w' A n c' ms' ∧ n ≤ l + 1 ∧ (∀ x, x ∈ ms' ↔ x = x0 ∨ x ∈ ms) ∧ Chg bw w w'

set_option maxHeartbeats 4000000 in
theorem k_setBalance_any (G : Nat → Prop) (T : TypeId) (bw : Nat) (cs : List Value) (w : World) (ao : Option Addr) (l c : Nat) (ds : List YAcct) (hG : Ther G w) (hg : G bw) (h : KAccts G w ao l c ds) (hcs : RowT T w bw cs) (h0 : cs[0]? = some (.slice ao l c)) (hl : l ≤ 1000000) (hB : Bnd ds)
    (a : List Int) (ha : IsAddr a) (A : Option Addr) (k c2 m : Nat) (hn : StabS G (fun w => IsNat w A k c2 m) w) (hm : m < BIG) :
    Calls Sakg.prog 105 #[.pointer (some ⟨bw, 0, none⟩), .agg (bv a).toArray, .slice A k c2] w fun e w' => e = .returned (.tuple #[]) ∧ KAcctsPost G T bw cs l (putY ds { lookY ds a with bal := m }) w w' := by
  have hb1 : Below w.heap.size w (w.alloc (.cells (bv a).toArray 26)) := (Below.refl _ _).alloc (Nat.le_refl _) _
  have hr1 : RowT 26 (w.alloc (.cells (bv a).toArray 26)) w.heap.size (bv a) := RowT.new _ _ _
  have hbw := hcs.lt
  have HA := hide ha
  have hcs1 := hcs.kept hb1
  have HAC := hide ((h.kp (ChgS.of hb1)).account (bw := bw) (ow := 0) (by rw [hcs1.cell]; exact h0) a ha hl)
  have HCS := hide hcs
  have H := hide h
  have HN := hide hn
  clear h ha hcs hcs1 hn
  go_enter Sakg.func105, Sakg.ntmps105
  go_wp2_with (first
    | ((with_reducible refine at_load 26 ?_); refine wpList_load_g rfl 26 (.tmp 4) rfl _ 0 rfl (bv a) _ hr1.rangeAll Sakg.underlying26 rfl (unhide HA).size ?_)
    | (go_at_call 99; refine (unhide HAC).mono ?_; rintro e w2 ⟨r, rfl, hrow, hb2⟩; have HROW := hide hrow; have hrl := hrow.now.len; clear hrow; have HSZR : Hid ((Sakg.prog.info? 113).map (·.size) = some r.length) := hide (by rw [hrl]; exact sizeAcct); have HRL := hide hrl; clear hrl)
    | ((with_reducible refine at_store 113 ?_); refine wpList_store_whole rfl 113 (.tmp 6) (.tmp 9) rfl _ _ _ r rfl rfl (RowT.new _ _ _) (by rw [unhide HRL]; rfl) (unhide HSZR) (unhide HROW).now.one ?_; intro w3 hx3 hon3; have hbb3 := box_below hon3; clear hon3; have hc21 : ∃ v, w3.cell? ⟨w2.heap.size, 21, none⟩ = some v := by { rw [hx3.cell, List.getElem?_eq_getElem (by rw [unhide HRL]; omega)]; exact ⟨_, rfl⟩ }; obtain ⟨v21, hc21⟩ := hc21; have hf21 := hx3.froz 21)
    | ((with_reducible refine at_load 113 ?_); refine wpList_load_g rfl 113 (.tmp 6) rfl _ 0 rfl (r.set 21 (.slice A k c2)) _ (hx3.set 21 _).rangeAll Sakg.underlying113 rfl (by rw [List.length_set]; exact unhide HSZR) ?_)
    | (go_at_call 192; obtain ⟨w4, hw4, hc4, hb4⟩ : ∃ w4, w4 = w3.setCell ⟨w2.heap.size, 21, none⟩ (.slice A k c2) ∧ ChgS G w2 w4 ∧ Below w.heap.size w w4 := ⟨_, rfl, ChgS.of (hbb3.1.trans (((Only.refl w2.heap.size w3).setCell 21 _).below _ (Nat.le_refl _))), (hb1.trans (hb2.mono (by simp))).trans ((hbb3.1.trans (((Only.refl w2.heap.size w3).setCell 21 _).below _ (Nat.le_refl _))).mono (by have := hb2.size; simp at this; omega))⟩; rw [← hw4]; refine (KAccts.put (hG.go hb4.size) hg ((unhide H).kp (ChgS.of hb4)) ((unhide HCS).below hb4 hbw) h0 hl _ { lookY ds a with bal := m } (((unhide HROW).kp hc4).bal ((unhide HN).kp (ChgS.of hb4))) (hB.look a).1 hm).mono ?_; rintro e w5 ⟨rfl, hp5⟩))
  refine bodyPost_done rfl rfl ⟨rfl, ?_⟩
  obtain ⟨A5, n5, c5, q1, q2, q3, q4⟩ := hp5
  exact ⟨A5, n5, c5, q1, q2, q3, (Chg.of hb4).trans q4⟩


set_option maxHeartbeats 4000000 in
theorem k_setNonce_any (G : Nat → Prop) (T : TypeId) (bw : Nat) (cs : List Value) (w : World) (ao : Option Addr) (l c : Nat) (ds : List YAcct) (hG : Ther G w) (hg : G bw) (h : KAccts G w ao l c ds) (hcs : RowT T w bw cs) (h0 : cs[0]? = some (.slice ao l c)) (hl : l ≤ 1000000) (hB : Bnd ds)
    (a : List Int) (ha : IsAddr a) (A : Option Addr) (k c2 m : Nat) (hn : StabS G (fun w => IsNat w A k c2 m) w) (hm : m < BIG) :
    Calls Sakg.prog 104 #[.pointer (some ⟨bw, 0, none⟩), .agg (bv a).toArray, .slice A k c2] w fun e w' => e = .returned (.tuple #[]) ∧ KAcctsPost G T bw cs l (putY ds { lookY ds a with nonce := m }) w w' := by
  have hb1 : Below w.heap.size w (w.alloc (.cells (bv a).toArray 26)) := (Below.refl _ _).alloc (Nat.le_refl _) _
  have hr1 : RowT 26 (w.alloc (.cells (bv a).toArray 26)) w.heap.size (bv a) := RowT.new _ _ _
  have hbw := hcs.lt
  have HA := hide ha
  have hcs1 := hcs.kept hb1
  have HAC := hide ((h.kp (ChgS.of hb1)).account (bw := bw) (ow := 0) (by rw [hcs1.cell]; exact h0) a ha hl)
  have HCS := hide hcs
  have H := hide h
  have HN := hide hn
  clear h ha hcs hcs1 hn
  go_enter Sakg.func104, Sakg.ntmps104
  go_wp2_with (first
    | ((with_reducible refine at_load 26 ?_); refine wpList_load_g rfl 26 (.tmp 4) rfl _ 0 rfl (bv a) _ hr1.rangeAll Sakg.underlying26 rfl (unhide HA).size ?_)
    | (go_at_call 99; refine (unhide HAC).mono ?_; rintro e w2 ⟨r, rfl, hrow, hb2⟩; have HROW := hide hrow; have hrl := hrow.now.len; clear hrow; have HSZR : Hid ((Sakg.prog.info? 113).map (·.size) = some r.length) := hide (by rw [hrl]; exact sizeAcct); have HRL := hide hrl; clear hrl)
    | ((with_reducible refine at_store 113 ?_); refine wpList_store_whole rfl 113 (.tmp 6) (.tmp 9) rfl _ _ _ r rfl rfl (RowT.new _ _ _) (by rw [unhide HRL]; rfl) (unhide HSZR) (unhide HROW).now.one ?_; intro w3 hx3 hon3; have hbb3 := box_below hon3; clear hon3; have hc20 : ∃ v, w3.cell? ⟨w2.heap.size, 20, none⟩ = some v := by { rw [hx3.cell, List.getElem?_eq_getElem (by rw [unhide HRL]; omega)]; exact ⟨_, rfl⟩ }; obtain ⟨v20, hc20⟩ := hc20; have hf20 := hx3.froz 20)
    | ((with_reducible refine at_load 113 ?_); refine wpList_load_g rfl 113 (.tmp 6) rfl _ 0 rfl (r.set 20 (.slice A k c2)) _ (hx3.set 20 _).rangeAll Sakg.underlying113 rfl (by rw [List.length_set]; exact unhide HSZR) ?_)
    | (go_at_call 192; obtain ⟨w4, hw4, hc4, hb4⟩ : ∃ w4, w4 = w3.setCell ⟨w2.heap.size, 20, none⟩ (.slice A k c2) ∧ ChgS G w2 w4 ∧ Below w.heap.size w w4 := ⟨_, rfl, ChgS.of (hbb3.1.trans (((Only.refl w2.heap.size w3).setCell 20 _).below _ (Nat.le_refl _))), (hb1.trans (hb2.mono (by simp))).trans ((hbb3.1.trans (((Only.refl w2.heap.size w3).setCell 20 _).below _ (Nat.le_refl _))).mono (by have := hb2.size; simp at this; omega))⟩; rw [← hw4]; refine (KAccts.put (hG.go hb4.size) hg ((unhide H).kp (ChgS.of hb4)) ((unhide HCS).below hb4 hbw) h0 hl _ { lookY ds a with nonce := m } (((unhide HROW).kp hc4).non ((unhide HN).kp (ChgS.of hb4))) hm (hB.look a).2).mono ?_; rintro e w5 ⟨rfl, hp5⟩))
  refine bodyPost_done rfl rfl ⟨rfl, ?_⟩
  obtain ⟨A5, n5, c5, q1, q2, q3, q4⟩ := hp5
  exact ⟨A5, n5, c5, q1, q2, q3, (Chg.of hb4).trans q4⟩


set_option maxHeartbeats 8000000 in
theorem k_warm_any (G : Nat → Prop) (T : TypeId) (bw : Nat) (cs : List Value) (w : World) (ao : Option Addr) (l c : Nat) (als : List (List Int)) (hG : Ther G w) (hg : G bw) (h : KAddrs G w ao l c als) (hcs : RowT T w bw cs) (h1 : cs[1]? = some (.slice ao l c)) (hl : l ≤ 1000000)
    (a : List Int) (ha : IsAddr a) :
    Calls Sakg.prog 106 #[.pointer (some ⟨bw, 0, none⟩), .agg (bv a).toArray] w fun e w' => e = .returned (.tuple #[]) ∧ KAddrsPost G T bw 1 cs l a als w w' := by
  obtain ⟨W, hW⟩ : ∃ W, W = (w.alloc (.cells (bv a).toArray 26)) := ⟨_, rfl⟩
  have hb1 : Below w.heap.size w W := by rw [hW]; exact (Below.refl _ _).alloc (Nat.le_refl _) _
  have hr1 : RowT 26 W w.heap.size (bv a) := by rw [hW]; exact RowT.new _ _ _
  have hbw := hcs.lt
  have hS : ∀ k, (W.drewN k).cell? ⟨bw, 1, none⟩ = some (.slice ao l c) ∧ RowT 26 (W.drewN k) w.heap.size (bv a) ∧ RowT T (W.drewN k) bw cs ∧ Below w.heap.size w (W.drewN k) := by
    intro k
    have hb2 : Below w.heap.size w (W.drewN k) := hb1.trans (Quiet.below ⟨k, rfl⟩ _)
    have hc2 := hcs.below hb2 hbw
    exact ⟨by rw [hc2.cell]; exact h1, hr1.kept (Quiet.below ⟨k, rfl⟩ _), hc2, hb2⟩
  have HA := hide ha
  have H := hide h
  have HS := hide hS
  clear h ha hcs hS hb1 hr1
  go_enter Sakg.func106, Sakg.ntmps106
  go_wp2_with fail
  rw [← hW]
  have HW := hide hW
  clear hW
  have hca : (bv a).length = 20 := by rw [bv_len]; exact (unhide HA).len
  have hone := bv_one a
  have hu63 := Sakg.underlying26
  have hi63 := (unhide HA).size
  have hcl : W.drew.cell? ⟨bw, 1, none⟩ = some (.slice ao l c) := (unhide HS 1).1
  have hrg1 : W.drew.rangeAt w.heap.size 0 (bv a) := (unhide HS 1).2.1.rangeAll
  have hd1 : Below w.heap.size w W.drew := (unhide HS 1).2.2.2
  have hd2 : RowT T W.drew bw cs := (unhide HS 1).2.2.1
  have HC := hide (KAddrs.with (StabS.kp (unhide H) (ChgS.of hd1)) (hG.go hd1.size) a (unhide HA) hl)
  have hsW : w.heap.size < W.drew.heap.size := (unhide HS 1).2.1.lt
  have HD2 := hide hd2
  clear hd2
  rw [shade_of 8]
  go_region_held3 (fun w' => w'.rangeAt w.heap.size 0 (bv a)) (assumption)
    (first
      | (go_at_call 193; refine (unhide HC).mono ?_; rintro e w2 ⟨A, k, c', rfl, ⟨als', q1, q2, q3⟩, hb2⟩; have hcs2 := (unhide HD2).kept hb2; have hcc : ∃ v, w2.cell? ⟨bw, 1, none⟩ = some v := by { rw [hcs2.cell]; exact ⟨_, h1⟩ }; obtain ⟨v1, hcc⟩ := hcc; have hf1 := hcs2.froz 1; have hrg2 := range_kept hrg1 hb2; have hrg3 : (w2.setCell ⟨bw, 1, none⟩ (.slice A k c')).rangeAt w.heap.size 0 (bv a) := range_only hrg2 ((Only.refl _ _).setCell 1 _) (fun _ => by omega); have HQ1 := hide q1; have HQ2 := hide q2; have HQ3 := hide q3; clear q1 q2 q3))
  go_wp2
  refine bodyPost_done rfl rfl ⟨rfl, ?_⟩
  have hon : Only bw w2 (w2.setCell ⟨bw, 1, none⟩ (.slice A k c')) := (Only.refl _ _).setCell _ _
  exact ⟨A, k, c', als', hcs2.set 1 _, StabS.kp (unhide HQ1) (ChgS.only hon hg), unhide HQ2, unhide HQ3, (Chg.of (hd1.trans (hb2.mono hd1.size))).trans (Chg.ofOnly hon)⟩

set_option maxHeartbeats 8000000 in
theorem k_move_any (G : Nat → Prop) (T : TypeId) (bw : Nat) (cs : List Value) (w : World) (ao : Option Addr) (l c : Nat) (ds : List YAcct) (hG : Ther G w) (hg : G bw) (h : KAccts G w ao l c ds) (hcs : RowT T w bw cs) (h0 : cs[0]? = some (.slice ao l c)) (hl : l ≤ 999999) (hB : Bnd ds) (K : Nat) (hK : Bal K ds) (hK0 : 0 < K) (hK2 : K ≤ 256 ^ 199)
    (f t : List Int) (hf : IsAddr f) (ht : IsAddr t) (A : Option Addr) (k c2 m : Nat) (hn : StabS G (fun w => IsNat w A k c2 m) w) (hm : m < BIG) :
    Calls Sakg.prog 198 #[.pointer (some ⟨bw, 0, none⟩), .agg (bv f).toArray, .agg (bv t).toArray, .slice A k c2] w fun e w' => e = .returned (.tuple #[]) ∧ KMovePost G T bw cs l (moveY ds f t m) w w' := by
  obtain ⟨W, hW⟩ : ∃ W, W = (w.alloc (.cells (bv f).toArray 26)).alloc (.cells (bv t).toArray 26) := ⟨_, rfl⟩
  have hbW : Below w.heap.size w W := by rw [hW]; exact ((Below.refl _ _).alloc (Nat.le_refl _) _).alloc (by simp) _
  have r1 : RowT 26 W w.heap.size (bv f) := by rw [hW]; exact (RowT.new _ _ _).alloc _
  have r2 : RowT 26 W (w.heap.size + 1) (bv t) := by
    rw [hW]
    have := RowT.new 26 (w.alloc (.cells (bv f).toArray 26)) (bv t)
    rw [World.size_alloc] at this
    exact this
  have hbw := hcs.lt
  have hcsW := hcs.below hbW hbw
  have hsW := h.kp (ChgS.of hbW)
  have HAC := hide (hsW.account (bw := bw) (ow := 0) (by rw [hcsW.cell]; exact h0) f hf (by omega))
  have HF := hide hf
  have HT := hide ht
  have HN := hide (hn.kp (ChgS.of hbW))
  have HS := hide hsW
  have HCS := hide hcsW
  have HR1 := hide r1
  have HR2 := hide r2
  have HB := hide hB
  have HK := hide hK
  have hlb := hide (hB.look f).2
  clear h hcs hf ht hn hcsW hsW r1 r2 hB hK
  go_enter Sakg.func198, Sakg.ntmps198
  go_upto_region 1 with fail
  rw [← hW]
  have HW := hide hW
  clear hW
  go_upto_region 2 with (first
    | ((with_reducible refine at_load 26 ?_); refine wpList_load_g rfl 26 (.tmp 5) rfl _ 0 rfl (bv f) _ (unhide HR1).rangeAll Sakg.underlying26 rfl (unhide HF).size ?_)
    | (go_at_call 99; refine (unhide HAC).mono ?_; rintro e w2 ⟨r, rfl, hrow, hb2⟩; obtain ⟨A1, k1, c1, A2, k2, c2', A3, k3, c3, A4, k4, c4, q20, q21, q22, q23, s1, s2, s3, s4⟩ := hrow.cells; have HROW := hide hrow; have HS1 := hide s1; have HS2 := hide s2; have s2' := s2.now; have hn' := (unhide HN).kp (ChgS.of hb2) |>.now; have hfld := run_field_slice fldBal Sakg.underlying54 r _ q21; clear hrow s1 s2 s3 s4; have HSUB := hide (s2'.sub hn' (unhide hlb) hm); clear s2' hn')
    | (go_at_call 35; refine (unhide HSUB).mono ?_; rintro e w3 ⟨Ar, kr, cr, rfl, hrest, hNr, hb3⟩; have HREST := hide hrest; clear hrest))
  have hb23 : Below W.heap.size W w3 := hb2.trans (hb3.mono hb2.size)
  have HIZ := hide (isZero_any A k c2 m w3 ((unhide HN).kp (ChgS.of hb23)).now hm)
  by_cases hle : m ≤ (lookY ds f).bal
  case neg =>
    have hd : decide (m ≤ (lookY ds f).bal) = false := decide_eq_false hle
    rw [hd]
    have HLE := hide hle
    clear hd hle
    go_wp2
    refine bodyPost_ret (results_none rfl _ _ _) rfl ⟨rfl, ?_⟩
    have hm : moveY ds f t m = ds := by unfold moveY; rw [if_neg (fun h => unhide HLE h.1)]
    rw [hm]
    have hbe : Below w.heap.size w w3 := hbW.trans (hb23.mono hbW.size)
    refine ⟨ao, l, c, ?_, (unhide HS).kp (ChgS.of hb23), by omega, Chg.of hbe⟩
    have : cs.set 0 (.slice ao l c) = cs := set_same h0
    rw [this]
    exact (unhide HCS).kept hb23
  case pos =>
    have hd : decide (m ≤ (lookY ds f).bal) = true := decide_eq_true hle
    rw [hd]
    have HLE := hide hle
    clear hd hle
    by_cases hm0 : m = 0
    · rw [decide_eq_true hm0] at HIZ
      have HM0 := hide hm0
      clear hm0
      go_wp2_with (go_at_call 130; refine (unhide HIZ).mono ?_; rintro e w4 ⟨rfl, hq⟩)
      refine bodyPost_ret (results_none rfl _ _ _) rfl ⟨rfl, ?_⟩
      have hm : moveY ds f t m = ds := by unfold moveY; rw [if_neg (fun h => h.2 (unhide HM0))]
      rw [hm]
      have hb24 : Below W.heap.size W w4 := hb23.trans ((hq.below _).mono hb23.size)
      have hbe : Below w.heap.size w w4 := hbW.trans (hb24.mono hbW.size)
      refine ⟨ao, l, c, ?_, (unhide HS).kp (ChgS.of hb24), by omega, Chg.of hbe⟩
      rw [set_same h0]
      exact (unhide HCS).kept hb24
    · rw [decide_eq_false hm0] at HIZ
      have HM0 := hide hm0
      clear hm0
      have hdf := (unhide HB).look f
      have hbm : (lookY ds f).bal - m < K := by have := (unhide HK).look hK0 f; omega
      have hKB : K ≤ BIG := Nat.le_trans hK2 (big_pow 199 (by omega))
      have hbm2 : (lookY ds f).bal - m < BIG := by omega
      obtain ⟨ds1, hds1⟩ : ∃ ds1, ds1 = putY ds { lookY ds f with bal := (lookY ds f).bal - m } := ⟨_, rfl⟩
      have HB1 : Hid (Bnd ds1) := hide (by rw [hds1]; exact (unhide HB).put hdf.1 hbm2)
      have HK1 : Hid (Bal K ds1) := hide (by rw [hds1]; exact (unhide HK).put hbm)
      have HDS := hide hds1
      clear hds1 hdf hbm
      have hNr3 : New W Ar := hNr.later hb2.size
      go_upto_region 4 with (first
        | (go_at_call 130; refine (unhide HIZ).mono ?_; rintro e w4 ⟨rfl, hq⟩; have hb34 : Below w3.heap.size w3 w4 := hq.below _; have hb24 : Below W.heap.size W w4 := hb23.trans (hb34.mono hb23.size); have hr14 := (unhide HR1).kept hb24; have hr24 := (unhide HR2).kept hb24; clear hq)
        | ((with_reducible refine at_load 26 ?_); refine wpList_load_g rfl 26 (.tmp 5) rfl _ 0 rfl (bv f) _ hr14.rangeAll Sakg.underlying26 rfl (unhide HF).size ?_)
        | (go_at_call 105; refine (k_setBalance_any G T bw cs _ ao l c ds (hG.go (Nat.le_trans hbW.size hb24.size)) hg ((unhide HS).kp (ChgS.of hb24)) ((unhide HCS).kept hb24) h0 (by omega) (unhide HB) f (unhide HF) Ar kr cr ((lookY ds f).bal - m) (StabS.nat ((unhide HREST).kept hb34) (hNr3.offS (hG.go hbW.size) _)) hbm2).mono ?_; rintro e w5 ⟨rfl, A5, n5, c5, hcs5, hs5, hn5, hc5⟩))
      rw [← unhide HDS] at hs5
      have hsW : w.heap.size + 1 < W.heap.size := (unhide HR2).lt
      have hq6 : Below w5.heap.size w5 w5.drew := Quiet.below ⟨1, rfl⟩ _
      have hcs6 := hcs5.kept hq6
      have hs6 := hs5.kp (ChgS.of hq6)
      have hr26 := (hc5.row hr24 (by omega)).kept hq6
      have hc06 : Chg bw W w5.drew := ((Chg.of hb24).trans hc5).trans (Chg.of hq6)
      have hN6 := (unhide HN).kp (ChgS.chg hc06 hg)
      have h01 : (cs.set 0 (Value.slice A5 n5 c5))[0]? = some (.slice A5 n5 c5) := List.getElem?_set_self (by rcases Nat.eq_zero_or_pos cs.length with h | h; (rw [List.getElem?_eq_none (by omega)] at h0; cases h0); exact h)
      obtain ⟨cs1, hcs1⟩ : ∃ cs1, cs1 = cs.set 0 (Value.slice A5 n5 c5) := ⟨_, rfl⟩
      rw [← hcs1] at hcs6 h01
      have HCS1 := hide hcs1
      have hrg6 := hr26.rangeAll
      have HAC6 := hide (hs6.account (bw := bw) (ow := 0) (by rw [hcs6.cell]; exact h01) t (unhide HT) (by omega))
      have HSS := hide hs6
      have HCS6 := hide hcs6
      have HN6 := hide hN6
      have HC06 := hide hc06
      have hca : (bv t).length = 20 := by rw [bv_len]; exact (unhide HT).len
      have hone := bv_one t
      have hu63 := Sakg.underlying26
      have hi63 := (unhide HT).size
      have hlt1 : (lookY ds1 t).bal < K := (unhide HK1).look hK0 t
      have HLB : Hid ((lookY ds1 t).bal < BIG) := hide (by omega)
      have hsum : (lookY ds1 t).bal + m < BIG := by
        have hmK : m < K := by have h1 := (unhide HK).look hK0 f; have h2 := unhide HLE; omega
        have : 256 ^ 199 * 256 = BIG := (Nat.pow_succ ..).symm
        omega
      have HSUM := hide hsum
      clear hcs5 hs5 hr14 hr24 hc5 hcs6 hs6 hr26 hc06 hN6 hcs1 hsum hlt1 hfld hb24 hb34 hb23 hb3 hb2 q20 q21 q22 q23
      refine wp_region_noPanic ?_
      refine wp_region_held_drew (S := fun w' => w'.rangeAt (w.heap.size + 1) 0 (bv t)) (by kernel_rfl) hrg6 (fun hHeld => ?_)
      refine held_take 0 (.pointer (some ⟨bw, 0, none⟩)) (by rfl) (by kernel_rfl) (by kernel_rfl) (by kernel_rfl) (fun _ _ _ h => h) (.inl ⟨by rfl, fun _ _ => by rfl⟩) hHeld ?_
      refine held_take 2 (.pointer (some ⟨bw, 0, none⟩)) (by rfl) (by kernel_rfl) (by kernel_rfl) (by kernel_rfl) (fun _ _ _ h => h) (.inl ⟨by rfl, fun _ _ => by rfl⟩) hHeld ?_
      refine held_take 6 (.slice A k c2) (by rfl) (by kernel_rfl) (by kernel_rfl) (by kernel_rfl) (fun _ _ _ h => h) (.inl ⟨by rfl, fun _ _ => by rfl⟩) hHeld ?_
      refine held_take 1 (.agg (bv t).toArray) (by rfl) (by kernel_rfl) (by kernel_rfl) (by kernel_rfl) (fun _ _ _ h => h) (yieldsIf_load_mid (by rfl) _ _ rfl _ _ rfl _ _ (fun _ h => h) hu63 rfl hi63) hHeld ?_
      refine held_take 3 (.agg (bv t).toArray) (by rfl) (by kernel_rfl) (by kernel_rfl) (by kernel_rfl) (fun _ _ _ h => h) (yieldsIf_load_mid (by rfl) _ _ rfl _ _ rfl _ _ (fun _ h => h) hu63 rfl hi63) hHeld ?_
      simp only [Act.put, List.setIfInBounds_toArray, List.set_cons_zero, List.set_cons_succ]
      refine held_one 4 (by kernel_rfl) (by rfl) (fun K' hK' => ?_)
      go_simp
      refine (unhide HAC6).mono ?_
      rintro e w7 ⟨r7, rfl, hrow7, hb7⟩
      have hrg7 := range_kept hrg6 hb7
      obtain ⟨B1, j1, d1, B2, j2, d2, B3, j3, d3, B4, j4, d4, p20, p21, p22, p23, t1, t2, t3, t4⟩ := hrow7.cells
      have hfld7 := run_field_slice fldBal Sakg.underlying54 r7 _ p21
      have HADD := hide (t2.now.add ((unhide HN6).kp (ChgS.of hb7)).now (unhide HLB) hm)
      refine hK'.out _ _ hrg7 ?_
      clear hK' K' hrow7 p20 p21 p22 p23 t1 t2 t3 t4
      refine held_take 5 (.slice B2 j2 d2) (by rfl) (by kernel_rfl) (by kernel_rfl) (by kernel_rfl) (fun _ _ _ h => h) (.inl ⟨by rfl, fun _ _ => by go_simp⟩) hrg7 ?_
      simp only [Act.put, List.setIfInBounds_toArray, List.set_cons_zero, List.set_cons_succ]
      refine held_one 7 (by kernel_rfl) (by rfl) (fun K' hK' => ?_)
      go_simp
      refine (unhide HADD).mono ?_
      rintro e w8 ⟨A8, k8, c8, rfl, hn8, hN8, hb8⟩
      have hrg8 := range_kept hrg7 hb8
      have hb68 := hb7.trans (hb8.mono hb7.size)
      have HN8 := hide (StabS.nat (G := G) hn8 ((hN8.later hb7.size).offS (hG.go (Nat.le_trans hbW.size (unhide HC06).size)) _))
      refine hK'.out _ _ hrg8 ?_
      clear hK' K' hn8
      refine held_one 8 (by kernel_rfl) (by rfl) (fun K' hK' => ?_)
      go_simp
      refine (k_setBalance_any G T bw cs1 _ A5 n5 c5 ds1 (hG.go (Nat.le_trans (Nat.le_trans hbW.size (unhide HC06).size) hb68.size)) hg ((unhide HSS).kp (ChgS.of hb68)) ((unhide HCS6).kept hb68) h01 (by omega) (unhide HB1) t (unhide HT) A8 k8 c8 _ (unhide HN8) (unhide HSUM)).mono ?_
      rintro e w9 ⟨rfl, hp9⟩
      have hrg9 : w9.rangeAt (w.heap.size + 1) 0 (bv t) := by
        obtain ⟨A9, n9, c9, _, _, _, hc9⟩ := hp9
        intro j v hv
        rw [hc9.cell ⟨w.heap.size + 1, 0 + j, none⟩ (by simp; omega) (range_lt hrg8 (by intro hh; rw [hh] at hca; cases hca))]
        exact hrg8 j v hv
      refine hK'.out _ _ hrg9 ?_
      clear hK' K'
      refine wpAnyH_done (by kernel_rfl) ?_ _
      refine NoPanic.normal ?_
      go_wp2
      refine bodyPost_done rfl rfl ⟨rfl, ?_⟩
      obtain ⟨A9, n9, c9, u1, u2, u3, u4⟩ := hp9
      rw [unhide HCS1, List.set_set] at u1
      have hmv : moveY ds f t m = putY ds1 { lookY ds1 t with bal := (lookY ds1 t).bal + m } := by unfold moveY; rw [if_pos ⟨unhide HLE, unhide HM0⟩, ← unhide HDS]
      rw [hmv]
      exact ⟨A9, n9, c9, u1, u2, by omega, (Chg.of hbW).trans ((unhide HC06).trans ((Chg.of hb68).trans u4))⟩

set_option maxHeartbeats 8000000 in
theorem k_warmSlot_any (G : Nat → Prop) (T : TypeId) (bw : Nat) (cs : List Value) (w : World) (ao : Option Addr) (l c : Nat) (ms : List YMark) (hG : Ther G w) (hg : G bw) (h : KMarks G w ao l c ms) (hcs : RowT T w bw cs) (h2 : cs[2]? = some (.slice ao l c)) (hl : l ≤ 1000000)
    (a : List Int) (ha : IsAddr a) (A : Option Addr) (k c2 m : Nat) (hn : StabS G (fun w => IsNat w A k c2 m) w) (hm : m < BIG) :
    Calls Sakg.prog 107 #[.pointer (some ⟨bw, 0, none⟩), .agg (bv a).toArray, .slice A k c2] w fun e w' => e = .returned (.tuple #[]) ∧ KMarksPost G T bw cs l (a, m) ms w w' := by
  obtain ⟨i0, hi0, hz0, hz1, hz2⟩ := info_parts infoMark
  have HI0 := hide hi0
  have HZ0 := hide hz0
  have HZ1 := hide hz1
  have HZ2 := hide hz2
  have hb1 : Below w.heap.size w (w.alloc (.cells (bv a).toArray 26)) := (Below.refl _ _).alloc (Nat.le_refl _) _
  have hr1 : RowT 26 (w.alloc (.cells (bv a).toArray 26)) w.heap.size (bv a) := RowT.new _ _ _
  have hbw := hcs.lt
  have hcs1 := hcs.kept hb1
  have HIS := hide (isWarmSlot_any bw _ ao l c ms ((h.s hg).go (Chg.of hb1)) (by rw [hcs1.cell]; exact h2) hl a ha A k c2 m ((StabS.stab hn hg).go (Chg.of hb1)) hm)
  have HSM := hide h
  obtain ⟨rows, g1, g2⟩ := h
  have HL : Hid (ms.length = l) := hide (by rw [← g2.len, g1.now.len_eq])
  have H := hide (rows_at' ([], 0) g1.now g2)
  have HA := hide ha
  have HN := hide hn
  have HCS := hide hcs
  have hrow0 : KMark G w (bv a ++ [Value.slice A k c2]) (a, m) := ⟨A, k, c2, rfl, ha, hn, hm⟩
  have HROW0 := hide hrow0
  have HM := hide hm
  clear g1 g2 ha hn hcs hcs1 hi0 hz0 hz1 hz2 hrow0 hm
  go_enter Sakg.func107, Sakg.ntmps107
  by_cases hin : (a, m) ∈ ms
  · rw [decide_eq_true hin] at HIS
    have HIN := hide hin
    clear hin
    go_wp2_with (first
      | ((with_reducible refine at_load 26 ?_); refine wpList_load_g rfl 26 (.tmp 4) rfl _ 0 rfl (bv a) _ hr1.rangeAll Sakg.underlying26 rfl (unhide HA).size ?_)
      | (go_at_call 194; refine (unhide HIS).mono ?_; rintro e w2 ⟨rfl, hb2⟩))
    refine bodyPost_ret (results_none rfl _ _ _) rfl ⟨rfl, ?_⟩
    have hb12 := hb1.trans (hb2.mono (by simp))
    refine ⟨ao, l, c, ms, ?_, (unhide HSM).kp (ChgS.of hb12), by omega, fun x => ?_, Chg.of hb12⟩
    · rw [set_same h2]
      exact (unhide HCS).kept hb12
    · constructor
      · exact .inr
      · rintro (rfl | h)
        · exact unhide HIN
        · exact h
  · rw [decide_eq_false hin] at HIS
    have HIN := hide hin
    clear hin
    go_upto_region 4 with (first
      | ((with_reducible refine at_load 26 ?_); refine wpList_load_g rfl 26 (.tmp 4) rfl _ 0 rfl (bv a) _ hr1.rangeAll Sakg.underlying26 rfl (unhide HA).size ?_)
      | (go_at_call 194; refine (unhide HIS).mono ?_; rintro e w2 ⟨rfl, hb2⟩))
    have hb12 := hb1.trans (hb2.mono (by simp))
    have hr2 := hr1.kept hb2
    have hs2 : w.heap.size + 1 ≤ w2.heap.size := by have := hb2.size; simp at this; omega
    have hcc2 : w2.cell? ⟨bw, 2, none⟩ = some (.slice ao l c) := by rw [((unhide HCS).kept hb12).cell]; exact h2
    clear hr1 hb1 hb2 HIS
    go_wp2_with fail
    go_loopg [6, 7, 19] l (fun gk v ld ct wr => ∃ (i n : Nat) (laid : Bool) (os : List (List Value)) (mo : List YMark), i + gk = l ∧ ct = .int .i64 i ∧ ld = .bool laid ∧ n = i + laid.toNat ∧ os.length = n ∧ wr.ownsRow (w.heap.size + 1) 288 21 v n os.flatten ∧ Each (KMark G w) os mo ∧ (∀ x, x ∈ mo ↔ (laid = true ∧ x = (a, m)) ∨ x ∈ ms.take i) ∧ RowT 26 wr w.heap.size (bv a) ∧ Below w.heap.size w wr ∧ w.heap.size + 1 ≤ wr.heap.size)
    case atStart => exact ⟨0, 0, false, [], [], by omega, rfl, rfl, rfl, rfl, World.ownsRow_nil _ _ _ _, trivial, (fun x => by simp), hr2, hb12, hs2⟩
    case round =>
      obtain ⟨i, n, laid, os, mo, hi, rfl, rfl, hn, hol, hown, hea, hmo, hr, hbe, hsz⟩ := hrel
      by_cases hil : i < l
      · obtain ⟨b, off, rfl, hlt, hat⟩ := unhide H (by omega)
        obtain ⟨r, hrg, hrow⟩ := hat i hil
        have hts : ms.take (i + 1) = ms.take i ++ [ms.getD i ([], 0)] := by
          rw [List.take_succ_eq_append_getElem (by have := unhide HL; omega)]
          simp [List.getD, show i < ms.length by have := unhide HL; omega]
        obtain ⟨d, hd⟩ : ∃ d, d = ms.getD i ([], 0) := ⟨_, rfl⟩
        rw [← hd] at hrow hts
        have hrl := hrow.len
        have hrg2 := range_below hrg hbe (fun _ => hlt)
        have heq := fun wx => addr_eq wx a d.1 (unhide HA) hrow.addr
        have hbf := fun wx => before_any a d.1 wx (unhide HA) hrow.addr
        have hszr : (Sakg.prog.info? 288).map (·.size) = some r.length := by rw [hrl]; exact sizeMark
        obtain ⟨A1, k1, c1, q20, s1, s2⟩ := hrow.key
        have HQ := hide q20
        have HS1 := hide s1
        have HS2 := hide s2
        have HRG := hide hrg2
        have HROW := hide hrow
        have HTS := hide hts
        have HSZR := hide hszr
        have HRLX := hide hrl
        have HR := hide hr
        have HOWN := hide hown
        have HOL := hide hol
        have HEA := hide hea
        have HMO := hide hmo
        have HEQ := hide heq
        have HBF := hide hbf
        have HNN := hide hn
        have hnb : n ≤ 1000002 := by cases laid <;> simp at hn <;> omega
        clear hat hrg hrg2 hrow hts hd hr hown hol hea hmo hr2 hb12 hs2 hrl hszr heq hbf hn q20 s1 s2 hcc2
        go_upto_region 7 with (first
          | ((with_reducible refine at_load 288 ?_); refine wpList_load_g rfl 288 (.tmp 21) rfl b _ rfl r _ (unhide HRG) Sakg.underlying288 rfl (unhide HSZR) ?_)
          | ((with_reducible refine at_store 288 ?_); refine wpList_store_whole rfl 288 (.tmp 9) (.tmp 22) rfl _ _ _ r rfl rfl (RowT.new _ _ _) (by rw [unhide HRLX]; rfl) (unhide HSZR) (unhide HROW).one ?_; intro w3 hx3 hon3; have hbb3 := box_below hon3; clear hon3))
        have ha3 := (unhide HR).kept hbb3.1
        have ho3 := own_kept (unhide HOWN) hbb3.1
        have hs3 : wr.heap.size < w3.heap.size := by omega
        have hbe3 : Below w.heap.size w w3 := hbe.trans (hbb3.1.mono (by omega))
        have e20 : w3.cell? ⟨wr.heap.size, 20, none⟩ = some (.slice A1 k1 c1) := by rw [hx3.cell]; exact unhide HQ
        have hown_lt : ∀ k, u6.ownBlock = some k → k < wr.heap.size := fun k hk => ((unhide HOWN).lt k hk).2
        have HNL := hide hown_lt
        have HX3 := hide hx3
        have HA3 := hide ha3
        clear HR HOWN hbe hx3 ha3 hown_lt HRG
        simp only [Act.put]
        go_cut [43] (fun s43 wc => ∃ t, s43 = .bool t ∧ (laid = true → t = false) ∧ Below w3.heap.size w3 wc)
        case first =>
          cases laid with
          | true =>
            go_wp2_with fail
            go_meet
            case rel => exact ⟨false, rfl, fun _ => rfl, Below.refl _ _⟩
          | false =>
            obtain ⟨bf, hbf⟩ : ∃ bf, bf = beforeB a d.1 := ⟨_, rfl⟩
            rw [← hbf] at HBF
            clear hbf
            cases bf with
            | true =>
              go_wp2_with (first
              | ((with_reducible refine at_load (w := w3) 26 ?_); refine wpList_load_g (by rfl) 26 (.tmp 4) rfl _ 0 rfl (bv a) _ (unhide HA3).rangeAll Sakg.underlying26 rfl (unhide HA).size ?_)
              | ((with_reducible refine at_load (w := w3) 26 ?_); refine wpList_load_g (by rfl) 26 (.tmp 27) rfl _ 0 rfl (bv d.1) _ (by have := (unhide HX3).range 0 20; rwa [(unhide HROW).pre] at this) Sakg.underlying26 rfl (unhide HROW).addr.size ?_)
              | (go_at_call 195; refine (unhide HBF _).mono ?_; rintro e w4 ⟨rfl, hb4⟩; have ha4 := (unhide HA3).kept hb4; have hx4 := (unhide HX3).kept hb4; have e204 : w4.cell? ⟨wr.heap.size, 20, none⟩ = some (.slice A1 k1 c1) := (by rw [hx4.cell]; exact unhide HQ)))
              go_meet
              case rel => exact ⟨true, rfl, (fun h => by cases h), hb4⟩
            | false =>
              by_cases hda : a = d.1
              · have heq := unhide HEQ
                rw [decide_eq_true hda] at heq
                clear hda
                go_wp2_with (first
              | ((with_reducible refine at_load (w := w3) 26 ?_); refine wpList_load_g (by rfl) 26 (.tmp 4) rfl _ 0 rfl (bv a) _ (unhide HA3).rangeAll Sakg.underlying26 rfl (unhide HA).size ?_)
              | ((with_reducible refine at_load (w := w3) 26 ?_); refine wpList_load_g (by rfl) 26 (.tmp 27) rfl _ 0 rfl (bv d.1) _ (by have := (unhide HX3).range 0 20; rwa [(unhide HROW).pre] at this) Sakg.underlying26 rfl (unhide HROW).addr.size ?_)
              | (go_at_call 195; refine (unhide HBF _).mono ?_; rintro e w4 ⟨rfl, hb4⟩; have ha4 := (unhide HA3).kept hb4; have hx4 := (unhide HX3).kept hb4; have e204 : w4.cell? ⟨wr.heap.size, 20, none⟩ = some (.slice A1 k1 c1) := (by rw [hx4.cell]; exact unhide HQ))
              | ((with_reducible refine at_load (w := w4) 26 ?_); refine wpList_load_g (by rfl) 26 (.tmp 4) rfl _ 0 rfl (bv a) _ ha4.rangeAll Sakg.underlying26 rfl (unhide HA).size ?_)
              | ((with_reducible refine at_load (w := w4) 26 ?_); refine wpList_load_g (by rfl) 26 (.tmp 32) rfl _ 0 rfl (bv d.1) _ (by have := hx4.range 0 20; rwa [(unhide HROW).pre] at this) Sakg.underlying26 rfl (unhide HROW).addr.size ?_)
              | (go_at_call 68; refine (((unhide HN).kp (ChgS.of (hbe3.trans (hb4.mono hbe3.size)))).now.cmp ((unhide HS1).kp (ChgS.of (hbe3.trans (hb4.mono hbe3.size)))).now (unhide HM) (unhide HS2)).mono ?_; rintro e w5 ⟨rfl, hq⟩))
                go_meet
                case rel => exact ⟨_, rfl, (fun h => by cases h), hb4.trans ((hq.below _).mono hb4.size)⟩
              · have heq := unhide HEQ
                rw [decide_eq_false hda] at heq
                clear hda
                go_wp2_with (first
              | ((with_reducible refine at_load (w := w3) 26 ?_); refine wpList_load_g (by rfl) 26 (.tmp 4) rfl _ 0 rfl (bv a) _ (unhide HA3).rangeAll Sakg.underlying26 rfl (unhide HA).size ?_)
              | ((with_reducible refine at_load (w := w3) 26 ?_); refine wpList_load_g (by rfl) 26 (.tmp 27) rfl _ 0 rfl (bv d.1) _ (by have := (unhide HX3).range 0 20; rwa [(unhide HROW).pre] at this) Sakg.underlying26 rfl (unhide HROW).addr.size ?_)
              | (go_at_call 195; refine (unhide HBF _).mono ?_; rintro e w4 ⟨rfl, hb4⟩; have ha4 := (unhide HA3).kept hb4; have hx4 := (unhide HX3).kept hb4; have e204 : w4.cell? ⟨wr.heap.size, 20, none⟩ = some (.slice A1 k1 c1) := (by rw [hx4.cell]; exact unhide HQ))
              | ((with_reducible refine at_load (w := w4) 26 ?_); refine wpList_load_g (by rfl) 26 (.tmp 4) rfl _ 0 rfl (bv a) _ ha4.rangeAll Sakg.underlying26 rfl (unhide HA).size ?_)
              | ((with_reducible refine at_load (w := w4) 26 ?_); refine wpList_load_g (by rfl) 26 (.tmp 32) rfl _ 0 rfl (bv d.1) _ (by have := hx4.range 0 20; rwa [(unhide HROW).pre] at this) Sakg.underlying26 rfl (unhide HROW).addr.size ?_)
              | (go_at_call 68; refine (((unhide HN).kp (ChgS.of (hbe3.trans (hb4.mono hbe3.size)))).now.cmp ((unhide HS1).kp (ChgS.of (hbe3.trans (hb4.mono hbe3.size)))).now (unhide HM) (unhide HS2)).mono ?_; rintro e w5 ⟨rfl, hq⟩))
                go_meet
                case rel => exact ⟨false, rfl, (fun h => by cases h), hb4⟩
        case rest =>
          obtain ⟨t, rfl, hlt, hb4⟩ := hcut
          have ha4 := (unhide HA3).kept hb4
          have hx4 := (unhide HX3).kept hb4
          have ho4 := own_kept ho3 hb4
          have hs4 := hb4.size
          have hbe4 : Below w.heap.size w wc := hbe3.trans (hb4.mono (by omega))
          clear ho3 hbe3 hb4 HA3 HX3 HBF HEQ e20
          go_upto_if 43 with fail
          go_cut [6, 7] (fun v ld wy => ∃ (n' : Nat) (laid' : Bool) (os' : List (List Value)) (mo' : List YMark), ld = .bool laid' ∧ n' = i + laid'.toNat ∧ os'.length = n' ∧ wy.ownsRow (w.heap.size + 1) 288 21 v n' os'.flatten ∧ Each (KMark G w) os' mo' ∧ (∀ x, x ∈ mo' ↔ (laid' = true ∧ x = (a, m)) ∨ x ∈ ms.take i) ∧ RowT 26 wy w.heap.size (bv a) ∧ RowT 288 wy wr.heap.size r ∧ Below w.heap.size w wy ∧ wr.heap.size < wy.heap.size)
          case first =>
            cases t with
            | true =>
              obtain rfl : laid = false := by cases laid; rfl; exact absurd (hlt rfl) (by simp)
              clear hlt
              go_wp2_with (first
                | ((with_reducible refine at_load 26 ?_); refine wpList_load_g rfl 26 (.tmp 4) rfl _ 0 rfl (bv a) _ ha4.rangeAll Sakg.underlying26 rfl (unhide HA).size ?_)
                | ((with_reducible refine at_build 288 ?_); refine wpList_build_struct rfl 288 _ rfl _ placesMark i0 _ (unhide HI0) (unhide HZ0) (bv (zeros 20) ++ [nilS]) rfl (bv a ++ [Value.slice A k c2]) (build_mark a (unhide HA) A k c2) ?_)
                | ((with_reducible refine at_buildSlice ?_); refine wpList_build_one rfl 98 (.tmp 47) rfl 288 21 Sakg.underlying98 i0 _ (unhide HI0) (unhide HZ0) (unhide HZ1) rfl (by omega) (by omega) (bv a ++ [Value.slice A k c2]) rfl (unhide HROW0).len ?_)
                | ((with_reducible refine at_append ?_); refine wpList_append_one rfl (.tmp 44) (.tmp 48) 98 rfl 288 21 48 Sakg.underlying98 i0 _ (unhide HI0) (unhide HZ0) (unhide HZ1) (unhide HZ2) rfl (by omega) (w.heap.size + 1) _ _ _ rfl (own_kept ho4 ((Below.refl _ _).alloc (Nat.le_refl _) _)) _ _ (bv a ++ [Value.slice A k c2]) rfl (RowT.new _ _ _) (unhide HROW0).len (unhide HROW0).one (by omega) (by omega) (by simp; omega) ?_; intro v5 w5 ho5 hb5 hg5))
              have hs5 := hb5.size
              simp at hs5
              have hbw5 : Below (w.heap.size + 1) wc w5 := ((Below.refl _ _).alloc (by omega) _).trans hb5
              have hx5 := (hx4.alloc _).grown hg5 (by intro hh; have := unhide HNL _ hh.symm; omega)
              go_meet
              case rel =>
                refine ⟨n + 1, true, os ++ [_], mo ++ [(a, m)], rfl, by have := unhide HNN; simp at this ⊢; omega, by simp [unhide HOL], ho5, (unhide HEA).snoc (unhide HROW0), fun x => ?_, ha4.below hbw5 (by omega), hx5, hbe4.trans (hbw5.mono (by omega)), by omega⟩
                rw [List.mem_append, unhide HMO x]
                simp [or_comm]
            | false =>
              go_wp2_with fail
              go_meet
              case rel => exact ⟨n, laid, os, mo, rfl, unhide HNN, unhide HOL, ho4, unhide HEA, unhide HMO, ha4, hx4, hbe4, by omega⟩
          case rest =>
            obtain ⟨n', laid', os', mo', rfl, hn', hol', hown', hea', hmo', ha6, hx6, hbe6, hs6⟩ := hcut
            have HN' := hide hn'
            have HOL' := hide hol'
            have HOWN' := hide hown'
            have HEA' := hide hea'
            have HMO' := hide hmo'
            have HA6 := hide ha6
            have HX6 := hide hx6
            have hnb' : n' ≤ 1000002 := by cases laid' <;> simp at hn' <;> omega
            clear hn' hol' hown' hea' hmo' ha6 hx6 ha4 hx4 ho4 hbe4 hs4 HNN HNL HEA HOL HMO
            go_wp2_with (first
              | ((with_reducible refine at_load 288 ?_); refine wpList_load_g rfl 288 (.tmp 9) rfl _ 0 rfl r _ (unhide HX6).rangeAll Sakg.underlying288 rfl (unhide HSZR) ?_)
              | ((with_reducible refine at_buildSlice ?_); refine wpList_build_one rfl 98 (.tmp 51) rfl 288 21 Sakg.underlying98 i0 _ (unhide HI0) (unhide HZ0) (unhide HZ1) rfl (by omega) (by omega) r rfl (unhide HRLX) ?_)
              | ((with_reducible refine at_append ?_); refine wpList_append_one rfl (.tmp 50) (.tmp 52) 98 rfl 288 21 48 Sakg.underlying98 i0 _ (unhide HI0) (unhide HZ0) (unhide HZ1) (unhide HZ2) rfl (by omega) (w.heap.size + 1) _ _ _ rfl (own_kept (unhide HOWN') ((Below.refl _ _).alloc (Nat.le_refl _) _)) _ _ r rfl (RowT.new _ _ _) (unhide HRLX) (unhide HROW).one (by omega) (by omega) (by simp; omega) ?_; intro v7 w7 ho7 hb7 hg7))
            have hs7 := hb7.size
            simp at hs7
            have hbw7 : Below (w.heap.size + 1) wc w7 := ((Below.refl _ _).alloc (by omega) _).trans hb7
            go_roundg (gk - 1)
            case measure => omega
            case rel =>
              refine ⟨i + 1, n' + 1, laid', os' ++ [r], mo' ++ [d], by omega, by go_num, rfl, by have := unhide HN'; omega, by simp [unhide HOL'], ho7, (unhide HEA').snoc (unhide HROW), fun x => ?_, (unhide HA6).below hbw7 (by omega), hbe6.trans (hbw7.mono (by omega)), by omega⟩
              rw [List.mem_append, unhide HMO' x, unhide HTS, List.mem_append, or_assoc]
      · obtain rfl : i = l := by omega
        rw [List.take_of_length_le (by have := unhide HL; omega)] at hmo
        have HMO := hide hmo
        have HR := hide hr
        have HOWN := hide hown
        have HOL := hide hol
        have HEA := hide hea
        have hcr : RowT T wr bw cs := (unhide HCS).below hbe hbw
        have hcc : wr.cell? ⟨bw, 2, none⟩ = some (.slice ao i c) := by rw [hcr.cell]; exact h2
        have hcf := hcr.froz 2
        have HCR := hide hcr
        have hnb : n ≤ 1000002 := by cases laid <;> simp at hn <;> omega
        have HNN := hide hn
        clear hr hown hol hea hmo hr2 hb12 hs2 hcr hn hcc2
        cases laid with
        | true =>
          obtain ⟨A', c', rfl, hrw⟩ := own_rws (unhide HOWN) ((unhide HEA).all (fun _ _ h => h.len)) (unhide HOL)
          have hlt := ((unhide HOWN).lt)
          have HRW := hide hrw
          have HLT := hide hlt
          clear hrw hlt HOWN
          go_wp2
          refine bodyPost_done rfl rfl ⟨rfl, ?_⟩
          have hon : Only bw wr (wr.setCell ⟨bw, 2, none⟩ (.slice A' n c')) := (Only.refl _ _).setCell _ _
          have hcw : Chg bw w wr := Chg.of hbe
          have hnw : New w A' := by
            intro x hx
            subst hx
            have := unhide HLT x.block rfl
            omega
          refine ⟨A', n, c', mo, (unhide HCR).set 2 _, ⟨os, StabS.rws ((unhide HRW).only hon (hnw.off hbw _)) (hnw.offS hG _), (unhide HEA).imp fun _ _ h => h.go (ChgS.chg (hcw.trans (Chg.ofOnly hon)) hg)⟩, by have := unhide HNN; simp at this; omega, fun x => ?_, hcw.trans (Chg.ofOnly hon)⟩
          rw [unhide HMO x]; simp
        | false =>
          go_wp2_with (first
            | ((with_reducible refine at_load 26 ?_); refine wpList_load_g rfl 26 (.tmp 4) rfl _ 0 rfl (bv a) _ (unhide HR).rangeAll Sakg.underlying26 rfl (unhide HA).size ?_)
            | ((with_reducible refine at_build 288 ?_); refine wpList_build_struct rfl 288 _ rfl _ placesMark i0 _ (unhide HI0) (unhide HZ0) (bv (zeros 20) ++ [nilS]) rfl (bv a ++ [Value.slice A k c2]) (build_mark a (unhide HA) A k c2) ?_)
            | ((with_reducible refine at_buildSlice ?_); refine wpList_build_one rfl 98 (.tmp 60) rfl 288 21 Sakg.underlying98 i0 _ (unhide HI0) (unhide HZ0) (unhide HZ1) rfl (by omega) (by omega) (bv a ++ [Value.slice A k c2]) rfl (unhide HROW0).len ?_)
            | ((with_reducible refine at_append ?_); refine wpList_append_one rfl (.tmp 57) (.tmp 61) 98 rfl 288 21 48 Sakg.underlying98 i0 _ (unhide HI0) (unhide HZ0) (unhide HZ1) (unhide HZ2) rfl (by omega) (w.heap.size + 1) _ _ _ rfl (own_kept (unhide HOWN) ((Below.refl _ _).alloc (Nat.le_refl _) _)) _ _ (bv a ++ [Value.slice A k c2]) rfl (RowT.new _ _ _) (unhide HROW0).len (unhide HROW0).one (by omega) (by omega) (by simp; omega) ?_; intro v5 w5 ho5 hb5 hg5; have hlt := ho5.lt; obtain ⟨A', c', rfl, hrw⟩ := own_rws ho5 (((unhide HEA).snoc (unhide HROW0)).all (fun _ _ h => h.len)) (by simp [unhide HOL]); have hbw5 : Below (w.heap.size + 1) wr w5 := ((Below.refl _ _).alloc (by omega) _).trans hb5; have hcr5 := (unhide HCR).below hbw5 (by omega); have hcc5 : w5.cell? ⟨bw, 2, none⟩ = some (.slice ao i c) := by { rw [hcr5.cell]; exact h2 }; have hcf5 := hcr5.froz 2; have HRW := hide hrw; have HLT := hide hlt; clear hrw hlt ho5))
          refine bodyPost_done rfl rfl ⟨rfl, ?_⟩
          have hon : Only bw w5 (w5.setCell ⟨bw, 2, none⟩ (.slice A' (n + 1) c')) := (Only.refl _ _).setCell _ _
          have hcw : Chg bw w w5 := Chg.of (hbe.trans (hbw5.mono (by omega)))
          have hnw : New w A' := by
            intro x hx
            subst hx
            have := unhide HLT x.block rfl
            omega
          refine ⟨A', n + 1, c', mo ++ [(a, m)], hcr5.set 2 _, ⟨os ++ [_], StabS.rws ((unhide HRW).only hon (hnw.off hbw _)) (hnw.offS hG _), ((unhide HEA).snoc (unhide HROW0)).imp fun _ _ h => h.go (ChgS.chg (hcw.trans (Chg.ofOnly hon)) hg)⟩, by have := unhide HNN; simp at this; omega, fun x => ?_, hcw.trans (Chg.ofOnly hon)⟩
          rw [List.mem_append, unhide HMO x]
          simp [or_comm]

end Go.Proofs.YgcsakGreat
