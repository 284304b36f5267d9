/-
  yp: the chain's world: what the functions on it do, in one form; isWarm, access.
-/
import Derived.Test.YgcsakGreatKsC
namespace Go.Proofs.YgcsakGreat
set_option linter.unusedVariables false
set_option linter.unusedSimpArgs false
set_option maxRecDepth 100000
open Go.RowKit

def szW (d : WD) : Nat := szA d.accts + d.warmA.length + d.warmS.length + d.logs.length + d.temps.length + d.made.length + d.gone.length
/-- a world within its bounds -/
structure Good (B : Nat) (d : WD) : Prop where
  acc : GoodD B d.accts
  temps : ∀ t ∈ d.temps, t.key < P256 ∧ t.val < P256
  logs : ∀ l ∈ d.logs, l.nt ≤ 4 ∧ l.nd ≤ 1000000
  sz : szW d ≤ 900000
  refund : d.refund < 256 ^ 20
  tot : B < P256
theorem Good.na {B : Nat} {d : WD} (h : Good B d) : d.accts.length ≤ 900000 := by have := h.sz; have := szA_ge d.accts; unfold szW at *; omega
theorem Good.nw {B : Nat} {d : WD} (h : Good B d) : d.warmA.length ≤ 900000 := by have := h.sz; unfold szW at *; omega
theorem Good.nm {B : Nat} {d : WD} (h : Good B d) : d.warmS.length ≤ 900000 := by have := h.sz; unfold szW at *; omega
theorem Good.nl {B : Nat} {d : WD} (h : Good B d) : d.logs.length ≤ 900000 := by have := h.sz; unfold szW at *; omega
theorem Good.nt {B : Nat} {d : WD} (h : Good B d) : d.temps.length ≤ 900000 := by have := h.sz; unfold szW at *; omega
theorem Good.nd {B : Nat} {d : WD} (h : Good B d) : d.made.length ≤ 900000 := by have := h.sz; unfold szW at *; omega
theorem Good.ng {B : Nat} {d : WD} (h : Good B d) : d.gone.length ≤ 900000 := by have := h.sz; unfold szW at *; omega
theorem Good.nsl {B : Nat} {d : WD} (h : Good B d) (a : List Int) : (lookY d.accts a).slots.length ≤ 900000 := by have := h.sz; have := szA_look d.accts a; unfold szW at *; omega
theorem Good.bnd {B : Nat} {d : WD} (h : Good B d) : Bnd d.accts := h.acc.bnd h.tot
theorem Good.bal {B : Nat} {d : WD} (h : Good B d) (a : List Int) : (lookY d.accts a).bal < P256 := Nat.lt_of_le_of_lt (h.acc.bal a) h.tot

/-- the chain's block, and the world in it -/
structure CW (G : Nat → Prop) (bw : Nat) (cs : List Value) (d : WD) (w : World) : Prop where
  row : RowT 107 w bw cs
  len : cs.length = 179
  kw : KV G cs d w
  g : G bw
  ther : Ther G w
section
variable {G : Nat → Prop} {bw : Nat} {cs : List Value} {d : WD} {w : World} {B : Nat}
theorem CW.lt (h : CW G bw cs d w) : bw < w.heap.size := h.row.lt
theorem CW.turn {cs' : List Value} {w' : World} (h : CW G bw cs d w) (hr : RowT 107 w' bw cs') (hl : cs'.length = 179) (he : ∀ i, i < 8 → cs'[i]? = cs[i]?) (hc : ChgS G w w') : CW G bw cs' d w' :=
  ⟨hr, hl, (h.kw.go hc).eq he, h.g, h.ther.go hc.size⟩
theorem CW.kept {w' : World} (h : CW G bw cs d w) (hb : Below w.heap.size w w') : CW G bw cs d w' := h.turn (h.row.kept hb) h.len (fun _ _ => rfl) (ChgS.of hb)
theorem CW.set (h : CW G bw cs d w) (i : Nat) (hi : 8 ≤ i) (v : Value) : CW G bw (cs.set i v) d (w.setCell ⟨bw, i, none⟩ v) :=
  h.turn (h.row.set i v) (by rw [List.length_set]; exact h.len) (fun j hj => List.getElem?_set_ne (by omega)) (ChgS.only ((Only.refl bw w).setCell i v) h.g)
theorem CW.cell (h : CW G bw cs d w) {i : Nat} {v : Value} (hv : cs[i]? = some v) : w.cell? ⟨bw, i, none⟩ = some v := by rw [h.row.cell]; exact hv
theorem CW.ex (h : CW G bw cs d w) {i : Nat} (hi : i < 179) : ∃ v, w.cell? ⟨bw, i, none⟩ = some v := by
  rw [h.row.cell, List.getElem?_eq_getElem (by rw [h.len]; exact hi)]
  exact ⟨_, rfl⟩

/-- what a function of the world leaves -/
def WPost (G : Nat → Prop) (bw : Nat) (cs : List Value) (d' : WD) (w w' : World) : Prop := ∃ cs', CW G bw cs' d' w' ∧ Same8 cs cs' ∧ cs'[4]? = cs[4]? ∧ Chg bw w w'

theorem CW.put0 (h : CW G bw cs d w) {w' : World} {A : Option Addr} {n c : Nat} {x : List YAcct} (hr : RowT 107 w' bw (cs.set 0 (.slice A n c))) (hx : KAccts G w' A n c x) (hc : Chg bw w w') : WPost G bw cs { d with accts := x } w w' :=
  ⟨_, ⟨hr, by rw [List.length_set]; exact h.len, (h.kw.go (ChgS.chg hc h.g)).set0 hx (by rw [h.len]; omega), h.g, h.ther.go hc.size⟩, Same8.set (by omega) _, List.getElem?_set_ne (by omega), hc⟩

theorem CW.setBalance (h : CW G bw cs d w) (hg : Good B d) (a : List Int) (ha : IsAddr a) (A : Option Addr) (k c2 m : Nat) (hn : KNat G w A k c2 m) (hm : m < BIG) :
    Calls Sakg.prog 105 #[.pointer (some ⟨bw, 0, none⟩), .agg (bv a).toArray, .slice A k c2] w fun e w' => e = .returned (.tuple #[]) ∧ WPost G bw cs { d with accts := balY d.accts a m } w w' := by
  obtain ⟨ao, l, c, h1, h2⟩ := h.kw.accts
  have hl := h2.len
  have := hg.na
  refine (k_setBalance_any G 107 bw cs w ao l c d.accts h.ther h.g h2 h.row h1 (by omega) hg.bnd a ha A k c2 m hn hm).mono ?_
  rintro e w' ⟨he, A', n', c', k1, k2, k3, k4⟩
  exact ⟨he, h.put0 k1 k2 k4⟩
theorem CW.setNonce (h : CW G bw cs d w) (hg : Good B d) (a : List Int) (ha : IsAddr a) (A : Option Addr) (k c2 m : Nat) (hn : KNat G w A k c2 m) (hm : m < BIG) :
    Calls Sakg.prog 104 #[.pointer (some ⟨bw, 0, none⟩), .agg (bv a).toArray, .slice A k c2] w fun e w' => e = .returned (.tuple #[]) ∧ WPost G bw cs { d with accts := nonY d.accts a m } w w' := by
  obtain ⟨ao, l, c, h1, h2⟩ := h.kw.accts
  have hl := h2.len
  have := hg.na
  refine (k_setNonce_any G 107 bw cs w ao l c d.accts h.ther h.g h2 h.row h1 (by omega) hg.bnd a ha A k c2 m hn hm).mono ?_
  rintro e w' ⟨he, A', n', c', k1, k2, k3, k4⟩
  exact ⟨he, h.put0 k1 k2 k4⟩
theorem CW.move (h : CW G bw cs d w) (hg : Good B d) (f t : List Int) (hf : IsAddr f) (ht : IsAddr t) (A : Option Addr) (k c2 m : Nat) (hn : KNat G w A k c2 m) (hm : m < BIG) :
    Calls Sakg.prog 198 #[.pointer (some ⟨bw, 0, none⟩), .agg (bv f).toArray, .agg (bv t).toArray, .slice A k c2] w fun e w' => e = .returned (.tuple #[]) ∧ WPost G bw cs { d with accts := moveY d.accts f t m } w w' := by
  obtain ⟨ao, l, c, h1, h2⟩ := h.kw.accts
  have hl := h2.len
  have := hg.na
  refine (k_move_any G 107 bw cs w ao l c d.accts h.ther h.g h2 h.row h1 (by omega) hg.bnd P256 (hg.acc.balK hg.tot) p256_pos (by unfold P256; exact Nat.pow_le_pow_right (by omega) (by omega)) f t hf ht A k c2 m hn hm).mono ?_
  rintro e w' ⟨he, A', n', c', k1, k2, k3, k4⟩
  exact ⟨he, h.put0 k1 k2 k4⟩
theorem CW.put (h : CW G bw cs d w) (hg : Good B d) (r0 : List Value) (x : YAcct) (hr : KAcct G w r0 x) (hd1 : x.nonce < BIG) (hd2 : x.bal < BIG) :
    Calls Sakg.prog 192 #[.pointer (some ⟨bw, 0, none⟩), .agg r0.toArray] w fun e w' => e = .returned (.tuple #[]) ∧ WPost G bw cs { d with accts := putY d.accts x } w w' := by
  obtain ⟨ao, l, c, h1, h2⟩ := h.kw.accts
  have hl := h2.len
  have := hg.na
  refine (KAccts.put h.ther h.g h2 h.row h1 (by omega) r0 x hr hd1 hd2).mono ?_
  rintro e w' ⟨he, A', n', c', k1, k2, k3, k4⟩
  exact ⟨he, h.put0 k1 k2 k4⟩
theorem CW.account (h : CW G bw cs d w) (hg : Good B d) (a : List Int) (ha : IsAddr a) :
    Calls Sakg.prog 99 #[.pointer (some ⟨bw, 0, none⟩), .agg (bv a).toArray] w fun e w' => ∃ r, e = .returned (.agg r.toArray) ∧ KAcct G w' r (lookY d.accts a) ∧ Below w.heap.size w w' := by
  obtain ⟨ao, l, c, h1, h2⟩ := h.kw.accts
  have hl := h2.len
  have := hg.na
  exact h2.account (h.cell h1) a ha (by omega)
theorem CW.warm (h : CW G bw cs d w) (hg : Good B d) (a : List Int) (ha : IsAddr a) :
    Calls Sakg.prog 106 #[.pointer (some ⟨bw, 0, none⟩), .agg (bv a).toArray] w fun e w' => e = .returned (.tuple #[]) ∧ ∃ als, als.length ≤ d.warmA.length + 1 ∧ WPost G bw cs { d with warmA := als } w w' := by
  obtain ⟨ao, l, c, h1, h2⟩ := h.kw.warmA
  have hl := h2.now.len
  have := hg.nw
  refine (k_warm_any G 107 bw cs w ao l c d.warmA h.ther h.g h2 h.row h1 (by omega) a ha).mono ?_
  rintro e w' ⟨he, A', n', c', als', k1, k2, k3, k4, k5⟩
  have hl2 := k2.now.len
  exact ⟨he, als', by omega, _, ⟨k1, by rw [List.length_set]; exact h.len, (h.kw.go (ChgS.chg k5 h.g)).set1 k2 (by rw [h.len]; omega), h.g, h.ther.go k5.size⟩, Same8.set (by omega) _, List.getElem?_set_ne (by omega), k5⟩
theorem CW.warmSlot (h : CW G bw cs d w) (hg : Good B d) (a : List Int) (ha : IsAddr a) (A : Option Addr) (k c2 m : Nat) (hn : KNat G w A k c2 m) (hm : m < BIG) :
    Calls Sakg.prog 107 #[.pointer (some ⟨bw, 0, none⟩), .agg (bv a).toArray, .slice A k c2] w fun e w' => e = .returned (.tuple #[]) ∧ ∃ ms, ms.length ≤ d.warmS.length + 1 ∧ WPost G bw cs { d with warmS := ms } w w' := by
  obtain ⟨ao, l, c, h1, h2⟩ := h.kw.warmS
  have hl := h2.len
  have := hg.nm
  refine (k_warmSlot_any G 107 bw cs w ao l c d.warmS h.ther h.g h2 h.row h1 (by omega) a ha A k c2 m hn hm).mono ?_
  rintro e w' ⟨he, A', n', c', ms', k1, k2, k3, k4, k5⟩
  have hl2 := k2.len
  exact ⟨he, ms', by omega, _, ⟨k1, by rw [List.length_set]; exact h.len, (h.kw.go (ChgS.chg k5 h.g)).set2 k2 (by rw [h.len]; omega), h.g, h.ther.go k5.size⟩, Same8.set (by omega) _, List.getElem?_set_ne (by omega), k5⟩
theorem CW.isWarmSlot (h : CW G bw cs d w) (hg : Good B d) (a : List Int) (ha : IsAddr a) (A : Option Addr) (k c2 m : Nat) (hn : KNat G w A k c2 m) (hm : m < BIG) :
    Calls Sakg.prog 194 #[.pointer (some ⟨bw, 0, none⟩), .agg (bv a).toArray, .slice A k c2] w fun e w' => (∃ b, e = .returned (.bool b)) ∧ Below w.heap.size w w' := by
  obtain ⟨ao, l, c, h1, h2⟩ := h.kw.warmS
  have hl := h2.len
  have := hg.nm
  refine (isWarmSlot_any bw w ao l c d.warmS (h2.s h.g) (h.cell h1) (by omega) a ha A k c2 m (StabS.stab hn h.g) hm).mono ?_
  rintro e w' ⟨he, hb⟩
  exact ⟨⟨_, he⟩, hb⟩
theorem CW.load (h : CW G bw cs d w) (hg : Good B d) (a : List Int) (ha : IsAddr a) (A : Option Addr) (k c2 m : Nat) (hn : KNat G w A k c2 m) (hm : m < BIG) :
    Calls Sakg.prog 308 #[.pointer (some ⟨bw, 0, none⟩), .agg (bv a).toArray, .slice A k c2] w fun e w' => (∃ A k c v, e = .returned (.slice A k c) ∧ KNat G w' A k c v ∧ v < P256) ∧ Below w.heap.size w w' := by
  obtain ⟨ao, l, c, h1, h2⟩ := h.kw.accts
  have hl := h2.len
  have := hg.na
  have := hg.nsl a
  have ga := hg.acc.look a
  refine (load_any G bw w ao l c d.accts h2 (h.cell h1) (by omega) a ha A k c2 m hn hm (fun s hs => Nat.lt_trans (ga.slots s hs).1 p256_lt) (by omega)).mono ?_
  rintro e w' ⟨⟨A', k', c', v, he, hk, hv⟩, hb⟩
  refine ⟨⟨A', k', c', v, he, hk, ?_⟩, hb⟩
  rcases hv with rfl | ⟨t, ht, rfl⟩
  · exact p256_pos
  · exact (ga.slots t ht).2.1
theorem CW.tload (h : CW G bw cs d w) (hg : Good B d) (a : List Int) (ha : IsAddr a) (A : Option Addr) (k c2 m : Nat) (hn : KNat G w A k c2 m) (hm : m < BIG) :
    Calls Sakg.prog 309 #[.pointer (some ⟨bw, 0, none⟩), .agg (bv a).toArray, .slice A k c2] w fun e w' => (∃ A k c v, e = .returned (.slice A k c) ∧ KNat G w' A k c v ∧ v < P256) ∧ Below w.heap.size w w' := by
  obtain ⟨ao, l, c, h1, h2⟩ := h.kw.temps
  have hl := h2.len
  have := hg.nt
  refine (tload_any G bw w ao l c d.temps h2 (h.cell h1) (by omega) a ha A k c2 m hn hm).mono ?_
  rintro e w' ⟨⟨A', k', c', v, he, hk, hv⟩, hb⟩
  refine ⟨⟨A', k', c', v, he, hk, ?_⟩, hb⟩
  rcases hv with rfl | ⟨t, ht, rfl⟩
  · exact p256_pos
  · exact (hg.temps t ht).2

set_option maxHeartbeats 4000000 in
theorem CW.isWarm (h : CW G bw cs d w) (hg : Good B d) (a : List Int) (ha : IsAddr a) :
    Calls Sakg.prog 484 #[.pointer (some ⟨bw, 0, none⟩), .agg (bv a).toArray] w fun e w' => (∃ b, e = .returned (.bool b)) ∧ Below w.heap.size w w' := by
  obtain ⟨W, hW⟩ : ∃ W, W = w.alloc (.cells (bv a).toArray 26) := ⟨_, rfl⟩
  have hb0 : Below w.heap.size w W := by rw [hW]; exact (Below.refl _ _).alloc (Nat.le_refl _) _
  have hr0 : RowT 26 W w.heap.size (bv a) := by rw [hW]; exact RowT.new _ _ _
  obtain ⟨ao, l, c, h1, h2⟩ := h.kw.warmA
  have hl := h2.now.len
  have hnw := hg.nw
  have hww : ∀ wz, Below W.heap.size W wz → Below w.heap.size w wz := fun wz hz => hb0.trans (hz.mono hb0.size)
  have HS : ∀ wz, Below W.heap.size W wz → Hid (wz.cell? ⟨bw, 1, none⟩ = some (.slice ao l c)) := fun wz hz => hide (by rw [(h.kept (hww wz hz)).row.cell]; exact h1)
  have HR : ∀ wz, Below W.heap.size W wz → wz.rangeAt w.heap.size 0 (bv a) := fun wz hz => (hr0.kept hz).rangeAll
  have HC : ∀ wz, Below W.heap.size W wz → Hid (Calls Sakg.prog 213 #[.slice ao l c, .agg (bv a).toArray] wz fun e w' => e = .returned (.bool (decide (a ∈ d.warmA))) ∧ Below wz.heap.size wz w') := fun wz hz => hide (listed_any ao l c d.warmA a wz (h2.kp (ChgS.of (hww wz hz))).now ha (by omega))
  have hu := Sakg.underlying26
  have hsz := ha.size
  have d0 : Below W.heap.size W W.drew := Quiet.below ⟨1, rfl⟩ _
  have HRR := hide HR
  clear hr0 h2 h hl HR
  generalize decide (a ∈ d.warmA) = bb at HC
  go_enter Sakg.func484, Sakg.ntmps484
  go_upto_region 1 with fail
  rw [← hW]
  clear hW
  refine wp_region_noPanic ?_
  refine wp_region_held_drew (S := fun w' => Below W.heap.size W w') (by kernel_rfl) (d0) (fun hHeld => ?_)
  refine held_takeD 0 (.pointer (some ⟨bw, 0, none⟩)) (some 5) (by rfl) (by rfl) (by kernel_rfl) (by kernel_rfl) (by kernel_rfl) (fun _ _ _ h => h) (.inl ⟨by rfl, fun _ _ => by rfl⟩) (hHeld) ?_
  simp only [Act.put, List.setIfInBounds_toArray, List.set_cons_zero, List.set_cons_succ]
  refine held_takeD 1 (.pointer (some ⟨bw, 0, none⟩)) (some 6) (by rfl) (by rfl) (by kernel_rfl) (by kernel_rfl) (by kernel_rfl) (fun _ _ _ h => h) (.inl ⟨by rfl, fun _ _ => by go_simp⟩) (hHeld) ?_
  simp only [Act.put, List.setIfInBounds_toArray, List.set_cons_zero, List.set_cons_succ]
  refine held_takeD 2 (.pointer (some ⟨bw, 1, none⟩)) (some 7) (by rfl) (by rfl) (by kernel_rfl) (by kernel_rfl) (by kernel_rfl) (fun _ _ _ h => h) (.inl ⟨by rfl, fun _ _ => by go_simp⟩) (hHeld) ?_
  simp only [Act.put, List.setIfInBounds_toArray, List.set_cons_zero, List.set_cons_succ]
  refine held_takeD 3 (.slice ao l c) (some 8) (by rfl) (by rfl) (by kernel_rfl) (by kernel_rfl) (by kernel_rfl) (fun _ _ _ h => h) (.inl ⟨by rfl, fun wS hS => by have hc := unhide (HS wS hS); go_simp⟩) (hHeld) ?_
  simp only [Act.put, List.setIfInBounds_toArray, List.set_cons_zero, List.set_cons_succ]
  refine held_takeD 4 (.agg (bv a).toArray) (some 9) (by rfl) (by rfl) (by kernel_rfl) (by kernel_rfl) (by kernel_rfl) (fun _ _ _ h => h) (yieldsIf_load_mid (by rfl) _ _ rfl _ _ rfl _ _ (fun wz hS => unhide HRR wz hS) hu rfl hsz) (hHeld) ?_
  simp only [Act.put, List.setIfInBounds_toArray, List.set_cons_zero, List.set_cons_succ]
  refine held_one 5 (by kernel_rfl) (by rfl) (fun K' hK' => ?_)
  go_simp
  refine (unhide (HC _ d0)).mono ?_
  rintro e w2 ⟨rfl, b2⟩
  refine hK'.out _ _ (d0.trans (b2.mono d0.size)) ?_
  clear hK' K'
  refine held_takeD 6 (.bool bb) (some 4) (by rfl) (by rfl) (by kernel_rfl) (by kernel_rfl) (by kernel_rfl) (fun _ _ _ h => h) (.inl ⟨by rfl, fun _ _ => by go_simp⟩) (d0.trans (b2.mono d0.size)) ?_
  simp only [Act.put, List.setIfInBounds_toArray, List.set_cons_zero, List.set_cons_succ]
  refine wpAnyH_done (by kernel_rfl) ?_ _
  refine NoPanic.normal ?_
  go_wp2
  go_ret
  exact ⟨⟨_, rfl⟩, hww _ (d0.trans (b2.mono d0.size))⟩

set_option maxHeartbeats 4000000 in
theorem CW.access (h : CW G bw cs d w) (hg : Good B d) (a : List Int) (ha : IsAddr a) :
    Calls Sakg.prog 422 #[.pointer (some ⟨bw, 0, none⟩), .agg (bv a).toArray] w fun e w' => ∃ A k c n, e = .returned (.slice A k c) ∧ IsNat w' A k c n ∧ New w A ∧ (n = 100 ∨ n = 2600) ∧ Below w.heap.size w w' := by
  obtain ⟨W, hW⟩ : ∃ W, W = w.alloc (.cells (bv a).toArray 26) := ⟨_, rfl⟩
  have hb0 : Below w.heap.size w W := by rw [hW]; exact (Below.refl _ _).alloc (Nat.le_refl _) _
  have hr0 : RowT 26 W w.heap.size (bv a) := by rw [hW]; exact RowT.new _ _ _
  have HC := hide ((h.kept hb0).isWarm hg a ha)
  have HA := hide ha
  have HR := hide hr0
  clear h ha hr0
  go_enter Sakg.func422, Sakg.ntmps422
  go_upto_region 1 with fail
  rw [← hW]
  clear hW
  go_wp2_with (first
    | ((with_reducible refine at_load 26 ?_); refine wpList_load_g rfl 26 (.tmp 3) rfl _ 0 rfl (bv a) _ (unhide HR).rangeAll Sakg.underlying26 rfl (unhide HA).size ?_)
    | (go_at_call 484; refine (unhide HC).mono ?_; rintro e w2 ⟨⟨bb, rfl⟩, b2⟩; have d2 := hb0.trans (b2.mono hb0.size); clear HC; cases bb)
    | (go_at_call 97; refine (num_any _ _ (by decide)).mono ?_; rintro e w3 ⟨A3, k3, c3, rfl, n3, N3, b3⟩; have NN := hide n3; clear n3))
  · go_ret
    exact ⟨A3, k3, c3, 2600, rfl, unhide NN, N3.later d2.size, .inr rfl, d2.trans (b3.mono d2.size)⟩
  · go_ret
    exact ⟨A3, k3, c3, 100, rfl, unhide NN, N3.later d2.size, .inl rfl, d2.trans (b3.mono d2.size)⟩
end

end Go.Proofs.YgcsakGreat
