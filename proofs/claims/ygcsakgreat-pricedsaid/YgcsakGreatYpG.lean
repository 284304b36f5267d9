/-
  yp: (*World).move.
-/
import Derived.Test.YgcsakGreatYpF
namespace Go.Proofs.YgcsakGreat
set_option linter.unusedVariables false
set_option linter.unusedSimpArgs false
set_option maxRecDepth 100000
open Go.RowKit

theorem SAcct.cells {g : Nat} {w : World} {r : List Value} {d : YAcct} (h : SAcct g w r d) : ∃ A1 k1 c1 A2 k2 c2 A3 k3 c3 A4 k4 c4, r[20]? = some (.slice A1 k1 c1) ∧ r[21]? = some (.slice A2 k2 c2) ∧ r[22]? = some (.slice A3 k3 c3) ∧ r[23]? = some (.slice A4 k4 c4) ∧
    Stab g (fun w => IsNat w A1 k1 c1 d.nonce) w ∧ Stab g (fun w => IsNat w A2 k2 c2 d.bal) w ∧ Stab g (fun w => Src w A3 k3 c3 d.code) w ∧ SSlots g w A4 k4 c4 d.slots := by
  obtain ⟨A1, k1, c1, A2, k2, c2, A3, k3, c3, A4, k4, c4, rfl, h2, h3, h4, h5, h6⟩ := h
  have e : ∀ i, (bv d.addr ++ [Value.slice A1 k1 c1, .slice A2 k2 c2, .slice A3 k3 c3, .slice A4 k4 c4])[20 + i]? = [Value.slice A1 k1 c1, .slice A2 k2 c2, .slice A3 k3 c3, .slice A4 k4 c4][i]? := fun i => by
    rw [List.getElem?_append_right (by rw [bv_len, h2.len]; omega), bv_len, h2.len, Nat.add_sub_cancel_left]
  exact ⟨A1, k1, c1, A2, k2, c2, A3, k3, c3, A4, k4, c4, e 0, e 1, e 2, e 3, h3, h4, h5, h6⟩

/-- where a struct's field lies -/
def FieldAt (t : TypeId) (i off : Nat) (ft : TypeId) : Prop := Sakg.prog.underlying t = some (.struct (Sakg.prog.fieldsOf t)) ∧ ((Sakg.prog.fieldsOf t)[i]?).map (fun f => (f.type, f.offset)) = some (ft, off)
theorem run_field_slice {t : TypeId} {i off : Nat} {ft e : TypeId} (hf : FieldAt t i off ft) (hd : Sakg.prog.underlying ft = some (.slice e)) (r : List Value) (v : Value) (hv : r[off]? = some v) (wx : World) : (Instr.field t (.agg r.toArray) i).run Sakg.prog wx = .ok v wx := by
  obtain ⟨h1, h2⟩ := hf
  cases hq : (Sakg.prog.fieldsOf t)[i]? with
  | none => rw [hq] at h2; cases h2
  | some f =>
    rw [hq] at h2
    simp only [Option.map_some, Option.some.injEq, Prod.mk.injEq] at h2
    obtain ⟨rfl, rfl⟩ := h2
    unfold Instr.field
    simp only [Sem.run_bind, run_underlying h1, Result.andThen_ok, hq]
    simp [part, isAgg, asAgg, run_underlying hd, hv]
theorem fldBal : FieldAt 113 2 21 54 := ⟨by kernel_rfl, by kernel_rfl⟩
theorem fldCode : FieldAt 113 3 22 30 := ⟨by kernel_rfl, by kernel_rfl⟩

theorem set_same {cs : List Value} {i : Nat} {v : Value} (h : cs[i]? = some v) : cs.set i v = cs := by
  apply List.ext_getElem?
  intro j
  by_cases hj : i = j
  · subst hj
    have : i < cs.length := by
      rcases Nat.lt_or_ge i cs.length with h' | h'
      · exact h'
      · rw [List.getElem?_eq_none h'] at h; cases h
    rw [List.getElem?_set_self this, h]
  · rw [List.getElem?_set_ne hj]

theorem held_take {P : Program} {ops : Array Oper} {Q : Exit → Act → World → Prop} {md : Region.Mode} {S : World → Prop} (i : Nat) (v : Value) {oi : Oper} {fuel : Nat} {listed : Array Bool} {a : Act} {w : World} (hi : ops[i]? = some oi)
    (hs : Region.noSelect ops = true) (hf : Region.free md ops listed i = true) (hr : (Region.ready md ops listed).contains i = true)
    (hQ : ∀ c a w, Q (.panic c) (a.put oi.dst v) w → Q (.panic c) a w) (hy : YieldsIf P ops S oi v a) (hS : S w)
    (h : wpAnyH P md ops Q S fuel (listed.setIfInBounds i true) (a.put oi.dst v) w) : wpAnyH P md ops Q S (fuel + 1) listed a w := wpAnyH_take hi hs hf hr hQ hy hS h
theorem held_one {P : Program} {ops : Array Oper} {Q : Exit → Act → World → Prop} {md : Region.Mode} {S : World → Prop} (i : Nat) {o : Oper} {fuel : Nat} {listed : Array Bool} {a : Act} {w : World} (hr : Region.ready md ops listed = [i]) (ho : ops[i]? = some o)
    (h : ∀ K' : Act → World → Prop, Shut (∀ a w, S w → wpAnyH P md ops Q S fuel (listed.setIfInBounds i true) a w → K' a w) → if Region.wanted o (yielded ops a.tmps) = true then Oper.wp P o a w K' Q else K' (a.put o.dst undef) w) : wpAnyH P md ops Q S (fuel + 1) listed a w := by
  refine wpAnyH_all hr (by simp) fun j hj => ?_
  obtain rfl : j = i := by simpa using hj
  exact wpOp_step ho fun K' hK => h K' fun a w hS hW => hK a w ⟨hS, hW⟩

def moveY (ds : List YAcct) (f t : List Int) (m : Nat) : List YAcct :=
  if m ≤ (lookY ds f).bal ∧ m ≠ 0 then
    putY (putY ds { lookY ds f with bal := (lookY ds f).bal - m }) { lookY (putY ds { lookY ds f with bal := (lookY ds f).bal - m }) t with bal := (lookY (putY ds { lookY ds f with bal := (lookY ds f).bal - m }) t).bal + m }
  else ds

/-- what move leaves -/
def MovePost (T : TypeId) (bw : Nat) (cs : List Value) (l : Nat) (ds : List YAcct) (w w' : World) : Prop :=
  ∃ A n c', RowT T w' bw (cs.set 0 (.slice A n c')) ∧ SAccts bw w' A n c' ds ∧ n ≤ l + 2 ∧ Chg bw w w'

/-- all balances below a number -/
def Bal (K : Nat) (ds : List YAcct) : Prop := ∀ d ∈ ds, d.bal < K
theorem Bal.look {K : Nat} {ds : List YAcct} (h : Bal K ds) (hK : 0 < K) (a : List Int) : (lookY ds a).bal < K := by
  rcases lookY_mem ds a with hm | hm
  · exact h _ hm
  · rw [hm]; exact hK
theorem Bal.put {K : Nat} {ds : List YAcct} (h : Bal K ds) {d : YAcct} (h1 : d.bal < K) : Bal K (putY ds d) := by
  intro x hx
  rcases putY_mem ds d x hx with rfl | hm
  · exact h1
  · exact h x hm

set_option maxHeartbeats 8000000 in
theorem move_any (T : TypeId) (bw : Nat) (cs : List Value) (w : World) (ao : Option Addr) (l c : Nat) (ds : List YAcct) (h : SAccts bw w ao l c ds) (hcs : RowT T w bw cs) (h0 : cs[0]? = some (.slice ao l c)) (hl : l ≤ 999999) (hB : Bnd ds) (K : Nat) (hK : Bal K ds) (hK0 : 0 < K) (hK2 : K ≤ 256 ^ 199)
    (f t : List Int) (hf : IsAddr f) (ht : IsAddr t) (A : Option Addr) (k c2 m : Nat) (hn : Stab bw (fun w => IsNat w A k c2 m) w) (hm : m < BIG) :
    Calls Sakg.prog 198 #[.pointer (some ⟨bw, 0, none⟩), .agg (bv f).toArray, .agg (bv t).toArray, .slice A k c2] w fun e w' => e = .returned (.tuple #[]) ∧ MovePost T bw cs l (moveY ds f t m) w w' := by
  obtain ⟨W, hW⟩ : ∃ W, W = (w.alloc (.cells (bv f).toArray 26)).alloc (.cells (bv t).toArray 26) := ⟨_, rfl⟩
  have hbW : Below w.heap.size w W := by rw [hW]; exact ((Below.refl _ _).alloc (Nat.le_refl _) _).alloc (by simp) _
  have r1 : RowT 26 W w.heap.size (bv f) := by rw [hW]; exact (RowT.new _ _ _).alloc _
  have r2 : RowT 26 W (w.heap.size + 1) (bv t) := by
    rw [hW]
    have := RowT.new 26 (w.alloc (.cells (bv f).toArray 26)) (bv t)
    rw [World.size_alloc] at this
    exact this
  have hbw := hcs.lt
  have hcsW := hcs.below hbW hbw
  have hsW := h.go (Chg.of hbW)
  have HAC := hide (hsW.account (bw := bw) (ow := 0) (by rw [hcsW.cell]; exact h0) f hf (by omega))
  have HF := hide hf
  have HT := hide ht
  have HN := hide (hn.go (Chg.of hbW))
  have HS := hide hsW
  have HCS := hide hcsW
  have HR1 := hide r1
  have HR2 := hide r2
  have HB := hide hB
  have HK := hide hK
  have hlb := hide (hB.look f).2
  clear h hcs hf ht hn hcsW hsW r1 r2 hB hK
  go_enter Sakg.func198, Sakg.ntmps198
  go_upto_region 1 with fail
  rw [← hW]
  have HW := hide hW
  clear hW
  go_upto_region 2 with (first
    | ((with_reducible refine at_load 26 ?_); refine wpList_load_g rfl 26 (.tmp 5) rfl _ 0 rfl (bv f) _ (unhide HR1).rangeAll Sakg.underlying26 rfl (unhide HF).size ?_)
    | (go_at_call 99; refine (unhide HAC).mono ?_; rintro e w2 ⟨r, rfl, hrow, hb2⟩; obtain ⟨A1, k1, c1, A2, k2, c2', A3, k3, c3, A4, k4, c4, q20, q21, q22, q23, s1, s2, s3, s4⟩ := hrow.cells; have HROW := hide hrow; have HS1 := hide s1; have HS2 := hide s2; have s2' := s2.now; have hn' := (unhide HN).go (Chg.of hb2) |>.now; have hfld := run_field_slice fldBal Sakg.underlying54 r _ q21; clear hrow s1 s2 s3 s4; have HSUB := hide (s2'.sub hn' (unhide hlb) hm); clear s2' hn')
    | (go_at_call 35; refine (unhide HSUB).mono ?_; rintro e w3 ⟨Ar, kr, cr, rfl, hrest, hNr, hb3⟩; have HREST := hide hrest; clear hrest))
  have hb23 : Below W.heap.size W w3 := hb2.trans (hb3.mono hb2.size)
  have HIZ := hide (isZero_any A k c2 m w3 ((unhide HN).go (Chg.of hb23)).now hm)
  by_cases hle : m ≤ (lookY ds f).bal
  case neg =>
    have hd : decide (m ≤ (lookY ds f).bal) = false := decide_eq_false hle
    rw [hd]
    have HLE := hide hle
    clear hd hle
    go_wp2
    refine bodyPost_ret (results_none rfl _ _ _) rfl ⟨rfl, ?_⟩
    have hm : moveY ds f t m = ds := by unfold moveY; rw [if_neg (fun h => unhide HLE h.1)]
    rw [hm]
    have hbe : Below w.heap.size w w3 := hbW.trans (hb23.mono hbW.size)
    refine ⟨ao, l, c, ?_, (unhide HS).go (Chg.of hb23), by omega, Chg.of hbe⟩
    have : cs.set 0 (.slice ao l c) = cs := set_same h0
    rw [this]
    exact (unhide HCS).kept hb23
  case pos =>
    have hd : decide (m ≤ (lookY ds f).bal) = true := decide_eq_true hle
    rw [hd]
    have HLE := hide hle
    clear hd hle
    by_cases hm0 : m = 0
    · rw [decide_eq_true hm0] at HIZ
      have HM0 := hide hm0
      clear hm0
      go_wp2_with (go_at_call 130; refine (unhide HIZ).mono ?_; rintro e w4 ⟨rfl, hq⟩)
      refine bodyPost_ret (results_none rfl _ _ _) rfl ⟨rfl, ?_⟩
      have hm : moveY ds f t m = ds := by unfold moveY; rw [if_neg (fun h => h.2 (unhide HM0))]
      rw [hm]
      have hb24 : Below W.heap.size W w4 := hb23.trans ((hq.below _).mono hb23.size)
      have hbe : Below w.heap.size w w4 := hbW.trans (hb24.mono hbW.size)
      refine ⟨ao, l, c, ?_, (unhide HS).go (Chg.of hb24), by omega, Chg.of hbe⟩
      rw [set_same h0]
      exact (unhide HCS).kept hb24
    · rw [decide_eq_false hm0] at HIZ
      have HM0 := hide hm0
      clear hm0
      have hdf := (unhide HB).look f
      have hbm : (lookY ds f).bal - m < K := by have := (unhide HK).look hK0 f; omega
      have hKB : K ≤ BIG := Nat.le_trans hK2 (big_pow 199 (by omega))
      have hbm2 : (lookY ds f).bal - m < BIG := by omega
      obtain ⟨ds1, hds1⟩ : ∃ ds1, ds1 = putY ds { lookY ds f with bal := (lookY ds f).bal - m } := ⟨_, rfl⟩
      have HB1 : Hid (Bnd ds1) := hide (by rw [hds1]; exact (unhide HB).put hdf.1 hbm2)
      have HK1 : Hid (Bal K ds1) := hide (by rw [hds1]; exact (unhide HK).put hbm)
      have HDS := hide hds1
      clear hds1 hdf hbm
      have hNr3 : New W Ar := hNr.later hb2.size
      go_upto_region 4 with (first
        | (go_at_call 130; refine (unhide HIZ).mono ?_; rintro e w4 ⟨rfl, hq⟩; have hb34 : Below w3.heap.size w3 w4 := hq.below _; have hb24 : Below W.heap.size W w4 := hb23.trans (hb34.mono hb23.size); have hr14 := (unhide HR1).kept hb24; have hr24 := (unhide HR2).kept hb24; clear hq)
        | ((with_reducible refine at_load 26 ?_); refine wpList_load_g rfl 26 (.tmp 5) rfl _ 0 rfl (bv f) _ hr14.rangeAll Sakg.underlying26 rfl (unhide HF).size ?_)
        | (go_at_call 105; refine (setBalance_any T bw cs _ ao l c ds ((unhide HS).go (Chg.of hb24)) ((unhide HCS).kept hb24) h0 (by omega) (unhide HB) f (unhide HF) Ar kr cr ((lookY ds f).bal - m) (Stab.nat ((unhide HREST).kept hb34) (hNr3.off (unhide HCS).lt _)) hbm2).mono ?_; rintro e w5 ⟨rfl, A5, n5, c5, hcs5, hs5, hn5, hc5⟩))
      rw [← unhide HDS] at hs5
      have hsW : w.heap.size + 1 < W.heap.size := (unhide HR2).lt
      have hq6 : Below w5.heap.size w5 w5.drew := Quiet.below ⟨1, rfl⟩ _
      have hcs6 := hcs5.kept hq6
      have hs6 := hs5.go (Chg.of hq6)
      have hr26 := (hc5.row hr24 (by omega)).kept hq6
      have hc06 : Chg bw W w5.drew := ((Chg.of hb24).trans hc5).trans (Chg.of hq6)
      have hN6 := (unhide HN).go hc06
      have h01 : (cs.set 0 (Value.slice A5 n5 c5))[0]? = some (.slice A5 n5 c5) := List.getElem?_set_self (by rcases Nat.eq_zero_or_pos cs.length with h | h; (rw [List.getElem?_eq_none (by omega)] at h0; cases h0); exact h)
      obtain ⟨cs1, hcs1⟩ : ∃ cs1, cs1 = cs.set 0 (Value.slice A5 n5 c5) := ⟨_, rfl⟩
      rw [← hcs1] at hcs6 h01
      have HCS1 := hide hcs1
      have hrg6 := hr26.rangeAll
      have HAC6 := hide (hs6.account (bw := bw) (ow := 0) (by rw [hcs6.cell]; exact h01) t (unhide HT) (by omega))
      have HSS := hide hs6
      have HCS6 := hide hcs6
      have HN6 := hide hN6
      have HC06 := hide hc06
      have hca : (bv t).length = 20 := by rw [bv_len]; exact (unhide HT).len
      have hone := bv_one t
      have hu63 := Sakg.underlying26
      have hi63 := (unhide HT).size
      have hlt1 : (lookY ds1 t).bal < K := (unhide HK1).look hK0 t
      have HLB : Hid ((lookY ds1 t).bal < BIG) := hide (by omega)
      have hsum : (lookY ds1 t).bal + m < BIG := by
        have hmK : m < K := by have h1 := (unhide HK).look hK0 f; have h2 := unhide HLE; omega
        have : 256 ^ 199 * 256 = BIG := (Nat.pow_succ ..).symm
        omega
      have HSUM := hide hsum
      clear hcs5 hs5 hr14 hr24 hc5 hcs6 hs6 hr26 hc06 hN6 hcs1 hsum hlt1 hfld hb24 hb34 hb23 hb3 hb2 q20 q21 q22 q23
      refine wp_region_noPanic ?_
      refine wp_region_held_drew (S := fun w' => w'.rangeAt (w.heap.size + 1) 0 (bv t)) (by kernel_rfl) hrg6 (fun hHeld => ?_)
      refine held_take 0 (.pointer (some ⟨bw, 0, none⟩)) (by rfl) (by kernel_rfl) (by kernel_rfl) (by kernel_rfl) (fun _ _ _ h => h) (.inl ⟨by rfl, fun _ _ => by rfl⟩) hHeld ?_
      refine held_take 2 (.pointer (some ⟨bw, 0, none⟩)) (by rfl) (by kernel_rfl) (by kernel_rfl) (by kernel_rfl) (fun _ _ _ h => h) (.inl ⟨by rfl, fun _ _ => by rfl⟩) hHeld ?_
      refine held_take 6 (.slice A k c2) (by rfl) (by kernel_rfl) (by kernel_rfl) (by kernel_rfl) (fun _ _ _ h => h) (.inl ⟨by rfl, fun _ _ => by rfl⟩) hHeld ?_
      refine held_take 1 (.agg (bv t).toArray) (by rfl) (by kernel_rfl) (by kernel_rfl) (by kernel_rfl) (fun _ _ _ h => h) (yieldsIf_load_mid (by rfl) _ _ rfl _ _ rfl _ _ (fun _ h => h) hu63 rfl hi63) hHeld ?_
      refine held_take 3 (.agg (bv t).toArray) (by rfl) (by kernel_rfl) (by kernel_rfl) (by kernel_rfl) (fun _ _ _ h => h) (yieldsIf_load_mid (by rfl) _ _ rfl _ _ rfl _ _ (fun _ h => h) hu63 rfl hi63) hHeld ?_
      simp only [Act.put, List.setIfInBounds_toArray, List.set_cons_zero, List.set_cons_succ]
      refine held_one 4 (by kernel_rfl) (by rfl) (fun K' hK' => ?_)
      go_simp
      refine (unhide HAC6).mono ?_
      rintro e w7 ⟨r7, rfl, hrow7, hb7⟩
      have hrg7 := range_kept hrg6 hb7
      obtain ⟨B1, j1, d1, B2, j2, d2, B3, j3, d3, B4, j4, d4, p20, p21, p22, p23, t1, t2, t3, t4⟩ := hrow7.cells
      have hfld7 := run_field_slice fldBal Sakg.underlying54 r7 _ p21
      have HADD := hide (t2.now.add ((unhide HN6).go (Chg.of hb7)).now (unhide HLB) hm)
      refine hK'.out _ _ hrg7 ?_
      clear hK' K' hrow7 p20 p21 p22 p23 t1 t2 t3 t4
      refine held_take 5 (.slice B2 j2 d2) (by rfl) (by kernel_rfl) (by kernel_rfl) (by kernel_rfl) (fun _ _ _ h => h) (.inl ⟨by rfl, fun _ _ => by go_simp⟩) hrg7 ?_
      simp only [Act.put, List.setIfInBounds_toArray, List.set_cons_zero, List.set_cons_succ]
      refine held_one 7 (by kernel_rfl) (by rfl) (fun K' hK' => ?_)
      go_simp
      refine (unhide HADD).mono ?_
      rintro e w8 ⟨A8, k8, c8, rfl, hn8, hN8, hb8⟩
      have hrg8 := range_kept hrg7 hb8
      have hb68 := hb7.trans (hb8.mono hb7.size)
      have HN8 := hide (Stab.nat (g := bw) hn8 ((hN8.later hb7.size).off (unhide HCS6).lt _))
      refine hK'.out _ _ hrg8 ?_
      clear hK' K' hn8
      refine held_one 8 (by kernel_rfl) (by rfl) (fun K' hK' => ?_)
      go_simp
      refine (setBalance_any T bw cs1 _ A5 n5 c5 ds1 ((unhide HSS).go (Chg.of hb68)) ((unhide HCS6).kept hb68) h01 (by omega) (unhide HB1) t (unhide HT) A8 k8 c8 _ (unhide HN8) (unhide HSUM)).mono ?_
      rintro e w9 ⟨rfl, hp9⟩
      have hrg9 : w9.rangeAt (w.heap.size + 1) 0 (bv t) := by
        obtain ⟨A9, n9, c9, _, _, _, hc9⟩ := hp9
        intro j v hv
        rw [hc9.cell ⟨w.heap.size + 1, 0 + j, none⟩ (by simp; omega) (range_lt hrg8 (by intro hh; rw [hh] at hca; cases hca))]
        exact hrg8 j v hv
      refine hK'.out _ _ hrg9 ?_
      clear hK' K'
      refine wpAnyH_done (by kernel_rfl) ?_ _
      refine NoPanic.normal ?_
      go_wp2
      refine bodyPost_done rfl rfl ⟨rfl, ?_⟩
      obtain ⟨A9, n9, c9, u1, u2, u3, u4⟩ := hp9
      rw [unhide HCS1, List.set_set] at u1
      have hmv : moveY ds f t m = putY ds1 { lookY ds1 t with bal := (lookY ds1 t).bal + m } := by unfold moveY; rw [if_pos ⟨unhide HLE, unhide HM0⟩, ← unhide HDS]
      rw [hmv]
      exact ⟨A9, n9, c9, u1, u2, by omega, (Chg.of hbW).trans ((unhide HC06).trans ((Chg.of hb68).trans u4))⟩

end Go.Proofs.YgcsakGreat
