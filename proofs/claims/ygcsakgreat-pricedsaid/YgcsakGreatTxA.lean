/-
  obs.Tx in memory; Fees, ListOK; (*State).baseFee.
-/
import Derived.Test.YgcsakGreatObsD
import Derived.Test.YgcsakGreatKmI
namespace Go.Proofs.YgcsakGreat
set_option linter.unusedVariables false
set_option linter.unusedSimpArgs false
set_option maxRecDepth 100000
open Go.RowKit

/-- a transaction, plainly -/
structure YTx where
  frm : List Int
  dst : List Int
  create : Bool
  nonce : Nat
  gas : Nat
  price : List Int
  value : List Int
  data : List Int
  dyn : Bool
  maxFee : List Int
  tip : List Int
  access : List (List Int × List (List Int))

/-- a transaction's 174 cells -/
structure TxC (r : List Value) (d : YTx) (A1 : Option Addr) (k1 c1 : Nat) (A2 : Option Addr) (k2 c2 : Nat) : Prop where
  len : r.length = 174
  one : ∀ v ∈ r, v.oneCell' = true
  frm : (r.drop 0).take 20 = bv d.frm
  dst : (r.drop 20).take 20 = bv d.dst
  create : r[40]? = some (.bool d.create)
  nonce : r[41]? = some (.int .u64 d.nonce)
  gas : r[42]? = some (.int .u64 d.gas)
  price : (r.drop 43).take 32 = bv d.price
  value : (r.drop 75).take 32 = bv d.value
  data : r[107]? = some (.slice A1 k1 c1)
  dyn : r[108]? = some (.bool d.dyn)
  maxFee : (r.drop 109).take 32 = bv d.maxFee
  tip : (r.drop 141).take 32 = bv d.tip
  access : r[173]? = some (.slice A2 k2 c2)
  hfrm : IsAddr d.frm
  hdst : IsAddr d.dst
  hnonce : d.nonce < 256 ^ 8
  hgas : d.gas < 256 ^ 8
  hprice : IsW d.price
  hvalue : IsW d.value
  hmax : IsW d.maxFee
  htip : IsW d.tip

def wordsR (w : World) (ao : Option Addr) (l c : Nat) (ks : List (List Int)) : Prop := Rws w 32 ao l c (ks.map bv) ∧ ∀ k ∈ ks, IsW k
def AccRow (w : World) (r : List Value) (x : List Int × List (List Int)) : Prop := ∃ A k c, r = bv x.1 ++ [.slice A k c] ∧ IsAddr x.1 ∧ wordsR w A k c x.2
def AccsR (w : World) (ao : Option Addr) (l c : Nat) (xs : List (List Int × List (List Int))) : Prop := ∃ rows, Rws w 21 ao l c rows ∧ Each (AccRow w) rows xs
theorem wordsR.kept {w w' : World} {ao : Option Addr} {l c : Nat} {ks : List (List Int)} (h : wordsR w ao l c ks) (hb : Below w.heap.size w w') : wordsR w' ao l c ks := ⟨h.1.kept hb, h.2⟩
theorem AccRow.kept {w w' : World} {r : List Value} {x : List Int × List (List Int)} (h : AccRow w r x) (hb : Below w.heap.size w w') : AccRow w' r x := by
  obtain ⟨A, k, c, h1, h2, h3⟩ := h
  exact ⟨A, k, c, h1, h2, h3.kept hb⟩
theorem AccsR.kept {w w' : World} {ao : Option Addr} {l c : Nat} {xs : List (List Int × List (List Int))} (h : AccsR w ao l c xs) (hb : Below w.heap.size w w') : AccsR w' ao l c xs := by
  obtain ⟨rows, h1, h2⟩ := h
  exact ⟨rows, h1.kept hb, h2.imp fun _ _ h => h.kept hb⟩
theorem AccsR.len {w : World} {ao : Option Addr} {l c : Nat} {xs : List (List Int × List (List Int))} (h : AccsR w ao l c xs) : xs.length = l := by
  obtain ⟨rows, h1, h2⟩ := h
  rw [← h2.len, h1.len_eq]
theorem AccRow.len {w : World} {r : List Value} {x : List Int × List (List Int)} (h : AccRow w r x) : r.length = 21 := by
  obtain ⟨A, k, c, rfl, h2, h3⟩ := h
  simp [bv_len, h2.len]
theorem AccRow.one {w : World} {r : List Value} {x : List Int × List (List Int)} (h : AccRow w r x) : ∀ v ∈ r, v.oneCell' = true := by
  obtain ⟨A, k, c, rfl, h2, h3⟩ := h
  intro v hv
  rcases List.mem_append.1 hv with h | h
  · exact bv_one _ v h
  · simp at h; subst h; rfl
theorem AccRow.keys {w : World} {r : List Value} {x : List Int × List (List Int)} (h : AccRow w r x) : ∃ A k c, r[20]? = some (.slice A k c) ∧ wordsR w A k c x.2 := by
  obtain ⟨A, k, c, rfl, h2, h3⟩ := h
  refine ⟨A, k, c, ?_, h3⟩
  rw [List.getElem?_append_right (by rw [bv_len, h2.len]; omega), bv_len, h2.len]
  rfl
theorem AccRow.pre {w : World} {r : List Value} {x : List Int × List (List Int)} (h : AccRow w r x) : (r.drop 0).take 20 = bv x.1 ∧ IsAddr x.1 := by
  obtain ⟨A, k, c, rfl, h2, h3⟩ := h
  refine ⟨?_, h2⟩
  rw [List.drop_zero, List.take_append_of_le_length (by rw [bv_len, h2.len]; omega), List.take_of_length_le (by rw [bv_len, h2.len]; omega)]
theorem wordsR.len {w : World} {ao : Option Addr} {l c : Nat} {ks : List (List Int)} (h : wordsR w ao l c ks) : ks.length = l := by simpa using h.1.len_eq

theorem sizeTx : (Sakg.prog.info? 33).map (·.size) = some 174 := by kernel_rfl
theorem sizeAcc : (Sakg.prog.info? 191).map (·.size) = some 21 := by kernel_rfl

def mostW (d : YTx) : List Int := if d.dyn then d.maxFee else d.price
def tipW (d : YTx) : List Int := if d.dyn then d.tip else d.price
theorem TxC.most {r : List Value} {d : YTx} {A1 : Option Addr} {k1 c1 : Nat} {A2 : Option Addr} {k2 c2 : Nat} (h : TxC r d A1 k1 c1 A2 k2 c2) : IsW (mostW d) := by
  unfold mostW; split; exact h.hmax; exact h.hprice
theorem TxC.tipW {r : List Value} {d : YTx} {A1 : Option Addr} {k1 c1 : Nat} {A2 : Option Addr} {k2 c2 : Nat} (h : TxC r d A1 k1 c1 A2 k2 c2) : IsW (tipW d) := by
  unfold Go.Proofs.YgcsakGreat.tipW; split; exact h.htip; exact h.hprice

def FeesPost (d : YTx) (w : World) (e : Ending) (w' : World) : Prop := e = .returned (.tuple #[.agg (bv (mostW d)).toArray, .agg (bv (tipW d)).toArray]) ∧ Below w.heap.size w w'

theorem infoW2 : (Sakg.prog.info? 29).map (fun i => (i.zero, i.size)) = some (some (.agg (bv (zeros 32)).toArray), 32) := by kernel_rfl
theorem at_alloc2 {P : Program} {ops : Array Oper} {Q : Exit → Act → World → Prop} {rest : List Oper} {d : Option Tmp} {ty : TypeId} {p : String} {af : Array Edge} {g : Option (Nat × Bool)} {a : Act} {w : World} (t : TypeId)
    (h : wpList P ops Q (⟨d, .alloc t, ty, p, af, g⟩ :: rest) a w) : wpList P ops Q (⟨d, .alloc t, ty, p, af, g⟩ :: rest) a w := h

theorem results_two_rows {fn : Func} {p p2 : Tmp} (h : fn.results = #[.cell p 29, .cell p2 29]) (tmps : Array Value) (w : World) (g g2 : Nat) (t t2 : TypeId) (cs cs2 : Array Value) (fr fr2 : Nat × Nat)
    (hp : tmps.getD p undef = .pointer (some ⟨g, 0, none⟩)) (hg : w.heap[g]? = some (.cells cs t fr)) (hp2 : tmps.getD p2 undef = .pointer (some ⟨g2, 0, none⟩)) (hg2 : w.heap[g2]? = some (.cells cs2 t2 fr2))
    (hi : (Sakg.prog.info? 29).map (·.size) = some cs.size) (hi2 : (Sakg.prog.info? 29).map (·.size) = some cs2.size) :
    (results fn tmps).run Sakg.prog w = .ok (.tuple #[.agg cs, .agg cs2]) w := by
  have hp' : tmps[p]?.getD undef = .pointer (some ⟨g, 0, none⟩) := by simpa using hp
  have hp2' : tmps[p2]?.getD undef = .pointer (some ⟨g2, 0, none⟩) := by simpa using hp2
  simp [results, h, hp', hp2', asAddr, run_loadVar_row w g t 29 cs fr _ hg Sakg.underlying29 rfl hi, run_loadVar_row w g2 t2 29 cs2 fr2 _ hg2 Sakg.underlying29 rfl hi2]

set_option maxHeartbeats 4000000 in
theorem fees_any (g : Nat) (r : List Value) (d : YTx) (A1 : Option Addr) (k1 c1 : Nat) (A2 : Option Addr) (k2 c2 : Nat) (w : World) (hr : RowT 33 w g r) (h : TxC r d A1 k1 c1 A2 k2 c2) :
    Calls Sakg.prog 188 #[.pointer (some ⟨g, 0, none⟩)] w (FeesPost d w) := by
  have hlt := hr.lt
  obtain ⟨W, hW⟩ : ∃ W, W = (w.alloc (.cells (bv (zeros 32)).toArray 29)).alloc (.cells (bv (zeros 32)).toArray 29) := ⟨_, rfl⟩
  have hb0 : Below w.heap.size w W := by rw [hW]; exact ((Below.refl _ _).alloc (Nat.le_refl _) _).alloc (by simp) _
  have q : RowT 33 W g r := hr.kept hb0
  have q1 : RowT 29 W w.heap.size (bv (zeros 32)) := by rw [hW]; exact (RowT.new _ _ _).alloc _
  have q2 : RowT 29 W (w.heap.size + 1) (bv (zeros 32)) := by
    rw [hW]
    have := RowT.new 29 (w.alloc (.cells (bv (zeros 32)).toArray 29)) (bv (zeros 32))
    rw [World.size_alloc] at this
    exact this
  have hdyn : W.cell? ⟨g, 108, none⟩ = some (.bool d.dyn) := by rw [q.cell]; exact h.dyn
  have hu := Sakg.underlying29
  have d1 : Below W.heap.size W W.drew := Quiet.below ⟨1, rfl⟩ _
  have f1 := q1.kept d1
  have f2 := q2.kept d1
  have hg1 := h.most
  have hg2 := h.tipW
  have z32 : (bv (zeros 32)).length = 32 := by rw [bv_len, zeros_len]
  go_enter Sakg.func188, Sakg.ntmps188
  go_upto_region 1 with ((with_reducible refine at_alloc2 29 ?_); refine wpList_alloc_g (by rfl) 29 rfl (bv (zeros 32)) 32 infoW2 (by rw [bv_len, zeros_len]) ?_)
  rw [← hW]
  clear hW
  cases hd : d.dyn with
  | true =>
    rw [hd] at hdyn
    have m1 : mostW d = d.maxFee := by unfold mostW; rw [hd]; rfl
    have m2 : tipW d = d.tip := by unfold tipW; rw [hd]; rfl
    rw [m1] at hg1
    rw [m2] at hg2
    have p1 : ∀ wz, RowT 33 wz g r → wz.rangeAt g 109 (bv d.maxFee) := fun wz hz => by have := hz.range 109 32; rwa [h.maxFee] at this
    have p2 : ∀ wz, RowT 33 wz g r → wz.rangeAt g 141 (bv d.tip) := fun wz hz => by have := hz.range 141 32; rwa [h.tip] at this
    go_upto_region 2 with fail
    refine wp_region_noPanic ?_
    refine wp_region_held_drew (S := fun w' => RowT 33 w' g r) (by kernel_rfl) (q.kept d1) (fun hHeld => ?_)
    refine held_takeD 0 (.pointer (some ⟨g, 0, none⟩)) (some 8) (by rfl) (by rfl) (by kernel_rfl) (by kernel_rfl) (by kernel_rfl) (fun _ _ _ h => h) (.inl ⟨by rfl, fun _ _ => by rfl⟩) (hHeld) ?_
    simp only [Act.put, List.setIfInBounds_toArray, List.set_cons_zero, List.set_cons_succ]
    refine held_takeD 1 (.pointer (some ⟨g, 0, none⟩)) (some 9) (by rfl) (by rfl) (by kernel_rfl) (by kernel_rfl) (by kernel_rfl) (fun _ _ _ h => h) (.inl ⟨by rfl, fun _ _ => by go_simp⟩) (hHeld) ?_
    simp only [Act.put, List.setIfInBounds_toArray, List.set_cons_zero, List.set_cons_succ]
    refine held_takeD 2 (.pointer (some ⟨g, 109, none⟩)) (some 10) (by rfl) (by rfl) (by kernel_rfl) (by kernel_rfl) (by kernel_rfl) (fun _ _ _ h => h) (.inl ⟨by rfl, fun _ _ => by go_simp⟩) (hHeld) ?_
    simp only [Act.put, List.setIfInBounds_toArray, List.set_cons_zero, List.set_cons_succ]
    refine held_takeD 3 (.agg (bv d.maxFee).toArray) (some 11) (by rfl) (by rfl) (by kernel_rfl) (by kernel_rfl) (by kernel_rfl) (fun _ _ _ h => h) (yieldsIf_load_mid (by rfl) _ _ rfl _ _ rfl _ _ (fun wz h => p1 wz h) hu rfl hg1.size) (hHeld) ?_
    simp only [Act.put, List.setIfInBounds_toArray, List.set_cons_zero, List.set_cons_succ]
    refine held_takeD 4 (.pointer (some ⟨g, 0, none⟩)) (some 12) (by rfl) (by rfl) (by kernel_rfl) (by kernel_rfl) (by kernel_rfl) (fun _ _ _ h => h) (.inl ⟨by rfl, fun _ _ => by rfl⟩) (hHeld) ?_
    simp only [Act.put, List.setIfInBounds_toArray, List.set_cons_zero, List.set_cons_succ]
    refine held_takeD 5 (.pointer (some ⟨g, 0, none⟩)) (some 13) (by rfl) (by rfl) (by kernel_rfl) (by kernel_rfl) (by kernel_rfl) (fun _ _ _ h => h) (.inl ⟨by rfl, fun _ _ => by go_simp⟩) (hHeld) ?_
    simp only [Act.put, List.setIfInBounds_toArray, List.set_cons_zero, List.set_cons_succ]
    refine held_takeD 6 (.pointer (some ⟨g, 141, none⟩)) (some 14) (by rfl) (by rfl) (by kernel_rfl) (by kernel_rfl) (by kernel_rfl) (fun _ _ _ h => h) (.inl ⟨by rfl, fun _ _ => by go_simp⟩) (hHeld) ?_
    simp only [Act.put, List.setIfInBounds_toArray, List.set_cons_zero, List.set_cons_succ]
    refine held_takeD 7 (.agg (bv d.tip).toArray) (some 15) (by rfl) (by rfl) (by kernel_rfl) (by kernel_rfl) (by kernel_rfl) (fun _ _ _ h => h) (yieldsIf_load_mid (by rfl) _ _ rfl _ _ rfl _ _ (fun wz h => p2 wz h) hu rfl hg2.size) (hHeld) ?_
    simp only [Act.put, List.setIfInBounds_toArray, List.set_cons_zero, List.set_cons_succ]
    refine held_store 8 (by kernel_rfl) rfl rfl (by rfl) 29 (.tmp 2) (.tmp 11) rfl w.heap.size 0 29 (bv (zeros 32)) (bv d.maxFee) rfl rfl f1 (by rw [z32, bv_len, hg1.len]; omega) hg1.size (bv_one _) (fun w2 hr2 ho2 => ⟨hHeld.only ho2 (by omega), ?_⟩)
    refine held_store 9 (by kernel_rfl) rfl rfl (by rfl) 29 (.tmp 3) (.tmp 15) rfl (w.heap.size + 1) 0 29 (bv (zeros 32)) (bv d.tip) rfl rfl (f2.only ho2 (by omega)) (by rw [z32, bv_len, hg2.len]; omega) hg2.size (bv_one _) (fun w3 hr3 ho3 => ⟨(hHeld.only ho2 (by omega)).only ho3 (by omega), ?_⟩)
    refine wpAnyH_done (by kernel_rfl) ?_ _
    refine NoPanic.normal ?_
    have l1 : spl (bv (zeros 32)) 0 (bv d.maxFee) = bv d.maxFee := spl_all _ _ (by rw [z32, bv_len, hg1.len])
    have l2 : spl (bv (zeros 32)) 0 (bv d.tip) = bv d.tip := spl_all _ _ (by rw [z32, bv_len, hg2.len])
    rw [l1] at hr2
    rw [l2] at hr3
    have hr2' := hr2.only ho3 (by omega)
    have n1 : (Sakg.prog.info? 29).map (·.size) = some (bv d.maxFee).toArray.size := by rw [List.size_toArray]; exact hg1.size
    have n2 : (Sakg.prog.info? 29).map (·.size) = some (bv d.tip).toArray.size := by rw [List.size_toArray]; exact hg2.size
    have bz : Below w.heap.size w w3 := hb0.trans ((d1.mono hb0.size).trans ((ho2.below _ (Nat.le_refl _)).trans (ho3.below _ (by omega))))
    go_wp2
    refine bodyPost_ret (results_two_rows rfl _ _ _ _ _ _ _ _ _ _ rfl hr2' rfl hr3 n1 n2) rfl ?_
    exact ⟨by rw [m1, m2], bz⟩
  | false =>
    rw [hd] at hdyn
    have m1 : mostW d = d.price := by unfold mostW; rw [hd]; rfl
    have m2 : tipW d = d.price := by unfold tipW; rw [hd]; rfl
    rw [m1] at hg1
    rw [m2] at hg2
    have p1 : ∀ wz, RowT 33 wz g r → wz.rangeAt g 43 (bv d.price) := fun wz hz => by have := hz.range 43 32; rwa [h.price] at this
    go_upto_region 3 with fail
    refine wp_region_noPanic ?_
    refine wp_region_held_drew (S := fun w' => RowT 33 w' g r) (by kernel_rfl) (q.kept d1) (fun hHeld => ?_)
    refine held_takeD 0 (.pointer (some ⟨g, 0, none⟩)) (some 16) (by rfl) (by rfl) (by kernel_rfl) (by kernel_rfl) (by kernel_rfl) (fun _ _ _ h => h) (.inl ⟨by rfl, fun _ _ => by rfl⟩) (hHeld) ?_
    simp only [Act.put, List.setIfInBounds_toArray, List.set_cons_zero, List.set_cons_succ]
    refine held_takeD 1 (.pointer (some ⟨g, 0, none⟩)) (some 17) (by rfl) (by rfl) (by kernel_rfl) (by kernel_rfl) (by kernel_rfl) (fun _ _ _ h => h) (.inl ⟨by rfl, fun _ _ => by go_simp⟩) (hHeld) ?_
    simp only [Act.put, List.setIfInBounds_toArray, List.set_cons_zero, List.set_cons_succ]
    refine held_takeD 2 (.pointer (some ⟨g, 43, none⟩)) (some 18) (by rfl) (by rfl) (by kernel_rfl) (by kernel_rfl) (by kernel_rfl) (fun _ _ _ h => h) (.inl ⟨by rfl, fun _ _ => by go_simp⟩) (hHeld) ?_
    simp only [Act.put, List.setIfInBounds_toArray, List.set_cons_zero, List.set_cons_succ]
    refine held_takeD 3 (.agg (bv d.price).toArray) (some 19) (by rfl) (by rfl) (by kernel_rfl) (by kernel_rfl) (by kernel_rfl) (fun _ _ _ h => h) (yieldsIf_load_mid (by rfl) _ _ rfl _ _ rfl _ _ (fun wz h => p1 wz h) hu rfl hg1.size) (hHeld) ?_
    simp only [Act.put, List.setIfInBounds_toArray, List.set_cons_zero, List.set_cons_succ]
    refine held_takeD 4 (.pointer (some ⟨g, 0, none⟩)) (some 20) (by rfl) (by rfl) (by kernel_rfl) (by kernel_rfl) (by kernel_rfl) (fun _ _ _ h => h) (.inl ⟨by rfl, fun _ _ => by rfl⟩) (hHeld) ?_
    simp only [Act.put, List.setIfInBounds_toArray, List.set_cons_zero, List.set_cons_succ]
    refine held_takeD 5 (.pointer (some ⟨g, 0, none⟩)) (some 21) (by rfl) (by rfl) (by kernel_rfl) (by kernel_rfl) (by kernel_rfl) (fun _ _ _ h => h) (.inl ⟨by rfl, fun _ _ => by go_simp⟩) (hHeld) ?_
    simp only [Act.put, List.setIfInBounds_toArray, List.set_cons_zero, List.set_cons_succ]
    refine held_takeD 6 (.pointer (some ⟨g, 43, none⟩)) (some 22) (by rfl) (by rfl) (by kernel_rfl) (by kernel_rfl) (by kernel_rfl) (fun _ _ _ h => h) (.inl ⟨by rfl, fun _ _ => by go_simp⟩) (hHeld) ?_
    simp only [Act.put, List.setIfInBounds_toArray, List.set_cons_zero, List.set_cons_succ]
    refine held_takeD 7 (.agg (bv d.price).toArray) (some 23) (by rfl) (by rfl) (by kernel_rfl) (by kernel_rfl) (by kernel_rfl) (fun _ _ _ h => h) (yieldsIf_load_mid (by rfl) _ _ rfl _ _ rfl _ _ (fun wz h => p1 wz h) hu rfl hg2.size) (hHeld) ?_
    simp only [Act.put, List.setIfInBounds_toArray, List.set_cons_zero, List.set_cons_succ]
    refine held_store 8 (by kernel_rfl) rfl rfl (by rfl) 29 (.tmp 2) (.tmp 19) rfl w.heap.size 0 29 (bv (zeros 32)) (bv d.price) rfl rfl f1 (by rw [z32, bv_len, hg1.len]; omega) hg1.size (bv_one _) (fun w2 hr2 ho2 => ⟨hHeld.only ho2 (by omega), ?_⟩)
    refine held_store 9 (by kernel_rfl) rfl rfl (by rfl) 29 (.tmp 3) (.tmp 23) rfl (w.heap.size + 1) 0 29 (bv (zeros 32)) (bv d.price) rfl rfl (f2.only ho2 (by omega)) (by rw [z32, bv_len, hg2.len]; omega) hg2.size (bv_one _) (fun w3 hr3 ho3 => ⟨(hHeld.only ho2 (by omega)).only ho3 (by omega), ?_⟩)
    refine wpAnyH_done (by kernel_rfl) ?_ _
    refine NoPanic.normal ?_
    have l1 : spl (bv (zeros 32)) 0 (bv d.price) = bv d.price := spl_all _ _ (by rw [z32, bv_len, hg1.len])
    rw [l1] at hr2 hr3
    have hr2' := hr2.only ho3 (by omega)
    have n1 : (Sakg.prog.info? 29).map (·.size) = some (bv d.price).toArray.size := by rw [List.size_toArray]; exact hg1.size
    have bz : Below w.heap.size w w3 := hb0.trans ((d1.mono hb0.size).trans ((ho2.below _ (Nat.le_refl _)).trans (ho3.below _ (by omega))))
    go_wp2
    refine bodyPost_ret (results_two_rows rfl _ _ _ _ _ _ _ _ _ _ rfl hr2' rfl hr3 n1 n1) rfl ?_
    exact ⟨by rw [m1, m2], bz⟩

end Go.Proofs.YgcsakGreat
