/-
  yp: cut, read.
-/
import Derived.Test.YgcsakGreatCostB
namespace Go.Proofs.YgcsakGreat
set_option linter.unusedVariables false
set_option linter.unusedSimpArgs false
set_option maxRecDepth 100000
open Go.RowKit

/-- 'make' of bytes whose length is a uint64 -/
theorem wpList_make_bytes_u {w : World} {ops : Array Oper} {rest : List Oper} {o : Oper} {a : Act} {Q : Exit → Act → World → Prop}
    (hg : o.guard = none) (l c : Operand) (t : TypeId) (hop : o.op = Op.makeSlice t l c) (ht : Sakg.prog.underlying t = some (.slice 5))
    (L C : Int) (n : Nat) (hl : a.eval l = .int .u64 L) (hc : a.eval c = .int .u64 C) (hL : L = (n : Int)) (hC : C = (n : Int)) (b2 : n ≤ 281474976710656)
    (hK : ∀ w', Own w' w.heap.size (zeros n) → Below w.heap.size w w' → w'.heap.size = w.heap.size + 1 → wpList Sakg.prog ops Q rest (a.put o.dst (.slice (some ⟨w.heap.size, 0, none⟩) n n)) w') :
    wpList Sakg.prog ops Q (o :: rest) a w := by
  obtain ⟨i0, hi, hz0, hz1, hz2⟩ := info_parts Sakg.info5
  subst hL hC
  refine wpList_plain hg fun K hK' => ?_
  have hrun := run_make (P := Sakg.prog) w t 5 i0 (.int .u8 0) ht hi hz0 .u64 .u64 (n : Int) (n : Int) (by omega) (by omega) (by rw [hz2]; omega) (by omega)
  unfold Oper.wp
  simp [execOp, hop, hl, hc, hrun, Result.andThen]
  refine hK' _ _ (hK _ ?_ ((Below.refl _ _).alloc (Nat.le_refl _) _) (by simp))
  rw [hz1]
  exact own_made w n

/-- 'copy' into a whole block of bytes, from a slice that is at least as long -/
theorem wpList_copy_more {w : World} {ops : Array Oper} {rest : List Oper} {o : Oper} {a : Act} {Q : Exit → Act → World → Prop} (hgd : o.guard = none) (d s : Operand) (dT sT : TypeId)
    (ho : o.op = .call { callee := .builtin .copy, args := #[d, s], argTypes := #[dT, sT] }) (ht : Sakg.prog.underlying dT = some (.slice 5))
    (g n dc : Nat) (hd : a.eval d = .slice (some ⟨g, 0, none⟩) n dc) (zs : List Int) (hg : Own w g zs) (hz : zs.length = n)
    (ad : Addr) (m c : Nat) (hs : a.eval s = .slice (some ad) m c) (xs : List Int) (hx : xs.length = n) (hm : n ≤ m) (hcell : ∀ j, j < n → w.cell? (ad.add j) = some (.int .u8 (xs.getD j 0)))
    (h : ∀ w', Own w' g xs → (∀ B, B ≤ g → Below B w w') → w'.heap.size = w.heap.size → wpList Sakg.prog ops Q rest (a.put o.dst (.int .i64 n)) w') : wpList Sakg.prog ops Q (o :: rest) a w := by
  obtain ⟨i0, hi, hz0, hz1, hz2⟩ := info_parts Sakg.info5
  refine wpList_plain hgd fun K hK => ?_
  have hrun := run_copy_row (P := Sakg.prog) w dT sT o.type 5 g 0 n dc ad m c (bv zs).toArray 5 (bv xs) ht (by rw [hi]; simp [hz1]) hg (by rw [bv_len, hx]; exact (Nat.min_eq_right hm).symm) (by
    intro j u hj
    obtain ⟨hlt, rfl⟩ := bv_get xs j u hj
    exact hcell j (by omega)) (by simp [bv_len]; omega) (bv_one xs)
  have e : ((bv zs).toArray.toList.take 0 ++ bv xs ++ (bv zs).toArray.toList.drop (0 + (bv xs).length)) = bv xs := by
    rw [List.drop_eq_nil_of_le (by simp [bv_len]; omega)]
    simp
  rw [e] at hrun
  have h1 : Own (w.setRow g (bv xs).toArray) g xs := setRow_heap w g _ _ _ _ hg
  have h2 : ∀ B, B ≤ g → Below B w (w.setRow g (bv xs).toArray) := fun B hB => ⟨rfl, rfl, rfl, by simp, fun k hk => setRow_other w g k _ (by omega)⟩
  have hk := h _ h1 h2 (by simp)
  unfold Oper.wp
  simp [execOp, ho, resolve, invoke, builtin, hd, hs, hrun, Result.andThen, bv_len, hx]
  exact hK _ _ hk

set_option maxHeartbeats 4000000 in
theorem cut_in (A : Option Addr) (l c : Nat) (xs : List Int) (a b : Option Addr) (la ca lb cb m k : Nat) (w : World) (hx : Src w A l c xs) (h1 : IsNat w a la ca m) (h2 : IsNat w b lb cb k) (hml : m < l) (hmk : m + k ≤ l) (hl : l ≤ 100000) :
    Calls Sakg.prog 211 #[.slice A l c, .slice a la ca, .slice b lb cb] w fun e w' => ∃ g, e = .returned (.slice (some ⟨g, 0, none⟩) k k) ∧ OwnT 5 w' g ((xs.drop m).take k) ∧ w.heap.size ≤ g ∧ Below w.heap.size w w' := by
  have hBB := big_ge
  have hlen := hx.len_eq
  have hu : u64N k = k := by unfold u64N; rw [if_pos (by omega)]
  have HSM := hide (small_any b lb cb k w h2 (by omega))
  rw [hu] at HSM
  obtain ⟨bb, off, rfl, hcs⟩ := hx.at_ (by omega)
  have hlt := hx.lt _ rfl (by omega)
  have hdl : ((xs.drop m).take k).length = k := by rw [List.length_take, List.length_drop, hlen]; omega
  have hle := hx.le
  have hmax := hx.max
  have H1 := hide h1
  have hp : placeN m l = m := if_pos hml
  have hdec : decide (m < l) = true := decide_eq_true hml
  have HPL : ∀ wz, Below w.heap.size w wz → Hid (Calls Sakg.prog 201 #[.slice a la ca, .int .i64 l] wz fun e w' => e = .returned (.tuple #[.int .i64 m, .bool true]) ∧ wz = w') := fun wz hz => hide (by
    have := place_any a la ca m l wz ((unhide H1).kept hz) (by omega) (by omega)
    rw [hp, hdec] at this
    exact this)
  have hcell : ∀ wz, Below w.heap.size w wz → ∀ j, j < k → wz.cell? ((⟨bb, off + m, none⟩ : Addr).add j) = some (.int .u8 (((xs.drop m).take k).getD j 0)) := fun wz hz j hj => by
    rw [addAt, hz.cell (p := ⟨bb, off + m + j, none⟩) hlt, Nat.add_assoc, hcs (m + j) (by omega)]
    rw [List.getD_eq_getElem?_getD, List.getD_eq_getElem?_getD, List.getElem?_take, if_pos hj, List.getElem?_drop]
  have HCELL := hide hcell
  clear h1 h2 hcs hu hp hdec hcell hx
  go_enter Sakg.func211, Sakg.ntmps211
  go_wp2_with (first
    | (go_at_call 55; refine (unhide HSM).mono ?_; rintro e w1 ⟨rfl, rfl⟩)
    | (at_make; refine wpList_make_bytes_u rfl _ _ 30 rfl Sakg.underlying30 _ _ k rfl rfl rfl rfl (by omega) ?_; intro w2 ho2 hb2 hs2; have HO2 := hide ho2; have HB2 := hide hb2; have hb2' := hb2; clear ho2 hb2 hs2)
    | (go_at_call 201; refine (unhide (HPL w2 hb2')).mono ?_; rintro e w3 ⟨rfl, rfl⟩)
    | (with_reducible refine at_copy ?_; refine wpList_copy_more rfl _ _ _ _ rfl Sakg.underlying30 _ k _ rfl _ (unhide HO2) (zeros_len k) ⟨bb, off + m, none⟩ (l - m) _ rfl _ hdl (by omega) (unhide HCELL _ hb2') ?_; intro w4 ho4 hb4 hs4))
  go_ret
  exact ⟨_, rfl, ho4, Nat.le_refl _, (unhide HB2).trans (hb4 _ (Nat.le_refl _))⟩

end Go.Proofs.YgcsakGreat
