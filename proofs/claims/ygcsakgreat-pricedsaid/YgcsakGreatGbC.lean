/-
  yp, for GasBounds: cut of any range, part, bits.
-/
import Derived.Test.YgcsakGreatGbB
namespace Go.Proofs.YgcsakGreat
set_option linter.unusedVariables false
set_option linter.unusedSimpArgs false
set_option maxRecDepth 100000
open Go.RowKit

/-- 'copy' into the head of a whole block of bytes, as much as there is -/
theorem wpList_copy_any {w : World} {ops : Array Oper} {rest : List Oper} {o : Oper} {a : Act} {Q : Exit → Act → World → Prop} (hgd : o.guard = none) (d s : Operand) (dT sT : TypeId)
    (ho : o.op = .call { callee := .builtin .copy, args := #[d, s], argTypes := #[dT, sT] }) (ht : Sakg.prog.underlying dT = some (.slice 5))
    (g n dc : Nat) (hd : a.eval d = .slice (some ⟨g, 0, none⟩) n dc) (zs : List Int) (hg : Own w g zs) (hz : zs.length = n)
    (ad : Addr) (m c : Nat) (hs : a.eval s = .slice (some ad) m c) (xs : List Int) (hx : xs.length = min m n) (hcell : ∀ j, j < xs.length → w.cell? (ad.add j) = some (.int .u8 (xs.getD j 0)))
    (h : ∀ w', Own w' g (xs ++ zs.drop xs.length) → (∀ B, B ≤ g → Below B w w') → w'.heap.size = w.heap.size → wpList Sakg.prog ops Q rest (a.put o.dst (.int .i64 xs.length)) w') : wpList Sakg.prog ops Q (o :: rest) a w := by
  obtain ⟨i0, hi, hz0, hz1, hz2⟩ := info_parts Sakg.info5
  have hxn : xs.length ≤ n := by omega
  refine wpList_plain hgd fun K hK => ?_
  have hrun := run_copy_row (P := Sakg.prog) w dT sT o.type 5 g 0 n dc ad m c (bv zs).toArray 5 (bv xs) ht (by rw [hi]; simp [hz1]) hg (by rw [bv_len, hx]) (by
    intro j u hj
    obtain ⟨hlt, rfl⟩ := bv_get xs j u hj
    exact hcell j (by omega)) (by simp [bv_len]; omega) (bv_one xs)
  have e : ((bv zs).toArray.toList.take 0 ++ bv xs ++ (bv zs).toArray.toList.drop (0 + (bv xs).length)) = bv (xs ++ zs.drop xs.length) := by
    unfold bv
    simp
  rw [e] at hrun
  have h1 : Own (w.setRow g (bv (xs ++ zs.drop xs.length)).toArray) g (xs ++ zs.drop xs.length) := setRow_heap w g _ _ _ _ hg
  have h2 : ∀ B, B ≤ g → Below B w (w.setRow g (bv (xs ++ zs.drop xs.length)).toArray) := fun B hB => ⟨rfl, rfl, rfl, Nat.le_of_eq (by simp), fun k hk => setRow_other w g k _ (by omega)⟩
  have hk := h _ h1 h2 (by simp)
  unfold Oper.wp
  simp [execOp, ho, resolve, invoke, builtin, hd, hs, hrun, Result.andThen, bv_len]
  exact hK _ _ hk

set_option maxHeartbeats 4000000 in
theorem cut_any (A : Option Addr) (l c : Nat) (xs : List Int) (a b : Option Addr) (la ca lb cb m k : Nat) (w : World) (hx : Src w A l c xs) (h1 : IsNat w a la ca m) (h2 : IsNat w b lb cb k) (hm : m < BIG) (hk : k ≤ 100000000) (hl : l ≤ 1000000) :
    Calls Sakg.prog 211 #[.slice A l c, .slice a la ca, .slice b lb cb] w fun e w' => ∃ g ys, e = .returned (.slice (some ⟨g, 0, none⟩) k k) ∧ OwnT 5 w' g ys ∧ ys.length = k ∧ Byt ys ∧ w.heap.size ≤ g ∧ Below w.heap.size w w' := by
  have hBB := big_ge
  have hlen := hx.len_eq
  have hu : u64N k = k := by unfold u64N; rw [if_pos (by omega)]
  have HSM := hide (small_any b lb cb k w h2 (by omega))
  rw [hu] at HSM
  have HPL : ∀ wz, Below w.heap.size w wz → Hid (Calls Sakg.prog 201 #[.slice a la ca, .int .i64 l] wz fun e w' => e = .returned (.tuple #[.int .i64 (placeN m l), .bool (decide (m < l))]) ∧ wz = w') := fun wz hz => hide (place_any a la ca m l wz (h1.kept hz) hm (by omega))
  by_cases hml : m < l
  · obtain ⟨bb, off, rfl, hcs⟩ := hx.at_ (by omega)
    have hlt := hx.lt _ rfl (by omega)
    have hle := hx.le
    have hmax := hx.max
    have hby := hx.byt
    have hp : placeN m l = m := if_pos hml
    rw [hp, decide_eq_true hml] at HPL
    obtain ⟨ys, hys⟩ : ∃ ys, ys = (xs.drop m).take k := ⟨_, rfl⟩
    have hyl : ys.length = min (l - m) k := by rw [hys, List.length_take, List.length_drop, hlen]; omega
    have hyb : Byt ys := fun z hz => hby z (List.mem_of_mem_drop (List.mem_of_mem_take (hys ▸ hz)))
    have hcell : ∀ wz, Below w.heap.size w wz → ∀ j, j < ys.length → wz.cell? ((⟨bb, off + m, none⟩ : Addr).add j) = some (.int .u8 (ys.getD j 0)) := fun wz hz j hj => by
      rw [addAt, hz.cell (p := ⟨bb, off + m + j, none⟩) hlt, Nat.add_assoc, hcs (m + j) (by omega)]
      rw [hys, List.getD_eq_getElem?_getD, List.getD_eq_getElem?_getD, List.getElem?_take, if_pos (by omega), List.getElem?_drop]
    have HCELL := hide hcell
    clear h1 h2 hcs hu hp hcell hx hys
    go_enter Sakg.func211, Sakg.ntmps211
    go_wp2_with (first
      | (go_at_call 55; refine (unhide HSM).mono ?_; rintro e w1 ⟨rfl, rfl⟩)
      | (at_make; refine wpList_make_bytes_u rfl _ _ 30 rfl Sakg.underlying30 _ _ k rfl rfl rfl rfl (by omega) ?_; intro w2 ho2 hb2 hs2; have HO2 := hide ho2; have HB2 := hide hb2; have hb2' := hb2; clear ho2 hb2 hs2)
      | (go_at_call 201; refine (unhide (HPL w2 hb2')).mono ?_; rintro e w3 ⟨rfl, rfl⟩)
      | (with_reducible refine at_copy ?_; refine wpList_copy_any rfl _ _ _ _ rfl Sakg.underlying30 _ k _ rfl _ (unhide HO2) (zeros_len k) ⟨bb, off + m, none⟩ (l - m) _ rfl ys hyl (unhide HCELL _ hb2') ?_; intro w4 ho4 hb4 hs4))
    go_ret
    exact ⟨_, _, rfl, ho4, by rw [List.length_append, List.length_drop, zeros_len]; omega, hyb.append ((zeros_byt k).drop _), Nat.le_refl _, (unhide HB2).trans (hb4 _ (Nat.le_refl _))⟩
  · rw [decide_eq_false hml, show placeN m l = 0 from if_neg hml] at HPL
    clear h1 h2 hu hx
    go_enter Sakg.func211, Sakg.ntmps211
    go_wp2_with (first
      | (go_at_call 55; refine (unhide HSM).mono ?_; rintro e w1 ⟨rfl, rfl⟩)
      | (at_make; refine wpList_make_bytes_u rfl _ _ 30 rfl Sakg.underlying30 _ _ k rfl rfl rfl rfl (by omega) ?_; intro w2 ho2 hb2 hs2; have HO2 := hide ho2; have HB2 := hide hb2; have hb2' := hb2; clear ho2 hb2 hs2)
      | (go_at_call 201; refine (unhide (HPL w2 hb2')).mono ?_; rintro e w3 ⟨rfl, rfl⟩))
    go_ret
    exact ⟨_, zeros k, rfl, unhide HO2, zeros_len k, zeros_byt k, Nat.le_refl _, unhide HB2⟩

set_option maxHeartbeats 2000000 in
theorem part_any (A : Option Addr) (l c : Nat) (xs : List Int) (m k : Nat) (w : World) (hx : Src w A l c xs) (hm : m < 256 ^ 8) (hk : k ≤ 100000000) (hl : l ≤ 1000000) :
    Calls Sakg.prog 298 #[.slice A l c, .int .u64 m, .int .u64 k] w fun e w' => ∃ g ys, e = .returned (.slice (some ⟨g, 0, none⟩) k k) ∧ OwnT 5 w' g ys ∧ ys.length = k ∧ Byt ys ∧ w.heap.size ≤ g ∧ Below w.heap.size w w' := by
  have hBB := big_ge
  have hB8 : (256 : Nat) ^ 8 ≤ BIG := big_pow 8 (by omega)
  have HX := hide hx
  have HN := hide (num_any m w hm)
  clear hx
  go_enter Sakg.func298, Sakg.ntmps298
  go_wp2_with fail
  refine (unhide HN).mono ?_
  rintro e w1 ⟨A1, k1, c1, rfl, n1, N1, b1⟩
  have NN1 := hide n1
  have HN2 := hide (num_any k w1 (by omega))
  clear n1
  go_wp2_with fail
  refine (unhide HN2).mono ?_
  rintro e w2 ⟨A2, k2, c2, rfl, n2, N2, b2⟩
  have d2 : Below w.heap.size w w2 := b1.trans (b2.mono b1.size)
  have HC := hide (cut_any A l c xs A1 A2 k1 c1 k2 c2 m k w2 ((unhide HX).kept d2) ((unhide NN1).kept b2) n2 (by omega) hk hl)
  clear n2
  go_wp2_with fail
  refine (unhide HC).mono ?_
  rintro e w3 ⟨g, ys, rfl, o3, hl3, hy3, hg3, b3⟩
  have O3 := hide o3
  clear o3
  go_wp2
  go_ret
  exact ⟨g, ys, rfl, unhide O3, hl3, hy3, Nat.le_trans d2.size hg3, d2.trans (b3.mono d2.size)⟩

end Go.Proofs.YgcsakGreat
