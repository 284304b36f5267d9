/-
  yp: write of a word at 0, effect at MSTORE, read.
-/
import Derived.Test.YgcsakGreatPlaB
namespace Go.Proofs.YgcsakGreat
set_option linter.unusedVariables false
set_option linter.unusedSimpArgs false
set_option maxRecDepth 100000
open Go.RowKit

/-- 'copy' into a whole block of bytes; no other block turns -/
theorem wpList_copy_only {w : World} {ops : Array Oper} {rest : List Oper} {o : Oper} {a : Act} {Q : Exit → Act → World → Prop} (hgd : o.guard = none) (d s : Operand) (dT sT : TypeId)
    (ho : o.op = .call { callee := .builtin .copy, args := #[d, s], argTypes := #[dT, sT] }) (ht : Sakg.prog.underlying dT = some (.slice 5))
    (g n dc : Nat) (hd : a.eval d = .slice (some ⟨g, 0, none⟩) n dc) (zs : List Int) (hg : Own w g zs) (hz : zs.length = n)
    (ad : Addr) (m c : Nat) (hs : a.eval s = .slice (some ad) m c) (xs : List Int) (hx : xs.length = n) (hm : n ≤ m) (hcell : ∀ j, j < n → w.cell? (ad.add j) = some (.int .u8 (xs.getD j 0)))
    (h : ∀ w', Own w' g xs → Only g w w' → wpList Sakg.prog ops Q rest (a.put o.dst (.int .i64 n)) w') : wpList Sakg.prog ops Q (o :: rest) a w := by
  obtain ⟨i0, hi, hz0, hz1, hz2⟩ := info_parts Sakg.info5
  refine wpList_plain hgd fun K hK => ?_
  have hrun := run_copy_row (P := Sakg.prog) w dT sT o.type 5 g 0 n dc ad m c (bv zs).toArray 5 (bv xs) ht (by rw [hi]; simp [hz1]) hg (by rw [bv_len, hx]; exact (Nat.min_eq_right hm).symm) (by
    intro j u hj
    obtain ⟨hlt, rfl⟩ := bv_get xs j u hj
    exact hcell j (by omega)) (by simp [bv_len]; omega) (bv_one xs)
  have e : ((bv zs).toArray.toList.take 0 ++ bv xs ++ (bv zs).toArray.toList.drop (0 + (bv xs).length)) = bv xs := by
    rw [List.drop_eq_nil_of_le (by simp [bv_len]; omega)]
    simp
  rw [e] at hrun
  have h1 : Own (w.setRow g (bv xs).toArray) g xs := setRow_heap w g _ _ _ _ hg
  have h2 : Only g w (w.setRow g (bv xs).toArray) := ⟨rfl, rfl, rfl, by simp, fun k hk => setRow_other w g k _ hk⟩
  have hk := h _ h1 h2
  unfold Oper.wp
  simp [execOp, ho, resolve, invoke, builtin, hd, hs, hrun, Result.andThen, bv_len, hx]
  exact hK _ _ hk

set_option maxHeartbeats 4000000 in
theorem write_all {gf gm : Nat} {fr : List Value} {w : World} (hr : RowT 194 w gf fr) (h9 : fr[9]? = some (.slice (some ⟨gm, 0, none⟩) 32 32)) (zs : List Int) (hg : OwnT 5 w gm zs) (hz : zs.length = 32) (a : Option Addr) (la ca : Nat) (hn : IsNat w a la ca 0)
    (ad : Addr) (c : Nat) (xs : List Int) (hx : xs.length = 32) (hcell : ∀ j, j < 32 → w.cell? (ad.add j) = some (.int .u8 (xs.getD j 0))) :
    Calls Sakg.prog 207 #[.pointer (some ⟨gf, 0, none⟩), .slice a la ca, .slice (some ad) 32 c] w fun e w' => e = .returned (.tuple #[]) ∧ OwnT 5 w' gm xs ∧ Only gm w w' := by
  have hBB := big_ge
  have c9 : w.cell? ⟨gf, 9, none⟩ = some (.slice (some ⟨gm, 0, none⟩) 32 32) := by rw [hr.cell]; exact h9
  have HPL := hide (place_any a la ca 0 32 w hn (by omega) (by omega))
  rw [show placeN 0 32 = 0 from rfl, decide_eq_true (show 0 < 32 by omega)] at HPL
  have HC := hide hcell
  have HG := hide hg
  clear hr h9 hn hcell hg
  go_enter Sakg.func207, Sakg.ntmps207
  go_wp2_with (first
    | (go_at_call 201; refine (unhide HPL).mono ?_; rintro e w1 ⟨rfl, rfl⟩)
    | (with_reducible refine at_copy ?_; refine wpList_copy_only rfl _ _ _ _ rfl Sakg.underlying30 gm 32 _ rfl zs (unhide HG) hz ad 32 _ rfl xs hx (by omega) (unhide HC) ?_; intro w4 ho4 hb4))
  refine bodyPost_done rfl rfl ?_
  exact ⟨rfl, ho4, hb4⟩

set_option maxHeartbeats 4000000 in
theorem effect_mstore (bw : Nat) {gf gm : Nat} {fr : List Value} {w : World} (hr : RowT 194 w gf fr) (h9 : fr[9]? = some (.slice (some ⟨gm, 0, none⟩) 32 32)) (zs : List Int) (hg : OwnT 5 w gm zs) (hz : zs.length = 32)
    (ao : Option Addr) (l c : Nat) (xs : List Nat) (h : ArgsR w ao l c xs) (hl : l ≤ 100) (hx0 : xs.getD 0 0 = 0) (v : Nat) (hx1 : xs.getD 1 0 = v) (hv : v < P256) :
    Calls Sakg.prog 218 #[.pointer (some ⟨bw, 0, none⟩), .pointer (some ⟨gf, 0, none⟩), .int .u8 82, .slice ao l c] w fun e w' => e = .returned (.bool true) ∧ OwnT 5 w' gm (be32 v) ∧ Chg gm w w' := by
  have H0 := hide (operand_any ao l c xs 0 w h hl (by omega))
  have H1 := hide (operand_any ao l c xs 1 w h hl (by omega))
  have H2 := hide (operand_any ao l c xs 2 w h hl (by omega))
  rw [hx0] at H0
  rw [hx1] at H1
  have hz32 : (bv (zeros 32)).length = 32 := by rw [bv_len, zeros_len]
  have hbl : (bv (be32 v)).length = 32 := by rw [bv_len, be32_len]
  have hszW := (be32_isW v).size
  have HR := hide hr
  have HG := hide hg
  have H9 := hide h9
  clear h hr hg h9 hx0 hx1
  go_enter Sakg.func218, Sakg.ntmps218
  go_wp2_with fail
  refine (unhide H0).mono ?_
  rintro e w1 ⟨⟨A0, k0, c0, rfl, n0⟩, rfl⟩
  have N0 := hide n0
  clear n0
  go_wp2_with fail
  refine (unhide H1).mono ?_
  rintro e w1 ⟨⟨A1, k1, c1, rfl, n1⟩, rfl⟩
  have HW := hide (word_any A1 k1 c1 v w n1 hv)
  clear n1
  go_wp2_with fail
  refine (unhide H2).mono ?_
  rintro e w1 ⟨⟨A2, k2, c2, rfl, n2⟩, rfl⟩
  clear n2
  go_upto_region 17 with (first
    | (go_at_call 56; refine (unhide HW).mono ?_; rintro e w1 ⟨rfl, b1⟩)
    | ((with_reducible refine at_alloc 29 ?_); refine wpList_alloc_g (by rfl) 29 rfl (bv (zeros 32)) 32 infoW2 hz32 ?_)
    | ((with_reducible refine at_store 29 ?_); refine wpList_store_whole rfl 29 (.tmp 12) (.tmp 98) rfl _ _ _ (bv (be32 v)) rfl rfl (RowT.new _ _ _) (by rw [hz32, hbl]) hszW (bv_one _) ?_; intro w2 hr2 hon2; have hbb2 := box_below hon2; clear hon2))
  have d2 : Below w.heap.size w w2 := b1.trans (hbb2.1.mono b1.size)
  have hce : ∀ j, j < 32 → w2.cell? ((⟨w1.heap.size, 0, none⟩ : Addr).add j) = some (.int .u8 ((be32 v).getD j 0)) := fun j hj => by
    rw [addAt, Nat.zero_add, hr2.cell]
    unfold bv
    rw [List.getElem?_map, List.getD_eq_getElem?_getD, List.getElem?_eq_getElem (by rw [be32_len]; exact hj)]
    rfl
  have HWR := hide (write_all ((unhide HR).kept d2) (unhide H9) zs ((unhide HG).kept d2) hz A0 k0 c0 ((unhide N0).kept d2) ⟨w1.heap.size, 0, none⟩ 32 (be32 v) (be32_len v) hce)
  have hgl := (unhide HG).lt
  clear hce hr2 hbb2
  go_wp2_with (go_at_call 207; refine (unhide HWR).mono ?_; rintro e w3 ⟨rfl, o3, y3⟩)
  go_ret
  exact ⟨rfl, o3, (Chg.of d2).trans (Chg.ofOnly y3)⟩

set_option maxHeartbeats 4000000 in
theorem read_all {bw gf : Nat} {fr : List Value} {pc gas : Nat} {stk : List Nat} {mem code : List Int} {w : World} (h : FM bw gf fr pc gas stk mem code w) (hml : mem.length = 32) (a b : Option Addr) (la ca lb cb : Nat) (h1 : IsNat w a la ca 0) (h2 : IsNat w b lb cb 32) :
    Calls Sakg.prog 117 #[.pointer (some ⟨gf, 0, none⟩), .slice a la ca, .slice b lb cb] w fun e w' => ∃ g, e = .returned (.slice (some ⟨g, 0, none⟩) 32 32) ∧ OwnT 5 w' g mem ∧ w.heap.size ≤ g ∧ Below w.heap.size w w' := by
  have hBB := big_ge
  obtain ⟨A, l, c, m1, m2⟩ := h.memN
  have hlm : l = 32 := by rw [← m2.now.len_eq, hml]
  subst hlm
  have HZ := hide (isZero_any b lb cb 32 w h2 (by omega))
  rw [decide_eq_false (show ¬ (32 = 0) by omega)] at HZ
  have x9 : ∀ wz, Below w.heap.size w wz → wz.cell? ⟨gf, 9, none⟩ = some (.slice A 32 c) ∧ Src wz A 32 c mem := fun wz hz => ⟨by rw [(h.row.kept hz).cell]; exact m1, m2 wz (ChgS.of hz)⟩
  have X9 := hide x9
  have HH1 := hide h1
  have HH2 := hide h2
  clear h m1 m2 x9 h1 h2
  go_enter Sakg.func117, Sakg.ntmps117
  go_wp2_with fail
  refine (unhide HZ).mono ?_
  rintro e w1 ⟨rfl, q1⟩
  have b1 : Below w.heap.size w w1 := q1.below _
  have y9 := (unhide X9 w1 b1).1
  have HC := hide (cut_in A 32 c mem a b la ca lb cb 0 32 w1 (unhide X9 w1 b1).2 ((unhide HH1).kept b1) ((unhide HH2).kept b1) (by omega) (by omega) (by omega))
  clear q1
  go_wp2_with (go_at_call 211; refine (unhide HC).mono ?_; rintro e w2 ⟨g, rfl, o2, l2, b2⟩; have O2 := hide o2; clear o2)
  go_ret
  refine ⟨g, rfl, ?_, Nat.le_trans b1.size l2, b1.trans (b2.mono b1.size)⟩
  have := unhide O2
  rwa [List.drop_zero, List.take_of_length_le (by omega)] at this

end Go.Proofs.YgcsakGreat
