/-
  yp: cost, refusal at the instructions that SpecAlu's program comes to.
-/
import Derived.Test.YgcsakGreatCostA
namespace Go.Proofs.YgcsakGreat
set_option linter.unusedVariables false
set_option linter.unusedSimpArgs false
set_option maxRecDepth 100000
open Go.RowKit

def needN (o : Nat) (stk : List Nat) : Nat := (reachN o stk + 31) / 32
def costN (o : Nat) (stk : List Nat) (ml : Nat) : Nat := if needN o stk ≤ ml / 32 then bareN o stk else bareN o stk + (memN (needN o stk) - memN (ml / 32))
theorem opO_lt {o : Nat} (h : opO o) : o < 256 := by unfold opO aluO at h; omega
theorem dlen_le {m : Nat} (h : m < P256) : dlen m ≤ 32 := by
  unfold dlen
  refine nrm_len _ (trimL_byt (dig8_byt m 200)) (trimL_idem _) 32 ?_
  rw [val_trimL, dig8_val]
  exact Nat.lt_of_le_of_lt (Nat.mod_le _ _) h
theorem bareN_le (o : Nat) (stk : List Nat) (h : argN stk 1 < P256) : bareN o stk ≤ 2000 := by
  have := dlen_le h
  unfold bareN expN
  repeat (split; omega)
  omega
theorem reachN_lt (o : Nat) (stk : List Nat) (hs : ∀ i, argN stk i < P256) : reachN o stk + 31 < BIG := by
  have h0 := hs 0
  have h1 := hs 1
  have hb := add_big h0 h1
  have hB := big_ge
  have h2 : P256 + P256 ≤ BIG := by
    have : P256 + P256 ≤ 256 * P256 := by omega
    refine Nat.le_trans this ?_
    unfold P256
    rw [← Nat.pow_succ']
    exact big_pow 33 (by omega)
  have h3 : 256 * P256 ≤ BIG := by
    unfold P256
    rw [← Nat.pow_succ']
    exact big_pow 33 (by omega)
  have hP : 1000 < P256 := Nat.lt_of_lt_of_le (by decide : 1000 < 256 ^ 2) (Nat.pow_le_pow_right (by omega) (by omega))
  unfold reachN endN
  repeat (split; (first | omega | (split <;> omega)))
  omega
theorem memN_le {m : Nat} (h : m ≤ 1000) : memN m ≤ 10000 := by
  unfold memN
  have := Nat.mul_le_mul h h
  omega

set_option maxHeartbeats 4000000 in
theorem cost_op (o : Nat) (ho : opO o) {bw gf : Nat} {fr : List Value} {pc gas : Nat} {stk : List Nat} {mem code : List Int} {w : World} (h : FM bw gf fr pc gas stk mem code w) (hl : stk.length ≤ 64) (hs : ∀ i, argN stk i < P256) (hml : mem.length ≤ 32000) (hnd : needN o stk ≤ 1000) :
    Calls Sakg.prog 204 #[.pointer (some ⟨bw, 0, none⟩), .pointer (some ⟨gf, 0, none⟩), .int .u8 o] w (MakesNat w (costN o stk mem.length)) := by
  obtain ⟨A4, l, c4, m1, m2⟩ := h.memN
  have hlm := m2.now.len_eq
  have hBB := big_ge
  have HB := hide (bare_op o ho h hl hs)
  have hbl := bareN_le o stk (hs 1)
  have hrl := reachN_lt o stk hs
  have HRL := hide hrl
  have HFM := hide h
  have HS := hide hs
  have x9 : ∀ wz, Below w.heap.size w wz → wz.cell? ⟨gf, 9, none⟩ = some (.slice A4 l c4) := fun wz hz => by rw [(h.row.kept hz).cell]; exact m1
  have X9 := hide x9
  obtain ⟨hv, hhv⟩ : ∃ hv, hv = l / 32 := ⟨_, rfl⟩
  have hhl : hv ≤ 1000 := by omega
  have eq32 : (l : Int) / 32 = (hv : Int) := by omega
  have hcost : costN o stk mem.length = if needN o stk ≤ hv then bareN o stk else bareN o stk + (memN (needN o stk) - memN hv) := by unfold costN; rw [hlm, ← hhv]
  generalize costN o stk mem.length = cN at hcost
  have HCO := hide hcost
  have HND : needN o stk = (reachN o stk + 31) / 32 := rfl
  have HNDh := hide HND
  generalize needN o stk = nd at hnd HCO HNDh
  generalize bareN o stk = bN at HB hbl HCO
  clear h hs m1 m2 x9 hcost HND hrl hhv
  go_enter Sakg.func204, Sakg.ntmps204
  go_wp2_with fail
  refine (unhide HB).mono ?_
  rintro e w1 ⟨A1, k1, c1, rfl, n1, N1, b1⟩
  have NN1 := hide n1
  have y9 := unhide X9 w1 b1
  have HN2 := hide (num_any hv w1 (by omega))
  clear n1
  go_wp2_with fail
  refine (unhide HN2).mono ?_
  rintro e w2 ⟨A2, k2, c2, rfl, n2, N2, b2⟩
  have d2 : Below w.heap.size w w2 := b1.trans (b2.mono b1.size)
  have NN2 := hide n2
  have HR := hide (reach_op o ho ((unhide HFM).kept d2) hl (unhide HS))
  clear n2 y9
  go_wp2_with fail
  refine (unhide HR).mono ?_
  rintro e w3 ⟨A3, k3, c3, rfl, n3, N3, b3⟩
  have HW := hide (words_any A3 k3 c3 _ w3 n3 (unhide HRL))
  rw [← unhide HNDh] at HW
  clear n3
  go_wp2_with fail
  refine (unhide HW).mono ?_
  rintro e w4 ⟨A5, k5, c5, rfl, n5, N5, b5⟩
  have b24 : Below w2.heap.size w2 w4 := b3.trans (b5.mono b3.size)
  have b14 : Below w1.heap.size w1 w4 := b2.trans (b24.mono b2.size)
  have d4 : Below w.heap.size w w4 := d2.trans (b24.mono d2.size)
  have NN5 := hide n5
  have HC := hide (n5.cmp ((unhide NN2).kept b24) (by omega) (by omega))
  clear n5
  by_cases hle : nd ≤ hv
  · have hci : decide (cmpI nd hv ≤ 0) = true := by
      unfold cmpI
      by_cases h1 : nd < hv
      · rw [if_pos h1]; rfl
      · rw [if_neg h1, if_pos (by omega)]; rfl
    have hr : cN = bN := by rw [unhide HCO, if_pos hle]
    have HRC := hide hr
    generalize cmpI nd hv = ci at HC hci
    clear hr
    go_wp2_with fail
    refine (unhide HC).mono ?_
    rintro e w5 ⟨rfl, q5⟩
    have b5' : Below w4.heap.size w4 w5 := q5.below _
    clear q5
    go_wp2
    go_ret
    rw [unhide HRC]
    exact ⟨A1, k1, c1, rfl, (unhide NN1).kept (b14.trans (b5'.mono b14.size)), N1, d4.trans (b5'.mono d4.size)⟩
  · have hci : decide (cmpI nd hv ≤ 0) = false := by
      unfold cmpI
      rw [if_neg (by omega), if_neg (by omega)]
      rfl
    have hr : cN = bN + (memN nd - memN hv) := by rw [unhide HCO, if_neg hle]
    have HRC := hide hr
    have hm1 := memN_le hnd
    have hm2 := memN_le hhl
    generalize cmpI nd hv = ci at HC hci
    clear hr
    go_wp2_with fail
    refine (unhide HC).mono ?_
    rintro e w5 ⟨rfl, q5⟩
    have b45 : Below w4.heap.size w4 w5 := q5.below _
    have HM1 := hide (memCost_any A5 k5 c5 nd w5 ((unhide NN5).kept b45) (by omega))
    clear q5
    go_wp2_with fail
    refine (unhide HM1).mono ?_
    rintro e w6 ⟨A6, k6, c6, rfl, n6, N6, b6⟩
    have NN6 := hide n6
    have b46 : Below w4.heap.size w4 w6 := b45.trans (b6.mono b45.size)
    have b26 : Below w2.heap.size w2 w6 := b24.trans (b46.mono b24.size)
    have HM2 := hide (memCost_any A2 k2 c2 hv w6 ((unhide NN2).kept b26) (by omega))
    clear n6
    go_wp2_with fail
    refine (unhide HM2).mono ?_
    rintro e w7 ⟨A7, k7, c7, rfl, n7, N7, b7⟩
    have HL := hide (less_any A6 A7 k6 k7 c6 c7 _ _ w7 ((unhide NN6).kept b7) n7 (by omega) (by omega))
    clear n7
    go_wp2_with fail
    refine (unhide HL).mono ?_
    rintro e w8 ⟨A8, k8, c8, rfl, n8, N8, b8⟩
    have b68 : Below w6.heap.size w6 w8 := b7.trans (b8.mono b7.size)
    have b48 : Below w4.heap.size w4 w8 := b46.trans (b68.mono b46.size)
    have b18 : Below w1.heap.size w1 w8 := b14.trans (b48.mono b14.size)
    have d8 : Below w.heap.size w w8 := d4.trans (b48.mono d4.size)
    have HA := hide (((unhide NN1).kept b18).add n8 (by omega) (by omega))
    clear n8
    go_wp2_with fail
    refine (unhide HA).mono ?_
    rintro e w9 ⟨A9, k9, c9, rfl, n9, N9, b9⟩
    have NN9 := hide n9
    clear n9
    go_wp2
    go_ret
    rw [unhide HRC]
    exact ⟨A9, k9, c9, rfl, unhide NN9, N9.later d8.size, d8.trans (b9.mono d8.size)⟩

theorem below_drew3 (B : Nat) (w : World) (i j k : Nat) : Below B w (((w.drewN i).drewN j).drewN k) := (Quiet.trans (b := w.drewN i) ⟨i, rfl⟩ (Quiet.trans (b := (w.drewN i).drewN j) ⟨j, rfl⟩ ⟨k, rfl⟩)).below B
set_option maxHeartbeats 8000000 in
theorem refusal_op (o : Nat) (ho : opO o) {bw gf : Nat} {fr : List Value} {pc gas : Nat} {stk : List Nat} {mem code : List Int} {w : World} (h : FM bw gf fr pc gas stk mem code w) (hl : stk.length ≤ 60) (hs : ∀ i, argN stk i < P256) (hml : mem.length ≤ 32000) (hnd : needN o stk ≤ 1000)
    (htk : takN o ≤ stk.length) (hgas : gas < 1000000) (hpay : costN o stk mem.length ≤ gas) :
    Calls Sakg.prog 113 #[.pointer (some ⟨bw, 0, none⟩), .pointer (some ⟨gf, 0, none⟩), .int .u8 o] w fun e w' => ∃ A k c, e = .returned (.tuple #[.int .u8 0, .slice A k c]) ∧ IsNat w' A k c (costN o stk mem.length) ∧ New w A ∧ Below w.heap.size w w' := by
  have hBB := big_ge
  obtain ⟨As, ls, cs, s1, s2⟩ := h.stkN
  obtain ⟨Ag, kg, cg, g1, g2⟩ := h.gasN
  have hls := s2.len
  have hst := h.static
  have x8 : w.cell? ⟨gf, 8, none⟩ = some (.slice As ls cs) := by rw [h.row.cell]; exact s1
  have x2 : w.cell? ⟨gf, 2, none⟩ = some (.bool false) := by rw [h.row.cell]; exact hst
  have HAR := hide (arity_op o ho w)
  have htg : takN o ≤ 3 ∧ givN o ≤ 1 := by unfold takN givN; constructor <;> (repeat (split; omega)) <;> omega
  generalize htt : takN o = tk at htk htg HAR
  generalize hgg : givN o = gv at htg HAR
  have HFM := hide h
  have HCO : ∀ wz, Below w.heap.size w wz → Hid (Calls Sakg.prog 204 #[.pointer (some ⟨bw, 0, none⟩), .pointer (some ⟨gf, 0, none⟩), .int .u8 o] wz (MakesNat wz (costN o stk mem.length))) := fun wz hz => hide (cost_op o ho (h.kept hz) (by omega) hs hml hnd)
  have xg : ∀ wz, Below w.heap.size w wz → wz.cell? ⟨gf, 4, none⟩ = some (.slice Ag kg cg) ∧ IsNat wz Ag kg cg gas := fun wz hz => ⟨by rw [(h.row.kept hz).cell]; exact g1, g2 wz (ChgS.of hz)⟩
  have XG := hide xg
  generalize costN o stk mem.length = cN at hpay HCO
  have hO := ho
  unfold opO aluO at hO
  have t240 : ((o : Int) == 240) = false := by rw [beq_eq_false_iff_ne]; omega
  have t245 : ((o : Int) == 245) = false := by rw [beq_eq_false_iff_ne]; omega
  have t62 : ((o : Int) == 62) = false := by rw [beq_eq_false_iff_ne]; omega
  have t85 : ((o : Int) == 85) = false := by rw [beq_eq_false_iff_ne]; omega
  have t86 : ((o : Int) == 86) = false := by rw [beq_eq_false_iff_ne]; omega
  have t87 : ((o : Int) == 87) = false := by rw [beq_eq_false_iff_ne]; omega
  have u1 : decide ((ls : Int) < (tk : Int)) = false := decide_eq_false (by omega)
  have u2 : decide ((64 : Int) < (ls : Int) - (tk : Int) + (gv : Int)) = false := decide_eq_false (by omega)
  clear h s1 s2 g1 g2 hs xg hst hO htt hgg
  go_enter Sakg.func113, Sakg.ntmps113
  go_upto_region 12 with (go_at_call 202; refine (unhide HAR).mono ?_; rintro e w1 ⟨rfl, rfl⟩)
  go_quiet (fail)
  go_wp2_with fail
  refine (unhide (HCO _ (Quiet.below ⟨_, rfl⟩ _))).mono ?_
  rintro e w2 ⟨A2, k2, c2, rfl, n2, N2, b2⟩
  have d2 : Below w.heap.size w w2 := (show Below w.heap.size w _ from Quiet.below ⟨_, rfl⟩ _).trans b2
  obtain ⟨y4, ng⟩ := unhide XG w2 d2
  have HC := hide (n2.cmp ng (by omega) (by omega))
  have hci : decide (0 < cmpI cN gas) = false := by
    unfold cmpI
    by_cases h1 : cN < gas
    · rw [if_pos h1]; rfl
    · rw [if_neg h1, if_pos (by omega)]; rfl
  generalize cmpI cN gas = ci at HC hci
  have NN2 := hide n2
  have N2' : New w A2 := N2
  clear n2 ng N2 HCO
  go_wp2_with fail
  refine (unhide HC).mono ?_
  rintro e w3 ⟨rfl, q3⟩
  have b3 : Below w2.heap.size w2 w3 := q3.below _
  have d3 : Below w.heap.size w w3 := d2.trans (b3.mono d2.size)
  have N3 := hide ((unhide NN2).kept b3)
  clear q3 y4 x8 x2
  go_upto_region 17 with fail
  go_quiet (fail)
  go_upto_region 19 with fail
  go_quiet (fail)
  go_upto_region 21 with fail
  go_quiet (fail)
  go_wp2
  refine bodyPost_ret (results_tmp2 rfl _ _ _) rfl ?_
  exact ⟨A2, k2, c2, rfl, (unhide N3).kept (below_drew3 _ _ _ _ _), N2', d3.trans (below_drew3 _ _ _ _ _)⟩

end Go.Proofs.YgcsakGreat
