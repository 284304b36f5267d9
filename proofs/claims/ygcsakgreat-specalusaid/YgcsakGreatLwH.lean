/-
  law: specAluHolds.
-/
import Derived.Test.YgcsakGreatLwG
namespace Go.Proofs.YgcsakGreat
set_option linter.unusedVariables false
set_option linter.unusedSimpArgs false
set_option maxRecDepth 100000
open Go.RowKit

theorem gasT_le (o : Nat) (ho : aluO o) : gasT.getD o 0 ≤ 10 := by
  have h := gasT_at o 0 ho
  have h2 : gasA o 0 ≤ 10 := by
    unfold aluO at ho
    unfold gasA bareN expN
    have : dlen (argN [0, 0, 0] 1) = 0 := by kernel_rfl
    rw [this]
    repeat (split; omega)
    omega
  omega
theorem rcpt_c (s u : Nat) (v : Value) (m : List Int) : (rcptRow s v u m)[0]? = some (.int .u8 0) ∧ (rcptRow s v u m)[1]? = some (.int .u8 s) ∧ (rcptRow s v u m)[2]? = some (.int .u64 u) ∧ (rcptRow s v u m)[3]? = some v := ⟨rfl, rfl, rfl, rfl⟩
theorem idx_1 (wx : World) : (Instr.index 128 (.agg gasRow.toArray) (.int .u8 (1 : Nat))).run Sakg.prog wx = .ok (.int .u16 ((gasT.getD 1 0 : Nat) : Int)) wx := by kernel_rfl
theorem idx_2 (wx : World) : (Instr.index 128 (.agg gasRow.toArray) (.int .u8 (2 : Nat))).run Sakg.prog wx = .ok (.int .u16 ((gasT.getD 2 0 : Nat) : Int)) wx := by kernel_rfl
theorem idx_3 (wx : World) : (Instr.index 128 (.agg gasRow.toArray) (.int .u8 (3 : Nat))).run Sakg.prog wx = .ok (.int .u16 ((gasT.getD 3 0 : Nat) : Int)) wx := by kernel_rfl
theorem idx_4 (wx : World) : (Instr.index 128 (.agg gasRow.toArray) (.int .u8 (4 : Nat))).run Sakg.prog wx = .ok (.int .u16 ((gasT.getD 4 0 : Nat) : Int)) wx := by kernel_rfl
theorem idx_5 (wx : World) : (Instr.index 128 (.agg gasRow.toArray) (.int .u8 (5 : Nat))).run Sakg.prog wx = .ok (.int .u16 ((gasT.getD 5 0 : Nat) : Int)) wx := by kernel_rfl
theorem idx_6 (wx : World) : (Instr.index 128 (.agg gasRow.toArray) (.int .u8 (6 : Nat))).run Sakg.prog wx = .ok (.int .u16 ((gasT.getD 6 0 : Nat) : Int)) wx := by kernel_rfl
theorem idx_7 (wx : World) : (Instr.index 128 (.agg gasRow.toArray) (.int .u8 (7 : Nat))).run Sakg.prog wx = .ok (.int .u16 ((gasT.getD 7 0 : Nat) : Int)) wx := by kernel_rfl
theorem idx_8 (wx : World) : (Instr.index 128 (.agg gasRow.toArray) (.int .u8 (8 : Nat))).run Sakg.prog wx = .ok (.int .u16 ((gasT.getD 8 0 : Nat) : Int)) wx := by kernel_rfl
theorem idx_9 (wx : World) : (Instr.index 128 (.agg gasRow.toArray) (.int .u8 (9 : Nat))).run Sakg.prog wx = .ok (.int .u16 ((gasT.getD 9 0 : Nat) : Int)) wx := by kernel_rfl
theorem idx_10 (wx : World) : (Instr.index 128 (.agg gasRow.toArray) (.int .u8 (10 : Nat))).run Sakg.prog wx = .ok (.int .u16 ((gasT.getD 10 0 : Nat) : Int)) wx := by kernel_rfl
theorem idx_11 (wx : World) : (Instr.index 128 (.agg gasRow.toArray) (.int .u8 (11 : Nat))).run Sakg.prog wx = .ok (.int .u16 ((gasT.getD 11 0 : Nat) : Int)) wx := by kernel_rfl
theorem idx_16 (wx : World) : (Instr.index 128 (.agg gasRow.toArray) (.int .u8 (16 : Nat))).run Sakg.prog wx = .ok (.int .u16 ((gasT.getD 16 0 : Nat) : Int)) wx := by kernel_rfl
theorem idx_17 (wx : World) : (Instr.index 128 (.agg gasRow.toArray) (.int .u8 (17 : Nat))).run Sakg.prog wx = .ok (.int .u16 ((gasT.getD 17 0 : Nat) : Int)) wx := by kernel_rfl
theorem idx_18 (wx : World) : (Instr.index 128 (.agg gasRow.toArray) (.int .u8 (18 : Nat))).run Sakg.prog wx = .ok (.int .u16 ((gasT.getD 18 0 : Nat) : Int)) wx := by kernel_rfl
theorem idx_19 (wx : World) : (Instr.index 128 (.agg gasRow.toArray) (.int .u8 (19 : Nat))).run Sakg.prog wx = .ok (.int .u16 ((gasT.getD 19 0 : Nat) : Int)) wx := by kernel_rfl
theorem idx_20 (wx : World) : (Instr.index 128 (.agg gasRow.toArray) (.int .u8 (20 : Nat))).run Sakg.prog wx = .ok (.int .u16 ((gasT.getD 20 0 : Nat) : Int)) wx := by kernel_rfl
theorem idx_21 (wx : World) : (Instr.index 128 (.agg gasRow.toArray) (.int .u8 (21 : Nat))).run Sakg.prog wx = .ok (.int .u16 ((gasT.getD 21 0 : Nat) : Int)) wx := by kernel_rfl
theorem idx_22 (wx : World) : (Instr.index 128 (.agg gasRow.toArray) (.int .u8 (22 : Nat))).run Sakg.prog wx = .ok (.int .u16 ((gasT.getD 22 0 : Nat) : Int)) wx := by kernel_rfl
theorem idx_23 (wx : World) : (Instr.index 128 (.agg gasRow.toArray) (.int .u8 (23 : Nat))).run Sakg.prog wx = .ok (.int .u16 ((gasT.getD 23 0 : Nat) : Int)) wx := by kernel_rfl
theorem idx_24 (wx : World) : (Instr.index 128 (.agg gasRow.toArray) (.int .u8 (24 : Nat))).run Sakg.prog wx = .ok (.int .u16 ((gasT.getD 24 0 : Nat) : Int)) wx := by kernel_rfl
theorem idx_25 (wx : World) : (Instr.index 128 (.agg gasRow.toArray) (.int .u8 (25 : Nat))).run Sakg.prog wx = .ok (.int .u16 ((gasT.getD 25 0 : Nat) : Int)) wx := by kernel_rfl
theorem idx_26 (wx : World) : (Instr.index 128 (.agg gasRow.toArray) (.int .u8 (26 : Nat))).run Sakg.prog wx = .ok (.int .u16 ((gasT.getD 26 0 : Nat) : Int)) wx := by kernel_rfl
theorem idx_27 (wx : World) : (Instr.index 128 (.agg gasRow.toArray) (.int .u8 (27 : Nat))).run Sakg.prog wx = .ok (.int .u16 ((gasT.getD 27 0 : Nat) : Int)) wx := by kernel_rfl
theorem idx_28 (wx : World) : (Instr.index 128 (.agg gasRow.toArray) (.int .u8 (28 : Nat))).run Sakg.prog wx = .ok (.int .u16 ((gasT.getD 28 0 : Nat) : Int)) wx := by kernel_rfl
theorem idx_29 (wx : World) : (Instr.index 128 (.agg gasRow.toArray) (.int .u8 (29 : Nat))).run Sakg.prog wx = .ok (.int .u16 ((gasT.getD 29 0 : Nat) : Int)) wx := by kernel_rfl
theorem idx_run (o : Nat) (ho : aluO o) (wx : World) : (Instr.index 128 (.agg gasRow.toArray) (.int .u8 o)).run Sakg.prog wx = .ok (.int .u16 ((gasT.getD o 0 : Nat) : Int)) wx := by
  have h : (1 ≤ o ∧ o ≤ 11) ∨ (16 ≤ o ∧ o ≤ 29) := ho
  have hx : o = 1 ∨ o = 2 ∨ o = 3 ∨ o = 4 ∨ o = 5 ∨ o = 6 ∨ o = 7 ∨ o = 8 ∨ o = 9 ∨ o = 10 ∨ o = 11 ∨ o = 16 ∨ o = 17 ∨ o = 18 ∨ o = 19 ∨ o = 20 ∨ o = 21 ∨ o = 22 ∨ o = 23 ∨ o = 24 ∨ o = 25 ∨ o = 26 ∨ o = 27 ∨ o = 28 ∨ o = 29 := by omega
  rcases hx with rfl | rfl | rfl | rfl | rfl | rfl | rfl | rfl | rfl | rfl | rfl | rfl | rfl | rfl | rfl | rfl | rfl | rfl | rfl | rfl | rfl | rfl | rfl | rfl | rfl
  · exact idx_1 wx
  · exact idx_2 wx
  · exact idx_3 wx
  · exact idx_4 wx
  · exact idx_5 wx
  · exact idx_6 wx
  · exact idx_7 wx
  · exact idx_8 wx
  · exact idx_9 wx
  · exact idx_10 wx
  · exact idx_11 wx
  · exact idx_16 wx
  · exact idx_17 wx
  · exact idx_18 wx
  · exact idx_19 wx
  · exact idx_20 wx
  · exact idx_21 wx
  · exact idx_22 wx
  · exact idx_23 wx
  · exact idx_24 wx
  · exact idx_25 wx
  · exact idx_26 wx
  · exact idx_27 wx
  · exact idx_28 wx
  · exact idx_29 wx

set_option maxHeartbeats 8000000 in
theorem specAluHolds_any (o : Nat) (ho : aluO o) (b : List Int) (hb : IsW b) (v : Nat) (hv : v < P256) (Aw : Option Addr) (kw cw : Nat) (A : Option Addr) (k c : Nat) (m : List Int) (hm : m.length = 20) (w : World) (hw : IsNat w Aw kw cw v) (hs : Src w A k c (be32 v)) :
    Calls Sakg.prog 19 #[.int .u8 o, .agg (bv b).toArray, .slice Aw kw cw, .agg (rcptRow 0 (.slice A k c) (21022 + gasA o (beN b)) m).toArray] w fun e w' => e = .returned (.bool true) ∧ Below w.heap.size w w' := by
  obtain ⟨us, hus⟩ : ∃ us, us = 21022 + gasA o (beN b) := ⟨_, rfl⟩
  rw [← hus]
  have HUS := hide hus
  clear hus
  obtain ⟨W, hW⟩ : ∃ W, W = (w.alloc (.cells (bv b).toArray 28)).alloc (.cells (rcptRow 0 (.slice A k c) us m).toArray 48) := ⟨_, rfl⟩
  have hb0 : Below w.heap.size w W := by rw [hW]; exact ((Below.refl _ _).alloc (Nat.le_refl _) _).alloc (by simp) _
  have rb : RowT 28 W w.heap.size (bv b) := by rw [hW]; exact (RowT.new _ _ _).alloc _
  have rr : RowT 48 W (w.heap.size + 1) (rcptRow 0 (.slice A k c) us m) := by
    rw [hW]
    have := RowT.new 48 (w.alloc (.cells (bv b).toArray 28)) (rcptRow 0 (.slice A k c) us m)
    rwa [World.size_alloc] at this
  have HZ := hide (zeroGasList_any W)
  obtain ⟨gv, hgv⟩ : ∃ gv, gv = gasT.getD o 0 := ⟨_, rfl⟩
  have hgl : gv ≤ 10 := by rw [hgv]; exact gasT_le o ho
  have hidx := fun wx => idx_run o ho wx
  rw [← hgv] at hidx
  have HGV := hide hgv
  have hkk := hs.len_eq
  rw [be32_len] at hkk
  subst hkk
  have hBB := big_ge
  have hvB : v < BIG := Nat.lt_trans hv p256_lt
  have hbB := hb.big
  have hR : ∀ wz, Below W.heap.size W wz → RowT 28 wz w.heap.size (bv b) ∧ RowT 48 wz (w.heap.size + 1) (rcptRow 0 (.slice A 32 c) us m) ∧ IsNat wz Aw kw cw v ∧ Src wz A 32 c (be32 v) := fun wz hz => ⟨rb.kept hz, rr.kept hz, (hw.kept hb0).kept hz, (hs.kept hb0).kept hz⟩
  have HR := hide hR
  have hbv : val (be32 v).reverse = v := be32_val v hv
  have hc0 : cmpI v v = 0 := by unfold cmpI; rw [if_neg (by omega), if_pos rfl]
  obtain ⟨n1, hn1⟩ : ∃ n1, n1 = 21009 + gv := ⟨_, rfl⟩
  have e1 : (21009 : Int) + (gv : Int) = (n1 : Int) := by omega
  have e2 : (n1 : Int) + 2 = ((n1 + 2 : Nat) : Int) := by omega
  have hn1l : n1 ≤ 21019 := by omega
  have HN1 := hide hn1
  clear rb rr hR hw hs hgv hn1 e2
  obtain ⟨n2, hn2⟩ : ∃ n2, n2 = n1 + 2 := ⟨_, rfl⟩
  obtain ⟨n3, hn3⟩ : ∃ n3, n3 = n2 + 6 := ⟨_, rfl⟩
  obtain ⟨n4, hn4⟩ : ∃ n4, n4 = n3 + 3 := ⟨_, rfl⟩
  obtain ⟨n5, hn5⟩ : ∃ n5, n5 = n4 + 2 := ⟨_, rfl⟩
  have e2 : (n1 : Int) + 2 = (n2 : Int) := by omega
  have e3 : (n2 : Int) + 6 = (n3 : Int) := by omega
  have e4 : (n3 : Int) + 3 = (n4 : Int) := by omega
  have e5 : (n4 : Int) + 2 = (n5 : Int) := by omega
  have hl5 : n5 ≤ 21100 := by omega
  have hl4 : n4 ≤ 21100 := by omega
  have hl3 : n3 ≤ 21100 := by omega
  have hl2 : n2 ≤ 21100 := by omega
  have hn15 : n5 = n1 + 13 := by omega
  have HN15 := hide hn15
  clear hn2 hn3 hn4 hn5 hn15
  go_enter Sakg.func19, Sakg.ntmps19
  go_upto_region 1 with fail
  rw [← hW]
  clear hW
  go_wp2_with fail
  refine (unhide HZ).mono ?_
  rintro e w1 ⟨rfl, b1⟩
  by_cases h10 : o = 10
  · have t10 : ((o : Int) == 10) = true := by rw [h10]; rfl
    have sb := src_of_range (unhide HR w1 b1).1.rangeAll hb.byt hb.len max32
    have HF := hide (fromBE_any _ 32 32 b w1 sb (by omega))
    have H10 := hide h10
    clear sb h10
    go_wp2_with fail
    refine (unhide HF).mono ?_
    rintro e w2 ⟨A2, k2, c2, rfl, n2', N2, b2⟩
    have hk2 : k2 = dlen (beN b) := n2'.dlen hbB
    have hk2l : k2 ≤ 32 := n2'.len 32 hb.lt
    obtain ⟨n6, hn6⟩ : ∃ n6, n6 = 50 * k2 := ⟨_, rfl⟩
    have e6 : (50 : Int) * (k2 : Int) = (n6 : Int) := by omega
    have hn6l : n6 ≤ 1600 := by omega
    have hfin : n5 + n6 = us := by
      rw [unhide HUS, gasT_at o (beN b) ho, if_pos (unhide H10), ← unhide HGV, unhide HN15, unhide HN1, hn6, hk2]
      omega
    have e7 : (n5 : Int) + (n6 : Int) = (us : Int) := by omega
    have hul : us ≤ 30000 := by omega
    have d2 : Below W.heap.size W w2 := b1.trans (b2.mono b1.size)
    have x0 : w2.cell? ⟨w.heap.size + 1, 0, none⟩ = some (.int .u8 0) := by rw [(unhide HR w2 d2).2.1.cell]; rfl
    have x1 : w2.cell? ⟨w.heap.size + 1, 1, none⟩ = some (.int .u8 (0 : Nat)) := by rw [(unhide HR w2 d2).2.1.cell]; rfl
    have x2 : w2.cell? ⟨w.heap.size + 1, 2, none⟩ = some (.int .u64 us) := by rw [(unhide HR w2 d2).2.1.cell]; rfl
    have x3 : w2.cell? ⟨w.heap.size + 1, 3, none⟩ = some (.slice A 32 c) := by rw [(unhide HR w2 d2).2.1.cell]; rfl
    have HF2 := hide (fromBE_any A 32 c (be32 v) w2 (unhide HR w2 d2).2.2.2 (by omega))
    rw [hbv] at HF2
    have HW2 := hide (unhide HR w2 d2).2.2.1
    clear n2' hn6 hfin hk2
    go_wp2_with fail
    refine (unhide HF2).mono ?_
    rintro e w3 ⟨A3, k3, c3, rfl, n3', N3, b3⟩
    have HC := hide (n3'.cmp ((unhide HW2).kept b3) hvB hvB)
    rw [hc0] at HC
    clear n3'
    go_wp2_with fail
    refine (unhide HC).mono ?_
    rintro e w4 ⟨rfl, q4⟩
    go_wp2
    go_ret
    exact ⟨rfl, hb0.trans (((d2.trans (b3.mono d2.size)).trans (q4.below _)).mono hb0.size)⟩
  · have t10 : ((o : Int) == 10) = false := by rw [beq_eq_false_iff_ne]; omega
    have hfin : n5 = us := by
      rw [unhide HUS, gasT_at o (beN b) ho, if_neg h10, ← unhide HGV, unhide HN15, unhide HN1]
      omega
    subst hfin
    have x0 : w1.cell? ⟨w.heap.size + 1, 0, none⟩ = some (.int .u8 0) := by rw [(unhide HR w1 b1).2.1.cell]; rfl
    have x1 : w1.cell? ⟨w.heap.size + 1, 1, none⟩ = some (.int .u8 (0 : Nat)) := by rw [(unhide HR w1 b1).2.1.cell]; rfl
    have x2 : w1.cell? ⟨w.heap.size + 1, 2, none⟩ = some (.int .u64 n5) := by rw [(unhide HR w1 b1).2.1.cell]; rfl
    have x3 : w1.cell? ⟨w.heap.size + 1, 3, none⟩ = some (.slice A 32 c) := by rw [(unhide HR w1 b1).2.1.cell]; rfl
    have HF2 := hide (fromBE_any A 32 c (be32 v) w1 (unhide HR w1 b1).2.2.2 (by omega))
    rw [hbv] at HF2
    have HW2 := hide (unhide HR w1 b1).2.2.1
    clear h10
    go_wp2_with fail
    refine (unhide HF2).mono ?_
    rintro e w3 ⟨A3, k3, c3, rfl, n3', N3, b3⟩
    have HC := hide (n3'.cmp ((unhide HW2).kept b3) hvB hvB)
    rw [hc0] at HC
    clear n3'
    go_wp2_with fail
    refine (unhide HC).mono ?_
    rintro e w4 ⟨rfl, q4⟩
    go_wp2
    go_ret
    exact ⟨rfl, hb0.trans (((b1.trans (b3.mono b1.size)).trans (q4.below _)).mono hb0.size)⟩

end Go.Proofs.YgcsakGreat
