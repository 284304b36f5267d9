/-
  law: addrNo, sender, StageEnv, toA1, zeroGasList; Alu out of range.
-/
import Derived.Test.YgcsakGreatBegV
import Derived.Test.YgcsakGreatAluD
namespace Go.Proofs.YgcsakGreat
set_option linter.unusedVariables false
set_option linter.unusedSimpArgs false
set_option maxRecDepth 100000
open Go.RowKit

set_option maxHeartbeats 4000000 in
theorem alu_nil (o : Nat) (ho : o < 256) (h : ¬ aluO o) (a b c : Option Addr) (la ca lb cb lc cc : Nat) (w : World) :
    Calls Sakg.prog 18 #[.int .u8 o, .slice a la ca, .slice b lb cb, .slice c lc cc] w fun e w' => e = .returned (.slice none 0 0) ∧ w = w' := by
  unfold aluO at h
  have t1 : ((o : Int) == 1) = false := by rw [beq_eq_false_iff_ne]; omega
  have t2 : ((o : Int) == 2) = false := by rw [beq_eq_false_iff_ne]; omega
  have t3 : ((o : Int) == 3) = false := by rw [beq_eq_false_iff_ne]; omega
  have t4 : ((o : Int) == 4) = false := by rw [beq_eq_false_iff_ne]; omega
  have t5 : ((o : Int) == 5) = false := by rw [beq_eq_false_iff_ne]; omega
  have t6 : ((o : Int) == 6) = false := by rw [beq_eq_false_iff_ne]; omega
  have t7 : ((o : Int) == 7) = false := by rw [beq_eq_false_iff_ne]; omega
  have t8 : ((o : Int) == 8) = false := by rw [beq_eq_false_iff_ne]; omega
  have t9 : ((o : Int) == 9) = false := by rw [beq_eq_false_iff_ne]; omega
  have t10 : ((o : Int) == 10) = false := by rw [beq_eq_false_iff_ne]; omega
  have t11 : ((o : Int) == 11) = false := by rw [beq_eq_false_iff_ne]; omega
  have t16 : ((o : Int) == 16) = false := by rw [beq_eq_false_iff_ne]; omega
  have t17 : ((o : Int) == 17) = false := by rw [beq_eq_false_iff_ne]; omega
  have t18 : ((o : Int) == 18) = false := by rw [beq_eq_false_iff_ne]; omega
  have t19 : ((o : Int) == 19) = false := by rw [beq_eq_false_iff_ne]; omega
  have t20 : ((o : Int) == 20) = false := by rw [beq_eq_false_iff_ne]; omega
  have t21 : ((o : Int) == 21) = false := by rw [beq_eq_false_iff_ne]; omega
  have t22 : ((o : Int) == 22) = false := by rw [beq_eq_false_iff_ne]; omega
  have t23 : ((o : Int) == 23) = false := by rw [beq_eq_false_iff_ne]; omega
  have t24 : ((o : Int) == 24) = false := by rw [beq_eq_false_iff_ne]; omega
  have t25 : ((o : Int) == 25) = false := by rw [beq_eq_false_iff_ne]; omega
  have t26 : ((o : Int) == 26) = false := by rw [beq_eq_false_iff_ne]; omega
  have t27 : ((o : Int) == 27) = false := by rw [beq_eq_false_iff_ne]; omega
  have t28 : ((o : Int) == 28) = false := by rw [beq_eq_false_iff_ne]; omega
  have t29 : ((o : Int) == 29) = false := by rw [beq_eq_false_iff_ne]; omega
  clear h
  go_enter Sakg.func18, Sakg.ntmps18
  go_wp2
  go_ret
  exact ⟨rfl, rfl⟩

set_option maxHeartbeats 4000000 in
theorem addrNo_any (n : Nat) (hn : n ≤ 255) (w : World) : Calls Sakg.prog 43 #[.int .u8 n] w fun e w' => e = .returned (.agg (bv (lowAddr n)).toArray) ∧ Below w.heap.size w w' := by
  obtain ⟨W, hW⟩ : ∃ W, W = w.alloc (.cells (bv (zeros 20)).toArray 26) := ⟨_, rfl⟩
  have hb0 : Below w.heap.size w W := by rw [hW]; exact (Below.refl _ _).alloc (Nat.le_refl _) _
  have r0 : RowT 26 W w.heap.size (bv (zeros 20)) := by rw [hW]; exact RowT.new _ _ _
  have hz20 : (bv (zeros 20)).length = 20 := by rw [bv_len, zeros_len]
  have hia := lowAddr_is n (by omega) (by omega)
  have hbl : (bv (lowAddr n)).length = 20 := by rw [bv_len, hia.len]
  have hsz := hia.size
  have R0 := hide r0
  clear r0
  go_enter Sakg.func43, Sakg.ntmps43
  go_upto_region 1 with ((with_reducible refine at_alloc 26 ?_); refine wpList_alloc_g (by rfl) 26 rfl (bv (zeros 20)) 20 infoAddr2 hz20 ?_)
  rw [← hW]
  clear hW
  go_wp2_with (first
    | ((with_reducible refine at_build 26 ?_); refine wpList_build_run (by rfl) 26 [(19, .tmp 3)] rfl (.agg (bv (lowAddr n)).toArray) (run_low n _) ?_)
    | ((with_reducible refine at_store 26 ?_); refine wpList_store_whole rfl 26 (.tmp 2) (.tmp 4) rfl w.heap.size 26 (bv (zeros 20)) (bv (lowAddr n)) rfl rfl (unhide R0) (by rw [hz20, hbl]) hsz (bv_one _) ?_; intro w9 hr9 ho9))
  refine bodyPost_ret (results_cell_row rfl _ _ _ _ _ _ _ rfl hr9 Sakg.underlying26 rfl (by simpa using hsz)) rfl ?_
  exact ⟨rfl, hb0.trans (ho9.below _ (Nat.le_refl _))⟩

set_option maxHeartbeats 4000000 in
theorem sender_any (w : World) : Calls Sakg.prog 45 #[] w fun e w' => e = .returned (.agg (bv (lowAddr 240)).toArray) ∧ Below w.heap.size w w' := by
  obtain ⟨W, hW⟩ : ∃ W, W = w.alloc (.cells (bv (zeros 20)).toArray 26) := ⟨_, rfl⟩
  have hb0 : Below w.heap.size w W := by rw [hW]; exact (Below.refl _ _).alloc (Nat.le_refl _) _
  have r0 : RowT 26 W w.heap.size (bv (zeros 20)) := by rw [hW]; exact RowT.new _ _ _
  have HA := hide (addrNo_any 240 (by omega) W)
  have hz20 : (bv (zeros 20)).length = 20 := by rw [bv_len, zeros_len]
  have hia := lowAddr_is 240 (by omega) (by omega)
  have hbl : (bv (lowAddr 240)).length = 20 := by rw [bv_len, hia.len]
  have hsz := hia.size
  have R0 := hide r0
  clear r0
  go_enter Sakg.func45, Sakg.ntmps45
  go_upto_region 1 with ((with_reducible refine at_alloc 26 ?_); refine wpList_alloc_g (by rfl) 26 rfl (bv (zeros 20)) 20 infoAddr2 hz20 ?_)
  rw [← hW]
  clear hW
  go_wp2_with (first
    | (go_at_call 43; refine (unhide HA).mono ?_; rintro e w1 ⟨rfl, b1⟩; have R1 := hide ((unhide R0).kept b1))
    | ((with_reducible refine at_store 26 ?_); refine wpList_store_whole rfl 26 (.tmp 0) (.tmp 1) rfl w.heap.size 26 (bv (zeros 20)) (bv (lowAddr 240)) rfl rfl (unhide R1) (by rw [hz20, hbl]) hsz (bv_one _) ?_; intro w9 hr9 ho9))
  refine bodyPost_ret (results_cell_row rfl _ _ _ _ _ _ _ rfl hr9 Sakg.underlying26 rfl (by simpa using hsz)) rfl ?_
  exact ⟨rfl, (hb0.trans (b1.mono hb0.size)).trans (ho9.below _ (Nat.le_refl _))⟩

def stageEnv : List Value := bv (lowAddr 192) ++ ([.int .u64 0, .int .u64 0, .int .u64 1048576] ++ (bv (zeros 96) ++ [nilS]))
def zeroEnv : List Value := bv (zeros 20) ++ ([.int .u64 0, .int .u64 0, .int .u64 0] ++ (bv (zeros 96) ++ [nilS]))
theorem infoEnv2 : (Sakg.prog.info? 64).map (fun i => (i.zero, i.size)) = some (some (.agg zeroEnv.toArray), 120) := by kernel_rfl
theorem run_stageEnv (wx : World) : (Instr.build 64 #[(0, .agg (bv (lowAddr 192)).toArray), (3, .int .u64 1048576)]).run Sakg.prog wx = .ok (.agg stageEnv.toArray) wx := by kernel_rfl
theorem all_one {r : List Value} (h : r.all (fun v => v.oneCell') = true) : ∀ v ∈ r, v.oneCell' = true := List.all_eq_true.1 h
theorem stageEnv_one : ∀ v ∈ stageEnv, v.oneCell' = true := all_one (by kernel_rfl)
theorem stageEnv_len : stageEnv.length = 120 := by kernel_rfl
set_option maxHeartbeats 4000000 in
theorem stageEnv_any (w : World) : Calls Sakg.prog 47 #[] w fun e w' => e = .returned (.agg stageEnv.toArray) ∧ Below w.heap.size w w' := by
  obtain ⟨W, hW⟩ : ∃ W, W = w.alloc (.cells zeroEnv.toArray 64) := ⟨_, rfl⟩
  have hb0 : Below w.heap.size w W := by rw [hW]; exact (Below.refl _ _).alloc (Nat.le_refl _) _
  have r0 : RowT 64 W w.heap.size zeroEnv := by rw [hW]; exact RowT.new _ _ _
  have HA := hide (addrNo_any 192 (by omega) W)
  have hz : zeroEnv.length = 120 := by kernel_rfl
  have hsz : (Sakg.prog.info? 64).map (·.size) = some stageEnv.length := by rw [stageEnv_len]; exact sizeEnv
  have hzl : zeroEnv.length = stageEnv.length := by rw [hz, stageEnv_len]
  have R0 := hide r0
  clear r0
  go_enter Sakg.func47, Sakg.ntmps47
  go_upto_region 1 with ((with_reducible refine at_alloc 64 ?_); refine wpList_alloc_g (by rfl) 64 rfl zeroEnv 120 infoEnv2 hz ?_)
  rw [← hW]
  clear hW
  go_wp2_with (first
    | (go_at_call 43; refine (unhide HA).mono ?_; rintro e w1 ⟨rfl, b1⟩; have R1 := hide ((unhide R0).kept b1))
    | ((with_reducible refine at_build 64 ?_); refine wpList_build_run (by rfl) 64 [(0, .tmp 1), (3, .const (.int .u64 1048576))] rfl (.agg stageEnv.toArray) (run_stageEnv _) ?_)
    | ((with_reducible refine at_store 64 ?_); refine wpList_store_whole rfl 64 (.tmp 0) (.tmp 2) rfl w.heap.size 64 zeroEnv stageEnv rfl rfl (unhide R1) hzl hsz stageEnv_one ?_; intro w9 hr9 ho9))
  refine bodyPost_ret (results_cell_row rfl _ _ _ _ _ _ _ rfl hr9 Sakg.underlying64 rfl (by simpa using hsz)) rfl ?_
  exact ⟨rfl, (hb0.trans (b1.mono hb0.size)).trans (ho9.below _ (Nat.le_refl _))⟩

def txA1 : List Value := bv (lowAddr 240) ++ (bv (lowAddr 1) ++ ([.bool false, .int .u64 0, .int .u64 200000] ++ (bv (zeros 32) ++ (bv (zeros 32) ++ ([nilS, .bool false] ++ (bv (zeros 32) ++ (bv (zeros 32) ++ [nilS])))))))
def zeroTx : List Value := bv (zeros 20) ++ (bv (zeros 20) ++ ([.bool false, .int .u64 0, .int .u64 0] ++ (bv (zeros 32) ++ (bv (zeros 32) ++ ([nilS, .bool false] ++ (bv (zeros 32) ++ (bv (zeros 32) ++ [nilS])))))))
def dA1 : YTx := ⟨lowAddr 240, lowAddr 1, false, 0, 200000, zeros 32, zeros 32, [], false, zeros 32, zeros 32, []⟩
theorem infoTx2 : (Sakg.prog.info? 33).map (fun i => (i.zero, i.size)) = some (some (.agg zeroTx.toArray), 174) := by kernel_rfl
theorem run_txA1 (wx : World) : (Instr.build 33 #[(0, .agg (bv (lowAddr 240)).toArray), (1, .agg (bv (lowAddr 1)).toArray), (4, .int .u64 200000)]).run Sakg.prog wx = .ok (.agg txA1.toArray) wx := by kernel_rfl
theorem txA1_len : txA1.length = 174 := by kernel_rfl
theorem txA1_one : ∀ v ∈ txA1, v.oneCell' = true := all_one (by kernel_rfl)
theorem txA1_c : TxC txA1 dA1 none 0 0 none 0 0 :=
  ⟨txA1_len, txA1_one, by kernel_rfl, by kernel_rfl, by kernel_rfl, by kernel_rfl, by kernel_rfl, by kernel_rfl, by kernel_rfl, by kernel_rfl, by kernel_rfl, by kernel_rfl, by kernel_rfl, by kernel_rfl, lowAddr_is 240 (by omega) (by omega), lowAddr_is 1 (by omega) (by omega), by show 0 < 256 ^ 8; omega, by show 200000 < 256 ^ 8; omega, zeroW_is, zeroW_is, zeroW_is, zeroW_is⟩
theorem stageEnv_c : EnvC stageEnv (lowAddr 192) 1048576 (zeros 32) none 0 0 := by
  refine ⟨stageEnv_len, stageEnv_one, by kernel_rfl, by kernel_rfl, by kernel_rfl, by kernel_rfl, lowAddr_is 192 (by omega) (by omega), ?_, ?_⟩
  all_goals first | exact zeroW_is | omega
set_option maxHeartbeats 4000000 in
theorem toA1_any (w : World) : Calls Sakg.prog 22 #[] w fun e w' => e = .returned (.agg txA1.toArray) ∧ Below w.heap.size w w' := by
  obtain ⟨W, hW⟩ : ∃ W, W = w.alloc (.cells zeroTx.toArray 33) := ⟨_, rfl⟩
  have hb0 : Below w.heap.size w W := by rw [hW]; exact (Below.refl _ _).alloc (Nat.le_refl _) _
  have r0 : RowT 33 W w.heap.size zeroTx := by rw [hW]; exact RowT.new _ _ _
  have HS := hide (sender_any W)
  have HA : ∀ wz, Hid (Calls Sakg.prog 43 #[.int .u8 (1 : Nat)] wz fun e w' => e = .returned (.agg (bv (lowAddr (1 : Nat))).toArray) ∧ Below wz.heap.size wz w') := fun wz => hide (addrNo_any 1 (by omega) wz)
  have hz : zeroTx.length = 174 := by kernel_rfl
  have hsz : (Sakg.prog.info? 33).map (·.size) = some txA1.length := by rw [txA1_len]; exact sizeTx
  have hzl : zeroTx.length = txA1.length := by rw [hz, txA1_len]
  have R0 := hide r0
  clear r0
  go_enter Sakg.func22, Sakg.ntmps22
  go_upto_region 1 with ((with_reducible refine at_alloc 33 ?_); refine wpList_alloc_g (by rfl) 33 rfl zeroTx 174 infoTx2 hz ?_)
  rw [← hW]
  clear hW
  go_wp2_with (first
    | (go_at_call 45; refine (unhide HS).mono ?_; rintro e w1 ⟨rfl, b1⟩)
    | (go_at_call 43; refine (unhide (HA _)).mono ?_; rintro e w2 ⟨rfl, b2⟩; have R1 := hide (((unhide R0).kept b1).kept b2))
    | ((with_reducible refine at_build 33 ?_); refine wpList_build_run (by rfl) 33 [(0, .tmp 1), (1, .tmp 2), (4, .const (.int .u64 200000))] rfl (.agg txA1.toArray) (run_txA1 _) ?_)
    | ((with_reducible refine at_store 33 ?_); refine wpList_store_whole rfl 33 (.tmp 0) (.tmp 3) rfl w.heap.size 33 zeroTx txA1 rfl rfl (unhide R1) hzl hsz txA1_one ?_; intro w9 hr9 ho9))
  refine bodyPost_ret (results_cell_row rfl _ _ _ _ _ _ _ rfl hr9 Sakg.underlying33 rfl (by simpa using hsz)) rfl ?_
  have d2 : Below w.heap.size w w2 := (hb0.trans (b1.mono hb0.size)).trans (b2.mono (Nat.le_trans hb0.size b1.size))
  exact ⟨rfl, d2.trans (ho9.below _ (Nat.le_refl _))⟩

end Go.Proofs.YgcsakGreat
