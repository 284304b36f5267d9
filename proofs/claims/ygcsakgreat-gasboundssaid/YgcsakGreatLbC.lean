/-
  law: gasBoundsHolds.
-/
import Derived.Test.YgcsakGreatLbA
import Derived.Test.YgcsakGreatFinA
import Derived.Test.YgcsakGreatBegV
namespace Go.Proofs.YgcsakGreat
set_option linter.unusedVariables false
set_option linter.unusedSimpArgs false
set_option maxRecDepth 100000
open Go.RowKit

theorem intrN_seven (d : YTx) (h1 : d.data.length ≤ 1024) (h2 : listB d.access = true) : intrN d < 256 ^ 7 := by
  have h3 := listB_le h2
  have h4 := accN_le d.access
  have h5 := zerosN_le d.data
  have h6 : intrN d ≤ 2000000 := by
    unfold intrN dataN
    split <;> omega
  omega
set_option maxHeartbeats 8000000 in
theorem gasHolds_any (r : List Value) (d : YTx) (A1 : Option Addr) (k1 c1 : Nat) (A2 : Option Addr) (k2 c2 : Nat) (w : World) (h : TxC r d A1 k1 c1 A2 k2 c2) (hd : Src w A1 k1 c1 d.data) (ha : AccsR w A2 k2 c2 d.access)
    (row : List Value) (hl : row.length = 25) (vn us : Nat) (h0 : row[0]? = some (.int .u8 vn)) (h2 : row[2]? = some (.int .u64 us)) (hv : vn = 0 → d.data.length ≤ 1024 ∧ listB d.access = true ∧ intrN d - intrN d / 5 ≤ us ∧ us ≤ d.gas) :
    Calls Sakg.prog 38 #[.agg r.toArray, .agg row.toArray] w fun e w' => e = .returned (.bool true) ∧ Below w.heap.size w w' := by
  obtain ⟨W, hW⟩ : ∃ W, W = (w.alloc (.cells r.toArray 33)).alloc (.cells row.toArray 48) := ⟨_, rfl⟩
  have hb0 : Below w.heap.size w W := by rw [hW]; exact ((Below.refl _ _).alloc (Nat.le_refl _) _).alloc (by simp) _
  have hr0 : RowT 33 W w.heap.size r := by rw [hW]; exact (RowT.new _ _ _).alloc _
  have hr1 : RowT 48 W (w.heap.size + 1) row := by rw [hW]; exact row_second _ _ _ _
  obtain ⟨gR, hgR⟩ : ∃ gR, gR = w.heap.size + 1 := ⟨_, rfl⟩
  rw [← hgR] at hr1
  have e0 : W.cell? ⟨gR, 0, none⟩ = some (.int .u8 vn) := by rw [hr1.cell]; exact h0
  have hsT : (Sakg.prog.info? 33).map (·.size) = some r.length := by rw [h.len]; exact sizeTx
  have HR0 := hide hr0
  have HR1 := hide hr1
  have HRG := hide hr0.rangeAll
  have hbig := h.hgas
  clear hr0 hr1
  go_enter Sakg.func38, Sakg.ntmps38
  go_upto_region 1 with fail
  rw [← hW, ← hgR]
  clear hW hgR
  by_cases hv0 : vn = 0
  case neg =>
    have t0 : ((vn : Int) == 0) = false := by rw [beq_eq_false_iff_ne]; omega
    have t1 : ((vn : Int) != 0) = true := by rw [bne_iff_ne]; omega
    go_wp2_with fail
    go_ret
    exact ⟨rfl, hb0⟩
  subst hv0
  obtain ⟨hdl, hlb, hlo, hhi⟩ := hv rfl
  have HIN := hide (lawIntrinsic_any r d A1 k1 c1 A2 k2 c2 W h (hd.kept hb0) (ha.kept hb0) (by rw [← hd.len_eq]; exact hdl) hlb)
  have hb1 : intrN d < 256 ^ 7 := intrN_seven d hdl hlb
  have hp7 : (256 : Nat) ^ 7 = 72057594037927936 := by decide
  generalize intrN d = it at HIN hlo hb1
  have t2 : decide ((it : Int) - (it : Int) / 5 ≤ (us : Int)) = true := by rw [decide_eq_true_iff]; omega
  obtain ⟨gs, hgs⟩ : ∃ gs, gs = d.gas := ⟨_, rfl⟩
  have h42 := h.gas
  rw [← hgs] at hhi h42
  have t3 : decide ((us : Int) ≤ (gs : Int)) = true := by rw [decide_eq_true_iff]; omega
  go_upto_region 4 with (first
    | ((with_reducible refine at_load 33 ?_); refine wpList_load_g (by rfl) 33 (.tmp 2) rfl w.heap.size 0 rfl r _ (unhide HRG) Sakg.underlying33 rfl hsT ?_)
    | (go_at_call 95; refine (unhide HIN).mono ?_; rintro e w2 ⟨rfl, b2⟩))
  have e2 : w2.cell? ⟨gR, 2, none⟩ = some (.int .u64 us) := by rw [((unhide HR1).kept b2).cell]; exact h2
  have e42 : w2.cell? ⟨w.heap.size, 42, none⟩ = some (.int .u64 gs) := by rw [((unhide HR0).kept b2).cell]; exact h42
  go_wp2
  go_ret
  exact ⟨rfl, hb0.trans (b2.mono hb0.size)⟩

end Go.Proofs.YgcsakGreat
