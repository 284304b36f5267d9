/-
  law: pricedPlay at kind 6.
-/
import Derived.Test.YgcsakGreatLpG
namespace Go.Proofs.YgcsakGreat
set_option linter.unusedVariables false
set_option linter.unusedSimpArgs false
set_option maxRecDepth 100000
open Go.RowKit

theorem cf_push32 (w : World) (vs : Array Value) : (callFunc 42 vs).run Sakg.prog w = .ok (.enter 42 vs) w := by kernel_rfl
theorem cf_join (w : World) (vs : Array Value) : (callFunc 40 vs).run Sakg.prog w = .ok (.enter 40 vs) w := by kernel_rfl
/-- a call in a region that draws its order -/
theorem if_call1 {ops : Array Oper} {o : Oper} {a : Act} {w : World} {K : Act → World → Prop} {Q : Exit → Act → World → Prop} (d : Option Tmp) (hd : o.dst = d) (hw : Region.wanted o (yielded ops a.tmps) = true) (fn : Nat) (hcf : ∀ w vs, (callFunc fn vs).run Sakg.prog w = .ok (.enter fn vs) w) (x : Operand) (t : TypeId) (ho : o.op = .call { callee := .value (.func fn), args := #[x], argTypes := #[t] })
    (v : Value) (hv : a.eval x = v) {P : Ending → World → Prop} (hc : Calls Sakg.prog fn #[v] w P) (h : ∀ e w', P e w' → ∃ r, e = .returned r ∧ K (a.put d r) w') :
    if Region.wanted o (yielded ops a.tmps) = true then Oper.wp Sakg.prog o a w K Q else K (a.put o.dst undef) w := by
  rw [if_pos hw]
  subst hd
  unfold Oper.wp
  have hrun : (execOp a.eval o).run Sakg.prog w = .ok (.enter fn #[v]) w := by
    have hf : a.eval (.func fn) = .func (.func fn) #[] #[] := rfl
    simp [execOp, ho, hv, hf, resolve, invoke, Deferred.ofValue, hcf]
  rw [hrun, Oper.upon_enter]
  exact hc.mono (fun e w' hp => by obtain ⟨r, rfl, hk⟩ := h e w' hp; exact hk)
theorem if_call4 {ops : Array Oper} {o : Oper} {a : Act} {w : World} {K : Act → World → Prop} {Q : Exit → Act → World → Prop} (d : Option Tmp) (hd : o.dst = d) (hw : Region.wanted o (yielded ops a.tmps) = true) (fn : Nat) (hcf : ∀ w vs, (callFunc fn vs).run Sakg.prog w = .ok (.enter fn vs) w) (x1 x2 x3 x4 : Operand) (t1 t2 t3 t4 : TypeId) (ho : o.op = .call { callee := .value (.func fn), args := #[x1, x2, x3, x4], argTypes := #[t1, t2, t3, t4] })
    (v1 v2 v3 v4 : Value) (hv1 : a.eval x1 = v1) (hv2 : a.eval x2 = v2) (hv3 : a.eval x3 = v3) (hv4 : a.eval x4 = v4) {P : Ending → World → Prop} (hc : Calls Sakg.prog fn #[v1, v2, v3, v4] w P) (h : ∀ e w', P e w' → ∃ r, e = .returned r ∧ K (a.put d r) w') :
    if Region.wanted o (yielded ops a.tmps) = true then Oper.wp Sakg.prog o a w K Q else K (a.put o.dst undef) w := by
  rw [if_pos hw]
  subst hd
  unfold Oper.wp
  have hrun : (execOp a.eval o).run Sakg.prog w = .ok (.enter fn #[v1, v2, v3, v4]) w := by
    have hf : a.eval (.func fn) = .func (.func fn) #[] #[] := rfl
    simp [execOp, ho, hv1, hv2, hv3, hv4, hf, resolve, invoke, Deferred.ofValue, hcf]
  rw [hrun, Oper.upon_enter]
  exact hc.mono (fun e w' hp => by obtain ⟨r, rfl, hk⟩ := h e w' hp; exact hk)
set_option maxHeartbeats 16000000 in
theorem cf_pushes (w : World) (vs : Array Value) : (callFunc 41 vs).run Sakg.prog w = .ok (.enter 41 vs) w := by kernel_rfl
theorem run_lit2 (wx : World) : (Instr.buildSlice 30 2 #[(0, .int .u8 96), (1, .int .u8 2)]).run Sakg.prog wx = .ok (.slice (some ⟨wx.heap.size, 0, none⟩) 2 2) (wx.alloc (.cells (bv [96, 2]).toArray 5)) := by kernel_rfl
def fillC (c : Int) (i n : Nat) : List Int := List.replicate i c ++ zeros (n - i)
theorem fillC_set {c : Int} {i n : Nat} (h : i < n) : (fillC c i n).set i c = fillC c (i + 1) n := by
  unfold fillC zeros
  rw [List.set_append_right _ _ (by simp), List.length_replicate, Nat.sub_self, show n - i = (n - (i + 1)) + 1 by omega, List.replicate_succ, List.set_cons_zero, List.replicate_succ', List.append_assoc]
  rfl
theorem fillC_len {c : Int} {i n : Nat} (h : i ≤ n) : (fillC c i n).length = n := by
  unfold fillC
  rw [List.length_append, List.length_replicate, zeros_len]
  omega
theorem infoA32 : (Sakg.prog.info? 28).map (fun i => (i.zero, i.size)) = some (some (.agg (bv (zeros 32)).toArray), 32) := by kernel_rfl
theorem sizeA32 : (Sakg.prog.info? 28).map (·.size) = some 32 := by kernel_rfl
theorem play_end6 {d : YTx} {row : List Value} {xs : List Int} {w wS : World} {a5 b5 : Option Addr} {k5 c5 : Nat} {gB : Nat} (hd : TxC row d none 0 0 none 0 0) (hw : Below w.heap.size w wS) (rB : RowT 30 wS gB [.slice a5 k5 c5, .slice b5 1 1]) (s5 : Src wS a5 k5 c5 xs) (t5 : Src wS b5 1 1 [254]) (hk : k5 ≤ 256) (hdd : d.data = [] := by rfl) :
    PlayP 2 (fun i => if i = 0 then xs else [254]) d w (.returned (.tuple #[.slice (some ⟨gB, 0, none⟩) 2 2, .agg row.toArray])) wS := by
  refine ⟨gB, _, _, row, fun i => if i = 0 then a5 else b5, fun i => if i = 0 then k5 else 1, fun i => if i = 0 then c5 else 1, none, 0, 0, rfl, rB, fun i hi => ?_, hd, by rw [hdd]; exact Src.ofNil _, hw⟩
  rcases (show i = 0 ∨ i = 1 by omega) with rfl | rfl
  · exact ⟨rfl, s5, hk⟩
  · exact ⟨rfl, t5, by show 1 ≤ 256; omega⟩
def onesL : List Int := List.replicate 32 255
theorem ones_is : IsW onesL := ⟨rfl, fun x hx => by rw [List.eq_of_mem_replicate hx]; omega⟩
set_option maxHeartbeats 8000000 in
theorem play_k6 (n : Nat) (hn : n ≤ 1024) (w : World) : Calls Sakg.prog 10 #[.int .u8 6, .int .u16 n] w (PlayP 2 (fun i => if i = 0 then codeK6 else [254]) (txY false (zeros 32) []) w) := by
  obtain ⟨W, hW⟩ : ∃ W, W = w.alloc (.cells zeroTx.toArray 33) := ⟨_, rfl⟩
  have hb0 : Below w.heap.size w W := by rw [hW]; exact (Below.refl _ _).alloc (Nat.le_refl _) _
  have hr0 : RowT 33 W w.heap.size zeroTx := by rw [hW]; exact RowT.new _ _ _
  have hsT : (Sakg.prog.info? 33).map (·.size) = some txA1.length := by rw [txA1_len]; exact sizeTx
  have HT : Hid (Calls Sakg.prog 22 #[] W fun e w' => e = .returned (.agg txA1.toArray) ∧ Below W.heap.size W w') := hide (toA1_any W)
  have HP : ∀ wz, Hid (Calls Sakg.prog 39 #[.int .u16 n] wz (OwnB wz (p2Y n))) := fun wz => hide (push2_x n (by omega) wz)
  have HR0 := hide hr0
  have hzl := zeroTx_len
  have hW0 : W.heap.size = w.heap.size + 1 := by rw [hW]; simp
  clear hr0
  go_enter Sakg.func10, Sakg.ntmps10
  go_upto_region 1 with ((with_reducible refine at_alloc 33 ?_); refine wpList_alloc_g (by rfl) 33 rfl zeroTx 174 infoTx2 zeroTx_len ?_)
  rw [← hW]
  clear hW
  go_upto_region 2 with (first | (go_at_call 22; refine (unhide HT).mono ?_; rintro e w1 ⟨rfl, b1⟩) | ((with_reducible refine at_store 33 ?_); refine wpList_store_whole rfl 33 (.tmp 5) (.tmp 10) rfl w.heap.size 33 _ txA1 rfl rfl ((unhide HR0).kept b1) (by rw [hzl, txA1_len]) hsT txA1_one ?_; intro w2 hr2 ho2; have HR2 := hide hr2; clear hr2))
  have z1 := b1.size
  have zo2 := ho2.size
  have d2 : Below w.heap.size w w2 := (hb0.trans (b1.mono hb0.size)).trans (ho2.below _ (Nat.le_refl _))
  go_upto_region 3 with (go_at_call 39; refine (unhide (HP _)).mono ?_; rintro e w3 ⟨v3, rfl, o3, b3⟩; have O3 := hide o3; clear o3)
  have z3 := b3.size
  obtain ⟨w4, hw4⟩ : ∃ y, y = w3.alloc (.cells (bv (zeros 32)).toArray 28) := ⟨_, rfl⟩
  have b4 : Below w3.heap.size w3 w4 := by rw [hw4]; exact (Below.refl _ _).alloc (Nat.le_refl _) _
  have o4 : OwnT 28 w4 w3.heap.size (zeros 32) := by rw [hw4]; exact RowT.new _ _ _
  have O4 := hide o4
  have z4 := b4.size
  have HPS : ∀ wz, Hid (Calls Sakg.prog 41 #[.int .i64 5] wz (MakesB wz (List.replicate 5 95))) := fun wz => hide (pushes_x 5 (by omega) wz)
  have HP3 : ∀ wz, Hid (Calls Sakg.prog 42 #[.agg (bv onesL).toArray] wz (MakesB wz (127 :: onesL))) := fun wz => hide (push32_any onesL ones_is wz)
  clear o4
  go_upto_region 20 with ((with_reducible refine at_alloc 28 ?_); refine wpList_alloc_g (by rfl) 28 rfl (bv (zeros 32)) 32 infoA32 (by kernel_rfl) ?_)
  rw [← hw4]
  clear hw4
  go_loopg [42] 32 (fun gk iv wr => ∃ i, gk = 32 - i ∧ i ≤ 32 ∧ iv = .int .i64 (i : Nat) ∧ OwnT 28 wr w3.heap.size (fillC 255 i 32) ∧ Below w3.heap.size w4 wr)
  case atStart => exact ⟨0, by omega, by omega, rfl, unhide O4, Below.refl _ _⟩
  case round =>
    obtain ⟨i, rfl, hi, rfl, ho, hb⟩ := hrel
    rcases Nat.lt_or_ge i 32 with hin | hin
    · as_aux_lemma =>
      have tl : decide ((i : Int) < 32) = true := decide_eq_true (by omega)
      have hfl := fillC_len (c := 255) hi
      have hc := ho.cell i (by omega)
      have hfz := ho.froz i
      have ho2 := ho.set i 255
      rw [fillC_set hin] at ho2
      have hon : Only w3.heap.size wr (wr.setCell ⟨w3.heap.size, i, none⟩ (.int .u8 255)) := (Only.refl _ wr).setCell i _
      obtain ⟨w5, hw5⟩ : ∃ y, y = wr.setCell ⟨w3.heap.size, i, none⟩ (.int .u8 255) := ⟨_, rfl⟩
      rw [← hw5] at ho2 hon
      have hb2 : Below w3.heap.size w4 w5 := hb.trans (hon.below _ (Nat.le_refl _))
      have HO2 := hide ho2
      have HW5 := hide hw5
      clear ho ho2 hw5 hon
      go_wp2
      rw [← unhide HW5]
      go_roundg (32 - (i + 1))
      case measure => omega
      case rel => exact ⟨i + 1, rfl, by omega, rfl, unhide HO2, hb2⟩
    · as_aux_lemma =>
      obtain rfl : i = 32 := by omega
      have e : fillC 255 32 32 = onesL := rfl
      rw [e] at ho
      have ROW : Hid (RowT 28 wr w3.heap.size (bv onesL)) := hide ho
      have hzr := hb.size
      clear ho
      have hR : ∀ wz, Below wr.heap.size wr wz → wz.rangeAt w3.heap.size 0 (bv onesL) := fun wz hz => ((unhide ROW).kept hz).rangeAll
      have HR := hide hR
      have hu := Sakg.underlying28
      have sz1 : (Sakg.prog.info? 28).map (·.size) = some (bv onesL).length := sizeA32
      have dW : Below wr.heap.size wr wr.drew := Quiet.below ⟨1, rfl⟩ _
      have hby2 : Byt ([96, 2] : List Int) := by intro x hx; simp at hx; omega
      have hby1 : Byt ([241] : List Int) := by intro x hx; simp at hx; omega
      clear hR
      go_upto_region 24 with fail
      go_cut [7] (fun s7 wc => ∃ (A : Option Addr) (k c' : Nat), s7 = .slice A k c' ∧ Src wc A k c' codeK6 ∧ (∀ x, A = some x → wr.heap.size ≤ x.block) ∧ Below wr.heap.size wr wc)
      case rest =>
        obtain ⟨a5, k5, c5, rfl, s5, N5, b5⟩ := hcut
        have S5 := hide s5
        clear s5
        obtain ⟨wa, hwa⟩ : ∃ y, y = wc.alloc (.cells #[.int .u8 254] 5) := ⟨_, rfl⟩
        have ba : Below wc.heap.size wc wa := by rw [hwa]; exact (Below.refl _ _).alloc (Nat.le_refl _) _
        have hza : wa.heap.size = wc.heap.size + 1 := by rw [hwa]; simp
        have sa : Src wa (some ⟨wc.heap.size, 0, none⟩) 1 1 [254] := by rw [hwa]; exact src_lit wc [254] (by intro x hx; simp at hx; omega) (by decide)
        obtain ⟨w6, hw6⟩ : ∃ y, y = (wc.alloc (.cells #[.int .u8 254] 5)).alloc (.cells #[.slice a5 k5 c5, .slice (some ⟨wc.heap.size, 0, none⟩) 1 1] 30) := ⟨_, rfl⟩
        have hw6' : w6 = wa.alloc (.cells #[.slice a5 k5 c5, .slice (some ⟨wc.heap.size, 0, none⟩) 1 1] 30) := by rw [hw6, hwa]
        have b6 : Below wa.heap.size wa w6 := by rw [hw6']; exact (Below.refl _ _).alloc (Nat.le_refl _) _
        have r6 : RowT 30 w6 (wc.heap.size + 1) [.slice a5 k5 c5, .slice (some ⟨wc.heap.size, 0, none⟩) 1 1] := by rw [hw6', ← hza]; exact RowT.new _ _ _
        have sA := ((unhide S5).kept ba).kept b6
        have sB := sa.kept b6
        have d5 : Below w2.heap.size w2 wc := ((b3.trans (b4.mono b3.size)).trans (hb.mono z3)).trans (b5.mono (by omega))
        have zc := b5.size
        have d6 : Below wc.heap.size wc w6 := ba.trans (b6.mono ba.size)
        have R6 := hide (((unhide HR2).kept d5).kept d6)
        have SA := hide sA
        have SB := hide sB
        have RB := hide r6
        have zl6 : wc.heap.size + 2 ≤ w6.heap.size := by rw [hw6']; simp; omega
        have lk := (unhide S5).len_eq
        have hk5 : k5 ≤ 256 := by rw [← lk]; decide
        have hlo : ∀ x, a5 = some x → w2.heap.size ≤ x.block := fun x hx => by have := N5 x hx; omega
        clear sA sB r6 sa hw6' hwa hza lk
        go_upto_region 26 with fail
        rw [← hw6]
        clear hw6
        have dr : Below w6.heap.size w6 w6.drew := Quiet.below ⟨1, rfl⟩ _
        have d06 : Below w.heap.size w w6 := (d2.trans (d5.mono d2.size)).trans (d6.mono (by omega))
        have zdr : w6.drew.heap.size = w6.heap.size := rfl
        have hRT : ∀ wz, Below w6.heap.size w6 wz → RowT 33 wz w.heap.size txA1 := fun wz hz => (unhide R6).kept hz
        have hrl := txA1_len
        have hone := txA1_one
        refine wp_region_noPanic ?_
        refine wp_region_held_drew (S := fun w' => RowT 33 w' w.heap.size txA1) (by kernel_rfl) (hRT _ dr) (fun hHeld => ?_)
        refine held_takeD 0 (.slice (some ⟨wc.heap.size + 1, 0, none⟩) 2 2) (some 57) (by rfl) (by rfl) (by kernel_rfl) (by kernel_rfl) (by kernel_rfl) (fun _ _ _ h => h) (.inl ⟨by rfl, fun _ _ => by rfl⟩) (hHeld) ?_
        simp only [Act.put, List.setIfInBounds_toArray, List.set_cons_zero, List.set_cons_succ]
        refine held_takeD 1 (.agg txA1.toArray) (some 58) (by rfl) (by rfl) (by kernel_rfl) (by kernel_rfl) (by kernel_rfl) (fun _ _ _ h => h) (yieldsIf_load_mid (by rfl) _ _ rfl _ _ rfl _ _ (fun wz hS => hS.rangeAll) Sakg.underlying33 rfl hsT) (hHeld) ?_
        simp only [Act.put, List.setIfInBounds_toArray, List.set_cons_zero, List.set_cons_succ]
        refine held_takeD 2 (.slice (some ⟨wc.heap.size + 1, 0, none⟩) 2 2) (some 4) (by rfl) (by rfl) (by kernel_rfl) (by kernel_rfl) (by kernel_rfl) (fun _ _ _ h => h) (.inl ⟨by rfl, fun _ _ => by rfl⟩) (hHeld) ?_
        simp only [Act.put, List.setIfInBounds_toArray, List.set_cons_zero, List.set_cons_succ]

        refine held_one 3 (by kernel_rfl) (by rfl) (fun K' hK' => ?_)
        refine if_store rfl (by rfl) 33 (.tmp 5) (.tmp 58) rfl w.heap.size 0 33 _ txA1 rfl rfl (hRT _ dr) (by rw [hrl]; omega) hsT hone (fun wS rS oS => ?_)
        rw [spl_all _ _ rfl] at rS
        have dS := oS
        refine hK'.out _ _ (rS) ?_
        clear hK' K'
        refine wpAnyH_done (by kernel_rfl) ?_ _
        refine NoPanic.normal ?_
        have s6 := ((unhide SA).kept dr).onlyX oS (fun y hy e => by have h1 := hlo y hy; omega)
        have t6 := ((unhide SB).kept dr).onlyX oS (fun y hy e => by have h1 := Option.some.inj hy; rw [← h1] at e; have : wc.heap.size = w.heap.size := e; omega)
        have q6 : RowT 30 wS (wc.heap.size + 1) [.slice a5 k5 c5, .slice (some ⟨wc.heap.size, 0, none⟩) 1 1] := oS.rowT ((unhide RB).kept dr) (by omega)
        have dw6 : Below w.heap.size w wS := (d06.trans (dr.mono (by omega))).trans (oS.below _ (Nat.le_refl _))
        have HRS := hide rS
        have HS6 := hide s6
        have HT6 := hide t6
        have HQ6 := hide q6
        clear rS s6 q6 t6
        go_wp2_with fail
        refine bodyPost_ret (results_tmp_tx rfl _ _ w.heap.size 33 _ _ rfl (unhide HRS) (by rw [List.size_toArray]; exact hsT)) rfl ?_
        exact play_end6 txA1_y dw6 (unhide HQ6) (unhide HS6) (unhide HT6) hk5
      refine wp_region_noPanic ?_
      refine wp_region_held_drew (S := fun w' => Below wr.heap.size wr w') (by kernel_rfl) (dW) (fun hHeld => ?_)
      refine held_takeD 2 (.agg (bv onesL).toArray) (some 50) (by rfl) (by rfl) (by kernel_rfl) (by kernel_rfl) (by kernel_rfl) (fun _ _ _ h => h) (yieldsIf_load_mid (by rfl) _ _ rfl _ _ rfl _ _ (fun wz hS => unhide HR wz hS) hu rfl sz1) (hHeld) ?_
      simp only [Act.put, List.setIfInBounds_toArray, List.set_cons_zero, List.set_cons_succ]

      refine held_3 0 1 4 (by kernel_rfl) (by rfl) (by rfl) (by rfl) (fun K' hK' => ?_) (fun K' hK' => ?_) (fun K' hK' => ?_) 
      · as_aux_lemma =>
        refine if_call1 (some 48) rfl (by rfl) 41 cf_pushes (.const (.int .i64 5)) _ rfl _ rfl (pushes_x 5 (by omega) wr.drew) ?_
        rintro e wp ⟨Ap, kp, cp, rfl, sp, Np, bp⟩
        refine ⟨_, rfl, ?_⟩
        have dp := dW.trans (bp.mono dW.size)
        have SP := hide sp
        have lp := sp.len_eq
        clear sp
        refine hK'.out _ _ (dp) ?_
        clear hK' K'
        simp only [Act.put, List.setIfInBounds_toArray, List.set_cons_zero, List.set_cons_succ]
        refine held_3 1 3 4 (by kernel_rfl) (by rfl) (by rfl) (by rfl) (fun K' hK' => ?_) (fun K' hK' => ?_) (fun K' hK' => ?_) 
        · as_aux_lemma =>
          refine if_build_lit (some 49) rfl (by rfl) 30 2 [(0, .const (.int .u8 96)), (1, .const (.int .u8 2))] rfl 5 (bv [96, 2]) (run_lit2 _) (fun wx rx bx sx => ?_)
          have dx := dp.trans (bx.mono dp.size)
          have sx1 := OwnT.src_all (g := _) rx hby2 2 rfl (by unfold maxLen; omega)
          have SX := hide sx1
          clear sx1 rx
          refine hK'.out _ _ (dx) ?_
          clear hK' K'
          simp only [Act.put, List.setIfInBounds_toArray, List.set_cons_zero, List.set_cons_succ]
          refine held_two 3 4 (by kernel_rfl) (by rfl) (by rfl) (fun K' hK' => ?_) (fun K' hK' => ?_) 
          · as_aux_lemma =>
            refine if_call1 (some 51) rfl (by rfl) 42 cf_push32 (.tmp 50) _ rfl _ rfl (push32_any onesL ones_is wx) ?_
            rintro e wq ⟨Aq, kq, cq, rfl, sq, Nq, bq⟩
            refine ⟨_, rfl, ?_⟩
            have dq := dx.trans (bq.mono dx.size)
            have SQ := hide sq
            have lq := sq.len_eq
            clear sq
            refine hK'.out _ _ (dq) ?_
            clear hK' K'
            simp only [Act.put, List.setIfInBounds_toArray, List.set_cons_zero, List.set_cons_succ]
            refine held_one 4 (by kernel_rfl) (by rfl) (fun K' hK' => ?_) 
            refine if_build_lit (some 52) rfl (by rfl) 30 1 [(0, .const (.int .u8 241))] rfl 5 (bv [241]) (run_lit1 _ 241) (fun wu ru bu su => ?_)
            have du := dq.trans (bu.mono dq.size)
            have sy1 := OwnT.src_all (g := _) ru hby1 1 rfl (by unfold maxLen; omega)
            have SY := hide sy1
            clear sy1 ru
            refine hK'.out _ _ (du) ?_
            clear hK' K'
            simp only [Act.put, List.setIfInBounds_toArray, List.set_cons_zero, List.set_cons_succ]
            refine held_one 5 (by kernel_rfl) (by rfl) (fun K' hK' => ?_) 
            have zj := du.size
            refine if_call4 (some 53) rfl (by rfl) 40 cf_join (.tmp 48) (.tmp 49) (.tmp 51) (.tmp 52) _ _ _ _ rfl _ _ _ _ rfl rfl rfl rfl (join_any _ _ _ _ _ _ _ _ _ _ _ _ _ _ _ _ wu ((unhide SP).kept ((bx.trans (bq.mono bx.size)).trans (bu.mono (bx.trans (bq.mono bx.size)).size))) ((unhide SX).kept (bq.trans (bu.mono bq.size))) ((unhide SQ).kept bu) (unhide SY) (by rw [← lp]; simp) (by omega) (by rw [← lq]; decide) (by omega)) ?_
            rintro e wj ⟨Aj, kj, cj, rfl, sj, Nj, bj⟩
            refine ⟨_, rfl, ?_⟩
            have dj := du.trans (bj.mono du.size)
            have SJ := hide sj
            clear sj
            refine hK'.out _ _ (dj) ?_
            clear hK' K'
            simp only [Act.put, List.setIfInBounds_toArray, List.set_cons_zero, List.set_cons_succ]
            refine held_takeD 6 (.slice Aj kj cj) (some 7) (by rfl) (by rfl) (by kernel_rfl) (by kernel_rfl) (by kernel_rfl) (fun _ _ _ h => h) (.inl ⟨by rfl, fun _ _ => by rfl⟩) (dj) ?_
            simp only [Act.put, List.setIfInBounds_toArray, List.set_cons_zero, List.set_cons_succ]
            refine wpAnyH_done (by kernel_rfl) ?_ _
            refine NoPanic.normal ?_
            go_wp2_with fail
            go_meet
            case rel => exact ⟨Aj, kj, cj, rfl, unhide SJ, (fun x hx => by have h1 := Nj x hx; omega), dj⟩
          · as_aux_lemma =>
            refine if_build_lit (some 52) rfl (by rfl) 30 1 [(0, .const (.int .u8 241))] rfl 5 (bv [241]) (run_lit1 _ 241) (fun wu ru bu su => ?_)
            have du := dx.trans (bu.mono dx.size)
            have sy1 := OwnT.src_all (g := _) ru hby1 1 rfl (by unfold maxLen; omega)
            have SY := hide sy1
            clear sy1 ru
            refine hK'.out _ _ (du) ?_
            clear hK' K'
            simp only [Act.put, List.setIfInBounds_toArray, List.set_cons_zero, List.set_cons_succ]
            refine held_one 3 (by kernel_rfl) (by rfl) (fun K' hK' => ?_) 
            refine if_call1 (some 51) rfl (by rfl) 42 cf_push32 (.tmp 50) _ rfl _ rfl (push32_any onesL ones_is wu) ?_
            rintro e wq ⟨Aq, kq, cq, rfl, sq, Nq, bq⟩
            refine ⟨_, rfl, ?_⟩
            have dq := du.trans (bq.mono du.size)
            have SQ := hide sq
            have lq := sq.len_eq
            clear sq
            refine hK'.out _ _ (dq) ?_
            clear hK' K'
            simp only [Act.put, List.setIfInBounds_toArray, List.set_cons_zero, List.set_cons_succ]
            refine held_one 5 (by kernel_rfl) (by rfl) (fun K' hK' => ?_) 
            have zj := dq.size
            refine if_call4 (some 53) rfl (by rfl) 40 cf_join (.tmp 48) (.tmp 49) (.tmp 51) (.tmp 52) _ _ _ _ rfl _ _ _ _ rfl rfl rfl rfl (join_any _ _ _ _ _ _ _ _ _ _ _ _ _ _ _ _ wq ((unhide SP).kept ((bx.trans (bu.mono bx.size)).trans (bq.mono (bx.trans (bu.mono bx.size)).size))) ((unhide SX).kept (bu.trans (bq.mono bu.size))) (unhide SQ) ((unhide SY).kept bq) (by rw [← lp]; simp) (by omega) (by rw [← lq]; decide) (by omega)) ?_
            rintro e wj ⟨Aj, kj, cj, rfl, sj, Nj, bj⟩
            refine ⟨_, rfl, ?_⟩
            have dj := dq.trans (bj.mono dq.size)
            have SJ := hide sj
            clear sj
            refine hK'.out _ _ (dj) ?_
            clear hK' K'
            simp only [Act.put, List.setIfInBounds_toArray, List.set_cons_zero, List.set_cons_succ]
            refine held_takeD 6 (.slice Aj kj cj) (some 7) (by rfl) (by rfl) (by kernel_rfl) (by kernel_rfl) (by kernel_rfl) (fun _ _ _ h => h) (.inl ⟨by rfl, fun _ _ => by rfl⟩) (dj) ?_
            simp only [Act.put, List.setIfInBounds_toArray, List.set_cons_zero, List.set_cons_succ]
            refine wpAnyH_done (by kernel_rfl) ?_ _
            refine NoPanic.normal ?_
            go_wp2_with fail
            go_meet
            case rel => exact ⟨Aj, kj, cj, rfl, unhide SJ, (fun x hx => by have h1 := Nj x hx; omega), dj⟩
        · as_aux_lemma =>
          refine if_call1 (some 51) rfl (by rfl) 42 cf_push32 (.tmp 50) _ rfl _ rfl (push32_any onesL ones_is wp) ?_
          rintro e wq ⟨Aq, kq, cq, rfl, sq, Nq, bq⟩
          refine ⟨_, rfl, ?_⟩
          have dq := dp.trans (bq.mono dp.size)
          have SQ := hide sq
          have lq := sq.len_eq
          clear sq
          refine hK'.out _ _ (dq) ?_
          clear hK' K'
          simp only [Act.put, List.setIfInBounds_toArray, List.set_cons_zero, List.set_cons_succ]
          refine held_two 1 4 (by kernel_rfl) (by rfl) (by rfl) (fun K' hK' => ?_) (fun K' hK' => ?_) 
          · as_aux_lemma =>
            refine if_build_lit (some 49) rfl (by rfl) 30 2 [(0, .const (.int .u8 96)), (1, .const (.int .u8 2))] rfl 5 (bv [96, 2]) (run_lit2 _) (fun wx rx bx sx => ?_)
            have dx := dq.trans (bx.mono dq.size)
            have sx1 := OwnT.src_all (g := _) rx hby2 2 rfl (by unfold maxLen; omega)
            have SX := hide sx1
            clear sx1 rx
            refine hK'.out _ _ (dx) ?_
            clear hK' K'
            simp only [Act.put, List.setIfInBounds_toArray, List.set_cons_zero, List.set_cons_succ]
            refine held_one 4 (by kernel_rfl) (by rfl) (fun K' hK' => ?_) 
            refine if_build_lit (some 52) rfl (by rfl) 30 1 [(0, .const (.int .u8 241))] rfl 5 (bv [241]) (run_lit1 _ 241) (fun wu ru bu su => ?_)
            have du := dx.trans (bu.mono dx.size)
            have sy1 := OwnT.src_all (g := _) ru hby1 1 rfl (by unfold maxLen; omega)
            have SY := hide sy1
            clear sy1 ru
            refine hK'.out _ _ (du) ?_
            clear hK' K'
            simp only [Act.put, List.setIfInBounds_toArray, List.set_cons_zero, List.set_cons_succ]
            refine held_one 5 (by kernel_rfl) (by rfl) (fun K' hK' => ?_) 
            have zj := du.size
            refine if_call4 (some 53) rfl (by rfl) 40 cf_join (.tmp 48) (.tmp 49) (.tmp 51) (.tmp 52) _ _ _ _ rfl _ _ _ _ rfl rfl rfl rfl (join_any _ _ _ _ _ _ _ _ _ _ _ _ _ _ _ _ wu ((unhide SP).kept ((bq.trans (bx.mono bq.size)).trans (bu.mono (bq.trans (bx.mono bq.size)).size))) ((unhide SX).kept bu) ((unhide SQ).kept (bx.trans (bu.mono bx.size))) (unhide SY) (by rw [← lp]; simp) (by omega) (by rw [← lq]; decide) (by omega)) ?_
            rintro e wj ⟨Aj, kj, cj, rfl, sj, Nj, bj⟩
            refine ⟨_, rfl, ?_⟩
            have dj := du.trans (bj.mono du.size)
            have SJ := hide sj
            clear sj
            refine hK'.out _ _ (dj) ?_
            clear hK' K'
            simp only [Act.put, List.setIfInBounds_toArray, List.set_cons_zero, List.set_cons_succ]
            refine held_takeD 6 (.slice Aj kj cj) (some 7) (by rfl) (by rfl) (by kernel_rfl) (by kernel_rfl) (by kernel_rfl) (fun _ _ _ h => h) (.inl ⟨by rfl, fun _ _ => by rfl⟩) (dj) ?_
            simp only [Act.put, List.setIfInBounds_toArray, List.set_cons_zero, List.set_cons_succ]
            refine wpAnyH_done (by kernel_rfl) ?_ _
            refine NoPanic.normal ?_
            go_wp2_with fail
            go_meet
            case rel => exact ⟨Aj, kj, cj, rfl, unhide SJ, (fun x hx => by have h1 := Nj x hx; omega), dj⟩
          · as_aux_lemma =>
            refine if_build_lit (some 52) rfl (by rfl) 30 1 [(0, .const (.int .u8 241))] rfl 5 (bv [241]) (run_lit1 _ 241) (fun wu ru bu su => ?_)
            have du := dq.trans (bu.mono dq.size)
            have sy1 := OwnT.src_all (g := _) ru hby1 1 rfl (by unfold maxLen; omega)
            have SY := hide sy1
            clear sy1 ru
            refine hK'.out _ _ (du) ?_
            clear hK' K'
            simp only [Act.put, List.setIfInBounds_toArray, List.set_cons_zero, List.set_cons_succ]
            refine held_one 1 (by kernel_rfl) (by rfl) (fun K' hK' => ?_) 
            refine if_build_lit (some 49) rfl (by rfl) 30 2 [(0, .const (.int .u8 96)), (1, .const (.int .u8 2))] rfl 5 (bv [96, 2]) (run_lit2 _) (fun wx rx bx sx => ?_)
            have dx := du.trans (bx.mono du.size)
            have sx1 := OwnT.src_all (g := _) rx hby2 2 rfl (by unfold maxLen; omega)
            have SX := hide sx1
            clear sx1 rx
            refine hK'.out _ _ (dx) ?_
            clear hK' K'
            simp only [Act.put, List.setIfInBounds_toArray, List.set_cons_zero, List.set_cons_succ]
            refine held_one 5 (by kernel_rfl) (by rfl) (fun K' hK' => ?_) 
            have zj := dx.size
            refine if_call4 (some 53) rfl (by rfl) 40 cf_join (.tmp 48) (.tmp 49) (.tmp 51) (.tmp 52) _ _ _ _ rfl _ _ _ _ rfl rfl rfl rfl (join_any _ _ _ _ _ _ _ _ _ _ _ _ _ _ _ _ wx ((unhide SP).kept ((bq.trans (bu.mono bq.size)).trans (bx.mono (bq.trans (bu.mono bq.size)).size))) (unhide SX) ((unhide SQ).kept (bu.trans (bx.mono bu.size))) ((unhide SY).kept bx) (by rw [← lp]; simp) (by omega) (by rw [← lq]; decide) (by omega)) ?_
            rintro e wj ⟨Aj, kj, cj, rfl, sj, Nj, bj⟩
            refine ⟨_, rfl, ?_⟩
            have dj := dx.trans (bj.mono dx.size)
            have SJ := hide sj
            clear sj
            refine hK'.out _ _ (dj) ?_
            clear hK' K'
            simp only [Act.put, List.setIfInBounds_toArray, List.set_cons_zero, List.set_cons_succ]
            refine held_takeD 6 (.slice Aj kj cj) (some 7) (by rfl) (by rfl) (by kernel_rfl) (by kernel_rfl) (by kernel_rfl) (fun _ _ _ h => h) (.inl ⟨by rfl, fun _ _ => by rfl⟩) (dj) ?_
            simp only [Act.put, List.setIfInBounds_toArray, List.set_cons_zero, List.set_cons_succ]
            refine wpAnyH_done (by kernel_rfl) ?_ _
            refine NoPanic.normal ?_
            go_wp2_with fail
            go_meet
            case rel => exact ⟨Aj, kj, cj, rfl, unhide SJ, (fun x hx => by have h1 := Nj x hx; omega), dj⟩
        · as_aux_lemma =>
          refine if_build_lit (some 52) rfl (by rfl) 30 1 [(0, .const (.int .u8 241))] rfl 5 (bv [241]) (run_lit1 _ 241) (fun wu ru bu su => ?_)
          have du := dp.trans (bu.mono dp.size)
          have sy1 := OwnT.src_all (g := _) ru hby1 1 rfl (by unfold maxLen; omega)
          have SY := hide sy1
          clear sy1 ru
          refine hK'.out _ _ (du) ?_
          clear hK' K'
          simp only [Act.put, List.setIfInBounds_toArray, List.set_cons_zero, List.set_cons_succ]
          refine held_two 1 3 (by kernel_rfl) (by rfl) (by rfl) (fun K' hK' => ?_) (fun K' hK' => ?_) 
          · as_aux_lemma =>
            refine if_build_lit (some 49) rfl (by rfl) 30 2 [(0, .const (.int .u8 96)), (1, .const (.int .u8 2))] rfl 5 (bv [96, 2]) (run_lit2 _) (fun wx rx bx sx => ?_)
            have dx := du.trans (bx.mono du.size)
            have sx1 := OwnT.src_all (g := _) rx hby2 2 rfl (by unfold maxLen; omega)
            have SX := hide sx1
            clear sx1 rx
            refine hK'.out _ _ (dx) ?_
            clear hK' K'
            simp only [Act.put, List.setIfInBounds_toArray, List.set_cons_zero, List.set_cons_succ]
            refine held_one 3 (by kernel_rfl) (by rfl) (fun K' hK' => ?_) 
            refine if_call1 (some 51) rfl (by rfl) 42 cf_push32 (.tmp 50) _ rfl _ rfl (push32_any onesL ones_is wx) ?_
            rintro e wq ⟨Aq, kq, cq, rfl, sq, Nq, bq⟩
            refine ⟨_, rfl, ?_⟩
            have dq := dx.trans (bq.mono dx.size)
            have SQ := hide sq
            have lq := sq.len_eq
            clear sq
            refine hK'.out _ _ (dq) ?_
            clear hK' K'
            simp only [Act.put, List.setIfInBounds_toArray, List.set_cons_zero, List.set_cons_succ]
            refine held_one 5 (by kernel_rfl) (by rfl) (fun K' hK' => ?_) 
            have zj := dq.size
            refine if_call4 (some 53) rfl (by rfl) 40 cf_join (.tmp 48) (.tmp 49) (.tmp 51) (.tmp 52) _ _ _ _ rfl _ _ _ _ rfl rfl rfl rfl (join_any _ _ _ _ _ _ _ _ _ _ _ _ _ _ _ _ wq ((unhide SP).kept ((bu.trans (bx.mono bu.size)).trans (bq.mono (bu.trans (bx.mono bu.size)).size))) ((unhide SX).kept bq) (unhide SQ) ((unhide SY).kept (bx.trans (bq.mono bx.size))) (by rw [← lp]; simp) (by omega) (by rw [← lq]; decide) (by omega)) ?_
            rintro e wj ⟨Aj, kj, cj, rfl, sj, Nj, bj⟩
            refine ⟨_, rfl, ?_⟩
            have dj := dq.trans (bj.mono dq.size)
            have SJ := hide sj
            clear sj
            refine hK'.out _ _ (dj) ?_
            clear hK' K'
            simp only [Act.put, List.setIfInBounds_toArray, List.set_cons_zero, List.set_cons_succ]
            refine held_takeD 6 (.slice Aj kj cj) (some 7) (by rfl) (by rfl) (by kernel_rfl) (by kernel_rfl) (by kernel_rfl) (fun _ _ _ h => h) (.inl ⟨by rfl, fun _ _ => by rfl⟩) (dj) ?_
            simp only [Act.put, List.setIfInBounds_toArray, List.set_cons_zero, List.set_cons_succ]
            refine wpAnyH_done (by kernel_rfl) ?_ _
            refine NoPanic.normal ?_
            go_wp2_with fail
            go_meet
            case rel => exact ⟨Aj, kj, cj, rfl, unhide SJ, (fun x hx => by have h1 := Nj x hx; omega), dj⟩
          · as_aux_lemma =>
            refine if_call1 (some 51) rfl (by rfl) 42 cf_push32 (.tmp 50) _ rfl _ rfl (push32_any onesL ones_is wu) ?_
            rintro e wq ⟨Aq, kq, cq, rfl, sq, Nq, bq⟩
            refine ⟨_, rfl, ?_⟩
            have dq := du.trans (bq.mono du.size)
            have SQ := hide sq
            have lq := sq.len_eq
            clear sq
            refine hK'.out _ _ (dq) ?_
            clear hK' K'
            simp only [Act.put, List.setIfInBounds_toArray, List.set_cons_zero, List.set_cons_succ]
            refine held_one 1 (by kernel_rfl) (by rfl) (fun K' hK' => ?_) 
            refine if_build_lit (some 49) rfl (by rfl) 30 2 [(0, .const (.int .u8 96)), (1, .const (.int .u8 2))] rfl 5 (bv [96, 2]) (run_lit2 _) (fun wx rx bx sx => ?_)
            have dx := dq.trans (bx.mono dq.size)
            have sx1 := OwnT.src_all (g := _) rx hby2 2 rfl (by unfold maxLen; omega)
            have SX := hide sx1
            clear sx1 rx
            refine hK'.out _ _ (dx) ?_
            clear hK' K'
            simp only [Act.put, List.setIfInBounds_toArray, List.set_cons_zero, List.set_cons_succ]
            refine held_one 5 (by kernel_rfl) (by rfl) (fun K' hK' => ?_) 
            have zj := dx.size
            refine if_call4 (some 53) rfl (by rfl) 40 cf_join (.tmp 48) (.tmp 49) (.tmp 51) (.tmp 52) _ _ _ _ rfl _ _ _ _ rfl rfl rfl rfl (join_any _ _ _ _ _ _ _ _ _ _ _ _ _ _ _ _ wx ((unhide SP).kept ((bu.trans (bq.mono bu.size)).trans (bx.mono (bu.trans (bq.mono bu.size)).size))) (unhide SX) ((unhide SQ).kept bx) ((unhide SY).kept (bq.trans (bx.mono bq.size))) (by rw [← lp]; simp) (by omega) (by rw [← lq]; decide) (by omega)) ?_
            rintro e wj ⟨Aj, kj, cj, rfl, sj, Nj, bj⟩
            refine ⟨_, rfl, ?_⟩
            have dj := dx.trans (bj.mono dx.size)
            have SJ := hide sj
            clear sj
            refine hK'.out _ _ (dj) ?_
            clear hK' K'
            simp only [Act.put, List.setIfInBounds_toArray, List.set_cons_zero, List.set_cons_succ]
            refine held_takeD 6 (.slice Aj kj cj) (some 7) (by rfl) (by rfl) (by kernel_rfl) (by kernel_rfl) (by kernel_rfl) (fun _ _ _ h => h) (.inl ⟨by rfl, fun _ _ => by rfl⟩) (dj) ?_
            simp only [Act.put, List.setIfInBounds_toArray, List.set_cons_zero, List.set_cons_succ]
            refine wpAnyH_done (by kernel_rfl) ?_ _
            refine NoPanic.normal ?_
            go_wp2_with fail
            go_meet
            case rel => exact ⟨Aj, kj, cj, rfl, unhide SJ, (fun x hx => by have h1 := Nj x hx; omega), dj⟩
      · as_aux_lemma =>
        refine if_build_lit (some 49) rfl (by rfl) 30 2 [(0, .const (.int .u8 96)), (1, .const (.int .u8 2))] rfl 5 (bv [96, 2]) (run_lit2 _) (fun wx rx bx sx => ?_)
        have dx := dW.trans (bx.mono dW.size)
        have sx1 := OwnT.src_all (g := _) rx hby2 2 rfl (by unfold maxLen; omega)
        have SX := hide sx1
        clear sx1 rx
        refine hK'.out _ _ (dx) ?_
        clear hK' K'
        simp only [Act.put, List.setIfInBounds_toArray, List.set_cons_zero, List.set_cons_succ]
        refine held_two 0 4 (by kernel_rfl) (by rfl) (by rfl) (fun K' hK' => ?_) (fun K' hK' => ?_) 
        · as_aux_lemma =>
          refine if_call1 (some 48) rfl (by rfl) 41 cf_pushes (.const (.int .i64 5)) _ rfl _ rfl (pushes_x 5 (by omega) wx) ?_
          rintro e wp ⟨Ap, kp, cp, rfl, sp, Np, bp⟩
          refine ⟨_, rfl, ?_⟩
          have dp := dx.trans (bp.mono dx.size)
          have SP := hide sp
          have lp := sp.len_eq
          clear sp
          refine hK'.out _ _ (dp) ?_
          clear hK' K'
          simp only [Act.put, List.setIfInBounds_toArray, List.set_cons_zero, List.set_cons_succ]
          refine held_two 3 4 (by kernel_rfl) (by rfl) (by rfl) (fun K' hK' => ?_) (fun K' hK' => ?_) 
          · as_aux_lemma =>
            refine if_call1 (some 51) rfl (by rfl) 42 cf_push32 (.tmp 50) _ rfl _ rfl (push32_any onesL ones_is wp) ?_
            rintro e wq ⟨Aq, kq, cq, rfl, sq, Nq, bq⟩
            refine ⟨_, rfl, ?_⟩
            have dq := dp.trans (bq.mono dp.size)
            have SQ := hide sq
            have lq := sq.len_eq
            clear sq
            refine hK'.out _ _ (dq) ?_
            clear hK' K'
            simp only [Act.put, List.setIfInBounds_toArray, List.set_cons_zero, List.set_cons_succ]
            refine held_one 4 (by kernel_rfl) (by rfl) (fun K' hK' => ?_) 
            refine if_build_lit (some 52) rfl (by rfl) 30 1 [(0, .const (.int .u8 241))] rfl 5 (bv [241]) (run_lit1 _ 241) (fun wu ru bu su => ?_)
            have du := dq.trans (bu.mono dq.size)
            have sy1 := OwnT.src_all (g := _) ru hby1 1 rfl (by unfold maxLen; omega)
            have SY := hide sy1
            clear sy1 ru
            refine hK'.out _ _ (du) ?_
            clear hK' K'
            simp only [Act.put, List.setIfInBounds_toArray, List.set_cons_zero, List.set_cons_succ]
            refine held_one 5 (by kernel_rfl) (by rfl) (fun K' hK' => ?_) 
            have zj := du.size
            refine if_call4 (some 53) rfl (by rfl) 40 cf_join (.tmp 48) (.tmp 49) (.tmp 51) (.tmp 52) _ _ _ _ rfl _ _ _ _ rfl rfl rfl rfl (join_any _ _ _ _ _ _ _ _ _ _ _ _ _ _ _ _ wu ((unhide SP).kept (bq.trans (bu.mono bq.size))) ((unhide SX).kept ((bp.trans (bq.mono bp.size)).trans (bu.mono (bp.trans (bq.mono bp.size)).size))) ((unhide SQ).kept bu) (unhide SY) (by rw [← lp]; simp) (by omega) (by rw [← lq]; decide) (by omega)) ?_
            rintro e wj ⟨Aj, kj, cj, rfl, sj, Nj, bj⟩
            refine ⟨_, rfl, ?_⟩
            have dj := du.trans (bj.mono du.size)
            have SJ := hide sj
            clear sj
            refine hK'.out _ _ (dj) ?_
            clear hK' K'
            simp only [Act.put, List.setIfInBounds_toArray, List.set_cons_zero, List.set_cons_succ]
            refine held_takeD 6 (.slice Aj kj cj) (some 7) (by rfl) (by rfl) (by kernel_rfl) (by kernel_rfl) (by kernel_rfl) (fun _ _ _ h => h) (.inl ⟨by rfl, fun _ _ => by rfl⟩) (dj) ?_
            simp only [Act.put, List.setIfInBounds_toArray, List.set_cons_zero, List.set_cons_succ]
            refine wpAnyH_done (by kernel_rfl) ?_ _
            refine NoPanic.normal ?_
            go_wp2_with fail
            go_meet
            case rel => exact ⟨Aj, kj, cj, rfl, unhide SJ, (fun x hx => by have h1 := Nj x hx; omega), dj⟩
          · as_aux_lemma =>
            refine if_build_lit (some 52) rfl (by rfl) 30 1 [(0, .const (.int .u8 241))] rfl 5 (bv [241]) (run_lit1 _ 241) (fun wu ru bu su => ?_)
            have du := dp.trans (bu.mono dp.size)
            have sy1 := OwnT.src_all (g := _) ru hby1 1 rfl (by unfold maxLen; omega)
            have SY := hide sy1
            clear sy1 ru
            refine hK'.out _ _ (du) ?_
            clear hK' K'
            simp only [Act.put, List.setIfInBounds_toArray, List.set_cons_zero, List.set_cons_succ]
            refine held_one 3 (by kernel_rfl) (by rfl) (fun K' hK' => ?_) 
            refine if_call1 (some 51) rfl (by rfl) 42 cf_push32 (.tmp 50) _ rfl _ rfl (push32_any onesL ones_is wu) ?_
            rintro e wq ⟨Aq, kq, cq, rfl, sq, Nq, bq⟩
            refine ⟨_, rfl, ?_⟩
            have dq := du.trans (bq.mono du.size)
            have SQ := hide sq
            have lq := sq.len_eq
            clear sq
            refine hK'.out _ _ (dq) ?_
            clear hK' K'
            simp only [Act.put, List.setIfInBounds_toArray, List.set_cons_zero, List.set_cons_succ]
            refine held_one 5 (by kernel_rfl) (by rfl) (fun K' hK' => ?_) 
            have zj := dq.size
            refine if_call4 (some 53) rfl (by rfl) 40 cf_join (.tmp 48) (.tmp 49) (.tmp 51) (.tmp 52) _ _ _ _ rfl _ _ _ _ rfl rfl rfl rfl (join_any _ _ _ _ _ _ _ _ _ _ _ _ _ _ _ _ wq ((unhide SP).kept (bu.trans (bq.mono bu.size))) ((unhide SX).kept ((bp.trans (bu.mono bp.size)).trans (bq.mono (bp.trans (bu.mono bp.size)).size))) (unhide SQ) ((unhide SY).kept bq) (by rw [← lp]; simp) (by omega) (by rw [← lq]; decide) (by omega)) ?_
            rintro e wj ⟨Aj, kj, cj, rfl, sj, Nj, bj⟩
            refine ⟨_, rfl, ?_⟩
            have dj := dq.trans (bj.mono dq.size)
            have SJ := hide sj
            clear sj
            refine hK'.out _ _ (dj) ?_
            clear hK' K'
            simp only [Act.put, List.setIfInBounds_toArray, List.set_cons_zero, List.set_cons_succ]
            refine held_takeD 6 (.slice Aj kj cj) (some 7) (by rfl) (by rfl) (by kernel_rfl) (by kernel_rfl) (by kernel_rfl) (fun _ _ _ h => h) (.inl ⟨by rfl, fun _ _ => by rfl⟩) (dj) ?_
            simp only [Act.put, List.setIfInBounds_toArray, List.set_cons_zero, List.set_cons_succ]
            refine wpAnyH_done (by kernel_rfl) ?_ _
            refine NoPanic.normal ?_
            go_wp2_with fail
            go_meet
            case rel => exact ⟨Aj, kj, cj, rfl, unhide SJ, (fun x hx => by have h1 := Nj x hx; omega), dj⟩
        · as_aux_lemma =>
          refine if_build_lit (some 52) rfl (by rfl) 30 1 [(0, .const (.int .u8 241))] rfl 5 (bv [241]) (run_lit1 _ 241) (fun wu ru bu su => ?_)
          have du := dx.trans (bu.mono dx.size)
          have sy1 := OwnT.src_all (g := _) ru hby1 1 rfl (by unfold maxLen; omega)
          have SY := hide sy1
          clear sy1 ru
          refine hK'.out _ _ (du) ?_
          clear hK' K'
          simp only [Act.put, List.setIfInBounds_toArray, List.set_cons_zero, List.set_cons_succ]
          refine held_one 0 (by kernel_rfl) (by rfl) (fun K' hK' => ?_) 
          refine if_call1 (some 48) rfl (by rfl) 41 cf_pushes (.const (.int .i64 5)) _ rfl _ rfl (pushes_x 5 (by omega) wu) ?_
          rintro e wp ⟨Ap, kp, cp, rfl, sp, Np, bp⟩
          refine ⟨_, rfl, ?_⟩
          have dp := du.trans (bp.mono du.size)
          have SP := hide sp
          have lp := sp.len_eq
          clear sp
          refine hK'.out _ _ (dp) ?_
          clear hK' K'
          simp only [Act.put, List.setIfInBounds_toArray, List.set_cons_zero, List.set_cons_succ]
          refine held_one 3 (by kernel_rfl) (by rfl) (fun K' hK' => ?_) 
          refine if_call1 (some 51) rfl (by rfl) 42 cf_push32 (.tmp 50) _ rfl _ rfl (push32_any onesL ones_is wp) ?_
          rintro e wq ⟨Aq, kq, cq, rfl, sq, Nq, bq⟩
          refine ⟨_, rfl, ?_⟩
          have dq := dp.trans (bq.mono dp.size)
          have SQ := hide sq
          have lq := sq.len_eq
          clear sq
          refine hK'.out _ _ (dq) ?_
          clear hK' K'
          simp only [Act.put, List.setIfInBounds_toArray, List.set_cons_zero, List.set_cons_succ]
          refine held_one 5 (by kernel_rfl) (by rfl) (fun K' hK' => ?_) 
          have zj := dq.size
          refine if_call4 (some 53) rfl (by rfl) 40 cf_join (.tmp 48) (.tmp 49) (.tmp 51) (.tmp 52) _ _ _ _ rfl _ _ _ _ rfl rfl rfl rfl (join_any _ _ _ _ _ _ _ _ _ _ _ _ _ _ _ _ wq ((unhide SP).kept bq) ((unhide SX).kept ((bu.trans (bp.mono bu.size)).trans (bq.mono (bu.trans (bp.mono bu.size)).size))) (unhide SQ) ((unhide SY).kept (bp.trans (bq.mono bp.size))) (by rw [← lp]; simp) (by omega) (by rw [← lq]; decide) (by omega)) ?_
          rintro e wj ⟨Aj, kj, cj, rfl, sj, Nj, bj⟩
          refine ⟨_, rfl, ?_⟩
          have dj := dq.trans (bj.mono dq.size)
          have SJ := hide sj
          clear sj
          refine hK'.out _ _ (dj) ?_
          clear hK' K'
          simp only [Act.put, List.setIfInBounds_toArray, List.set_cons_zero, List.set_cons_succ]
          refine held_takeD 6 (.slice Aj kj cj) (some 7) (by rfl) (by rfl) (by kernel_rfl) (by kernel_rfl) (by kernel_rfl) (fun _ _ _ h => h) (.inl ⟨by rfl, fun _ _ => by rfl⟩) (dj) ?_
          simp only [Act.put, List.setIfInBounds_toArray, List.set_cons_zero, List.set_cons_succ]
          refine wpAnyH_done (by kernel_rfl) ?_ _
          refine NoPanic.normal ?_
          go_wp2_with fail
          go_meet
          case rel => exact ⟨Aj, kj, cj, rfl, unhide SJ, (fun x hx => by have h1 := Nj x hx; omega), dj⟩
      · as_aux_lemma =>
        refine if_build_lit (some 52) rfl (by rfl) 30 1 [(0, .const (.int .u8 241))] rfl 5 (bv [241]) (run_lit1 _ 241) (fun wu ru bu su => ?_)
        have du := dW.trans (bu.mono dW.size)
        have sy1 := OwnT.src_all (g := _) ru hby1 1 rfl (by unfold maxLen; omega)
        have SY := hide sy1
        clear sy1 ru
        refine hK'.out _ _ (du) ?_
        clear hK' K'
        simp only [Act.put, List.setIfInBounds_toArray, List.set_cons_zero, List.set_cons_succ]
        refine held_two 0 1 (by kernel_rfl) (by rfl) (by rfl) (fun K' hK' => ?_) (fun K' hK' => ?_) 
        · as_aux_lemma =>
          refine if_call1 (some 48) rfl (by rfl) 41 cf_pushes (.const (.int .i64 5)) _ rfl _ rfl (pushes_x 5 (by omega) wu) ?_
          rintro e wp ⟨Ap, kp, cp, rfl, sp, Np, bp⟩
          refine ⟨_, rfl, ?_⟩
          have dp := du.trans (bp.mono du.size)
          have SP := hide sp
          have lp := sp.len_eq
          clear sp
          refine hK'.out _ _ (dp) ?_
          clear hK' K'
          simp only [Act.put, List.setIfInBounds_toArray, List.set_cons_zero, List.set_cons_succ]
          refine held_two 1 3 (by kernel_rfl) (by rfl) (by rfl) (fun K' hK' => ?_) (fun K' hK' => ?_) 
          · as_aux_lemma =>
            refine if_build_lit (some 49) rfl (by rfl) 30 2 [(0, .const (.int .u8 96)), (1, .const (.int .u8 2))] rfl 5 (bv [96, 2]) (run_lit2 _) (fun wx rx bx sx => ?_)
            have dx := dp.trans (bx.mono dp.size)
            have sx1 := OwnT.src_all (g := _) rx hby2 2 rfl (by unfold maxLen; omega)
            have SX := hide sx1
            clear sx1 rx
            refine hK'.out _ _ (dx) ?_
            clear hK' K'
            simp only [Act.put, List.setIfInBounds_toArray, List.set_cons_zero, List.set_cons_succ]
            refine held_one 3 (by kernel_rfl) (by rfl) (fun K' hK' => ?_) 
            refine if_call1 (some 51) rfl (by rfl) 42 cf_push32 (.tmp 50) _ rfl _ rfl (push32_any onesL ones_is wx) ?_
            rintro e wq ⟨Aq, kq, cq, rfl, sq, Nq, bq⟩
            refine ⟨_, rfl, ?_⟩
            have dq := dx.trans (bq.mono dx.size)
            have SQ := hide sq
            have lq := sq.len_eq
            clear sq
            refine hK'.out _ _ (dq) ?_
            clear hK' K'
            simp only [Act.put, List.setIfInBounds_toArray, List.set_cons_zero, List.set_cons_succ]
            refine held_one 5 (by kernel_rfl) (by rfl) (fun K' hK' => ?_) 
            have zj := dq.size
            refine if_call4 (some 53) rfl (by rfl) 40 cf_join (.tmp 48) (.tmp 49) (.tmp 51) (.tmp 52) _ _ _ _ rfl _ _ _ _ rfl rfl rfl rfl (join_any _ _ _ _ _ _ _ _ _ _ _ _ _ _ _ _ wq ((unhide SP).kept (bx.trans (bq.mono bx.size))) ((unhide SX).kept bq) (unhide SQ) ((unhide SY).kept ((bp.trans (bx.mono bp.size)).trans (bq.mono (bp.trans (bx.mono bp.size)).size))) (by rw [← lp]; simp) (by omega) (by rw [← lq]; decide) (by omega)) ?_
            rintro e wj ⟨Aj, kj, cj, rfl, sj, Nj, bj⟩
            refine ⟨_, rfl, ?_⟩
            have dj := dq.trans (bj.mono dq.size)
            have SJ := hide sj
            clear sj
            refine hK'.out _ _ (dj) ?_
            clear hK' K'
            simp only [Act.put, List.setIfInBounds_toArray, List.set_cons_zero, List.set_cons_succ]
            refine held_takeD 6 (.slice Aj kj cj) (some 7) (by rfl) (by rfl) (by kernel_rfl) (by kernel_rfl) (by kernel_rfl) (fun _ _ _ h => h) (.inl ⟨by rfl, fun _ _ => by rfl⟩) (dj) ?_
            simp only [Act.put, List.setIfInBounds_toArray, List.set_cons_zero, List.set_cons_succ]
            refine wpAnyH_done (by kernel_rfl) ?_ _
            refine NoPanic.normal ?_
            go_wp2_with fail
            go_meet
            case rel => exact ⟨Aj, kj, cj, rfl, unhide SJ, (fun x hx => by have h1 := Nj x hx; omega), dj⟩
          · as_aux_lemma =>
            refine if_call1 (some 51) rfl (by rfl) 42 cf_push32 (.tmp 50) _ rfl _ rfl (push32_any onesL ones_is wp) ?_
            rintro e wq ⟨Aq, kq, cq, rfl, sq, Nq, bq⟩
            refine ⟨_, rfl, ?_⟩
            have dq := dp.trans (bq.mono dp.size)
            have SQ := hide sq
            have lq := sq.len_eq
            clear sq
            refine hK'.out _ _ (dq) ?_
            clear hK' K'
            simp only [Act.put, List.setIfInBounds_toArray, List.set_cons_zero, List.set_cons_succ]
            refine held_one 1 (by kernel_rfl) (by rfl) (fun K' hK' => ?_) 
            refine if_build_lit (some 49) rfl (by rfl) 30 2 [(0, .const (.int .u8 96)), (1, .const (.int .u8 2))] rfl 5 (bv [96, 2]) (run_lit2 _) (fun wx rx bx sx => ?_)
            have dx := dq.trans (bx.mono dq.size)
            have sx1 := OwnT.src_all (g := _) rx hby2 2 rfl (by unfold maxLen; omega)
            have SX := hide sx1
            clear sx1 rx
            refine hK'.out _ _ (dx) ?_
            clear hK' K'
            simp only [Act.put, List.setIfInBounds_toArray, List.set_cons_zero, List.set_cons_succ]
            refine held_one 5 (by kernel_rfl) (by rfl) (fun K' hK' => ?_) 
            have zj := dx.size
            refine if_call4 (some 53) rfl (by rfl) 40 cf_join (.tmp 48) (.tmp 49) (.tmp 51) (.tmp 52) _ _ _ _ rfl _ _ _ _ rfl rfl rfl rfl (join_any _ _ _ _ _ _ _ _ _ _ _ _ _ _ _ _ wx ((unhide SP).kept (bq.trans (bx.mono bq.size))) (unhide SX) ((unhide SQ).kept bx) ((unhide SY).kept ((bp.trans (bq.mono bp.size)).trans (bx.mono (bp.trans (bq.mono bp.size)).size))) (by rw [← lp]; simp) (by omega) (by rw [← lq]; decide) (by omega)) ?_
            rintro e wj ⟨Aj, kj, cj, rfl, sj, Nj, bj⟩
            refine ⟨_, rfl, ?_⟩
            have dj := dx.trans (bj.mono dx.size)
            have SJ := hide sj
            clear sj
            refine hK'.out _ _ (dj) ?_
            clear hK' K'
            simp only [Act.put, List.setIfInBounds_toArray, List.set_cons_zero, List.set_cons_succ]
            refine held_takeD 6 (.slice Aj kj cj) (some 7) (by rfl) (by rfl) (by kernel_rfl) (by kernel_rfl) (by kernel_rfl) (fun _ _ _ h => h) (.inl ⟨by rfl, fun _ _ => by rfl⟩) (dj) ?_
            simp only [Act.put, List.setIfInBounds_toArray, List.set_cons_zero, List.set_cons_succ]
            refine wpAnyH_done (by kernel_rfl) ?_ _
            refine NoPanic.normal ?_
            go_wp2_with fail
            go_meet
            case rel => exact ⟨Aj, kj, cj, rfl, unhide SJ, (fun x hx => by have h1 := Nj x hx; omega), dj⟩
        · as_aux_lemma =>
          refine if_build_lit (some 49) rfl (by rfl) 30 2 [(0, .const (.int .u8 96)), (1, .const (.int .u8 2))] rfl 5 (bv [96, 2]) (run_lit2 _) (fun wx rx bx sx => ?_)
          have dx := du.trans (bx.mono du.size)
          have sx1 := OwnT.src_all (g := _) rx hby2 2 rfl (by unfold maxLen; omega)
          have SX := hide sx1
          clear sx1 rx
          refine hK'.out _ _ (dx) ?_
          clear hK' K'
          simp only [Act.put, List.setIfInBounds_toArray, List.set_cons_zero, List.set_cons_succ]
          refine held_one 0 (by kernel_rfl) (by rfl) (fun K' hK' => ?_) 
          refine if_call1 (some 48) rfl (by rfl) 41 cf_pushes (.const (.int .i64 5)) _ rfl _ rfl (pushes_x 5 (by omega) wx) ?_
          rintro e wp ⟨Ap, kp, cp, rfl, sp, Np, bp⟩
          refine ⟨_, rfl, ?_⟩
          have dp := dx.trans (bp.mono dx.size)
          have SP := hide sp
          have lp := sp.len_eq
          clear sp
          refine hK'.out _ _ (dp) ?_
          clear hK' K'
          simp only [Act.put, List.setIfInBounds_toArray, List.set_cons_zero, List.set_cons_succ]
          refine held_one 3 (by kernel_rfl) (by rfl) (fun K' hK' => ?_) 
          refine if_call1 (some 51) rfl (by rfl) 42 cf_push32 (.tmp 50) _ rfl _ rfl (push32_any onesL ones_is wp) ?_
          rintro e wq ⟨Aq, kq, cq, rfl, sq, Nq, bq⟩
          refine ⟨_, rfl, ?_⟩
          have dq := dp.trans (bq.mono dp.size)
          have SQ := hide sq
          have lq := sq.len_eq
          clear sq
          refine hK'.out _ _ (dq) ?_
          clear hK' K'
          simp only [Act.put, List.setIfInBounds_toArray, List.set_cons_zero, List.set_cons_succ]
          refine held_one 5 (by kernel_rfl) (by rfl) (fun K' hK' => ?_) 
          have zj := dq.size
          refine if_call4 (some 53) rfl (by rfl) 40 cf_join (.tmp 48) (.tmp 49) (.tmp 51) (.tmp 52) _ _ _ _ rfl _ _ _ _ rfl rfl rfl rfl (join_any _ _ _ _ _ _ _ _ _ _ _ _ _ _ _ _ wq ((unhide SP).kept bq) ((unhide SX).kept (bp.trans (bq.mono bp.size))) (unhide SQ) ((unhide SY).kept ((bx.trans (bp.mono bx.size)).trans (bq.mono (bx.trans (bp.mono bx.size)).size))) (by rw [← lp]; simp) (by omega) (by rw [← lq]; decide) (by omega)) ?_
          rintro e wj ⟨Aj, kj, cj, rfl, sj, Nj, bj⟩
          refine ⟨_, rfl, ?_⟩
          have dj := dq.trans (bj.mono dq.size)
          have SJ := hide sj
          clear sj
          refine hK'.out _ _ (dj) ?_
          clear hK' K'
          simp only [Act.put, List.setIfInBounds_toArray, List.set_cons_zero, List.set_cons_succ]
          refine held_takeD 6 (.slice Aj kj cj) (some 7) (by rfl) (by rfl) (by kernel_rfl) (by kernel_rfl) (by kernel_rfl) (fun _ _ _ h => h) (.inl ⟨by rfl, fun _ _ => by rfl⟩) (dj) ?_
          simp only [Act.put, List.setIfInBounds_toArray, List.set_cons_zero, List.set_cons_succ]
          refine wpAnyH_done (by kernel_rfl) ?_ _
          refine NoPanic.normal ?_
          go_wp2_with fail
          go_meet
          case rel => exact ⟨Aj, kj, cj, rfl, unhide SJ, (fun x hx => by have h1 := Nj x hx; omega), dj⟩

end Go.Proofs.YgcsakGreat
