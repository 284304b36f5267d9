/-
  law: aluProgram.
-/
import Derived.Test.YgcsakGreatLwB
import Derived.Test.YgcsakGreatLevA
namespace Go.Proofs.YgcsakGreat
set_option linter.unusedVariables false
set_option linter.unusedSimpArgs false
set_option maxRecDepth 100000
open Go.RowKit

theorem cf_push32 (w : World) (vs : Array Value) : (callFunc 42 vs).run Sakg.prog w = .ok (.enter 42 vs) w := by kernel_rfl
theorem cf_join (w : World) (vs : Array Value) : (callFunc 40 vs).run Sakg.prog w = .ok (.enter 40 vs) w := by kernel_rfl
/-- a call in a region that draws its order -/
theorem if_call1 {ops : Array Oper} {o : Oper} {a : Act} {w : World} {K : Act → World → Prop} {Q : Exit → Act → World → Prop} (d : Option Tmp) (hd : o.dst = d) (hw : Region.wanted o (yielded ops a.tmps) = true) (fn : Nat) (hcf : ∀ w vs, (callFunc fn vs).run Sakg.prog w = .ok (.enter fn vs) w) (x : Operand) (t : TypeId) (ho : o.op = .call { callee := .value (.func fn), args := #[x], argTypes := #[t] })
    (v : Value) (hv : a.eval x = v) {P : Ending → World → Prop} (hc : Calls Sakg.prog fn #[v] w P) (h : ∀ e w', P e w' → ∃ r, e = .returned r ∧ K (a.put d r) w') :
    if Region.wanted o (yielded ops a.tmps) = true then Oper.wp Sakg.prog o a w K Q else K (a.put o.dst undef) w := by
  rw [if_pos hw]
  subst hd
  unfold Oper.wp
  have hrun : (execOp a.eval o).run Sakg.prog w = .ok (.enter fn #[v]) w := by
    have hf : a.eval (.func fn) = .func (.func fn) #[] #[] := rfl
    simp [execOp, ho, hv, hf, resolve, invoke, Deferred.ofValue, hcf]
  rw [hrun, Oper.upon_enter]
  exact hc.mono (fun e w' hp => by obtain ⟨r, rfl, hk⟩ := h e w' hp; exact hk)
theorem if_call4 {ops : Array Oper} {o : Oper} {a : Act} {w : World} {K : Act → World → Prop} {Q : Exit → Act → World → Prop} (d : Option Tmp) (hd : o.dst = d) (hw : Region.wanted o (yielded ops a.tmps) = true) (fn : Nat) (hcf : ∀ w vs, (callFunc fn vs).run Sakg.prog w = .ok (.enter fn vs) w) (x1 x2 x3 x4 : Operand) (t1 t2 t3 t4 : TypeId) (ho : o.op = .call { callee := .value (.func fn), args := #[x1, x2, x3, x4], argTypes := #[t1, t2, t3, t4] })
    (v1 v2 v3 v4 : Value) (hv1 : a.eval x1 = v1) (hv2 : a.eval x2 = v2) (hv3 : a.eval x3 = v3) (hv4 : a.eval x4 = v4) {P : Ending → World → Prop} (hc : Calls Sakg.prog fn #[v1, v2, v3, v4] w P) (h : ∀ e w', P e w' → ∃ r, e = .returned r ∧ K (a.put d r) w') :
    if Region.wanted o (yielded ops a.tmps) = true then Oper.wp Sakg.prog o a w K Q else K (a.put o.dst undef) w := by
  rw [if_pos hw]
  subst hd
  unfold Oper.wp
  have hrun : (execOp a.eval o).run Sakg.prog w = .ok (.enter fn #[v1, v2, v3, v4]) w := by
    have hf : a.eval (.func fn) = .func (.func fn) #[] #[] := rfl
    simp [execOp, ho, hv1, hv2, hv3, hv4, hf, resolve, invoke, Deferred.ofValue, hcf]
  rw [hrun, Oper.upon_enter]
  exact hc.mono (fun e w' hp => by obtain ⟨r, rfl, hk⟩ := h e w' hp; exact hk)
set_option maxHeartbeats 16000000 in
theorem aluProgram_any (o : Nat) (ho : o ≤ 255) (a b c : List Int) (ha : IsW a) (hb : IsW b) (hc : IsW c) (w : World) :
    Calls Sakg.prog 21 #[.int .u8 o, .agg (bv a).toArray, .agg (bv b).toArray, .agg (bv c).toArray] w (MakesB w (aluProg o a b c)) := by
  obtain ⟨W, hW⟩ : ∃ W, W = ((w.alloc (.cells (bv a).toArray 28)).alloc (.cells (bv b).toArray 28)).alloc (.cells (bv c).toArray 28) := ⟨_, rfl⟩
  have hb0 : Below w.heap.size w W := by rw [hW]; exact (((Below.refl _ _).alloc (Nat.le_refl _) _).alloc (by simp) _).alloc (by simp; omega) _
  have ra : RowT 28 W w.heap.size (bv a) := by rw [hW]; exact ((RowT.new _ _ _).alloc _).alloc _
  have rb : RowT 28 W (w.heap.size + 1) (bv b) := by
    rw [hW]
    have := (RowT.new 28 (w.alloc (.cells (bv a).toArray 28)) (bv b)).alloc (.cells (bv c).toArray 28)
    rwa [World.size_alloc] at this
  have rc : RowT 28 W (w.heap.size + 2) (bv c) := by
    rw [hW]
    have := RowT.new 28 ((w.alloc (.cells (bv a).toArray 28)).alloc (.cells (bv b).toArray 28)) (bv c)
    rwa [World.size_alloc, World.size_alloc] at this
  have hR : ∀ wz, Below W.heap.size W wz → wz.rangeAt w.heap.size 0 (bv a) ∧ wz.rangeAt (w.heap.size + 1) 0 (bv b) ∧ wz.rangeAt (w.heap.size + 2) 0 (bv c) := fun wz hz => ⟨(ra.kept hz).rangeAll, (rb.kept hz).rangeAll, (rc.kept hz).rangeAll⟩
  have HR := hide hR
  have hu := Sakg.underlying28
  have sza : (Sakg.prog.info? 28).map (·.size) = some (bv a).length := by rw [bv_len, ha.len]; exact size32
  have szb : (Sakg.prog.info? 28).map (·.size) = some (bv b).length := by rw [bv_len, hb.len]; exact size32
  have szc : (Sakg.prog.info? 28).map (·.size) = some (bv c).length := by rw [bv_len, hc.len]; exact size32
  have dW : Below W.heap.size W W.drew := Quiet.below ⟨1, rfl⟩ _
  have hby1 : Byt [(o : Int)] := fun x hx => by rw [List.mem_singleton.1 hx]; omega
  have hby6 : Byt ([95, 82, 96, 32, 95, 243] : List Int) := fun x hx => by
    simp at hx
    rcases hx with rfl | rfl | rfl | rfl | rfl | rfl <;> omega
  have HE : Hid (aluProg o a b c = 127 :: c ++ 127 :: b ++ 127 :: a ++ [(o : Int)] ++ [95, 82, 96, 32, 95, 243] ++ [] ++ []) := hide (by simp [aluProg])
  clear ra rb rc hR
  go_enter Sakg.func21, Sakg.ntmps21
  go_upto_region 1 with fail
  rw [← hW]
  clear hW
  go_cut [8] (fun s8 wc => ∃ (A : Option Addr) (k c' : Nat), s8 = .slice A k c' ∧ Src wc A k c' (aluProg o a b c) ∧ Below W.heap.size W wc)
  case rest =>
    obtain ⟨A, k, c', rfl, hs, hbz⟩ := hcut
    have HS := hide hs
    clear hs
    go_wp2
    go_ret
    exact ⟨A, k, c', rfl, unhide HS, hb0.trans (hbz.mono hb0.size)⟩
  refine wp_region_noPanic ?_
  refine wp_region_held_drew (S := fun w' => Below W.heap.size W w') (by kernel_rfl) (dW) (fun hHeld => ?_)
  refine held_takeD 0 (.agg (bv c).toArray) (some 9) (by rfl) (by rfl) (by kernel_rfl) (by kernel_rfl) (by kernel_rfl) (fun _ _ _ h => h) (yieldsIf_load_mid (by rfl) _ _ rfl _ _ rfl _ _ (fun wz hS => (unhide HR wz hS).2.2) hu rfl szc) (hHeld) ?_
  simp only [Act.put, List.setIfInBounds_toArray, List.set_cons_zero, List.set_cons_succ]
  refine held_takeD 2 (.agg (bv b).toArray) (some 11) (by rfl) (by rfl) (by kernel_rfl) (by kernel_rfl) (by kernel_rfl) (fun _ _ _ h => h) (yieldsIf_load_mid (by rfl) _ _ rfl _ _ rfl _ _ (fun wz hS => (unhide HR wz hS).2.1) hu rfl szb) (hHeld) ?_
  simp only [Act.put, List.setIfInBounds_toArray, List.set_cons_zero, List.set_cons_succ]
  refine held_takeD 4 (.agg (bv a).toArray) (some 13) (by rfl) (by rfl) (by kernel_rfl) (by kernel_rfl) (by kernel_rfl) (fun _ _ _ h => h) (yieldsIf_load_mid (by rfl) _ _ rfl _ _ rfl _ _ (fun wz hS => (unhide HR wz hS).1) hu rfl sza) (hHeld) ?_
  simp only [Act.put, List.setIfInBounds_toArray, List.set_cons_zero, List.set_cons_succ]
  refine held_takeD 6 (.int .u8 o) (some 15) (by rfl) (by rfl) (by kernel_rfl) (by kernel_rfl) (by kernel_rfl) (fun _ _ _ h => h) (.inl ⟨by rfl, fun _ _ => by rfl⟩) (hHeld) ?_
  simp only [Act.put, List.setIfInBounds_toArray, List.set_cons_zero, List.set_cons_succ]
  refine held_three 1 7 9 (by kernel_rfl) (by rfl) (by rfl) (by rfl) (fun K' hK' => ?_) (fun K' hK' => ?_) (fun K' hK' => ?_) 
  · as_aux_lemma =>
    refine if_call1 (some 10) rfl (by rfl) 42 cf_push32 (.tmp 9) _ rfl _ rfl (push32_any c hc W.drew) ?_
    rintro e wp ⟨Ap, kp, cp, rfl, sp, bp⟩
    refine ⟨_, rfl, ?_⟩
    have dp := dW.trans (bp.mono dW.size)
    have SP := hide sp
    have lp := sp.len_eq
    clear sp
    refine hK'.out _ _ (dp) ?_
    clear hK' K'
    simp only [Act.put, List.setIfInBounds_toArray, List.set_cons_zero, List.set_cons_succ]
    refine held_three 3 7 9 (by kernel_rfl) (by rfl) (by rfl) (by rfl) (fun K' hK' => ?_) (fun K' hK' => ?_) (fun K' hK' => ?_) 
    · as_aux_lemma =>
      refine if_call1 (some 12) rfl (by rfl) 42 cf_push32 (.tmp 11) _ rfl _ rfl (push32_any b hb wp) ?_
      rintro e wq ⟨Aq, kq, cq, rfl, sq, bq⟩
      refine ⟨_, rfl, ?_⟩
      have dq := dp.trans (bq.mono dp.size)
      have SQ := hide sq
      have lq := sq.len_eq
      clear sq
      refine hK'.out _ _ (dq) ?_
      clear hK' K'
      simp only [Act.put, List.setIfInBounds_toArray, List.set_cons_zero, List.set_cons_succ]
      refine held_three 5 7 9 (by kernel_rfl) (by rfl) (by rfl) (by rfl) (fun K' hK' => ?_) (fun K' hK' => ?_) (fun K' hK' => ?_) 
      · as_aux_lemma =>
        refine if_call1 (some 14) rfl (by rfl) 42 cf_push32 (.tmp 13) _ rfl _ rfl (push32_any a ha wq) ?_
        rintro e wr ⟨Ar, kr, cr, rfl, sr, br⟩
        refine ⟨_, rfl, ?_⟩
        have dr := dq.trans (br.mono dq.size)
        have SR := hide sr
        have lr := sr.len_eq
        clear sr
        refine hK'.out _ _ (dr) ?_
        clear hK' K'
        simp only [Act.put, List.setIfInBounds_toArray, List.set_cons_zero, List.set_cons_succ]
        refine held_two 7 9 (by kernel_rfl) (by rfl) (by rfl) (fun K' hK' => ?_) (fun K' hK' => ?_) 
        · as_aux_lemma =>
          refine if_build_lit (some 16) rfl (by rfl) 30 1 [(0, .tmp 15)] rfl 5 (bv [(o : Int)]) (run_lit1 _ _) (fun wx rx bx sx => ?_)
          have dx := dr.trans (bx.mono dr.size)
          have sx1 := OwnT.src_all (g := _) rx hby1 1 rfl (by unfold maxLen; omega)
          have SX := hide sx1
          clear sx1 rx
          refine hK'.out _ _ (dx) ?_
          clear hK' K'
          simp only [Act.put, List.setIfInBounds_toArray, List.set_cons_zero, List.set_cons_succ]
          refine held_two 8 9 (by kernel_rfl) (by rfl) (by rfl) (fun K' hK' => ?_) (fun K' hK' => ?_) 
          · as_aux_lemma =>
            refine if_call4 (some 17) rfl (by rfl) 40 cf_join (.tmp 10) (.tmp 12) (.tmp 14) (.tmp 16) _ _ _ _ rfl _ _ _ _ rfl rfl rfl rfl (join_any _ _ _ _ _ _ _ _ _ _ _ _ _ _ _ _ wx ((unhide SP).kept ((bq.trans (br.mono bq.size)).trans (bx.mono (bq.trans (br.mono bq.size)).size))) ((unhide SQ).kept (br.trans (bx.mono br.size))) ((unhide SR).kept bx) (unhide SX) (by rw [← lp]; simp [hc.len]) (by rw [← lq]; simp [hb.len]) (by rw [← lr]; simp [ha.len]) (by omega)) ?_
            rintro e wj ⟨Aj, kj, cj, rfl, sj, bj⟩
            refine ⟨_, rfl, ?_⟩
            have dj := dx.trans (bj.mono dx.size)
            have SJ := hide sj
            have lj := sj.len_eq
            clear sj
            refine hK'.out _ _ (dj) ?_
            clear hK' K'
            simp only [Act.put, List.setIfInBounds_toArray, List.set_cons_zero, List.set_cons_succ]
            refine held_one 9 (by kernel_rfl) (by rfl) (fun K' hK' => ?_) 
            refine if_build_lit (some 18) rfl (by rfl) 30 6 [(0, .const (.int .u8 95)), (1, .const (.int .u8 82)), (2, .const (.int .u8 96)), (3, .const (.int .u8 32)), (4, .const (.int .u8 95)), (5, .const (.int .u8 243))] rfl 5 (bv [95, 82, 96, 32, 95, 243]) (run_lit6 _) (fun wu ru bu su => ?_)
            have du := dj.trans (bu.mono dj.size)
            have sy1 := OwnT.src_all (g := _) ru hby6 6 rfl (by unfold maxLen; omega)
            have SY := hide sy1
            clear sy1 ru
            refine hK'.out _ _ (du) ?_
            clear hK' K'
            simp only [Act.put, List.setIfInBounds_toArray, List.set_cons_zero, List.set_cons_succ]
            refine held_one 10 (by kernel_rfl) (by rfl) (fun K' hK' => ?_) 
            refine if_call4 (some 19) rfl (by rfl) 40 cf_join (.tmp 17) (.tmp 18) (.const (.slice none 0 0)) (.const (.slice none 0 0)) _ _ _ _ rfl _ _ _ _ rfl rfl rfl rfl (join_any _ _ none none _ _ _ _ 0 0 0 0 _ _ [] [] wu ((unhide SJ).kept bu) (unhide SY) (Src.ofNil _) (Src.ofNil _) (by rw [← lj]; simp [ha.len, hb.len, hc.len]) (by omega) (by omega) (by omega)) ?_
            rintro e wk ⟨Ak, kk, ck, rfl, sk, bk⟩
            refine ⟨_, rfl, ?_⟩
            have dk := du.trans (bk.mono du.size)
            have SK := hide sk
            clear sk
            refine hK'.out _ _ (dk) ?_
            clear hK' K'
            simp only [Act.put, List.setIfInBounds_toArray, List.set_cons_zero, List.set_cons_succ]
            refine held_takeD 11 (.slice Ak kk ck) (some 8) (by rfl) (by rfl) (by kernel_rfl) (by kernel_rfl) (by kernel_rfl) (fun _ _ _ h => h) (.inl ⟨by rfl, fun _ _ => by rfl⟩) (dk) ?_
            simp only [Act.put, List.setIfInBounds_toArray, List.set_cons_zero, List.set_cons_succ]
            refine wpAnyH_done (by kernel_rfl) ?_ _
            refine NoPanic.normal ?_
            go_wp2_with fail
            go_meet
            case rel => exact ⟨Ak, kk, ck, rfl, by rw [unhide HE]; exact unhide SK, dk⟩
          · as_aux_lemma =>
            refine if_build_lit (some 18) rfl (by rfl) 30 6 [(0, .const (.int .u8 95)), (1, .const (.int .u8 82)), (2, .const (.int .u8 96)), (3, .const (.int .u8 32)), (4, .const (.int .u8 95)), (5, .const (.int .u8 243))] rfl 5 (bv [95, 82, 96, 32, 95, 243]) (run_lit6 _) (fun wu ru bu su => ?_)
            have du := dx.trans (bu.mono dx.size)
            have sy1 := OwnT.src_all (g := _) ru hby6 6 rfl (by unfold maxLen; omega)
            have SY := hide sy1
            clear sy1 ru
            refine hK'.out _ _ (du) ?_
            clear hK' K'
            simp only [Act.put, List.setIfInBounds_toArray, List.set_cons_zero, List.set_cons_succ]
            refine held_one 8 (by kernel_rfl) (by rfl) (fun K' hK' => ?_) 
            refine if_call4 (some 17) rfl (by rfl) 40 cf_join (.tmp 10) (.tmp 12) (.tmp 14) (.tmp 16) _ _ _ _ rfl _ _ _ _ rfl rfl rfl rfl (join_any _ _ _ _ _ _ _ _ _ _ _ _ _ _ _ _ wu ((unhide SP).kept (((bq.trans (br.mono bq.size)).trans (bx.mono (bq.trans (br.mono bq.size)).size)).trans (bu.mono ((bq.trans (br.mono bq.size)).trans (bx.mono (bq.trans (br.mono bq.size)).size)).size))) ((unhide SQ).kept ((br.trans (bx.mono br.size)).trans (bu.mono (br.trans (bx.mono br.size)).size))) ((unhide SR).kept (bx.trans (bu.mono bx.size))) ((unhide SX).kept bu) (by rw [← lp]; simp [hc.len]) (by rw [← lq]; simp [hb.len]) (by rw [← lr]; simp [ha.len]) (by omega)) ?_
            rintro e wj ⟨Aj, kj, cj, rfl, sj, bj⟩
            refine ⟨_, rfl, ?_⟩
            have dj := du.trans (bj.mono du.size)
            have SJ := hide sj
            have lj := sj.len_eq
            clear sj
            refine hK'.out _ _ (dj) ?_
            clear hK' K'
            simp only [Act.put, List.setIfInBounds_toArray, List.set_cons_zero, List.set_cons_succ]
            refine held_one 10 (by kernel_rfl) (by rfl) (fun K' hK' => ?_) 
            refine if_call4 (some 19) rfl (by rfl) 40 cf_join (.tmp 17) (.tmp 18) (.const (.slice none 0 0)) (.const (.slice none 0 0)) _ _ _ _ rfl _ _ _ _ rfl rfl rfl rfl (join_any _ _ none none _ _ _ _ 0 0 0 0 _ _ [] [] wj (unhide SJ) ((unhide SY).kept bj) (Src.ofNil _) (Src.ofNil _) (by rw [← lj]; simp [ha.len, hb.len, hc.len]) (by omega) (by omega) (by omega)) ?_
            rintro e wk ⟨Ak, kk, ck, rfl, sk, bk⟩
            refine ⟨_, rfl, ?_⟩
            have dk := dj.trans (bk.mono dj.size)
            have SK := hide sk
            clear sk
            refine hK'.out _ _ (dk) ?_
            clear hK' K'
            simp only [Act.put, List.setIfInBounds_toArray, List.set_cons_zero, List.set_cons_succ]
            refine held_takeD 11 (.slice Ak kk ck) (some 8) (by rfl) (by rfl) (by kernel_rfl) (by kernel_rfl) (by kernel_rfl) (fun _ _ _ h => h) (.inl ⟨by rfl, fun _ _ => by rfl⟩) (dk) ?_
            simp only [Act.put, List.setIfInBounds_toArray, List.set_cons_zero, List.set_cons_succ]
            refine wpAnyH_done (by kernel_rfl) ?_ _
            refine NoPanic.normal ?_
            go_wp2_with fail
            go_meet
            case rel => exact ⟨Ak, kk, ck, rfl, by rw [unhide HE]; exact unhide SK, dk⟩
        · as_aux_lemma =>
          refine if_build_lit (some 18) rfl (by rfl) 30 6 [(0, .const (.int .u8 95)), (1, .const (.int .u8 82)), (2, .const (.int .u8 96)), (3, .const (.int .u8 32)), (4, .const (.int .u8 95)), (5, .const (.int .u8 243))] rfl 5 (bv [95, 82, 96, 32, 95, 243]) (run_lit6 _) (fun wu ru bu su => ?_)
          have du := dr.trans (bu.mono dr.size)
          have sy1 := OwnT.src_all (g := _) ru hby6 6 rfl (by unfold maxLen; omega)
          have SY := hide sy1
          clear sy1 ru
          refine hK'.out _ _ (du) ?_
          clear hK' K'
          simp only [Act.put, List.setIfInBounds_toArray, List.set_cons_zero, List.set_cons_succ]
          refine held_one 7 (by kernel_rfl) (by rfl) (fun K' hK' => ?_) 
          refine if_build_lit (some 16) rfl (by rfl) 30 1 [(0, .tmp 15)] rfl 5 (bv [(o : Int)]) (run_lit1 _ _) (fun wx rx bx sx => ?_)
          have dx := du.trans (bx.mono du.size)
          have sx1 := OwnT.src_all (g := _) rx hby1 1 rfl (by unfold maxLen; omega)
          have SX := hide sx1
          clear sx1 rx
          refine hK'.out _ _ (dx) ?_
          clear hK' K'
          simp only [Act.put, List.setIfInBounds_toArray, List.set_cons_zero, List.set_cons_succ]
          refine held_one 8 (by kernel_rfl) (by rfl) (fun K' hK' => ?_) 
          refine if_call4 (some 17) rfl (by rfl) 40 cf_join (.tmp 10) (.tmp 12) (.tmp 14) (.tmp 16) _ _ _ _ rfl _ _ _ _ rfl rfl rfl rfl (join_any _ _ _ _ _ _ _ _ _ _ _ _ _ _ _ _ wx ((unhide SP).kept (((bq.trans (br.mono bq.size)).trans (bu.mono (bq.trans (br.mono bq.size)).size)).trans (bx.mono ((bq.trans (br.mono bq.size)).trans (bu.mono (bq.trans (br.mono bq.size)).size)).size))) ((unhide SQ).kept ((br.trans (bu.mono br.size)).trans (bx.mono (br.trans (bu.mono br.size)).size))) ((unhide SR).kept (bu.trans (bx.mono bu.size))) (unhide SX) (by rw [← lp]; simp [hc.len]) (by rw [← lq]; simp [hb.len]) (by rw [← lr]; simp [ha.len]) (by omega)) ?_
          rintro e wj ⟨Aj, kj, cj, rfl, sj, bj⟩
          refine ⟨_, rfl, ?_⟩
          have dj := dx.trans (bj.mono dx.size)
          have SJ := hide sj
          have lj := sj.len_eq
          clear sj
          refine hK'.out _ _ (dj) ?_
          clear hK' K'
          simp only [Act.put, List.setIfInBounds_toArray, List.set_cons_zero, List.set_cons_succ]
          refine held_one 10 (by kernel_rfl) (by rfl) (fun K' hK' => ?_) 
          refine if_call4 (some 19) rfl (by rfl) 40 cf_join (.tmp 17) (.tmp 18) (.const (.slice none 0 0)) (.const (.slice none 0 0)) _ _ _ _ rfl _ _ _ _ rfl rfl rfl rfl (join_any _ _ none none _ _ _ _ 0 0 0 0 _ _ [] [] wj (unhide SJ) ((unhide SY).kept (bx.trans (bj.mono bx.size))) (Src.ofNil _) (Src.ofNil _) (by rw [← lj]; simp [ha.len, hb.len, hc.len]) (by omega) (by omega) (by omega)) ?_
          rintro e wk ⟨Ak, kk, ck, rfl, sk, bk⟩
          refine ⟨_, rfl, ?_⟩
          have dk := dj.trans (bk.mono dj.size)
          have SK := hide sk
          clear sk
          refine hK'.out _ _ (dk) ?_
          clear hK' K'
          simp only [Act.put, List.setIfInBounds_toArray, List.set_cons_zero, List.set_cons_succ]
          refine held_takeD 11 (.slice Ak kk ck) (some 8) (by rfl) (by rfl) (by kernel_rfl) (by kernel_rfl) (by kernel_rfl) (fun _ _ _ h => h) (.inl ⟨by rfl, fun _ _ => by rfl⟩) (dk) ?_
          simp only [Act.put, List.setIfInBounds_toArray, List.set_cons_zero, List.set_cons_succ]
          refine wpAnyH_done (by kernel_rfl) ?_ _
          refine NoPanic.normal ?_
          go_wp2_with fail
          go_meet
          case rel => exact ⟨Ak, kk, ck, rfl, by rw [unhide HE]; exact unhide SK, dk⟩
      · as_aux_lemma =>
        refine if_build_lit (some 16) rfl (by rfl) 30 1 [(0, .tmp 15)] rfl 5 (bv [(o : Int)]) (run_lit1 _ _) (fun wx rx bx sx => ?_)
        have dx := dq.trans (bx.mono dq.size)
        have sx1 := OwnT.src_all (g := _) rx hby1 1 rfl (by unfold maxLen; omega)
        have SX := hide sx1
        clear sx1 rx
        refine hK'.out _ _ (dx) ?_
        clear hK' K'
        simp only [Act.put, List.setIfInBounds_toArray, List.set_cons_zero, List.set_cons_succ]
        refine held_two 5 9 (by kernel_rfl) (by rfl) (by rfl) (fun K' hK' => ?_) (fun K' hK' => ?_) 
        · as_aux_lemma =>
          refine if_call1 (some 14) rfl (by rfl) 42 cf_push32 (.tmp 13) _ rfl _ rfl (push32_any a ha wx) ?_
          rintro e wr ⟨Ar, kr, cr, rfl, sr, br⟩
          refine ⟨_, rfl, ?_⟩
          have dr := dx.trans (br.mono dx.size)
          have SR := hide sr
          have lr := sr.len_eq
          clear sr
          refine hK'.out _ _ (dr) ?_
          clear hK' K'
          simp only [Act.put, List.setIfInBounds_toArray, List.set_cons_zero, List.set_cons_succ]
          refine held_two 8 9 (by kernel_rfl) (by rfl) (by rfl) (fun K' hK' => ?_) (fun K' hK' => ?_) 
          · as_aux_lemma =>
            refine if_call4 (some 17) rfl (by rfl) 40 cf_join (.tmp 10) (.tmp 12) (.tmp 14) (.tmp 16) _ _ _ _ rfl _ _ _ _ rfl rfl rfl rfl (join_any _ _ _ _ _ _ _ _ _ _ _ _ _ _ _ _ wr ((unhide SP).kept ((bq.trans (bx.mono bq.size)).trans (br.mono (bq.trans (bx.mono bq.size)).size))) ((unhide SQ).kept (bx.trans (br.mono bx.size))) (unhide SR) ((unhide SX).kept br) (by rw [← lp]; simp [hc.len]) (by rw [← lq]; simp [hb.len]) (by rw [← lr]; simp [ha.len]) (by omega)) ?_
            rintro e wj ⟨Aj, kj, cj, rfl, sj, bj⟩
            refine ⟨_, rfl, ?_⟩
            have dj := dr.trans (bj.mono dr.size)
            have SJ := hide sj
            have lj := sj.len_eq
            clear sj
            refine hK'.out _ _ (dj) ?_
            clear hK' K'
            simp only [Act.put, List.setIfInBounds_toArray, List.set_cons_zero, List.set_cons_succ]
            refine held_one 9 (by kernel_rfl) (by rfl) (fun K' hK' => ?_) 
            refine if_build_lit (some 18) rfl (by rfl) 30 6 [(0, .const (.int .u8 95)), (1, .const (.int .u8 82)), (2, .const (.int .u8 96)), (3, .const (.int .u8 32)), (4, .const (.int .u8 95)), (5, .const (.int .u8 243))] rfl 5 (bv [95, 82, 96, 32, 95, 243]) (run_lit6 _) (fun wu ru bu su => ?_)
            have du := dj.trans (bu.mono dj.size)
            have sy1 := OwnT.src_all (g := _) ru hby6 6 rfl (by unfold maxLen; omega)
            have SY := hide sy1
            clear sy1 ru
            refine hK'.out _ _ (du) ?_
            clear hK' K'
            simp only [Act.put, List.setIfInBounds_toArray, List.set_cons_zero, List.set_cons_succ]
            refine held_one 10 (by kernel_rfl) (by rfl) (fun K' hK' => ?_) 
            refine if_call4 (some 19) rfl (by rfl) 40 cf_join (.tmp 17) (.tmp 18) (.const (.slice none 0 0)) (.const (.slice none 0 0)) _ _ _ _ rfl _ _ _ _ rfl rfl rfl rfl (join_any _ _ none none _ _ _ _ 0 0 0 0 _ _ [] [] wu ((unhide SJ).kept bu) (unhide SY) (Src.ofNil _) (Src.ofNil _) (by rw [← lj]; simp [ha.len, hb.len, hc.len]) (by omega) (by omega) (by omega)) ?_
            rintro e wk ⟨Ak, kk, ck, rfl, sk, bk⟩
            refine ⟨_, rfl, ?_⟩
            have dk := du.trans (bk.mono du.size)
            have SK := hide sk
            clear sk
            refine hK'.out _ _ (dk) ?_
            clear hK' K'
            simp only [Act.put, List.setIfInBounds_toArray, List.set_cons_zero, List.set_cons_succ]
            refine held_takeD 11 (.slice Ak kk ck) (some 8) (by rfl) (by rfl) (by kernel_rfl) (by kernel_rfl) (by kernel_rfl) (fun _ _ _ h => h) (.inl ⟨by rfl, fun _ _ => by rfl⟩) (dk) ?_
            simp only [Act.put, List.setIfInBounds_toArray, List.set_cons_zero, List.set_cons_succ]
            refine wpAnyH_done (by kernel_rfl) ?_ _
            refine NoPanic.normal ?_
            go_wp2_with fail
            go_meet
            case rel => exact ⟨Ak, kk, ck, rfl, by rw [unhide HE]; exact unhide SK, dk⟩
          · as_aux_lemma =>
            refine if_build_lit (some 18) rfl (by rfl) 30 6 [(0, .const (.int .u8 95)), (1, .const (.int .u8 82)), (2, .const (.int .u8 96)), (3, .const (.int .u8 32)), (4, .const (.int .u8 95)), (5, .const (.int .u8 243))] rfl 5 (bv [95, 82, 96, 32, 95, 243]) (run_lit6 _) (fun wu ru bu su => ?_)
            have du := dr.trans (bu.mono dr.size)
            have sy1 := OwnT.src_all (g := _) ru hby6 6 rfl (by unfold maxLen; omega)
            have SY := hide sy1
            clear sy1 ru
            refine hK'.out _ _ (du) ?_
            clear hK' K'
            simp only [Act.put, List.setIfInBounds_toArray, List.set_cons_zero, List.set_cons_succ]
            refine held_one 8 (by kernel_rfl) (by rfl) (fun K' hK' => ?_) 
            refine if_call4 (some 17) rfl (by rfl) 40 cf_join (.tmp 10) (.tmp 12) (.tmp 14) (.tmp 16) _ _ _ _ rfl _ _ _ _ rfl rfl rfl rfl (join_any _ _ _ _ _ _ _ _ _ _ _ _ _ _ _ _ wu ((unhide SP).kept (((bq.trans (bx.mono bq.size)).trans (br.mono (bq.trans (bx.mono bq.size)).size)).trans (bu.mono ((bq.trans (bx.mono bq.size)).trans (br.mono (bq.trans (bx.mono bq.size)).size)).size))) ((unhide SQ).kept ((bx.trans (br.mono bx.size)).trans (bu.mono (bx.trans (br.mono bx.size)).size))) ((unhide SR).kept bu) ((unhide SX).kept (br.trans (bu.mono br.size))) (by rw [← lp]; simp [hc.len]) (by rw [← lq]; simp [hb.len]) (by rw [← lr]; simp [ha.len]) (by omega)) ?_
            rintro e wj ⟨Aj, kj, cj, rfl, sj, bj⟩
            refine ⟨_, rfl, ?_⟩
            have dj := du.trans (bj.mono du.size)
            have SJ := hide sj
            have lj := sj.len_eq
            clear sj
            refine hK'.out _ _ (dj) ?_
            clear hK' K'
            simp only [Act.put, List.setIfInBounds_toArray, List.set_cons_zero, List.set_cons_succ]
            refine held_one 10 (by kernel_rfl) (by rfl) (fun K' hK' => ?_) 
            refine if_call4 (some 19) rfl (by rfl) 40 cf_join (.tmp 17) (.tmp 18) (.const (.slice none 0 0)) (.const (.slice none 0 0)) _ _ _ _ rfl _ _ _ _ rfl rfl rfl rfl (join_any _ _ none none _ _ _ _ 0 0 0 0 _ _ [] [] wj (unhide SJ) ((unhide SY).kept bj) (Src.ofNil _) (Src.ofNil _) (by rw [← lj]; simp [ha.len, hb.len, hc.len]) (by omega) (by omega) (by omega)) ?_
            rintro e wk ⟨Ak, kk, ck, rfl, sk, bk⟩
            refine ⟨_, rfl, ?_⟩
            have dk := dj.trans (bk.mono dj.size)
            have SK := hide sk
            clear sk
            refine hK'.out _ _ (dk) ?_
            clear hK' K'
            simp only [Act.put, List.setIfInBounds_toArray, List.set_cons_zero, List.set_cons_succ]
            refine held_takeD 11 (.slice Ak kk ck) (some 8) (by rfl) (by rfl) (by kernel_rfl) (by kernel_rfl) (by kernel_rfl) (fun _ _ _ h => h) (.inl ⟨by rfl, fun _ _ => by rfl⟩) (dk) ?_
            simp only [Act.put, List.setIfInBounds_toArray, List.set_cons_zero, List.set_cons_succ]
            refine wpAnyH_done (by kernel_rfl) ?_ _
            refine NoPanic.normal ?_
            go_wp2_with fail
            go_meet
            case rel => exact ⟨Ak, kk, ck, rfl, by rw [unhide HE]; exact unhide SK, dk⟩
        · as_aux_lemma =>
          refine if_build_lit (some 18) rfl (by rfl) 30 6 [(0, .const (.int .u8 95)), (1, .const (.int .u8 82)), (2, .const (.int .u8 96)), (3, .const (.int .u8 32)), (4, .const (.int .u8 95)), (5, .const (.int .u8 243))] rfl 5 (bv [95, 82, 96, 32, 95, 243]) (run_lit6 _) (fun wu ru bu su => ?_)
          have du := dx.trans (bu.mono dx.size)
          have sy1 := OwnT.src_all (g := _) ru hby6 6 rfl (by unfold maxLen; omega)
          have SY := hide sy1
          clear sy1 ru
          refine hK'.out _ _ (du) ?_
          clear hK' K'
          simp only [Act.put, List.setIfInBounds_toArray, List.set_cons_zero, List.set_cons_succ]
          refine held_one 5 (by kernel_rfl) (by rfl) (fun K' hK' => ?_) 
          refine if_call1 (some 14) rfl (by rfl) 42 cf_push32 (.tmp 13) _ rfl _ rfl (push32_any a ha wu) ?_
          rintro e wr ⟨Ar, kr, cr, rfl, sr, br⟩
          refine ⟨_, rfl, ?_⟩
          have dr := du.trans (br.mono du.size)
          have SR := hide sr
          have lr := sr.len_eq
          clear sr
          refine hK'.out _ _ (dr) ?_
          clear hK' K'
          simp only [Act.put, List.setIfInBounds_toArray, List.set_cons_zero, List.set_cons_succ]
          refine held_one 8 (by kernel_rfl) (by rfl) (fun K' hK' => ?_) 
          refine if_call4 (some 17) rfl (by rfl) 40 cf_join (.tmp 10) (.tmp 12) (.tmp 14) (.tmp 16) _ _ _ _ rfl _ _ _ _ rfl rfl rfl rfl (join_any _ _ _ _ _ _ _ _ _ _ _ _ _ _ _ _ wr ((unhide SP).kept (((bq.trans (bx.mono bq.size)).trans (bu.mono (bq.trans (bx.mono bq.size)).size)).trans (br.mono ((bq.trans (bx.mono bq.size)).trans (bu.mono (bq.trans (bx.mono bq.size)).size)).size))) ((unhide SQ).kept ((bx.trans (bu.mono bx.size)).trans (br.mono (bx.trans (bu.mono bx.size)).size))) (unhide SR) ((unhide SX).kept (bu.trans (br.mono bu.size))) (by rw [← lp]; simp [hc.len]) (by rw [← lq]; simp [hb.len]) (by rw [← lr]; simp [ha.len]) (by omega)) ?_
          rintro e wj ⟨Aj, kj, cj, rfl, sj, bj⟩
          refine ⟨_, rfl, ?_⟩
          have dj := dr.trans (bj.mono dr.size)
          have SJ := hide sj
          have lj := sj.len_eq
          clear sj
          refine hK'.out _ _ (dj) ?_
          clear hK' K'
          simp only [Act.put, List.setIfInBounds_toArray, List.set_cons_zero, List.set_cons_succ]
          refine held_one 10 (by kernel_rfl) (by rfl) (fun K' hK' => ?_) 
          refine if_call4 (some 19) rfl (by rfl) 40 cf_join (.tmp 17) (.tmp 18) (.const (.slice none 0 0)) (.const (.slice none 0 0)) _ _ _ _ rfl _ _ _ _ rfl rfl rfl rfl (join_any _ _ none none _ _ _ _ 0 0 0 0 _ _ [] [] wj (unhide SJ) ((unhide SY).kept (br.trans (bj.mono br.size))) (Src.ofNil _) (Src.ofNil _) (by rw [← lj]; simp [ha.len, hb.len, hc.len]) (by omega) (by omega) (by omega)) ?_
          rintro e wk ⟨Ak, kk, ck, rfl, sk, bk⟩
          refine ⟨_, rfl, ?_⟩
          have dk := dj.trans (bk.mono dj.size)
          have SK := hide sk
          clear sk
          refine hK'.out _ _ (dk) ?_
          clear hK' K'
          simp only [Act.put, List.setIfInBounds_toArray, List.set_cons_zero, List.set_cons_succ]
          refine held_takeD 11 (.slice Ak kk ck) (some 8) (by rfl) (by rfl) (by kernel_rfl) (by kernel_rfl) (by kernel_rfl) (fun _ _ _ h => h) (.inl ⟨by rfl, fun _ _ => by rfl⟩) (dk) ?_
          simp only [Act.put, List.setIfInBounds_toArray, List.set_cons_zero, List.set_cons_succ]
          refine wpAnyH_done (by kernel_rfl) ?_ _
          refine NoPanic.normal ?_
          go_wp2_with fail
          go_meet
          case rel => exact ⟨Ak, kk, ck, rfl, by rw [unhide HE]; exact unhide SK, dk⟩
      · as_aux_lemma =>
        refine if_build_lit (some 18) rfl (by rfl) 30 6 [(0, .const (.int .u8 95)), (1, .const (.int .u8 82)), (2, .const (.int .u8 96)), (3, .const (.int .u8 32)), (4, .const (.int .u8 95)), (5, .const (.int .u8 243))] rfl 5 (bv [95, 82, 96, 32, 95, 243]) (run_lit6 _) (fun wu ru bu su => ?_)
        have du := dq.trans (bu.mono dq.size)
        have sy1 := OwnT.src_all (g := _) ru hby6 6 rfl (by unfold maxLen; omega)
        have SY := hide sy1
        clear sy1 ru
        refine hK'.out _ _ (du) ?_
        clear hK' K'
        simp only [Act.put, List.setIfInBounds_toArray, List.set_cons_zero, List.set_cons_succ]
        refine held_two 5 7 (by kernel_rfl) (by rfl) (by rfl) (fun K' hK' => ?_) (fun K' hK' => ?_) 
        · as_aux_lemma =>
          refine if_call1 (some 14) rfl (by rfl) 42 cf_push32 (.tmp 13) _ rfl _ rfl (push32_any a ha wu) ?_
          rintro e wr ⟨Ar, kr, cr, rfl, sr, br⟩
          refine ⟨_, rfl, ?_⟩
          have dr := du.trans (br.mono du.size)
          have SR := hide sr
          have lr := sr.len_eq
          clear sr
          refine hK'.out _ _ (dr) ?_
          clear hK' K'
          simp only [Act.put, List.setIfInBounds_toArray, List.set_cons_zero, List.set_cons_succ]
          refine held_one 7 (by kernel_rfl) (by rfl) (fun K' hK' => ?_) 
          refine if_build_lit (some 16) rfl (by rfl) 30 1 [(0, .tmp 15)] rfl 5 (bv [(o : Int)]) (run_lit1 _ _) (fun wx rx bx sx => ?_)
          have dx := dr.trans (bx.mono dr.size)
          have sx1 := OwnT.src_all (g := _) rx hby1 1 rfl (by unfold maxLen; omega)
          have SX := hide sx1
          clear sx1 rx
          refine hK'.out _ _ (dx) ?_
          clear hK' K'
          simp only [Act.put, List.setIfInBounds_toArray, List.set_cons_zero, List.set_cons_succ]
          refine held_one 8 (by kernel_rfl) (by rfl) (fun K' hK' => ?_) 
          refine if_call4 (some 17) rfl (by rfl) 40 cf_join (.tmp 10) (.tmp 12) (.tmp 14) (.tmp 16) _ _ _ _ rfl _ _ _ _ rfl rfl rfl rfl (join_any _ _ _ _ _ _ _ _ _ _ _ _ _ _ _ _ wx ((unhide SP).kept (((bq.trans (bu.mono bq.size)).trans (br.mono (bq.trans (bu.mono bq.size)).size)).trans (bx.mono ((bq.trans (bu.mono bq.size)).trans (br.mono (bq.trans (bu.mono bq.size)).size)).size))) ((unhide SQ).kept ((bu.trans (br.mono bu.size)).trans (bx.mono (bu.trans (br.mono bu.size)).size))) ((unhide SR).kept bx) (unhide SX) (by rw [← lp]; simp [hc.len]) (by rw [← lq]; simp [hb.len]) (by rw [← lr]; simp [ha.len]) (by omega)) ?_
          rintro e wj ⟨Aj, kj, cj, rfl, sj, bj⟩
          refine ⟨_, rfl, ?_⟩
          have dj := dx.trans (bj.mono dx.size)
          have SJ := hide sj
          have lj := sj.len_eq
          clear sj
          refine hK'.out _ _ (dj) ?_
          clear hK' K'
          simp only [Act.put, List.setIfInBounds_toArray, List.set_cons_zero, List.set_cons_succ]
          refine held_one 10 (by kernel_rfl) (by rfl) (fun K' hK' => ?_) 
          refine if_call4 (some 19) rfl (by rfl) 40 cf_join (.tmp 17) (.tmp 18) (.const (.slice none 0 0)) (.const (.slice none 0 0)) _ _ _ _ rfl _ _ _ _ rfl rfl rfl rfl (join_any _ _ none none _ _ _ _ 0 0 0 0 _ _ [] [] wj (unhide SJ) ((unhide SY).kept ((br.trans (bx.mono br.size)).trans (bj.mono (br.trans (bx.mono br.size)).size))) (Src.ofNil _) (Src.ofNil _) (by rw [← lj]; simp [ha.len, hb.len, hc.len]) (by omega) (by omega) (by omega)) ?_
          rintro e wk ⟨Ak, kk, ck, rfl, sk, bk⟩
          refine ⟨_, rfl, ?_⟩
          have dk := dj.trans (bk.mono dj.size)
          have SK := hide sk
          clear sk
          refine hK'.out _ _ (dk) ?_
          clear hK' K'
          simp only [Act.put, List.setIfInBounds_toArray, List.set_cons_zero, List.set_cons_succ]
          refine held_takeD 11 (.slice Ak kk ck) (some 8) (by rfl) (by rfl) (by kernel_rfl) (by kernel_rfl) (by kernel_rfl) (fun _ _ _ h => h) (.inl ⟨by rfl, fun _ _ => by rfl⟩) (dk) ?_
          simp only [Act.put, List.setIfInBounds_toArray, List.set_cons_zero, List.set_cons_succ]
          refine wpAnyH_done (by kernel_rfl) ?_ _
          refine NoPanic.normal ?_
          go_wp2_with fail
          go_meet
          case rel => exact ⟨Ak, kk, ck, rfl, by rw [unhide HE]; exact unhide SK, dk⟩
        · as_aux_lemma =>
          refine if_build_lit (some 16) rfl (by rfl) 30 1 [(0, .tmp 15)] rfl 5 (bv [(o : Int)]) (run_lit1 _ _) (fun wx rx bx sx => ?_)
          have dx := du.trans (bx.mono du.size)
          have sx1 := OwnT.src_all (g := _) rx hby1 1 rfl (by unfold maxLen; omega)
          have SX := hide sx1
          clear sx1 rx
          refine hK'.out _ _ (dx) ?_
          clear hK' K'
          simp only [Act.put, List.setIfInBounds_toArray, List.set_cons_zero, List.set_cons_succ]
          refine held_one 5 (by kernel_rfl) (by rfl) (fun K' hK' => ?_) 
          refine if_call1 (some 14) rfl (by rfl) 42 cf_push32 (.tmp 13) _ rfl _ rfl (push32_any a ha wx) ?_
          rintro e wr ⟨Ar, kr, cr, rfl, sr, br⟩
          refine ⟨_, rfl, ?_⟩
          have dr := dx.trans (br.mono dx.size)
          have SR := hide sr
          have lr := sr.len_eq
          clear sr
          refine hK'.out _ _ (dr) ?_
          clear hK' K'
          simp only [Act.put, List.setIfInBounds_toArray, List.set_cons_zero, List.set_cons_succ]
          refine held_one 8 (by kernel_rfl) (by rfl) (fun K' hK' => ?_) 
          refine if_call4 (some 17) rfl (by rfl) 40 cf_join (.tmp 10) (.tmp 12) (.tmp 14) (.tmp 16) _ _ _ _ rfl _ _ _ _ rfl rfl rfl rfl (join_any _ _ _ _ _ _ _ _ _ _ _ _ _ _ _ _ wr ((unhide SP).kept (((bq.trans (bu.mono bq.size)).trans (bx.mono (bq.trans (bu.mono bq.size)).size)).trans (br.mono ((bq.trans (bu.mono bq.size)).trans (bx.mono (bq.trans (bu.mono bq.size)).size)).size))) ((unhide SQ).kept ((bu.trans (bx.mono bu.size)).trans (br.mono (bu.trans (bx.mono bu.size)).size))) (unhide SR) ((unhide SX).kept br) (by rw [← lp]; simp [hc.len]) (by rw [← lq]; simp [hb.len]) (by rw [← lr]; simp [ha.len]) (by omega)) ?_
          rintro e wj ⟨Aj, kj, cj, rfl, sj, bj⟩
          refine ⟨_, rfl, ?_⟩
          have dj := dr.trans (bj.mono dr.size)
          have SJ := hide sj
          have lj := sj.len_eq
          clear sj
          refine hK'.out _ _ (dj) ?_
          clear hK' K'
          simp only [Act.put, List.setIfInBounds_toArray, List.set_cons_zero, List.set_cons_succ]
          refine held_one 10 (by kernel_rfl) (by rfl) (fun K' hK' => ?_) 
          refine if_call4 (some 19) rfl (by rfl) 40 cf_join (.tmp 17) (.tmp 18) (.const (.slice none 0 0)) (.const (.slice none 0 0)) _ _ _ _ rfl _ _ _ _ rfl rfl rfl rfl (join_any _ _ none none _ _ _ _ 0 0 0 0 _ _ [] [] wj (unhide SJ) ((unhide SY).kept ((bx.trans (br.mono bx.size)).trans (bj.mono (bx.trans (br.mono bx.size)).size))) (Src.ofNil _) (Src.ofNil _) (by rw [← lj]; simp [ha.len, hb.len, hc.len]) (by omega) (by omega) (by omega)) ?_
          rintro e wk ⟨Ak, kk, ck, rfl, sk, bk⟩
          refine ⟨_, rfl, ?_⟩
          have dk := dj.trans (bk.mono dj.size)
          have SK := hide sk
          clear sk
          refine hK'.out _ _ (dk) ?_
          clear hK' K'
          simp only [Act.put, List.setIfInBounds_toArray, List.set_cons_zero, List.set_cons_succ]
          refine held_takeD 11 (.slice Ak kk ck) (some 8) (by rfl) (by rfl) (by kernel_rfl) (by kernel_rfl) (by kernel_rfl) (fun _ _ _ h => h) (.inl ⟨by rfl, fun _ _ => by rfl⟩) (dk) ?_
          simp only [Act.put, List.setIfInBounds_toArray, List.set_cons_zero, List.set_cons_succ]
          refine wpAnyH_done (by kernel_rfl) ?_ _
          refine NoPanic.normal ?_
          go_wp2_with fail
          go_meet
          case rel => exact ⟨Ak, kk, ck, rfl, by rw [unhide HE]; exact unhide SK, dk⟩
    · as_aux_lemma =>
      refine if_build_lit (some 16) rfl (by rfl) 30 1 [(0, .tmp 15)] rfl 5 (bv [(o : Int)]) (run_lit1 _ _) (fun wx rx bx sx => ?_)
      have dx := dp.trans (bx.mono dp.size)
      have sx1 := OwnT.src_all (g := _) rx hby1 1 rfl (by unfold maxLen; omega)
      have SX := hide sx1
      clear sx1 rx
      refine hK'.out _ _ (dx) ?_
      clear hK' K'
      simp only [Act.put, List.setIfInBounds_toArray, List.set_cons_zero, List.set_cons_succ]
      refine held_two 3 9 (by kernel_rfl) (by rfl) (by rfl) (fun K' hK' => ?_) (fun K' hK' => ?_) 
      · as_aux_lemma =>
        refine if_call1 (some 12) rfl (by rfl) 42 cf_push32 (.tmp 11) _ rfl _ rfl (push32_any b hb wx) ?_
        rintro e wq ⟨Aq, kq, cq, rfl, sq, bq⟩
        refine ⟨_, rfl, ?_⟩
        have dq := dx.trans (bq.mono dx.size)
        have SQ := hide sq
        have lq := sq.len_eq
        clear sq
        refine hK'.out _ _ (dq) ?_
        clear hK' K'
        simp only [Act.put, List.setIfInBounds_toArray, List.set_cons_zero, List.set_cons_succ]
        refine held_two 5 9 (by kernel_rfl) (by rfl) (by rfl) (fun K' hK' => ?_) (fun K' hK' => ?_) 
        · as_aux_lemma =>
          refine if_call1 (some 14) rfl (by rfl) 42 cf_push32 (.tmp 13) _ rfl _ rfl (push32_any a ha wq) ?_
          rintro e wr ⟨Ar, kr, cr, rfl, sr, br⟩
          refine ⟨_, rfl, ?_⟩
          have dr := dq.trans (br.mono dq.size)
          have SR := hide sr
          have lr := sr.len_eq
          clear sr
          refine hK'.out _ _ (dr) ?_
          clear hK' K'
          simp only [Act.put, List.setIfInBounds_toArray, List.set_cons_zero, List.set_cons_succ]
          refine held_two 8 9 (by kernel_rfl) (by rfl) (by rfl) (fun K' hK' => ?_) (fun K' hK' => ?_) 
          · as_aux_lemma =>
            refine if_call4 (some 17) rfl (by rfl) 40 cf_join (.tmp 10) (.tmp 12) (.tmp 14) (.tmp 16) _ _ _ _ rfl _ _ _ _ rfl rfl rfl rfl (join_any _ _ _ _ _ _ _ _ _ _ _ _ _ _ _ _ wr ((unhide SP).kept ((bx.trans (bq.mono bx.size)).trans (br.mono (bx.trans (bq.mono bx.size)).size))) ((unhide SQ).kept br) (unhide SR) ((unhide SX).kept (bq.trans (br.mono bq.size))) (by rw [← lp]; simp [hc.len]) (by rw [← lq]; simp [hb.len]) (by rw [← lr]; simp [ha.len]) (by omega)) ?_
            rintro e wj ⟨Aj, kj, cj, rfl, sj, bj⟩
            refine ⟨_, rfl, ?_⟩
            have dj := dr.trans (bj.mono dr.size)
            have SJ := hide sj
            have lj := sj.len_eq
            clear sj
            refine hK'.out _ _ (dj) ?_
            clear hK' K'
            simp only [Act.put, List.setIfInBounds_toArray, List.set_cons_zero, List.set_cons_succ]
            refine held_one 9 (by kernel_rfl) (by rfl) (fun K' hK' => ?_) 
            refine if_build_lit (some 18) rfl (by rfl) 30 6 [(0, .const (.int .u8 95)), (1, .const (.int .u8 82)), (2, .const (.int .u8 96)), (3, .const (.int .u8 32)), (4, .const (.int .u8 95)), (5, .const (.int .u8 243))] rfl 5 (bv [95, 82, 96, 32, 95, 243]) (run_lit6 _) (fun wu ru bu su => ?_)
            have du := dj.trans (bu.mono dj.size)
            have sy1 := OwnT.src_all (g := _) ru hby6 6 rfl (by unfold maxLen; omega)
            have SY := hide sy1
            clear sy1 ru
            refine hK'.out _ _ (du) ?_
            clear hK' K'
            simp only [Act.put, List.setIfInBounds_toArray, List.set_cons_zero, List.set_cons_succ]
            refine held_one 10 (by kernel_rfl) (by rfl) (fun K' hK' => ?_) 
            refine if_call4 (some 19) rfl (by rfl) 40 cf_join (.tmp 17) (.tmp 18) (.const (.slice none 0 0)) (.const (.slice none 0 0)) _ _ _ _ rfl _ _ _ _ rfl rfl rfl rfl (join_any _ _ none none _ _ _ _ 0 0 0 0 _ _ [] [] wu ((unhide SJ).kept bu) (unhide SY) (Src.ofNil _) (Src.ofNil _) (by rw [← lj]; simp [ha.len, hb.len, hc.len]) (by omega) (by omega) (by omega)) ?_
            rintro e wk ⟨Ak, kk, ck, rfl, sk, bk⟩
            refine ⟨_, rfl, ?_⟩
            have dk := du.trans (bk.mono du.size)
            have SK := hide sk
            clear sk
            refine hK'.out _ _ (dk) ?_
            clear hK' K'
            simp only [Act.put, List.setIfInBounds_toArray, List.set_cons_zero, List.set_cons_succ]
            refine held_takeD 11 (.slice Ak kk ck) (some 8) (by rfl) (by rfl) (by kernel_rfl) (by kernel_rfl) (by kernel_rfl) (fun _ _ _ h => h) (.inl ⟨by rfl, fun _ _ => by rfl⟩) (dk) ?_
            simp only [Act.put, List.setIfInBounds_toArray, List.set_cons_zero, List.set_cons_succ]
            refine wpAnyH_done (by kernel_rfl) ?_ _
            refine NoPanic.normal ?_
            go_wp2_with fail
            go_meet
            case rel => exact ⟨Ak, kk, ck, rfl, by rw [unhide HE]; exact unhide SK, dk⟩
          · as_aux_lemma =>
            refine if_build_lit (some 18) rfl (by rfl) 30 6 [(0, .const (.int .u8 95)), (1, .const (.int .u8 82)), (2, .const (.int .u8 96)), (3, .const (.int .u8 32)), (4, .const (.int .u8 95)), (5, .const (.int .u8 243))] rfl 5 (bv [95, 82, 96, 32, 95, 243]) (run_lit6 _) (fun wu ru bu su => ?_)
            have du := dr.trans (bu.mono dr.size)
            have sy1 := OwnT.src_all (g := _) ru hby6 6 rfl (by unfold maxLen; omega)
            have SY := hide sy1
            clear sy1 ru
            refine hK'.out _ _ (du) ?_
            clear hK' K'
            simp only [Act.put, List.setIfInBounds_toArray, List.set_cons_zero, List.set_cons_succ]
            refine held_one 8 (by kernel_rfl) (by rfl) (fun K' hK' => ?_) 
            refine if_call4 (some 17) rfl (by rfl) 40 cf_join (.tmp 10) (.tmp 12) (.tmp 14) (.tmp 16) _ _ _ _ rfl _ _ _ _ rfl rfl rfl rfl (join_any _ _ _ _ _ _ _ _ _ _ _ _ _ _ _ _ wu ((unhide SP).kept (((bx.trans (bq.mono bx.size)).trans (br.mono (bx.trans (bq.mono bx.size)).size)).trans (bu.mono ((bx.trans (bq.mono bx.size)).trans (br.mono (bx.trans (bq.mono bx.size)).size)).size))) ((unhide SQ).kept (br.trans (bu.mono br.size))) ((unhide SR).kept bu) ((unhide SX).kept ((bq.trans (br.mono bq.size)).trans (bu.mono (bq.trans (br.mono bq.size)).size))) (by rw [← lp]; simp [hc.len]) (by rw [← lq]; simp [hb.len]) (by rw [← lr]; simp [ha.len]) (by omega)) ?_
            rintro e wj ⟨Aj, kj, cj, rfl, sj, bj⟩
            refine ⟨_, rfl, ?_⟩
            have dj := du.trans (bj.mono du.size)
            have SJ := hide sj
            have lj := sj.len_eq
            clear sj
            refine hK'.out _ _ (dj) ?_
            clear hK' K'
            simp only [Act.put, List.setIfInBounds_toArray, List.set_cons_zero, List.set_cons_succ]
            refine held_one 10 (by kernel_rfl) (by rfl) (fun K' hK' => ?_) 
            refine if_call4 (some 19) rfl (by rfl) 40 cf_join (.tmp 17) (.tmp 18) (.const (.slice none 0 0)) (.const (.slice none 0 0)) _ _ _ _ rfl _ _ _ _ rfl rfl rfl rfl (join_any _ _ none none _ _ _ _ 0 0 0 0 _ _ [] [] wj (unhide SJ) ((unhide SY).kept bj) (Src.ofNil _) (Src.ofNil _) (by rw [← lj]; simp [ha.len, hb.len, hc.len]) (by omega) (by omega) (by omega)) ?_
            rintro e wk ⟨Ak, kk, ck, rfl, sk, bk⟩
            refine ⟨_, rfl, ?_⟩
            have dk := dj.trans (bk.mono dj.size)
            have SK := hide sk
            clear sk
            refine hK'.out _ _ (dk) ?_
            clear hK' K'
            simp only [Act.put, List.setIfInBounds_toArray, List.set_cons_zero, List.set_cons_succ]
            refine held_takeD 11 (.slice Ak kk ck) (some 8) (by rfl) (by rfl) (by kernel_rfl) (by kernel_rfl) (by kernel_rfl) (fun _ _ _ h => h) (.inl ⟨by rfl, fun _ _ => by rfl⟩) (dk) ?_
            simp only [Act.put, List.setIfInBounds_toArray, List.set_cons_zero, List.set_cons_succ]
            refine wpAnyH_done (by kernel_rfl) ?_ _
            refine NoPanic.normal ?_
            go_wp2_with fail
            go_meet
            case rel => exact ⟨Ak, kk, ck, rfl, by rw [unhide HE]; exact unhide SK, dk⟩
        · as_aux_lemma =>
          refine if_build_lit (some 18) rfl (by rfl) 30 6 [(0, .const (.int .u8 95)), (1, .const (.int .u8 82)), (2, .const (.int .u8 96)), (3, .const (.int .u8 32)), (4, .const (.int .u8 95)), (5, .const (.int .u8 243))] rfl 5 (bv [95, 82, 96, 32, 95, 243]) (run_lit6 _) (fun wu ru bu su => ?_)
          have du := dq.trans (bu.mono dq.size)
          have sy1 := OwnT.src_all (g := _) ru hby6 6 rfl (by unfold maxLen; omega)
          have SY := hide sy1
          clear sy1 ru
          refine hK'.out _ _ (du) ?_
          clear hK' K'
          simp only [Act.put, List.setIfInBounds_toArray, List.set_cons_zero, List.set_cons_succ]
          refine held_one 5 (by kernel_rfl) (by rfl) (fun K' hK' => ?_) 
          refine if_call1 (some 14) rfl (by rfl) 42 cf_push32 (.tmp 13) _ rfl _ rfl (push32_any a ha wu) ?_
          rintro e wr ⟨Ar, kr, cr, rfl, sr, br⟩
          refine ⟨_, rfl, ?_⟩
          have dr := du.trans (br.mono du.size)
          have SR := hide sr
          have lr := sr.len_eq
          clear sr
          refine hK'.out _ _ (dr) ?_
          clear hK' K'
          simp only [Act.put, List.setIfInBounds_toArray, List.set_cons_zero, List.set_cons_succ]
          refine held_one 8 (by kernel_rfl) (by rfl) (fun K' hK' => ?_) 
          refine if_call4 (some 17) rfl (by rfl) 40 cf_join (.tmp 10) (.tmp 12) (.tmp 14) (.tmp 16) _ _ _ _ rfl _ _ _ _ rfl rfl rfl rfl (join_any _ _ _ _ _ _ _ _ _ _ _ _ _ _ _ _ wr ((unhide SP).kept (((bx.trans (bq.mono bx.size)).trans (bu.mono (bx.trans (bq.mono bx.size)).size)).trans (br.mono ((bx.trans (bq.mono bx.size)).trans (bu.mono (bx.trans (bq.mono bx.size)).size)).size))) ((unhide SQ).kept (bu.trans (br.mono bu.size))) (unhide SR) ((unhide SX).kept ((bq.trans (bu.mono bq.size)).trans (br.mono (bq.trans (bu.mono bq.size)).size))) (by rw [← lp]; simp [hc.len]) (by rw [← lq]; simp [hb.len]) (by rw [← lr]; simp [ha.len]) (by omega)) ?_
          rintro e wj ⟨Aj, kj, cj, rfl, sj, bj⟩
          refine ⟨_, rfl, ?_⟩
          have dj := dr.trans (bj.mono dr.size)
          have SJ := hide sj
          have lj := sj.len_eq
          clear sj
          refine hK'.out _ _ (dj) ?_
          clear hK' K'
          simp only [Act.put, List.setIfInBounds_toArray, List.set_cons_zero, List.set_cons_succ]
          refine held_one 10 (by kernel_rfl) (by rfl) (fun K' hK' => ?_) 
          refine if_call4 (some 19) rfl (by rfl) 40 cf_join (.tmp 17) (.tmp 18) (.const (.slice none 0 0)) (.const (.slice none 0 0)) _ _ _ _ rfl _ _ _ _ rfl rfl rfl rfl (join_any _ _ none none _ _ _ _ 0 0 0 0 _ _ [] [] wj (unhide SJ) ((unhide SY).kept (br.trans (bj.mono br.size))) (Src.ofNil _) (Src.ofNil _) (by rw [← lj]; simp [ha.len, hb.len, hc.len]) (by omega) (by omega) (by omega)) ?_
          rintro e wk ⟨Ak, kk, ck, rfl, sk, bk⟩
          refine ⟨_, rfl, ?_⟩
          have dk := dj.trans (bk.mono dj.size)
          have SK := hide sk
          clear sk
          refine hK'.out _ _ (dk) ?_
          clear hK' K'
          simp only [Act.put, List.setIfInBounds_toArray, List.set_cons_zero, List.set_cons_succ]
          refine held_takeD 11 (.slice Ak kk ck) (some 8) (by rfl) (by rfl) (by kernel_rfl) (by kernel_rfl) (by kernel_rfl) (fun _ _ _ h => h) (.inl ⟨by rfl, fun _ _ => by rfl⟩) (dk) ?_
          simp only [Act.put, List.setIfInBounds_toArray, List.set_cons_zero, List.set_cons_succ]
          refine wpAnyH_done (by kernel_rfl) ?_ _
          refine NoPanic.normal ?_
          go_wp2_with fail
          go_meet
          case rel => exact ⟨Ak, kk, ck, rfl, by rw [unhide HE]; exact unhide SK, dk⟩
      · as_aux_lemma =>
        refine if_build_lit (some 18) rfl (by rfl) 30 6 [(0, .const (.int .u8 95)), (1, .const (.int .u8 82)), (2, .const (.int .u8 96)), (3, .const (.int .u8 32)), (4, .const (.int .u8 95)), (5, .const (.int .u8 243))] rfl 5 (bv [95, 82, 96, 32, 95, 243]) (run_lit6 _) (fun wu ru bu su => ?_)
        have du := dx.trans (bu.mono dx.size)
        have sy1 := OwnT.src_all (g := _) ru hby6 6 rfl (by unfold maxLen; omega)
        have SY := hide sy1
        clear sy1 ru
        refine hK'.out _ _ (du) ?_
        clear hK' K'
        simp only [Act.put, List.setIfInBounds_toArray, List.set_cons_zero, List.set_cons_succ]
        refine held_one 3 (by kernel_rfl) (by rfl) (fun K' hK' => ?_) 
        refine if_call1 (some 12) rfl (by rfl) 42 cf_push32 (.tmp 11) _ rfl _ rfl (push32_any b hb wu) ?_
        rintro e wq ⟨Aq, kq, cq, rfl, sq, bq⟩
        refine ⟨_, rfl, ?_⟩
        have dq := du.trans (bq.mono du.size)
        have SQ := hide sq
        have lq := sq.len_eq
        clear sq
        refine hK'.out _ _ (dq) ?_
        clear hK' K'
        simp only [Act.put, List.setIfInBounds_toArray, List.set_cons_zero, List.set_cons_succ]
        refine held_one 5 (by kernel_rfl) (by rfl) (fun K' hK' => ?_) 
        refine if_call1 (some 14) rfl (by rfl) 42 cf_push32 (.tmp 13) _ rfl _ rfl (push32_any a ha wq) ?_
        rintro e wr ⟨Ar, kr, cr, rfl, sr, br⟩
        refine ⟨_, rfl, ?_⟩
        have dr := dq.trans (br.mono dq.size)
        have SR := hide sr
        have lr := sr.len_eq
        clear sr
        refine hK'.out _ _ (dr) ?_
        clear hK' K'
        simp only [Act.put, List.setIfInBounds_toArray, List.set_cons_zero, List.set_cons_succ]
        refine held_one 8 (by kernel_rfl) (by rfl) (fun K' hK' => ?_) 
        refine if_call4 (some 17) rfl (by rfl) 40 cf_join (.tmp 10) (.tmp 12) (.tmp 14) (.tmp 16) _ _ _ _ rfl _ _ _ _ rfl rfl rfl rfl (join_any _ _ _ _ _ _ _ _ _ _ _ _ _ _ _ _ wr ((unhide SP).kept (((bx.trans (bu.mono bx.size)).trans (bq.mono (bx.trans (bu.mono bx.size)).size)).trans (br.mono ((bx.trans (bu.mono bx.size)).trans (bq.mono (bx.trans (bu.mono bx.size)).size)).size))) ((unhide SQ).kept br) (unhide SR) ((unhide SX).kept ((bu.trans (bq.mono bu.size)).trans (br.mono (bu.trans (bq.mono bu.size)).size))) (by rw [← lp]; simp [hc.len]) (by rw [← lq]; simp [hb.len]) (by rw [← lr]; simp [ha.len]) (by omega)) ?_
        rintro e wj ⟨Aj, kj, cj, rfl, sj, bj⟩
        refine ⟨_, rfl, ?_⟩
        have dj := dr.trans (bj.mono dr.size)
        have SJ := hide sj
        have lj := sj.len_eq
        clear sj
        refine hK'.out _ _ (dj) ?_
        clear hK' K'
        simp only [Act.put, List.setIfInBounds_toArray, List.set_cons_zero, List.set_cons_succ]
        refine held_one 10 (by kernel_rfl) (by rfl) (fun K' hK' => ?_) 
        refine if_call4 (some 19) rfl (by rfl) 40 cf_join (.tmp 17) (.tmp 18) (.const (.slice none 0 0)) (.const (.slice none 0 0)) _ _ _ _ rfl _ _ _ _ rfl rfl rfl rfl (join_any _ _ none none _ _ _ _ 0 0 0 0 _ _ [] [] wj (unhide SJ) ((unhide SY).kept ((bq.trans (br.mono bq.size)).trans (bj.mono (bq.trans (br.mono bq.size)).size))) (Src.ofNil _) (Src.ofNil _) (by rw [← lj]; simp [ha.len, hb.len, hc.len]) (by omega) (by omega) (by omega)) ?_
        rintro e wk ⟨Ak, kk, ck, rfl, sk, bk⟩
        refine ⟨_, rfl, ?_⟩
        have dk := dj.trans (bk.mono dj.size)
        have SK := hide sk
        clear sk
        refine hK'.out _ _ (dk) ?_
        clear hK' K'
        simp only [Act.put, List.setIfInBounds_toArray, List.set_cons_zero, List.set_cons_succ]
        refine held_takeD 11 (.slice Ak kk ck) (some 8) (by rfl) (by rfl) (by kernel_rfl) (by kernel_rfl) (by kernel_rfl) (fun _ _ _ h => h) (.inl ⟨by rfl, fun _ _ => by rfl⟩) (dk) ?_
        simp only [Act.put, List.setIfInBounds_toArray, List.set_cons_zero, List.set_cons_succ]
        refine wpAnyH_done (by kernel_rfl) ?_ _
        refine NoPanic.normal ?_
        go_wp2_with fail
        go_meet
        case rel => exact ⟨Ak, kk, ck, rfl, by rw [unhide HE]; exact unhide SK, dk⟩
    · as_aux_lemma =>
      refine if_build_lit (some 18) rfl (by rfl) 30 6 [(0, .const (.int .u8 95)), (1, .const (.int .u8 82)), (2, .const (.int .u8 96)), (3, .const (.int .u8 32)), (4, .const (.int .u8 95)), (5, .const (.int .u8 243))] rfl 5 (bv [95, 82, 96, 32, 95, 243]) (run_lit6 _) (fun wu ru bu su => ?_)
      have du := dp.trans (bu.mono dp.size)
      have sy1 := OwnT.src_all (g := _) ru hby6 6 rfl (by unfold maxLen; omega)
      have SY := hide sy1
      clear sy1 ru
      refine hK'.out _ _ (du) ?_
      clear hK' K'
      simp only [Act.put, List.setIfInBounds_toArray, List.set_cons_zero, List.set_cons_succ]
      refine held_two 3 7 (by kernel_rfl) (by rfl) (by rfl) (fun K' hK' => ?_) (fun K' hK' => ?_) 
      · as_aux_lemma =>
        refine if_call1 (some 12) rfl (by rfl) 42 cf_push32 (.tmp 11) _ rfl _ rfl (push32_any b hb wu) ?_
        rintro e wq ⟨Aq, kq, cq, rfl, sq, bq⟩
        refine ⟨_, rfl, ?_⟩
        have dq := du.trans (bq.mono du.size)
        have SQ := hide sq
        have lq := sq.len_eq
        clear sq
        refine hK'.out _ _ (dq) ?_
        clear hK' K'
        simp only [Act.put, List.setIfInBounds_toArray, List.set_cons_zero, List.set_cons_succ]
        refine held_two 5 7 (by kernel_rfl) (by rfl) (by rfl) (fun K' hK' => ?_) (fun K' hK' => ?_) 
        · as_aux_lemma =>
          refine if_call1 (some 14) rfl (by rfl) 42 cf_push32 (.tmp 13) _ rfl _ rfl (push32_any a ha wq) ?_
          rintro e wr ⟨Ar, kr, cr, rfl, sr, br⟩
          refine ⟨_, rfl, ?_⟩
          have dr := dq.trans (br.mono dq.size)
          have SR := hide sr
          have lr := sr.len_eq
          clear sr
          refine hK'.out _ _ (dr) ?_
          clear hK' K'
          simp only [Act.put, List.setIfInBounds_toArray, List.set_cons_zero, List.set_cons_succ]
          refine held_one 7 (by kernel_rfl) (by rfl) (fun K' hK' => ?_) 
          refine if_build_lit (some 16) rfl (by rfl) 30 1 [(0, .tmp 15)] rfl 5 (bv [(o : Int)]) (run_lit1 _ _) (fun wx rx bx sx => ?_)
          have dx := dr.trans (bx.mono dr.size)
          have sx1 := OwnT.src_all (g := _) rx hby1 1 rfl (by unfold maxLen; omega)
          have SX := hide sx1
          clear sx1 rx
          refine hK'.out _ _ (dx) ?_
          clear hK' K'
          simp only [Act.put, List.setIfInBounds_toArray, List.set_cons_zero, List.set_cons_succ]
          refine held_one 8 (by kernel_rfl) (by rfl) (fun K' hK' => ?_) 
          refine if_call4 (some 17) rfl (by rfl) 40 cf_join (.tmp 10) (.tmp 12) (.tmp 14) (.tmp 16) _ _ _ _ rfl _ _ _ _ rfl rfl rfl rfl (join_any _ _ _ _ _ _ _ _ _ _ _ _ _ _ _ _ wx ((unhide SP).kept (((bu.trans (bq.mono bu.size)).trans (br.mono (bu.trans (bq.mono bu.size)).size)).trans (bx.mono ((bu.trans (bq.mono bu.size)).trans (br.mono (bu.trans (bq.mono bu.size)).size)).size))) ((unhide SQ).kept (br.trans (bx.mono br.size))) ((unhide SR).kept bx) (unhide SX) (by rw [← lp]; simp [hc.len]) (by rw [← lq]; simp [hb.len]) (by rw [← lr]; simp [ha.len]) (by omega)) ?_
          rintro e wj ⟨Aj, kj, cj, rfl, sj, bj⟩
          refine ⟨_, rfl, ?_⟩
          have dj := dx.trans (bj.mono dx.size)
          have SJ := hide sj
          have lj := sj.len_eq
          clear sj
          refine hK'.out _ _ (dj) ?_
          clear hK' K'
          simp only [Act.put, List.setIfInBounds_toArray, List.set_cons_zero, List.set_cons_succ]
          refine held_one 10 (by kernel_rfl) (by rfl) (fun K' hK' => ?_) 
          refine if_call4 (some 19) rfl (by rfl) 40 cf_join (.tmp 17) (.tmp 18) (.const (.slice none 0 0)) (.const (.slice none 0 0)) _ _ _ _ rfl _ _ _ _ rfl rfl rfl rfl (join_any _ _ none none _ _ _ _ 0 0 0 0 _ _ [] [] wj (unhide SJ) ((unhide SY).kept (((bq.trans (br.mono bq.size)).trans (bx.mono (bq.trans (br.mono bq.size)).size)).trans (bj.mono ((bq.trans (br.mono bq.size)).trans (bx.mono (bq.trans (br.mono bq.size)).size)).size))) (Src.ofNil _) (Src.ofNil _) (by rw [← lj]; simp [ha.len, hb.len, hc.len]) (by omega) (by omega) (by omega)) ?_
          rintro e wk ⟨Ak, kk, ck, rfl, sk, bk⟩
          refine ⟨_, rfl, ?_⟩
          have dk := dj.trans (bk.mono dj.size)
          have SK := hide sk
          clear sk
          refine hK'.out _ _ (dk) ?_
          clear hK' K'
          simp only [Act.put, List.setIfInBounds_toArray, List.set_cons_zero, List.set_cons_succ]
          refine held_takeD 11 (.slice Ak kk ck) (some 8) (by rfl) (by rfl) (by kernel_rfl) (by kernel_rfl) (by kernel_rfl) (fun _ _ _ h => h) (.inl ⟨by rfl, fun _ _ => by rfl⟩) (dk) ?_
          simp only [Act.put, List.setIfInBounds_toArray, List.set_cons_zero, List.set_cons_succ]
          refine wpAnyH_done (by kernel_rfl) ?_ _
          refine NoPanic.normal ?_
          go_wp2_with fail
          go_meet
          case rel => exact ⟨Ak, kk, ck, rfl, by rw [unhide HE]; exact unhide SK, dk⟩
        · as_aux_lemma =>
          refine if_build_lit (some 16) rfl (by rfl) 30 1 [(0, .tmp 15)] rfl 5 (bv [(o : Int)]) (run_lit1 _ _) (fun wx rx bx sx => ?_)
          have dx := dq.trans (bx.mono dq.size)
          have sx1 := OwnT.src_all (g := _) rx hby1 1 rfl (by unfold maxLen; omega)
          have SX := hide sx1
          clear sx1 rx
          refine hK'.out _ _ (dx) ?_
          clear hK' K'
          simp only [Act.put, List.setIfInBounds_toArray, List.set_cons_zero, List.set_cons_succ]
          refine held_one 5 (by kernel_rfl) (by rfl) (fun K' hK' => ?_) 
          refine if_call1 (some 14) rfl (by rfl) 42 cf_push32 (.tmp 13) _ rfl _ rfl (push32_any a ha wx) ?_
          rintro e wr ⟨Ar, kr, cr, rfl, sr, br⟩
          refine ⟨_, rfl, ?_⟩
          have dr := dx.trans (br.mono dx.size)
          have SR := hide sr
          have lr := sr.len_eq
          clear sr
          refine hK'.out _ _ (dr) ?_
          clear hK' K'
          simp only [Act.put, List.setIfInBounds_toArray, List.set_cons_zero, List.set_cons_succ]
          refine held_one 8 (by kernel_rfl) (by rfl) (fun K' hK' => ?_) 
          refine if_call4 (some 17) rfl (by rfl) 40 cf_join (.tmp 10) (.tmp 12) (.tmp 14) (.tmp 16) _ _ _ _ rfl _ _ _ _ rfl rfl rfl rfl (join_any _ _ _ _ _ _ _ _ _ _ _ _ _ _ _ _ wr ((unhide SP).kept (((bu.trans (bq.mono bu.size)).trans (bx.mono (bu.trans (bq.mono bu.size)).size)).trans (br.mono ((bu.trans (bq.mono bu.size)).trans (bx.mono (bu.trans (bq.mono bu.size)).size)).size))) ((unhide SQ).kept (bx.trans (br.mono bx.size))) (unhide SR) ((unhide SX).kept br) (by rw [← lp]; simp [hc.len]) (by rw [← lq]; simp [hb.len]) (by rw [← lr]; simp [ha.len]) (by omega)) ?_
          rintro e wj ⟨Aj, kj, cj, rfl, sj, bj⟩
          refine ⟨_, rfl, ?_⟩
          have dj := dr.trans (bj.mono dr.size)
          have SJ := hide sj
          have lj := sj.len_eq
          clear sj
          refine hK'.out _ _ (dj) ?_
          clear hK' K'
          simp only [Act.put, List.setIfInBounds_toArray, List.set_cons_zero, List.set_cons_succ]
          refine held_one 10 (by kernel_rfl) (by rfl) (fun K' hK' => ?_) 
          refine if_call4 (some 19) rfl (by rfl) 40 cf_join (.tmp 17) (.tmp 18) (.const (.slice none 0 0)) (.const (.slice none 0 0)) _ _ _ _ rfl _ _ _ _ rfl rfl rfl rfl (join_any _ _ none none _ _ _ _ 0 0 0 0 _ _ [] [] wj (unhide SJ) ((unhide SY).kept (((bq.trans (bx.mono bq.size)).trans (br.mono (bq.trans (bx.mono bq.size)).size)).trans (bj.mono ((bq.trans (bx.mono bq.size)).trans (br.mono (bq.trans (bx.mono bq.size)).size)).size))) (Src.ofNil _) (Src.ofNil _) (by rw [← lj]; simp [ha.len, hb.len, hc.len]) (by omega) (by omega) (by omega)) ?_
          rintro e wk ⟨Ak, kk, ck, rfl, sk, bk⟩
          refine ⟨_, rfl, ?_⟩
          have dk := dj.trans (bk.mono dj.size)
          have SK := hide sk
          clear sk
          refine hK'.out _ _ (dk) ?_
          clear hK' K'
          simp only [Act.put, List.setIfInBounds_toArray, List.set_cons_zero, List.set_cons_succ]
          refine held_takeD 11 (.slice Ak kk ck) (some 8) (by rfl) (by rfl) (by kernel_rfl) (by kernel_rfl) (by kernel_rfl) (fun _ _ _ h => h) (.inl ⟨by rfl, fun _ _ => by rfl⟩) (dk) ?_
          simp only [Act.put, List.setIfInBounds_toArray, List.set_cons_zero, List.set_cons_succ]
          refine wpAnyH_done (by kernel_rfl) ?_ _
          refine NoPanic.normal ?_
          go_wp2_with fail
          go_meet
          case rel => exact ⟨Ak, kk, ck, rfl, by rw [unhide HE]; exact unhide SK, dk⟩
      · as_aux_lemma =>
        refine if_build_lit (some 16) rfl (by rfl) 30 1 [(0, .tmp 15)] rfl 5 (bv [(o : Int)]) (run_lit1 _ _) (fun wx rx bx sx => ?_)
        have dx := du.trans (bx.mono du.size)
        have sx1 := OwnT.src_all (g := _) rx hby1 1 rfl (by unfold maxLen; omega)
        have SX := hide sx1
        clear sx1 rx
        refine hK'.out _ _ (dx) ?_
        clear hK' K'
        simp only [Act.put, List.setIfInBounds_toArray, List.set_cons_zero, List.set_cons_succ]
        refine held_one 3 (by kernel_rfl) (by rfl) (fun K' hK' => ?_) 
        refine if_call1 (some 12) rfl (by rfl) 42 cf_push32 (.tmp 11) _ rfl _ rfl (push32_any b hb wx) ?_
        rintro e wq ⟨Aq, kq, cq, rfl, sq, bq⟩
        refine ⟨_, rfl, ?_⟩
        have dq := dx.trans (bq.mono dx.size)
        have SQ := hide sq
        have lq := sq.len_eq
        clear sq
        refine hK'.out _ _ (dq) ?_
        clear hK' K'
        simp only [Act.put, List.setIfInBounds_toArray, List.set_cons_zero, List.set_cons_succ]
        refine held_one 5 (by kernel_rfl) (by rfl) (fun K' hK' => ?_) 
        refine if_call1 (some 14) rfl (by rfl) 42 cf_push32 (.tmp 13) _ rfl _ rfl (push32_any a ha wq) ?_
        rintro e wr ⟨Ar, kr, cr, rfl, sr, br⟩
        refine ⟨_, rfl, ?_⟩
        have dr := dq.trans (br.mono dq.size)
        have SR := hide sr
        have lr := sr.len_eq
        clear sr
        refine hK'.out _ _ (dr) ?_
        clear hK' K'
        simp only [Act.put, List.setIfInBounds_toArray, List.set_cons_zero, List.set_cons_succ]
        refine held_one 8 (by kernel_rfl) (by rfl) (fun K' hK' => ?_) 
        refine if_call4 (some 17) rfl (by rfl) 40 cf_join (.tmp 10) (.tmp 12) (.tmp 14) (.tmp 16) _ _ _ _ rfl _ _ _ _ rfl rfl rfl rfl (join_any _ _ _ _ _ _ _ _ _ _ _ _ _ _ _ _ wr ((unhide SP).kept (((bu.trans (bx.mono bu.size)).trans (bq.mono (bu.trans (bx.mono bu.size)).size)).trans (br.mono ((bu.trans (bx.mono bu.size)).trans (bq.mono (bu.trans (bx.mono bu.size)).size)).size))) ((unhide SQ).kept br) (unhide SR) ((unhide SX).kept (bq.trans (br.mono bq.size))) (by rw [← lp]; simp [hc.len]) (by rw [← lq]; simp [hb.len]) (by rw [← lr]; simp [ha.len]) (by omega)) ?_
        rintro e wj ⟨Aj, kj, cj, rfl, sj, bj⟩
        refine ⟨_, rfl, ?_⟩
        have dj := dr.trans (bj.mono dr.size)
        have SJ := hide sj
        have lj := sj.len_eq
        clear sj
        refine hK'.out _ _ (dj) ?_
        clear hK' K'
        simp only [Act.put, List.setIfInBounds_toArray, List.set_cons_zero, List.set_cons_succ]
        refine held_one 10 (by kernel_rfl) (by rfl) (fun K' hK' => ?_) 
        refine if_call4 (some 19) rfl (by rfl) 40 cf_join (.tmp 17) (.tmp 18) (.const (.slice none 0 0)) (.const (.slice none 0 0)) _ _ _ _ rfl _ _ _ _ rfl rfl rfl rfl (join_any _ _ none none _ _ _ _ 0 0 0 0 _ _ [] [] wj (unhide SJ) ((unhide SY).kept (((bx.trans (bq.mono bx.size)).trans (br.mono (bx.trans (bq.mono bx.size)).size)).trans (bj.mono ((bx.trans (bq.mono bx.size)).trans (br.mono (bx.trans (bq.mono bx.size)).size)).size))) (Src.ofNil _) (Src.ofNil _) (by rw [← lj]; simp [ha.len, hb.len, hc.len]) (by omega) (by omega) (by omega)) ?_
        rintro e wk ⟨Ak, kk, ck, rfl, sk, bk⟩
        refine ⟨_, rfl, ?_⟩
        have dk := dj.trans (bk.mono dj.size)
        have SK := hide sk
        clear sk
        refine hK'.out _ _ (dk) ?_
        clear hK' K'
        simp only [Act.put, List.setIfInBounds_toArray, List.set_cons_zero, List.set_cons_succ]
        refine held_takeD 11 (.slice Ak kk ck) (some 8) (by rfl) (by rfl) (by kernel_rfl) (by kernel_rfl) (by kernel_rfl) (fun _ _ _ h => h) (.inl ⟨by rfl, fun _ _ => by rfl⟩) (dk) ?_
        simp only [Act.put, List.setIfInBounds_toArray, List.set_cons_zero, List.set_cons_succ]
        refine wpAnyH_done (by kernel_rfl) ?_ _
        refine NoPanic.normal ?_
        go_wp2_with fail
        go_meet
        case rel => exact ⟨Ak, kk, ck, rfl, by rw [unhide HE]; exact unhide SK, dk⟩
  · as_aux_lemma =>
    refine if_build_lit (some 16) rfl (by rfl) 30 1 [(0, .tmp 15)] rfl 5 (bv [(o : Int)]) (run_lit1 _ _) (fun wx rx bx sx => ?_)
    have dx := dW.trans (bx.mono dW.size)
    have sx1 := OwnT.src_all (g := _) rx hby1 1 rfl (by unfold maxLen; omega)
    have SX := hide sx1
    clear sx1 rx
    refine hK'.out _ _ (dx) ?_
    clear hK' K'
    simp only [Act.put, List.setIfInBounds_toArray, List.set_cons_zero, List.set_cons_succ]
    refine held_two 1 9 (by kernel_rfl) (by rfl) (by rfl) (fun K' hK' => ?_) (fun K' hK' => ?_) 
    · as_aux_lemma =>
      refine if_call1 (some 10) rfl (by rfl) 42 cf_push32 (.tmp 9) _ rfl _ rfl (push32_any c hc wx) ?_
      rintro e wp ⟨Ap, kp, cp, rfl, sp, bp⟩
      refine ⟨_, rfl, ?_⟩
      have dp := dx.trans (bp.mono dx.size)
      have SP := hide sp
      have lp := sp.len_eq
      clear sp
      refine hK'.out _ _ (dp) ?_
      clear hK' K'
      simp only [Act.put, List.setIfInBounds_toArray, List.set_cons_zero, List.set_cons_succ]
      refine held_two 3 9 (by kernel_rfl) (by rfl) (by rfl) (fun K' hK' => ?_) (fun K' hK' => ?_) 
      · as_aux_lemma =>
        refine if_call1 (some 12) rfl (by rfl) 42 cf_push32 (.tmp 11) _ rfl _ rfl (push32_any b hb wp) ?_
        rintro e wq ⟨Aq, kq, cq, rfl, sq, bq⟩
        refine ⟨_, rfl, ?_⟩
        have dq := dp.trans (bq.mono dp.size)
        have SQ := hide sq
        have lq := sq.len_eq
        clear sq
        refine hK'.out _ _ (dq) ?_
        clear hK' K'
        simp only [Act.put, List.setIfInBounds_toArray, List.set_cons_zero, List.set_cons_succ]
        refine held_two 5 9 (by kernel_rfl) (by rfl) (by rfl) (fun K' hK' => ?_) (fun K' hK' => ?_) 
        · as_aux_lemma =>
          refine if_call1 (some 14) rfl (by rfl) 42 cf_push32 (.tmp 13) _ rfl _ rfl (push32_any a ha wq) ?_
          rintro e wr ⟨Ar, kr, cr, rfl, sr, br⟩
          refine ⟨_, rfl, ?_⟩
          have dr := dq.trans (br.mono dq.size)
          have SR := hide sr
          have lr := sr.len_eq
          clear sr
          refine hK'.out _ _ (dr) ?_
          clear hK' K'
          simp only [Act.put, List.setIfInBounds_toArray, List.set_cons_zero, List.set_cons_succ]
          refine held_two 8 9 (by kernel_rfl) (by rfl) (by rfl) (fun K' hK' => ?_) (fun K' hK' => ?_) 
          · as_aux_lemma =>
            refine if_call4 (some 17) rfl (by rfl) 40 cf_join (.tmp 10) (.tmp 12) (.tmp 14) (.tmp 16) _ _ _ _ rfl _ _ _ _ rfl rfl rfl rfl (join_any _ _ _ _ _ _ _ _ _ _ _ _ _ _ _ _ wr ((unhide SP).kept (bq.trans (br.mono bq.size))) ((unhide SQ).kept br) (unhide SR) ((unhide SX).kept ((bp.trans (bq.mono bp.size)).trans (br.mono (bp.trans (bq.mono bp.size)).size))) (by rw [← lp]; simp [hc.len]) (by rw [← lq]; simp [hb.len]) (by rw [← lr]; simp [ha.len]) (by omega)) ?_
            rintro e wj ⟨Aj, kj, cj, rfl, sj, bj⟩
            refine ⟨_, rfl, ?_⟩
            have dj := dr.trans (bj.mono dr.size)
            have SJ := hide sj
            have lj := sj.len_eq
            clear sj
            refine hK'.out _ _ (dj) ?_
            clear hK' K'
            simp only [Act.put, List.setIfInBounds_toArray, List.set_cons_zero, List.set_cons_succ]
            refine held_one 9 (by kernel_rfl) (by rfl) (fun K' hK' => ?_) 
            refine if_build_lit (some 18) rfl (by rfl) 30 6 [(0, .const (.int .u8 95)), (1, .const (.int .u8 82)), (2, .const (.int .u8 96)), (3, .const (.int .u8 32)), (4, .const (.int .u8 95)), (5, .const (.int .u8 243))] rfl 5 (bv [95, 82, 96, 32, 95, 243]) (run_lit6 _) (fun wu ru bu su => ?_)
            have du := dj.trans (bu.mono dj.size)
            have sy1 := OwnT.src_all (g := _) ru hby6 6 rfl (by unfold maxLen; omega)
            have SY := hide sy1
            clear sy1 ru
            refine hK'.out _ _ (du) ?_
            clear hK' K'
            simp only [Act.put, List.setIfInBounds_toArray, List.set_cons_zero, List.set_cons_succ]
            refine held_one 10 (by kernel_rfl) (by rfl) (fun K' hK' => ?_) 
            refine if_call4 (some 19) rfl (by rfl) 40 cf_join (.tmp 17) (.tmp 18) (.const (.slice none 0 0)) (.const (.slice none 0 0)) _ _ _ _ rfl _ _ _ _ rfl rfl rfl rfl (join_any _ _ none none _ _ _ _ 0 0 0 0 _ _ [] [] wu ((unhide SJ).kept bu) (unhide SY) (Src.ofNil _) (Src.ofNil _) (by rw [← lj]; simp [ha.len, hb.len, hc.len]) (by omega) (by omega) (by omega)) ?_
            rintro e wk ⟨Ak, kk, ck, rfl, sk, bk⟩
            refine ⟨_, rfl, ?_⟩
            have dk := du.trans (bk.mono du.size)
            have SK := hide sk
            clear sk
            refine hK'.out _ _ (dk) ?_
            clear hK' K'
            simp only [Act.put, List.setIfInBounds_toArray, List.set_cons_zero, List.set_cons_succ]
            refine held_takeD 11 (.slice Ak kk ck) (some 8) (by rfl) (by rfl) (by kernel_rfl) (by kernel_rfl) (by kernel_rfl) (fun _ _ _ h => h) (.inl ⟨by rfl, fun _ _ => by rfl⟩) (dk) ?_
            simp only [Act.put, List.setIfInBounds_toArray, List.set_cons_zero, List.set_cons_succ]
            refine wpAnyH_done (by kernel_rfl) ?_ _
            refine NoPanic.normal ?_
            go_wp2_with fail
            go_meet
            case rel => exact ⟨Ak, kk, ck, rfl, by rw [unhide HE]; exact unhide SK, dk⟩
          · as_aux_lemma =>
            refine if_build_lit (some 18) rfl (by rfl) 30 6 [(0, .const (.int .u8 95)), (1, .const (.int .u8 82)), (2, .const (.int .u8 96)), (3, .const (.int .u8 32)), (4, .const (.int .u8 95)), (5, .const (.int .u8 243))] rfl 5 (bv [95, 82, 96, 32, 95, 243]) (run_lit6 _) (fun wu ru bu su => ?_)
            have du := dr.trans (bu.mono dr.size)
            have sy1 := OwnT.src_all (g := _) ru hby6 6 rfl (by unfold maxLen; omega)
            have SY := hide sy1
            clear sy1 ru
            refine hK'.out _ _ (du) ?_
            clear hK' K'
            simp only [Act.put, List.setIfInBounds_toArray, List.set_cons_zero, List.set_cons_succ]
            refine held_one 8 (by kernel_rfl) (by rfl) (fun K' hK' => ?_) 
            refine if_call4 (some 17) rfl (by rfl) 40 cf_join (.tmp 10) (.tmp 12) (.tmp 14) (.tmp 16) _ _ _ _ rfl _ _ _ _ rfl rfl rfl rfl (join_any _ _ _ _ _ _ _ _ _ _ _ _ _ _ _ _ wu ((unhide SP).kept ((bq.trans (br.mono bq.size)).trans (bu.mono (bq.trans (br.mono bq.size)).size))) ((unhide SQ).kept (br.trans (bu.mono br.size))) ((unhide SR).kept bu) ((unhide SX).kept (((bp.trans (bq.mono bp.size)).trans (br.mono (bp.trans (bq.mono bp.size)).size)).trans (bu.mono ((bp.trans (bq.mono bp.size)).trans (br.mono (bp.trans (bq.mono bp.size)).size)).size))) (by rw [← lp]; simp [hc.len]) (by rw [← lq]; simp [hb.len]) (by rw [← lr]; simp [ha.len]) (by omega)) ?_
            rintro e wj ⟨Aj, kj, cj, rfl, sj, bj⟩
            refine ⟨_, rfl, ?_⟩
            have dj := du.trans (bj.mono du.size)
            have SJ := hide sj
            have lj := sj.len_eq
            clear sj
            refine hK'.out _ _ (dj) ?_
            clear hK' K'
            simp only [Act.put, List.setIfInBounds_toArray, List.set_cons_zero, List.set_cons_succ]
            refine held_one 10 (by kernel_rfl) (by rfl) (fun K' hK' => ?_) 
            refine if_call4 (some 19) rfl (by rfl) 40 cf_join (.tmp 17) (.tmp 18) (.const (.slice none 0 0)) (.const (.slice none 0 0)) _ _ _ _ rfl _ _ _ _ rfl rfl rfl rfl (join_any _ _ none none _ _ _ _ 0 0 0 0 _ _ [] [] wj (unhide SJ) ((unhide SY).kept bj) (Src.ofNil _) (Src.ofNil _) (by rw [← lj]; simp [ha.len, hb.len, hc.len]) (by omega) (by omega) (by omega)) ?_
            rintro e wk ⟨Ak, kk, ck, rfl, sk, bk⟩
            refine ⟨_, rfl, ?_⟩
            have dk := dj.trans (bk.mono dj.size)
            have SK := hide sk
            clear sk
            refine hK'.out _ _ (dk) ?_
            clear hK' K'
            simp only [Act.put, List.setIfInBounds_toArray, List.set_cons_zero, List.set_cons_succ]
            refine held_takeD 11 (.slice Ak kk ck) (some 8) (by rfl) (by rfl) (by kernel_rfl) (by kernel_rfl) (by kernel_rfl) (fun _ _ _ h => h) (.inl ⟨by rfl, fun _ _ => by rfl⟩) (dk) ?_
            simp only [Act.put, List.setIfInBounds_toArray, List.set_cons_zero, List.set_cons_succ]
            refine wpAnyH_done (by kernel_rfl) ?_ _
            refine NoPanic.normal ?_
            go_wp2_with fail
            go_meet
            case rel => exact ⟨Ak, kk, ck, rfl, by rw [unhide HE]; exact unhide SK, dk⟩
        · as_aux_lemma =>
          refine if_build_lit (some 18) rfl (by rfl) 30 6 [(0, .const (.int .u8 95)), (1, .const (.int .u8 82)), (2, .const (.int .u8 96)), (3, .const (.int .u8 32)), (4, .const (.int .u8 95)), (5, .const (.int .u8 243))] rfl 5 (bv [95, 82, 96, 32, 95, 243]) (run_lit6 _) (fun wu ru bu su => ?_)
          have du := dq.trans (bu.mono dq.size)
          have sy1 := OwnT.src_all (g := _) ru hby6 6 rfl (by unfold maxLen; omega)
          have SY := hide sy1
          clear sy1 ru
          refine hK'.out _ _ (du) ?_
          clear hK' K'
          simp only [Act.put, List.setIfInBounds_toArray, List.set_cons_zero, List.set_cons_succ]
          refine held_one 5 (by kernel_rfl) (by rfl) (fun K' hK' => ?_) 
          refine if_call1 (some 14) rfl (by rfl) 42 cf_push32 (.tmp 13) _ rfl _ rfl (push32_any a ha wu) ?_
          rintro e wr ⟨Ar, kr, cr, rfl, sr, br⟩
          refine ⟨_, rfl, ?_⟩
          have dr := du.trans (br.mono du.size)
          have SR := hide sr
          have lr := sr.len_eq
          clear sr
          refine hK'.out _ _ (dr) ?_
          clear hK' K'
          simp only [Act.put, List.setIfInBounds_toArray, List.set_cons_zero, List.set_cons_succ]
          refine held_one 8 (by kernel_rfl) (by rfl) (fun K' hK' => ?_) 
          refine if_call4 (some 17) rfl (by rfl) 40 cf_join (.tmp 10) (.tmp 12) (.tmp 14) (.tmp 16) _ _ _ _ rfl _ _ _ _ rfl rfl rfl rfl (join_any _ _ _ _ _ _ _ _ _ _ _ _ _ _ _ _ wr ((unhide SP).kept ((bq.trans (bu.mono bq.size)).trans (br.mono (bq.trans (bu.mono bq.size)).size))) ((unhide SQ).kept (bu.trans (br.mono bu.size))) (unhide SR) ((unhide SX).kept (((bp.trans (bq.mono bp.size)).trans (bu.mono (bp.trans (bq.mono bp.size)).size)).trans (br.mono ((bp.trans (bq.mono bp.size)).trans (bu.mono (bp.trans (bq.mono bp.size)).size)).size))) (by rw [← lp]; simp [hc.len]) (by rw [← lq]; simp [hb.len]) (by rw [← lr]; simp [ha.len]) (by omega)) ?_
          rintro e wj ⟨Aj, kj, cj, rfl, sj, bj⟩
          refine ⟨_, rfl, ?_⟩
          have dj := dr.trans (bj.mono dr.size)
          have SJ := hide sj
          have lj := sj.len_eq
          clear sj
          refine hK'.out _ _ (dj) ?_
          clear hK' K'
          simp only [Act.put, List.setIfInBounds_toArray, List.set_cons_zero, List.set_cons_succ]
          refine held_one 10 (by kernel_rfl) (by rfl) (fun K' hK' => ?_) 
          refine if_call4 (some 19) rfl (by rfl) 40 cf_join (.tmp 17) (.tmp 18) (.const (.slice none 0 0)) (.const (.slice none 0 0)) _ _ _ _ rfl _ _ _ _ rfl rfl rfl rfl (join_any _ _ none none _ _ _ _ 0 0 0 0 _ _ [] [] wj (unhide SJ) ((unhide SY).kept (br.trans (bj.mono br.size))) (Src.ofNil _) (Src.ofNil _) (by rw [← lj]; simp [ha.len, hb.len, hc.len]) (by omega) (by omega) (by omega)) ?_
          rintro e wk ⟨Ak, kk, ck, rfl, sk, bk⟩
          refine ⟨_, rfl, ?_⟩
          have dk := dj.trans (bk.mono dj.size)
          have SK := hide sk
          clear sk
          refine hK'.out _ _ (dk) ?_
          clear hK' K'
          simp only [Act.put, List.setIfInBounds_toArray, List.set_cons_zero, List.set_cons_succ]
          refine held_takeD 11 (.slice Ak kk ck) (some 8) (by rfl) (by rfl) (by kernel_rfl) (by kernel_rfl) (by kernel_rfl) (fun _ _ _ h => h) (.inl ⟨by rfl, fun _ _ => by rfl⟩) (dk) ?_
          simp only [Act.put, List.setIfInBounds_toArray, List.set_cons_zero, List.set_cons_succ]
          refine wpAnyH_done (by kernel_rfl) ?_ _
          refine NoPanic.normal ?_
          go_wp2_with fail
          go_meet
          case rel => exact ⟨Ak, kk, ck, rfl, by rw [unhide HE]; exact unhide SK, dk⟩
      · as_aux_lemma =>
        refine if_build_lit (some 18) rfl (by rfl) 30 6 [(0, .const (.int .u8 95)), (1, .const (.int .u8 82)), (2, .const (.int .u8 96)), (3, .const (.int .u8 32)), (4, .const (.int .u8 95)), (5, .const (.int .u8 243))] rfl 5 (bv [95, 82, 96, 32, 95, 243]) (run_lit6 _) (fun wu ru bu su => ?_)
        have du := dp.trans (bu.mono dp.size)
        have sy1 := OwnT.src_all (g := _) ru hby6 6 rfl (by unfold maxLen; omega)
        have SY := hide sy1
        clear sy1 ru
        refine hK'.out _ _ (du) ?_
        clear hK' K'
        simp only [Act.put, List.setIfInBounds_toArray, List.set_cons_zero, List.set_cons_succ]
        refine held_one 3 (by kernel_rfl) (by rfl) (fun K' hK' => ?_) 
        refine if_call1 (some 12) rfl (by rfl) 42 cf_push32 (.tmp 11) _ rfl _ rfl (push32_any b hb wu) ?_
        rintro e wq ⟨Aq, kq, cq, rfl, sq, bq⟩
        refine ⟨_, rfl, ?_⟩
        have dq := du.trans (bq.mono du.size)
        have SQ := hide sq
        have lq := sq.len_eq
        clear sq
        refine hK'.out _ _ (dq) ?_
        clear hK' K'
        simp only [Act.put, List.setIfInBounds_toArray, List.set_cons_zero, List.set_cons_succ]
        refine held_one 5 (by kernel_rfl) (by rfl) (fun K' hK' => ?_) 
        refine if_call1 (some 14) rfl (by rfl) 42 cf_push32 (.tmp 13) _ rfl _ rfl (push32_any a ha wq) ?_
        rintro e wr ⟨Ar, kr, cr, rfl, sr, br⟩
        refine ⟨_, rfl, ?_⟩
        have dr := dq.trans (br.mono dq.size)
        have SR := hide sr
        have lr := sr.len_eq
        clear sr
        refine hK'.out _ _ (dr) ?_
        clear hK' K'
        simp only [Act.put, List.setIfInBounds_toArray, List.set_cons_zero, List.set_cons_succ]
        refine held_one 8 (by kernel_rfl) (by rfl) (fun K' hK' => ?_) 
        refine if_call4 (some 17) rfl (by rfl) 40 cf_join (.tmp 10) (.tmp 12) (.tmp 14) (.tmp 16) _ _ _ _ rfl _ _ _ _ rfl rfl rfl rfl (join_any _ _ _ _ _ _ _ _ _ _ _ _ _ _ _ _ wr ((unhide SP).kept ((bu.trans (bq.mono bu.size)).trans (br.mono (bu.trans (bq.mono bu.size)).size))) ((unhide SQ).kept br) (unhide SR) ((unhide SX).kept (((bp.trans (bu.mono bp.size)).trans (bq.mono (bp.trans (bu.mono bp.size)).size)).trans (br.mono ((bp.trans (bu.mono bp.size)).trans (bq.mono (bp.trans (bu.mono bp.size)).size)).size))) (by rw [← lp]; simp [hc.len]) (by rw [← lq]; simp [hb.len]) (by rw [← lr]; simp [ha.len]) (by omega)) ?_
        rintro e wj ⟨Aj, kj, cj, rfl, sj, bj⟩
        refine ⟨_, rfl, ?_⟩
        have dj := dr.trans (bj.mono dr.size)
        have SJ := hide sj
        have lj := sj.len_eq
        clear sj
        refine hK'.out _ _ (dj) ?_
        clear hK' K'
        simp only [Act.put, List.setIfInBounds_toArray, List.set_cons_zero, List.set_cons_succ]
        refine held_one 10 (by kernel_rfl) (by rfl) (fun K' hK' => ?_) 
        refine if_call4 (some 19) rfl (by rfl) 40 cf_join (.tmp 17) (.tmp 18) (.const (.slice none 0 0)) (.const (.slice none 0 0)) _ _ _ _ rfl _ _ _ _ rfl rfl rfl rfl (join_any _ _ none none _ _ _ _ 0 0 0 0 _ _ [] [] wj (unhide SJ) ((unhide SY).kept ((bq.trans (br.mono bq.size)).trans (bj.mono (bq.trans (br.mono bq.size)).size))) (Src.ofNil _) (Src.ofNil _) (by rw [← lj]; simp [ha.len, hb.len, hc.len]) (by omega) (by omega) (by omega)) ?_
        rintro e wk ⟨Ak, kk, ck, rfl, sk, bk⟩
        refine ⟨_, rfl, ?_⟩
        have dk := dj.trans (bk.mono dj.size)
        have SK := hide sk
        clear sk
        refine hK'.out _ _ (dk) ?_
        clear hK' K'
        simp only [Act.put, List.setIfInBounds_toArray, List.set_cons_zero, List.set_cons_succ]
        refine held_takeD 11 (.slice Ak kk ck) (some 8) (by rfl) (by rfl) (by kernel_rfl) (by kernel_rfl) (by kernel_rfl) (fun _ _ _ h => h) (.inl ⟨by rfl, fun _ _ => by rfl⟩) (dk) ?_
        simp only [Act.put, List.setIfInBounds_toArray, List.set_cons_zero, List.set_cons_succ]
        refine wpAnyH_done (by kernel_rfl) ?_ _
        refine NoPanic.normal ?_
        go_wp2_with fail
        go_meet
        case rel => exact ⟨Ak, kk, ck, rfl, by rw [unhide HE]; exact unhide SK, dk⟩
    · as_aux_lemma =>
      refine if_build_lit (some 18) rfl (by rfl) 30 6 [(0, .const (.int .u8 95)), (1, .const (.int .u8 82)), (2, .const (.int .u8 96)), (3, .const (.int .u8 32)), (4, .const (.int .u8 95)), (5, .const (.int .u8 243))] rfl 5 (bv [95, 82, 96, 32, 95, 243]) (run_lit6 _) (fun wu ru bu su => ?_)
      have du := dx.trans (bu.mono dx.size)
      have sy1 := OwnT.src_all (g := _) ru hby6 6 rfl (by unfold maxLen; omega)
      have SY := hide sy1
      clear sy1 ru
      refine hK'.out _ _ (du) ?_
      clear hK' K'
      simp only [Act.put, List.setIfInBounds_toArray, List.set_cons_zero, List.set_cons_succ]
      refine held_one 1 (by kernel_rfl) (by rfl) (fun K' hK' => ?_) 
      refine if_call1 (some 10) rfl (by rfl) 42 cf_push32 (.tmp 9) _ rfl _ rfl (push32_any c hc wu) ?_
      rintro e wp ⟨Ap, kp, cp, rfl, sp, bp⟩
      refine ⟨_, rfl, ?_⟩
      have dp := du.trans (bp.mono du.size)
      have SP := hide sp
      have lp := sp.len_eq
      clear sp
      refine hK'.out _ _ (dp) ?_
      clear hK' K'
      simp only [Act.put, List.setIfInBounds_toArray, List.set_cons_zero, List.set_cons_succ]
      refine held_one 3 (by kernel_rfl) (by rfl) (fun K' hK' => ?_) 
      refine if_call1 (some 12) rfl (by rfl) 42 cf_push32 (.tmp 11) _ rfl _ rfl (push32_any b hb wp) ?_
      rintro e wq ⟨Aq, kq, cq, rfl, sq, bq⟩
      refine ⟨_, rfl, ?_⟩
      have dq := dp.trans (bq.mono dp.size)
      have SQ := hide sq
      have lq := sq.len_eq
      clear sq
      refine hK'.out _ _ (dq) ?_
      clear hK' K'
      simp only [Act.put, List.setIfInBounds_toArray, List.set_cons_zero, List.set_cons_succ]
      refine held_one 5 (by kernel_rfl) (by rfl) (fun K' hK' => ?_) 
      refine if_call1 (some 14) rfl (by rfl) 42 cf_push32 (.tmp 13) _ rfl _ rfl (push32_any a ha wq) ?_
      rintro e wr ⟨Ar, kr, cr, rfl, sr, br⟩
      refine ⟨_, rfl, ?_⟩
      have dr := dq.trans (br.mono dq.size)
      have SR := hide sr
      have lr := sr.len_eq
      clear sr
      refine hK'.out _ _ (dr) ?_
      clear hK' K'
      simp only [Act.put, List.setIfInBounds_toArray, List.set_cons_zero, List.set_cons_succ]
      refine held_one 8 (by kernel_rfl) (by rfl) (fun K' hK' => ?_) 
      refine if_call4 (some 17) rfl (by rfl) 40 cf_join (.tmp 10) (.tmp 12) (.tmp 14) (.tmp 16) _ _ _ _ rfl _ _ _ _ rfl rfl rfl rfl (join_any _ _ _ _ _ _ _ _ _ _ _ _ _ _ _ _ wr ((unhide SP).kept (bq.trans (br.mono bq.size))) ((unhide SQ).kept br) (unhide SR) ((unhide SX).kept (((bu.trans (bp.mono bu.size)).trans (bq.mono (bu.trans (bp.mono bu.size)).size)).trans (br.mono ((bu.trans (bp.mono bu.size)).trans (bq.mono (bu.trans (bp.mono bu.size)).size)).size))) (by rw [← lp]; simp [hc.len]) (by rw [← lq]; simp [hb.len]) (by rw [← lr]; simp [ha.len]) (by omega)) ?_
      rintro e wj ⟨Aj, kj, cj, rfl, sj, bj⟩
      refine ⟨_, rfl, ?_⟩
      have dj := dr.trans (bj.mono dr.size)
      have SJ := hide sj
      have lj := sj.len_eq
      clear sj
      refine hK'.out _ _ (dj) ?_
      clear hK' K'
      simp only [Act.put, List.setIfInBounds_toArray, List.set_cons_zero, List.set_cons_succ]
      refine held_one 10 (by kernel_rfl) (by rfl) (fun K' hK' => ?_) 
      refine if_call4 (some 19) rfl (by rfl) 40 cf_join (.tmp 17) (.tmp 18) (.const (.slice none 0 0)) (.const (.slice none 0 0)) _ _ _ _ rfl _ _ _ _ rfl rfl rfl rfl (join_any _ _ none none _ _ _ _ 0 0 0 0 _ _ [] [] wj (unhide SJ) ((unhide SY).kept (((bp.trans (bq.mono bp.size)).trans (br.mono (bp.trans (bq.mono bp.size)).size)).trans (bj.mono ((bp.trans (bq.mono bp.size)).trans (br.mono (bp.trans (bq.mono bp.size)).size)).size))) (Src.ofNil _) (Src.ofNil _) (by rw [← lj]; simp [ha.len, hb.len, hc.len]) (by omega) (by omega) (by omega)) ?_
      rintro e wk ⟨Ak, kk, ck, rfl, sk, bk⟩
      refine ⟨_, rfl, ?_⟩
      have dk := dj.trans (bk.mono dj.size)
      have SK := hide sk
      clear sk
      refine hK'.out _ _ (dk) ?_
      clear hK' K'
      simp only [Act.put, List.setIfInBounds_toArray, List.set_cons_zero, List.set_cons_succ]
      refine held_takeD 11 (.slice Ak kk ck) (some 8) (by rfl) (by rfl) (by kernel_rfl) (by kernel_rfl) (by kernel_rfl) (fun _ _ _ h => h) (.inl ⟨by rfl, fun _ _ => by rfl⟩) (dk) ?_
      simp only [Act.put, List.setIfInBounds_toArray, List.set_cons_zero, List.set_cons_succ]
      refine wpAnyH_done (by kernel_rfl) ?_ _
      refine NoPanic.normal ?_
      go_wp2_with fail
      go_meet
      case rel => exact ⟨Ak, kk, ck, rfl, by rw [unhide HE]; exact unhide SK, dk⟩
  · as_aux_lemma =>
    refine if_build_lit (some 18) rfl (by rfl) 30 6 [(0, .const (.int .u8 95)), (1, .const (.int .u8 82)), (2, .const (.int .u8 96)), (3, .const (.int .u8 32)), (4, .const (.int .u8 95)), (5, .const (.int .u8 243))] rfl 5 (bv [95, 82, 96, 32, 95, 243]) (run_lit6 _) (fun wu ru bu su => ?_)
    have du := dW.trans (bu.mono dW.size)
    have sy1 := OwnT.src_all (g := _) ru hby6 6 rfl (by unfold maxLen; omega)
    have SY := hide sy1
    clear sy1 ru
    refine hK'.out _ _ (du) ?_
    clear hK' K'
    simp only [Act.put, List.setIfInBounds_toArray, List.set_cons_zero, List.set_cons_succ]
    refine held_two 1 7 (by kernel_rfl) (by rfl) (by rfl) (fun K' hK' => ?_) (fun K' hK' => ?_) 
    · as_aux_lemma =>
      refine if_call1 (some 10) rfl (by rfl) 42 cf_push32 (.tmp 9) _ rfl _ rfl (push32_any c hc wu) ?_
      rintro e wp ⟨Ap, kp, cp, rfl, sp, bp⟩
      refine ⟨_, rfl, ?_⟩
      have dp := du.trans (bp.mono du.size)
      have SP := hide sp
      have lp := sp.len_eq
      clear sp
      refine hK'.out _ _ (dp) ?_
      clear hK' K'
      simp only [Act.put, List.setIfInBounds_toArray, List.set_cons_zero, List.set_cons_succ]
      refine held_two 3 7 (by kernel_rfl) (by rfl) (by rfl) (fun K' hK' => ?_) (fun K' hK' => ?_) 
      · as_aux_lemma =>
        refine if_call1 (some 12) rfl (by rfl) 42 cf_push32 (.tmp 11) _ rfl _ rfl (push32_any b hb wp) ?_
        rintro e wq ⟨Aq, kq, cq, rfl, sq, bq⟩
        refine ⟨_, rfl, ?_⟩
        have dq := dp.trans (bq.mono dp.size)
        have SQ := hide sq
        have lq := sq.len_eq
        clear sq
        refine hK'.out _ _ (dq) ?_
        clear hK' K'
        simp only [Act.put, List.setIfInBounds_toArray, List.set_cons_zero, List.set_cons_succ]
        refine held_two 5 7 (by kernel_rfl) (by rfl) (by rfl) (fun K' hK' => ?_) (fun K' hK' => ?_) 
        · as_aux_lemma =>
          refine if_call1 (some 14) rfl (by rfl) 42 cf_push32 (.tmp 13) _ rfl _ rfl (push32_any a ha wq) ?_
          rintro e wr ⟨Ar, kr, cr, rfl, sr, br⟩
          refine ⟨_, rfl, ?_⟩
          have dr := dq.trans (br.mono dq.size)
          have SR := hide sr
          have lr := sr.len_eq
          clear sr
          refine hK'.out _ _ (dr) ?_
          clear hK' K'
          simp only [Act.put, List.setIfInBounds_toArray, List.set_cons_zero, List.set_cons_succ]
          refine held_one 7 (by kernel_rfl) (by rfl) (fun K' hK' => ?_) 
          refine if_build_lit (some 16) rfl (by rfl) 30 1 [(0, .tmp 15)] rfl 5 (bv [(o : Int)]) (run_lit1 _ _) (fun wx rx bx sx => ?_)
          have dx := dr.trans (bx.mono dr.size)
          have sx1 := OwnT.src_all (g := _) rx hby1 1 rfl (by unfold maxLen; omega)
          have SX := hide sx1
          clear sx1 rx
          refine hK'.out _ _ (dx) ?_
          clear hK' K'
          simp only [Act.put, List.setIfInBounds_toArray, List.set_cons_zero, List.set_cons_succ]
          refine held_one 8 (by kernel_rfl) (by rfl) (fun K' hK' => ?_) 
          refine if_call4 (some 17) rfl (by rfl) 40 cf_join (.tmp 10) (.tmp 12) (.tmp 14) (.tmp 16) _ _ _ _ rfl _ _ _ _ rfl rfl rfl rfl (join_any _ _ _ _ _ _ _ _ _ _ _ _ _ _ _ _ wx ((unhide SP).kept ((bq.trans (br.mono bq.size)).trans (bx.mono (bq.trans (br.mono bq.size)).size))) ((unhide SQ).kept (br.trans (bx.mono br.size))) ((unhide SR).kept bx) (unhide SX) (by rw [← lp]; simp [hc.len]) (by rw [← lq]; simp [hb.len]) (by rw [← lr]; simp [ha.len]) (by omega)) ?_
          rintro e wj ⟨Aj, kj, cj, rfl, sj, bj⟩
          refine ⟨_, rfl, ?_⟩
          have dj := dx.trans (bj.mono dx.size)
          have SJ := hide sj
          have lj := sj.len_eq
          clear sj
          refine hK'.out _ _ (dj) ?_
          clear hK' K'
          simp only [Act.put, List.setIfInBounds_toArray, List.set_cons_zero, List.set_cons_succ]
          refine held_one 10 (by kernel_rfl) (by rfl) (fun K' hK' => ?_) 
          refine if_call4 (some 19) rfl (by rfl) 40 cf_join (.tmp 17) (.tmp 18) (.const (.slice none 0 0)) (.const (.slice none 0 0)) _ _ _ _ rfl _ _ _ _ rfl rfl rfl rfl (join_any _ _ none none _ _ _ _ 0 0 0 0 _ _ [] [] wj (unhide SJ) ((unhide SY).kept ((((bp.trans (bq.mono bp.size)).trans (br.mono (bp.trans (bq.mono bp.size)).size)).trans (bx.mono ((bp.trans (bq.mono bp.size)).trans (br.mono (bp.trans (bq.mono bp.size)).size)).size)).trans (bj.mono (((bp.trans (bq.mono bp.size)).trans (br.mono (bp.trans (bq.mono bp.size)).size)).trans (bx.mono ((bp.trans (bq.mono bp.size)).trans (br.mono (bp.trans (bq.mono bp.size)).size)).size)).size))) (Src.ofNil _) (Src.ofNil _) (by rw [← lj]; simp [ha.len, hb.len, hc.len]) (by omega) (by omega) (by omega)) ?_
          rintro e wk ⟨Ak, kk, ck, rfl, sk, bk⟩
          refine ⟨_, rfl, ?_⟩
          have dk := dj.trans (bk.mono dj.size)
          have SK := hide sk
          clear sk
          refine hK'.out _ _ (dk) ?_
          clear hK' K'
          simp only [Act.put, List.setIfInBounds_toArray, List.set_cons_zero, List.set_cons_succ]
          refine held_takeD 11 (.slice Ak kk ck) (some 8) (by rfl) (by rfl) (by kernel_rfl) (by kernel_rfl) (by kernel_rfl) (fun _ _ _ h => h) (.inl ⟨by rfl, fun _ _ => by rfl⟩) (dk) ?_
          simp only [Act.put, List.setIfInBounds_toArray, List.set_cons_zero, List.set_cons_succ]
          refine wpAnyH_done (by kernel_rfl) ?_ _
          refine NoPanic.normal ?_
          go_wp2_with fail
          go_meet
          case rel => exact ⟨Ak, kk, ck, rfl, by rw [unhide HE]; exact unhide SK, dk⟩
        · as_aux_lemma =>
          refine if_build_lit (some 16) rfl (by rfl) 30 1 [(0, .tmp 15)] rfl 5 (bv [(o : Int)]) (run_lit1 _ _) (fun wx rx bx sx => ?_)
          have dx := dq.trans (bx.mono dq.size)
          have sx1 := OwnT.src_all (g := _) rx hby1 1 rfl (by unfold maxLen; omega)
          have SX := hide sx1
          clear sx1 rx
          refine hK'.out _ _ (dx) ?_
          clear hK' K'
          simp only [Act.put, List.setIfInBounds_toArray, List.set_cons_zero, List.set_cons_succ]
          refine held_one 5 (by kernel_rfl) (by rfl) (fun K' hK' => ?_) 
          refine if_call1 (some 14) rfl (by rfl) 42 cf_push32 (.tmp 13) _ rfl _ rfl (push32_any a ha wx) ?_
          rintro e wr ⟨Ar, kr, cr, rfl, sr, br⟩
          refine ⟨_, rfl, ?_⟩
          have dr := dx.trans (br.mono dx.size)
          have SR := hide sr
          have lr := sr.len_eq
          clear sr
          refine hK'.out _ _ (dr) ?_
          clear hK' K'
          simp only [Act.put, List.setIfInBounds_toArray, List.set_cons_zero, List.set_cons_succ]
          refine held_one 8 (by kernel_rfl) (by rfl) (fun K' hK' => ?_) 
          refine if_call4 (some 17) rfl (by rfl) 40 cf_join (.tmp 10) (.tmp 12) (.tmp 14) (.tmp 16) _ _ _ _ rfl _ _ _ _ rfl rfl rfl rfl (join_any _ _ _ _ _ _ _ _ _ _ _ _ _ _ _ _ wr ((unhide SP).kept ((bq.trans (bx.mono bq.size)).trans (br.mono (bq.trans (bx.mono bq.size)).size))) ((unhide SQ).kept (bx.trans (br.mono bx.size))) (unhide SR) ((unhide SX).kept br) (by rw [← lp]; simp [hc.len]) (by rw [← lq]; simp [hb.len]) (by rw [← lr]; simp [ha.len]) (by omega)) ?_
          rintro e wj ⟨Aj, kj, cj, rfl, sj, bj⟩
          refine ⟨_, rfl, ?_⟩
          have dj := dr.trans (bj.mono dr.size)
          have SJ := hide sj
          have lj := sj.len_eq
          clear sj
          refine hK'.out _ _ (dj) ?_
          clear hK' K'
          simp only [Act.put, List.setIfInBounds_toArray, List.set_cons_zero, List.set_cons_succ]
          refine held_one 10 (by kernel_rfl) (by rfl) (fun K' hK' => ?_) 
          refine if_call4 (some 19) rfl (by rfl) 40 cf_join (.tmp 17) (.tmp 18) (.const (.slice none 0 0)) (.const (.slice none 0 0)) _ _ _ _ rfl _ _ _ _ rfl rfl rfl rfl (join_any _ _ none none _ _ _ _ 0 0 0 0 _ _ [] [] wj (unhide SJ) ((unhide SY).kept ((((bp.trans (bq.mono bp.size)).trans (bx.mono (bp.trans (bq.mono bp.size)).size)).trans (br.mono ((bp.trans (bq.mono bp.size)).trans (bx.mono (bp.trans (bq.mono bp.size)).size)).size)).trans (bj.mono (((bp.trans (bq.mono bp.size)).trans (bx.mono (bp.trans (bq.mono bp.size)).size)).trans (br.mono ((bp.trans (bq.mono bp.size)).trans (bx.mono (bp.trans (bq.mono bp.size)).size)).size)).size))) (Src.ofNil _) (Src.ofNil _) (by rw [← lj]; simp [ha.len, hb.len, hc.len]) (by omega) (by omega) (by omega)) ?_
          rintro e wk ⟨Ak, kk, ck, rfl, sk, bk⟩
          refine ⟨_, rfl, ?_⟩
          have dk := dj.trans (bk.mono dj.size)
          have SK := hide sk
          clear sk
          refine hK'.out _ _ (dk) ?_
          clear hK' K'
          simp only [Act.put, List.setIfInBounds_toArray, List.set_cons_zero, List.set_cons_succ]
          refine held_takeD 11 (.slice Ak kk ck) (some 8) (by rfl) (by rfl) (by kernel_rfl) (by kernel_rfl) (by kernel_rfl) (fun _ _ _ h => h) (.inl ⟨by rfl, fun _ _ => by rfl⟩) (dk) ?_
          simp only [Act.put, List.setIfInBounds_toArray, List.set_cons_zero, List.set_cons_succ]
          refine wpAnyH_done (by kernel_rfl) ?_ _
          refine NoPanic.normal ?_
          go_wp2_with fail
          go_meet
          case rel => exact ⟨Ak, kk, ck, rfl, by rw [unhide HE]; exact unhide SK, dk⟩
      · as_aux_lemma =>
        refine if_build_lit (some 16) rfl (by rfl) 30 1 [(0, .tmp 15)] rfl 5 (bv [(o : Int)]) (run_lit1 _ _) (fun wx rx bx sx => ?_)
        have dx := dp.trans (bx.mono dp.size)
        have sx1 := OwnT.src_all (g := _) rx hby1 1 rfl (by unfold maxLen; omega)
        have SX := hide sx1
        clear sx1 rx
        refine hK'.out _ _ (dx) ?_
        clear hK' K'
        simp only [Act.put, List.setIfInBounds_toArray, List.set_cons_zero, List.set_cons_succ]
        refine held_one 3 (by kernel_rfl) (by rfl) (fun K' hK' => ?_) 
        refine if_call1 (some 12) rfl (by rfl) 42 cf_push32 (.tmp 11) _ rfl _ rfl (push32_any b hb wx) ?_
        rintro e wq ⟨Aq, kq, cq, rfl, sq, bq⟩
        refine ⟨_, rfl, ?_⟩
        have dq := dx.trans (bq.mono dx.size)
        have SQ := hide sq
        have lq := sq.len_eq
        clear sq
        refine hK'.out _ _ (dq) ?_
        clear hK' K'
        simp only [Act.put, List.setIfInBounds_toArray, List.set_cons_zero, List.set_cons_succ]
        refine held_one 5 (by kernel_rfl) (by rfl) (fun K' hK' => ?_) 
        refine if_call1 (some 14) rfl (by rfl) 42 cf_push32 (.tmp 13) _ rfl _ rfl (push32_any a ha wq) ?_
        rintro e wr ⟨Ar, kr, cr, rfl, sr, br⟩
        refine ⟨_, rfl, ?_⟩
        have dr := dq.trans (br.mono dq.size)
        have SR := hide sr
        have lr := sr.len_eq
        clear sr
        refine hK'.out _ _ (dr) ?_
        clear hK' K'
        simp only [Act.put, List.setIfInBounds_toArray, List.set_cons_zero, List.set_cons_succ]
        refine held_one 8 (by kernel_rfl) (by rfl) (fun K' hK' => ?_) 
        refine if_call4 (some 17) rfl (by rfl) 40 cf_join (.tmp 10) (.tmp 12) (.tmp 14) (.tmp 16) _ _ _ _ rfl _ _ _ _ rfl rfl rfl rfl (join_any _ _ _ _ _ _ _ _ _ _ _ _ _ _ _ _ wr ((unhide SP).kept ((bx.trans (bq.mono bx.size)).trans (br.mono (bx.trans (bq.mono bx.size)).size))) ((unhide SQ).kept br) (unhide SR) ((unhide SX).kept (bq.trans (br.mono bq.size))) (by rw [← lp]; simp [hc.len]) (by rw [← lq]; simp [hb.len]) (by rw [← lr]; simp [ha.len]) (by omega)) ?_
        rintro e wj ⟨Aj, kj, cj, rfl, sj, bj⟩
        refine ⟨_, rfl, ?_⟩
        have dj := dr.trans (bj.mono dr.size)
        have SJ := hide sj
        have lj := sj.len_eq
        clear sj
        refine hK'.out _ _ (dj) ?_
        clear hK' K'
        simp only [Act.put, List.setIfInBounds_toArray, List.set_cons_zero, List.set_cons_succ]
        refine held_one 10 (by kernel_rfl) (by rfl) (fun K' hK' => ?_) 
        refine if_call4 (some 19) rfl (by rfl) 40 cf_join (.tmp 17) (.tmp 18) (.const (.slice none 0 0)) (.const (.slice none 0 0)) _ _ _ _ rfl _ _ _ _ rfl rfl rfl rfl (join_any _ _ none none _ _ _ _ 0 0 0 0 _ _ [] [] wj (unhide SJ) ((unhide SY).kept ((((bp.trans (bx.mono bp.size)).trans (bq.mono (bp.trans (bx.mono bp.size)).size)).trans (br.mono ((bp.trans (bx.mono bp.size)).trans (bq.mono (bp.trans (bx.mono bp.size)).size)).size)).trans (bj.mono (((bp.trans (bx.mono bp.size)).trans (bq.mono (bp.trans (bx.mono bp.size)).size)).trans (br.mono ((bp.trans (bx.mono bp.size)).trans (bq.mono (bp.trans (bx.mono bp.size)).size)).size)).size))) (Src.ofNil _) (Src.ofNil _) (by rw [← lj]; simp [ha.len, hb.len, hc.len]) (by omega) (by omega) (by omega)) ?_
        rintro e wk ⟨Ak, kk, ck, rfl, sk, bk⟩
        refine ⟨_, rfl, ?_⟩
        have dk := dj.trans (bk.mono dj.size)
        have SK := hide sk
        clear sk
        refine hK'.out _ _ (dk) ?_
        clear hK' K'
        simp only [Act.put, List.setIfInBounds_toArray, List.set_cons_zero, List.set_cons_succ]
        refine held_takeD 11 (.slice Ak kk ck) (some 8) (by rfl) (by rfl) (by kernel_rfl) (by kernel_rfl) (by kernel_rfl) (fun _ _ _ h => h) (.inl ⟨by rfl, fun _ _ => by rfl⟩) (dk) ?_
        simp only [Act.put, List.setIfInBounds_toArray, List.set_cons_zero, List.set_cons_succ]
        refine wpAnyH_done (by kernel_rfl) ?_ _
        refine NoPanic.normal ?_
        go_wp2_with fail
        go_meet
        case rel => exact ⟨Ak, kk, ck, rfl, by rw [unhide HE]; exact unhide SK, dk⟩
    · as_aux_lemma =>
      refine if_build_lit (some 16) rfl (by rfl) 30 1 [(0, .tmp 15)] rfl 5 (bv [(o : Int)]) (run_lit1 _ _) (fun wx rx bx sx => ?_)
      have dx := du.trans (bx.mono du.size)
      have sx1 := OwnT.src_all (g := _) rx hby1 1 rfl (by unfold maxLen; omega)
      have SX := hide sx1
      clear sx1 rx
      refine hK'.out _ _ (dx) ?_
      clear hK' K'
      simp only [Act.put, List.setIfInBounds_toArray, List.set_cons_zero, List.set_cons_succ]
      refine held_one 1 (by kernel_rfl) (by rfl) (fun K' hK' => ?_) 
      refine if_call1 (some 10) rfl (by rfl) 42 cf_push32 (.tmp 9) _ rfl _ rfl (push32_any c hc wx) ?_
      rintro e wp ⟨Ap, kp, cp, rfl, sp, bp⟩
      refine ⟨_, rfl, ?_⟩
      have dp := dx.trans (bp.mono dx.size)
      have SP := hide sp
      have lp := sp.len_eq
      clear sp
      refine hK'.out _ _ (dp) ?_
      clear hK' K'
      simp only [Act.put, List.setIfInBounds_toArray, List.set_cons_zero, List.set_cons_succ]
      refine held_one 3 (by kernel_rfl) (by rfl) (fun K' hK' => ?_) 
      refine if_call1 (some 12) rfl (by rfl) 42 cf_push32 (.tmp 11) _ rfl _ rfl (push32_any b hb wp) ?_
      rintro e wq ⟨Aq, kq, cq, rfl, sq, bq⟩
      refine ⟨_, rfl, ?_⟩
      have dq := dp.trans (bq.mono dp.size)
      have SQ := hide sq
      have lq := sq.len_eq
      clear sq
      refine hK'.out _ _ (dq) ?_
      clear hK' K'
      simp only [Act.put, List.setIfInBounds_toArray, List.set_cons_zero, List.set_cons_succ]
      refine held_one 5 (by kernel_rfl) (by rfl) (fun K' hK' => ?_) 
      refine if_call1 (some 14) rfl (by rfl) 42 cf_push32 (.tmp 13) _ rfl _ rfl (push32_any a ha wq) ?_
      rintro e wr ⟨Ar, kr, cr, rfl, sr, br⟩
      refine ⟨_, rfl, ?_⟩
      have dr := dq.trans (br.mono dq.size)
      have SR := hide sr
      have lr := sr.len_eq
      clear sr
      refine hK'.out _ _ (dr) ?_
      clear hK' K'
      simp only [Act.put, List.setIfInBounds_toArray, List.set_cons_zero, List.set_cons_succ]
      refine held_one 8 (by kernel_rfl) (by rfl) (fun K' hK' => ?_) 
      refine if_call4 (some 17) rfl (by rfl) 40 cf_join (.tmp 10) (.tmp 12) (.tmp 14) (.tmp 16) _ _ _ _ rfl _ _ _ _ rfl rfl rfl rfl (join_any _ _ _ _ _ _ _ _ _ _ _ _ _ _ _ _ wr ((unhide SP).kept (bq.trans (br.mono bq.size))) ((unhide SQ).kept br) (unhide SR) ((unhide SX).kept ((bp.trans (bq.mono bp.size)).trans (br.mono (bp.trans (bq.mono bp.size)).size))) (by rw [← lp]; simp [hc.len]) (by rw [← lq]; simp [hb.len]) (by rw [← lr]; simp [ha.len]) (by omega)) ?_
      rintro e wj ⟨Aj, kj, cj, rfl, sj, bj⟩
      refine ⟨_, rfl, ?_⟩
      have dj := dr.trans (bj.mono dr.size)
      have SJ := hide sj
      have lj := sj.len_eq
      clear sj
      refine hK'.out _ _ (dj) ?_
      clear hK' K'
      simp only [Act.put, List.setIfInBounds_toArray, List.set_cons_zero, List.set_cons_succ]
      refine held_one 10 (by kernel_rfl) (by rfl) (fun K' hK' => ?_) 
      refine if_call4 (some 19) rfl (by rfl) 40 cf_join (.tmp 17) (.tmp 18) (.const (.slice none 0 0)) (.const (.slice none 0 0)) _ _ _ _ rfl _ _ _ _ rfl rfl rfl rfl (join_any _ _ none none _ _ _ _ 0 0 0 0 _ _ [] [] wj (unhide SJ) ((unhide SY).kept ((((bx.trans (bp.mono bx.size)).trans (bq.mono (bx.trans (bp.mono bx.size)).size)).trans (br.mono ((bx.trans (bp.mono bx.size)).trans (bq.mono (bx.trans (bp.mono bx.size)).size)).size)).trans (bj.mono (((bx.trans (bp.mono bx.size)).trans (bq.mono (bx.trans (bp.mono bx.size)).size)).trans (br.mono ((bx.trans (bp.mono bx.size)).trans (bq.mono (bx.trans (bp.mono bx.size)).size)).size)).size))) (Src.ofNil _) (Src.ofNil _) (by rw [← lj]; simp [ha.len, hb.len, hc.len]) (by omega) (by omega) (by omega)) ?_
      rintro e wk ⟨Ak, kk, ck, rfl, sk, bk⟩
      refine ⟨_, rfl, ?_⟩
      have dk := dj.trans (bk.mono dj.size)
      have SK := hide sk
      clear sk
      refine hK'.out _ _ (dk) ?_
      clear hK' K'
      simp only [Act.put, List.setIfInBounds_toArray, List.set_cons_zero, List.set_cons_succ]
      refine held_takeD 11 (.slice Ak kk ck) (some 8) (by rfl) (by rfl) (by kernel_rfl) (by kernel_rfl) (by kernel_rfl) (fun _ _ _ h => h) (.inl ⟨by rfl, fun _ _ => by rfl⟩) (dk) ?_
      simp only [Act.put, List.setIfInBounds_toArray, List.set_cons_zero, List.set_cons_succ]
      refine wpAnyH_done (by kernel_rfl) ?_ _
      refine NoPanic.normal ?_
      go_wp2_with fail
      go_meet
      case rel => exact ⟨Ak, kk, ck, rfl, by rw [unhide HE]; exact unhide SK, dk⟩

end Go.Proofs.YgcsakGreat
