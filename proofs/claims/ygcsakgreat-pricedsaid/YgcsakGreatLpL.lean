/-
  law: pricedWorld.
-/
import Derived.Test.YgcsakGreatLpK
namespace Go.Proofs.YgcsakGreat
set_option linter.unusedVariables false
set_option linter.unusedSimpArgs false
set_option maxRecDepth 100000
open Go.RowKit

theorem run_field_arr {t : TypeId} {i off sz n : Nat} {ft e : TypeId} (hf : FieldAt t i off ft) (hd : Sakg.prog.underlying ft = some (.array n e)) (hs : (Sakg.prog.info? ft).map (·.size) = some sz) (r b : List Value) (hb : (r.drop off).take sz = b) (wx : World) : (Instr.field t (.agg r.toArray) i).run Sakg.prog wx = .ok (.agg b.toArray) wx := by
  obtain ⟨h1, h2⟩ := hf
  cases hq : (Sakg.prog.fieldsOf t)[i]? with
  | none => rw [hq] at h2; cases h2
  | some f =>
    rw [hq] at h2
    simp only [Option.map_some, Option.some.injEq, Prod.mk.injEq] at h2
    obtain ⟨rfl, rfl⟩ := h2
    cases hi : Sakg.prog.info? f.type with
    | none => rw [hi] at hs; cases hs
    | some i0 =>
      rw [hi] at hs
      simp only [Option.map_some, Option.some.injEq] at hs
      unfold Instr.field
      simp only [Sem.run_bind, run_underlying h1, Result.andThen_ok, hq]
      simp [part, isAgg, asAgg, run_underlying hd, sizeOf, typeInfo, hi, hs]
      rw [← hb]
theorem fldOBal : FieldAt 43 2 21 29 := ⟨by kernel_rfl, by kernel_rfl⟩
theorem fldOCode : FieldAt 43 3 53 30 := ⟨by kernel_rfl, by kernel_rfl⟩
theorem fldOAddr : FieldAt 43 0 0 26 := ⟨by kernel_rfl, by kernel_rfl⟩
theorem run_w31 (wx : World) : (Instr.build 29 #[(31, .int .u8 1)]).run Sakg.prog wx = .ok (.agg (bv (zeros 31 ++ [1])).toArray) wx := by kernel_rfl
theorem run_w0 (wx : World) : (Instr.build 29 #[]).run Sakg.prog wx = .ok (.agg (bv (zeros 32)).toArray) wx := by kernel_rfl
theorem OAcctRow.balC {w : World} {r : List Value} {o : OAcct} (h : OAcctRow w r o) : (r.drop 21).take 32 = bv o.bal := by
  obtain ⟨A3, k3, c3, A4, k4, c4, rfl, h2, h3, h4, -⟩ := h
  rw [List.drop_append, List.drop_of_length_le (by rw [bv_len, h2.len]; omega), List.nil_append, bv_len, h2.len, show 21 - 20 = 0 + 1 from rfl, List.drop_succ_cons, List.drop_zero, List.take_append_of_le_length (by rw [bv_len, h4.len]; omega), List.take_of_length_le (by rw [bv_len, h4.len]; omega)]
theorem OAcctRow.balW {w : World} {r : List Value} {o : OAcct} (h : OAcctRow w r o) : IsW o.bal := by
  obtain ⟨A3, k3, c3, A4, k4, c4, rfl, h2, h3, h4, -⟩ := h
  exact h4
theorem OAcctRow.codeC {w : World} {r : List Value} {o : OAcct} (h : OAcctRow w r o) : ∃ A k c, r[53]? = some (.slice A k c) ∧ Src w A k c o.code := by
  obtain ⟨A3, k3, c3, A4, k4, c4, rfl, h2, h3, h4, h5, -⟩ := h
  refine ⟨A3, k3, c3, ?_, h5⟩
  rw [List.getElem?_append_right (by rw [bv_len, h2.len]; omega), bv_len, h2.len, show 53 - 20 = 32 + 1 from rfl, List.getElem?_cons_succ, List.getElem?_append_right (by rw [bv_len, h4.len]; omega), bv_len, h4.len]
  rfl
theorem sizeW29 : (Sakg.prog.info? 29).map (·.size) = some 32 := by kernel_rfl
set_option maxHeartbeats 4000000 in
theorem world_k0 (n u : Nat) (A L W0 : Option Addr) (k l lw cw : Nat) (md : List Int) (w : World) :
    Calls Sakg.prog 15 #[.int .u8 0, .int .u16 n, .agg (rcptG 0 (.slice A k k) (.slice L l l) u md).toArray, .slice W0 lw cw] w fun e w' => e = .returned (.bool true) ∧ Below w.heap.size w w' := by
  generalize (rcptG 0 (.slice A k k) (.slice L l l) u md).toArray = R
  have hb0 : Below w.heap.size w (w.alloc (.cells R 48)) := (Below.refl _ _).alloc (Nat.le_refl _) _
  go_enter Sakg.func15, Sakg.ntmps15
  go_wp2
  go_ret
  exact ⟨rfl, hb0⟩
set_option maxHeartbeats 4000000 in
theorem world_k1 (n u : Nat) (A L W0 : Option Addr) (k l lw cw : Nat) (md : List Int) (w : World) :
    Calls Sakg.prog 15 #[.int .u8 1, .int .u16 n, .agg (rcptG 0 (.slice A k k) (.slice L l l) u md).toArray, .slice W0 lw cw] w fun e w' => e = .returned (.bool true) ∧ Below w.heap.size w w' := by
  generalize (rcptG 0 (.slice A k k) (.slice L l l) u md).toArray = R
  have hb0 : Below w.heap.size w (w.alloc (.cells R 48)) := (Below.refl _ _).alloc (Nat.le_refl _) _
  go_enter Sakg.func15, Sakg.ntmps15
  go_wp2
  go_ret
  exact ⟨rfl, hb0⟩
set_option maxHeartbeats 4000000 in
theorem world_k2 (n u : Nat) (A L W0 : Option Addr) (k l lw cw : Nat) (md : List Int) (w : World) :
    Calls Sakg.prog 15 #[.int .u8 2, .int .u16 n, .agg (rcptG 0 (.slice A k k) (.slice L l l) u md).toArray, .slice W0 lw cw] w fun e w' => e = .returned (.bool true) ∧ Below w.heap.size w w' := by
  generalize (rcptG 0 (.slice A k k) (.slice L l l) u md).toArray = R
  have hb0 : Below w.heap.size w (w.alloc (.cells R 48)) := (Below.refl _ _).alloc (Nat.le_refl _) _
  go_enter Sakg.func15, Sakg.ntmps15
  go_wp2
  go_ret
  exact ⟨rfl, hb0⟩
set_option maxHeartbeats 4000000 in
theorem world_k3 (n u : Nat) (A L W0 : Option Addr) (k l lw cw : Nat) (md : List Int) (w : World) :
    Calls Sakg.prog 15 #[.int .u8 3, .int .u16 n, .agg (rcptG 0 (.slice A k k) (.slice L l l) u md).toArray, .slice W0 lw cw] w fun e w' => e = .returned (.bool true) ∧ Below w.heap.size w w' := by
  generalize (rcptG 0 (.slice A k k) (.slice L l l) u md).toArray = R
  have hb0 : Below w.heap.size w (w.alloc (.cells R 48)) := (Below.refl _ _).alloc (Nat.le_refl _) _
  go_enter Sakg.func15, Sakg.ntmps15
  go_wp2
  go_ret
  exact ⟨rfl, hb0⟩
set_option maxHeartbeats 4000000 in
theorem world_k6 (n u : Nat) (A L W0 : Option Addr) (k l lw cw : Nat) (md : List Int) (w : World) :
    Calls Sakg.prog 15 #[.int .u8 6, .int .u16 n, .agg (rcptG 0 (.slice A k k) (.slice L l l) u md).toArray, .slice W0 lw cw] w fun e w' => e = .returned (.bool true) ∧ Below w.heap.size w w' := by
  generalize (rcptG 0 (.slice A k k) (.slice L l l) u md).toArray = R
  have hb0 : Below w.heap.size w (w.alloc (.cells R 48)) := (Below.refl _ _).alloc (Nat.le_refl _) _
  go_enter Sakg.func15, Sakg.ntmps15
  go_wp2
  go_ret
  exact ⟨rfl, hb0⟩
set_option maxHeartbeats 4000000 in
theorem world_k8 (n u : Nat) (A L W0 : Option Addr) (k l lw cw : Nat) (md : List Int) (w : World) :
    Calls Sakg.prog 15 #[.int .u8 8, .int .u16 n, .agg (rcptG 0 (.slice A k k) (.slice L l l) u md).toArray, .slice W0 lw cw] w fun e w' => e = .returned (.bool true) ∧ Below w.heap.size w w' := by
  generalize (rcptG 0 (.slice A k k) (.slice L l l) u md).toArray = R
  have hb0 : Below w.heap.size w (w.alloc (.cells R 48)) := (Below.refl _ _).alloc (Nat.le_refl _) _
  go_enter Sakg.func15, Sakg.ntmps15
  go_wp2
  go_ret
  exact ⟨rfl, hb0⟩
set_option maxHeartbeats 4000000 in
theorem world_k11 (n u : Nat) (A L W0 : Option Addr) (k l lw cw : Nat) (md : List Int) (w : World) :
    Calls Sakg.prog 15 #[.int .u8 11, .int .u16 n, .agg (rcptG 0 (.slice A k k) (.slice L l l) u md).toArray, .slice W0 lw cw] w fun e w' => e = .returned (.bool true) ∧ Below w.heap.size w w' := by
  generalize (rcptG 0 (.slice A k k) (.slice L l l) u md).toArray = R
  have hb0 : Below w.heap.size w (w.alloc (.cells R 48)) := (Below.refl _ _).alloc (Nat.le_refl _) _
  go_enter Sakg.func15, Sakg.ntmps15
  go_wp2
  go_ret
  exact ⟨rfl, hb0⟩
set_option maxHeartbeats 4000000 in
theorem world_k12 (n u : Nat) (A L W0 : Option Addr) (k l lw cw : Nat) (md : List Int) (w : World) :
    Calls Sakg.prog 15 #[.int .u8 12, .int .u16 n, .agg (rcptG 0 (.slice A k k) (.slice L l l) u md).toArray, .slice W0 lw cw] w fun e w' => e = .returned (.bool true) ∧ Below w.heap.size w w' := by
  generalize (rcptG 0 (.slice A k k) (.slice L l l) u md).toArray = R
  have hb0 : Below w.heap.size w (w.alloc (.cells R 48)) := (Below.refl _ _).alloc (Nat.le_refl _) _
  go_enter Sakg.func15, Sakg.ntmps15
  go_wp2
  go_ret
  exact ⟨rfl, hb0⟩
set_option maxHeartbeats 4000000 in
theorem world_k13 (n u : Nat) (A L W0 : Option Addr) (k l lw cw : Nat) (md : List Int) (w : World) :
    Calls Sakg.prog 15 #[.int .u8 13, .int .u16 n, .agg (rcptG 0 (.slice A k k) (.slice L l l) u md).toArray, .slice W0 lw cw] w fun e w' => e = .returned (.bool true) ∧ Below w.heap.size w w' := by
  generalize (rcptG 0 (.slice A k k) (.slice L l l) u md).toArray = R
  have hb0 : Below w.heap.size w (w.alloc (.cells R 48)) := (Below.refl _ _).alloc (Nat.le_refl _) _
  go_enter Sakg.func15, Sakg.ntmps15
  go_wp2
  go_ret
  exact ⟨rfl, hb0⟩
set_option maxHeartbeats 4000000 in
theorem world_k4 (n u : Nat) (A L W0 : Option Addr) (k l lw cw : Nat) (md : List Int) (os : List OAcct) (w : World) (hos : OAcctsR w W0 lw cw os) (hb : (lookO os (lowAddr 153)).bal = zeros 31 ++ [1]) :
    Calls Sakg.prog 15 #[.int .u8 4, .int .u16 n, .agg (rcptG 0 (.slice A k k) (.slice L l l) u md).toArray, .slice W0 lw cw] w fun e w' => e = .returned (.bool true) ∧ Below w.heap.size w w' := by
  generalize (rcptG 0 (.slice A k k) (.slice L l l) u md).toArray = R
  obtain ⟨W, hW⟩ : ∃ W, W = w.alloc (.cells R 48) := ⟨_, rfl⟩
  have hb0 : Below w.heap.size w W := by rw [hW]; exact (Below.refl _ _).alloc (Nat.le_refl _) _
  have HAD : ∀ wz, Hid (Calls Sakg.prog 43 #[.int .u8 153] wz fun e w' => e = .returned (.agg (bv (lowAddr 153)).toArray) ∧ Below wz.heap.size wz w') := fun wz => hide (addrNo_any 153 (by omega) wz)
  have HLK : ∀ wz, Below w.heap.size w wz → Hid (Calls Sakg.prog 52 #[.slice W0 lw cw, .agg (bv (lowAddr 153)).toArray] wz fun e w' => ∃ r, e = .returned (.agg r.toArray) ∧ OAcctRow wz r (lookO os (lowAddr 153)) ∧ Below wz.heap.size wz w') := fun wz hz => hide (lookup_any W0 lw cw os (lowAddr 153) wz (hos.kept hz) (lowAddr_is 153 (by omega) (by omega)))
  go_enter Sakg.func15, Sakg.ntmps15
  go_upto_region 1 with fail
  rw [← hW]
  clear hW
  have heq := fun wx => run_arr_eq wx 29 32 9998 Sakg.underlying29 (zeros 31 ++ [1]) (zeros 31 ++ [1]) rfl rfl
  go_wp2_with (first | (go_at_call 43; refine (unhide (HAD _)).mono ?_; rintro e w1 ⟨rfl, b1⟩) | (go_at_call 52; refine (unhide (HLK _ (hb0.trans (b1.mono hb0.size)))).mono ?_; rintro e w2 ⟨r2, rfl, hr2, b2⟩; have hfl := run_field_arr fldOBal Sakg.underlying29 sizeW29 r2 (bv (zeros 31 ++ [1])) (by rw [hr2.balC, hb]); clear hr2) | ((with_reducible refine at_build 29 ?_); refine wpList_build_run (by rfl) 29 [(31, .const (.int .u8 1))] rfl (.agg (bv (zeros 31 ++ [1])).toArray) (run_w31 _) ?_))
  go_ret
  exact ⟨rfl, hb0.trans ((b1.trans (b2.mono b1.size)).mono hb0.size)⟩
set_option maxHeartbeats 4000000 in
theorem world_k5 (n u : Nat) (A L W0 : Option Addr) (k l cw : Nat) (md : List Int) (os : List OAcct) (w : World) (hos : OAcctsR w W0 2 cw os) (hb : (lookO os (lowAddr 153)).bal = zeros 32) :
    Calls Sakg.prog 15 #[.int .u8 5, .int .u16 n, .agg (rcptG 0 (.slice A k k) (.slice L l l) u md).toArray, .slice W0 2 cw] w fun e w' => e = .returned (.bool true) ∧ Below w.heap.size w w' := by
  generalize (rcptG 0 (.slice A k k) (.slice L l l) u md).toArray = R
  obtain ⟨W, hW⟩ : ∃ W, W = w.alloc (.cells R 48) := ⟨_, rfl⟩
  have hb0 : Below w.heap.size w W := by rw [hW]; exact (Below.refl _ _).alloc (Nat.le_refl _) _
  have HAD : ∀ wz, Hid (Calls Sakg.prog 43 #[.int .u8 153] wz fun e w' => e = .returned (.agg (bv (lowAddr 153)).toArray) ∧ Below wz.heap.size wz w') := fun wz => hide (addrNo_any 153 (by omega) wz)
  have HLK : ∀ wz, Below w.heap.size w wz → Hid (Calls Sakg.prog 52 #[.slice W0 2 cw, .agg (bv (lowAddr 153)).toArray] wz fun e w' => ∃ r, e = .returned (.agg r.toArray) ∧ OAcctRow wz r (lookO os (lowAddr 153)) ∧ Below wz.heap.size wz w') := fun wz hz => hide (lookup_any W0 2 cw os (lowAddr 153) wz (hos.kept hz) (lowAddr_is 153 (by omega) (by omega)))
  go_enter Sakg.func15, Sakg.ntmps15
  go_upto_region 1 with fail
  rw [← hW]
  clear hW
  have heq := fun wx => run_arr_eq wx 29 32 9998 Sakg.underlying29 (zeros 32) (zeros 32) rfl rfl
  go_wp2_with (first | (go_at_call 43; refine (unhide (HAD _)).mono ?_; rintro e w1 ⟨rfl, b1⟩) | (go_at_call 52; refine (unhide (HLK _ (hb0.trans (b1.mono hb0.size)))).mono ?_; rintro e w2 ⟨r2, rfl, hr2, b2⟩; have hfl := run_field_arr fldOBal Sakg.underlying29 sizeW29 r2 (bv (zeros 32)) (by rw [hr2.balC, hb]); clear hr2) | ((with_reducible refine at_build 29 ?_); refine wpList_build_run (by rfl) 29 [] rfl (.agg (bv (zeros 32)).toArray) (run_w0 _) ?_))
  go_ret
  exact ⟨rfl, hb0.trans ((b1.trans (b2.mono b1.size)).mono hb0.size)⟩
theorem conv_src (w : World) (A : Option Addr) (k c : Nat) (xs : List Int) (h : Src w A k c xs) : (convert 30 9 (.slice A k c)).run Sakg.prog w = .ok (.string (strOfNums xs)) w := by
  rcases Nat.eq_zero_or_pos k with h0 | h0
  · have hx : xs = [] := List.eq_nil_of_length_eq_zero (by rw [h.len_eq]; exact h0)
    subst hx h0
    cases A with
    | none => exact run_convert_bytes_nil (w := w) 30 5 Sakg.underlying30 Sakg.underlying5 0 c 9 Sakg.underlying9
    | some ad =>
      rw [run_convert_bytes_string w 30 9 5 _ 0 c Sakg.underlying30 Sakg.underlying5 Sakg.underlying9]
      have hl := run_loadCells_list (P := Sakg.prog) w ad [] (fun j v hj => by simp at hj)
      have hl' : (loadCells ad 0).run Sakg.prog w = .ok #[] w := by simpa using hl
      simp [Conv.bytesToString, hl']
      rfl
  · obtain ⟨b, off, rfl, hc⟩ := h.at_ h0
    exact run_convert_bytes_arg w 30 5 Sakg.underlying30 Sakg.underlying5 b off k c xs h.len_eq hc 9 Sakg.underlying9
theorem bytes_eq (w : World) (A B : Option Addr) (k c k' c' : Nat) (xs : List Int) (h1 : Src w A k c xs) (h2 : Src w B k' c' xs) : Calls Sakg.prog 53 #[.slice A k c, .slice B k' c'] w fun e w' => e = .returned (.bool true) ∧ Below w.heap.size w w' := by
  have c1 := conv_src w A k c xs h1
  have c2 := conv_src w B k' c' xs h2
  clear h1 h2
  go_enter Sakg.func53, Sakg.ntmps53
  go_wp2
  go_ret
  exact ⟨rfl, Below.refl _ _⟩

/-- 'make' of bytes whose length is a uint16, in a region that draws its order -/
theorem if_make_16 {ops : Array Oper} {o : Oper} {a : Act} {w : World} {K : Act → World → Prop} {Q : Exit → Act → World → Prop} (d : Option Tmp) (hd : o.dst = d) (hw : Region.wanted o (yielded ops a.tmps) = true) (l c : Operand) (t : TypeId) (hop : o.op = Op.makeSlice t l c) (ht : Sakg.prog.underlying t = some (.slice 5)) (n : Nat) (hl : a.eval l = .int .u16 n) (hc : a.eval c = .int .u16 n) (b2 : n ≤ 281474976710656)
    (h : ∀ w', OwnT 5 w' w.heap.size (zeros n) → Below w.heap.size w w' → w'.heap.size = w.heap.size + 1 → K (a.put d (.slice (some ⟨w.heap.size, 0, none⟩) n n)) w') :
    if Region.wanted o (yielded ops a.tmps) = true then Oper.wp Sakg.prog o a w K Q else K (a.put o.dst undef) w := by
  rw [if_pos hw]
  subst hd
  obtain ⟨i0, hi, hz0, hz1, hz2⟩ := info_parts Sakg.info5
  have hrun := run_make (P := Sakg.prog) w t 5 i0 (.int .u8 0) ht hi hz0 .u16 .u16 (n : Int) (n : Int) (by omega) (by omega) (by rw [hz2]; omega) (by omega)
  unfold Oper.wp
  simp [execOp, hop, hl, hc, hrun, Result.andThen]
  refine h _ ?_ ((Below.refl _ _).alloc (Nat.le_refl _) _) (by simp)
  rw [hz1]
  exact own_made w n
theorem sizeAd : (Sakg.prog.info? 26).map (·.size) = some 20 := by kernel_rfl
set_option maxHeartbeats 4000000 in
theorem world_k7 (n u : Nat) (hn : n ≤ 1024) (A L W0 : Option Addr) (k l lw cw : Nat) (md : List Int) (hmd : IsAddr md) (os : List OAcct) (w : World) (hos : OAcctsR w W0 lw cw os) (hb : (lookO os md).code = zeros n) :
    Calls Sakg.prog 15 #[.int .u8 7, .int .u16 n, .agg (rcptG 0 (.slice A k k) (.slice L l l) u md).toArray, .slice W0 lw cw] w fun e w' => e = .returned (.bool true) ∧ Below w.heap.size w w' := by
  obtain ⟨row, hrow⟩ : ∃ row, row = rcptG 0 (.slice A k k) (.slice L l l) u md := ⟨_, rfl⟩
  have q5 : (row.drop 5).take 20 = bv md := by
    rw [hrow]
    show (bv md).take 20 = bv md
    exact List.take_of_length_le (by rw [bv_len, hmd.len]; omega)
  rw [← hrow]
  clear hrow
  obtain ⟨W, hW⟩ : ∃ W, W = w.alloc (.cells row.toArray 48) := ⟨_, rfl⟩
  have hb0 : Below w.heap.size w W := by rw [hW]; exact (Below.refl _ _).alloc (Nat.le_refl _) _
  have hr0 : RowT 48 W w.heap.size row := by rw [hW]; exact RowT.new _ _ _
  go_enter Sakg.func15, Sakg.ntmps15
  go_upto_region 1 with fail
  rw [← hW]
  clear hW
  have dW : Below W.heap.size W W.drew := Quiet.below ⟨1, rfl⟩ _
  have hR : ∀ wz, Below W.heap.size W wz → wz.rangeAt w.heap.size 5 (bv md) ∧ OAcctsR wz W0 lw cw os := fun wz hz => ⟨by have := (hr0.kept hz).range 5 20; rwa [q5] at this, (hos.kept hb0).kept hz⟩
  have HR := hide hR
  have hsA : (Sakg.prog.info? 26).map (·.size) = some (bv md).length := by rw [bv_len, hmd.len]; exact sizeAd
  have hzb : Byt (zeros n) := zeros_byt n
  clear hR hr0
  go_upto_region 7 with fail
  go_cut [8] (fun s8 wc => s8 = .bool true ∧ Below W.heap.size W wc)
  case rest =>
    obtain ⟨rfl, b9⟩ := hcut
    go_wp2
    go_ret
    exact ⟨rfl, hb0.trans (b9.mono hb0.size)⟩
  refine wp_region_noPanic ?_
  refine wp_region_held_drew (S := fun w' => Below W.heap.size W w') (by kernel_rfl) (dW) (fun hHeld => ?_)
  refine held_takeD 0 (.slice W0 lw cw) (some 36) (by rfl) (by rfl) (by kernel_rfl) (by kernel_rfl) (by kernel_rfl) (fun _ _ _ h => h) (.inl ⟨by rfl, fun _ _ => by rfl⟩) (hHeld) ?_
  simp only [Act.put, List.setIfInBounds_toArray, List.set_cons_zero, List.set_cons_succ]
  refine held_takeD 1 (.pointer (some ⟨w.heap.size, 5, none⟩)) (some 37) (by rfl) (by rfl) (by kernel_rfl) (by kernel_rfl) (by kernel_rfl) (fun _ _ _ h => h) (.inl ⟨by rfl, fun _ _ => by go_simp⟩) (hHeld) ?_
  simp only [Act.put, List.setIfInBounds_toArray, List.set_cons_zero, List.set_cons_succ]
  refine held_takeD 2 (.agg (bv md).toArray) (some 38) (by rfl) (by rfl) (by kernel_rfl) (by kernel_rfl) (by kernel_rfl) (fun _ _ _ h => h) (yieldsIf_load_mid (by rfl) _ _ rfl _ _ rfl _ _ (fun wz hS => (unhide HR wz hS).1) Sakg.underlying26 rfl hsA) (hHeld) ?_
  simp only [Act.put, List.setIfInBounds_toArray, List.set_cons_zero, List.set_cons_succ]
  refine held_takeD 5 (.int .u16 n) (some 41) (by rfl) (by rfl) (by kernel_rfl) (by kernel_rfl) (by kernel_rfl) (fun _ _ _ h => h) (.inl ⟨by rfl, fun _ _ => by rfl⟩) (hHeld) ?_
  simp only [Act.put, List.setIfInBounds_toArray, List.set_cons_zero, List.set_cons_succ]
  refine held_two 3 6 (by kernel_rfl) (by rfl) (by rfl) (fun K' hK' => ?_) (fun K' hK' => ?_) 
  · as_aux_lemma =>
    go_simp
    refine (lookup_any W0 lw cw os md W.drew (unhide HR _ dW).2 hmd).mono ?_
    rintro e wq ⟨r2, rfl, hr2, bq⟩
    have dq := dW.trans (bq.mono dW.size)
    obtain ⟨Ac, kc, cc, hc53, hcs⟩ := hr2.codeC
    rw [hb] at hcs
    have SC := hide (hcs.kept bq)
    have hfl := run_field_slice fldOCode Sakg.underlying30 r2 _ hc53
    clear hcs hr2
    refine hK'.out _ _ (dq) ?_
    clear hK' K'
    refine held_takeD 4 (.slice Ac kc cc) (some 40) (by rfl) (by rfl) (by kernel_rfl) (by kernel_rfl) (by kernel_rfl) (fun _ _ _ h => h) (.inl ⟨by rfl, fun _ _ => by go_simp⟩) (dq) ?_
    simp only [Act.put, List.setIfInBounds_toArray, List.set_cons_zero, List.set_cons_succ]
    clear hfl
    refine held_one 6 (by kernel_rfl) (by rfl) (fun K' hK' => ?_) 
    refine if_make_16 (some 42) rfl (by rfl) _ _ 30 rfl Sakg.underlying30 n rfl rfl (by omega) (fun wm om bm sm => ?_)
    have dm := dq.trans (bm.mono dq.size)
    have SM := hide (OwnT.src_all om hzb n (zeros_len n).symm (by unfold maxLen; omega))
    clear om
    refine hK'.out _ _ (dm) ?_
    clear hK' K'
    simp only [Act.put, List.setIfInBounds_toArray, List.set_cons_zero, List.set_cons_succ]
    refine held_one 7 (by kernel_rfl) (by rfl) (fun K' hK' => ?_) 
    go_simp
    refine (bytes_eq wm _ _ _ _ _ _ _ ((unhide SC).kept bm) (unhide SM)).mono ?_
    rintro e we ⟨rfl, be⟩
    have de := dm.trans (be.mono dm.size)
    refine hK'.out _ _ (de) ?_
    clear hK' K'
    refine held_takeD 8 (.bool true) (some 8) (by rfl) (by rfl) (by kernel_rfl) (by kernel_rfl) (by kernel_rfl) (fun _ _ _ h => h) (.inl ⟨by rfl, fun _ _ => by rfl⟩) (de) ?_
    simp only [Act.put, List.setIfInBounds_toArray, List.set_cons_zero, List.set_cons_succ]
    refine wpAnyH_done (by kernel_rfl) ?_ _
    refine NoPanic.normal ?_
    go_wp2_with fail
    go_meet
    case rel => exact ⟨rfl, de⟩
  · as_aux_lemma =>
    refine if_make_16 (some 42) rfl (by rfl) _ _ 30 rfl Sakg.underlying30 n rfl rfl (by omega) (fun wm om bm sm => ?_)
    have dm := dW.trans (bm.mono dW.size)
    have SM := hide (OwnT.src_all om hzb n (zeros_len n).symm (by unfold maxLen; omega))
    clear om
    refine hK'.out _ _ (dm) ?_
    clear hK' K'
    simp only [Act.put, List.setIfInBounds_toArray, List.set_cons_zero, List.set_cons_succ]
    refine held_one 3 (by kernel_rfl) (by rfl) (fun K' hK' => ?_) 
    go_simp
    refine (lookup_any W0 lw cw os md wm (unhide HR _ dm).2 hmd).mono ?_
    rintro e wq ⟨r2, rfl, hr2, bq⟩
    have dq := dm.trans (bq.mono dm.size)
    obtain ⟨Ac, kc, cc, hc53, hcs⟩ := hr2.codeC
    rw [hb] at hcs
    have SC := hide (hcs.kept bq)
    have hfl := run_field_slice fldOCode Sakg.underlying30 r2 _ hc53
    clear hcs hr2
    refine hK'.out _ _ (dq) ?_
    clear hK' K'
    refine held_takeD 4 (.slice Ac kc cc) (some 40) (by rfl) (by rfl) (by kernel_rfl) (by kernel_rfl) (by kernel_rfl) (fun _ _ _ h => h) (.inl ⟨by rfl, fun _ _ => by go_simp⟩) (dq) ?_
    simp only [Act.put, List.setIfInBounds_toArray, List.set_cons_zero, List.set_cons_succ]
    clear hfl
    refine held_one 7 (by kernel_rfl) (by rfl) (fun K' hK' => ?_) 
    go_simp
    refine (bytes_eq wq _ _ _ _ _ _ _ (unhide SC) ((unhide SM).kept bq)).mono ?_
    rintro e we ⟨rfl, be⟩
    have de := dq.trans (be.mono dq.size)
    refine hK'.out _ _ (de) ?_
    clear hK' K'
    refine held_takeD 8 (.bool true) (some 8) (by rfl) (by rfl) (by kernel_rfl) (by kernel_rfl) (by kernel_rfl) (fun _ _ _ h => h) (.inl ⟨by rfl, fun _ _ => by rfl⟩) (de) ?_
    simp only [Act.put, List.setIfInBounds_toArray, List.set_cons_zero, List.set_cons_succ]
    refine wpAnyH_done (by kernel_rfl) ?_ _
    refine NoPanic.normal ?_
    go_wp2_with fail
    go_meet
    case rel => exact ⟨rfl, de⟩

end Go.Proofs.YgcsakGreat
