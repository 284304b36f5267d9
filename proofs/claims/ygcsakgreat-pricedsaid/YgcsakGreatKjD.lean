/-
  yp: plain at DUP.
-/
import Derived.Test.YgcsakGreatKjB
namespace Go.Proofs.YgcsakGreat
set_option linter.unusedVariables false
set_option linter.unusedSimpArgs false
set_option maxRecDepth 100000
open Go.RowKit

/-- a list of one number is laid -/
theorem if_build_nat {ops : Array Oper} {o : Oper} {a : Act} {w : World} {K : Act → World → Prop} {Q : Exit → Act → World → Prop} (d : Option Tmp) (hd : o.dst = d) (hw : Region.wanted o (yielded ops a.tmps) = true) (x : Operand) (ho : o.op = .buildSlice 192 1 #[(0, x)])
    (A : Option Addr) (k c : Nat) (hx : a.eval x = .slice A k c)
    (h : ∀ w', RowT 54 w' w.heap.size [.slice A k c] → Below w.heap.size w w' → w'.heap.size = w.heap.size + 1 → K (a.put d (.slice (some ⟨w.heap.size, 0, none⟩) 1 1)) w') :
    if Region.wanted o (yielded ops a.tmps) = true then Oper.wp Sakg.prog o a w K Q else K (a.put o.dst undef) w := by
  rw [if_pos hw]
  subst hd
  have hk := h _ (RowT.new 54 w [.slice A k c]) ((Below.refl _ _).alloc (Nat.le_refl _) _) (by simp)
  obtain ⟨i0, hi0, hz0, hz1, hz2⟩ := info_parts infoNatK
  have hrun := run_build_one w 192 54 1 Sakg.underlying192 i0 nilS hi0 hz0 hz1 rfl (by omega) (by omega) (.slice A k c) [.slice A k c] rfl rfl
  unfold Oper.wp
  simp [execOp, ho, hx, hrun, Result.andThen]
  exact hk
/-- one number is appended to a list that has no room -/
theorem if_grow_nat {ops : Array Oper} {o : Oper} {a : Act} {w : World} {K : Act → World → Prop} {Q : Exit → Act → World → Prop} (d : Option Tmp) (hd : o.dst = d) (hw : Region.wanted o (yielded ops a.tmps) = true) (s x : Operand)
    (ho : o.op = .call { callee := .builtin .append, args := #[s, x], argTypes := #[192, 192] })
    (b : Addr) (n : Nat) (olds : List Value) (hs : a.eval s = .slice (some b) n n) (hlo : olds.length = n * 1) (holds : ∀ j u, olds[j]? = some u → w.cell? (b.add j) = some u)
    (g : Nat) (v : Value) (hx : a.eval x = .slice (some ⟨g, 0, none⟩) 1 1) (hrow : RowT 54 w g [v]) (hn : n ≤ 1000)
    (h : ∀ v' w', w'.ownsRow w.heap.size 54 1 v' (n + 1) (olds ++ [v]) → w.grownBy w' none → K (a.put d v') w') :
    if Region.wanted o (yielded ops a.tmps) = true then Oper.wp Sakg.prog o a w K Q else K (a.put o.dst undef) w := by
  rw [if_pos hw]
  subst hd
  obtain ⟨i0, hi0, hz0, hz1, hz2⟩ := info_parts infoNatK
  have hnews : ∀ j u, [v][j]? = some u → w.cell? ((⟨g, 0, none⟩ : Addr).add j) = some u := fun j u hj => by
    rw [addAt, Nat.zero_add, hrow.cell]; exact hj
  obtain ⟨v', w', hr, h2, h3⟩ := run_append_arg_grows (P := Sakg.prog) w 192 o.type 54 i0 nilS 1 24 Sakg.underlying192 hi0 hz0 hz1 hz2 rfl (by omega) b n n olds hlo holds ⟨g, 0, none⟩ 1 1 [v] rfl hnews (by omega) (by unfold maxLen; omega) (by omega)
  unfold Oper.wp
  simp [execOp, ho, resolve, invoke, builtin, hs, hx, hr, Result.andThen]
  exact h v' w' h2 h3
theorem tak_dup : ∀ p, 128 ≤ p → p ≤ 143 → takA p = p - 127 ∧ givA p = p - 126 := by
  have h : ∀ p : Fin 256, 128 ≤ p.val → p.val ≤ 143 → takA p.val = p.val - 127 ∧ givA p.val = p.val - 126 := by decide +kernel
  exact fun p h1 h2 => h ⟨p, by omega⟩ h1 h2
theorem tak_swap : ∀ p, 144 ≤ p → p ≤ 159 → takA p = p - 142 ∧ givA p = p - 142 := by
  have h : ∀ p : Fin 256, 144 ≤ p.val → p.val ≤ 159 → takA p.val = p.val - 142 ∧ givA p.val = p.val - 142 := by decide +kernel
  exact fun p h1 h2 => h ⟨p, by omega⟩ h1 h2

section
variable {G : Nat → Prop} {bw gf : Nat} {cs fr : List Value} {d : WD} {f : FD} {r : List FD} {x : XD} {w : World} {B : Nat} {fl : FD}
set_option maxHeartbeats 16000000 in
theorem plain_dup (p : Nat) (h1 : 128 ≤ p) (h2 : p ≤ 143) (h : SR G bw gf cs fr d (f :: r) x w) (hsl : f.stk.length ≤ 64) (htk : takA p ≤ f.stk.length) (hpc : f.pc < P256 + 34) (hg : Good B d) (ha : ∀ v ∈ f.stk, v < P256) :
    Calls Sakg.prog 122 #[.pointer (some ⟨bw, 0, none⟩), .pointer (some ⟨gf, 60 * r.length, none⟩), .int .u8 p] w (PlaK G bw gf fr B d f r x fl p 0 w) := by
  have hp : p ≤ 255 := by omega
  have hgt : givA p = takA p + 1 := by have := tak_dup p h1 h2; omega
  have hta : 1 ≤ takA p := by have := tak_dup p h1 h2; omega
  have HGT := hide hgt
  obtain ⟨gv, hgv⟩ : ∃ gv, givA p = gv := ⟨_, rfl⟩
  have hBB := big_ge
  have hPB := p256_big2
  have htk64 : takA p ≤ 64 := by omega
  have himm : immA p ≤ 32 := by unfold immA; split <;> omega
  have HAR := hide (arity_any p hp w)
  have HIM : ∀ wz, Hid (Calls Sakg.prog 216 #[.int .u8 p] wz fun e w' => e = .returned (.int .u8 (immA p)) ∧ wz = w') := fun wz => hide (imm_any p hp wz)
  have HGV := hide hgv
  rw [hgv] at HAR
  generalize htt : takA p = tk at htk htk64 HAR hta
  generalize hff : decide (famA p ≠ 0) = fv at HAR
  generalize hii : immA p = ik at himm HIM
  have HTT := hide htt
  have t86 : ((p : Int) == 86) = false := by rw [beq_eq_false_iff_ne]; omega
  have t87 : ((p : Int) == 87) = false := by rw [beq_eq_false_iff_ne]; omega
  have t128 : decide ((128 : Int) ≤ (p : Int)) = true := decide_eq_true (by omega)
  have t143 : decide ((p : Int) ≤ (143 : Int)) = true := decide_eq_true (by omega)
  have HG := hide hg
  have HAA := hide ha
  have HII := hide hii
  obtain ⟨i0, hi0, hz0, hz1, hz2⟩ := info_parts infoNatK
  have HI0 := hide hi0
  have HZ0 := hide hz0
  have HZ1 := hide hz1
  have HZ2 := hide hz2
  have hfx := h.fx
  obtain ⟨o, ho⟩ : ∃ o, o = 60 * r.length := ⟨_, rfl⟩
  rw [← ho] at hfx ⊢
  have hth := hfx.ther
  have HTH := hide hth
  have HF := hide hfx
  have HSR := hide h
  have HO := hide ho
  clear hi0 hz0 hz1 hz2 h htt hii hff hfx ho hth ha hgv hg hgt
  go_enter Sakg.func122, Sakg.ntmps122
  go_upto_region 2 with (first
    | (go_at_call 202; refine (unhide HAR).mono ?_; rintro e w1 ⟨rfl, rfl⟩)
    | (at_make; refine wpList_make_rows rfl _ _ 192 rfl 54 Sakg.underlying192 i0 _ 1 24 (unhide HI0) (unhide HZ0) (unhide HZ1) (unhide HZ2) _ _ tk rfl rfl rfl rfl (by omega) (by omega) ?_; intro w2 zs hr2 hzl hb2 hs2))
  have HR2 := hide hr2
  have HZL := hide hzl
  have HB2 := hide hb2
  clear hr2 hzl hb2 hs2
  go_wp2_with fail
  go_loopg [24] tk (fun gk iv wr => ∃ (i : Nat) (cs : List Value), i + gk = tk ∧ iv = .int .i64 i ∧ RowT 54 wr w.heap.size cs ∧ cs.length = tk ∧ LaidK G w f.stk cs i ∧ Below w.heap.size w wr)
  case atStart => exact ⟨0, zs, by omega, rfl, unhide HR2, by have := unhide HZL; omega, fun j hj => by omega, unhide HB2⟩
  case round =>
    obtain ⟨i, ca, hi, rfl, hr, hcl, hlaid, hbe⟩ := hrel
    have HR := hide hr
    have HLAID := hide hlaid
    clear hr hlaid
    by_cases hit : i < tk
    · have HA := hide ((unhide HF).argAt hbe (by omega) i (by omega))
      go_wp2_with (go_at_call 118; refine (unhide HA).mono ?_; rintro e w3 ⟨⟨A, k, c, rfl, hs⟩, q3⟩; have b3 : Below wr.heap.size wr w3 := q3.below _; have hr3 := (unhide HR).kept b3; have hx3 : ∃ v, w3.cell? ⟨w.heap.size, i, none⟩ = some v := by { rw [hr3.cell, List.getElem?_eq_getElem (by omega)]; exact ⟨_, rfl⟩ }; obtain ⟨v3, hx3⟩ := hx3; have hf3 := hr3.froz i; have HR3 := hide hr3; have HS := hide hs; clear hr3 hs q3)
      have hset := (unhide HR3).set i (Value.slice A k c)
      have hb4 : Below w.heap.size w (w3.setCell ⟨w.heap.size, i, none⟩ (Value.slice A k c)) := (hbe.trans (b3.mono hbe.size)).setCell (p := ⟨w.heap.size, i, none⟩) (Nat.le_refl _) _
      go_roundg (tk - 1 - i)
      case measure => omega
      case rel => exact ⟨i + 1, _, by omega, rfl, hset, by rw [List.length_set]; exact hcl, (unhide HLAID).snoc (by omega) (unhide HS), hb4⟩
    · obtain rfl : i = tk := by omega
      obtain ⟨Ap, kp, cp, p1, p2⟩ := (unhide HF).kf.pc
      obtain ⟨As, ls, cS, s1, s2⟩ := (unhide HF).kf.stk
      have x3 : ∀ wz, Below w.heap.size w wz → wz.cell? ⟨gf, o + 3, none⟩ = some (.slice Ap kp cp) ∧ IsNat wz Ap kp cp f.pc := fun wz hz => ⟨((unhide HF).kept hz).cell p1, p2 wz (ChgS.of hz)⟩
      have x8 : ∀ wz, Below w.heap.size w wz → wz.cell? ⟨gf, o + 8, none⟩ = some (.slice As ls cS) := fun wz hz => ((unhide HF).kept hz).cell s1
      obtain ⟨rowsS, sr1, sr2⟩ := s2
      have hls : f.stk.length = ls := by rw [← sr2.len, sr1.now.len_eq]
      have hlc := sr1.now.le
      have hnilS := sr1.now.nil
      have SR1 := hide sr1
      have SR2 := hide sr2
      have X3 := hide x3
      have X8 := hide x8
      have dR : Below wr.heap.size wr wr.drew := Quiet.below ⟨1, rfl⟩ _
      have hX : ∀ wz, Below wr.heap.size wr wz → Below w.heap.size w wz := fun wz hz => hbe.trans (hz.mono hbe.size)
      have HX := hide hX
      have hwk : IntKind.u64.wrap (ik : Int) = (ik : Int) := by rw [IntKind.wrap_u64]; omega
      obtain ⟨j1, hj1⟩ : ∃ j1, j1 = 1 + ik := ⟨_, rfl⟩
      have ej : (1 : Int) + (ik : Int) = (j1 : Int) := by omega
      have ejw : IntKind.u64.wrap ((1 : Int) + (ik : Int)) = (j1 : Int) := by rw [IntKind.wrap_u64]; omega
      have ejw2 : IntKind.u64.wrap (j1 : Int) = (j1 : Int) := by rw [IntKind.wrap_u64]; omega
      have hj1l : j1 ≤ 40 := by omega
      have HJ1 := hide hj1
      clear p1 p2 s1 x3 x8 hX hj1 sr1 sr2
      go_upto_region 7 with fail
      refine wp_region_noPanic ?_
      refine wp_region_held_drew (S := fun w' => Below wr.heap.size wr w') (by kernel_rfl) (dR) (fun hHeld => ?_)
      refine held_takeD 0 (.pointer (some ⟨gf, o, none⟩)) (some 34) (by rfl) (by rfl) (by kernel_rfl) (by kernel_rfl) (by kernel_rfl) (fun _ _ _ h => h) (.inl ⟨by rfl, fun _ _ => by rfl⟩) (hHeld) ?_
      simp only [Act.put, List.setIfInBounds_toArray, List.set_cons_zero, List.set_cons_succ]
      refine held_takeD 1 (.pointer (some ⟨gf, o, none⟩)) (some 35) (by rfl) (by rfl) (by kernel_rfl) (by kernel_rfl) (by kernel_rfl) (fun _ _ _ h => h) (.inl ⟨by rfl, fun _ _ => by go_simp⟩) (hHeld) ?_
      simp only [Act.put, List.setIfInBounds_toArray, List.set_cons_zero, List.set_cons_succ]
      refine held_takeD 2 (.pointer (some ⟨gf, o + 3, none⟩)) (some 36) (by rfl) (by rfl) (by kernel_rfl) (by kernel_rfl) (by kernel_rfl) (fun _ _ _ h => h) (.inl ⟨by rfl, fun _ _ => by go_simp⟩) (hHeld) ?_
      simp only [Act.put, List.setIfInBounds_toArray, List.set_cons_zero, List.set_cons_succ]
      refine held_takeD 3 (.slice Ap kp cp) (some 37) (by rfl) (by rfl) (by kernel_rfl) (by kernel_rfl) (by kernel_rfl) (fun _ _ _ h => h) (.inl ⟨by rfl, fun wS hS => by have hc := (unhide X3 wS (unhide HX wS hS)).1; go_simp⟩) (hHeld) ?_
      simp only [Act.put, List.setIfInBounds_toArray, List.set_cons_zero, List.set_cons_succ]
      refine held_takeD 4 (.int .u8 p) (some 38) (by rfl) (by rfl) (by kernel_rfl) (by kernel_rfl) (by kernel_rfl) (fun _ _ _ h => h) (.inl ⟨by rfl, fun _ _ => by rfl⟩) (hHeld) ?_
      simp only [Act.put, List.setIfInBounds_toArray, List.set_cons_zero, List.set_cons_succ]
      refine held_one 5 (by kernel_rfl) (by rfl) (fun K' hK' => ?_)
      go_simp
      refine (unhide (HIM wr.drew)).mono ?_
      rintro e w4 ⟨rfl, rfl⟩
      refine hK'.out _ _ (dR) ?_
      clear hK' K'
      refine held_takeD 6 (.int .u64 ik) (some 40) (by rfl) (by rfl) (by kernel_rfl) (by kernel_rfl) (by kernel_rfl) (fun _ _ _ h => h) (.inl ⟨by rfl, fun _ _ => by go_simp⟩) (dR) ?_
      simp only [Act.put, List.setIfInBounds_toArray, List.set_cons_zero, List.set_cons_succ]
      refine held_takeD 7 (.int .u64 j1) (some 41) (by rfl) (by rfl) (by kernel_rfl) (by kernel_rfl) (by kernel_rfl) (fun _ _ _ h => h) (.inl ⟨by rfl, fun _ _ => by go_simp⟩) (dR) ?_
      simp only [Act.put, List.setIfInBounds_toArray, List.set_cons_zero, List.set_cons_succ]
      refine held_one 8 (by kernel_rfl) (by rfl) (fun K' hK' => ?_)
      go_simp
      refine (num_any j1 wr.drew (by omega)).mono ?_
      rintro e w5 ⟨A5, k5, c5, rfl, n5, N5, b5⟩
      refine hK'.out _ _ (dR.trans (b5.mono dR.size)) ?_
      clear hK' K'
      have d5 := dR.trans (b5.mono dR.size)
      refine held_one 9 (by kernel_rfl) (by rfl) (fun K' hK' => ?_)
      go_simp
      refine ((unhide X3 w5 (unhide HX w5 d5)).2.add n5 (by omega) (by omega)).mono ?_
      rintro e w6 ⟨A6, k6, c6, rfl, n6, N6, b6⟩
      refine hK'.out _ _ (d5.trans (b6.mono d5.size)) ?_
      clear hK' K'
      have d6 := d5.trans (b6.mono d5.size)
      refine held_takeD 10 (.slice A6 k6 c6) (some 11) (by rfl) (by rfl) (by kernel_rfl) (by kernel_rfl) (by kernel_rfl) (fun _ _ _ h => h) (.inl ⟨by rfl, fun _ _ => by rfl⟩) (d6) ?_
      simp only [Act.put, List.setIfInBounds_toArray, List.set_cons_zero, List.set_cons_succ]
      refine wpAnyH_done (by kernel_rfl) ?_ _
      refine NoPanic.normal ?_
      have e6 : f.pc + j1 = f.pc + 1 + ik := by rw [unhide HJ1]; omega
      rw [e6] at n6
      have NN6 := hide n6
      have N6w : New w A6 := N6.later (Nat.le_trans hbe.size d5.size)
      have HR6 := hide ((unhide HR).kept d6)
      have dw6 : Below w.heap.size w w6 := unhide HX w6 d6
      have y8 := unhide X8 w6 dw6
      obtain ⟨q, hq⟩ : ∃ q, q = ls - i := ⟨_, rfl⟩
      have eq1 : (ls : Int) - (i : Int) = (q : Int) := by omega
      have hql : q ≤ ls := by omega
      have HQ := hide hq
      clear n6 n5 e6 ej ejw ejw2 hwk hq
      go_upto_region 8 with fail
      go_cut [12] (fun s12 wc => s12 = .slice As q q ∧ Below w6.heap.size w6 wc)
      case first =>
        cases As with
        | none =>
          obtain ⟨h1, h2⟩ := hnilS rfl
          exfalso; omega
        | some ad =>
          clear hnilS
          go_quiet (fail)
          go_wp2_with fail
          go_meet
          case rel => exact ⟨rfl, Quiet.below ⟨_, rfl⟩ _⟩
      case rest =>
        obtain ⟨w7, hw7⟩ : ∃ w7, w7 = wc := ⟨_, rfl⟩
        subst hw7
        obtain ⟨rfl, b7⟩ := hcut
        have dw7 : Below w.heap.size w w7 := dw6.trans (b7.mono dw6.size)
        have hstk := (unhide HLAID).stk ((unhide HR6).kept b7) hcl (by omega) (fun hh => by have := unhide HTH _ hh; omega) (ChgS.of dw7)
        obtain ⟨m, hm⟩ : ∃ m, m = i - 1 := ⟨_, rfl⟩
        have em : (i : Int) - 1 = (m : Int) := by omega
        have hmi : m < i := by omega
        have hwm : IntKind.i64.wrap (m : Int) = (m : Int) := by rw [IntKind.wrap_i64]; omega
        obtain ⟨Aj, kj, cj, hj1, hj2⟩ := (unhide HLAID) m (by omega)
        have hR7 := (unhide HR6).kept b7
        have hlt0 := argN_lt (unhide HAA) m
        generalize hm0 : argN f.stk m = m0 at hj2 hlt0
        obtain ⟨ab, hab⟩ : ∃ ab, As = some ab := by
          cases As with
          | none => have := hnilS rfl; omega
          | some ab => exact ⟨ab, rfl⟩
        subst hab
        have dD : Below w7.heap.size w7 w7.drew := Quiet.below ⟨1, rfl⟩ _
        have y8 : ∀ wz, Below w7.heap.size w7 wz → wz.cell? ⟨gf, o + 8, none⟩ = some (.slice (some ab) ls cS) := fun wz hz => unhide X8 wz (dw7.trans (hz.mono dw7.size))
        have x0 : ∀ wz, Below w7.heap.size w7 wz → wz.cell? ⟨w.heap.size, m, none⟩ = some (.slice Aj kj cj) := fun wz hz => by rw [(hR7.kept hz).cell]; exact hj1
        have Y8 := hide y8
        have X0 := hide x0
        have J2 := hide hj2
        have HM0 := hide hm0
        have hNl : ∀ wz, Below w7.heap.size w7 wz → (rowsS.take ls).flatten.length = ls * 1 ∧ ∀ b, some ab = some b → ∀ j u, (rowsS.take ls).flatten[j]? = some u → wz.cell? (b.add j) = some u := fun wz hz => stk_low (unhide SR1) ls (Nat.le_refl _) wz (ChgS.of (dw7.trans (hz.mono dw7.size)))
        have HNL := hide hNl
        clear hj1 hj2 hR7 hstk y8 x0 hnilS hm hm0 hNl
        go_upto_region 15 with fail
        refine wp_region_noPanic ?_
        refine wp_region_held_drew (S := fun w' => Below w7.heap.size w7 w') (by kernel_rfl) (dD) (fun hHeld => ?_)
        refine held_takeD 0 (.pointer (some ⟨gf, o, none⟩)) (some 94) (by rfl) (by rfl) (by kernel_rfl) (by kernel_rfl) (by kernel_rfl) (fun _ _ _ h => h) (.inl ⟨by rfl, fun _ _ => by rfl⟩) (hHeld) ?_
        simp only [Act.put, List.setIfInBounds_toArray, List.set_cons_zero, List.set_cons_succ]
        refine held_takeD 1 (.pointer (some ⟨gf, o, none⟩)) (some 95) (by rfl) (by rfl) (by kernel_rfl) (by kernel_rfl) (by kernel_rfl) (fun _ _ _ h => h) (.inl ⟨by rfl, fun _ _ => by go_simp⟩) (hHeld) ?_
        simp only [Act.put, List.setIfInBounds_toArray, List.set_cons_zero, List.set_cons_succ]
        refine held_takeD 2 (.pointer (some ⟨gf, o + 8, none⟩)) (some 96) (by rfl) (by rfl) (by kernel_rfl) (by kernel_rfl) (by kernel_rfl) (fun _ _ _ h => h) (.inl ⟨by rfl, fun _ _ => by go_simp⟩) (hHeld) ?_
        simp only [Act.put, List.setIfInBounds_toArray, List.set_cons_zero, List.set_cons_succ]
        refine held_takeD 3 (.slice (some ab) ls cS) (some 97) (by rfl) (by rfl) (by kernel_rfl) (by kernel_rfl) (by kernel_rfl) (fun _ _ _ h => h) (.inl ⟨by rfl, fun wS hS => by have hc := unhide Y8 wS hS; go_simp⟩) (hHeld) ?_
        simp only [Act.put, List.setIfInBounds_toArray, List.set_cons_zero, List.set_cons_succ]
        refine held_takeD 4 (.pointer (some ⟨gf, o, none⟩)) (some 98) (by rfl) (by rfl) (by kernel_rfl) (by kernel_rfl) (by kernel_rfl) (fun _ _ _ h => h) (.inl ⟨by rfl, fun _ _ => by rfl⟩) (hHeld) ?_
        simp only [Act.put, List.setIfInBounds_toArray, List.set_cons_zero, List.set_cons_succ]
        refine held_takeD 5 (.pointer (some ⟨gf, o, none⟩)) (some 99) (by rfl) (by rfl) (by kernel_rfl) (by kernel_rfl) (by kernel_rfl) (fun _ _ _ h => h) (.inl ⟨by rfl, fun _ _ => by go_simp⟩) (hHeld) ?_
        simp only [Act.put, List.setIfInBounds_toArray, List.set_cons_zero, List.set_cons_succ]
        refine held_takeD 6 (.pointer (some ⟨gf, o + 8, none⟩)) (some 100) (by rfl) (by rfl) (by kernel_rfl) (by kernel_rfl) (by kernel_rfl) (fun _ _ _ h => h) (.inl ⟨by rfl, fun _ _ => by go_simp⟩) (hHeld) ?_
        simp only [Act.put, List.setIfInBounds_toArray, List.set_cons_zero, List.set_cons_succ]
        refine held_takeD 7 (.slice (some ab) ls cS) (some 101) (by rfl) (by rfl) (by kernel_rfl) (by kernel_rfl) (by kernel_rfl) (fun _ _ _ h => h) (.inl ⟨by rfl, fun wS hS => by have hc := unhide Y8 wS hS; go_simp⟩) (hHeld) ?_
        simp only [Act.put, List.setIfInBounds_toArray, List.set_cons_zero, List.set_cons_succ]
        refine held_takeD 8 (.int .i64 ls) (some 102) (by rfl) (by rfl) (by kernel_rfl) (by kernel_rfl) (by kernel_rfl) (fun _ _ _ h => h) (.inl ⟨by rfl, fun _ _ => by go_simp⟩) (hHeld) ?_
        simp only [Act.put, List.setIfInBounds_toArray, List.set_cons_zero, List.set_cons_succ]
        refine held_takeD 9 (.pointer (some ⟨gf, o, none⟩)) (some 103) (by rfl) (by rfl) (by kernel_rfl) (by kernel_rfl) (by kernel_rfl) (fun _ _ _ h => h) (.inl ⟨by rfl, fun _ _ => by rfl⟩) (hHeld) ?_
        simp only [Act.put, List.setIfInBounds_toArray, List.set_cons_zero, List.set_cons_succ]
        refine held_takeD 10 (.pointer (some ⟨gf, o, none⟩)) (some 104) (by rfl) (by rfl) (by kernel_rfl) (by kernel_rfl) (by kernel_rfl) (fun _ _ _ h => h) (.inl ⟨by rfl, fun _ _ => by go_simp⟩) (hHeld) ?_
        simp only [Act.put, List.setIfInBounds_toArray, List.set_cons_zero, List.set_cons_succ]
        refine held_takeD 11 (.pointer (some ⟨gf, o + 8, none⟩)) (some 105) (by rfl) (by rfl) (by kernel_rfl) (by kernel_rfl) (by kernel_rfl) (fun _ _ _ h => h) (.inl ⟨by rfl, fun _ _ => by go_simp⟩) (hHeld) ?_
        simp only [Act.put, List.setIfInBounds_toArray, List.set_cons_zero, List.set_cons_succ]
        refine held_takeD 12 (.slice (some ab) ls cS) (some 106) (by rfl) (by rfl) (by kernel_rfl) (by kernel_rfl) (by kernel_rfl) (fun _ _ _ h => h) (.inl ⟨by rfl, fun wS hS => by have hc := unhide Y8 wS hS; go_simp⟩) (hHeld) ?_
        simp only [Act.put, List.setIfInBounds_toArray, List.set_cons_zero, List.set_cons_succ]
        refine held_takeD 13 (.int .i64 ls) (some 107) (by rfl) (by rfl) (by kernel_rfl) (by kernel_rfl) (by kernel_rfl) (fun _ _ _ h => h) (.inl ⟨by rfl, fun _ _ => by go_simp⟩) (hHeld) ?_
        simp only [Act.put, List.setIfInBounds_toArray, List.set_cons_zero, List.set_cons_succ]
        refine held_takeD 14 (.slice (some ab) ls ls) (some 108) (by rfl) (by rfl) (by kernel_rfl) (by kernel_rfl) (by kernel_rfl) (fun _ _ _ h => h) (.inl ⟨by rfl, fun _ _ => by go_simp⟩) (hHeld) ?_
        simp only [Act.put, List.setIfInBounds_toArray, List.set_cons_zero, List.set_cons_succ]
        refine held_takeD 15 (.slice (some ⟨w.heap.size, 0, none⟩) i i) (some 109) (by rfl) (by rfl) (by kernel_rfl) (by kernel_rfl) (by kernel_rfl) (fun _ _ _ h => h) (.inl ⟨by rfl, fun _ _ => by rfl⟩) (hHeld) ?_
        simp only [Act.put, List.setIfInBounds_toArray, List.set_cons_zero, List.set_cons_succ]
        refine held_takeD 16 (.int .i64 i) (some 110) (by rfl) (by rfl) (by kernel_rfl) (by kernel_rfl) (by kernel_rfl) (fun _ _ _ h => h) (.inl ⟨by rfl, fun _ _ => by rfl⟩) (hHeld) ?_
        simp only [Act.put, List.setIfInBounds_toArray, List.set_cons_zero, List.set_cons_succ]
        refine held_takeD 17 (.int .i64 m) (some 111) (by rfl) (by rfl) (by kernel_rfl) (by kernel_rfl) (by kernel_rfl) (fun _ _ _ h => h) (.inl ⟨by rfl, fun _ _ => by go_simp⟩) (hHeld) ?_
        simp only [Act.put, List.setIfInBounds_toArray, List.set_cons_zero, List.set_cons_succ]
        refine held_takeD 18 (.pointer (some ⟨w.heap.size, m, none⟩)) (some 112) (by rfl) (by rfl) (by kernel_rfl) (by kernel_rfl) (by kernel_rfl) (fun _ _ _ h => h) (.inl ⟨by rfl, fun _ _ => by go_simp⟩) (hHeld) ?_
        simp only [Act.put, List.setIfInBounds_toArray, List.set_cons_zero, List.set_cons_succ]
        refine held_takeD 19 (.slice Aj kj cj) (some 113) (by rfl) (by rfl) (by kernel_rfl) (by kernel_rfl) (by kernel_rfl) (fun _ _ _ h => h) (.inl ⟨by rfl, fun wS hS => by have hc := unhide X0 wS hS; go_simp⟩) (hHeld) ?_
        simp only [Act.put, List.setIfInBounds_toArray, List.set_cons_zero, List.set_cons_succ]
        refine held_one 20 (by kernel_rfl) (by rfl) (fun K' hK' => ?_)
        refine if_build_nat (some 114) rfl (by rfl) (.tmp 113) rfl Aj kj cj rfl (fun wn rn bn sn => ?_)
        have dn := dD.trans (bn.mono dD.size)
        refine hK'.out _ _ (dn) ?_
        clear hK' K'
        simp only [Act.put, List.setIfInBounds_toArray, List.set_cons_zero, List.set_cons_succ]
        refine held_one 21 (by kernel_rfl) (by rfl) (fun K' hK' => ?_)
        refine if_grow_nat (some 115) rfl (by rfl) (.tmp 108) (.tmp 114) rfl ab ls _ rfl (unhide HNL _ dn).1 ((unhide HNL _ dn).2 ab rfl) _ _ rfl rn (by omega) (fun v9 wp op gp => ?_)
        have bp := below_grown gp
        have dp := dn.trans (bp.mono dn.size)
        refine hK'.out _ _ (dp) ?_
        clear hK' K'
        simp only [Act.put, List.setIfInBounds_toArray, List.set_cons_zero, List.set_cons_succ]
        refine held_takeD 22 (v9) (some 12) (by rfl) (by rfl) (by kernel_rfl) (by kernel_rfl) (by kernel_rfl) (fun _ _ _ h => h) (.inl ⟨by rfl, fun _ _ => by rfl⟩) (dp) ?_
        simp only [Act.put, List.setIfInBounds_toArray, List.set_cons_zero, List.set_cons_succ]
        refine wpAnyH_done (by kernel_rfl) ?_ _
        refine NoPanic.normal ?_
        have dw9 : Below w.heap.size w wp := dw7.trans (dp.mono dw7.size)
        have hbase : w.heap.size ≤ wn.heap.size := Nat.le_trans dw7.size dn.size
        obtain ⟨A9, c9, rfl, hS9⟩ := SStk.pushes (more := [[Value.slice Aj kj cj]]) (add := [m0]) (unhide SR2) (unhide SR1).now.sz_eq ls (by have := (unhide SR1).now.len_eq; omega) (unhide HTH) (ChgS.of dw9) hbase ⟨⟨Aj, kj, cj, rfl, (unhide J2).kp (ChgS.of dw9)⟩, trivial⟩ (fun y hy => by rw [List.mem_singleton.1 hy]; rfl) (by simp; omega) op
        simp only [List.length_singleton] at hS9 ⊢
        obtain ⟨w9, hw9⟩ : ∃ w9, w9 = wp := ⟨_, rfl⟩
        subst hw9
        have hsr9 := (unhide HSR).kept dw9
        have p6 : KNat G w6 A6 k6 c6 (f.pc + 1 + ik) := KNat.new (unhide NN6) N6w (unhide HTH)
        have p9 := p6.kp ((ChgS.of (G := G) b7).then (ChgS.of (G := G) dp) (fun _ h _ => h))
        have hc9 : ChgS G w w9 := ChgS.of dw9
        have ht9 : Tm w w9 := Tm.of dw9
        have hg9 : Gr B d d 0 := Gr.refl (unhide HG).snd _
        have hwd := Wider.refl G w
        have htl : f.stk.take ls = f.stk := List.take_of_length_le (by omega)
        rw [htl] at hS9
        have hvl : ∀ u ∈ f.stk ++ [m0], u < P256 := fun u hu => by
          rcases List.mem_append.1 hu with h' | h'
          · exact unhide HAA u h'
          · rw [List.mem_singleton.1 h']; exact hlt0
        have hvn : (f.stk ++ [m0]).length + takA p = f.stk.length + givA p := by
          rw [List.length_append, List.length_singleton, unhide HGT]
          omega
        have hpc9 : f.pc + 1 + ik ≤ f.pc + 33 ∨ f.pc + 1 + ik < P256 := .inl (by omega)
        obtain ⟨fr', hfl9, hsrN, hmvN⟩ := hsr9.next hS9 p9
        rw [← unhide HO] at hsrN hmvN
        have r9 := hsr9.row
        have hlen9 : o + 60 ≤ fr.length := (unhide HF).len
        obtain ⟨v98, hx9⟩ : ∃ v, w9.cell? ⟨gf, o + 8, none⟩ = some v := by
          rw [r9.cell, List.getElem?_eq_getElem (by omega)]
          exact ⟨_, rfl⟩
        have hf9 := r9.froz (o + 8)
        obtain ⟨w10, hw10⟩ : ∃ x, x = w9.setCell ⟨gf, o + 8, none⟩ (.slice A9 (ls + 1) c9) := ⟨_, rfl⟩
        have r10 := r9.set (o + 8) (.slice A9 (ls + 1) c9)
        rw [← hw10] at r10 hsrN hmvN
        obtain ⟨v93, hx10⟩ : ∃ v, w10.cell? ⟨gf, o + 3, none⟩ = some v := by
          rw [r10.cell, List.getElem?_eq_getElem (by rw [List.length_set]; omega)]
          exact ⟨_, rfl⟩
        have hf10 := r10.froz (o + 3)
        have HSN := hide hsrN
        have HMN := hide hmvN
        have HW10 := hide hw10
        have HFL9 := hide hfl9
        have HC9 := hide hc9
        have HT9 := hide ht9
        have HVL := hide hvl
        have HVN := hide hvn
        have HPC := hide hpc9
        have HG9 := hide hg9
        have HWD := hide hwd
        clear r9 r10 hsrN hmvN hw10 hsr9 p9 hS9 hfl9 hvl hvn hpc9 hg9 hc9 ht9 hwd op gp rn p6 hlt0
        go_upto_region 26 with fail
        rw [← unhide HW10]
        go_wp2
        refine bodyPost_done rfl rfl ?_
        exact ⟨rfl, _, _, unhide HWD, (unhide HC9).then (unhide HMN).chg (unhide HWD).new, (unhide HT9).trans (unhide HMN).tm, .inl ⟨fr', _, _, _, unhide HFL9, unhide HSN, unhide HG9, unhide HVL, unhide HVN, unhide HPC⟩⟩
end

end Go.Proofs.YgcsakGreat
