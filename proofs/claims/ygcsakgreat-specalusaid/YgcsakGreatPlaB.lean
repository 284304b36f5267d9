/-
  yp: plain at an instruction that gives one word (in hand).
-/
import Derived.Test.YgcsakGreatPlaA
import Derived.ArgAppend
namespace Go.Proofs.YgcsakGreat
set_option linter.unusedVariables false
set_option linter.unusedSimpArgs false
set_option maxRecDepth 100000
open Go.RowKit

/-- none but the place, the gas and the stack are laid anew -/
def SameBut (fr fr' : List Value) : Prop := ∀ i, i ≠ 3 → i ≠ 4 → i ≠ 8 → fr'[i]? = fr[i]?
theorem SameBut.trans {a b c : List Value} (h : SameBut a b) (k : SameBut b c) : SameBut a c := fun i h3 h4 h8 => (k i h3 h4 h8).trans (h i h3 h4 h8)
theorem below_of_grown {w w' : World} (h : w.grownBy w' none) : Below w.heap.size w w' := ⟨h.os, h.tape, h.output, h.size, fun k hk => h.block k hk (fun e => by cases e)⟩
/-- the frame once its stack and its place are laid anew -/
theorem FM.next {bw gf : Nat} {fr : List Value} {pc gas : Nat} {stk : List Nat} {mem code : List Int} {w w9 : World} (h : FM bw gf fr pc gas stk mem code w) (hbw : bw < w.heap.size) (dw : Below w.heap.size w w9) {pc' : Nat} {A6 : Option Addr} {k6 c6 : Nat} (N6 : New w A6) (n6 : IsNat w9 A6 k6 c6 pc') {stk' : List Nat} {A9 : Option Addr} {k9 c9 : Nat} (hS : SStk (GF bw gf) w9 A9 k9 c9 stk') :
    FM bw gf ((fr.set 8 (.slice A9 k9 c9)).set 3 (.slice A6 k6 c6)) pc' gas stk' mem code ((w9.setCell ⟨gf, 8, none⟩ (.slice A9 k9 c9)).setCell ⟨gf, 3, none⟩ (.slice A6 k6 c6)) ∧ Chg gf w ((w9.setCell ⟨gf, 8, none⟩ (.slice A9 k9 c9)).setCell ⟨gf, 3, none⟩ (.slice A6 k6 c6)) := by
  have hlt := h.row.lt
  have hlen := h.len
  have hr9 := h.row.kept dw
  have o1 : Only gf w9 (w9.setCell ⟨gf, 8, none⟩ (.slice A9 k9 c9)) := (Only.refl _ _).setCell _ _
  have o2 : Only gf (w9.setCell ⟨gf, 8, none⟩ (.slice A9 k9 c9)) ((w9.setCell ⟨gf, 8, none⟩ (.slice A9 k9 c9)).setCell ⟨gf, 3, none⟩ (.slice A6 k6 c6)) := (Only.refl _ _).setCell _ _
  have o3 := o1.trans o2
  have hG : ∀ G : Nat → Prop, G gf → ChgS G w9 ((w9.setCell ⟨gf, 8, none⟩ (.slice A9 k9 c9)).setCell ⟨gf, 3, none⟩ (.slice A6 k6 c6)) := fun G hg => ChgS.only o3 hg
  have hc : ChgS (GF bw gf) w ((w9.setCell ⟨gf, 8, none⟩ (.slice A9 k9 c9)).setCell ⟨gf, 3, none⟩ (.slice A6 k6 c6)) := (ChgS.of dw).then (hG (GF bw gf) (.inr rfl)) (fun _ h _ => h)
  obtain ⟨A2, k2, c2, g1, g2⟩ := h.gasN
  obtain ⟨A4, k4, c4, m1, m2⟩ := h.memN
  obtain ⟨A5, k5, c5, e1, e2⟩ := h.codeN
  have hfr : ∀ i, i ≠ 3 → i ≠ 8 → ((fr.set 8 (Value.slice A9 k9 c9)).set 3 (Value.slice A6 k6 c6))[i]? = fr[i]? := fun i h1 h2 => by rw [List.getElem?_set_ne (Ne.symm h1), List.getElem?_set_ne (Ne.symm h2)]
  refine ⟨⟨(hr9.set 8 _).set 3 _, by rw [List.length_set, List.length_set]; exact hlen, (hfr 1 (by omega) (by omega)).trans h.native, (hfr 2 (by omega) (by omega)).trans h.static, ⟨A6, k6, c6, List.getElem?_set_self (by rw [List.length_set]; omega), ?_⟩, ⟨A2, k2, c2, (hfr 4 (by omega) (by omega)).trans g1, g2.go hc (fun _ h _ => h)⟩, ⟨A9, k9, c9, ?_, hS.go (hG (GF bw gf) (.inr rfl))⟩, ⟨A4, k4, c4, (hfr 9 (by omega) (by omega)).trans m1, m2.go hc (fun _ h _ => h)⟩, ⟨A5, k5, c5, (hfr 10 (by omega) (by omega)).trans e1, e2.go hc (fun _ h _ => h)⟩⟩, ?_⟩
  · exact (StabS.nat n6 (fun x hx _ hg => by have := N6 x hx; rcases hg with hg | hg <;> omega)).go (hG (GF bw gf) (.inr rfl)) (fun _ h _ => h)
  · rw [List.getElem?_set_ne (by omega)]
    exact List.getElem?_set_self (by omega)
  · exact (Chg.of dw).trans (Chg.ofOnly o3)
theorem Each.take {β : Type} {R : List Value → β → Prop} : ∀ {xs : List (List Value)} {ys : List β} (n : Nat), Each R xs ys → Each R (xs.take n) (ys.take n)
  | [], [], n, _ => by simp [Each]
  | [], _ :: _, _, h => h.elim
  | _ :: _, [], _, h => h.elim
  | _ :: _, _ :: _, 0, _ => trivial
  | _ :: _, _ :: _, n + 1, h => ⟨h.1, Each.take n h.2⟩
/-- the stack with one more word, laid anew -/
theorem SStk.push {bw gf : Nat} {w w9 : World} {rows : List (List Value)} {stk : List Nat} (h2 : Each (SNat (GF bw gf) w) rows stk) (hs : ∀ x ∈ rows, x.length = 1) (q : Nat) (hq : q ≤ rows.length) (hbw : bw < w.heap.size) (hgf : gf < w.heap.size) (dw : Below w.heap.size w w9) {base e : Nat} (hbase : w.heap.size ≤ base) {v9 : Value} {A8 : Option Addr} {k8 c8 r : Nat} (n8 : IsNat w9 A8 k8 c8 r) (N8 : New w A8) (ho : w9.ownsRow base e 1 v9 (q + 1) ((rows.take q).flatten ++ [.slice A8 k8 c8])) :
    ∃ A9 c9, v9 = .slice A9 (q + 1) c9 ∧ SStk (GF bw gf) w9 A9 (q + 1) c9 (stk.take q ++ [r]) := by
  have ho2 : w9.ownsRow base e 1 v9 (q + 1) (rows.take q ++ [[Value.slice A8 k8 c8]]).flatten := by
    rw [List.flatten_append]
    exact ho
  obtain ⟨A9, c9, rfl, hr⟩ := own_rws ho2 (fun x hx => by
    rcases List.mem_append.1 hx with hx | hx
    · exact hs x (List.mem_of_mem_take hx)
    · rw [List.mem_singleton.1 hx]; rfl) (by simp; omega)
  have hb9 : ∀ x, A9 = some x → base ≤ x.block := fun x hx => by
    subst hx
    exact (ho.lt x.block rfl).1
  refine ⟨A9, c9, rfl, _, StabS.rws hr (fun x hx _ hg => by have := hb9 x hx; rcases hg with hg | hg <;> omega), ?_⟩
  refine Each.snoc ((Each.take q h2).imp fun _ _ h => h.go (ChgS.of dw)) ?_
  exact ⟨A8, k8, c8, rfl, StabS.nat n8 (fun x hx _ hg => by have := N8 x hx; rcases hg with hg | hg <;> omega)⟩
set_option maxHeartbeats 16000000 in
theorem plain_one (o : Nat) (ho : opO o) (hgv : givN o = 1) {bw gf : Nat} {fr : List Value} {pc gas : Nat} {stk : List Nat} {mem code : List Int} {w : World} (h : FM bw gf fr pc gas stk mem code w) (hbw : bw < w.heap.size) (hl : stk.length ≤ 60) (htk : takN o ≤ stk.length) (hpc : pc < 1000000) (r : Nat)
    (hval : ∀ wz ao c, Below w.heap.size w wz → ArgsR wz ao (takN o) c (argsOf stk (takN o)) → Calls Sakg.prog 217 #[.pointer (some ⟨bw, 0, none⟩), .pointer (some ⟨gf, 0, none⟩), .int .u8 o, .slice ao (takN o) c] wz (MakesNat wz r)) :
    Calls Sakg.prog 122 #[.pointer (some ⟨bw, 0, none⟩), .pointer (some ⟨gf, 0, none⟩), .int .u8 o] w fun e w' => e = .returned (.tuple #[]) ∧ ∃ fr', FM bw gf fr' (pc + 1 + immN o) gas (stk.take (stk.length - takN o) ++ [r]) mem code w' ∧ SameBut fr fr' ∧ Chg gf w w' := by
  have hBB := big_ge
  have htk3 : takN o ≤ 3 := by unfold takN; (repeat (split; omega)); omega
  have himm : immN o ≤ 32 := by unfold immN; (repeat (split; omega)); omega
  have hoo : o ≤ 127 := by
    unfold givN at hgv
    unfold opO aluO at ho
    split at hgv <;> omega
  have HAR := hide (arity_op o ho w)
  rw [hgv] at HAR
  have HIM : ∀ wz, Hid (Calls Sakg.prog 216 #[.int .u8 o] wz fun e w' => e = .returned (.int .u8 (immN o)) ∧ wz = w') := fun wz => hide (imm_op o ho wz)
  generalize htt : takN o = tk at htk htk3 HAR hval
  generalize hii : immN o = ik at himm HIM
  have t86 : ((o : Int) == 86) = false := by rw [beq_eq_false_iff_ne]; unfold opO aluO at ho; omega
  have t87 : ((o : Int) == 87) = false := by rw [beq_eq_false_iff_ne]; unfold opO aluO at ho; omega
  have t128 : decide ((128 : Int) ≤ (o : Int)) = false := decide_eq_false (by omega)
  have t144 : decide ((144 : Int) ≤ (o : Int)) = false := decide_eq_false (by omega)
  obtain ⟨i0, hi0, hz0, hz1, hz2⟩ := info_parts infoNat1
  have HI0 := hide hi0
  have HZ0 := hide hz0
  have HZ1 := hide hz1
  have HZ2 := hide hz2
  have hgl := h.row.lt
  have HFM := hide h
  have HVAL := hide hval
  clear hi0 hz0 hz1 hz2 h hval htt hii hgv
  go_enter Sakg.func122, Sakg.ntmps122
  go_upto_region 2 with (first
    | (go_at_call 202; refine (unhide HAR).mono ?_; rintro e w1 ⟨rfl, rfl⟩)
    | (at_make; refine wpList_make_rows rfl _ _ 192 rfl 54 Sakg.underlying192 i0 _ 1 24 (unhide HI0) (unhide HZ0) (unhide HZ1) (unhide HZ2) _ _ tk rfl rfl rfl rfl (by omega) (by omega) ?_; intro w2 zs hr2 hzl hb2 hs2))
  have HR2 := hide hr2
  have HZL := hide hzl
  have HB2 := hide hb2
  clear hr2 hzl hb2 hs2
  go_wp2_with fail
  go_loopg [24] tk (fun gk iv wr => ∃ (i : Nat) (cs : List Value), i + gk = tk ∧ iv = .int .i64 i ∧ RowT 54 wr w.heap.size cs ∧ cs.length = tk ∧ Laid (GF bw gf) w stk cs i ∧ Below w.heap.size w wr)
  case atStart => exact ⟨0, zs, by omega, rfl, unhide HR2, by have := unhide HZL; omega, fun j hj => by omega, unhide HB2⟩
  case round =>
    obtain ⟨i, cs, hi, rfl, hr, hcl, hlaid, hbe⟩ := hrel
    have HR := hide hr
    have HLAID := hide hlaid
    clear hr hlaid
    by_cases hit : i < tk
    · have HA := hide (arg_at (unhide HFM) hbe (by omega) i (by omega))
      go_wp2_with (go_at_call 118; refine (unhide HA).mono ?_; rintro e w3 ⟨⟨A, k, c, rfl, hs⟩, q3⟩; have b3 : Below wr.heap.size wr w3 := q3.below _; have hr3 := (unhide HR).kept b3; have hx3 : ∃ v, w3.cell? ⟨w.heap.size, i, none⟩ = some v := by { rw [hr3.cell, List.getElem?_eq_getElem (by omega)]; exact ⟨_, rfl⟩ }; obtain ⟨v3, hx3⟩ := hx3; have hf3 := hr3.froz i; have HR3 := hide hr3; have HS := hide hs; clear hr3 hs q3)
      have hset := (unhide HR3).set i (Value.slice A k c)
      have hb4 : Below w.heap.size w (w3.setCell ⟨w.heap.size, i, none⟩ (Value.slice A k c)) := (hbe.trans (b3.mono hbe.size)).setCell (p := ⟨w.heap.size, i, none⟩) (Nat.le_refl _) _
      go_roundg (tk - 1 - i)
      case measure => omega
      case rel => exact ⟨i + 1, _, by omega, rfl, hset, by rw [List.length_set]; exact hcl, (unhide HLAID).snoc (by omega) (unhide HS), hb4⟩
    · obtain rfl : i = tk := by omega
      obtain ⟨Ap, kp, cp, p1, p2⟩ := (unhide HFM).pcN
      obtain ⟨As, ls, cS, s1, s2⟩ := (unhide HFM).stkN
      have hls := s2.len
      obtain ⟨rowsS, sr1, sr2⟩ := s2
      have hlc := sr1.now.le
      have hnilS := sr1.now.nil
      have SR1 := hide sr1
      have SR2 := hide sr2
      have x3 : ∀ wz, Below w.heap.size w wz → wz.cell? ⟨gf, 3, none⟩ = some (.slice Ap kp cp) ∧ IsNat wz Ap kp cp pc := fun wz hz => ⟨by rw [((unhide HFM).row.kept hz).cell]; exact p1, p2 wz (ChgS.of hz)⟩
      have x8 : ∀ wz, Below w.heap.size w wz → wz.cell? ⟨gf, 8, none⟩ = some (.slice As ls cS) := fun wz hz => by rw [((unhide HFM).row.kept hz).cell]; exact s1
      have X3 := hide x3
      have X8 := hide x8
      have dR : Below wr.heap.size wr wr.drew := Quiet.below ⟨1, rfl⟩ _
      have hX : ∀ wz, Below wr.heap.size wr wz → Below w.heap.size w wz := fun wz hz => hbe.trans (hz.mono hbe.size)
      have HX := hide hX
      have hwk : IntKind.u64.wrap (ik : Int) = (ik : Int) := by rw [IntKind.wrap_u64]; omega
      obtain ⟨j1, hj1⟩ : ∃ j1, j1 = 1 + ik := ⟨_, rfl⟩
      have ej : (1 : Int) + (ik : Int) = (j1 : Int) := by omega
      have ejw : IntKind.u64.wrap ((1 : Int) + (ik : Int)) = (j1 : Int) := by rw [IntKind.wrap_u64]; omega
      have ejw2 : IntKind.u64.wrap (j1 : Int) = (j1 : Int) := by rw [IntKind.wrap_u64]; omega
      have hj1l : j1 ≤ 40 := by omega
      have HJ1 := hide hj1
      clear p1 p2 s1 x3 x8 hX hj1 sr1 sr2
      go_upto_region 7 with fail
      refine wp_region_noPanic ?_
      refine wp_region_held_drew (S := fun w' => Below wr.heap.size wr w') (by kernel_rfl) (dR) (fun hHeld => ?_)
      refine held_takeD 0 (.pointer (some ⟨gf, 0, none⟩)) (some 34) (by rfl) (by rfl) (by kernel_rfl) (by kernel_rfl) (by kernel_rfl) (fun _ _ _ h => h) (.inl ⟨by rfl, fun _ _ => by rfl⟩) (hHeld) ?_
      simp only [Act.put, List.setIfInBounds_toArray, List.set_cons_zero, List.set_cons_succ]
      refine held_takeD 1 (.pointer (some ⟨gf, 0, none⟩)) (some 35) (by rfl) (by rfl) (by kernel_rfl) (by kernel_rfl) (by kernel_rfl) (fun _ _ _ h => h) (.inl ⟨by rfl, fun _ _ => by go_simp⟩) (hHeld) ?_
      simp only [Act.put, List.setIfInBounds_toArray, List.set_cons_zero, List.set_cons_succ]
      refine held_takeD 2 (.pointer (some ⟨gf, 3, none⟩)) (some 36) (by rfl) (by rfl) (by kernel_rfl) (by kernel_rfl) (by kernel_rfl) (fun _ _ _ h => h) (.inl ⟨by rfl, fun _ _ => by go_simp⟩) (hHeld) ?_
      simp only [Act.put, List.setIfInBounds_toArray, List.set_cons_zero, List.set_cons_succ]
      refine held_takeD 3 (.slice Ap kp cp) (some 37) (by rfl) (by rfl) (by kernel_rfl) (by kernel_rfl) (by kernel_rfl) (fun _ _ _ h => h) (.inl ⟨by rfl, fun wS hS => by have hc := (unhide X3 wS (unhide HX wS hS)).1; go_simp⟩) (hHeld) ?_
      simp only [Act.put, List.setIfInBounds_toArray, List.set_cons_zero, List.set_cons_succ]
      refine held_takeD 4 (.int .u8 o) (some 38) (by rfl) (by rfl) (by kernel_rfl) (by kernel_rfl) (by kernel_rfl) (fun _ _ _ h => h) (.inl ⟨by rfl, fun _ _ => by rfl⟩) (hHeld) ?_
      simp only [Act.put, List.setIfInBounds_toArray, List.set_cons_zero, List.set_cons_succ]
      refine held_one 5 (by kernel_rfl) (by rfl) (fun K' hK' => ?_)
      go_simp
      refine (unhide (HIM wr.drew)).mono ?_
      rintro e w4 ⟨rfl, rfl⟩
      refine hK'.out _ _ (dR) ?_
      clear hK' K'
      refine held_takeD 6 (.int .u64 ik) (some 40) (by rfl) (by rfl) (by kernel_rfl) (by kernel_rfl) (by kernel_rfl) (fun _ _ _ h => h) (.inl ⟨by rfl, fun _ _ => by go_simp⟩) (dR) ?_
      simp only [Act.put, List.setIfInBounds_toArray, List.set_cons_zero, List.set_cons_succ]
      refine held_takeD 7 (.int .u64 j1) (some 41) (by rfl) (by rfl) (by kernel_rfl) (by kernel_rfl) (by kernel_rfl) (fun _ _ _ h => h) (.inl ⟨by rfl, fun _ _ => by go_simp⟩) (dR) ?_
      simp only [Act.put, List.setIfInBounds_toArray, List.set_cons_zero, List.set_cons_succ]
      refine held_one 8 (by kernel_rfl) (by rfl) (fun K' hK' => ?_)
      go_simp
      refine (num_any j1 wr.drew (by omega)).mono ?_
      rintro e w5 ⟨A5, k5, c5, rfl, n5, N5, b5⟩
      refine hK'.out _ _ (dR.trans (b5.mono dR.size)) ?_
      clear hK' K'
      have d5 := dR.trans (b5.mono dR.size)
      refine held_one 9 (by kernel_rfl) (by rfl) (fun K' hK' => ?_)
      go_simp
      refine ((unhide X3 w5 (unhide HX w5 d5)).2.add n5 (by omega) (by omega)).mono ?_
      rintro e w6 ⟨A6, k6, c6, rfl, n6, N6, b6⟩
      refine hK'.out _ _ (d5.trans (b6.mono d5.size)) ?_
      clear hK' K'
      have d6 := d5.trans (b6.mono d5.size)
      refine held_takeD 10 (.slice A6 k6 c6) (some 11) (by rfl) (by rfl) (by kernel_rfl) (by kernel_rfl) (by kernel_rfl) (fun _ _ _ h => h) (.inl ⟨by rfl, fun _ _ => by rfl⟩) (d6) ?_
      simp only [Act.put, List.setIfInBounds_toArray, List.set_cons_zero, List.set_cons_succ]
      refine wpAnyH_done (by kernel_rfl) ?_ _
      refine NoPanic.normal ?_
      have e6 : pc + j1 = pc + 1 + ik := by rw [unhide HJ1]; omega
      rw [e6] at n6
      have NN6 := hide n6
      have N6w : New w A6 := N6.later (Nat.le_trans hbe.size d5.size)
      have HR6 := hide ((unhide HR).kept d6)
      have dw6 : Below w.heap.size w w6 := unhide HX w6 d6
      have y8 := unhide X8 w6 dw6
      obtain ⟨q, hq⟩ : ∃ q, q = ls - i := ⟨_, rfl⟩
      have eq1 : (ls : Int) - (i : Int) = (q : Int) := by omega
      have hql : q ≤ ls := by omega
      have HQ := hide hq
      clear n6 n5 e6 ej ejw ejw2 hwk hq
      go_upto_region 8 with fail
      go_cut [12] (fun s12 wc => s12 = .slice As q q ∧ Below w6.heap.size w6 wc)
      case first =>
        cases As with
        | none =>
          obtain ⟨h1, h2⟩ := hnilS rfl
          obtain rfl : q = 0 := by omega
          subst h1 h2
          go_quiet (fail)
          go_wp2_with fail
          go_meet
          case rel => exact ⟨rfl, Quiet.below ⟨_, rfl⟩ _⟩
        | some ad =>
          clear hnilS
          go_quiet (fail)
          go_wp2_with fail
          go_meet
          case rel => exact ⟨rfl, Quiet.below ⟨_, rfl⟩ _⟩
      case rest =>
        obtain ⟨w7, hw7⟩ : ∃ w7, w7 = wc := ⟨_, rfl⟩
        subst hw7
        obtain ⟨rfl, b7⟩ := hcut
        have dw7 : Below w.heap.size w w7 := dw6.trans (b7.mono dw6.size)
        have hargs := (unhide HLAID).args ((unhide HR6).kept b7) hcl (by omega) (ChgS.of dw7)
        have HV := hide (unhide HVAL w7 _ i dw7 hargs)
        clear hargs y8 hnilS
        go_wp2_with fail
        refine (unhide HV).mono ?_
        rintro e w8 ⟨A8, k8, c8, rfl, n8, N8, b8⟩
        have dw8 : Below w.heap.size w w8 := dw7.trans (b8.mono dw7.size)
        have NN8 := hide n8
        clear n8
        obtain ⟨rq, hrq⟩ : ∃ rq, rq = rowsS.take q := ⟨_, rfl⟩
        have hrl := (unhide SR1).now.len_eq
        have hsz1 := (unhide SR1).now.sz_eq
        have hrql : rq.length = q := by rw [hrq, List.length_take]; omega
        have hrqs : ∀ x ∈ rq, x.length = 1 := fun x hx => hsz1 x (List.mem_of_mem_take (hrq ▸ hx))
        have hlo : rq.flatten.length = q * 1 := by rw [flat_len 1 rq hrqs, hrql]
        have hlow : ∀ wz, Below w.heap.size w wz → ∀ b, As = some b → ∀ j u, rq.flatten[j]? = some u → wz.cell? (b.add j) = some u := by
          intro wz hz b hb j u hj
          have hjq : j < q := by
            rcases Nat.lt_or_ge j rq.flatten.length with h' | h'
            · omega
            · rw [List.getElem?_eq_none h'] at hj; cases hj
          obtain ⟨bb, off, hA, hlt, hc⟩ := (unhide SR1).now.at_ (by omega)
          rw [hb] at hA
          obtain rfl := Option.some.inj hA
          have hx1 : (rq.getD j []).length = 1 := hrqs _ (by rw [List.getD_eq_getElem?_getD, List.getElem?_eq_getElem (by omega)]; simp)
          have hget := flat_get 1 rq j hrqs (by omega) 0 ((rq.getD j []).getD 0 nilS) (getD_some _ _ _ (by omega))
          rw [Nat.mul_one, Nat.add_zero, hj] at hget
          have hrr : rq.getD j [] = rowsS.getD j [] := by rw [hrq, List.getD_eq_getElem?_getD, List.getD_eq_getElem?_getD, List.getElem?_take, if_pos hjq]
          have h2 := hc j (by omega) 0 u (by rw [← hrr, Option.some.inj hget]; exact getD_some _ _ _ (by omega))
          rw [addAt, hz.cell (p := ⟨bb, off + j, none⟩) hlt]
          rwa [Nat.mul_one, Nat.add_zero] at h2
        have HLOW := hide hlow
        obtain ⟨w8x, hw8x⟩ : ∃ x, x = w8.alloc (.cells #[Value.slice A8 k8 c8] 54) := ⟨_, rfl⟩
        have r8x : RowT 54 w8x w8.heap.size [Value.slice A8 k8 c8] := by rw [hw8x]; exact RowT.new _ _ _
        have b8x : Below w8.heap.size w8 w8x := by rw [hw8x]; exact (Below.refl _ _).alloc (Nat.le_refl _) _
        have dw8x : Below w.heap.size w w8x := dw8.trans (b8x.mono dw8.size)
        have hnews : ∀ j u, [Value.slice A8 k8 c8][j]? = some u → w8x.cell? ((⟨w8.heap.size, 0, none⟩ : Addr).add j) = some u := fun j u hj => by rw [addAt, Nat.zero_add, r8x.cell]; exact hj
        have HNEWS := hide hnews
        have hnil2 : As = none → q = 0 ∧ q = 0 := fun hA => by
          have := (unhide SR1).now.nil hA
          omega
        clear hnews hlow r8x
        go_upto_region 25 with ((with_reducible refine at_append ?_); rw [← hw8x]; refine wpList_append_grows (P := Sakg.prog) _ rfl (.tmp 153) (.tmp 159) 192 rfl 54 i0 nilS 1 24 Sakg.underlying192 (unhide HI0) (unhide HZ0) (unhide HZ1) (unhide HZ2) rfl (by omega) As q q rq.flatten rfl hnil2 hlo (unhide HLOW w8x dw8x) ⟨w8.heap.size, 0, none⟩ 1 1 [Value.slice A8 k8 c8] rfl rfl (unhide HNEWS) (by simp [Value.oneCell']) (by omega) (by unfold maxLen; omega) (by omega) ?_; intro v9 w9 hown9 hgr9)
        have b9 : Below w8x.heap.size w8x w9 := below_of_grown hgr9
        have dw9 : Below w.heap.size w w9 := dw8x.trans (b9.mono dw8x.size)
        have n8' := ((unhide NN8).kept b8x).kept b9
        have N8w : New w A8 := N8.later dw7.size
        have hbase : w.heap.size ≤ w8x.heap.size := dw8x.size
        have b69 : Below w6.heap.size w6 w9 := (b7.trans (b8.mono b7.size)).trans ((b8x.trans (b9.mono b8x.size)).mono (Nat.le_trans b7.size b8.size))
        have n6' := (unhide NN6).kept b69
        rw [hrq] at hown9
        obtain ⟨A9, c9, rfl, hS9⟩ := SStk.push (unhide SR2) hsz1 q (by omega) hbw hgl dw9 hbase n8' N8w hown9
        obtain ⟨hfm, hch⟩ := (unhide HFM).next hbw dw9 N6w n6' hS9
        have r9 := (unhide HFM).row.kept dw9
        have hlen9 := (unhide HFM).len
        obtain ⟨v98, hx9⟩ : ∃ v, w9.cell? ⟨gf, 8, none⟩ = some v := by
          rw [r9.cell, List.getElem?_eq_getElem (by omega)]
          exact ⟨_, rfl⟩
        have hf9 := r9.froz 8
        obtain ⟨w10, hw10⟩ : ∃ x, x = w9.setCell ⟨gf, 8, none⟩ (.slice A9 (q + 1) c9) := ⟨_, rfl⟩
        have r10 := r9.set 8 (.slice A9 (q + 1) c9)
        rw [← hw10] at r10 hfm hch
        obtain ⟨v93, hx10⟩ : ∃ v, w10.cell? ⟨gf, 3, none⟩ = some v := by
          rw [r10.cell, List.getElem?_eq_getElem (by rw [List.length_set]; omega)]
          exact ⟨_, rfl⟩
        have hf10 := r10.froz 3
        have eqs : stk.length - i = q := by rw [unhide HQ, hls]
        have HFM9 := hide hfm
        have HCH9 := hide hch
        have HQS := hide eqs
        have HW10 := hide hw10
        clear hown9 r9 r10 hfm hch eqs n6' n8' hS9 hw10 hw8x hrl hsz1 hlo hnil2
        go_upto_region 26 with fail
        rw [← unhide HW10]
        go_wp2
        refine bodyPost_done rfl rfl ?_
        refine ⟨rfl, (fr.set 8 (.slice A9 (q + 1) c9)).set 3 (.slice A6 k6 c6), ?_, fun i h3 _ h8 => by rw [List.getElem?_set_ne (Ne.symm h3), List.getElem?_set_ne (Ne.symm h8)], unhide HCH9⟩
        rw [unhide HQS]
        exact unhide HFM9

end Go.Proofs.YgcsakGreat
