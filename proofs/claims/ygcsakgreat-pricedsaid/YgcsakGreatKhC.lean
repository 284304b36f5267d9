/-
  yp: copied, answer, wait of a frame wherever it lies.
-/
import Derived.Test.YgcsakGreatKfD
import Derived.Test.YgcsakGreatKhA
import Derived.ArgAppend
namespace Go.Proofs.YgcsakGreat
set_option linter.unusedVariables false
set_option linter.unusedSimpArgs false
set_option maxRecDepth 100000
open Go.RowKit

/-- bytes have come into memory -/
def MemR (G : Nat → Prop) (gf o : Nat) (fr : List Value) (f : FD) (w : World) (e : Ending) (w' : World) : Prop :=
  e = .returned (.tuple #[]) ∧ FX G gf o fr f w' ∧ Mv G w w' ∧ ∀ k T (cs : List Value), T ≠ 5 → RowT T w k cs → RowT T w' k cs
set_option maxHeartbeats 4000000 in
theorem FX.copied {G : Nat → Prop} {gf o : Nat} {fr : List Value} {f : FD} {w : World} (h : FX G gf o fr f w) (hml : f.ml ≤ 1000000) (a : Option Addr) (la ca m : Nat) (ha : KNat G w a la ca m) (hm : m < BIG) (S : Option Addr) (ls cs : Nat) (xs : List Int) (hs : Src w S ls cs xs) (hls : ls ≤ 1000000)
    (b : Option Addr) (lb cb j : Nat) (hb : IsNat w b lb cb j) (hj : j < BIG) (c : Option Addr) (lc cc n : Nat) (hc : IsNat w c lc cc n) (hn : n ≤ 100000000) :
    Calls Sakg.prog 310 #[.pointer (some ⟨gf, o, none⟩), .slice a la ca, .slice S ls cs, .slice b lb cb, .slice c lc cc] w (MemR G gf o fr f w) := by
  have hBB := big_ge
  have HZ := hide (isZero_any c lc cc n w hc (by omega))
  have HF := hide h
  have HA := hide ha
  have HS := hide hs
  have HB := hide hb
  have HC := hide hc
  clear h ha hs hb hc
  by_cases h0 : n = 0
  · rw [decide_eq_true h0] at HZ
    go_enter Sakg.func310, Sakg.ntmps310
    go_wp2_with (go_at_call 130; refine (unhide HZ).mono ?_; rintro e w1 ⟨rfl, q1⟩; have b1 : Below w.heap.size w w1 := q1.below _; clear q1)
    refine bodyPost_done rfl rfl ?_
    exact ⟨rfl, (unhide HF).kept b1, Mv.of b1, fun _ _ _ _ hr => hr.kept b1⟩
  rw [decide_eq_false h0] at HZ
  go_enter Sakg.func310, Sakg.ntmps310
  go_wp2_with fail
  refine (unhide HZ).mono ?_
  rintro e w1 ⟨rfl, q1⟩
  have b1 : Below w.heap.size w w1 := q1.below _
  have HCU := hide (cut_any S ls cs xs b c lb cb lc cc j n w1 ((unhide HS).kept b1) ((unhide HB).kept b1) ((unhide HC).kept b1) hj hn hls)
  clear q1
  go_wp2_with fail
  refine (unhide HCU).mono ?_
  rintro e w2 ⟨g2, ys, rfl, o2, hyl, hyb, hg2, b2⟩
  have d2 : Below w.heap.size w w2 := b1.thn b2
  have HWR := hide (((unhide HF).kept d2).write hml a la ca m ((unhide HA).kp (ChgS.of d2)).now hm (some ⟨g2, 0, none⟩) n n ys (o2.src_all hyb n hyl.symm (by unfold maxLen; omega)))
  clear o2
  go_wp2_with (go_at_call 207; refine (unhide HWR).mono ?_; rintro e w3 ⟨rfl, hx3, hm3, hs3, hr3⟩; have HX3 := hide hx3; have HM3 := hide hm3; have HR3 := hide hr3; clear hx3 hm3 hr3)
  refine bodyPost_done rfl rfl ?_
  exact ⟨rfl, unhide HX3, (Mv.of d2).trans (unhide HM3), fun k T cs hT hr => unhide HR3 k T cs hT (hr.kept d2)⟩

theorem infoNatK : (Sakg.prog.info? 54).map (fun i => (i.zero, i.size, i.bytes)) = some (some nilS, 1, 24) := by kernel_rfl
theorem below_grown {w w' : World} (h : w.grownBy w' none) : Below w.heap.size w w' := ⟨h.os, h.tape, h.output, h.size, fun k hk => h.block k hk (fun e => by cases e)⟩
theorem Each.takeK {β : Type} {R : List Value → β → Prop} : ∀ {xs : List (List Value)} {ys : List β} (n : Nat), Each R xs ys → Each R (xs.take n) (ys.take n)
  | [], [], n, _ => by simp [Each]
  | [], _ :: _, _, h => h.elim
  | _ :: _, [], _, h => h.elim
  | _ :: _, _ :: _, 0, _ => trivial
  | _ :: _, _ :: _, n + 1, h => ⟨h.1, Each.takeK n h.2⟩
theorem Each.append {β : Type} {R : List Value → β → Prop} : ∀ {xs xs' : List (List Value)} {ys ys' : List β}, Each R xs ys → Each R xs' ys' → Each R (xs ++ xs') (ys ++ ys')
  | [], _, [], _, _, h => h
  | [], _, _ :: _, _, h, _ => h.elim
  | _ :: _, _, [], _, h, _ => h.elim
  | _ :: _, _, _ :: _, _, h, k => ⟨h.1, Each.append h.2 k⟩
/-- the stack with more words, laid anew -/
theorem SStk.pushes {G : Nat → Prop} {w w9 : World} {rows more : List (List Value)} {stk add : List Nat} (h2 : Each (SNat G w) rows stk) (hs : ∀ x ∈ rows, x.length = 1) (q : Nat) (hq : q ≤ rows.length) (hG : Ther G w) (hc : ChgS G w w9) {base e : Nat} (hbase : w.heap.size ≤ base) {v9 : Value} (hm : Each (SNat G w9) more add) (hms : ∀ x ∈ more, x.length = 1) (hqn : q + more.length ≤ 1000) (ho : w9.ownsRow base e 1 v9 (q + more.length) ((rows.take q).flatten ++ more.flatten)) :
    ∃ A9 c9, v9 = .slice A9 (q + more.length) c9 ∧ SStk G w9 A9 (q + more.length) c9 (stk.take q ++ add) := by
  have ho2 : w9.ownsRow base e 1 v9 (q + more.length) (rows.take q ++ more).flatten := by
    rw [List.flatten_append]
    exact ho
  obtain ⟨A9, c9, rfl, hr⟩ := own_rws ho2 (fun x hx => by
    rcases List.mem_append.1 hx with hx | hx
    · exact hs x (List.mem_of_mem_take hx)
    · exact hms x hx) (by simp; omega)
  have hb9 : ∀ x, A9 = some x → base ≤ x.block := fun x hx => by
    subst hx
    exact (ho.lt x.block rfl).1
  refine ⟨A9, c9, rfl, _, StabS.rws hr (fun x hx _ hg => by have := hb9 x hx; have := hG _ hg; omega), ?_⟩
  have h3 := (Each.takeK q h2).imp fun _ _ h => SNat.go h hc
  exact Each.append h3 hm
/-- a part of the stack -/
theorem SStk.cut {G : Nat → Prop} {w : World} {A : Option Addr} {l c : Nat} {stk : List Nat} (h : SStk G w A l c stk) (q : Nat) (hq : q ≤ l) : SStk G w A q q (stk.take q) := by
  obtain ⟨rows, h1, h2⟩ := h
  refine ⟨rows.take q, fun w' hc => ?_, Each.takeK q h2⟩
  have h3 := h1 w' hc
  have hl := h3.len_eq
  refine ⟨by rw [List.length_take]; omega, Nat.le_refl _, by have := h3.max; have := h3.le; omega, fun r hr => h3.sz_eq r (List.mem_of_mem_take hr), fun hA => ?_, fun hq0 => ?_⟩
  · have := h3.nil hA; omega
  · obtain ⟨b, off, ha, hlt, hcs⟩ := h3.at_ (by omega)
    refine ⟨b, off, ha, hlt, fun i hi j v hv => hcs i (by omega) j v ?_⟩
    rwa [List.getD_eq_getElem?_getD, List.getElem?_take, if_pos hi, ← List.getD_eq_getElem?_getD] at hv
/-- where the stack's words lie -/
theorem stk_low {G : Nat → Prop} {w : World} {A : Option Addr} {l c : Nat} {rows : List (List Value)} (h : StabS G (fun w => Rws w 1 A l c rows) w) (q : Nat) (hq : q ≤ l) (wz : World) (hz : ChgS G w wz) : (rows.take q).flatten.length = q * 1 ∧ ∀ b, A = some b → ∀ j u, (rows.take q).flatten[j]? = some u → wz.cell? (b.add j) = some u := by
  have h3 := h wz hz
  have hl := h3.len_eq
  have hsz1 := h3.sz_eq
  have hrql : (rows.take q).length = q := by rw [List.length_take]; omega
  have hrqs : ∀ x ∈ rows.take q, x.length = 1 := fun x hx => hsz1 x (List.mem_of_mem_take hx)
  have hlo : (rows.take q).flatten.length = q * 1 := by rw [flat_len 1 _ hrqs, hrql]
  refine ⟨hlo, fun b hb j u hj => ?_⟩
  have hjq : j < q := by
    rcases Nat.lt_or_ge j (rows.take q).flatten.length with h' | h'
    · omega
    · rw [List.getElem?_eq_none h'] at hj; cases hj
  obtain ⟨bb, off, hA, hlt, hc⟩ := h3.at_ (by omega)
  rw [hb] at hA
  obtain rfl := Option.some.inj hA
  have hx1 : ((rows.take q).getD j []).length = 1 := hrqs _ (by rw [List.getD_eq_getElem?_getD, List.getElem?_eq_getElem (by omega)]; exact List.getElem_mem _)
  have hget := flat_get 1 (rows.take q) j hrqs (by omega) 0 (((rows.take q).getD j []).getD 0 nilS) (getD_some _ _ _ (by omega))
  rw [Nat.mul_one, Nat.add_zero, hj] at hget
  have hrr : (rows.take q).getD j [] = rows.getD j [] := by rw [List.getD_eq_getElem?_getD, List.getD_eq_getElem?_getD, List.getElem?_take, if_pos hjq]
  have h2 := hc j (by omega) 0 u (by rw [← hrr, Option.some.inj hget]; exact getD_some _ _ _ (by omega))
  rw [addAt]
  rwa [Nat.mul_one, Nat.add_zero] at h2

/-- two cells of the frame have turned -/
def AnsR (G : Nat → Prop) (gf o : Nat) (fr : List Value) (f' : FD) (w : World) (e : Ending) (w' : World) : Prop :=
  e = .returned (.tuple #[]) ∧ ∃ fr', FX G gf o fr' f' w' ∧ fr'.length = fr.length ∧ (∀ i, i < o ∨ o + 60 ≤ i → fr'[i]? = fr[i]?) ∧ Chg gf w w'
set_option maxHeartbeats 8000000 in
theorem FX.answer {G : Nat → Prop} {gf o : Nat} {fr : List Value} {f : FD} {w : World} (h : FX G gf o fr f w) (T : Nat) (hT : T ≤ f.stk.length) (hsl : f.stk.length ≤ 64) (hpc : f.pc < P256) (A : Option Addr) (k c v : Nat) (hv : KNat G w A k c v) :
    Calls Sakg.prog 208 #[.pointer (some ⟨gf, o, none⟩), .int .i64 T, .slice A k c] w (AnsR G gf o fr { f with stk := f.stk.take (f.stk.length - T) ++ [v], pc := f.pc + 1 } w) := by
  have hBB := big_ge
  have hPB := p256_lt
  obtain ⟨As, ls, cS, s1, s2⟩ := h.kf.stk
  have hls := s2.len
  have y8 : w.cell? ⟨gf, o + 8, none⟩ = some (.slice As ls cS) := h.cell s1
  obtain ⟨rows, sr1, sr2⟩ := s2
  have hlc := sr1.now.le
  have hnilS := sr1.now.nil
  have hsz1 := sr1.now.sz_eq
  have hrl := sr1.now.len_eq
  obtain ⟨q, hq⟩ : ∃ q, q = ls - T := ⟨_, rfl⟩
  have eq1 : (ls : Int) - (T : Int) = (q : Int) := by omega
  have hql : q ≤ ls := by omega
  obtain ⟨i0, hi0, hz0, hz1, hz2⟩ := info_parts infoNatK
  have HI0 := hide hi0
  have HZ0 := hide hz0
  have HZ1 := hide hz1
  have HZ2 := hide hz2
  obtain ⟨w8, hw8⟩ : ∃ x, x = w.alloc (.cells #[Value.slice A k c] 54) := ⟨_, rfl⟩
  have r8 : RowT 54 w8 w.heap.size [Value.slice A k c] := by rw [hw8]; exact RowT.new _ _ _
  have b8 : Below w.heap.size w w8 := by rw [hw8]; exact (Below.refl _ _).alloc (Nat.le_refl _) _
  obtain ⟨hlo, hlow⟩ := stk_low sr1 q hql w8 (ChgS.of b8)
  have hnews : ∀ j u, [Value.slice A k c][j]? = some u → w8.cell? ((⟨w.heap.size, 0, none⟩ : Addr).add j) = some u := fun j u hj => by rw [addAt, Nat.zero_add, r8.cell]; exact hj
  have HNEWS := hide hnews
  have HLOW := hide hlow
  have hnil2 : As = none → q = 0 ∧ q = 0 := fun hA => by
    have := hnilS hA
    omega
  have HSR1 := hide sr1
  have HSR2 := hide sr2
  have HV := hide hv
  have HF := hide h
  have HQ := hide hq
  have HT2 := hide hT
  generalize hrq : (rows.take q).flatten = lowc at hlo HLOW
  have HRQ := hide hrq
  clear h s1 sr1 sr2 hv hnews hlow r8 hq hi0 hz0 hz1 hz2 hrq hT
  go_enter Sakg.func208, Sakg.ntmps208
  go_upto_region 1 with fail
  go_cut [21] (fun _ wc => ∃ fr', FX G gf o fr' { f with stk := f.stk.take q ++ [v] } wc ∧ fr'.length = fr.length ∧ (∀ i, i ≠ o + 8 → fr'[i]? = fr[i]?) ∧ Chg gf w wc)
  case first =>
    cases As with
    | none =>
      obtain ⟨rfl, rfl⟩ := hnilS rfl
      obtain rfl : q = 0 := by omega
      go_wp2_with ((with_reducible refine at_append ?_); rw [← hw8]; refine wpList_append_grows (P := Sakg.prog) _ rfl (.tmp 21) (.tmp 23) 192 rfl 54 i0 nilS 1 24 Sakg.underlying192 (unhide HI0) (unhide HZ0) (unhide HZ1) (unhide HZ2) rfl (by omega) none 0 0 lowc rfl hnil2 hlo (unhide HLOW) ⟨w.heap.size, 0, none⟩ 1 1 [Value.slice A k c] rfl rfl (unhide HNEWS) (by simp [Value.oneCell']) (by omega) (by unfold maxLen; omega) (by omega) ?_; intro v9 w9 hown9 hgr9; have b9 : Below w8.heap.size w8 w9 := below_grown hgr9; have d9 : Below w.heap.size w w9 := b8.thn b9; rw [← unhide HRQ] at hown9; obtain ⟨A9, c9, rfl, hS9⟩ := SStk.pushes (more := [[Value.slice A k c]]) (add := [v]) (unhide HSR2) hsz1 0 (by omega) (unhide HF).ther (ChgS.of d9) b8.size ⟨⟨A, k, c, rfl, (unhide HV).kp (ChgS.of d9)⟩, trivial⟩ (by simp) (show _ + 1 ≤ 1000 by omega) hown9; have hx9 := ((unhide HF).kept d9).ex (i := 8) (by omega); obtain ⟨v98, hx9⟩ := hx9; have hf9 := ((unhide HF).kept d9).row.froz (o + 8); have HS9 := hide hS9; clear hown9 hS9)
      go_meet
      case rel =>
        have hx := (unhide HF).kept d9
        exact ⟨_, hx.put (by omega) (hx.kf.setStk (unhide HS9)), List.length_set .., fun i hi => List.getElem?_set_ne (Ne.symm hi), (Chg.of d9).trans (Chg.ofOnly ((Only.refl _ _).setCell _ _))⟩
    | some ad =>
      clear hnilS
      go_wp2_with ((with_reducible refine at_append ?_); rw [← hw8]; refine wpList_append_grows (P := Sakg.prog) _ rfl (.tmp 21) (.tmp 23) 192 rfl 54 i0 nilS 1 24 Sakg.underlying192 (unhide HI0) (unhide HZ0) (unhide HZ1) (unhide HZ2) rfl (by omega) (some ad) q q lowc rfl hnil2 hlo (unhide HLOW) ⟨w.heap.size, 0, none⟩ 1 1 [Value.slice A k c] rfl rfl (unhide HNEWS) (by simp [Value.oneCell']) (by omega) (by unfold maxLen; omega) (by omega) ?_; intro v9 w9 hown9 hgr9; have b9 : Below w8.heap.size w8 w9 := below_grown hgr9; have d9 : Below w.heap.size w w9 := b8.thn b9; rw [← unhide HRQ] at hown9; obtain ⟨A9, c9, rfl, hS9⟩ := SStk.pushes (more := [[Value.slice A k c]]) (add := [v]) (unhide HSR2) hsz1 q (by omega) (unhide HF).ther (ChgS.of d9) b8.size ⟨⟨A, k, c, rfl, (unhide HV).kp (ChgS.of d9)⟩, trivial⟩ (by simp) (show _ + 1 ≤ 1000 by omega) hown9; have hx9 := ((unhide HF).kept d9).ex (i := 8) (by omega); obtain ⟨v98, hx9⟩ := hx9; have hf9 := ((unhide HF).kept d9).row.froz (o + 8); have HS9 := hide hS9; clear hown9 hS9)
      go_meet
      case rel =>
        have hx := (unhide HF).kept d9
        exact ⟨_, hx.put (by omega) (hx.kf.setStk (unhide HS9)), List.length_set .., fun i hi => List.getElem?_set_ne (Ne.symm hi), (Chg.of d9).trans (Chg.ofOnly ((Only.refl _ _).setCell _ _))⟩
  case rest =>
  obtain ⟨W, hWe⟩ : ∃ W, W = wc := ⟨_, rfl⟩
  subst hWe
  obtain ⟨fr1, hx1, hl1, he1, hc1⟩ := hcut
  obtain ⟨Ap, kp, cp, p1, p2⟩ := hx1.kf.pc
  have dW : Below W.heap.size W W.drew := Quiet.below ⟨1, rfl⟩ _
  have P1 := hide p1
  have P2 := hide p2
  have HX1 := hide hx1
  have HE1 := hide he1
  clear hx1 p1 p2 he1 y8 hlo HLOW HNEWS hnil2
  go_upto_region 2 with fail
  refine wp_region_noPanic ?_
  refine wp_region_held_drew (S := fun _ => True) (by kernel_rfl) (trivial) (fun hHeld => ?_)
  refine held_takeD 0 (.pointer (some ⟨gf, o, none⟩)) (some 27) (by rfl) (by rfl) (by kernel_rfl) (by kernel_rfl) (by kernel_rfl) (fun _ _ _ h => h) (.inl ⟨by rfl, fun _ _ => by rfl⟩) (hHeld) ?_
  simp only [Act.put, List.setIfInBounds_toArray, List.set_cons_zero, List.set_cons_succ]
  refine held_takeD 1 (.pointer (some ⟨gf, o, none⟩)) (some 28) (by rfl) (by rfl) (by kernel_rfl) (by kernel_rfl) (by kernel_rfl) (fun _ _ _ h => h) (.inl ⟨by rfl, fun _ _ => by rfl⟩) (hHeld) ?_
  simp only [Act.put, List.setIfInBounds_toArray, List.set_cons_zero, List.set_cons_succ]
  refine held_takeD 2 (.pointer (some ⟨gf, o, none⟩)) (some 29) (by rfl) (by rfl) (by kernel_rfl) (by kernel_rfl) (by kernel_rfl) (fun _ _ _ h => h) (.inl ⟨by rfl, fun _ _ => by go_simp⟩) (hHeld) ?_
  simp only [Act.put, List.setIfInBounds_toArray, List.set_cons_zero, List.set_cons_succ]
  refine held_takeD 3 (.pointer (some ⟨gf, o + 3, none⟩)) (some 30) (by rfl) (by rfl) (by kernel_rfl) (by kernel_rfl) (by kernel_rfl) (fun _ _ _ h => h) (.inl ⟨by rfl, fun _ _ => by go_simp⟩) (hHeld) ?_
  simp only [Act.put, List.setIfInBounds_toArray, List.set_cons_zero, List.set_cons_succ]
  refine held_two 4 5 (by kernel_rfl) (by rfl) (by rfl) (fun K' hK' => ?_) (fun K' hK' => ?_)
  · have hcu : W.drew.cell? ⟨gf, o + 3, none⟩ = some (.slice Ap kp cp) := ((unhide HX1).kept dW).cell (unhide P1)
    go_simp
    refine hK'.out _ _ (trivial) ?_
    clear hK' K'
    refine held_one 5 (by kernel_rfl) (by rfl) (fun K' hK' => ?_)
    go_simp
    refine (num_any 1 W.drew (by omega)).mono ?_
    rintro e wa ⟨Aa, ka, ca, rfl, na, Na, ba⟩
    have da := dW.trans (ba.mono dW.size)
    refine hK'.out _ _ (trivial) ?_
    clear hK' K'
    refine held_one 6 (by kernel_rfl) (by rfl) (fun K' hK' => ?_)
    go_simp
    refine (((unhide P2).kp (ChgS.of da)).now.add na (show f.pc < BIG by omega) (by omega)).mono ?_
    rintro e wb ⟨Ab, kb, cb, rfl, nb, Nb, bb⟩
    have db := da.trans (bb.mono da.size)
    refine hK'.out _ _ (trivial) ?_
    clear hK' K'
    refine held_takeD 7 (.pointer (some ⟨gf, o, none⟩)) (some 34) (by rfl) (by rfl) (by kernel_rfl) (by kernel_rfl) (by kernel_rfl) (fun _ _ _ h => h) (.inl ⟨by rfl, fun _ _ => by go_simp⟩) (trivial) ?_
    simp only [Act.put, List.setIfInBounds_toArray, List.set_cons_zero, List.set_cons_succ]
    refine held_takeD 8 (.pointer (some ⟨gf, o + 3, none⟩)) (some 35) (by rfl) (by rfl) (by kernel_rfl) (by kernel_rfl) (by kernel_rfl) (fun _ _ _ h => h) (.inl ⟨by rfl, fun _ _ => by go_simp⟩) (trivial) ?_
    simp only [Act.put, List.setIfInBounds_toArray, List.set_cons_zero, List.set_cons_succ]
    refine held_one 9 (by kernel_rfl) (by rfl) (fun K' hK' => ?_)
    have hXp := (unhide HX1).kept db
    obtain ⟨vx, hcx⟩ := hXp.ex (i := 3) (by omega)
    have hfx1 := hXp.row.froz (o + 3)
    go_simp
    have hK := KNat.new (G := G) nb (Nb.later (show W.heap.size ≤ _ from da.size)) (unhide HX1).ther
    have hP := hXp.put (by omega : 3 < 60) (hXp.kf.setPc hK)
    have hCc : Chg gf W (wb.setCell ⟨gf, o + 3, none⟩ (.slice Ab kb cb)) := (Chg.of db).trans (Chg.ofOnly ((Only.refl _ _).setCell _ _))
    obtain ⟨wS, hwS⟩ : ∃ x, x = wb.setCell ⟨gf, o + 3, none⟩ (Value.slice Ab kb cb) := ⟨_, rfl⟩
    rw [← hwS] at hP hCc ⊢
    have dS := trivial
    refine hK'.out _ _ (trivial) ?_
    clear hK' K'
    refine wpAnyH_done (by kernel_rfl) ?_ _
    refine NoPanic.normal ?_
    have HP := hide hP
    have HCC := hide hCc
    clear hP hCc hK hwS
    go_wp2
    refine bodyPost_done rfl rfl ?_
    have e : f.stk.length - T = q := by rw [unhide HQ, hls]
    refine ⟨rfl, fr1.set (o + 3) (.slice Ab kb cb), ?_, (List.length_set ..).trans hl1, fun i hi => (List.getElem?_set_ne (show o + 3 ≠ i by omega)).trans (unhide HE1 i (show i ≠ o + 8 by omega)), hc1.trans (unhide HCC)⟩
    have e2 : ls - T = q := (unhide HQ).symm
    first | rw [e] | rw [e2]
    exact unhide HP
  · go_simp
    refine (num_any 1 W.drew (by omega)).mono ?_
    rintro e wa ⟨Aa, ka, ca, rfl, na, Na, ba⟩
    have da := dW.trans (ba.mono dW.size)
    refine hK'.out _ _ (trivial) ?_
    clear hK' K'
    refine held_one 4 (by kernel_rfl) (by rfl) (fun K' hK' => ?_)
    have hcu : wa.cell? ⟨gf, o + 3, none⟩ = some (.slice Ap kp cp) := ((unhide HX1).kept da).cell (unhide P1)
    go_simp
    refine hK'.out _ _ (trivial) ?_
    clear hK' K'
    refine held_one 6 (by kernel_rfl) (by rfl) (fun K' hK' => ?_)
    go_simp
    refine (((unhide P2).kp (ChgS.of da)).now.add na (show f.pc < BIG by omega) (by omega)).mono ?_
    rintro e wb ⟨Ab, kb, cb, rfl, nb, Nb, bb⟩
    have db := da.trans (bb.mono da.size)
    refine hK'.out _ _ (trivial) ?_
    clear hK' K'
    refine held_takeD 7 (.pointer (some ⟨gf, o, none⟩)) (some 34) (by rfl) (by rfl) (by kernel_rfl) (by kernel_rfl) (by kernel_rfl) (fun _ _ _ h => h) (.inl ⟨by rfl, fun _ _ => by go_simp⟩) (trivial) ?_
    simp only [Act.put, List.setIfInBounds_toArray, List.set_cons_zero, List.set_cons_succ]
    refine held_takeD 8 (.pointer (some ⟨gf, o + 3, none⟩)) (some 35) (by rfl) (by rfl) (by kernel_rfl) (by kernel_rfl) (by kernel_rfl) (fun _ _ _ h => h) (.inl ⟨by rfl, fun _ _ => by go_simp⟩) (trivial) ?_
    simp only [Act.put, List.setIfInBounds_toArray, List.set_cons_zero, List.set_cons_succ]
    refine held_one 9 (by kernel_rfl) (by rfl) (fun K' hK' => ?_)
    have hXp := (unhide HX1).kept db
    obtain ⟨vx, hcx⟩ := hXp.ex (i := 3) (by omega)
    have hfx1 := hXp.row.froz (o + 3)
    go_simp
    have hK := KNat.new (G := G) nb (Nb.later (show W.heap.size ≤ _ from da.size)) (unhide HX1).ther
    have hP := hXp.put (by omega : 3 < 60) (hXp.kf.setPc hK)
    have hCc : Chg gf W (wb.setCell ⟨gf, o + 3, none⟩ (.slice Ab kb cb)) := (Chg.of db).trans (Chg.ofOnly ((Only.refl _ _).setCell _ _))
    obtain ⟨wS, hwS⟩ : ∃ x, x = wb.setCell ⟨gf, o + 3, none⟩ (Value.slice Ab kb cb) := ⟨_, rfl⟩
    rw [← hwS] at hP hCc ⊢
    have dS := trivial
    refine hK'.out _ _ (trivial) ?_
    clear hK' K'
    refine wpAnyH_done (by kernel_rfl) ?_ _
    refine NoPanic.normal ?_
    have HP := hide hP
    have HCC := hide hCc
    clear hP hCc hK hwS
    go_wp2
    refine bodyPost_done rfl rfl ?_
    have e : f.stk.length - T = q := by rw [unhide HQ, hls]
    refine ⟨rfl, fr1.set (o + 3) (.slice Ab kb cb), ?_, (List.length_set ..).trans hl1, fun i hi => (List.getElem?_set_ne (show o + 3 ≠ i by omega)).trans (unhide HE1 i (show i ≠ o + 8 by omega)), hc1.trans (unhide HCC)⟩
    have e2 : ls - T = q := (unhide HQ).symm
    first | rw [e] | rw [e2]
    exact unhide HP

set_option maxHeartbeats 8000000 in
theorem FX.wait {G : Nat → Prop} {gf o : Nat} {fr : List Value} {f : FD} {w : World} (h : FX G gf o fr f w) (T : Nat) (hT : T ≤ f.stk.length) (hsl : f.stk.length ≤ 64) (A : Option Addr) (k c m : Nat) (hA : KNat G w A k c m) (hm : m < P256) (B : Option Addr) (k2 c2 n : Nat) (hB : KNat G w B k2 c2 n) (hn : n < P256) :
    Calls Sakg.prog 304 #[.pointer (some ⟨gf, o, none⟩), .int .i64 T, .slice A k c, .slice B k2 c2] w fun e w' => ∃ m', m' < P256 ∧ AnsR G gf o fr { f with stk := f.stk.take (f.stk.length - T), outOff := m', outLen := n } w e w' := by
  have hBB := big_ge
  have hPB := p256_lt
  obtain ⟨As, ls, cS, s1, s2⟩ := h.kf.stk
  have hls := s2.len
  have y8 : w.cell? ⟨gf, o + 8, none⟩ = some (.slice As ls cS) := h.cell s1
  have hlc := (id s2 : SStk G w As ls cS f.stk)
  obtain ⟨rows, sr1, sr2⟩ := id s2
  have hle := sr1.now.le
  have hnilS := sr1.now.nil
  obtain ⟨q, hq⟩ : ∃ q, q = ls - T := ⟨_, rfl⟩
  have eq1 : (ls : Int) - (T : Int) = (q : Int) := by omega
  have hql : q ≤ ls := by omega
  have hcut8 := s2.cut q hql
  have hx1 := h.put (by omega : 8 < 60) (h.kf.setStk hcut8)
  have hc1 : Chg gf w (w.setCell ⟨gf, o + 8, none⟩ (.slice As q q)) := Chg.ofOnly ((Only.refl _ _).setCell _ _)
  obtain ⟨w1, hw1⟩ : ∃ x, x = w.setCell ⟨gf, o + 8, none⟩ (.slice As q q) := ⟨_, rfl⟩
  rw [← hw1] at hx1 hc1
  have hm1 : Mv G w w1 := h.mv hc1
  have hf8 := h.row.froz (o + 8)
  have HX1 := hide hx1
  have KA := hide (hA.kp hm1.chg)
  have KB := hide (hB.kp hm1.chg)
  have HN1 := hide (norm_knat A k c m w1 (hA.kp hm1.chg).now (by omega))
  have HQ := hide hq
  have HW1 := hide hw1
  have HC1 := hide hc1
  clear h s1 s2 sr1 sr2 hA hB hcut8 hx1 hc1 hm1 hq hT hlc hw1
  go_enter Sakg.func304, Sakg.ntmps304
  go_upto_region 1 with fail
  go_cut [23] (fun _ wc => wc = w1)
  case first =>
    cases As with
    | none =>
      obtain ⟨rfl, rfl⟩ := hnilS rfl
      obtain rfl : q = 0 := by omega
      go_wp2_with fail
      go_meet
      case rel => exact (unhide HW1).symm
    | some ad =>
      clear hnilS
      go_wp2_with fail
      go_meet
      case rel => exact (unhide HW1).symm
  case rest =>
  obtain rfl : wc = w1 := hcut
  obtain ⟨v6, hx6⟩ := ((unhide HX1)).ex (i := 6) (by omega)
  clear y8 hx6 v6 hf8
  go_wp2_with fail
  refine (unhide HN1).mono ?_
  rintro e w2 ⟨A2, j2, e2, rfl, n2, N2, b2⟩
  have hx2 := (unhide HX1).kept b2
  have hp2 := hx2.put (by omega : 6 < 60) (hx2.kf.setOutOff (KNat.new n2 N2 (unhide HX1).ther))
  have hc2 : Chg gf wc (w2.setCell ⟨gf, o + 6, none⟩ (.slice A2 j2 e2)) := (Chg.of b2).trans (Chg.ofOnly ((Only.refl _ _).setCell _ _))
  obtain ⟨v6, hx6⟩ := hx2.ex (i := 6) (by omega)
  have hf6 := hx2.row.froz (o + 6)
  obtain ⟨w3, hw3⟩ : ∃ x, x = w2.setCell ⟨gf, o + 6, none⟩ (Value.slice A2 j2 e2) := ⟨_, rfl⟩
  rw [← hw3] at hp2 hc2
  have hm3 : Mv G wc w3 := (unhide HX1).mv hc2
  have HX3 := hide hp2
  have HC3 := hide hc2
  have KB3 := hide ((unhide KB).kp hm3.chg)
  have HN3 := hide (norm_knat B k2 c2 n w3 (unhide KB3).now (by omega))
  have HW3 := hide hw3
  clear n2 hx2 hp2 hc2 hm3 hw3 HN1
  go_wp2_with fail
  rw [← unhide HW3]
  refine (unhide HN3).mono ?_
  rintro e w4 ⟨A4, j4, e4, rfl, n4, N4, b4⟩
  have hx4 := (unhide HX3).kept b4
  have hp4 := hx4.put (by omega : 7 < 60) (hx4.kf.setOutLen (KNat.new n4 N4 (unhide HX3).ther))
  have hc4 : Chg gf w3 (w4.setCell ⟨gf, o + 7, none⟩ (.slice A4 j4 e4)) := (Chg.of b4).trans (Chg.ofOnly ((Only.refl _ _).setCell _ _))
  obtain ⟨v7, hx7⟩ := hx4.ex (i := 7) (by omega)
  have hf7 := hx4.row.froz (o + 7)
  obtain ⟨w5, hw5⟩ : ∃ x, x = w4.setCell ⟨gf, o + 7, none⟩ (Value.slice A4 j4 e4) := ⟨_, rfl⟩
  rw [← hw5] at hp4 hc4
  have hm5 : Mv G w3 w5 := (unhide HX3).mv hc4
  have HX5 := hide hp4
  have HC5 := hide hc4
  have HZ := hide (isZero_any B k2 c2 n w5 ((unhide KB3).kp hm5.chg).now (by omega))
  have HW5 := hide hw5
  clear n4 hx4 hp4 hc4 hm5 hw5 HN3 hx6 hf6
  have e : f.stk.length - T = q := by rw [unhide HQ, hls]
  go_wp2_with fail
  rw [← unhide HW5]
  refine (unhide HZ).mono ?_
  rintro e' w6 ⟨rfl, q6⟩
  have b6 : Below w5.heap.size w5 w6 := q6.below _
  have hx6 := (unhide HX5).kept b6
  have hc6 : Chg gf w w6 := (unhide HC1).trans ((unhide HC3).trans ((unhide HC5).trans (Chg.of b6)))
  obtain ⟨u6, hy6⟩ := hx6.ex (i := 6) (by omega)
  have hf6' := hx6.row.froz (o + 6)
  have HX6 := hide hx6
  have HC6 := hide hc6
  have ex : ∀ i, i < o ∨ o + 60 ≤ i → ∀ v6 v7 v8 : Value, (((fr.set (o + 8) v8).set (o + 6) v6).set (o + 7) v7)[i]? = fr[i]? := fun i hi v6 v7 v8 => by
    rw [List.getElem?_set_ne (by omega), List.getElem?_set_ne (by omega), List.getElem?_set_ne (by omega)]
  have EX := hide ex
  clear q6 hx6 hc6 hx7 hf7 ex
  by_cases hn0 : n = 0
  · rw [decide_eq_true hn0]
    go_wp2
    refine bodyPost_done rfl rfl ?_
    refine ⟨0, p256_pos, rfl, (((fr.set (o + 8) (.slice As q q)).set (o + 6) (.slice A2 j2 e2)).set (o + 7) (.slice A4 j4 e4)).set (o + 6) (.slice none 0 0), ?_, by rw [List.length_set, List.length_set, List.length_set, List.length_set], fun i hi => (List.getElem?_set_ne (show o + 6 ≠ i by omega)).trans (unhide EX i hi _ _ _), (unhide HC6).trans (Chg.ofOnly ((Only.refl _ _).setCell _ _))⟩
    have hp := (unhide HX6).put (by omega : 6 < 60) ((unhide HX6).kf.setOutOff (KNat.nil G w6))
    have e2 : ls - T = q := (unhide HQ).symm
    first | rw [e] | rw [e2]
    exact hp
  · rw [decide_eq_false hn0]
    go_wp2
    refine bodyPost_done rfl rfl ?_
    refine ⟨m, hm, rfl, ((fr.set (o + 8) (.slice As q q)).set (o + 6) (.slice A2 j2 e2)).set (o + 7) (.slice A4 j4 e4), ?_, by rw [List.length_set, List.length_set, List.length_set], fun i hi => unhide EX i hi _ _ _, unhide HC6⟩
    have e2 : ls - T = q := (unhide HQ).symm
    first | rw [e] | rw [e2]
    exact unhide HX6

end Go.Proofs.YgcsakGreat
