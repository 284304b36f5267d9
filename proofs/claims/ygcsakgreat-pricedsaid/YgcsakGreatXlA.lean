/-
  yp, exactly: leave.
-/
import Derived.Test.YgcsakGreatKkB
namespace Go.Proofs.YgcsakGreat
set_option linter.unusedVariables false
set_option linter.unusedSimpArgs false
set_option maxRecDepth 100000
open Go.RowKit

def lvOut (cb : Bool) (s : Nat) (out : List Int) : List Int := if cb = true ∧ s = 0 then [] else out
def lvGas (cb : Bool) (s l gas : Nat) : Nat := if cb = true ∧ s = 0 then gas - 200 * l else gas
def lvD (cb : Bool) (s l : Nat) (out : List Int) (d : WD) (self : List Int) : WD := if cb = true ∧ s = 0 ∧ l ≠ 0 then { d with accts := putY d.accts { lookY d.accts self with code := out } } else d
def lvFin (s : Nat) (out : List Int) (gas : Nat) : List Int × Nat := if 1 < s then ([], 0) else (out, gas)
def lvFlag (cb : Bool) (s : Nat) (self : List Int) : Nat := if s = 0 then (if cb then val self.reverse else 1) else 0
theorem lvFin_le {s : Nat} {out : List Int} {gas : Nat} (h : s ≤ 1) : lvFin s out gas = (out, gas) := by unfold lvFin; rw [if_neg (by omega)]
theorem lvFin_gt {s : Nat} {out : List Int} {gas : Nat} (h : ¬ s ≤ 1) : lvFin s out gas = ([], 0) := by unfold lvFin; rw [if_pos (by omega)]
theorem lvFlag_no {cb : Bool} {s : Nat} {self : List Int} (h : ¬ s = 0) : lvFlag cb s self = 0 := by unfold lvFlag; rw [if_neg h]
theorem lvFlag_one {s : Nat} {self : List Int} (h : s = 0) : lvFlag false s self = 1 := by unfold lvFlag; rw [if_pos h]; rfl
theorem lvFlag_self {s : Nat} {self : List Int} (h : s = 0) : lvFlag true s self = val self.reverse := by unfold lvFlag; rw [if_pos h]; rfl
theorem lv_no {cb : Bool} {s l gas : Nat} {out self : List Int} {d : WD} (h : (cb && decide (s = 0)) = false) : s = s ∧ out = lvOut cb s out ∧ gas = lvGas cb s l gas ∧ d = lvD cb s l out d self := by
  have hn : ¬ (cb = true ∧ s = 0) := by
    rintro ⟨rfl, rfl⟩
    simp at h
  unfold lvOut lvGas lvD
  exact ⟨rfl, by rw [if_neg hn], by rw [if_neg hn], by rw [if_neg (fun hh => hn ⟨hh.1, hh.2.1⟩)]⟩
theorem lv_zero {cb : Bool} {s l gas n : Nat} {out self : List Int} {d : WD} (hc : cb = true) (hs : s = 0) (hl : l = 0) (hn : n = gas - 200 * l) : 0 = s ∧ [] = lvOut cb s out ∧ n = lvGas cb s l gas ∧ d = lvD cb s l out d self := by
  unfold lvOut lvGas lvD
  exact ⟨hs.symm, by rw [if_pos ⟨hc, hs⟩], by rw [if_pos ⟨hc, hs⟩, hn], by rw [if_neg (fun hh => hh.2.2 hl)]⟩
theorem lv_code {cb : Bool} {s l gas n : Nat} {out self sf : List Int} {d : WD} (hc : cb = true) (hs : s = 0) (hl : l ≠ 0) (hn : n = gas - 200 * l) (hf : sf = self) : 0 = s ∧ [] = lvOut cb s out ∧ n = lvGas cb s l gas ∧ { d with accts := putY d.accts { lookY d.accts sf with code := out } } = lvD cb s l out d self := by
  subst hf
  unfold lvOut lvGas lvD
  exact ⟨hs.symm, by rw [if_pos ⟨hc, hs⟩], by rw [if_pos ⟨hc, hs⟩, hn], by rw [if_pos ⟨hc, hs, hl⟩]⟩
set_option maxHeartbeats 8000000 in
theorem deposit_x (gb : Nat) (rb : List Value) (gas : Nat) (w : World) (hr : RowT 194 w gb rb) (A4 : Option Addr) (k4 c4 : Nat) (h4 : rb[4]? = some (.slice A4 k4 c4)) (hn : IsNat w A4 k4 c4 gas) (hgas : gas ≤ 1048576) (A : Option Addr) (l c : Nat) (ys : List Int) (hs : Src w A l c ys) (hl : l ≤ 1000000) (hbig : ¬ 256 < l) (hef : 0 < l → ys.getD 0 0 ≠ 239) (hog : ¬ gas < 200 * l) :
    Calls Sakg.prog 206 #[.pointer (some ⟨gb, 0, none⟩), .slice A l c] w fun e w' => ∃ A k c, e = .returned (.tuple #[.slice A k c, .int .u8 0]) ∧ IsNat w' A k c (gas - 200 * l) ∧ New w A ∧ Below w.heap.size w w' := by
  have hBB := big_ge
  have x4 : ∀ wz, Below w.heap.size w wz → wz.cell? ⟨gb, 4, none⟩ = some (.slice A4 k4 c4) ∧ IsNat wz A4 k4 c4 gas := fun wz hz => ⟨by rw [(hr.kept hz).cell]; exact h4, hn.kept hz⟩
  have X4 := hide x4
  have HS := hide hs
  clear hr h4 hn hs x4
  go_enter Sakg.func206, Sakg.ntmps206
  have HC1 := hide (num_any 200 w (by omega))
  go_wp2_with fail
  refine (unhide HC1).mono ?_
  rintro e w1 ⟨A1, k1, c1, rfl, n1, N1, b1⟩
  have NN1 := hide n1
  clear HC1 n1
  have HC2 := hide (num_any l w1 (by omega))
  go_wp2_with fail
  refine (unhide HC2).mono ?_
  rintro e w2 ⟨A2, k2, c2, rfl, n2, N2, b2⟩
  have NN2 := hide n2
  clear HC2 n2
  have HC3 := hide (((unhide NN1).kept b2).mul (unhide NN2) (by omega) (by omega))
  go_wp2_with fail
  refine (unhide HC3).mono ?_
  rintro e w3 ⟨A3, k3, c3, rfl, n3, N3, b3⟩
  have NN3 := hide n3
  clear HC3 n3
  have d3 : Below w.heap.size w w3 := b1.thn (b2.thn b3)
  have tb : decide ((256 : Int) < (l : Int)) = false := decide_eq_false (by omega)
  have tbn : ¬ (256 < l) := hbig
  go_upto_region 4 with fail
  go_cut [17] (fun s17 wc => s17 = .bool false ∧ wc = w3)
  case first =>
    by_cases h0 : 0 < l
    · have t0 : decide ((0 : Int) < (l : Int)) = true := decide_eq_true (by omega)
      have hs3 := (unhide HS).kept d3
      obtain ⟨bb, off, rfl, hcs⟩ := hs3.at_ h0
      have hc0 := hcs 0 h0
      rw [Nat.add_zero] at hc0
      have hby := hs3.byt (ys.getD 0 0) (by have := hs3.len_eq; rw [List.getD_eq_getElem?_getD, List.getElem?_eq_getElem (by omega)]; simp)
      have hne := hef h0
      generalize ys.getD 0 0 = y0 at hc0 hby hne
      have ty : (y0 == 239) = false := by rw [beq_eq_false_iff_ne]; exact hne
      clear hef
      clear hcs hs3
      go_wp2_with fail
      go_meet
      case rel => exact ⟨rfl, rfl⟩
    · obtain rfl : l = 0 := by omega
      go_wp2_with fail
      go_meet
      case rel => exact ⟨rfl, rfl⟩
  case rest =>
  obtain ⟨rfl, hwc⟩ := hcut
  subst hwc
  have y4 := (unhide X4 _ d3).1
  have HCM := hide ((unhide NN3).cmp (unhide X4 _ d3).2 (by omega) (by omega))
  have hcg := cmp_gt (200 * l) gas
  generalize cmpI (200 * l) gas = cg at HCM hcg
  go_wp2_with fail
  refine (unhide HCM).mono ?_
  rintro e w4 ⟨rfl, q4⟩
  have b4 : Below wc.heap.size wc w4 := q4.below _
  have d4 : Below w.heap.size w w4 := d3.thn b4
  clear q4 y4
  rw [decide_eq_false hog] at hcg
  have z4 := (unhide X4 _ d4).1
  have HL := hide (less_any A4 A3 k4 k3 c4 c3 gas (200 * l) w4 (unhide X4 _ d4).2 ((unhide NN3).kept b4) (by omega) (by omega))
  go_wp2_with (go_at_call 101; refine (unhide HL).mono ?_; rintro e w5 ⟨A5, k5, c5, rfl, n5, N5, b5⟩; have NN5 := hide n5; clear n5)
  refine bodyPost_ret (results_tmp2 rfl _ _ _) rfl ?_
  exact ⟨A5, k5, c5, rfl, unhide NN5, N5.later d4.size, d4.thn b5⟩

section
variable {G : Nat → Prop} {bw gf : Nat} {cs fr : List Value} {d : WD} {f : FD} {r : List FD} {x : XD} {w : World} {B : Nat}
/-- what leave leaves, exactly -/
def LevX (G : Nat → Prop) (bw gf : Nat) (fr : List Value) (d : WD) (f : FD) (r : List FD) (x : XD) (s l : Nat) (out : List Int) (w : World) (e : Ending) (w' : World) : Prop :=
  e = .returned (.tuple #[]) ∧ ∃ cs' fr' d' out' gas', fr'.length = fr.length ∧ Mv G w w' ∧ (out', gas') = lvFin s (lvOut (createsB f.kind) s out) (lvGas (createsB f.kind) s l f.gas) ∧ d' = (if s = 0 then lvD (createsB f.kind) s l out d f.self else f.saved) ∧ RowT 194 w' gf fr' ∧ (∀ i, 60 * r.length ≤ i → fr'[i]? = fr[i]?) ∧
    ((r = [] ∧ SE G bw cs' d' { x with ret := out', status := s, left := gas' } w') ∨
      ∃ p r', r = p :: r' ∧ lvFlag (createsB f.kind) s f.self < P256 ∧ SR G bw gf cs' fr' d' ({ p with gas := p.gas + gas', stk := p.stk ++ [lvFlag (createsB f.kind) s f.self], pc := p.pc + 1 } :: r') { x with ret := out' } w')
set_option maxHeartbeats 32000000 in
theorem leave_x (h : SR G bw gf cs fr d (f :: r) x w) (hg : Good B d) (hkind : f.kind ≤ 7) (hgas : f.gas ≤ 1048576) (hP : ∀ p r', r = p :: r' → WaitF p ∧ p.ml ≤ 1000000 ∧ p.gas ≤ 1048576) (s : Nat) (hs : s ≤ 13) (A : Option Addr) (l c : Nat) (out : List Int) (ho : KSrc G w A l c out) (hl : l ≤ 1000000) (hrl : r.length ≤ 900) (hdep : createsB f.kind = true → s = 0 → l ≤ 256 ∧ (0 < l → out.getD 0 0 ≠ 239) ∧ 200 * l ≤ f.gas) :
    Calls Sakg.prog 114 #[.pointer (some ⟨bw, 0, none⟩), .int .u8 s, .slice A l c] w (LevX G bw gf fr d f r x s l out w) := by
  have hBB := big_ge
  have hbw : bw < w.heap.size := h.lt
  have hgl := h.row.lt
  have hlen := h.len
  rw [List.length_cons] at hlen
  obtain ⟨cap, e9, -, hcap, hcap2⟩ := h.frames
  rw [List.length_cons] at e9 hcap
  obtain ⟨nr, hnr⟩ : ∃ nr, nr = r.length := ⟨_, rfl⟩
  rw [← hnr] at e9 hcap hlen hrl
  obtain ⟨o, hoo⟩ : ∃ o, o = 60 * nr := ⟨_, rfl⟩
  have hkf := h.kfs.1
  rw [← hnr, ← hoo] at hkf
  obtain ⟨f1, hf1⟩ : ∃ f1, f1 = (fr.drop o).take 60 := ⟨_, rfl⟩
  have hf1l : f1.length = 60 := by rw [hf1, List.length_take, List.length_drop]; omega
  have hf1g : ∀ i, i < 60 → f1[i]? = cellsAt fr o i := fun i hi => by rw [hf1, List.getElem?_take, if_pos hi, List.getElem?_drop]; rfl
  have hf1o : ∀ v ∈ f1, v.oneCell' = true := fun v hv => by
    obtain ⟨i, hi⟩ := List.mem_iff_getElem?.1 hv
    have hil : i < 60 := by
      rcases Nat.lt_or_ge i 60 with h' | h'
      · exact h'
      · rw [List.getElem?_eq_none (by omega)] at hi; cases hi
    exact hkf.one i hil v (by rw [← hf1g i hil]; exact hi)
  have hS9 : ∀ wz, Below w.heap.size w wz → wz.cell? ⟨bw, 9, none⟩ = some (.slice (some ⟨gf, 0, none⟩) (nr + 1) cap) := fun wz hz => by rw [(h.cw.row.kept hz).cell]; exact e9
  have hSr : ∀ wz, Below w.heap.size w wz → wz.rangeAt gf o f1 := fun wz hz => by
    have := (h.row.kept hz).range o 60
    rwa [← hf1] at this
  have d0 : Below w.heap.size w w.drew := Quiet.below ⟨1, rfl⟩ _
  have huF := Sakg.underlying194
  have hsF : (Sakg.prog.info? 194).map (·.size) = some f1.length := by rw [hf1l]; exact sizeFrame
  have HCR : ∀ wz, Hid (Calls Sakg.prog 197 #[.int .u8 f.kind] wz fun e w' => e = .returned (.bool (createsB f.kind)) ∧ wz = w') := fun wz => hide (creates_any f.kind wz (by omega))
  generalize hcb : createsB f.kind = cb at HCR hdep
  have HCB := hide hcb
  have HDEP := hide hdep
  clear hdep
  obtain ⟨nf, hnf⟩ : ∃ nf, nf = nr + 1 := ⟨_, rfl⟩
  rw [← hnf] at hS9
  have enf : (nf : Int) - 1 = (nr : Int) := by omega
  have hnfl : nr < nf := by omega
  have hnfc : nf ≤ cap := by omega
  have hnfi : (nr : Int) < (nf : Int) := by omega
  have hwnr : IntKind.i64.wrap (nr : Int) = (nr : Int) := by rw [IntKind.wrap_i64]; omega
  have hnr60 : nr * 60 = o := by omega
  obtain ⟨A4, k4, c4, g1, g2⟩ := hkf.gas
  have f14 : f1[4]? = some (.slice A4 k4 c4) := (hf1g 4 (by omega)).trans g1
  have f10 : f1[0]? = some (.int .u8 f.kind) := (hf1g 0 (by omega)).trans hkf.kind
  have HS9 := hide hS9
  have HSR := hide hSr
  have HF1G := hide hf1g
  have HP := hide h
  have HKF := hide hkf
  have G2 := hide g2
  have HO := hide ho
  have HHP := hide hP
  have HNR := hide hnr
  have HOO := hide hoo
  have HN60 := hide hnr60
  have HNF := hide hnf
  have HG := hide hg
  have F14 := hide f14
  have F10 := hide f10
  clear hf1 hf1g hS9 hSr h g1 g2 hkf e9 ho hP hnr hcb hg f14 f10 hnf hoo hnr60
  go_enter Sakg.func114, Sakg.ntmps114
  go_upto_region 0 with fail
  refine wp_region_noPanic ?_
  refine wp_region_held_drew (S := fun w' => Below w.heap.size w w') (by kernel_rfl) (d0) (fun hHeld => ?_)
  refine held_takeD 0 (.pointer (some ⟨bw, 0, none⟩)) (some 13) (by rfl) (by rfl) (by kernel_rfl) (by kernel_rfl) (by kernel_rfl) (fun _ _ _ h => h) (.inl ⟨by rfl, fun _ _ => by rfl⟩) (hHeld) ?_
  simp only [Act.put, List.setIfInBounds_toArray, List.set_cons_zero, List.set_cons_succ]
  refine held_takeD 1 (.pointer (some ⟨bw, 0, none⟩)) (some 14) (by rfl) (by rfl) (by kernel_rfl) (by kernel_rfl) (by kernel_rfl) (fun _ _ _ h => h) (.inl ⟨by rfl, fun _ _ => by go_simp⟩) (hHeld) ?_
  simp only [Act.put, List.setIfInBounds_toArray, List.set_cons_zero, List.set_cons_succ]
  refine held_takeD 2 (.pointer (some ⟨bw, 9, none⟩)) (some 15) (by rfl) (by rfl) (by kernel_rfl) (by kernel_rfl) (by kernel_rfl) (fun _ _ _ h => h) (.inl ⟨by rfl, fun _ _ => by go_simp⟩) (hHeld) ?_
  simp only [Act.put, List.setIfInBounds_toArray, List.set_cons_zero, List.set_cons_succ]
  refine held_takeD 3 (.slice (some ⟨gf, 0, none⟩) nf cap) (some 16) (by rfl) (by rfl) (by kernel_rfl) (by kernel_rfl) (by kernel_rfl) (fun _ _ _ h => h) (.inl ⟨by rfl, fun wS hS => by have hc := unhide HS9 wS hS; go_simp⟩) (hHeld) ?_
  simp only [Act.put, List.setIfInBounds_toArray, List.set_cons_zero, List.set_cons_succ]
  refine held_takeD 4 (.pointer (some ⟨bw, 0, none⟩)) (some 17) (by rfl) (by rfl) (by kernel_rfl) (by kernel_rfl) (by kernel_rfl) (fun _ _ _ h => h) (.inl ⟨by rfl, fun _ _ => by rfl⟩) (hHeld) ?_
  simp only [Act.put, List.setIfInBounds_toArray, List.set_cons_zero, List.set_cons_succ]
  refine held_takeD 5 (.pointer (some ⟨bw, 0, none⟩)) (some 18) (by rfl) (by rfl) (by kernel_rfl) (by kernel_rfl) (by kernel_rfl) (fun _ _ _ h => h) (.inl ⟨by rfl, fun _ _ => by go_simp⟩) (hHeld) ?_
  simp only [Act.put, List.setIfInBounds_toArray, List.set_cons_zero, List.set_cons_succ]
  refine held_takeD 6 (.pointer (some ⟨bw, 9, none⟩)) (some 19) (by rfl) (by rfl) (by kernel_rfl) (by kernel_rfl) (by kernel_rfl) (fun _ _ _ h => h) (.inl ⟨by rfl, fun _ _ => by go_simp⟩) (hHeld) ?_
  simp only [Act.put, List.setIfInBounds_toArray, List.set_cons_zero, List.set_cons_succ]
  refine held_takeD 7 (.slice (some ⟨gf, 0, none⟩) nf cap) (some 20) (by rfl) (by rfl) (by kernel_rfl) (by kernel_rfl) (by kernel_rfl) (fun _ _ _ h => h) (.inl ⟨by rfl, fun wS hS => by have hc := unhide HS9 wS hS; go_simp⟩) (hHeld) ?_
  simp only [Act.put, List.setIfInBounds_toArray, List.set_cons_zero, List.set_cons_succ]
  refine held_takeD 8 (.int .i64 nf) (some 21) (by rfl) (by rfl) (by kernel_rfl) (by kernel_rfl) (by kernel_rfl) (fun _ _ _ h => h) (.inl ⟨by rfl, fun _ _ => by go_simp⟩) (hHeld) ?_
  simp only [Act.put, List.setIfInBounds_toArray, List.set_cons_zero, List.set_cons_succ]
  refine held_takeD 9 (.int .i64 nr) (some 22) (by rfl) (by rfl) (by kernel_rfl) (by kernel_rfl) (by kernel_rfl) (fun _ _ _ h => h) (.inl ⟨by rfl, fun _ _ => by go_simp⟩) (hHeld) ?_
  simp only [Act.put, List.setIfInBounds_toArray, List.set_cons_zero, List.set_cons_succ]
  refine held_takeD 10 (.pointer (some ⟨gf, o, none⟩)) (some 23) (by rfl) (by rfl) (by kernel_rfl) (by kernel_rfl) (by kernel_rfl) (fun _ _ _ h => h) (.inl ⟨by rfl, fun wS hS => by have hoz := unhide HN60; go_simp⟩) (hHeld) ?_
  simp only [Act.put, List.setIfInBounds_toArray, List.set_cons_zero, List.set_cons_succ]
  refine held_takeD 11 (.agg f1.toArray) (some 24) (by rfl) (by rfl) (by kernel_rfl) (by kernel_rfl) (by kernel_rfl) (fun _ _ _ h => h) (yieldsIf_load_mid (by rfl) _ _ rfl _ _ rfl _ _ (fun wz hS => unhide HSR wz hS) huF rfl hsF) (hHeld) ?_
  simp only [Act.put, List.setIfInBounds_toArray, List.set_cons_zero, List.set_cons_succ]
  refine held_one 12 (by kernel_rfl) (by rfl) (fun K' hK' => ?_)
  refine if_alloc (some 6) rfl 194 rfl (by rfl) zeroF 60 infoFrame2 zeroF_len (fun wA rA bA sA => ?_)
  have dA := d0.trans (bA.mono d0.size)
  refine hK'.out _ _ (dA) ?_
  clear hK' K'
  simp only [Act.put, List.setIfInBounds_toArray, List.set_cons_zero, List.set_cons_succ]
  refine held_one 13 (by kernel_rfl) (by rfl) (fun K' hK' => ?_)
  refine if_store rfl (by rfl) 194 (.tmp 6) (.tmp 24) rfl w.heap.size 0 194 _ f1 rfl rfl rA (by rw [hf1l, zeroF_len]; omega) hsF hf1o (fun wS rS oS => ?_)
  have dS : Below w.heap.size w wS := dA.trans (oS.below _ (Nat.le_refl _))
  refine hK'.out _ _ (dS) ?_
  clear hK' K'
  refine wpAnyH_done (by kernel_rfl) ?_ _
  refine NoPanic.normal ?_
  rw [spl_all _ _ (by rw [hf1l, zeroF_len])] at rS
  have e4 : wS.cell? ⟨w.heap.size, 4, none⟩ = some (.slice A4 k4 c4) := by rw [rS.cell]; exact unhide F14
  have e0 : wS.cell? ⟨w.heap.size, 0, none⟩ = some (.int .u8 f.kind) := by rw [rS.cell]; exact unhide F10
  have RS := hide rS
  have HD : Hid (cb = true → s = 0 → Calls Sakg.prog 206 #[.pointer (some ⟨w.heap.size, 0, none⟩), .slice A l c] wS fun e w' => ∃ A k c, e = .returned (.tuple #[.slice A k c, .int .u8 0]) ∧ IsNat w' A k c (f.gas - 200 * l) ∧ New wS A ∧ Below wS.heap.size wS w') := hide (fun hc1 hc2 => deposit_x w.heap.size f1 f.gas wS rS A4 k4 c4 (unhide F14) (unhide G2 wS (ChgS.of dS)) hgas A l c out (unhide HO wS (ChgS.of dS)) hl (by have := (unhide HDEP hc1 hc2).1; omega) (unhide HDEP hc1 hc2).2.1 (by have := (unhide HDEP hc1 hc2).2.2; omega))
  clear rS sA HS9 HSR
  go_upto_region 3 with (go_at_call 197; refine (unhide (HCR _)).mono ?_; rintro e w4 ⟨rfl, rfl⟩)
  clear e4 e0
  have hsrS := (unhide HP).kept dS
  have HSS := hide hsrS
  have dSd : Below wS.heap.size wS wS.drew := Quiet.below ⟨1, rfl⟩ _
  have m0 : Mv G w wS := Mv.of dS
  clear hsrS
  obtain ⟨bb, hbb⟩ : ∃ bb, bb = (cb && decide (s = 0)) := ⟨_, rfl⟩
  go_cut [34] (fun s34 wc => s34 = .bool bb ∧ wc = wS)
  case first =>
    as_aux_lemma =>
    cases cb with
    | false =>
      rw [Bool.false_and] at hbb
      subst hbb
      go_wp2_with fail
      go_meet
      case rel => exact ⟨rfl, rfl⟩
    | true =>
      rw [Bool.true_and] at hbb
      by_cases hs0 : s = 0
      case neg =>
        have t0 : ((s : Int) == 0) = false := by rw [beq_eq_false_iff_ne]; omega
        rw [decide_eq_false hs0] at hbb
        subst hbb
        clear hs0 HD HDEP
        go_wp2_with fail
        go_meet
        case rel => exact ⟨rfl, rfl⟩
      case pos =>
        have t0 : ((s : Int) == 0) = true := by rw [beq_iff_eq]; omega
        rw [decide_eq_true hs0] at hbb
        subst hbb
        clear hs0 HD HDEP
        go_wp2_with fail
        go_meet
        case rel => exact ⟨rfl, rfl⟩
  case rest =>
  as_aux_lemma =>
  obtain ⟨rfl, rfl⟩ := hcut
  have hb0 : bb = true → s = 0 := fun h' => by
    rw [hbb] at h'
    simpa using (Bool.and_eq_true_iff.1 h').2
  have hb1 : bb = true → cb = true := fun h' => by
    rw [hbb] at h'
    exact (Bool.and_eq_true_iff.1 h').1
  have HBB := hide hbb
  have HB1 := hide hb1
  clear hbb hb1
  go_upto_if 34 with fail
  go_cut [1, 2, 7] (fun s1 s2 s7 wc => ∃ (s' : Nat) (A2 : Option Addr) (l2 c2 : Nat) (out' : List Int) (A7 : Option Addr) (k7 c7 gas' : Nat) (cs' : List Value) (d' : WD), s1 = .int .u8 s' ∧ s2 = .slice A2 l2 c2 ∧ s7 = .slice A7 k7 c7 ∧ s' ≤ 13 ∧ KSrc G wc A2 l2 c2 out' ∧ l2 ≤ l ∧ out'.length ≤ out.length ∧ KNat G wc A7 k7 c7 gas' ∧ gas' ≤ f.gas ∧ SR G bw gf cs' fr d' (f :: r) x wc ∧ (s' = s ∧ out' = lvOut cb s out ∧ gas' = lvGas cb s l f.gas ∧ d' = lvD cb s l out d f.self) ∧ RowT 194 wc w.heap.size f1 ∧ Mv G w wc)
  case first =>
    as_aux_lemma =>
    cases bb with
    | false =>
      go_wp2_with fail
      go_meet
      case rel => exact ⟨s, A, l, c, out, A4, k4, c4, f.gas, cs, d, rfl, rfl, rfl, hs, (unhide HO).kp m0.chg, Nat.le_refl _, Nat.le_refl _, (unhide G2).kp m0.chg, Nat.le_refl _, unhide HSS, lv_no (unhide HBB).symm, unhide RS, m0⟩
    | true =>
        --S1
        have HS0 := hide (hb0 rfl)
        have HC1 := hide (unhide HB1 rfl)
        clear HB1
        go_upto_region 5 with (go_at_call 206; refine (unhide HD (unhide HC1) (unhide HS0)).mono ?_; rintro e w4 ⟨A5, k5, c5, rfl, n5N, N5, b4⟩)
        obtain ⟨n5, hn5e⟩ : ∃ n5, n5 = f.gas - 200 * l := ⟨_, rfl⟩
        rw [← hn5e] at n5N
        have HN5E := hide hn5e
        have hn5 : n5 ≤ f.gas := by omega
        clear hn5e
        have m4 : Mv G w w4 := m0.trans (Mv.of b4)
        have hsr4 := (unhide HSS).kept b4
        have hr4 := (unhide RS).kept b4
        have k5N : KNat G w4 A5 k5 c5 n5 := KNat.new n5N (N5.later dS.size) (unhide HP).cw.ther
        have HS4 := hide hsr4
        have HR4 := hide hr4
        have HK5 := hide k5N
        have HO4 := hide ((unhide HO).kp m4.chg)
        clear hsr4 hr4 k5N n5N
        by_cases hdum : True
        case neg => exact absurd trivial hdum
        case pos =>
          clear hdum
          have hl256' : l ≤ 256 := (unhide HDEP (unhide HC1) (unhide HS0)).1
          by_cases hl0 : l = 0
          case pos =>
            have t2 : decide (0 < l) = false := decide_eq_false (by omega)
            have HL0 := hide hl0
            clear hl0
            go_wp2_with fail
            go_meet
            case rel => exact ⟨0, none, 0, 0, [], A5, k5, c5, n5, cs, d, rfl, rfl, rfl, by omega, KSrc.nil G _, Nat.zero_le _, Nat.zero_le _, unhide HK5, hn5, unhide HS4, lv_zero (unhide HC1) (unhide HS0) (unhide HL0) (unhide HN5E), unhide HR4, m4⟩
          case neg =>
            have t2 : decide (0 < l) = true := decide_eq_true (by omega)
            have HLN := hide (show l ≠ 0 from hl0)
            have hol := (unhide HO4).now.len_eq
            have h256 : out.length ≤ 256 := by omega
            have hne : out ≠ [] := fun h0 => by rw [h0] at hol; simp at hol; omega
            have HL256 := hide h256
            have HNE := hide hne
            obtain ⟨sf, hsf⟩ : ∃ sf, sf = f.self := ⟨_, rfl⟩
            have hta : IsAddr sf := by rw [hsf]; exact (unhide HKF).selfA
            have HSF := hide hsf
            obtain ⟨W, hWe⟩ : ∃ W, W = w4 := ⟨_, rfl⟩
            subst hWe
            have dW : Below W.heap.size W W.drew := Quiet.below ⟨1, rfl⟩ _
            have hacc : ∀ wz, Below W.heap.size W wz → Calls Sakg.prog 99 #[.pointer (some ⟨bw, 0, none⟩), .agg (bv sf).toArray] wz fun e w' => ∃ r, e = .returned (.agg r.toArray) ∧ KAcct G W r (lookY d.accts sf) ∧ Below wz.heap.size wz w' := fun wz hz => (unhide HS4).cw.accountAt (unhide HG) hz sf hta
            have HACC := hide hacc
            have hbl : (bv sf).length = 20 := by rw [bv_len, hta.len]
            have hrg : ∀ wz, Below W.heap.size W wz → wz.rangeAt w.heap.size 12 (bv sf) := fun wz hz => by
              intro j v hv
              have hj : j < 20 := by
                rcases Nat.lt_or_ge j 20 with h' | h'
                · exact h'
                · rw [List.getElem?_eq_none (by omega)] at hv; cases hv
              rw [((unhide HR4).kept hz).cell, unhide HF1G _ (by omega), (unhide HKF).self j hj, ← unhide HSF]
              exact hv
            have HRG := hide hrg
            have hu := Sakg.underlying26
            have htz := hta.size
            clear hacc hrg hsf hol h256 hne
            go_upto_region 7 with fail
            go_cut [9] (fun s9 wc => ∃ (g : Nat) (rr : List Value), s9 = .pointer (some ⟨g, 0, none⟩) ∧ RowT 113 wc g rr ∧ KAcct G W rr (lookY d.accts sf) ∧ Below W.heap.size W wc ∧ W.heap.size ≤ g)
            case first =>
              as_aux_lemma =>
              refine wp_region_noPanic ?_
              refine wp_region_held_drew (S := fun w' => Below W.heap.size W w') (by kernel_rfl) (dW) (fun hHeld => ?_)
              refine held_takeD 0 (.pointer (some ⟨bw, 0, none⟩)) (some 45) (by rfl) (by rfl) (by kernel_rfl) (by kernel_rfl) (by kernel_rfl) (fun _ _ _ h => h) (.inl ⟨by rfl, fun _ _ => by rfl⟩) (hHeld) ?_
              simp only [Act.put, List.setIfInBounds_toArray, List.set_cons_zero, List.set_cons_succ]
              refine held_takeD 1 (.pointer (some ⟨bw, 0, none⟩)) (some 46) (by rfl) (by rfl) (by kernel_rfl) (by kernel_rfl) (by kernel_rfl) (fun _ _ _ h => h) (.inl ⟨by rfl, fun _ _ => by go_simp⟩) (hHeld) ?_
              simp only [Act.put, List.setIfInBounds_toArray, List.set_cons_zero, List.set_cons_succ]
              refine held_takeD 2 (.pointer (some ⟨bw, 0, none⟩)) (some 47) (by rfl) (by rfl) (by kernel_rfl) (by kernel_rfl) (by kernel_rfl) (fun _ _ _ h => h) (.inl ⟨by rfl, fun _ _ => by go_simp⟩) (hHeld) ?_
              simp only [Act.put, List.setIfInBounds_toArray, List.set_cons_zero, List.set_cons_succ]
              refine held_takeD 3 (.pointer (some ⟨w.heap.size, 12, none⟩)) (some 48) (by rfl) (by rfl) (by kernel_rfl) (by kernel_rfl) (by kernel_rfl) (fun _ _ _ h => h) (.inl ⟨by rfl, fun _ _ => by go_simp⟩) (hHeld) ?_
              simp only [Act.put, List.setIfInBounds_toArray, List.set_cons_zero, List.set_cons_succ]
              refine held_takeD 4 (.agg (bv sf).toArray) (some 49) (by rfl) (by rfl) (by kernel_rfl) (by kernel_rfl) (by kernel_rfl) (fun _ _ _ h => h) (yieldsIf_load_mid (by rfl) _ _ rfl _ _ rfl _ _ (fun wz hS => unhide HRG wz hS) hu rfl htz) (hHeld) ?_
              simp only [Act.put, List.setIfInBounds_toArray, List.set_cons_zero, List.set_cons_succ]
              refine held_two 5 6 (by kernel_rfl) (by rfl) (by rfl) (fun K' hK' => ?_) (fun K' hK' => ?_)
              · go_simp
                refine (unhide HACC _ dW).mono ?_
                rintro e w2 ⟨r, rfl, hrow, b2⟩
                have d2 := dW.trans (b2.mono dW.size)
                have hrl := hrow.now.len
                refine hK'.out _ _ (d2) ?_
                clear hK' K'
                refine held_one 6 (by kernel_rfl) (by rfl) (fun K' hK' => ?_)
                refine if_alloc (some 9) rfl 113 rfl (by rfl) _ 24 infoAcct2 (by simp [bv_len, zeros_len]) (fun wA rA bA sA => ?_)
                have dA := d2.trans (bA.mono d2.size)
                refine hK'.out _ _ (dA) ?_
                clear hK' K'
                simp only [Act.put, List.setIfInBounds_toArray, List.set_cons_zero, List.set_cons_succ]
                refine held_one 7 (by kernel_rfl) (by rfl) (fun K' hK' => ?_)
                refine if_store rfl (by rfl) 113 (.tmp 9) (.tmp 50) rfl w2.heap.size 0 113 _ r rfl rfl rA (by rw [hrl]; simp [bv_len, zeros_len]) (by rw [hrl]; exact sizeAcct) hrow.now.one (fun wS rS oS => ?_)
                have dS : Below W.heap.size W wS := dA.trans (oS.below _ (by exact d2.size))
                refine hK'.out _ _ (dS) ?_
                clear hK' K'
                refine wpAnyH_done (by kernel_rfl) ?_ _
                refine NoPanic.normal ?_
                rw [spl_all _ _ (by rw [hrl]; simp [bv_len, zeros_len])] at rS
                go_wp2_with fail
                go_meet
                case rel => exact ⟨_, r, rfl, rS, hrow, dS, by first | exact Nat.le_refl _ | exact d2.size⟩
              · refine if_alloc (some 9) rfl 113 rfl (by rfl) _ 24 infoAcct2 (by simp [bv_len, zeros_len]) (fun wA rA bA sA => ?_)
                have dA := dW.trans (bA.mono dW.size)
                refine hK'.out _ _ (dA) ?_
                clear hK' K'
                simp only [Act.put, List.setIfInBounds_toArray, List.set_cons_zero, List.set_cons_succ]
                refine held_one 5 (by kernel_rfl) (by rfl) (fun K' hK' => ?_)
                go_simp
                refine (unhide HACC _ dA).mono ?_
                rintro e w2 ⟨r, rfl, hrow, b2⟩
                have d2 := dA.trans (b2.mono dA.size)
                have hrl := hrow.now.len
                refine hK'.out _ _ (d2) ?_
                clear hK' K'
                refine held_one 7 (by kernel_rfl) (by rfl) (fun K' hK' => ?_)
                refine if_store rfl (by rfl) 113 (.tmp 9) (.tmp 50) rfl W.heap.size 0 113 _ r rfl rfl (rA.kept b2) (by rw [hrl]; simp [bv_len, zeros_len]) (by rw [hrl]; exact sizeAcct) hrow.now.one (fun wS rS oS => ?_)
                have dS : Below W.heap.size W wS := d2.trans (oS.below _ (by exact Nat.le_refl _))
                refine hK'.out _ _ (dS) ?_
                clear hK' K'
                refine wpAnyH_done (by kernel_rfl) ?_ _
                refine NoPanic.normal ?_
                rw [spl_all _ _ (by rw [hrl]; simp [bv_len, zeros_len])] at rS
                go_wp2_with fail
                go_meet
                case rel => exact ⟨_, r, rfl, rS, hrow, dS, by first | exact Nat.le_refl _ | exact d2.size⟩
            case rest =>
            as_aux_lemma =>
            obtain ⟨V, hVe⟩ : ∃ V, V = wc := ⟨_, rfl⟩
            subst hVe
            obtain ⟨g, rr, rfl, hrr, hrow, dV, hgW⟩ := hcut
            have hrr24 : rr.length = 24 := hrow.now.len
            obtain ⟨v22, hx22⟩ : ∃ v, V.cell? ⟨g, 22, none⟩ = some v := by rw [hrr.cell, List.getElem?_eq_getElem (by omega)]; exact ⟨_, rfl⟩
            have hf22 := hrr.froz 22
            obtain ⟨U, hU⟩ : ∃ U, U = V.setCell ⟨g, 22, none⟩ (.slice A l c) := ⟨_, rfl⟩
            have hrU := hrr.set 22 (.slice A l c)
            rw [← hU] at hrU
            have dU : Below W.heap.size W U := by rw [hU]; exact dV.setCell (p := ⟨g, 22, none⟩) hgW _
            have hkU : KAcct G U (rr.set 22 (.slice A l c)) { lookY d.accts sf with code := out } := (hrow.go (ChgS.of dU)).setCode ((unhide HO4).kp (ChgS.of dU))
            generalize rr.set 22 (Value.slice A l c) = r2 at hrU hkU
            have hr2l : r2.length = 24 := hkU.now.len
            have HKU := hide hkU
            have HRU := hide hrU
            have HUE := hide hU
            have dUd : Below U.heap.size U U.drew := Quiet.below ⟨1, rfl⟩ _
            have hsrU := ((unhide HS4).kept dU).kept dUd
            have hlk := (unhide HG).lookB sf
            have HPU := hide (hsrU.cw.put (unhide HG) r2 _ (hkU.go (ChgS.of dUd)) hlk.1 hlk.2)
            have HSU := hide hsrU
            have huA := Sakg.underlying113
            have hszA : (Sakg.prog.info? 113).map (·.size) = some r2.length := by rw [hr2l]; exact sizeAcct
            clear hrr hrow hU hrU hkU hsrU hlk
            go_upto_region 9 with fail
            rw [← unhide HUE]
            refine wp_region_noPanic ?_
            refine wp_region_held_drew (S := fun w' => RowT 113 w' g r2) (by kernel_rfl) ((unhide HRU).kept dUd) (fun hHeld => ?_)
            refine held_takeD 0 (.pointer (some ⟨bw, 0, none⟩)) (some 53) (by rfl) (by rfl) (by kernel_rfl) (by kernel_rfl) (by kernel_rfl) (fun _ _ _ h => h) (.inl ⟨by rfl, fun _ _ => by rfl⟩) (hHeld) ?_
            simp only [Act.put, List.setIfInBounds_toArray, List.set_cons_zero, List.set_cons_succ]
            refine held_takeD 1 (.pointer (some ⟨bw, 0, none⟩)) (some 54) (by rfl) (by rfl) (by kernel_rfl) (by kernel_rfl) (by kernel_rfl) (fun _ _ _ h => h) (.inl ⟨by rfl, fun _ _ => by go_simp⟩) (hHeld) ?_
            simp only [Act.put, List.setIfInBounds_toArray, List.set_cons_zero, List.set_cons_succ]
            refine held_takeD 2 (.pointer (some ⟨bw, 0, none⟩)) (some 55) (by rfl) (by rfl) (by kernel_rfl) (by kernel_rfl) (by kernel_rfl) (fun _ _ _ h => h) (.inl ⟨by rfl, fun _ _ => by go_simp⟩) (hHeld) ?_
            simp only [Act.put, List.setIfInBounds_toArray, List.set_cons_zero, List.set_cons_succ]
            refine held_takeD 3 (.agg r2.toArray) (some 56) (by rfl) (by rfl) (by kernel_rfl) (by kernel_rfl) (by kernel_rfl) (fun _ _ _ h => h) (yieldsIf_load_mid (by rfl) _ _ rfl _ _ rfl _ _ (fun wz hS => hS.rangeAll) huA rfl hszA) (hHeld) ?_
            simp only [Act.put, List.setIfInBounds_toArray, List.set_cons_zero, List.set_cons_succ]
            refine held_one 4 (by kernel_rfl) (by rfl) (fun K' hK' => ?_)
            go_simp
            refine (unhide HPU).mono ?_
            rintro e w9 ⟨rfl, hw9⟩
            obtain ⟨cs9, hsr9, hmv9, -, hch9⟩ := (unhide HSU).world hw9
            have hbW : w.heap.size ≤ W.heap.size := m4.size
            refine hK'.out _ _ (hch9.row ((unhide HRU).kept dUd) (by omega)) ?_
            clear hK' K'
            refine wpAnyH_done (by kernel_rfl) ?_ _
            refine NoPanic.normal ?_
            have hr9 := hch9.row (((unhide HR4).kept dU).kept dUd) (show w.heap.size ≠ bw by omega)
            have m9 : Mv G w w9 := ((m4.trans (Mv.of dU)).trans (Mv.of dUd)).trans hmv9
            have HSR9 := hide hsr9
            have HR9 := hide hr9
            have HK9 := hide ((unhide HK5).kp ((Mv.of (G := G) dU).trans ((Mv.of dUd).trans hmv9)).chg)
            clear hsr9 hr9 hw9 hch9
            go_wp2_with fail
            go_meet
            case rel => exact ⟨0, none, 0, 0, [], A5, k5, c5, n5, cs9, _, rfl, rfl, rfl, by omega, KSrc.nil G _, Nat.zero_le _, Nat.zero_le _, unhide HK9, hn5, unhide HSR9, lv_code (unhide HC1) (unhide HS0) (unhide HLN) (unhide HN5E) (unhide HSF), unhide HR9, m9⟩
        --E1
  case rest =>
  as_aux_lemma =>
  obtain ⟨w4, hw4⟩ : ∃ w4, w4 = wc := ⟨_, rfl⟩
  subst hw4
  obtain ⟨s', A2, l2, c2, out', A7, k7, c7, gas', cs4, d4, rfl, rfl, rfl, hs', ho', hl2, hol', hk7, hgas', hsr4, hgr4, hr4, m4⟩ := hcut
  have HO2 := hide ho'
  have HK7 := hide hk7
  have HS4 := hide hsr4
  have HGR4 := hide hgr4
  have HR4 := hide hr4
  have hl179 := hsr4.cw.len
  have hbwg : bw < w4.heap.size := hsr4.lt
  clear ho' hk7 hsr4 hgr4 hr4 RS HD HSS
  go_upto_if 59 with fail
  go_cut [] (fun wc => ∃ (cs5 : List Value) (d5 : WD), SR G bw gf cs5 fr d5 (f :: r) x wc ∧ ((s' = 0 ∧ d5 = d4) ∨ (s' ≠ 0 ∧ d5 = f.saved)) ∧ RowT 194 wc w.heap.size f1 ∧ Mv G w4 wc)
  case first =>
    as_aux_lemma =>
    by_cases h0 : s' = 0
    case pos =>
      have t0 : ((s' : Int) == 0) = true := by rw [beq_iff_eq]; omega
      have t0' : ((s' : Int) != 0) = false := by rw [bne, t0]; rfl
      have H0 := hide h0
      clear h0
      go_wp2_with fail
      go_meet
      case rel => exact ⟨cs4, d4, unhide HS4, .inl ⟨unhide H0, rfl⟩, unhide HR4, Mv.refl _ _⟩
    case neg =>
      have t0 : ((s' : Int) == 0) = false := by rw [beq_eq_false_iff_ne]; omega
      have t0' : ((s' : Int) != 0) = true := by rw [bne, t0]; rfl
      obtain ⟨r8, hr8, hrc8, hkw8⟩ := (unhide HKF).saved
      have hrg : w4.rangeAt w.heap.size 52 r8 := fun j v hv => by
        have hj : j < 8 := by
          rcases Nat.lt_or_ge j 8 with h' | h'
          · exact h'
          · rw [List.getElem?_eq_none (by rw [hr8.1]; exact h')] at hv; cases hv
        rw [(unhide HR4).cell, unhide HF1G _ (by omega), hrc8 j hj]
        exact hv
      have hszW : (Sakg.prog.info? 101).map (·.size) = some r8.length := by rw [hr8.1]; exact sizeWorld
      have hrl8 := hr8.1
      have HRG := hide hrg
      have HR8 := hide hr8
      have HKW8 := hide (hkw8.go m4.chg)
      clear hrg hrc8 hkw8 hr8
      go_wp2_with (first
        | ((with_reducible refine at_load 101 ?_); refine wpList_load_g rfl 101 (.tmp 61) rfl w.heap.size 52 rfl r8 _ (unhide HRG) Sakg.underlying101 rfl hszW ?_)
        | ((with_reducible refine at_store 101 ?_); refine wpList_store_part rfl 101 (.tmp 64) (.tmp 62) rfl bw 0 107 cs4 r8 rfl rfl (unhide HS4).cw.row (by omega) hszW (unhide HR8).one ?_; intro w5 hr5 ho5))
      rw [over8_spl hrl8] at hr5
      go_meet
      case rel =>
        have hc5 : Chg bw w4 w5 := Chg.ofOnly ho5
        have hbW := m4.size
        exact ⟨_, f.saved, (unhide HS4).back (unhide HR8) (unhide HKW8) hr5 hc5, .inr ⟨h0, rfl⟩, hc5.row (unhide HR4) (by omega), Mv.chain (unhide HS4).cw.row (unhide HS4).cw.g hc5⟩
  case rest =>
  as_aux_lemma =>
  obtain ⟨w5, hw5⟩ : ∃ w5, w5 = wc := ⟨_, rfl⟩
  subst hw5
  obtain ⟨cs5, d5, hsr5, hd5, hr5, m5⟩ := hcut
  have HS5 := hide hsr5
  have HD5 := hide hd5
  have HR5 := hide hr5
  have HO5 := hide ((unhide HO2).kp m5.chg)
  have HK75 := hide ((unhide HK7).kp m5.chg)
  clear hsr5 hd5 hr5
  obtain ⟨oq, hoq⟩ : ∃ oq, oq = out' := ⟨_, rfl⟩
  obtain ⟨gq, hgq⟩ : ∃ gq, gq = gas' := ⟨_, rfl⟩
  have HOQ := hide hoq
  have HGQ := hide hgq
  clear hoq hgq
  go_upto_if 66 with fail
  go_cut [2, 7] (fun s2 s7 wc => ∃ (A2 : Option Addr) (l2 c2 : Nat) (out' : List Int) (A7 : Option Addr) (k7 c7 gas' : Nat), s2 = .slice A2 l2 c2 ∧ s7 = .slice A7 k7 c7 ∧ KSrc G w5 A2 l2 c2 out' ∧ l2 ≤ l ∧ out'.length ≤ out.length ∧ KNat G w5 A7 k7 c7 gas' ∧ gas' ≤ f.gas ∧ (out', gas') = lvFin s' oq gq ∧ wc = w5)
  case first =>
    as_aux_lemma =>
    by_cases h1 : s' ≤ 1
    case pos =>
      have t1 : decide (1 < s') = false := decide_eq_false (by omega)
      have t1' : decide ((1 : Int) < (s' : Int)) = false := decide_eq_false (by omega)
      go_wp2_with fail
      go_meet
      case rel => exact ⟨A2, l2, c2, out', A7, k7, c7, gas', rfl, rfl, unhide HO5, hl2, hol', unhide HK75, hgas', by rw [lvFin_le h1, unhide HOQ, unhide HGQ], rfl⟩
    case neg =>
      have t1 : decide (1 < s') = true := decide_eq_true (by omega)
      have t1' : decide ((1 : Int) < (s' : Int)) = true := decide_eq_true (by omega)
      go_wp2_with fail
      go_meet
      case rel => exact ⟨none, 0, 0, [], none, 0, 0, 0, rfl, rfl, KSrc.nil G _, Nat.zero_le _, Nat.zero_le _, KNat.nil G _, Nat.zero_le _, (lvFin_gt h1).symm, rfl⟩
  case rest =>
  as_aux_lemma =>
  obtain ⟨A3, l3, c3, out3, A8, k8, c8, gas8, rfl, rfl, ho3, hl3, hol3, hk8, hgas8, hfinq, hwc⟩ := hcut
  have HFQ := hide hfinq
  clear hfinq
  subst hwc
  have HO3 := hide ho3
  have HK8 := hide hk8
  have HD5' := HD5
  obtain ⟨v10, hx10⟩ := (unhide HS5).cw.ex (i := 10) (by omega)
  have hf10 := (unhide HS5).cw.row.froz 10
  obtain ⟨hsr6, ho6⟩ := (unhide HS5).ret ho3
  obtain ⟨w6, hw6⟩ : ∃ y, y = wc.setCell ⟨bw, 10, none⟩ (.slice A3 l3 c3) := ⟨_, rfl⟩
  rw [← hw6] at hsr6 ho6
  generalize hcs6 : cs5.set 10 (Value.slice A3 l3 c3) = cs6 at hsr6
  have m6 : Mv G wc w6 := Mv.chain (unhide HS5).cw.row (unhide HS5).cw.g (Chg.ofOnly ho6)
  have m06 : Mv G w w6 := (m4.trans m5).trans m6
  have hbox6 : RowT 194 w6 w.heap.size f1 := (Chg.ofOnly ho6).row (unhide HR5) (by omega)
  have HB6 := hide hbox6
  have HW6 := hide hw6
  have HO6 := hide ((unhide HO3).kp m6.chg)
  have HK6 := hide ((unhide HK8).kp m6.chg)
  obtain ⟨cap6, e96, -, hcap6, hcap62⟩ := hsr6.frames
  rw [List.length_cons, ← unhide HNR, ← unhide HNF] at e96 hcap6
  have hcap6r : nr ≤ cap6 := by omega
  have R6 := hide hsr6.cw.row
  have E96 := hide e96
  have HS6 := hide hsr6
  have d6 : Below w6.heap.size w6 w6.drew := Quiet.below ⟨1, rfl⟩ _
  clear ho3 hk8 hsr6 hw6 ho6 hbox6 hcs6 e96
  go_upto_region 17 with fail
  rw [← unhide HW6]
  clear hx10 hf10
  obtain ⟨sl, hsl⟩ : ∃ sl, sl = Value.slice (some ⟨gf, 0, none⟩) nr nr := ⟨_, rfl⟩
  go_cut [] (fun wc => RowT 107 wc bw (cs6.set 9 sl) ∧ Chg bw w6 wc)
  case first =>
    as_aux_lemma =>
    --S3
    subst hsl
    refine wp_region_noPanic ?_
    refine wp_region_held_drew (S := fun w' => Chg bw w6 w') (by kernel_rfl) (Chg.of d6) (fun hHeld => ?_)
    refine held_takeD 0 (.pointer (some ⟨bw, 0, none⟩)) (some 71) (by rfl) (by rfl) (by kernel_rfl) (by kernel_rfl) (by kernel_rfl) (fun _ _ _ h => h) (.inl ⟨by rfl, fun _ _ => by rfl⟩) (hHeld) ?_
    simp only [Act.put, List.setIfInBounds_toArray, List.set_cons_zero, List.set_cons_succ]
    refine held_takeD 1 (.pointer (some ⟨bw, 0, none⟩)) (some 72) (by rfl) (by rfl) (by kernel_rfl) (by kernel_rfl) (by kernel_rfl) (fun _ _ _ h => h) (.inl ⟨by rfl, fun _ _ => by rfl⟩) (hHeld) ?_
    simp only [Act.put, List.setIfInBounds_toArray, List.set_cons_zero, List.set_cons_succ]
    refine held_takeD 2 (.pointer (some ⟨bw, 0, none⟩)) (some 73) (by rfl) (by rfl) (by kernel_rfl) (by kernel_rfl) (by kernel_rfl) (fun _ _ _ h => h) (.inl ⟨by rfl, fun _ _ => by go_simp⟩) (hHeld) ?_
    simp only [Act.put, List.setIfInBounds_toArray, List.set_cons_zero, List.set_cons_succ]
    refine held_takeD 3 (.pointer (some ⟨bw, 9, none⟩)) (some 74) (by rfl) (by rfl) (by kernel_rfl) (by kernel_rfl) (by kernel_rfl) (fun _ _ _ h => h) (.inl ⟨by rfl, fun _ _ => by go_simp⟩) (hHeld) ?_
    simp only [Act.put, List.setIfInBounds_toArray, List.set_cons_zero, List.set_cons_succ]
    refine held_takeD 5 (.pointer (some ⟨bw, 0, none⟩)) (some 76) (by rfl) (by rfl) (by kernel_rfl) (by kernel_rfl) (by kernel_rfl) (fun _ _ _ h => h) (.inl ⟨by rfl, fun _ _ => by rfl⟩) (hHeld) ?_
    simp only [Act.put, List.setIfInBounds_toArray, List.set_cons_zero, List.set_cons_succ]
    refine held_takeD 6 (.pointer (some ⟨bw, 0, none⟩)) (some 77) (by rfl) (by rfl) (by kernel_rfl) (by kernel_rfl) (by kernel_rfl) (fun _ _ _ h => h) (.inl ⟨by rfl, fun _ _ => by go_simp⟩) (hHeld) ?_
    simp only [Act.put, List.setIfInBounds_toArray, List.set_cons_zero, List.set_cons_succ]
    refine held_takeD 7 (.pointer (some ⟨bw, 9, none⟩)) (some 78) (by rfl) (by rfl) (by kernel_rfl) (by kernel_rfl) (by kernel_rfl) (fun _ _ _ h => h) (.inl ⟨by rfl, fun _ _ => by go_simp⟩) (hHeld) ?_
    simp only [Act.put, List.setIfInBounds_toArray, List.set_cons_zero, List.set_cons_succ]
    refine held_takeD 11 (.pointer (some ⟨bw, 0, none⟩)) (some 82) (by rfl) (by rfl) (by kernel_rfl) (by kernel_rfl) (by kernel_rfl) (fun _ _ _ h => h) (.inl ⟨by rfl, fun _ _ => by rfl⟩) (hHeld) ?_
    simp only [Act.put, List.setIfInBounds_toArray, List.set_cons_zero, List.set_cons_succ]
    refine held_takeD 12 (.pointer (some ⟨bw, 0, none⟩)) (some 83) (by rfl) (by rfl) (by kernel_rfl) (by kernel_rfl) (by kernel_rfl) (fun _ _ _ h => h) (.inl ⟨by rfl, fun _ _ => by go_simp⟩) (hHeld) ?_
    simp only [Act.put, List.setIfInBounds_toArray, List.set_cons_zero, List.set_cons_succ]
    refine held_takeD 13 (.pointer (some ⟨bw, 9, none⟩)) (some 84) (by rfl) (by rfl) (by kernel_rfl) (by kernel_rfl) (by kernel_rfl) (fun _ _ _ h => h) (.inl ⟨by rfl, fun _ _ => by go_simp⟩) (hHeld) ?_
    simp only [Act.put, List.setIfInBounds_toArray, List.set_cons_zero, List.set_cons_succ]
    have hcu : w6.drew.cell? ⟨bw, 9, none⟩ = some (.slice (some ⟨gf, 0, none⟩) nf cap6) := by rw [((unhide R6).kept d6).cell]; exact unhide E96
    have hfx := ((unhide R6).kept d6).froz 9
    refine held_3 4 8 14 (by kernel_rfl) (by rfl) (by rfl) (by rfl) (fun K' hK' => ?_) (fun K' hK' => ?_) (fun K' hK' => ?_) 
    · go_simp
      refine hK'.out _ _ (Chg.of d6) ?_
      clear hK' K'
      refine held_two 8 14 (by kernel_rfl) (by rfl) (by rfl) (fun K' hK' => ?_) (fun K' hK' => ?_) 
      · go_simp
        refine hK'.out _ _ (Chg.of d6) ?_
        clear hK' K'
        refine held_takeD 9 (.int .i64 nf) (some 80) (by rfl) (by rfl) (by kernel_rfl) (by kernel_rfl) (by kernel_rfl) (fun _ _ _ h => h) (.inl ⟨by rfl, fun _ _ => by go_simp⟩) (Chg.of d6) ?_
        simp only [Act.put, List.setIfInBounds_toArray, List.set_cons_zero, List.set_cons_succ]
        refine held_takeD 10 (.int .i64 nr) (some 81) (by rfl) (by rfl) (by kernel_rfl) (by kernel_rfl) (by kernel_rfl) (fun _ _ _ h => h) (.inl ⟨by rfl, fun _ _ => by go_simp⟩) (Chg.of d6) ?_
        simp only [Act.put, List.setIfInBounds_toArray, List.set_cons_zero, List.set_cons_succ]
        refine held_one 14 (by kernel_rfl) (by rfl) (fun K' hK' => ?_) 
        go_simp
        refine hK'.out _ _ (Chg.of d6) ?_
        clear hK' K'
        refine held_takeD 15 (.int .i64 nf) (some 86) (by rfl) (by rfl) (by kernel_rfl) (by kernel_rfl) (by kernel_rfl) (fun _ _ _ h => h) (.inl ⟨by rfl, fun _ _ => by go_simp⟩) (Chg.of d6) ?_
        simp only [Act.put, List.setIfInBounds_toArray, List.set_cons_zero, List.set_cons_succ]
        refine held_takeD 16 (.int .i64 nr) (some 87) (by rfl) (by rfl) (by kernel_rfl) (by kernel_rfl) (by kernel_rfl) (fun _ _ _ h => h) (.inl ⟨by rfl, fun _ _ => by go_simp⟩) (Chg.of d6) ?_
        simp only [Act.put, List.setIfInBounds_toArray, List.set_cons_zero, List.set_cons_succ]
        refine held_takeD 17 (.slice (some ⟨gf, 0, none⟩) nr nr) (some 88) (by rfl) (by rfl) (by kernel_rfl) (by kernel_rfl) (by kernel_rfl) (fun _ _ _ h => h) (.inl ⟨by rfl, fun _ _ => by go_simp⟩) (Chg.of d6) ?_
        simp only [Act.put, List.setIfInBounds_toArray, List.set_cons_zero, List.set_cons_succ]
        refine held_takeD 18 (.pointer (some ⟨bw, 0, none⟩)) (some 89) (by rfl) (by rfl) (by kernel_rfl) (by kernel_rfl) (by kernel_rfl) (fun _ _ _ h => h) (.inl ⟨by rfl, fun _ _ => by go_simp⟩) (Chg.of d6) ?_
        simp only [Act.put, List.setIfInBounds_toArray, List.set_cons_zero, List.set_cons_succ]
        refine held_takeD 19 (.pointer (some ⟨bw, 9, none⟩)) (some 90) (by rfl) (by rfl) (by kernel_rfl) (by kernel_rfl) (by kernel_rfl) (fun _ _ _ h => h) (.inl ⟨by rfl, fun _ _ => by go_simp⟩) (Chg.of d6) ?_
        simp only [Act.put, List.setIfInBounds_toArray, List.set_cons_zero, List.set_cons_succ]
        refine held_one 20 (by kernel_rfl) (by rfl) (fun K' hK' => ?_)
        go_simp
        obtain ⟨w7, hw7⟩ : ∃ x, x = (w6.setCell ⟨bw, 9, none⟩ (Value.slice (some ⟨gf, 0, none⟩) nr nr)).drew := ⟨_, rfl⟩
        rw [← hw7]
        have r7 : RowT 107 w7 bw (cs6.set 9 (Value.slice (some ⟨gf, 0, none⟩) nr nr)) := hw7 ▸ ((unhide R6).set 9 (Value.slice (some ⟨gf, 0, none⟩) nr nr)).kept (Quiet.below ⟨1, rfl⟩ _)
        have c7 : Chg bw w6 w7 := hw7 ▸ (Chg.ofOnly ((Only.refl bw w6).setCell 9 (Value.slice (some ⟨gf, 0, none⟩) nr nr))).trans (Chg.of (Quiet.below ⟨1, rfl⟩ _))
        refine hK'.out _ _ c7 ?_
        clear hK' K'
        refine wpAnyH_done (by kernel_rfl) ?_ _
        refine NoPanic.normal ?_
        go_wp2_with fail
        go_meet
        case rel => exact ⟨r7, c7⟩
      · go_simp
        refine hK'.out _ _ (Chg.of d6) ?_
        clear hK' K'
        refine held_takeD 15 (.int .i64 nf) (some 86) (by rfl) (by rfl) (by kernel_rfl) (by kernel_rfl) (by kernel_rfl) (fun _ _ _ h => h) (.inl ⟨by rfl, fun _ _ => by go_simp⟩) (Chg.of d6) ?_
        simp only [Act.put, List.setIfInBounds_toArray, List.set_cons_zero, List.set_cons_succ]
        refine held_takeD 16 (.int .i64 nr) (some 87) (by rfl) (by rfl) (by kernel_rfl) (by kernel_rfl) (by kernel_rfl) (fun _ _ _ h => h) (.inl ⟨by rfl, fun _ _ => by go_simp⟩) (Chg.of d6) ?_
        simp only [Act.put, List.setIfInBounds_toArray, List.set_cons_zero, List.set_cons_succ]
        refine held_one 8 (by kernel_rfl) (by rfl) (fun K' hK' => ?_) 
        go_simp
        refine hK'.out _ _ (Chg.of d6) ?_
        clear hK' K'
        refine held_takeD 9 (.int .i64 nf) (some 80) (by rfl) (by rfl) (by kernel_rfl) (by kernel_rfl) (by kernel_rfl) (fun _ _ _ h => h) (.inl ⟨by rfl, fun _ _ => by go_simp⟩) (Chg.of d6) ?_
        simp only [Act.put, List.setIfInBounds_toArray, List.set_cons_zero, List.set_cons_succ]
        refine held_takeD 10 (.int .i64 nr) (some 81) (by rfl) (by rfl) (by kernel_rfl) (by kernel_rfl) (by kernel_rfl) (fun _ _ _ h => h) (.inl ⟨by rfl, fun _ _ => by go_simp⟩) (Chg.of d6) ?_
        simp only [Act.put, List.setIfInBounds_toArray, List.set_cons_zero, List.set_cons_succ]
        refine held_takeD 17 (.slice (some ⟨gf, 0, none⟩) nr nr) (some 88) (by rfl) (by rfl) (by kernel_rfl) (by kernel_rfl) (by kernel_rfl) (fun _ _ _ h => h) (.inl ⟨by rfl, fun _ _ => by go_simp⟩) (Chg.of d6) ?_
        simp only [Act.put, List.setIfInBounds_toArray, List.set_cons_zero, List.set_cons_succ]
        refine held_takeD 18 (.pointer (some ⟨bw, 0, none⟩)) (some 89) (by rfl) (by rfl) (by kernel_rfl) (by kernel_rfl) (by kernel_rfl) (fun _ _ _ h => h) (.inl ⟨by rfl, fun _ _ => by go_simp⟩) (Chg.of d6) ?_
        simp only [Act.put, List.setIfInBounds_toArray, List.set_cons_zero, List.set_cons_succ]
        refine held_takeD 19 (.pointer (some ⟨bw, 9, none⟩)) (some 90) (by rfl) (by rfl) (by kernel_rfl) (by kernel_rfl) (by kernel_rfl) (fun _ _ _ h => h) (.inl ⟨by rfl, fun _ _ => by go_simp⟩) (Chg.of d6) ?_
        simp only [Act.put, List.setIfInBounds_toArray, List.set_cons_zero, List.set_cons_succ]
        refine held_one 20 (by kernel_rfl) (by rfl) (fun K' hK' => ?_)
        go_simp
        obtain ⟨w7, hw7⟩ : ∃ x, x = (w6.setCell ⟨bw, 9, none⟩ (Value.slice (some ⟨gf, 0, none⟩) nr nr)).drew := ⟨_, rfl⟩
        rw [← hw7]
        have r7 : RowT 107 w7 bw (cs6.set 9 (Value.slice (some ⟨gf, 0, none⟩) nr nr)) := hw7 ▸ ((unhide R6).set 9 (Value.slice (some ⟨gf, 0, none⟩) nr nr)).kept (Quiet.below ⟨1, rfl⟩ _)
        have c7 : Chg bw w6 w7 := hw7 ▸ (Chg.ofOnly ((Only.refl bw w6).setCell 9 (Value.slice (some ⟨gf, 0, none⟩) nr nr))).trans (Chg.of (Quiet.below ⟨1, rfl⟩ _))
        refine hK'.out _ _ c7 ?_
        clear hK' K'
        refine wpAnyH_done (by kernel_rfl) ?_ _
        refine NoPanic.normal ?_
        go_wp2_with fail
        go_meet
        case rel => exact ⟨r7, c7⟩
    · go_simp
      refine hK'.out _ _ (Chg.of d6) ?_
      clear hK' K'
      refine held_takeD 9 (.int .i64 nf) (some 80) (by rfl) (by rfl) (by kernel_rfl) (by kernel_rfl) (by kernel_rfl) (fun _ _ _ h => h) (.inl ⟨by rfl, fun _ _ => by go_simp⟩) (Chg.of d6) ?_
      simp only [Act.put, List.setIfInBounds_toArray, List.set_cons_zero, List.set_cons_succ]
      refine held_takeD 10 (.int .i64 nr) (some 81) (by rfl) (by rfl) (by kernel_rfl) (by kernel_rfl) (by kernel_rfl) (fun _ _ _ h => h) (.inl ⟨by rfl, fun _ _ => by go_simp⟩) (Chg.of d6) ?_
      simp only [Act.put, List.setIfInBounds_toArray, List.set_cons_zero, List.set_cons_succ]
      refine held_two 4 14 (by kernel_rfl) (by rfl) (by rfl) (fun K' hK' => ?_) (fun K' hK' => ?_) 
      · go_simp
        refine hK'.out _ _ (Chg.of d6) ?_
        clear hK' K'
        refine held_one 14 (by kernel_rfl) (by rfl) (fun K' hK' => ?_) 
        go_simp
        refine hK'.out _ _ (Chg.of d6) ?_
        clear hK' K'
        refine held_takeD 15 (.int .i64 nf) (some 86) (by rfl) (by rfl) (by kernel_rfl) (by kernel_rfl) (by kernel_rfl) (fun _ _ _ h => h) (.inl ⟨by rfl, fun _ _ => by go_simp⟩) (Chg.of d6) ?_
        simp only [Act.put, List.setIfInBounds_toArray, List.set_cons_zero, List.set_cons_succ]
        refine held_takeD 16 (.int .i64 nr) (some 87) (by rfl) (by rfl) (by kernel_rfl) (by kernel_rfl) (by kernel_rfl) (fun _ _ _ h => h) (.inl ⟨by rfl, fun _ _ => by go_simp⟩) (Chg.of d6) ?_
        simp only [Act.put, List.setIfInBounds_toArray, List.set_cons_zero, List.set_cons_succ]
        refine held_takeD 17 (.slice (some ⟨gf, 0, none⟩) nr nr) (some 88) (by rfl) (by rfl) (by kernel_rfl) (by kernel_rfl) (by kernel_rfl) (fun _ _ _ h => h) (.inl ⟨by rfl, fun _ _ => by go_simp⟩) (Chg.of d6) ?_
        simp only [Act.put, List.setIfInBounds_toArray, List.set_cons_zero, List.set_cons_succ]
        refine held_takeD 18 (.pointer (some ⟨bw, 0, none⟩)) (some 89) (by rfl) (by rfl) (by kernel_rfl) (by kernel_rfl) (by kernel_rfl) (fun _ _ _ h => h) (.inl ⟨by rfl, fun _ _ => by go_simp⟩) (Chg.of d6) ?_
        simp only [Act.put, List.setIfInBounds_toArray, List.set_cons_zero, List.set_cons_succ]
        refine held_takeD 19 (.pointer (some ⟨bw, 9, none⟩)) (some 90) (by rfl) (by rfl) (by kernel_rfl) (by kernel_rfl) (by kernel_rfl) (fun _ _ _ h => h) (.inl ⟨by rfl, fun _ _ => by go_simp⟩) (Chg.of d6) ?_
        simp only [Act.put, List.setIfInBounds_toArray, List.set_cons_zero, List.set_cons_succ]
        refine held_one 20 (by kernel_rfl) (by rfl) (fun K' hK' => ?_)
        go_simp
        obtain ⟨w7, hw7⟩ : ∃ x, x = (w6.setCell ⟨bw, 9, none⟩ (Value.slice (some ⟨gf, 0, none⟩) nr nr)).drew := ⟨_, rfl⟩
        rw [← hw7]
        have r7 : RowT 107 w7 bw (cs6.set 9 (Value.slice (some ⟨gf, 0, none⟩) nr nr)) := hw7 ▸ ((unhide R6).set 9 (Value.slice (some ⟨gf, 0, none⟩) nr nr)).kept (Quiet.below ⟨1, rfl⟩ _)
        have c7 : Chg bw w6 w7 := hw7 ▸ (Chg.ofOnly ((Only.refl bw w6).setCell 9 (Value.slice (some ⟨gf, 0, none⟩) nr nr))).trans (Chg.of (Quiet.below ⟨1, rfl⟩ _))
        refine hK'.out _ _ c7 ?_
        clear hK' K'
        refine wpAnyH_done (by kernel_rfl) ?_ _
        refine NoPanic.normal ?_
        go_wp2_with fail
        go_meet
        case rel => exact ⟨r7, c7⟩
      · go_simp
        refine hK'.out _ _ (Chg.of d6) ?_
        clear hK' K'
        refine held_takeD 15 (.int .i64 nf) (some 86) (by rfl) (by rfl) (by kernel_rfl) (by kernel_rfl) (by kernel_rfl) (fun _ _ _ h => h) (.inl ⟨by rfl, fun _ _ => by go_simp⟩) (Chg.of d6) ?_
        simp only [Act.put, List.setIfInBounds_toArray, List.set_cons_zero, List.set_cons_succ]
        refine held_takeD 16 (.int .i64 nr) (some 87) (by rfl) (by rfl) (by kernel_rfl) (by kernel_rfl) (by kernel_rfl) (fun _ _ _ h => h) (.inl ⟨by rfl, fun _ _ => by go_simp⟩) (Chg.of d6) ?_
        simp only [Act.put, List.setIfInBounds_toArray, List.set_cons_zero, List.set_cons_succ]
        refine held_one 4 (by kernel_rfl) (by rfl) (fun K' hK' => ?_) 
        go_simp
        refine hK'.out _ _ (Chg.of d6) ?_
        clear hK' K'
        refine held_takeD 17 (.slice (some ⟨gf, 0, none⟩) nr nr) (some 88) (by rfl) (by rfl) (by kernel_rfl) (by kernel_rfl) (by kernel_rfl) (fun _ _ _ h => h) (.inl ⟨by rfl, fun _ _ => by go_simp⟩) (Chg.of d6) ?_
        simp only [Act.put, List.setIfInBounds_toArray, List.set_cons_zero, List.set_cons_succ]
        refine held_takeD 18 (.pointer (some ⟨bw, 0, none⟩)) (some 89) (by rfl) (by rfl) (by kernel_rfl) (by kernel_rfl) (by kernel_rfl) (fun _ _ _ h => h) (.inl ⟨by rfl, fun _ _ => by go_simp⟩) (Chg.of d6) ?_
        simp only [Act.put, List.setIfInBounds_toArray, List.set_cons_zero, List.set_cons_succ]
        refine held_takeD 19 (.pointer (some ⟨bw, 9, none⟩)) (some 90) (by rfl) (by rfl) (by kernel_rfl) (by kernel_rfl) (by kernel_rfl) (fun _ _ _ h => h) (.inl ⟨by rfl, fun _ _ => by go_simp⟩) (Chg.of d6) ?_
        simp only [Act.put, List.setIfInBounds_toArray, List.set_cons_zero, List.set_cons_succ]
        refine held_one 20 (by kernel_rfl) (by rfl) (fun K' hK' => ?_)
        go_simp
        obtain ⟨w7, hw7⟩ : ∃ x, x = (w6.setCell ⟨bw, 9, none⟩ (Value.slice (some ⟨gf, 0, none⟩) nr nr)).drew := ⟨_, rfl⟩
        rw [← hw7]
        have r7 : RowT 107 w7 bw (cs6.set 9 (Value.slice (some ⟨gf, 0, none⟩) nr nr)) := hw7 ▸ ((unhide R6).set 9 (Value.slice (some ⟨gf, 0, none⟩) nr nr)).kept (Quiet.below ⟨1, rfl⟩ _)
        have c7 : Chg bw w6 w7 := hw7 ▸ (Chg.ofOnly ((Only.refl bw w6).setCell 9 (Value.slice (some ⟨gf, 0, none⟩) nr nr))).trans (Chg.of (Quiet.below ⟨1, rfl⟩ _))
        refine hK'.out _ _ c7 ?_
        clear hK' K'
        refine wpAnyH_done (by kernel_rfl) ?_ _
        refine NoPanic.normal ?_
        go_wp2_with fail
        go_meet
        case rel => exact ⟨r7, c7⟩
    · go_simp
      refine hK'.out _ _ (Chg.of d6) ?_
      clear hK' K'
      refine held_takeD 15 (.int .i64 nf) (some 86) (by rfl) (by rfl) (by kernel_rfl) (by kernel_rfl) (by kernel_rfl) (fun _ _ _ h => h) (.inl ⟨by rfl, fun _ _ => by go_simp⟩) (Chg.of d6) ?_
      simp only [Act.put, List.setIfInBounds_toArray, List.set_cons_zero, List.set_cons_succ]
      refine held_takeD 16 (.int .i64 nr) (some 87) (by rfl) (by rfl) (by kernel_rfl) (by kernel_rfl) (by kernel_rfl) (fun _ _ _ h => h) (.inl ⟨by rfl, fun _ _ => by go_simp⟩) (Chg.of d6) ?_
      simp only [Act.put, List.setIfInBounds_toArray, List.set_cons_zero, List.set_cons_succ]
      refine held_two 4 8 (by kernel_rfl) (by rfl) (by rfl) (fun K' hK' => ?_) (fun K' hK' => ?_) 
      · go_simp
        refine hK'.out _ _ (Chg.of d6) ?_
        clear hK' K'
        refine held_one 8 (by kernel_rfl) (by rfl) (fun K' hK' => ?_) 
        go_simp
        refine hK'.out _ _ (Chg.of d6) ?_
        clear hK' K'
        refine held_takeD 9 (.int .i64 nf) (some 80) (by rfl) (by rfl) (by kernel_rfl) (by kernel_rfl) (by kernel_rfl) (fun _ _ _ h => h) (.inl ⟨by rfl, fun _ _ => by go_simp⟩) (Chg.of d6) ?_
        simp only [Act.put, List.setIfInBounds_toArray, List.set_cons_zero, List.set_cons_succ]
        refine held_takeD 10 (.int .i64 nr) (some 81) (by rfl) (by rfl) (by kernel_rfl) (by kernel_rfl) (by kernel_rfl) (fun _ _ _ h => h) (.inl ⟨by rfl, fun _ _ => by go_simp⟩) (Chg.of d6) ?_
        simp only [Act.put, List.setIfInBounds_toArray, List.set_cons_zero, List.set_cons_succ]
        refine held_takeD 17 (.slice (some ⟨gf, 0, none⟩) nr nr) (some 88) (by rfl) (by rfl) (by kernel_rfl) (by kernel_rfl) (by kernel_rfl) (fun _ _ _ h => h) (.inl ⟨by rfl, fun _ _ => by go_simp⟩) (Chg.of d6) ?_
        simp only [Act.put, List.setIfInBounds_toArray, List.set_cons_zero, List.set_cons_succ]
        refine held_takeD 18 (.pointer (some ⟨bw, 0, none⟩)) (some 89) (by rfl) (by rfl) (by kernel_rfl) (by kernel_rfl) (by kernel_rfl) (fun _ _ _ h => h) (.inl ⟨by rfl, fun _ _ => by go_simp⟩) (Chg.of d6) ?_
        simp only [Act.put, List.setIfInBounds_toArray, List.set_cons_zero, List.set_cons_succ]
        refine held_takeD 19 (.pointer (some ⟨bw, 9, none⟩)) (some 90) (by rfl) (by rfl) (by kernel_rfl) (by kernel_rfl) (by kernel_rfl) (fun _ _ _ h => h) (.inl ⟨by rfl, fun _ _ => by go_simp⟩) (Chg.of d6) ?_
        simp only [Act.put, List.setIfInBounds_toArray, List.set_cons_zero, List.set_cons_succ]
        refine held_one 20 (by kernel_rfl) (by rfl) (fun K' hK' => ?_)
        go_simp
        obtain ⟨w7, hw7⟩ : ∃ x, x = (w6.setCell ⟨bw, 9, none⟩ (Value.slice (some ⟨gf, 0, none⟩) nr nr)).drew := ⟨_, rfl⟩
        rw [← hw7]
        have r7 : RowT 107 w7 bw (cs6.set 9 (Value.slice (some ⟨gf, 0, none⟩) nr nr)) := hw7 ▸ ((unhide R6).set 9 (Value.slice (some ⟨gf, 0, none⟩) nr nr)).kept (Quiet.below ⟨1, rfl⟩ _)
        have c7 : Chg bw w6 w7 := hw7 ▸ (Chg.ofOnly ((Only.refl bw w6).setCell 9 (Value.slice (some ⟨gf, 0, none⟩) nr nr))).trans (Chg.of (Quiet.below ⟨1, rfl⟩ _))
        refine hK'.out _ _ c7 ?_
        clear hK' K'
        refine wpAnyH_done (by kernel_rfl) ?_ _
        refine NoPanic.normal ?_
        go_wp2_with fail
        go_meet
        case rel => exact ⟨r7, c7⟩
      · go_simp
        refine hK'.out _ _ (Chg.of d6) ?_
        clear hK' K'
        refine held_takeD 9 (.int .i64 nf) (some 80) (by rfl) (by rfl) (by kernel_rfl) (by kernel_rfl) (by kernel_rfl) (fun _ _ _ h => h) (.inl ⟨by rfl, fun _ _ => by go_simp⟩) (Chg.of d6) ?_
        simp only [Act.put, List.setIfInBounds_toArray, List.set_cons_zero, List.set_cons_succ]
        refine held_takeD 10 (.int .i64 nr) (some 81) (by rfl) (by rfl) (by kernel_rfl) (by kernel_rfl) (by kernel_rfl) (fun _ _ _ h => h) (.inl ⟨by rfl, fun _ _ => by go_simp⟩) (Chg.of d6) ?_
        simp only [Act.put, List.setIfInBounds_toArray, List.set_cons_zero, List.set_cons_succ]
        refine held_one 4 (by kernel_rfl) (by rfl) (fun K' hK' => ?_) 
        go_simp
        refine hK'.out _ _ (Chg.of d6) ?_
        clear hK' K'
        refine held_takeD 17 (.slice (some ⟨gf, 0, none⟩) nr nr) (some 88) (by rfl) (by rfl) (by kernel_rfl) (by kernel_rfl) (by kernel_rfl) (fun _ _ _ h => h) (.inl ⟨by rfl, fun _ _ => by go_simp⟩) (Chg.of d6) ?_
        simp only [Act.put, List.setIfInBounds_toArray, List.set_cons_zero, List.set_cons_succ]
        refine held_takeD 18 (.pointer (some ⟨bw, 0, none⟩)) (some 89) (by rfl) (by rfl) (by kernel_rfl) (by kernel_rfl) (by kernel_rfl) (fun _ _ _ h => h) (.inl ⟨by rfl, fun _ _ => by go_simp⟩) (Chg.of d6) ?_
        simp only [Act.put, List.setIfInBounds_toArray, List.set_cons_zero, List.set_cons_succ]
        refine held_takeD 19 (.pointer (some ⟨bw, 9, none⟩)) (some 90) (by rfl) (by rfl) (by kernel_rfl) (by kernel_rfl) (by kernel_rfl) (fun _ _ _ h => h) (.inl ⟨by rfl, fun _ _ => by go_simp⟩) (Chg.of d6) ?_
        simp only [Act.put, List.setIfInBounds_toArray, List.set_cons_zero, List.set_cons_succ]
        refine held_one 20 (by kernel_rfl) (by rfl) (fun K' hK' => ?_)
        go_simp
        obtain ⟨w7, hw7⟩ : ∃ x, x = (w6.setCell ⟨bw, 9, none⟩ (Value.slice (some ⟨gf, 0, none⟩) nr nr)).drew := ⟨_, rfl⟩
        rw [← hw7]
        have r7 : RowT 107 w7 bw (cs6.set 9 (Value.slice (some ⟨gf, 0, none⟩) nr nr)) := hw7 ▸ ((unhide R6).set 9 (Value.slice (some ⟨gf, 0, none⟩) nr nr)).kept (Quiet.below ⟨1, rfl⟩ _)
        have c7 : Chg bw w6 w7 := hw7 ▸ (Chg.ofOnly ((Only.refl bw w6).setCell 9 (Value.slice (some ⟨gf, 0, none⟩) nr nr))).trans (Chg.of (Quiet.below ⟨1, rfl⟩ _))
        refine hK'.out _ _ c7 ?_
        clear hK' K'
        refine wpAnyH_done (by kernel_rfl) ?_ _
        refine NoPanic.normal ?_
        go_wp2_with fail
        go_meet
        case rel => exact ⟨r7, c7⟩
    --E3
  case rest =>
  as_aux_lemma =>
  obtain ⟨w7, hw7⟩ : ∃ w7, w7 = wc := ⟨_, rfl⟩
  subst hw7
  obtain ⟨r7, c7⟩ := hcut
  rw [hsl, unhide HNR] at r7
  have hsr7 := (unhide HS6).pop r7 c7
  have hl7 : (cs6.set 9 sl).length = 179 := by rw [List.length_set]; exact (unhide HS6).cw.len
  have m7 : Mv G w6 w7 := Mv.chain (unhide HS6).cw.row (unhide HS6).cw.g c7
  have hbox7 : RowT 194 w7 w.heap.size f1 := c7.row (unhide HB6) (by omega)
  have e97 : w7.cell? ⟨bw, 9, none⟩ = some (.slice (some ⟨gf, 0, none⟩) nr nr) := by
    rw [r7.cell, ← unhide HNR]
    exact List.getElem?_set_self (by rw [(unhide HS6).cw.len]; omega)
  have HS7 := hide hsr7
  have HB7 := hide hbox7
  have m07 : Mv G w w7 := m06.trans m7
  have HO7 := hide ((unhide HO6).kp m7.chg)
  have HK7' := hide ((unhide HK6).kp m7.chg)
  have hcs7 : cs6.set 9 (Value.slice (some ⟨gf, 0, none⟩) r.length r.length) = cs6.set 9 (Value.slice (some ⟨gf, 0, none⟩) r.length r.length) := rfl
  generalize hcq : cs6.set 9 (Value.slice (some ⟨gf, 0, none⟩) r.length r.length) = cs7 at r7 HS7
  have hfin : s' = s ∧ (out3, gas8) = lvFin s (lvOut cb s out) (lvGas cb s l f.gas) ∧ d5 = (if s = 0 then lvD cb s l out d f.self else f.saved) := by
    obtain ⟨q1, q2, q3, q4⟩ := unhide HGR4
    have q5 := unhide HFQ
    rw [unhide HOQ, unhide HGQ, q1, q2, q3] at q5
    refine ⟨q1, q5, ?_⟩
    rcases unhide HD5 with ⟨h1, h2⟩ | ⟨h1, h2⟩
    · rw [if_pos (q1 ▸ h1), h2, q4]
    · rw [if_neg (fun h0 => h1 (q1.trans h0)), h2]
  have HFIN := hide hfin
  have R7 := hide r7
  clear r7 hsr7 hbox7 hcs7 hcq c7 hfin hsl
  by_cases hn0 : nr = 0
  case pos =>
    as_aux_lemma =>
    --S4
    have t7 : ((nr : Int) == 0) = true := by rw [beq_iff_eq]; omega
    have hr0 : r = [] := by
      have := unhide HNR
      cases r with
      | nil => rfl
      | cons a b => rw [List.length_cons] at this; omega
    have HR0 := hide hr0
    have hl179' := (unhide HS7).cw.len
    have hk9 := unhide HK7'
    have hcw0 : RowT 107 w7 bw cs7 := unhide R7
    obtain ⟨v8, hx8⟩ : ∃ v, w7.cell? ⟨bw, 9, none⟩ = some v := by rw [hcw0.cell, List.getElem?_eq_getElem (by first | omega | (simp only [List.length_set]; omega))]; exact ⟨_, rfl⟩
    have hf8 := hcw0.froz 9
    have ho8 : Only bw w7 (w7.setCell ⟨bw, 9, none⟩ (.slice none 0 0)) := (Only.refl _ _).setCell _ _
    have hcw1 := hcw0.set 9 (.slice none 0 0)
    obtain ⟨w8, hw8⟩ : ∃ y, y = w7.setCell ⟨bw, 9, none⟩ (.slice none 0 0) := ⟨_, rfl⟩
    rw [← hw8] at ho8 hcw1
    have HW8 := hide hw8
    obtain ⟨v9, hx9⟩ : ∃ v, w8.cell? ⟨bw, 11, none⟩ = some v := by rw [hcw1.cell, List.getElem?_eq_getElem (by first | omega | (simp only [List.length_set]; omega))]; exact ⟨_, rfl⟩
    have hf9 := hcw1.froz 11
    have ho9 : Only bw w8 (w8.setCell ⟨bw, 11, none⟩ (.int .u8 2)) := (Only.refl _ _).setCell _ _
    have hcw2 := hcw1.set 11 (.int .u8 2)
    obtain ⟨w9, hw9⟩ : ∃ y, y = w8.setCell ⟨bw, 11, none⟩ (.int .u8 2) := ⟨_, rfl⟩
    rw [← hw9] at ho9 hcw2
    have HW9 := hide hw9
    obtain ⟨v10, hx10⟩ : ∃ v, w9.cell? ⟨bw, 12, none⟩ = some v := by rw [hcw2.cell, List.getElem?_eq_getElem (by first | omega | (simp only [List.length_set]; omega))]; exact ⟨_, rfl⟩
    have hf10 := hcw2.froz 12
    have ho10 : Only bw w9 (w9.setCell ⟨bw, 12, none⟩ (.int .u8 s')) := (Only.refl _ _).setCell _ _
    have hcw3 := hcw2.set 12 (.int .u8 s')
    obtain ⟨w10, hw10⟩ : ∃ y, y = w9.setCell ⟨bw, 12, none⟩ (.int .u8 s') := ⟨_, rfl⟩
    rw [← hw10] at ho10 hcw3
    have HW10 := hide hw10
    obtain ⟨v11, hx11⟩ : ∃ v, w10.cell? ⟨bw, 16, none⟩ = some v := by rw [hcw3.cell, List.getElem?_eq_getElem (by first | omega | (simp only [List.length_set]; omega))]; exact ⟨_, rfl⟩
    have hf11 := hcw3.froz 16
    have ho11 : Only bw w10 (w10.setCell ⟨bw, 16, none⟩ (.slice A8 k8 c8)) := (Only.refl _ _).setCell _ _
    have hcw4 := hcw3.set 16 (.slice A8 k8 c8)
    obtain ⟨w11, hw11⟩ : ∃ y, y = w10.setCell ⟨bw, 16, none⟩ (.slice A8 k8 c8) := ⟨_, rfl⟩
    rw [← hw11] at ho11 hcw4
    have HW11 := hide hw11
    have hc11 : Chg bw w7 w11 := (Chg.ofOnly ho8).trans ((Chg.ofOnly ho9).trans ((Chg.ofOnly ho10).trans (Chg.ofOnly ho11)))
    have hse := (unhide HS7).ended hk9 s' hcw4 hc11
    have m11 : Mv G w w11 := m07.trans (Mv.chain (unhide R7) (unhide HS7).cw.g hc11)
    have HROW := hide (hc11.row (unhide HS7).row (unhide HS7).ne)
    have HSE := hide hse
    clear hse hc11 hcw0 hcw1 hcw2 hcw3 hcw4 ho8 ho9 ho10 ho11 hw8 hw9 hw10 hw11 hn0 hr0 hk9
    clear hx8
    go_upto_region 20 with fail
    rw [← unhide HW8]
    go_upto_region 21 with fail
    rw [← unhide HW9]
    go_upto_region 22 with fail
    rw [← unhide HW10]
    go_wp2_with fail
    rw [← unhide HW11]
    refine bodyPost_ret (results_none rfl _ _ _) rfl ?_
    obtain ⟨q1, q2, q3⟩ := unhide HFIN
    exact ⟨rfl, _, fr, d5, out3, gas8, rfl, m11, by rw [unhide HCB]; exact q2, by rw [unhide HCB]; exact q3, unhide HROW, fun _ _ => rfl, .inl ⟨unhide HR0, by rw [← q1]; exact unhide HSE⟩⟩
    --E4
  case neg =>
    as_aux_lemma =>
    obtain ⟨p, r', hrp⟩ : ∃ p r', r = p :: r' := by
      cases r with
      | nil => exact absurd (unhide HNR) (by simpa using hn0)
      | cons a b => exact ⟨a, b, rfl⟩
    obtain ⟨hwf, hpml, hpg⟩ := unhide HHP p r' hrp
    have hnrl := unhide HNR
    have hsr7 := unhide HS7
    have HRP := hide hrp
    rw [hrp] at hsr7 hnrl
    rw [List.length_cons] at hnrl
    have t7 : ((nr : Int) == 0) = false := by rw [beq_eq_false_iff_ne]; omega
    obtain ⟨n2, hn2⟩ : ∃ n2, n2 = r'.length := ⟨_, rfl⟩
    obtain ⟨o2, ho2⟩ : ∃ o2, o2 = 60 * r'.length := ⟨_, rfl⟩
    have en2 : (nr : Int) - 1 = (n2 : Int) := by omega
    have hwn2 : IntKind.i64.wrap (n2 : Int) = (n2 : Int) := by rw [IntKind.wrap_i64]; omega
    have hn2i : (n2 : Int) < (nr : Int) := by omega
    have hn2l : n2 < nr := by omega
    have hn2o : n2 * 60 = o2 := by omega
    have hfx7 := hsr7.fx
    rw [← ho2] at hfx7
    obtain ⟨Ag, kg, cg, g1, g2⟩ := hfx7.kf.gas
    have HFX7 := hide hfx7
    have HG1 := hide g1
    have HG2 := hide g2
    have HO2' := hide ho2
    have HSR7 := hide hsr7
    have HWF := hide hwf
    have HPC := hwf.any.pc
    clear hrp hnrl hn2 ho2 hfx7 g1 g2 hsr7 hn0 hwf
    go_upto_region 23 with fail
    go_cut [10] (fun s10 wc => s10 = .pointer (some ⟨gf, o2, none⟩) ∧ Below w7.heap.size w7 wc)
    case first =>
      as_aux_lemma =>
      go_quiet (fail)
      go_wp2_with fail
      go_meet
      case rel => exact ⟨rfl, Quiet.below ⟨_, rfl⟩ _⟩
    case rest =>
    as_aux_lemma =>
    obtain ⟨w8, hw8⟩ : ∃ w8, w8 = wc := ⟨_, rfl⟩
    subst hw8
    obtain ⟨rfl, b8⟩ := hcut
    have hfx8 := (unhide HFX7).kept b8
    have c48 : w8.cell? ⟨gf, o2 + 4, none⟩ = some (.slice Ag kg cg) := hfx8.cell (unhide HG1)
    have HADD := hide (((unhide HG2).kp (ChgS.of b8)).now.add ((unhide HK7').kp (ChgS.of b8)).now (by omega) (by omega))
    have HFX8 := hide hfx8
    clear hfx8 e97
    go_upto_region 25 with (go_at_call 59; refine (unhide HADD).mono ?_; rintro e w9 ⟨A9, k9, c9, rfl, n9, N9, b9⟩; have hfx9 := (unhide HFX8).kept b9; obtain ⟨v49, hx49⟩ := hfx9.ex (i := 4) (by omega); have hf49 := hfx9.row.froz (o2 + 4); have NN9 := hide n9; clear n9 hfx9)
    have d9 : Below w7.heap.size w7 w9 := b8.trans (b9.mono b8.size)
    have hsr9 := (unhide HSR7).kept d9
    have k9N : KNat G w9 A9 k9 c9 (p.gas + gas8) := KNat.new (unhide NN9) (N9.later b8.size) (unhide HS7).cw.ther
    obtain ⟨hsr10, ho10⟩ := hsr9.put (j := 4) (by omega) (hsr9.fx.kf.setGas k9N)
    rw [← unhide HO2'] at hsr10 ho10
    obtain ⟨w10, hw10⟩ : ∃ y, y = w9.setCell ⟨gf, o2 + 4, none⟩ (.slice A9 k9 c9) := ⟨_, rfl⟩
    rw [← hw10] at hsr10 ho10
    rw [← hw10]
    generalize hfr10 : fr.set (o2 + 4) (Value.slice A9 k9 c9) = fr10 at hsr10
    have hfl10 : fr10.length = fr.length := by rw [← hfr10, List.length_set]
    have HFR10 := hide hfr10
    have m10 : Mv G w7 w10 := (Mv.of d9).trans (Mv.frame hsr9.row hsr9.g (Chg.ofOnly ho10))
    have hgfw : gf ≠ w.heap.size := by omega
    have hbox10 : RowT 194 w10 w.heap.size f1 := (Chg.ofOnly ho10).row ((unhide HB7).kept d9) (Ne.symm hgfw)
    have HS10 := hide hsr10
    have HB10 := hide hbox10
    have HO10 := hide ((unhide HO7).kp m10.chg)
    obtain ⟨p2, hp2⟩ : ∃ p2, p2 = { p with gas := p.gas + gas8 } := ⟨_, rfl⟩
    have hw2 : WaitF p2 := by rw [hp2]; exact ⟨⟨(unhide HWF).any.pc, (unhide HWF).any.value, (unhide HWF).any.outOff, (unhide HWF).any.outLen, (unhide HWF).any.stk, (unhide HWF).any.slen, (unhide HWF).any.code, (unhide HWF).any.input, (unhide HWF).any.kind, (unhide HWF).any.native⟩, (unhide HWF).pc, (unhide HWF).slen⟩
    rw [← hp2] at HS10
    have hml2 : p2.ml ≤ 1000000 := by rw [hp2]; exact hpml
    have HP2 := hide hp2
    have HW2 := hide hw2
    have HSF20 : (bv f.self).length = 20 := by rw [bv_len, (unhide HKF).selfA.len]
    have hsrcS : ∀ wz, Below w10.heap.size w10 wz → Src wz (some ⟨w.heap.size, 12, none⟩) 20 20 f.self := fun wz hz => by
      refine src_of_range (fun j v hv => ?_) (unhide HKF).selfA.byt (unhide HKF).selfA.len (by unfold maxLen; omega)
      have hj : j < 20 := by
        rcases Nat.lt_or_ge j 20 with h' | h'
        · exact h'
        · rw [List.getElem?_eq_none (by omega)] at hv; cases hv
      rw [((unhide HB10).kept hz).cell, unhide HF1G _ (by omega), (unhide HKF).self j hj]
      exact hv
    have HSRC := hide hsrcS
    have hself : val f.self.reverse < P256 := beN_lt256 (unhide HKF).selfA.byt (by rw [(unhide HKF).selfA.len]; omega)
    have HSELF := hide hself
    have hP1 := p256_ge
    clear hsr9 k9N hsr10 ho10 hw10 hfr10 hbox10 hp2 hw2 hsrcS hself c48 hx49 hf49 hpml
    go_upto_if 132 with fail
    go_cut [11] (fun s11 wc => ∃ (A : Option Addr) (k c v : Nat), s11 = .slice A k c ∧ KNat G wc A k c v ∧ v < P256 ∧ v = lvFlag cb s' f.self ∧ Below w10.heap.size w10 wc)
    case first =>
      as_aux_lemma =>
      --S5
      by_cases h0 : s' = 0
      case neg =>
        have t0 : ((s' : Int) == 0) = false := by rw [beq_eq_false_iff_ne]; omega
        go_wp2_with fail
        go_meet
        case rel => exact ⟨none, 0, 0, 0, rfl, KNat.nil G _, by omega, (lvFlag_no h0).symm, Below.refl _ _⟩
      case pos =>
        have t0 : ((s' : Int) == 0) = true := by rw [beq_iff_eq]; omega
        have HN1 := hide (num_any 1 w10 (by omega))
        have HS00 := hide h0
        clear h0
        go_upto_region 28 with (go_at_call 97; refine (unhide HN1).mono ?_; rintro e w11 ⟨A11, k11, c11, rfl, n11, N11, b11⟩; have NN11 := hide n11; clear n11)
        have HK11 : Hid (KNat G w11 A11 k11 c11 1) := hide (KNat.new (unhide NN11) N11 (unhide HS10).cw.ther)
        cases cb with
        | false =>
          go_wp2_with fail
          go_meet
          case rel => exact ⟨A11, k11, c11, 1, rfl, unhide HK11, by omega, (lvFlag_one (unhide HS00)).symm, b11⟩
        | true =>
          have HFB := hide (fromBE_any _ 20 20 f.self w11 (unhide HSRC w11 b11) (by omega))
          go_wp2_with (go_at_call 17; refine (unhide HFB).mono ?_; rintro e w12 ⟨A12, k12, c12, rfl, n12, N12, b12⟩; have NN12 := hide n12; clear n12)
          go_meet
          case rel => exact ⟨A12, k12, c12, _, rfl, KNat.new (unhide NN12) (N12.later b11.size) (unhide HS10).cw.ther, unhide HSELF, (lvFlag_self (unhide HS00)).symm, b11.trans (b12.mono b11.size)⟩
      --E5
    case rest =>
    as_aux_lemma =>
    obtain ⟨w11, hw11⟩ : ∃ w11, w11 = wc := ⟨_, rfl⟩
    subst hw11
    obtain ⟨Av, kv, cv, vv, rfl, hkv, hvv, hvf, b11⟩ := hcut
    have HVF := hide hvf
    clear hvf
    have hsr11 := (unhide HS10).kept b11
    have hfx11 := hsr11.fx
    rw [← unhide HO2'] at hfx11
    obtain ⟨Al, kl, cl, l1, l2'⟩ := hfx11.kf.outLen
    obtain ⟨Ao, ko, co, q1, q2⟩ := hfx11.kf.outOff
    have c711 : w11.cell? ⟨gf, o2 + 7, none⟩ = some (.slice Al kl cl) := hfx11.cell l1
    have hol2 := (unhide HW2).any.outLen
    have HSM := hide (small_any Al kl cl p2.outLen w11 l2'.now (by have := p256_lt; omega))
    have HS11 := hide hsr11
    have HFX11 := hide hfx11
    have HKV := hide hkv
    have HQ1 := hide q1
    have HQ2 := hide q2
    have HO11 := hide ((unhide HO10).kp (ChgS.of b11))
    have hwl3 : IntKind.u64.wrap (l3 : Int) = (l3 : Int) := by rw [IntKind.wrap_u64]; omega
    clear hsr11 hfx11 l1 l2' q1 q2 hkv hol2
    go_upto_region 30 with fail
    go_cut [12] (fun s12 wc => ∃ n : Nat, s12 = .int .u64 n ∧ n ≤ l3 ∧ wc = w11)
    case first =>
      as_aux_lemma =>
      generalize u64N p2.outLen = u6 at HSM
      go_wp2_with (go_at_call 55; refine (unhide HSM).mono ?_; rintro e wx ⟨rfl, rfl⟩)
      all_goals (go_meet; exact ⟨_, rfl, by omega, rfl⟩)
    case rest =>
    as_aux_lemma =>
    obtain ⟨n, rfl, hnl, hwe⟩ := hcut
    subst hwe
    obtain ⟨w12, hw12⟩ : ∃ w12, w12 = wc := ⟨_, rfl⟩
    subst hw12
    have d12 : Below w12.heap.size w12 w12.drew := Quiet.below ⟨1, rfl⟩ _
    clear c711
    go_upto_if 148 with fail
    go_cut [] (fun wc => SR G bw gf cs7 fr10 d5 (p2 :: r') { x with ret := out3 } wc ∧ Mv G w12 wc)
    case first =>
      as_aux_lemma =>
      --S6
      by_cases h0 : n = 0
      case pos =>
        have t0 : decide (0 < n) = false := decide_eq_false (by omega)
        have t0' : decide ((0 : Int) < (n : Int)) = false := decide_eq_false (by omega)
        go_wp2_with fail
        go_meet
        case rel => exact ⟨unhide HS11, Mv.refl _ _⟩
      case neg =>
        have t0 : decide (0 < n) = true := decide_eq_true (by omega)
        have t0' : decide ((0 : Int) < (n : Int)) = true := decide_eq_true (by omega)
        obtain ⟨b3, o3, ha3, -⟩ := (unhide HO11).now.at_ (by omega)
        subst ha3
        have hlc3 := (unhide HO11).now.le
        have hcm3 := (unhide HO11).now.max
        have hoo2 := (unhide HW2).any.outOff
        have hnc3 : n ≤ c3 := by omega
        have hpos : 0 < n := by omega
        have hwn : IntKind.u64.wrap (n : Int) = (n : Int) := by rw [IntKind.wrap_u64]; omega
        have HWR := hide (((unhide HFX11).kept d12).write hml2 Ao ko co p2.outOff (((unhide HQ2).kp (ChgS.of d12)).now) (by have := p256_lt; omega) _ n c3 _ (((unhide HO11).kp (ChgS.of d12)).now.prefix n hnl))
        have hc6 : fr10[o2 + 6]? = some (.slice Ao ko co) := unhide HQ1
        have HC6 := hide hc6
        have hrw := (unhide HFX11).row
        have HRW := hide hrw
        clear hc6 hrw h0 hoo2
        go_upto_region 32 with fail
        refine wp_region_noPanic ?_
        refine wp_region_held_drew (S := fun w' => RowT 194 w' gf fr10) (by kernel_rfl) ((unhide HRW).kept d12) (fun hHeld => ?_)
        refine held_takeD 0 (.pointer (some ⟨gf, o2, none⟩)) (some 149) (by rfl) (by rfl) (by kernel_rfl) (by kernel_rfl) (by kernel_rfl) (fun _ _ _ h => h) (.inl ⟨by rfl, fun _ _ => by rfl⟩) (hHeld) ?_
        simp only [Act.put, List.setIfInBounds_toArray, List.set_cons_zero, List.set_cons_succ]
        refine held_takeD 1 (.pointer (some ⟨gf, o2, none⟩)) (some 150) (by rfl) (by rfl) (by kernel_rfl) (by kernel_rfl) (by kernel_rfl) (fun _ _ _ h => h) (.inl ⟨by rfl, fun _ _ => by rfl⟩) (hHeld) ?_
        simp only [Act.put, List.setIfInBounds_toArray, List.set_cons_zero, List.set_cons_succ]
        refine held_takeD 2 (.pointer (some ⟨gf, o2, none⟩)) (some 151) (by rfl) (by rfl) (by kernel_rfl) (by kernel_rfl) (by kernel_rfl) (fun _ _ _ h => h) (.inl ⟨by rfl, fun _ _ => by go_simp⟩) (hHeld) ?_
        simp only [Act.put, List.setIfInBounds_toArray, List.set_cons_zero, List.set_cons_succ]
        refine held_takeD 3 (.pointer (some ⟨gf, o2 + 6, none⟩)) (some 152) (by rfl) (by rfl) (by kernel_rfl) (by kernel_rfl) (by kernel_rfl) (fun _ _ _ h => h) (.inl ⟨by rfl, fun _ _ => by go_simp⟩) (hHeld) ?_
        simp only [Act.put, List.setIfInBounds_toArray, List.set_cons_zero, List.set_cons_succ]
        refine held_takeD 4 (.slice Ao ko co) (some 153) (by rfl) (by rfl) (by kernel_rfl) (by kernel_rfl) (by kernel_rfl) (fun _ _ _ h => h) (.inl ⟨by rfl, fun wS hS => by have hc : wS.cell? ⟨gf, o2 + 6, none⟩ = some (.slice Ao ko co) := by { rw [hS.cell]; exact unhide HC6 }; go_simp⟩) (hHeld) ?_
        simp only [Act.put, List.setIfInBounds_toArray, List.set_cons_zero, List.set_cons_succ]
        refine held_takeD 5 (.slice (some ⟨b3, o3, none⟩) l3 c3) (some 154) (by rfl) (by rfl) (by kernel_rfl) (by kernel_rfl) (by kernel_rfl) (fun _ _ _ h => h) (.inl ⟨by rfl, fun _ _ => by rfl⟩) (hHeld) ?_
        simp only [Act.put, List.setIfInBounds_toArray, List.set_cons_zero, List.set_cons_succ]
        refine held_takeD 6 (.int .u64 n) (some 155) (by rfl) (by rfl) (by kernel_rfl) (by kernel_rfl) (by kernel_rfl) (fun _ _ _ h => h) (.inl ⟨by rfl, fun _ _ => by rfl⟩) (hHeld) ?_
        simp only [Act.put, List.setIfInBounds_toArray, List.set_cons_zero, List.set_cons_succ]
        refine held_takeD 7 (.slice (some ⟨b3, o3, none⟩) n c3) (some 156) (by rfl) (by rfl) (by kernel_rfl) (by kernel_rfl) (by kernel_rfl) (fun _ _ _ h => h) (.inl ⟨by rfl, fun _ _ => by go_simp⟩) (hHeld) ?_
        simp only [Act.put, List.setIfInBounds_toArray, List.set_cons_zero, List.set_cons_succ]
        refine held_one 8 (by kernel_rfl) (by rfl) (fun K' hK' => ?_)
        go_simp
        refine (unhide HWR).mono ?_
        rintro e w13 ⟨rfl, hfx13, hmv13, hsz13, hrows13⟩
        refine hK'.out _ _ hfx13.row ?_
        clear hK' K'
        refine wpAnyH_done (by kernel_rfl) ?_ _
        refine NoPanic.normal ?_
        have hsr13 := ((unhide HS11).kept d12).mem hmv13 hrows13
        have HS13 := hide hsr13
        have m13 : Mv G w12 w13 := (Mv.of d12).trans hmv13
        clear hsr13 hfx13 hrows13
        go_wp2_with fail
        go_meet
        case rel => exact ⟨unhide HS13, m13⟩
      --E6
    case rest =>
    as_aux_lemma =>
    obtain ⟨w13, hw13⟩ : ∃ w13, w13 = wc := ⟨_, rfl⟩
    subst hw13
    obtain ⟨hsr13, m13⟩ := hcut
    have hfx13 := hsr13.fx
    rw [← unhide HO2'] at hfx13
    have hsl2 := (unhide HW2).slen
    have hpc2 := (unhide HW2).any.pc
    have hAN := hfx13.answer 0 (Nat.zero_le _) (by omega) hpc2 Av kv cv vv ((unhide HKV).kp m13.chg)
    rw [show ((0 : Nat) : Int) = 0 from rfl] at hAN
    have HAN := hide hAN
    have HS13 := hide hsr13
    clear hAN hfx13 hsr13
    go_wp2_with (go_at_call 208; refine (unhide HAN).mono ?_; rintro e w14 ⟨rfl, fr14, hfx14, hfl14, hfe14, hch14⟩; have HFX14 := hide hfx14; have HFE14 := hide hfe14; have HFL14 := hide hfl14; have HCH14 := hide hch14; clear hfx14 hfe14 hfl14 hch14)
    refine bodyPost_done rfl rfl ?_
    have hfx14 := unhide HFX14
    have hfe14 := unhide HFE14
    rw [unhide HO2'] at hfx14 hfe14
    have hsr14 := (unhide HS13).top hfx14 (unhide HFL14) (fun i hi => hfe14 i (.inl hi)) (unhide HCH14)
    have m14 : Mv G w w14 := ((m07.trans m10).trans ((Mv.of b11).trans m13)).trans (Mv.frame (unhide HS13).row (unhide HS13).g (unhide HCH14))
    have hfe10 : ∀ i, i ≠ o2 + 4 → fr10[i]? = fr[i]? := fun i hi => by rw [← unhide HFR10]; exact List.getElem?_set_ne (Ne.symm hi)
    have hrl2 : 60 * r.length = 60 * r'.length + 60 := by rw [unhide HRP, List.length_cons]; omega
    have ho2 := unhide HO2'
    obtain ⟨q1, q2, q3⟩ := unhide HFIN
    refine ⟨rfl, cs7, fr14, d5, out3, gas8, (unhide HFL14).trans hfl10, m14, by rw [unhide HCB]; exact q2, by rw [unhide HCB]; exact q3, hsr14.row, fun i hi => (hfe14 i (.inr (by omega))).trans (hfe10 i (by omega)), .inr ⟨p, r', unhide HRP, by rw [unhide HCB, ← q1, ← unhide HVF]; exact hvv, ?_⟩⟩
    have ht : p2.stk.take (p2.stk.length - 0) = p2.stk := List.take_of_length_le (by omega)
    rw [ht, unhide HP2] at hsr14
    rw [unhide HCB, ← q1, ← unhide HVF]
    exact hsr14
end

end Go.Proofs.YgcsakGreat
