/-
  yp, exactly: value at PUSH, KECCAK256, BALANCE.
-/
import Derived.Test.YgcsakGreatKhB
import Derived.Test.YgcsakGreatXpA
import Derived.Test.YgcsakGreatXwA
import Derived.Test.YgcsakGreatXwB
namespace Go.Proofs.YgcsakGreat
set_option linter.unusedVariables false
set_option linter.unusedSimpArgs false
set_option maxRecDepth 100000
open Go.RowKit

/-- the word that PUSH gives -/
def pushX (f : FD) (p : Nat) : Nat := val (cutL f.code (f.pc + 1) (immA p)).reverse
section
variable {G : Nat → Prop} {bw gf : Nat} {cs fr : List Value} {d : WD} {f : FD} {r : List FD} {x : XD} {w : World} {B : Nat}
theorem ValX.new (h : SR G bw gf cs fr d (f :: r) x w) {w' : World} {A : Option Addr} {k c n : Nat} {P : Nat → WD → Prop} (hn : IsNat w' A k c n) (hN : New w A) (hl : n < P256) (hb : Below w.heap.size w w') (hP : P n d) : ValX G bw gf fr (f :: r) x P w (.returned (.slice A k c)) w' :=
  ⟨A, k, c, n, cs, d, rfl, KNat.new hn hN h.cw.ther, hl, h.kept hb, hP, Mv.of hb, Chg.of hb⟩
set_option maxHeartbeats 8000000 in
theorem valX_32 (h : SR G bw gf cs fr d (f :: r) x w) (hx : XB x) (hg : Good B d) (hf : AnyF f) (hml : f.ml ≤ 1000000) (hgas : f.gas < P256) (hwt : wt d + 40000 ≤ 2250000000) (ao : Option Addr) (l c : Nat) (xs : List Nat) (hA : SStk G w ao l c xs) (hl : l ≤ 100) (ha : ∀ i, xs.getD i 0 < P256) (hk : xs.getD 1 0 ≤ 1000000) :
    Calls Sakg.prog 217 #[.pointer (some ⟨bw, 0, none⟩), .pointer (some ⟨gf, 60 * r.length, none⟩), .int .u8 32, .slice ao l c] w (ValX G bw gf fr (f :: r) x (fun _ d2 => d2 = d) w) := by
  have hBB := big_ge
  have hP := p256_ge
  have hPB := p256_big2
  have hfx := h.fx
  obtain ⟨o, ho⟩ : ∃ o, o = 60 * r.length := ⟨_, rfl⟩
  rw [← ho] at hfx ⊢
  have HO := hide ho
  have HF := hide hfx
  have HSR := hide h
  have HX := hide hx
  have HFF := hide hf
  have H0 := hide (operandK G ao l c xs 0 w hA hl (by omega))
  have H1 := hide (operandK G ao l c xs 1 w hA hl (by omega))
  have H2 := hide (operandK G ao l c xs 2 w hA hl (by omega))
  have x0 := ha 0
  have x1 := ha 1
  have x2 := ha 2
  have hZ32 : (bv (zeros 32)).length = 32 := by rw [bv_len, zeros_len]
  generalize xs.getD 0 0 = m0 at H0 x0
  generalize xs.getD 1 0 = m1 at H1 x1 hk
  generalize xs.getD 2 0 = m2 at H2 x2
  clear h hfx hx hA ha ho hf
  go_enter Sakg.func217, Sakg.ntmps217
  go_wp2_with fail
  refine (unhide H0).mono ?_
  rintro e w1 ⟨⟨A0, k0, c0, rfl, n0⟩, rfl⟩
  have N0 := hide n0
  clear n0
  go_wp2_with fail
  refine (unhide H1).mono ?_
  rintro e w1 ⟨⟨A1, k1, c1, rfl, n1⟩, rfl⟩
  have N1 := hide n1
  clear n1
  have HR := hide ((unhide HF).read hml A0 A1 k0 c0 k1 c1 m0 m1 (unhide N0).now (unhide N1).now (by omega) (by omega))
  go_wp2_with fail
  refine (unhide HR).mono ?_
  rintro e w2 ⟨A2, c2, ys, rfl, s2, N2, b2⟩
  have HSM := hide (sum_any A2 m1 c2 ys w2 s2 hk)
  clear s2
  go_wp2_with fail
  refine (unhide HSM).mono ?_
  rintro e w3 ⟨⟨zs, rfl, hyl, hyb⟩, b3⟩
  have hy32 : (bv zs).length = 32 := by rw [bv_len, hyl]
  have hys : (Sakg.prog.info? 28).map (·.size) = some (bv zs).length := by rw [hy32]; exact size32
  go_upto_region 5 with (first
    | ((with_reducible refine at_alloc 28 ?_); refine wpList_alloc_g (by rfl) 28 rfl (bv (zeros 32)) 32 info32 hZ32 ?_)
    | ((with_reducible refine at_store 28 ?_); refine wpList_store_whole rfl 28 (.tmp 11) (.tmp 23) rfl _ _ _ (bv zs) rfl rfl (RowT.new _ _ _) (by rw [hZ32, hy32]) hys (bv_one _) ?_; intro w4 hr4 hon4; have hbb4 := box_below hon4; clear hon4))
  have d4 : Below w.heap.size w w4 := b2.thn (b3.thn hbb4.1)
  have hlv := beN_lt256 hyb (by omega)
  have HFB := hide (fromBE_any (some ⟨w3.heap.size, 0, none⟩) 32 32 zs w4 (src_of_range hr4.rangeAll hyb hyl max32) (by omega))
  generalize val zs.reverse = vv at HFB hlv
  clear hr4 hbb4
  go_wp2_with (go_at_call 17; refine (unhide HFB).mono ?_; rintro e w6 ⟨A6, k6, c6, rfl, n6, N6, b6⟩; have NN6 := hide n6; clear n6)
  go_ret
  exact ValX.new (unhide HSR) (unhide NN6) (N6.later d4.size) hlv (d4.thn b6) rfl
set_option maxHeartbeats 8000000 in
theorem valX_push (p : Nat) (h1 : 95 ≤ p) (h2 : p ≤ 127) (h : SR G bw gf cs fr d (f :: r) x w) (hx : XB x) (hg : Good B d) (hf : AnyF f) (hml : f.ml ≤ 1000000) (hgas : f.gas < P256) (hwt : wt d + 40000 ≤ 2250000000) (ao : Option Addr) (l c : Nat) (xs : List Nat) (hA : SStk G w ao l c xs) (hl : l ≤ 100) (ha : ∀ i, xs.getD i 0 < P256) :
    Calls Sakg.prog 217 #[.pointer (some ⟨bw, 0, none⟩), .pointer (some ⟨gf, 60 * r.length, none⟩), .int .u8 p, .slice ao l c] w (ValX G bw gf fr (f :: r) x (fun n d2 => n = pushX f p ∧ d2 = d) w) := by
  have hBB := big_ge
  have hP := p256_ge
  have hPB := p256_big2
  have hfx := h.fx
  obtain ⟨o, ho⟩ : ∃ o, o = 60 * r.length := ⟨_, rfl⟩
  rw [← ho] at hfx ⊢
  have HO := hide ho
  have HF := hide hfx
  have HSR := hide h
  have HX := hide hx
  have HFF := hide hf
  have H0 := hide (operandK G ao l c xs 0 w hA hl (by omega))
  have H1 := hide (operandK G ao l c xs 1 w hA hl (by omega))
  have H2 := hide (operandK G ao l c xs 2 w hA hl (by omega))
  have x0 := ha 0
  have x1 := ha 1
  have x2 := ha 2
  have t32 : ((p : Int) == 32) = false := by rw [beq_eq_false_iff_ne]; omega
  have HFm := hide (family_any p (by omega) w)
  rw [show famA p = 2 from by unfold famA; rw [if_neg (by omega), if_neg (by omega), if_pos (by omega)]] at HFm
  have u95 : decide ((95 : Int) ≤ (p : Int)) = true := decide_eq_true (by omega)
  have v127 : decide ((p : Int) ≤ 127) = true := decide_eq_true (by omega)
  obtain ⟨Ap, kp, cp, p1, p2⟩ := hfx.kf.pc
  obtain ⟨Ac, kc, cc, q1, q2⟩ := hfx.kf.code
  have hpc := hf.pc
  have hcl : kc ≤ 1000 := by have := q2.now.len_eq; have := hf.code; omega
  have x3 : ∀ wz, Below w.heap.size w wz → wz.cell? ⟨gf, o + 3, none⟩ = some (.slice Ap kp cp) ∧ IsNat wz Ap kp cp f.pc := fun wz hz => ⟨(hfx.kept hz).cell p1, (p2.kp (ChgS.of hz)).now⟩
  have x10 : ∀ wz, Below w.heap.size w wz → wz.cell? ⟨gf, o + 10, none⟩ = some (.slice Ac kc cc) ∧ Src wz Ac kc cc f.code := fun wz hz => ⟨(hfx.kept hz).cell q1, (q2.kp (ChgS.of hz)).now⟩
  have X3 := hide x3
  have X10 := hide x10
  have HIM : ∀ wz, Hid (Calls Sakg.prog 216 #[.int .u8 p] wz fun e w' => e = .returned (.int .u8 (immA p)) ∧ wz = w') := fun wz => hide (imm_any p (by omega) wz)
  have himm := immA_le p
  obtain ⟨pv, hpv⟩ : ∃ pv, pv = pushX f p := ⟨_, rfl⟩
  rw [← hpv]
  unfold pushX at hpv
  generalize immA p = ik at himm HIM hpv
  have HPV := hide hpv
  clear hpv
  have dW : Below w.heap.size w w.drew := Quiet.below ⟨1, rfl⟩ _
  clear p1 p2 q1 q2 x3 x10
  generalize xs.getD 0 0 = m0 at H0 x0
  generalize xs.getD 1 0 = m1 at H1 x1
  generalize xs.getD 2 0 = m2 at H2 x2
  clear h hfx hx hA ha ho hf
  go_enter Sakg.func217, Sakg.ntmps217
  go_wp2_with fail
  refine (unhide H0).mono ?_
  rintro e w1 ⟨⟨A0, k0, c0, rfl, n0⟩, rfl⟩
  have N0 := hide n0
  clear n0
  go_wp2_with fail
  refine (unhide H1).mono ?_
  rintro e w1 ⟨⟨A1, k1, c1, rfl, n1⟩, rfl⟩
  have N1 := hide n1
  clear n1
  go_upto_region 9 with (go_at_call 120; refine (unhide HFm).mono ?_; rintro e w1 ⟨rfl, rfl⟩)
  refine wp_region_noPanic ?_
  refine wp_region_held_drew (S := fun w' => Below w.heap.size w w') (by kernel_rfl) (dW) (fun hHeld => ?_)
  refine held_takeD 0 (.pointer (some ⟨gf, o, none⟩)) (some 43) (by rfl) (by rfl) (by kernel_rfl) (by kernel_rfl) (by kernel_rfl) (fun _ _ _ h => h) (.inl ⟨by rfl, fun _ _ => by rfl⟩) (hHeld) ?_
  simp only [Act.put, List.setIfInBounds_toArray, List.set_cons_zero, List.set_cons_succ]
  refine held_takeD 1 (.pointer (some ⟨gf, o, none⟩)) (some 44) (by rfl) (by rfl) (by kernel_rfl) (by kernel_rfl) (by kernel_rfl) (fun _ _ _ h => h) (.inl ⟨by rfl, fun _ _ => by go_simp⟩) (hHeld) ?_
  simp only [Act.put, List.setIfInBounds_toArray, List.set_cons_zero, List.set_cons_succ]
  refine held_takeD 2 (.pointer (some ⟨gf, o + 10, none⟩)) (some 45) (by rfl) (by rfl) (by kernel_rfl) (by kernel_rfl) (by kernel_rfl) (fun _ _ _ h => h) (.inl ⟨by rfl, fun _ _ => by go_simp⟩) (hHeld) ?_
  simp only [Act.put, List.setIfInBounds_toArray, List.set_cons_zero, List.set_cons_succ]
  refine held_takeD 3 (.slice Ac kc cc) (some 46) (by rfl) (by rfl) (by kernel_rfl) (by kernel_rfl) (by kernel_rfl) (fun _ _ _ h => h) (.inl ⟨by rfl, fun wS hS => by have hc := (unhide X10 wS hS).1; go_simp⟩) (hHeld) ?_
  simp only [Act.put, List.setIfInBounds_toArray, List.set_cons_zero, List.set_cons_succ]
  refine held_takeD 4 (.pointer (some ⟨gf, o, none⟩)) (some 47) (by rfl) (by rfl) (by kernel_rfl) (by kernel_rfl) (by kernel_rfl) (fun _ _ _ h => h) (.inl ⟨by rfl, fun _ _ => by rfl⟩) (hHeld) ?_
  simp only [Act.put, List.setIfInBounds_toArray, List.set_cons_zero, List.set_cons_succ]
  refine held_takeD 5 (.pointer (some ⟨gf, o, none⟩)) (some 48) (by rfl) (by rfl) (by kernel_rfl) (by kernel_rfl) (by kernel_rfl) (fun _ _ _ h => h) (.inl ⟨by rfl, fun _ _ => by go_simp⟩) (hHeld) ?_
  simp only [Act.put, List.setIfInBounds_toArray, List.set_cons_zero, List.set_cons_succ]
  refine held_takeD 6 (.pointer (some ⟨gf, o + 3, none⟩)) (some 49) (by rfl) (by rfl) (by kernel_rfl) (by kernel_rfl) (by kernel_rfl) (fun _ _ _ h => h) (.inl ⟨by rfl, fun _ _ => by go_simp⟩) (hHeld) ?_
  simp only [Act.put, List.setIfInBounds_toArray, List.set_cons_zero, List.set_cons_succ]
  refine held_takeD 7 (.slice Ap kp cp) (some 50) (by rfl) (by rfl) (by kernel_rfl) (by kernel_rfl) (by kernel_rfl) (fun _ _ _ h => h) (.inl ⟨by rfl, fun wS hS => by have hc := (unhide X3 wS hS).1; go_simp⟩) (hHeld) ?_
  simp only [Act.put, List.setIfInBounds_toArray, List.set_cons_zero, List.set_cons_succ]
  refine held_takeD 10 (.int .u8 p) (some 53) (by rfl) (by rfl) (by kernel_rfl) (by kernel_rfl) (by kernel_rfl) (fun _ _ _ h => h) (.inl ⟨by rfl, fun _ _ => by rfl⟩) (hHeld) ?_
  simp only [Act.put, List.setIfInBounds_toArray, List.set_cons_zero, List.set_cons_succ]
  refine held_one 8 (by kernel_rfl) (by rfl) (fun K' hK' => ?_)
  go_simp
  refine (num_any 1 w.drew (by omega)).mono ?_
  rintro e w2 ⟨A2, k2, c2, rfl, n2, N2, b2⟩
  refine hK'.out _ _ (dW.thn b2) ?_
  clear hK' K'
  have d2 : Below w.heap.size w w2 := dW.thn b2
  refine held_one 9 (by kernel_rfl) (by rfl) (fun K' hK' => ?_)
  go_simp
  refine ((unhide X3 w2 d2).2.add n2 (by omega) (by omega)).mono ?_
  rintro e w3 ⟨A3, k3, c3, rfl, n3, N3, b3⟩
  refine hK'.out _ _ (d2.thn b3) ?_
  clear hK' K'
  have d3 : Below w.heap.size w w3 := d2.thn b3
  refine held_one 11 (by kernel_rfl) (by rfl) (fun K' hK' => ?_)
  go_simp
  refine (unhide (HIM w3)).mono ?_
  rintro e w4 ⟨rfl, rfl⟩
  refine hK'.out _ _ (d3) ?_
  clear hK' K'
  have hwk : IntKind.u64.wrap (ik : Int) = (ik : Int) := by rw [IntKind.wrap_u64]; omega
  refine held_takeD 12 (.int .u64 ik) (some 55) (by rfl) (by rfl) (by kernel_rfl) (by kernel_rfl) (by kernel_rfl) (fun _ _ _ h => h) (.inl ⟨by rfl, fun _ _ => by go_simp⟩) (d3) ?_
  simp only [Act.put, List.setIfInBounds_toArray, List.set_cons_zero, List.set_cons_succ]
  clear hwk
  refine held_one 13 (by kernel_rfl) (by rfl) (fun K' hK' => ?_)
  go_simp
  refine (num_any ik w3 (by omega)).mono ?_
  rintro e w5 ⟨A5, k5, c5, rfl, n5, N5, b5⟩
  refine hK'.out _ _ (d3.thn b5) ?_
  clear hK' K'
  have d5 : Below w.heap.size w w5 := d3.thn b5
  refine held_one 14 (by kernel_rfl) (by rfl) (fun K' hK' => ?_)
  go_simp
  refine (cut_x Ac kc cc f.code A3 A5 k3 c3 k5 c5 (f.pc + 1) ik w5 (unhide X10 w5 d5).2 (n3.kept b5) n5 (by omega) (by omega) (by omega)).mono ?_
  rintro e w6 ⟨g6, rfl, o6, hyl, hyb, hg6, b6⟩
  refine hK'.out _ _ (d5.thn b6) ?_
  clear hK' K'
  have d6 : Below w.heap.size w w6 := d5.thn b6
  refine held_one 15 (by kernel_rfl) (by rfl) (fun K' hK' => ?_)
  go_simp
  refine (fromBE_any _ ik ik _ w6 (o6.src_all hyb ik hyl.symm (by unfold maxLen; omega)) (by omega)).mono ?_
  rintro e w7 ⟨A7, k7, c7, rfl, n7, N7, b7⟩
  refine hK'.out _ _ (d6.thn b7) ?_
  clear hK' K'
  refine held_takeD 16 (.slice A7 k7 c7) (some 8) (by rfl) (by rfl) (by kernel_rfl) (by kernel_rfl) (by kernel_rfl) (fun _ _ _ h => h) (.inl ⟨by rfl, fun _ _ => by rfl⟩) (d6.thn b7) ?_
  simp only [Act.put, List.setIfInBounds_toArray, List.set_cons_zero, List.set_cons_succ]
  refine wpAnyH_done (by kernel_rfl) ?_ _
  refine NoPanic.normal ?_
  have hlv := beN_lt256 hyb (by omega)
  have NN7 := hide n7
  clear n7 n5 n3 n2 o6
  go_wp2
  go_ret
  exact ValX.new (unhide HSR) (unhide NN7) (N7.later d6.size) hlv (d6.thn b7) ⟨(unhide HPV).symm, rfl⟩
set_option maxHeartbeats 8000000 in
theorem valX_49 (h : SR G bw gf cs fr d (f :: r) x w) (hx : XB x) (hg : Good B d) (hf : AnyF f) (hml : f.ml ≤ 1000000) (hgas : f.gas < P256) (hwt : wt d + 40000 ≤ 2250000000) (ao : Option Addr) (l c : Nat) (xs : List Nat) (hA : SStk G w ao l c xs) (hl : l ≤ 100) (ha : ∀ i, xs.getD i 0 < P256) (hlow : xs.getD 0 0 < 256) :
    Calls Sakg.prog 217 #[.pointer (some ⟨bw, 0, none⟩), .pointer (some ⟨gf, 60 * r.length, none⟩), .int .u8 49, .slice ao l c] w (ValX G bw gf fr (f :: r) x (fun _ d2 => ∃ als, als.length ≤ d.warmA.length + 1 ∧ (∀ y, y ∈ als ↔ y = lowAddr (xs.getD 0 0) ∨ y ∈ d.warmA) ∧ d2 = { d with warmA := als }) w) := by
  have hBB := big_ge
  have hP := p256_ge
  have hPB := p256_big2
  have hfx := h.fx
  obtain ⟨o, ho⟩ : ∃ o, o = 60 * r.length := ⟨_, rfl⟩
  rw [← ho] at hfx ⊢
  have HO := hide ho
  have HF := hide hfx
  have HSR := hide h
  have HX := hide hx
  have HFF := hide hf
  have H0 := hide (operandK G ao l c xs 0 w hA hl (by omega))
  have H1 := hide (operandK G ao l c xs 1 w hA hl (by omega))
  have H2 := hide (operandK G ao l c xs 2 w hA hl (by omega))
  have x0 := ha 0
  have x1 := ha 1
  have x2 := ha 2
  have HFm := hide (family_any 49 (by omega) w)
  rw [show famA 49 = 2 from rfl] at HFm
  obtain ⟨m0, hm0⟩ : ∃ m0, m0 = xs.getD 0 0 := ⟨_, rfl⟩
  rw [← hm0] at H0 x0 hlow ⊢
  clear hm0
  obtain ⟨ta0, hta0⟩ : ∃ ta0, ta0 = lowAddr (m0 : Int) := ⟨_, rfl⟩
  rw [← hta0]
  have HT0 := hide hta0
  have HLOW := hide hlow
  clear hta0 hlow
  generalize xs.getD 1 0 = m1 at H1 x1
  generalize xs.getD 2 0 = m2 at H2 x2
  clear h hfx hx hA ha ho hf
  go_enter Sakg.func217, Sakg.ntmps217
  go_wp2_with fail
  refine (unhide H0).mono ?_
  rintro e w1 ⟨⟨A0, k0, c0, rfl, n0⟩, rfl⟩
  have N0 := hide n0
  clear n0
  go_wp2_with fail
  refine (unhide H1).mono ?_
  rintro e w1 ⟨⟨A1, k1, c1, rfl, n1⟩, rfl⟩
  have N1 := hide n1
  clear n1
  have dW : Below w.heap.size w w.drew := Quiet.below ⟨1, rfl⟩ _
  go_upto_region 16 with (go_at_call 120; refine (unhide HFm).mono ?_; rintro e w1 ⟨rfl, rfl⟩)
  refine wp_region_noPanic ?_
  refine wp_region_held_drew (S := fun _ => True) (by kernel_rfl) (trivial) (fun hHeld => ?_)
  refine held_takeD 0 (.pointer (some ⟨bw, 0, none⟩)) (some 79) (by rfl) (by rfl) (by kernel_rfl) (by kernel_rfl) (by kernel_rfl) (fun _ _ _ h => h) (.inl ⟨by rfl, fun _ _ => by rfl⟩) (hHeld) ?_
  simp only [Act.put, List.setIfInBounds_toArray, List.set_cons_zero, List.set_cons_succ]
  refine held_takeD 1 (.pointer (some ⟨bw, 0, none⟩)) (some 80) (by rfl) (by rfl) (by kernel_rfl) (by kernel_rfl) (by kernel_rfl) (fun _ _ _ h => h) (.inl ⟨by rfl, fun _ _ => by go_simp⟩) (hHeld) ?_
  simp only [Act.put, List.setIfInBounds_toArray, List.set_cons_zero, List.set_cons_succ]
  refine held_takeD 2 (.pointer (some ⟨bw, 0, none⟩)) (some 81) (by rfl) (by rfl) (by kernel_rfl) (by kernel_rfl) (by kernel_rfl) (fun _ _ _ h => h) (.inl ⟨by rfl, fun _ _ => by go_simp⟩) (hHeld) ?_
  simp only [Act.put, List.setIfInBounds_toArray, List.set_cons_zero, List.set_cons_succ]
  refine held_takeD 3 (.slice A0 k0 c0) (some 82) (by rfl) (by rfl) (by kernel_rfl) (by kernel_rfl) (by kernel_rfl) (fun _ _ _ h => h) (.inl ⟨by rfl, fun _ _ => by rfl⟩) (hHeld) ?_
  simp only [Act.put, List.setIfInBounds_toArray, List.set_cons_zero, List.set_cons_succ]
  refine held_one 4 (by kernel_rfl) (by rfl) (fun K' hK' => ?_)
  go_simp
  refine (addrOf_x A0 k0 c0 m0 w.drew ((unhide N0).kp (ChgS.of dW)).now (by omega)).mono ?_
  rintro e w2 ⟨⟨ta, rfl, hta, htl⟩, b2⟩
  refine hK'.out _ _ (trivial) ?_
  clear hK' K'
  have d2 : Below w.heap.size w w2 := dW.thn b2
  obtain rfl : ta = ta0 := (htl (unhide HLOW)).trans (unhide HT0).symm
  clear htl
  refine held_one 5 (by kernel_rfl) (by rfl) (fun K' hK' => ?_)
  go_simp
  refine (((unhide HSR).kept d2).cw.warmX hg ta hta).mono ?_
  rintro e w3 ⟨rfl, als, hals, hmem, hwp⟩
  refine hK'.out _ _ (trivial) ?_
  clear hK' K'
  refine wpAnyH_done (by kernel_rfl) ?_ _
  refine NoPanic.normal ?_
  obtain ⟨cs3, hsr3, hmv3, hs83, hch3⟩ := ((unhide HSR).kept d2).world hwp
  have hgr3 : Gr B d { d with warmA := als } 2500 := Gr.warm hg.snd hals
  have hmv : Mv G w w3 := (Mv.of d2).trans hmv3
  have hch : Chg bw w w3 := (Chg.of d2).trans hch3
  have HSR3 := hide hsr3
  have HGR3 := hide hgr3
  have HMV := hide hmv
  have HCH := hide hch
  have HMEMB := hide hmem
  clear hmem
  have hgood3 := hgr3.good (K := 2250000000) (by omega) (Nat.le_refl _)
  clear hwp hsr3 hgr3 hmv hmv3 hch hs83 hch3
  go_upto_region 17 with fail
  have dV : Below w3.heap.size w3 w3.drew := Quiet.below ⟨1, rfl⟩ _
  have hN3 : ∀ wz, Below w3.heap.size w3 wz → IsNat wz A0 k0 c0 m0 := fun wz hz => ((unhide N0).kp ((unhide HMV).chg.trans (ChgS.of hz))).now
  have hacc : ∀ a, IsAddr a → ∀ wz, Below w3.heap.size w3 wz → Calls Sakg.prog 99 #[.pointer (some ⟨bw, 0, none⟩), .agg (bv a).toArray] wz fun e w' => ∃ r, e = .returned (.agg r.toArray) ∧ KAcct G w3 r (lookY d.accts a) ∧ Below wz.heap.size wz w' := fun a ha wz hz => (unhide HSR3).cw.accountAt hgood3 hz a ha
  have HACC := hide hacc
  clear hacc
  refine wp_region_noPanic ?_
  refine wp_region_held_drew (S := fun w' => Below w3.heap.size w3 w') (by kernel_rfl) (dV) (fun hHeld => ?_)
  refine held_takeD 0 (.pointer (some ⟨bw, 0, none⟩)) (some 85) (by rfl) (by rfl) (by kernel_rfl) (by kernel_rfl) (by kernel_rfl) (fun _ _ _ h => h) (.inl ⟨by rfl, fun _ _ => by rfl⟩) (hHeld) ?_
  simp only [Act.put, List.setIfInBounds_toArray, List.set_cons_zero, List.set_cons_succ]
  refine held_takeD 1 (.pointer (some ⟨bw, 0, none⟩)) (some 86) (by rfl) (by rfl) (by kernel_rfl) (by kernel_rfl) (by kernel_rfl) (fun _ _ _ h => h) (.inl ⟨by rfl, fun _ _ => by go_simp⟩) (hHeld) ?_
  simp only [Act.put, List.setIfInBounds_toArray, List.set_cons_zero, List.set_cons_succ]
  refine held_takeD 2 (.pointer (some ⟨bw, 0, none⟩)) (some 87) (by rfl) (by rfl) (by kernel_rfl) (by kernel_rfl) (by kernel_rfl) (fun _ _ _ h => h) (.inl ⟨by rfl, fun _ _ => by go_simp⟩) (hHeld) ?_
  simp only [Act.put, List.setIfInBounds_toArray, List.set_cons_zero, List.set_cons_succ]
  refine held_takeD 3 (.slice A0 k0 c0) (some 88) (by rfl) (by rfl) (by kernel_rfl) (by kernel_rfl) (by kernel_rfl) (fun _ _ _ h => h) (.inl ⟨by rfl, fun _ _ => by rfl⟩) (hHeld) ?_
  simp only [Act.put, List.setIfInBounds_toArray, List.set_cons_zero, List.set_cons_succ]
  refine held_takeD 6 (.int .u8 49) (some 91) (by rfl) (by rfl) (by kernel_rfl) (by kernel_rfl) (by kernel_rfl) (fun _ _ _ h => h) (.inl ⟨by rfl, fun _ _ => by rfl⟩) (hHeld) ?_
  simp only [Act.put, List.setIfInBounds_toArray, List.set_cons_zero, List.set_cons_succ]
  refine held_one 4 (by kernel_rfl) (by rfl) (fun K' hK' => ?_)
  go_simp
  refine (addrOf_any A0 k0 c0 m0 w3.drew (hN3 _ dV) (by omega)).mono ?_
  rintro e w4 ⟨⟨tb, rfl, htb⟩, b4⟩
  refine hK'.out _ _ (dV.thn b4) ?_
  clear hK' K'
  have d4 : Below w3.heap.size w3 w4 := dV.thn b4
  refine held_one 5 (by kernel_rfl) (by rfl) (fun K' hK' => ?_)
  go_simp
  refine (unhide HACC tb htb _ d4).mono ?_
  rintro e w5 ⟨rr, rfl, hrr, b5⟩
  refine hK'.out _ _ (d4.thn b5) ?_
  clear hK' K'
  have d5 : Below w3.heap.size w3 w5 := d4.thn b5
  refine held_one 7 (by kernel_rfl) (by rfl) (fun K' hK' => ?_)
  go_simp
  refine (acctV_49 rr (lookY d.accts tb) w5 (hrr.go (ChgS.of d5)).now (hg.acc.look tb) (hg.bal tb)).mono ?_
  rintro e w6 ⟨A6, k6, c6, n6, rfl, m6, N6, hlv, b6⟩
  refine hK'.out _ _ (d5.thn b6) ?_
  clear hK' K'
  have d6 : Below w3.heap.size w3 w6 := d5.thn b6
  refine held_takeD 8 (.slice A6 k6 c6) (some 8) (by rfl) (by rfl) (by kernel_rfl) (by kernel_rfl) (by kernel_rfl) (fun _ _ _ h => h) (.inl ⟨by rfl, fun _ _ => by rfl⟩) (d6) ?_
  simp only [Act.put, List.setIfInBounds_toArray, List.set_cons_zero, List.set_cons_succ]
  refine wpAnyH_done (by kernel_rfl) ?_ _
  refine NoPanic.normal ?_
  have NN6 := hide m6
  clear m6 hrr hN3
  go_wp2
  go_ret
  exact ⟨A6, k6, c6, n6, cs3, _, rfl, KNat.new (unhide NN6) (N6.later d5.size) (unhide HSR3).cw.ther, hlv, (unhide HSR3).kept d6, ⟨als, hals, unhide HMEMB, rfl⟩, (unhide HMV).trans (Mv.of d6), (unhide HCH).trans (Chg.of d6)⟩
end

end Go.Proofs.YgcsakGreat
