/-
  yp: value at any instruction that gives one word.
-/
import Derived.Test.YgcsakGreatKhA
import Derived.Test.YgcsakGreatKgD
import Derived.Test.YgcsakGreatKgA
import Derived.Test.YgcsakGreatAluN
namespace Go.Proofs.YgcsakGreat
set_option linter.unusedVariables false
set_option linter.unusedSimpArgs false
set_option maxRecDepth 100000
open Go.RowKit

set_option maxHeartbeats 2000000 in
theorem operandK (G : Nat → Prop) (ao : Option Addr) (l c : Nat) (xs : List Nat) (i : Nat) (w : World) (h : SStk G w ao l c xs) (hl : l ≤ 100) (hi : i ≤ 100) :
    Calls Sakg.prog 305 #[.slice ao l c, .int .i64 i] w fun e w' => (∃ A k c, e = .returned (.slice A k c) ∧ KNat G w A k c (xs.getD i 0)) ∧ w = w' := by
  have hlen := h.len
  obtain ⟨rows, g1, g2⟩ := h
  by_cases hil : i < l
  · have t0 : decide ((i : Int) < (l : Int)) = true := decide_eq_true (by omega)
    obtain ⟨b, off, rfl, hlt, hat⟩ := rows_at' 0 g1.now g2 (by omega)
    obtain ⟨r, hrg, A1, k1, c1, rfl, hn⟩ := hat i hil
    have hcell : w.cell? ⟨b, off + i, none⟩ = some (.slice A1 k1 c1) := by
      have := hrg 0 _ rfl
      rwa [Nat.mul_one, Nat.add_zero] at this
    have HN := hide hn
    clear hn hrg hat g1 g2
    go_enter Sakg.func305, Sakg.ntmps305
    go_wp2
    go_ret
    exact ⟨⟨A1, k1, c1, rfl, unhide HN⟩, rfl⟩
  · have t0 : decide ((i : Int) < (l : Int)) = false := decide_eq_false (by omega)
    have hz : xs.getD i 0 = 0 := by rw [List.getD_eq_getElem?_getD, List.getElem?_eq_none (by omega)]; rfl
    rw [hz]
    clear g1 g2 hz
    go_enter Sakg.func305, Sakg.ntmps305
    go_wp2
    go_ret
    exact ⟨⟨none, 0, 0, rfl, KNat.nil G w⟩, rfl⟩

/-- a word, and a world that may have grown -/
def ValR (G : Nat → Prop) (bw gf : Nat) (fr : List Value) (B : Nat) (d : WD) (fs : List FD) (x : XD) (y : Nat) (w : World) (e : Ending) (w' : World) : Prop :=
  ∃ A k c n cs' d', e = .returned (.slice A k c) ∧ KNat G w' A k c n ∧ n < P256 ∧ SR G bw gf cs' fr d' fs x w' ∧ Gr B d d' y ∧ Mv G w w' ∧ Chg bw w w'
section
variable {G : Nat → Prop} {bw gf : Nat} {cs fr : List Value} {d : WD} {f : FD} {r : List FD} {x : XD} {w : World} {B : Nat}
/-- the world stays -/
theorem ValR.pure (h : SR G bw gf cs fr d (f :: r) x w) (hg : Good B d) {y : Nat} {w' : World} {A : Option Addr} {k c n : Nat} (hn : KNat G w' A k c n) (hl : n < P256) (hb : Below w.heap.size w w') : ValR G bw gf fr B d (f :: r) x y w (.returned (.slice A k c)) w' :=
  ⟨A, k, c, n, cs, d, rfl, hn, hl, h.kept hb, Gr.refl hg.snd _, Mv.of hb, Chg.of hb⟩
theorem ValR.new (h : SR G bw gf cs fr d (f :: r) x w) (hg : Good B d) {y : Nat} {w' : World} {A : Option Addr} {k c n : Nat} (hn : IsNat w' A k c n) (hN : New w A) (hl : n < P256) (hb : Below w.heap.size w w') : ValR G bw gf fr B d (f :: r) x y w (.returned (.slice A k c)) w' :=
  ValR.pure h hg (KNat.new hn hN h.cw.ther) hl hb
set_option maxHeartbeats 8000000 in
theorem valueK_32 (h : SR G bw gf cs fr d (f :: r) x w) (hx : XB x) (hg : Good B d) (hf : AnyF f) (hml : f.ml ≤ 1000000) (hgas : f.gas < P256) (hwt : wt d + 40000 ≤ 2250000000) (ao : Option Addr) (l c : Nat) (xs : List Nat) (hA : SStk G w ao l c xs) (hl : l ≤ 100) (ha : ∀ i, xs.getD i 0 < P256) (hk : xs.getD 1 0 ≤ 1000000) :
    Calls Sakg.prog 217 #[.pointer (some ⟨bw, 0, none⟩), .pointer (some ⟨gf, 60 * r.length, none⟩), .int .u8 32, .slice ao l c] w (ValR G bw gf fr B d (f :: r) x 0 w) := by
  have hBB := big_ge
  have hP := p256_ge
  have hPB := p256_big2
  have hfx := h.fx
  obtain ⟨o, ho⟩ : ∃ o, o = 60 * r.length := ⟨_, rfl⟩
  rw [← ho] at hfx ⊢
  have HO := hide ho
  have HF := hide hfx
  have HSR := hide h
  have HX := hide hx
  have HFF := hide hf
  have H0 := hide (operandK G ao l c xs 0 w hA hl (by omega))
  have H1 := hide (operandK G ao l c xs 1 w hA hl (by omega))
  have H2 := hide (operandK G ao l c xs 2 w hA hl (by omega))
  have x0 := ha 0
  have x1 := ha 1
  have x2 := ha 2
  have hZ32 : (bv (zeros 32)).length = 32 := by rw [bv_len, zeros_len]
  generalize xs.getD 0 0 = m0 at H0 x0
  generalize xs.getD 1 0 = m1 at H1 x1 hk
  generalize xs.getD 2 0 = m2 at H2 x2
  clear h hfx hx hA ha ho hf
  go_enter Sakg.func217, Sakg.ntmps217
  go_wp2_with fail
  refine (unhide H0).mono ?_
  rintro e w1 ⟨⟨A0, k0, c0, rfl, n0⟩, rfl⟩
  have N0 := hide n0
  clear n0
  go_wp2_with fail
  refine (unhide H1).mono ?_
  rintro e w1 ⟨⟨A1, k1, c1, rfl, n1⟩, rfl⟩
  have N1 := hide n1
  clear n1
  have HR := hide ((unhide HF).read hml A0 A1 k0 c0 k1 c1 m0 m1 (unhide N0).now (unhide N1).now (by omega) (by omega))
  go_wp2_with fail
  refine (unhide HR).mono ?_
  rintro e w2 ⟨A2, c2, ys, rfl, s2, N2, b2⟩
  have HSM := hide (sum_any A2 m1 c2 ys w2 s2 hk)
  clear s2
  go_wp2_with fail
  refine (unhide HSM).mono ?_
  rintro e w3 ⟨⟨zs, rfl, hyl, hyb⟩, b3⟩
  have hy32 : (bv zs).length = 32 := by rw [bv_len, hyl]
  have hys : (Sakg.prog.info? 28).map (·.size) = some (bv zs).length := by rw [hy32]; exact size32
  go_upto_region 5 with (first
    | ((with_reducible refine at_alloc 28 ?_); refine wpList_alloc_g (by rfl) 28 rfl (bv (zeros 32)) 32 info32 hZ32 ?_)
    | ((with_reducible refine at_store 28 ?_); refine wpList_store_whole rfl 28 (.tmp 11) (.tmp 23) rfl _ _ _ (bv zs) rfl rfl (RowT.new _ _ _) (by rw [hZ32, hy32]) hys (bv_one _) ?_; intro w4 hr4 hon4; have hbb4 := box_below hon4; clear hon4))
  have d4 : Below w.heap.size w w4 := b2.thn (b3.thn hbb4.1)
  have hlv := beN_lt256 hyb (by omega)
  have HFB := hide (fromBE_any (some ⟨w3.heap.size, 0, none⟩) 32 32 zs w4 (src_of_range hr4.rangeAll hyb hyl max32) (by omega))
  generalize val zs.reverse = vv at HFB hlv
  clear hr4 hbb4
  go_wp2_with (go_at_call 17; refine (unhide HFB).mono ?_; rintro e w6 ⟨A6, k6, c6, rfl, n6, N6, b6⟩; have NN6 := hide n6; clear n6)
  go_ret
  exact ValR.new (unhide HSR) hg (unhide NN6) (N6.later d4.size) hlv (d4.thn b6)
set_option maxHeartbeats 8000000 in
theorem valueK_alu1 (p : Nat) (h1 : 1 ≤ p) (h2 : p ≤ 11) (h : SR G bw gf cs fr d (f :: r) x w) (hx : XB x) (hg : Good B d) (hf : AnyF f) (hml : f.ml ≤ 1000000) (hgas : f.gas < P256) (hwt : wt d + 40000 ≤ 2250000000) (ao : Option Addr) (l c : Nat) (xs : List Nat) (hA : SStk G w ao l c xs) (hl : l ≤ 100) (ha : ∀ i, xs.getD i 0 < P256) :
    Calls Sakg.prog 217 #[.pointer (some ⟨bw, 0, none⟩), .pointer (some ⟨gf, 60 * r.length, none⟩), .int .u8 p, .slice ao l c] w (ValR G bw gf fr B d (f :: r) x 0 w) := by
  have hBB := big_ge
  have hP := p256_ge
  have hPB := p256_big2
  have hfx := h.fx
  obtain ⟨o, ho⟩ : ∃ o, o = 60 * r.length := ⟨_, rfl⟩
  rw [← ho] at hfx ⊢
  have HO := hide ho
  have HF := hide hfx
  have HSR := hide h
  have HX := hide hx
  have HFF := hide hf
  have H0 := hide (operandK G ao l c xs 0 w hA hl (by omega))
  have H1 := hide (operandK G ao l c xs 1 w hA hl (by omega))
  have H2 := hide (operandK G ao l c xs 2 w hA hl (by omega))
  have x0 := ha 0
  have x1 := ha 1
  have x2 := ha 2
  have t32 : ((p : Int) == 32) = false := by rw [beq_eq_false_iff_ne]; omega
  have HFm := hide (family_any p (by omega) w)
  rw [show famA p = 1 from by unfold famA; rw [if_neg (by omega), if_pos (by omega)]] at HFm
  generalize xs.getD 0 0 = m0 at H0 x0
  generalize xs.getD 1 0 = m1 at H1 x1
  generalize xs.getD 2 0 = m2 at H2 x2
  clear h hfx hx hA ha ho hf
  go_enter Sakg.func217, Sakg.ntmps217
  go_wp2_with fail
  refine (unhide H0).mono ?_
  rintro e w1 ⟨⟨A0, k0, c0, rfl, n0⟩, rfl⟩
  have N0 := hide n0
  clear n0
  go_wp2_with fail
  refine (unhide H1).mono ?_
  rintro e w1 ⟨⟨A1, k1, c1, rfl, n1⟩, rfl⟩
  have N1 := hide n1
  clear n1
  go_wp2_with fail
  refine (unhide HFm).mono ?_
  rintro e w1 ⟨rfl, rfl⟩
  go_wp2_with fail
  refine (unhide H2).mono ?_
  rintro e w1 ⟨⟨A2, k2, c2, rfl, n2⟩, rfl⟩
  have HC := hide (alu_any p (by omega) A0 A1 A2 k0 c0 k1 c1 k2 c2 m0 m1 m2 w (unhide N0).now (unhide N1).now n2.now x0 x1 x2)
  have hlv := aluN_lt p m0 m1 m2 x0 x1 x2
  generalize aluN p m0 m1 m2 = vv at HC hlv
  clear n2
  go_wp2_with (go_at_call 18; refine (unhide HC).mono ?_; rintro e w6 ⟨A6, k6, c6, rfl, n6, N6, b6⟩; have NN6 := hide n6; clear n6)
  go_ret
  exact ValR.new (unhide HSR) hg (unhide NN6) N6 hlv b6
set_option maxHeartbeats 8000000 in
theorem valueK_alu16 (p : Nat) (h1 : 16 ≤ p) (h2 : p ≤ 29) (h : SR G bw gf cs fr d (f :: r) x w) (hx : XB x) (hg : Good B d) (hf : AnyF f) (hml : f.ml ≤ 1000000) (hgas : f.gas < P256) (hwt : wt d + 40000 ≤ 2250000000) (ao : Option Addr) (l c : Nat) (xs : List Nat) (hA : SStk G w ao l c xs) (hl : l ≤ 100) (ha : ∀ i, xs.getD i 0 < P256) :
    Calls Sakg.prog 217 #[.pointer (some ⟨bw, 0, none⟩), .pointer (some ⟨gf, 60 * r.length, none⟩), .int .u8 p, .slice ao l c] w (ValR G bw gf fr B d (f :: r) x 0 w) := by
  have hBB := big_ge
  have hP := p256_ge
  have hPB := p256_big2
  have hfx := h.fx
  obtain ⟨o, ho⟩ : ∃ o, o = 60 * r.length := ⟨_, rfl⟩
  rw [← ho] at hfx ⊢
  have HO := hide ho
  have HF := hide hfx
  have HSR := hide h
  have HX := hide hx
  have HFF := hide hf
  have H0 := hide (operandK G ao l c xs 0 w hA hl (by omega))
  have H1 := hide (operandK G ao l c xs 1 w hA hl (by omega))
  have H2 := hide (operandK G ao l c xs 2 w hA hl (by omega))
  have x0 := ha 0
  have x1 := ha 1
  have x2 := ha 2
  have t32 : ((p : Int) == 32) = false := by rw [beq_eq_false_iff_ne]; omega
  have HFm := hide (family_any p (by omega) w)
  rw [show famA p = 1 from by unfold famA; rw [if_neg (by omega), if_pos (by omega)]] at HFm
  generalize xs.getD 0 0 = m0 at H0 x0
  generalize xs.getD 1 0 = m1 at H1 x1
  generalize xs.getD 2 0 = m2 at H2 x2
  clear h hfx hx hA ha ho hf
  go_enter Sakg.func217, Sakg.ntmps217
  go_wp2_with fail
  refine (unhide H0).mono ?_
  rintro e w1 ⟨⟨A0, k0, c0, rfl, n0⟩, rfl⟩
  have N0 := hide n0
  clear n0
  go_wp2_with fail
  refine (unhide H1).mono ?_
  rintro e w1 ⟨⟨A1, k1, c1, rfl, n1⟩, rfl⟩
  have N1 := hide n1
  clear n1
  go_wp2_with fail
  refine (unhide HFm).mono ?_
  rintro e w1 ⟨rfl, rfl⟩
  go_wp2_with fail
  refine (unhide H2).mono ?_
  rintro e w1 ⟨⟨A2, k2, c2, rfl, n2⟩, rfl⟩
  have HC := hide (alu_any p (by omega) A0 A1 A2 k0 c0 k1 c1 k2 c2 m0 m1 m2 w (unhide N0).now (unhide N1).now n2.now x0 x1 x2)
  have hlv := aluN_lt p m0 m1 m2 x0 x1 x2
  generalize aluN p m0 m1 m2 = vv at HC hlv
  clear n2
  go_wp2_with (go_at_call 18; refine (unhide HC).mono ?_; rintro e w6 ⟨A6, k6, c6, rfl, n6, N6, b6⟩; have NN6 := hide n6; clear n6)
  go_ret
  exact ValR.new (unhide HSR) hg (unhide NN6) N6 hlv b6
set_option maxHeartbeats 8000000 in
theorem valueK_push (p : Nat) (h1 : 95 ≤ p) (h2 : p ≤ 127) (h : SR G bw gf cs fr d (f :: r) x w) (hx : XB x) (hg : Good B d) (hf : AnyF f) (hml : f.ml ≤ 1000000) (hgas : f.gas < P256) (hwt : wt d + 40000 ≤ 2250000000) (ao : Option Addr) (l c : Nat) (xs : List Nat) (hA : SStk G w ao l c xs) (hl : l ≤ 100) (ha : ∀ i, xs.getD i 0 < P256) :
    Calls Sakg.prog 217 #[.pointer (some ⟨bw, 0, none⟩), .pointer (some ⟨gf, 60 * r.length, none⟩), .int .u8 p, .slice ao l c] w (ValR G bw gf fr B d (f :: r) x 0 w) := by
  have hBB := big_ge
  have hP := p256_ge
  have hPB := p256_big2
  have hfx := h.fx
  obtain ⟨o, ho⟩ : ∃ o, o = 60 * r.length := ⟨_, rfl⟩
  rw [← ho] at hfx ⊢
  have HO := hide ho
  have HF := hide hfx
  have HSR := hide h
  have HX := hide hx
  have HFF := hide hf
  have H0 := hide (operandK G ao l c xs 0 w hA hl (by omega))
  have H1 := hide (operandK G ao l c xs 1 w hA hl (by omega))
  have H2 := hide (operandK G ao l c xs 2 w hA hl (by omega))
  have x0 := ha 0
  have x1 := ha 1
  have x2 := ha 2
  have t32 : ((p : Int) == 32) = false := by rw [beq_eq_false_iff_ne]; omega
  have HFm := hide (family_any p (by omega) w)
  rw [show famA p = 2 from by unfold famA; rw [if_neg (by omega), if_neg (by omega), if_pos (by omega)]] at HFm
  have u95 : decide ((95 : Int) ≤ (p : Int)) = true := decide_eq_true (by omega)
  have v127 : decide ((p : Int) ≤ 127) = true := decide_eq_true (by omega)
  obtain ⟨Ap, kp, cp, p1, p2⟩ := hfx.kf.pc
  obtain ⟨Ac, kc, cc, q1, q2⟩ := hfx.kf.code
  have hpc := hf.pc
  have hcl : kc ≤ 1000 := by have := q2.now.len_eq; have := hf.code; omega
  have x3 : ∀ wz, Below w.heap.size w wz → wz.cell? ⟨gf, o + 3, none⟩ = some (.slice Ap kp cp) ∧ IsNat wz Ap kp cp f.pc := fun wz hz => ⟨(hfx.kept hz).cell p1, (p2.kp (ChgS.of hz)).now⟩
  have x10 : ∀ wz, Below w.heap.size w wz → wz.cell? ⟨gf, o + 10, none⟩ = some (.slice Ac kc cc) ∧ Src wz Ac kc cc f.code := fun wz hz => ⟨(hfx.kept hz).cell q1, (q2.kp (ChgS.of hz)).now⟩
  have X3 := hide x3
  have X10 := hide x10
  have HIM : ∀ wz, Hid (Calls Sakg.prog 216 #[.int .u8 p] wz fun e w' => e = .returned (.int .u8 (immA p)) ∧ wz = w') := fun wz => hide (imm_any p (by omega) wz)
  have himm := immA_le p
  generalize immA p = ik at himm HIM
  have dW : Below w.heap.size w w.drew := Quiet.below ⟨1, rfl⟩ _
  clear p1 p2 q1 q2 x3 x10
  generalize xs.getD 0 0 = m0 at H0 x0
  generalize xs.getD 1 0 = m1 at H1 x1
  generalize xs.getD 2 0 = m2 at H2 x2
  clear h hfx hx hA ha ho hf
  go_enter Sakg.func217, Sakg.ntmps217
  go_wp2_with fail
  refine (unhide H0).mono ?_
  rintro e w1 ⟨⟨A0, k0, c0, rfl, n0⟩, rfl⟩
  have N0 := hide n0
  clear n0
  go_wp2_with fail
  refine (unhide H1).mono ?_
  rintro e w1 ⟨⟨A1, k1, c1, rfl, n1⟩, rfl⟩
  have N1 := hide n1
  clear n1
  go_upto_region 9 with (go_at_call 120; refine (unhide HFm).mono ?_; rintro e w1 ⟨rfl, rfl⟩)
  refine wp_region_noPanic ?_
  refine wp_region_held_drew (S := fun w' => Below w.heap.size w w') (by kernel_rfl) (dW) (fun hHeld => ?_)
  refine held_takeD 0 (.pointer (some ⟨gf, o, none⟩)) (some 43) (by rfl) (by rfl) (by kernel_rfl) (by kernel_rfl) (by kernel_rfl) (fun _ _ _ h => h) (.inl ⟨by rfl, fun _ _ => by rfl⟩) (hHeld) ?_
  simp only [Act.put, List.setIfInBounds_toArray, List.set_cons_zero, List.set_cons_succ]
  refine held_takeD 1 (.pointer (some ⟨gf, o, none⟩)) (some 44) (by rfl) (by rfl) (by kernel_rfl) (by kernel_rfl) (by kernel_rfl) (fun _ _ _ h => h) (.inl ⟨by rfl, fun _ _ => by go_simp⟩) (hHeld) ?_
  simp only [Act.put, List.setIfInBounds_toArray, List.set_cons_zero, List.set_cons_succ]
  refine held_takeD 2 (.pointer (some ⟨gf, o + 10, none⟩)) (some 45) (by rfl) (by rfl) (by kernel_rfl) (by kernel_rfl) (by kernel_rfl) (fun _ _ _ h => h) (.inl ⟨by rfl, fun _ _ => by go_simp⟩) (hHeld) ?_
  simp only [Act.put, List.setIfInBounds_toArray, List.set_cons_zero, List.set_cons_succ]
  refine held_takeD 3 (.slice Ac kc cc) (some 46) (by rfl) (by rfl) (by kernel_rfl) (by kernel_rfl) (by kernel_rfl) (fun _ _ _ h => h) (.inl ⟨by rfl, fun wS hS => by have hc := (unhide X10 wS hS).1; go_simp⟩) (hHeld) ?_
  simp only [Act.put, List.setIfInBounds_toArray, List.set_cons_zero, List.set_cons_succ]
  refine held_takeD 4 (.pointer (some ⟨gf, o, none⟩)) (some 47) (by rfl) (by rfl) (by kernel_rfl) (by kernel_rfl) (by kernel_rfl) (fun _ _ _ h => h) (.inl ⟨by rfl, fun _ _ => by rfl⟩) (hHeld) ?_
  simp only [Act.put, List.setIfInBounds_toArray, List.set_cons_zero, List.set_cons_succ]
  refine held_takeD 5 (.pointer (some ⟨gf, o, none⟩)) (some 48) (by rfl) (by rfl) (by kernel_rfl) (by kernel_rfl) (by kernel_rfl) (fun _ _ _ h => h) (.inl ⟨by rfl, fun _ _ => by go_simp⟩) (hHeld) ?_
  simp only [Act.put, List.setIfInBounds_toArray, List.set_cons_zero, List.set_cons_succ]
  refine held_takeD 6 (.pointer (some ⟨gf, o + 3, none⟩)) (some 49) (by rfl) (by rfl) (by kernel_rfl) (by kernel_rfl) (by kernel_rfl) (fun _ _ _ h => h) (.inl ⟨by rfl, fun _ _ => by go_simp⟩) (hHeld) ?_
  simp only [Act.put, List.setIfInBounds_toArray, List.set_cons_zero, List.set_cons_succ]
  refine held_takeD 7 (.slice Ap kp cp) (some 50) (by rfl) (by rfl) (by kernel_rfl) (by kernel_rfl) (by kernel_rfl) (fun _ _ _ h => h) (.inl ⟨by rfl, fun wS hS => by have hc := (unhide X3 wS hS).1; go_simp⟩) (hHeld) ?_
  simp only [Act.put, List.setIfInBounds_toArray, List.set_cons_zero, List.set_cons_succ]
  refine held_takeD 10 (.int .u8 p) (some 53) (by rfl) (by rfl) (by kernel_rfl) (by kernel_rfl) (by kernel_rfl) (fun _ _ _ h => h) (.inl ⟨by rfl, fun _ _ => by rfl⟩) (hHeld) ?_
  simp only [Act.put, List.setIfInBounds_toArray, List.set_cons_zero, List.set_cons_succ]
  refine held_one 8 (by kernel_rfl) (by rfl) (fun K' hK' => ?_)
  go_simp
  refine (num_any 1 w.drew (by omega)).mono ?_
  rintro e w2 ⟨A2, k2, c2, rfl, n2, N2, b2⟩
  refine hK'.out _ _ (dW.thn b2) ?_
  clear hK' K'
  have d2 : Below w.heap.size w w2 := dW.thn b2
  refine held_one 9 (by kernel_rfl) (by rfl) (fun K' hK' => ?_)
  go_simp
  refine ((unhide X3 w2 d2).2.add n2 (by omega) (by omega)).mono ?_
  rintro e w3 ⟨A3, k3, c3, rfl, n3, N3, b3⟩
  refine hK'.out _ _ (d2.thn b3) ?_
  clear hK' K'
  have d3 : Below w.heap.size w w3 := d2.thn b3
  refine held_one 11 (by kernel_rfl) (by rfl) (fun K' hK' => ?_)
  go_simp
  refine (unhide (HIM w3)).mono ?_
  rintro e w4 ⟨rfl, rfl⟩
  refine hK'.out _ _ (d3) ?_
  clear hK' K'
  have hwk : IntKind.u64.wrap (ik : Int) = (ik : Int) := by rw [IntKind.wrap_u64]; omega
  refine held_takeD 12 (.int .u64 ik) (some 55) (by rfl) (by rfl) (by kernel_rfl) (by kernel_rfl) (by kernel_rfl) (fun _ _ _ h => h) (.inl ⟨by rfl, fun _ _ => by go_simp⟩) (d3) ?_
  simp only [Act.put, List.setIfInBounds_toArray, List.set_cons_zero, List.set_cons_succ]
  clear hwk
  refine held_one 13 (by kernel_rfl) (by rfl) (fun K' hK' => ?_)
  go_simp
  refine (num_any ik w3 (by omega)).mono ?_
  rintro e w5 ⟨A5, k5, c5, rfl, n5, N5, b5⟩
  refine hK'.out _ _ (d3.thn b5) ?_
  clear hK' K'
  have d5 : Below w.heap.size w w5 := d3.thn b5
  refine held_one 14 (by kernel_rfl) (by rfl) (fun K' hK' => ?_)
  go_simp
  refine (cut_any Ac kc cc f.code A3 A5 k3 c3 k5 c5 (f.pc + 1) ik w5 (unhide X10 w5 d5).2 (n3.kept b5) n5 (by omega) (by omega) (by omega)).mono ?_
  rintro e w6 ⟨g6, ys, rfl, o6, hyl, hyb, hg6, b6⟩
  refine hK'.out _ _ (d5.thn b6) ?_
  clear hK' K'
  have d6 : Below w.heap.size w w6 := d5.thn b6
  refine held_one 15 (by kernel_rfl) (by rfl) (fun K' hK' => ?_)
  go_simp
  refine (fromBE_any _ ik ik _ w6 (o6.src_all hyb ik hyl.symm (by unfold maxLen; omega)) (by omega)).mono ?_
  rintro e w7 ⟨A7, k7, c7, rfl, n7, N7, b7⟩
  refine hK'.out _ _ (d6.thn b7) ?_
  clear hK' K'
  refine held_takeD 16 (.slice A7 k7 c7) (some 8) (by rfl) (by rfl) (by kernel_rfl) (by kernel_rfl) (by kernel_rfl) (fun _ _ _ h => h) (.inl ⟨by rfl, fun _ _ => by rfl⟩) (d6.thn b7) ?_
  simp only [Act.put, List.setIfInBounds_toArray, List.set_cons_zero, List.set_cons_succ]
  refine wpAnyH_done (by kernel_rfl) ?_ _
  refine NoPanic.normal ?_
  have hlv := beN_lt256 hyb (by omega)
  have NN7 := hide n7
  clear n7 n5 n3 n2 o6
  go_wp2
  go_ret
  exact ValR.new (unhide HSR) hg (unhide NN7) (N7.later d6.size) hlv (d6.thn b7)
set_option maxHeartbeats 8000000 in
theorem valueK_blk64 (p : Nat) (h1 : 64 ≤ p) (h2 : p ≤ 70) (h : SR G bw gf cs fr d (f :: r) x w) (hx : XB x) (hg : Good B d) (hf : AnyF f) (hml : f.ml ≤ 1000000) (hgas : f.gas < P256) (hwt : wt d + 40000 ≤ 2250000000) (ao : Option Addr) (l c : Nat) (xs : List Nat) (hA : SStk G w ao l c xs) (hl : l ≤ 100) (ha : ∀ i, xs.getD i 0 < P256) :
    Calls Sakg.prog 217 #[.pointer (some ⟨bw, 0, none⟩), .pointer (some ⟨gf, 60 * r.length, none⟩), .int .u8 p, .slice ao l c] w (ValR G bw gf fr B d (f :: r) x 0 w) := by
  have hBB := big_ge
  have hP := p256_ge
  have hPB := p256_big2
  have hfx := h.fx
  obtain ⟨o, ho⟩ : ∃ o, o = 60 * r.length := ⟨_, rfl⟩
  rw [← ho] at hfx ⊢
  have HO := hide ho
  have HF := hide hfx
  have HSR := hide h
  have HX := hide hx
  have HFF := hide hf
  have H0 := hide (operandK G ao l c xs 0 w hA hl (by omega))
  have H1 := hide (operandK G ao l c xs 1 w hA hl (by omega))
  have H2 := hide (operandK G ao l c xs 2 w hA hl (by omega))
  have x0 := ha 0
  have x1 := ha 1
  have x2 := ha 2
  have t32 : ((p : Int) == 32) = false := by rw [beq_eq_false_iff_ne]; omega
  have HFm := hide (family_any p (by omega) w)
  rw [show famA p = 2 from by unfold famA; rw [if_neg (by omega), if_neg (by omega), if_pos (by omega)]] at HFm
  have u95 : decide ((95 : Int) ≤ (p : Int)) = false := decide_eq_false (by omega)
  have u64 : decide ((64 : Int) ≤ (p : Int)) = true := decide_eq_true (by omega)
  have v70 : decide ((p : Int) ≤ 70) = true := decide_eq_true (by omega)
  generalize xs.getD 0 0 = m0 at H0 x0
  generalize xs.getD 1 0 = m1 at H1 x1
  generalize xs.getD 2 0 = m2 at H2 x2
  clear h hfx hx hA ha ho hf
  go_enter Sakg.func217, Sakg.ntmps217
  go_wp2_with fail
  refine (unhide H0).mono ?_
  rintro e w1 ⟨⟨A0, k0, c0, rfl, n0⟩, rfl⟩
  have N0 := hide n0
  clear n0
  go_wp2_with fail
  refine (unhide H1).mono ?_
  rintro e w1 ⟨⟨A1, k1, c1, rfl, n1⟩, rfl⟩
  have N1 := hide n1
  clear n1
  have HB := hide ((unhide HSR).blockValue (unhide HX) p (by omega) A0 k0 c0 m0 (unhide N0).now x0)
  go_wp2_with (first
    | (go_at_call 120; refine (unhide HFm).mono ?_; rintro e w1 ⟨rfl, rfl⟩)
    | (go_at_call 306; refine (unhide HB).mono ?_; rintro e w6 ⟨A6, k6, c6, n6, rfl, m6, N6, hlv, b6⟩; have NN6 := hide m6; clear m6))
  go_ret
  exact ValR.new (unhide HSR) hg (unhide NN6) N6 hlv b6
set_option maxHeartbeats 8000000 in
theorem valueK_blk72 (h : SR G bw gf cs fr d (f :: r) x w) (hx : XB x) (hg : Good B d) (hf : AnyF f) (hml : f.ml ≤ 1000000) (hgas : f.gas < P256) (hwt : wt d + 40000 ≤ 2250000000) (ao : Option Addr) (l c : Nat) (xs : List Nat) (hA : SStk G w ao l c xs) (hl : l ≤ 100) (ha : ∀ i, xs.getD i 0 < P256) :
    Calls Sakg.prog 217 #[.pointer (some ⟨bw, 0, none⟩), .pointer (some ⟨gf, 60 * r.length, none⟩), .int .u8 72, .slice ao l c] w (ValR G bw gf fr B d (f :: r) x 0 w) := by
  have hBB := big_ge
  have hP := p256_ge
  have hPB := p256_big2
  have hfx := h.fx
  obtain ⟨o, ho⟩ : ∃ o, o = 60 * r.length := ⟨_, rfl⟩
  rw [← ho] at hfx ⊢
  have HO := hide ho
  have HF := hide hfx
  have HSR := hide h
  have HX := hide hx
  have HFF := hide hf
  have H0 := hide (operandK G ao l c xs 0 w hA hl (by omega))
  have H1 := hide (operandK G ao l c xs 1 w hA hl (by omega))
  have H2 := hide (operandK G ao l c xs 2 w hA hl (by omega))
  have x0 := ha 0
  have x1 := ha 1
  have x2 := ha 2
  have HFm := hide (family_any 72 (by omega) w)
  rw [show famA 72 = 2 from rfl] at HFm
  generalize xs.getD 0 0 = m0 at H0 x0
  generalize xs.getD 1 0 = m1 at H1 x1
  generalize xs.getD 2 0 = m2 at H2 x2
  clear h hfx hx hA ha ho hf
  go_enter Sakg.func217, Sakg.ntmps217
  go_wp2_with fail
  refine (unhide H0).mono ?_
  rintro e w1 ⟨⟨A0, k0, c0, rfl, n0⟩, rfl⟩
  have N0 := hide n0
  clear n0
  go_wp2_with fail
  refine (unhide H1).mono ?_
  rintro e w1 ⟨⟨A1, k1, c1, rfl, n1⟩, rfl⟩
  have N1 := hide n1
  clear n1
  have HB := hide ((unhide HSR).blockValue (unhide HX) 72 (by omega) A0 k0 c0 m0 (unhide N0).now x0)
  go_wp2_with (first
    | (go_at_call 120; refine (unhide HFm).mono ?_; rintro e w1 ⟨rfl, rfl⟩)
    | (go_at_call 306; refine (unhide HB).mono ?_; rintro e w6 ⟨A6, k6, c6, n6, rfl, m6, N6, hlv, b6⟩; have NN6 := hide m6; clear m6))
  go_ret
  exact ValR.new (unhide HSR) hg (unhide NN6) N6 hlv b6
set_option maxHeartbeats 8000000 in
theorem valueK_49 (h : SR G bw gf cs fr d (f :: r) x w) (hx : XB x) (hg : Good B d) (hf : AnyF f) (hml : f.ml ≤ 1000000) (hgas : f.gas < P256) (hwt : wt d + 40000 ≤ 2250000000) (ao : Option Addr) (l c : Nat) (xs : List Nat) (hA : SStk G w ao l c xs) (hl : l ≤ 100) (ha : ∀ i, xs.getD i 0 < P256) :
    Calls Sakg.prog 217 #[.pointer (some ⟨bw, 0, none⟩), .pointer (some ⟨gf, 60 * r.length, none⟩), .int .u8 49, .slice ao l c] w (ValR G bw gf fr B d (f :: r) x 2500 w) := by
  have hBB := big_ge
  have hP := p256_ge
  have hPB := p256_big2
  have hfx := h.fx
  obtain ⟨o, ho⟩ : ∃ o, o = 60 * r.length := ⟨_, rfl⟩
  rw [← ho] at hfx ⊢
  have HO := hide ho
  have HF := hide hfx
  have HSR := hide h
  have HX := hide hx
  have HFF := hide hf
  have H0 := hide (operandK G ao l c xs 0 w hA hl (by omega))
  have H1 := hide (operandK G ao l c xs 1 w hA hl (by omega))
  have H2 := hide (operandK G ao l c xs 2 w hA hl (by omega))
  have x0 := ha 0
  have x1 := ha 1
  have x2 := ha 2
  have HFm := hide (family_any 49 (by omega) w)
  rw [show famA 49 = 2 from rfl] at HFm
  generalize xs.getD 0 0 = m0 at H0 x0
  generalize xs.getD 1 0 = m1 at H1 x1
  generalize xs.getD 2 0 = m2 at H2 x2
  clear h hfx hx hA ha ho hf
  go_enter Sakg.func217, Sakg.ntmps217
  go_wp2_with fail
  refine (unhide H0).mono ?_
  rintro e w1 ⟨⟨A0, k0, c0, rfl, n0⟩, rfl⟩
  have N0 := hide n0
  clear n0
  go_wp2_with fail
  refine (unhide H1).mono ?_
  rintro e w1 ⟨⟨A1, k1, c1, rfl, n1⟩, rfl⟩
  have N1 := hide n1
  clear n1
  have dW : Below w.heap.size w w.drew := Quiet.below ⟨1, rfl⟩ _
  go_upto_region 16 with (go_at_call 120; refine (unhide HFm).mono ?_; rintro e w1 ⟨rfl, rfl⟩)
  refine wp_region_noPanic ?_
  refine wp_region_held_drew (S := fun _ => True) (by kernel_rfl) (trivial) (fun hHeld => ?_)
  refine held_takeD 0 (.pointer (some ⟨bw, 0, none⟩)) (some 79) (by rfl) (by rfl) (by kernel_rfl) (by kernel_rfl) (by kernel_rfl) (fun _ _ _ h => h) (.inl ⟨by rfl, fun _ _ => by rfl⟩) (hHeld) ?_
  simp only [Act.put, List.setIfInBounds_toArray, List.set_cons_zero, List.set_cons_succ]
  refine held_takeD 1 (.pointer (some ⟨bw, 0, none⟩)) (some 80) (by rfl) (by rfl) (by kernel_rfl) (by kernel_rfl) (by kernel_rfl) (fun _ _ _ h => h) (.inl ⟨by rfl, fun _ _ => by go_simp⟩) (hHeld) ?_
  simp only [Act.put, List.setIfInBounds_toArray, List.set_cons_zero, List.set_cons_succ]
  refine held_takeD 2 (.pointer (some ⟨bw, 0, none⟩)) (some 81) (by rfl) (by rfl) (by kernel_rfl) (by kernel_rfl) (by kernel_rfl) (fun _ _ _ h => h) (.inl ⟨by rfl, fun _ _ => by go_simp⟩) (hHeld) ?_
  simp only [Act.put, List.setIfInBounds_toArray, List.set_cons_zero, List.set_cons_succ]
  refine held_takeD 3 (.slice A0 k0 c0) (some 82) (by rfl) (by rfl) (by kernel_rfl) (by kernel_rfl) (by kernel_rfl) (fun _ _ _ h => h) (.inl ⟨by rfl, fun _ _ => by rfl⟩) (hHeld) ?_
  simp only [Act.put, List.setIfInBounds_toArray, List.set_cons_zero, List.set_cons_succ]
  refine held_one 4 (by kernel_rfl) (by rfl) (fun K' hK' => ?_)
  go_simp
  refine (addrOf_any A0 k0 c0 m0 w.drew ((unhide N0).kp (ChgS.of dW)).now (by omega)).mono ?_
  rintro e w2 ⟨⟨ta, rfl, hta⟩, b2⟩
  refine hK'.out _ _ (trivial) ?_
  clear hK' K'
  have d2 : Below w.heap.size w w2 := dW.thn b2
  refine held_one 5 (by kernel_rfl) (by rfl) (fun K' hK' => ?_)
  go_simp
  refine (((unhide HSR).kept d2).cw.warm hg ta hta).mono ?_
  rintro e w3 ⟨rfl, als, hals, hwp⟩
  refine hK'.out _ _ (trivial) ?_
  clear hK' K'
  refine wpAnyH_done (by kernel_rfl) ?_ _
  refine NoPanic.normal ?_
  obtain ⟨cs3, hsr3, hmv3, hs83, hch3⟩ := ((unhide HSR).kept d2).world hwp
  have hgr3 : Gr B d { d with warmA := als } 2500 := Gr.warm hg.snd hals
  have hmv : Mv G w w3 := (Mv.of d2).trans hmv3
  have hch : Chg bw w w3 := (Chg.of d2).trans hch3
  have HSR3 := hide hsr3
  have HGR3 := hide hgr3
  have HMV := hide hmv
  have HCH := hide hch
  have hgood3 := hgr3.good (K := 2250000000) (by omega) (Nat.le_refl _)
  clear hwp hsr3 hgr3 hmv hmv3 hch hs83 hch3
  go_upto_region 17 with fail
  have dV : Below w3.heap.size w3 w3.drew := Quiet.below ⟨1, rfl⟩ _
  have hN3 : ∀ wz, Below w3.heap.size w3 wz → IsNat wz A0 k0 c0 m0 := fun wz hz => ((unhide N0).kp ((unhide HMV).chg.trans (ChgS.of hz))).now
  have hacc : ∀ a, IsAddr a → ∀ wz, Below w3.heap.size w3 wz → Calls Sakg.prog 99 #[.pointer (some ⟨bw, 0, none⟩), .agg (bv a).toArray] wz fun e w' => ∃ r, e = .returned (.agg r.toArray) ∧ KAcct G w3 r (lookY d.accts a) ∧ Below wz.heap.size wz w' := fun a ha wz hz => (unhide HSR3).cw.accountAt hgood3 hz a ha
  have HACC := hide hacc
  clear hacc
  refine wp_region_noPanic ?_
  refine wp_region_held_drew (S := fun w' => Below w3.heap.size w3 w') (by kernel_rfl) (dV) (fun hHeld => ?_)
  refine held_takeD 0 (.pointer (some ⟨bw, 0, none⟩)) (some 85) (by rfl) (by rfl) (by kernel_rfl) (by kernel_rfl) (by kernel_rfl) (fun _ _ _ h => h) (.inl ⟨by rfl, fun _ _ => by rfl⟩) (hHeld) ?_
  simp only [Act.put, List.setIfInBounds_toArray, List.set_cons_zero, List.set_cons_succ]
  refine held_takeD 1 (.pointer (some ⟨bw, 0, none⟩)) (some 86) (by rfl) (by rfl) (by kernel_rfl) (by kernel_rfl) (by kernel_rfl) (fun _ _ _ h => h) (.inl ⟨by rfl, fun _ _ => by go_simp⟩) (hHeld) ?_
  simp only [Act.put, List.setIfInBounds_toArray, List.set_cons_zero, List.set_cons_succ]
  refine held_takeD 2 (.pointer (some ⟨bw, 0, none⟩)) (some 87) (by rfl) (by rfl) (by kernel_rfl) (by kernel_rfl) (by kernel_rfl) (fun _ _ _ h => h) (.inl ⟨by rfl, fun _ _ => by go_simp⟩) (hHeld) ?_
  simp only [Act.put, List.setIfInBounds_toArray, List.set_cons_zero, List.set_cons_succ]
  refine held_takeD 3 (.slice A0 k0 c0) (some 88) (by rfl) (by rfl) (by kernel_rfl) (by kernel_rfl) (by kernel_rfl) (fun _ _ _ h => h) (.inl ⟨by rfl, fun _ _ => by rfl⟩) (hHeld) ?_
  simp only [Act.put, List.setIfInBounds_toArray, List.set_cons_zero, List.set_cons_succ]
  refine held_takeD 6 (.int .u8 49) (some 91) (by rfl) (by rfl) (by kernel_rfl) (by kernel_rfl) (by kernel_rfl) (fun _ _ _ h => h) (.inl ⟨by rfl, fun _ _ => by rfl⟩) (hHeld) ?_
  simp only [Act.put, List.setIfInBounds_toArray, List.set_cons_zero, List.set_cons_succ]
  refine held_one 4 (by kernel_rfl) (by rfl) (fun K' hK' => ?_)
  go_simp
  refine (addrOf_any A0 k0 c0 m0 w3.drew (hN3 _ dV) (by omega)).mono ?_
  rintro e w4 ⟨⟨tb, rfl, htb⟩, b4⟩
  refine hK'.out _ _ (dV.thn b4) ?_
  clear hK' K'
  have d4 : Below w3.heap.size w3 w4 := dV.thn b4
  refine held_one 5 (by kernel_rfl) (by rfl) (fun K' hK' => ?_)
  go_simp
  refine (unhide HACC tb htb _ d4).mono ?_
  rintro e w5 ⟨rr, rfl, hrr, b5⟩
  refine hK'.out _ _ (d4.thn b5) ?_
  clear hK' K'
  have d5 : Below w3.heap.size w3 w5 := d4.thn b5
  refine held_one 7 (by kernel_rfl) (by rfl) (fun K' hK' => ?_)
  go_simp
  refine (acctV_49 rr (lookY d.accts tb) w5 (hrr.go (ChgS.of d5)).now (hg.acc.look tb) (hg.bal tb)).mono ?_
  rintro e w6 ⟨A6, k6, c6, n6, rfl, m6, N6, hlv, b6⟩
  refine hK'.out _ _ (d5.thn b6) ?_
  clear hK' K'
  have d6 : Below w3.heap.size w3 w6 := d5.thn b6
  refine held_takeD 8 (.slice A6 k6 c6) (some 8) (by rfl) (by rfl) (by kernel_rfl) (by kernel_rfl) (by kernel_rfl) (fun _ _ _ h => h) (.inl ⟨by rfl, fun _ _ => by rfl⟩) (d6) ?_
  simp only [Act.put, List.setIfInBounds_toArray, List.set_cons_zero, List.set_cons_succ]
  refine wpAnyH_done (by kernel_rfl) ?_ _
  refine NoPanic.normal ?_
  have NN6 := hide m6
  clear m6 hrr hN3
  go_wp2
  go_ret
  exact ⟨A6, k6, c6, n6, cs3, _, rfl, KNat.new (unhide NN6) (N6.later d5.size) (unhide HSR3).cw.ther, hlv, (unhide HSR3).kept d6, unhide HGR3, (unhide HMV).trans (Mv.of d6), (unhide HCH).trans (Chg.of d6)⟩
set_option maxHeartbeats 8000000 in
theorem valueK_59 (h : SR G bw gf cs fr d (f :: r) x w) (hx : XB x) (hg : Good B d) (hf : AnyF f) (hml : f.ml ≤ 1000000) (hgas : f.gas < P256) (hwt : wt d + 40000 ≤ 2250000000) (ao : Option Addr) (l c : Nat) (xs : List Nat) (hA : SStk G w ao l c xs) (hl : l ≤ 100) (ha : ∀ i, xs.getD i 0 < P256) :
    Calls Sakg.prog 217 #[.pointer (some ⟨bw, 0, none⟩), .pointer (some ⟨gf, 60 * r.length, none⟩), .int .u8 59, .slice ao l c] w (ValR G bw gf fr B d (f :: r) x 2500 w) := by
  have hBB := big_ge
  have hP := p256_ge
  have hPB := p256_big2
  have hfx := h.fx
  obtain ⟨o, ho⟩ : ∃ o, o = 60 * r.length := ⟨_, rfl⟩
  rw [← ho] at hfx ⊢
  have HO := hide ho
  have HF := hide hfx
  have HSR := hide h
  have HX := hide hx
  have HFF := hide hf
  have H0 := hide (operandK G ao l c xs 0 w hA hl (by omega))
  have H1 := hide (operandK G ao l c xs 1 w hA hl (by omega))
  have H2 := hide (operandK G ao l c xs 2 w hA hl (by omega))
  have x0 := ha 0
  have x1 := ha 1
  have x2 := ha 2
  have HFm := hide (family_any 59 (by omega) w)
  rw [show famA 59 = 2 from rfl] at HFm
  generalize xs.getD 0 0 = m0 at H0 x0
  generalize xs.getD 1 0 = m1 at H1 x1
  generalize xs.getD 2 0 = m2 at H2 x2
  clear h hfx hx hA ha ho hf
  go_enter Sakg.func217, Sakg.ntmps217
  go_wp2_with fail
  refine (unhide H0).mono ?_
  rintro e w1 ⟨⟨A0, k0, c0, rfl, n0⟩, rfl⟩
  have N0 := hide n0
  clear n0
  go_wp2_with fail
  refine (unhide H1).mono ?_
  rintro e w1 ⟨⟨A1, k1, c1, rfl, n1⟩, rfl⟩
  have N1 := hide n1
  clear n1
  have dW : Below w.heap.size w w.drew := Quiet.below ⟨1, rfl⟩ _
  go_upto_region 16 with (go_at_call 120; refine (unhide HFm).mono ?_; rintro e w1 ⟨rfl, rfl⟩)
  refine wp_region_noPanic ?_
  refine wp_region_held_drew (S := fun _ => True) (by kernel_rfl) (trivial) (fun hHeld => ?_)
  refine held_takeD 0 (.pointer (some ⟨bw, 0, none⟩)) (some 79) (by rfl) (by rfl) (by kernel_rfl) (by kernel_rfl) (by kernel_rfl) (fun _ _ _ h => h) (.inl ⟨by rfl, fun _ _ => by rfl⟩) (hHeld) ?_
  simp only [Act.put, List.setIfInBounds_toArray, List.set_cons_zero, List.set_cons_succ]
  refine held_takeD 1 (.pointer (some ⟨bw, 0, none⟩)) (some 80) (by rfl) (by rfl) (by kernel_rfl) (by kernel_rfl) (by kernel_rfl) (fun _ _ _ h => h) (.inl ⟨by rfl, fun _ _ => by go_simp⟩) (hHeld) ?_
  simp only [Act.put, List.setIfInBounds_toArray, List.set_cons_zero, List.set_cons_succ]
  refine held_takeD 2 (.pointer (some ⟨bw, 0, none⟩)) (some 81) (by rfl) (by rfl) (by kernel_rfl) (by kernel_rfl) (by kernel_rfl) (fun _ _ _ h => h) (.inl ⟨by rfl, fun _ _ => by go_simp⟩) (hHeld) ?_
  simp only [Act.put, List.setIfInBounds_toArray, List.set_cons_zero, List.set_cons_succ]
  refine held_takeD 3 (.slice A0 k0 c0) (some 82) (by rfl) (by rfl) (by kernel_rfl) (by kernel_rfl) (by kernel_rfl) (fun _ _ _ h => h) (.inl ⟨by rfl, fun _ _ => by rfl⟩) (hHeld) ?_
  simp only [Act.put, List.setIfInBounds_toArray, List.set_cons_zero, List.set_cons_succ]
  refine held_one 4 (by kernel_rfl) (by rfl) (fun K' hK' => ?_)
  go_simp
  refine (addrOf_any A0 k0 c0 m0 w.drew ((unhide N0).kp (ChgS.of dW)).now (by omega)).mono ?_
  rintro e w2 ⟨⟨ta, rfl, hta⟩, b2⟩
  refine hK'.out _ _ (trivial) ?_
  clear hK' K'
  have d2 : Below w.heap.size w w2 := dW.thn b2
  refine held_one 5 (by kernel_rfl) (by rfl) (fun K' hK' => ?_)
  go_simp
  refine (((unhide HSR).kept d2).cw.warm hg ta hta).mono ?_
  rintro e w3 ⟨rfl, als, hals, hwp⟩
  refine hK'.out _ _ (trivial) ?_
  clear hK' K'
  refine wpAnyH_done (by kernel_rfl) ?_ _
  refine NoPanic.normal ?_
  obtain ⟨cs3, hsr3, hmv3, hs83, hch3⟩ := ((unhide HSR).kept d2).world hwp
  have hgr3 : Gr B d { d with warmA := als } 2500 := Gr.warm hg.snd hals
  have hmv : Mv G w w3 := (Mv.of d2).trans hmv3
  have hch : Chg bw w w3 := (Chg.of d2).trans hch3
  have HSR3 := hide hsr3
  have HGR3 := hide hgr3
  have HMV := hide hmv
  have HCH := hide hch
  have hgood3 := hgr3.good (K := 2250000000) (by omega) (Nat.le_refl _)
  clear hwp hsr3 hgr3 hmv hmv3 hch hs83 hch3
  go_upto_region 17 with fail
  have dV : Below w3.heap.size w3 w3.drew := Quiet.below ⟨1, rfl⟩ _
  have hN3 : ∀ wz, Below w3.heap.size w3 wz → IsNat wz A0 k0 c0 m0 := fun wz hz => ((unhide N0).kp ((unhide HMV).chg.trans (ChgS.of hz))).now
  have hacc : ∀ a, IsAddr a → ∀ wz, Below w3.heap.size w3 wz → Calls Sakg.prog 99 #[.pointer (some ⟨bw, 0, none⟩), .agg (bv a).toArray] wz fun e w' => ∃ r, e = .returned (.agg r.toArray) ∧ KAcct G w3 r (lookY d.accts a) ∧ Below wz.heap.size wz w' := fun a ha wz hz => (unhide HSR3).cw.accountAt hgood3 hz a ha
  have HACC := hide hacc
  clear hacc
  refine wp_region_noPanic ?_
  refine wp_region_held_drew (S := fun w' => Below w3.heap.size w3 w') (by kernel_rfl) (dV) (fun hHeld => ?_)
  refine held_takeD 0 (.pointer (some ⟨bw, 0, none⟩)) (some 85) (by rfl) (by rfl) (by kernel_rfl) (by kernel_rfl) (by kernel_rfl) (fun _ _ _ h => h) (.inl ⟨by rfl, fun _ _ => by rfl⟩) (hHeld) ?_
  simp only [Act.put, List.setIfInBounds_toArray, List.set_cons_zero, List.set_cons_succ]
  refine held_takeD 1 (.pointer (some ⟨bw, 0, none⟩)) (some 86) (by rfl) (by rfl) (by kernel_rfl) (by kernel_rfl) (by kernel_rfl) (fun _ _ _ h => h) (.inl ⟨by rfl, fun _ _ => by go_simp⟩) (hHeld) ?_
  simp only [Act.put, List.setIfInBounds_toArray, List.set_cons_zero, List.set_cons_succ]
  refine held_takeD 2 (.pointer (some ⟨bw, 0, none⟩)) (some 87) (by rfl) (by rfl) (by kernel_rfl) (by kernel_rfl) (by kernel_rfl) (fun _ _ _ h => h) (.inl ⟨by rfl, fun _ _ => by go_simp⟩) (hHeld) ?_
  simp only [Act.put, List.setIfInBounds_toArray, List.set_cons_zero, List.set_cons_succ]
  refine held_takeD 3 (.slice A0 k0 c0) (some 88) (by rfl) (by rfl) (by kernel_rfl) (by kernel_rfl) (by kernel_rfl) (fun _ _ _ h => h) (.inl ⟨by rfl, fun _ _ => by rfl⟩) (hHeld) ?_
  simp only [Act.put, List.setIfInBounds_toArray, List.set_cons_zero, List.set_cons_succ]
  refine held_takeD 6 (.int .u8 59) (some 91) (by rfl) (by rfl) (by kernel_rfl) (by kernel_rfl) (by kernel_rfl) (fun _ _ _ h => h) (.inl ⟨by rfl, fun _ _ => by rfl⟩) (hHeld) ?_
  simp only [Act.put, List.setIfInBounds_toArray, List.set_cons_zero, List.set_cons_succ]
  refine held_one 4 (by kernel_rfl) (by rfl) (fun K' hK' => ?_)
  go_simp
  refine (addrOf_any A0 k0 c0 m0 w3.drew (hN3 _ dV) (by omega)).mono ?_
  rintro e w4 ⟨⟨tb, rfl, htb⟩, b4⟩
  refine hK'.out _ _ (dV.thn b4) ?_
  clear hK' K'
  have d4 : Below w3.heap.size w3 w4 := dV.thn b4
  refine held_one 5 (by kernel_rfl) (by rfl) (fun K' hK' => ?_)
  go_simp
  refine (unhide HACC tb htb _ d4).mono ?_
  rintro e w5 ⟨rr, rfl, hrr, b5⟩
  refine hK'.out _ _ (d4.thn b5) ?_
  clear hK' K'
  have d5 : Below w3.heap.size w3 w5 := d4.thn b5
  refine held_one 7 (by kernel_rfl) (by rfl) (fun K' hK' => ?_)
  go_simp
  refine (acctV_59 rr (lookY d.accts tb) w5 (hrr.go (ChgS.of d5)).now (hg.acc.look tb) (hg.bal tb)).mono ?_
  rintro e w6 ⟨A6, k6, c6, n6, rfl, m6, N6, hlv, b6⟩
  refine hK'.out _ _ (d5.thn b6) ?_
  clear hK' K'
  have d6 : Below w3.heap.size w3 w6 := d5.thn b6
  refine held_takeD 8 (.slice A6 k6 c6) (some 8) (by rfl) (by rfl) (by kernel_rfl) (by kernel_rfl) (by kernel_rfl) (fun _ _ _ h => h) (.inl ⟨by rfl, fun _ _ => by rfl⟩) (d6) ?_
  simp only [Act.put, List.setIfInBounds_toArray, List.set_cons_zero, List.set_cons_succ]
  refine wpAnyH_done (by kernel_rfl) ?_ _
  refine NoPanic.normal ?_
  have NN6 := hide m6
  clear m6 hrr hN3
  go_wp2
  go_ret
  exact ⟨A6, k6, c6, n6, cs3, _, rfl, KNat.new (unhide NN6) (N6.later d5.size) (unhide HSR3).cw.ther, hlv, (unhide HSR3).kept d6, unhide HGR3, (unhide HMV).trans (Mv.of d6), (unhide HCH).trans (Chg.of d6)⟩
set_option maxHeartbeats 8000000 in
theorem valueK_63 (h : SR G bw gf cs fr d (f :: r) x w) (hx : XB x) (hg : Good B d) (hf : AnyF f) (hml : f.ml ≤ 1000000) (hgas : f.gas < P256) (hwt : wt d + 40000 ≤ 2250000000) (ao : Option Addr) (l c : Nat) (xs : List Nat) (hA : SStk G w ao l c xs) (hl : l ≤ 100) (ha : ∀ i, xs.getD i 0 < P256) :
    Calls Sakg.prog 217 #[.pointer (some ⟨bw, 0, none⟩), .pointer (some ⟨gf, 60 * r.length, none⟩), .int .u8 63, .slice ao l c] w (ValR G bw gf fr B d (f :: r) x 2500 w) := by
  have hBB := big_ge
  have hP := p256_ge
  have hPB := p256_big2
  have hfx := h.fx
  obtain ⟨o, ho⟩ : ∃ o, o = 60 * r.length := ⟨_, rfl⟩
  rw [← ho] at hfx ⊢
  have HO := hide ho
  have HF := hide hfx
  have HSR := hide h
  have HX := hide hx
  have HFF := hide hf
  have H0 := hide (operandK G ao l c xs 0 w hA hl (by omega))
  have H1 := hide (operandK G ao l c xs 1 w hA hl (by omega))
  have H2 := hide (operandK G ao l c xs 2 w hA hl (by omega))
  have x0 := ha 0
  have x1 := ha 1
  have x2 := ha 2
  have HFm := hide (family_any 63 (by omega) w)
  rw [show famA 63 = 2 from rfl] at HFm
  generalize xs.getD 0 0 = m0 at H0 x0
  generalize xs.getD 1 0 = m1 at H1 x1
  generalize xs.getD 2 0 = m2 at H2 x2
  clear h hfx hx hA ha ho hf
  go_enter Sakg.func217, Sakg.ntmps217
  go_wp2_with fail
  refine (unhide H0).mono ?_
  rintro e w1 ⟨⟨A0, k0, c0, rfl, n0⟩, rfl⟩
  have N0 := hide n0
  clear n0
  go_wp2_with fail
  refine (unhide H1).mono ?_
  rintro e w1 ⟨⟨A1, k1, c1, rfl, n1⟩, rfl⟩
  have N1 := hide n1
  clear n1
  have dW : Below w.heap.size w w.drew := Quiet.below ⟨1, rfl⟩ _
  go_upto_region 16 with (go_at_call 120; refine (unhide HFm).mono ?_; rintro e w1 ⟨rfl, rfl⟩)
  refine wp_region_noPanic ?_
  refine wp_region_held_drew (S := fun _ => True) (by kernel_rfl) (trivial) (fun hHeld => ?_)
  refine held_takeD 0 (.pointer (some ⟨bw, 0, none⟩)) (some 79) (by rfl) (by rfl) (by kernel_rfl) (by kernel_rfl) (by kernel_rfl) (fun _ _ _ h => h) (.inl ⟨by rfl, fun _ _ => by rfl⟩) (hHeld) ?_
  simp only [Act.put, List.setIfInBounds_toArray, List.set_cons_zero, List.set_cons_succ]
  refine held_takeD 1 (.pointer (some ⟨bw, 0, none⟩)) (some 80) (by rfl) (by rfl) (by kernel_rfl) (by kernel_rfl) (by kernel_rfl) (fun _ _ _ h => h) (.inl ⟨by rfl, fun _ _ => by go_simp⟩) (hHeld) ?_
  simp only [Act.put, List.setIfInBounds_toArray, List.set_cons_zero, List.set_cons_succ]
  refine held_takeD 2 (.pointer (some ⟨bw, 0, none⟩)) (some 81) (by rfl) (by rfl) (by kernel_rfl) (by kernel_rfl) (by kernel_rfl) (fun _ _ _ h => h) (.inl ⟨by rfl, fun _ _ => by go_simp⟩) (hHeld) ?_
  simp only [Act.put, List.setIfInBounds_toArray, List.set_cons_zero, List.set_cons_succ]
  refine held_takeD 3 (.slice A0 k0 c0) (some 82) (by rfl) (by rfl) (by kernel_rfl) (by kernel_rfl) (by kernel_rfl) (fun _ _ _ h => h) (.inl ⟨by rfl, fun _ _ => by rfl⟩) (hHeld) ?_
  simp only [Act.put, List.setIfInBounds_toArray, List.set_cons_zero, List.set_cons_succ]
  refine held_one 4 (by kernel_rfl) (by rfl) (fun K' hK' => ?_)
  go_simp
  refine (addrOf_any A0 k0 c0 m0 w.drew ((unhide N0).kp (ChgS.of dW)).now (by omega)).mono ?_
  rintro e w2 ⟨⟨ta, rfl, hta⟩, b2⟩
  refine hK'.out _ _ (trivial) ?_
  clear hK' K'
  have d2 : Below w.heap.size w w2 := dW.thn b2
  refine held_one 5 (by kernel_rfl) (by rfl) (fun K' hK' => ?_)
  go_simp
  refine (((unhide HSR).kept d2).cw.warm hg ta hta).mono ?_
  rintro e w3 ⟨rfl, als, hals, hwp⟩
  refine hK'.out _ _ (trivial) ?_
  clear hK' K'
  refine wpAnyH_done (by kernel_rfl) ?_ _
  refine NoPanic.normal ?_
  obtain ⟨cs3, hsr3, hmv3, hs83, hch3⟩ := ((unhide HSR).kept d2).world hwp
  have hgr3 : Gr B d { d with warmA := als } 2500 := Gr.warm hg.snd hals
  have hmv : Mv G w w3 := (Mv.of d2).trans hmv3
  have hch : Chg bw w w3 := (Chg.of d2).trans hch3
  have HSR3 := hide hsr3
  have HGR3 := hide hgr3
  have HMV := hide hmv
  have HCH := hide hch
  have hgood3 := hgr3.good (K := 2250000000) (by omega) (Nat.le_refl _)
  clear hwp hsr3 hgr3 hmv hmv3 hch hs83 hch3
  go_upto_region 17 with fail
  have dV : Below w3.heap.size w3 w3.drew := Quiet.below ⟨1, rfl⟩ _
  have hN3 : ∀ wz, Below w3.heap.size w3 wz → IsNat wz A0 k0 c0 m0 := fun wz hz => ((unhide N0).kp ((unhide HMV).chg.trans (ChgS.of hz))).now
  have hacc : ∀ a, IsAddr a → ∀ wz, Below w3.heap.size w3 wz → Calls Sakg.prog 99 #[.pointer (some ⟨bw, 0, none⟩), .agg (bv a).toArray] wz fun e w' => ∃ r, e = .returned (.agg r.toArray) ∧ KAcct G w3 r (lookY d.accts a) ∧ Below wz.heap.size wz w' := fun a ha wz hz => (unhide HSR3).cw.accountAt hgood3 hz a ha
  have HACC := hide hacc
  clear hacc
  refine wp_region_noPanic ?_
  refine wp_region_held_drew (S := fun w' => Below w3.heap.size w3 w') (by kernel_rfl) (dV) (fun hHeld => ?_)
  refine held_takeD 0 (.pointer (some ⟨bw, 0, none⟩)) (some 85) (by rfl) (by rfl) (by kernel_rfl) (by kernel_rfl) (by kernel_rfl) (fun _ _ _ h => h) (.inl ⟨by rfl, fun _ _ => by rfl⟩) (hHeld) ?_
  simp only [Act.put, List.setIfInBounds_toArray, List.set_cons_zero, List.set_cons_succ]
  refine held_takeD 1 (.pointer (some ⟨bw, 0, none⟩)) (some 86) (by rfl) (by rfl) (by kernel_rfl) (by kernel_rfl) (by kernel_rfl) (fun _ _ _ h => h) (.inl ⟨by rfl, fun _ _ => by go_simp⟩) (hHeld) ?_
  simp only [Act.put, List.setIfInBounds_toArray, List.set_cons_zero, List.set_cons_succ]
  refine held_takeD 2 (.pointer (some ⟨bw, 0, none⟩)) (some 87) (by rfl) (by rfl) (by kernel_rfl) (by kernel_rfl) (by kernel_rfl) (fun _ _ _ h => h) (.inl ⟨by rfl, fun _ _ => by go_simp⟩) (hHeld) ?_
  simp only [Act.put, List.setIfInBounds_toArray, List.set_cons_zero, List.set_cons_succ]
  refine held_takeD 3 (.slice A0 k0 c0) (some 88) (by rfl) (by rfl) (by kernel_rfl) (by kernel_rfl) (by kernel_rfl) (fun _ _ _ h => h) (.inl ⟨by rfl, fun _ _ => by rfl⟩) (hHeld) ?_
  simp only [Act.put, List.setIfInBounds_toArray, List.set_cons_zero, List.set_cons_succ]
  refine held_takeD 6 (.int .u8 63) (some 91) (by rfl) (by rfl) (by kernel_rfl) (by kernel_rfl) (by kernel_rfl) (fun _ _ _ h => h) (.inl ⟨by rfl, fun _ _ => by rfl⟩) (hHeld) ?_
  simp only [Act.put, List.setIfInBounds_toArray, List.set_cons_zero, List.set_cons_succ]
  refine held_one 4 (by kernel_rfl) (by rfl) (fun K' hK' => ?_)
  go_simp
  refine (addrOf_any A0 k0 c0 m0 w3.drew (hN3 _ dV) (by omega)).mono ?_
  rintro e w4 ⟨⟨tb, rfl, htb⟩, b4⟩
  refine hK'.out _ _ (dV.thn b4) ?_
  clear hK' K'
  have d4 : Below w3.heap.size w3 w4 := dV.thn b4
  refine held_one 5 (by kernel_rfl) (by rfl) (fun K' hK' => ?_)
  go_simp
  refine (unhide HACC tb htb _ d4).mono ?_
  rintro e w5 ⟨rr, rfl, hrr, b5⟩
  refine hK'.out _ _ (d4.thn b5) ?_
  clear hK' K'
  have d5 : Below w3.heap.size w3 w5 := d4.thn b5
  refine held_one 7 (by kernel_rfl) (by rfl) (fun K' hK' => ?_)
  go_simp
  refine (acctV_63 rr (lookY d.accts tb) w5 (hrr.go (ChgS.of d5)).now (hg.acc.look tb) (hg.bal tb)).mono ?_
  rintro e w6 ⟨A6, k6, c6, n6, rfl, m6, N6, hlv, b6⟩
  refine hK'.out _ _ (d5.thn b6) ?_
  clear hK' K'
  have d6 : Below w3.heap.size w3 w6 := d5.thn b6
  refine held_takeD 8 (.slice A6 k6 c6) (some 8) (by rfl) (by rfl) (by kernel_rfl) (by kernel_rfl) (by kernel_rfl) (fun _ _ _ h => h) (.inl ⟨by rfl, fun _ _ => by rfl⟩) (d6) ?_
  simp only [Act.put, List.setIfInBounds_toArray, List.set_cons_zero, List.set_cons_succ]
  refine wpAnyH_done (by kernel_rfl) ?_ _
  refine NoPanic.normal ?_
  have NN6 := hide m6
  clear m6 hrr hN3
  go_wp2
  go_ret
  exact ⟨A6, k6, c6, n6, cs3, _, rfl, KNat.new (unhide NN6) (N6.later d5.size) (unhide HSR3).cw.ther, hlv, (unhide HSR3).kept d6, unhide HGR3, (unhide HMV).trans (Mv.of d6), (unhide HCH).trans (Chg.of d6)⟩
set_option maxHeartbeats 8000000 in
theorem valueK_48 (h : SR G bw gf cs fr d (f :: r) x w) (hx : XB x) (hg : Good B d) (hf : AnyF f) (hml : f.ml ≤ 1000000) (hgas : f.gas < P256) (hwt : wt d + 40000 ≤ 2250000000) (ao : Option Addr) (l c : Nat) (xs : List Nat) (hA : SStk G w ao l c xs) (hl : l ≤ 100) (ha : ∀ i, xs.getD i 0 < P256) :
    Calls Sakg.prog 217 #[.pointer (some ⟨bw, 0, none⟩), .pointer (some ⟨gf, 60 * r.length, none⟩), .int .u8 48, .slice ao l c] w (ValR G bw gf fr B d (f :: r) x 0 w) := by
  have hBB := big_ge
  have hP := p256_ge
  have hPB := p256_big2
  have hfx := h.fx
  obtain ⟨o, ho⟩ : ∃ o, o = 60 * r.length := ⟨_, rfl⟩
  rw [← ho] at hfx ⊢
  have HO := hide ho
  have HF := hide hfx
  have HSR := hide h
  have HX := hide hx
  have HFF := hide hf
  have H0 := hide (operandK G ao l c xs 0 w hA hl (by omega))
  have H1 := hide (operandK G ao l c xs 1 w hA hl (by omega))
  have H2 := hide (operandK G ao l c xs 2 w hA hl (by omega))
  have x0 := ha 0
  have x1 := ha 1
  have x2 := ha 2
  have HFm := hide (family_any 48 (by omega) w)
  rw [show famA 48 = 2 from rfl] at HFm
  have hia := hfx.kf.selfA
  have hlv := beN_lt256 hia.byt (by have := hia.len; omega)
  have HC := hide (fromBE_any (some ⟨gf, o + 12, none⟩) 20 20 f.self w (src_of_range hfx.selfR hia.byt hia.len (by unfold maxLen; omega)) (by omega))
  generalize val f.self.reverse = vv at HC hlv
  generalize xs.getD 0 0 = m0 at H0 x0
  generalize xs.getD 1 0 = m1 at H1 x1
  generalize xs.getD 2 0 = m2 at H2 x2
  clear h hfx hx hA ha ho hf
  go_enter Sakg.func217, Sakg.ntmps217
  go_wp2_with fail
  refine (unhide H0).mono ?_
  rintro e w1 ⟨⟨A0, k0, c0, rfl, n0⟩, rfl⟩
  have N0 := hide n0
  clear n0
  go_wp2_with fail
  refine (unhide H1).mono ?_
  rintro e w1 ⟨⟨A1, k1, c1, rfl, n1⟩, rfl⟩
  have N1 := hide n1
  clear n1
  go_wp2_with (first
    | (go_at_call 120; refine (unhide HFm).mono ?_; rintro e w1 ⟨rfl, rfl⟩)
    | (go_at_call 17; refine (unhide HC).mono ?_; rintro e w6 ⟨A6, k6, c6, rfl, n6, N6, b6⟩; have NN6 := hide n6; clear n6))
  go_ret
  exact ValR.new (unhide HSR) hg (unhide NN6) N6 hlv b6
set_option maxHeartbeats 8000000 in
theorem valueK_51 (h : SR G bw gf cs fr d (f :: r) x w) (hx : XB x) (hg : Good B d) (hf : AnyF f) (hml : f.ml ≤ 1000000) (hgas : f.gas < P256) (hwt : wt d + 40000 ≤ 2250000000) (ao : Option Addr) (l c : Nat) (xs : List Nat) (hA : SStk G w ao l c xs) (hl : l ≤ 100) (ha : ∀ i, xs.getD i 0 < P256) :
    Calls Sakg.prog 217 #[.pointer (some ⟨bw, 0, none⟩), .pointer (some ⟨gf, 60 * r.length, none⟩), .int .u8 51, .slice ao l c] w (ValR G bw gf fr B d (f :: r) x 0 w) := by
  have hBB := big_ge
  have hP := p256_ge
  have hPB := p256_big2
  have hfx := h.fx
  obtain ⟨o, ho⟩ : ∃ o, o = 60 * r.length := ⟨_, rfl⟩
  rw [← ho] at hfx ⊢
  have HO := hide ho
  have HF := hide hfx
  have HSR := hide h
  have HX := hide hx
  have HFF := hide hf
  have H0 := hide (operandK G ao l c xs 0 w hA hl (by omega))
  have H1 := hide (operandK G ao l c xs 1 w hA hl (by omega))
  have H2 := hide (operandK G ao l c xs 2 w hA hl (by omega))
  have x0 := ha 0
  have x1 := ha 1
  have x2 := ha 2
  have HFm := hide (family_any 51 (by omega) w)
  rw [show famA 51 = 2 from rfl] at HFm
  have hia := hfx.kf.callerA
  have hlv := beN_lt256 hia.byt (by have := hia.len; omega)
  have HC := hide (fromBE_any (some ⟨gf, o + 32, none⟩) 20 20 f.caller w (src_of_range hfx.callerR hia.byt hia.len (by unfold maxLen; omega)) (by omega))
  generalize val f.caller.reverse = vv at HC hlv
  generalize xs.getD 0 0 = m0 at H0 x0
  generalize xs.getD 1 0 = m1 at H1 x1
  generalize xs.getD 2 0 = m2 at H2 x2
  clear h hfx hx hA ha ho hf
  go_enter Sakg.func217, Sakg.ntmps217
  go_wp2_with fail
  refine (unhide H0).mono ?_
  rintro e w1 ⟨⟨A0, k0, c0, rfl, n0⟩, rfl⟩
  have N0 := hide n0
  clear n0
  go_wp2_with fail
  refine (unhide H1).mono ?_
  rintro e w1 ⟨⟨A1, k1, c1, rfl, n1⟩, rfl⟩
  have N1 := hide n1
  clear n1
  go_wp2_with (first
    | (go_at_call 120; refine (unhide HFm).mono ?_; rintro e w1 ⟨rfl, rfl⟩)
    | (go_at_call 17; refine (unhide HC).mono ?_; rintro e w6 ⟨A6, k6, c6, rfl, n6, N6, b6⟩; have NN6 := hide n6; clear n6))
  go_ret
  exact ValR.new (unhide HSR) hg (unhide NN6) N6 hlv b6
set_option maxHeartbeats 8000000 in
theorem valueK_50 (h : SR G bw gf cs fr d (f :: r) x w) (hx : XB x) (hg : Good B d) (hf : AnyF f) (hml : f.ml ≤ 1000000) (hgas : f.gas < P256) (hwt : wt d + 40000 ≤ 2250000000) (ao : Option Addr) (l c : Nat) (xs : List Nat) (hA : SStk G w ao l c xs) (hl : l ≤ 100) (ha : ∀ i, xs.getD i 0 < P256) :
    Calls Sakg.prog 217 #[.pointer (some ⟨bw, 0, none⟩), .pointer (some ⟨gf, 60 * r.length, none⟩), .int .u8 50, .slice ao l c] w (ValR G bw gf fr B d (f :: r) x 0 w) := by
  have hBB := big_ge
  have hP := p256_ge
  have hPB := p256_big2
  have hfx := h.fx
  obtain ⟨o, ho⟩ : ∃ o, o = 60 * r.length := ⟨_, rfl⟩
  rw [← ho] at hfx ⊢
  have HO := hide ho
  have HF := hide hfx
  have HSR := hide h
  have HX := hide hx
  have HFF := hide hf
  have H0 := hide (operandK G ao l c xs 0 w hA hl (by omega))
  have H1 := hide (operandK G ao l c xs 1 w hA hl (by omega))
  have H2 := hide (operandK G ao l c xs 2 w hA hl (by omega))
  have x0 := ha 0
  have x1 := ha 1
  have x2 := ha 2
  have HFm := hide (family_any 50 (by omega) w)
  rw [show famA 50 = 2 from rfl] at HFm
  have hia := hx.origin
  have hlv := beN_lt256 hia.byt (by have := hia.len; omega)
  have HC := hide (fromBE_any (some ⟨bw, 19, none⟩) 20 20 x.origin w (src_of_range (h.originR hx) hia.byt hia.len (by unfold maxLen; omega)) (by omega))
  generalize val x.origin.reverse = vv at HC hlv
  generalize xs.getD 0 0 = m0 at H0 x0
  generalize xs.getD 1 0 = m1 at H1 x1
  generalize xs.getD 2 0 = m2 at H2 x2
  clear h hfx hx hA ha ho hf
  go_enter Sakg.func217, Sakg.ntmps217
  go_wp2_with fail
  refine (unhide H0).mono ?_
  rintro e w1 ⟨⟨A0, k0, c0, rfl, n0⟩, rfl⟩
  have N0 := hide n0
  clear n0
  go_wp2_with fail
  refine (unhide H1).mono ?_
  rintro e w1 ⟨⟨A1, k1, c1, rfl, n1⟩, rfl⟩
  have N1 := hide n1
  clear n1
  go_wp2_with (first
    | (go_at_call 120; refine (unhide HFm).mono ?_; rintro e w1 ⟨rfl, rfl⟩)
    | (go_at_call 17; refine (unhide HC).mono ?_; rintro e w6 ⟨A6, k6, c6, rfl, n6, N6, b6⟩; have NN6 := hide n6; clear n6))
  go_ret
  exact ValR.new (unhide HSR) hg (unhide NN6) N6 hlv b6
set_option maxHeartbeats 8000000 in
theorem valueK_52 (h : SR G bw gf cs fr d (f :: r) x w) (hx : XB x) (hg : Good B d) (hf : AnyF f) (hml : f.ml ≤ 1000000) (hgas : f.gas < P256) (hwt : wt d + 40000 ≤ 2250000000) (ao : Option Addr) (l c : Nat) (xs : List Nat) (hA : SStk G w ao l c xs) (hl : l ≤ 100) (ha : ∀ i, xs.getD i 0 < P256) :
    Calls Sakg.prog 217 #[.pointer (some ⟨bw, 0, none⟩), .pointer (some ⟨gf, 60 * r.length, none⟩), .int .u8 52, .slice ao l c] w (ValR G bw gf fr B d (f :: r) x 0 w) := by
  have hBB := big_ge
  have hP := p256_ge
  have hPB := p256_big2
  have hfx := h.fx
  obtain ⟨o, ho⟩ : ∃ o, o = 60 * r.length := ⟨_, rfl⟩
  rw [← ho] at hfx ⊢
  have HO := hide ho
  have HF := hide hfx
  have HSR := hide h
  have HX := hide hx
  have HFF := hide hf
  have H0 := hide (operandK G ao l c xs 0 w hA hl (by omega))
  have H1 := hide (operandK G ao l c xs 1 w hA hl (by omega))
  have H2 := hide (operandK G ao l c xs 2 w hA hl (by omega))
  have x0 := ha 0
  have x1 := ha 1
  have x2 := ha 2
  have HFm := hide (family_any 52 (by omega) w)
  rw [show famA 52 = 2 from rfl] at HFm
  obtain ⟨Av, kv, cv, p1, p2⟩ := hfx.kf.value
  have hc : w.cell? ⟨gf, o + 5, none⟩ = some (.slice Av kv cv) := hfx.cell p1
  have hlv : f.value < P256 := hf.value
  have HC := hide (norm_knat Av kv cv f.value w p2.now (Nat.lt_trans hlv p256_lt))
  generalize f.value = vv at HC hlv
  clear p1 p2
  generalize xs.getD 0 0 = m0 at H0 x0
  generalize xs.getD 1 0 = m1 at H1 x1
  generalize xs.getD 2 0 = m2 at H2 x2
  clear h hfx hx hA ha ho hf
  go_enter Sakg.func217, Sakg.ntmps217
  go_wp2_with fail
  refine (unhide H0).mono ?_
  rintro e w1 ⟨⟨A0, k0, c0, rfl, n0⟩, rfl⟩
  have N0 := hide n0
  clear n0
  go_wp2_with fail
  refine (unhide H1).mono ?_
  rintro e w1 ⟨⟨A1, k1, c1, rfl, n1⟩, rfl⟩
  have N1 := hide n1
  clear n1
  go_wp2_with (first
    | (go_at_call 120; refine (unhide HFm).mono ?_; rintro e w1 ⟨rfl, rfl⟩)
    | (go_at_call 90; refine (unhide HC).mono ?_; rintro e w6 ⟨A6, k6, c6, rfl, n6, N6, b6⟩; have NN6 := hide n6; clear n6))
  go_ret
  exact ValR.new (unhide HSR) hg (unhide NN6) N6 hlv b6
set_option maxHeartbeats 8000000 in
theorem valueK_58 (h : SR G bw gf cs fr d (f :: r) x w) (hx : XB x) (hg : Good B d) (hf : AnyF f) (hml : f.ml ≤ 1000000) (hgas : f.gas < P256) (hwt : wt d + 40000 ≤ 2250000000) (ao : Option Addr) (l c : Nat) (xs : List Nat) (hA : SStk G w ao l c xs) (hl : l ≤ 100) (ha : ∀ i, xs.getD i 0 < P256) :
    Calls Sakg.prog 217 #[.pointer (some ⟨bw, 0, none⟩), .pointer (some ⟨gf, 60 * r.length, none⟩), .int .u8 58, .slice ao l c] w (ValR G bw gf fr B d (f :: r) x 0 w) := by
  have hBB := big_ge
  have hP := p256_ge
  have hPB := p256_big2
  have hfx := h.fx
  obtain ⟨o, ho⟩ : ∃ o, o = 60 * r.length := ⟨_, rfl⟩
  rw [← ho] at hfx ⊢
  have HO := hide ho
  have HF := hide hfx
  have HSR := hide h
  have HX := hide hx
  have HFF := hide hf
  have H0 := hide (operandK G ao l c xs 0 w hA hl (by omega))
  have H1 := hide (operandK G ao l c xs 1 w hA hl (by omega))
  have H2 := hide (operandK G ao l c xs 2 w hA hl (by omega))
  have x0 := ha 0
  have x1 := ha 1
  have x2 := ha 2
  have HFm := hide (family_any 58 (by omega) w)
  rw [show famA 58 = 2 from rfl] at HFm
  obtain ⟨Av, kv, cv, p1, p2⟩ := h.xs.price
  have hc : w.cell? ⟨bw, 17, none⟩ = some (.slice Av kv cv) := h.cw.cell p1
  have hlv : x.price < P256 := hx.price
  have HC := hide (norm_knat Av kv cv x.price w p2.now (Nat.lt_trans hlv p256_lt))
  generalize x.price = vv at HC hlv
  clear p1 p2
  generalize xs.getD 0 0 = m0 at H0 x0
  generalize xs.getD 1 0 = m1 at H1 x1
  generalize xs.getD 2 0 = m2 at H2 x2
  clear h hfx hx hA ha ho hf
  go_enter Sakg.func217, Sakg.ntmps217
  go_wp2_with fail
  refine (unhide H0).mono ?_
  rintro e w1 ⟨⟨A0, k0, c0, rfl, n0⟩, rfl⟩
  have N0 := hide n0
  clear n0
  go_wp2_with fail
  refine (unhide H1).mono ?_
  rintro e w1 ⟨⟨A1, k1, c1, rfl, n1⟩, rfl⟩
  have N1 := hide n1
  clear n1
  go_wp2_with (first
    | (go_at_call 120; refine (unhide HFm).mono ?_; rintro e w1 ⟨rfl, rfl⟩)
    | (go_at_call 90; refine (unhide HC).mono ?_; rintro e w6 ⟨A6, k6, c6, rfl, n6, N6, b6⟩; have NN6 := hide n6; clear n6))
  go_ret
  exact ValR.new (unhide HSR) hg (unhide NN6) N6 hlv b6
set_option maxHeartbeats 8000000 in
theorem valueK_88 (h : SR G bw gf cs fr d (f :: r) x w) (hx : XB x) (hg : Good B d) (hf : AnyF f) (hml : f.ml ≤ 1000000) (hgas : f.gas < P256) (hwt : wt d + 40000 ≤ 2250000000) (ao : Option Addr) (l c : Nat) (xs : List Nat) (hA : SStk G w ao l c xs) (hl : l ≤ 100) (ha : ∀ i, xs.getD i 0 < P256) :
    Calls Sakg.prog 217 #[.pointer (some ⟨bw, 0, none⟩), .pointer (some ⟨gf, 60 * r.length, none⟩), .int .u8 88, .slice ao l c] w (ValR G bw gf fr B d (f :: r) x 0 w) := by
  have hBB := big_ge
  have hP := p256_ge
  have hPB := p256_big2
  have hfx := h.fx
  obtain ⟨o, ho⟩ : ∃ o, o = 60 * r.length := ⟨_, rfl⟩
  rw [← ho] at hfx ⊢
  have HO := hide ho
  have HF := hide hfx
  have HSR := hide h
  have HX := hide hx
  have HFF := hide hf
  have H0 := hide (operandK G ao l c xs 0 w hA hl (by omega))
  have H1 := hide (operandK G ao l c xs 1 w hA hl (by omega))
  have H2 := hide (operandK G ao l c xs 2 w hA hl (by omega))
  have x0 := ha 0
  have x1 := ha 1
  have x2 := ha 2
  have HFm := hide (family_any 88 (by omega) w)
  rw [show famA 88 = 4 from rfl] at HFm
  obtain ⟨Av, kv, cv, p1, p2⟩ := hfx.kf.pc
  have hc : w.cell? ⟨gf, o + 3, none⟩ = some (.slice Av kv cv) := hfx.cell p1
  have hlv : f.pc < P256 := hf.pc
  have HC := hide (norm_knat Av kv cv f.pc w p2.now (Nat.lt_trans hlv p256_lt))
  generalize f.pc = vv at HC hlv
  clear p1 p2
  generalize xs.getD 0 0 = m0 at H0 x0
  generalize xs.getD 1 0 = m1 at H1 x1
  generalize xs.getD 2 0 = m2 at H2 x2
  clear h hfx hx hA ha ho hf
  go_enter Sakg.func217, Sakg.ntmps217
  go_wp2_with fail
  refine (unhide H0).mono ?_
  rintro e w1 ⟨⟨A0, k0, c0, rfl, n0⟩, rfl⟩
  have N0 := hide n0
  clear n0
  go_wp2_with fail
  refine (unhide H1).mono ?_
  rintro e w1 ⟨⟨A1, k1, c1, rfl, n1⟩, rfl⟩
  have N1 := hide n1
  clear n1
  go_wp2_with (first
    | (go_at_call 120; refine (unhide HFm).mono ?_; rintro e w1 ⟨rfl, rfl⟩)
    | (go_at_call 90; refine (unhide HC).mono ?_; rintro e w6 ⟨A6, k6, c6, rfl, n6, N6, b6⟩; have NN6 := hide n6; clear n6))
  go_ret
  exact ValR.new (unhide HSR) hg (unhide NN6) N6 hlv b6
set_option maxHeartbeats 8000000 in
theorem valueK_90 (h : SR G bw gf cs fr d (f :: r) x w) (hx : XB x) (hg : Good B d) (hf : AnyF f) (hml : f.ml ≤ 1000000) (hgas : f.gas < P256) (hwt : wt d + 40000 ≤ 2250000000) (ao : Option Addr) (l c : Nat) (xs : List Nat) (hA : SStk G w ao l c xs) (hl : l ≤ 100) (ha : ∀ i, xs.getD i 0 < P256) :
    Calls Sakg.prog 217 #[.pointer (some ⟨bw, 0, none⟩), .pointer (some ⟨gf, 60 * r.length, none⟩), .int .u8 90, .slice ao l c] w (ValR G bw gf fr B d (f :: r) x 0 w) := by
  have hBB := big_ge
  have hP := p256_ge
  have hPB := p256_big2
  have hfx := h.fx
  obtain ⟨o, ho⟩ : ∃ o, o = 60 * r.length := ⟨_, rfl⟩
  rw [← ho] at hfx ⊢
  have HO := hide ho
  have HF := hide hfx
  have HSR := hide h
  have HX := hide hx
  have HFF := hide hf
  have H0 := hide (operandK G ao l c xs 0 w hA hl (by omega))
  have H1 := hide (operandK G ao l c xs 1 w hA hl (by omega))
  have H2 := hide (operandK G ao l c xs 2 w hA hl (by omega))
  have x0 := ha 0
  have x1 := ha 1
  have x2 := ha 2
  have HFm := hide (family_any 90 (by omega) w)
  rw [show famA 90 = 4 from rfl] at HFm
  obtain ⟨Av, kv, cv, p1, p2⟩ := hfx.kf.gas
  have hc : w.cell? ⟨gf, o + 4, none⟩ = some (.slice Av kv cv) := hfx.cell p1
  have hlv : f.gas < P256 := hgas
  have HC := hide (norm_knat Av kv cv f.gas w p2.now (Nat.lt_trans hlv p256_lt))
  generalize f.gas = vv at HC hlv
  clear p1 p2
  generalize xs.getD 0 0 = m0 at H0 x0
  generalize xs.getD 1 0 = m1 at H1 x1
  generalize xs.getD 2 0 = m2 at H2 x2
  clear h hfx hx hA ha ho hf
  go_enter Sakg.func217, Sakg.ntmps217
  go_wp2_with fail
  refine (unhide H0).mono ?_
  rintro e w1 ⟨⟨A0, k0, c0, rfl, n0⟩, rfl⟩
  have N0 := hide n0
  clear n0
  go_wp2_with fail
  refine (unhide H1).mono ?_
  rintro e w1 ⟨⟨A1, k1, c1, rfl, n1⟩, rfl⟩
  have N1 := hide n1
  clear n1
  go_wp2_with (first
    | (go_at_call 120; refine (unhide HFm).mono ?_; rintro e w1 ⟨rfl, rfl⟩)
    | (go_at_call 90; refine (unhide HC).mono ?_; rintro e w6 ⟨A6, k6, c6, rfl, n6, N6, b6⟩; have NN6 := hide n6; clear n6))
  go_ret
  exact ValR.new (unhide HSR) hg (unhide NN6) N6 hlv b6
set_option maxHeartbeats 8000000 in
theorem valueK_54 (h : SR G bw gf cs fr d (f :: r) x w) (hx : XB x) (hg : Good B d) (hf : AnyF f) (hml : f.ml ≤ 1000000) (hgas : f.gas < P256) (hwt : wt d + 40000 ≤ 2250000000) (ao : Option Addr) (l c : Nat) (xs : List Nat) (hA : SStk G w ao l c xs) (hl : l ≤ 100) (ha : ∀ i, xs.getD i 0 < P256) :
    Calls Sakg.prog 217 #[.pointer (some ⟨bw, 0, none⟩), .pointer (some ⟨gf, 60 * r.length, none⟩), .int .u8 54, .slice ao l c] w (ValR G bw gf fr B d (f :: r) x 0 w) := by
  have hBB := big_ge
  have hP := p256_ge
  have hPB := p256_big2
  have hfx := h.fx
  obtain ⟨o, ho⟩ : ∃ o, o = 60 * r.length := ⟨_, rfl⟩
  rw [← ho] at hfx ⊢
  have HO := hide ho
  have HF := hide hfx
  have HSR := hide h
  have HX := hide hx
  have HFF := hide hf
  have H0 := hide (operandK G ao l c xs 0 w hA hl (by omega))
  have H1 := hide (operandK G ao l c xs 1 w hA hl (by omega))
  have H2 := hide (operandK G ao l c xs 2 w hA hl (by omega))
  have x0 := ha 0
  have x1 := ha 1
  have x2 := ha 2
  have HFm := hide (family_any 54 (by omega) w)
  rw [show famA 54 = 2 from rfl] at HFm
  obtain ⟨Av, kv, cv, p1, p2⟩ := hfx.kf.input
  have hc : w.cell? ⟨gf, o + 11, none⟩ = some (.slice Av kv cv) := hfx.cell p1
  have hkv : kv ≤ 1000000 := by have := p2.now.len_eq; have := hf.input; omega
  clear p1 p2
  have HC := hide (num_any kv w (by omega))
  generalize xs.getD 0 0 = m0 at H0 x0
  generalize xs.getD 1 0 = m1 at H1 x1
  generalize xs.getD 2 0 = m2 at H2 x2
  clear h hfx hx hA ha ho hf
  go_enter Sakg.func217, Sakg.ntmps217
  go_wp2_with fail
  refine (unhide H0).mono ?_
  rintro e w1 ⟨⟨A0, k0, c0, rfl, n0⟩, rfl⟩
  have N0 := hide n0
  clear n0
  go_wp2_with fail
  refine (unhide H1).mono ?_
  rintro e w1 ⟨⟨A1, k1, c1, rfl, n1⟩, rfl⟩
  have N1 := hide n1
  clear n1
  go_wp2_with (first
    | (go_at_call 120; refine (unhide HFm).mono ?_; rintro e w1 ⟨rfl, rfl⟩)
    | (go_at_call 97; refine (unhide HC).mono ?_; rintro e w6 ⟨A6, k6, c6, rfl, n6, N6, b6⟩; have NN6 := hide n6; clear n6))
  go_ret
  exact ValR.new (unhide HSR) hg (unhide NN6) N6 (by omega) b6
set_option maxHeartbeats 8000000 in
theorem valueK_56 (h : SR G bw gf cs fr d (f :: r) x w) (hx : XB x) (hg : Good B d) (hf : AnyF f) (hml : f.ml ≤ 1000000) (hgas : f.gas < P256) (hwt : wt d + 40000 ≤ 2250000000) (ao : Option Addr) (l c : Nat) (xs : List Nat) (hA : SStk G w ao l c xs) (hl : l ≤ 100) (ha : ∀ i, xs.getD i 0 < P256) :
    Calls Sakg.prog 217 #[.pointer (some ⟨bw, 0, none⟩), .pointer (some ⟨gf, 60 * r.length, none⟩), .int .u8 56, .slice ao l c] w (ValR G bw gf fr B d (f :: r) x 0 w) := by
  have hBB := big_ge
  have hP := p256_ge
  have hPB := p256_big2
  have hfx := h.fx
  obtain ⟨o, ho⟩ : ∃ o, o = 60 * r.length := ⟨_, rfl⟩
  rw [← ho] at hfx ⊢
  have HO := hide ho
  have HF := hide hfx
  have HSR := hide h
  have HX := hide hx
  have HFF := hide hf
  have H0 := hide (operandK G ao l c xs 0 w hA hl (by omega))
  have H1 := hide (operandK G ao l c xs 1 w hA hl (by omega))
  have H2 := hide (operandK G ao l c xs 2 w hA hl (by omega))
  have x0 := ha 0
  have x1 := ha 1
  have x2 := ha 2
  have HFm := hide (family_any 56 (by omega) w)
  rw [show famA 56 = 2 from rfl] at HFm
  obtain ⟨Av, kv, cv, p1, p2⟩ := hfx.kf.code
  have hc : w.cell? ⟨gf, o + 10, none⟩ = some (.slice Av kv cv) := hfx.cell p1
  have hkv : kv ≤ 1000000 := by have := p2.now.len_eq; have := hf.code; omega
  clear p1 p2
  have HC := hide (num_any kv w (by omega))
  generalize xs.getD 0 0 = m0 at H0 x0
  generalize xs.getD 1 0 = m1 at H1 x1
  generalize xs.getD 2 0 = m2 at H2 x2
  clear h hfx hx hA ha ho hf
  go_enter Sakg.func217, Sakg.ntmps217
  go_wp2_with fail
  refine (unhide H0).mono ?_
  rintro e w1 ⟨⟨A0, k0, c0, rfl, n0⟩, rfl⟩
  have N0 := hide n0
  clear n0
  go_wp2_with fail
  refine (unhide H1).mono ?_
  rintro e w1 ⟨⟨A1, k1, c1, rfl, n1⟩, rfl⟩
  have N1 := hide n1
  clear n1
  go_wp2_with (first
    | (go_at_call 120; refine (unhide HFm).mono ?_; rintro e w1 ⟨rfl, rfl⟩)
    | (go_at_call 97; refine (unhide HC).mono ?_; rintro e w6 ⟨A6, k6, c6, rfl, n6, N6, b6⟩; have NN6 := hide n6; clear n6))
  go_ret
  exact ValR.new (unhide HSR) hg (unhide NN6) N6 (by omega) b6
set_option maxHeartbeats 8000000 in
theorem valueK_61 (h : SR G bw gf cs fr d (f :: r) x w) (hx : XB x) (hg : Good B d) (hf : AnyF f) (hml : f.ml ≤ 1000000) (hgas : f.gas < P256) (hwt : wt d + 40000 ≤ 2250000000) (ao : Option Addr) (l c : Nat) (xs : List Nat) (hA : SStk G w ao l c xs) (hl : l ≤ 100) (ha : ∀ i, xs.getD i 0 < P256) :
    Calls Sakg.prog 217 #[.pointer (some ⟨bw, 0, none⟩), .pointer (some ⟨gf, 60 * r.length, none⟩), .int .u8 61, .slice ao l c] w (ValR G bw gf fr B d (f :: r) x 0 w) := by
  have hBB := big_ge
  have hP := p256_ge
  have hPB := p256_big2
  have hfx := h.fx
  obtain ⟨o, ho⟩ : ∃ o, o = 60 * r.length := ⟨_, rfl⟩
  rw [← ho] at hfx ⊢
  have HO := hide ho
  have HF := hide hfx
  have HSR := hide h
  have HX := hide hx
  have HFF := hide hf
  have H0 := hide (operandK G ao l c xs 0 w hA hl (by omega))
  have H1 := hide (operandK G ao l c xs 1 w hA hl (by omega))
  have H2 := hide (operandK G ao l c xs 2 w hA hl (by omega))
  have x0 := ha 0
  have x1 := ha 1
  have x2 := ha 2
  have HFm := hide (family_any 61 (by omega) w)
  rw [show famA 61 = 2 from rfl] at HFm
  obtain ⟨Av, kv, cv, p1, p2⟩ := h.xs.ret
  have hc : w.cell? ⟨bw, 10, none⟩ = some (.slice Av kv cv) := h.cw.cell p1
  have hkv : kv ≤ 1000000 := by have := p2.now.len_eq; have := hx.ret; omega
  clear p1 p2
  have HC := hide (num_any kv w (by omega))
  generalize xs.getD 0 0 = m0 at H0 x0
  generalize xs.getD 1 0 = m1 at H1 x1
  generalize xs.getD 2 0 = m2 at H2 x2
  clear h hfx hx hA ha ho hf
  go_enter Sakg.func217, Sakg.ntmps217
  go_wp2_with fail
  refine (unhide H0).mono ?_
  rintro e w1 ⟨⟨A0, k0, c0, rfl, n0⟩, rfl⟩
  have N0 := hide n0
  clear n0
  go_wp2_with fail
  refine (unhide H1).mono ?_
  rintro e w1 ⟨⟨A1, k1, c1, rfl, n1⟩, rfl⟩
  have N1 := hide n1
  clear n1
  go_wp2_with (first
    | (go_at_call 120; refine (unhide HFm).mono ?_; rintro e w1 ⟨rfl, rfl⟩)
    | (go_at_call 97; refine (unhide HC).mono ?_; rintro e w6 ⟨A6, k6, c6, rfl, n6, N6, b6⟩; have NN6 := hide n6; clear n6))
  go_ret
  exact ValR.new (unhide HSR) hg (unhide NN6) N6 (by omega) b6
set_option maxHeartbeats 8000000 in
theorem valueK_89 (h : SR G bw gf cs fr d (f :: r) x w) (hx : XB x) (hg : Good B d) (hf : AnyF f) (hml : f.ml ≤ 1000000) (hgas : f.gas < P256) (hwt : wt d + 40000 ≤ 2250000000) (ao : Option Addr) (l c : Nat) (xs : List Nat) (hA : SStk G w ao l c xs) (hl : l ≤ 100) (ha : ∀ i, xs.getD i 0 < P256) :
    Calls Sakg.prog 217 #[.pointer (some ⟨bw, 0, none⟩), .pointer (some ⟨gf, 60 * r.length, none⟩), .int .u8 89, .slice ao l c] w (ValR G bw gf fr B d (f :: r) x 0 w) := by
  have hBB := big_ge
  have hP := p256_ge
  have hPB := p256_big2
  have hfx := h.fx
  obtain ⟨o, ho⟩ : ∃ o, o = 60 * r.length := ⟨_, rfl⟩
  rw [← ho] at hfx ⊢
  have HO := hide ho
  have HF := hide hfx
  have HSR := hide h
  have HX := hide hx
  have HFF := hide hf
  have H0 := hide (operandK G ao l c xs 0 w hA hl (by omega))
  have H1 := hide (operandK G ao l c xs 1 w hA hl (by omega))
  have H2 := hide (operandK G ao l c xs 2 w hA hl (by omega))
  have x0 := ha 0
  have x1 := ha 1
  have x2 := ha 2
  have HFm := hide (family_any 89 (by omega) w)
  rw [show famA 89 = 2 from rfl] at HFm
  obtain ⟨Av, cv, p1, p2⟩ := hfx.kf.mem
  have hc : w.cell? ⟨gf, o + 9, none⟩ = some (.slice Av f.ml cv) := hfx.cell p1
  obtain ⟨kv, hkve⟩ : ∃ kv, kv = f.ml := ⟨_, rfl⟩
  rw [← hkve] at hc
  have hkv : kv ≤ 1000000 := by omega
  clear p1 p2 hkve
  have HC := hide (num_any kv w (by omega))
  generalize xs.getD 0 0 = m0 at H0 x0
  generalize xs.getD 1 0 = m1 at H1 x1
  generalize xs.getD 2 0 = m2 at H2 x2
  clear h hfx hx hA ha ho hf
  go_enter Sakg.func217, Sakg.ntmps217
  go_wp2_with fail
  refine (unhide H0).mono ?_
  rintro e w1 ⟨⟨A0, k0, c0, rfl, n0⟩, rfl⟩
  have N0 := hide n0
  clear n0
  go_wp2_with fail
  refine (unhide H1).mono ?_
  rintro e w1 ⟨⟨A1, k1, c1, rfl, n1⟩, rfl⟩
  have N1 := hide n1
  clear n1
  go_wp2_with (first
    | (go_at_call 120; refine (unhide HFm).mono ?_; rintro e w1 ⟨rfl, rfl⟩)
    | (go_at_call 97; refine (unhide HC).mono ?_; rintro e w6 ⟨A6, k6, c6, rfl, n6, N6, b6⟩; have NN6 := hide n6; clear n6))
  go_ret
  exact ValR.new (unhide HSR) hg (unhide NN6) N6 (by omega) b6
set_option maxHeartbeats 8000000 in
theorem valueK_53 (h : SR G bw gf cs fr d (f :: r) x w) (hx : XB x) (hg : Good B d) (hf : AnyF f) (hml : f.ml ≤ 1000000) (hgas : f.gas < P256) (hwt : wt d + 40000 ≤ 2250000000) (ao : Option Addr) (l c : Nat) (xs : List Nat) (hA : SStk G w ao l c xs) (hl : l ≤ 100) (ha : ∀ i, xs.getD i 0 < P256) :
    Calls Sakg.prog 217 #[.pointer (some ⟨bw, 0, none⟩), .pointer (some ⟨gf, 60 * r.length, none⟩), .int .u8 53, .slice ao l c] w (ValR G bw gf fr B d (f :: r) x 0 w) := by
  have hBB := big_ge
  have hP := p256_ge
  have hPB := p256_big2
  have hfx := h.fx
  obtain ⟨o, ho⟩ : ∃ o, o = 60 * r.length := ⟨_, rfl⟩
  rw [← ho] at hfx ⊢
  have HO := hide ho
  have HF := hide hfx
  have HSR := hide h
  have HX := hide hx
  have HFF := hide hf
  have H0 := hide (operandK G ao l c xs 0 w hA hl (by omega))
  have H1 := hide (operandK G ao l c xs 1 w hA hl (by omega))
  have H2 := hide (operandK G ao l c xs 2 w hA hl (by omega))
  have x0 := ha 0
  have x1 := ha 1
  have x2 := ha 2
  have HFm := hide (family_any 53 (by omega) w)
  rw [show famA 53 = 2 from rfl] at HFm
  obtain ⟨Av, kv, cv, p1, p2⟩ := hfx.kf.input
  have hkv : kv ≤ 1000000 := by have := p2.now.len_eq; have := hf.input; omega
  have xc : ∀ wz, Below w.heap.size w wz → wz.cell? ⟨gf, o + 11, none⟩ = some (.slice Av kv cv) ∧ ∃ bs, Src wz Av kv cv bs := fun wz hz => ⟨(hfx.kept hz).cell p1, _, (p2.kp (ChgS.of hz)).now⟩
  have XC := hide xc
  have dW : Below w.heap.size w w.drew := Quiet.below ⟨1, rfl⟩ _
  clear p1 p2 xc
  generalize xs.getD 0 0 = m0 at H0 x0
  generalize xs.getD 1 0 = m1 at H1 x1
  generalize xs.getD 2 0 = m2 at H2 x2
  clear h hfx hx hA ha ho hf
  go_enter Sakg.func217, Sakg.ntmps217
  go_wp2_with fail
  refine (unhide H0).mono ?_
  rintro e w1 ⟨⟨A0, k0, c0, rfl, n0⟩, rfl⟩
  have N0 := hide n0
  clear n0
  go_wp2_with fail
  refine (unhide H1).mono ?_
  rintro e w1 ⟨⟨A1, k1, c1, rfl, n1⟩, rfl⟩
  have N1 := hide n1
  clear n1
  go_upto_region 28 with (go_at_call 120; refine (unhide HFm).mono ?_; rintro e w1 ⟨rfl, rfl⟩)
  refine wp_region_noPanic ?_
  refine wp_region_held_drew (S := fun w' => Below w.heap.size w w') (by kernel_rfl) (dW) (fun hHeld => ?_)
  refine held_takeD 0 (.pointer (some ⟨gf, o, none⟩)) (some 124) (by rfl) (by rfl) (by kernel_rfl) (by kernel_rfl) (by kernel_rfl) (fun _ _ _ h => h) (.inl ⟨by rfl, fun _ _ => by rfl⟩) (hHeld) ?_
  simp only [Act.put, List.setIfInBounds_toArray, List.set_cons_zero, List.set_cons_succ]
  refine held_takeD 1 (.pointer (some ⟨gf, o, none⟩)) (some 125) (by rfl) (by rfl) (by kernel_rfl) (by kernel_rfl) (by kernel_rfl) (fun _ _ _ h => h) (.inl ⟨by rfl, fun _ _ => by go_simp⟩) (hHeld) ?_
  simp only [Act.put, List.setIfInBounds_toArray, List.set_cons_zero, List.set_cons_succ]
  refine held_takeD 2 (.pointer (some ⟨gf, o + 11, none⟩)) (some 126) (by rfl) (by rfl) (by kernel_rfl) (by kernel_rfl) (by kernel_rfl) (fun _ _ _ h => h) (.inl ⟨by rfl, fun _ _ => by go_simp⟩) (hHeld) ?_
  simp only [Act.put, List.setIfInBounds_toArray, List.set_cons_zero, List.set_cons_succ]
  refine held_takeD 3 (.slice Av kv cv) (some 127) (by rfl) (by rfl) (by kernel_rfl) (by kernel_rfl) (by kernel_rfl) (fun _ _ _ h => h) (.inl ⟨by rfl, fun wS hS => by have hc := (unhide XC wS hS).1; go_simp⟩) (hHeld) ?_
  simp only [Act.put, List.setIfInBounds_toArray, List.set_cons_zero, List.set_cons_succ]
  refine held_takeD 4 (.slice A0 k0 c0) (some 128) (by rfl) (by rfl) (by kernel_rfl) (by kernel_rfl) (by kernel_rfl) (fun _ _ _ h => h) (.inl ⟨by rfl, fun _ _ => by rfl⟩) (hHeld) ?_
  simp only [Act.put, List.setIfInBounds_toArray, List.set_cons_zero, List.set_cons_succ]
  refine held_one 5 (by kernel_rfl) (by rfl) (fun K' hK' => ?_)
  go_simp
  refine (num_any 32 w.drew (by omega)).mono ?_
  rintro e w2 ⟨A2, k2, c2, rfl, n2, N2, b2⟩
  refine hK'.out _ _ (dW.thn b2) ?_
  clear hK' K'
  have d2 : Below w.heap.size w w2 := dW.thn b2
  obtain ⟨bs, hbs⟩ := (unhide XC w2 d2).2
  refine held_one 6 (by kernel_rfl) (by rfl) (fun K' hK' => ?_)
  go_simp
  refine (cut_any Av kv cv bs A0 A2 k0 c0 k2 c2 m0 32 w2 hbs ((unhide N0).kp (ChgS.of d2)).now n2 (by omega) (by omega) (by omega)).mono ?_
  rintro e w6 ⟨g6, ys, rfl, o6, hyl, hyb, hg6, b6⟩
  refine hK'.out _ _ (d2.thn b6) ?_
  clear hK' K'
  have d6 : Below w.heap.size w w6 := d2.thn b6
  refine held_one 7 (by kernel_rfl) (by rfl) (fun K' hK' => ?_)
  go_simp
  refine (fromBE_any _ 32 32 _ w6 (o6.src_all hyb 32 hyl.symm (by unfold maxLen; omega)) (by omega)).mono ?_
  rintro e w7 ⟨A7, k7, c7, rfl, n7, N7, b7⟩
  refine hK'.out _ _ (d6.thn b7) ?_
  clear hK' K'
  refine held_takeD 8 (.slice A7 k7 c7) (some 8) (by rfl) (by rfl) (by kernel_rfl) (by kernel_rfl) (by kernel_rfl) (fun _ _ _ h => h) (.inl ⟨by rfl, fun _ _ => by rfl⟩) (d6.thn b7) ?_
  simp only [Act.put, List.setIfInBounds_toArray, List.set_cons_zero, List.set_cons_succ]
  refine wpAnyH_done (by kernel_rfl) ?_ _
  refine NoPanic.normal ?_
  have hlv := beN_lt256 hyb (by omega)
  have NN7 := hide n7
  clear n7 n2 o6 hbs
  go_wp2
  go_ret
  exact ValR.new (unhide HSR) hg (unhide NN7) (N7.later d6.size) hlv (d6.thn b7)
set_option maxHeartbeats 8000000 in
theorem valueK_81 (h : SR G bw gf cs fr d (f :: r) x w) (hx : XB x) (hg : Good B d) (hf : AnyF f) (hml : f.ml ≤ 1000000) (hgas : f.gas < P256) (hwt : wt d + 40000 ≤ 2250000000) (ao : Option Addr) (l c : Nat) (xs : List Nat) (hA : SStk G w ao l c xs) (hl : l ≤ 100) (ha : ∀ i, xs.getD i 0 < P256) :
    Calls Sakg.prog 217 #[.pointer (some ⟨bw, 0, none⟩), .pointer (some ⟨gf, 60 * r.length, none⟩), .int .u8 81, .slice ao l c] w (ValR G bw gf fr B d (f :: r) x 0 w) := by
  have hBB := big_ge
  have hP := p256_ge
  have hPB := p256_big2
  have hfx := h.fx
  obtain ⟨o, ho⟩ : ∃ o, o = 60 * r.length := ⟨_, rfl⟩
  rw [← ho] at hfx ⊢
  have HO := hide ho
  have HF := hide hfx
  have HSR := hide h
  have HX := hide hx
  have HFF := hide hf
  have H0 := hide (operandK G ao l c xs 0 w hA hl (by omega))
  have H1 := hide (operandK G ao l c xs 1 w hA hl (by omega))
  have H2 := hide (operandK G ao l c xs 2 w hA hl (by omega))
  have x0 := ha 0
  have x1 := ha 1
  have x2 := ha 2
  have HFm := hide (family_any 81 (by omega) w)
  rw [show famA 81 = 2 from rfl] at HFm
  obtain ⟨Av, cv, p1, p2⟩ := hfx.kf.mem
  have xc : ∀ wz, Below w.heap.size w wz → wz.cell? ⟨gf, o + 9, none⟩ = some (.slice Av f.ml cv) ∧ ∃ bs, Src wz Av f.ml cv bs := fun wz hz => ⟨(hfx.kept hz).cell p1, (p2.go (Tm.of hz)).src hml⟩
  obtain ⟨kv, hkve⟩ : ∃ kv, kv = f.ml := ⟨_, rfl⟩
  rw [← hkve] at xc
  have hkv : kv ≤ 1000000 := by omega
  clear hkve
  have XC := hide xc
  have dW : Below w.heap.size w w.drew := Quiet.below ⟨1, rfl⟩ _
  clear p1 p2 xc
  generalize xs.getD 0 0 = m0 at H0 x0
  generalize xs.getD 1 0 = m1 at H1 x1
  generalize xs.getD 2 0 = m2 at H2 x2
  clear h hfx hx hA ha ho hf
  go_enter Sakg.func217, Sakg.ntmps217
  go_wp2_with fail
  refine (unhide H0).mono ?_
  rintro e w1 ⟨⟨A0, k0, c0, rfl, n0⟩, rfl⟩
  have N0 := hide n0
  clear n0
  go_wp2_with fail
  refine (unhide H1).mono ?_
  rintro e w1 ⟨⟨A1, k1, c1, rfl, n1⟩, rfl⟩
  have N1 := hide n1
  clear n1
  go_upto_region 40 with (go_at_call 120; refine (unhide HFm).mono ?_; rintro e w1 ⟨rfl, rfl⟩)
  refine wp_region_noPanic ?_
  refine wp_region_held_drew (S := fun w' => Below w.heap.size w w') (by kernel_rfl) (dW) (fun hHeld => ?_)
  refine held_takeD 0 (.pointer (some ⟨gf, o, none⟩)) (some 180) (by rfl) (by rfl) (by kernel_rfl) (by kernel_rfl) (by kernel_rfl) (fun _ _ _ h => h) (.inl ⟨by rfl, fun _ _ => by rfl⟩) (hHeld) ?_
  simp only [Act.put, List.setIfInBounds_toArray, List.set_cons_zero, List.set_cons_succ]
  refine held_takeD 1 (.pointer (some ⟨gf, o, none⟩)) (some 181) (by rfl) (by rfl) (by kernel_rfl) (by kernel_rfl) (by kernel_rfl) (fun _ _ _ h => h) (.inl ⟨by rfl, fun _ _ => by go_simp⟩) (hHeld) ?_
  simp only [Act.put, List.setIfInBounds_toArray, List.set_cons_zero, List.set_cons_succ]
  refine held_takeD 2 (.pointer (some ⟨gf, o + 9, none⟩)) (some 182) (by rfl) (by rfl) (by kernel_rfl) (by kernel_rfl) (by kernel_rfl) (fun _ _ _ h => h) (.inl ⟨by rfl, fun _ _ => by go_simp⟩) (hHeld) ?_
  simp only [Act.put, List.setIfInBounds_toArray, List.set_cons_zero, List.set_cons_succ]
  refine held_takeD 3 (.slice Av kv cv) (some 183) (by rfl) (by rfl) (by kernel_rfl) (by kernel_rfl) (by kernel_rfl) (fun _ _ _ h => h) (.inl ⟨by rfl, fun wS hS => by have hc := (unhide XC wS hS).1; go_simp⟩) (hHeld) ?_
  simp only [Act.put, List.setIfInBounds_toArray, List.set_cons_zero, List.set_cons_succ]
  refine held_takeD 4 (.slice A0 k0 c0) (some 184) (by rfl) (by rfl) (by kernel_rfl) (by kernel_rfl) (by kernel_rfl) (fun _ _ _ h => h) (.inl ⟨by rfl, fun _ _ => by rfl⟩) (hHeld) ?_
  simp only [Act.put, List.setIfInBounds_toArray, List.set_cons_zero, List.set_cons_succ]
  refine held_one 5 (by kernel_rfl) (by rfl) (fun K' hK' => ?_)
  go_simp
  refine (num_any 32 w.drew (by omega)).mono ?_
  rintro e w2 ⟨A2, k2, c2, rfl, n2, N2, b2⟩
  refine hK'.out _ _ (dW.thn b2) ?_
  clear hK' K'
  have d2 : Below w.heap.size w w2 := dW.thn b2
  obtain ⟨bs, hbs⟩ := (unhide XC w2 d2).2
  refine held_one 6 (by kernel_rfl) (by rfl) (fun K' hK' => ?_)
  go_simp
  refine (cut_any Av kv cv bs A0 A2 k0 c0 k2 c2 m0 32 w2 hbs ((unhide N0).kp (ChgS.of d2)).now n2 (by omega) (by omega) (by omega)).mono ?_
  rintro e w6 ⟨g6, ys, rfl, o6, hyl, hyb, hg6, b6⟩
  refine hK'.out _ _ (d2.thn b6) ?_
  clear hK' K'
  have d6 : Below w.heap.size w w6 := d2.thn b6
  refine held_one 7 (by kernel_rfl) (by rfl) (fun K' hK' => ?_)
  go_simp
  refine (fromBE_any _ 32 32 _ w6 (o6.src_all hyb 32 hyl.symm (by unfold maxLen; omega)) (by omega)).mono ?_
  rintro e w7 ⟨A7, k7, c7, rfl, n7, N7, b7⟩
  refine hK'.out _ _ (d6.thn b7) ?_
  clear hK' K'
  refine held_takeD 8 (.slice A7 k7 c7) (some 8) (by rfl) (by rfl) (by kernel_rfl) (by kernel_rfl) (by kernel_rfl) (fun _ _ _ h => h) (.inl ⟨by rfl, fun _ _ => by rfl⟩) (d6.thn b7) ?_
  simp only [Act.put, List.setIfInBounds_toArray, List.set_cons_zero, List.set_cons_succ]
  refine wpAnyH_done (by kernel_rfl) ?_ _
  refine NoPanic.normal ?_
  have hlv := beN_lt256 hyb (by omega)
  have NN7 := hide n7
  clear n7 n2 o6 hbs
  go_wp2
  go_ret
  exact ValR.new (unhide HSR) hg (unhide NN7) (N7.later d6.size) hlv (d6.thn b7)
set_option maxHeartbeats 8000000 in
theorem valueK_71 (h : SR G bw gf cs fr d (f :: r) x w) (hx : XB x) (hg : Good B d) (hf : AnyF f) (hml : f.ml ≤ 1000000) (hgas : f.gas < P256) (hwt : wt d + 40000 ≤ 2250000000) (ao : Option Addr) (l c : Nat) (xs : List Nat) (hA : SStk G w ao l c xs) (hl : l ≤ 100) (ha : ∀ i, xs.getD i 0 < P256) :
    Calls Sakg.prog 217 #[.pointer (some ⟨bw, 0, none⟩), .pointer (some ⟨gf, 60 * r.length, none⟩), .int .u8 71, .slice ao l c] w (ValR G bw gf fr B d (f :: r) x 0 w) := by
  have hBB := big_ge
  have hP := p256_ge
  have hPB := p256_big2
  have hfx := h.fx
  obtain ⟨o, ho⟩ : ∃ o, o = 60 * r.length := ⟨_, rfl⟩
  rw [← ho] at hfx ⊢
  have HO := hide ho
  have HF := hide hfx
  have HSR := hide h
  have HX := hide hx
  have HFF := hide hf
  have H0 := hide (operandK G ao l c xs 0 w hA hl (by omega))
  have H1 := hide (operandK G ao l c xs 1 w hA hl (by omega))
  have H2 := hide (operandK G ao l c xs 2 w hA hl (by omega))
  have x0 := ha 0
  have x1 := ha 1
  have x2 := ha 2
  have HFm := hide (family_any 71 (by omega) w)
  rw [show famA 71 = 2 from rfl] at HFm
  have hslf := hfx.kf.selfA
  have hu := Sakg.underlying26
  have hsz := hslf.size
  obtain ⟨sf, hsf⟩ : ∃ sf, sf = f.self := ⟨_, rfl⟩
  have hrg : ∀ wz, Below w.heap.size w wz → wz.rangeAt gf (o + 12) (bv sf) := fun wz hz => by rw [hsf]; exact (hfx.kept hz).selfR
  rw [← hsf] at hslf hsz
  have HRG := hide hrg
  have HSF := hide hsf
  have dW : Below w.heap.size w w.drew := Quiet.below ⟨1, rfl⟩ _
  clear hrg hsf
  generalize xs.getD 0 0 = m0 at H0 x0
  generalize xs.getD 1 0 = m1 at H1 x1
  generalize xs.getD 2 0 = m2 at H2 x2
  clear h hfx hx hA ha ho hf
  go_enter Sakg.func217, Sakg.ntmps217
  go_wp2_with fail
  refine (unhide H0).mono ?_
  rintro e w1 ⟨⟨A0, k0, c0, rfl, n0⟩, rfl⟩
  have N0 := hide n0
  clear n0
  go_wp2_with fail
  refine (unhide H1).mono ?_
  rintro e w1 ⟨⟨A1, k1, c1, rfl, n1⟩, rfl⟩
  have N1 := hide n1
  clear n1
  go_upto_region 38 with (go_at_call 120; refine (unhide HFm).mono ?_; rintro e w1 ⟨rfl, rfl⟩)
  refine wp_region_noPanic ?_
  refine wp_region_held_drew (S := fun w' => Below w.heap.size w w') (by kernel_rfl) (dW) (fun hHeld => ?_)
  refine held_takeD 0 (.pointer (some ⟨bw, 0, none⟩)) (some 168) (by rfl) (by rfl) (by kernel_rfl) (by kernel_rfl) (by kernel_rfl) (fun _ _ _ h => h) (.inl ⟨by rfl, fun _ _ => by rfl⟩) (hHeld) ?_
  simp only [Act.put, List.setIfInBounds_toArray, List.set_cons_zero, List.set_cons_succ]
  refine held_takeD 1 (.pointer (some ⟨bw, 0, none⟩)) (some 169) (by rfl) (by rfl) (by kernel_rfl) (by kernel_rfl) (by kernel_rfl) (fun _ _ _ h => h) (.inl ⟨by rfl, fun _ _ => by go_simp⟩) (hHeld) ?_
  simp only [Act.put, List.setIfInBounds_toArray, List.set_cons_zero, List.set_cons_succ]
  refine held_takeD 2 (.pointer (some ⟨bw, 0, none⟩)) (some 170) (by rfl) (by rfl) (by kernel_rfl) (by kernel_rfl) (by kernel_rfl) (fun _ _ _ h => h) (.inl ⟨by rfl, fun _ _ => by go_simp⟩) (hHeld) ?_
  simp only [Act.put, List.setIfInBounds_toArray, List.set_cons_zero, List.set_cons_succ]
  refine held_takeD 3 (.pointer (some ⟨gf, o, none⟩)) (some 171) (by rfl) (by rfl) (by kernel_rfl) (by kernel_rfl) (by kernel_rfl) (fun _ _ _ h => h) (.inl ⟨by rfl, fun _ _ => by rfl⟩) (hHeld) ?_
  simp only [Act.put, List.setIfInBounds_toArray, List.set_cons_zero, List.set_cons_succ]
  refine held_takeD 4 (.pointer (some ⟨gf, o, none⟩)) (some 172) (by rfl) (by rfl) (by kernel_rfl) (by kernel_rfl) (by kernel_rfl) (fun _ _ _ h => h) (.inl ⟨by rfl, fun _ _ => by go_simp⟩) (hHeld) ?_
  simp only [Act.put, List.setIfInBounds_toArray, List.set_cons_zero, List.set_cons_succ]
  refine held_takeD 5 (.pointer (some ⟨gf, o + 12, none⟩)) (some 173) (by rfl) (by rfl) (by kernel_rfl) (by kernel_rfl) (by kernel_rfl) (fun _ _ _ h => h) (.inl ⟨by rfl, fun _ _ => by go_simp⟩) (hHeld) ?_
  simp only [Act.put, List.setIfInBounds_toArray, List.set_cons_zero, List.set_cons_succ]
  refine held_takeD 6 (.agg (bv sf).toArray) (some 174) (by rfl) (by rfl) (by kernel_rfl) (by kernel_rfl) (by kernel_rfl) (fun _ _ _ h => h) (yieldsIf_load_mid (by rfl) _ _ rfl _ _ rfl _ _ (fun wz hS => unhide HRG wz hS) hu rfl hsz) (hHeld) ?_
  simp only [Act.put, List.setIfInBounds_toArray, List.set_cons_zero, List.set_cons_succ]
  refine held_one 7 (by kernel_rfl) (by rfl) (fun K' hK' => ?_)
  go_simp
  refine ((unhide HSR).cw.accountAt hg dW sf hslf).mono ?_
  rintro e w2 ⟨rs, rfl, hrs, b2⟩
  refine hK'.out _ _ (dW.thn b2) ?_
  clear hK' K'
  have d2 : Below w.heap.size w w2 := dW.thn b2
  obtain ⟨B1, j1, e1, B2, j2, e2, B3, j3, e3, B4, j4, e4, q20, q21, q22, q23, s1, s2, s3, s4⟩ := hrs.cells
  have hfld := run_field_slice fldBal Sakg.underlying54 rs _ q21
  refine held_takeD 8 (.slice B2 j2 e2) (some 176) (by rfl) (by rfl) (by kernel_rfl) (by kernel_rfl) (by kernel_rfl) (fun _ _ _ h => h) (.inl ⟨by rfl, fun _ _ => by go_simp⟩) (d2) ?_
  simp only [Act.put, List.setIfInBounds_toArray, List.set_cons_zero, List.set_cons_succ]
  refine held_one 9 (by kernel_rfl) (by rfl) (fun K' hK' => ?_)
  go_simp
  refine (norm_knat B2 j2 e2 _ w2 (s2.kp (ChgS.of d2)).now (hg.lookB sf).2).mono ?_
  rintro e w3 ⟨A7, k7, c7, rfl, n7, N7, b7⟩
  refine hK'.out _ _ (d2.thn b7) ?_
  clear hK' K'
  refine held_takeD 10 (.slice A7 k7 c7) (some 8) (by rfl) (by rfl) (by kernel_rfl) (by kernel_rfl) (by kernel_rfl) (fun _ _ _ h => h) (.inl ⟨by rfl, fun _ _ => by rfl⟩) (d2.thn b7) ?_
  simp only [Act.put, List.setIfInBounds_toArray, List.set_cons_zero, List.set_cons_succ]
  refine wpAnyH_done (by kernel_rfl) ?_ _
  refine NoPanic.normal ?_
  have NN7 := hide n7
  clear n7 hrs s1 s2 s3 s4 hfld q20 q21 q22 q23
  go_wp2
  go_ret
  exact ValR.new (unhide HSR) hg (unhide NN7) (N7.later d2.size) (hg.bal sf) (d2.thn b7)
set_option maxHeartbeats 8000000 in
theorem valueK_92 (h : SR G bw gf cs fr d (f :: r) x w) (hx : XB x) (hg : Good B d) (hf : AnyF f) (hml : f.ml ≤ 1000000) (hgas : f.gas < P256) (hwt : wt d + 40000 ≤ 2250000000) (ao : Option Addr) (l c : Nat) (xs : List Nat) (hA : SStk G w ao l c xs) (hl : l ≤ 100) (ha : ∀ i, xs.getD i 0 < P256) :
    Calls Sakg.prog 217 #[.pointer (some ⟨bw, 0, none⟩), .pointer (some ⟨gf, 60 * r.length, none⟩), .int .u8 92, .slice ao l c] w (ValR G bw gf fr B d (f :: r) x 0 w) := by
  have hBB := big_ge
  have hP := p256_ge
  have hPB := p256_big2
  have hfx := h.fx
  obtain ⟨o, ho⟩ : ∃ o, o = 60 * r.length := ⟨_, rfl⟩
  rw [← ho] at hfx ⊢
  have HO := hide ho
  have HF := hide hfx
  have HSR := hide h
  have HX := hide hx
  have HFF := hide hf
  have H0 := hide (operandK G ao l c xs 0 w hA hl (by omega))
  have H1 := hide (operandK G ao l c xs 1 w hA hl (by omega))
  have H2 := hide (operandK G ao l c xs 2 w hA hl (by omega))
  have x0 := ha 0
  have x1 := ha 1
  have x2 := ha 2
  have HFm := hide (family_any 92 (by omega) w)
  rw [show famA 92 = 8 from rfl] at HFm
  have hslf := hfx.kf.selfA
  have hu := Sakg.underlying26
  have hsz := hslf.size
  obtain ⟨sf, hsf⟩ : ∃ sf, sf = f.self := ⟨_, rfl⟩
  have hrg : ∀ wz, Below w.heap.size w wz → wz.rangeAt gf (o + 12) (bv sf) := fun wz hz => by rw [hsf]; exact (hfx.kept hz).selfR
  rw [← hsf] at hslf hsz
  have HRG := hide hrg
  have HSF := hide hsf
  have dW : Below w.heap.size w w.drew := Quiet.below ⟨1, rfl⟩ _
  clear hrg hsf
  generalize xs.getD 0 0 = m0 at H0 x0
  generalize xs.getD 1 0 = m1 at H1 x1
  generalize xs.getD 2 0 = m2 at H2 x2
  clear h hfx hx hA ha ho hf
  go_enter Sakg.func217, Sakg.ntmps217
  go_wp2_with fail
  refine (unhide H0).mono ?_
  rintro e w1 ⟨⟨A0, k0, c0, rfl, n0⟩, rfl⟩
  have N0 := hide n0
  clear n0
  go_wp2_with fail
  refine (unhide H1).mono ?_
  rintro e w1 ⟨⟨A1, k1, c1, rfl, n1⟩, rfl⟩
  have N1 := hide n1
  clear n1
  go_upto_region 45 with (go_at_call 120; refine (unhide HFm).mono ?_; rintro e w1 ⟨rfl, rfl⟩)
  refine wp_region_noPanic ?_
  refine wp_region_held_drew (S := fun w' => Below w.heap.size w w') (by kernel_rfl) (dW) (fun hHeld => ?_)
  refine held_takeD 0 (.pointer (some ⟨bw, 0, none⟩)) (some 210) (by rfl) (by rfl) (by kernel_rfl) (by kernel_rfl) (by kernel_rfl) (fun _ _ _ h => h) (.inl ⟨by rfl, fun _ _ => by rfl⟩) (hHeld) ?_
  simp only [Act.put, List.setIfInBounds_toArray, List.set_cons_zero, List.set_cons_succ]
  refine held_takeD 1 (.pointer (some ⟨bw, 0, none⟩)) (some 211) (by rfl) (by rfl) (by kernel_rfl) (by kernel_rfl) (by kernel_rfl) (fun _ _ _ h => h) (.inl ⟨by rfl, fun _ _ => by go_simp⟩) (hHeld) ?_
  simp only [Act.put, List.setIfInBounds_toArray, List.set_cons_zero, List.set_cons_succ]
  refine held_takeD 2 (.pointer (some ⟨bw, 0, none⟩)) (some 212) (by rfl) (by rfl) (by kernel_rfl) (by kernel_rfl) (by kernel_rfl) (fun _ _ _ h => h) (.inl ⟨by rfl, fun _ _ => by go_simp⟩) (hHeld) ?_
  simp only [Act.put, List.setIfInBounds_toArray, List.set_cons_zero, List.set_cons_succ]
  refine held_takeD 3 (.pointer (some ⟨gf, o, none⟩)) (some 213) (by rfl) (by rfl) (by kernel_rfl) (by kernel_rfl) (by kernel_rfl) (fun _ _ _ h => h) (.inl ⟨by rfl, fun _ _ => by rfl⟩) (hHeld) ?_
  simp only [Act.put, List.setIfInBounds_toArray, List.set_cons_zero, List.set_cons_succ]
  refine held_takeD 4 (.pointer (some ⟨gf, o, none⟩)) (some 214) (by rfl) (by rfl) (by kernel_rfl) (by kernel_rfl) (by kernel_rfl) (fun _ _ _ h => h) (.inl ⟨by rfl, fun _ _ => by go_simp⟩) (hHeld) ?_
  simp only [Act.put, List.setIfInBounds_toArray, List.set_cons_zero, List.set_cons_succ]
  refine held_takeD 5 (.pointer (some ⟨gf, o + 12, none⟩)) (some 215) (by rfl) (by rfl) (by kernel_rfl) (by kernel_rfl) (by kernel_rfl) (fun _ _ _ h => h) (.inl ⟨by rfl, fun _ _ => by go_simp⟩) (hHeld) ?_
  simp only [Act.put, List.setIfInBounds_toArray, List.set_cons_zero, List.set_cons_succ]
  refine held_takeD 6 (.agg (bv sf).toArray) (some 216) (by rfl) (by rfl) (by kernel_rfl) (by kernel_rfl) (by kernel_rfl) (fun _ _ _ h => h) (yieldsIf_load_mid (by rfl) _ _ rfl _ _ rfl _ _ (fun wz hS => unhide HRG wz hS) hu rfl hsz) (hHeld) ?_
  simp only [Act.put, List.setIfInBounds_toArray, List.set_cons_zero, List.set_cons_succ]
  refine held_takeD 7 (.slice A0 k0 c0) (some 217) (by rfl) (by rfl) (by kernel_rfl) (by kernel_rfl) (by kernel_rfl) (fun _ _ _ h => h) (.inl ⟨by rfl, fun _ _ => by rfl⟩) (hHeld) ?_
  simp only [Act.put, List.setIfInBounds_toArray, List.set_cons_zero, List.set_cons_succ]
  refine held_one 8 (by kernel_rfl) (by rfl) (fun K' hK' => ?_)
  go_simp
  refine (((unhide HSR).kept dW).cw.tload hg sf hslf A0 k0 c0 m0 ((unhide N0).kp (ChgS.of dW)) (by omega)).mono ?_
  rintro e w2 ⟨⟨A7, k7, c7, n7, rfl, K7, hlv⟩, b2⟩
  refine hK'.out _ _ (dW.thn b2) ?_
  clear hK' K'
  have d2 : Below w.heap.size w w2 := dW.thn b2
  refine held_takeD 9 (.slice A7 k7 c7) (some 8) (by rfl) (by rfl) (by kernel_rfl) (by kernel_rfl) (by kernel_rfl) (fun _ _ _ h => h) (.inl ⟨by rfl, fun _ _ => by rfl⟩) (d2) ?_
  simp only [Act.put, List.setIfInBounds_toArray, List.set_cons_zero, List.set_cons_succ]
  refine wpAnyH_done (by kernel_rfl) ?_ _
  refine NoPanic.normal ?_
  have KK7 := hide K7
  clear K7
  go_wp2
  go_ret
  exact ValR.pure (unhide HSR) hg (unhide KK7) hlv d2
set_option maxHeartbeats 8000000 in
theorem valueK_84 (h : SR G bw gf cs fr d (f :: r) x w) (hx : XB x) (hg : Good B d) (hf : AnyF f) (hml : f.ml ≤ 1000000) (hgas : f.gas < P256) (hwt : wt d + 40000 ≤ 2250000000) (ao : Option Addr) (l c : Nat) (xs : List Nat) (hA : SStk G w ao l c xs) (hl : l ≤ 100) (ha : ∀ i, xs.getD i 0 < P256) :
    Calls Sakg.prog 217 #[.pointer (some ⟨bw, 0, none⟩), .pointer (some ⟨gf, 60 * r.length, none⟩), .int .u8 84, .slice ao l c] w (ValR G bw gf fr B d (f :: r) x 2500 w) := by
  have hBB := big_ge
  have hP := p256_ge
  have hPB := p256_big2
  have hfx := h.fx
  obtain ⟨o, ho⟩ : ∃ o, o = 60 * r.length := ⟨_, rfl⟩
  rw [← ho] at hfx ⊢
  have HO := hide ho
  have HF := hide hfx
  have HSR := hide h
  have HX := hide hx
  have HFF := hide hf
  have H0 := hide (operandK G ao l c xs 0 w hA hl (by omega))
  have H1 := hide (operandK G ao l c xs 1 w hA hl (by omega))
  have H2 := hide (operandK G ao l c xs 2 w hA hl (by omega))
  have x0 := ha 0
  have x1 := ha 1
  have x2 := ha 2
  have HFm := hide (family_any 84 (by omega) w)
  rw [show famA 84 = 8 from rfl] at HFm
  have hslf := hfx.kf.selfA
  have hu := Sakg.underlying26
  have hsz := hslf.size
  obtain ⟨sf, hsf⟩ : ∃ sf, sf = f.self := ⟨_, rfl⟩
  have hrg : ∀ wz, Below w.heap.size w wz → wz.rangeAt gf (o + 12) (bv sf) := fun wz hz => by rw [hsf]; exact (hfx.kept hz).selfR
  rw [← hsf] at hslf hsz
  have HRG := hide hrg
  have HSF := hide hsf
  have dW : Below w.heap.size w w.drew := Quiet.below ⟨1, rfl⟩ _
  clear hrg hsf
  generalize xs.getD 0 0 = m0 at H0 x0
  generalize xs.getD 1 0 = m1 at H1 x1
  generalize xs.getD 2 0 = m2 at H2 x2
  clear h hfx hx hA ha ho hf
  go_enter Sakg.func217, Sakg.ntmps217
  go_wp2_with fail
  refine (unhide H0).mono ?_
  rintro e w1 ⟨⟨A0, k0, c0, rfl, n0⟩, rfl⟩
  have N0 := hide n0
  clear n0
  go_wp2_with fail
  refine (unhide H1).mono ?_
  rintro e w1 ⟨⟨A1, k1, c1, rfl, n1⟩, rfl⟩
  have N1 := hide n1
  clear n1
  go_upto_region 42 with (go_at_call 120; refine (unhide HFm).mono ?_; rintro e w1 ⟨rfl, rfl⟩)
  refine wp_region_noPanic ?_
  refine wp_region_held_drew (S := fun w' => w'.rangeAt gf (o + 12) (bv sf)) (by kernel_rfl) (unhide HRG _ dW) (fun hHeld => ?_)
  refine held_takeD 0 (.pointer (some ⟨bw, 0, none⟩)) (some 190) (by rfl) (by rfl) (by kernel_rfl) (by kernel_rfl) (by kernel_rfl) (fun _ _ _ h => h) (.inl ⟨by rfl, fun _ _ => by rfl⟩) (hHeld) ?_
  simp only [Act.put, List.setIfInBounds_toArray, List.set_cons_zero, List.set_cons_succ]
  refine held_takeD 1 (.pointer (some ⟨bw, 0, none⟩)) (some 191) (by rfl) (by rfl) (by kernel_rfl) (by kernel_rfl) (by kernel_rfl) (fun _ _ _ h => h) (.inl ⟨by rfl, fun _ _ => by go_simp⟩) (hHeld) ?_
  simp only [Act.put, List.setIfInBounds_toArray, List.set_cons_zero, List.set_cons_succ]
  refine held_takeD 2 (.pointer (some ⟨bw, 0, none⟩)) (some 192) (by rfl) (by rfl) (by kernel_rfl) (by kernel_rfl) (by kernel_rfl) (fun _ _ _ h => h) (.inl ⟨by rfl, fun _ _ => by go_simp⟩) (hHeld) ?_
  simp only [Act.put, List.setIfInBounds_toArray, List.set_cons_zero, List.set_cons_succ]
  refine held_takeD 3 (.pointer (some ⟨gf, o, none⟩)) (some 193) (by rfl) (by rfl) (by kernel_rfl) (by kernel_rfl) (by kernel_rfl) (fun _ _ _ h => h) (.inl ⟨by rfl, fun _ _ => by rfl⟩) (hHeld) ?_
  simp only [Act.put, List.setIfInBounds_toArray, List.set_cons_zero, List.set_cons_succ]
  refine held_takeD 4 (.pointer (some ⟨gf, o, none⟩)) (some 194) (by rfl) (by rfl) (by kernel_rfl) (by kernel_rfl) (by kernel_rfl) (fun _ _ _ h => h) (.inl ⟨by rfl, fun _ _ => by go_simp⟩) (hHeld) ?_
  simp only [Act.put, List.setIfInBounds_toArray, List.set_cons_zero, List.set_cons_succ]
  refine held_takeD 5 (.pointer (some ⟨gf, o + 12, none⟩)) (some 195) (by rfl) (by rfl) (by kernel_rfl) (by kernel_rfl) (by kernel_rfl) (fun _ _ _ h => h) (.inl ⟨by rfl, fun _ _ => by go_simp⟩) (hHeld) ?_
  simp only [Act.put, List.setIfInBounds_toArray, List.set_cons_zero, List.set_cons_succ]
  refine held_takeD 6 (.agg (bv sf).toArray) (some 196) (by rfl) (by rfl) (by kernel_rfl) (by kernel_rfl) (by kernel_rfl) (fun _ _ _ h => h) (yieldsIf_load_mid (by rfl) _ _ rfl _ _ rfl _ _ (fun wz hS => hS) hu rfl hsz) (hHeld) ?_
  simp only [Act.put, List.setIfInBounds_toArray, List.set_cons_zero, List.set_cons_succ]
  refine held_takeD 7 (.slice A0 k0 c0) (some 197) (by rfl) (by rfl) (by kernel_rfl) (by kernel_rfl) (by kernel_rfl) (fun _ _ _ h => h) (.inl ⟨by rfl, fun _ _ => by rfl⟩) (hHeld) ?_
  simp only [Act.put, List.setIfInBounds_toArray, List.set_cons_zero, List.set_cons_succ]
  refine held_one 8 (by kernel_rfl) (by rfl) (fun K' hK' => ?_)
  go_simp
  refine (((unhide HSR).kept dW).cw.warmSlot hg sf hslf A0 k0 c0 m0 ((unhide N0).kp (ChgS.of dW)) (by omega)).mono ?_
  rintro e w3 ⟨rfl, ms, hms, hwp⟩
  refine hK'.out _ _ ((((unhide HSR).kept dW).world hwp).elim fun _ hh => (by rw [unhide HO, unhide HSF]; exact hh.1.fx.selfR)) ?_
  clear hK' K'
  refine wpAnyH_done (by kernel_rfl) ?_ _
  refine NoPanic.normal ?_
  obtain ⟨cs3, hsr3, hmv3, hs83, hch3⟩ := ((unhide HSR).kept dW).world hwp
  have hgr3 : Gr B d { d with warmS := ms } 2500 := Gr.warmS hg.snd hms
  have hmv : Mv G w w3 := (Mv.of dW).trans hmv3
  have hch : Chg bw w w3 := (Chg.of dW).trans hch3
  have hrg3 : ∀ wz, Below w3.heap.size w3 wz → wz.rangeAt gf (o + 12) (bv sf) := fun wz hz => by rw [unhide HO, unhide HSF]; exact (hsr3.kept hz).fx.selfR
  have HSR3 := hide hsr3
  have HGR3 := hide hgr3
  have HMV := hide hmv
  have HCH := hide hch
  have HRG3 := hide hrg3
  have hgood3 := hgr3.good (K := 2250000000) (by omega) (Nat.le_refl _)
  clear hwp hsr3 hgr3 hmv hmv3 hch hs83 hch3 hrg3
  go_upto_region 43 with fail
  have dV : Below w3.heap.size w3 w3.drew := Quiet.below ⟨1, rfl⟩ _
  refine wp_region_noPanic ?_
  refine wp_region_held_drew (S := fun w' => Below w3.heap.size w3 w') (by kernel_rfl) (dV) (fun hHeld => ?_)
  refine held_takeD 0 (.pointer (some ⟨bw, 0, none⟩)) (some 199) (by rfl) (by rfl) (by kernel_rfl) (by kernel_rfl) (by kernel_rfl) (fun _ _ _ h => h) (.inl ⟨by rfl, fun _ _ => by rfl⟩) (hHeld) ?_
  simp only [Act.put, List.setIfInBounds_toArray, List.set_cons_zero, List.set_cons_succ]
  refine held_takeD 1 (.pointer (some ⟨bw, 0, none⟩)) (some 200) (by rfl) (by rfl) (by kernel_rfl) (by kernel_rfl) (by kernel_rfl) (fun _ _ _ h => h) (.inl ⟨by rfl, fun _ _ => by go_simp⟩) (hHeld) ?_
  simp only [Act.put, List.setIfInBounds_toArray, List.set_cons_zero, List.set_cons_succ]
  refine held_takeD 2 (.pointer (some ⟨bw, 0, none⟩)) (some 201) (by rfl) (by rfl) (by kernel_rfl) (by kernel_rfl) (by kernel_rfl) (fun _ _ _ h => h) (.inl ⟨by rfl, fun _ _ => by go_simp⟩) (hHeld) ?_
  simp only [Act.put, List.setIfInBounds_toArray, List.set_cons_zero, List.set_cons_succ]
  refine held_takeD 3 (.pointer (some ⟨gf, o, none⟩)) (some 202) (by rfl) (by rfl) (by kernel_rfl) (by kernel_rfl) (by kernel_rfl) (fun _ _ _ h => h) (.inl ⟨by rfl, fun _ _ => by rfl⟩) (hHeld) ?_
  simp only [Act.put, List.setIfInBounds_toArray, List.set_cons_zero, List.set_cons_succ]
  refine held_takeD 4 (.pointer (some ⟨gf, o, none⟩)) (some 203) (by rfl) (by rfl) (by kernel_rfl) (by kernel_rfl) (by kernel_rfl) (fun _ _ _ h => h) (.inl ⟨by rfl, fun _ _ => by go_simp⟩) (hHeld) ?_
  simp only [Act.put, List.setIfInBounds_toArray, List.set_cons_zero, List.set_cons_succ]
  refine held_takeD 5 (.pointer (some ⟨gf, o + 12, none⟩)) (some 204) (by rfl) (by rfl) (by kernel_rfl) (by kernel_rfl) (by kernel_rfl) (fun _ _ _ h => h) (.inl ⟨by rfl, fun _ _ => by go_simp⟩) (hHeld) ?_
  simp only [Act.put, List.setIfInBounds_toArray, List.set_cons_zero, List.set_cons_succ]
  refine held_takeD 6 (.agg (bv sf).toArray) (some 205) (by rfl) (by rfl) (by kernel_rfl) (by kernel_rfl) (by kernel_rfl) (fun _ _ _ h => h) (yieldsIf_load_mid (by rfl) _ _ rfl _ _ rfl _ _ (fun wz hS => unhide HRG3 wz hS) hu rfl hsz) (hHeld) ?_
  simp only [Act.put, List.setIfInBounds_toArray, List.set_cons_zero, List.set_cons_succ]
  refine held_takeD 7 (.slice A0 k0 c0) (some 206) (by rfl) (by rfl) (by kernel_rfl) (by kernel_rfl) (by kernel_rfl) (fun _ _ _ h => h) (.inl ⟨by rfl, fun _ _ => by rfl⟩) (hHeld) ?_
  simp only [Act.put, List.setIfInBounds_toArray, List.set_cons_zero, List.set_cons_succ]
  refine held_one 8 (by kernel_rfl) (by rfl) (fun K' hK' => ?_)
  go_simp
  refine (((unhide HSR3).kept dV).cw.load hgood3 sf hslf A0 k0 c0 m0 ((unhide N0).kp ((unhide HMV).chg.trans (ChgS.of dV))) (by omega)).mono ?_
  rintro e w4 ⟨⟨A7, k7, c7, n7, rfl, K7, hlv⟩, b4⟩
  refine hK'.out _ _ (dV.thn b4) ?_
  clear hK' K'
  have d4 : Below w3.heap.size w3 w4 := dV.thn b4
  refine held_takeD 9 (.slice A7 k7 c7) (some 8) (by rfl) (by rfl) (by kernel_rfl) (by kernel_rfl) (by kernel_rfl) (fun _ _ _ h => h) (.inl ⟨by rfl, fun _ _ => by rfl⟩) (d4) ?_
  simp only [Act.put, List.setIfInBounds_toArray, List.set_cons_zero, List.set_cons_succ]
  refine wpAnyH_done (by kernel_rfl) ?_ _
  refine NoPanic.normal ?_
  have KK7 := hide K7
  clear K7
  go_wp2
  go_ret
  exact ⟨A7, k7, c7, n7, cs3, _, rfl, unhide KK7, hlv, (unhide HSR3).kept d4, unhide HGR3, (unhide HMV).trans (Mv.of d4), (unhide HCH).trans (Chg.of d4)⟩
end

end Go.Proofs.YgcsakGreat
