/-
  yp: effect at every instruction that gives nothing, LOG left out.
-/
import Derived.Test.YgcsakGreatKhD
import Derived.Test.YgcsakGreatBeA
namespace Go.Proofs.YgcsakGreat
set_option linter.unusedVariables false
set_option linter.unusedSimpArgs false
set_option maxRecDepth 100000
open Go.RowKit

theorem fldCodeK : FieldAt 113 3 22 30 := ⟨by kernel_rfl, by kernel_rfl⟩
section
variable {G : Nat → Prop} {bw gf : Nat} {cs fr : List Value} {d : WD} {f : FD} {r : List FD} {x : XD} {w : World} {B : Nat}
/-- memory alone has turned -/
theorem EffR.mem {w1 w' : World} (h : SR G bw gf cs fr d (f :: r) x w) (hg : Good B d) {y : Nat} (b1 : Below w.heap.size w w1) (hm : Mv G w1 w') (hr : ∀ k T (cs : List Value), T ≠ 5 → RowT T w1 k cs → RowT T w' k cs) : EffR G bw gf fr B d (f :: r) x y w (.returned (.bool true)) w' :=
  ⟨_, G, cs, d, rfl, Wider.refl _ _, (h.kept b1).mem hm hr, Gr.refl hg.snd _, (ChgS.of b1).trans hm.chg, (Tm.of b1).trans hm.tm⟩
set_option maxHeartbeats 8000000 in
theorem effect_55 (h : SR G bw gf cs fr d (f :: r) x w) (hx : XB x) (hg : Good B d) (hf : AnyF f) (hml : f.ml ≤ 1000000) (hwt : wt d + 40000 ≤ 2250000000) (ao : Option Addr) (l c : Nat) (xs : List Nat) (hA : SStk G w ao l c xs) (hl : l ≤ 100) (ha : ∀ i, xs.getD i 0 < P256) (hn : xs.getD 2 0 ≤ 1000000) :
    Calls Sakg.prog 218 #[.pointer (some ⟨bw, 0, none⟩), .pointer (some ⟨gf, 60 * r.length, none⟩), .int .u8 55, .slice ao l c] w (EffR G bw gf fr B d (f :: r) x 0 w) := by
  have hBB := big_ge
  have hPB := p256_lt
  have hfx := h.fx
  obtain ⟨o, ho⟩ : ∃ o, o = 60 * r.length := ⟨_, rfl⟩
  rw [← ho] at hfx ⊢
  have HO := hide ho
  have HF := hide hfx
  have HSR := hide h
  have HX := hide hx
  have HFF := hide hf
  have H0 := hide (operandK G ao l c xs 0 w hA hl (by omega))
  have H1 := hide (operandK G ao l c xs 1 w hA hl (by omega))
  have H2 := hide (operandK G ao l c xs 2 w hA hl (by omega))
  have H3 := hide (fun wz (hz : Below w.heap.size w wz) => operandK G ao l c xs 3 wz (hA.go (ChgS.of hz)) hl (by omega))
  have x0 := ha 0
  have x1 := ha 1
  have x2 := ha 2
  have x3 := ha 3
  obtain ⟨Av, kv, cv, p1, p2⟩ := hfx.kf.input
  have hc : w.cell? ⟨gf, o + 11, none⟩ = some (.slice Av kv cv) := hfx.cell p1
  have hkv : kv ≤ 1000000 := by have := p2.now.len_eq; have := hf.input; omega
  have HSV := hide p2.now
  clear p1 p2
  generalize xs.getD 0 0 = m0 at H0 x0
  generalize xs.getD 1 0 = m1 at H1 x1
  generalize xs.getD 2 0 = m2 at H2 x2 hn
  generalize xs.getD 3 0 = m3 at H3 x3
  clear h hfx hx hA ha ho hf
  go_enter Sakg.func218, Sakg.ntmps218
  go_wp2_with fail
  refine (unhide H0).mono ?_
  rintro e w1 ⟨⟨A0, k0, c0, rfl, n0⟩, rfl⟩
  have N0 := hide n0
  clear n0
  go_wp2_with fail
  refine (unhide H1).mono ?_
  rintro e w1 ⟨⟨A1, k1, c1, rfl, n1⟩, rfl⟩
  have N1 := hide n1
  clear n1
  go_wp2_with fail
  refine (unhide H2).mono ?_
  rintro e w1 ⟨⟨A2, k2, c2, rfl, n2⟩, rfl⟩
  have N2 := hide n2
  clear n2
  have HCP := hide ((unhide HF).copied hml A0 k0 c0 m0 (unhide N0) (by omega) Av kv cv _ (unhide HSV) hkv A1 k1 c1 m1 (unhide N1).now (by omega) A2 k2 c2 m2 (unhide N2).now (by omega))
  go_wp2_with (go_at_call 310; refine (unhide HCP).mono ?_; rintro e w3 ⟨rfl, -, hm3, hr3⟩; have HM3 := hide hm3; have HR3 := hide hr3; clear hm3 hr3)
  go_ret
  exact EffR.mem (unhide HSR) hg (Below.refl _ _) (unhide HM3) (unhide HR3)
set_option maxHeartbeats 8000000 in
theorem effect_57 (h : SR G bw gf cs fr d (f :: r) x w) (hx : XB x) (hg : Good B d) (hf : AnyF f) (hml : f.ml ≤ 1000000) (hwt : wt d + 40000 ≤ 2250000000) (ao : Option Addr) (l c : Nat) (xs : List Nat) (hA : SStk G w ao l c xs) (hl : l ≤ 100) (ha : ∀ i, xs.getD i 0 < P256) (hn : xs.getD 2 0 ≤ 1000000) :
    Calls Sakg.prog 218 #[.pointer (some ⟨bw, 0, none⟩), .pointer (some ⟨gf, 60 * r.length, none⟩), .int .u8 57, .slice ao l c] w (EffR G bw gf fr B d (f :: r) x 0 w) := by
  have hBB := big_ge
  have hPB := p256_lt
  have hfx := h.fx
  obtain ⟨o, ho⟩ : ∃ o, o = 60 * r.length := ⟨_, rfl⟩
  rw [← ho] at hfx ⊢
  have HO := hide ho
  have HF := hide hfx
  have HSR := hide h
  have HX := hide hx
  have HFF := hide hf
  have H0 := hide (operandK G ao l c xs 0 w hA hl (by omega))
  have H1 := hide (operandK G ao l c xs 1 w hA hl (by omega))
  have H2 := hide (operandK G ao l c xs 2 w hA hl (by omega))
  have H3 := hide (fun wz (hz : Below w.heap.size w wz) => operandK G ao l c xs 3 wz (hA.go (ChgS.of hz)) hl (by omega))
  have x0 := ha 0
  have x1 := ha 1
  have x2 := ha 2
  have x3 := ha 3
  obtain ⟨Av, kv, cv, p1, p2⟩ := hfx.kf.code
  have hc : w.cell? ⟨gf, o + 10, none⟩ = some (.slice Av kv cv) := hfx.cell p1
  have hkv : kv ≤ 1000000 := by have := p2.now.len_eq; have := hf.code; omega
  have HSV := hide p2.now
  clear p1 p2
  generalize xs.getD 0 0 = m0 at H0 x0
  generalize xs.getD 1 0 = m1 at H1 x1
  generalize xs.getD 2 0 = m2 at H2 x2 hn
  generalize xs.getD 3 0 = m3 at H3 x3
  clear h hfx hx hA ha ho hf
  go_enter Sakg.func218, Sakg.ntmps218
  go_wp2_with fail
  refine (unhide H0).mono ?_
  rintro e w1 ⟨⟨A0, k0, c0, rfl, n0⟩, rfl⟩
  have N0 := hide n0
  clear n0
  go_wp2_with fail
  refine (unhide H1).mono ?_
  rintro e w1 ⟨⟨A1, k1, c1, rfl, n1⟩, rfl⟩
  have N1 := hide n1
  clear n1
  go_wp2_with fail
  refine (unhide H2).mono ?_
  rintro e w1 ⟨⟨A2, k2, c2, rfl, n2⟩, rfl⟩
  have N2 := hide n2
  clear n2
  have HCP := hide ((unhide HF).copied hml A0 k0 c0 m0 (unhide N0) (by omega) Av kv cv _ (unhide HSV) hkv A1 k1 c1 m1 (unhide N1).now (by omega) A2 k2 c2 m2 (unhide N2).now (by omega))
  go_wp2_with (go_at_call 310; refine (unhide HCP).mono ?_; rintro e w3 ⟨rfl, -, hm3, hr3⟩; have HM3 := hide hm3; have HR3 := hide hr3; clear hm3 hr3)
  go_ret
  exact EffR.mem (unhide HSR) hg (Below.refl _ _) (unhide HM3) (unhide HR3)
set_option maxHeartbeats 8000000 in
theorem effect_62 (h : SR G bw gf cs fr d (f :: r) x w) (hx : XB x) (hg : Good B d) (hf : AnyF f) (hml : f.ml ≤ 1000000) (hwt : wt d + 40000 ≤ 2250000000) (ao : Option Addr) (l c : Nat) (xs : List Nat) (hA : SStk G w ao l c xs) (hl : l ≤ 100) (ha : ∀ i, xs.getD i 0 < P256) (hn : xs.getD 2 0 ≤ 1000000) :
    Calls Sakg.prog 218 #[.pointer (some ⟨bw, 0, none⟩), .pointer (some ⟨gf, 60 * r.length, none⟩), .int .u8 62, .slice ao l c] w (EffR G bw gf fr B d (f :: r) x 0 w) := by
  have hBB := big_ge
  have hPB := p256_lt
  have hfx := h.fx
  obtain ⟨o, ho⟩ : ∃ o, o = 60 * r.length := ⟨_, rfl⟩
  rw [← ho] at hfx ⊢
  have HO := hide ho
  have HF := hide hfx
  have HSR := hide h
  have HX := hide hx
  have HFF := hide hf
  have H0 := hide (operandK G ao l c xs 0 w hA hl (by omega))
  have H1 := hide (operandK G ao l c xs 1 w hA hl (by omega))
  have H2 := hide (operandK G ao l c xs 2 w hA hl (by omega))
  have H3 := hide (fun wz (hz : Below w.heap.size w wz) => operandK G ao l c xs 3 wz (hA.go (ChgS.of hz)) hl (by omega))
  have x0 := ha 0
  have x1 := ha 1
  have x2 := ha 2
  have x3 := ha 3
  obtain ⟨Av, kv, cv, p1, p2⟩ := h.xs.ret
  have hc : w.cell? ⟨bw, 10, none⟩ = some (.slice Av kv cv) := h.cw.cell p1
  have hkv : kv ≤ 1000000 := by have := p2.now.len_eq; have := hx.ret; omega
  have HSV := hide p2.now
  clear p1 p2
  generalize xs.getD 0 0 = m0 at H0 x0
  generalize xs.getD 1 0 = m1 at H1 x1
  generalize xs.getD 2 0 = m2 at H2 x2 hn
  generalize xs.getD 3 0 = m3 at H3 x3
  clear h hfx hx hA ha ho hf
  go_enter Sakg.func218, Sakg.ntmps218
  go_wp2_with fail
  refine (unhide H0).mono ?_
  rintro e w1 ⟨⟨A0, k0, c0, rfl, n0⟩, rfl⟩
  have N0 := hide n0
  clear n0
  go_wp2_with fail
  refine (unhide H1).mono ?_
  rintro e w1 ⟨⟨A1, k1, c1, rfl, n1⟩, rfl⟩
  have N1 := hide n1
  clear n1
  go_wp2_with fail
  refine (unhide H2).mono ?_
  rintro e w1 ⟨⟨A2, k2, c2, rfl, n2⟩, rfl⟩
  have N2 := hide n2
  clear n2
  have HCP := hide ((unhide HF).copied hml A0 k0 c0 m0 (unhide N0) (by omega) Av kv cv _ (unhide HSV) hkv A1 k1 c1 m1 (unhide N1).now (by omega) A2 k2 c2 m2 (unhide N2).now (by omega))
  go_wp2_with (go_at_call 310; refine (unhide HCP).mono ?_; rintro e w3 ⟨rfl, -, hm3, hr3⟩; have HM3 := hide hm3; have HR3 := hide hr3; clear hm3 hr3)
  go_ret
  exact EffR.mem (unhide HSR) hg (Below.refl _ _) (unhide HM3) (unhide HR3)
set_option maxHeartbeats 8000000 in
theorem effect_94 (h : SR G bw gf cs fr d (f :: r) x w) (hx : XB x) (hg : Good B d) (hf : AnyF f) (hml : f.ml ≤ 1000000) (hwt : wt d + 40000 ≤ 2250000000) (ao : Option Addr) (l c : Nat) (xs : List Nat) (hA : SStk G w ao l c xs) (hl : l ≤ 100) (ha : ∀ i, xs.getD i 0 < P256) (hn : xs.getD 2 0 ≤ 1000000) :
    Calls Sakg.prog 218 #[.pointer (some ⟨bw, 0, none⟩), .pointer (some ⟨gf, 60 * r.length, none⟩), .int .u8 94, .slice ao l c] w (EffR G bw gf fr B d (f :: r) x 0 w) := by
  have hBB := big_ge
  have hPB := p256_lt
  have hfx := h.fx
  obtain ⟨o, ho⟩ : ∃ o, o = 60 * r.length := ⟨_, rfl⟩
  rw [← ho] at hfx ⊢
  have HO := hide ho
  have HF := hide hfx
  have HSR := hide h
  have HX := hide hx
  have HFF := hide hf
  have H0 := hide (operandK G ao l c xs 0 w hA hl (by omega))
  have H1 := hide (operandK G ao l c xs 1 w hA hl (by omega))
  have H2 := hide (operandK G ao l c xs 2 w hA hl (by omega))
  have H3 := hide (fun wz (hz : Below w.heap.size w wz) => operandK G ao l c xs 3 wz (hA.go (ChgS.of hz)) hl (by omega))
  have x0 := ha 0
  have x1 := ha 1
  have x2 := ha 2
  have x3 := ha 3
  obtain ⟨Av, cv, p1, p2⟩ := hfx.kf.mem
  have hc : w.cell? ⟨gf, o + 9, none⟩ = some (.slice Av f.ml cv) := hfx.cell p1
  obtain ⟨bs, hbs⟩ := p2.src hml
  have hbl := hbs.len_eq
  have HBO := hide (bytesOf_any Av f.ml cv bs w hbs (by omega))
  clear p1 p2 hbs
  generalize xs.getD 0 0 = m0 at H0 x0
  generalize xs.getD 1 0 = m1 at H1 x1
  generalize xs.getD 2 0 = m2 at H2 x2 hn
  generalize xs.getD 3 0 = m3 at H3 x3
  clear h hfx hx hA ha ho hf
  go_enter Sakg.func218, Sakg.ntmps218
  go_wp2_with fail
  refine (unhide H0).mono ?_
  rintro e w1 ⟨⟨A0, k0, c0, rfl, n0⟩, rfl⟩
  have N0 := hide n0
  clear n0
  go_wp2_with fail
  refine (unhide H1).mono ?_
  rintro e w1 ⟨⟨A1, k1, c1, rfl, n1⟩, rfl⟩
  have N1 := hide n1
  clear n1
  go_wp2_with fail
  refine (unhide H2).mono ?_
  rintro e w1 ⟨⟨A2, k2, c2, rfl, n2⟩, rfl⟩
  have N2 := hide n2
  clear n2
  go_wp2_with fail
  refine (unhide HBO).mono ?_
  rintro e w2 ⟨Ab, kb, rfl, sb, -, Nb, b2⟩
  have hkb : kb ≤ 1000000 := by have := sb.len_eq; omega
  have HCP := hide (((unhide HF).kept b2).copied hml A0 k0 c0 m0 ((unhide N0).kp (ChgS.of b2)) (by omega) Ab kb kb _ sb hkb A1 k1 c1 m1 ((unhide N1).kp (ChgS.of b2)).now (by omega) A2 k2 c2 m2 ((unhide N2).kp (ChgS.of b2)).now (by omega))
  clear sb
  go_wp2_with (go_at_call 310; refine (unhide HCP).mono ?_; rintro e w3 ⟨rfl, -, hm3, hr3⟩; have HM3 := hide hm3; have HR3 := hide hr3; clear hm3 hr3)
  go_ret
  exact EffR.mem (unhide HSR) hg b2 (unhide HM3) (unhide HR3)
set_option maxHeartbeats 8000000 in
theorem effect_82 (h : SR G bw gf cs fr d (f :: r) x w) (hx : XB x) (hg : Good B d) (hf : AnyF f) (hml : f.ml ≤ 1000000) (hwt : wt d + 40000 ≤ 2250000000) (ao : Option Addr) (l c : Nat) (xs : List Nat) (hA : SStk G w ao l c xs) (hl : l ≤ 100) (ha : ∀ i, xs.getD i 0 < P256) :
    Calls Sakg.prog 218 #[.pointer (some ⟨bw, 0, none⟩), .pointer (some ⟨gf, 60 * r.length, none⟩), .int .u8 82, .slice ao l c] w (EffR G bw gf fr B d (f :: r) x 0 w) := by
  have hBB := big_ge
  have hPB := p256_lt
  have hfx := h.fx
  obtain ⟨o, ho⟩ : ∃ o, o = 60 * r.length := ⟨_, rfl⟩
  rw [← ho] at hfx ⊢
  have HO := hide ho
  have HF := hide hfx
  have HSR := hide h
  have HX := hide hx
  have HFF := hide hf
  have H0 := hide (operandK G ao l c xs 0 w hA hl (by omega))
  have H1 := hide (operandK G ao l c xs 1 w hA hl (by omega))
  have H2 := hide (operandK G ao l c xs 2 w hA hl (by omega))
  have H3 := hide (fun wz (hz : Below w.heap.size w wz) => operandK G ao l c xs 3 wz (hA.go (ChgS.of hz)) hl (by omega))
  have x0 := ha 0
  have x1 := ha 1
  have x2 := ha 2
  have x3 := ha 3
  have hz32 : (bv (zeros 32)).length = 32 := by rw [bv_len, zeros_len]
  generalize xs.getD 0 0 = m0 at H0 x0
  generalize xs.getD 1 0 = m1 at H1 x1
  generalize xs.getD 2 0 = m2 at H2 x2
  generalize xs.getD 3 0 = m3 at H3 x3
  clear h hfx hx hA ha ho hf
  go_enter Sakg.func218, Sakg.ntmps218
  go_wp2_with fail
  refine (unhide H0).mono ?_
  rintro e w1 ⟨⟨A0, k0, c0, rfl, n0⟩, rfl⟩
  have N0 := hide n0
  clear n0
  go_wp2_with fail
  refine (unhide H1).mono ?_
  rintro e w1 ⟨⟨A1, k1, c1, rfl, n1⟩, rfl⟩
  have N1 := hide n1
  clear n1
  go_wp2_with fail
  refine (unhide H2).mono ?_
  rintro e w1 ⟨⟨A2, k2, c2, rfl, n2⟩, rfl⟩
  have N2 := hide n2
  clear n2
  have hbl : (bv (be32 m1)).length = 32 := by rw [bv_len, be32_len]
  have hszW := (be32_isW m1).size
  have HW := hide (word_any A1 k1 c1 m1 w (unhide N1).now x1)
  go_upto_region 17 with (first
    | (go_at_call 56; refine (unhide HW).mono ?_; rintro e w1 ⟨rfl, b1⟩)
    | ((with_reducible refine at_alloc 29 ?_); refine wpList_alloc_g (by rfl) 29 rfl (bv (zeros 32)) 32 infoW2 hz32 ?_)
    | ((with_reducible refine at_store 29 ?_); refine wpList_store_whole rfl 29 (.tmp 12) (.tmp 98) rfl _ _ _ (bv (be32 m1)) rfl rfl (RowT.new _ _ _) (by rw [hz32, hbl]) hszW (bv_one _) ?_; intro w2 hr2 hon2; have hbb2 := box_below hon2; clear hon2))
  have d2 : Below w.heap.size w w2 := b1.thn hbb2.1
  have hsrc : Src w2 (some ⟨w1.heap.size, 0, none⟩) 32 32 (be32 m1) := src_of_range hr2.rangeAll (be32_byt m1) (be32_len m1) max32
  have HWR := hide (((unhide HF).kept d2).write hml A0 k0 c0 m0 ((unhide N0).kp (ChgS.of d2)).now (by omega) (some ⟨w1.heap.size, 0, none⟩) 32 32 _ hsrc)
  clear hr2 hbb2 hsrc
  go_wp2_with (go_at_call 207; refine (unhide HWR).mono ?_; rintro e w3 ⟨rfl, -, hm3, -, hr3⟩; have HM3 := hide hm3; have HR3 := hide hr3; clear hm3 hr3)
  go_ret
  exact EffR.mem (unhide HSR) hg d2 (unhide HM3) (unhide HR3)
set_option maxHeartbeats 8000000 in
theorem effect_83 (h : SR G bw gf cs fr d (f :: r) x w) (hx : XB x) (hg : Good B d) (hf : AnyF f) (hml : f.ml ≤ 1000000) (hwt : wt d + 40000 ≤ 2250000000) (ao : Option Addr) (l c : Nat) (xs : List Nat) (hA : SStk G w ao l c xs) (hl : l ≤ 100) (ha : ∀ i, xs.getD i 0 < P256) :
    Calls Sakg.prog 218 #[.pointer (some ⟨bw, 0, none⟩), .pointer (some ⟨gf, 60 * r.length, none⟩), .int .u8 83, .slice ao l c] w (EffR G bw gf fr B d (f :: r) x 0 w) := by
  have hBB := big_ge
  have hPB := p256_lt
  have hfx := h.fx
  obtain ⟨o, ho⟩ : ∃ o, o = 60 * r.length := ⟨_, rfl⟩
  rw [← ho] at hfx ⊢
  have HO := hide ho
  have HF := hide hfx
  have HSR := hide h
  have HX := hide hx
  have HFF := hide hf
  have H0 := hide (operandK G ao l c xs 0 w hA hl (by omega))
  have H1 := hide (operandK G ao l c xs 1 w hA hl (by omega))
  have H2 := hide (operandK G ao l c xs 2 w hA hl (by omega))
  have H3 := hide (fun wz (hz : Below w.heap.size w wz) => operandK G ao l c xs 3 wz (hA.go (ChgS.of hz)) hl (by omega))
  have x0 := ha 0
  have x1 := ha 1
  have x2 := ha 2
  have x3 := ha 3
  have hz32 : (bv (zeros 32)).length = 32 := by rw [bv_len, zeros_len]
  generalize xs.getD 0 0 = m0 at H0 x0
  generalize xs.getD 1 0 = m1 at H1 x1
  generalize xs.getD 2 0 = m2 at H2 x2
  generalize xs.getD 3 0 = m3 at H3 x3
  clear h hfx hx hA ha ho hf
  go_enter Sakg.func218, Sakg.ntmps218
  go_wp2_with fail
  refine (unhide H0).mono ?_
  rintro e w1 ⟨⟨A0, k0, c0, rfl, n0⟩, rfl⟩
  have N0 := hide n0
  clear n0
  go_wp2_with fail
  refine (unhide H1).mono ?_
  rintro e w1 ⟨⟨A1, k1, c1, rfl, n1⟩, rfl⟩
  have N1 := hide n1
  clear n1
  go_wp2_with fail
  refine (unhide H2).mono ?_
  rintro e w1 ⟨⟨A2, k2, c2, rfl, n2⟩, rfl⟩
  have N2 := hide n2
  clear n2
  have hbl : (bv (be32 m1)).length = 32 := by rw [bv_len, be32_len]
  have hszW := (be32_isW m1).size
  have HW := hide (word_any A1 k1 c1 m1 w (unhide N1).now x1)
  go_upto_region 20 with (first
    | (go_at_call 56; refine (unhide HW).mono ?_; rintro e w1 ⟨rfl, b1⟩)
    | ((with_reducible refine at_alloc 29 ?_); refine wpList_alloc_g (by rfl) 29 rfl (bv (zeros 32)) 32 infoW2 hz32 ?_)
    | ((with_reducible refine at_store 29 ?_); refine wpList_store_whole rfl 29 (.tmp 13) (.tmp 107) rfl _ _ _ (bv (be32 m1)) rfl rfl (RowT.new _ _ _) (by rw [hz32, hbl]) hszW (bv_one _) ?_; intro w2 hr2 hon2; have hbb2 := box_below hon2; clear hon2))
  have d2 : Below w.heap.size w w2 := b1.thn hbb2.1
  have hb31 : Byt ((be32 m1).drop 31) := fun y hy => be32_byt m1 y (List.mem_of_mem_drop hy)
  have hl31 : ((be32 m1).drop 31).length = 1 := by rw [List.length_drop, be32_len]
  have hrg31 : w2.rangeAt w1.heap.size 31 (bv ((be32 m1).drop 31)) := fun j u hj => by
    rw [hr2.cell]
    unfold bv at hj ⊢
    rw [List.map_drop, List.getElem?_drop] at hj
    exact hj
  have hsrc : Src w2 (some ⟨w1.heap.size, 31, none⟩) 1 1 ((be32 m1).drop 31) := src_of_range hrg31 hb31 hl31 (by unfold maxLen; omega)
  have HWR := hide (((unhide HF).kept d2).write hml A0 k0 c0 m0 ((unhide N0).kp (ChgS.of d2)).now (by omega) (some ⟨w1.heap.size, 31, none⟩) 1 1 _ hsrc)
  clear hrg31
  clear hr2 hbb2 hsrc
  go_wp2_with (go_at_call 207; refine (unhide HWR).mono ?_; rintro e w3 ⟨rfl, -, hm3, -, hr3⟩; have HM3 := hide hm3; have HR3 := hide hr3; clear hm3 hr3)
  go_ret
  exact EffR.mem (unhide HSR) hg d2 (unhide HM3) (unhide HR3)
set_option maxHeartbeats 8000000 in
theorem effect_85 (h : SR G bw gf cs fr d (f :: r) x w) (hx : XB x) (hg : Good B d) (hf : AnyF f) (hml : f.ml ≤ 1000000) (hwt : wt d + 40000 ≤ 2250000000) (ao : Option Addr) (l c : Nat) (xs : List Nat) (hA : SStk G w ao l c xs) (hl : l ≤ 100) (ha : ∀ i, xs.getD i 0 < P256) (hlive : Live d.accts f.self) :
    Calls Sakg.prog 218 #[.pointer (some ⟨bw, 0, none⟩), .pointer (some ⟨gf, 60 * r.length, none⟩), .int .u8 85, .slice ao l c] w (EffR G bw gf fr B d (f :: r) x 32500 w) := by
  have hBB := big_ge
  have hPB := p256_lt
  have hfx := h.fx
  obtain ⟨o, ho⟩ : ∃ o, o = 60 * r.length := ⟨_, rfl⟩
  rw [← ho] at hfx ⊢
  have HO := hide ho
  have HF := hide hfx
  have HSR := hide h
  have HX := hide hx
  have HFF := hide hf
  have H0 := hide (operandK G ao l c xs 0 w hA hl (by omega))
  have H1 := hide (operandK G ao l c xs 1 w hA hl (by omega))
  have H2 := hide (operandK G ao l c xs 2 w hA hl (by omega))
  have H3 := hide (fun wz (hz : Below w.heap.size w wz) => operandK G ao l c xs 3 wz (hA.go (ChgS.of hz)) hl (by omega))
  have x0 := ha 0
  have x1 := ha 1
  have x2 := ha 2
  have x3 := ha 3
  have hC := fun A k c m hA hm Bv k2 c2 v hB hv => h.stores hx hg hf hwt hlive A k c m hA hm Bv k2 c2 v hB hv
  rw [← ho] at hC
  have HC := hide hC
  clear hC
  generalize xs.getD 0 0 = m0 at H0 x0
  generalize xs.getD 1 0 = m1 at H1 x1
  generalize xs.getD 2 0 = m2 at H2 x2
  generalize xs.getD 3 0 = m3 at H3 x3
  clear h hfx hx hA ha ho hf
  go_enter Sakg.func218, Sakg.ntmps218
  go_wp2_with fail
  refine (unhide H0).mono ?_
  rintro e w1 ⟨⟨A0, k0, c0, rfl, n0⟩, rfl⟩
  have N0 := hide n0
  clear n0
  go_wp2_with fail
  refine (unhide H1).mono ?_
  rintro e w1 ⟨⟨A1, k1, c1, rfl, n1⟩, rfl⟩
  have N1 := hide n1
  clear n1
  go_wp2_with fail
  refine (unhide H2).mono ?_
  rintro e w1 ⟨⟨A2, k2, c2, rfl, n2⟩, rfl⟩
  have N2 := hide n2
  clear n2
  have HC2 := hide (unhide HC A0 k0 c0 m0 (unhide N0) x0 A1 k1 c1 m1 (unhide N1) x1)
  go_wp2_with (go_at_call 311; refine (unhide HC2).mono ?_; rintro e w3 ⟨b3, G', cs', d', rfl, e1, e2, e3, e4, e5⟩; have E1 := hide e1; have E2 := hide e2; have E3 := hide e3; have E4 := hide e4; have E5 := hide e5; clear e1 e2 e3 e4 e5)
  go_ret
  exact ⟨b3, G', cs', d', rfl, unhide E1, unhide E2, unhide E3, unhide E4, unhide E5⟩
set_option maxHeartbeats 8000000 in
theorem effect_93 (h : SR G bw gf cs fr d (f :: r) x w) (hx : XB x) (hg : Good B d) (hf : AnyF f) (hml : f.ml ≤ 1000000) (hwt : wt d + 40000 ≤ 2250000000) (ao : Option Addr) (l c : Nat) (xs : List Nat) (hA : SStk G w ao l c xs) (hl : l ≤ 100) (ha : ∀ i, xs.getD i 0 < P256) :
    Calls Sakg.prog 218 #[.pointer (some ⟨bw, 0, none⟩), .pointer (some ⟨gf, 60 * r.length, none⟩), .int .u8 93, .slice ao l c] w (EffR G bw gf fr B d (f :: r) x 2500 w) := by
  have hBB := big_ge
  have hPB := p256_lt
  have hfx := h.fx
  obtain ⟨o, ho⟩ : ∃ o, o = 60 * r.length := ⟨_, rfl⟩
  rw [← ho] at hfx ⊢
  have HO := hide ho
  have HF := hide hfx
  have HSR := hide h
  have HX := hide hx
  have HFF := hide hf
  have H0 := hide (operandK G ao l c xs 0 w hA hl (by omega))
  have H1 := hide (operandK G ao l c xs 1 w hA hl (by omega))
  have H2 := hide (operandK G ao l c xs 2 w hA hl (by omega))
  have H3 := hide (fun wz (hz : Below w.heap.size w wz) => operandK G ao l c xs 3 wz (hA.go (ChgS.of hz)) hl (by omega))
  have x0 := ha 0
  have x1 := ha 1
  have x2 := ha 2
  have x3 := ha 3
  have hslf := hfx.kf.selfA
  have hu := Sakg.underlying26
  have hsz := hslf.size
  obtain ⟨sf, hsf⟩ : ∃ sf, sf = f.self := ⟨_, rfl⟩
  have hrg : ∀ wz, Below w.heap.size w wz → wz.rangeAt gf (o + 12) (bv sf) := fun wz hz => by rw [hsf]; exact (hfx.kept hz).selfR
  rw [← hsf] at hslf hsz
  have HRG := hide hrg
  have HSF := hide hsf
  have dW : Below w.heap.size w w.drew := Quiet.below ⟨1, rfl⟩ _
  clear hrg hsf
  generalize xs.getD 0 0 = m0 at H0 x0
  generalize xs.getD 1 0 = m1 at H1 x1
  generalize xs.getD 2 0 = m2 at H2 x2
  generalize xs.getD 3 0 = m3 at H3 x3
  clear h hfx hx hA ha ho hf
  go_enter Sakg.func218, Sakg.ntmps218
  go_wp2_with fail
  refine (unhide H0).mono ?_
  rintro e w1 ⟨⟨A0, k0, c0, rfl, n0⟩, rfl⟩
  have N0 := hide n0
  clear n0
  go_wp2_with fail
  refine (unhide H1).mono ?_
  rintro e w1 ⟨⟨A1, k1, c1, rfl, n1⟩, rfl⟩
  have N1 := hide n1
  clear n1
  go_wp2_with fail
  refine (unhide H2).mono ?_
  rintro e w1 ⟨⟨A2, k2, c2, rfl, n2⟩, rfl⟩
  have N2 := hide n2
  clear n2
  go_upto_region 24 with fail
  refine wp_region_noPanic ?_
  refine wp_region_held_drew (S := fun w' => w'.rangeAt gf (o + 12) (bv sf)) (by kernel_rfl) (unhide HRG _ dW) (fun hHeld => ?_)
  refine held_takeD 0 (.pointer (some ⟨bw, 0, none⟩)) (some 123) (by rfl) (by rfl) (by kernel_rfl) (by kernel_rfl) (by kernel_rfl) (fun _ _ _ h => h) (.inl ⟨by rfl, fun _ _ => by rfl⟩) (hHeld) ?_
  simp only [Act.put, List.setIfInBounds_toArray, List.set_cons_zero, List.set_cons_succ]
  refine held_takeD 1 (.pointer (some ⟨bw, 0, none⟩)) (some 124) (by rfl) (by rfl) (by kernel_rfl) (by kernel_rfl) (by kernel_rfl) (fun _ _ _ h => h) (.inl ⟨by rfl, fun _ _ => by go_simp⟩) (hHeld) ?_
  simp only [Act.put, List.setIfInBounds_toArray, List.set_cons_zero, List.set_cons_succ]
  refine held_takeD 2 (.pointer (some ⟨bw, 0, none⟩)) (some 125) (by rfl) (by rfl) (by kernel_rfl) (by kernel_rfl) (by kernel_rfl) (fun _ _ _ h => h) (.inl ⟨by rfl, fun _ _ => by go_simp⟩) (hHeld) ?_
  simp only [Act.put, List.setIfInBounds_toArray, List.set_cons_zero, List.set_cons_succ]
  refine held_takeD 3 (.pointer (some ⟨gf, o, none⟩)) (some 126) (by rfl) (by rfl) (by kernel_rfl) (by kernel_rfl) (by kernel_rfl) (fun _ _ _ h => h) (.inl ⟨by rfl, fun _ _ => by rfl⟩) (hHeld) ?_
  simp only [Act.put, List.setIfInBounds_toArray, List.set_cons_zero, List.set_cons_succ]
  refine held_takeD 4 (.pointer (some ⟨gf, o, none⟩)) (some 127) (by rfl) (by rfl) (by kernel_rfl) (by kernel_rfl) (by kernel_rfl) (fun _ _ _ h => h) (.inl ⟨by rfl, fun _ _ => by go_simp⟩) (hHeld) ?_
  simp only [Act.put, List.setIfInBounds_toArray, List.set_cons_zero, List.set_cons_succ]
  refine held_takeD 5 (.pointer (some ⟨gf, o + 12, none⟩)) (some 128) (by rfl) (by rfl) (by kernel_rfl) (by kernel_rfl) (by kernel_rfl) (fun _ _ _ h => h) (.inl ⟨by rfl, fun _ _ => by go_simp⟩) (hHeld) ?_
  simp only [Act.put, List.setIfInBounds_toArray, List.set_cons_zero, List.set_cons_succ]
  refine held_takeD 6 (.agg (bv sf).toArray) (some 129) (by rfl) (by rfl) (by kernel_rfl) (by kernel_rfl) (by kernel_rfl) (fun _ _ _ h => h) (yieldsIf_load_mid (by rfl) _ _ rfl _ _ rfl _ _ (fun wz hS => hS) hu rfl hsz) (hHeld) ?_
  simp only [Act.put, List.setIfInBounds_toArray, List.set_cons_zero, List.set_cons_succ]
  refine held_takeD 7 (.slice A0 k0 c0) (some 130) (by rfl) (by rfl) (by kernel_rfl) (by kernel_rfl) (by kernel_rfl) (fun _ _ _ h => h) (.inl ⟨by rfl, fun _ _ => by rfl⟩) (hHeld) ?_
  simp only [Act.put, List.setIfInBounds_toArray, List.set_cons_zero, List.set_cons_succ]
  refine held_takeD 8 (.slice A1 k1 c1) (some 131) (by rfl) (by rfl) (by kernel_rfl) (by kernel_rfl) (by kernel_rfl) (fun _ _ _ h => h) (.inl ⟨by rfl, fun _ _ => by rfl⟩) (hHeld) ?_
  simp only [Act.put, List.setIfInBounds_toArray, List.set_cons_zero, List.set_cons_succ]
  refine held_one 9 (by kernel_rfl) (by rfl) (fun K' hK' => ?_)
  go_simp
  refine (((unhide HSR).kept dW).cw.tstore hg sf hslf A0 k0 c0 m0 ((unhide N0).kp (ChgS.of dW)) x0 A1 k1 c1 m1 ((unhide N1).kp (ChgS.of dW)) x1).mono ?_
  rintro e w6 ⟨rfl, ts, hts, htm, hwp⟩
  refine hK'.out _ _ ((((unhide HSR).kept dW).world hwp).elim fun _ hh => (by rw [unhide HO, unhide HSF]; exact hh.1.fx.selfR)) ?_
  clear hK' K'
  refine wpAnyH_done (by kernel_rfl) ?_ _
  refine NoPanic.normal ?_
  obtain ⟨cs6, hsr6, hmv6, -, hch6⟩ := ((unhide HSR).kept dW).world hwp
  have hgr6 : Gr B d { d with temps := ts } 2500 := Gr.temps hg.snd hts (fun t ht => by
    rcases htm t ht with rfl | h1
    · exact ⟨x0, x1⟩
    · exact hg.temps t h1)
  have hmv : Mv G w w6 := (Mv.of dW).trans hmv6
  have HSR6 := hide hsr6
  have HGR6 := hide hgr6
  have HMV6 := hide hmv
  clear hwp hsr6 hgr6 hmv hmv6 hch6 htm
  go_wp2
  go_ret
  exact ⟨_, G, cs6, _, rfl, Wider.refl _ _, unhide HSR6, unhide HGR6, (unhide HMV6).chg, (unhide HMV6).tm⟩
set_option maxHeartbeats 8000000 in
theorem effect_60 (h : SR G bw gf cs fr d (f :: r) x w) (hx : XB x) (hg : Good B d) (hf : AnyF f) (hml : f.ml ≤ 1000000) (hwt : wt d + 40000 ≤ 2250000000) (ao : Option Addr) (l c : Nat) (xs : List Nat) (hA : SStk G w ao l c xs) (hl : l ≤ 100) (ha : ∀ i, xs.getD i 0 < P256) (hn : xs.getD 3 0 ≤ 1000000) :
    Calls Sakg.prog 218 #[.pointer (some ⟨bw, 0, none⟩), .pointer (some ⟨gf, 60 * r.length, none⟩), .int .u8 60, .slice ao l c] w (EffR G bw gf fr B d (f :: r) x 2500 w) := by
  have hBB := big_ge
  have hPB := p256_lt
  have hfx := h.fx
  obtain ⟨o, ho⟩ : ∃ o, o = 60 * r.length := ⟨_, rfl⟩
  rw [← ho] at hfx ⊢
  have HO := hide ho
  have HF := hide hfx
  have HSR := hide h
  have HX := hide hx
  have HFF := hide hf
  have H0 := hide (operandK G ao l c xs 0 w hA hl (by omega))
  have H1 := hide (operandK G ao l c xs 1 w hA hl (by omega))
  have H2 := hide (operandK G ao l c xs 2 w hA hl (by omega))
  have H3 := hide (fun wz (hz : Below w.heap.size w wz) => operandK G ao l c xs 3 wz (hA.go (ChgS.of hz)) hl (by omega))
  have x0 := ha 0
  have x1 := ha 1
  have x2 := ha 2
  have x3 := ha 3
  have dW : Below w.heap.size w w.drew := Quiet.below ⟨1, rfl⟩ _
  have HSA := hide hA
  generalize xs.getD 0 0 = m0 at H0 x0
  generalize xs.getD 1 0 = m1 at H1 x1
  generalize xs.getD 2 0 = m2 at H2 x2
  generalize hm3e : xs.getD 3 0 = m3 at H3 x3 hn
  have HM3E := hide hm3e
  clear hm3e
  clear h hfx hx hA ha ho hf
  go_enter Sakg.func218, Sakg.ntmps218
  go_wp2_with fail
  refine (unhide H0).mono ?_
  rintro e w1 ⟨⟨A0, k0, c0, rfl, n0⟩, rfl⟩
  have N0 := hide n0
  clear n0
  go_wp2_with fail
  refine (unhide H1).mono ?_
  rintro e w1 ⟨⟨A1, k1, c1, rfl, n1⟩, rfl⟩
  have N1 := hide n1
  clear n1
  go_wp2_with fail
  refine (unhide H2).mono ?_
  rintro e w1 ⟨⟨A2, k2, c2, rfl, n2⟩, rfl⟩
  have N2 := hide n2
  clear n2
  go_upto_region 13 with fail
  refine wp_region_noPanic ?_
  refine wp_region_held_drew (S := fun _ => True) (by kernel_rfl) (trivial) (fun hHeld => ?_)
  refine held_takeD 0 (.pointer (some ⟨bw, 0, none⟩)) (some 75) (by rfl) (by rfl) (by kernel_rfl) (by kernel_rfl) (by kernel_rfl) (fun _ _ _ h => h) (.inl ⟨by rfl, fun _ _ => by rfl⟩) (hHeld) ?_
  simp only [Act.put, List.setIfInBounds_toArray, List.set_cons_zero, List.set_cons_succ]
  refine held_takeD 1 (.pointer (some ⟨bw, 0, none⟩)) (some 76) (by rfl) (by rfl) (by kernel_rfl) (by kernel_rfl) (by kernel_rfl) (fun _ _ _ h => h) (.inl ⟨by rfl, fun _ _ => by go_simp⟩) (hHeld) ?_
  simp only [Act.put, List.setIfInBounds_toArray, List.set_cons_zero, List.set_cons_succ]
  refine held_takeD 2 (.pointer (some ⟨bw, 0, none⟩)) (some 77) (by rfl) (by rfl) (by kernel_rfl) (by kernel_rfl) (by kernel_rfl) (fun _ _ _ h => h) (.inl ⟨by rfl, fun _ _ => by go_simp⟩) (hHeld) ?_
  simp only [Act.put, List.setIfInBounds_toArray, List.set_cons_zero, List.set_cons_succ]
  refine held_takeD 3 (.slice A0 k0 c0) (some 78) (by rfl) (by rfl) (by kernel_rfl) (by kernel_rfl) (by kernel_rfl) (fun _ _ _ h => h) (.inl ⟨by rfl, fun _ _ => by rfl⟩) (hHeld) ?_
  simp only [Act.put, List.setIfInBounds_toArray, List.set_cons_zero, List.set_cons_succ]
  refine held_one 4 (by kernel_rfl) (by rfl) (fun K' hK' => ?_)
  go_simp
  refine (addrOf_any A0 k0 c0 m0 w.drew ((unhide N0).kp (ChgS.of dW)).now (by omega)).mono ?_
  rintro e w2 ⟨⟨ta, rfl, hta⟩, b2⟩
  refine hK'.out _ _ (trivial) ?_
  clear hK' K'
  have d2 : Below w.heap.size w w2 := dW.thn b2
  refine held_one 5 (by kernel_rfl) (by rfl) (fun K' hK' => ?_)
  go_simp
  refine (((unhide HSR).kept d2).cw.warm hg ta hta).mono ?_
  rintro e w3 ⟨rfl, als, hals, hwp⟩
  refine hK'.out _ _ (trivial) ?_
  clear hK' K'
  refine wpAnyH_done (by kernel_rfl) ?_ _
  refine NoPanic.normal ?_
  obtain ⟨cs3, hsr3, hmv3, hs83, hch3⟩ := ((unhide HSR).kept d2).world hwp
  have hgr3 : Gr B d { d with warmA := als } 2500 := Gr.warm hg.snd hals
  have hmv : Mv G w w3 := (Mv.of d2).trans hmv3
  have hgood3 := hgr3.good (K := 2250000000) (by omega) (Nat.le_refl _)
  have hfx3 : FX G gf o fr f w3 := by rw [unhide HO]; exact hsr3.fx
  have HF3 := hide hfx3
  have HSR3 := hide hsr3
  have HGR3 := hide hgr3
  have HMV := hide hmv
  have K0 := hide ((unhide N0).kp hmv.chg)
  have K1 := hide ((unhide N1).kp hmv.chg)
  have K2 := hide ((unhide N2).kp hmv.chg)
  have KS := hide ((unhide HSA).go hmv.chg)
  clear hwp hsr3 hgr3 hmv hmv3 hs83 hch3 hfx3
  go_upto_region 14 with fail
  have dV : Below w3.heap.size w3 w3.drew := Quiet.below ⟨1, rfl⟩ _
  refine wp_region_noPanic ?_
  refine wp_region_held_drew (S := fun _ => True) (by kernel_rfl) (trivial) (fun hHeld => ?_)
  refine held_takeD 0 (.pointer (some ⟨gf, o, none⟩)) (some 81) (by rfl) (by rfl) (by kernel_rfl) (by kernel_rfl) (by kernel_rfl) (fun _ _ _ h => h) (.inl ⟨by rfl, fun _ _ => by rfl⟩) (hHeld) ?_
  simp only [Act.put, List.setIfInBounds_toArray, List.set_cons_zero, List.set_cons_succ]
  refine held_takeD 1 (.slice A1 k1 c1) (some 82) (by rfl) (by rfl) (by kernel_rfl) (by kernel_rfl) (by kernel_rfl) (fun _ _ _ h => h) (.inl ⟨by rfl, fun _ _ => by rfl⟩) (hHeld) ?_
  simp only [Act.put, List.setIfInBounds_toArray, List.set_cons_zero, List.set_cons_succ]
  refine held_takeD 2 (.pointer (some ⟨bw, 0, none⟩)) (some 83) (by rfl) (by rfl) (by kernel_rfl) (by kernel_rfl) (by kernel_rfl) (fun _ _ _ h => h) (.inl ⟨by rfl, fun _ _ => by rfl⟩) (hHeld) ?_
  simp only [Act.put, List.setIfInBounds_toArray, List.set_cons_zero, List.set_cons_succ]
  refine held_takeD 3 (.pointer (some ⟨bw, 0, none⟩)) (some 84) (by rfl) (by rfl) (by kernel_rfl) (by kernel_rfl) (by kernel_rfl) (fun _ _ _ h => h) (.inl ⟨by rfl, fun _ _ => by go_simp⟩) (hHeld) ?_
  simp only [Act.put, List.setIfInBounds_toArray, List.set_cons_zero, List.set_cons_succ]
  refine held_takeD 4 (.pointer (some ⟨bw, 0, none⟩)) (some 85) (by rfl) (by rfl) (by kernel_rfl) (by kernel_rfl) (by kernel_rfl) (fun _ _ _ h => h) (.inl ⟨by rfl, fun _ _ => by go_simp⟩) (hHeld) ?_
  simp only [Act.put, List.setIfInBounds_toArray, List.set_cons_zero, List.set_cons_succ]
  refine held_takeD 5 (.slice A0 k0 c0) (some 86) (by rfl) (by rfl) (by kernel_rfl) (by kernel_rfl) (by kernel_rfl) (fun _ _ _ h => h) (.inl ⟨by rfl, fun _ _ => by rfl⟩) (hHeld) ?_
  simp only [Act.put, List.setIfInBounds_toArray, List.set_cons_zero, List.set_cons_succ]
  refine held_takeD 9 (.slice A2 k2 c2) (some 90) (by rfl) (by rfl) (by kernel_rfl) (by kernel_rfl) (by kernel_rfl) (fun _ _ _ h => h) (.inl ⟨by rfl, fun _ _ => by rfl⟩) (hHeld) ?_
  simp only [Act.put, List.setIfInBounds_toArray, List.set_cons_zero, List.set_cons_succ]
  refine held_takeD 10 (.slice ao l c) (some 91) (by rfl) (by rfl) (by kernel_rfl) (by kernel_rfl) (by kernel_rfl) (fun _ _ _ h => h) (.inl ⟨by rfl, fun _ _ => by rfl⟩) (hHeld) ?_
  simp only [Act.put, List.setIfInBounds_toArray, List.set_cons_zero, List.set_cons_succ]
  refine held_one 6 (by kernel_rfl) (by rfl) (fun K' hK' => ?_)
  go_simp
  refine (addrOf_any A0 k0 c0 m0 w3.drew ((unhide K0).kp (ChgS.of dV)).now (by omega)).mono ?_
  rintro e w4 ⟨⟨tb, rfl, htb⟩, b4⟩
  refine hK'.out _ _ (trivial) ?_
  clear hK' K'
  have d4 : Below w3.heap.size w3 w4 := dV.thn b4
  refine held_one 7 (by kernel_rfl) (by rfl) (fun K' hK' => ?_)
  go_simp
  refine ((unhide HSR3).cw.accountAt hgood3 d4 tb htb).mono ?_
  rintro e w5 ⟨rs, rfl, hrs, b5⟩
  refine hK'.out _ _ (trivial) ?_
  clear hK' K'
  have d5 : Below w3.heap.size w3 w5 := d4.thn b5
  obtain ⟨B1, j1, e1, B2, j2, e2, B3, j3, e3, B4, j4, e4, q20, q21, q22, q23, s1, s2, s3, s4⟩ := hrs.cells
  have hfld := run_field_slice fldCodeK Sakg.underlying30 rs _ q22
  refine held_takeD 8 (.slice B3 j3 e3) (some 89) (by rfl) (by rfl) (by kernel_rfl) (by kernel_rfl) (by kernel_rfl) (fun _ _ _ h => h) (.inl ⟨by rfl, fun _ _ => by go_simp⟩) (trivial) ?_
  simp only [Act.put, List.setIfInBounds_toArray, List.set_cons_zero, List.set_cons_succ]
  have hj3 : j3 ≤ 1000000 := by have h1 := s3.now.len_eq; have h2 := (hgood3.acc.look tb).code; omega
  have hop := operandK G ao l c xs 3 w5 ((unhide KS).go (ChgS.of d5)) hl (by omega)
  rw [unhide HM3E] at hop
  refine held_one 11 (by kernel_rfl) (by rfl) (fun K' hK' => ?_)
  go_simp
  refine (hop).mono ?_
  rintro e w6 ⟨⟨A3, k3, c3, rfl, n3⟩, rfl⟩
  refine hK'.out _ _ (trivial) ?_
  clear hK' K'
  refine held_one 12 (by kernel_rfl) (by rfl) (fun K' hK' => ?_)
  go_simp
  refine (((unhide HF3).kept d5).copied hml A1 k1 c1 m1 ((unhide K1).kp (ChgS.of d5)) (by omega) B3 j3 e3 _ (s3.kp (ChgS.of d5)).now hj3 A2 k2 c2 m2 ((unhide K2).kp (ChgS.of d5)).now (by omega) A3 k3 c3 m3 n3.now (by omega)).mono ?_
  rintro e w7 ⟨rfl, -, hm7, hr7⟩
  refine hK'.out _ _ (trivial) ?_
  clear hK' K'
  refine wpAnyH_done (by kernel_rfl) ?_ _
  refine NoPanic.normal ?_
  have HM7 := hide hm7
  have HR7 := hide hr7
  clear hrs s1 s2 s3 s4 hfld q20 q21 q22 q23 hm7 hr7 n3 hop
  go_wp2
  go_ret
  exact ⟨_, G, cs3, _, rfl, Wider.refl _ _, ((unhide HSR3).kept d5).mem (unhide HM7) (unhide HR7), unhide HGR3, (unhide HMV).chg.trans ((ChgS.of d5).trans (unhide HM7).chg), (unhide HMV).tm.trans ((Tm.of d5).trans (unhide HM7).tm)⟩
set_option maxHeartbeats 8000000 in
theorem effect_80 (h : SR G bw gf cs fr d (f :: r) x w) (hx : XB x) (hg : Good B d) (hf : AnyF f) (hml : f.ml ≤ 1000000) (hwt : wt d + 40000 ≤ 2250000000) (ao : Option Addr) (l c : Nat) (xs : List Nat) (hA : SStk G w ao l c xs) (hl : l ≤ 100) (ha : ∀ i, xs.getD i 0 < P256) :
    Calls Sakg.prog 218 #[.pointer (some ⟨bw, 0, none⟩), .pointer (some ⟨gf, 60 * r.length, none⟩), .int .u8 80, .slice ao l c] w (EffR G bw gf fr B d (f :: r) x 0 w) := by
  have hBB := big_ge
  have hPB := p256_lt
  have hfx := h.fx
  obtain ⟨o, ho⟩ : ∃ o, o = 60 * r.length := ⟨_, rfl⟩
  rw [← ho] at hfx ⊢
  have HO := hide ho
  have HF := hide hfx
  have HSR := hide h
  have HX := hide hx
  have HFF := hide hf
  have H0 := hide (operandK G ao l c xs 0 w hA hl (by omega))
  have H1 := hide (operandK G ao l c xs 1 w hA hl (by omega))
  have H2 := hide (operandK G ao l c xs 2 w hA hl (by omega))
  have H3 := hide (fun wz (hz : Below w.heap.size w wz) => operandK G ao l c xs 3 wz (hA.go (ChgS.of hz)) hl (by omega))
  have x0 := ha 0
  have x1 := ha 1
  have x2 := ha 2
  have x3 := ha 3
  generalize xs.getD 0 0 = m0 at H0 x0
  generalize xs.getD 1 0 = m1 at H1 x1
  generalize xs.getD 2 0 = m2 at H2 x2
  generalize xs.getD 3 0 = m3 at H3 x3
  clear h hfx hx hA ha ho hf
  go_enter Sakg.func218, Sakg.ntmps218
  go_wp2_with fail
  refine (unhide H0).mono ?_
  rintro e w1 ⟨⟨A0, k0, c0, rfl, n0⟩, rfl⟩
  have N0 := hide n0
  clear n0
  go_wp2_with fail
  refine (unhide H1).mono ?_
  rintro e w1 ⟨⟨A1, k1, c1, rfl, n1⟩, rfl⟩
  have N1 := hide n1
  clear n1
  go_wp2_with fail
  refine (unhide H2).mono ?_
  rintro e w1 ⟨⟨A2, k2, c2, rfl, n2⟩, rfl⟩
  have N2 := hide n2
  clear n2
  go_wp2
  go_ret
  exact ⟨_, G, cs, d, rfl, Wider.refl _ _, unhide HSR, Gr.refl hg.snd _, ChgS.refl _ _, Tm.refl _⟩
set_option maxHeartbeats 8000000 in
theorem effect_87 (h : SR G bw gf cs fr d (f :: r) x w) (hx : XB x) (hg : Good B d) (hf : AnyF f) (hml : f.ml ≤ 1000000) (hwt : wt d + 40000 ≤ 2250000000) (ao : Option Addr) (l c : Nat) (xs : List Nat) (hA : SStk G w ao l c xs) (hl : l ≤ 100) (ha : ∀ i, xs.getD i 0 < P256) :
    Calls Sakg.prog 218 #[.pointer (some ⟨bw, 0, none⟩), .pointer (some ⟨gf, 60 * r.length, none⟩), .int .u8 87, .slice ao l c] w (EffR G bw gf fr B d (f :: r) x 0 w) := by
  have hBB := big_ge
  have hPB := p256_lt
  have hfx := h.fx
  obtain ⟨o, ho⟩ : ∃ o, o = 60 * r.length := ⟨_, rfl⟩
  rw [← ho] at hfx ⊢
  have HO := hide ho
  have HF := hide hfx
  have HSR := hide h
  have HX := hide hx
  have HFF := hide hf
  have H0 := hide (operandK G ao l c xs 0 w hA hl (by omega))
  have H1 := hide (operandK G ao l c xs 1 w hA hl (by omega))
  have H2 := hide (operandK G ao l c xs 2 w hA hl (by omega))
  have H3 := hide (fun wz (hz : Below w.heap.size w wz) => operandK G ao l c xs 3 wz (hA.go (ChgS.of hz)) hl (by omega))
  have x0 := ha 0
  have x1 := ha 1
  have x2 := ha 2
  have x3 := ha 3
  generalize xs.getD 0 0 = m0 at H0 x0
  generalize xs.getD 1 0 = m1 at H1 x1
  generalize xs.getD 2 0 = m2 at H2 x2
  generalize xs.getD 3 0 = m3 at H3 x3
  clear h hfx hx hA ha ho hf
  go_enter Sakg.func218, Sakg.ntmps218
  go_wp2_with fail
  refine (unhide H0).mono ?_
  rintro e w1 ⟨⟨A0, k0, c0, rfl, n0⟩, rfl⟩
  have N0 := hide n0
  clear n0
  go_wp2_with fail
  refine (unhide H1).mono ?_
  rintro e w1 ⟨⟨A1, k1, c1, rfl, n1⟩, rfl⟩
  have N1 := hide n1
  clear n1
  go_wp2_with fail
  refine (unhide H2).mono ?_
  rintro e w1 ⟨⟨A2, k2, c2, rfl, n2⟩, rfl⟩
  have N2 := hide n2
  clear n2
  go_wp2
  go_ret
  exact ⟨_, G, cs, d, rfl, Wider.refl _ _, unhide HSR, Gr.refl hg.snd _, ChgS.refl _ _, Tm.refl _⟩
set_option maxHeartbeats 8000000 in
theorem effect_91 (h : SR G bw gf cs fr d (f :: r) x w) (hx : XB x) (hg : Good B d) (hf : AnyF f) (hml : f.ml ≤ 1000000) (hwt : wt d + 40000 ≤ 2250000000) (ao : Option Addr) (l c : Nat) (xs : List Nat) (hA : SStk G w ao l c xs) (hl : l ≤ 100) (ha : ∀ i, xs.getD i 0 < P256) :
    Calls Sakg.prog 218 #[.pointer (some ⟨bw, 0, none⟩), .pointer (some ⟨gf, 60 * r.length, none⟩), .int .u8 91, .slice ao l c] w (EffR G bw gf fr B d (f :: r) x 0 w) := by
  have hBB := big_ge
  have hPB := p256_lt
  have hfx := h.fx
  obtain ⟨o, ho⟩ : ∃ o, o = 60 * r.length := ⟨_, rfl⟩
  rw [← ho] at hfx ⊢
  have HO := hide ho
  have HF := hide hfx
  have HSR := hide h
  have HX := hide hx
  have HFF := hide hf
  have H0 := hide (operandK G ao l c xs 0 w hA hl (by omega))
  have H1 := hide (operandK G ao l c xs 1 w hA hl (by omega))
  have H2 := hide (operandK G ao l c xs 2 w hA hl (by omega))
  have H3 := hide (fun wz (hz : Below w.heap.size w wz) => operandK G ao l c xs 3 wz (hA.go (ChgS.of hz)) hl (by omega))
  have x0 := ha 0
  have x1 := ha 1
  have x2 := ha 2
  have x3 := ha 3
  generalize xs.getD 0 0 = m0 at H0 x0
  generalize xs.getD 1 0 = m1 at H1 x1
  generalize xs.getD 2 0 = m2 at H2 x2
  generalize xs.getD 3 0 = m3 at H3 x3
  clear h hfx hx hA ha ho hf
  go_enter Sakg.func218, Sakg.ntmps218
  go_wp2_with fail
  refine (unhide H0).mono ?_
  rintro e w1 ⟨⟨A0, k0, c0, rfl, n0⟩, rfl⟩
  have N0 := hide n0
  clear n0
  go_wp2_with fail
  refine (unhide H1).mono ?_
  rintro e w1 ⟨⟨A1, k1, c1, rfl, n1⟩, rfl⟩
  have N1 := hide n1
  clear n1
  go_wp2_with fail
  refine (unhide H2).mono ?_
  rintro e w1 ⟨⟨A2, k2, c2, rfl, n2⟩, rfl⟩
  have N2 := hide n2
  clear n2
  go_wp2
  go_ret
  exact ⟨_, G, cs, d, rfl, Wider.refl _ _, unhide HSR, Gr.refl hg.snd _, ChgS.refl _ _, Tm.refl _⟩
end

end Go.Proofs.YgcsakGreat
