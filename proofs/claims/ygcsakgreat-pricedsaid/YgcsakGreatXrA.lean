/-
  yp, exactly: runs, step by step.
-/
import Derived.Test.YgcsakGreatXsB
import Derived.Test.YgcsakGreatXqA
import Derived.Test.YgcsakGreatXvA
import Derived.Test.YgcsakGreatXeA
import Derived.Test.YgcsakGreatXeB
import Derived.Test.YgcsakGreatXpB
import Derived.Test.YgcsakGreatXlA
import Derived.Test.YgcsakGreatXcD
namespace Go.Proofs.YgcsakGreat
set_option linter.unusedVariables false
set_option linter.unusedSimpArgs false
set_option maxRecDepth 100000
open Go.RowKit

/-- from w on the chain takes n steps; behind them P holds -/
def Goes (bw : Nat) (P : World → Prop) : Nat → World → Prop
  | 0, w => P w
  | n + 1, w => Calls Sakg.prog 49 #[.pointer (some ⟨bw, 0, none⟩)] w fun e w' => e = .returned (.bool true) ∧ Goes bw P n w'
/-- the chain runs: the world, the frames and the rest are told -/
structure RunX (G0 : Nat → Prop) (W : World) (bw B K : Nat) (d : WD) (f : FD) (r : List FD) (x : XD) (z : Bool) (w : World) : Prop where
  run : ∃ G gf cs fr rt, Wider G0 G W ∧ CT G0 W w ∧ SR G bw gf cs fr d (f :: r) { x with ret := rt } w ∧ rt.length ≤ 1000000 ∧ (z = true → Zm w fr (60 * r.length) f.ml (zeros f.ml))
  xb : XB x
  good : Good B d
  wtle : wt d ≤ K
  top : K + 60000 ≤ 2250000000
  any : AnyF f
  ml : f.ml ≤ 900000
  gas : f.gas ≤ 1048576
  dep : r.length ≤ 5
  nat : f.native = 0
  sta : f.static = false
/-- the transaction's run has ended well -/
structure EndX (G0 : Nat → Prop) (W : World) (bw B K : Nat) (d : WD) (x : XD) (left : Nat) (w : World) : Prop where
  run : ∃ G cs rt, Wider G0 G W ∧ CT G0 W w ∧ SE G bw cs d { x with ret := rt, status := 0, left := left } w ∧ rt.length ≤ 1000000
  xb : XB x
  good : Good B d
  wtle : wt d ≤ K
  top : K + 60000 ≤ 2250000000
  left : left ≤ 1048576
section
variable {G0 : Nat → Prop} {W : World} {bw B K K' : Nat} {d : WD} {f : FD} {r : List FD} {x : XD} {z : Bool} {w : World} {Q : World → Prop} {m p n bN : Nat}
theorem XB.setRet (h : XB x) {rt : List Int} (hl : rt.length ≤ 1000000) : XB { x with ret := rt } := ⟨h.start, h.nstart, hl, h.limit, h.txgas, h.left, h.price, h.total, h.origin, h.made, h.coin, h.number, h.time, h.glimit, h.randao, h.chain, h.fee⟩
theorem ct_then {G' G2 : Nat → Prop} {w2 : World} (hW : Wider G0 G' W) (hC : CT G0 W w) (h1 : Wider G' G2 w) (h2 : CT G' w w2) : Wider G0 G2 W ∧ CT G0 W w2 :=
  ⟨hW.trans h1 hC.c.size, ⟨hC.c.then h2.c hW.new, hC.t.trans h2.t⟩⟩
theorem AnyF.paid (h : AnyF f) : AnyF (paidF f p n) := ⟨h.pc, h.value, h.outOff, h.outLen, h.stk, h.slen, h.code, h.input, h.kind, h.native⟩
theorem growN_900 (ml t : Nat) (h1 : ml ≤ 900000) (h2 : t ≤ 900000) : growN ml t ≤ 900000 := by
  unfold growN
  split <;> omega
/-- where refusal asks for nothing besides -/
def ClsA (p : Nat) : Prop := p ≤ 61 ∨ (63 ≤ p ∧ p ≤ 84) ∨ (88 ≤ p ∧ p ≤ 239) ∨ (241 ≤ p ∧ p ≤ 244)
theorem pow41 : (1048576 : Nat) < 256 ^ 41 := by decide +kernel
section
variable {G : Nat → Prop} {gf : Nat} {cs fr : List Value}
theorem ref_cost (h : SR G bw gf cs fr d (f :: r) x w) (hx : XB x) (hg : Good B d) (hf : AnyF f) (hml : f.ml ≤ 1000000) (hgas : f.gas ≤ 1048576) (hp : p ≤ 255) (hn : costB p f.stk f.ml bN = n) (hle : n ≤ f.gas)
    (hB : ∀ wz, Below w.heap.size w wz → Calls Sakg.prog 300 #[.pointer (some ⟨bw, 0, none⟩), .pointer (some ⟨gf, 60 * r.length, none⟩), .int .u8 p] wz (MakesNat wz bN)) :
    ∀ wz, Below w.heap.size w wz → Calls Sakg.prog 204 #[.pointer (some ⟨bw, 0, none⟩), .pointer (some ⟨gf, 60 * r.length, none⟩), .int .u8 p] wz (MakesNat wz n) := by
  intro wz hz
  have h41 := pow41
  have hb : bN ≤ n := by rw [← hn]; unfold costB; omega
  have := (h.kept hz).costX hx hg hf hml p hp bN (by omega) (hB wz hz)
  rw [hn] at this
  exact this
theorem refA (hcl : ClsA p) (h : SR G bw gf cs fr d (f :: r) x w) (hx : XB x) (hg : Good B d) (hf : AnyF f) (hml : f.ml ≤ 1000000) (hgas : f.gas ≤ 1048576) (hp : p ≤ 255) (hn : costB p f.stk f.ml bN = n) (hle : n ≤ f.gas)
    (hB : ∀ wz, Below w.heap.size w wz → Calls Sakg.prog 300 #[.pointer (some ⟨bw, 0, none⟩), .pointer (some ⟨gf, 60 * r.length, none⟩), .int .u8 p] wz (MakesNat wz bN)) (hkn : famA p ≠ 0) (htk : takA p ≤ f.stk.length) (hov : f.stk.length - takA p + givA p ≤ 64) (hst : f.static = false) :
    ∀ wz, Below w.heap.size w wz → Calls Sakg.prog 113 #[.pointer (some ⟨bw, 0, none⟩), .pointer (some ⟨gf, 60 * r.length, none⟩), .int .u8 p] wz (RefX n wz) := by
  intro wz hz
  have hBB := big_ge
  have hC := ref_cost h hx hg hf hml hgas hp hn hle hB
  have hC2 : ∀ wy, Below wz.heap.size wz wy → _ := fun wy hy => hC wy (hz.thn hy)
  rcases hcl with c | ⟨c, c'⟩ | ⟨c, c'⟩ | ⟨c, c'⟩
  · exact refuseX_0 p (Nat.zero_le _) c (h.kept hz) hx hf (by omega) n (by omega) hC2 hkn htk hov hst hle
  · exact refuseX_63 p c c' (h.kept hz) hx hf (by omega) n (by omega) hC2 hkn htk hov hst hle
  · exact refuseX_88 p c c' (h.kept hz) hx hf (by omega) n (by omega) hC2 hkn htk hov hst hle
  · exact refuseX_241 p c c' (h.kept hz) hx hf (by omega) n (by omega) hC2 hkn htk hov hst hle
end
/-- a word is laid -/
theorem run_value (h : RunX G0 W bw B K d f r x true w) (hop : opcN f = p) (hp : p ≤ 255) (hvO : valO p) (hgv : givA p = 1) (hre : reachA p f.stk ≤ 900000) (hne : p ≠ 0 ∧ p ≠ 243 ∧ p ≠ 253 ∧ p ≠ 255 ∧ famA p ≠ 16 ∧ famA p ≠ 0) (hn : costB p f.stk f.ml bN = n) (hle : n ≤ f.gas) (hcl : ClsA p) (htk : takA p ≤ f.stk.length) (hsl : f.stk.length ≤ 60) (hpc : f.pc ≤ 1000)
    (hB : ∀ G gf cs fr rt wz, SR G bw gf cs fr d (f :: r) { x with ret := rt } wz → XB { x with ret := rt } → Calls Sakg.prog 300 #[.pointer (some ⟨bw, 0, none⟩), .pointer (some ⟨gf, 60 * r.length, none⟩), .int .u8 p] wz (MakesNat wz bN))
    (P : Nat → WD → Prop)
    (hV : ∀ G gf cs fr rt wz A, SR G bw gf cs fr d (paidF f p n :: r) { x with ret := rt } wz → XB { x with ret := rt } → SStk G wz A (takA p) (takA p) (argsK f.stk (takA p)) → Calls Sakg.prog 217 #[.pointer (some ⟨bw, 0, none⟩), .pointer (some ⟨gf, 60 * r.length, none⟩), .int .u8 p, .slice A (takA p) (takA p)] wz (ValX G bw gf fr (paidF f p n :: r) { x with ret := rt } P wz))
    (hP : ∀ v d', v < P256 → P v d' → Good B d' ∧ wt d' ≤ K') (hK' : K' + 60000 ≤ 2250000000)
    (k : ∀ v d' w', v < P256 → P v d' → RunX G0 W bw B K' d' { paidF f p n with stk := f.stk.take (f.stk.length - takA p) ++ [v], pc := f.pc + 1 + immA p } r x true w' → Goes bw Q m w') : Goes bw Q (m + 1) w := by
  obtain ⟨⟨G, gf, cs, fr, rt, hW, hC, hs, hrt, hz⟩, hx, hg, hwt, hK, hf, hml, hgas, hdep, hnat, hsta⟩ := h
  have hxr := hx.setRet hrt
  have hP1 := p256_ge
  have him : immA p ≤ 32 := by unfold immA; split <;> omega
  have hmay : MayX G bw gf cs fr d f r { x with ret := rt } w B := ⟨hs, hxr, hg, hf, hml, hgas, by omega, hnat, hz rfl⟩
  have hRF := refA hcl hs hxr hg hf (by omega) hgas hp hn hle (fun wz hz => hB G gf cs fr rt wz (hs.kept hz) hxr) hne.2.2.2.2.2 htk (by omega) hsta
  show Calls Sakg.prog 49 #[.pointer (some ⟨bw, 0, none⟩)] w fun e w' => e = .returned (.bool true) ∧ Goes bw Q m w'
  refine step_plain hmay hop hp hre hle hne.1 hne.2.1 hne.2.2.1 hne.2.2.2.1 hne.2.2.2.2.1 hRF (Goes bw Q m) ?_
  intro G' fr' w' hW' hC' hs' hz'
  have hpf : AnyF (paidF f p n) := hf.paid
  obtain ⟨hW1, hC1⟩ := ct_then hW hC hW' hC'
  refine (plain_valueX p hp hs' (by show f.stk.length ≤ 64; omega) htk (by show f.pc < P256 + 34; omega) hvO hgv hpf.stk P (fun wz A hb hA => hV G' gf cs fr' rt wz A (hs'.kept hb) hxr hA)).mono ?_
  rintro e w2 ⟨rfl, cs2, fr2, d2, v, hs2, hv, hPv, hc2, hzm⟩
  refine ⟨rfl, k v d2 w2 hv hPv ?_⟩
  obtain ⟨hg2, hw2⟩ := hP v d2 hv hPv
  obtain ⟨hW2, hC2⟩ := ct_then hW1 hC1 (Wider.refl _ _) hc2
  have hml2 := growN_900 f.ml (reachA p f.stk) hml hre
  refine ⟨⟨G', gf, cs2, fr2, rt, hW2, hC2, hs2, hrt, fun _ => hzm _ hz'⟩, hx, hg2, hw2, hK', ⟨?_, hf.value, hf.outOff, hf.outLen, ?_, ?_, hf.code, hf.input, hf.kind, hf.native⟩, hml2, ?_, hdep, hnat, hsta⟩
  · show f.pc + 1 + immA p < P256
    omega
  · intro y hy
    rcases List.mem_append.mp hy with hy | hy
    · exact hf.stk y (List.mem_of_mem_take hy)
    · rw [List.mem_singleton.mp hy]; exact hv
  · show (f.stk.take (f.stk.length - takA p) ++ [v]).length ≤ 64
    rw [List.length_append, List.length_take]
    have : ([v] : List Nat).length = 1 := rfl
    omega
  · show f.gas - n ≤ 1048576
    omega
/-- nothing is laid -/
theorem run_effect (h : RunX G0 W bw B K d f r x true w) (hop : opcN f = p) (hp : p ≤ 255) (hvO : effO p) (hgv : givA p = 0) (hre : reachA p f.stk ≤ 900000) (hne : p ≠ 0 ∧ p ≠ 243 ∧ p ≠ 253 ∧ p ≠ 255 ∧ famA p ≠ 16 ∧ famA p ≠ 0 ∧ p ≠ 87) (hle : n ≤ f.gas) (htk : takA p ≤ f.stk.length) (hsl : f.stk.length ≤ 60) (hpc : f.pc ≤ 1000)
    (hR : ∀ G gf cs fr rt wz, SR G bw gf cs fr d (f :: r) { x with ret := rt } wz → XB { x with ret := rt } → Calls Sakg.prog 113 #[.pointer (some ⟨bw, 0, none⟩), .pointer (some ⟨gf, 60 * r.length, none⟩), .int .u8 p] wz (RefX n wz))
    (P : WD → Prop)
    (hV : ∀ G gf cs fr rt wz A, SR G bw gf cs fr d (paidF f p n :: r) { x with ret := rt } wz → XB { x with ret := rt } → SStk G wz A (takA p) (takA p) (argsK f.stk (takA p)) → Calls Sakg.prog 218 #[.pointer (some ⟨bw, 0, none⟩), .pointer (some ⟨gf, 60 * r.length, none⟩), .int .u8 p, .slice A (takA p) (takA p)] wz (EffX G bw gf fr (paidF f p n :: r) { x with ret := rt } P wz))
    (hP : ∀ d', P d' → Good B d' ∧ wt d' ≤ K') (hK' : K' + 60000 ≤ 2250000000) {z2 : Bool} (hz2 : z2 = true → growN f.ml (reachA p f.stk) = 0)
    (k : ∀ d' w', P d' → RunX G0 W bw B K' d' { paidF f p n with stk := f.stk.take (f.stk.length - takA p), pc := f.pc + 1 + immA p } r x z2 w' → Goes bw Q m w') : Goes bw Q (m + 1) w := by
  obtain ⟨⟨G, gf, cs, fr, rt, hW, hC, hs, hrt, hz⟩, hx, hg, hwt, hK, hf, hml, hgas, hdep, hnat, hsta⟩ := h
  have hxr := hx.setRet hrt
  have hP1 := p256_ge
  have him : immA p ≤ 32 := by unfold immA; split <;> omega
  have hmay : MayX G bw gf cs fr d f r { x with ret := rt } w B := ⟨hs, hxr, hg, hf, hml, hgas, by omega, hnat, hz rfl⟩
  show Calls Sakg.prog 49 #[.pointer (some ⟨bw, 0, none⟩)] w fun e w' => e = .returned (.bool true) ∧ Goes bw Q m w'
  refine step_plain hmay hop hp hre hle hne.1 hne.2.1 hne.2.2.1 hne.2.2.2.1 hne.2.2.2.2.1 (fun wz hz => hR G gf cs fr rt wz (hs.kept hz) hxr) (Goes bw Q m) ?_
  intro G' fr' w' hW' hC' hs' hz'
  have hpf : AnyF (paidF f p n) := hf.paid
  obtain ⟨hW1, hC1⟩ := ct_then hW hC hW' hC'
  refine (plain_effX p hvO hne.2.2.2.2.2.2 hs' (by show f.stk.length ≤ 64; omega) htk (by show f.pc < P256 + 34; omega) hpf.stk P (fun wz A hb hA => hV G' gf cs fr' rt wz A (hs'.kept hb) hxr hA)).mono ?_
  rintro e w2 ⟨rfl, G2, cs2, fr2, d2, hw2', hs2, hPv, hc2⟩
  refine ⟨rfl, k d2 w2 hPv ?_⟩
  obtain ⟨hg2, hw2⟩ := hP d2 hPv
  obtain ⟨hW2, hC2⟩ := ct_then hW1 hC1 hw2' hc2
  have hml2 := growN_900 f.ml (reachA p f.stk) hml hre
  refine ⟨⟨G2, gf, cs2, fr2, rt, hW2, hC2, hs2, hrt, fun h2 => zm_none hs2 (hz2 h2)⟩, hx, hg2, hw2, hK', ⟨?_, hf.value, hf.outOff, hf.outLen, ?_, ?_, hf.code, hf.input, hf.kind, hf.native⟩, hml2, ?_, hdep, hnat, hsta⟩
  · show f.pc + 1 + immA p < P256
    omega
  · intro y hy
    exact hf.stk y (List.mem_of_mem_take hy)
  · show (f.stk.take (f.stk.length - takA p)).length ≤ 64
    rw [List.length_take]
    omega
  · show f.gas - n ≤ 1048576
    omega
end

end Go.Proofs.YgcsakGreat
