/-
  yp: Step while a transaction is at work.
-/
import Derived.Test.YgcsakGreatKqA
import Derived.Test.YgcsakGreatKqC
import Derived.Test.YgcsakGreatKgH
namespace Go.Proofs.YgcsakGreat
set_option linter.unusedVariables false
set_option linter.unusedSimpArgs false
set_option maxRecDepth 100000
open Go.RowKit

/-- the rest of the state but for what an end leaves -/
structure SameX (x x' : XD) : Prop where
  eq : x' = { x with ret := x'.ret, status := x'.status, left := x'.left }
  ret : x'.ret.length ≤ 1000000
  status : x'.status ≤ 13 ∨ x'.status = x.status
section
variable {G : Nat → Prop} {bw gf : Nat} {cs fr : List Value} {d : WD} {f : FD} {r : List FD} {x : XD} {w : World} {B K T : Nat}
/-- what was there stays but for the blocks of G, and bytes and receipts stay what they are -/
structure CT (G : Nat → Prop) (w w' : World) : Prop where
  c : ChgS G w w'
  t : Tm w w'
/-- what a step leaves -/
def StepK (G : Nat → Prop) (bw : Nat) (B K T m : Nat) (x : XD) (w w' : World) : Prop :=
  ∃ G' cs' x', Wider G G' w ∧ CT G w w' ∧ SameX x x' ∧
    ((∃ gf' fr' f' r' d', SR G' bw gf' cs' fr' d' (f' :: r') x' w' ∧ Inv B K T (f' :: r') d' ∧ meas (f' :: r') < m ∧ x'.left = x.left) ∨
      (∃ d', SE G' bw cs' d' x' w' ∧ Good B d' ∧ x'.left ≤ T ∧ wt d' ≤ K))
/-- an end of the top frame is a step -/
theorem EndK.step {f0 : FD} {d0 : WD} {y q : Nat} {e : Ending} {w' : World} (h : EndK G bw gf fr B y d f r x w e w') (hi : Inv B K T (f0 :: r) d0) (hd : d = d0) (hs : f.saved = f0.saved) (hq : f.gas + q ≤ f0.gas) (hy : y ≤ 12000 + 400 * q) (hst : x.status ≤ 13 ∨ True) : StepK G bw B K T (meas (f0 :: r)) x w w' := by
  subst hd
  obtain ⟨h1, cs', fr', d', s', gas', out', a1, a2, a3, a4, a5, a6, a7⟩ := h
  have hd : (Gr B d d' y ∧ y ≤ 12000 + 400 * q) ∨ d' = f0.saved := by
    rcases a6 with ⟨_, b2⟩ | ⟨_, b2⟩
    · exact .inl ⟨b2, hy⟩
    · exact .inr (b2.trans hs)
  rcases a7 with ⟨rfl, b2⟩ | ⟨p, r', v, rfl, b2, b3⟩
  · obtain ⟨g1, g2⟩ := hi.last (show gas' + q ≤ f0.gas by omega) hd
    exact ⟨G, cs', { x with ret := out', status := s', left := gas' }, Wider.refl _ _, ⟨a2.chg, a2.tm⟩, ⟨rfl, a4, .inl a5⟩, .inr ⟨d', b2, g1, g2⟩⟩
  · obtain ⟨g1, g2⟩ := hi.ends (show gas' + q ≤ f0.gas by omega) b2 hd
    exact ⟨G, cs', { x with ret := out' }, Wider.refl _ _, ⟨a2.chg, a2.tm⟩, ⟨rfl, a4, .inr rfl⟩, .inl ⟨gf, fr', _, r', d', b3, g1, g2, rfl⟩⟩
theorem StepK.from {m : Nat} {w0 w' : World} (h : StepK G bw B K T m x w w') (hb : Below w0.heap.size w0 w) : StepK G bw B K T m x w0 w' := by
  obtain ⟨G', cs', x', h1, h2, h3, h4⟩ := h
  have hs := hb.size
  exact ⟨G', cs', x', ⟨h1.sub, fun i hi hl => h1.new i hi (by omega)⟩, ⟨(ChgS.of hb).trans h2.c, (Tm.of hb).trans h2.t⟩, h3, h4⟩
/-- told of a narrower set -/
theorem StepK.wide {G' : Nat → Prop} {m : Nat} {w0 w' : World} (h : StepK G' bw B K T m x w w') (hW : Wider G G' w0) (hc : CT G w0 w) : StepK G bw B K T m x w0 w' := by
  obtain ⟨G'', cs', x', h1, h2, h3, h4⟩ := h
  have hs := hc.c.size
  exact ⟨G'', cs', x', ⟨fun i hi => h1.sub i (hW.sub i hi), fun i hi hl => hW.new i (h1.new i hi (by omega)) hl⟩, ⟨hc.c.then h2.c hW.new, hc.t.trans h2.t⟩, h3, h4⟩
/-- the top frame's memory has grown -/
theorem SR.grown {G' : Nat → Prop} {fr' : List Value} {f' : FD} {w' : World} (h : SR G bw gf cs fr d (f :: r) x w) (hW : Wider G G' w) (hx : FX G' gf (60 * r.length) fr' f' w') (hl : fr'.length = fr.length) (he : ∀ i, i ≠ 60 * r.length + 9 → fr'[i]? = fr[i]?) (hc : Chg gf w w') : SR G' bw gf cs fr' d (f' :: r) x w' ∧ Mv G w w' := by
  have hm : Mv G w w' := Mv.frame h.row h.g hc
  have hm' : Mv G' w w' := hm.wide hW.sub
  obtain ⟨ao, l, c, e1, e2⟩ := h.logs
  obtain ⟨cap, k1, k2, k3, k4⟩ := h.frames
  have hlen := h.len
  exact ⟨⟨⟨hc.row h.cw.row (Ne.symm h.ne), h.cw.len, (h.cw.kw.to hW.new).go hm'.chg, hW.sub _ h.cw.g, hx.ther⟩, ⟨ao, l, c, e1, (e2.to hW.new hW.sub).go hm'⟩, (h.xs.to hW.new).go hm'.chg, h.phase, h.ne, hx.row, hx.g, ⟨cap, k1, by rw [hl]; exact k2, k3, k4⟩, by rw [hl]; exact hlen, hx.kf, ((h.kfs.2.to hW.new hW.sub).go hm').eq (fun i hi => he i (by omega))⟩, hm⟩
theorem EnsK.step {f1 : FD} {n b p : Nat} {e : Ending} {w' : World} (h : EnsK G bw B 20000 d f1 r { x with ret := [] } (takA p) (stipN p f1) w e w') (hi : Inv B K T (f :: r) d) (hs : Spent f f1 n b) (hst : stipN p f1 + 100 ≤ b) (ha : AnyF f1) (htk : 3 ≤ takA p) (hpc : f1.pc < 1000) (htl : takA p ≤ f1.stk.length) : StepK G bw B K T (meas (f :: r)) x w w' := by
  obtain ⟨h1, G', gf', cs', fr', d', hW, hM, hG, hh⟩ := h
  have hP := p256_ge
  have hsl := ha.slen
  have hX : SameX x { x with ret := [] } := ⟨rfl, by simp, .inr rfl⟩
  have htake : (f1.stk.take (f1.stk.length - takA p)).length ≤ 61 := by rw [List.length_take]; omega
  rcases hh with ⟨g', hg', hS⟩ | ⟨c, g', m, n', dS, hS, hcg, hm, hn', hcs, hgS, hac, hcm, -, -, hr6, hcl, hSd⟩
  · obtain ⟨a1, a2⟩ := hi.refused hs hg' hst hG (f2 := { f1 with gas := g', stk := f1.stk.take (f1.stk.length - takA p) ++ [0], pc := f1.pc + 1 }) rfl rfl rfl rfl rfl ⟨by show f1.pc + 1 < P256; omega, ha.value, ha.outOff, ha.outLen, fun u hu => by
      rcases List.mem_append.1 hu with h' | h'
      · exact ha.stk u (List.mem_of_mem_take h')
      · rw [List.mem_singleton.1 h']; omega, by show (f1.stk.take (f1.stk.length - takA p) ++ [0]).length ≤ 64; rw [List.length_append, List.length_singleton]; omega, ha.code, ha.input, ha.kind, ha.native⟩
    exact ⟨G', cs', _, hW, ⟨hM.chg, hM.tm⟩, hX, .inl ⟨gf', fr', _, r, d', hS, a1, a2, rfl⟩⟩
  · obtain ⟨a1, a2⟩ := hi.calls hs hcg hst hgS hG hSd (f2 := { f1 with gas := g', stk := f1.stk.take (f1.stk.length - takA p), outOff := m, outLen := n' }) rfl rfl rfl rfl rfl ⟨ha.pc, ha.value, hm, hn', fun u hu => ha.stk u (List.mem_of_mem_take hu), by show (f1.stk.take (f1.stk.length - takA p)).length ≤ 64; omega, ha.code, ha.input, ha.kind, ha.native⟩ hpc (by show (f1.stk.take (f1.stk.length - takA p)).length ≤ 63; omega) hac hcm hcs hcl hr6
    exact ⟨G', cs', _, hW, ⟨hM.chg, hM.tm⟩, hX, .inl ⟨gf', fr', c, _, d', hS, a1, a2, rfl⟩⟩
theorem last_saved (f f1 : FD) (r : List FD) (hs : f1.saved = f.saved) : ∃ fl f0, (f1 :: r).getLast? = some fl ∧ (f :: r).getLast? = some f0 ∧ fl.saved = f0.saved := by
  cases r with
  | nil => exact ⟨f1, f, rfl, rfl, hs⟩
  | cons a b =>
    rw [List.getLast?_cons_cons, List.getLast?_cons_cons]
    cases hq : (a :: b).getLast? with
    | none => simp at hq
    | some g => exact ⟨g, g, rfl, rfl, rfl⟩
theorem PlaK.step {f1 fl f0 : FD} {n b p : Nat} {e : Ending} {w' : World} (h : PlaK G bw gf fr B d f1 r x fl p (plaY p) w e w') (hi : Inv B K T (f :: r) d) (hx : XB x) (hs : Spent f f1 n b) (hlow : Low p f.stk b) (ha : AnyF f1) (hn : 1 ≤ n) (hpc : f1.pc < 1000) (hgv : f1.stk.length - takA p + givA p ≤ 64) (htl : takA p ≤ f1.stk.length) (hl0 : (f :: r).getLast? = some f0) (hsv : fl.saved = f0.saved) : StepK G bw B K T (meas (f :: r)) x w w' := by
  obtain ⟨h1, G', cs', hW, hC0, hT0, hh⟩ := h
  have hC : CT G w w' := ⟨hC0, hT0⟩
  have hP := p256_ge
  rcases hh with ⟨fr', d', v, pc', a1, a2, a3, a4, a5, a6⟩ | hE
  · have hy : plaY p ≤ 400 * n := by
      unfold plaY
      by_cases hg : growO p
      · rw [if_pos hg]
        have := hlow.grow hg
        have := hs.bn
        omega
      · rw [if_neg hg]; omega
    obtain ⟨g1, g2⟩ := hi.goes hs a3 hy (f2 := { f1 with stk := v, pc := pc' }) rfl rfl rfl rfl rfl ⟨by show pc' < P256; omega, ha.value, ha.outOff, ha.outLen, a4, by show v.length ≤ 64; omega, ha.code, ha.input, ha.kind, ha.native⟩ hn
    exact ⟨G', cs', x, hW, hC, ⟨rfl, hx.ret, .inr rfl⟩, .inl ⟨gf, fr', _, r, d', a2, g1, g2, rfl⟩⟩
  · refine ⟨G', cs', { x with ret := [], status := 13, left := 0 }, hW, hC, ⟨rfl, by simp, .inl (by show 13 ≤ 13; omega)⟩, .inr ⟨fl.saved, hE, ?_, Nat.zero_le _, ?_⟩⟩
    all_goals rw [hsv]
    all_goals have hm : f0 ∈ f :: r := List.mem_of_getLast? hl0
    all_goals have hw := hi.wts f0.saved (List.mem_cons_of_mem _ (List.mem_map_of_mem hm))
    all_goals have hlim := hi.lim
    · exact (hi.ok.last f0 hl0).good (by omega)
    · omega
set_option maxHeartbeats 32000000 in
theorem step_k (h : SR G bw gf cs fr d (f :: r) x w) (hi : Inv B K T (f :: r) d) (hx : XB x) (hK : K ≤ 2249900000) :
    Calls Sakg.prog 49 #[.pointer (some ⟨bw, 0, none⟩)] w fun e w' => e = .returned (.bool true) ∧ StepK G bw B K T (meas (f :: r)) x w w' := by
  have hBB := big_ge
  have hPB := p256_lt
  have hP1 := p256_ge
  have hg := hi.good
  have hnow := hi.now
  have hf := hi.any f (by simp)
  have hml := hi.ml (f := f) (by simp)
  have hgas := hi.gasOf (f := f) (by simp)
  have hdep := hi.depth
  rw [List.length_cons] at hdep
  have hP : ∀ p r', r = p :: r' → WaitF p ∧ p.ml ≤ 1000000 ∧ p.gas ≤ 1048576 := fun p r' hr => by
    have hm : p ∈ f :: r := by rw [hr]; simp
    refine ⟨hi.wait p (by rw [hr]; simp), ?_, hi.gasOf hm⟩
    have := (hi.ml hm).2
    omega
  have hwt : wt d + 60000 ≤ 2250000000 := by omega
  have hfx := h.fx
  obtain ⟨o, ho⟩ : ∃ o, o = 60 * r.length := ⟨_, rfl⟩
  rw [← ho] at hfx
  obtain ⟨nr, hnr⟩ : ∃ nr, nr = r.length := ⟨_, rfl⟩
  obtain ⟨nf, hnf⟩ : ∃ nf, nf = r.length + 1 := ⟨_, rfl⟩
  obtain ⟨cap, e9, -, hcap, hcap2⟩ := h.frames
  rw [List.length_cons, ← hnf] at e9 hcap
  have c11 : w.cell? ⟨bw, 11, none⟩ = some (.int .u8 1) := h.cw.cell h.phase
  have c9 : w.cell? ⟨bw, 9, none⟩ = some (.slice (some ⟨gf, 0, none⟩) nf cap) := h.cw.cell e9
  have enf : (nf : Int) - 1 = (nr : Int) := by omega
  have hwnr : IntKind.i64.wrap (nr : Int) = (nr : Int) := by rw [IntKind.wrap_i64]; omega
  have hnri : (nr : Int) < (nf : Int) := by omega
  have hnrl : nr < nf := by omega
  have hn60 : nr * 60 = o := by omega
  have tnf : ((nf : Int) == 0) = false := by rw [beq_eq_false_iff_ne]; omega
  have HF := hide hfx
  have HSR := hide h
  have HI := hide hi
  have HO := hide ho
  have HNR := hide hnr
  have HP := hide hP
  have HAF := hide hf
  have HG := hide hg
  clear h hfx hnr hnf e9 ho hP hi
  go_enter Sakg.func49, Sakg.ntmps49
  go_upto_region 4 with fail
  go_cut [4] (fun s4 wc => s4 = .pointer (some ⟨gf, o, none⟩) ∧ Below w.heap.size w wc)
  case first =>
    as_aux_lemma =>
    go_quiet (fail)
    go_wp2_with fail
    go_meet
    case rel => exact ⟨rfl, Quiet.below ⟨_, rfl⟩ _⟩
  case rest =>
  as_aux_lemma =>
  obtain ⟨w1, hw1⟩ : ∃ w1, w1 = wc := ⟨_, rfl⟩
  subst hw1
  obtain ⟨rfl, b1⟩ := hcut
  have hsr1 := (unhide HSR).kept b1
  have hfx1 := (unhide HF).kept b1
  have c1 : w1.cell? ⟨gf, o + 1, none⟩ = some (.int .u8 f.native) := hfx1.cell hfx1.kf.native
  have HSR1 := hide hsr1
  have HF1 := hide hfx1
  clear hsr1 hfx1 c11 c9
  by_cases hn0 : f.native = 0
  case neg =>
    --S1
    as_aux_lemma =>
    have t0 : ((f.native : Int) != 0) = true := by rw [bne_iff_ne]; omega
    have t0' : ((f.native : Int) == 0) = false := by rw [beq_eq_false_iff_ne]; omega
    have hN := native_any (unhide HSR1) (unhide HG) (unhide HAF) hgas (unhide HP) (by omega)
    rw [← unhide HO] at hN
    have HN := hide hN
    clear hN hn0
    go_wp2_with (go_at_call 111; refine (unhide HN).mono ?_; rintro e w2 hend; have HEND := hide hend; have hee := hend.1; subst hee; clear hend)
    go_ret
    exact ⟨rfl, ((unhide HEND).step (q := 0) (unhide HI) rfl rfl (by omega) (by omega) (.inr trivial)).from b1⟩
    --E1
  case pos =>
  have t0 : ((f.native : Int) != 0) = false := by rw [bne_eq_false_iff_eq]; omega
  have t0' : ((f.native : Int) == 0) = true := by rw [beq_iff_eq]; omega
  clear hn0
  have HOP := hide ((unhide HF1).opcode (by have := (unhide HAF).pc; omega) (by have := (unhide HAF).code; omega))
  go_upto_region 9 with (go_at_call 112; refine (unhide HOP).mono ?_; rintro e w2 ⟨⟨p, rfl, hp, hpcode⟩, b2⟩)
  have d2 : Below w.heap.size w w2 := b1.trans (b2.mono b1.size)
  have hRF := ((unhide HSR).kept d2).refusal hx (unhide HG) (unhide HAF) (by omega) (by omega) p hp
  rw [← unhide HO] at hRF
  have HRF := hide hRF
  clear hRF c1
  go_upto_region 10 with (go_at_call 113; refine (unhide HRF).mono ?_; rintro e w3 ⟨st, A3, k3, c3, rfl, hst, hfit, b3⟩)
  have d3 : Below w.heap.size w w3 := d2.trans (b3.mono d2.size)
  have hsr3 := (unhide HSR).kept d3
  have HSR3 := hide hsr3
  have HFIT := hide hfit
  clear hsr3 hfit
  by_cases hst0 : st = 0
  case neg =>
    --S2
    as_aux_lemma =>
    have t1 : ((st : Int) != 0) = true := by rw [bne_iff_ne]; omega
    have hL := leave_any (unhide HSR3) (unhide HG) (unhide HAF).kind hgas (unhide HP) st hst none 0 0 [] (KSrc.nil G _) (by omega) (by omega)
    have HL := hide hL
    clear hL hst0
    go_wp2_with (go_at_call 114; refine (unhide HL).mono ?_; rintro e w4 hend; have HEND := hide hend; have hee := hend.1; subst hee; clear hend)
    go_ret
    have hE := (unhide HEND).toEnd (d0 := d) (f0 := f) (fr0 := fr) (w0 := w3) (y := 0) rfl (Mv.refl _ _) (Nat.le_refl _) rfl (by simp) (Gr.refl (unhide HG).snd _)
    exact ⟨rfl, (hE.step (q := 0) (unhide HI) rfl rfl (by omega) (by omega) (.inr trivial)).from d3⟩
    --E2
  case pos =>
  as_aux_lemma =>
  have t1 : ((st : Int) != 0) = false := by rw [bne_eq_false_iff_eq]; omega
  obtain ⟨n, n3, N3, fit⟩ := unhide HFIT hst0
  clear hst0
  have hfit := fit.gas
  obtain ⟨bb, hlow, hsp⟩ := spent_of fit.paid hfit rfl
  have hsm := sumM_mem (fs := f :: r) (f := f) (by simp)
  have hmem := (unhide HI).mem
  have hspm := hsp.mem
  have hspg := hsp.gas
  simp only at hspm hspg
  have hml1 := memN_words (m := growN f.ml (reachA p f.stk) / 32) (by omega)
  have hge := growN_ge f.ml (reachA p f.stk)
  have hre : reachA p f.stk ≤ 1000000 := by omega
  have c43 : ∃ A k c, w3.cell? ⟨gf, o + 4, none⟩ = some (.slice A k c) ∧ KNat G w3 A k c f.gas := by
    have hq := (unhide HF).kept d3
    obtain ⟨A, k, c, g1, g2⟩ := hq.kf.gas
    exact ⟨A, k, c, hq.cell g1, g2⟩
  obtain ⟨Ag, kg, cg, c43, g2⟩ := c43
  have HLS := hide (less_any Ag A3 kg k3 cg c3 f.gas n w3 g2.now n3 (by omega) (by omega))
  have HFITH := hide fit
  have HLOW := hide hlow
  have HSP := hide hsp
  clear g2 n3 fit hlow hsp
  go_upto_region 14 with (go_at_call 101; refine (unhide HLS).mono ?_; rintro e w4 ⟨A4, k4, c4, rfl, n4, N4, b4⟩; have d4 : Below w.heap.size w w4 := d3.trans (b4.mono d3.size); have hq4 := (unhide HF).kept d4; obtain ⟨v4x, hx4⟩ := hq4.ex (i := 4) (by omega); have hf4 := hq4.row.froz (o + 4); have NN4 := hide n4; clear n4 hq4)
  have hsr4 := (unhide HSR).kept d4
  have k4N : KNat G w4 A4 k4 c4 (f.gas - n) := KNat.new (unhide NN4) (N4.later d3.size) (unhide HSR).cw.ther
  obtain ⟨hsr5, ho5⟩ := hsr4.put (j := 4) (by omega) (hsr4.fx.kf.setGas k4N)
  rw [← unhide HO] at hsr5 ho5
  obtain ⟨w5, hw5⟩ : ∃ y, y = w4.setCell ⟨gf, o + 4, none⟩ (.slice A4 k4 c4) := ⟨_, rfl⟩
  rw [← hw5] at hsr5 ho5
  rw [← hw5]
  generalize fr.set (o + 4) (Value.slice A4 k4 c4) = fr5 at hsr5
  have m5 : Mv G w w5 := (Mv.of d4).trans (Mv.frame hsr4.row hsr4.g (Chg.ofOnly ho5))
  have hq5 := hsr5.fx
  rw [← unhide HO] at hq5
  have hargl := argN_lt (unhide HAF).stk
  have HRE := hide (hq5.reach (unhide HAF).slen hargl p hp)
  have HQ5 := hide hq5
  have HSR5 := hide hsr5
  have HARG := hide hargl
  clear hsr4 hsr5 k4N ho5 hw5 hx4 hf4 hq5 c43 hargl
  go_wp2_with fail
  refine (unhide HRE).mono ?_
  rintro e w6 ⟨A6, k6, c6, rfl, n6, N6, b6⟩
  have hgq : growN f.ml (reachA p f.stk) / 32 ≤ 23200 := hml1
  have hneed : (reachA p f.stk + 31) / 32 ≤ 30000 := by omega
  have HGW := hide (((unhide HQ5).kept b6).grow A6 k6 c6 (reachA p f.stk) n6 (by omega) (by show f.ml ≤ 1000000; omega) hneed)
  clear n6
  go_upto_block 0 with (go_at_call 115; refine (unhide HGW).mono ?_; rintro e w7 ⟨rfl, G', fr7, hW7, hfx7, hfl7, hfe7, hch7⟩; have HW7 := hide hW7; have HFX7 := hide hfx7; have HFE7 := hide hfe7; have HCH7 := hide hch7; have HFL7 := hide hfl7; clear hW7 hfx7 hfe7 hch7 hfl7)
  have hfx7 := unhide HFX7
  have hfe7 := unhide HFE7
  rw [unhide HO] at hfx7 hfe7
  obtain ⟨hsr7, hc67⟩ := ((unhide HSR5).kept b6).grown (unhide HW7) hfx7 (unhide HFL7) hfe7 (unhide HCH7)
  have hW : Wider G G' w := ⟨(unhide HW7).sub, fun i hi hl => (unhide HW7).new i hi (by have := m5.size; have := b6.size; omega)⟩
  have hcw : CT G w w7 := ⟨(m5.chg.trans (ChgS.of b6)).trans hc67.chg, (m5.tm.trans (Tm.of b6)).trans hc67.tm⟩
  have hpf : p ≠ 0 → f.pc < 1000 := fun hh => by have := hpcode hh; have := (unhide HAF).code; omega
  have hlv : p ≠ 0 → Live d.accts f.self := fun hh => (unhide HI).ok.live f (by simp) (fun hc => by have := hpcode hh; rw [hc] at this; simp at this)
  obtain ⟨f1, hf1⟩ : ∃ f1, f1 = { f with gas := f.gas - n, ml := growN f.ml (reachA p f.stk) } := ⟨_, rfl⟩
  have hsp1 : Spent f f1 n bb := by rw [hf1]; exact unhide HSP
  have hany1 : AnyF f1 := by
    have hq := unhide HAF
    rw [hf1]
    exact ⟨hq.pc, hq.value, hq.outOff, hq.outLen, hq.stk, hq.slen, hq.code, hq.input, hq.kind, hq.native⟩
  have hstk1 : f1.stk = f.stk := by rw [hf1]
  have hml1' : f1.ml ≤ 1000000 := by rw [hf1]; show growN f.ml (reachA p f.stk) ≤ 1000000; omega
  have hgas1 : f1.gas ≤ 1048576 := by rw [hf1]; show f.gas - n ≤ 1048576; omega
  have hgn1 : f1.gas + n ≤ f.gas := by have := hsp1.gas; omega
  have hpc1 : f1.pc = f.pc := by rw [hf1]
  have hsv1 : f1.saved = f.saved := hsp1.saved
  have hself1 : f1.self = f.self := hsp1.self
  have hsr7' : SR G' bw gf cs fr7 d (f1 :: r) x w7 := by rw [hf1]; exact hsr7
  have hfin : ∀ w', StepK G' bw B K T (meas (f :: r)) x w7 w' → StepK G bw B K T (meas (f :: r)) x w w' := fun w' hh => hh.wide hW hcw
  have HSR7 := hide hsr7'
  have HFIN := hide hfin
  have HSP1 := hide hsp1
  have HA1 := hide hany1
  have HPF := hide hpf
  have HLV := hide hlv
  clear hsr7 hsr7' hfx7 hfe7 hfin hsp1 hany1 hpf hlv hf1 hc67 hcw hW hpcode HFX7 HFE7 HCH7 HFL7 HW7 HSR5 HQ5
  have tk := (unhide HFITH).takes
  have hLV : ∀ (s : Nat) (wz : World) (A : Option Addr) (l c : Nat) (out : List Int), s ≤ 13 → Below w7.heap.size w7 wz → KSrc G' wz A l c out → l ≤ 1000000 → Hid (Calls Sakg.prog 114 #[.pointer (some ⟨bw, 0, none⟩), .int .u8 s, .slice A l c] wz fun e w' => e = .returned (.tuple #[]) ∧ StepK G bw B K T (meas (f :: r)) x w w') := fun s wz A l c out hs hz ho hl => by
    refine hide ((leave_any ((unhide HSR7).kept hz) (unhide HG) (unhide HA1).kind hgas1 (unhide HP) s hs A l c out ho hl (by omega)).mono fun e w' hk => ⟨hk.1, ?_⟩)
    have hol := ho.now.len_eq
    have hE := hk.toEnd (d0 := d) (f0 := f1) (fr0 := fr7) (w0 := w7) (y := 0) rfl (Mv.of hz) (Nat.le_refl _) rfl (by omega) (Gr.refl (unhide HG).snd _)
    exact unhide HFIN w' (hE.step (q := n) (unhide HI) rfl hsv1 hgn1 (by omega) (.inr trivial))
  by_cases p0 : p = 0
  case pos =>
    --S3
    as_aux_lemma =>
    have t0 : ((p : Int) == 0) = true := by rw [beq_iff_eq]; omega
    have HL := hLV 0 w7 none 0 0 [] (by omega) (Below.refl _ _) (KSrc.nil G' _) (by omega)
    rw [show ((0 : Nat) : Int) = 0 from rfl] at HL
    clear p0 hLV
    go_wp2_with (go_at_call 114; refine (unhide HL).mono ?_; rintro e w8 ⟨rfl, hend⟩; have HEND := hide hend; clear hend)
    go_ret
    exact ⟨rfl, unhide HEND⟩
    --E3
  have t0 : ((p : Int) == 0) = false := by rw [beq_eq_false_iff_ne]; omega
  have hfq7 := (unhide HSR7).fx
  rw [← unhide HO] at hfq7
  have HQ7 := hide hfq7
  have hl1024 : f1.stk.length ≤ 1024 := by have := (unhide HA1).slen; omega
  clear hfq7
  by_cases p243 : p = 243
  case pos =>
    --S4
    as_aux_lemma =>
    have t243 : ((p : Int) == 243) = true := by rw [beq_iff_eq]; omega
    have hr1 := reachGe_1 (s := f.stk) (p := p) (by omega)
    have hm0 := unhide HARG 0
    have HAa := hide ((unhide HQ7).arg hl1024 0 (by omega))
    rw [show ((0 : Nat) : Int) = 0 from rfl] at HAa
    clear p243
    go_wp2_with fail
    refine (unhide HAa).mono ?_
    rintro e w8 ⟨⟨Aa, ka, ca, rfl, na⟩, q8⟩
    have b8 : Below w7.heap.size w7 w8 := q8.below _
    have HAb := hide ((unhide HQ7).argAt b8 hl1024 1 (by omega))
    rw [show ((1 : Nat) : Int) = 1 from rfl] at HAb
    clear q8
    go_wp2_with fail
    refine (unhide HAb).mono ?_
    rintro e w9 ⟨⟨Ab, kb, cb, rfl, nb⟩, q9⟩
    have b9 : Below w8.heap.size w8 w9 := q9.below _
    have d9 : Below w7.heap.size w7 w9 := b8.trans (b9.mono b8.size)
    rw [hstk1] at na nb
    have HRD := hide (((unhide HQ7).kept d9).read hml1' Aa Ab ka ca kb cb _ _ (na.kp (ChgS.of d9)).now (nb.kp (ChgS.of d9)).now (show argN f.stk 0 < BIG by omega) (show argN f.stk 1 ≤ 100000000 by omega))
    obtain ⟨il, hil⟩ : ∃ il, il = argN f.stk 1 := ⟨_, rfl⟩
    rw [← hil] at HRD hr1
    clear na nb q9 hil
    go_wp2_with fail
    refine (unhide HRD).mono ?_
    rintro e w10 ⟨A10, c10, ys, rfl, s10, N10, b10⟩
    have d10 : Below w7.heap.size w7 w10 := d9.trans (b10.mono d9.size)
    have HL := hLV 0 w10 A10 il c10 ys (by omega) d10 (KSrc.new s10 (N10.later d9.size) (unhide HSR7).cw.ther) (by omega)
    rw [show ((0 : Nat) : Int) = 0 from rfl] at HL
    clear s10 hLV
    go_wp2_with (go_at_call 114; refine (unhide HL).mono ?_; rintro e w11 ⟨rfl, hend⟩; have HEND := hide hend; clear hend)
    go_ret
    exact ⟨rfl, unhide HEND⟩
    --E4
  have t243 : ((p : Int) == 243) = false := by rw [beq_eq_false_iff_ne]; omega
  by_cases p253 : p = 253
  case pos =>
    --S5
    as_aux_lemma =>
    have t253 : ((p : Int) == 253) = true := by rw [beq_iff_eq]; omega
    have t243 : ((p : Int) == 243) = false := by rw [beq_eq_false_iff_ne]; omega
    have hr1 := reachGe_1 (s := f.stk) (p := p) (by omega)
    have hm0 := unhide HARG 0
    have HAa := hide ((unhide HQ7).arg hl1024 0 (by omega))
    rw [show ((0 : Nat) : Int) = 0 from rfl] at HAa
    clear p253
    go_wp2_with fail
    refine (unhide HAa).mono ?_
    rintro e w8 ⟨⟨Aa, ka, ca, rfl, na⟩, q8⟩
    have b8 : Below w7.heap.size w7 w8 := q8.below _
    have HAb := hide ((unhide HQ7).argAt b8 hl1024 1 (by omega))
    rw [show ((1 : Nat) : Int) = 1 from rfl] at HAb
    clear q8
    go_wp2_with fail
    refine (unhide HAb).mono ?_
    rintro e w9 ⟨⟨Ab, kb, cb, rfl, nb⟩, q9⟩
    have b9 : Below w8.heap.size w8 w9 := q9.below _
    have d9 : Below w7.heap.size w7 w9 := b8.trans (b9.mono b8.size)
    rw [hstk1] at na nb
    have HRD := hide (((unhide HQ7).kept d9).read hml1' Aa Ab ka ca kb cb _ _ (na.kp (ChgS.of d9)).now (nb.kp (ChgS.of d9)).now (show argN f.stk 0 < BIG by omega) (show argN f.stk 1 ≤ 100000000 by omega))
    obtain ⟨il, hil⟩ : ∃ il, il = argN f.stk 1 := ⟨_, rfl⟩
    rw [← hil] at HRD hr1
    clear na nb q9 hil
    go_wp2_with fail
    refine (unhide HRD).mono ?_
    rintro e w10 ⟨A10, c10, ys, rfl, s10, N10, b10⟩
    have d10 : Below w7.heap.size w7 w10 := d9.trans (b10.mono d9.size)
    have HL := hLV 1 w10 A10 il c10 ys (by omega) d10 (KSrc.new s10 (N10.later d9.size) (unhide HSR7).cw.ther) (by omega)
    rw [show ((1 : Nat) : Int) = 1 from rfl] at HL
    clear s10 hLV
    go_wp2_with (go_at_call 114; refine (unhide HL).mono ?_; rintro e w11 ⟨rfl, hend⟩; have HEND := hide hend; clear hend)
    go_ret
    exact ⟨rfl, unhide HEND⟩
    --E5
  have t253 : ((p : Int) == 253) = false := by rw [beq_eq_false_iff_ne]; omega
  have hn1 : 1 ≤ n := by have := (unhide HLOW).one p0 p243 p253; have := (unhide HSP1).bn; omega
  clear hLV
  by_cases p255 : p = 255
  case pos =>
    --S6
    as_aux_lemma =>
    have t255 : ((p : Int) == 255) = true := by rw [beq_iff_eq]; omega
    have h100 := (unhide HLOW).grow (by unfold growO; omega)
    have hbn := (unhide HSP1).bn
    have hD := destroys_any (unhide HSR7) (unhide HG) (by omega) (unhide HA1) hgas1 (unhide HP) (by omega)
    rw [← unhide HO] at hD
    have HD := hide hD
    clear hD p255
    go_wp2_with (go_at_call 119; refine (unhide HD).mono ?_; rintro e w8 hend; have HEND := hide hend; have hee := hend.1; subst hee; clear hend)
    go_ret
    exact ⟨rfl, unhide HFIN _ ((unhide HEND).step (q := n) (unhide HI) rfl hsv1 hgn1 (by omega) (.inr trivial))⟩
    --E6
  have t255 : ((p : Int) == 255) = false := by rw [beq_eq_false_iff_ne]; omega
  have HFAM : ∀ wz, Hid (Calls Sakg.prog 120 #[.int .u8 p] wz fun e w' => e = .returned (.int .u8 (famA p)) ∧ wz = w') := fun wz => hide (family_any p hp wz)
  have hbn := (unhide HSP1).bn
  have hpc1k : f1.pc < 1000 := by rw [hpc1]; exact unhide HPF p0
  have tk1 : takA p ≤ f1.stk.length := by rw [hstk1]; exact tk
  have hlv1 : Live d.accts f1.self := by rw [hself1]; exact unhide HLV p0
  by_cases hfam : famA p = 16
  case pos =>
    --S7
    as_aux_lemma =>
    have pE := enterO p hp hfam p255
    have h100 := (unhide HLOW).grow (by unfold growO; omega)
    have hst : stipN p f1 + 100 ≤ bb := by
      unfold stipN
      by_cases hq : (p = 241 ∨ p = 242) ∧ argN f1.stk 2 ≠ 0
      · rw [if_pos hq]
        have := (unhide HLOW).val hq.1 (by rw [← hstk1]; exact hq.2)
        omega
      · rw [if_neg hq]; omega
    have htk3 : 3 ≤ takA p := by rcases pE with rfl | rfl | rfl | rfl | rfl | rfl <;> decide
    have hE := enters_any p pE (unhide HSR7) (unhide HG) hwt (unhide HA1) hml1' hgas1 tk1 (fun hq => by rw [hstk1]; have := (unhide HFITH).init hq; omega) (fun hq => by rw [hstk1]; have := reach_in (s := f.stk) (p := p) (by omega); omega) hlv1 (by omega)
    rw [← unhide HO] at hE
    have HE := hide hE
    have HFM := HFAM
    have HSTE : ∀ e w', EnsK G' bw B 20000 d f1 r { x with ret := [] } (takA p) (stipN p f1) w7 e w' → StepK G bw B K T (meas (f :: r)) x w w' := fun e w' hk => unhide HFIN w' (hk.step (unhide HI) (unhide HSP1) hst (unhide HA1) htk3 hpc1k tk1)
    have HSTE' := hide HSTE
    have t16 : ((famA p : Int) == 16) = true := by rw [hfam]; decide
    generalize famA p = fm at HFM t16
    generalize stipN p f1 = sp at HE HSTE'
    generalize takA p = tt at HE HSTE'
    clear hE hst htk3 hfam tk tk1 hlv1 pE h100 HSTE HFAM HFITH p0 p243 p253 p255
    go_wp2_with (first
      | (go_at_call 120; refine (unhide (HFM _)).mono ?_; rintro e w8 ⟨rfl, rfl⟩)
      | (go_at_call 121; refine (unhide HE).mono ?_; rintro e w9 hend; have HEND := hide hend; have hee := hend.1; subst hee; clear hend))
    go_ret
    exact ⟨rfl, unhide HSTE' _ _ (unhide HEND)⟩
    --E7
  case neg =>
    --S8
    as_aux_lemma =>
    have hcl := classes p hp (unhide HFITH).known p0 p243 p253 p255 hfam
    obtain ⟨fl, f0, hl1, hl0, hsvl⟩ := last_saved f f1 r hsv1
    have hPL := plain_any p hp hcl (unhide HSR7) tk1 hx (unhide HG) (unhide HA1) hml1' (by omega) (by omega) hl1 (by rw [hstk1]; omega) hlv1
    rw [← unhide HO] at hPL
    have HPL := hide hPL
    have HSTE := hide (fun e w' (hk : PlaK G' bw gf fr7 B d f1 r x fl p (plaY p) w7 e w') => unhide HFIN w' (hk.step (unhide HI) hx (unhide HSP1) (unhide HLOW) (unhide HA1) hn1 hpc1k (by rw [hstk1]; exact (unhide HFITH).gives) tk1 hl0 hsvl))
    have HFM := HFAM
    have t16 : ((famA p : Int) == 16) = false := by rw [beq_eq_false_iff_ne]; omega
    generalize famA p = fm at HFM t16
    generalize plaY p = py at HPL HSTE
    clear hPL hcl hfam tk tk1 hlv1 HFAM HFITH p0 p243 p253 p255 hl1 hl0
    go_wp2_with (first
      | (go_at_call 120; refine (unhide (HFM _)).mono ?_; rintro e w8 ⟨rfl, rfl⟩)
      | (go_at_call 122; refine (unhide HPL).mono ?_; rintro e w9 hend; have HEND := hide hend; have hee := hend.1; subst hee; clear hend))
    go_ret
    exact ⟨rfl, unhide HSTE _ _ (unhide HEND)⟩
    --E8
end

end Go.Proofs.YgcsakGreat
