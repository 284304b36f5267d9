/-
  yp, exactly: runs: STOP, a byte that is no instruction, RETURN, CALL, CREATE, CREATE2.
-/
import Derived.Test.YgcsakGreatXrA
namespace Go.Proofs.YgcsakGreat
set_option linter.unusedVariables false
set_option linter.unusedSimpArgs false
set_option maxRecDepth 100000
open Go.RowKit

theorem lev_stop (cb : Bool) (g : Nat) (d : WD) (self : List Int) : lvFin 0 (lvOut cb 0 []) (lvGas cb 0 0 g) = ([], g) ∧ lvD cb 0 0 [] d self = d := by
  unfold lvFin lvOut lvGas lvD
  cases cb <;> simp
theorem reachA_0 (s : List Nat) : reachA 0 s = 0 := by
  unfold reachA
  simp
theorem growN_0 (ml : Nat) : growN ml 0 = ml := by
  unfold growN
  rw [if_pos (by omega)]
section
variable {G0 : Nat → Prop} {W : World} {bw B K K' : Nat} {d : WD} {f : FD} {r : List FD} {x : XD} {z : Bool} {w : World} {Q : World → Prop} {m p n bN : Nat}
theorem paidF_0 : paidF f 0 0 = f := by
  unfold paidF
  rw [reachA_0, growN_0]
  rfl
theorem costB_0 : costB 0 f.stk f.ml 0 = 0 := by
  unfold costB needA
  rw [reachA_0]
  have : max ((0 + 31) / 32) (f.ml / 32) = f.ml / 32 := by omega
  rw [this]
  omega
/-- STOP -/
theorem run_stop (h : RunX G0 W bw B K d f r x z w) (hop : opcN f = 0)
    (hrest : ∀ G gf cs fr rt w', Wider G0 G W → CT G0 W w' → SR G bw gf cs fr d (f :: r) { x with ret := rt } w' → rt.length ≤ 1000000 → Calls Sakg.prog 114 #[.pointer (some ⟨bw, 0, none⟩), .int .u8 0, .slice none 0 0] w' fun e w2 => e = .returned (.tuple #[]) ∧ Goes bw Q m w2) : Goes bw Q (m + 1) w := by
  obtain ⟨⟨G, gf, cs, fr, rt, hW, hC, hs, hrt, hz⟩, hx, hg, hwt, hK, hf, hml, hgas, hdep, hnat, hsta⟩ := h
  have hxr := hx.setRet hrt
  have hmay : MayY G bw gf cs fr d f r { x with ret := rt } w B := ⟨hs, hxr, hg, hf, hml, hgas, by omega, hnat⟩
  have hsl := hf.slen
  have hRF := refA (p := 0) (.inl (by omega)) hs hxr hg hf (by omega) hgas (by omega) costB_0 (Nat.zero_le _) (fun wz hz => bareX_0 (hs.kept hz) hxr hg hf) (by decide) (by rw [show takA 0 = 0 from rfl]; omega) (by rw [show takA 0 = 0 from rfl, show givA 0 = 0 from rfl]; omega) hsta
  show Calls Sakg.prog 49 #[.pointer (some ⟨bw, 0, none⟩)] w fun e w' => e = .returned (.bool true) ∧ Goes bw Q m w'
  refine step_haltG hmay hop (by omega) (by rw [reachA_0]; omega) (Nat.zero_le _) rfl hRF (Goes bw Q m) ?_
  intro G' fr' w' hW' hC' hs'
  obtain ⟨hW1, hC1⟩ := ct_then hW hC hW' hC'
  rw [paidF_0] at hs'
  exact hrest G' gf cs fr' rt w' hW1 hC1 hs' hrt
theorem run_stop_outer (h : RunX G0 W bw B K d f [] x z w) (hop : opcN f = 0) (k : ∀ w', EndX G0 W bw B K d x f.gas w' → Q w') : Goes bw Q 1 w := by
  refine run_stop h hop ?_
  intro G gf cs fr rt w' hW hC hs hrt
  refine (leave_x hs h.good h.any.kind h.gas (fun p r' e => by cases e) 0 (by omega) none 0 0 [] (KSrc.nil _ _) (by omega) (by simp) (fun _ _ => ⟨by omega, fun hh => by omega, by omega⟩)).mono ?_
  rintro e w2 ⟨rfl, cs2, fr2, d2, out2, gas2, -, hm, hfin, hd, -, -, hend⟩
  rw [(lev_stop _ _ d f.self).1] at hfin
  rw [if_pos rfl, (lev_stop _ 0 d f.self).2] at hd
  simp only [Prod.mk.injEq] at hfin
  obtain ⟨rfl, rfl⟩ := hfin
  subst hd
  refine ⟨rfl, ?_⟩
  rcases hend with ⟨-, hse⟩ | ⟨p, r', e, -⟩
  · obtain ⟨hW2, hC2⟩ := ct_then hW hC (Wider.refl _ _) ⟨hm.chg, hm.tm⟩
    exact k w2 ⟨⟨G, cs2, [], hW2, hC2, hse, by simp⟩, h.xb, h.good, h.wtle, h.top, h.gas⟩
  · cases e
/-- a frame that waits runs on behind its child -/
theorem run_back {q : FD} {G : Nat → Prop} {gf v g2 : Nat} {cs fr : List Value} {out : List Int} (hW : Wider G0 G W) (hC : CT G0 W w) (hs : SR G bw gf cs fr d ({ q with gas := q.gas + g2, stk := q.stk ++ [v], pc := q.pc + 1 } :: r) { x with ret := out } w) (ho : out.length ≤ 1000000) (hx : XB x) (hg : Good B d) (hwt : wt d ≤ K) (hK : K + 60000 ≤ 2250000000) (hq : WaitF q) (hqm : q.ml ≤ 900000) (hqg : q.gas + g2 ≤ 1048576) (hdep : r.length ≤ 5) (hqn : q.native = 0) (hqs : q.static = false) (hv : v < P256) :
    RunX G0 W bw B K d { q with gas := q.gas + g2, stk := q.stk ++ [v], pc := q.pc + 1 } r x false w := by
  have hP1 := p256_ge
  have hqp := hq.pc
  have hqsl := hq.slen
  refine ⟨⟨G, gf, cs, fr, out, hW, hC, hs, ho, fun e => by cases e⟩, hx, hg, hwt, hK, ⟨?_, hq.any.value, hq.any.outOff, hq.any.outLen, ?_, ?_, hq.any.code, hq.any.input, hq.any.kind, hq.any.native⟩, hqm, hqg, hdep, hqn, hqs⟩
  · show q.pc + 1 < P256
    omega
  · intro y hy
    rcases List.mem_append.mp hy with hy | hy
    · exact hq.any.stk y hy
    · rw [List.mem_singleton.mp hy]; exact hv
  · show (q.stk ++ [v]).length ≤ 64
    rw [List.length_append]
    have : ([v] : List Nat).length = 1 := rfl
    omega
theorem run_stop_child {q : FD} (h : RunX G0 W bw B K d f (q :: r) x z w) (hop : opcN f = 0) (hq : WaitF q) (hqm : q.ml ≤ 900000) (hqg : q.gas + f.gas ≤ 1048576) (hqn : q.native = 0) (hqs : q.static = false)
    (k : ∀ w', RunX G0 W bw B K d { q with gas := q.gas + f.gas, stk := q.stk ++ [lvFlag (createsB f.kind) 0 f.self], pc := q.pc + 1 } r x false w' → Goes bw Q m w') : Goes bw Q (m + 1) w := by
  have hdep := h.dep
  rw [List.length_cons] at hdep
  refine run_stop h hop ?_
  intro G gf cs fr rt w' hW hC hs hrt
  refine (leave_x hs h.good h.any.kind h.gas (fun p r' e => by obtain ⟨rfl, rfl⟩ := List.cons.inj e; exact ⟨hq, by omega, by omega⟩) 0 (by omega) none 0 0 [] (KSrc.nil _ _) (by omega) (by rw [List.length_cons]; omega) (fun _ _ => ⟨by omega, fun hh => by omega, by omega⟩)).mono ?_
  rintro e w2 ⟨rfl, cs2, fr2, d2, out2, gas2, -, hm, hfin, hd, -, -, hend⟩
  rw [(lev_stop _ _ d f.self).1] at hfin
  rw [if_pos rfl, (lev_stop _ 0 d f.self).2] at hd
  simp only [Prod.mk.injEq] at hfin
  obtain ⟨rfl, rfl⟩ := hfin
  subst hd
  refine ⟨rfl, ?_⟩
  rcases hend with ⟨e, -⟩ | ⟨p, r', e, hv, hsr⟩
  · cases e
  · obtain ⟨rfl, rfl⟩ := List.cons.inj e
    obtain ⟨hW2, hC2⟩ := ct_then hW hC (Wider.refl _ _) ⟨hm.chg, hm.tm⟩
    exact k w2 (run_back hW2 hC2 hsr (by simp) h.xb h.good h.wtle h.top hq hqm hqg (by omega) hqn hqs hv)
/-- a byte that is no instruction, in a child -/
theorem run_bad_child {q : FD} (h : RunX G0 W bw B K d f (q :: r) x z w) (hop : opcN f = p) (hp : p ≤ 255) (hfam : famA p = 0) (hq : WaitF q) (hqm : q.ml ≤ 900000) (hqg : q.gas ≤ 1048576) (hqn : q.native = 0) (hqs : q.static = false) (hgs : Good B f.saved) (hws : wt f.saved ≤ K)
    (k : ∀ w', RunX G0 W bw B K f.saved { q with gas := q.gas + 0, stk := q.stk ++ [0], pc := q.pc + 1 } r x false w' → Goes bw Q m w') : Goes bw Q (m + 1) w := by
  obtain ⟨⟨G, gf, cs, fr, rt, hW, hC, hs, hrt, hz⟩, hx, hg, hwt, hK, hf, hml, hgas, hdep, hnat, hsta⟩ := h
  rw [List.length_cons] at hdep
  have hxr := hx.setRet hrt
  have hmay : MayY G bw gf cs fr d f (q :: r) { x with ret := rt } w B := ⟨hs, hxr, hg, hf, hml, hgas, by rw [List.length_cons]; omega, hnat⟩
  show Calls Sakg.prog 49 #[.pointer (some ⟨bw, 0, none⟩)] w fun e w' => e = .returned (.bool true) ∧ Goes bw Q m w'
  refine step_bad hmay hop hp hfam (Goes bw Q m) ?_
  intro w' s hs1 hs2 hb
  have hs' := hs.kept hb
  obtain ⟨hW1, hC1⟩ := ct_then hW hC (Wider.refl _ _) (⟨ChgS.of hb, Tm.of hb⟩ : CT G w w')
  refine (leave_x hs' hg hf.kind hgas (fun p r' e => by obtain ⟨rfl, rfl⟩ := List.cons.inj e; exact ⟨hq, by omega, by omega⟩) s hs2 none 0 0 [] (KSrc.nil _ _) (by omega) (by rw [List.length_cons]; omega) (fun _ e => by omega)).mono ?_
  rintro e w2 ⟨rfl, cs2, fr2, d2, out2, gas2, -, hm, hfin, hd, -, -, hend⟩
  rw [lvFin_gt (by omega)] at hfin
  rw [if_neg (by omega)] at hd
  simp only [Prod.mk.injEq] at hfin
  obtain ⟨rfl, rfl⟩ := hfin
  subst hd
  refine ⟨rfl, ?_⟩
  rcases hend with ⟨e, -⟩ | ⟨p, r', e, hv, hsr⟩
  · cases e
  · obtain ⟨rfl, rfl⟩ := List.cons.inj e
    obtain ⟨hW2, hC2⟩ := ct_then hW1 hC1 (Wider.refl _ _) ⟨hm.chg, hm.tm⟩
    rw [lvFlag_no (by omega)] at hsr hv
    exact k w2 (run_back hW2 hC2 hsr (by simp) hx hgs hws hK hq hqm (by omega) (by omega) hqn hqs hv)
/-- RETURN of zeros in the outer frame of a creation -/
theorem run_ret_outer {l : Nat} (h : RunX G0 W bw B K d f [] x true w) (hop : opcN f = 243) (hk : createsB f.kind = true) (hl : argN f.stk 1 = l) (hre : reachA 243 f.stk ≤ 900000) (hn : costB 243 f.stk f.ml 0 = n) (hle : n + 200 * l ≤ f.gas) (hl2 : l ≤ 256) (htk : 2 ≤ f.stk.length)
    (hg2 : Good B (lvD true 0 l (zeros l) d f.self)) (hw2 : wt (lvD true 0 l (zeros l) d f.self) ≤ K') (hK' : K' + 60000 ≤ 2250000000)
    (k : ∀ w', EndX G0 W bw B K' (lvD true 0 l (zeros l) d f.self) x (f.gas - n - 200 * l) w' → Q w') : Goes bw Q 1 w := by
  obtain ⟨⟨G, gf, cs, fr, rt, hW, hC, hs, hrt, hz⟩, hx, hg, hwt, hK, hf, hml, hgas, hdep, hnat, hsta⟩ := h
  have hxr := hx.setRet hrt
  have hsl := hf.slen
  have hmay : MayX G bw gf cs fr d f [] { x with ret := rt } w B := ⟨hs, hxr, hg, hf, hml, hgas, by simp, hnat, hz rfl⟩
  have hRF := refA (p := 243) (.inr (.inr (.inr ⟨by omega, by omega⟩))) hs hxr hg hf (by omega) hgas (by omega) hn (by omega) (fun wz hz => bareX_243 (hs.kept hz) hxr hg hf) (by decide) (by rw [show takA 243 = 2 from rfl]; omega) (by rw [show takA 243 = 2 from rfl, show givA 243 = 0 from rfl]; omega) hsta
  show Calls Sakg.prog 49 #[.pointer (some ⟨bw, 0, none⟩)] w fun e w' => e = .returned (.bool true) ∧ Q w'
  refine step_ret hmay hop (by omega) hre (by omega) rfl hRF Q ?_
  intro G' fr' w' hW' hC' hs' hz' wz A c hb hsrc hnew
  rw [hl] at hsrc ⊢
  obtain ⟨hW1, hC1⟩ := ct_then hW hC hW' hC'
  obtain ⟨hW1, hC1⟩ := ct_then hW1 hC1 (Wider.refl _ _) (⟨ChgS.of hb, Tm.of hb⟩ : CT G' w' wz)
  have hpg : (paidF f 243 n).gas = f.gas - n := rfl
  have hpk : (paidF f 243 n).kind = f.kind := rfl
  have hps : (paidF f 243 n).self = f.self := rfl
  refine (leave_x (hs'.kept hb) hg (by rw [hpk]; exact hf.kind) (by rw [hpg]; omega) (fun p r' e => by cases e) 0 (by omega) A l c (zeros l) (KSrc.new hsrc hnew hs'.cw.ther) (by omega) (by simp) (fun _ _ => ⟨hl2, fun hh => by unfold zeros; rw [List.getD_eq_getElem?_getD, List.getElem?_replicate, if_pos hh]; decide, by rw [hpg]; omega⟩)).mono ?_
  rintro e w2 ⟨rfl, cs2, fr2, d2, out2, gas2, -, hm, hfin, hd, -, -, hend⟩
  rw [hpk, hk, hpg] at hfin
  rw [if_pos rfl, hpk, hk, hps] at hd
  rw [lvFin_le (by omega), show lvOut true 0 (zeros l) = [] from by unfold lvOut; simp, show lvGas true 0 l (f.gas - n) = f.gas - n - 200 * l from by unfold lvGas; simp] at hfin
  simp only [Prod.mk.injEq] at hfin
  obtain ⟨rfl, rfl⟩ := hfin
  subst hd
  refine ⟨rfl, ?_⟩
  rcases hend with ⟨-, hse⟩ | ⟨p, r', e, -⟩
  · obtain ⟨hW2, hC2⟩ := ct_then hW1 hC1 (Wider.refl _ _) ⟨hm.chg, hm.tm⟩
    exact k w2 ⟨⟨G', cs2, [], hW2, hC2, hse, by simp⟩, hx, hg2, hw2, hK', by omega⟩
  · cases e
end

end Go.Proofs.YgcsakGreat
