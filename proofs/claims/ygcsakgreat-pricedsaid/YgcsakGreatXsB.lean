/-
  yp, exactly: Step at STOP whatever the memory holds; Step at a byte that is no instruction.
-/
import Derived.Test.YgcsakGreatXsA
namespace Go.Proofs.YgcsakGreat
set_option linter.unusedVariables false
set_option linter.unusedSimpArgs false
set_option maxRecDepth 100000
open Go.RowKit

set_option maxHeartbeats 4000000 in
theorem refuse_bad (p : Nat) (hp : p ≤ 255) (hfam : famA p = 0) (bw : Nat) (fv : Value) (w : World) : Calls Sakg.prog 113 #[.pointer (some ⟨bw, 0, none⟩), fv, .int .u8 p] w fun e w' => ∃ s : Nat, 1 < s ∧ s ≤ 13 ∧ e = .returned (.tuple #[.int .u8 s, .slice none 0 0]) ∧ w' = w := by
  have HAR := hide (arity_any p hp w)
  rw [hfam] at HAR
  generalize takA p = tk at HAR
  generalize givA p = gv at HAR
  clear hfam
  go_enter Sakg.func113, Sakg.ntmps113
  go_wp2_with (go_at_call 202; refine (unhide HAR).mono ?_; rintro e w1 ⟨rfl, rfl⟩)
  refine bodyPost_ret (results_tmp2 rfl _ _ _) rfl ?_
  exact ⟨5, by decide, by decide, rfl, rfl⟩
section
variable {G : Nat → Prop} {bw gf : Nat} {cs fr : List Value} {d : WD} {f : FD} {r : List FD} {x : XD} {w : World} {B : Nat}
/-- the top frame may take a step -/
structure MayY (G : Nat → Prop) (bw gf : Nat) (cs fr : List Value) (d : WD) (f : FD) (r : List FD) (x : XD) (w : World) (B : Nat) : Prop where
  sr : SR G bw gf cs fr d (f :: r) x w
  xb : XB x
  good : Good B d
  any : AnyF f
  ml : f.ml ≤ 900000
  gas : f.gas ≤ 1048576
  dep : r.length ≤ 6
  nat : f.native = 0
set_option maxHeartbeats 32000000 in
theorem step_haltG {p n : Nat} (hm : MayY G bw gf cs fr d f r x w B) (hop : opcN f = p) (hpl : p ≤ 255) (hre : reachA p f.stk ≤ 900000) (hn : n ≤ f.gas) (hp0 : p = 0)
    (hRF : ∀ wz, Below w.heap.size w wz → Calls Sakg.prog 113 #[.pointer (some ⟨bw, 0, none⟩), .pointer (some ⟨gf, 60 * r.length, none⟩), .int .u8 p] wz (RefX n wz)) (Q : World → Prop)
    (hrest : ∀ G' fr' w', Wider G G' w → CT G w w' → SR G' bw gf cs fr' d (paidF f p n :: r) x w' → Calls Sakg.prog 114 #[.pointer (some ⟨bw, 0, none⟩), .int .u8 0, .slice none 0 0] w' fun e w2 => e = .returned (.tuple #[]) ∧ Q w2) :
    Calls Sakg.prog 49 #[.pointer (some ⟨bw, 0, none⟩)] w fun e w' => e = .returned (.bool true) ∧ Q w' := by
  have hBB := big_ge
  have hPB := p256_lt
  have hP1 := p256_ge
  obtain ⟨h, hx, hg, hf, hml, hgas, hdep, hn0⟩ := hm
  have hslen := hf.slen
  have hpcl := hf.pc
  have hcol := hf.code
  have hargl := argN_lt hf.stk
  have hgl := growN_le f.ml (reachA p f.stk) hml hre
  have hfx := h.fx
  obtain ⟨o, ho⟩ : ∃ o, o = 60 * r.length := ⟨_, rfl⟩
  rw [← ho] at hfx
  obtain ⟨nr, hnr⟩ : ∃ nr, nr = r.length := ⟨_, rfl⟩
  obtain ⟨nf, hnf⟩ : ∃ nf, nf = r.length + 1 := ⟨_, rfl⟩
  obtain ⟨cap, e9, -, hcap, hcap2⟩ := h.frames
  rw [List.length_cons, ← hnf] at e9 hcap
  have c11 : w.cell? ⟨bw, 11, none⟩ = some (.int .u8 1) := h.cw.cell h.phase
  have c9 : w.cell? ⟨bw, 9, none⟩ = some (.slice (some ⟨gf, 0, none⟩) nf cap) := h.cw.cell e9
  have enf : (nf : Int) - 1 = (nr : Int) := by omega
  have hwnr : IntKind.i64.wrap (nr : Int) = (nr : Int) := by rw [IntKind.wrap_i64]; omega
  have hnri : (nr : Int) < (nf : Int) := by omega
  have hnrl : nr < nf := by omega
  have hn60 : nr * 60 = o := by omega
  have tnf : ((nf : Int) == 0) = false := by rw [beq_eq_false_iff_ne]; omega
  rw [← ho] at hRF
  have HF := hide hfx
  have HSR := hide h
  have HO := hide ho
  have HARG := hide hargl
  have HRF := hide hRF
  have HREST := hide hrest
  have HOP0 := hide hop
  have HP0 := hide hp0
  clear hp0
  clear h hfx hnr hnf e9 ho hargl hRF hrest hop hf hg
  go_enter Sakg.func49, Sakg.ntmps49
  go_upto_region 4 with fail
  go_cut [4] (fun s4 wc => s4 = .pointer (some ⟨gf, o, none⟩) ∧ Below w.heap.size w wc)
  case first =>
    as_aux_lemma =>
    go_quiet (fail)
    go_wp2_with fail
    go_meet
    case rel => exact ⟨rfl, Quiet.below ⟨_, rfl⟩ _⟩
  case rest =>
  as_aux_lemma =>
  obtain ⟨w1, hw1⟩ : ∃ w1, w1 = wc := ⟨_, rfl⟩
  subst hw1
  obtain ⟨rfl, b1⟩ := hcut
  have hfx1 := (unhide HF).kept b1
  have c1 : w1.cell? ⟨gf, o + 1, none⟩ = some (.int .u8 f.native) := hfx1.cell hfx1.kf.native
  rw [hn0] at c1
  have HOP := hide (hfx1.opcodeX (by omega) (by omega))
  rw [unhide HOP0] at HOP
  clear hfx1 c11 c9
  go_upto_region 9 with (go_at_call 112; refine (unhide HOP).mono ?_; rintro e w2 ⟨rfl, b2⟩)
  have d2 : Below w.heap.size w w2 := b1.trans (b2.mono b1.size)
  clear c1
  go_upto_region 10 with (go_at_call 113; refine (unhide HRF w2 d2).mono ?_; rintro e w3 ⟨A3, k3, c3, rfl, n3, N3, b3⟩)
  have d3 : Below w.heap.size w w3 := d2.trans (b3.mono d2.size)
  have c43 : ∃ A k c, w3.cell? ⟨gf, o + 4, none⟩ = some (.slice A k c) ∧ KNat G w3 A k c f.gas := by
    have hq := (unhide HF).kept d3
    obtain ⟨A, k, c, g1, g2⟩ := hq.kf.gas
    exact ⟨A, k, c, hq.cell g1, g2⟩
  obtain ⟨Ag, kg, cg, c43, g2⟩ := c43
  have HLS := hide (less_any Ag A3 kg k3 cg c3 f.gas n w3 g2.now n3 (by omega) (by omega))
  clear g2 n3
  go_upto_region 14 with (go_at_call 101; refine (unhide HLS).mono ?_; rintro e w4 ⟨A4, k4, c4, rfl, n4, N4, b4⟩; have d4 : Below w.heap.size w w4 := d3.trans (b4.mono d3.size); have hq4 := (unhide HF).kept d4; obtain ⟨v4x, hx4⟩ := hq4.ex (i := 4) (by omega); have hf4 := hq4.row.froz (o + 4); have NN4 := hide n4; clear n4 hq4)
  have hsr4 := (unhide HSR).kept d4
  have k4N : KNat G w4 A4 k4 c4 (f.gas - n) := KNat.new (unhide NN4) (N4.later d3.size) (unhide HSR).cw.ther
  obtain ⟨hsr5, ho5⟩ := hsr4.put (j := 4) (by omega) (hsr4.fx.kf.setGas k4N)
  rw [← unhide HO] at hsr5 ho5
  obtain ⟨w5, hw5⟩ : ∃ y, y = w4.setCell ⟨gf, o + 4, none⟩ (.slice A4 k4 c4) := ⟨_, rfl⟩
  rw [← hw5] at hsr5 ho5
  rw [← hw5]
  generalize fr.set (o + 4) (Value.slice A4 k4 c4) = fr5 at hsr5
  have m5 : Mv G w w5 := (Mv.of d4).trans (Mv.frame hsr4.row hsr4.g (Chg.ofOnly ho5))
  have hq5 := hsr5.fx
  rw [← unhide HO] at hq5
  have HRE := hide (hq5.reach hslen (unhide HARG) p hpl)
  have HQ5 := hide hq5
  have HSR5 := hide hsr5
  clear hsr4 hsr5 k4N ho5 hw5 hx4 hf4 hq5 c43
  go_wp2_with fail
  refine (unhide HRE).mono ?_
  rintro e w6 ⟨A6, k6, c6, rfl, n6, N6, b6⟩
  have HGW := hide (((unhide HQ5).kept b6).grow A6 k6 c6 (reachA p f.stk) n6 (by omega) (by show f.ml ≤ 1000000; omega) hgl.2)
  clear n6
  go_upto_block 0 with (go_at_call 115; refine (unhide HGW).mono ?_; rintro e w7 ⟨rfl, G', fr7, hW7, hfx7, hfl7, hfe7, hch7⟩; have HW7 := hide hW7; have HFX7 := hide hfx7; have HFE7 := hide hfe7; have HCH7 := hide hch7; have HFL7 := hide hfl7; clear hW7 hfx7 hfe7 hch7 hfl7)
  have hfx7 := unhide HFX7
  have hfe7 := unhide HFE7
  rw [unhide HO] at hfx7 hfe7
  obtain ⟨hsr7, hc67⟩ := ((unhide HSR5).kept b6).grown (unhide HW7) hfx7 (unhide HFL7) hfe7 (unhide HCH7)
  have hW : Wider G G' w := ⟨(unhide HW7).sub, fun i hi hl => (unhide HW7).new i hi (by have := m5.size; have := b6.size; omega)⟩
  have hcw : CT G w w7 := ⟨(m5.chg.trans (ChgS.of b6)).trans hc67.chg, (m5.tm.trans (Tm.of b6)).trans hc67.tm⟩
  have hPL := unhide HREST G' fr7 w7 hW hcw hsr7
  have HPL := hide hPL
  have hp0 := unhide HP0
  clear HP0
  subst hp0
  clear hPL hsr7 hfx7 hfe7 hc67 hcw hW HFX7 HFE7 HCH7 HFL7 HW7 HSR5 HQ5 HREST
  go_wp2_with (go_at_call 114; refine (unhide HPL).mono ?_; rintro e w9 ⟨rfl, hend⟩; have HEND := hide hend; clear hend)
  go_ret
  exact ⟨rfl, unhide HEND⟩
set_option maxHeartbeats 32000000 in
theorem step_bad {p : Nat} (hm : MayY G bw gf cs fr d f r x w B) (hop : opcN f = p) (hpl : p ≤ 255) (hfam : famA p = 0) (Q : World → Prop)
    (hrest : ∀ (w' : World) (s : Nat), 1 < s → s ≤ 13 → Below w.heap.size w w' → Calls Sakg.prog 114 #[.pointer (some ⟨bw, 0, none⟩), .int .u8 s, .slice none 0 0] w' fun e w2 => e = .returned (.tuple #[]) ∧ Q w2) :
    Calls Sakg.prog 49 #[.pointer (some ⟨bw, 0, none⟩)] w fun e w' => e = .returned (.bool true) ∧ Q w' := by
  have hBB := big_ge
  have hPB := p256_lt
  have hP1 := p256_ge
  obtain ⟨h, hx, hg, hf, hml, hgas, hdep, hn0⟩ := hm
  have hslen := hf.slen
  have hpcl := hf.pc
  have hcol := hf.code
  have hargl := argN_lt hf.stk
  have hfx := h.fx
  obtain ⟨o, ho⟩ : ∃ o, o = 60 * r.length := ⟨_, rfl⟩
  rw [← ho] at hfx
  obtain ⟨nr, hnr⟩ : ∃ nr, nr = r.length := ⟨_, rfl⟩
  obtain ⟨nf, hnf⟩ : ∃ nf, nf = r.length + 1 := ⟨_, rfl⟩
  obtain ⟨cap, e9, -, hcap, hcap2⟩ := h.frames
  rw [List.length_cons, ← hnf] at e9 hcap
  have c11 : w.cell? ⟨bw, 11, none⟩ = some (.int .u8 1) := h.cw.cell h.phase
  have c9 : w.cell? ⟨bw, 9, none⟩ = some (.slice (some ⟨gf, 0, none⟩) nf cap) := h.cw.cell e9
  have enf : (nf : Int) - 1 = (nr : Int) := by omega
  have hwnr : IntKind.i64.wrap (nr : Int) = (nr : Int) := by rw [IntKind.wrap_i64]; omega
  have hnri : (nr : Int) < (nf : Int) := by omega
  have hnrl : nr < nf := by omega
  have hn60 : nr * 60 = o := by omega
  have tnf : ((nf : Int) == 0) = false := by rw [beq_eq_false_iff_ne]; omega
  have HF := hide hfx
  have HSR := hide h
  have HO := hide ho
  have HARG := hide hargl
  have HREST := hide hrest
  have HOP0 := hide hop
  clear h hfx hnr hnf e9 ho hargl hrest hop hf hg
  go_enter Sakg.func49, Sakg.ntmps49
  go_upto_region 4 with fail
  go_cut [4] (fun s4 wc => s4 = .pointer (some ⟨gf, o, none⟩) ∧ Below w.heap.size w wc)
  case first =>
    as_aux_lemma =>
    go_quiet (fail)
    go_wp2_with fail
    go_meet
    case rel => exact ⟨rfl, Quiet.below ⟨_, rfl⟩ _⟩
  case rest =>
  as_aux_lemma =>
  obtain ⟨w1, hw1⟩ : ∃ w1, w1 = wc := ⟨_, rfl⟩
  subst hw1
  obtain ⟨rfl, b1⟩ := hcut
  have hfx1 := (unhide HF).kept b1
  have c1 : w1.cell? ⟨gf, o + 1, none⟩ = some (.int .u8 f.native) := hfx1.cell hfx1.kf.native
  rw [hn0] at c1
  have HOP := hide (hfx1.opcodeX (by omega) (by omega))
  rw [unhide HOP0] at HOP
  clear hfx1 c11 c9
  go_upto_region 9 with (go_at_call 112; refine (unhide HOP).mono ?_; rintro e w2 ⟨rfl, b2⟩)
  have d2 : Below w.heap.size w w2 := b1.trans (b2.mono b1.size)
  clear c1
  have HRFB := hide (refuse_bad p hpl hfam bw (.pointer (some ⟨gf, o, none⟩)) w2)
  go_wp2_with fail
  refine (unhide HRFB).mono ?_
  rintro e w3 ⟨s, hs1, hs2, rfl, rfl⟩
  have HL := hide (unhide HREST w3 s hs1 hs2 d2)
  have ts : ((s : Int) != 0) = true := by rw [bne_iff_ne]; omega
  have ts' : ((s : Int) == 0) = false := by rw [beq_eq_false_iff_ne]; omega
  clear HREST
  go_wp2_with (go_at_call 114; refine (unhide HL).mono ?_; rintro e w9 ⟨rfl, hend⟩; have HEND := hide hend; clear hend)
  go_ret
  exact ⟨rfl, unhide HEND⟩
/-- no memory is all zeros -/
theorem zm_none (h : SR G bw gf cs fr d (f :: r) x w) (h0 : f.ml = 0) : Zm w fr (60 * r.length) f.ml (zeros f.ml) := by
  obtain ⟨A, c, h1, h2⟩ := h.fx.kf.mem
  refine ⟨A, c, h1, ?_⟩
  rw [h0] at h2 ⊢
  have hz : zeros 0 = [] := rfl
  rw [hz]
  rcases h2 with ⟨hA, -, hc⟩ | ⟨g, hA, hc, -, -⟩
  · rw [hA, hc]
    exact Src.ofNil w
  · rw [hA, hc]
    exact ⟨rfl, by omega, by simp, fun y hy => by simp at hy, fun hh => absurd hh (by simp), fun hh => absurd hh (by omega)⟩
end

end Go.Proofs.YgcsakGreat
