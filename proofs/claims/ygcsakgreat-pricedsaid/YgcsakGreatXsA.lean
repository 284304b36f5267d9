/-
  yp, exactly: Step, what is called at its end being told by a hypothesis.
-/
import Derived.Test.YgcsakGreatKqD
import Derived.Test.YgcsakGreatXmA
namespace Go.Proofs.YgcsakGreat
set_option linter.unusedVariables false
set_option linter.unusedSimpArgs false
set_option maxRecDepth 100000
open Go.RowKit

section
variable {G : Nat → Prop} {bw gf : Nat} {cs fr : List Value} {d : WD} {f : FD} {r : List FD} {x : XD} {w : World} {B : Nat}
/-- the top frame may take a step: its memory is all zeros -/
structure MayX (G : Nat → Prop) (bw gf : Nat) (cs fr : List Value) (d : WD) (f : FD) (r : List FD) (x : XD) (w : World) (B : Nat) : Prop where
  sr : SR G bw gf cs fr d (f :: r) x w
  xb : XB x
  good : Good B d
  any : AnyF f
  ml : f.ml ≤ 900000
  gas : f.gas ≤ 1048576
  dep : r.length ≤ 6
  nat : f.native = 0
  mem : Zm w fr (60 * r.length) f.ml (zeros f.ml)
/-- the top frame when its instruction is paid and its memory grown -/
def paidF (f : FD) (p n : Nat) : FD := { f with gas := f.gas - n, ml := growN f.ml (reachA p f.stk) }
/-- refusal answers no, and the cost -/
def RefX (n : Nat) (w : World) (e : Ending) (w' : World) : Prop := ∃ A k c, e = .returned (.tuple #[.int .u8 0, .slice A k c]) ∧ IsNat w' A k c n ∧ New w A ∧ Below w.heap.size w w'
theorem growN_le (ml t : Nat) (h1 : ml ≤ 900000) (h2 : t ≤ 900000) : growN ml t ≤ 1000000 ∧ (t + 31) / 32 ≤ 30000 := by
  unfold growN
  split <;> omega
theorem Src.onlyX {w w' : World} {A : Option Addr} {l c g : Nat} {xs : List Int} (h : Src w A l c xs) (ho : Only g w w') (hn : ∀ y, A = some y → y.block ≠ g) : Src w' A l c xs :=
  ⟨h.len_eq, h.le, h.max, h.byt, h.nil, fun h0 => by
    obtain ⟨b, off, rfl, hc⟩ := h.at_ h0
    exact ⟨b, off, rfl, fun i hi => by rw [ho.cell ⟨b, off + i, none⟩ (hn ⟨b, off, none⟩ rfl)]; exact hc i hi⟩⟩
theorem zeros_if (n : Nat) : (if n = 0 then [] else zeros n) = zeros n := by
  by_cases h : n = 0
  · rw [if_pos h, h]; rfl
  · rw [if_neg h]
theorem reachA_243 (s : List Nat) : reachA 243 s = if argN s 1 = 0 then 0 else argN s 0 + argN s 1 := by
  unfold reachA
  rfl
/-- the memory stays when a cell of the frames turns -/
theorem zm_only {o : Nat} {A : Option Addr} {c : Nat} {ms : List Int} {w' : World} (h : SR G bw gf cs fr d (f :: r) x w) (ho : o = 60 * r.length) (h1 : cellsAt fr o 9 = some (.slice A f.ml c)) (h2 : Src w A f.ml c ms) (hon : Only gf w w') : Src w' A f.ml c ms := by
  obtain ⟨A', c', q1, q2⟩ := h.fx.kf.mem
  rw [← ho] at q1
  have he : (A, c) = (A', c') := by
    have h3 := h1.symm.trans q1
    simp only [Option.some.injEq, Value.slice.injEq] at h3
    rw [h3.1, h3.2.2]
  simp only [Prod.mk.injEq] at he
  obtain ⟨rfl, rfl⟩ := he
  rcases q2 with ⟨rfl, hk, rfl⟩ | ⟨g, rfl, rfl, hmb, -⟩
  · have h4 := h2.nil rfl
    obtain ⟨-, h5⟩ := h4
    have h6 := h2.len_eq
    have h7 : ms = [] := List.eq_nil_of_length_eq_zero (by omega)
    rw [h7, hk]
    exact Src.ofNil _
  · have hne : g ≠ gf := fun e => by
      subst e
      exact absurd hmb (not_bytes (by decide) h.row _)
    exact h2.onlyX hon (fun y hy => by have := Option.some.inj hy; subst this; exact hne)
set_option maxHeartbeats 32000000 in
theorem step_plain {p n : Nat} (hm : MayX G bw gf cs fr d f r x w B) (hop : opcN f = p) (hpl : p ≤ 255) (hre : reachA p f.stk ≤ 900000) (hn : n ≤ f.gas) (hp0 : p ≠ 0) (h243 : p ≠ 243) (h253 : p ≠ 253) (h255 : p ≠ 255) (hfam : famA p ≠ 16)
    (hRF : ∀ wz, Below w.heap.size w wz → Calls Sakg.prog 113 #[.pointer (some ⟨bw, 0, none⟩), .pointer (some ⟨gf, 60 * r.length, none⟩), .int .u8 p] wz (RefX n wz)) (Q : World → Prop)
    (hrest : ∀ G' fr' w', Wider G G' w → CT G w w' → SR G' bw gf cs fr' d (paidF f p n :: r) x w' → Zm w' fr' (60 * r.length) (paidF f p n).ml (zeros (paidF f p n).ml) → Calls Sakg.prog 122 #[.pointer (some ⟨bw, 0, none⟩), .pointer (some ⟨gf, 60 * r.length, none⟩), .int .u8 p] w' fun e w2 => e = .returned (.tuple #[]) ∧ Q w2) :
    Calls Sakg.prog 49 #[.pointer (some ⟨bw, 0, none⟩)] w fun e w' => e = .returned (.bool true) ∧ Q w' := by
  have hBB := big_ge
  have hPB := p256_lt
  have hP1 := p256_ge
  obtain ⟨h, hx, hg, hf, hml, hgas, hdep, hn0, hmem⟩ := hm
  have hslen := hf.slen
  have hpcl := hf.pc
  have hcol := hf.code
  have hargl := argN_lt hf.stk
  have hgl := growN_le f.ml (reachA p f.stk) hml hre
  have hfx := h.fx
  obtain ⟨o, ho⟩ : ∃ o, o = 60 * r.length := ⟨_, rfl⟩
  rw [← ho] at hfx hmem
  obtain ⟨nr, hnr⟩ : ∃ nr, nr = r.length := ⟨_, rfl⟩
  obtain ⟨nf, hnf⟩ : ∃ nf, nf = r.length + 1 := ⟨_, rfl⟩
  obtain ⟨cap, e9, -, hcap, hcap2⟩ := h.frames
  rw [List.length_cons, ← hnf] at e9 hcap
  have c11 : w.cell? ⟨bw, 11, none⟩ = some (.int .u8 1) := h.cw.cell h.phase
  have c9 : w.cell? ⟨bw, 9, none⟩ = some (.slice (some ⟨gf, 0, none⟩) nf cap) := h.cw.cell e9
  have enf : (nf : Int) - 1 = (nr : Int) := by omega
  have hwnr : IntKind.i64.wrap (nr : Int) = (nr : Int) := by rw [IntKind.wrap_i64]; omega
  have hnri : (nr : Int) < (nf : Int) := by omega
  have hnrl : nr < nf := by omega
  have hn60 : nr * 60 = o := by omega
  have tnf : ((nf : Int) == 0) = false := by rw [beq_eq_false_iff_ne]; omega
  rw [← ho] at hRF
  have HF := hide hfx
  have HSR := hide h
  have HO := hide ho
  have HARG := hide hargl
  have HMEM := hide hmem
  have HRF := hide hRF
  have HREST := hide hrest
  have HOP0 := hide hop
  clear h hfx hnr hnf e9 ho hargl hmem hRF hrest hop hf hg
  go_enter Sakg.func49, Sakg.ntmps49
  go_upto_region 4 with fail
  go_cut [4] (fun s4 wc => s4 = .pointer (some ⟨gf, o, none⟩) ∧ Below w.heap.size w wc)
  case first =>
    as_aux_lemma =>
    go_quiet (fail)
    go_wp2_with fail
    go_meet
    case rel => exact ⟨rfl, Quiet.below ⟨_, rfl⟩ _⟩
  case rest =>
  as_aux_lemma =>
  obtain ⟨w1, hw1⟩ : ∃ w1, w1 = wc := ⟨_, rfl⟩
  subst hw1
  obtain ⟨rfl, b1⟩ := hcut
  have hfx1 := (unhide HF).kept b1
  have c1 : w1.cell? ⟨gf, o + 1, none⟩ = some (.int .u8 f.native) := hfx1.cell hfx1.kf.native
  rw [hn0] at c1
  have HOP := hide (hfx1.opcodeX (by omega) (by omega))
  rw [unhide HOP0] at HOP
  clear hfx1 c11 c9
  go_upto_region 9 with (go_at_call 112; refine (unhide HOP).mono ?_; rintro e w2 ⟨rfl, b2⟩)
  have d2 : Below w.heap.size w w2 := b1.trans (b2.mono b1.size)
  clear c1
  go_upto_region 10 with (go_at_call 113; refine (unhide HRF w2 d2).mono ?_; rintro e w3 ⟨A3, k3, c3, rfl, n3, N3, b3⟩)
  have d3 : Below w.heap.size w w3 := d2.trans (b3.mono d2.size)
  have c43 : ∃ A k c, w3.cell? ⟨gf, o + 4, none⟩ = some (.slice A k c) ∧ KNat G w3 A k c f.gas := by
    have hq := (unhide HF).kept d3
    obtain ⟨A, k, c, g1, g2⟩ := hq.kf.gas
    exact ⟨A, k, c, hq.cell g1, g2⟩
  obtain ⟨Ag, kg, cg, c43, g2⟩ := c43
  have HLS := hide (less_any Ag A3 kg k3 cg c3 f.gas n w3 g2.now n3 (by omega) (by omega))
  clear g2 n3
  go_upto_region 14 with (go_at_call 101; refine (unhide HLS).mono ?_; rintro e w4 ⟨A4, k4, c4, rfl, n4, N4, b4⟩; have d4 : Below w.heap.size w w4 := d3.trans (b4.mono d3.size); have hq4 := (unhide HF).kept d4; obtain ⟨v4x, hx4⟩ := hq4.ex (i := 4) (by omega); have hf4 := hq4.row.froz (o + 4); have NN4 := hide n4; clear n4 hq4)
  have hsr4 := (unhide HSR).kept d4
  have k4N : KNat G w4 A4 k4 c4 (f.gas - n) := KNat.new (unhide NN4) (N4.later d3.size) (unhide HSR).cw.ther
  obtain ⟨hsr5, ho5⟩ := hsr4.put (j := 4) (by omega) (hsr4.fx.kf.setGas k4N)
  rw [← unhide HO] at hsr5 ho5
  have hmem4 := (unhide HMEM).kept d4
  obtain ⟨w5, hw5⟩ : ∃ y, y = w4.setCell ⟨gf, o + 4, none⟩ (.slice A4 k4 c4) := ⟨_, rfl⟩
  rw [← hw5] at hsr5 ho5
  rw [← hw5]
  have hmem5 : Zm w5 (fr.set (o + 4) (Value.slice A4 k4 c4)) o f.ml (zeros f.ml) := by
    obtain ⟨A, c, q1, q2⟩ := hmem4
    refine ⟨A, c, ?_, ?_⟩
    · show (fr.set (o + 4) _)[o + 9]? = _
      rw [List.getElem?_set_ne (by omega)]
      exact q1
    · exact zm_only hsr4 (unhide HO) q1 q2 ho5
  generalize fr.set (o + 4) (Value.slice A4 k4 c4) = fr5 at hsr5 hmem5
  have m5 : Mv G w w5 := (Mv.of d4).trans (Mv.frame hsr4.row hsr4.g (Chg.ofOnly ho5))
  have hq5 := hsr5.fx
  rw [← unhide HO] at hq5
  have HRE := hide (hq5.reach hslen (unhide HARG) p hpl)
  have HQ5 := hide hq5
  have HSR5 := hide hsr5
  have HMEM5 := hide hmem5
  clear hsr4 hsr5 k4N ho5 hw5 hx4 hf4 hq5 c43 hmem4 hmem5
  go_wp2_with fail
  refine (unhide HRE).mono ?_
  rintro e w6 ⟨A6, k6, c6, rfl, n6, N6, b6⟩
  have HGW := hide (((unhide HQ5).kept b6).growX A6 k6 c6 (reachA p f.stk) n6 (by omega) (by show f.ml ≤ 1000000; omega) hgl.2 ((unhide HMEM5).kept b6))
  clear n6
  go_upto_block 0 with (go_at_call 115; refine (unhide HGW).mono ?_; rintro e w7 ⟨rfl, G', fr7, hW7, hfx7, hfl7, hfe7, hch7, hzm7⟩; have HW7 := hide hW7; have HFX7 := hide hfx7; have HFE7 := hide hfe7; have HCH7 := hide hch7; have HFL7 := hide hfl7; have HZM7 := hide hzm7; clear hW7 hfx7 hfe7 hch7 hfl7 hzm7)
  have hfx7 := unhide HFX7
  have hfe7 := unhide HFE7
  have hzm7 := unhide HZM7
  rw [unhide HO] at hfx7 hfe7 hzm7
  obtain ⟨hsr7, hc67⟩ := ((unhide HSR5).kept b6).grown (unhide HW7) hfx7 (unhide HFL7) hfe7 (unhide HCH7)
  have hW : Wider G G' w := ⟨(unhide HW7).sub, fun i hi hl => (unhide HW7).new i hi (by have := m5.size; have := b6.size; omega)⟩
  have hcw : CT G w w7 := ⟨(m5.chg.trans (ChgS.of b6)).trans hc67.chg, (m5.tm.trans (Tm.of b6)).trans hc67.tm⟩
  have hPL := unhide HREST G' fr7 w7 hW hcw hsr7 hzm7
  rw [← unhide HO] at hPL
  have HPL := hide hPL
  have t0 : ((p : Int) == 0) = false := by rw [beq_eq_false_iff_ne]; omega
  have t243 : ((p : Int) == 243) = false := by rw [beq_eq_false_iff_ne]; omega
  have t253 : ((p : Int) == 253) = false := by rw [beq_eq_false_iff_ne]; omega
  have t255 : ((p : Int) == 255) = false := by rw [beq_eq_false_iff_ne]; omega
  have HFM : ∀ wz, Hid (Calls Sakg.prog 120 #[.int .u8 p] wz fun e w' => e = .returned (.int .u8 (famA p)) ∧ wz = w') := fun wz => hide (family_any p hpl wz)
  have t16 : ((famA p : Int) == 16) = false := by rw [beq_eq_false_iff_ne]; omega
  generalize famA p = fm at HFM t16
  clear hPL hfam hp0 h243 h253 h255 hsr7 hfx7 hfe7 hzm7 hc67 hcw hW HFX7 HFE7 HCH7 HFL7 HW7 HSR5 HQ5 HZM7 HREST
  go_wp2_with (first
    | (go_at_call 120; refine (unhide (HFM _)).mono ?_; rintro e w8 ⟨rfl, rfl⟩)
    | (go_at_call 122; refine (unhide HPL).mono ?_; rintro e w9 ⟨rfl, hend⟩; have HEND := hide hend; clear hend))
  go_ret
  exact ⟨rfl, unhide HEND⟩
set_option maxHeartbeats 32000000 in
theorem step_enters {p n : Nat} (hm : MayX G bw gf cs fr d f r x w B) (hop : opcN f = p) (hpl : p ≤ 255) (hre : reachA p f.stk ≤ 900000) (hn : n ≤ f.gas) (hp0 : p ≠ 0) (h243 : p ≠ 243) (h253 : p ≠ 253) (h255 : p ≠ 255) (hfam : famA p = 16)
    (hRF : ∀ wz, Below w.heap.size w wz → Calls Sakg.prog 113 #[.pointer (some ⟨bw, 0, none⟩), .pointer (some ⟨gf, 60 * r.length, none⟩), .int .u8 p] wz (RefX n wz)) (Q : World → Prop)
    (hrest : ∀ G' fr' w', Wider G G' w → CT G w w' → SR G' bw gf cs fr' d (paidF f p n :: r) x w' → Zm w' fr' (60 * r.length) (paidF f p n).ml (zeros (paidF f p n).ml) → Calls Sakg.prog 121 #[.pointer (some ⟨bw, 0, none⟩), .pointer (some ⟨gf, 60 * r.length, none⟩), .int .u8 p] w' fun e w2 => e = .returned (.tuple #[]) ∧ Q w2) :
    Calls Sakg.prog 49 #[.pointer (some ⟨bw, 0, none⟩)] w fun e w' => e = .returned (.bool true) ∧ Q w' := by
  have hBB := big_ge
  have hPB := p256_lt
  have hP1 := p256_ge
  obtain ⟨h, hx, hg, hf, hml, hgas, hdep, hn0, hmem⟩ := hm
  have hslen := hf.slen
  have hpcl := hf.pc
  have hcol := hf.code
  have hargl := argN_lt hf.stk
  have hgl := growN_le f.ml (reachA p f.stk) hml hre
  have hfx := h.fx
  obtain ⟨o, ho⟩ : ∃ o, o = 60 * r.length := ⟨_, rfl⟩
  rw [← ho] at hfx hmem
  obtain ⟨nr, hnr⟩ : ∃ nr, nr = r.length := ⟨_, rfl⟩
  obtain ⟨nf, hnf⟩ : ∃ nf, nf = r.length + 1 := ⟨_, rfl⟩
  obtain ⟨cap, e9, -, hcap, hcap2⟩ := h.frames
  rw [List.length_cons, ← hnf] at e9 hcap
  have c11 : w.cell? ⟨bw, 11, none⟩ = some (.int .u8 1) := h.cw.cell h.phase
  have c9 : w.cell? ⟨bw, 9, none⟩ = some (.slice (some ⟨gf, 0, none⟩) nf cap) := h.cw.cell e9
  have enf : (nf : Int) - 1 = (nr : Int) := by omega
  have hwnr : IntKind.i64.wrap (nr : Int) = (nr : Int) := by rw [IntKind.wrap_i64]; omega
  have hnri : (nr : Int) < (nf : Int) := by omega
  have hnrl : nr < nf := by omega
  have hn60 : nr * 60 = o := by omega
  have tnf : ((nf : Int) == 0) = false := by rw [beq_eq_false_iff_ne]; omega
  rw [← ho] at hRF
  have HF := hide hfx
  have HSR := hide h
  have HO := hide ho
  have HARG := hide hargl
  have HMEM := hide hmem
  have HRF := hide hRF
  have HREST := hide hrest
  have HOP0 := hide hop
  clear h hfx hnr hnf e9 ho hargl hmem hRF hrest hop hf hg
  go_enter Sakg.func49, Sakg.ntmps49
  go_upto_region 4 with fail
  go_cut [4] (fun s4 wc => s4 = .pointer (some ⟨gf, o, none⟩) ∧ Below w.heap.size w wc)
  case first =>
    as_aux_lemma =>
    go_quiet (fail)
    go_wp2_with fail
    go_meet
    case rel => exact ⟨rfl, Quiet.below ⟨_, rfl⟩ _⟩
  case rest =>
  as_aux_lemma =>
  obtain ⟨w1, hw1⟩ : ∃ w1, w1 = wc := ⟨_, rfl⟩
  subst hw1
  obtain ⟨rfl, b1⟩ := hcut
  have hfx1 := (unhide HF).kept b1
  have c1 : w1.cell? ⟨gf, o + 1, none⟩ = some (.int .u8 f.native) := hfx1.cell hfx1.kf.native
  rw [hn0] at c1
  have HOP := hide (hfx1.opcodeX (by omega) (by omega))
  rw [unhide HOP0] at HOP
  clear hfx1 c11 c9
  go_upto_region 9 with (go_at_call 112; refine (unhide HOP).mono ?_; rintro e w2 ⟨rfl, b2⟩)
  have d2 : Below w.heap.size w w2 := b1.trans (b2.mono b1.size)
  clear c1
  go_upto_region 10 with (go_at_call 113; refine (unhide HRF w2 d2).mono ?_; rintro e w3 ⟨A3, k3, c3, rfl, n3, N3, b3⟩)
  have d3 : Below w.heap.size w w3 := d2.trans (b3.mono d2.size)
  have c43 : ∃ A k c, w3.cell? ⟨gf, o + 4, none⟩ = some (.slice A k c) ∧ KNat G w3 A k c f.gas := by
    have hq := (unhide HF).kept d3
    obtain ⟨A, k, c, g1, g2⟩ := hq.kf.gas
    exact ⟨A, k, c, hq.cell g1, g2⟩
  obtain ⟨Ag, kg, cg, c43, g2⟩ := c43
  have HLS := hide (less_any Ag A3 kg k3 cg c3 f.gas n w3 g2.now n3 (by omega) (by omega))
  clear g2 n3
  go_upto_region 14 with (go_at_call 101; refine (unhide HLS).mono ?_; rintro e w4 ⟨A4, k4, c4, rfl, n4, N4, b4⟩; have d4 : Below w.heap.size w w4 := d3.trans (b4.mono d3.size); have hq4 := (unhide HF).kept d4; obtain ⟨v4x, hx4⟩ := hq4.ex (i := 4) (by omega); have hf4 := hq4.row.froz (o + 4); have NN4 := hide n4; clear n4 hq4)
  have hsr4 := (unhide HSR).kept d4
  have k4N : KNat G w4 A4 k4 c4 (f.gas - n) := KNat.new (unhide NN4) (N4.later d3.size) (unhide HSR).cw.ther
  obtain ⟨hsr5, ho5⟩ := hsr4.put (j := 4) (by omega) (hsr4.fx.kf.setGas k4N)
  rw [← unhide HO] at hsr5 ho5
  have hmem4 := (unhide HMEM).kept d4
  obtain ⟨w5, hw5⟩ : ∃ y, y = w4.setCell ⟨gf, o + 4, none⟩ (.slice A4 k4 c4) := ⟨_, rfl⟩
  rw [← hw5] at hsr5 ho5
  rw [← hw5]
  have hmem5 : Zm w5 (fr.set (o + 4) (Value.slice A4 k4 c4)) o f.ml (zeros f.ml) := by
    obtain ⟨A, c, q1, q2⟩ := hmem4
    refine ⟨A, c, ?_, ?_⟩
    · show (fr.set (o + 4) _)[o + 9]? = _
      rw [List.getElem?_set_ne (by omega)]
      exact q1
    · exact zm_only hsr4 (unhide HO) q1 q2 ho5
  generalize fr.set (o + 4) (Value.slice A4 k4 c4) = fr5 at hsr5 hmem5
  have m5 : Mv G w w5 := (Mv.of d4).trans (Mv.frame hsr4.row hsr4.g (Chg.ofOnly ho5))
  have hq5 := hsr5.fx
  rw [← unhide HO] at hq5
  have HRE := hide (hq5.reach hslen (unhide HARG) p hpl)
  have HQ5 := hide hq5
  have HSR5 := hide hsr5
  have HMEM5 := hide hmem5
  clear hsr4 hsr5 k4N ho5 hw5 hx4 hf4 hq5 c43 hmem4 hmem5
  go_wp2_with fail
  refine (unhide HRE).mono ?_
  rintro e w6 ⟨A6, k6, c6, rfl, n6, N6, b6⟩
  have HGW := hide (((unhide HQ5).kept b6).growX A6 k6 c6 (reachA p f.stk) n6 (by omega) (by show f.ml ≤ 1000000; omega) hgl.2 ((unhide HMEM5).kept b6))
  clear n6
  go_upto_block 0 with (go_at_call 115; refine (unhide HGW).mono ?_; rintro e w7 ⟨rfl, G', fr7, hW7, hfx7, hfl7, hfe7, hch7, hzm7⟩; have HW7 := hide hW7; have HFX7 := hide hfx7; have HFE7 := hide hfe7; have HCH7 := hide hch7; have HFL7 := hide hfl7; have HZM7 := hide hzm7; clear hW7 hfx7 hfe7 hch7 hfl7 hzm7)
  have hfx7 := unhide HFX7
  have hfe7 := unhide HFE7
  have hzm7 := unhide HZM7
  rw [unhide HO] at hfx7 hfe7 hzm7
  obtain ⟨hsr7, hc67⟩ := ((unhide HSR5).kept b6).grown (unhide HW7) hfx7 (unhide HFL7) hfe7 (unhide HCH7)
  have hW : Wider G G' w := ⟨(unhide HW7).sub, fun i hi hl => (unhide HW7).new i hi (by have := m5.size; have := b6.size; omega)⟩
  have hcw : CT G w w7 := ⟨(m5.chg.trans (ChgS.of b6)).trans hc67.chg, (m5.tm.trans (Tm.of b6)).trans hc67.tm⟩
  have hPL := unhide HREST G' fr7 w7 hW hcw hsr7 hzm7
  rw [← unhide HO] at hPL
  have HPL := hide hPL
  have t0 : ((p : Int) == 0) = false := by rw [beq_eq_false_iff_ne]; omega
  have t243 : ((p : Int) == 243) = false := by rw [beq_eq_false_iff_ne]; omega
  have t253 : ((p : Int) == 253) = false := by rw [beq_eq_false_iff_ne]; omega
  have t255 : ((p : Int) == 255) = false := by rw [beq_eq_false_iff_ne]; omega
  have HFM : ∀ wz, Hid (Calls Sakg.prog 120 #[.int .u8 p] wz fun e w' => e = .returned (.int .u8 (famA p)) ∧ wz = w') := fun wz => hide (family_any p hpl wz)
  have t16 : ((famA p : Int) == 16) = true := by rw [hfam]; decide
  generalize famA p = fm at HFM t16
  clear hPL hfam hp0 h243 h253 h255 hsr7 hfx7 hfe7 hzm7 hc67 hcw hW HFX7 HFE7 HCH7 HFL7 HW7 HSR5 HQ5 HZM7 HREST
  go_wp2_with (first
    | (go_at_call 120; refine (unhide (HFM _)).mono ?_; rintro e w8 ⟨rfl, rfl⟩)
    | (go_at_call 121; refine (unhide HPL).mono ?_; rintro e w9 ⟨rfl, hend⟩; have HEND := hide hend; clear hend))
  go_ret
  exact ⟨rfl, unhide HEND⟩
set_option maxHeartbeats 32000000 in
theorem step_halt {p n : Nat} (hm : MayX G bw gf cs fr d f r x w B) (hop : opcN f = p) (hpl : p ≤ 255) (hre : reachA p f.stk ≤ 900000) (hn : n ≤ f.gas) (hp0 : p = 0)
    (hRF : ∀ wz, Below w.heap.size w wz → Calls Sakg.prog 113 #[.pointer (some ⟨bw, 0, none⟩), .pointer (some ⟨gf, 60 * r.length, none⟩), .int .u8 p] wz (RefX n wz)) (Q : World → Prop)
    (hrest : ∀ G' fr' w', Wider G G' w → CT G w w' → SR G' bw gf cs fr' d (paidF f p n :: r) x w' → Zm w' fr' (60 * r.length) (paidF f p n).ml (zeros (paidF f p n).ml) → Calls Sakg.prog 114 #[.pointer (some ⟨bw, 0, none⟩), .int .u8 0, .slice none 0 0] w' fun e w2 => e = .returned (.tuple #[]) ∧ Q w2) :
    Calls Sakg.prog 49 #[.pointer (some ⟨bw, 0, none⟩)] w fun e w' => e = .returned (.bool true) ∧ Q w' := by
  have hBB := big_ge
  have hPB := p256_lt
  have hP1 := p256_ge
  obtain ⟨h, hx, hg, hf, hml, hgas, hdep, hn0, hmem⟩ := hm
  have hslen := hf.slen
  have hpcl := hf.pc
  have hcol := hf.code
  have hargl := argN_lt hf.stk
  have hgl := growN_le f.ml (reachA p f.stk) hml hre
  have hfx := h.fx
  obtain ⟨o, ho⟩ : ∃ o, o = 60 * r.length := ⟨_, rfl⟩
  rw [← ho] at hfx hmem
  obtain ⟨nr, hnr⟩ : ∃ nr, nr = r.length := ⟨_, rfl⟩
  obtain ⟨nf, hnf⟩ : ∃ nf, nf = r.length + 1 := ⟨_, rfl⟩
  obtain ⟨cap, e9, -, hcap, hcap2⟩ := h.frames
  rw [List.length_cons, ← hnf] at e9 hcap
  have c11 : w.cell? ⟨bw, 11, none⟩ = some (.int .u8 1) := h.cw.cell h.phase
  have c9 : w.cell? ⟨bw, 9, none⟩ = some (.slice (some ⟨gf, 0, none⟩) nf cap) := h.cw.cell e9
  have enf : (nf : Int) - 1 = (nr : Int) := by omega
  have hwnr : IntKind.i64.wrap (nr : Int) = (nr : Int) := by rw [IntKind.wrap_i64]; omega
  have hnri : (nr : Int) < (nf : Int) := by omega
  have hnrl : nr < nf := by omega
  have hn60 : nr * 60 = o := by omega
  have tnf : ((nf : Int) == 0) = false := by rw [beq_eq_false_iff_ne]; omega
  rw [← ho] at hRF
  have HF := hide hfx
  have HSR := hide h
  have HO := hide ho
  have HARG := hide hargl
  have HMEM := hide hmem
  have HRF := hide hRF
  have HREST := hide hrest
  have HOP0 := hide hop
  have HP0 := hide hp0
  clear hp0
  clear h hfx hnr hnf e9 ho hargl hmem hRF hrest hop hf hg
  go_enter Sakg.func49, Sakg.ntmps49
  go_upto_region 4 with fail
  go_cut [4] (fun s4 wc => s4 = .pointer (some ⟨gf, o, none⟩) ∧ Below w.heap.size w wc)
  case first =>
    as_aux_lemma =>
    go_quiet (fail)
    go_wp2_with fail
    go_meet
    case rel => exact ⟨rfl, Quiet.below ⟨_, rfl⟩ _⟩
  case rest =>
  as_aux_lemma =>
  obtain ⟨w1, hw1⟩ : ∃ w1, w1 = wc := ⟨_, rfl⟩
  subst hw1
  obtain ⟨rfl, b1⟩ := hcut
  have hfx1 := (unhide HF).kept b1
  have c1 : w1.cell? ⟨gf, o + 1, none⟩ = some (.int .u8 f.native) := hfx1.cell hfx1.kf.native
  rw [hn0] at c1
  have HOP := hide (hfx1.opcodeX (by omega) (by omega))
  rw [unhide HOP0] at HOP
  clear hfx1 c11 c9
  go_upto_region 9 with (go_at_call 112; refine (unhide HOP).mono ?_; rintro e w2 ⟨rfl, b2⟩)
  have d2 : Below w.heap.size w w2 := b1.trans (b2.mono b1.size)
  clear c1
  go_upto_region 10 with (go_at_call 113; refine (unhide HRF w2 d2).mono ?_; rintro e w3 ⟨A3, k3, c3, rfl, n3, N3, b3⟩)
  have d3 : Below w.heap.size w w3 := d2.trans (b3.mono d2.size)
  have c43 : ∃ A k c, w3.cell? ⟨gf, o + 4, none⟩ = some (.slice A k c) ∧ KNat G w3 A k c f.gas := by
    have hq := (unhide HF).kept d3
    obtain ⟨A, k, c, g1, g2⟩ := hq.kf.gas
    exact ⟨A, k, c, hq.cell g1, g2⟩
  obtain ⟨Ag, kg, cg, c43, g2⟩ := c43
  have HLS := hide (less_any Ag A3 kg k3 cg c3 f.gas n w3 g2.now n3 (by omega) (by omega))
  clear g2 n3
  go_upto_region 14 with (go_at_call 101; refine (unhide HLS).mono ?_; rintro e w4 ⟨A4, k4, c4, rfl, n4, N4, b4⟩; have d4 : Below w.heap.size w w4 := d3.trans (b4.mono d3.size); have hq4 := (unhide HF).kept d4; obtain ⟨v4x, hx4⟩ := hq4.ex (i := 4) (by omega); have hf4 := hq4.row.froz (o + 4); have NN4 := hide n4; clear n4 hq4)
  have hsr4 := (unhide HSR).kept d4
  have k4N : KNat G w4 A4 k4 c4 (f.gas - n) := KNat.new (unhide NN4) (N4.later d3.size) (unhide HSR).cw.ther
  obtain ⟨hsr5, ho5⟩ := hsr4.put (j := 4) (by omega) (hsr4.fx.kf.setGas k4N)
  rw [← unhide HO] at hsr5 ho5
  have hmem4 := (unhide HMEM).kept d4
  obtain ⟨w5, hw5⟩ : ∃ y, y = w4.setCell ⟨gf, o + 4, none⟩ (.slice A4 k4 c4) := ⟨_, rfl⟩
  rw [← hw5] at hsr5 ho5
  rw [← hw5]
  have hmem5 : Zm w5 (fr.set (o + 4) (Value.slice A4 k4 c4)) o f.ml (zeros f.ml) := by
    obtain ⟨A, c, q1, q2⟩ := hmem4
    refine ⟨A, c, ?_, ?_⟩
    · show (fr.set (o + 4) _)[o + 9]? = _
      rw [List.getElem?_set_ne (by omega)]
      exact q1
    · exact zm_only hsr4 (unhide HO) q1 q2 ho5
  generalize fr.set (o + 4) (Value.slice A4 k4 c4) = fr5 at hsr5 hmem5
  have m5 : Mv G w w5 := (Mv.of d4).trans (Mv.frame hsr4.row hsr4.g (Chg.ofOnly ho5))
  have hq5 := hsr5.fx
  rw [← unhide HO] at hq5
  have HRE := hide (hq5.reach hslen (unhide HARG) p hpl)
  have HQ5 := hide hq5
  have HSR5 := hide hsr5
  have HMEM5 := hide hmem5
  clear hsr4 hsr5 k4N ho5 hw5 hx4 hf4 hq5 c43 hmem4 hmem5
  go_wp2_with fail
  refine (unhide HRE).mono ?_
  rintro e w6 ⟨A6, k6, c6, rfl, n6, N6, b6⟩
  have HGW := hide (((unhide HQ5).kept b6).growX A6 k6 c6 (reachA p f.stk) n6 (by omega) (by show f.ml ≤ 1000000; omega) hgl.2 ((unhide HMEM5).kept b6))
  clear n6
  go_upto_block 0 with (go_at_call 115; refine (unhide HGW).mono ?_; rintro e w7 ⟨rfl, G', fr7, hW7, hfx7, hfl7, hfe7, hch7, hzm7⟩; have HW7 := hide hW7; have HFX7 := hide hfx7; have HFE7 := hide hfe7; have HCH7 := hide hch7; have HFL7 := hide hfl7; have HZM7 := hide hzm7; clear hW7 hfx7 hfe7 hch7 hfl7 hzm7)
  have hfx7 := unhide HFX7
  have hfe7 := unhide HFE7
  have hzm7 := unhide HZM7
  rw [unhide HO] at hfx7 hfe7 hzm7
  obtain ⟨hsr7, hc67⟩ := ((unhide HSR5).kept b6).grown (unhide HW7) hfx7 (unhide HFL7) hfe7 (unhide HCH7)
  have hW : Wider G G' w := ⟨(unhide HW7).sub, fun i hi hl => (unhide HW7).new i hi (by have := m5.size; have := b6.size; omega)⟩
  have hcw : CT G w w7 := ⟨(m5.chg.trans (ChgS.of b6)).trans hc67.chg, (m5.tm.trans (Tm.of b6)).trans hc67.tm⟩
  have hPL := unhide HREST G' fr7 w7 hW hcw hsr7 hzm7
  have HPL := hide hPL
  have hp0 := unhide HP0
  clear HP0
  subst hp0
  clear hPL hsr7 hfx7 hfe7 hzm7 hc67 hcw hW HFX7 HFE7 HCH7 HFL7 HW7 HSR5 HQ5 HZM7 HREST
  go_wp2_with (go_at_call 114; refine (unhide HPL).mono ?_; rintro e w9 ⟨rfl, hend⟩; have HEND := hide hend; clear hend)
  go_ret
  exact ⟨rfl, unhide HEND⟩
set_option maxHeartbeats 32000000 in
theorem step_ret {p n : Nat} (hm : MayX G bw gf cs fr d f r x w B) (hop : opcN f = p) (hpl : p ≤ 255) (hre : reachA p f.stk ≤ 900000) (hn : n ≤ f.gas) (hp0 : p = 243)
    (hRF : ∀ wz, Below w.heap.size w wz → Calls Sakg.prog 113 #[.pointer (some ⟨bw, 0, none⟩), .pointer (some ⟨gf, 60 * r.length, none⟩), .int .u8 p] wz (RefX n wz)) (Q : World → Prop)
    (hrest : ∀ G' fr' w', Wider G G' w → CT G w w' → SR G' bw gf cs fr' d (paidF f p n :: r) x w' → Zm w' fr' (60 * r.length) (paidF f p n).ml (zeros (paidF f p n).ml) → ∀ wz A c, Below w'.heap.size w' wz → Src wz A (argN f.stk 1) c (zeros (argN f.stk 1)) → New w' A → Calls Sakg.prog 114 #[.pointer (some ⟨bw, 0, none⟩), .int .u8 0, .slice A (argN f.stk 1) c] wz fun e w2 => e = .returned (.tuple #[]) ∧ Q w2) :
    Calls Sakg.prog 49 #[.pointer (some ⟨bw, 0, none⟩)] w fun e w' => e = .returned (.bool true) ∧ Q w' := by
  have hBB := big_ge
  have hPB := p256_lt
  have hP1 := p256_ge
  obtain ⟨h, hx, hg, hf, hml, hgas, hdep, hn0, hmem⟩ := hm
  have hslen := hf.slen
  have hpcl := hf.pc
  have hcol := hf.code
  have hargl := argN_lt hf.stk
  have hgl := growN_le f.ml (reachA p f.stk) hml hre
  have hfx := h.fx
  obtain ⟨o, ho⟩ : ∃ o, o = 60 * r.length := ⟨_, rfl⟩
  rw [← ho] at hfx hmem
  obtain ⟨nr, hnr⟩ : ∃ nr, nr = r.length := ⟨_, rfl⟩
  obtain ⟨nf, hnf⟩ : ∃ nf, nf = r.length + 1 := ⟨_, rfl⟩
  obtain ⟨cap, e9, -, hcap, hcap2⟩ := h.frames
  rw [List.length_cons, ← hnf] at e9 hcap
  have c11 : w.cell? ⟨bw, 11, none⟩ = some (.int .u8 1) := h.cw.cell h.phase
  have c9 : w.cell? ⟨bw, 9, none⟩ = some (.slice (some ⟨gf, 0, none⟩) nf cap) := h.cw.cell e9
  have enf : (nf : Int) - 1 = (nr : Int) := by omega
  have hwnr : IntKind.i64.wrap (nr : Int) = (nr : Int) := by rw [IntKind.wrap_i64]; omega
  have hnri : (nr : Int) < (nf : Int) := by omega
  have hnrl : nr < nf := by omega
  have hn60 : nr * 60 = o := by omega
  have tnf : ((nf : Int) == 0) = false := by rw [beq_eq_false_iff_ne]; omega
  rw [← ho] at hRF
  have HF := hide hfx
  have HSR := hide h
  have HO := hide ho
  have HARG := hide hargl
  have HMEM := hide hmem
  have HRF := hide hRF
  have HREST := hide hrest
  have HOP0 := hide hop
  have HP0 := hide hp0
  clear hp0
  clear h hfx hnr hnf e9 ho hargl hmem hRF hrest hop hf hg
  go_enter Sakg.func49, Sakg.ntmps49
  go_upto_region 4 with fail
  go_cut [4] (fun s4 wc => s4 = .pointer (some ⟨gf, o, none⟩) ∧ Below w.heap.size w wc)
  case first =>
    as_aux_lemma =>
    go_quiet (fail)
    go_wp2_with fail
    go_meet
    case rel => exact ⟨rfl, Quiet.below ⟨_, rfl⟩ _⟩
  case rest =>
  as_aux_lemma =>
  obtain ⟨w1, hw1⟩ : ∃ w1, w1 = wc := ⟨_, rfl⟩
  subst hw1
  obtain ⟨rfl, b1⟩ := hcut
  have hfx1 := (unhide HF).kept b1
  have c1 : w1.cell? ⟨gf, o + 1, none⟩ = some (.int .u8 f.native) := hfx1.cell hfx1.kf.native
  rw [hn0] at c1
  have HOP := hide (hfx1.opcodeX (by omega) (by omega))
  rw [unhide HOP0] at HOP
  clear hfx1 c11 c9
  go_upto_region 9 with (go_at_call 112; refine (unhide HOP).mono ?_; rintro e w2 ⟨rfl, b2⟩)
  have d2 : Below w.heap.size w w2 := b1.trans (b2.mono b1.size)
  clear c1
  go_upto_region 10 with (go_at_call 113; refine (unhide HRF w2 d2).mono ?_; rintro e w3 ⟨A3, k3, c3, rfl, n3, N3, b3⟩)
  have d3 : Below w.heap.size w w3 := d2.trans (b3.mono d2.size)
  have c43 : ∃ A k c, w3.cell? ⟨gf, o + 4, none⟩ = some (.slice A k c) ∧ KNat G w3 A k c f.gas := by
    have hq := (unhide HF).kept d3
    obtain ⟨A, k, c, g1, g2⟩ := hq.kf.gas
    exact ⟨A, k, c, hq.cell g1, g2⟩
  obtain ⟨Ag, kg, cg, c43, g2⟩ := c43
  have HLS := hide (less_any Ag A3 kg k3 cg c3 f.gas n w3 g2.now n3 (by omega) (by omega))
  clear g2 n3
  go_upto_region 14 with (go_at_call 101; refine (unhide HLS).mono ?_; rintro e w4 ⟨A4, k4, c4, rfl, n4, N4, b4⟩; have d4 : Below w.heap.size w w4 := d3.trans (b4.mono d3.size); have hq4 := (unhide HF).kept d4; obtain ⟨v4x, hx4⟩ := hq4.ex (i := 4) (by omega); have hf4 := hq4.row.froz (o + 4); have NN4 := hide n4; clear n4 hq4)
  have hsr4 := (unhide HSR).kept d4
  have k4N : KNat G w4 A4 k4 c4 (f.gas - n) := KNat.new (unhide NN4) (N4.later d3.size) (unhide HSR).cw.ther
  obtain ⟨hsr5, ho5⟩ := hsr4.put (j := 4) (by omega) (hsr4.fx.kf.setGas k4N)
  rw [← unhide HO] at hsr5 ho5
  have hmem4 := (unhide HMEM).kept d4
  obtain ⟨w5, hw5⟩ : ∃ y, y = w4.setCell ⟨gf, o + 4, none⟩ (.slice A4 k4 c4) := ⟨_, rfl⟩
  rw [← hw5] at hsr5 ho5
  rw [← hw5]
  have hmem5 : Zm w5 (fr.set (o + 4) (Value.slice A4 k4 c4)) o f.ml (zeros f.ml) := by
    obtain ⟨A, c, q1, q2⟩ := hmem4
    refine ⟨A, c, ?_, ?_⟩
    · show (fr.set (o + 4) _)[o + 9]? = _
      rw [List.getElem?_set_ne (by omega)]
      exact q1
    · exact zm_only hsr4 (unhide HO) q1 q2 ho5
  generalize fr.set (o + 4) (Value.slice A4 k4 c4) = fr5 at hsr5 hmem5
  have m5 : Mv G w w5 := (Mv.of d4).trans (Mv.frame hsr4.row hsr4.g (Chg.ofOnly ho5))
  have hq5 := hsr5.fx
  rw [← unhide HO] at hq5
  have HRE := hide (hq5.reach hslen (unhide HARG) p hpl)
  have HQ5 := hide hq5
  have HSR5 := hide hsr5
  have HMEM5 := hide hmem5
  clear hsr4 hsr5 k4N ho5 hw5 hx4 hf4 hq5 c43 hmem4 hmem5
  go_wp2_with fail
  refine (unhide HRE).mono ?_
  rintro e w6 ⟨A6, k6, c6, rfl, n6, N6, b6⟩
  have HGW := hide (((unhide HQ5).kept b6).growX A6 k6 c6 (reachA p f.stk) n6 (by omega) (by show f.ml ≤ 1000000; omega) hgl.2 ((unhide HMEM5).kept b6))
  clear n6
  go_upto_block 0 with (go_at_call 115; refine (unhide HGW).mono ?_; rintro e w7 ⟨rfl, G', fr7, hW7, hfx7, hfl7, hfe7, hch7, hzm7⟩; have HW7 := hide hW7; have HFX7 := hide hfx7; have HFE7 := hide hfe7; have HCH7 := hide hch7; have HFL7 := hide hfl7; have HZM7 := hide hzm7; clear hW7 hfx7 hfe7 hch7 hfl7 hzm7)
  have hfx7 := unhide HFX7
  have hfe7 := unhide HFE7
  have hzm7 := unhide HZM7
  rw [unhide HO] at hfx7 hfe7 hzm7
  obtain ⟨hsr7, hc67⟩ := ((unhide HSR5).kept b6).grown (unhide HW7) hfx7 (unhide HFL7) hfe7 (unhide HCH7)
  have hW : Wider G G' w := ⟨(unhide HW7).sub, fun i hi hl => (unhide HW7).new i hi (by have := m5.size; have := b6.size; omega)⟩
  have hcw : CT G w w7 := ⟨(m5.chg.trans (ChgS.of b6)).trans hc67.chg, (m5.tm.trans (Tm.of b6)).trans hc67.tm⟩
  have hPL := unhide HREST G' fr7 w7 hW hcw hsr7 hzm7
  have HPL := hide hPL
  have hp0 := unhide HP0
  clear HP0
  subst hp0
  have hfq7 := hsr7.fx
  have hzr : reachA 243 f.stk = if argN f.stk 1 = 0 then 0 else argN f.stk 0 + argN f.stk 1 := reachA_243 f.stk
  have hr1 : argN f.stk 1 ≤ 900000 := by rw [hzr] at hre; split at hre <;> omega
  have hzm7' := hzm7
  rw [← unhide HO] at hfq7 hzm7'
  have HQ7 := hide hfq7
  have HZ7 := hide hzm7'
  have hm0 := unhide HARG 0
  have hl1024 : (paidF f 243 n).stk.length ≤ 1024 := by show f.stk.length ≤ 1024; omega
  have HAa := hide ((unhide HQ7).arg hl1024 0 (by omega))
  rw [show ((0 : Nat) : Int) = 0 from rfl] at HAa
  clear hPL hsr7 hfx7 hfe7 hzm7 hc67 hcw hW HFX7 HFE7 HCH7 HFL7 HW7 HSR5 HQ5 HZM7 HREST hfq7 hzm7' hzr
  go_wp2_with fail
  refine (unhide HAa).mono ?_
  rintro e w8 ⟨⟨Aa, ka, ca, rfl, na⟩, q8⟩
  have b8 : Below w7.heap.size w7 w8 := q8.below _
  have HAb := hide ((unhide HQ7).argAt b8 hl1024 1 (by omega))
  rw [show ((1 : Nat) : Int) = 1 from rfl] at HAb
  clear q8
  go_wp2_with fail
  refine (unhide HAb).mono ?_
  rintro e w9 ⟨⟨Ab, kb, cb, rfl, nb⟩, q9⟩
  have b9 : Below w8.heap.size w8 w9 := q9.below _
  have d9 : Below w7.heap.size w7 w9 := b8.trans (b9.mono b8.size)
  have HRD := hide (((unhide HQ7).kept d9).readX (show growN f.ml (reachA 243 f.stk) ≤ 1000000 by omega) Aa Ab ka ca kb cb (argN f.stk 0) (argN f.stk 1) (na.kp (ChgS.of d9)).now (nb.kp (ChgS.of d9)).now (by omega) (by omega) _ ((unhide HZ7).kept d9))
  rw [cutL_zero, zeros_if] at HRD
  obtain ⟨il, hil⟩ : ∃ il, il = argN f.stk 1 := ⟨_, rfl⟩
  rw [← hil] at HRD HPL
  clear na nb q9 hil
  go_wp2_with fail
  refine (unhide HRD).mono ?_
  rintro e w10 ⟨A10, c10, rfl, s10, N10, b10⟩
  have d10 : Below w7.heap.size w7 w10 := d9.trans (b10.mono d9.size)
  have HL := hide (unhide HPL w10 A10 c10 d10 s10 (N10.later d9.size))
  clear s10
  go_wp2_with (go_at_call 114; refine (unhide HL).mono ?_; rintro e w11 ⟨rfl, hend⟩; have HEND := hide hend; clear hend)
  go_ret
  exact ⟨rfl, unhide HEND⟩
end

end Go.Proofs.YgcsakGreat
