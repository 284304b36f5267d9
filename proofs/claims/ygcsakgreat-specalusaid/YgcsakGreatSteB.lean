/-
  yp: Step at MSTORE on an empty memory, and at RETURN of the memory's one word.
-/
import Derived.Test.YgcsakGreatLevA
namespace Go.Proofs.YgcsakGreat
set_option linter.unusedVariables false
set_option linter.unusedSimpArgs false
set_option maxRecDepth 100000
open Go.RowKit

set_option maxHeartbeats 16000000 in
theorem step_mstore {bw gf cF : Nat} {cs fr : List Value} {pc gas : Nat} {stk : List Nat} {code : List Int} {w : World} (h : Play bw gf cF cs fr pc gas stk [] code w) (hl : stk.length ≤ 50) (hs : ∀ i, argN stk i < P256) (hcl : code.length ≤ 100000) (hin : pc < code.length) (hop : code.getD pc 0 = (82 : Int))
    (htk : 2 ≤ stk.length) (hgas : gas < 1000000) (hpay : costN 82 stk 0 ≤ gas) (hnil : fr[9]? = some nilS) (v : Nat) (h0 : argN stk 0 = 0) (h1 : argN stk 1 = v) (hv : v < P256) :
    Calls Sakg.prog 49 #[.pointer (some ⟨bw, 0, none⟩)] w fun e w' => e = .returned (.bool true) ∧ ∃ fr', Play bw gf cF cs fr' (pc + 1) (gas - costN 82 stk 0) (stk.take (stk.length - 2)) (be32 v) code w' ∧ Chg gf w w' := by
  have hBB := big_ge
  have ho : opO 82 := by unfold opO; omega
  have hbw : bw < w.heap.size := h.chain.lt
  have hgl := h.fm.row.lt
  have hfl := h.fm.len
  have hnd : needN 82 stk ≤ 1000 := (by unfold needN reachN; rw [if_pos rfl, h0]; decide)
  have e11 : w.cell? ⟨bw, 11, none⟩ = some (.int .u8 1) := by rw [h.chain.cell]; exact h.phase
  have e9 : w.cell? ⟨bw, 9, none⟩ = some (.slice (some ⟨gf, 0, none⟩) 1 cF) := by rw [h.chain.cell]; exact h.frames
  have e1 : w.cell? ⟨gf, 1, none⟩ = some (.int .u8 0) := by rw [h.fm.row.cell]; exact h.fm.native
  obtain ⟨A4, k4, c4, g1, g2⟩ := h.fm.gasN
  have HOP : ∀ wz, Below w.heap.size w wz → Hid (Calls Sakg.prog 112 #[.pointer (some ⟨gf, 0, none⟩)] wz fun e w' => e = .returned (.int .u8 82) ∧ Quiet wz w') := fun wz hz => hide (by
    have := opcode_any (h.fm.kept hz) (by omega) hcl hin
    rwa [hop] at this)
  have HRE : ∀ wz, Below w.heap.size w wz → Hid (Calls Sakg.prog 113 #[.pointer (some ⟨bw, 0, none⟩), .pointer (some ⟨gf, 0, none⟩), .int .u8 82] wz fun e w' => ∃ A k c, e = .returned (.tuple #[.int .u8 0, .slice A k c]) ∧ IsNat w' A k c (costN 82 stk 0) ∧ New wz A ∧ Below wz.heap.size wz w') := fun wz hz => hide (refusal_op 82 ho (h.fm.kept hz) (by omega) hs (Nat.zero_le _) hnd htk hgas hpay)
  have HFAM : ∀ wz, Hid (Calls Sakg.prog 120 #[.int .u8 82] wz fun e w' => e = .returned (.int .u8 2) ∧ wz = w') := fun wz => hide (family_op 82 ho wz)
  have X4 : ∀ wz, Below w.heap.size w wz → Hid (wz.cell? ⟨gf, 4, none⟩ = some (.slice A4 k4 c4) ∧ IsNat wz A4 k4 c4 gas) := fun wz hz => hide ⟨by rw [(h.fm.row.kept hz).cell]; exact g1, g2 wz (ChgS.of hz)⟩
  generalize hcost : costN 82 stk 0 = cost at HRE hpay
  have HCOST := hide hcost
  have HPLAY := hide h
  clear h g1 g2 hcost
  go_enter Sakg.func49, Sakg.ntmps49
  go_upto_region 4 with fail
  go_quiet (fail)
  go_wp2_with fail
  have bq : ∀ n, Below w.heap.size w (w.drewN n) := fun n => Quiet.below ⟨n, rfl⟩ _
  refine (unhide (HOP _ (bq _))).mono ?_
  rintro e w1 ⟨rfl, q1⟩
  have d1 : Below w.heap.size w w1 := (bq _).trans (q1.below _)
  clear q1 bq
  go_wp2_with fail
  refine (unhide (HRE w1 d1)).mono ?_
  rintro e w2 ⟨A2, k2, c2, rfl, n2, N2, b2⟩
  have d2 : Below w.heap.size w w2 := d1.trans (b2.mono d1.size)
  have x4 := (unhide (X4 w2 d2)).1
  have HL := hide (less_any A4 A2 k4 k2 c4 c2 gas cost w2 (unhide (X4 w2 d2)).2 n2 (by omega) (by omega))
  clear n2 HOP HRE X4
  go_wp2_with fail
  refine (unhide HL).mono ?_
  rintro e w3 ⟨A3, k3, c3, rfl, n3, N3, b3⟩
  have d3 : Below w.heap.size w w3 := d2.trans (b3.mono d2.size)
  have r3 := (unhide HPLAY).fm.row.kept d3
  obtain ⟨v34, hx34⟩ : ∃ v, w3.cell? ⟨gf, 4, none⟩ = some v := by
    rw [r3.cell, List.getElem?_eq_getElem (by omega)]
    exact ⟨_, rfl⟩
  have hf34 := r3.froz 4
  obtain ⟨hfm4, hc4⟩ := (unhide HPLAY).fm.paid hbw d3 (N3.later d2.size) n3
  obtain ⟨w4, hw4⟩ : ∃ x, x = w3.setCell ⟨gf, 4, none⟩ (.slice A3 k3 c3) := ⟨_, rfl⟩
  rw [← hw4] at hfm4 hc4
  have HW4 := hide hw4
  have HR4 := hide (reach_op 82 ho hfm4 (by omega) hs)
  have HFM4 := hide hfm4
  clear n3 r3 hfm4 hw4 HL x4
  go_wp2_with fail
  rw [← unhide HW4]
  refine (unhide HR4).mono ?_
  rintro e w5 ⟨A5, k5, c5, rfl, n5, N5, b5⟩
  have hr82 : reachN 82 stk = 32 := by unfold reachN; rw [if_pos rfl, h0]; rfl
  have hn5' : IsNat w5 A5 k5 c5 32 := by rw [← hr82]; exact n5
  have hnil5 : (fr.set 4 (Value.slice A3 k3 c3))[9]? = some nilS := by rw [List.getElem?_set_ne (by omega)]; exact hnil
  have HG := hide (grow_first ((unhide HFM4).kept b5) A5 k5 c5 32 hn5' (by omega) (by omega) hnil5)
  have hbw5 : bw < w5.heap.size := by have := hc4.size; have := b5.size; omega
  have hgl5 : gf < w5.heap.size := by have := hc4.size; have := b5.size; omega
  clear n5 hn5' HR4
  go_wp2_with fail
  refine (unhide HG).mono ?_
  rintro e w7 ⟨rfl, g, w6, hg, b6, ho6, hw7⟩
  have hfx := ((unhide HFM4).kept b5).fx hbw5 hg b6 ho6
  have o7 : Only gf w6 w7 := hw7 ▸ (Only.refl gf w6).setCell 9 (.slice (some ⟨g, 0, none⟩) 32 32)
  rw [← hw7] at hfx
  have hs7 : w5.heap.size ≤ w7.heap.size := by rw [o7.size]; exact b6.size
  have hP := hide (plain_mstore hfx (by omega) (by omega) htk (by omega) v h0 h1 hv)
  have c47 : Chg gf w w7 := hc4.trans ((Chg.of b5).trans ((Chg.of b6).trans (Chg.ofOnly o7)))
  have hgw : w.heap.size ≤ g := by have := hc4.size; have := b5.size; omega
  clear hfx HG hw7 ho6
  go_wp2_with fail
  refine (unhide (HFAM w7)).mono ?_
  rintro e w7' ⟨rfl, rfl⟩
  go_wp2_with fail
  refine (unhide hP).mono ?_
  rintro e w8 ⟨rfl, fr', hfm8, hsb, hc8⟩
  have HFM8 := hide hfm8
  clear hfm8
  go_wp2
  go_ret
  have c48 : Chg gf w w8 := ⟨hc8.os.trans c47.os, hc8.tape.trans c47.tape, hc8.output.trans c47.output, Nat.le_trans c47.size hc8.size, fun k hk hn => (hc8.block k (Nat.lt_of_lt_of_le hk c47.size) (fun hg => by rcases hg with hg | hg; (exact hn hg); (omega))).trans (c47.block k hk hn)⟩
  have hsb2 : SameB fr fr' := fun i h3 h4 h8 h9 => by rw [hsb i h3 h4 h8, List.getElem?_set_ne (Ne.symm h9), List.getElem?_set_ne (Ne.symm h4)]
  refine ⟨rfl, fr', (unhide HPLAY).next ?_ hsb2 c48, c48⟩
  first | exact unhide HFM8 | (rw [unhide HCOST]; exact unhide HFM8)


set_option maxHeartbeats 16000000 in
theorem step_return {bw gf cF : Nat} {cs fr : List Value} {pc gas : Nat} {stk : List Nat} {mem code : List Int} {w : World} (h : Play bw gf cF cs fr pc gas stk mem code w) (hl : stk.length ≤ 50) (hs : ∀ i, argN stk i < P256) (hml : mem.length = 32) (hcl : code.length ≤ 100000) (hin : pc < code.length) (hop : code.getD pc 0 = (243 : Int))
    (htk : 2 ≤ stk.length) (hgas : gas < 1000000) (hpay : costN 243 stk mem.length ≤ gas) (hmb : Byt mem) (h0 : argN stk 0 = 0) (h1 : argN stk 1 = 32) :
    Calls Sakg.prog 49 #[.pointer (some ⟨bw, 0, none⟩)] w fun e w' => e = .returned (.bool true) ∧ ∃ g cs' A4 k4 c4, RowT 107 w' bw cs' ∧ cs'.length = 179 ∧ (∀ i, i ≠ 9 → i ≠ 10 → i ≠ 11 → i ≠ 12 → i ≠ 16 → cs'[i]? = cs[i]?) ∧ cs'[9]? = some nilS ∧ cs'[10]? = some (.slice (some ⟨g, 0, none⟩) 32 32) ∧ cs'[11]? = some (.int .u8 2) ∧ cs'[12]? = some (.int .u8 0) ∧ cs'[16]? = some (.slice A4 k4 c4) ∧ Stab bw (fun w => IsNat w A4 k4 c4 (gas - costN 243 stk mem.length)) w' ∧ Stab bw (fun w => Src w (some ⟨g, 0, none⟩) 32 32 mem) w' ∧ ChgS (GF bw gf) w w' := by
  have hBB := big_ge
  have ho : opO 243 := by unfold opO; omega
  have hbw : bw < w.heap.size := h.chain.lt
  have hgl := h.fm.row.lt
  have hfl := h.fm.len
  have hnd : needN 243 stk ≤ 1000 := (by unfold needN reachN; rw [if_neg (by omega), if_pos rfl, h0, h1]; decide)
  have e11 : w.cell? ⟨bw, 11, none⟩ = some (.int .u8 1) := by rw [h.chain.cell]; exact h.phase
  have e9 : w.cell? ⟨bw, 9, none⟩ = some (.slice (some ⟨gf, 0, none⟩) 1 cF) := by rw [h.chain.cell]; exact h.frames
  have e1 : w.cell? ⟨gf, 1, none⟩ = some (.int .u8 0) := by rw [h.fm.row.cell]; exact h.fm.native
  obtain ⟨A4, k4, c4, g1, g2⟩ := h.fm.gasN
  have HOP : ∀ wz, Below w.heap.size w wz → Hid (Calls Sakg.prog 112 #[.pointer (some ⟨gf, 0, none⟩)] wz fun e w' => e = .returned (.int .u8 243) ∧ Quiet wz w') := fun wz hz => hide (by
    have := opcode_any (h.fm.kept hz) (by omega) hcl hin
    rwa [hop] at this)
  have HRE : ∀ wz, Below w.heap.size w wz → Hid (Calls Sakg.prog 113 #[.pointer (some ⟨bw, 0, none⟩), .pointer (some ⟨gf, 0, none⟩), .int .u8 243] wz fun e w' => ∃ A k c, e = .returned (.tuple #[.int .u8 0, .slice A k c]) ∧ IsNat w' A k c (costN 243 stk mem.length) ∧ New wz A ∧ Below wz.heap.size wz w') := fun wz hz => hide (refusal_op 243 ho (h.fm.kept hz) (by omega) hs (by omega) hnd htk hgas hpay)
  have HFAM : ∀ wz, Hid (Calls Sakg.prog 120 #[.int .u8 243] wz fun e w' => e = .returned (.int .u8 31) ∧ wz = w') := fun wz => hide (family_op 243 ho wz)
  have X4 : ∀ wz, Below w.heap.size w wz → Hid (wz.cell? ⟨gf, 4, none⟩ = some (.slice A4 k4 c4) ∧ IsNat wz A4 k4 c4 gas) := fun wz hz => hide ⟨by rw [(h.fm.row.kept hz).cell]; exact g1, g2 wz (ChgS.of hz)⟩
  generalize hcost : costN 243 stk mem.length = cost at HRE hpay
  have HCOST := hide hcost
  have HPLAY := hide h
  clear h g1 g2 hcost
  go_enter Sakg.func49, Sakg.ntmps49
  go_upto_region 4 with fail
  go_quiet (fail)
  go_wp2_with fail
  have bq : ∀ n, Below w.heap.size w (w.drewN n) := fun n => Quiet.below ⟨n, rfl⟩ _
  refine (unhide (HOP _ (bq _))).mono ?_
  rintro e w1 ⟨rfl, q1⟩
  have d1 : Below w.heap.size w w1 := (bq _).trans (q1.below _)
  clear q1 bq
  go_wp2_with fail
  refine (unhide (HRE w1 d1)).mono ?_
  rintro e w2 ⟨A2, k2, c2, rfl, n2, N2, b2⟩
  have d2 : Below w.heap.size w w2 := d1.trans (b2.mono d1.size)
  have x4 := (unhide (X4 w2 d2)).1
  have HL := hide (less_any A4 A2 k4 k2 c4 c2 gas cost w2 (unhide (X4 w2 d2)).2 n2 (by omega) (by omega))
  clear n2 HOP HRE X4
  go_wp2_with fail
  refine (unhide HL).mono ?_
  rintro e w3 ⟨A3, k3, c3, rfl, n3, N3, b3⟩
  have d3 : Below w.heap.size w w3 := d2.trans (b3.mono d2.size)
  have r3 := (unhide HPLAY).fm.row.kept d3
  obtain ⟨v34, hx34⟩ : ∃ v, w3.cell? ⟨gf, 4, none⟩ = some v := by
    rw [r3.cell, List.getElem?_eq_getElem (by omega)]
    exact ⟨_, rfl⟩
  have hf34 := r3.froz 4
  obtain ⟨hfm4, hc4⟩ := (unhide HPLAY).fm.paid hbw d3 (N3.later d2.size) n3
  obtain ⟨w4, hw4⟩ : ∃ x, x = w3.setCell ⟨gf, 4, none⟩ (.slice A3 k3 c3) := ⟨_, rfl⟩
  rw [← hw4] at hfm4 hc4
  have HW4 := hide hw4
  have HR4 := hide (reach_op 243 ho hfm4 (by omega) hs)
  have HFM4 := hide hfm4
  clear n3 r3 hfm4 hw4 HL x4
  go_wp2_with fail
  rw [← unhide HW4]
  refine (unhide HR4).mono ?_
  rintro e w5 ⟨A5, k5, c5, rfl, n5, N5, b5⟩
  have hr243 : reachN 243 stk = 32 := by unfold reachN; rw [if_neg (by omega), if_pos rfl, h0, h1]; rfl
  have hn5' : IsNat w5 A5 k5 c5 32 := by rw [← hr243]; exact n5
  have HG := hide (grow_none ((unhide HFM4).kept b5) A5 k5 c5 32 hn5' (by omega) (by omega) (by omega))
  clear n5 hn5' HR4
  go_wp2_with fail
  refine (unhide HG).mono ?_
  rintro e w6 ⟨rfl, b6⟩
  have b46 : Below w4.heap.size w4 w6 := b5.trans (b6.mono b5.size)
  have hfm6 := (unhide HFM4).kept b46
  have c46 : Chg gf w w6 := hc4.trans (Chg.of b46)
  have hbw6 : bw < w6.heap.size := by have := c46.size; omega
  have hgl6 : gf < w6.heap.size := by have := c46.size; omega
  have HA0 := hide (arg_at hfm6 (Below.refl _ _) (by omega) 0 (by omega))
  rw [h0] at HA0
  have HA1 : ∀ wz, Below w6.heap.size w6 wz → Hid (Calls Sakg.prog 118 #[.pointer (some ⟨gf, 0, none⟩), .int .i64 (1 : Nat)] wz fun e w' => (∃ A k c, e = .returned (.slice A k c) ∧ StabS (GF bw gf) (fun w => IsNat w A k c 32) w6) ∧ Quiet wz w') := fun wz hz => hide (by
    have := arg_at hfm6 hz (by omega) 1 (by omega)
    rwa [h1] at this)
  have HFM6 := hide hfm6
  clear hfm6 HG
  go_wp2_with fail
  refine (unhide HA0).mono ?_
  rintro e w7 ⟨⟨B0, j0, f0, rfl, s0⟩, q7⟩
  have b67 : Below w6.heap.size w6 w7 := q7.below _
  have S0 := hide s0
  clear s0 q7
  go_wp2_with fail
  refine (unhide (HA1 w7 b67)).mono ?_
  rintro e w8 ⟨⟨B1, j1, f1, rfl, s1⟩, q8⟩
  have b68 : Below w6.heap.size w6 w8 := b67.trans (q8.below _)
  have HRD := hide (read_all ((unhide HFM6).kept b68) hml B0 B1 j0 f0 j1 f1 ((unhide S0).go (G' := GF bw gf) (ChgS.of b68) (fun _ h _ => h)).now (s1.go (G' := GF bw gf) (ChgS.of b68) (fun _ h _ => h)).now)
  clear s1 q8
  go_wp2_with fail
  refine (unhide HRD).mono ?_
  rintro e w9 ⟨g, rfl, o9, hg9, b9⟩
  have b69 : Below w6.heap.size w6 w9 := b68.trans (b9.mono b68.size)
  have hfm9 := (unhide HFM6).kept b69
  have c49 : Chg gf w w9 := c46.trans (Chg.of b69)
  have hsb9 : SameB fr (fr.set 4 (Value.slice A3 k3 c3)) := fun i h3 h4 h8 h9 => List.getElem?_set_ne (Ne.symm h4)
  have hp9 := (unhide HPLAY).next hfm9 hsb9 c49
  have HLV := hide (leave_outer hp9 (some ⟨g, 0, none⟩) 32 32)
  have O9 := hide o9
  have HP9 := hide hp9
  clear o9 hfm9 hp9 HRD
  go_wp2_with fail
  refine (unhide HLV).mono ?_
  rintro e w10 ⟨rfl, hlv⟩
  have HLV2 := hide hlv
  clear hlv
  go_wp2
  go_ret
  obtain ⟨cs', B4, j4, f4, rc, hcl', hsame, h9', h10', h11', h12', hg4, h16', hc10⟩ := unhide HLV2
  obtain ⟨B5, j5, f5, g5, gs5⟩ := (unhide HP9).fm.gasN
  rw [hg4] at g5
  obtain ⟨rfl, rfl, rfl⟩ : B4 = B5 ∧ j4 = j5 ∧ f4 = f5 := by
    have := Option.some.inj g5
    injection this with a b c
    exact ⟨a, b, c⟩
  have hs9 : w6.heap.size ≤ g := Nat.le_trans b68.size hg9
  have hsr : Stab bw (fun w => Src w (some ⟨g, 0, none⟩) 32 32 mem) w9 := Stab.src ((unhide O9).src_all hmb 32 (by omega) (by unfold maxLen; omega)) (fun x hx _ => by obtain rfl := Option.some.inj hx; show g ≠ bw; omega)
  refine ⟨rfl, g, cs', B4, j4, f4, rc, hcl', hsame, h9', h10', h11', h12', h16', ?_, hsr.go hc10, ?_⟩
  · have g6 := (gs5.stab (g := bw) (.inl rfl)).go hc10
    first | exact g6 | (rw [unhide HCOST]; exact g6)
  · exact (ChgS.chg (G := GF bw gf) c49 (.inr rfl)).then (ChgS.chg (G := GF bw gf) hc10 (.inl rfl)) (fun _ h _ => h)



end Go.Proofs.YgcsakGreat
