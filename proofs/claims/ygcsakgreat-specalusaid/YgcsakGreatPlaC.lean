/-
  yp: plain at MSTORE, whose memory is one new word.
-/
import Derived.Test.YgcsakGreatEffA
namespace Go.Proofs.YgcsakGreat
set_option linter.unusedVariables false
set_option linter.unusedSimpArgs false
set_option maxRecDepth 100000
open Go.RowKit

def GM (bw gf gm : Nat) (k : Nat) : Prop := k = bw ∨ k = gf ∨ k = gm
/-- the top frame, its memory one word in a block that nothing else uses -/
structure FX (bw gf gm : Nat) (fr : List Value) (pc gas : Nat) (stk : List Nat) (code : List Int) (w : World) : Prop where
  row : RowT 194 w gf fr
  len : 60 ≤ fr.length
  native : fr[1]? = some (.int .u8 0)
  static : fr[2]? = some (.bool false)
  pcN : ∃ A k c, fr[3]? = some (.slice A k c) ∧ StabS (GM bw gf gm) (fun w => IsNat w A k c pc) w
  gasN : ∃ A k c, fr[4]? = some (.slice A k c) ∧ StabS (GM bw gf gm) (fun w => IsNat w A k c gas) w
  stkN : ∃ A k c, fr[8]? = some (.slice A k c) ∧ SStk (GM bw gf gm) w A k c stk
  memN : fr[9]? = some (.slice (some ⟨gm, 0, none⟩) 32 32)
  own : OwnT 5 w gm (zeros 32)
  nebw : gm ≠ bw
  negf : gm ≠ gf
  codeN : ∃ A k c, fr[10]? = some (.slice A k c) ∧ StabS (GM bw gf gm) (fun w => Src w A k c code) w
theorem GM.of {bw gf gm k : Nat} (h : GF bw gf k) : GM bw gf gm k := by
  rcases h with h | h
  · exact .inl h
  · exact .inr (.inl h)
theorem SNat.less {G G' : Nat → Prop} {w : World} {r : List Value} {n : Nat} (h : SNat G w r n) (hG : ∀ k, G' k → G k) : SNat G' w r n := by
  obtain ⟨A, k, c, h1, h2⟩ := h
  exact ⟨A, k, c, h1, fun w' hc => h2 w' (hc.mono hG)⟩
theorem SStk.less {G G' : Nat → Prop} {w : World} {ao : Option Addr} {l c : Nat} {stk : List Nat} (h : SStk G w ao l c stk) (hG : ∀ k, G' k → G k) : SStk G' w ao l c stk := by
  obtain ⟨rows, h1, h2⟩ := h
  exact ⟨rows, fun w' hc => h1 w' (hc.mono hG), h2.imp fun _ _ h => h.less hG⟩
theorem SNat.wide {G G' : Nat → Prop} {w w' : World} {r : List Value} {n : Nat} (h : SNat G w r n) (hc : ChgS G w w') (hG : ∀ i, G' i → i < w.heap.size → G i) : SNat G' w' r n := by
  obtain ⟨A, k, c, h1, h2⟩ := h
  exact ⟨A, k, c, h1, h2.go hc hG⟩
theorem SStk.wide {G G' : Nat → Prop} {w w' : World} {ao : Option Addr} {l c : Nat} {stk : List Nat} (h : SStk G w ao l c stk) (hc : ChgS G w w') (hG : ∀ i, G' i → i < w.heap.size → G i) : SStk G' w' ao l c stk := by
  obtain ⟨rows, h1, h2⟩ := h
  exact ⟨rows, h1.go hc hG, h2.imp fun _ _ h => h.wide hc hG⟩
theorem zeros_byt32 : Byt (zeros 32) := zeros_byt 32
theorem FX.fm {bw gf gm : Nat} {fr : List Value} {pc gas : Nat} {stk : List Nat} {code : List Int} {w : World} (h : FX bw gf gm fr pc gas stk code w) : FM bw gf fr pc gas stk (zeros 32) code w := by
  obtain ⟨A1, k1, c1, p1, p2⟩ := h.pcN
  obtain ⟨A2, k2, c2, g1, g2⟩ := h.gasN
  obtain ⟨A3, k3, c3, s1, s2⟩ := h.stkN
  obtain ⟨A5, k5, c5, e1, e2⟩ := h.codeN
  refine ⟨h.row, h.len, h.native, h.static, ⟨A1, k1, c1, p1, fun w' hc => p2 w' (hc.mono fun _ => GM.of)⟩, ⟨A2, k2, c2, g1, fun w' hc => g2 w' (hc.mono fun _ => GM.of)⟩, ⟨A3, k3, c3, s1, s2.less fun _ => GM.of⟩, ⟨_, 32, 32, h.memN, ?_⟩, ⟨A5, k5, c5, e1, fun w' hc => e2 w' (hc.mono fun _ => GM.of)⟩⟩
  refine StabS.src (h.own.src_all zeros_byt32 32 (by rw [zeros_len]) (by unfold maxLen; omega)) ?_
  intro x hx _ hg
  obtain rfl := Option.some.inj hx
  have h1 := h.nebw
  have h2 := h.negf
  rcases hg with hg | hg
  · exact h1 hg
  · exact h2 hg
/-- a frame whose memory has just been laid -/
theorem FM.fx {bw gf : Nat} {fr : List Value} {pc gas : Nat} {stk : List Nat} {mem code : List Int} {w : World} (h : FM bw gf fr pc gas stk mem code w) (hbw : bw < w.heap.size) {g : Nat} {w1 : World} (hg : w.heap.size ≤ g) (hb : Below w.heap.size w w1) (ho : OwnT 5 w1 g (zeros 32)) :
    FX bw gf g (fr.set 9 (.slice (some ⟨g, 0, none⟩) 32 32)) pc gas stk code (w1.setCell ⟨gf, 9, none⟩ (.slice (some ⟨g, 0, none⟩) 32 32)) := by
  have hlt := h.row.lt
  have hlen := h.len
  have o1 : Only gf w1 (w1.setCell ⟨gf, 9, none⟩ (.slice (some ⟨g, 0, none⟩) 32 32)) := (Only.refl _ _).setCell _ _
  have hc : ChgS (GF bw gf) w (w1.setCell ⟨gf, 9, none⟩ (.slice (some ⟨g, 0, none⟩) 32 32)) := (ChgS.of hb).then (ChgS.only (G := GF bw gf) o1 (.inr rfl)) (fun _ h _ => h)
  have hG : ∀ i, GM bw gf g i → i < w.heap.size → GF bw gf i := fun i hi hl => by
    rcases hi with hi | hi | hi
    · exact .inl hi
    · exact .inr hi
    · omega
  obtain ⟨A1, k1, c1, p1, p2⟩ := h.pcN
  obtain ⟨A2, k2, c2, g1, g2⟩ := h.gasN
  obtain ⟨A3, k3, c3, s1, s2⟩ := h.stkN
  obtain ⟨A5, k5, c5, e1, e2⟩ := h.codeN
  have hfr : ∀ i, i ≠ 9 → (fr.set 9 (Value.slice (some ⟨g, 0, none⟩) 32 32))[i]? = fr[i]? := fun i h1 => List.getElem?_set_ne (Ne.symm h1)
  exact ⟨(h.row.kept hb).set 9 _, by rw [List.length_set]; exact hlen, (hfr 1 (by omega)).trans h.native, (hfr 2 (by omega)).trans h.static, ⟨A1, k1, c1, (hfr 3 (by omega)).trans p1, p2.go hc hG⟩, ⟨A2, k2, c2, (hfr 4 (by omega)).trans g1, g2.go hc hG⟩, ⟨A3, k3, c3, (hfr 8 (by omega)).trans s1, s2.wide hc hG⟩, List.getElem?_set_self (by omega), o1.own ho (by omega), by omega, by omega, ⟨A5, k5, c5, (hfr 10 (by omega)).trans e1, e2.go hc hG⟩⟩

/-- the frame behind MSTORE -/
theorem FX.next {bw gf gm : Nat} {fr : List Value} {pc gas : Nat} {stk : List Nat} {code : List Int} {w w8 w9 : World} (h : FX bw gf gm fr pc gas stk code w) (hbw : bw < w.heap.size) (dw : Below w.heap.size w w8) (hc9 : Chg gm w8 w9) {zs : List Int} (ho : OwnT 5 w9 gm zs) (hzb : Byt zs) (hzl : zs.length = 32) {pc' : Nat} {A6 : Option Addr} {k6 c6 : Nat} (N6 : New w A6) (n6 : IsNat w8 A6 k6 c6 pc') (q : Nat) {As : Option Addr} {ls cS : Nat} (hs : fr[8]? = some (.slice As ls cS)) (hq : q ≤ ls) :
    FM bw gf ((fr.set 8 (.slice As q q)).set 3 (.slice A6 k6 c6)) pc' gas (stk.take q) zs code ((w9.setCell ⟨gf, 8, none⟩ (.slice As q q)).setCell ⟨gf, 3, none⟩ (.slice A6 k6 c6)) ∧ ChgS (GF gf gm) w ((w9.setCell ⟨gf, 8, none⟩ (.slice As q q)).setCell ⟨gf, 3, none⟩ (.slice A6 k6 c6)) := by
  have hlt := h.row.lt
  have hlen := h.len
  have hglt := h.own.lt
  have hnb := h.nebw
  have hng := h.negf
  have hr9 := hc9.row (h.row.kept dw) (Ne.symm hng)
  have o1 : Only gf w9 (w9.setCell ⟨gf, 8, none⟩ (.slice As q q)) := (Only.refl _ _).setCell _ _
  have o2 : Only gf (w9.setCell ⟨gf, 8, none⟩ (.slice As q q)) ((w9.setCell ⟨gf, 8, none⟩ (.slice As q q)).setCell ⟨gf, 3, none⟩ (.slice A6 k6 c6)) := (Only.refl _ _).setCell _ _
  have o3 := o1.trans o2
  have hc89' : ChgS (GF gf gm) w8 ((w9.setCell ⟨gf, 8, none⟩ (.slice As q q)).setCell ⟨gf, 3, none⟩ (.slice A6 k6 c6)) := (ChgS.chg (G := GF gf gm) hc9 (.inr rfl)).then (ChgS.only (G := GF gf gm) o3 (.inl rfl)) (fun _ h _ => h)
  have hc' : ChgS (GF gf gm) w ((w9.setCell ⟨gf, 8, none⟩ (.slice As q q)).setCell ⟨gf, 3, none⟩ (.slice A6 k6 c6)) := (ChgS.of dw).then hc89' (fun _ h _ => h)
  have hgg : ∀ k, GF gf gm k → GM bw gf gm k := fun k hk => by
    rcases hk with hk | hk
    · exact .inr (.inl hk)
    · exact .inr (.inr hk)
  have hc89 := hc89'.mono hgg
  have hc := hc'.mono hgg
  obtain ⟨A2, k2, c2, g1, g2⟩ := h.gasN
  obtain ⟨A3, k3, c3, s1, s2⟩ := h.stkN
  obtain ⟨A5, k5, c5, e1, e2⟩ := h.codeN
  rw [s1] at hs
  obtain ⟨rfl, rfl, rfl⟩ : A3 = As ∧ k3 = ls ∧ c3 = cS := by
    have := Option.some.inj hs
    injection this with a b c
    exact ⟨a, b, c⟩
  obtain ⟨rows, s2, s3⟩ := s2
  have hrl := s2.now.len_eq
  have hfr : ∀ i, i ≠ 3 → i ≠ 8 → ((fr.set 8 (Value.slice A3 q q)).set 3 (Value.slice A6 k6 c6))[i]? = fr[i]? := fun i h1 h2 => by rw [List.getElem?_set_ne (Ne.symm h1), List.getElem?_set_ne (Ne.symm h2)]
  have hGF : ∀ i, GF bw gf i → i < w.heap.size → GM bw gf gm i := fun i hi _ => GM.of hi
  refine ⟨⟨(hr9.set 8 _).set 3 _, by rw [List.length_set, List.length_set]; exact hlen, (hfr 1 (by omega) (by omega)).trans h.native, (hfr 2 (by omega) (by omega)).trans h.static, ⟨A6, k6, c6, List.getElem?_set_self (by rw [List.length_set]; omega), ?_⟩, ⟨A2, k2, c2, (hfr 4 (by omega) (by omega)).trans g1, g2.go hc hGF⟩, ⟨A3, q, q, ?_, ⟨rows.take q, ?_, ?_⟩⟩, ⟨some ⟨gm, 0, none⟩, 32, 32, (hfr 9 (by omega) (by omega)).trans h.memN, ?_⟩, ⟨A5, k5, c5, (hfr 10 (by omega) (by omega)).trans e1, e2.go hc hGF⟩⟩, hc'⟩
  · have s0 : StabS (GM bw gf gm) (fun w => IsNat w A6 k6 c6 pc') w8 := StabS.nat n6 (fun x hx _ hg => by have := N6 x hx; rcases hg with hg | hg | hg <;> omega)
    exact s0.go hc89 (fun _ h _ => GM.of h)
  · rw [List.getElem?_set_ne (by omega)]
    exact List.getElem?_set_self (by omega)
  · refine StabS.go (G := GM bw gf gm) (w := w) ?_ hc hGF
    intro w' hw'
    have hs' := s2 w' hw'
    refine ⟨by rw [List.length_take]; omega, Nat.le_refl _, by have := hs'.max; have := hs'.le; omega, fun r hr => hs'.sz_eq r (List.mem_of_mem_take hr), fun hn => by have := hs'.nil hn; omega, fun hl => ?_⟩
    obtain ⟨b, off, a1, a2, a3⟩ := hs'.at_ (by omega)
    refine ⟨b, off, a1, a2, fun i hi => ?_⟩
    have := a3 i (by omega)
    rwa [show (rows.take q).getD i [] = rows.getD i [] from by rw [List.getD_eq_getElem?_getD, List.getD_eq_getElem?_getD, List.getElem?_take, if_pos hi]]
  · exact (Each.take q s3).imp fun _ _ h => h.wide hc hGF
  · refine StabS.src (OwnT.src_all (o3.own ho hng) hzb 32 hzl.symm (by unfold maxLen; omega)) ?_
    intro x hx _ hg
    obtain rfl := Option.some.inj hx
    rcases hg with hg | hg
    · exact hnb hg
    · exact hng hg

set_option maxHeartbeats 16000000 in
theorem plain_mstore {bw gf gm : Nat} {fr : List Value} {pc gas : Nat} {stk : List Nat} {code : List Int} {w : World} (hX : FX bw gf gm fr pc gas stk code w) (hbw : bw < w.heap.size) (hl : stk.length ≤ 60) (htk : 2 ≤ stk.length) (hpc : pc < 1000000) (v : Nat) (h0 : argN stk 0 = 0) (h1 : argN stk 1 = v) (hv : v < P256) :
    Calls Sakg.prog 122 #[.pointer (some ⟨bw, 0, none⟩), .pointer (some ⟨gf, 0, none⟩), .int .u8 82] w fun e w' => e = .returned (.tuple #[]) ∧ ∃ fr', FM bw gf fr' (pc + 1) gas (stk.take (stk.length - 2)) (be32 v) code w' ∧ SameBut fr fr' ∧ ChgS (GF gf gm) w w' := by
  have hBB := big_ge
  have h := hX.fm
  have ho : opO 82 := by unfold opO; omega
  have HAR := hide (arity_op 82 ho w)
  rw [show givN 82 = 0 from rfl, show takN 82 = 2 from rfl] at HAR
  have HIM : ∀ wz, Hid (Calls Sakg.prog 216 #[.int .u8 (82 : Nat)] wz fun e w' => e = .returned (.int .u8 (immN 82)) ∧ wz = w') := fun wz => hide (imm_op 82 ho wz)
  rw [show immN 82 = 0 from rfl] at HIM
  obtain ⟨tk, htt⟩ : ∃ tk, tk = 2 := ⟨_, rfl⟩
  obtain ⟨ik, hii⟩ : ∃ ik, ik = 0 := ⟨_, rfl⟩
  rw [← htt] at HAR htk
  rw [← hii] at HIM
  have htk3 : tk ≤ 3 := by omega
  have himm : ik ≤ 32 := by omega
  obtain ⟨i0, hi0, hz0, hz1, hz2⟩ := info_parts infoNat1
  have HI0 := hide hi0
  have HZ0 := hide hz0
  have HZ1 := hide hz1
  have HZ2 := hide hz2
  have hgl := h.row.lt
  have HFM := hide h
  have HFX := hide hX
  have HARG0 := hide h0
  have HARG1 := hide h1
  have HTT := hide htt
  have HII := hide hii
  clear hi0 hz0 hz1 hz2 h hX h0 h1 htt hii
  go_enter Sakg.func122, Sakg.ntmps122
  go_upto_region 2 with (first
    | (go_at_call 202; refine (unhide HAR).mono ?_; rintro e w1 ⟨rfl, rfl⟩)
    | (at_make; refine wpList_make_rows rfl _ _ 192 rfl 54 Sakg.underlying192 i0 _ 1 24 (unhide HI0) (unhide HZ0) (unhide HZ1) (unhide HZ2) _ _ tk rfl rfl rfl rfl (by omega) (by omega) ?_; intro w2 zs hr2 hzl hb2 hs2))
  have HR2 := hide hr2
  have HZL := hide hzl
  have HB2 := hide hb2
  clear hr2 hzl hb2 hs2
  go_wp2_with fail
  go_loopg [24] tk (fun gk iv wr => ∃ (i : Nat) (cs : List Value), i + gk = tk ∧ iv = .int .i64 i ∧ RowT 54 wr w.heap.size cs ∧ cs.length = tk ∧ Laid (GF bw gf) w stk cs i ∧ Below w.heap.size w wr)
  case atStart => exact ⟨0, zs, by omega, rfl, unhide HR2, by have := unhide HZL; omega, fun j hj => by omega, unhide HB2⟩
  case round =>
    obtain ⟨i, cs, hi, rfl, hr, hcl, hlaid, hbe⟩ := hrel
    have HR := hide hr
    have HLAID := hide hlaid
    clear hr hlaid
    by_cases hit : i < tk
    · have HA := hide (arg_at (unhide HFM) hbe (by omega) i (by omega))
      go_wp2_with (go_at_call 118; refine (unhide HA).mono ?_; rintro e w3 ⟨⟨A, k, c, rfl, hs⟩, q3⟩; have b3 : Below wr.heap.size wr w3 := q3.below _; have hr3 := (unhide HR).kept b3; have hx3 : ∃ v, w3.cell? ⟨w.heap.size, i, none⟩ = some v := by { rw [hr3.cell, List.getElem?_eq_getElem (by omega)]; exact ⟨_, rfl⟩ }; obtain ⟨v3, hx3⟩ := hx3; have hf3 := hr3.froz i; have HR3 := hide hr3; have HS := hide hs; clear hr3 hs q3)
      have hset := (unhide HR3).set i (Value.slice A k c)
      have hb4 : Below w.heap.size w (w3.setCell ⟨w.heap.size, i, none⟩ (Value.slice A k c)) := (hbe.trans (b3.mono hbe.size)).setCell (p := ⟨w.heap.size, i, none⟩) (Nat.le_refl _) _
      go_roundg (tk - 1 - i)
      case measure => omega
      case rel => exact ⟨i + 1, _, by omega, rfl, hset, by rw [List.length_set]; exact hcl, (unhide HLAID).snoc (by omega) (unhide HS), hb4⟩
    · obtain rfl : i = tk := by omega
      obtain ⟨Ap, kp, cp, p1, p2⟩ := (unhide HFM).pcN
      obtain ⟨As, ls, cS, s1, s2⟩ := (unhide HFM).stkN
      have hls := s2.len
      obtain ⟨rowsS, sr1, sr2⟩ := s2
      have hlc := sr1.now.le
      have hnilS := sr1.now.nil
      have SR1 := hide sr1
      have S1 := hide s1
      have SR2 := hide sr2
      have x3 : ∀ wz, Below w.heap.size w wz → wz.cell? ⟨gf, 3, none⟩ = some (.slice Ap kp cp) ∧ IsNat wz Ap kp cp pc := fun wz hz => ⟨by rw [((unhide HFM).row.kept hz).cell]; exact p1, p2 wz (ChgS.of hz)⟩
      have x8 : ∀ wz, Below w.heap.size w wz → wz.cell? ⟨gf, 8, none⟩ = some (.slice As ls cS) := fun wz hz => by rw [((unhide HFM).row.kept hz).cell]; exact s1
      have X3 := hide x3
      have X8 := hide x8
      have dR : Below wr.heap.size wr wr.drew := Quiet.below ⟨1, rfl⟩ _
      have hX : ∀ wz, Below wr.heap.size wr wz → Below w.heap.size w wz := fun wz hz => hbe.trans (hz.mono hbe.size)
      have HX := hide hX
      have hwk : IntKind.u64.wrap (ik : Int) = (ik : Int) := by rw [IntKind.wrap_u64]; omega
      obtain ⟨j1, hj1⟩ : ∃ j1, j1 = 1 + ik := ⟨_, rfl⟩
      have ej : (1 : Int) + (ik : Int) = (j1 : Int) := by omega
      have ejw : IntKind.u64.wrap ((1 : Int) + (ik : Int)) = (j1 : Int) := by rw [IntKind.wrap_u64]; omega
      have ejw2 : IntKind.u64.wrap (j1 : Int) = (j1 : Int) := by rw [IntKind.wrap_u64]; omega
      have hj1l : j1 ≤ 40 := by omega
      have HJ1 := hide hj1
      clear p1 p2 s1 x3 x8 hX hj1 sr1 sr2
      go_upto_region 7 with fail
      refine wp_region_noPanic ?_
      refine wp_region_held_drew (S := fun w' => Below wr.heap.size wr w') (by kernel_rfl) (dR) (fun hHeld => ?_)
      refine held_takeD 0 (.pointer (some ⟨gf, 0, none⟩)) (some 34) (by rfl) (by rfl) (by kernel_rfl) (by kernel_rfl) (by kernel_rfl) (fun _ _ _ h => h) (.inl ⟨by rfl, fun _ _ => by rfl⟩) (hHeld) ?_
      simp only [Act.put, List.setIfInBounds_toArray, List.set_cons_zero, List.set_cons_succ]
      refine held_takeD 1 (.pointer (some ⟨gf, 0, none⟩)) (some 35) (by rfl) (by rfl) (by kernel_rfl) (by kernel_rfl) (by kernel_rfl) (fun _ _ _ h => h) (.inl ⟨by rfl, fun _ _ => by go_simp⟩) (hHeld) ?_
      simp only [Act.put, List.setIfInBounds_toArray, List.set_cons_zero, List.set_cons_succ]
      refine held_takeD 2 (.pointer (some ⟨gf, 3, none⟩)) (some 36) (by rfl) (by rfl) (by kernel_rfl) (by kernel_rfl) (by kernel_rfl) (fun _ _ _ h => h) (.inl ⟨by rfl, fun _ _ => by go_simp⟩) (hHeld) ?_
      simp only [Act.put, List.setIfInBounds_toArray, List.set_cons_zero, List.set_cons_succ]
      refine held_takeD 3 (.slice Ap kp cp) (some 37) (by rfl) (by rfl) (by kernel_rfl) (by kernel_rfl) (by kernel_rfl) (fun _ _ _ h => h) (.inl ⟨by rfl, fun wS hS => by have hc := (unhide X3 wS (unhide HX wS hS)).1; go_simp⟩) (hHeld) ?_
      simp only [Act.put, List.setIfInBounds_toArray, List.set_cons_zero, List.set_cons_succ]
      refine held_takeD 4 (.int .u8 82) (some 38) (by rfl) (by rfl) (by kernel_rfl) (by kernel_rfl) (by kernel_rfl) (fun _ _ _ h => h) (.inl ⟨by rfl, fun _ _ => by rfl⟩) (hHeld) ?_
      simp only [Act.put, List.setIfInBounds_toArray, List.set_cons_zero, List.set_cons_succ]
      refine held_one 5 (by kernel_rfl) (by rfl) (fun K' hK' => ?_)
      go_simp
      refine (unhide (HIM wr.drew)).mono ?_
      rintro e w4 ⟨rfl, rfl⟩
      refine hK'.out _ _ (dR) ?_
      clear hK' K'
      refine held_takeD 6 (.int .u64 ik) (some 40) (by rfl) (by rfl) (by kernel_rfl) (by kernel_rfl) (by kernel_rfl) (fun _ _ _ h => h) (.inl ⟨by rfl, fun _ _ => by go_simp⟩) (dR) ?_
      simp only [Act.put, List.setIfInBounds_toArray, List.set_cons_zero, List.set_cons_succ]
      refine held_takeD 7 (.int .u64 j1) (some 41) (by rfl) (by rfl) (by kernel_rfl) (by kernel_rfl) (by kernel_rfl) (fun _ _ _ h => h) (.inl ⟨by rfl, fun _ _ => by go_simp⟩) (dR) ?_
      simp only [Act.put, List.setIfInBounds_toArray, List.set_cons_zero, List.set_cons_succ]
      refine held_one 8 (by kernel_rfl) (by rfl) (fun K' hK' => ?_)
      go_simp
      refine (num_any j1 wr.drew (by omega)).mono ?_
      rintro e w5 ⟨A5, k5, c5, rfl, n5, N5, b5⟩
      refine hK'.out _ _ (dR.trans (b5.mono dR.size)) ?_
      clear hK' K'
      have d5 := dR.trans (b5.mono dR.size)
      refine held_one 9 (by kernel_rfl) (by rfl) (fun K' hK' => ?_)
      go_simp
      refine ((unhide X3 w5 (unhide HX w5 d5)).2.add n5 (by omega) (by omega)).mono ?_
      rintro e w6 ⟨A6, k6, c6, rfl, n6, N6, b6⟩
      refine hK'.out _ _ (d5.trans (b6.mono d5.size)) ?_
      clear hK' K'
      have d6 := d5.trans (b6.mono d5.size)
      refine held_takeD 10 (.slice A6 k6 c6) (some 11) (by rfl) (by rfl) (by kernel_rfl) (by kernel_rfl) (by kernel_rfl) (fun _ _ _ h => h) (.inl ⟨by rfl, fun _ _ => by rfl⟩) (d6) ?_
      simp only [Act.put, List.setIfInBounds_toArray, List.set_cons_zero, List.set_cons_succ]
      refine wpAnyH_done (by kernel_rfl) ?_ _
      refine NoPanic.normal ?_
      have e6 : pc + j1 = pc + 1 + ik := by rw [unhide HJ1]; omega
      rw [e6] at n6
      have NN6 := hide n6
      have N6w : New w A6 := N6.later (Nat.le_trans hbe.size d5.size)
      have HR6 := hide ((unhide HR).kept d6)
      have dw6 : Below w.heap.size w w6 := unhide HX w6 d6
      have y8 := unhide X8 w6 dw6
      obtain ⟨q, hq⟩ : ∃ q, q = ls - i := ⟨_, rfl⟩
      have eq1 : (ls : Int) - (i : Int) = (q : Int) := by omega
      have hql : q ≤ ls := by omega
      have HQ := hide hq
      clear n6 n5 e6 ej ejw ejw2 hwk hq
      go_upto_region 8 with fail
      go_cut [12] (fun s12 wc => s12 = .slice As q q ∧ Below w6.heap.size w6 wc)
      case first =>
        cases As with
        | none =>
          obtain ⟨h1, h2⟩ := hnilS rfl
          obtain rfl : q = 0 := by omega
          subst h1 h2
          go_quiet (fail)
          go_wp2_with fail
          go_meet
          case rel => exact ⟨rfl, Quiet.below ⟨_, rfl⟩ _⟩
        | some ad =>
          clear hnilS
          go_quiet (fail)
          go_wp2_with fail
          go_meet
          case rel => exact ⟨rfl, Quiet.below ⟨_, rfl⟩ _⟩
      case rest =>
        obtain ⟨w7, hw7⟩ : ∃ w7, w7 = wc := ⟨_, rfl⟩
        subst hw7
        obtain ⟨rfl, b7⟩ := hcut
        have dw7 : Below w.heap.size w w7 := dw6.trans (b7.mono dw6.size)
        have hargs := (unhide HLAID).args ((unhide HR6).kept b7) hcl (by omega) (ChgS.of dw7)
        have hf7 := (unhide HFX).row.kept dw7
        have e0 : (argsOf stk i).getD 0 0 = 0 := by
          have h2 := unhide HTT
          subst h2
          exact unhide HARG0
        have e1 : (argsOf stk i).getD 1 0 = v := by
          have h2 := unhide HTT
          subst h2
          exact unhide HARG1
        have HV := hide (effect_mstore bw hf7 (unhide HFX).memN (zeros 32) ((unhide HFX).own.kept dw7) (zeros_len 32) _ _ _ _ hargs (by omega) e0 v e1 hv)
        clear hargs y8 hnilS hf7 e0 e1
        have hgmb := (unhide HFX).nebw
        have hgmf := (unhide HFX).negf
        go_upto_region 25 with (go_at_call 218; refine (unhide HV).mono ?_; rintro e w9 ⟨rfl, o9, c9⟩; have O9 := hide o9; clear o9)
        have r9 := c9.row ((unhide HFX).row.kept dw7) (Ne.symm hgmf)
        have b67 : Below w6.heap.size w6 w7 := b7
        have hlen9 := (unhide HFX).len
        obtain ⟨hfm, hch⟩ := (unhide HFX).next hbw dw7 c9 (unhide O9) (be32_byt v) (be32_len v) N6w ((unhide NN6).kept b67) q (unhide S1) hql
        obtain ⟨v98, hx9⟩ : ∃ v, w9.cell? ⟨gf, 8, none⟩ = some v := by
          rw [r9.cell, List.getElem?_eq_getElem (by omega)]
          exact ⟨_, rfl⟩
        have hf9 := r9.froz 8
        obtain ⟨w10, hw10⟩ : ∃ x, x = w9.setCell ⟨gf, 8, none⟩ (.slice As q q) := ⟨_, rfl⟩
        have r10 := r9.set 8 (.slice As q q)
        rw [← hw10] at r10 hfm hch
        obtain ⟨v93, hx10⟩ : ∃ v, w10.cell? ⟨gf, 3, none⟩ = some v := by
          rw [r10.cell, List.getElem?_eq_getElem (by rw [List.length_set]; omega)]
          exact ⟨_, rfl⟩
        have hf10 := r10.froz 3
        have eqs : stk.length - 2 = q := by rw [unhide HQ, hls, ← unhide HTT]
        have epc : pc + 1 + ik = pc + 1 := by rw [unhide HII]
        rw [epc] at hfm
        have HQS := hide eqs
        have HFM9 := hide hfm
        have HCH9 := hide hch
        have HW10 := hide hw10
        clear r9 r10 hfm hch eqs hw10 epc
        go_upto_region 26 with fail
        rw [← unhide HW10]
        go_wp2
        refine bodyPost_done rfl rfl ?_
        exact ⟨rfl, (fr.set 8 (.slice As q q)).set 3 (.slice A6 k6 c6), by rw [unhide HQS]; exact unhide HFM9, fun i h3 _ h8 => by rw [List.getElem?_set_ne (Ne.symm h3), List.getElem?_set_ne (Ne.symm h8)], unhide HCH9⟩

end Go.Proofs.YgcsakGreat
