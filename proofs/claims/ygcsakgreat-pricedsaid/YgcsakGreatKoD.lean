/-
  yp: enterCreate.
-/
import Derived.Test.YgcsakGreatKoC
import Derived.Test.YgcsakGreatKjA
namespace Go.Proofs.YgcsakGreat
set_option linter.unusedVariables false
set_option linter.unusedSimpArgs false
set_option maxRecDepth 100000
open Go.RowKit

/-- a row off the set stays -/
theorem RowT.chgS {G : Nat → Prop} {T : TypeId} {w w' : World} {g : Nat} {cs : List Value} (h : RowT T w g cs) (hc : ChgS G w w') (hn : ¬ G g) : RowT T w' g cs := by
  unfold RowT
  rw [hc.block g h.lt hn]
  exact h
/-- four may come up -/
theorem held_4 {P : Program} {ops : Array Oper} {Q : Exit → Act → World → Prop} {md : Region.Mode} {S : World → Prop} (i j k l : Nat) {o1 o2 o3 o4 : Oper} {fuel : Nat} {listed : Array Bool} {a : Act} {w : World} (hr : Region.ready md ops listed = [i, j, k, l]) (ho1 : ops[i]? = some o1) (ho2 : ops[j]? = some o2) (ho3 : ops[k]? = some o3) (ho4 : ops[l]? = some o4)
    (h1 : ∀ K' : Act → World → Prop, Shut (∀ a w, S w → wpAnyH P md ops Q S fuel (listed.setIfInBounds i true) a w → K' a w) → if Region.wanted o1 (yielded ops a.tmps) = true then Oper.wp P o1 a w K' Q else K' (a.put o1.dst undef) w)
    (h2 : ∀ K' : Act → World → Prop, Shut (∀ a w, S w → wpAnyH P md ops Q S fuel (listed.setIfInBounds j true) a w → K' a w) → if Region.wanted o2 (yielded ops a.tmps) = true then Oper.wp P o2 a w K' Q else K' (a.put o2.dst undef) w)
    (h3 : ∀ K' : Act → World → Prop, Shut (∀ a w, S w → wpAnyH P md ops Q S fuel (listed.setIfInBounds k true) a w → K' a w) → if Region.wanted o3 (yielded ops a.tmps) = true then Oper.wp P o3 a w K' Q else K' (a.put o3.dst undef) w)
    (h4 : ∀ K' : Act → World → Prop, Shut (∀ a w, S w → wpAnyH P md ops Q S fuel (listed.setIfInBounds l true) a w → K' a w) → if Region.wanted o4 (yielded ops a.tmps) = true then Oper.wp P o4 a w K' Q else K' (a.put o4.dst undef) w) : wpAnyH P md ops Q S (fuel + 1) listed a w := by
  refine wpAnyH_all hr (by simp) fun n hn => ?_
  rcases List.mem_cons.1 hn with rfl | hn
  · exact wpOp_step ho1 fun K' hK => h1 K' fun a w hS hW => hK a w ⟨hS, hW⟩
  rcases List.mem_cons.1 hn with rfl | hn
  · exact wpOp_step ho2 fun K' hK => h2 K' fun a w hS hW => hK a w ⟨hS, hW⟩
  rcases List.mem_cons.1 hn with rfl | hn
  · exact wpOp_step ho3 fun K' hK => h3 K' fun a w hS hW => hK a w ⟨hS, hW⟩
  · obtain rfl : n = l := by simpa using hn
    exact wpOp_step ho4 fun K' hK => h4 K' fun a w hS hW => hK a w ⟨hS, hW⟩
/-- what was made ahead of a box or behind it lasts whatever comes to the box -/
theorem knat_box {G : Nat → Prop} {gb : Nat} {w0 wN wS : World} {A : Option Addr} {k c v : Nat} (n : IsNat wN A k c v) (hN : New w0 A) (hT : Ther G w0) (h : gb < w0.heap.size ∨ wN.heap.size ≤ gb) (hc : ChgS (Plus G gb) wN wS) : KNat (Plus G gb) wS A k c v := by
  rcases h with h | h
  · exact (KNat.new n hN (hT.plus h)).kp hc
  · exact StabS.kp (StabS.to (KNat.new n hN hT) (plus_new h)) hc
theorem ksrc_box {G : Nat → Prop} {gb : Nat} {w0 wN wS : World} {A : Option Addr} {k c : Nat} {xs : List Int} (n : Src wN A k c xs) (hN : New w0 A) (hT : Ther G w0) (h : gb < w0.heap.size ∨ wN.heap.size ≤ gb) (hc : ChgS (Plus G gb) wN wS) : KSrc (Plus G gb) wS A k c xs := by
  rcases h with h | h
  · exact (KSrc.new n hN (hT.plus h)).kp hc
  · exact StabS.kp (StabS.to (KSrc.new n hN hT) (plus_new h)) hc
theorem zeros_isAddr : IsAddr (zeros 20) := ⟨zeros_len 20, fun x hx => by rw [List.eq_of_mem_replicate hx]; omega⟩
theorem row_one {L : List Value} {slf caller : List Int} (hL : L.length = 12) (h : ∀ v ∈ L, v.oneCell' = true) : ∀ v ∈ rowOf L slf caller, v.oneCell' = true := by
  intro v hv
  unfold rowOf at hv
  rcases List.mem_append.1 hv with h' | h'
  · exact h v h'
  rcases List.mem_append.1 h' with h' | h'
  · exact bv_one _ v h'
  rcases List.mem_append.1 h' with h' | h'
  · exact bv_one _ v h'
  · rw [List.eq_of_mem_replicate h']; rfl
section
variable {G : Nat → Prop} {bw gf : Nat} {cs fr : List Value} {d : WD} {f : FD} {r : List FD} {x : XD} {w : World} {B : Nat}
set_option maxHeartbeats 32000000 in
theorem enterCreate_any (p : Nat) (hp : p = 240 ∨ p = 245) (h : SR G bw gf cs fr d (f :: r) x w) (hg : Good B d) (hwt : wt d + 60000 ≤ 2250000000) (hf : AnyF f) (hml : f.ml ≤ 1000000) (hgas : f.gas ≤ 1048576) (htk : takA p ≤ f.stk.length) (hinit : argN f.stk 2 ≤ 1000) (hret : x.ret = []) (hrl : r.length ≤ 900) :
    Calls Sakg.prog 214 #[.pointer (some ⟨bw, 0, none⟩), .pointer (some ⟨gf, 60 * r.length, none⟩), .int .u8 p] w (EnsK G bw B 20000 d f r x (takA p) 0 w) := by
  have hBB := big_ge
  have hPB := p256_lt
  have hp255 : p ≤ 255 := by omega
  have hs := argN_lt hf.stk
  have hsl := hf.slen
  have htk34 : 3 ≤ takA p := by rcases hp with rfl | rfl <;> decide
  have HAR := hide (arity_any p hp255 w)
  generalize htt : takA p = tk at htk HAR htk34 ⊢
  generalize hff : decide (famA p ≠ 0) = fv at HAR
  generalize givA p = gv at HAR
  have hfx := h.fx
  obtain ⟨o, ho⟩ : ∃ o, o = 60 * r.length := ⟨_, rfl⟩
  rw [← ho] at hfx ⊢
  have hslf := hfx.kf.selfA
  have hsR := hfx.selfRow
  have hu := Sakg.underlying26
  have hsz := hslf.size
  obtain ⟨sf, hsf⟩ : ∃ sf, sf = f.self := ⟨_, rfl⟩
  rw [← hsf] at hslf hsz hsR
  have HF := hide hfx
  have HS := hide hs
  have HSF := hide hsf
  have HSLF := hide hsR
  have HSR := hide h
  have HO := hide ho
  have HG := hide hg
  have HAF := hide hf
  have HRET := hide hret
  have hbw := h.lt
  have hgfl := h.row.lt
  have hgfb := h.ne
  obtain ⟨cap, e9, -, hcap, hcap2⟩ := h.frames
  rw [List.length_cons] at e9 hcap
  obtain ⟨nr, hnr⟩ : ∃ nr, nr = r.length := ⟨_, rfl⟩
  obtain ⟨nf, hnf⟩ : ∃ nf, nf = r.length + 1 := ⟨_, rfl⟩
  rw [← hnf] at e9 hcap
  have enf : (nf : Int) - 1 = (nr : Int) := by omega
  have hwnr : IntKind.i64.wrap (nr : Int) = (nr : Int) := by rw [IntKind.wrap_i64]; omega
  have HE9 := hide e9
  have HNR := hide hnr
  have HNF := hide hnf
  have HHP := hide hp
  clear h hfx hs ho hsf hsR hg hf hret htt hff e9 hnr hnf hp
  go_enter Sakg.func214, Sakg.ntmps214
  go_upto_region 1 with (go_at_call 202; refine (unhide HAR).mono ?_; rintro e w1 ⟨rfl, rfl⟩)
  have HA0 := hide ((unhide HF).arg (by omega) 0 (by omega))
  rw [show ((0 : Nat) : Int) = 0 from rfl] at HA0
  go_upto_region 2 with (go_at_call 118; refine (unhide HA0).mono ?_; rintro e W ⟨⟨A9, k9, c9, rfl, hn9⟩, q9⟩; have b9 : Below w.heap.size w W := q9.below _; have HN9 := hide hn9; clear hn9 q9)
  have hv9 := unhide HS 0
  generalize hv0 : argN f.stk 0 = v0 at HN9 hv9
  have dW : Below W.heap.size W W.drew := Quiet.below ⟨1, rfl⟩ _
  have hsrW := (unhide HSR).kept b9
  have hacc : ∀ wz, Below W.heap.size W wz → Calls Sakg.prog 99 #[.pointer (some ⟨bw, 0, none⟩), .agg (bv sf).toArray] wz fun e w' => ∃ r, e = .returned (.agg r.toArray) ∧ KAcct G W r (lookY d.accts sf) ∧ Below wz.heap.size wz w' := fun wz hz => hsrW.cw.accountAt (unhide HG) hz sf hslf
  have HACC := hide hacc
  have hrg : ∀ wz, Below W.heap.size W wz → wz.rangeAt gf (o + 12) (bv sf) := fun wz hz => unhide HSLF wz (hsrW.row.kept hz)
  have HRG := hide hrg
  have HSW := hide hsrW
  clear hacc hrg hsrW hv0
  go_cut [10] (fun s10 wc => ∃ (g : Nat) (rr : List Value), s10 = .pointer (some ⟨g, 0, none⟩) ∧ RowT 113 wc g rr ∧ KAcct G W rr (lookY d.accts sf) ∧ Below W.heap.size W wc ∧ W.heap.size ≤ g)
  case first =>
    --S1
    as_aux_lemma =>
    refine wp_region_noPanic ?_
    refine wp_region_held_drew (S := fun w' => Below W.heap.size W w') (by kernel_rfl) (dW) (fun hHeld => ?_)
    refine held_takeD 0 (.pointer (some ⟨bw, 0, none⟩)) (some 20) (by rfl) (by rfl) (by kernel_rfl) (by kernel_rfl) (by kernel_rfl) (fun _ _ _ h => h) (.inl ⟨by rfl, fun _ _ => by rfl⟩) (hHeld) ?_
    simp only [Act.put, List.setIfInBounds_toArray, List.set_cons_zero, List.set_cons_succ]
    refine held_takeD 1 (.pointer (some ⟨bw, 0, none⟩)) (some 21) (by rfl) (by rfl) (by kernel_rfl) (by kernel_rfl) (by kernel_rfl) (fun _ _ _ h => h) (.inl ⟨by rfl, fun _ _ => by go_simp⟩) (hHeld) ?_
    simp only [Act.put, List.setIfInBounds_toArray, List.set_cons_zero, List.set_cons_succ]
    refine held_takeD 2 (.pointer (some ⟨bw, 0, none⟩)) (some 22) (by rfl) (by rfl) (by kernel_rfl) (by kernel_rfl) (by kernel_rfl) (fun _ _ _ h => h) (.inl ⟨by rfl, fun _ _ => by go_simp⟩) (hHeld) ?_
    simp only [Act.put, List.setIfInBounds_toArray, List.set_cons_zero, List.set_cons_succ]
    refine held_takeD 3 (.pointer (some ⟨gf, o, none⟩)) (some 23) (by rfl) (by rfl) (by kernel_rfl) (by kernel_rfl) (by kernel_rfl) (fun _ _ _ h => h) (.inl ⟨by rfl, fun _ _ => by rfl⟩) (hHeld) ?_
    simp only [Act.put, List.setIfInBounds_toArray, List.set_cons_zero, List.set_cons_succ]
    refine held_takeD 4 (.pointer (some ⟨gf, o, none⟩)) (some 24) (by rfl) (by rfl) (by kernel_rfl) (by kernel_rfl) (by kernel_rfl) (fun _ _ _ h => h) (.inl ⟨by rfl, fun _ _ => by go_simp⟩) (hHeld) ?_
    simp only [Act.put, List.setIfInBounds_toArray, List.set_cons_zero, List.set_cons_succ]
    refine held_takeD 5 (.pointer (some ⟨gf, o + 12, none⟩)) (some 25) (by rfl) (by rfl) (by kernel_rfl) (by kernel_rfl) (by kernel_rfl) (fun _ _ _ h => h) (.inl ⟨by rfl, fun _ _ => by go_simp⟩) (hHeld) ?_
    simp only [Act.put, List.setIfInBounds_toArray, List.set_cons_zero, List.set_cons_succ]
    refine held_takeD 6 (.agg (bv sf).toArray) (some 26) (by rfl) (by rfl) (by kernel_rfl) (by kernel_rfl) (by kernel_rfl) (fun _ _ _ h => h) (yieldsIf_load_mid (by rfl) _ _ rfl _ _ rfl _ _ (fun wz hS => unhide HRG wz hS) hu rfl hsz) (hHeld) ?_
    simp only [Act.put, List.setIfInBounds_toArray, List.set_cons_zero, List.set_cons_succ]
    refine held_two 7 8 (by kernel_rfl) (by rfl) (by rfl) (fun K' hK' => ?_) (fun K' hK' => ?_)
    · go_simp
      refine (unhide HACC _ dW).mono ?_
      rintro e w2 ⟨r, rfl, hrow, b2⟩
      have d2 := dW.trans (b2.mono dW.size)
      have hrl := hrow.now.len
      refine hK'.out _ _ (d2) ?_
      clear hK' K'
      refine held_one 8 (by kernel_rfl) (by rfl) (fun K' hK' => ?_)
      refine if_alloc (some 10) rfl 113 rfl (by rfl) _ 24 infoAcct2 (by simp [bv_len, zeros_len]) (fun wA rA bA sA => ?_)
      have dA := d2.trans (bA.mono d2.size)
      refine hK'.out _ _ (dA) ?_
      clear hK' K'
      simp only [Act.put, List.setIfInBounds_toArray, List.set_cons_zero, List.set_cons_succ]
      refine held_one 9 (by kernel_rfl) (by rfl) (fun K' hK' => ?_)
      refine if_store rfl (by rfl) 113 (.tmp 10) (.tmp 27) rfl w2.heap.size 0 113 _ r rfl rfl rA (by rw [hrl]; simp [bv_len, zeros_len]) (by rw [hrl]; exact sizeAcct) hrow.now.one (fun wS rS oS => ?_)
      have dS : Below W.heap.size W wS := dA.trans (oS.below _ (by exact d2.size))
      refine hK'.out _ _ (dS) ?_
      clear hK' K'
      refine wpAnyH_done (by kernel_rfl) ?_ _
      refine NoPanic.normal ?_
      rw [spl_all _ _ (by rw [hrl]; simp [bv_len, zeros_len])] at rS
      go_wp2_with fail
      go_meet
      case rel => exact ⟨_, r, rfl, rS, hrow, dS, by first | exact Nat.le_refl _ | exact d2.size⟩
    · refine if_alloc (some 10) rfl 113 rfl (by rfl) _ 24 infoAcct2 (by simp [bv_len, zeros_len]) (fun wA rA bA sA => ?_)
      have dA := dW.trans (bA.mono dW.size)
      refine hK'.out _ _ (dA) ?_
      clear hK' K'
      simp only [Act.put, List.setIfInBounds_toArray, List.set_cons_zero, List.set_cons_succ]
      refine held_one 7 (by kernel_rfl) (by rfl) (fun K' hK' => ?_)
      go_simp
      refine (unhide HACC _ dA).mono ?_
      rintro e w2 ⟨r, rfl, hrow, b2⟩
      have d2 := dA.trans (b2.mono dA.size)
      have hrl := hrow.now.len
      refine hK'.out _ _ (d2) ?_
      clear hK' K'
      refine held_one 9 (by kernel_rfl) (by rfl) (fun K' hK' => ?_)
      refine if_store rfl (by rfl) 113 (.tmp 10) (.tmp 27) rfl W.heap.size 0 113 _ r rfl rfl (rA.kept b2) (by rw [hrl]; simp [bv_len, zeros_len]) (by rw [hrl]; exact sizeAcct) hrow.now.one (fun wS rS oS => ?_)
      have dS : Below W.heap.size W wS := d2.trans (oS.below _ (by exact Nat.le_refl _))
      refine hK'.out _ _ (dS) ?_
      clear hK' K'
      refine wpAnyH_done (by kernel_rfl) ?_ _
      refine NoPanic.normal ?_
      rw [spl_all _ _ (by rw [hrl]; simp [bv_len, zeros_len])] at rS
      go_wp2_with fail
      go_meet
      case rel => exact ⟨_, r, rfl, rS, hrow, dS, by first | exact Nat.le_refl _ | exact d2.size⟩
    --E1
  case rest =>
  as_aux_lemma =>
  obtain ⟨V, hVe⟩ : ∃ V, V = wc := ⟨_, rfl⟩
  subst hVe
  obtain ⟨gm, rm, rfl, hrm, hrow, dV, hgW⟩ := hcut
  obtain ⟨B1, j1, e1, B2, j2, e2, B3, j3, e3, B4, j4, e4', q20, q21, q22, q23, s1, s2, s3, s4⟩ := hrow.cells
  have hlk := (unhide HG).lookB sf
  generalize hLN : (lookY d.accts sf).nonce = nn at s1 hlk
  generalize hLB : (lookY d.accts sf).bal = bb at s2 hlk
  have HLN := hide hLN
  have hsV := (unhide HSW).kept dV
  have y9 : ∀ wz, Below V.heap.size V wz → wz.cell? ⟨bw, 9, none⟩ = some (.slice (some ⟨gf, 0, none⟩) nf cap) := fun wz hz => (hsV.cw.kept hz).cell (unhide HE9)
  have y21 : ∀ wz, Below V.heap.size V wz → wz.cell? ⟨gm, 21, none⟩ = some (.slice B2 j2 e2) := fun wz hz => by rw [(hrm.kept hz).cell]; exact q21
  have y20 : ∀ wz, Below V.heap.size V wz → wz.cell? ⟨gm, 20, none⟩ = some (.slice B1 j1 e1) := fun wz hz => by rw [(hrm.kept hz).cell]; exact q20
  have Y9 := hide y9
  have Y21 := hide y21
  have Y20 := hide y20
  have K1 := hide (s1.kp (ChgS.of dV))
  have K2 := hide (s2.kp (ChgS.of dV))
  have K9 := hide ((unhide HN9).kp (ChgS.of (b9.trans (dV.mono b9.size))))
  have HSV := hide hsV
  have HRM := hide hrm
  have HQ20 := hide q20
  have eV : Below V.heap.size V V.drew := Quiet.below ⟨1, rfl⟩ _
  clear hsV y9 y21 y20 hrm hrow q20 q21 q22 q23 s1 s2 s3 s4 hLN hLB
  go_upto_region 3 with fail
  go_cut [48] (fun s48 wc => (∃ b, s48 = .bool b ∧ (b = false → nr < 6 ∧ v0 ≤ bb ∧ nn < 18446744073709551615)) ∧ Below V.heap.size V wc)
  case first =>
    --S2
    as_aux_lemma =>
    by_cases h6 : 6 ≤ nr
    case pos =>
      have t6 : decide ((6 : Int) ≤ (nr : Int)) = true := decide_eq_true (by omega)
      have t6' : decide (6 ≤ nr) = true := decide_eq_true h6
      refine wp_region_noPanic ?_
      refine wp_region_held_drew (S := fun w' => Below V.heap.size V w') (by kernel_rfl) (eV) (fun hHeld => ?_)
      refine held_takeD 0 (.pointer (some ⟨bw, 0, none⟩)) (some 28) (by rfl) (by rfl) (by kernel_rfl) (by kernel_rfl) (by kernel_rfl) (fun _ _ _ h => h) (.inl ⟨by rfl, fun _ _ => by rfl⟩) (hHeld) ?_
      simp only [Act.put, List.setIfInBounds_toArray, List.set_cons_zero, List.set_cons_succ]
      refine held_takeD 1 (.pointer (some ⟨bw, 0, none⟩)) (some 29) (by rfl) (by rfl) (by kernel_rfl) (by kernel_rfl) (by kernel_rfl) (fun _ _ _ h => h) (.inl ⟨by rfl, fun _ _ => by go_simp⟩) (hHeld) ?_
      simp only [Act.put, List.setIfInBounds_toArray, List.set_cons_zero, List.set_cons_succ]
      refine held_takeD 2 (.pointer (some ⟨bw, 9, none⟩)) (some 30) (by rfl) (by rfl) (by kernel_rfl) (by kernel_rfl) (by kernel_rfl) (fun _ _ _ h => h) (.inl ⟨by rfl, fun _ _ => by go_simp⟩) (hHeld) ?_
      simp only [Act.put, List.setIfInBounds_toArray, List.set_cons_zero, List.set_cons_succ]
      refine held_takeD 3 (.slice (some ⟨gf, 0, none⟩) nf cap) (some 31) (by rfl) (by rfl) (by kernel_rfl) (by kernel_rfl) (by kernel_rfl) (fun _ _ _ h => h) (.inl ⟨by rfl, fun wS hS => by have hc := unhide Y9 wS hS; go_simp⟩) (hHeld) ?_
      simp only [Act.put, List.setIfInBounds_toArray, List.set_cons_zero, List.set_cons_succ]
      refine held_takeD 4 (.int .i64 nf) (some 32) (by rfl) (by rfl) (by kernel_rfl) (by kernel_rfl) (by kernel_rfl) (fun _ _ _ h => h) (.inl ⟨by rfl, fun _ _ => by go_simp⟩) (hHeld) ?_
      simp only [Act.put, List.setIfInBounds_toArray, List.set_cons_zero, List.set_cons_succ]
      refine held_takeD 5 (.int .i64 nr) (some 33) (by rfl) (by rfl) (by kernel_rfl) (by kernel_rfl) (by kernel_rfl) (fun _ _ _ h => h) (.inl ⟨by rfl, fun _ _ => by go_simp⟩) (hHeld) ?_
      simp only [Act.put, List.setIfInBounds_toArray, List.set_cons_zero, List.set_cons_succ]
      refine held_takeD 6 (.bool true) (some 34) (by rfl) (by rfl) (by kernel_rfl) (by kernel_rfl) (by kernel_rfl) (fun _ _ _ h => h) (.inl ⟨by rfl, fun _ _ => by go_simp⟩) (hHeld) ?_
      simp only [Act.put, List.setIfInBounds_toArray, List.set_cons_zero, List.set_cons_succ]
      refine held_takeD 7 (.bool true) (some 35) (by rfl) (by rfl) (by kernel_rfl) (by kernel_rfl) (by kernel_rfl) (fun _ _ _ h => h) (.inl ⟨by rfl, fun _ _ => by rfl⟩) (hHeld) ?_
      simp only [Act.put, List.setIfInBounds_toArray, List.set_cons_zero, List.set_cons_succ]
      refine held_takeD 8 undef (some 36) (by rfl) (by rfl) (by kernel_rfl) (by kernel_rfl) (by kernel_rfl) (fun _ _ _ h => h) (.inr ⟨by rfl, rfl⟩) (hHeld) ?_
      simp only [Act.put, List.setIfInBounds_toArray, List.set_cons_zero, List.set_cons_succ]
      refine held_takeD 9 undef (some 37) (by rfl) (by rfl) (by kernel_rfl) (by kernel_rfl) (by kernel_rfl) (fun _ _ _ h => h) (.inr ⟨by rfl, rfl⟩) (hHeld) ?_
      simp only [Act.put, List.setIfInBounds_toArray, List.set_cons_zero, List.set_cons_succ]
      refine held_takeD 10 undef (some 38) (by rfl) (by rfl) (by kernel_rfl) (by kernel_rfl) (by kernel_rfl) (fun _ _ _ h => h) (.inr ⟨by rfl, rfl⟩) (hHeld) ?_
      simp only [Act.put, List.setIfInBounds_toArray, List.set_cons_zero, List.set_cons_succ]
      refine held_takeD 11 undef (some 39) (by rfl) (by rfl) (by kernel_rfl) (by kernel_rfl) (by kernel_rfl) (fun _ _ _ h => h) (.inr ⟨by rfl, rfl⟩) (hHeld) ?_
      simp only [Act.put, List.setIfInBounds_toArray, List.set_cons_zero, List.set_cons_succ]
      refine held_takeD 12 undef (some 40) (by rfl) (by rfl) (by kernel_rfl) (by kernel_rfl) (by kernel_rfl) (fun _ _ _ h => h) (.inr ⟨by rfl, rfl⟩) (hHeld) ?_
      simp only [Act.put, List.setIfInBounds_toArray, List.set_cons_zero, List.set_cons_succ]
      refine held_takeD 13 (.bool true) (some 41) (by rfl) (by rfl) (by kernel_rfl) (by kernel_rfl) (by kernel_rfl) (fun _ _ _ h => h) (.inl ⟨by rfl, fun _ _ => by go_simp⟩) (hHeld) ?_
      simp only [Act.put, List.setIfInBounds_toArray, List.set_cons_zero, List.set_cons_succ]
      refine held_takeD 14 (.bool true) (some 42) (by rfl) (by rfl) (by kernel_rfl) (by kernel_rfl) (by kernel_rfl) (fun _ _ _ h => h) (.inl ⟨by rfl, fun _ _ => by rfl⟩) (hHeld) ?_
      simp only [Act.put, List.setIfInBounds_toArray, List.set_cons_zero, List.set_cons_succ]
      refine held_takeD 15 undef (some 43) (by rfl) (by rfl) (by kernel_rfl) (by kernel_rfl) (by kernel_rfl) (fun _ _ _ h => h) (.inr ⟨by rfl, rfl⟩) (hHeld) ?_
      simp only [Act.put, List.setIfInBounds_toArray, List.set_cons_zero, List.set_cons_succ]
      refine held_takeD 16 undef (some 44) (by rfl) (by rfl) (by kernel_rfl) (by kernel_rfl) (by kernel_rfl) (fun _ _ _ h => h) (.inr ⟨by rfl, rfl⟩) (hHeld) ?_
      simp only [Act.put, List.setIfInBounds_toArray, List.set_cons_zero, List.set_cons_succ]
      refine held_takeD 17 undef (some 45) (by rfl) (by rfl) (by kernel_rfl) (by kernel_rfl) (by kernel_rfl) (fun _ _ _ h => h) (.inr ⟨by rfl, rfl⟩) (hHeld) ?_
      simp only [Act.put, List.setIfInBounds_toArray, List.set_cons_zero, List.set_cons_succ]
      refine held_takeD 18 undef (some 46) (by rfl) (by rfl) (by kernel_rfl) (by kernel_rfl) (by kernel_rfl) (fun _ _ _ h => h) (.inr ⟨by rfl, rfl⟩) (hHeld) ?_
      simp only [Act.put, List.setIfInBounds_toArray, List.set_cons_zero, List.set_cons_succ]
      refine held_takeD 19 undef (some 47) (by rfl) (by rfl) (by kernel_rfl) (by kernel_rfl) (by kernel_rfl) (fun _ _ _ h => h) (.inr ⟨by rfl, rfl⟩) (hHeld) ?_
      simp only [Act.put, List.setIfInBounds_toArray, List.set_cons_zero, List.set_cons_succ]
      refine held_takeD 20 (.bool true) (some 48) (by rfl) (by rfl) (by kernel_rfl) (by kernel_rfl) (by kernel_rfl) (fun _ _ _ h => h) (.inl ⟨by rfl, fun _ _ => by go_simp⟩) (hHeld) ?_
      simp only [Act.put, List.setIfInBounds_toArray, List.set_cons_zero, List.set_cons_succ]
      refine wpAnyH_done (by kernel_rfl) ?_ _
      refine NoPanic.normal ?_
      go_wp2_with fail
      go_meet
      case rel => exact ⟨⟨_, rfl, fun hh => by cases hh⟩, eV⟩
    case neg =>
      have t6 : decide ((6 : Int) ≤ (nr : Int)) = false := decide_eq_false (by omega)
      have t6' : decide (6 ≤ nr) = false := decide_eq_false h6
      have HCM := hide (((unhide K2).kp (ChgS.of eV)).now.cmp ((unhide K9).kp (ChgS.of eV)).now hlk.2 (by omega))
      by_cases hlt : bb < v0
      case pos =>
        have hcm : cmpI bb v0 = -1 := by unfold cmpI; rw [if_pos hlt]
        rw [hcm] at HCM
        clear hcm
        refine wp_region_noPanic ?_
        refine wp_region_held_drew (S := fun w' => Below V.heap.size V w') (by kernel_rfl) (eV) (fun hHeld => ?_)
        refine held_takeD 0 (.pointer (some ⟨bw, 0, none⟩)) (some 28) (by rfl) (by rfl) (by kernel_rfl) (by kernel_rfl) (by kernel_rfl) (fun _ _ _ h => h) (.inl ⟨by rfl, fun _ _ => by rfl⟩) (hHeld) ?_
        simp only [Act.put, List.setIfInBounds_toArray, List.set_cons_zero, List.set_cons_succ]
        refine held_takeD 1 (.pointer (some ⟨bw, 0, none⟩)) (some 29) (by rfl) (by rfl) (by kernel_rfl) (by kernel_rfl) (by kernel_rfl) (fun _ _ _ h => h) (.inl ⟨by rfl, fun _ _ => by go_simp⟩) (hHeld) ?_
        simp only [Act.put, List.setIfInBounds_toArray, List.set_cons_zero, List.set_cons_succ]
        refine held_takeD 2 (.pointer (some ⟨bw, 9, none⟩)) (some 30) (by rfl) (by rfl) (by kernel_rfl) (by kernel_rfl) (by kernel_rfl) (fun _ _ _ h => h) (.inl ⟨by rfl, fun _ _ => by go_simp⟩) (hHeld) ?_
        simp only [Act.put, List.setIfInBounds_toArray, List.set_cons_zero, List.set_cons_succ]
        refine held_takeD 3 (.slice (some ⟨gf, 0, none⟩) nf cap) (some 31) (by rfl) (by rfl) (by kernel_rfl) (by kernel_rfl) (by kernel_rfl) (fun _ _ _ h => h) (.inl ⟨by rfl, fun wS hS => by have hc := unhide Y9 wS hS; go_simp⟩) (hHeld) ?_
        simp only [Act.put, List.setIfInBounds_toArray, List.set_cons_zero, List.set_cons_succ]
        refine held_takeD 4 (.int .i64 nf) (some 32) (by rfl) (by rfl) (by kernel_rfl) (by kernel_rfl) (by kernel_rfl) (fun _ _ _ h => h) (.inl ⟨by rfl, fun _ _ => by go_simp⟩) (hHeld) ?_
        simp only [Act.put, List.setIfInBounds_toArray, List.set_cons_zero, List.set_cons_succ]
        refine held_takeD 5 (.int .i64 nr) (some 33) (by rfl) (by rfl) (by kernel_rfl) (by kernel_rfl) (by kernel_rfl) (fun _ _ _ h => h) (.inl ⟨by rfl, fun _ _ => by go_simp⟩) (hHeld) ?_
        simp only [Act.put, List.setIfInBounds_toArray, List.set_cons_zero, List.set_cons_succ]
        refine held_takeD 6 (.bool false) (some 34) (by rfl) (by rfl) (by kernel_rfl) (by kernel_rfl) (by kernel_rfl) (fun _ _ _ h => h) (.inl ⟨by rfl, fun _ _ => by go_simp⟩) (hHeld) ?_
        simp only [Act.put, List.setIfInBounds_toArray, List.set_cons_zero, List.set_cons_succ]
        refine held_takeD 7 (.bool false) (some 35) (by rfl) (by rfl) (by kernel_rfl) (by kernel_rfl) (by kernel_rfl) (fun _ _ _ h => h) (.inl ⟨by rfl, fun _ _ => by rfl⟩) (hHeld) ?_
        simp only [Act.put, List.setIfInBounds_toArray, List.set_cons_zero, List.set_cons_succ]
        refine held_takeD 8 (.pointer (some ⟨gm, 21, none⟩)) (some 36) (by rfl) (by rfl) (by kernel_rfl) (by kernel_rfl) (by kernel_rfl) (fun _ _ _ h => h) (.inl ⟨by rfl, fun _ _ => by go_simp⟩) (hHeld) ?_
        simp only [Act.put, List.setIfInBounds_toArray, List.set_cons_zero, List.set_cons_succ]
        refine held_takeD 9 (.slice B2 j2 e2) (some 37) (by rfl) (by rfl) (by kernel_rfl) (by kernel_rfl) (by kernel_rfl) (fun _ _ _ h => h) (.inl ⟨by rfl, fun wS hS => by have hc := unhide Y21 wS hS; go_simp⟩) (hHeld) ?_
        simp only [Act.put, List.setIfInBounds_toArray, List.set_cons_zero, List.set_cons_succ]
        refine held_takeD 10 (.slice A9 k9 c9) (some 38) (by rfl) (by rfl) (by kernel_rfl) (by kernel_rfl) (by kernel_rfl) (fun _ _ _ h => h) (.inl ⟨by rfl, fun _ _ => by rfl⟩) (hHeld) ?_
        simp only [Act.put, List.setIfInBounds_toArray, List.set_cons_zero, List.set_cons_succ]
        refine held_one 11 (by kernel_rfl) (by rfl) (fun K' hK' => ?_)
        go_simp
        refine (unhide HCM).mono ?_
        rintro e w2 ⟨rfl, q2⟩
        refine hK'.out _ _ (eV.trans ((q2.below _).mono eV.size)) ?_
        clear hK' K'
        have d2 : Below V.heap.size V w2 := eV.trans ((q2.below _).mono eV.size)
        refine held_takeD 12 (.bool true) (some 40) (by rfl) (by rfl) (by kernel_rfl) (by kernel_rfl) (by kernel_rfl) (fun _ _ _ h => h) (.inl ⟨by rfl, fun _ _ => by go_simp⟩) (d2) ?_
        simp only [Act.put, List.setIfInBounds_toArray, List.set_cons_zero, List.set_cons_succ]
        refine held_takeD 13 (.bool true) (some 41) (by rfl) (by rfl) (by kernel_rfl) (by kernel_rfl) (by kernel_rfl) (fun _ _ _ h => h) (.inl ⟨by rfl, fun _ _ => by go_simp⟩) (d2) ?_
        simp only [Act.put, List.setIfInBounds_toArray, List.set_cons_zero, List.set_cons_succ]
        refine held_takeD 14 (.bool true) (some 42) (by rfl) (by rfl) (by kernel_rfl) (by kernel_rfl) (by kernel_rfl) (fun _ _ _ h => h) (.inl ⟨by rfl, fun _ _ => by rfl⟩) (d2) ?_
        simp only [Act.put, List.setIfInBounds_toArray, List.set_cons_zero, List.set_cons_succ]
        refine held_takeD 15 undef (some 43) (by rfl) (by rfl) (by kernel_rfl) (by kernel_rfl) (by kernel_rfl) (fun _ _ _ h => h) (.inr ⟨by rfl, rfl⟩) (d2) ?_
        simp only [Act.put, List.setIfInBounds_toArray, List.set_cons_zero, List.set_cons_succ]
        refine held_takeD 16 undef (some 44) (by rfl) (by rfl) (by kernel_rfl) (by kernel_rfl) (by kernel_rfl) (fun _ _ _ h => h) (.inr ⟨by rfl, rfl⟩) (d2) ?_
        simp only [Act.put, List.setIfInBounds_toArray, List.set_cons_zero, List.set_cons_succ]
        refine held_takeD 17 undef (some 45) (by rfl) (by rfl) (by kernel_rfl) (by kernel_rfl) (by kernel_rfl) (fun _ _ _ h => h) (.inr ⟨by rfl, rfl⟩) (d2) ?_
        simp only [Act.put, List.setIfInBounds_toArray, List.set_cons_zero, List.set_cons_succ]
        refine held_takeD 18 undef (some 46) (by rfl) (by rfl) (by kernel_rfl) (by kernel_rfl) (by kernel_rfl) (fun _ _ _ h => h) (.inr ⟨by rfl, rfl⟩) (d2) ?_
        simp only [Act.put, List.setIfInBounds_toArray, List.set_cons_zero, List.set_cons_succ]
        refine held_takeD 19 undef (some 47) (by rfl) (by rfl) (by kernel_rfl) (by kernel_rfl) (by kernel_rfl) (fun _ _ _ h => h) (.inr ⟨by rfl, rfl⟩) (d2) ?_
        simp only [Act.put, List.setIfInBounds_toArray, List.set_cons_zero, List.set_cons_succ]
        refine held_takeD 20 (.bool true) (some 48) (by rfl) (by rfl) (by kernel_rfl) (by kernel_rfl) (by kernel_rfl) (fun _ _ _ h => h) (.inl ⟨by rfl, fun _ _ => by go_simp⟩) (d2) ?_
        simp only [Act.put, List.setIfInBounds_toArray, List.set_cons_zero, List.set_cons_succ]
        refine wpAnyH_done (by kernel_rfl) ?_ _
        refine NoPanic.normal ?_
        go_wp2_with fail
        go_meet
        case rel => exact ⟨⟨_, rfl, fun hh => by cases hh⟩, d2⟩
      case neg =>
        have hcm : decide (cmpI bb v0 < 0) = false := by
          rw [decide_eq_false_iff_not]; unfold cmpI; rw [if_neg hlt]; split <;> omega
        generalize cmpI bb v0 = cz at HCM hcm
        refine wp_region_noPanic ?_
        refine wp_region_held_drew (S := fun w' => Below V.heap.size V w') (by kernel_rfl) (eV) (fun hHeld => ?_)
        refine held_takeD 0 (.pointer (some ⟨bw, 0, none⟩)) (some 28) (by rfl) (by rfl) (by kernel_rfl) (by kernel_rfl) (by kernel_rfl) (fun _ _ _ h => h) (.inl ⟨by rfl, fun _ _ => by rfl⟩) (hHeld) ?_
        simp only [Act.put, List.setIfInBounds_toArray, List.set_cons_zero, List.set_cons_succ]
        refine held_takeD 1 (.pointer (some ⟨bw, 0, none⟩)) (some 29) (by rfl) (by rfl) (by kernel_rfl) (by kernel_rfl) (by kernel_rfl) (fun _ _ _ h => h) (.inl ⟨by rfl, fun _ _ => by go_simp⟩) (hHeld) ?_
        simp only [Act.put, List.setIfInBounds_toArray, List.set_cons_zero, List.set_cons_succ]
        refine held_takeD 2 (.pointer (some ⟨bw, 9, none⟩)) (some 30) (by rfl) (by rfl) (by kernel_rfl) (by kernel_rfl) (by kernel_rfl) (fun _ _ _ h => h) (.inl ⟨by rfl, fun _ _ => by go_simp⟩) (hHeld) ?_
        simp only [Act.put, List.setIfInBounds_toArray, List.set_cons_zero, List.set_cons_succ]
        refine held_takeD 3 (.slice (some ⟨gf, 0, none⟩) nf cap) (some 31) (by rfl) (by rfl) (by kernel_rfl) (by kernel_rfl) (by kernel_rfl) (fun _ _ _ h => h) (.inl ⟨by rfl, fun wS hS => by have hc := unhide Y9 wS hS; go_simp⟩) (hHeld) ?_
        simp only [Act.put, List.setIfInBounds_toArray, List.set_cons_zero, List.set_cons_succ]
        refine held_takeD 4 (.int .i64 nf) (some 32) (by rfl) (by rfl) (by kernel_rfl) (by kernel_rfl) (by kernel_rfl) (fun _ _ _ h => h) (.inl ⟨by rfl, fun _ _ => by go_simp⟩) (hHeld) ?_
        simp only [Act.put, List.setIfInBounds_toArray, List.set_cons_zero, List.set_cons_succ]
        refine held_takeD 5 (.int .i64 nr) (some 33) (by rfl) (by rfl) (by kernel_rfl) (by kernel_rfl) (by kernel_rfl) (fun _ _ _ h => h) (.inl ⟨by rfl, fun _ _ => by go_simp⟩) (hHeld) ?_
        simp only [Act.put, List.setIfInBounds_toArray, List.set_cons_zero, List.set_cons_succ]
        refine held_takeD 6 (.bool false) (some 34) (by rfl) (by rfl) (by kernel_rfl) (by kernel_rfl) (by kernel_rfl) (fun _ _ _ h => h) (.inl ⟨by rfl, fun _ _ => by go_simp⟩) (hHeld) ?_
        simp only [Act.put, List.setIfInBounds_toArray, List.set_cons_zero, List.set_cons_succ]
        refine held_takeD 7 (.bool false) (some 35) (by rfl) (by rfl) (by kernel_rfl) (by kernel_rfl) (by kernel_rfl) (fun _ _ _ h => h) (.inl ⟨by rfl, fun _ _ => by rfl⟩) (hHeld) ?_
        simp only [Act.put, List.setIfInBounds_toArray, List.set_cons_zero, List.set_cons_succ]
        refine held_takeD 8 (.pointer (some ⟨gm, 21, none⟩)) (some 36) (by rfl) (by rfl) (by kernel_rfl) (by kernel_rfl) (by kernel_rfl) (fun _ _ _ h => h) (.inl ⟨by rfl, fun _ _ => by go_simp⟩) (hHeld) ?_
        simp only [Act.put, List.setIfInBounds_toArray, List.set_cons_zero, List.set_cons_succ]
        refine held_takeD 9 (.slice B2 j2 e2) (some 37) (by rfl) (by rfl) (by kernel_rfl) (by kernel_rfl) (by kernel_rfl) (fun _ _ _ h => h) (.inl ⟨by rfl, fun wS hS => by have hc := unhide Y21 wS hS; go_simp⟩) (hHeld) ?_
        simp only [Act.put, List.setIfInBounds_toArray, List.set_cons_zero, List.set_cons_succ]
        refine held_takeD 10 (.slice A9 k9 c9) (some 38) (by rfl) (by rfl) (by kernel_rfl) (by kernel_rfl) (by kernel_rfl) (fun _ _ _ h => h) (.inl ⟨by rfl, fun _ _ => by rfl⟩) (hHeld) ?_
        simp only [Act.put, List.setIfInBounds_toArray, List.set_cons_zero, List.set_cons_succ]
        refine held_one 11 (by kernel_rfl) (by rfl) (fun K' hK' => ?_)
        go_simp
        refine (unhide HCM).mono ?_
        rintro e w2 ⟨rfl, q2⟩
        refine hK'.out _ _ (eV.trans ((q2.below _).mono eV.size)) ?_
        clear hK' K'
        have d2 : Below V.heap.size V w2 := eV.trans ((q2.below _).mono eV.size)
        refine held_takeD 12 (.bool false) (some 40) (by rfl) (by rfl) (by kernel_rfl) (by kernel_rfl) (by kernel_rfl) (fun _ _ _ h => h) (.inl ⟨by rfl, fun _ _ => by go_simp⟩) (d2) ?_
        simp only [Act.put, List.setIfInBounds_toArray, List.set_cons_zero, List.set_cons_succ]
        refine held_takeD 13 (.bool false) (some 41) (by rfl) (by rfl) (by kernel_rfl) (by kernel_rfl) (by kernel_rfl) (fun _ _ _ h => h) (.inl ⟨by rfl, fun _ _ => by go_simp⟩) (d2) ?_
        simp only [Act.put, List.setIfInBounds_toArray, List.set_cons_zero, List.set_cons_succ]
        refine held_takeD 14 (.bool false) (some 42) (by rfl) (by rfl) (by kernel_rfl) (by kernel_rfl) (by kernel_rfl) (fun _ _ _ h => h) (.inl ⟨by rfl, fun _ _ => by rfl⟩) (d2) ?_
        simp only [Act.put, List.setIfInBounds_toArray, List.set_cons_zero, List.set_cons_succ]
        refine held_takeD 15 (.pointer (some ⟨gm, 20, none⟩)) (some 43) (by rfl) (by rfl) (by kernel_rfl) (by kernel_rfl) (by kernel_rfl) (fun _ _ _ h => h) (.inl ⟨by rfl, fun _ _ => by go_simp⟩) (d2) ?_
        simp only [Act.put, List.setIfInBounds_toArray, List.set_cons_zero, List.set_cons_succ]
        refine held_takeD 16 (.slice B1 j1 e1) (some 44) (by rfl) (by rfl) (by kernel_rfl) (by kernel_rfl) (by kernel_rfl) (fun _ _ _ h => h) (.inl ⟨by rfl, fun wS hS => by have hc := unhide Y20 wS hS; go_simp⟩) (d2) ?_
        simp only [Act.put, List.setIfInBounds_toArray, List.set_cons_zero, List.set_cons_succ]
        have HNM := hide (num_any 18446744073709551615 w2 (by omega))
        rw [show ((18446744073709551615 : Nat) : Int) = 18446744073709551615 from rfl] at HNM
        refine held_one 17 (by kernel_rfl) (by rfl) (fun K' hK' => ?_)
        go_simp
        refine (unhide HNM).mono ?_
        rintro e w3 ⟨A3, k3, c3, rfl, n3, N3, b3⟩
        refine hK'.out _ _ (d2.trans (b3.mono d2.size)) ?_
        clear hK' K'
        have d3 : Below V.heap.size V w3 := d2.trans (b3.mono d2.size)
        have HC2 := hide (((unhide K1).kp (ChgS.of d3)).now.cmp n3 hlk.1 (by omega))
        by_cases hge : nn < 18446744073709551615
        case neg =>
          have hc2 : decide (0 ≤ cmpI nn 18446744073709551615) = true := by
            rw [decide_eq_true_eq]; unfold cmpI; rw [if_neg hge]; split <;> omega
          generalize cmpI nn 18446744073709551615 = cy at HC2 hc2
          refine held_one 18 (by kernel_rfl) (by rfl) (fun K' hK' => ?_)
          go_simp
          refine (unhide HC2).mono ?_
          rintro e w4 ⟨rfl, q4⟩
          refine hK'.out _ _ (d3.trans ((q4.below _).mono d3.size)) ?_
          clear hK' K'
          have d4 : Below V.heap.size V w4 := d3.trans ((q4.below _).mono d3.size)
          refine held_takeD 19 (.bool true) (some 47) (by rfl) (by rfl) (by kernel_rfl) (by kernel_rfl) (by kernel_rfl) (fun _ _ _ h => h) (.inl ⟨by rfl, fun _ _ => by go_simp⟩) (d4) ?_
          simp only [Act.put, List.setIfInBounds_toArray, List.set_cons_zero, List.set_cons_succ]
          refine held_takeD 20 (.bool true) (some 48) (by rfl) (by rfl) (by kernel_rfl) (by kernel_rfl) (by kernel_rfl) (fun _ _ _ h => h) (.inl ⟨by rfl, fun _ _ => by go_simp⟩) (d4) ?_
          simp only [Act.put, List.setIfInBounds_toArray, List.set_cons_zero, List.set_cons_succ]
          refine wpAnyH_done (by kernel_rfl) ?_ _
          refine NoPanic.normal ?_
          go_wp2_with fail
          go_meet
          case rel => exact ⟨⟨_, rfl, fun hh => by cases hh⟩, d4⟩
        case pos =>
          have hc2 : cmpI nn 18446744073709551615 = -1 := by unfold cmpI; rw [if_pos hge]
          rw [hc2] at HC2
          clear hc2
          refine held_one 18 (by kernel_rfl) (by rfl) (fun K' hK' => ?_)
          go_simp
          refine (unhide HC2).mono ?_
          rintro e w4 ⟨rfl, q4⟩
          refine hK'.out _ _ (d3.trans ((q4.below _).mono d3.size)) ?_
          clear hK' K'
          have d4 : Below V.heap.size V w4 := d3.trans ((q4.below _).mono d3.size)
          refine held_takeD 19 (.bool false) (some 47) (by rfl) (by rfl) (by kernel_rfl) (by kernel_rfl) (by kernel_rfl) (fun _ _ _ h => h) (.inl ⟨by rfl, fun _ _ => by go_simp⟩) (d4) ?_
          simp only [Act.put, List.setIfInBounds_toArray, List.set_cons_zero, List.set_cons_succ]
          refine held_takeD 20 (.bool false) (some 48) (by rfl) (by rfl) (by kernel_rfl) (by kernel_rfl) (by kernel_rfl) (fun _ _ _ h => h) (.inl ⟨by rfl, fun _ _ => by go_simp⟩) (d4) ?_
          simp only [Act.put, List.setIfInBounds_toArray, List.set_cons_zero, List.set_cons_succ]
          refine wpAnyH_done (by kernel_rfl) ?_ _
          refine NoPanic.normal ?_
          go_wp2_with fail
          go_meet
          case rel => exact ⟨⟨_, rfl, fun _ => ⟨by omega, by omega, hge⟩⟩, d4⟩
    --E2
  case rest =>
  as_aux_lemma =>
  obtain ⟨U, hUe⟩ : ∃ U, U = wc := ⟨_, rfl⟩
  subst hUe
  obtain ⟨⟨b48, rfl, hb48⟩, dU⟩ := hcut
  have d0U : Below w.heap.size w U := b9.trans ((dV.trans (dU.mono dV.size)).mono b9.size)
  have hsU := (unhide HSR).kept d0U
  have hxr : ({ x with ret := [] } : XD) = x := by have := unhide HRET; cases x; simp_all
  have HXR := hide hxr
  have HSU := hide hsU
  have HRMU := hide ((unhide HRM).kept dU)
  have K9U := hide ((unhide K9).kp (ChgS.of dU))
  have K1U := hide ((unhide K1).kp (ChgS.of dU))
  have HGR0 := hide (Gr.refl (unhide HG).snd 20000)
  clear hsU hxr
  cases b48 with
  | true =>
    --S3
    as_aux_lemma =>
    have hfxU := (unhide HSU).fx
    rw [← unhide HO] at hfxU
    have HAN := hide (hfxU.answer tk htk (by omega) (unhide HAF).pc none 0 0 0 (KNat.nil G U))
    clear hfxU
    go_wp2_with (go_at_call 208; refine (unhide HAN).mono ?_; rintro e w14 ⟨rfl, fr14, hfx14, hfl14, hfe14, hch14⟩; have HFX14 := hide hfx14; have HFE14 := hide hfe14; have HFL14 := hide hfl14; have HCH14 := hide hch14; clear hfx14 hfe14 hfl14 hch14)
    refine bodyPost_ret (results_none rfl _ _ _) rfl ?_
    have hfx14 := unhide HFX14
    have hfe14 := unhide HFE14
    rw [unhide HO] at hfx14 hfe14
    have hsr14 := (unhide HSU).top hfx14 (unhide HFL14) (fun i hi => hfe14 i (.inl hi)) (unhide HCH14)
    have m14 : Mv G w w14 := (Mv.of d0U).trans (Mv.frame (unhide HSU).row (unhide HSU).g (unhide HCH14))
    exact ⟨rfl, G, gf, cs, fr14, d, Wider.refl _ _, m14, unhide HGR0, .inl ⟨f.gas, Nat.le_add_right _ _, hsr14⟩⟩
    --E3
  | false =>
  as_aux_lemma =>
  obtain ⟨h6, hvb, hnn⟩ := hb48 rfl
  have hfxU := (unhide HSU).fx
  rw [← unhide HO] at hfxU
  have hT : Ther G U := hfxU.ther
  have hargs : ∀ i : Nat, i ≤ 1024 → ∀ wz, Below U.heap.size U wz → Calls Sakg.prog 118 #[.pointer (some ⟨gf, o, none⟩), .int .i64 i] wz fun e w' => (∃ A k c, e = .returned (.slice A k c) ∧ KNat G U A k c (argN f.stk i)) ∧ Below wz.heap.size wz w' := fun i hi wz hz => (hfxU.argAt hz (by omega) i hi).mono fun e w' h => ⟨h.1, h.2.below _⟩
  have ha1 := hargs 1 (by omega)
  have ha2 := hargs 2 (by omega)
  rw [show ((1 : Nat) : Int) = 1 from rfl] at ha1
  rw [show ((2 : Nat) : Int) = 2 from rfl] at ha2
  have hm1 := unhide HS 1
  generalize hg1 : argN f.stk 1 = m1 at ha1 hm1
  generalize hg2 : argN f.stk 2 = n2 at ha2 hinit
  have HA1 := hide ha1
  have HA2 := hide ha2
  have HNO : ∀ wz, Below U.heap.size U wz → Hid (Calls Sakg.prog 90 #[.slice A9 k9 c9] wz (MakesNat wz v0)) := fun wz hz => hide (norm_knat A9 k9 c9 v0 wz ((unhide K9U).kp (ChgS.of hz)).now (by omega))
  have hsR5 : ∀ wz, Below U.heap.size U wz → wz.rangeAt gf (o + 12) (bv sf) := fun wz hz => unhide HSLF wz ((unhide HSU).row.kept hz)
  have HR5 := hide hsR5
  have HFU := hide hfxU
  have eU : Below U.heap.size U U.drew := Quiet.below ⟨1, rfl⟩ _
  have hz20A : IsAddr (zeros 20) := zeros_isAddr
  clear hfxU hargs ha1 ha2 hg1 hg2 hsR5
  go_upto_region 5 with fail
  go_cut [11] (fun s11 wc => ∃ (gb : Nat) (AN : Option Addr) (kN cN : Nat) (AR : Option Addr) (cR : Nat) (ys : List Int), s11 = .pointer (some ⟨gb, 0, none⟩) ∧ RowT 194 wc gb (rowOf (cells12 5 false (.slice AN kN cN) (.slice AR n2 cR)) (zeros 20) sf) ∧ KNat (Plus G gb) wc AN kN cN v0 ∧ KSrc (Plus G gb) wc AR n2 cR ys ∧ Below U.heap.size U wc ∧ U.heap.size ≤ gb)
  case first =>
    --S4
    refine wp_region_noPanic ?_
    refine wp_region_held_drew (S := fun w' => Below U.heap.size U w') (by kernel_rfl) (eU) (fun hHeld => ?_)
    refine held_takeD 0 (.slice A9 k9 c9) (some 52) (by rfl) (by rfl) (by kernel_rfl) (by kernel_rfl) (by kernel_rfl) (fun _ _ _ h => h) (.inl ⟨by rfl, fun _ _ => by rfl⟩) (hHeld) ?_
    simp only [Act.put, List.setIfInBounds_toArray, List.set_cons_zero, List.set_cons_succ]
    refine held_takeD 2 (.pointer (some ⟨gf, o, none⟩)) (some 54) (by rfl) (by rfl) (by kernel_rfl) (by kernel_rfl) (by kernel_rfl) (fun _ _ _ h => h) (.inl ⟨by rfl, fun _ _ => by rfl⟩) (hHeld) ?_
    simp only [Act.put, List.setIfInBounds_toArray, List.set_cons_zero, List.set_cons_succ]
    refine held_takeD 3 (.pointer (some ⟨gf, o, none⟩)) (some 55) (by rfl) (by rfl) (by kernel_rfl) (by kernel_rfl) (by kernel_rfl) (fun _ _ _ h => h) (.inl ⟨by rfl, fun _ _ => by go_simp⟩) (hHeld) ?_
    simp only [Act.put, List.setIfInBounds_toArray, List.set_cons_zero, List.set_cons_succ]
    refine held_takeD 4 (.pointer (some ⟨gf, o + 12, none⟩)) (some 56) (by rfl) (by rfl) (by kernel_rfl) (by kernel_rfl) (by kernel_rfl) (fun _ _ _ h => h) (.inl ⟨by rfl, fun _ _ => by go_simp⟩) (hHeld) ?_
    simp only [Act.put, List.setIfInBounds_toArray, List.set_cons_zero, List.set_cons_succ]
    refine held_takeD 5 (.agg (bv sf).toArray) (some 57) (by rfl) (by rfl) (by kernel_rfl) (by kernel_rfl) (by kernel_rfl) (fun _ _ _ h => h) (yieldsIf_load_mid (by rfl) _ _ rfl _ _ rfl _ _ (fun wz hS => unhide HR5 wz hS) hu rfl hsz) (hHeld) ?_
    simp only [Act.put, List.setIfInBounds_toArray, List.set_cons_zero, List.set_cons_succ]
    refine held_takeD 6 (.pointer (some ⟨gf, o, none⟩)) (some 58) (by rfl) (by rfl) (by kernel_rfl) (by kernel_rfl) (by kernel_rfl) (fun _ _ _ h => h) (.inl ⟨by rfl, fun _ _ => by rfl⟩) (hHeld) ?_
    simp only [Act.put, List.setIfInBounds_toArray, List.set_cons_zero, List.set_cons_succ]
    refine held_takeD 7 (.pointer (some ⟨gf, o, none⟩)) (some 59) (by rfl) (by rfl) (by kernel_rfl) (by kernel_rfl) (by kernel_rfl) (fun _ _ _ h => h) (.inl ⟨by rfl, fun _ _ => by rfl⟩) (hHeld) ?_
    simp only [Act.put, List.setIfInBounds_toArray, List.set_cons_zero, List.set_cons_succ]
    refine held_takeD 9 (.pointer (some ⟨gf, o, none⟩)) (some 61) (by rfl) (by rfl) (by kernel_rfl) (by kernel_rfl) (by kernel_rfl) (fun _ _ _ h => h) (.inl ⟨by rfl, fun _ _ => by rfl⟩) (hHeld) ?_
    simp only [Act.put, List.setIfInBounds_toArray, List.set_cons_zero, List.set_cons_succ]
    refine held_two 1 13 (by kernel_rfl) (by rfl) (by rfl) (fun K' hK' => ?_) (fun K' hK' => ?_)
    · go_simp
      refine (unhide (HNO _ eU)).mono ?_
      rintro e wN ⟨AN, kN, cN, rfl, nN, NnN, bN⟩
      have dN := eU.trans (bN.mono eU.size)
      refine hK'.out _ _ (dN) ?_
      clear hK' K'
      refine held_two 8 13 (by kernel_rfl) (by rfl) (by rfl) (fun K' hK' => ?_) (fun K' hK' => ?_)
      · go_simp
        refine (unhide HA1 _ dN).mono ?_
        rintro e wa ⟨⟨Aa, ka, ca, rfl, na⟩, ba⟩
        have da := dN.trans (ba.mono dN.size)
        refine hK'.out _ _ (da) ?_
        clear hK' K'
        refine held_two 10 13 (by kernel_rfl) (by rfl) (by rfl) (fun K' hK' => ?_) (fun K' hK' => ?_)
        · go_simp
          refine (unhide HA2 _ da).mono ?_
          rintro e wq ⟨⟨Ab, kb, cb, rfl, nb⟩, bq⟩
          have dq := da.trans (bq.mono da.size)
          refine hK'.out _ _ (dq) ?_
          clear hK' K'
          refine held_two 11 13 (by kernel_rfl) (by rfl) (by rfl) (fun K' hK' => ?_) (fun K' hK' => ?_)
          · go_simp
            refine (((unhide HFU).kept dq).read hml Aa Ab ka ca kb cb m1 n2 (na.kp (ChgS.of dq)).now (nb.kp (ChgS.of dq)).now (by omega) (by omega)).mono ?_
            rintro e wR ⟨AR, cR, ys, rfl, sR, NR, bR⟩
            have dR := dq.trans (bR.mono dq.size)
            refine hK'.out _ _ (dR) ?_
            clear hK' K'
            refine held_takeD 12 (.agg (rowOf (cells12 5 false (.slice AN kN cN) (.slice AR n2 cR)) (zeros 20) sf).toArray) (some 64) (by rfl) (by rfl) (by kernel_rfl) (by kernel_rfl) (by kernel_rfl) (fun _ _ _ h => h) (yieldsIf_build (by rfl) 194 [(0, .const (.int .u8 5)), (5, .tmp 53), (13, .tmp 57), (10, .tmp 63)] rfl _ (fun wx => run_create wx AN kN cN AR n2 cR sf hslf)) (dR) ?_
            simp only [Act.put, List.setIfInBounds_toArray, List.set_cons_zero, List.set_cons_succ]
            refine held_one 13 (by kernel_rfl) (by rfl) (fun K' hK' => ?_)
            refine if_alloc (some 11) rfl 194 rfl (by rfl) zeroF 60 infoFrame2 zeroF_len (fun wA rA bA sA => ?_)
            have dA := dR.trans (bA.mono dR.size)
            refine hK'.out _ _ (dA) ?_
            clear hK' K'
            simp only [Act.put, List.setIfInBounds_toArray, List.set_cons_zero, List.set_cons_succ]
            refine held_one 14 (by kernel_rfl) (by rfl) (fun K' hK' => ?_)
            refine if_store rfl (by rfl) 194 (.tmp 11) (.tmp 64) rfl wR.heap.size 0 194 _ (rowOf (cells12 5 false (.slice AN kN cN) (.slice AR n2 cR)) (zeros 20) sf) rfl rfl rA (by rw [rowOf_len rfl hz20A hslf, zeroF_len]; omega) (by rw [rowOf_len rfl hz20A hslf]; exact sizeFrame) (row_one rfl (by simp [cells12, Value.oneCell'])) (fun wS rS oS => ?_)
            have dS : Below U.heap.size U wS := dA.trans (oS.below _ (by have := eU.size; have := dN.size; have := da.size; have := dq.size; have := dR.size; have := dA.size; first | exact Nat.le_refl _ | omega))
            refine hK'.out _ _ (dS) ?_
            clear hK' K'
            refine wpAnyH_done (by kernel_rfl) ?_ _
            refine NoPanic.normal ?_
            rw [spl_all _ _ (by rw [rowOf_len rfl hz20A hslf, zeroF_len])] at rS
            have zU : U.drew.heap.size = U.heap.size := rfl
            have zN := bN.size
            have za := ba.size
            have zq := bq.size
            have zR := bR.size
            have zA := bA.size
            have hkN : KNat (Plus G (wR.heap.size)) wS AN kN cN v0 := knat_box nN NnN (hT.go eU.size) (by omega) ((ChgS.of (G := Plus G wR.heap.size) (((ba.trans (bq.mono ba.size)).trans (bR.mono (ba.trans (bq.mono ba.size)).size)).trans (bA.mono ((ba.trans (bq.mono ba.size)).trans (bR.mono (ba.trans (bq.mono ba.size)).size)).size))).trans (ChgS.only oS (.inr rfl)))
            have hkR : KSrc (Plus G (wR.heap.size)) wS AR n2 cR ys := ksrc_box sR NR (hT.go dq.size) (by omega) ((ChgS.of (G := Plus G wR.heap.size) bA).trans (ChgS.only oS (.inr rfl)))
            have HKN := hide hkN
            have HKR := hide hkR
            have HRS := hide rS
            clear hkN hkR rS nN sR na nb rA
            go_wp2_with fail
            go_meet
            exact ⟨_, AN, kN, cN, AR, cR, ys, rfl, unhide HRS, unhide HKN, unhide HKR, dS, by omega⟩
          · refine if_alloc (some 11) rfl 194 rfl (by rfl) zeroF 60 infoFrame2 zeroF_len (fun wA rA bA sA => ?_)
            have dA := dq.trans (bA.mono dq.size)
            refine hK'.out _ _ (dA) ?_
            clear hK' K'
            simp only [Act.put, List.setIfInBounds_toArray, List.set_cons_zero, List.set_cons_succ]
            refine held_one 11 (by kernel_rfl) (by rfl) (fun K' hK' => ?_)
            go_simp
            refine (((unhide HFU).kept dA).read hml Aa Ab ka ca kb cb m1 n2 (na.kp (ChgS.of dA)).now (nb.kp (ChgS.of dA)).now (by omega) (by omega)).mono ?_
            rintro e wR ⟨AR, cR, ys, rfl, sR, NR, bR⟩
            have dR := dA.trans (bR.mono dA.size)
            refine hK'.out _ _ (dR) ?_
            clear hK' K'
            refine held_takeD 12 (.agg (rowOf (cells12 5 false (.slice AN kN cN) (.slice AR n2 cR)) (zeros 20) sf).toArray) (some 64) (by rfl) (by rfl) (by kernel_rfl) (by kernel_rfl) (by kernel_rfl) (fun _ _ _ h => h) (yieldsIf_build (by rfl) 194 [(0, .const (.int .u8 5)), (5, .tmp 53), (13, .tmp 57), (10, .tmp 63)] rfl _ (fun wx => run_create wx AN kN cN AR n2 cR sf hslf)) (dR) ?_
            simp only [Act.put, List.setIfInBounds_toArray, List.set_cons_zero, List.set_cons_succ]
            refine held_one 14 (by kernel_rfl) (by rfl) (fun K' hK' => ?_)
            refine if_store rfl (by rfl) 194 (.tmp 11) (.tmp 64) rfl wq.heap.size 0 194 _ (rowOf (cells12 5 false (.slice AN kN cN) (.slice AR n2 cR)) (zeros 20) sf) rfl rfl (rA.kept bR) (by rw [rowOf_len rfl hz20A hslf, zeroF_len]; omega) (by rw [rowOf_len rfl hz20A hslf]; exact sizeFrame) (row_one rfl (by simp [cells12, Value.oneCell'])) (fun wS rS oS => ?_)
            have dS : Below U.heap.size U wS := dR.trans (oS.below _ (by have := eU.size; have := dN.size; have := da.size; have := dq.size; have := dA.size; have := dR.size; first | exact Nat.le_refl _ | omega))
            refine hK'.out _ _ (dS) ?_
            clear hK' K'
            refine wpAnyH_done (by kernel_rfl) ?_ _
            refine NoPanic.normal ?_
            rw [spl_all _ _ (by rw [rowOf_len rfl hz20A hslf, zeroF_len])] at rS
            have zU : U.drew.heap.size = U.heap.size := rfl
            have zN := bN.size
            have za := ba.size
            have zq := bq.size
            have zA := bA.size
            have zR := bR.size
            have hkN : KNat (Plus G (wq.heap.size)) wS AN kN cN v0 := knat_box nN NnN (hT.go eU.size) (by omega) ((ChgS.of (G := Plus G wq.heap.size) (((ba.trans (bq.mono ba.size)).trans (bA.mono (ba.trans (bq.mono ba.size)).size)).trans (bR.mono ((ba.trans (bq.mono ba.size)).trans (bA.mono (ba.trans (bq.mono ba.size)).size)).size))).trans (ChgS.only oS (.inr rfl)))
            have hkR : KSrc (Plus G (wq.heap.size)) wS AR n2 cR ys := ksrc_box sR NR (hT.go dA.size) (by omega) (ChgS.only oS (.inr rfl))
            have HKN := hide hkN
            have HKR := hide hkR
            have HRS := hide rS
            clear hkN hkR rS nN sR na nb rA
            go_wp2_with fail
            go_meet
            exact ⟨_, AN, kN, cN, AR, cR, ys, rfl, unhide HRS, unhide HKN, unhide HKR, dS, by omega⟩
        · refine if_alloc (some 11) rfl 194 rfl (by rfl) zeroF 60 infoFrame2 zeroF_len (fun wA rA bA sA => ?_)
          have dA := da.trans (bA.mono da.size)
          refine hK'.out _ _ (dA) ?_
          clear hK' K'
          simp only [Act.put, List.setIfInBounds_toArray, List.set_cons_zero, List.set_cons_succ]
          refine held_one 10 (by kernel_rfl) (by rfl) (fun K' hK' => ?_)
          go_simp
          refine (unhide HA2 _ dA).mono ?_
          rintro e wq ⟨⟨Ab, kb, cb, rfl, nb⟩, bq⟩
          have dq := dA.trans (bq.mono dA.size)
          refine hK'.out _ _ (dq) ?_
          clear hK' K'
          refine held_one 11 (by kernel_rfl) (by rfl) (fun K' hK' => ?_)
          go_simp
          refine (((unhide HFU).kept dq).read hml Aa Ab ka ca kb cb m1 n2 (na.kp (ChgS.of dq)).now (nb.kp (ChgS.of dq)).now (by omega) (by omega)).mono ?_
          rintro e wR ⟨AR, cR, ys, rfl, sR, NR, bR⟩
          have dR := dq.trans (bR.mono dq.size)
          refine hK'.out _ _ (dR) ?_
          clear hK' K'
          refine held_takeD 12 (.agg (rowOf (cells12 5 false (.slice AN kN cN) (.slice AR n2 cR)) (zeros 20) sf).toArray) (some 64) (by rfl) (by rfl) (by kernel_rfl) (by kernel_rfl) (by kernel_rfl) (fun _ _ _ h => h) (yieldsIf_build (by rfl) 194 [(0, .const (.int .u8 5)), (5, .tmp 53), (13, .tmp 57), (10, .tmp 63)] rfl _ (fun wx => run_create wx AN kN cN AR n2 cR sf hslf)) (dR) ?_
          simp only [Act.put, List.setIfInBounds_toArray, List.set_cons_zero, List.set_cons_succ]
          refine held_one 14 (by kernel_rfl) (by rfl) (fun K' hK' => ?_)
          refine if_store rfl (by rfl) 194 (.tmp 11) (.tmp 64) rfl wa.heap.size 0 194 _ (rowOf (cells12 5 false (.slice AN kN cN) (.slice AR n2 cR)) (zeros 20) sf) rfl rfl (rA.kept (bq.trans (bR.mono bq.size))) (by rw [rowOf_len rfl hz20A hslf, zeroF_len]; omega) (by rw [rowOf_len rfl hz20A hslf]; exact sizeFrame) (row_one rfl (by simp [cells12, Value.oneCell'])) (fun wS rS oS => ?_)
          have dS : Below U.heap.size U wS := dR.trans (oS.below _ (by have := eU.size; have := dN.size; have := da.size; have := dA.size; have := dq.size; have := dR.size; first | exact Nat.le_refl _ | omega))
          refine hK'.out _ _ (dS) ?_
          clear hK' K'
          refine wpAnyH_done (by kernel_rfl) ?_ _
          refine NoPanic.normal ?_
          rw [spl_all _ _ (by rw [rowOf_len rfl hz20A hslf, zeroF_len])] at rS
          have zU : U.drew.heap.size = U.heap.size := rfl
          have zN := bN.size
          have za := ba.size
          have zA := bA.size
          have zq := bq.size
          have zR := bR.size
          have hkN : KNat (Plus G (wa.heap.size)) wS AN kN cN v0 := knat_box nN NnN (hT.go eU.size) (by omega) ((ChgS.of (G := Plus G wa.heap.size) (((ba.trans (bA.mono ba.size)).trans (bq.mono (ba.trans (bA.mono ba.size)).size)).trans (bR.mono ((ba.trans (bA.mono ba.size)).trans (bq.mono (ba.trans (bA.mono ba.size)).size)).size))).trans (ChgS.only oS (.inr rfl)))
          have hkR : KSrc (Plus G (wa.heap.size)) wS AR n2 cR ys := ksrc_box sR NR (hT.go dq.size) (by omega) (ChgS.only oS (.inr rfl))
          have HKN := hide hkN
          have HKR := hide hkR
          have HRS := hide rS
          clear hkN hkR rS nN sR na nb rA
          go_wp2_with fail
          go_meet
          exact ⟨_, AN, kN, cN, AR, cR, ys, rfl, unhide HRS, unhide HKN, unhide HKR, dS, by omega⟩
      · refine if_alloc (some 11) rfl 194 rfl (by rfl) zeroF 60 infoFrame2 zeroF_len (fun wA rA bA sA => ?_)
        have dA := dN.trans (bA.mono dN.size)
        refine hK'.out _ _ (dA) ?_
        clear hK' K'
        simp only [Act.put, List.setIfInBounds_toArray, List.set_cons_zero, List.set_cons_succ]
        refine held_one 8 (by kernel_rfl) (by rfl) (fun K' hK' => ?_)
        go_simp
        refine (unhide HA1 _ dA).mono ?_
        rintro e wa ⟨⟨Aa, ka, ca, rfl, na⟩, ba⟩
        have da := dA.trans (ba.mono dA.size)
        refine hK'.out _ _ (da) ?_
        clear hK' K'
        refine held_one 10 (by kernel_rfl) (by rfl) (fun K' hK' => ?_)
        go_simp
        refine (unhide HA2 _ da).mono ?_
        rintro e wq ⟨⟨Ab, kb, cb, rfl, nb⟩, bq⟩
        have dq := da.trans (bq.mono da.size)
        refine hK'.out _ _ (dq) ?_
        clear hK' K'
        refine held_one 11 (by kernel_rfl) (by rfl) (fun K' hK' => ?_)
        go_simp
        refine (((unhide HFU).kept dq).read hml Aa Ab ka ca kb cb m1 n2 (na.kp (ChgS.of dq)).now (nb.kp (ChgS.of dq)).now (by omega) (by omega)).mono ?_
        rintro e wR ⟨AR, cR, ys, rfl, sR, NR, bR⟩
        have dR := dq.trans (bR.mono dq.size)
        refine hK'.out _ _ (dR) ?_
        clear hK' K'
        refine held_takeD 12 (.agg (rowOf (cells12 5 false (.slice AN kN cN) (.slice AR n2 cR)) (zeros 20) sf).toArray) (some 64) (by rfl) (by rfl) (by kernel_rfl) (by kernel_rfl) (by kernel_rfl) (fun _ _ _ h => h) (yieldsIf_build (by rfl) 194 [(0, .const (.int .u8 5)), (5, .tmp 53), (13, .tmp 57), (10, .tmp 63)] rfl _ (fun wx => run_create wx AN kN cN AR n2 cR sf hslf)) (dR) ?_
        simp only [Act.put, List.setIfInBounds_toArray, List.set_cons_zero, List.set_cons_succ]
        refine held_one 14 (by kernel_rfl) (by rfl) (fun K' hK' => ?_)
        refine if_store rfl (by rfl) 194 (.tmp 11) (.tmp 64) rfl wN.heap.size 0 194 _ (rowOf (cells12 5 false (.slice AN kN cN) (.slice AR n2 cR)) (zeros 20) sf) rfl rfl (rA.kept ((ba.trans (bq.mono ba.size)).trans (bR.mono (ba.trans (bq.mono ba.size)).size))) (by rw [rowOf_len rfl hz20A hslf, zeroF_len]; omega) (by rw [rowOf_len rfl hz20A hslf]; exact sizeFrame) (row_one rfl (by simp [cells12, Value.oneCell'])) (fun wS rS oS => ?_)
        have dS : Below U.heap.size U wS := dR.trans (oS.below _ (by have := eU.size; have := dN.size; have := dA.size; have := da.size; have := dq.size; have := dR.size; first | exact Nat.le_refl _ | omega))
        refine hK'.out _ _ (dS) ?_
        clear hK' K'
        refine wpAnyH_done (by kernel_rfl) ?_ _
        refine NoPanic.normal ?_
        rw [spl_all _ _ (by rw [rowOf_len rfl hz20A hslf, zeroF_len])] at rS
        have zU : U.drew.heap.size = U.heap.size := rfl
        have zN := bN.size
        have zA := bA.size
        have za := ba.size
        have zq := bq.size
        have zR := bR.size
        have hkN : KNat (Plus G (wN.heap.size)) wS AN kN cN v0 := knat_box nN NnN (hT.go eU.size) (by omega) ((ChgS.of (G := Plus G wN.heap.size) (((bA.trans (ba.mono bA.size)).trans (bq.mono (bA.trans (ba.mono bA.size)).size)).trans (bR.mono ((bA.trans (ba.mono bA.size)).trans (bq.mono (bA.trans (ba.mono bA.size)).size)).size))).trans (ChgS.only oS (.inr rfl)))
        have hkR : KSrc (Plus G (wN.heap.size)) wS AR n2 cR ys := ksrc_box sR NR (hT.go dq.size) (by omega) (ChgS.only oS (.inr rfl))
        have HKN := hide hkN
        have HKR := hide hkR
        have HRS := hide rS
        clear hkN hkR rS nN sR na nb rA
        go_wp2_with fail
        go_meet
        exact ⟨_, AN, kN, cN, AR, cR, ys, rfl, unhide HRS, unhide HKN, unhide HKR, dS, by omega⟩
    · refine if_alloc (some 11) rfl 194 rfl (by rfl) zeroF 60 infoFrame2 zeroF_len (fun wA rA bA sA => ?_)
      have dA := eU.trans (bA.mono eU.size)
      refine hK'.out _ _ (dA) ?_
      clear hK' K'
      simp only [Act.put, List.setIfInBounds_toArray, List.set_cons_zero, List.set_cons_succ]
      refine held_one 1 (by kernel_rfl) (by rfl) (fun K' hK' => ?_)
      go_simp
      refine (unhide (HNO _ dA)).mono ?_
      rintro e wN ⟨AN, kN, cN, rfl, nN, NnN, bN⟩
      have dN := dA.trans (bN.mono dA.size)
      refine hK'.out _ _ (dN) ?_
      clear hK' K'
      refine held_one 8 (by kernel_rfl) (by rfl) (fun K' hK' => ?_)
      go_simp
      refine (unhide HA1 _ dN).mono ?_
      rintro e wa ⟨⟨Aa, ka, ca, rfl, na⟩, ba⟩
      have da := dN.trans (ba.mono dN.size)
      refine hK'.out _ _ (da) ?_
      clear hK' K'
      refine held_one 10 (by kernel_rfl) (by rfl) (fun K' hK' => ?_)
      go_simp
      refine (unhide HA2 _ da).mono ?_
      rintro e wq ⟨⟨Ab, kb, cb, rfl, nb⟩, bq⟩
      have dq := da.trans (bq.mono da.size)
      refine hK'.out _ _ (dq) ?_
      clear hK' K'
      refine held_one 11 (by kernel_rfl) (by rfl) (fun K' hK' => ?_)
      go_simp
      refine (((unhide HFU).kept dq).read hml Aa Ab ka ca kb cb m1 n2 (na.kp (ChgS.of dq)).now (nb.kp (ChgS.of dq)).now (by omega) (by omega)).mono ?_
      rintro e wR ⟨AR, cR, ys, rfl, sR, NR, bR⟩
      have dR := dq.trans (bR.mono dq.size)
      refine hK'.out _ _ (dR) ?_
      clear hK' K'
      refine held_takeD 12 (.agg (rowOf (cells12 5 false (.slice AN kN cN) (.slice AR n2 cR)) (zeros 20) sf).toArray) (some 64) (by rfl) (by rfl) (by kernel_rfl) (by kernel_rfl) (by kernel_rfl) (fun _ _ _ h => h) (yieldsIf_build (by rfl) 194 [(0, .const (.int .u8 5)), (5, .tmp 53), (13, .tmp 57), (10, .tmp 63)] rfl _ (fun wx => run_create wx AN kN cN AR n2 cR sf hslf)) (dR) ?_
      simp only [Act.put, List.setIfInBounds_toArray, List.set_cons_zero, List.set_cons_succ]
      refine held_one 14 (by kernel_rfl) (by rfl) (fun K' hK' => ?_)
      refine if_store rfl (by rfl) 194 (.tmp 11) (.tmp 64) rfl U.drew.heap.size 0 194 _ (rowOf (cells12 5 false (.slice AN kN cN) (.slice AR n2 cR)) (zeros 20) sf) rfl rfl (rA.kept (((bN.trans (ba.mono bN.size)).trans (bq.mono (bN.trans (ba.mono bN.size)).size)).trans (bR.mono ((bN.trans (ba.mono bN.size)).trans (bq.mono (bN.trans (ba.mono bN.size)).size)).size))) (by rw [rowOf_len rfl hz20A hslf, zeroF_len]; omega) (by rw [rowOf_len rfl hz20A hslf]; exact sizeFrame) (row_one rfl (by simp [cells12, Value.oneCell'])) (fun wS rS oS => ?_)
      have dS : Below U.heap.size U wS := dR.trans (oS.below _ (by have := eU.size; have := dA.size; have := dN.size; have := da.size; have := dq.size; have := dR.size; first | exact Nat.le_refl _ | omega))
      refine hK'.out _ _ (dS) ?_
      clear hK' K'
      refine wpAnyH_done (by kernel_rfl) ?_ _
      refine NoPanic.normal ?_
      rw [spl_all _ _ (by rw [rowOf_len rfl hz20A hslf, zeroF_len])] at rS
      have zU : U.drew.heap.size = U.heap.size := rfl
      have zA := bA.size
      have zN := bN.size
      have za := ba.size
      have zq := bq.size
      have zR := bR.size
      have hkN : KNat (Plus G (U.drew.heap.size)) wS AN kN cN v0 := knat_box nN NnN (hT.go dA.size) (by omega) ((ChgS.of (G := Plus G U.drew.heap.size) ((ba.trans (bq.mono ba.size)).trans (bR.mono (ba.trans (bq.mono ba.size)).size))).trans (ChgS.only oS (.inr rfl)))
      have hkR : KSrc (Plus G (U.drew.heap.size)) wS AR n2 cR ys := ksrc_box sR NR (hT.go dq.size) (by omega) (ChgS.only oS (.inr rfl))
      have HKN := hide hkN
      have HKR := hide hkR
      have HRS := hide rS
      clear hkN hkR rS nN sR na nb rA
      go_wp2_with fail
      go_meet
      exact ⟨_, AN, kN, cN, AR, cR, ys, rfl, unhide HRS, unhide HKN, unhide HKR, dS, by omega⟩
    --E4
  case rest =>
  as_aux_lemma =>
  obtain ⟨w5, hw5⟩ : ∃ w5, w5 = wc := ⟨_, rfl⟩
  subst hw5
  obtain ⟨gb, AN, kN, cN, AR, cR, ys, rfl, hrb, hkN, hkR, d5, hgb⟩ := hcut
  obtain ⟨E, hE⟩ : ∃ E, E = Plus G gb := ⟨_, rfl⟩
  have hEG : ∀ i, E i → i < U.heap.size → G i := by rw [hE]; exact plus_new hgb
  have hGE : ∀ i, G i → E i := fun i hi => by rw [hE]; exact .inl hi
  have hEb : E gb := by rw [hE]; exact .inr rfl
  have hTE : Ther E w5 := by rw [hE]; exact (hT.go d5.size).plus hrb.lt
  rw [← hE] at hkN hkR
  have hgml : gm < U.heap.size := (unhide HRMU).lt
  have hEm : ¬ E gm := fun hh => by
    have h1 := (unhide HSW).cw.ther _ (hEG _ hh hgml)
    omega
  have hsr5 := (unhide HSU).lift d5 hEG hGE hTE
  have hn2l : ys.length = n2 := hkR.now.len_eq
  obtain ⟨fb, hfb⟩ : ∃ fb, fb = rowOf (cells12 5 false (.slice AN kN cN) (.slice AR n2 cR)) (zeros 20) sf := ⟨_, rfl⟩
  have hfbl : fb.length = 60 := by rw [hfb]; exact rowOf_len rfl hz20A hslf
  have hfb10 : fb[10]? = some (.slice AR n2 cR) := by rw [hfb, rowOf_lo rfl (by omega)]; rfl
  have hfx5 : FX E gb 0 fb (childF 5 false v0 ys (zeros 20) sf) w5 := by
    rw [← hfb] at hrb
    refine ⟨hrb, by omega, hEb, hTE, ?_⟩
    have hk := KF.child 5 false hkN hkR hz20A hslf
    rw [← hfb] at hk
    exact hk.eq (fun i hi => by unfold cellsAt; rw [Nat.zero_add])
  have hK1 := StabS.kp (StabS.to (unhide K1U) hEG) (ChgS.of (G := E) d5)
  have hrm5 := (unhide HRMU).kept d5
  have z0U := d0U.size
  have hgbf : gb ≠ gf := by omega
  have hgbb : gb ≠ bw := by omega
  have hwid : ∀ (G' : Nat → Prop) (wz : World), Wider E G' wz → w5.heap.size ≤ wz.heap.size → Wider G G' w := fun G' wz hh hz => ⟨fun i hi => hh.sub i (hGE i hi), fun i hi hl => by
    have z0 := d0U.size
    have z5 := d5.size
    exact hEG i (hh.new i hi (by omega)) (by omega)⟩
  have hmv : ∀ wz, Mv E w5 wz → Mv G w wz := fun wz hh => ((Mv.of d0U).trans (Mv.of d5)).then hh (fun i hi hl => by
    have z0 := d0U.size
    exact hEG i hi (by omega))
  have HWID := hide hwid
  have HMV := hide hmv
  have HSR5 := hide hsr5
  have HFX5 := hide hfx5
  have HKR5 := hide hkR
  have HK15 := hide hK1
  have HRM5 := hide hrm5
  have HB10 := hide hfb10
  have e5 : Below w5.heap.size w5 w5.drew := Quiet.below ⟨1, rfl⟩ _
  have HCA := hide (createAddr_any sf B1 j1 e1 nn w5.drew hslf ((StabS.kp hK1 (ChgS.of e5)).now) hlk.1)
  clear hE hEG hGE hTE hrb hkN hkR hsr5 hfb hfx5 hK1 hrm5 hwid hmv hfb10
  go_upto_region 6 with fail
  refine wp_region_noPanic ?_
  refine wp_region_held_drew (S := fun w' => ChgS E w5 w' ∧ RowT 194 w' gf fr ∧ RowT 113 w' gm rm) (by kernel_rfl) (⟨ChgS.of e5, (unhide HSR5).row.kept e5, (unhide HRM5).kept e5⟩) (fun hHeld => ?_)
  refine held_takeD 0 (.pointer (some ⟨gf, o, none⟩)) (some 65) (by rfl) (by rfl) (by kernel_rfl) (by kernel_rfl) (by kernel_rfl) (fun _ _ _ h => h) (.inl ⟨by rfl, fun _ _ => by rfl⟩) (hHeld) ?_
  simp only [Act.put, List.setIfInBounds_toArray, List.set_cons_zero, List.set_cons_succ]
  refine held_takeD 1 (.pointer (some ⟨gf, o, none⟩)) (some 66) (by rfl) (by rfl) (by kernel_rfl) (by kernel_rfl) (by kernel_rfl) (fun _ _ _ h => h) (.inl ⟨by rfl, fun _ _ => by go_simp⟩) (hHeld) ?_
  simp only [Act.put, List.setIfInBounds_toArray, List.set_cons_zero, List.set_cons_succ]
  refine held_takeD 2 (.pointer (some ⟨gf, o + 12, none⟩)) (some 67) (by rfl) (by rfl) (by kernel_rfl) (by kernel_rfl) (by kernel_rfl) (fun _ _ _ h => h) (.inl ⟨by rfl, fun _ _ => by go_simp⟩) (hHeld) ?_
  simp only [Act.put, List.setIfInBounds_toArray, List.set_cons_zero, List.set_cons_succ]
  refine held_takeD 3 (.agg (bv sf).toArray) (some 68) (by rfl) (by rfl) (by kernel_rfl) (by kernel_rfl) (by kernel_rfl) (fun _ _ _ h => h) (yieldsIf_load_mid (by rfl) _ _ rfl _ _ rfl _ _ (fun wz hS => unhide HSLF wz hS.2.1) hu rfl hsz) (hHeld) ?_
  simp only [Act.put, List.setIfInBounds_toArray, List.set_cons_zero, List.set_cons_succ]
  refine held_takeD 4 (.pointer (some ⟨gm, 20, none⟩)) (some 69) (by rfl) (by rfl) (by kernel_rfl) (by kernel_rfl) (by kernel_rfl) (fun _ _ _ h => h) (.inl ⟨by rfl, fun _ _ => by go_simp⟩) (hHeld) ?_
  simp only [Act.put, List.setIfInBounds_toArray, List.set_cons_zero, List.set_cons_succ]
  refine held_takeD 5 (.slice B1 j1 e1) (some 70) (by rfl) (by rfl) (by kernel_rfl) (by kernel_rfl) (by kernel_rfl) (fun _ _ _ h => h) (.inl ⟨by rfl, fun wS hS => by have hc : wS.cell? ⟨gm, 20, none⟩ = some (.slice B1 j1 e1) := by { rw [hS.2.2.cell]; exact unhide HQ20 }; go_simp⟩) (hHeld) ?_
  simp only [Act.put, List.setIfInBounds_toArray, List.set_cons_zero, List.set_cons_succ]
  refine held_one 6 (by kernel_rfl) (by rfl) (fun K' hK' => ?_)
  go_simp
  refine (unhide HCA).mono ?_
  rintro e wC ⟨⟨ra, rfl, hra⟩, bC⟩
  have dC := e5.trans (bC.mono e5.size)
  have hdC : Below w5.heap.size w5 wC := e5.trans (bC.mono e5.size)
  have sC : ChgS E w5 wC ∧ RowT 194 wC gf fr ∧ RowT 113 wC gm rm := ⟨ChgS.of hdC, (unhide HSR5).row.kept hdC, (unhide HRM5).kept hdC⟩
  refine hK'.out _ _ (sC) ?_
  clear hK' K'
  refine held_takeD 7 (.pointer (some ⟨gb, 12, none⟩)) (some 72) (by rfl) (by rfl) (by kernel_rfl) (by kernel_rfl) (by kernel_rfl) (fun _ _ _ h => h) (.inl ⟨by rfl, fun _ _ => by go_simp⟩) (sC) ?_
  simp only [Act.put, List.setIfInBounds_toArray, List.set_cons_zero, List.set_cons_succ]
  refine held_one 8 (by kernel_rfl) (by rfl) (fun K' hK' => ?_)
  refine if_store rfl (by rfl) 26 (.tmp 72) (.tmp 71) rfl gb 12 194 fb (bv ra) rfl rfl ((unhide HFX5).row.kept hdC) (by rw [bv_len, hra.len, hfbl]; omega) hra.size (bv_one _) (fun wS rS oS => ?_)
  have sS : ChgS E w5 wS ∧ RowT 194 wS gf fr ∧ RowT 113 wS gm rm := ⟨sC.1.trans (ChgS.only oS hEb), (Chg.ofOnly oS).row sC.2.1 (Ne.symm hgbf), (Chg.ofOnly oS).row sC.2.2 (by omega)⟩
  have dS := e5
  refine hK'.out _ _ (sS) ?_
  clear hK' K'
  refine wpAnyH_done (by kernel_rfl) ?_ _
  refine NoPanic.normal ?_
  have hfx6 := ((unhide HFX5).kept hdC).self hfbl hra rS (Chg.ofOnly oS)
  have hsr6 := ((unhide HSR5).kept hdC).off (Chg.ofOnly oS) hEb ((unhide HFX5).row.kept hdC) hgbb hgbf
  have m6 : Mv E w5 wS := (Mv.of hdC).trans (Mv.frame ((unhide HFX5).row.kept hdC) hEb (Chg.ofOnly oS))
  have hle6 : 12 + (bv ra).length ≤ fb.length := by rw [bv_len, hra.len, hfbl]; omega
  have hfl6 : (spl fb 12 (bv ra)).length = 60 := by rw [spl_len _ _ _ hle6]; exact hfbl
  have h610 : (spl fb 12 (bv ra))[10]? = some (.slice AR n2 cR) := by rw [spl_get hle6 10 (.inl (by omega))]; exact unhide HB10
  generalize spl fb 12 (bv ra) = fb6 at hfx6 hfl6 h610
  obtain ⟨w6, hw6⟩ : ∃ w6, w6 = wS := ⟨_, rfl⟩
  subst hw6
  have HFX6 := hide hfx6
  have HSR6 := hide hsr6
  have HRM6 := hide sS.2.2
  have H610 := hide h610
  clear hfx6 hsr6 h610 sS sC rS oS dS hle6 HFX5 HSR5 HRM5
  go_upto_if 74 with fail
  go_cut [] (fun wc => ∃ (fb7 : List Value) (kd : Nat) (a7 : List Int), FX E gb 0 fb7 { childF 5 false v0 ys a7 sf with kind := kd } wc ∧ fb7.length = 60 ∧ (kd = 5 ∨ kd = 6) ∧ IsAddr a7 ∧ SR E bw gf cs fr d (f :: r) x wc ∧ RowT 113 wc gm rm ∧ Mv E w6 wc)
  case first =>
    --S5
    as_aux_lemma =>
    rcases unhide HHP with hp | hp
    · have t245 : ((p : Int) == 245) = false := by rw [beq_eq_false_iff_ne]; omega
      clear hp
      go_wp2_with fail
      go_meet
      case rel => exact ⟨fb6, 5, ra, unhide HFX6, hfl6, .inl rfl, hra, unhide HSR6, unhide HRM6, Mv.refl _ _⟩
    · have t245 : ((p : Int) == 245) = true := by rw [beq_iff_eq]; omega
      clear hp
      obtain ⟨v0x, hx0⟩ : ∃ v, w6.cell? ⟨gb, 0, none⟩ = some v := (unhide HFX6).ex (i := 0) (by omega)
      have hf0 := (unhide HFX6).row.froz 0
      have hfx7 := (unhide HFX6).put (j := 0) (by omega) ((unhide HFX6).kf.setKind 6)
      have ho7 : Only gb w6 (w6.setCell ⟨gb, 0, none⟩ (.int .u8 6)) := (Only.refl _ _).setCell _ _
      rw [Nat.add_zero, show ((6 : Nat) : Int) = 6 from rfl] at hfx7
      obtain ⟨w7, hw7⟩ : ∃ y, y = w6.setCell ⟨gb, 0, none⟩ (.int .u8 6) := ⟨_, rfl⟩
      rw [← hw7] at hfx7 ho7
      have hfl7 : (fb6.set 0 (.int .u8 6)).length = 60 := by rw [List.length_set]; exact hfl6
      have h710 : (fb6.set 0 (.int .u8 6))[10]? = some (.slice AR n2 cR) := by rw [List.getElem?_set_ne (by omega)]; exact unhide H610
      generalize fb6.set 0 (.int .u8 6) = fb7 at hfx7 hfl7 h710
      have hsr7 := (unhide HSR6).off (Chg.ofOnly ho7) hEb (unhide HFX6).row hgbb hgbf
      have hrm7 := (Chg.ofOnly ho7).row (unhide HRM6) (show gm ≠ gb by omega)
      have m7 : Mv E w6 w7 := Mv.frame (unhide HFX6).row hEb (Chg.ofOnly ho7)
      have e7 : Below w7.heap.size w7 w7.drew := Quiet.below ⟨1, rfl⟩ _
      have hfq := hsr7.fx
      rw [← unhide HO] at hfq
      have HA3 := hide ((hfq.kept e7).arg (by omega) 3 (by omega))
      rw [show ((3 : Nat) : Int) = 3 from rfl] at HA3
      have hm3 := unhide HS 3
      have hk7 := (unhide HKR5).kp (m6.trans m7).chg
      have HFX7 := hide hfx7
      have HSR7 := hide hsr7
      have HRM7 := hide hrm7
      have H710 := hide h710
      have HK7 := hide hk7
      have HW7 := hide hw7
      clear hfx7 hsr7 hrm7 h710 hk7 hw7 ho7 hfq
      go_upto_region 9 with fail
      rw [← unhide HW7]
      clear hx0 hf0
      refine wp_region_noPanic ?_
      refine wp_region_held_drew (S := fun w' => RowT 194 w' gf fr ∧ w'.cell? ⟨gb, 10, none⟩ = some (.slice AR n2 cR)) (by kernel_rfl) (⟨(unhide HSR7).row.kept e7, by rw [((unhide HFX7).row.kept e7).cell]; exact unhide H710⟩) (fun hHeld => ?_)
      refine held_takeD 0 (.pointer (some ⟨gf, o, none⟩)) (some 76) (by rfl) (by rfl) (by kernel_rfl) (by kernel_rfl) (by kernel_rfl) (fun _ _ _ h => h) (.inl ⟨by rfl, fun _ _ => by rfl⟩) (hHeld) ?_
      simp only [Act.put, List.setIfInBounds_toArray, List.set_cons_zero, List.set_cons_succ]
      refine held_takeD 1 (.pointer (some ⟨gf, o, none⟩)) (some 77) (by rfl) (by rfl) (by kernel_rfl) (by kernel_rfl) (by kernel_rfl) (fun _ _ _ h => h) (.inl ⟨by rfl, fun _ _ => by go_simp⟩) (hHeld) ?_
      simp only [Act.put, List.setIfInBounds_toArray, List.set_cons_zero, List.set_cons_succ]
      refine held_takeD 2 (.pointer (some ⟨gf, o + 12, none⟩)) (some 78) (by rfl) (by rfl) (by kernel_rfl) (by kernel_rfl) (by kernel_rfl) (fun _ _ _ h => h) (.inl ⟨by rfl, fun _ _ => by go_simp⟩) (hHeld) ?_
      simp only [Act.put, List.setIfInBounds_toArray, List.set_cons_zero, List.set_cons_succ]
      refine held_takeD 3 (.agg (bv sf).toArray) (some 79) (by rfl) (by rfl) (by kernel_rfl) (by kernel_rfl) (by kernel_rfl) (fun _ _ _ h => h) (yieldsIf_load_mid (by rfl) _ _ rfl _ _ rfl _ _ (fun wz hS => unhide HSLF wz hS.1) hu rfl hsz) (hHeld) ?_
      simp only [Act.put, List.setIfInBounds_toArray, List.set_cons_zero, List.set_cons_succ]
      refine held_takeD 4 (.pointer (some ⟨gf, o, none⟩)) (some 80) (by rfl) (by rfl) (by kernel_rfl) (by kernel_rfl) (by kernel_rfl) (fun _ _ _ h => h) (.inl ⟨by rfl, fun _ _ => by rfl⟩) (hHeld) ?_
      simp only [Act.put, List.setIfInBounds_toArray, List.set_cons_zero, List.set_cons_succ]
      refine held_takeD 6 (.pointer (some ⟨gb, 10, none⟩)) (some 82) (by rfl) (by rfl) (by kernel_rfl) (by kernel_rfl) (by kernel_rfl) (fun _ _ _ h => h) (.inl ⟨by rfl, fun _ _ => by go_simp⟩) (hHeld) ?_
      simp only [Act.put, List.setIfInBounds_toArray, List.set_cons_zero, List.set_cons_succ]
      refine held_takeD 7 (.slice AR n2 cR) (some 83) (by rfl) (by rfl) (by kernel_rfl) (by kernel_rfl) (by kernel_rfl) (fun _ _ _ h => h) (.inl ⟨by rfl, fun wS hS => by have hc := hS.2; go_simp⟩) (hHeld) ?_
      simp only [Act.put, List.setIfInBounds_toArray, List.set_cons_zero, List.set_cons_succ]
      refine held_one 5 (by kernel_rfl) (by rfl) (fun K' hK' => ?_)
      go_simp
      refine (unhide HA3).mono ?_
      rintro e w8 ⟨⟨A3, k3, c3, rfl, hn3⟩, q8⟩
      have d8 : Below w7.heap.size w7 w8 := e7.trans ((q8.below _).mono e7.size)
      have s8 : RowT 194 w8 gf fr ∧ w8.cell? ⟨gb, 10, none⟩ = some (.slice AR n2 cR) := ⟨(unhide HSR7).row.kept d8, by rw [((unhide HFX7).row.kept d8).cell]; exact unhide H710⟩
      refine hK'.out _ _ s8 ?_
      clear hK' K'
      have HC2 := hide (create2Addr_any sf A3 k3 c3 _ AR n2 cR ys w8 hslf (hn3.kp (ChgS.of (q8.below _))).now hm3 ((unhide HK7).kp (ChgS.of d8)).now (by omega))
      refine held_one 8 (by kernel_rfl) (by rfl) (fun K' hK' => ?_)
      go_simp
      refine (unhide HC2).mono ?_
      rintro e w9 ⟨⟨rb, rfl, hrb⟩, b9'⟩
      have d9 : Below w7.heap.size w7 w9 := d8.trans (b9'.mono d8.size)
      have s9 : RowT 194 w9 gf fr ∧ w9.cell? ⟨gb, 10, none⟩ = some (.slice AR n2 cR) := ⟨(unhide HSR7).row.kept d9, by rw [((unhide HFX7).row.kept d9).cell]; exact unhide H710⟩
      refine hK'.out _ _ s9 ?_
      clear hK' K'
      refine held_takeD 9 (.pointer (some ⟨gb, 12, none⟩)) (some 85) (by rfl) (by rfl) (by kernel_rfl) (by kernel_rfl) (by kernel_rfl) (fun _ _ _ h => h) (.inl ⟨by rfl, fun _ _ => by go_simp⟩) (s9) ?_
      simp only [Act.put, List.setIfInBounds_toArray, List.set_cons_zero, List.set_cons_succ]
      have hle9 : 12 + (bv rb).length ≤ fb7.length := by rw [bv_len, hrb.len, hfl7]; omega
      refine held_one 10 (by kernel_rfl) (by rfl) (fun K' hK' => ?_)
      refine if_store rfl (by rfl) 26 (.tmp 85) (.tmp 84) rfl gb 12 194 fb7 (bv rb) rfl rfl ((unhide HFX7).row.kept d9) hle9 hrb.size (bv_one _) (fun wS rS oS => ?_)
      have sS : RowT 194 wS gf fr ∧ wS.cell? ⟨gb, 10, none⟩ = some (.slice AR n2 cR) := ⟨(Chg.ofOnly oS).row s9.1 (Ne.symm hgbf), by rw [rS.cell, spl_get hle9 10 (.inl (by omega))]; exact unhide H710⟩
      refine hK'.out _ _ sS ?_
      clear hK' K'
      refine wpAnyH_done (by kernel_rfl) ?_ _
      refine NoPanic.normal ?_
      have hfx9 := ((unhide HFX7).kept d9).self hfl7 hrb rS (Chg.ofOnly oS)
      have hsr9 := ((unhide HSR7).kept d9).off (Chg.ofOnly oS) hEb ((unhide HFX7).row.kept d9) hgbb hgbf
      have m9 : Mv E w6 wS := m7.trans ((Mv.of d9).trans (Mv.frame ((unhide HFX7).row.kept d9) hEb (Chg.ofOnly oS)))
      have hrm9 := (Chg.ofOnly oS).row ((unhide HRM7).kept d9) (show gm ≠ gb by omega)
      have hfl9 : (spl fb7 12 (bv rb)).length = 60 := by rw [spl_len _ _ _ hle9]; exact hfl7
      have HFX9 := hide hfx9
      have HSR9 := hide hsr9
      have HRM9 := hide hrm9
      clear hfx9 hsr9 hrm9 rS oS sS s9 s8 hn3
      go_wp2_with fail
      go_meet
      case rel => exact ⟨_, 6, rb, unhide HFX9, hfl9, .inr rfl, hrb, unhide HSR9, unhide HRM9, m9⟩
    --E5
  case rest =>
  as_aux_lemma =>
  obtain ⟨w7, hw7⟩ : ∃ w7, w7 = wc := ⟨_, rfl⟩
  subst hw7
  obtain ⟨fb7, kd, a7, hfx7, hfl7, hkd, ha7, hsr7, hrm7, m67⟩ := hcut
  have m7 : Mv E w5 w7 := m6.trans m67
  have HFX7 := hide hfx7
  have HSR7 := hide hsr7
  have HRM7 := hide hrm7
  have HK17 := hide ((unhide HK15).kp m7.chg)
  have e7 : Below w7.heap.size w7 w7.drew := Quiet.below ⟨1, rfl⟩ _
  have HQ20' := HQ20
  clear hfx7 hsr7 hrm7 HFX6 HSR6 HRM6 m67
  go_upto_region 10 with fail
  refine wp_region_noPanic ?_
  refine wp_region_held_drew (S := fun w' => RowT 194 w' gf fr ∧ RowT 113 w' gm rm) (by kernel_rfl) (⟨(unhide HSR7).row.kept e7, (unhide HRM7).kept e7⟩) (fun hHeld => ?_)
  refine held_takeD 0 (.pointer (some ⟨bw, 0, none⟩)) (some 86) (by rfl) (by rfl) (by kernel_rfl) (by kernel_rfl) (by kernel_rfl) (fun _ _ _ h => h) (.inl ⟨by rfl, fun _ _ => by rfl⟩) (hHeld) ?_
  simp only [Act.put, List.setIfInBounds_toArray, List.set_cons_zero, List.set_cons_succ]
  refine held_takeD 1 (.pointer (some ⟨bw, 0, none⟩)) (some 87) (by rfl) (by rfl) (by kernel_rfl) (by kernel_rfl) (by kernel_rfl) (fun _ _ _ h => h) (.inl ⟨by rfl, fun _ _ => by go_simp⟩) (hHeld) ?_
  simp only [Act.put, List.setIfInBounds_toArray, List.set_cons_zero, List.set_cons_succ]
  refine held_takeD 2 (.pointer (some ⟨bw, 0, none⟩)) (some 88) (by rfl) (by rfl) (by kernel_rfl) (by kernel_rfl) (by kernel_rfl) (fun _ _ _ h => h) (.inl ⟨by rfl, fun _ _ => by go_simp⟩) (hHeld) ?_
  simp only [Act.put, List.setIfInBounds_toArray, List.set_cons_zero, List.set_cons_succ]
  refine held_takeD 3 (.pointer (some ⟨gf, o, none⟩)) (some 89) (by rfl) (by rfl) (by kernel_rfl) (by kernel_rfl) (by kernel_rfl) (fun _ _ _ h => h) (.inl ⟨by rfl, fun _ _ => by rfl⟩) (hHeld) ?_
  simp only [Act.put, List.setIfInBounds_toArray, List.set_cons_zero, List.set_cons_succ]
  refine held_takeD 4 (.pointer (some ⟨gf, o, none⟩)) (some 90) (by rfl) (by rfl) (by kernel_rfl) (by kernel_rfl) (by kernel_rfl) (fun _ _ _ h => h) (.inl ⟨by rfl, fun _ _ => by go_simp⟩) (hHeld) ?_
  simp only [Act.put, List.setIfInBounds_toArray, List.set_cons_zero, List.set_cons_succ]
  refine held_takeD 5 (.pointer (some ⟨gf, o + 12, none⟩)) (some 91) (by rfl) (by rfl) (by kernel_rfl) (by kernel_rfl) (by kernel_rfl) (fun _ _ _ h => h) (.inl ⟨by rfl, fun _ _ => by go_simp⟩) (hHeld) ?_
  simp only [Act.put, List.setIfInBounds_toArray, List.set_cons_zero, List.set_cons_succ]
  refine held_takeD 6 (.agg (bv sf).toArray) (some 92) (by rfl) (by rfl) (by kernel_rfl) (by kernel_rfl) (by kernel_rfl) (fun _ _ _ h => h) (yieldsIf_load_mid (by rfl) _ _ rfl _ _ rfl _ _ (fun wz hS => unhide HSLF wz hS.1) hu rfl hsz) (hHeld) ?_
  simp only [Act.put, List.setIfInBounds_toArray, List.set_cons_zero, List.set_cons_succ]
  refine held_takeD 7 (.pointer (some ⟨gm, 20, none⟩)) (some 93) (by rfl) (by rfl) (by kernel_rfl) (by kernel_rfl) (by kernel_rfl) (fun _ _ _ h => h) (.inl ⟨by rfl, fun _ _ => by go_simp⟩) (hHeld) ?_
  simp only [Act.put, List.setIfInBounds_toArray, List.set_cons_zero, List.set_cons_succ]
  refine held_takeD 8 (.slice B1 j1 e1) (some 94) (by rfl) (by rfl) (by kernel_rfl) (by kernel_rfl) (by kernel_rfl) (fun _ _ _ h => h) (.inl ⟨by rfl, fun wS hS => by have hc : wS.cell? ⟨gm, 20, none⟩ = some (.slice B1 j1 e1) := by { rw [hS.2.cell]; exact unhide HQ20 }; go_simp⟩) (hHeld) ?_
  simp only [Act.put, List.setIfInBounds_toArray, List.set_cons_zero, List.set_cons_succ]
  have HN1 := hide (num_any 1 w7.drew (by omega))
  rw [show ((1 : Nat) : Int) = 1 from rfl] at HN1
  refine held_one 9 (by kernel_rfl) (by rfl) (fun K' hK' => ?_)
  go_simp
  refine (unhide HN1).mono ?_
  rintro e w8 ⟨A8, k8, c8, rfl, n8, N8, b8⟩
  refine hK'.out _ _ (⟨(unhide HSR7).row.kept (e7.trans (b8.mono e7.size)), (unhide HRM7).kept (e7.trans (b8.mono e7.size))⟩) ?_
  clear hK' K'
  have d8 : Below w7.heap.size w7 w8 := e7.trans (b8.mono e7.size)
  have HAD := hide (((unhide HK17).kp (ChgS.of d8)).now.add n8 hlk.1 (by omega))
  refine held_one 10 (by kernel_rfl) (by rfl) (fun K' hK' => ?_)
  go_simp
  refine (unhide HAD).mono ?_
  rintro e w9 ⟨A10, k10, c10, rfl, n10, N10, b10⟩
  refine hK'.out _ _ (⟨(unhide HSR7).row.kept (d8.trans (b10.mono d8.size)), (unhide HRM7).kept (d8.trans (b10.mono d8.size))⟩) ?_
  clear hK' K'
  have d9 : Below w7.heap.size w7 w9 := d8.trans (b10.mono d8.size)
  have hsr9 := (unhide HSR7).kept d9
  have HSN := hide (hsr9.cw.setNonce (unhide HG) sf hslf A10 k10 c10 (nn + 1) (KNat.new n10 (N10.later d8.size) (unhide HSR7).cw.ther) (by omega))
  refine held_one 11 (by kernel_rfl) (by rfl) (fun K' hK' => ?_)
  go_simp
  refine (unhide HSN).mono ?_
  rintro e w10 ⟨rfl, hw10⟩
  obtain ⟨cs10, hsr10, hmv10, -, hch10⟩ := hsr9.world hw10
  have hfx10 := ((unhide HFX7).kept d9).go hmv10 (hch10.row ((unhide HFX7).row.kept d9) hgbb)
  refine hK'.out _ _ ⟨hsr10.row, hch10.row ((unhide HRM7).kept d9) (show gm ≠ bw by have := b9.size; omega)⟩ ?_
  clear hK' K'
  refine wpAnyH_done (by kernel_rfl) ?_ _
  refine NoPanic.normal ?_
  have hgr10 : Gr B d { d with accts := nonY d.accts sf (nn + 1) } 2500 := Gr.nonce (unhide HG).snd hslf (by omega) (by omega)
  have hg10 : Good B { d with accts := nonY d.accts sf (nn + 1) } := hgr10.good (K := 2250000000) (by omega) (by omega)
  obtain ⟨d10, hd10⟩ : ∃ d10, d10 = { d with accts := nonY d.accts sf (nn + 1) } := ⟨_, rfl⟩
  rw [← hd10] at hsr10 hgr10 hg10
  have m10 : Mv E w5 w10 := m7.trans ((Mv.of d9).trans hmv10)
  have HSR10 := hide hsr10
  have HFX10 := hide hfx10
  have HGR10 := hide hgr10
  have e10 : Below w10.heap.size w10 w10.drew := Quiet.below ⟨1, rfl⟩ _
  have hfq := hsr10.fx
  rw [← unhide HO] at hfq
  obtain ⟨Ag, kg, cg, g1, g2⟩ := hfq.kf.gas
  have HG1 := hide g1
  have HG2 := hide g2
  have HSG := hide (sentGas_k (G := E) Ag Ag kg cg kg cg f.gas f.gas w10.drew (hfq.ther.go e10.size) (g2.kp (ChgS.of e10)) (g2.kp (ChgS.of e10)) (by omega) (by omega))
  clear hsr9 hsr10 hfx10 hgr10 hw10 hch10 hd10 hfq g1 g2 n8 n10 HSR7 HFX7
  go_upto_region 11 with fail
  have hgx : ∀ wz, RowT 194 wz gf fr → wz.cell? ⟨gf, o + 4, none⟩ = some (.slice Ag kg cg) := fun wz hz => by rw [hz.cell]; exact unhide HG1
  have HGX := hide hgx
  clear hgx
  refine wp_region_noPanic ?_
  refine wp_region_held_drew (S := fun w' => RowT 194 w' gf fr) (by kernel_rfl) ((unhide HSR10).row.kept e10) (fun hHeld => ?_)
  refine held_takeD 0 (.pointer (some ⟨gf, o, none⟩)) (some 98) (by rfl) (by rfl) (by kernel_rfl) (by kernel_rfl) (by kernel_rfl) (fun _ _ _ h => h) (.inl ⟨by rfl, fun _ _ => by rfl⟩) (hHeld) ?_
  simp only [Act.put, List.setIfInBounds_toArray, List.set_cons_zero, List.set_cons_succ]
  refine held_takeD 1 (.pointer (some ⟨gf, o, none⟩)) (some 99) (by rfl) (by rfl) (by kernel_rfl) (by kernel_rfl) (by kernel_rfl) (fun _ _ _ h => h) (.inl ⟨by rfl, fun _ _ => by go_simp⟩) (hHeld) ?_
  simp only [Act.put, List.setIfInBounds_toArray, List.set_cons_zero, List.set_cons_succ]
  refine held_takeD 2 (.pointer (some ⟨gf, o + 4, none⟩)) (some 100) (by rfl) (by rfl) (by kernel_rfl) (by kernel_rfl) (by kernel_rfl) (fun _ _ _ h => h) (.inl ⟨by rfl, fun _ _ => by go_simp⟩) (hHeld) ?_
  simp only [Act.put, List.setIfInBounds_toArray, List.set_cons_zero, List.set_cons_succ]
  refine held_takeD 3 (.slice Ag kg cg) (some 101) (by rfl) (by rfl) (by kernel_rfl) (by kernel_rfl) (by kernel_rfl) (fun _ _ _ h => h) (.inl ⟨by rfl, fun wS hS => by have hc := unhide HGX wS hS; go_simp⟩) (hHeld) ?_
  simp only [Act.put, List.setIfInBounds_toArray, List.set_cons_zero, List.set_cons_succ]
  refine held_takeD 4 (.pointer (some ⟨gf, o, none⟩)) (some 102) (by rfl) (by rfl) (by kernel_rfl) (by kernel_rfl) (by kernel_rfl) (fun _ _ _ h => h) (.inl ⟨by rfl, fun _ _ => by rfl⟩) (hHeld) ?_
  simp only [Act.put, List.setIfInBounds_toArray, List.set_cons_zero, List.set_cons_succ]
  refine held_takeD 5 (.pointer (some ⟨gf, o, none⟩)) (some 103) (by rfl) (by rfl) (by kernel_rfl) (by kernel_rfl) (by kernel_rfl) (fun _ _ _ h => h) (.inl ⟨by rfl, fun _ _ => by go_simp⟩) (hHeld) ?_
  simp only [Act.put, List.setIfInBounds_toArray, List.set_cons_zero, List.set_cons_succ]
  refine held_takeD 6 (.pointer (some ⟨gf, o + 4, none⟩)) (some 104) (by rfl) (by rfl) (by kernel_rfl) (by kernel_rfl) (by kernel_rfl) (fun _ _ _ h => h) (.inl ⟨by rfl, fun _ _ => by go_simp⟩) (hHeld) ?_
  simp only [Act.put, List.setIfInBounds_toArray, List.set_cons_zero, List.set_cons_succ]
  refine held_takeD 7 (.slice Ag kg cg) (some 105) (by rfl) (by rfl) (by kernel_rfl) (by kernel_rfl) (by kernel_rfl) (fun _ _ _ h => h) (.inl ⟨by rfl, fun wS hS => by have hc := unhide HGX wS hS; go_simp⟩) (hHeld) ?_
  simp only [Act.put, List.setIfInBounds_toArray, List.set_cons_zero, List.set_cons_succ]
  refine held_one 8 (by kernel_rfl) (by rfl) (fun K' hK' => ?_)
  go_simp
  refine (unhide HSG).mono ?_
  rintro e w11 ⟨As, ks, cs_, rfl, hks, b11⟩
  have d11 : Below w10.heap.size w10 w11 := e10.trans (b11.mono e10.size)
  have s11 := (unhide HSR10).row.kept d11
  refine hK'.out _ _ s11 ?_
  clear hK' K'
  refine held_takeD 9 (.pointer (some ⟨gb, 4, none⟩)) (some 107) (by rfl) (by rfl) (by kernel_rfl) (by kernel_rfl) (by kernel_rfl) (fun _ _ _ h => h) (.inl ⟨by rfl, fun _ _ => by go_simp⟩) (s11) ?_
  simp only [Act.put, List.setIfInBounds_toArray, List.set_cons_zero, List.set_cons_succ]
  have hfx11 := (unhide HFX10).kept d11
  obtain ⟨v4x, hx4⟩ : ∃ v, w11.cell? ⟨gb, 4, none⟩ = some v := by
    obtain ⟨v, hv⟩ := hfx11.ex (i := 4) (by omega)
    exact ⟨v, by rw [Nat.zero_add] at hv; exact hv⟩
  have hf4 := hfx11.row.froz 4
  refine held_one 10 (by kernel_rfl) (by rfl) (fun K' hK' => ?_)
  go_simp
  obtain ⟨w12, hw12⟩ : ∃ y, y = w11.setCell ⟨gb, 4, none⟩ (.slice As ks cs_) := ⟨_, rfl⟩
  rw [← hw12]
  have ho12 : Only gb w11 w12 := by rw [hw12]; exact (Only.refl _ _).setCell _ _
  have hfx12 := hfx11.put (j := 4) (by omega) (hfx11.kf.setGas hks)
  rw [Nat.zero_add, ← hw12] at hfx12
  have hsr12 := ((unhide HSR10).kept d11).off (Chg.ofOnly ho12) hEb hfx11.row hgbb hgbf
  refine hK'.out _ _ hsr12.row ?_
  clear hK' K'
  refine wpAnyH_done (by kernel_rfl) ?_ _
  refine NoPanic.normal ?_
  have hfl12 : (fb7.set 4 (.slice As ks cs_)).length = 60 := by rw [List.length_set]; exact hfl7
  have h124 : (fb7.set 4 (.slice As ks cs_))[4]? = some (.slice As ks cs_) := List.getElem?_set_self (by omega)
  generalize fb7.set 4 (.slice As ks cs_) = fb12 at hfx12 hfl12 h124
  have m12 : Mv E w10 w12 := (Mv.of d11).trans (Mv.frame hfx11.row hEb (Chg.ofOnly ho12))
  have hkg12 := (unhide HG2).kp m12.chg
  have hks12 : KNat E w12 As ks cs_ (sentN f.gas f.gas) := hks.kp (ChgS.only ho12 hEb)
  have hsle := sentN_le f.gas f.gas
  generalize hsent : sentN f.gas f.gas = sg at hks12 hsle hfx12
  have HFX12 := hide hfx12
  have HSR12 := hide hsr12
  have H124 := hide h124
  have HKG12 := hide hkg12
  have HKS12 := hide hks12
  have e12 : Below w12.heap.size w12 w12.drew := Quiet.below ⟨1, rfl⟩ _
  have HLS := hide (less_any Ag As kg ks cg cs_ f.gas sg w12.drew (hkg12.kp (ChgS.of e12)).now (hks12.kp (ChgS.of e12)).now (by omega) (by omega))
  clear hfx11 hfx12 hsr12 hks hks12 hkg12 hw12 ho12 hx4 hf4 h124 s11 hsent HSR10 HFX10
  go_upto_region 12 with fail
  refine wp_region_noPanic ?_
  refine wp_region_held_drew (S := fun w' => RowT 194 w' gb fb12) (by kernel_rfl) ((unhide HFX12).row.kept e12) (fun hHeld => ?_)
  refine held_takeD 0 (.pointer (some ⟨gf, o, none⟩)) (some 108) (by rfl) (by rfl) (by kernel_rfl) (by kernel_rfl) (by kernel_rfl) (fun _ _ _ h => h) (.inl ⟨by rfl, fun _ _ => by rfl⟩) (hHeld) ?_
  simp only [Act.put, List.setIfInBounds_toArray, List.set_cons_zero, List.set_cons_succ]
  refine held_takeD 1 (.pointer (some ⟨gf, o, none⟩)) (some 109) (by rfl) (by rfl) (by kernel_rfl) (by kernel_rfl) (by kernel_rfl) (fun _ _ _ h => h) (.inl ⟨by rfl, fun _ _ => by rfl⟩) (hHeld) ?_
  simp only [Act.put, List.setIfInBounds_toArray, List.set_cons_zero, List.set_cons_succ]
  refine held_takeD 2 (.pointer (some ⟨gf, o, none⟩)) (some 110) (by rfl) (by rfl) (by kernel_rfl) (by kernel_rfl) (by kernel_rfl) (fun _ _ _ h => h) (.inl ⟨by rfl, fun _ _ => by go_simp⟩) (hHeld) ?_
  simp only [Act.put, List.setIfInBounds_toArray, List.set_cons_zero, List.set_cons_succ]
  refine held_takeD 3 (.pointer (some ⟨gf, o + 4, none⟩)) (some 111) (by rfl) (by rfl) (by kernel_rfl) (by kernel_rfl) (by kernel_rfl) (fun _ _ _ h => h) (.inl ⟨by rfl, fun _ _ => by go_simp⟩) (hHeld) ?_
  simp only [Act.put, List.setIfInBounds_toArray, List.set_cons_zero, List.set_cons_succ]
  refine held_takeD 5 (.pointer (some ⟨gb, 4, none⟩)) (some 113) (by rfl) (by rfl) (by kernel_rfl) (by kernel_rfl) (by kernel_rfl) (fun _ _ _ h => h) (.inl ⟨by rfl, fun _ _ => by go_simp⟩) (hHeld) ?_
  simp only [Act.put, List.setIfInBounds_toArray, List.set_cons_zero, List.set_cons_succ]
  refine held_takeD 6 (.slice As ks cs_) (some 114) (by rfl) (by rfl) (by kernel_rfl) (by kernel_rfl) (by kernel_rfl) (fun _ _ _ h => h) (.inl ⟨by rfl, fun wS hS => by have hc : wS.cell? ⟨gb, 4, none⟩ = some (.slice As ks cs_) := by { rw [hS.cell]; exact unhide H124 }; go_simp⟩) (hHeld) ?_
  simp only [Act.put, List.setIfInBounds_toArray, List.set_cons_zero, List.set_cons_succ]
  have hcu := unhide HGX w12.drew ((unhide HSR12).row.kept e12)
  refine held_one 4 (by kernel_rfl) (by rfl) (fun K' hK' => ?_)
  go_simp
  refine hK'.out _ _ ((unhide HFX12).row.kept e12) ?_
  clear hK' K' hcu
  refine held_one 7 (by kernel_rfl) (by rfl) (fun K' hK' => ?_)
  go_simp
  refine (unhide HLS).mono ?_
  rintro e w13 ⟨A13, k13, c13, rfl, n13, N13, b13⟩
  have d13 : Below w12.heap.size w12 w13 := e12.trans (b13.mono e12.size)
  have s13 := (unhide HFX12).row.kept d13
  refine hK'.out _ _ s13 ?_
  clear hK' K'
  refine held_takeD 8 (.pointer (some ⟨gf, o, none⟩)) (some 116) (by rfl) (by rfl) (by kernel_rfl) (by kernel_rfl) (by kernel_rfl) (fun _ _ _ h => h) (.inl ⟨by rfl, fun _ _ => by go_simp⟩) (s13) ?_
  simp only [Act.put, List.setIfInBounds_toArray, List.set_cons_zero, List.set_cons_succ]
  refine held_takeD 9 (.pointer (some ⟨gf, o + 4, none⟩)) (some 117) (by rfl) (by rfl) (by kernel_rfl) (by kernel_rfl) (by kernel_rfl) (fun _ _ _ h => h) (.inl ⟨by rfl, fun _ _ => by go_simp⟩) (s13) ?_
  simp only [Act.put, List.setIfInBounds_toArray, List.set_cons_zero, List.set_cons_succ]
  have hsr13 := (unhide HSR12).kept d13
  have hfq13 := hsr13.fx
  rw [← unhide HO] at hfq13
  obtain ⟨v4y, hx4⟩ := hfq13.ex (i := 4) (by omega)
  have hf4 := hfq13.row.froz (o + 4)
  have k13N : KNat E w13 A13 k13 c13 (f.gas - sg) := KNat.new n13 (N13.later e12.size) (unhide HSR12).cw.ther
  refine held_one 10 (by kernel_rfl) (by rfl) (fun K' hK' => ?_)
  go_simp
  obtain ⟨hsr14, ho14⟩ := hsr13.put (j := 4) (by omega) (hsr13.fx.kf.setGas k13N)
  rw [← unhide HO] at hsr14 ho14
  obtain ⟨w14, hw14⟩ : ∃ y, y = w13.setCell ⟨gf, o + 4, none⟩ (.slice A13 k13 c13) := ⟨_, rfl⟩
  rw [← hw14] at hsr14 ho14
  rw [← hw14]
  have hr14 := (Chg.ofOnly ho14).row s13 hgbf
  refine hK'.out _ _ hr14 ?_
  clear hK' K'
  refine wpAnyH_done (by kernel_rfl) ?_ _
  refine NoPanic.normal ?_
  have m14 : Mv E w12 w14 := (Mv.of d13).trans (Mv.frame hsr13.row hsr13.g (Chg.ofOnly ho14))
  have hfx14 := (unhide HFX12).go m14 hr14
  have hfr14 : (fr.set (o + 4) (Value.slice A13 k13 c13)).length = fr.length := List.length_set ..
  generalize fr.set (o + 4) (Value.slice A13 k13 c13) = fr14 at hsr14 hfr14
  have e14 : Below w14.heap.size w14 w14.drew := Quiet.below ⟨1, rfl⟩ _
  have HWM := hide ((hsr14.kept e14).cw.warm hg10 a7 ha7)
  have hcR : ∀ wz, RowT 194 wz gb fb12 → wz.rangeAt gb 12 (bv a7) := fun wz hz => row_range hz (by rw [bv_len, ha7.len]) (fun i hi => by
    have := hfx14.kf.self i hi
    unfold cellsAt at this
    rw [Nat.zero_add] at this
    exact this)
  have HCR := hide hcR
  have ha7z := ha7.size
  have HFX14 := hide hfx14
  have HSR14 := hide hsr14
  clear hsr13 hfq13 k13N hsr14 ho14 hw14 hr14 hfx14 hx4 hf4 s13 n13 hcR HSR12 HFX12
  go_upto_region 13 with fail
  refine wp_region_noPanic ?_
  refine wp_region_held_drew (S := fun w' => RowT 194 w' gb fb12) (by kernel_rfl) ((unhide HFX14).row.kept e14) (fun hHeld => ?_)
  refine held_takeD 0 (.pointer (some ⟨bw, 0, none⟩)) (some 118) (by rfl) (by rfl) (by kernel_rfl) (by kernel_rfl) (by kernel_rfl) (fun _ _ _ h => h) (.inl ⟨by rfl, fun _ _ => by rfl⟩) (hHeld) ?_
  simp only [Act.put, List.setIfInBounds_toArray, List.set_cons_zero, List.set_cons_succ]
  refine held_takeD 1 (.pointer (some ⟨bw, 0, none⟩)) (some 119) (by rfl) (by rfl) (by kernel_rfl) (by kernel_rfl) (by kernel_rfl) (fun _ _ _ h => h) (.inl ⟨by rfl, fun _ _ => by go_simp⟩) (hHeld) ?_
  simp only [Act.put, List.setIfInBounds_toArray, List.set_cons_zero, List.set_cons_succ]
  refine held_takeD 2 (.pointer (some ⟨bw, 0, none⟩)) (some 120) (by rfl) (by rfl) (by kernel_rfl) (by kernel_rfl) (by kernel_rfl) (fun _ _ _ h => h) (.inl ⟨by rfl, fun _ _ => by go_simp⟩) (hHeld) ?_
  simp only [Act.put, List.setIfInBounds_toArray, List.set_cons_zero, List.set_cons_succ]
  refine held_takeD 3 (.pointer (some ⟨gb, 12, none⟩)) (some 121) (by rfl) (by rfl) (by kernel_rfl) (by kernel_rfl) (by kernel_rfl) (fun _ _ _ h => h) (.inl ⟨by rfl, fun _ _ => by go_simp⟩) (hHeld) ?_
  simp only [Act.put, List.setIfInBounds_toArray, List.set_cons_zero, List.set_cons_succ]
  refine held_takeD 4 (.agg (bv a7).toArray) (some 122) (by rfl) (by rfl) (by kernel_rfl) (by kernel_rfl) (by kernel_rfl) (fun _ _ _ h => h) (yieldsIf_load_mid (by rfl) _ _ rfl _ _ rfl _ _ (fun wz hS => unhide HCR wz hS) hu rfl ha7z) (hHeld) ?_
  simp only [Act.put, List.setIfInBounds_toArray, List.set_cons_zero, List.set_cons_succ]
  refine held_one 5 (by kernel_rfl) (by rfl) (fun K' hK' => ?_)
  go_simp
  refine (unhide HWM).mono ?_
  rintro e w15 ⟨rfl, als, hal, hw15⟩
  obtain ⟨cs15, hsr15, hmv15, -, hch15⟩ := ((unhide HSR14).kept e14).world hw15
  have hr15 := hch15.row ((unhide HFX14).row.kept e14) hgbb
  refine hK'.out _ _ hr15 ?_
  clear hK' K'
  refine wpAnyH_done (by kernel_rfl) ?_ _
  refine NoPanic.normal ?_
  have hfx15 := ((unhide HFX14).kept e14).go hmv15 hr15
  have hgr15 : Gr B d { d10 with warmA := als } 5000 := (unhide HGR10).trans (Gr.warm (unhide HGR10).snd hal)
  obtain ⟨d15, hd15⟩ : ∃ d15, d15 = { d10 with warmA := als } := ⟨_, rfl⟩
  rw [← hd15] at hsr15 hgr15
  have hg15 : Good B d15 := hgr15.good (K := 2250000000) (by omega) (by omega)
  have m15 : Mv E w5 w15 := m10.trans (m12.trans (m14.trans ((Mv.of e14).trans hmv15)))
  have HTK := hide (hsr15.cw.taken hg15 a7 ha7)
  have hrg15 : w15.rangeAt gb 12 (bv a7) := unhide HCR w15 hr15
  have HRG15 := hide hrg15
  have HSR15 := hide hsr15
  have HFX15 := hide hfx15
  have HGR15 := hide hgr15
  clear hsr15 hfx15 hgr15 hw15 hch15 hd15 hr15 hrg15 HSR14 HFX14
  go_upto_if 127 with (first
    | ((with_reducible refine at_load 26 ?_); refine wpList_load_g rfl 26 (.tmp 125) rfl gb 12 rfl (bv a7) _ (unhide HRG15) Sakg.underlying26 rfl ha7z ?_)
    | (go_at_call 109; refine (unhide HTK).mono ?_; rintro e w16 ⟨⟨bt, rfl⟩, b16⟩))
  have hsr16 := (unhide HSR15).kept b16
  have hfx16 := (unhide HFX15).kept b16
  have m16 : Mv E w5 w16 := m15.trans (Mv.of b16)
  have hfq16 := hsr16.fx
  rw [← unhide HO] at hfq16
  cases bt with
  | true =>
    as_aux_lemma =>
    have HAN := hide (hfq16.answer tk htk (show f.stk.length ≤ 64 by omega) (unhide HAF).pc none 0 0 0 (KNat.nil E w16))
    have HS16 := hide hsr16
    clear hfq16 hsr16 hfx16
    go_wp2_with (go_at_call 208; refine (unhide HAN).mono ?_; rintro e w17 ⟨rfl, fr17, hfx17, hfl17, hfe17, hch17⟩; have HFX17 := hide hfx17; have HFE17 := hide hfe17; have HFL17 := hide hfl17; have HCH17 := hide hch17; clear hfx17 hfe17 hfl17 hch17)
    refine bodyPost_ret (results_none rfl _ _ _) rfl ?_
    have hfx17 := unhide HFX17
    have hfe17 := unhide HFE17
    rw [unhide HO] at hfx17 hfe17
    have hsr17 := (unhide HS16).top hfx17 (unhide HFL17) (fun i hi => hfe17 i (.inl hi)) (unhide HCH17)
    have m17 : Mv E w5 w17 := m16.trans (Mv.frame (unhide HS16).row (unhide HS16).g (unhide HCH17))
    exact ⟨rfl, E, gf, cs15, fr17, d15, unhide HWID E w5 (Wider.refl _ _) (Nat.le_refl _), unhide HMV w17 m17, (unhide HGR15).mono (by omega), .inl ⟨f.gas - sg, by omega, hsr17⟩⟩
  | false =>
    as_aux_lemma =>
    have HWT := hide (hfq16.wait tk htk (show f.stk.length ≤ 64 by omega) none 0 0 0 (KNat.nil E w16) (by omega) none 0 0 0 (KNat.nil E w16) (by omega))
    have HS16 := hide hsr16
    have HFX16 := hide hfx16
    clear hfq16 hsr16 hfx16
    go_upto_region 17 with (go_at_call 304; refine (unhide HWT).mono ?_; rintro e w17 ⟨mO, hmO, rfl, fr17, hfx17, hfl17, hfe17, hch17⟩)
    have hfx17' := hfx17
    have hfe17' := hfe17
    rw [unhide HO] at hfx17' hfe17'
    have hsr17 := (unhide HS16).top hfx17' hfl17 (fun i hi => hfe17' i (.inl hi)) hch17
    have mv17 := Mv.frame (G := E) (unhide HS16).row (unhide HS16).g hch17
    have hb17 := (unhide HFX16).go mv17 (hch17.row (unhide HFX16).row hgbf)
    have m17 : Mv E w5 w17 := m16.trans mv17
    have hrgF : w17.rangeAt gb 0 fb12 := hb17.row.rangeAll
    have hszF : (Sakg.prog.info? 194).map (·.size) = some fb12.length := by rw [hfl12]; exact sizeFrame
    have hg15w : wt d15 + 40000 ≤ 2250000000 := by have := (unhide HGR15).wtle; omega
    have HEN := hide (enter_k hsr17.sb hsr17.fb hg15 hg15w _ fb12 hfl12 hb17.kfRow (by rcases hkd with rfl | rfl <;> simp [childF]) (show v0 < P256 by omega) (by have := unhide HNR; rw [List.length_cons]; omega))
    have HRGF := hide hrgF
    clear hfx17 hfe17 hfx17' hfe17' hsr17 hb17 hrgF hch17
    go_wp2_with (first
      | ((with_reducible refine at_load 194 ?_); refine wpList_load_g rfl 194 (.tmp 11) rfl gb 0 rfl fb12 _ (unhide HRGF) Sakg.underlying194 rfl hszF ?_)
      | (go_at_call 110; refine (unhide HEN).mono ?_; rintro e w18 ⟨rfl, hen⟩; have HENT := hide hen; clear hen))
    refine bodyPost_done rfl rfl ?_
    obtain ⟨G', gf', cs', fr', d', hW', hM', hG', hL', hS'⟩ := unhide HENT
    rw [unhide HXR] at hS'
    have hcr : createsB kd = true := by rcases hkd with rfl | rfl <;> rfl
    refine ⟨rfl, G', gf', cs', fr', d', unhide HWID G' w17 hW' m17.size, unhide HMV w18 (m17.trans hM'), ((unhide HGR15).trans hG').mono (by omega), .inr ⟨_, f.gas - sg, mO, 0, d15, hS', ?_, hmO, by omega, rfl, (unhide HGR15).mono (by omega), ?_, rfl, rfl, rfl, by have := unhide HNR; omega, fun _ => hL' hcr, hG'.mono (by omega)⟩⟩
    · show sg + (f.gas - sg) ≤ f.gas + 0
      omega
    · exact ⟨by show 0 < P256; omega, by show v0 < P256; omega, by show 0 < P256; omega, by show 0 < P256; omega, (fun y hy => by cases hy), by show 0 ≤ 64; omega, by show ys.length ≤ 1000; omega, by show 0 ≤ 1000000; omega, by show kd ≤ 7; omega, by show 0 ≤ 255; omega⟩
end

end Go.Proofs.YgcsakGreat
