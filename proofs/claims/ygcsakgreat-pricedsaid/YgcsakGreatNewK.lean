/-
  yp: New, with the hashes that it lays.
-/
import Derived.Test.YgcsakGreatNewZ
namespace Go.Proofs.YgcsakGreat
set_option linter.unusedVariables false
set_option linter.unusedSimpArgs false
set_option maxRecDepth 100000
open Go.RowKit

/-- the hashes lie in the chain's last cell -/
def HashOK (bw : Nat) (cs : List Value) (w : World) (rowsH : List (List Value)) : Prop := ∃ A k c, cs[178]? = some (.slice A k c) ∧ Stab bw (fun w => Rws w 32 A k c rowsH) w
def NewPostK (rowsH : List (List Value)) (re : List Value) (ok : Bool) (l : Nat) (ds : List OAcct) (w : World) (e : Ending) (w' : World) : Prop :=
  Below w.heap.size w w' ∧ ((ok = false ∧ e = .returned (.tuple #[.pointer none, .bool false])) ∨ (ok = true ∧ ∃ bw cs, e = .returned (.tuple #[.pointer (some ⟨bw, 0, none⟩), .bool true]) ∧ w.heap.size ≤ bw ∧ NewOK bw cs re w' l ds ∧ TotOK bw cs w' l ∧ HashOK bw cs w' rowsH))

set_option maxHeartbeats 16000000 in
theorem new_k (ao : Option Addr) (l c : Nat) (ds : List OAcct) (re : List Value) (cb : List Int) (gl : Nat) (fee : List Int) (A3 : Option Addr) (k3 c3 : Nat) (rowsH : List (List Value)) (w : World)
    (hds : OAcctsR w ao l c ds) (hl : l ≤ 140737488355328) (he : EnvC re cb gl fee A3 k3 c3) (hH : Rws w 32 A3 k3 c3 rowsH) (hH1 : ∀ r ∈ rowsH, ∀ v ∈ r, v.oneCell' = true) (hk3 : k3 ≤ 140737488355328) :
    Calls Sakg.prog 46 #[.slice ao l c, .agg re.toArray] w (NewPostK rowsH re (worldB ds && decide (k3 ≤ 4)) l ds w) := by
  obtain ⟨W, hW⟩ : ∃ W, W = w.alloc (.cells re.toArray 64) := ⟨_, rfl⟩
  have hb0 : Below w.heap.size w W := by rw [hW]; exact (Below.refl _ _).alloc (Nat.le_refl _) _
  have hr0 : RowT 64 W w.heap.size re := by rw [hW]; exact RowT.new _ _ _
  have HW := hide (worldOK_any ao l c ds W (hds.kept hb0) hl)
  have HR0 := hide hr0
  have hsE : (Sakg.prog.info? 64).map (·.size) = some re.length := by rw [he.len]; exact sizeEnv
  clear hr0
  go_enter Sakg.func46, Sakg.ntmps46
  go_upto_region 1 with fail
  rw [← hW]
  clear hW
  cases hwb : worldB ds with
  | false =>
    rw [hwb] at HW
    go_wp2_with (go_at_call 86; refine (unhide HW).mono ?_; rintro e w2 ⟨rfl, b2⟩)
    refine bodyPost_ret (results_tmp2 rfl _ _ _) rfl ?_
    exact ⟨hb0.trans (b2.mono hb0.size), .inl ⟨by rw [hwb]; rfl, rfl⟩⟩
  | true =>
    rw [hwb] at HW
    go_wp2_with fail
    refine (unhide HW).mono ?_
    rintro e w2 ⟨rfl, b2⟩
    have hr2 := (unhide HR0).kept b2
    have HRE := hide hr2.rangeAll
    have HENV := hide (envOK_any re A3 k3 c3 w2 he.hashes hk3)
    have b02 : Below w.heap.size w w2 := hb0.trans (b2.mono hb0.size)
    clear HW
    by_cases hk4 : k3 ≤ 4
    case neg =>
      have HK4 := hide hk4
      rw [decide_eq_false hk4] at HENV
      clear hk4
      go_wp2_with (first
        | ((with_reducible refine at_load 64 ?_); refine wpList_load_g (by rfl) 64 (.tmp 3) rfl w.heap.size 0 rfl re _ (unhide HRE) Sakg.underlying64 rfl hsE ?_)
        | (go_at_call 87; refine (unhide HENV).mono ?_; rintro e w3 ⟨rfl, b3⟩))
      refine bodyPost_ret (results_tmp2 rfl _ _ _) rfl ?_
      exact ⟨b02.trans (b3.mono b02.size), .inl ⟨by rw [hwb, decide_eq_false (unhide HK4)]; rfl, rfl⟩⟩
    rw [decide_eq_true hk4] at HENV
    have hE1 : 59 + re.length ≤ zeroC.length := by rw [zeroC_len, he.len]; omega
    go_upto_region 4 with (first
      | ((with_reducible refine at_load 64 ?_); refine wpList_load_g (by rfl) 64 (.tmp 3) rfl w.heap.size 0 rfl re _ (unhide HRE) Sakg.underlying64 rfl hsE ?_)
      | (go_at_call 87; refine (unhide HENV).mono ?_; rintro e w3 ⟨rfl, b3⟩)
      | ((with_reducible refine at_alloc 107 ?_); refine wpList_alloc_g (by rfl) 107 rfl zeroC 179 infoChain zeroC_len ?_))
    have b03 : Below w.heap.size w w3 := b02.trans (b3.mono b02.size)
    obtain ⟨w4, hw4⟩ : ∃ w4, w4 = w3.alloc (.cells zeroC.toArray 107) := ⟨_, rfl⟩
    have c4 : RowT 107 w4 w3.heap.size zeroC := by rw [hw4]; exact RowT.new _ _ _
    have b34 : Below w3.heap.size w3 w4 := by rw [hw4]; exact (Below.refl _ _).alloc (Nat.le_refl _) _
    have hr4 := (hr2.kept b3).kept b34
    have HRE4 := hide hr4.rangeAll
    rw [← hw4]
    obtain ⟨bw, hbw⟩ : ∃ bw, bw = w3.heap.size := ⟨_, rfl⟩
    have hwlt : w.heap.size < bw := by rw [hbw]; exact (hr2.kept b3).lt
    rw [← hbw] at c4 b34 ⊢
    have C4 := hide c4
    have HBW := hide hbw
    clear hw4 c4 HRE HENV hr2 hbw
    go_upto_region 5 with (first
      | ((with_reducible refine at_load 64 ?_); refine wpList_load_g (by rfl) 64 (.tmp 3) rfl w.heap.size 0 rfl re _ (unhide HRE4) Sakg.underlying64 rfl hsE ?_)
      | ((with_reducible refine at_store 64 ?_); refine wpList_store_part rfl 64 (.tmp 25) (.tmp 22) rfl bw 59 107 zeroC re rfl rfl (unhide C4) hE1 hsE he.one ?_; intro w5 hr5 ho5))
    have cse : CsE re (spl zeroC 59 re) := by
      have hsp : spl zeroC 59 re = zeroC.take 59 ++ re := by
        unfold spl
        rw [List.drop_of_length_le (by rw [zeroC_len, he.len]; omega), List.append_nil]
      refine ⟨by rw [spl_len _ _ _ hE1, zeroC_len], fun i h0 h1 h2 => by rw [hsp], .slice A3 k3 c3, ?_, rfl⟩
      rw [hsp, List.getElem?_append_right (by rw [List.length_take, zeroC_len]; omega), List.length_take, zeroC_len]
      exact he.hashes
    have b35 : Below bw w3 w5 := b34.trans (ho5.below _ (Nat.le_refl _))
    have r5 := hr4.only ho5 (by omega)
    have h119 : w5.cell? ⟨w.heap.size, 119, none⟩ = some (.slice A3 k3 c3) := by rw [r5.cell]; exact he.hashes
    have b05 : Below w.heap.size w w5 := b03.trans (b35.mono (by omega))
    have HWO := hide (wordsOf_any A3 k3 c3 rowsH w5 (hH.kept b05) hH1 (by omega))
    have z0 : (spl zeroC 59 re)[0]? = some nilS := by
      unfold spl
      rw [List.append_assoc, List.getElem?_append_left (by rw [List.length_take, zeroC_len]; omega)]
      rfl
    have z18 : (spl zeroC 59 re)[18]? = some nilS := by
      unfold spl
      rw [List.append_assoc, List.getElem?_append_left (by rw [List.length_take, zeroC_len]; omega)]
      rfl
    generalize hcs : spl zeroC 59 re = cs5 at hr5 cse z0 z18
    have hbw5 : bw < w5.heap.size := hr5.lt
    have HR5 := hide hr5
    have HCSE := hide cse
    clear hr5 cse hcs HRE4 C4 hr4 r5
    go_upto_region 6 with (go_at_call 96; refine (unhide HWO).mono ?_; rintro e w6 ⟨A4, k4, c4, rfl, hH4, hN4, b6⟩; have hc6 := (unhide HR5).kept b6; have hx6 : ∃ v, w6.cell? ⟨bw, 178, none⟩ = some v := by { rw [hc6.cell, List.getElem?_eq_getElem (by rw [(unhide HCSE).1]; omega)]; exact ⟨_, rfl⟩ }; obtain ⟨v178, hx6⟩ := hx6; have hz6 := hc6.froz 178)
    obtain ⟨w7, hw7⟩ : ∃ w7, w7 = w6.setCell ⟨bw, 178, none⟩ (.slice A4 k4 c4) := ⟨_, rfl⟩
    have r7 : RowT 107 w7 bw (cs5.set 178 (.slice A4 k4 c4)) := hw7 ▸ hc6.set 178 _
    have b67 : Below bw w6 w7 := hw7 ▸ ((Only.refl bw w6).setCell 178 _).below _ (Nat.le_refl _)
    have b07 : Below w.heap.size w w7 := b05.trans ((b6.mono b05.size).trans (b67.mono (by omega)))
    have cse7 := (unhide HCSE).set 178 (.inr (.inr rfl)) (.slice A4 k4 c4) rfl
    have z0' : (cs5.set 178 (.slice A4 k4 c4))[0]? = some nilS := by rw [List.getElem?_set_ne (by omega)]; exact z0
    have z18' : (cs5.set 178 (.slice A4 k4 c4))[18]? = some nilS := by rw [List.getElem?_set_ne (by omega)]; exact z18
    have hs178 : (cs5.set 178 (Value.slice A4 k4 c4))[178]? = some (.slice A4 k4 c4) := List.getElem?_set_self (by rw [(unhide HCSE).1]; omega)
    have hHoff : OffS (G2 bw nilS) A4 k4 := fun y hy h0 hg => by
      have h1 := hN4 y hy
      rcases hg with h | h
      · omega
      · cases h
    have hHS : StabS (G2 bw nilS) (fun w => Rws w 32 A4 k4 c4 rowsH) w7 := StabS.rws ((StabS.rws (G := G2 bw nilS) hH4 hHoff) w7 (ChgS.only (hw7 ▸ (Only.refl bw w6).setCell 178 _) (.inl rfl))) hHoff
    rw [← hw7]
    have hlen := hds.len
    obtain ⟨rows0, g1, g2⟩ := hds
    have HAT := hide (rows_at' zeroO g1 g2)
    have HLEN := hide hlen
    have hl8 : l ≤ 8 := by
      have := hwb
      unfold worldB at this
      simp at this
      omega
    generalize cs5.set 178 (.slice A4 k4 c4) = cs7 at r7 cse7 z0' z18' hs178
    have hbw7 : bw < w7.heap.size := r7.lt
    clear hw7 hc6 hx6 hz6 b67 z0 z18 HR5 HCSE hH4 hN4 h119 HWO g1 g2 b6 ho5
    go_wp2_with fail
    go_loopg [36] l (fun gk iv wr => ∃ (i : Nat) (cs : List Value) (v : Value) (rows : List (List Value)) (At : Option Addr) (kt ct nt : Nat), i + gk = l ∧ iv = .int .i64 i ∧ RowT 107 wr bw cs ∧ CsE re cs ∧ cs[0]? = some v ∧ wr.ownsRow (bw + 1) 113 24 v i rows.flatten ∧ Each (SAcctS (G2 bw v) wr) rows ((ds.take i).map acctOf) ∧ cs[18]? = some (.slice At kt ct) ∧ StabS (G2 bw v) (fun w => IsNat w At kt ct nt) wr ∧ nt ≤ i * 256 ^ 32 ∧ Below w.heap.size w wr ∧ bw < wr.heap.size ∧ cs[178]? = some (.slice A4 k4 c4) ∧ StabS (G2 bw v) (fun w => Rws w 32 A4 k4 c4 rowsH) wr)
    case atStart => exact ⟨0, cs7, nilS, [], none, 0, 0, 0, by omega, rfl, r7, cse7, z0', World.ownsRow_nil _ _ _ _, trivial, z18', StabS.nat (IsNat.nil _) (OffS.nil _ _), by omega, b07, hbw7, hs178, hHS⟩
    case round =>
      obtain ⟨wo, hwo⟩ : ∃ wo, wo = wr := ⟨_, rfl⟩
      subst hwo
      obtain ⟨i, cs, v, rows, At, kt, ct, nt, hi, rfl, hr, hcse, hv0, hown, heach, hv18, htot, hnt, hbe, hbl, h178, hhs⟩ := hrel
      have HR := hide hr
      have HCS := hide hcse
      have HV0 := hide hv0
      have HOWN := hide hown
      have HEACH := hide heach
      have HV18 := hide hv18
      have HTOT := hide htot
      have HHS := hide hhs
      have H178 := hide h178
      clear h178 hhs
      clear hr hcse hv0 hown heach hv18 htot r7 cse7 z0' z18' hs178 hHS hHoff
      by_cases hil : i < l
      · obtain ⟨b, off, rfl, hlt, hat⟩ := unhide HAT (by omega)
        obtain ⟨r, hrg, horow⟩ := hat i hil
        have hts : ds.take (i + 1) = ds.take i ++ [ds.getD i zeroO] := by
          rw [List.take_succ_eq_append_getElem (by have := unhide HLEN; omega)]
          simp [List.getD, show i < ds.length by have := unhide HLEN; omega]
        obtain ⟨o, ho⟩ : ∃ o, o = ds.getD i zeroO := ⟨_, rfl⟩
        have hoka : o.code.length ≤ 256 ∧ o.slots.length ≤ 16 := okA_le o (by rw [ho]; exact okWs_all ds none (zeros 32) (by have := hwb; unfold worldB at this; simp at this; exact this.2) _ (by rw [List.getD_eq_getElem?_getD, List.getElem?_eq_getElem (by have := unhide HLEN; omega)]; simp))
        have HOKA := hide hoka
        rw [← ho] at horow hts
        have hrl := horow.len
        have hsz : (Sakg.prog.info? 43).map (·.size) = some r.length := by rw [hrl]; exact sizeOA
        have hrg2 := range_below hrg hbe (fun _ => hlt)
        have hz20 : (rowOA (zeros 20)).length = 55 := by simp [rowOA, bv_len, zeros_len]
        have HRG := hide hrg2
        have HOROW := hide horow
        have HTS := hide hts
        have HSZ := hide hsz
        have HRL := hide hrl
        clear hat hrg hrg2 horow hts ho hsz hrl hoka
        go_upto_region 9 with (first
          | ((with_reducible refine at_load 43 ?_); refine wpList_load_g (by rfl) 43 (.tmp 38) rfl b _ rfl r _ (unhide HRG) Sakg.underlying43 rfl (unhide HSZ) ?_)
          | ((with_reducible refine at_alloc 43 ?_); refine wpList_alloc_g (by rfl) 43 rfl (rowOA (zeros 20)) 55 infoOA hz20 ?_)
          | ((with_reducible refine at_store 43 ?_); refine wpList_store_whole rfl 43 (.tmp 8) (.tmp 39) rfl _ _ _ r rfl rfl (RowT.new _ _ _) (by rw [unhide HRL, hz20]) (unhide HSZ) (unhide HOROW).one ?_; intro w1 hr1 hon1; have hbb := box_below hon1; clear hon1))
        obtain ⟨B3, j3, e3, B4, j4, e4, q20, q21, q53, q54, hia, hnn, hbal, hcode, hslots⟩ := (unhide HOROW).cells
        have hbx : ∀ wz, Below w1.heap.size w1 wz → RowT 43 wz wo.heap.size r := fun wz hz => hr1.kept hz
        have hbX : ∀ wz, Below w1.heap.size w1 wz → Below w.heap.size w wz := fun wz hz => hbe.trans ((hbb.1.trans (hz.mono hbb.1.size)).mono hbe.size)
        have hcb : ∀ wz, Below w1.heap.size w1 wz → Src wz B3 j3 e3 o.code := fun wz hz => hcode.kept (hbX wz hz)
        have hbs : ∀ wz, Below w1.heap.size w1 wz → Src wz (some ⟨wo.heap.size, 21, none⟩) 32 32 o.bal := fun wz hz => src_of_range (by have := (hbx wz hz).range 21 32; rwa [q21] at this) hbal.byt hbal.len max32
        have hj3b : j3 ≤ 140737488355328 := by
          rw [← hcode.len_eq]
          exact Nat.le_trans (unhide HOKA).1 (by omega)
        have hca : ∀ wz, Below w1.heap.size w1 wz → wz.rangeAt wo.heap.size 0 (bv o.addr) := fun wz hz => by have := (hbx wz hz).range 0 20; rwa [(unhide HOROW).pre] at this
        have HBX := hide hbx
        have HBBX := hide hbX
        have HCB := hide hcb
        have HBS := hide hbs
        have HCA := hide hca
        have hu := Sakg.underlying26
        have hsz63 := hia.size
        have d1 : Below w1.heap.size w1 w1.drew := Quiet.below ⟨1, rfl⟩ _
        have HS1 := hide hbb.2
        have HBB := hide hbb.1
        have hslk := hslots
        have HSL := hide hslk
        have HQ54 := hide q54
        clear hbx hbX hcb hbs hca hr1 hbb hcode hslots hslk
        simp only [Act.put, List.setIfInBounds_toArray, List.set_cons_zero, List.set_cons_succ]
        have hbuild : ∀ (Aa Ab Ac : Option Addr) (ka ca kb cb kc cc : Nat) (wx : World), (Instr.build 113 #[(0, .agg (bv o.addr).toArray), (1, .slice Aa ka ca), (2, .slice Ab kb cb), (3, .slice Ac kc cc)]).run Sakg.prog wx = .ok (.agg (bv o.addr ++ [Value.slice Aa ka ca, .slice Ab kb cb, .slice Ac kc cc, nilS]).toArray) wx := fun Aa Ab Ac ka ca kb cb kc cc wx => run_acct4 wx o.addr hia _ _ _ rfl rfl rfl
        have HBUILD := hide hbuild
        clear hbuild
        go_cut [9] (fun s9 wc => ∃ (gX : Nat) (Aa Ab Ac : Option Addr) (ka ca kb cb kc cc : Nat), s9 = .pointer (some ⟨gX, 0, none⟩) ∧ w1.heap.size ≤ gX ∧ RowT 113 wc gX (bv o.addr ++ [Value.slice Aa ka ca, .slice Ab kb cb, .slice Ac kc cc, nilS]) ∧ IsNat wc Aa ka ca o.nonce ∧ IsNat wc Ab kb cb (beN o.bal) ∧ Src wc Ac kc cc o.code ∧ New w1 Aa ∧ New w1 Ab ∧ New w1 Ac ∧ OffS (· = gX) Aa ka ∧ OffS (· = gX) Ab kb ∧ OffS (· = gX) Ac kc ∧ Below w1.heap.size w1 wc)
        case first =>
          refine wp_region_noPanic ?_
          refine wp_region_held_drew (S := fun w' => Below w1.heap.size w1 w') (by kernel_rfl) (d1) (fun hHeld => ?_)
          refine held_takeD 0 (.pointer (some ⟨wo.heap.size, 0, none⟩)) (some 40) (by rfl) (by rfl) (by kernel_rfl) (by kernel_rfl) (by kernel_rfl) (fun _ _ _ h => h) (.inl ⟨by rfl, fun _ _ => by go_simp⟩) (hHeld) ?_
          simp only [Act.put, List.setIfInBounds_toArray, List.set_cons_zero, List.set_cons_succ]
          refine held_takeD 1 (.agg (bv o.addr).toArray) (some 41) (by rfl) (by rfl) (by kernel_rfl) (by kernel_rfl) (by kernel_rfl) (fun _ _ _ h => h) (yieldsIf_load_mid (by rfl) _ _ rfl _ _ rfl _ _ (fun wz hS => unhide HCA wz hS) hu rfl hsz63) (hHeld) ?_
          simp only [Act.put, List.setIfInBounds_toArray, List.set_cons_zero, List.set_cons_succ]
          refine held_takeD 2 (.pointer (some ⟨wo.heap.size, 20, none⟩)) (some 42) (by rfl) (by rfl) (by kernel_rfl) (by kernel_rfl) (by kernel_rfl) (fun _ _ _ h => h) (.inl ⟨by rfl, fun _ _ => by go_simp⟩) (hHeld) ?_
          simp only [Act.put, List.setIfInBounds_toArray, List.set_cons_zero, List.set_cons_succ]
          refine held_takeD 3 (.int .u64 o.nonce) (some 43) (by rfl) (by rfl) (by kernel_rfl) (by kernel_rfl) (by kernel_rfl) (fun _ _ _ h => h) (.inl ⟨by rfl, fun wS hS => by have hc : wS.cell? ⟨wo.heap.size, 20, none⟩ = some (.int .u64 o.nonce) := by { rw [(unhide HBX wS hS).cell]; exact q20 }; go_simp⟩) (hHeld) ?_
          simp only [Act.put, List.setIfInBounds_toArray, List.set_cons_zero, List.set_cons_succ]
          refine held_takeD 5 (.pointer (some ⟨wo.heap.size, 21, none⟩)) (some 45) (by rfl) (by rfl) (by kernel_rfl) (by kernel_rfl) (by kernel_rfl) (fun _ _ _ h => h) (.inl ⟨by rfl, fun _ _ => by go_simp⟩) (hHeld) ?_
          simp only [Act.put, List.setIfInBounds_toArray, List.set_cons_zero, List.set_cons_succ]
          refine held_takeD 6 (.slice (some ⟨wo.heap.size, 21, none⟩) 32 32) (some 46) (by rfl) (by rfl) (by kernel_rfl) (by kernel_rfl) (by kernel_rfl) (fun _ _ _ h => h) (.inl ⟨by rfl, fun _ _ => by go_simp⟩) (hHeld) ?_
          simp only [Act.put, List.setIfInBounds_toArray, List.set_cons_zero, List.set_cons_succ]
          refine held_takeD 8 (.pointer (some ⟨wo.heap.size, 53, none⟩)) (some 48) (by rfl) (by rfl) (by kernel_rfl) (by kernel_rfl) (by kernel_rfl) (fun _ _ _ h => h) (.inl ⟨by rfl, fun _ _ => by go_simp⟩) (hHeld) ?_
          simp only [Act.put, List.setIfInBounds_toArray, List.set_cons_zero, List.set_cons_succ]
          refine held_takeD 9 (.slice B3 j3 e3) (some 49) (by rfl) (by rfl) (by kernel_rfl) (by kernel_rfl) (by kernel_rfl) (fun _ _ _ h => h) (.inl ⟨by rfl, fun wS hS => by have hc : wS.cell? ⟨wo.heap.size, 53, none⟩ = some (.slice B3 j3 e3) := by { rw [(unhide HBX wS hS).cell]; exact q53 }; go_simp⟩) (hHeld) ?_
          simp only [Act.put, List.setIfInBounds_toArray, List.set_cons_zero, List.set_cons_succ]
          refine held_two 4 12 (by kernel_rfl) (by rfl) (by rfl) (fun K' hK' => ?_) (fun K' hK' => ?_)
          · go_simp
            refine (num_any o.nonce w1.drew hnn).mono ?_
            rintro e wa ⟨Aa, ka, ca, rfl, na, Na, ba⟩
            have da := d1.trans (ba.mono d1.size)
            refine hK'.out _ _ (da) ?_
            clear hK' K'
            refine held_two 7 12 (by kernel_rfl) (by rfl) (by rfl) (fun K' hK' => ?_) (fun K' hK' => ?_)
            · go_simp
              refine (fromBE_any _ 32 32 o.bal wa (unhide HBS _ da) (by omega)).mono ?_
              rintro e wb ⟨Ab, kb, cb, rfl, nb, Nb, bb⟩
              have db := da.trans (bb.mono da.size)
              refine hK'.out _ _ (db) ?_
              clear hK' K'
              refine held_two 10 12 (by kernel_rfl) (by rfl) (by rfl) (fun K' hK' => ?_) (fun K' hK' => ?_)
              · go_simp
                refine (bytesOf_any B3 j3 e3 o.code wb (unhide HCB _ db) hj3b).mono ?_
                rintro e wc ⟨Ac, kc, rfl, nc, -, Nc, bc⟩
                have dc := db.trans (bc.mono db.size)
                refine hK'.out _ _ (dc) ?_
                clear hK' K'
                refine held_takeD 11 (.agg (bv o.addr ++ [Value.slice Aa ka ca, .slice Ab kb cb, .slice Ac kc kc, nilS]).toArray) (some 51) (by rfl) (by rfl) (by kernel_rfl) (by kernel_rfl) (by kernel_rfl) (fun _ _ _ h => h) (yieldsIf_build (by rfl) 113 [(0, .tmp 41), (1, .tmp 44), (2, .tmp 47), (3, .tmp 50)] rfl _ (fun wx => unhide HBUILD Aa Ab Ac ka ca kb cb kc kc wx)) dc ?_
                simp only [Act.put, List.setIfInBounds_toArray, List.set_cons_zero, List.set_cons_succ]
                refine held_one 12 (by kernel_rfl) (by rfl) (fun K' hK' => ?_)
                refine if_alloc (some 9) rfl 113 rfl (by rfl) _ 24 infoAcct2 (by simp [bv_len, zeros_len]) (fun wX rX bX sX => ?_)
                have dX := dc.trans (bX.mono dc.size)
                refine hK'.out _ _ (dX) ?_
                clear hK' K'
                simp only [Act.put, List.setIfInBounds_toArray, List.set_cons_zero, List.set_cons_succ]
                refine held_one 13 (by kernel_rfl) (by rfl) (fun K' hK' => ?_)
                refine if_store rfl (by rfl) 113 (.tmp 9) (.tmp 51) rfl wc.heap.size 0 113 _ (bv o.addr ++ [Value.slice Aa ka ca, .slice Ab kb cb, .slice Ac kc kc, nilS]) rfl rfl rX (by simp [bv_len, hia.len, zeros_len]) (by rw [show (bv o.addr ++ [Value.slice Aa ka ca, .slice Ab kb cb, .slice Ac kc kc, nilS]).length = 24 from by simp [bv_len, hia.len]]; exact sizeAcct) (row4_one _ _ _ _ (ka, ca, kb, cb, kc, kc)) (fun wS rS oS => ?_)
                have dS : Below w1.heap.size w1 wS := dX.trans (oS.below _ (dc.size))
                refine hK'.out _ _ (dS) ?_
                clear hK' K'
                refine wpAnyH_done (by kernel_rfl) ?_ _
                refine NoPanic.normal ?_
                rw [spl_all _ _ (by simp [bv_len, hia.len, zeros_len])] at rS
                have zd : w1.drew.heap.size = w1.heap.size := rfl
                have za := ba.size
                have zb := bb.size
                have zc := bc.size
                have zX := bX.size
                have zS := oS.size
                have qa := na.kept ((bb.trans (bc.mono bb.size)).trans (bX.mono (bb.trans (bc.mono bb.size)).size))
                have qb := nb.kept (bc.trans (bX.mono bc.size))
                have qc := nc.kept bX
                have nea : ∀ x, Aa = some x → 0 < ka → x.block ≠ wc.heap.size := fun x hx h0 h1 => by have h2 := nat_blk na x hx h0; have h3 := Na x hx; omega
                have nwa : New w1 Aa := fun x hx => by have h3 := Na x hx; omega
                have neb : ∀ x, Ab = some x → 0 < kb → x.block ≠ wc.heap.size := fun x hx h0 h1 => by have h2 := nat_blk nb x hx h0; have h3 := Nb x hx; omega
                have nwb : New w1 Ab := fun x hx => by have h3 := Nb x hx; omega
                have nec : ∀ x, Ac = some x → 0 < kc → x.block ≠ wc.heap.size := fun x hx h0 h1 => by have h2 := nc.lt x hx h0; have h3 := Nc x hx; omega
                have nwc : New w1 Ac := fun x hx => by have h3 := Nc x hx; omega
                have q1 : IsNat wS Aa ka ca o.nonce := StabS.nat (G := (· = wc.heap.size)) qa nea wS (ChgS.only oS rfl)
                have q2 : IsNat wS Ab kb cb (beN o.bal) := StabS.nat (G := (· = wc.heap.size)) qb neb wS (ChgS.only oS rfl)
                have q3 : Src wS Ac kc kc o.code := StabS.src (G := (· = wc.heap.size)) qc nec wS (ChgS.only oS rfl)
                go_wp2_with fail
                go_meet
                case rel => exact ⟨wc.heap.size, Aa, Ab, Ac, ka, ca, kb, cb, kc, kc, rfl, by omega, rS, q1, q2, q3, nwa, nwb, nwc, nea, neb, nec, dS⟩
              · refine if_alloc (some 9) rfl 113 rfl (by rfl) _ 24 infoAcct2 (by simp [bv_len, zeros_len]) (fun wX rX bX sX => ?_)
                have dX := db.trans (bX.mono db.size)
                refine hK'.out _ _ (dX) ?_
                clear hK' K'
                simp only [Act.put, List.setIfInBounds_toArray, List.set_cons_zero, List.set_cons_succ]
                refine held_one 10 (by kernel_rfl) (by rfl) (fun K' hK' => ?_)
                go_simp
                refine (bytesOf_any B3 j3 e3 o.code wX (unhide HCB _ dX) hj3b).mono ?_
                rintro e wc ⟨Ac, kc, rfl, nc, -, Nc, bc⟩
                have dc := dX.trans (bc.mono dX.size)
                refine hK'.out _ _ (dc) ?_
                clear hK' K'
                refine held_takeD 11 (.agg (bv o.addr ++ [Value.slice Aa ka ca, .slice Ab kb cb, .slice Ac kc kc, nilS]).toArray) (some 51) (by rfl) (by rfl) (by kernel_rfl) (by kernel_rfl) (by kernel_rfl) (fun _ _ _ h => h) (yieldsIf_build (by rfl) 113 [(0, .tmp 41), (1, .tmp 44), (2, .tmp 47), (3, .tmp 50)] rfl _ (fun wx => unhide HBUILD Aa Ab Ac ka ca kb cb kc kc wx)) dc ?_
                simp only [Act.put, List.setIfInBounds_toArray, List.set_cons_zero, List.set_cons_succ]
                refine held_one 13 (by kernel_rfl) (by rfl) (fun K' hK' => ?_)
                refine if_store rfl (by rfl) 113 (.tmp 9) (.tmp 51) rfl wb.heap.size 0 113 _ (bv o.addr ++ [Value.slice Aa ka ca, .slice Ab kb cb, .slice Ac kc kc, nilS]) rfl rfl (rX.kept bc) (by simp [bv_len, hia.len, zeros_len]) (by rw [show (bv o.addr ++ [Value.slice Aa ka ca, .slice Ab kb cb, .slice Ac kc kc, nilS]).length = 24 from by simp [bv_len, hia.len]]; exact sizeAcct) (row4_one _ _ _ _ (ka, ca, kb, cb, kc, kc)) (fun wS rS oS => ?_)
                have dS : Below w1.heap.size w1 wS := dc.trans (oS.below _ (db.size))
                refine hK'.out _ _ (dS) ?_
                clear hK' K'
                refine wpAnyH_done (by kernel_rfl) ?_ _
                refine NoPanic.normal ?_
                rw [spl_all _ _ (by simp [bv_len, hia.len, zeros_len])] at rS
                have zd : w1.drew.heap.size = w1.heap.size := rfl
                have za := ba.size
                have zb := bb.size
                have zX := bX.size
                have zc := bc.size
                have zS := oS.size
                have qa := na.kept ((bb.trans (bX.mono bb.size)).trans (bc.mono (bb.trans (bX.mono bb.size)).size))
                have qb := nb.kept (bX.trans (bc.mono bX.size))
                have qc := nc
                have nea : ∀ x, Aa = some x → 0 < ka → x.block ≠ wb.heap.size := fun x hx h0 h1 => by have h2 := nat_blk na x hx h0; have h3 := Na x hx; omega
                have nwa : New w1 Aa := fun x hx => by have h3 := Na x hx; omega
                have neb : ∀ x, Ab = some x → 0 < kb → x.block ≠ wb.heap.size := fun x hx h0 h1 => by have h2 := nat_blk nb x hx h0; have h3 := Nb x hx; omega
                have nwb : New w1 Ab := fun x hx => by have h3 := Nb x hx; omega
                have nec : ∀ x, Ac = some x → 0 < kc → x.block ≠ wb.heap.size := fun x hx h0 h1 => by have h2 := nc.lt x hx h0; have h3 := Nc x hx; omega
                have nwc : New w1 Ac := fun x hx => by have h3 := Nc x hx; omega
                have q1 : IsNat wS Aa ka ca o.nonce := StabS.nat (G := (· = wb.heap.size)) qa nea wS (ChgS.only oS rfl)
                have q2 : IsNat wS Ab kb cb (beN o.bal) := StabS.nat (G := (· = wb.heap.size)) qb neb wS (ChgS.only oS rfl)
                have q3 : Src wS Ac kc kc o.code := StabS.src (G := (· = wb.heap.size)) qc nec wS (ChgS.only oS rfl)
                go_wp2_with fail
                go_meet
                case rel => exact ⟨wb.heap.size, Aa, Ab, Ac, ka, ca, kb, cb, kc, kc, rfl, by omega, rS, q1, q2, q3, nwa, nwb, nwc, nea, neb, nec, dS⟩
            · refine if_alloc (some 9) rfl 113 rfl (by rfl) _ 24 infoAcct2 (by simp [bv_len, zeros_len]) (fun wX rX bX sX => ?_)
              have dX := da.trans (bX.mono da.size)
              refine hK'.out _ _ (dX) ?_
              clear hK' K'
              simp only [Act.put, List.setIfInBounds_toArray, List.set_cons_zero, List.set_cons_succ]
              refine held_one 7 (by kernel_rfl) (by rfl) (fun K' hK' => ?_)
              go_simp
              refine (fromBE_any _ 32 32 o.bal wX (unhide HBS _ dX) (by omega)).mono ?_
              rintro e wb ⟨Ab, kb, cb, rfl, nb, Nb, bb⟩
              have db := dX.trans (bb.mono dX.size)
              refine hK'.out _ _ (db) ?_
              clear hK' K'
              refine held_one 10 (by kernel_rfl) (by rfl) (fun K' hK' => ?_)
              go_simp
              refine (bytesOf_any B3 j3 e3 o.code wb (unhide HCB _ db) hj3b).mono ?_
              rintro e wc ⟨Ac, kc, rfl, nc, -, Nc, bc⟩
              have dc := db.trans (bc.mono db.size)
              refine hK'.out _ _ (dc) ?_
              clear hK' K'
              refine held_takeD 11 (.agg (bv o.addr ++ [Value.slice Aa ka ca, .slice Ab kb cb, .slice Ac kc kc, nilS]).toArray) (some 51) (by rfl) (by rfl) (by kernel_rfl) (by kernel_rfl) (by kernel_rfl) (fun _ _ _ h => h) (yieldsIf_build (by rfl) 113 [(0, .tmp 41), (1, .tmp 44), (2, .tmp 47), (3, .tmp 50)] rfl _ (fun wx => unhide HBUILD Aa Ab Ac ka ca kb cb kc kc wx)) dc ?_
              simp only [Act.put, List.setIfInBounds_toArray, List.set_cons_zero, List.set_cons_succ]
              refine held_one 13 (by kernel_rfl) (by rfl) (fun K' hK' => ?_)
              refine if_store rfl (by rfl) 113 (.tmp 9) (.tmp 51) rfl wa.heap.size 0 113 _ (bv o.addr ++ [Value.slice Aa ka ca, .slice Ab kb cb, .slice Ac kc kc, nilS]) rfl rfl (rX.kept (bb.trans (bc.mono bb.size))) (by simp [bv_len, hia.len, zeros_len]) (by rw [show (bv o.addr ++ [Value.slice Aa ka ca, .slice Ab kb cb, .slice Ac kc kc, nilS]).length = 24 from by simp [bv_len, hia.len]]; exact sizeAcct) (row4_one _ _ _ _ (ka, ca, kb, cb, kc, kc)) (fun wS rS oS => ?_)
              have dS : Below w1.heap.size w1 wS := dc.trans (oS.below _ (da.size))
              refine hK'.out _ _ (dS) ?_
              clear hK' K'
              refine wpAnyH_done (by kernel_rfl) ?_ _
              refine NoPanic.normal ?_
              rw [spl_all _ _ (by simp [bv_len, hia.len, zeros_len])] at rS
              have zd : w1.drew.heap.size = w1.heap.size := rfl
              have za := ba.size
              have zX := bX.size
              have zb := bb.size
              have zc := bc.size
              have zS := oS.size
              have qa := na.kept ((bX.trans (bb.mono bX.size)).trans (bc.mono (bX.trans (bb.mono bX.size)).size))
              have qb := nb.kept bc
              have qc := nc
              have nea : ∀ x, Aa = some x → 0 < ka → x.block ≠ wa.heap.size := fun x hx h0 h1 => by have h2 := nat_blk na x hx h0; have h3 := Na x hx; omega
              have nwa : New w1 Aa := fun x hx => by have h3 := Na x hx; omega
              have neb : ∀ x, Ab = some x → 0 < kb → x.block ≠ wa.heap.size := fun x hx h0 h1 => by have h2 := nat_blk nb x hx h0; have h3 := Nb x hx; omega
              have nwb : New w1 Ab := fun x hx => by have h3 := Nb x hx; omega
              have nec : ∀ x, Ac = some x → 0 < kc → x.block ≠ wa.heap.size := fun x hx h0 h1 => by have h2 := nc.lt x hx h0; have h3 := Nc x hx; omega
              have nwc : New w1 Ac := fun x hx => by have h3 := Nc x hx; omega
              have q1 : IsNat wS Aa ka ca o.nonce := StabS.nat (G := (· = wa.heap.size)) qa nea wS (ChgS.only oS rfl)
              have q2 : IsNat wS Ab kb cb (beN o.bal) := StabS.nat (G := (· = wa.heap.size)) qb neb wS (ChgS.only oS rfl)
              have q3 : Src wS Ac kc kc o.code := StabS.src (G := (· = wa.heap.size)) qc nec wS (ChgS.only oS rfl)
              go_wp2_with fail
              go_meet
              case rel => exact ⟨wa.heap.size, Aa, Ab, Ac, ka, ca, kb, cb, kc, kc, rfl, by omega, rS, q1, q2, q3, nwa, nwb, nwc, nea, neb, nec, dS⟩
          · refine if_alloc (some 9) rfl 113 rfl (by rfl) _ 24 infoAcct2 (by simp [bv_len, zeros_len]) (fun wX rX bX sX => ?_)
            have dX := d1.trans (bX.mono d1.size)
            refine hK'.out _ _ (dX) ?_
            clear hK' K'
            simp only [Act.put, List.setIfInBounds_toArray, List.set_cons_zero, List.set_cons_succ]
            refine held_one 4 (by kernel_rfl) (by rfl) (fun K' hK' => ?_)
            go_simp
            refine (num_any o.nonce wX hnn).mono ?_
            rintro e wa ⟨Aa, ka, ca, rfl, na, Na, ba⟩
            have da := dX.trans (ba.mono dX.size)
            refine hK'.out _ _ (da) ?_
            clear hK' K'
            refine held_one 7 (by kernel_rfl) (by rfl) (fun K' hK' => ?_)
            go_simp
            refine (fromBE_any _ 32 32 o.bal wa (unhide HBS _ da) (by omega)).mono ?_
            rintro e wb ⟨Ab, kb, cb, rfl, nb, Nb, bb⟩
            have db := da.trans (bb.mono da.size)
            refine hK'.out _ _ (db) ?_
            clear hK' K'
            refine held_one 10 (by kernel_rfl) (by rfl) (fun K' hK' => ?_)
            go_simp
            refine (bytesOf_any B3 j3 e3 o.code wb (unhide HCB _ db) hj3b).mono ?_
            rintro e wc ⟨Ac, kc, rfl, nc, -, Nc, bc⟩
            have dc := db.trans (bc.mono db.size)
            refine hK'.out _ _ (dc) ?_
            clear hK' K'
            refine held_takeD 11 (.agg (bv o.addr ++ [Value.slice Aa ka ca, .slice Ab kb cb, .slice Ac kc kc, nilS]).toArray) (some 51) (by rfl) (by rfl) (by kernel_rfl) (by kernel_rfl) (by kernel_rfl) (fun _ _ _ h => h) (yieldsIf_build (by rfl) 113 [(0, .tmp 41), (1, .tmp 44), (2, .tmp 47), (3, .tmp 50)] rfl _ (fun wx => unhide HBUILD Aa Ab Ac ka ca kb cb kc kc wx)) dc ?_
            simp only [Act.put, List.setIfInBounds_toArray, List.set_cons_zero, List.set_cons_succ]
            refine held_one 13 (by kernel_rfl) (by rfl) (fun K' hK' => ?_)
            refine if_store rfl (by rfl) 113 (.tmp 9) (.tmp 51) rfl w1.heap.size 0 113 _ (bv o.addr ++ [Value.slice Aa ka ca, .slice Ab kb cb, .slice Ac kc kc, nilS]) rfl rfl (rX.kept ((ba.trans (bb.mono ba.size)).trans (bc.mono (ba.trans (bb.mono ba.size)).size))) (by simp [bv_len, hia.len, zeros_len]) (by rw [show (bv o.addr ++ [Value.slice Aa ka ca, .slice Ab kb cb, .slice Ac kc kc, nilS]).length = 24 from by simp [bv_len, hia.len]]; exact sizeAcct) (row4_one _ _ _ _ (ka, ca, kb, cb, kc, kc)) (fun wS rS oS => ?_)
            have dS : Below w1.heap.size w1 wS := dc.trans (oS.below _ (Nat.le_refl _))
            refine hK'.out _ _ (dS) ?_
            clear hK' K'
            refine wpAnyH_done (by kernel_rfl) ?_ _
            refine NoPanic.normal ?_
            rw [spl_all _ _ (by simp [bv_len, hia.len, zeros_len])] at rS
            have zd : w1.drew.heap.size = w1.heap.size := rfl
            have zX := bX.size
            have za := ba.size
            have zb := bb.size
            have zc := bc.size
            have zS := oS.size
            have qa := na.kept (bb.trans (bc.mono bb.size))
            have qb := nb.kept bc
            have qc := nc
            have nea : ∀ x, Aa = some x → 0 < ka → x.block ≠ w1.heap.size := fun x hx h0 h1 => by have h2 := nat_blk na x hx h0; have h3 := Na x hx; omega
            have nwa : New w1 Aa := fun x hx => by have h3 := Na x hx; omega
            have neb : ∀ x, Ab = some x → 0 < kb → x.block ≠ w1.heap.size := fun x hx h0 h1 => by have h2 := nat_blk nb x hx h0; have h3 := Nb x hx; omega
            have nwb : New w1 Ab := fun x hx => by have h3 := Nb x hx; omega
            have nec : ∀ x, Ac = some x → 0 < kc → x.block ≠ w1.heap.size := fun x hx h0 h1 => by have h2 := nc.lt x hx h0; have h3 := Nc x hx; omega
            have nwc : New w1 Ac := fun x hx => by have h3 := Nc x hx; omega
            have q1 : IsNat wS Aa ka ca o.nonce := StabS.nat (G := (· = w1.heap.size)) qa nea wS (ChgS.only oS rfl)
            have q2 : IsNat wS Ab kb cb (beN o.bal) := StabS.nat (G := (· = w1.heap.size)) qb neb wS (ChgS.only oS rfl)
            have q3 : Src wS Ac kc kc o.code := StabS.src (G := (· = w1.heap.size)) qc nec wS (ChgS.only oS rfl)
            go_wp2_with fail
            go_meet
            case rel => exact ⟨w1.heap.size, Aa, Ab, Ac, ka, ca, kb, cb, kc, kc, rfl, by omega, rS, q1, q2, q3, nwa, nwb, nwc, nea, neb, nec, dS⟩
        case rest =>
          obtain ⟨gX, Aa, Ab, Ac, ka, ca, kb, cb', kc, cc, rfl, hgX, rX, n1, n2, n3, N1, N2, N3, o1, o2, o3, bc⟩ := hcut
          have c54 : wc.cell? ⟨wo.heap.size, 54, none⟩ = some (.slice B4 j4 e4) := by rw [(unhide HBX wc bc).cell]; exact unhide HQ54
          have hw1 := unhide HS1
          have hvl : ∀ k, v.ownBlock = some k → k < wo.heap.size := fun k hk => ((unhide HOWN).lt k hk).2
          have hzc := bc.size
          have hz1 := (unhide HBB).size
          have hneX : ¬ gX = wo.heap.size := by omega
          have hX24 : ∀ u : Value, (bv o.addr ++ [Value.slice Aa ka ca, .slice Ab kb cb', .slice Ac kc cc, u]).length = 24 := fun u => by simp [bv_len, hia.len]
          have hX23 : ∀ u : Value, (bv o.addr ++ [Value.slice Aa ka ca, .slice Ab kb cb', .slice Ac kc cc, u])[23]? = some u := fun u => by
            rw [List.getElem?_append_right (by rw [bv_len, hia.len]; omega), bv_len, hia.len]; rfl
          have hXs : ∀ u u' : Value, (bv o.addr ++ [Value.slice Aa ka ca, .slice Ab kb cb', .slice Ac kc cc, u]).set 23 u' = bv o.addr ++ [Value.slice Aa ka ca, .slice Ab kb cb', .slice Ac kc cc, u'] := fun u u' => by
            rw [List.set_append_right _ _ (by rw [bv_len, hia.len]; omega), bv_len, hia.len]; rfl
          obtain ⟨srows0, sg1, sg2⟩ := unhide HSL
          have hslen : o.slots.length = j4 := by rw [← sg2.len, sg1.len_eq]
          have HSAT := hide (rows_at' ([], []) sg1 sg2)
          have hj4 : j4 ≤ 9223372036854775807 := by have := Nat.le_trans sg1.le sg1.max; unfold maxLen at this; omega
          have HSLEN := hide hslen
          have RX := hide rX
          have M1 := hide n1
          have M2 := hide n2
          have M3 := hide n3
          have HX24 := hide hX24
          have HX23 := hide hX23
          have HXS := hide hXs
          clear rX n1 n2 n3 sg1 sg2 hslen hX24 hX23 hXs hw1
          go_wp2_with fail
          go_loopg [55] j4 (fun gk iv wr => ∃ (j : Nat) (u : Value) (srows : List (List Value)), j + gk = j4 ∧ iv = .int .i64 j ∧ RowT 113 wr gX (bv o.addr ++ [Value.slice Aa ka ca, .slice Ab kb cb', .slice Ac kc cc, u]) ∧ wr.ownsRow wc.heap.size 117 2 u j srows.flatten ∧ Each (SSlotS (fun k => (k = gX ∨ u.ownBlock = some k) ∨ G2 bw v k) wr) srows ((o.slots.take j).map fun s => (beN s.1, beN s.2)) ∧ ChgS (· = gX) wc wr)
          case atStart => exact ⟨0, nilS, [], by omega, rfl, unhide RX, World.ownsRow_nil _ _ _ _, trivial, ChgS.refl _ _⟩
          case round =>
            obtain ⟨j, u, srows, hj, rfl, ru, hou, hes, hch⟩ := hrel
            have hbW : Below w.heap.size w wr := (unhide HBBX wc bc).trans (hch.below w.heap.size (fun k hk => by have := hbe.size; have := (unhide HBB).size; omega) (by have := hbe.size; have := (unhide HBB).size; have := bc.size; omega))
            have hgXl : gX < wc.heap.size := (unhide RX).lt
            have hcs := hch.size
            by_cases hjl : j < j4
            · obtain ⟨bs, offs, rfl, hlts, hats⟩ := unhide HSAT (by omega)
              obtain ⟨rs, hrgs, hrs⟩ := hats j hjl
              have htsj : o.slots.take (j + 1) = o.slots.take j ++ [o.slots.getD j ([], [])] := by
                rw [List.take_succ_eq_append_getElem (by have := unhide HSLEN; omega)]
                simp [List.getD, show j < o.slots.length by have := unhide HSLEN; omega]
              obtain ⟨sl, hsl⟩ : ∃ sl, sl = o.slots.getD j ([], []) := ⟨_, rfl⟩
              rw [← hsl] at hrs htsj
              have hrls := hrs.len
              have hszs : (Sakg.prog.info? 40).map (·.size) = some rs.length := by rw [hrls]; exact sizeOSlot
              have hrg3 := range_below hrgs hbW (fun _ => hlts)
              have hz64 : (bv (zeros 64)).length = 64 := by rw [bv_len, zeros_len]
              have hones : ∀ v ∈ rs, v.oneCell' = true := by
                obtain ⟨h1, _, _⟩ := hrs
                rw [h1, ← bv_append]
                exact bv_one _
              have HRG3 := hide hrg3
              have HRS := hide hrs
              have HTSJ := hide htsj
              have HSZS := hide hszs
              have HRLS := hide hrls
              have RU := hide ru
              have HOU := hide hou
              have HES := hide hes
              clear hats hrgs hrg3 hrs htsj hsl hszs hrls ru hou hes
              go_upto_region 13 with (first
                | ((with_reducible refine at_load 40 ?_); refine wpList_load_g (by rfl) 40 (.tmp 57) rfl bs _ rfl rs _ (unhide HRG3) Sakg.underlying40 rfl (unhide HSZS) ?_)
                | ((with_reducible refine at_alloc 40 ?_); refine wpList_alloc_g (by rfl) 40 rfl (bv (zeros 64)) 64 infoOSlot hz64 ?_)
                | ((with_reducible refine at_store 40 ?_); refine wpList_store_whole rfl 40 (.tmp 11) (.tmp 58) rfl _ _ _ rs rfl rfl (RowT.new _ _ _) (by rw [unhide HRLS, hz64]) (unhide HSZS) hones ?_; intro w3 hr3 hon3; have hbb3 := box_below hon3; clear hon3))
              simp only [Act.put, List.setIfInBounds_toArray, List.set_cons_zero, List.set_cons_succ]
              have hGS : wr.heap.size < w3.heap.size := hr3.lt
              have hown := unhide HOU
              have hul : ∀ k, u.ownBlock = some k → wc.heap.size ≤ k ∧ k < wr.heap.size := fun k hk => hown.lt k hk
              have hkey : ∀ wz, ChgS (fun k => k = gX ∨ u.ownBlock = some k) w3 wz → RowT 40 wz wr.heap.size rs := fun wz hz => by
                unfold RowT
                rw [hz.block wr.heap.size hGS (fun hg => by rcases hg with h | h; (omega); (have := (hul _ h).2; omega))]
                exact hr3
              have hks : ∀ wz, Below w3.heap.size w3 wz → Src wz (some ⟨wr.heap.size, 0, none⟩) 32 32 sl.1 := fun wz hz => src_of_range ((unhide HRS).key (hr3.kept hz).rangeAll) (unhide HRS).2.1.byt (unhide HRS).2.1.len max32
              have hvs : ∀ wz, Below w3.heap.size w3 wz → Src wz (some ⟨wr.heap.size, 32, none⟩) 32 32 sl.2 := fun wz hz => src_of_range (by have := (unhide HRS).val (hr3.kept hz).rangeAll; rwa [Nat.zero_add] at this) (unhide HRS).2.2.byt (unhide HRS).2.2.len max32
              have HKS := hide hks
              have HVS := hide hvs
              have R3 : Hid (RowT 113 w3 gX (bv o.addr ++ [Value.slice Aa ka ca, .slice Ab kb cb', .slice Ac kc cc, u])) := hide ((unhide RU).kept hbb3.1)
              have O3 : Hid (w3.ownsRow wc.heap.size 117 2 u j srows.flatten) := hide (own_kept hown hbb3.1)
              have d3 : Below w3.heap.size w3 w3.drew := Quiet.below ⟨1, rfl⟩ _
              have hj16 : j ≤ 16 := by have := (unhide HOKA).2; have := unhide HSLEN; omega
              have B3b := hide hbb3.1
              clear hks hvs hkey hr3 hown
              refine wp_region_noPanic ?_
              refine wp_region_held_drew (S := fun w' => ChgS (fun k => k = gX ∨ u.ownBlock = some k) w3 w') (by kernel_rfl) (ChgS.of d3) (fun hHeld => ?_)
              refine held_takeD 0 (.pointer (some ⟨gX, 23, none⟩)) (some 59) (by rfl) (by rfl) (by kernel_rfl) (by kernel_rfl) (by kernel_rfl) (fun _ _ _ h => h) (.inl ⟨by rfl, fun _ _ => by go_simp⟩) (hHeld) ?_
              simp only [Act.put, List.setIfInBounds_toArray, List.set_cons_zero, List.set_cons_succ]
              refine held_takeD 2 (.pointer (some ⟨wr.heap.size, 0, none⟩)) (some 61) (by rfl) (by rfl) (by kernel_rfl) (by kernel_rfl) (by kernel_rfl) (fun _ _ _ h => h) (.inl ⟨by rfl, fun _ _ => by go_simp⟩) (hHeld) ?_
              simp only [Act.put, List.setIfInBounds_toArray, List.set_cons_zero, List.set_cons_succ]
              refine held_takeD 3 (.slice (some ⟨wr.heap.size, 0, none⟩) 32 32) (some 62) (by rfl) (by rfl) (by kernel_rfl) (by kernel_rfl) (by kernel_rfl) (fun _ _ _ h => h) (.inl ⟨by rfl, fun _ _ => by go_simp⟩) (hHeld) ?_
              simp only [Act.put, List.setIfInBounds_toArray, List.set_cons_zero, List.set_cons_succ]
              refine held_takeD 5 (.pointer (some ⟨wr.heap.size, 32, none⟩)) (some 64) (by rfl) (by rfl) (by kernel_rfl) (by kernel_rfl) (by kernel_rfl) (fun _ _ _ h => h) (.inl ⟨by rfl, fun _ _ => by go_simp⟩) (hHeld) ?_
              simp only [Act.put, List.setIfInBounds_toArray, List.set_cons_zero, List.set_cons_succ]
              refine held_takeD 6 (.slice (some ⟨wr.heap.size, 32, none⟩) 32 32) (some 65) (by rfl) (by rfl) (by kernel_rfl) (by kernel_rfl) (by kernel_rfl) (fun _ _ _ h => h) (.inl ⟨by rfl, fun _ _ => by go_simp⟩) (hHeld) ?_
              simp only [Act.put, List.setIfInBounds_toArray, List.set_cons_zero, List.set_cons_succ]
              refine held_two 1 4 (by kernel_rfl) (by rfl) (by rfl) (fun K' hK' => ?_) (fun K' hK' => ?_)
              · have hcu : w3.drew.cell? ⟨gX, 23, none⟩ = some u := by { rw [((unhide R3).kept d3).cell]; exact unhide HX23 u }
                go_simp
                refine hK'.out _ _ (ChgS.of d3) ?_
                clear hK' K'
                refine held_one 4 (by kernel_rfl) (by rfl) (fun K' hK' => ?_)
                go_simp
                refine (fromBE_any _ 32 32 sl.1 w3.drew (unhide HKS _ d3) (by omega)).mono ?_
                rintro e wk ⟨Ak, kk, ck, rfl, nk, Nk, bk⟩
                have dk := d3.trans (bk.mono d3.size)
                refine hK'.out _ _ (ChgS.of dk) ?_
                clear hK' K'
                refine held_one 7 (by kernel_rfl) (by rfl) (fun K' hK' => ?_)
                go_simp
                refine (fromBE_any _ 32 32 sl.2 wk (unhide HVS _ dk) (by omega)).mono ?_
                rintro e wq ⟨Av, kv, cv, rfl, nq, Nq, bq⟩
                have dq := dk.trans (bq.mono dk.size)
                refine hK'.out _ _ (ChgS.of dq) ?_
                clear hK' K'
                refine held_takeD 8 (.agg [Value.slice Ak kk ck, .slice Av kv cv].toArray) (some 67) (by rfl) (by rfl) (by kernel_rfl) (by kernel_rfl) (by kernel_rfl) (fun _ _ _ h => h) (yieldsIf_build (by rfl) 117 [(0, .tmp 63), (1, .tmp 66)] rfl _ (fun wx => run_slot2 Ak Av kk ck kv cv wx)) (ChgS.of dq) ?_
                simp only [Act.put, List.setIfInBounds_toArray, List.set_cons_zero, List.set_cons_succ]
                refine held_one 9 (by kernel_rfl) (by rfl) (fun K' hK' => ?_)
                refine if_build_one (some 68) rfl (by rfl) 111 (.tmp 67) rfl 117 2 48 Sakg.underlying111 [nilS, nilS] infoSlot3 rfl (by omega) (by omega) [Value.slice Ak kk ck, .slice Av kv cv] rfl rfl (fun wn rn bn sn => ?_)
                have dn := dq.trans (bn.mono dq.size)
                refine hK'.out _ _ (ChgS.of dn) ?_
                clear hK' K'
                simp only [Act.put, List.setIfInBounds_toArray, List.set_cons_zero, List.set_cons_succ]
                refine held_one 10 (by kernel_rfl) (by rfl) (fun K' hK' => ?_)
                refine if_append_at (some 69) rfl (by rfl) (.tmp 60) (.tmp 68) 111 rfl 117 2 48 Sakg.underlying111 [nilS, nilS] infoSlot3 rfl (by omega) wc.heap.size u j srows rfl (own_kept (unhide O3) dn) _ 117 [Value.slice Ak kk ck, .slice Av kv cv] rfl rn rfl (by simp [Value.oneCell']) (by omega) (by omega) (by have := dn.size; omega) (fun vp wp op grp bkp => ?_)
                have dp : ChgS (fun k => k = gX ∨ u.ownBlock = some k) w3 wp := (ChgS.of (G := fun k => k = gX ∨ u.ownBlock = some k) dn).then (ChgS.grown (G := fun k => k = gX ∨ u.ownBlock = some k) grp (fun k hk => .inr hk)) (fun _ h _ => h)
                obtain ⟨Ap, cp, rfl⟩ := own_slice op
                refine hK'.out _ _ (dp) ?_
                clear hK' K'
                simp only [Act.put, List.setIfInBounds_toArray, List.set_cons_zero, List.set_cons_succ]
                refine held_takeD 11 (.pointer (some ⟨gX, 23, none⟩)) (some 70) (by rfl) (by rfl) (by kernel_rfl) (by kernel_rfl) (by kernel_rfl) (fun _ _ _ h => h) (.inl ⟨by rfl, fun _ _ => by go_simp⟩) (dp) ?_
                simp only [Act.put, List.setIfInBounds_toArray, List.set_cons_zero, List.set_cons_succ]
                refine held_one 12 (by kernel_rfl) (by rfl) (fun K' hK' => ?_)
                have hXp : RowT 113 wp gX (bv o.addr ++ [Value.slice Aa ka ca, .slice Ab kb cb', .slice Ac kc cc, u]) := by { unfold RowT; rw [grp.block gX (by have := dn.size; have := (unhide R3).lt; omega) (fun h => by have := (hul _ h.symm).1; omega)]; exact (unhide R3).kept dn }
                have hcx : wp.cell? ⟨gX, 23, none⟩ = some u := by { rw [hXp.cell]; exact unhide HX23 u }
                have hfx := hXp.froz 23
                go_simp
                obtain ⟨wS, hwS⟩ : ∃ x, x = wp.setCell ⟨gX, 23, none⟩ (Value.slice Ap (j + 1) cp) := ⟨_, rfl⟩
                rw [← hwS]
                have oS : Only gX wp wS := hwS ▸ (Only.refl gX wp).setCell 23 (Value.slice Ap (j + 1) cp)
                have rS := hwS ▸ hXp.set 23 (Value.slice Ap (j + 1) cp)
                have dS : ChgS (fun k => k = gX ∨ u.ownBlock = some k) w3 wS := dp.then (ChgS.only (G := fun k => k = gX ∨ u.ownBlock = some k) oS (.inl rfl)) (fun _ h _ => h)
                clear hwS
                refine hK'.out _ _ (dS) ?_
                clear hK' K'
                refine wpAnyH_done (by kernel_rfl) ?_ _
                refine NoPanic.normal ?_
                have zk := bk.size
                have zv := bq.size
                have zn := bn.size
                have zd : w3.drew.heap.size = w3.heap.size := rfl
                have hne : ∀ k, (Value.slice Ap (j + 1) cp).ownBlock = some k → k ≠ gX := fun k hk h0 => by { subst h0; rcases bkp with h | h; (rw [h] at hk; have := (hul _ hk).1; omega); (rw [h] at hk; have := Option.some.inj hk; omega) }
                have hlow : ∀ k, (Value.slice Ap (j + 1) cp).ownBlock = some k → k < wr.heap.size → u.ownBlock = some k := fun k hk h0 => by { rcases bkp with h | h; (rw [h] at hk; exact hk); (rw [h] at hk; have := Option.some.inj hk; omega) }
                have own2 := op.kept (row := some gX) ⟨oS.os, oS.tape, oS.output, Nat.le_of_eq oS.size.symm, fun k hk hn => oS.block k (fun e => hn (by rw [e]))⟩ (.inr (fun h => hne gX h rfl))
                have cn : ChgS (fun k => k = gX ∨ u.ownBlock = some k) wn wS := (ChgS.grown (G := (fun k => k = gX ∨ u.ownBlock = some k)) grp (fun k hk => .inr hk)).then (ChgS.only (G := (fun k => k = gX ∨ u.ownBlock = some k)) oS (.inl rfl)) (fun _ h _ => h)
                have crS : ChgS (fun k => k = gX ∨ u.ownBlock = some k) wr wS := (ChgS.of (G := (fun k => k = gX ∨ u.ownBlock = some k)) (unhide B3b)).then dS (fun _ h _ => h)
                have ik := nk.kept (bq.trans (bn.mono bq.size))
                have fk : ∀ x, Ak = some x → 0 < kk → w3.heap.size ≤ x.block ∧ x.block < wn.heap.size := fun x hx h0 => by have h1 := Nk x hx; have h2 := nat_blk ik x hx h0; omega
                have jk := StabS.nat (G := (fun k => k = gX ∨ u.ownBlock = some k)) ik (fun x hx h0 hg => by have h1 := fk x hx h0; rcases hg with h | h; (omega); (have := (hul _ h).2; omega)) wS cn
                have sk := StabS.nat (G := (fun k => (k = gX ∨ (Value.slice Ap (j + 1) cp).ownBlock = some k) ∨ G2 bw v k)) jk (fun x hx h0 hg => by have h1 := fk x hx h0; rcases hg with (h | h) | (h | h); (omega); (rcases bkp with h2 | h2; (rw [h2] at h; have := (hul _ h).2; omega); (rw [h2] at h; have := Option.some.inj h; omega)); (omega); (have := hvl _ h; omega))
                have iq := nq.kept bn
                have fq : ∀ x, Av = some x → 0 < kv → w3.heap.size ≤ x.block ∧ x.block < wn.heap.size := fun x hx h0 => by have h1 := Nq x hx; have h2 := nat_blk iq x hx h0; omega
                have jq := StabS.nat (G := (fun k => k = gX ∨ u.ownBlock = some k)) iq (fun x hx h0 hg => by have h1 := fq x hx h0; rcases hg with h | h; (omega); (have := (hul _ h).2; omega)) wS cn
                have sq := StabS.nat (G := (fun k => (k = gX ∨ (Value.slice Ap (j + 1) cp).ownBlock = some k) ∨ G2 bw v k)) jq (fun x hx h0 hg => by have h1 := fq x hx h0; rcases hg with (h | h) | (h | h); (omega); (rcases bkp with h2 | h2; (rw [h2] at h; have := (hul _ h).2; omega); (rw [h2] at h; have := Option.some.inj h; omega)); (omega); (have := hvl _ h; omega))
                have each2 := ((unhide HES).imp fun _ _ h => h.go (G' := (fun k => (k = gX ∨ (Value.slice Ap (j + 1) cp).ownBlock = some k) ∨ G2 bw v k)) (crS.mono fun k h => .inl h) (fun k hg hk => by rcases hg with (h | h) | h; (exact .inl (.inl h)); (exact .inl (.inr (hlow k h hk))); (exact .inr h))).snoc (d := (beN sl.1, beN sl.2)) ⟨Ak, kk, ck, Av, kv, cv, rfl, sk, sq⟩
                have chS : ChgS (· = gX) wc wS := hch.then crS (fun k hg hk => by rcases hg with h | h; (exact h); (have := (hul _ h).1; omega))
                rw [unhide HXS] at rS
                have rS' := hide rS
                have own2' := hide own2
                have each2' := hide each2
                clear rS own2 each2 ik iq jk jq sk sq
                go_wp2
                go_roundg (j4 - 1 - j)
                case measure => omega
                case rel => exact ⟨j + 1, (Value.slice Ap (j + 1) cp), srows ++ [[Value.slice Ak kk ck, .slice Av kv cv]], by omega, rfl, unhide rS', unhide own2', by rw [unhide HTSJ, List.map_append]; exact unhide each2', chS⟩
              · go_simp
                refine (fromBE_any _ 32 32 sl.1 w3.drew (unhide HKS _ d3) (by omega)).mono ?_
                rintro e wk ⟨Ak, kk, ck, rfl, nk, Nk, bk⟩
                have dk := d3.trans (bk.mono d3.size)
                refine hK'.out _ _ (ChgS.of dk) ?_
                clear hK' K'
                refine held_two 1 7 (by kernel_rfl) (by rfl) (by rfl) (fun K' hK' => ?_) (fun K' hK' => ?_)
                · have hcu : wk.cell? ⟨gX, 23, none⟩ = some u := by { rw [((unhide R3).kept dk).cell]; exact unhide HX23 u }
                  go_simp
                  refine hK'.out _ _ (ChgS.of dk) ?_
                  clear hK' K'
                  refine held_one 7 (by kernel_rfl) (by rfl) (fun K' hK' => ?_)
                  go_simp
                  refine (fromBE_any _ 32 32 sl.2 wk (unhide HVS _ dk) (by omega)).mono ?_
                  rintro e wq ⟨Av, kv, cv, rfl, nq, Nq, bq⟩
                  have dq := dk.trans (bq.mono dk.size)
                  refine hK'.out _ _ (ChgS.of dq) ?_
                  clear hK' K'
                  refine held_takeD 8 (.agg [Value.slice Ak kk ck, .slice Av kv cv].toArray) (some 67) (by rfl) (by rfl) (by kernel_rfl) (by kernel_rfl) (by kernel_rfl) (fun _ _ _ h => h) (yieldsIf_build (by rfl) 117 [(0, .tmp 63), (1, .tmp 66)] rfl _ (fun wx => run_slot2 Ak Av kk ck kv cv wx)) (ChgS.of dq) ?_
                  simp only [Act.put, List.setIfInBounds_toArray, List.set_cons_zero, List.set_cons_succ]
                  refine held_one 9 (by kernel_rfl) (by rfl) (fun K' hK' => ?_)
                  refine if_build_one (some 68) rfl (by rfl) 111 (.tmp 67) rfl 117 2 48 Sakg.underlying111 [nilS, nilS] infoSlot3 rfl (by omega) (by omega) [Value.slice Ak kk ck, .slice Av kv cv] rfl rfl (fun wn rn bn sn => ?_)
                  have dn := dq.trans (bn.mono dq.size)
                  refine hK'.out _ _ (ChgS.of dn) ?_
                  clear hK' K'
                  simp only [Act.put, List.setIfInBounds_toArray, List.set_cons_zero, List.set_cons_succ]
                  refine held_one 10 (by kernel_rfl) (by rfl) (fun K' hK' => ?_)
                  refine if_append_at (some 69) rfl (by rfl) (.tmp 60) (.tmp 68) 111 rfl 117 2 48 Sakg.underlying111 [nilS, nilS] infoSlot3 rfl (by omega) wc.heap.size u j srows rfl (own_kept (unhide O3) dn) _ 117 [Value.slice Ak kk ck, .slice Av kv cv] rfl rn rfl (by simp [Value.oneCell']) (by omega) (by omega) (by have := dn.size; omega) (fun vp wp op grp bkp => ?_)
                  have dp : ChgS (fun k => k = gX ∨ u.ownBlock = some k) w3 wp := (ChgS.of (G := fun k => k = gX ∨ u.ownBlock = some k) dn).then (ChgS.grown (G := fun k => k = gX ∨ u.ownBlock = some k) grp (fun k hk => .inr hk)) (fun _ h _ => h)
                  obtain ⟨Ap, cp, rfl⟩ := own_slice op
                  refine hK'.out _ _ (dp) ?_
                  clear hK' K'
                  simp only [Act.put, List.setIfInBounds_toArray, List.set_cons_zero, List.set_cons_succ]
                  refine held_takeD 11 (.pointer (some ⟨gX, 23, none⟩)) (some 70) (by rfl) (by rfl) (by kernel_rfl) (by kernel_rfl) (by kernel_rfl) (fun _ _ _ h => h) (.inl ⟨by rfl, fun _ _ => by go_simp⟩) (dp) ?_
                  simp only [Act.put, List.setIfInBounds_toArray, List.set_cons_zero, List.set_cons_succ]
                  refine held_one 12 (by kernel_rfl) (by rfl) (fun K' hK' => ?_)
                  have hXp : RowT 113 wp gX (bv o.addr ++ [Value.slice Aa ka ca, .slice Ab kb cb', .slice Ac kc cc, u]) := by { unfold RowT; rw [grp.block gX (by have := dn.size; have := (unhide R3).lt; omega) (fun h => by have := (hul _ h.symm).1; omega)]; exact (unhide R3).kept dn }
                  have hcx : wp.cell? ⟨gX, 23, none⟩ = some u := by { rw [hXp.cell]; exact unhide HX23 u }
                  have hfx := hXp.froz 23
                  go_simp
                  obtain ⟨wS, hwS⟩ : ∃ x, x = wp.setCell ⟨gX, 23, none⟩ (Value.slice Ap (j + 1) cp) := ⟨_, rfl⟩
                  rw [← hwS]
                  have oS : Only gX wp wS := hwS ▸ (Only.refl gX wp).setCell 23 (Value.slice Ap (j + 1) cp)
                  have rS := hwS ▸ hXp.set 23 (Value.slice Ap (j + 1) cp)
                  have dS : ChgS (fun k => k = gX ∨ u.ownBlock = some k) w3 wS := dp.then (ChgS.only (G := fun k => k = gX ∨ u.ownBlock = some k) oS (.inl rfl)) (fun _ h _ => h)
                  clear hwS
                  refine hK'.out _ _ (dS) ?_
                  clear hK' K'
                  refine wpAnyH_done (by kernel_rfl) ?_ _
                  refine NoPanic.normal ?_
                  have zk := bk.size
                  have zv := bq.size
                  have zn := bn.size
                  have zd : w3.drew.heap.size = w3.heap.size := rfl
                  have hne : ∀ k, (Value.slice Ap (j + 1) cp).ownBlock = some k → k ≠ gX := fun k hk h0 => by { subst h0; rcases bkp with h | h; (rw [h] at hk; have := (hul _ hk).1; omega); (rw [h] at hk; have := Option.some.inj hk; omega) }
                  have hlow : ∀ k, (Value.slice Ap (j + 1) cp).ownBlock = some k → k < wr.heap.size → u.ownBlock = some k := fun k hk h0 => by { rcases bkp with h | h; (rw [h] at hk; exact hk); (rw [h] at hk; have := Option.some.inj hk; omega) }
                  have own2 := op.kept (row := some gX) ⟨oS.os, oS.tape, oS.output, Nat.le_of_eq oS.size.symm, fun k hk hn => oS.block k (fun e => hn (by rw [e]))⟩ (.inr (fun h => hne gX h rfl))
                  have cn : ChgS (fun k => k = gX ∨ u.ownBlock = some k) wn wS := (ChgS.grown (G := (fun k => k = gX ∨ u.ownBlock = some k)) grp (fun k hk => .inr hk)).then (ChgS.only (G := (fun k => k = gX ∨ u.ownBlock = some k)) oS (.inl rfl)) (fun _ h _ => h)
                  have crS : ChgS (fun k => k = gX ∨ u.ownBlock = some k) wr wS := (ChgS.of (G := (fun k => k = gX ∨ u.ownBlock = some k)) (unhide B3b)).then dS (fun _ h _ => h)
                  have ik := nk.kept (bq.trans (bn.mono bq.size))
                  have fk : ∀ x, Ak = some x → 0 < kk → w3.heap.size ≤ x.block ∧ x.block < wn.heap.size := fun x hx h0 => by have h1 := Nk x hx; have h2 := nat_blk ik x hx h0; omega
                  have jk := StabS.nat (G := (fun k => k = gX ∨ u.ownBlock = some k)) ik (fun x hx h0 hg => by have h1 := fk x hx h0; rcases hg with h | h; (omega); (have := (hul _ h).2; omega)) wS cn
                  have sk := StabS.nat (G := (fun k => (k = gX ∨ (Value.slice Ap (j + 1) cp).ownBlock = some k) ∨ G2 bw v k)) jk (fun x hx h0 hg => by have h1 := fk x hx h0; rcases hg with (h | h) | (h | h); (omega); (rcases bkp with h2 | h2; (rw [h2] at h; have := (hul _ h).2; omega); (rw [h2] at h; have := Option.some.inj h; omega)); (omega); (have := hvl _ h; omega))
                  have iq := nq.kept bn
                  have fq : ∀ x, Av = some x → 0 < kv → w3.heap.size ≤ x.block ∧ x.block < wn.heap.size := fun x hx h0 => by have h1 := Nq x hx; have h2 := nat_blk iq x hx h0; omega
                  have jq := StabS.nat (G := (fun k => k = gX ∨ u.ownBlock = some k)) iq (fun x hx h0 hg => by have h1 := fq x hx h0; rcases hg with h | h; (omega); (have := (hul _ h).2; omega)) wS cn
                  have sq := StabS.nat (G := (fun k => (k = gX ∨ (Value.slice Ap (j + 1) cp).ownBlock = some k) ∨ G2 bw v k)) jq (fun x hx h0 hg => by have h1 := fq x hx h0; rcases hg with (h | h) | (h | h); (omega); (rcases bkp with h2 | h2; (rw [h2] at h; have := (hul _ h).2; omega); (rw [h2] at h; have := Option.some.inj h; omega)); (omega); (have := hvl _ h; omega))
                  have each2 := ((unhide HES).imp fun _ _ h => h.go (G' := (fun k => (k = gX ∨ (Value.slice Ap (j + 1) cp).ownBlock = some k) ∨ G2 bw v k)) (crS.mono fun k h => .inl h) (fun k hg hk => by rcases hg with (h | h) | h; (exact .inl (.inl h)); (exact .inl (.inr (hlow k h hk))); (exact .inr h))).snoc (d := (beN sl.1, beN sl.2)) ⟨Ak, kk, ck, Av, kv, cv, rfl, sk, sq⟩
                  have chS : ChgS (· = gX) wc wS := hch.then crS (fun k hg hk => by rcases hg with h | h; (exact h); (have := (hul _ h).1; omega))
                  rw [unhide HXS] at rS
                  have rS' := hide rS
                  have own2' := hide own2
                  have each2' := hide each2
                  clear rS own2 each2 ik iq jk jq sk sq
                  go_wp2
                  go_roundg (j4 - 1 - j)
                  case measure => omega
                  case rel => exact ⟨j + 1, (Value.slice Ap (j + 1) cp), srows ++ [[Value.slice Ak kk ck, .slice Av kv cv]], by omega, rfl, unhide rS', unhide own2', by rw [unhide HTSJ, List.map_append]; exact unhide each2', chS⟩
                · go_simp
                  refine (fromBE_any _ 32 32 sl.2 wk (unhide HVS _ dk) (by omega)).mono ?_
                  rintro e wq ⟨Av, kv, cv, rfl, nq, Nq, bq⟩
                  have dq := dk.trans (bq.mono dk.size)
                  refine hK'.out _ _ (ChgS.of dq) ?_
                  clear hK' K'
                  refine held_takeD 8 (.agg [Value.slice Ak kk ck, .slice Av kv cv].toArray) (some 67) (by rfl) (by rfl) (by kernel_rfl) (by kernel_rfl) (by kernel_rfl) (fun _ _ _ h => h) (yieldsIf_build (by rfl) 117 [(0, .tmp 63), (1, .tmp 66)] rfl _ (fun wx => run_slot2 Ak Av kk ck kv cv wx)) (ChgS.of dq) ?_
                  simp only [Act.put, List.setIfInBounds_toArray, List.set_cons_zero, List.set_cons_succ]
                  refine held_two 1 9 (by kernel_rfl) (by rfl) (by rfl) (fun K' hK' => ?_) (fun K' hK' => ?_)
                  · have hcu : wq.cell? ⟨gX, 23, none⟩ = some u := by { rw [((unhide R3).kept dq).cell]; exact unhide HX23 u }
                    go_simp
                    refine hK'.out _ _ (ChgS.of dq) ?_
                    clear hK' K'
                    refine held_one 9 (by kernel_rfl) (by rfl) (fun K' hK' => ?_)
                    refine if_build_one (some 68) rfl (by rfl) 111 (.tmp 67) rfl 117 2 48 Sakg.underlying111 [nilS, nilS] infoSlot3 rfl (by omega) (by omega) [Value.slice Ak kk ck, .slice Av kv cv] rfl rfl (fun wn rn bn sn => ?_)
                    have dn := dq.trans (bn.mono dq.size)
                    refine hK'.out _ _ (ChgS.of dn) ?_
                    clear hK' K'
                    simp only [Act.put, List.setIfInBounds_toArray, List.set_cons_zero, List.set_cons_succ]
                    refine held_one 10 (by kernel_rfl) (by rfl) (fun K' hK' => ?_)
                    refine if_append_at (some 69) rfl (by rfl) (.tmp 60) (.tmp 68) 111 rfl 117 2 48 Sakg.underlying111 [nilS, nilS] infoSlot3 rfl (by omega) wc.heap.size u j srows rfl (own_kept (unhide O3) dn) _ 117 [Value.slice Ak kk ck, .slice Av kv cv] rfl rn rfl (by simp [Value.oneCell']) (by omega) (by omega) (by have := dn.size; omega) (fun vp wp op grp bkp => ?_)
                    have dp : ChgS (fun k => k = gX ∨ u.ownBlock = some k) w3 wp := (ChgS.of (G := fun k => k = gX ∨ u.ownBlock = some k) dn).then (ChgS.grown (G := fun k => k = gX ∨ u.ownBlock = some k) grp (fun k hk => .inr hk)) (fun _ h _ => h)
                    obtain ⟨Ap, cp, rfl⟩ := own_slice op
                    refine hK'.out _ _ (dp) ?_
                    clear hK' K'
                    simp only [Act.put, List.setIfInBounds_toArray, List.set_cons_zero, List.set_cons_succ]
                    refine held_takeD 11 (.pointer (some ⟨gX, 23, none⟩)) (some 70) (by rfl) (by rfl) (by kernel_rfl) (by kernel_rfl) (by kernel_rfl) (fun _ _ _ h => h) (.inl ⟨by rfl, fun _ _ => by go_simp⟩) (dp) ?_
                    simp only [Act.put, List.setIfInBounds_toArray, List.set_cons_zero, List.set_cons_succ]
                    refine held_one 12 (by kernel_rfl) (by rfl) (fun K' hK' => ?_)
                    have hXp : RowT 113 wp gX (bv o.addr ++ [Value.slice Aa ka ca, .slice Ab kb cb', .slice Ac kc cc, u]) := by { unfold RowT; rw [grp.block gX (by have := dn.size; have := (unhide R3).lt; omega) (fun h => by have := (hul _ h.symm).1; omega)]; exact (unhide R3).kept dn }
                    have hcx : wp.cell? ⟨gX, 23, none⟩ = some u := by { rw [hXp.cell]; exact unhide HX23 u }
                    have hfx := hXp.froz 23
                    go_simp
                    obtain ⟨wS, hwS⟩ : ∃ x, x = wp.setCell ⟨gX, 23, none⟩ (Value.slice Ap (j + 1) cp) := ⟨_, rfl⟩
                    rw [← hwS]
                    have oS : Only gX wp wS := hwS ▸ (Only.refl gX wp).setCell 23 (Value.slice Ap (j + 1) cp)
                    have rS := hwS ▸ hXp.set 23 (Value.slice Ap (j + 1) cp)
                    have dS : ChgS (fun k => k = gX ∨ u.ownBlock = some k) w3 wS := dp.then (ChgS.only (G := fun k => k = gX ∨ u.ownBlock = some k) oS (.inl rfl)) (fun _ h _ => h)
                    clear hwS
                    refine hK'.out _ _ (dS) ?_
                    clear hK' K'
                    refine wpAnyH_done (by kernel_rfl) ?_ _
                    refine NoPanic.normal ?_
                    have zk := bk.size
                    have zv := bq.size
                    have zn := bn.size
                    have zd : w3.drew.heap.size = w3.heap.size := rfl
                    have hne : ∀ k, (Value.slice Ap (j + 1) cp).ownBlock = some k → k ≠ gX := fun k hk h0 => by { subst h0; rcases bkp with h | h; (rw [h] at hk; have := (hul _ hk).1; omega); (rw [h] at hk; have := Option.some.inj hk; omega) }
                    have hlow : ∀ k, (Value.slice Ap (j + 1) cp).ownBlock = some k → k < wr.heap.size → u.ownBlock = some k := fun k hk h0 => by { rcases bkp with h | h; (rw [h] at hk; exact hk); (rw [h] at hk; have := Option.some.inj hk; omega) }
                    have own2 := op.kept (row := some gX) ⟨oS.os, oS.tape, oS.output, Nat.le_of_eq oS.size.symm, fun k hk hn => oS.block k (fun e => hn (by rw [e]))⟩ (.inr (fun h => hne gX h rfl))
                    have cn : ChgS (fun k => k = gX ∨ u.ownBlock = some k) wn wS := (ChgS.grown (G := (fun k => k = gX ∨ u.ownBlock = some k)) grp (fun k hk => .inr hk)).then (ChgS.only (G := (fun k => k = gX ∨ u.ownBlock = some k)) oS (.inl rfl)) (fun _ h _ => h)
                    have crS : ChgS (fun k => k = gX ∨ u.ownBlock = some k) wr wS := (ChgS.of (G := (fun k => k = gX ∨ u.ownBlock = some k)) (unhide B3b)).then dS (fun _ h _ => h)
                    have ik := nk.kept (bq.trans (bn.mono bq.size))
                    have fk : ∀ x, Ak = some x → 0 < kk → w3.heap.size ≤ x.block ∧ x.block < wn.heap.size := fun x hx h0 => by have h1 := Nk x hx; have h2 := nat_blk ik x hx h0; omega
                    have jk := StabS.nat (G := (fun k => k = gX ∨ u.ownBlock = some k)) ik (fun x hx h0 hg => by have h1 := fk x hx h0; rcases hg with h | h; (omega); (have := (hul _ h).2; omega)) wS cn
                    have sk := StabS.nat (G := (fun k => (k = gX ∨ (Value.slice Ap (j + 1) cp).ownBlock = some k) ∨ G2 bw v k)) jk (fun x hx h0 hg => by have h1 := fk x hx h0; rcases hg with (h | h) | (h | h); (omega); (rcases bkp with h2 | h2; (rw [h2] at h; have := (hul _ h).2; omega); (rw [h2] at h; have := Option.some.inj h; omega)); (omega); (have := hvl _ h; omega))
                    have iq := nq.kept bn
                    have fq : ∀ x, Av = some x → 0 < kv → w3.heap.size ≤ x.block ∧ x.block < wn.heap.size := fun x hx h0 => by have h1 := Nq x hx; have h2 := nat_blk iq x hx h0; omega
                    have jq := StabS.nat (G := (fun k => k = gX ∨ u.ownBlock = some k)) iq (fun x hx h0 hg => by have h1 := fq x hx h0; rcases hg with h | h; (omega); (have := (hul _ h).2; omega)) wS cn
                    have sq := StabS.nat (G := (fun k => (k = gX ∨ (Value.slice Ap (j + 1) cp).ownBlock = some k) ∨ G2 bw v k)) jq (fun x hx h0 hg => by have h1 := fq x hx h0; rcases hg with (h | h) | (h | h); (omega); (rcases bkp with h2 | h2; (rw [h2] at h; have := (hul _ h).2; omega); (rw [h2] at h; have := Option.some.inj h; omega)); (omega); (have := hvl _ h; omega))
                    have each2 := ((unhide HES).imp fun _ _ h => h.go (G' := (fun k => (k = gX ∨ (Value.slice Ap (j + 1) cp).ownBlock = some k) ∨ G2 bw v k)) (crS.mono fun k h => .inl h) (fun k hg hk => by rcases hg with (h | h) | h; (exact .inl (.inl h)); (exact .inl (.inr (hlow k h hk))); (exact .inr h))).snoc (d := (beN sl.1, beN sl.2)) ⟨Ak, kk, ck, Av, kv, cv, rfl, sk, sq⟩
                    have chS : ChgS (· = gX) wc wS := hch.then crS (fun k hg hk => by rcases hg with h | h; (exact h); (have := (hul _ h).1; omega))
                    rw [unhide HXS] at rS
                    have rS' := hide rS
                    have own2' := hide own2
                    have each2' := hide each2
                    clear rS own2 each2 ik iq jk jq sk sq
                    go_wp2
                    go_roundg (j4 - 1 - j)
                    case measure => omega
                    case rel => exact ⟨j + 1, (Value.slice Ap (j + 1) cp), srows ++ [[Value.slice Ak kk ck, .slice Av kv cv]], by omega, rfl, unhide rS', unhide own2', by rw [unhide HTSJ, List.map_append]; exact unhide each2', chS⟩
                  · refine if_build_one (some 68) rfl (by rfl) 111 (.tmp 67) rfl 117 2 48 Sakg.underlying111 [nilS, nilS] infoSlot3 rfl (by omega) (by omega) [Value.slice Ak kk ck, .slice Av kv cv] rfl rfl (fun wn rn bn sn => ?_)
                    have dn := dq.trans (bn.mono dq.size)
                    refine hK'.out _ _ (ChgS.of dn) ?_
                    clear hK' K'
                    simp only [Act.put, List.setIfInBounds_toArray, List.set_cons_zero, List.set_cons_succ]
                    refine held_one 1 (by kernel_rfl) (by rfl) (fun K' hK' => ?_)
                    have hcu : wn.cell? ⟨gX, 23, none⟩ = some u := by { rw [((unhide R3).kept dn).cell]; exact unhide HX23 u }
                    go_simp
                    refine hK'.out _ _ (ChgS.of dn) ?_
                    clear hK' K'
                    refine held_one 10 (by kernel_rfl) (by rfl) (fun K' hK' => ?_)
                    refine if_append_at (some 69) rfl (by rfl) (.tmp 60) (.tmp 68) 111 rfl 117 2 48 Sakg.underlying111 [nilS, nilS] infoSlot3 rfl (by omega) wc.heap.size u j srows rfl (own_kept (unhide O3) dn) _ 117 [Value.slice Ak kk ck, .slice Av kv cv] rfl rn rfl (by simp [Value.oneCell']) (by omega) (by omega) (by have := dn.size; omega) (fun vp wp op grp bkp => ?_)
                    have dp : ChgS (fun k => k = gX ∨ u.ownBlock = some k) w3 wp := (ChgS.of (G := fun k => k = gX ∨ u.ownBlock = some k) dn).then (ChgS.grown (G := fun k => k = gX ∨ u.ownBlock = some k) grp (fun k hk => .inr hk)) (fun _ h _ => h)
                    obtain ⟨Ap, cp, rfl⟩ := own_slice op
                    refine hK'.out _ _ (dp) ?_
                    clear hK' K'
                    simp only [Act.put, List.setIfInBounds_toArray, List.set_cons_zero, List.set_cons_succ]
                    refine held_takeD 11 (.pointer (some ⟨gX, 23, none⟩)) (some 70) (by rfl) (by rfl) (by kernel_rfl) (by kernel_rfl) (by kernel_rfl) (fun _ _ _ h => h) (.inl ⟨by rfl, fun _ _ => by go_simp⟩) (dp) ?_
                    simp only [Act.put, List.setIfInBounds_toArray, List.set_cons_zero, List.set_cons_succ]
                    refine held_one 12 (by kernel_rfl) (by rfl) (fun K' hK' => ?_)
                    have hXp : RowT 113 wp gX (bv o.addr ++ [Value.slice Aa ka ca, .slice Ab kb cb', .slice Ac kc cc, u]) := by { unfold RowT; rw [grp.block gX (by have := dn.size; have := (unhide R3).lt; omega) (fun h => by have := (hul _ h.symm).1; omega)]; exact (unhide R3).kept dn }
                    have hcx : wp.cell? ⟨gX, 23, none⟩ = some u := by { rw [hXp.cell]; exact unhide HX23 u }
                    have hfx := hXp.froz 23
                    go_simp
                    obtain ⟨wS, hwS⟩ : ∃ x, x = wp.setCell ⟨gX, 23, none⟩ (Value.slice Ap (j + 1) cp) := ⟨_, rfl⟩
                    rw [← hwS]
                    have oS : Only gX wp wS := hwS ▸ (Only.refl gX wp).setCell 23 (Value.slice Ap (j + 1) cp)
                    have rS := hwS ▸ hXp.set 23 (Value.slice Ap (j + 1) cp)
                    have dS : ChgS (fun k => k = gX ∨ u.ownBlock = some k) w3 wS := dp.then (ChgS.only (G := fun k => k = gX ∨ u.ownBlock = some k) oS (.inl rfl)) (fun _ h _ => h)
                    clear hwS
                    refine hK'.out _ _ (dS) ?_
                    clear hK' K'
                    refine wpAnyH_done (by kernel_rfl) ?_ _
                    refine NoPanic.normal ?_
                    have zk := bk.size
                    have zv := bq.size
                    have zn := bn.size
                    have zd : w3.drew.heap.size = w3.heap.size := rfl
                    have hne : ∀ k, (Value.slice Ap (j + 1) cp).ownBlock = some k → k ≠ gX := fun k hk h0 => by { subst h0; rcases bkp with h | h; (rw [h] at hk; have := (hul _ hk).1; omega); (rw [h] at hk; have := Option.some.inj hk; omega) }
                    have hlow : ∀ k, (Value.slice Ap (j + 1) cp).ownBlock = some k → k < wr.heap.size → u.ownBlock = some k := fun k hk h0 => by { rcases bkp with h | h; (rw [h] at hk; exact hk); (rw [h] at hk; have := Option.some.inj hk; omega) }
                    have own2 := op.kept (row := some gX) ⟨oS.os, oS.tape, oS.output, Nat.le_of_eq oS.size.symm, fun k hk hn => oS.block k (fun e => hn (by rw [e]))⟩ (.inr (fun h => hne gX h rfl))
                    have cn : ChgS (fun k => k = gX ∨ u.ownBlock = some k) wn wS := (ChgS.grown (G := (fun k => k = gX ∨ u.ownBlock = some k)) grp (fun k hk => .inr hk)).then (ChgS.only (G := (fun k => k = gX ∨ u.ownBlock = some k)) oS (.inl rfl)) (fun _ h _ => h)
                    have crS : ChgS (fun k => k = gX ∨ u.ownBlock = some k) wr wS := (ChgS.of (G := (fun k => k = gX ∨ u.ownBlock = some k)) (unhide B3b)).then dS (fun _ h _ => h)
                    have ik := nk.kept (bq.trans (bn.mono bq.size))
                    have fk : ∀ x, Ak = some x → 0 < kk → w3.heap.size ≤ x.block ∧ x.block < wn.heap.size := fun x hx h0 => by have h1 := Nk x hx; have h2 := nat_blk ik x hx h0; omega
                    have jk := StabS.nat (G := (fun k => k = gX ∨ u.ownBlock = some k)) ik (fun x hx h0 hg => by have h1 := fk x hx h0; rcases hg with h | h; (omega); (have := (hul _ h).2; omega)) wS cn
                    have sk := StabS.nat (G := (fun k => (k = gX ∨ (Value.slice Ap (j + 1) cp).ownBlock = some k) ∨ G2 bw v k)) jk (fun x hx h0 hg => by have h1 := fk x hx h0; rcases hg with (h | h) | (h | h); (omega); (rcases bkp with h2 | h2; (rw [h2] at h; have := (hul _ h).2; omega); (rw [h2] at h; have := Option.some.inj h; omega)); (omega); (have := hvl _ h; omega))
                    have iq := nq.kept bn
                    have fq : ∀ x, Av = some x → 0 < kv → w3.heap.size ≤ x.block ∧ x.block < wn.heap.size := fun x hx h0 => by have h1 := Nq x hx; have h2 := nat_blk iq x hx h0; omega
                    have jq := StabS.nat (G := (fun k => k = gX ∨ u.ownBlock = some k)) iq (fun x hx h0 hg => by have h1 := fq x hx h0; rcases hg with h | h; (omega); (have := (hul _ h).2; omega)) wS cn
                    have sq := StabS.nat (G := (fun k => (k = gX ∨ (Value.slice Ap (j + 1) cp).ownBlock = some k) ∨ G2 bw v k)) jq (fun x hx h0 hg => by have h1 := fq x hx h0; rcases hg with (h | h) | (h | h); (omega); (rcases bkp with h2 | h2; (rw [h2] at h; have := (hul _ h).2; omega); (rw [h2] at h; have := Option.some.inj h; omega)); (omega); (have := hvl _ h; omega))
                    have each2 := ((unhide HES).imp fun _ _ h => h.go (G' := (fun k => (k = gX ∨ (Value.slice Ap (j + 1) cp).ownBlock = some k) ∨ G2 bw v k)) (crS.mono fun k h => .inl h) (fun k hg hk => by rcases hg with (h | h) | h; (exact .inl (.inl h)); (exact .inl (.inr (hlow k h hk))); (exact .inr h))).snoc (d := (beN sl.1, beN sl.2)) ⟨Ak, kk, ck, Av, kv, cv, rfl, sk, sq⟩
                    have chS : ChgS (· = gX) wc wS := hch.then crS (fun k hg hk => by rcases hg with h | h; (exact h); (have := (hul _ h).1; omega))
                    rw [unhide HXS] at rS
                    have rS' := hide rS
                    have own2' := hide own2
                    have each2' := hide each2
                    clear rS own2 each2 ik iq jk jq sk sq
                    go_wp2
                    go_roundg (j4 - 1 - j)
                    case measure => omega
                    case rel => exact ⟨j + 1, (Value.slice Ap (j + 1) cp), srows ++ [[Value.slice Ak kk ck, .slice Av kv cv]], by omega, rfl, unhide rS', unhide own2', by rw [unhide HTSJ, List.map_append]; exact unhide each2', chS⟩
            · obtain rfl : j = j4 := by omega
              obtain ⟨wi, hwi⟩ : ∃ wi, wi = wr := ⟨_, rfl⟩
              subst hwi
              have hul : ∀ k, u.ownBlock = some k → wc.heap.size ≤ k ∧ k < wi.heap.size := fun k hk => hou.lt k hk
              obtain ⟨Au, cu, rfl⟩ := own_slice hou
              have hbv := unhide HBB
              have bOI : Below wo.heap.size wo wi := hbv.trans ((bc.mono hbv.size).trans (hch.below wo.heap.size (fun k hk => by omega) (by omega)))
              have CBI : Hid (RowT 107 wi bw cs) := hide ((unhide HR).kept bOI)
              have OWI : Hid (wi.ownsRow (bw + 1) 113 24 v i rows.flatten) := hide (own_kept (unhide HOWN) bOI)
              have hvb : ∀ k, v.ownBlock = some k → bw + 1 ≤ k := fun k hk => ((unhide HOWN).lt k hk).1
              obtain ⟨Avv, cvv, hvv⟩ := own_slice (unhide HOWN)
              have hzI := bOI.size
              obtain ⟨xr, hxr⟩ : ∃ xr, xr = bv o.addr ++ [Value.slice Aa ka ca, .slice Ab kb cb', .slice Ac kc cc, .slice Au j cu] := ⟨_, rfl⟩
              have hxl : xr.length = 24 := by rw [hxr]; exact unhide HX24 _
              have hxo : ∀ u ∈ xr, u.oneCell' = true := by
                rw [hxr]
                intro u hu
                rcases List.mem_append.1 hu with h | h
                · exact bv_one _ u h
                · simp at h
                  rcases h with rfl | rfl | rfl | rfl <;> rfl
              have hxs : (Sakg.prog.info? 113).map (·.size) = some xr.length := by rw [hxl]; exact sizeAcct
              rw [← hxr] at ru
              have hx21 : xr[21]? = some (.slice Ab kb cb') := by
                rw [hxr, List.getElem?_append_right (by rw [bv_len, hia.len]; omega), bv_len, hia.len]; rfl
              -- the account that is laid, at wi
              have hoff : ∀ x : Addr, w1.heap.size ≤ x.block → ¬ G2 bw v x.block := fun x hx hg => by
                rcases hg with h | h
                · omega
                · have := hvl _ h; omega
              have y1 : StabS (G2 bw v) (fun w => IsNat w Aa ka ca o.nonce) wi := StabS.nat (StabS.nat (G := (· = gX)) (unhide M1) o1 wi hch) (fun x hx _ => hoff x (N1 x hx))
              have y2 : StabS (G2 bw v) (fun w => IsNat w Ab kb cb' (beN o.bal)) wi := StabS.nat (StabS.nat (G := (· = gX)) (unhide M2) o2 wi hch) (fun x hx _ => hoff x (N2 x hx))
              have y3 : StabS (G2 bw v) (fun w => Src w Ac kc cc o.code) wi := StabS.src (StabS.src (G := (· = gX)) (unhide M3) o3 wi hch) (fun x hx _ => hoff x (N3 x hx))
              have hlen2 : ∀ r ∈ srows, r.length = 2 := Each.all (p := fun r => r.length = 2) (fun r d h => by obtain ⟨_, _, _, _, _, _, rfl, _⟩ := h; rfl) hes
              have htj : o.slots.take j = o.slots := List.take_of_length_le (by have := unhide HSLEN; omega)
              rw [htj] at hes
              obtain ⟨a5, c5, h5, rw5⟩ := own_rws hou hlen2 (by have h1 := hes.len; rw [List.length_map] at h1; have := unhide HSLEN; omega)
              cases h5
              have y4 : SSlotsS (G2 bw v) wi Au j cu (o.slots.map fun s => (beN s.1, beN s.2)) := ⟨srows, StabS.rws rw5 (fun x hx _ => hoff x (by have := (hul x.block (by rw [hx]; rfl)).1; omega)), hes.imp fun _ _ h => h.go (ChgS.refl _ _) (fun k hg _ => .inr hg)⟩
              have hacct : SAcctS (G2 bw v) wi xr (acctOf o) := ⟨Aa, ka, ca, Ab, kb, cb', Ac, kc, cc, Au, j, cu, hxr, hia, y1, y2, y3, y4⟩
              have HACCT := hide hacct
              have Y2 := hide y2
              have RXI := hide ru
              have HPREV := hide ((unhide HEACH).imp fun _ _ h => h.go (G' := G2 bw v) (ChgS.of bOI) (fun k hg _ => hg))
              have HHSI := hide ((unhide HHS).go (G' := G2 bw v) (ChgS.of bOI) (fun k hg _ => hg))
              have HTOTI := hide ((unhide HTOT).go (G' := G2 bw v) (ChgS.of bOI) (fun k hg _ => hg))
              have HXR := hide hxr
              clear ru hou hes y1 y2 y3 y4 hacct hxr rw5 hlen2 htj
              have HVV := hide hvv
              have hgXi : gX < wi.heap.size := by omega
              have hxw : ∀ wz, ChgS (G2 bw v) wi wz → RowT 113 wz gX xr := fun wz hz => by
                unfold RowT
                rw [hz.block gX hgXi (fun hg => by rcases hg with h | h; (omega); (have := hvl _ h; omega))]
                exact unhide RXI
              have HXW := hide hxw
              have huA := Sakg.underlying113
              have dI : Below wi.heap.size wi wi.drew := Quiet.below ⟨1, rfl⟩ _
              have hZl : (bv (zeros 20) ++ [nilS, nilS, nilS, nilS]).length = 24 := by simp [bv_len, zeros_len]
              clear hvv hxw
              go_upto_region 15 with fail
              go_cut [81] (fun s81 wk => ∃ (Ap : Option Addr) (cp : Nat), s81 = .slice Ap (i + 1) cp ∧ RowT 107 wk bw (cs.set 0 s81) ∧ wk.ownsRow (bw + 1) 113 24 s81 (i + 1) (rows ++ [xr]).flatten ∧ ChgS (G2 bw v) wi wk ∧ (∀ k, s81.ownBlock = some k → k < wi.heap.size → v.ownBlock = some k))
              case first =>
                refine wp_region_noPanic ?_
                refine wp_region_held_drew (S := fun w' => ChgS (G2 bw v) wi w') (by kernel_rfl) (ChgS.of dI) (fun hHeld => ?_)
                refine held_takeD 0 (.pointer (some ⟨bw, 0, none⟩)) (some 72) (by rfl) (by rfl) (by kernel_rfl) (by kernel_rfl) (by kernel_rfl) (fun _ _ _ h => h) (.inl ⟨by rfl, fun _ _ => by rfl⟩) (hHeld) ?_
                simp only [Act.put, List.setIfInBounds_toArray, List.set_cons_zero, List.set_cons_succ]
                refine held_takeD 1 (.pointer (some ⟨bw, 0, none⟩)) (some 73) (by rfl) (by rfl) (by kernel_rfl) (by kernel_rfl) (by kernel_rfl) (fun _ _ _ h => h) (.inl ⟨by rfl, fun _ _ => by rfl⟩) (hHeld) ?_
                simp only [Act.put, List.setIfInBounds_toArray, List.set_cons_zero, List.set_cons_succ]
                refine held_takeD 2 (.pointer (some ⟨bw, 0, none⟩)) (some 74) (by rfl) (by rfl) (by kernel_rfl) (by kernel_rfl) (by kernel_rfl) (fun _ _ _ h => h) (.inl ⟨by rfl, fun _ _ => by go_simp⟩) (hHeld) ?_
                simp only [Act.put, List.setIfInBounds_toArray, List.set_cons_zero, List.set_cons_succ]
                refine held_takeD 3 (.pointer (some ⟨bw, 0, none⟩)) (some 75) (by rfl) (by rfl) (by kernel_rfl) (by kernel_rfl) (by kernel_rfl) (fun _ _ _ h => h) (.inl ⟨by rfl, fun _ _ => by go_simp⟩) (hHeld) ?_
                simp only [Act.put, List.setIfInBounds_toArray, List.set_cons_zero, List.set_cons_succ]
                refine held_takeD 4 (.pointer (some ⟨bw, 0, none⟩)) (some 76) (by rfl) (by rfl) (by kernel_rfl) (by kernel_rfl) (by kernel_rfl) (fun _ _ _ h => h) (.inl ⟨by rfl, fun _ _ => by go_simp⟩) (hHeld) ?_
                simp only [Act.put, List.setIfInBounds_toArray, List.set_cons_zero, List.set_cons_succ]
                refine held_takeD 5 (.pointer (some ⟨bw, 0, none⟩)) (some 77) (by rfl) (by rfl) (by kernel_rfl) (by kernel_rfl) (by kernel_rfl) (fun _ _ _ h => h) (.inl ⟨by rfl, fun _ _ => by go_simp⟩) (hHeld) ?_
                simp only [Act.put, List.setIfInBounds_toArray, List.set_cons_zero, List.set_cons_succ]
                refine held_takeD 7 (.agg xr.toArray) (some 79) (by rfl) (by rfl) (by kernel_rfl) (by kernel_rfl) (by kernel_rfl) (fun _ _ _ h => h) (yieldsIf_load_mid (by rfl) _ _ rfl _ _ rfl _ _ (fun wz hS => (unhide HXW wz hS).rangeAll) huA rfl hxs) (hHeld) ?_
                simp only [Act.put, List.setIfInBounds_toArray, List.set_cons_zero, List.set_cons_succ]
                refine held_two 6 8 (by kernel_rfl) (by rfl) (by rfl) (fun K' hK' => ?_) (fun K' hK' => ?_)
                · have hcu : wi.drew.cell? ⟨bw, 0, none⟩ = some v := by { rw [((unhide CBI).kept dI).cell]; exact unhide HV0 }
                  go_simp
                  refine hK'.out _ _ (ChgS.of dI) ?_
                  clear hK' K'
                  refine held_one 8 (by kernel_rfl) (by rfl) (fun K' hK' => ?_)
                  refine if_build_one (some 80) rfl (by rfl) 96 (.tmp 79) rfl 113 24 120 Sakg.underlying96 _ infoAcct hZl (by omega) (by omega) xr rfl hxl (fun wn rn bn sn => ?_)
                  have dn := dI.trans (bn.mono dI.size)
                  refine hK'.out _ _ (ChgS.of dn) ?_
                  clear hK' K'
                  simp only [Act.put, List.setIfInBounds_toArray, List.set_cons_zero, List.set_cons_succ]
                  refine held_one 9 (by kernel_rfl) (by rfl) (fun K' hK' => ?_)
                  refine if_append_at (some 81) rfl (by rfl) (.tmp 78) (.tmp 80) 96 rfl 113 24 120 Sakg.underlying96 _ infoAcct hZl (by omega) (bw + 1) v i rows rfl (own_kept (unhide OWI) dn) _ 113 xr rfl rn hxl hxo (by omega) (by omega) (by have := dn.size; omega) (fun vp wp op grp bkp => ?_)
                  have dp : ChgS (G2 bw v) wi wp := (ChgS.of (G := G2 bw v) dn).then (ChgS.grown (G := G2 bw v) grp (fun k hk => .inr hk)) (fun _ h _ => h)
                  obtain ⟨Ap, cp, rfl⟩ := own_slice op
                  refine hK'.out _ _ (dp) ?_
                  clear hK' K'
                  simp only [Act.put, List.setIfInBounds_toArray, List.set_cons_zero, List.set_cons_succ]
                  refine held_takeD 10 (.pointer (some ⟨bw, 0, none⟩)) (some 82) (by rfl) (by rfl) (by kernel_rfl) (by kernel_rfl) (by kernel_rfl) (fun _ _ _ h => h) (.inl ⟨by rfl, fun _ _ => by go_simp⟩) (dp) ?_
                  simp only [Act.put, List.setIfInBounds_toArray, List.set_cons_zero, List.set_cons_succ]
                  refine held_takeD 11 (.pointer (some ⟨bw, 0, none⟩)) (some 83) (by rfl) (by rfl) (by kernel_rfl) (by kernel_rfl) (by kernel_rfl) (fun _ _ _ h => h) (.inl ⟨by rfl, fun _ _ => by go_simp⟩) (dp) ?_
                  simp only [Act.put, List.setIfInBounds_toArray, List.set_cons_zero, List.set_cons_succ]
                  refine held_takeD 12 (.pointer (some ⟨bw, 0, none⟩)) (some 84) (by rfl) (by rfl) (by kernel_rfl) (by kernel_rfl) (by kernel_rfl) (fun _ _ _ h => h) (.inl ⟨by rfl, fun _ _ => by go_simp⟩) (dp) ?_
                  simp only [Act.put, List.setIfInBounds_toArray, List.set_cons_zero, List.set_cons_succ]
                  refine held_takeD 13 (.pointer (some ⟨bw, 0, none⟩)) (some 85) (by rfl) (by rfl) (by kernel_rfl) (by kernel_rfl) (by kernel_rfl) (fun _ _ _ h => h) (.inl ⟨by rfl, fun _ _ => by go_simp⟩) (dp) ?_
                  simp only [Act.put, List.setIfInBounds_toArray, List.set_cons_zero, List.set_cons_succ]
                  refine held_one 14 (by kernel_rfl) (by rfl) (fun K' hK' => ?_)
                  have hXp : RowT 107 wp bw cs := by { unfold RowT; rw [grp.block bw (by have := dn.size; omega) (fun h => by have := hvb _ h.symm; omega)]; exact (unhide CBI).kept dn }
                  have hcx : wp.cell? ⟨bw, 0, none⟩ = some v := by { rw [hXp.cell]; exact unhide HV0 }
                  have hfx := hXp.froz 0
                  go_simp
                  obtain ⟨wS, hwS⟩ : ∃ x, x = wp.setCell ⟨bw, 0, none⟩ (Value.slice Ap (i + 1) cp) := ⟨_, rfl⟩
                  rw [← hwS]
                  have oS : Only bw wp wS := hwS ▸ (Only.refl bw wp).setCell 0 (Value.slice Ap (i + 1) cp)
                  have rS := hwS ▸ hXp.set 0 (Value.slice Ap (i + 1) cp)
                  have dS : ChgS (G2 bw v) wi wS := dp.then (ChgS.only (G := G2 bw v) oS (.inl rfl)) (fun _ h _ => h)
                  clear hwS
                  refine hK'.out _ _ (dS) ?_
                  clear hK' K'
                  refine wpAnyH_done (by kernel_rfl) ?_ _
                  refine NoPanic.normal ?_
                  have zn := bn.size
                  have zd : wi.drew.heap.size = wi.heap.size := rfl
                  have hne : ∀ k, (Value.slice Ap (i + 1) cp).ownBlock = some k → k ≠ bw := fun k hk h0 => by { subst h0; rcases bkp with h | h; (rw [h] at hk; have := hvb _ hk; omega); (rw [h] at hk; have := Option.some.inj hk; omega) }
                  have hlow : ∀ k, (Value.slice Ap (i + 1) cp).ownBlock = some k → k < wi.heap.size → v.ownBlock = some k := fun k hk h0 => by { rcases bkp with h | h; (rw [h] at hk; exact hk); (rw [h] at hk; have := Option.some.inj hk; omega) }
                  have own2 := op.kept (row := some bw) ⟨oS.os, oS.tape, oS.output, Nat.le_of_eq oS.size.symm, fun k hk hn => oS.block k (fun e => hn (by rw [e]))⟩ (.inr (fun h => hne bw h rfl))
                  go_wp2_with fail
                  go_meet
                  case rel => exact ⟨Ap, cp, rfl, rS, own2, dS, hlow⟩
                · refine if_build_one (some 80) rfl (by rfl) 96 (.tmp 79) rfl 113 24 120 Sakg.underlying96 _ infoAcct hZl (by omega) (by omega) xr rfl hxl (fun wn rn bn sn => ?_)
                  have dn := dI.trans (bn.mono dI.size)
                  refine hK'.out _ _ (ChgS.of dn) ?_
                  clear hK' K'
                  simp only [Act.put, List.setIfInBounds_toArray, List.set_cons_zero, List.set_cons_succ]
                  refine held_one 6 (by kernel_rfl) (by rfl) (fun K' hK' => ?_)
                  have hcu : wn.cell? ⟨bw, 0, none⟩ = some v := by { rw [((unhide CBI).kept dn).cell]; exact unhide HV0 }
                  go_simp
                  refine hK'.out _ _ (ChgS.of dn) ?_
                  clear hK' K'
                  refine held_one 9 (by kernel_rfl) (by rfl) (fun K' hK' => ?_)
                  refine if_append_at (some 81) rfl (by rfl) (.tmp 78) (.tmp 80) 96 rfl 113 24 120 Sakg.underlying96 _ infoAcct hZl (by omega) (bw + 1) v i rows rfl (own_kept (unhide OWI) dn) _ 113 xr rfl rn hxl hxo (by omega) (by omega) (by have := dn.size; omega) (fun vp wp op grp bkp => ?_)
                  have dp : ChgS (G2 bw v) wi wp := (ChgS.of (G := G2 bw v) dn).then (ChgS.grown (G := G2 bw v) grp (fun k hk => .inr hk)) (fun _ h _ => h)
                  obtain ⟨Ap, cp, rfl⟩ := own_slice op
                  refine hK'.out _ _ (dp) ?_
                  clear hK' K'
                  simp only [Act.put, List.setIfInBounds_toArray, List.set_cons_zero, List.set_cons_succ]
                  refine held_takeD 10 (.pointer (some ⟨bw, 0, none⟩)) (some 82) (by rfl) (by rfl) (by kernel_rfl) (by kernel_rfl) (by kernel_rfl) (fun _ _ _ h => h) (.inl ⟨by rfl, fun _ _ => by go_simp⟩) (dp) ?_
                  simp only [Act.put, List.setIfInBounds_toArray, List.set_cons_zero, List.set_cons_succ]
                  refine held_takeD 11 (.pointer (some ⟨bw, 0, none⟩)) (some 83) (by rfl) (by rfl) (by kernel_rfl) (by kernel_rfl) (by kernel_rfl) (fun _ _ _ h => h) (.inl ⟨by rfl, fun _ _ => by go_simp⟩) (dp) ?_
                  simp only [Act.put, List.setIfInBounds_toArray, List.set_cons_zero, List.set_cons_succ]
                  refine held_takeD 12 (.pointer (some ⟨bw, 0, none⟩)) (some 84) (by rfl) (by rfl) (by kernel_rfl) (by kernel_rfl) (by kernel_rfl) (fun _ _ _ h => h) (.inl ⟨by rfl, fun _ _ => by go_simp⟩) (dp) ?_
                  simp only [Act.put, List.setIfInBounds_toArray, List.set_cons_zero, List.set_cons_succ]
                  refine held_takeD 13 (.pointer (some ⟨bw, 0, none⟩)) (some 85) (by rfl) (by rfl) (by kernel_rfl) (by kernel_rfl) (by kernel_rfl) (fun _ _ _ h => h) (.inl ⟨by rfl, fun _ _ => by go_simp⟩) (dp) ?_
                  simp only [Act.put, List.setIfInBounds_toArray, List.set_cons_zero, List.set_cons_succ]
                  refine held_one 14 (by kernel_rfl) (by rfl) (fun K' hK' => ?_)
                  have hXp : RowT 107 wp bw cs := by { unfold RowT; rw [grp.block bw (by have := dn.size; omega) (fun h => by have := hvb _ h.symm; omega)]; exact (unhide CBI).kept dn }
                  have hcx : wp.cell? ⟨bw, 0, none⟩ = some v := by { rw [hXp.cell]; exact unhide HV0 }
                  have hfx := hXp.froz 0
                  go_simp
                  obtain ⟨wS, hwS⟩ : ∃ x, x = wp.setCell ⟨bw, 0, none⟩ (Value.slice Ap (i + 1) cp) := ⟨_, rfl⟩
                  rw [← hwS]
                  have oS : Only bw wp wS := hwS ▸ (Only.refl bw wp).setCell 0 (Value.slice Ap (i + 1) cp)
                  have rS := hwS ▸ hXp.set 0 (Value.slice Ap (i + 1) cp)
                  have dS : ChgS (G2 bw v) wi wS := dp.then (ChgS.only (G := G2 bw v) oS (.inl rfl)) (fun _ h _ => h)
                  clear hwS
                  refine hK'.out _ _ (dS) ?_
                  clear hK' K'
                  refine wpAnyH_done (by kernel_rfl) ?_ _
                  refine NoPanic.normal ?_
                  have zn := bn.size
                  have zd : wi.drew.heap.size = wi.heap.size := rfl
                  have hne : ∀ k, (Value.slice Ap (i + 1) cp).ownBlock = some k → k ≠ bw := fun k hk h0 => by { subst h0; rcases bkp with h | h; (rw [h] at hk; have := hvb _ hk; omega); (rw [h] at hk; have := Option.some.inj hk; omega) }
                  have hlow : ∀ k, (Value.slice Ap (i + 1) cp).ownBlock = some k → k < wi.heap.size → v.ownBlock = some k := fun k hk h0 => by { rcases bkp with h | h; (rw [h] at hk; exact hk); (rw [h] at hk; have := Option.some.inj hk; omega) }
                  have own2 := op.kept (row := some bw) ⟨oS.os, oS.tape, oS.output, Nat.le_of_eq oS.size.symm, fun k hk hn => oS.block k (fun e => hn (by rw [e]))⟩ (.inr (fun h => hne bw h rfl))
                  go_wp2_with fail
                  go_meet
                  case rel => exact ⟨Ap, cp, rfl, rS, own2, dS, hlow⟩
              case rest =>
                obtain ⟨Ap, cp, rfl, rk, ok, ck, lowk⟩ := hcut
                obtain ⟨wk, hwk⟩ : ∃ wk, wk = wc := ⟨_, rfl⟩
                subst hwk
                have hklt : bw < wk.heap.size := rk.lt
                have hkz := ck.size
                have x18 : (cs.set 0 (Value.slice Ap (i + 1) cp))[18]? = some (.slice At kt ct) := by rw [List.getElem?_set_ne (by omega)]; exact unhide HV18
                have hxk := unhide HXW wk ck
                have dk : Below wk.heap.size wk wk.drew := Quiet.below ⟨1, rfl⟩ _
                have c21 : ∀ wz, Below wk.heap.size wk wz → wz.cell? ⟨gX, 21, none⟩ = some (.slice Ab kb cb') := fun wz hz => by rw [(hxk.kept hz).cell]; exact hx21
                have c18 : ∀ wz, Below wk.heap.size wk wz → wz.cell? ⟨bw, 18, none⟩ = some (.slice At kt ct) := fun wz hz => by rw [(rk.kept hz).cell]; exact x18
                have nT : IsNat wk At kt ct nt := unhide HTOTI wk ck
                have nB : IsNat wk Ab kb cb' (beN o.bal) := unhide Y2 wk ck
                have hbl2 := hbal.lt
                have hB41 : (256 : Nat) ^ 41 ≤ BIG := big_pow 41 (by omega)
                have hp41 : (256 : Nat) ^ 41 = 256 * 256 ^ 40 := by rw [Nat.pow_succ, Nat.mul_comm]
                have hp40 : (256 : Nat) ^ 32 ≤ 256 ^ 40 := Nat.pow_le_pow_right (by omega) (by omega)
                have hnt2 : nt ≤ 8 * 256 ^ 32 := Nat.le_trans hnt (Nat.mul_le_mul_right _ (by omega))
                have hnB : nt < BIG := by omega
                have C21 := hide c21
                have C18 := hide c18
                have HRK := hide rk
                have HOK := hide ok
                clear c21 c18 rk ok hxk
                go_upto_region 16 with fail
                refine wp_region_noPanic ?_
                refine wp_region_held_drew (S := fun w' => w'.cell? ⟨gX, 21, none⟩ = some (.slice Ab kb cb')) (by kernel_rfl) (unhide C21 _ dk) (fun hHeld => ?_)
                refine held_takeD 0 (.pointer (some ⟨bw, 0, none⟩)) (some 86) (by rfl) (by rfl) (by kernel_rfl) (by kernel_rfl) (by kernel_rfl) (fun _ _ _ h => h) (.inl ⟨by rfl, fun _ _ => by rfl⟩) (hHeld) ?_
                simp only [Act.put, List.setIfInBounds_toArray, List.set_cons_zero, List.set_cons_succ]
                refine held_takeD 1 (.pointer (some ⟨bw, 0, none⟩)) (some 87) (by rfl) (by rfl) (by kernel_rfl) (by kernel_rfl) (by kernel_rfl) (fun _ _ _ h => h) (.inl ⟨by rfl, fun _ _ => by rfl⟩) (hHeld) ?_
                simp only [Act.put, List.setIfInBounds_toArray, List.set_cons_zero, List.set_cons_succ]
                refine held_takeD 2 (.pointer (some ⟨bw, 0, none⟩)) (some 88) (by rfl) (by rfl) (by kernel_rfl) (by kernel_rfl) (by kernel_rfl) (fun _ _ _ h => h) (.inl ⟨by rfl, fun _ _ => by go_simp⟩) (hHeld) ?_
                simp only [Act.put, List.setIfInBounds_toArray, List.set_cons_zero, List.set_cons_succ]
                refine held_takeD 3 (.pointer (some ⟨bw, 0, none⟩)) (some 89) (by rfl) (by rfl) (by kernel_rfl) (by kernel_rfl) (by kernel_rfl) (fun _ _ _ h => h) (.inl ⟨by rfl, fun _ _ => by go_simp⟩) (hHeld) ?_
                simp only [Act.put, List.setIfInBounds_toArray, List.set_cons_zero, List.set_cons_succ]
                refine held_takeD 4 (.pointer (some ⟨bw, 18, none⟩)) (some 90) (by rfl) (by rfl) (by kernel_rfl) (by kernel_rfl) (by kernel_rfl) (fun _ _ _ h => h) (.inl ⟨by rfl, fun _ _ => by go_simp⟩) (hHeld) ?_
                simp only [Act.put, List.setIfInBounds_toArray, List.set_cons_zero, List.set_cons_succ]
                refine held_takeD 6 (.pointer (some ⟨gX, 21, none⟩)) (some 92) (by rfl) (by rfl) (by kernel_rfl) (by kernel_rfl) (by kernel_rfl) (fun _ _ _ h => h) (.inl ⟨by rfl, fun _ _ => by go_simp⟩) (hHeld) ?_
                simp only [Act.put, List.setIfInBounds_toArray, List.set_cons_zero, List.set_cons_succ]
                refine held_takeD 7 (.slice Ab kb cb') (some 93) (by rfl) (by rfl) (by kernel_rfl) (by kernel_rfl) (by kernel_rfl) (fun _ _ _ h => h) (.inl ⟨by rfl, fun wS hS => by have hc := hS; go_simp⟩) (hHeld) ?_
                simp only [Act.put, List.setIfInBounds_toArray, List.set_cons_zero, List.set_cons_succ]
                refine held_one 5 (by kernel_rfl) (by rfl) (fun K' hK' => ?_)
                have hcu := unhide C18 _ dk
                go_simp
                refine hK'.out _ _ (unhide C21 _ dk) ?_
                clear hK' K' hcu
                refine held_one 8 (by kernel_rfl) (by rfl) (fun K' hK' => ?_)
                go_simp
                refine ((nT.kept dk).add (nB.kept dk) hnB hbal.big).mono ?_
                rintro e wl ⟨Al, kl, cl, rfl, nl, Nl, bl⟩
                refine hK'.out _ _ (unhide C21 _ (dk.trans (bl.mono dk.size))) ?_
                clear hK' K'
                have dl := dk.trans (bl.mono dk.size)
                refine held_takeD 9 (.pointer (some ⟨bw, 0, none⟩)) (some 95) (by rfl) (by rfl) (by kernel_rfl) (by kernel_rfl) (by kernel_rfl) (fun _ _ _ h => h) (.inl ⟨by rfl, fun _ _ => by go_simp⟩) (unhide C21 _ dl) ?_
                simp only [Act.put, List.setIfInBounds_toArray, List.set_cons_zero, List.set_cons_succ]
                refine held_takeD 10 (.pointer (some ⟨bw, 0, none⟩)) (some 96) (by rfl) (by rfl) (by kernel_rfl) (by kernel_rfl) (by kernel_rfl) (fun _ _ _ h => h) (.inl ⟨by rfl, fun _ _ => by go_simp⟩) (unhide C21 _ dl) ?_
                simp only [Act.put, List.setIfInBounds_toArray, List.set_cons_zero, List.set_cons_succ]
                refine held_takeD 11 (.pointer (some ⟨bw, 18, none⟩)) (some 97) (by rfl) (by rfl) (by kernel_rfl) (by kernel_rfl) (by kernel_rfl) (fun _ _ _ h => h) (.inl ⟨by rfl, fun _ _ => by go_simp⟩) (unhide C21 _ dl) ?_
                simp only [Act.put, List.setIfInBounds_toArray, List.set_cons_zero, List.set_cons_succ]
                refine held_one 12 (by kernel_rfl) (by rfl) (fun K' hK' => ?_)
                have hcx := unhide C18 _ dl
                have rl := (unhide HRK).kept dl
                have hfx := rl.froz 18
                go_simp
                obtain ⟨wS, hwS⟩ : ∃ x, x = wl.setCell ⟨bw, 18, none⟩ (Value.slice Al kl cl) := ⟨_, rfl⟩
                rw [← hwS]
                have oS : Only bw wl wS := hwS ▸ (Only.refl bw wl).setCell 18 (Value.slice Al kl cl)
                have rS := hwS ▸ rl.set 18 (Value.slice Al kl cl)
                have s21 : wS.cell? ⟨gX, 21, none⟩ = some (.slice Ab kb cb') := by rw [oS.cell ⟨gX, 21, none⟩ (by simp; omega)]; exact unhide C21 _ dl
                clear hwS
                refine hK'.out _ _ s21 ?_
                clear hK' K'
                refine wpAnyH_done (by kernel_rfl) ?_ _
                refine NoPanic.normal ?_
                have zl := dl.size
                have hneB : ∀ k, (Value.slice Ap (i + 1) cp).ownBlock = some k → k ≠ bw := fun k hk h0 => by have := ((unhide HOK).lt k hk).1; omega
                have hGk : ∀ k, G2 bw (Value.slice Ap (i + 1) cp) k → k < wi.heap.size → G2 bw v k := fun k hg hk => by
                  rcases hg with h | h
                  · exact .inl h
                  · exact .inr (lowk k h hk)
                have ckS : ChgS (G2 bw (Value.slice Ap (i + 1) cp)) wk wS := (ChgS.of dl).then (ChgS.only (G := G2 bw (Value.slice Ap (i + 1) cp)) oS (.inl rfl)) (fun _ h _ => h)
                have own3 := (own_kept (unhide HOK) dl).kept (row := some bw) ⟨oS.os, oS.tape, oS.output, Nat.le_of_eq oS.size.symm, fun k hk hn => oS.block k (fun e => hn (by rw [e]))⟩ (.inr (fun h => hneB bw h rfl))
                have ckI : ChgS (G2 bw v) wi wS := ck.then ckS hGk
                have each3 := ((unhide HPREV).snoc (unhide HACCT)).imp fun _ _ h => h.go (G' := G2 bw (Value.slice Ap (i + 1) cp)) ckI hGk
                have nlS : StabS (G2 bw (Value.slice Ap (i + 1) cp)) (fun w => IsNat w Al kl cl (nt + beN o.bal)) wS := by
                  have f1 : OffS (G2 bw (Value.slice Ap (i + 1) cp)) Al kl := fun x hx h0 hg => by
                    have h1 := Nl x hx
                    have h2 : wk.drew.heap.size = wk.heap.size := rfl
                    rcases hg with h | h
                    · omega
                    · have := ((unhide HOK).lt _ h).2; omega
                  have f2 := StabS.nat (G := G2 bw (Value.slice Ap (i + 1) cp)) nl f1
                  exact StabS.nat (f2 wS (ChgS.only oS (.inl rfl))) f1
                have csS : CsE re ((cs.set 0 (Value.slice Ap (i + 1) cp)).set 18 (Value.slice Al kl cl)) := ((unhide HCS).set 0 (.inl rfl) _ rfl).set 18 (.inr (.inl rfl)) _ rfl
                have p0 : ((cs.set 0 (Value.slice Ap (i + 1) cp)).set 18 (Value.slice Al kl cl))[0]? = some (Value.slice Ap (i + 1) cp) := by
                  rw [List.getElem?_set_ne (by omega), List.getElem?_set_self (by rw [(unhide HCS).1]; omega)]
                have p18 : ((cs.set 0 (Value.slice Ap (i + 1) cp)).set 18 (Value.slice Al kl cl))[18]? = some (Value.slice Al kl cl) := by
                  rw [List.getElem?_set_self (by rw [List.length_set, (unhide HCS).1]; omega)]
                have p178 : ((cs.set 0 (Value.slice Ap (i + 1) cp)).set 18 (Value.slice Al kl cl))[178]? = some (Value.slice A4 k4 c4) := by rw [List.getElem?_set_ne (by omega), List.getElem?_set_ne (by omega)]; exact unhide H178
                have P178 := hide p178
                have HHSS := hide ((unhide HHSI).go (G' := G2 bw (Value.slice Ap (i + 1) cp)) ckI hGk)
                clear p178
                have bS : Below w.heap.size w wS := hbW.trans (ckI.below w.heap.size (fun k hg => by rcases hg with h | h; (omega); (have := hvb _ h; omega)) hbW.size)
                have nbd : nt + beN o.bal ≤ (i + 1) * 256 ^ 32 := by rw [Nat.add_mul]; omega
                have hlS : bw < wS.heap.size := rS.lt
                have E3 := hide each3
                have O3' := hide own3
                have N3' := hide nlS
                clear each3 own3 nlS nl nT nB rl
                go_wp2
                go_roundg (l - 1 - i)
                case measure => omega
                case rel =>
                  refine ⟨i + 1, _, Value.slice Ap (i + 1) cp, rows ++ [xr], Al, kl, cl, nt + beN o.bal, by omega, rfl, rS, csS, p0, unhide O3', ?_, p18, unhide N3', nbd, bS, hlS, unhide P178, unhide HHSS⟩
                  rw [unhide HTS, List.map_append]
                  exact unhide E3
      · obtain rfl : i = l := by omega
        have hlen24 : ∀ r ∈ rows, r.length = 24 := Each.all (p := fun r => r.length = 24) (fun r d h => (h.stab (g := bw) (.inl rfl)).now.len) (unhide HEACH)
        have htl : ds.take i = ds := List.take_of_length_le (by have := unhide HLEN; omega)
        have he2 := unhide HEACH
        rw [htl] at he2
        obtain ⟨af, cf, hvf, rwf⟩ := own_rws (unhide HOWN) hlen24 (by have h1 := he2.len; rw [List.length_map] at h1; have := unhide HLEN; omega)
        have hvlb : ∀ k, v.ownBlock = some k → bw + 1 ≤ k := fun k hk => ((unhide HOWN).lt k hk).1
        have hfin : NewOK bw cs re wo i ds := by
          refine ⟨af, cf, unhide HR, unhide HCS, by rw [unhide HV0, hvf], rows, Stab.rws rwf (fun x hx _ => ?_), he2.imp fun _ _ h => h.stab (.inl rfl)⟩
          have := hvlb x.block (by rw [hvf, hx]; rfl)
          omega
        have htt : TotOK bw cs wo i := ⟨At, kt, ct, nt, unhide HV18, (unhide HTOT).stab (.inl rfl), hnt⟩
        have hhk : HashOK bw cs wo rowsH := ⟨A4, k4, c4, unhide H178, (unhide HHS).stab (.inl rfl)⟩
        have HHK := hide hhk
        have HTT := hide htt
        clear hhk
        have HFIN := hide hfin
        clear he2 rwf hfin hlen24 hvf htt
        go_wp2
        refine bodyPost_ret (results_tmp2 rfl _ _ _) rfl ?_
        exact ⟨hbe, .inr ⟨by rw [hwb, decide_eq_true hk4]; rfl, bw, cs, rfl, by omega, unhide HFIN, unhide HTT, unhide HHK⟩⟩

end Go.Proofs.YgcsakGreat
