/-
  law: copyBytes, Stage.
-/
import Derived.Test.YgcsakGreatLpA
import Derived.Test.YgcsakGreatExB
namespace Go.Proofs.YgcsakGreat
set_option linter.unusedVariables false
set_option linter.unusedSimpArgs false
set_option maxRecDepth 100000
open Go.RowKit

set_option maxHeartbeats 8000000 in
theorem copyBytes_x (A0 : Option Addr) (k c : Nat) (xs : List Int) (w : World) (h : Src w A0 k c xs) (hk : k ≤ 1000) : Calls Sakg.prog 44 #[.slice A0 k c] w fun e w' => ∃ A k' c', e = .returned (.slice A k' c') ∧ Src w' A k' c' xs ∧ New w A ∧ Below w.heap.size w w' := by
  have hn := fun (wx : World) (x : Option Addr) (n c n' c' : Nat) => Lib.run_eql_slice_nil (P := Sakg.prog) wx 30 5 x n c n' c' Sakg.underlying30
  cases A0 with
  | none =>
    obtain ⟨rfl, rfl⟩ := h.nil rfl
    have hx : xs = [] := List.eq_nil_of_length_eq_zero h.len_eq
    subst hx
    clear h
    go_enter Sakg.func44, Sakg.ntmps44
    go_wp2_with fail
    go_ret
    exact ⟨none, 0, 0, rfl, Src.ofNil _, fun x hx => (by cases hx), Below.refl _ _⟩
  | some ad =>
    have hxl := h.len_eq
    have hby := h.byt
    have hcell : ∀ wz, Below w.heap.size w wz → ∀ j, j < k → wz.cell? (ad.add j) = some (.int .u8 (xs.getD j 0)) := fun wz hz j hj => by
      have hs := h.kept hz
      obtain ⟨b, off, ha, hc⟩ := hs.at_ (by omega)
      obtain rfl := Option.some.inj ha
      rw [addAt]
      exact hc j hj
    have HC := hide hcell
    clear h hcell
    go_enter Sakg.func44, Sakg.ntmps44
    go_wp2_with (first
      | (at_make; refine wpList_make_bytes rfl _ _ 30 rfl Sakg.underlying30 _ _ k rfl rfl rfl rfl (by omega) ?_; intro w1 o1 b1 s1)
      | (with_reducible refine at_copy ?_; refine wpList_copy_more rfl _ _ _ _ rfl Sakg.underlying30 w.heap.size k _ rfl (zeros k) o1 (zeros_len k) ad k _ rfl xs hxl (Nat.le_refl _) (unhide HC _ b1) ?_; intro w2 o2 b2 s2))
    go_ret
    exact ⟨some ⟨w.heap.size, 0, none⟩, k, k, rfl, OwnT.src_all o2 hby k hxl.symm (by unfold maxLen; omega), fun x hx => by obtain rfl := Option.some.inj hx; exact Nat.le_refl _, b1.trans (b2 _ (Nat.le_refl _))⟩
def bal128 : List Int := zeros 15 ++ ([1] ++ zeros 16)
theorem bal128_is : IsW bal128 := ⟨rfl, by
  intro x hx
  unfold bal128 zeros at hx
  simp only [List.mem_append, List.mem_replicate, List.mem_singleton] at hx
  omega⟩
theorem addr240_is : IsAddr (lowAddr 240) := lowAddr_is 240 (by omega) (by omega)
/-- the contracts of a stage -/
def accO (xs : Nat → List Int) : Nat → List OAcct
  | 0 => []
  | i + 1 => accO xs i ++ [⟨lowAddr ((i + 1 : Nat) : Int), 1, zeros 32, xs i, []⟩]
def sndO : OAcct := ⟨lowAddr 240, 0, bal128, [], []⟩
theorem run_w128 (wx : World) : (Instr.build 29 #[(15, .int .u8 1)]).run Sakg.prog wx = .ok (.agg (bv bal128).toArray) wx := by kernel_rfl
theorem run_oaS (wx : World) : (Instr.build 43 #[(0, .agg (bv (lowAddr 240)).toArray), (2, .agg (bv bal128).toArray)]).run Sakg.prog wx = .ok (.agg (rowE (lowAddr 240) 0 bal128 nilS nilS).toArray) wx := by kernel_rfl
theorem run_oaC (wx : World) (z : Int) : (Instr.build 43 #[(0, .agg (bv (lowAddr z)).toArray), (1, .int .u64 1)]).run Sakg.prog wx = .ok (.agg (rowE (lowAddr z) 1 (zeros 32) nilS nilS).toArray) wx := by kernel_rfl
theorem rowE_53 {a b : List Int} (ha : IsAddr a) (hb : IsW b) (n : Nat) (v u : Value) : (rowE a n b v u)[53]? = some v := by
  unfold rowE
  rw [List.getElem?_append_right (by rw [bv_len, ha.len]; omega), bv_len, ha.len, show 53 - 20 = 32 + 1 from rfl, List.getElem?_cons_succ, List.getElem?_append_right (by rw [bv_len, hb.len]; omega), bv_len, hb.len]
  rfl
theorem rowE_set53 {a b : List Int} (ha : IsAddr a) (hb : IsW b) (n : Nat) (v u u' : Value) : (rowE a n b v u).set 53 u' = rowE a n b u' u := by
  unfold rowE
  rw [List.set_append_right _ _ (by rw [bv_len, ha.len]; omega), bv_len, ha.len, show 53 - 20 = 32 + 1 from rfl, List.set_cons_succ, List.set_append_right _ _ (by rw [bv_len, hb.len]; omega), bv_len, hb.len]
  rfl
/-- what Stage answers -/
def StgP (m : Nat) (xs : Nat → List Int) (w : World) (e : Ending) (w' : World) : Prop :=
  ∃ A c rows, e = .returned (.slice A (m + 1) c) ∧ w'.ownsRow w.heap.size 43 55 (.slice A (m + 1) c) (m + 1) rows.flatten ∧ rows.length = m + 1 ∧ Each (EAcct (GO (.slice A (m + 1) c)) w') rows (accO xs m ++ [sndO]) ∧ Below w.heap.size w w'
set_option maxHeartbeats 16000000 in
theorem stage_x (g m : Nat) (hm : m ≤ 2) (As : Nat → Option Addr) (ks cs : Nat → Nat) (xs : Nat → List Int) (w : World) (T : TypeId) (cells : List Value) (hrow : RowT T w g cells) (hcd : ∀ i, i < m → cells[i]? = some (.slice (As i) (ks i) (cs i)) ∧ Src w (As i) (ks i) (cs i) (xs i) ∧ ks i ≤ 256) :
    Calls Sakg.prog 11 #[.slice (some ⟨g, 0, none⟩) m m] w (StgP m xs w) := by
  obtain ⟨i0, hi0, hz0, hz1, hz2⟩ := info_parts infoOA3
  have HI0 := hide hi0
  have HZ0 := hide hz0
  have HZ1 := hide hz1
  have hz55 : (rowOA (zeros 20)).length = 55 := by kernel_rfl
  have HCD := hide hcd
  clear hcd hi0 hz0 hz1 hz2
  go_enter Sakg.func11, Sakg.ntmps11
  go_wp2_with fail
  go_loopg [3, 9] m (fun gk v3 iv wr => ∃ i rows, gk = m - i ∧ i ≤ m ∧ iv = .int .i64 (i : Nat) ∧ wr.ownsRow w.heap.size 43 55 v3 i rows.flatten ∧ rows.length = i ∧ Each (EAcct (GO v3) wr) rows (accO xs i) ∧ Below w.heap.size w wr)
  case atStart => exact ⟨0, [], by omega, by omega, rfl, World.ownsRow_nil _ _ _ _, rfl, trivial, Below.refl _ _⟩
  case round =>
    obtain ⟨i, rows, rfl, hi, rfl, hown, hrn, heach, hbe⟩ := hrel
    have HOWN := hide hown
    have HE := hide heach
    have HBE := hide hbe
    have HRN := hide hrn
    clear hown heach hbe hrn
    have hbs := (unhide HBE).size
    rcases Nat.lt_or_ge i m with him | him
    · as_aux_lemma =>
      obtain ⟨z, hzz⟩ : ∃ z : Int, z = (i : Int) + 1 := ⟨_, rfl⟩
      have HZZ := hide hzz
      have t6 : decide ((i : Int) ≥ 6) = false := decide_eq_false (by omega)
      have tm : decide ((i : Int) < (m : Int)) = true := decide_eq_true (by omega)
      obtain ⟨hc0, hs0, hk0⟩ := unhide HCD i him
      generalize As i = ad at hc0 hs0
      generalize hki : ks i = k at hc0 hs0 hk0
      generalize cs i = c at hc0 hs0
      obtain ⟨ys, hys⟩ : ∃ ys, ys = xs i := ⟨_, rfl⟩
      rw [← hys] at hs0
      have HYS := hide hys
      have hk256 : decide ((k : Int) ≤ 256) = true := decide_eq_true (by omega)
      have hAdr : IsAddr (lowAddr z) := lowAddr_is _ (by omega) (by omega)
      have hcr : wr.cell? ⟨g, i, none⟩ = some (.slice ad k c) := by
        rw [(hrow.kept (unhide HBE)).cell]
        exact hc0
      have HSR := hide (hs0.kept (unhide HBE))
      have HAD : ∀ wz, Hid (Calls Sakg.prog 43 #[.int .u8 ((i : Int) + 1)] wz fun e w' => e = .returned (.agg (bv (lowAddr z)).toArray) ∧ Below wz.heap.size wz w') := fun wz => hide (by rw [hzz]; exact addrNo_any (i + 1) (by omega) wz)
      have HCB : ∀ wz, Below wr.heap.size wr wz → Hid (Calls Sakg.prog 44 #[.slice ad k c] wz fun e w' => ∃ A k' c', e = .returned (.slice A k' c') ∧ Src w' A k' c' ys ∧ New wz A ∧ Below wz.heap.size wz w') := fun wz hz => hide (copyBytes_x ad k c ys wz ((unhide HSR).kept hz) (by omega))
      have hl1 : ∀ v, (rowE (lowAddr z) 1 (zeros 32) v nilS).length = 55 := fun v => rowE_len hAdr zeroW_is 1 v nilS
      have hs1 : ∀ v, (Sakg.prog.info? 43).map (·.size) = some (rowE (lowAddr z) 1 (zeros 32) v nilS).length := fun v => by rw [hl1 v]; exact sizeOA
      clear hc0 hs0 hys hki hzz
      go_upto_region 7 with (first
        | (go_at_call 43; refine (unhide (HAD _)).mono ?_; rintro e w1 ⟨rfl, b1⟩)
        | ((with_reducible refine at_build 43 ?_); refine wpList_build_run (by rfl) 43 [(0, .tmp 19), (1, .const (.int .u64 1))] rfl (.agg (rowE (lowAddr z) 1 (zeros 32) nilS nilS).toArray) (run_oaC _ _) ?_)
        | ((with_reducible refine at_alloc 43 ?_); refine wpList_alloc_g (by rfl) 43 rfl (rowOA (zeros 20)) 55 infoOA hz55 ?_)
        | ((with_reducible refine at_store 43 ?_); refine wpList_store_whole rfl 43 (.tmp 6) (.tmp 20) rfl _ _ _ (rowE (lowAddr z) 1 (zeros 32) nilS nilS) rfl rfl (RowT.new _ _ _) (by rw [hz55, hl1]) (hs1 _) (rowE_one _ _ _ rfl rfl) ?_; intro w2 hr2 hon2; have hbb2 := box_below hon2; clear hon2))
      have d2 : Below wr.heap.size wr w2 := b1.trans (hbb2.1.mono b1.size)
      have x253 : ∀ wz, Below w2.heap.size w2 wz → wz.cell? ⟨w1.heap.size, 53, none⟩ = some nilS ∧ RowT 43 wz w1.heap.size (rowE (lowAddr z) 1 (zeros 32) nilS nilS) := fun wz hz => ⟨by rw [(hr2.kept hz).cell]; exact rowE_53 hAdr zeroW_is _ _ _, hr2.kept hz⟩
      have hlt2 := hr2.lt
      have X253 := hide x253
      clear hr2 x253 hbb2 hcr
      go_upto_region 9 with (go_at_call 44; refine (unhide (HCB w2 d2)).mono ?_; rintro e w3 ⟨A', k', c2, rfl, s3, N3, b3⟩; have x3 := (unhide X253 w3 b3).1; have f3 := (unhide X253 w3 b3).2.froz 53; have S3 := hide s3; clear s3)
      obtain ⟨w4, hw4⟩ : ∃ x, x = w3.setCell ⟨w1.heap.size, 53, none⟩ (.slice A' k' c2) := ⟨_, rfl⟩
      rw [← hw4]
      have r4 : RowT 43 w4 w1.heap.size (rowE (lowAddr z) 1 (zeros 32) (.slice A' k' c2) nilS) := by
        have := hw4 ▸ (unhide X253 w3 b3).2.set 53 (.slice A' k' c2)
        rwa [rowE_set53 hAdr zeroW_is] at this
      have o4 : Only w1.heap.size w3 w4 := hw4 ▸ (Only.refl _ w3).setCell 53 _
      have d3 : Below wr.heap.size wr w3 := d2.trans (b3.mono d2.size)
      have d4 : Below wr.heap.size wr w4 := d3.trans (o4.below _ b1.size)
      have hz1w := b1.size
      have hz2w := d2.size
      have s4 : Src w4 A' k' c2 ys := StabS.src (G := (· = w1.heap.size)) (unhide S3) (fun x hx h0 hg => by have h1 := N3 x hx; have h2 : x.block = w1.heap.size := hg; omega) w4 (ChgS.only o4 rfl)
      have hvl : ∀ kk, GO u3 kk → kk < wr.heap.size := fun kk hk => ((unhide HOWN).lt kk hk).2
      have hea : EAcct (GO u3) w4 (rowE (lowAddr z) 1 (zeros 32) (.slice A' k' c2) nilS) ⟨lowAddr z, 1, zeros 32, ys, []⟩ :=
        ⟨A', k', c2, none, 0, 0, rfl, hAdr, (show 1 < 256 ^ 8 by omega), zeroW_is, StabS.src s4 (fun y hy _ hgv => by have h1 := N3 y hy; have h2 := hvl _ hgv; omega), [], fun w' _ => Rws.ofNil _ 64, trivial⟩
      have HEA := hide hea
      have HR4 := hide r4.rangeAll
      have hl4 := hl1 (.slice A' k' c2)
      have hsz4 := hs1 (.slice A' k' c2)
      have hone4 := rowE_one (a := lowAddr z) (b := zeros 32) 1 (v := .slice A' k' c2) (u := nilS) rfl rfl
      have OW4 := hide (own_kept (unhide HOWN) d4)
      have hbw4 : w.heap.size ≤ w4.heap.size := by have := d4.size; omega
      have hz4 := d4.size
      have hi2 : i ≤ 2 := by omega
      clear hw4 r4 s4 x3 f3 X253 hea
      go_wp2_with (first
        | ((with_reducible refine at_load 43 ?_); refine wpList_load_g rfl 43 (.tmp 6) rfl w1.heap.size 0 rfl (rowE (lowAddr z) 1 (zeros 32) (.slice A' k' c2) nilS) _ (unhide HR4) Sakg.underlying43 rfl hsz4 ?_)
        | ((with_reducible refine at_buildSlice ?_); refine wpList_build_one rfl 37 (.tmp 28) rfl 43 55 Sakg.underlying37 i0 _ (unhide HI0) (unhide HZ0) (unhide HZ1) (by simp [Value.cells, hz55]) (by omega) (by omega) (rowE (lowAddr z) 1 (zeros 32) (.slice A' k' c2) nilS) rfl hl4 ?_)
        | ((with_reducible refine at_append ?_); refine wpList_append_at rfl (.tmp 27) (.tmp 29) 37 rfl 43 55 112 Sakg.underlying37 (rowOA (zeros 20)) infoOA3 hz55 (by omega) w.heap.size u3 i rows rfl (own_kept (unhide OW4) ((Below.refl _ _).alloc (Nat.le_refl _) _)) _ _ (rowE (lowAddr z) 1 (zeros 32) (.slice A' k' c2) nilS) rfl (RowT.new _ _ _) hl4 hone4 (by omega) (by omega) (by simp; omega) ?_; intro v5 w5 ho5 hg5 hbk5; have HO5 := hide ho5; have HG5 := hide hg5; have HB5 := hide hbk5; clear ho5 hg5 hbk5))
      have cA : ChgS (GO u3) w4 w5 := (ChgS.of (G := GO u3) ((Below.refl _ _).alloc (Nat.le_refl _) _)).then (ChgS.grown (G := GO u3) (unhide HG5) (fun k hk => hk)) (fun _ h _ => h)
      have hGv : ∀ k, GO v5 k → k < w4.heap.size → GO u3 k := fun k hk hl => by
        rcases unhide HB5 with h | h
        · unfold GO at hk ⊢
          rw [← h]; exact hk
        · exfalso
          unfold GO at hk
          rw [h] at hk
          have h2 := Option.some.inj hk
          simp only [World.size_alloc] at h2
          omega
      have each5 := ((unhide HE).imp fun _ _ hh => hh.go (G' := GO v5) ((ChgS.of d4).then cA (fun _ h _ => h)) (fun k hk hl => hGv k hk (by omega))).snoc ((unhide HEA).go (G' := GO v5) cA hGv)
      have bw5 : Below w.heap.size w w5 := ((unhide HBE).trans (d4.mono hbs)).trans (cA.below w.heap.size (fun k hk => ((unhide HOWN).lt k hk).1) hbw4)
      have hrn5 : (rows ++ [rowE (lowAddr z) 1 (zeros 32) (.slice A' k' c2) nilS]).length = i + 1 := by rw [List.length_append, unhide HRN]; rfl
      have hacc : accO xs (i + 1) = accO xs i ++ [⟨lowAddr z, 1, zeros 32, ys, []⟩] := by rw [unhide HYS, unhide HZZ]; rfl
      rw [← hacc] at each5
      have E5 := hide each5
      clear each5 cA hGv
      go_roundg (m - (i + 1))
      case measure => omega
      case rel => exact ⟨i + 1, _, rfl, by omega, rfl, unhide HO5, hrn5, unhide E5, bw5⟩
    · as_aux_lemma =>
      obtain rfl : i = m := by omega
      have tm : decide ((i : Int) < (i : Int)) = false := decide_eq_false (by omega)
      have HSE : ∀ wz, Hid (Calls Sakg.prog 45 #[] wz fun e w' => e = .returned (.agg (bv (lowAddr 240)).toArray) ∧ Below wz.heap.size wz w') := fun wz => hide (sender_any wz)
      have hl2 : (rowE (lowAddr 240) 0 bal128 nilS nilS).length = 55 := rowE_len addr240_is bal128_is 0 nilS nilS
      have hone2 := rowE_one (a := lowAddr 240) (b := bal128) 0 (v := nilS) (u := nilS) rfl rfl
      go_wp2_with (first
        | (go_at_call 45; refine (unhide (HSE _)).mono ?_; rintro e w1 ⟨rfl, b1⟩; have O1 := hide (own_kept (unhide HOWN) b1))
        | ((with_reducible refine at_build 29 ?_); refine wpList_build_run (by rfl) 29 [(15, .const (.int .u8 1))] rfl (.agg (bv bal128).toArray) (run_w128 _) ?_)
        | ((with_reducible refine at_build 43 ?_); refine wpList_build_run (by rfl) 43 [(0, .tmp 33), (2, .tmp 34)] rfl (.agg (rowE (lowAddr 240) 0 bal128 nilS nilS).toArray) (run_oaS _) ?_)
        | ((with_reducible refine at_buildSlice ?_); refine wpList_build_one rfl 37 (.tmp 35) rfl 43 55 Sakg.underlying37 i0 _ (unhide HI0) (unhide HZ0) (unhide HZ1) (by simp [Value.cells, hz55]) (by omega) (by omega) (rowE (lowAddr 240) 0 bal128 nilS nilS) rfl hl2 ?_)
        | ((with_reducible refine at_append ?_); refine wpList_append_at rfl (.tmp 32) (.tmp 36) 37 rfl 43 55 112 Sakg.underlying37 (rowOA (zeros 20)) infoOA3 hz55 (by omega) w.heap.size u3 i rows rfl (own_kept (unhide O1) ((Below.refl _ _).alloc (Nat.le_refl _) _)) _ _ (rowE (lowAddr 240) 0 bal128 nilS nilS) rfl (RowT.new _ _ _) hl2 hone2 (by omega) (by omega) (by have := b1.size; simp; omega) ?_; intro v5 w5 ho5 hg5 hbk5; have HO5 := hide ho5; have HG5 := hide hg5; have HB5 := hide hbk5; clear ho5 hg5 hbk5; obtain ⟨A5, c5, rfl⟩ := own_slice (unhide HO5)))
      go_ret
      have hz1w := b1.size
      have cA : ChgS (GO u3) w1 w5 := (ChgS.of (G := GO u3) ((Below.refl _ _).alloc (Nat.le_refl _) _)).then (ChgS.grown (G := GO u3) (unhide HG5) (fun k hk => hk)) (fun _ h _ => h)
      have hGv : ∀ k, GO (.slice A5 (i + 1) c5) k → k < w1.heap.size → GO u3 k := fun k hk hl => by
        rcases unhide HB5 with h | h
        · unfold GO at hk ⊢
          rw [← h]; exact hk
        · exfalso
          unfold GO at hk
          rw [h] at hk
          have h2 := Option.some.inj hk
          simp only [World.size_alloc] at h2
          omega
      have hea : EAcct (GO u3) w1 (rowE (lowAddr 240) 0 bal128 nilS nilS) sndO := ⟨none, 0, 0, none, 0, 0, rfl, addr240_is, (show 0 < 256 ^ 8 by omega), bal128_is, KSrc.nil _ _, [], fun w' _ => Rws.ofNil _ 64, trivial⟩
      have each5 := ((unhide HE).imp fun _ _ hh => hh.go (G' := GO (.slice A5 (i + 1) c5)) ((ChgS.of b1).then cA (fun _ h _ => h)) (fun k hk hl => hGv k hk (by omega))).snoc (hea.go (G' := GO (.slice A5 (i + 1) c5)) cA hGv)
      have bw5 : Below w.heap.size w w5 := ((unhide HBE).trans (b1.mono hbs)).trans (cA.below w.heap.size (fun k hk => ((unhide HOWN).lt k hk).1) (by omega))
      exact ⟨A5, c5, _, rfl, unhide HO5, by rw [List.length_append, unhide HRN]; rfl, each5, bw5⟩

end Go.Proofs.YgcsakGreat
