/-
  yp: goes in general.
-/
import Derived.Test.YgcsakGreatKpB
import Derived.Test.YgcsakGreatKgD
import Derived.Test.YgcsakGreatRun4
namespace Go.Proofs.YgcsakGreat
set_option linter.unusedVariables false
set_option linter.unusedSimpArgs false
set_option maxRecDepth 100000
open Go.RowKit

theorem build_acct02 (a : List Int) (ha : IsAddr a) (v2 : Value) (h2 : v2.cells = [v2].toArray) : Instr.fill ((#[(0, 20), (20, 1), (21, 1), (22, 1), (23, 1)] : Array (Nat × Nat))[·]?) (bv (zeros 20) ++ [nilS, nilS, nilS, nilS]).toArray [(0, .agg (bv a).toArray), (2, v2)] = some (bv a ++ [nilS, v2, nilS, nilS]).toArray := by
  rw [fill_cons _ (bv (zeros 20) ++ [nilS, nilS, nilS, nilS]) 0 (.agg (bv a).toArray) _ 0 20 rfl (bv a) rfl (by rw [bv_len]; exact ha.len) (by simp [bv_len, zeros_len])]
  have e0 : spl (bv (zeros 20) ++ [nilS, nilS, nilS, nilS]) 0 (bv a) = bv a ++ [nilS, nilS, nilS, nilS] := by
    unfold spl
    rw [bv_len, ha.len, List.take_zero, List.nil_append, Nat.zero_add, List.drop_append_of_le_length (by simp [bv_len, zeros_len]), List.drop_of_length_le (by simp [bv_len, zeros_len]), List.nil_append]
  rw [e0]
  have sp : ∀ (L : List Value) (k : Nat) (p : Value), spl (bv a ++ L) (20 + k) [p] = bv a ++ (L.take k ++ p :: L.drop (k + 1)) := fun L k p => by
    unfold spl
    have hl : (bv a).length = 20 := by rw [bv_len, ha.len]
    rw [List.take_append, List.drop_append, hl, List.take_of_length_le (by omega), List.drop_of_length_le (by simp; omega)]
    simp
    omega
  rw [fill_cons _ (bv a ++ [nilS, nilS, nilS, nilS]) 2 v2 _ 21 1 rfl [v2] h2 rfl (by simp [bv_len, ha.len]), sp _ 1, Instr.fill]
  rfl
theorem run_acct02 (wx : World) (a : List Int) (ha : IsAddr a) (A : Option Addr) (k c : Nat) :
    (Instr.build 113 #[(0, .agg (bv a).toArray), (2, .slice A k c)]).run Sakg.prog wx = .ok (.agg (bv a ++ [nilS, .slice A k c, nilS, nilS]).toArray) wx := by
  obtain ⟨i0, hi0, hz0, hz1, hz2⟩ := info_parts infoAcct
  exact run_build_struct wx 113 _ placesAcct i0 _ hi0 hz0 (bv (zeros 20) ++ [nilS, nilS, nilS, nilS]) rfl _ _ (build_acct02 a ha _ rfl)
/-- an account that keeps its balance only -/
def bareY (ds : List YAcct) (a : List Int) : List YAcct := putY ds { zeroAcct a with bal := (lookY ds a).bal }
theorem GoodD.bare {B : Nat} {ds : List YAcct} (h : GoodD B ds) {a : List Int} (ha : IsAddr a) : GoodD B (bareY ds a) :=
  h.put (d := { zeroAcct a with bal := (lookY ds a).bal }) ha ⟨(GoodA.zero a).non, (GoodA.zero a).code, (GoodA.zero a).slots, (GoodA.zero a).sorted, (GoodA.zero a).live⟩ rfl
theorem sz_bare {B : Nat} {ds : List YAcct} (h : GoodD B ds) {a : List Int} (ha : IsAddr a) : szA (bareY ds a) ≤ szA ds + 1 := by
  have := putY_sz (ds := ds) (d := { zeroAcct a with bal := (lookY ds a).bal }) ha h.srt h.addr
  unfold bareY
  simp only [zeroAcct, List.length_nil] at this ⊢
  omega
section
variable {G : Nat → Prop} {bw : Nat} {cs : List Value} {d : WD} {w : World} {B : Nat}
set_option maxHeartbeats 16000000 in
theorem CW.goes (h : CW G bw cs d w) (hg : Snd B d) (hwt : wt d ≤ 2250000000) :
    Calls Sakg.prog 127 #[.pointer (some ⟨bw, 0, none⟩)] w fun e w' => e = .returned (.tuple #[]) ∧ ∃ ds, GoodD B ds ∧ szA ds ≤ szA d.accts + d.gone.length ∧ WPost G bw cs { d with accts := ds } w w' := by
  obtain ⟨ao, l, c, h1, h2⟩ := h.kw.gone
  have hlen := h2.now.len
  have c7 : w.cell? ⟨bw, 7, none⟩ = some (.slice ao l c) := h.cell h1
  have hll : l ≤ 900000 := by unfold wt at hwt; rw [hlen] at hwt; omega
  have hu := Sakg.underlying26
  have hZ20 : (bv (zeros 20)).length = 20 := by rw [bv_len, zeros_len]
  have hS8 : WPost G bw cs { d with accts := d.accts } w w := ⟨cs, h, fun _ _ => rfl, rfl, Chg.refl _ _⟩
  have HW := hide h
  have HG := hide hg
  have H2 := hide h2
  have HS8 := hide hS8
  have hbw := h.lt
  clear h hg h1 h2 hS8
  go_enter Sakg.func127, Sakg.ntmps127
  go_wp2_with fail
  go_loopg [9] l (fun gk iv wr => ∃ (i : Nat) (ds : List YAcct), i + gk = l ∧ iv = .int .i64 i ∧ GoodD B ds ∧ szA ds ≤ szA d.accts + i ∧ WPost G bw cs { d with accts := ds } w wr)
  case atStart => exact ⟨0, d.accts, by omega, rfl, (unhide HG).acc, Nat.le_refl _, unhide HS8⟩
  case round =>
    obtain ⟨i, ds, hi, rfl, hds, hsz, hwp⟩ := hrel
    have HWP := hide hwp
    clear hwp
    by_cases hil : i < l
    · obtain ⟨csr, hcw, hs8, hs4, hch⟩ := unhide HWP
      have hA := (unhide H2).go (ChgS.chg hch (unhide HW).g)
      have hAn := hA.now
      have hal : i < d.gone.length := by omega
      obtain ⟨a, ha⟩ : ∃ a, a = d.gone.getD i [] := ⟨_, rfl⟩
      have hia : IsAddr a := by rw [ha]; exact hAn.2 _ (mem_getD hal)
      obtain ⟨b, off, rfl, hblt, hat⟩ := hAn.1.at_ (by omega)
      have hrg : wr.rangeAt b (off + i * 20) (bv a) := by
        intro j v hv
        have := hat i hil j v (by rw [getD_map_bv _ _ hal, ← ha]; exact hv)
        exact this
      have hiz := hia.size
      have hba : (bv a).length = 20 := by rw [bv_len, hia.len]
      have hsnd : Snd B { d with accts := ds } := ⟨hds, (unhide HG).temps, (unhide HG).logs, (unhide HG).tot⟩
      have hgood : Good B { d with accts := ds } := ⟨hsnd.acc, hsnd.temps, hsnd.logs, by unfold wt szW at *; simp only at *; omega, Nat.lt_of_le_of_lt (show d.refund ≤ 2250000000 by unfold wt at hwt; omega) (by decide), hsnd.tot⟩
      have HCW := hide hcw
      have HRG := hide hrg
      have HS8' := hide hs8
      have HS4 := hide hs4
      have HCH := hide hch
      clear hcw hrg hat hA hAn ha hs8 hs4 hch
      go_upto_region 3 with (first
        | ((with_reducible refine at_load 26 ?_); refine wpList_load_g rfl 26 (.tmp 11) rfl b (off + i * 20) rfl (bv a) _ (unhide HRG) Sakg.underlying26 rfl hiz ?_)
        | ((with_reducible refine at_alloc 26 ?_); refine wpList_alloc_g (by rfl) 26 rfl (bv (zeros 20)) 20 infoAddr2 hZ20 ?_)
        | ((with_reducible refine at_store 26 ?_); refine wpList_store_whole rfl 26 (.tmp 3) (.tmp 12) rfl _ _ _ (bv a) rfl rfl (RowT.new _ _ _) (by rw [hZ20, hba]) hiz (bv_one _) ?_; intro w2 hr2 hon2; have hbb2 := box_below hon2; clear hon2))
      simp only [Act.put, List.setIfInBounds_toArray, List.set_cons_zero, List.set_cons_succ]
      have b2 : Below wr.heap.size wr w2 := hbb2.1
      have hcw2 := (unhide HCW).kept b2
      have e2 : Below w2.heap.size w2 w2.drew := Quiet.below ⟨1, rfl⟩ _
      have hbwr : bw < wr.heap.size := (unhide HCW).lt
      have HAC := hide ((hcw2.kept e2).account hgood a hia)
      have HCW2 := hide hcw2
      have HR2 := hide hr2
      clear hcw2 hr2 hbb2
      refine wp_region_noPanic ?_
      refine wp_region_held_drew (S := fun w' => RowT 26 w' wr.heap.size (bv a)) (by kernel_rfl) ((unhide HR2).kept e2) (fun hHeld => ?_)
      refine held_takeD 0 (.pointer (some ⟨bw, 0, none⟩)) (some 13) (by rfl) (by rfl) (by kernel_rfl) (by kernel_rfl) (by kernel_rfl) (fun _ _ _ h => h) (.inl ⟨by rfl, fun _ _ => by rfl⟩) (hHeld) ?_
      simp only [Act.put, List.setIfInBounds_toArray, List.set_cons_zero, List.set_cons_succ]
      refine held_takeD 1 (.agg (bv a).toArray) (some 14) (by rfl) (by rfl) (by kernel_rfl) (by kernel_rfl) (by kernel_rfl) (fun _ _ _ h => h) (yieldsIf_load_mid (by rfl) _ _ rfl _ _ rfl _ _ (fun wz hS => hS.rangeAll) hu rfl hiz) (hHeld) ?_
      simp only [Act.put, List.setIfInBounds_toArray, List.set_cons_zero, List.set_cons_succ]
      refine held_takeD 2 (.pointer (some ⟨bw, 0, none⟩)) (some 15) (by rfl) (by rfl) (by kernel_rfl) (by kernel_rfl) (by kernel_rfl) (fun _ _ _ h => h) (.inl ⟨by rfl, fun _ _ => by rfl⟩) (hHeld) ?_
      simp only [Act.put, List.setIfInBounds_toArray, List.set_cons_zero, List.set_cons_succ]
      refine held_takeD 3 (.agg (bv a).toArray) (some 16) (by rfl) (by rfl) (by kernel_rfl) (by kernel_rfl) (by kernel_rfl) (fun _ _ _ h => h) (yieldsIf_load_mid (by rfl) _ _ rfl _ _ rfl _ _ (fun wz hS => hS.rangeAll) hu rfl hiz) (hHeld) ?_
      simp only [Act.put, List.setIfInBounds_toArray, List.set_cons_zero, List.set_cons_succ]
      refine held_one 4 (by kernel_rfl) (by rfl) (fun K' hK' => ?_)
      go_simp
      refine (unhide HAC).mono ?_
      rintro e w3 ⟨rs, rfl, hrs, b3⟩
      refine hK'.out _ _ ((unhide HR2).kept (e2.trans (b3.mono e2.size))) ?_
      clear hK' K'
      have d3 : Below w2.heap.size w2 w3 := e2.trans (b3.mono e2.size)
      have s3r := (unhide HR2).kept d3
      obtain ⟨B1, j1, x1, B2, j2, x2, B3, j3, x3, B4, j4, x4, q20, q21, q22, q23, s1, s2, s3, s4⟩ := hrs.cells
      have hfld := run_field_slice fldBal Sakg.underlying54 rs _ q21
      refine held_takeD 5 (.slice B2 j2 x2) (some 18) (by rfl) (by rfl) (by kernel_rfl) (by kernel_rfl) (by kernel_rfl) (fun _ _ _ h => h) (.inl ⟨by rfl, fun _ _ => by go_simp⟩) (s3r) ?_
      simp only [Act.put, List.setIfInBounds_toArray, List.set_cons_zero, List.set_cons_succ]
      refine held_takeD 6 (.agg (bv a ++ [nilS, .slice B2 j2 x2, nilS, nilS]).toArray) (some 19) (by rfl) (by rfl) (by kernel_rfl) (by kernel_rfl) (by kernel_rfl) (fun _ _ _ h => h) (yieldsIf_build (by rfl) 113 [(0, .tmp 14), (2, .tmp 18)] rfl _ (fun wx => run_acct02 wx a hia B2 j2 x2)) s3r ?_
      simp only [Act.put, List.setIfInBounds_toArray, List.set_cons_zero, List.set_cons_succ]
      have hka : KAcct G w3 (bv a ++ [nilS, .slice B2 j2 x2, nilS, nilS]) { zeroAcct a with bal := (lookY ds a).bal } := ⟨none, 0, 0, B2, j2, x2, none, 0, 0, none, 0, 0, rfl, hia, KNat.nil G _, s2, KSrc.nil G _, KSlots.nil G _⟩
      have HPU := hide (((unhide HCW2).kept d3).put hgood _ _ hka (by show 0 < BIG; have := big_ge; omega) (hgood.lookB a).2)
      clear hrs s1 s2 s3 s4 hfld q20 q21 q22 q23 hka
      refine held_one 7 (by kernel_rfl) (by rfl) (fun K' hK' => ?_)
      go_simp
      refine (unhide HPU).mono ?_
      rintro e w4 ⟨rfl, cs4, hcw4, h84, h44, hch4⟩
      refine hK'.out _ _ (hch4.row s3r (by omega)) ?_
      clear hK' K'
      refine wpAnyH_done (by kernel_rfl) ?_ _
      refine NoPanic.normal ?_
      have hwp4 : WPost G bw cs { d with accts := bareY ds a } w w4 := ⟨cs4, hcw4, fun k hk => (h84 k hk).trans (unhide HS8' k hk), h44.trans (unhide HS4), (unhide HCH).trans ((Chg.of b2).trans ((Chg.of d3).trans hch4))⟩
      have HWP4 := hide hwp4
      have hd4 := hds.bare hia
      have hz4 := sz_bare hds hia
      clear hwp4 hcw4 h84 h44 hch4 s3r
      go_wp2
      go_roundg (l - 1 - i)
      case measure => omega
      case rel => exact ⟨i + 1, _, by omega, by go_num, hd4, by omega, unhide HWP4⟩
    · obtain rfl : i = l := by omega
      go_wp2
      refine bodyPost_done rfl rfl ?_
      exact ⟨rfl, ds, hds, by rw [hlen]; exact hsz, unhide HWP⟩
end

end Go.Proofs.YgcsakGreat
