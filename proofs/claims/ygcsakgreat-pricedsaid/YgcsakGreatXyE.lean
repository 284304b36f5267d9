/-
  law: the run of Priced that is a creation.
-/
import Derived.Test.YgcsakGreatXyD
namespace Go.Proofs.YgcsakGreat
set_option linter.unusedVariables false
set_option linter.unusedSimpArgs false
set_option maxRecDepth 100000
open Go.RowKit

def dataK7 (n : Nat) : List Int := p2Y n ++ [95, 243]
def z7 (n : Nat) : Nat := (if n / 256 = 0 then 1 else 0) + (if n % 256 = 0 then 1 else 0)
theorem intr_k7 (v : List Int) (n : Nat) : intrN (txY true v (dataK7 n)) = 53082 - 12 * z7 n := by
  have hz : zerosN (dataK7 n) = z7 n := by
    have e : zerosN (dataK7 n) = (if (97 : Int) = 0 then 1 else 0) + ((if ((n / 256 : Nat) : Int) = 0 then 1 else 0) + ((if ((n % 256 : Nat) : Int) = 0 then 1 else 0) + ((if (95 : Int) = 0 then 1 else 0) + ((if (243 : Int) = 0 then 1 else 0) + 0)))) := rfl
    rw [e]
    unfold z7
    repeat' split
    all_goals omega
  show 21000 + 4 * zerosN (dataK7 n) + 16 * (5 - zerosN (dataK7 n)) + 0 + (32000 + 2 * ((5 + 31) / 32)) = _
  rw [hz]
  have : z7 n ≤ 2 := by unfold z7; split <;> split <;> omega
  omega
theorem z7_le (n : Nat) : z7 n ≤ 2 := by unfold z7; split <;> split <;> omega
theorem high_k7 {a : List Int} (ha : IsAddr a) (h : AddrIs ([214, 148] ++ lowAddr 240 ++ [128]) a) : High a :=
  ⟨ha, high_ne (high_create (lowAddr_is 240 (by omega) (by omega)) ⟨by omega, by omega⟩ (by decide +kernel) h)⟩
/-- what the creation leaves -/
def MadeK7 (n : Nat) (tg md : List Int) (D : WD) (left : Nat) : Prop := UsedIs (53087 - 12 * z7 n + memN ((n + 31) / 32) + 200 * n) D left ∧ md = tg ∧ High tg ∧ (lookY D.accts tg).nonce = 1 ∧ (lookY D.accts tg).code = zeros n ∧ (lookY D.accts (lowAddr 240)).nonce ≠ 0
theorem run_k7 {bw : Nat} {x : XD} {n : Nat} (hn : n ≤ 256) (hfee : x.fee = zeros 32) (hcoin : x.coin = lowAddr 192) :
    RunsTo bw (stgY [u1Y [] []]) x (txY true (zeros 32) (dataK7 n)) (MadeK7 n) := by
  intro GW W w1 B tg md als D1 htg hta hal hent hg hr
  have hus := ahead1 [] []
  have hp : priceN (txY true (zeros 32) (dataK7 n)) x.fee = 0 := by rw [hfee]; exact price_txY _ _ _
  have hbd : begD (stgY [u1Y [] []]) (txY true (zeros 32) (dataK7 n)) (priceN (txY true (zeros 32) (dataK7 n)) x.fee) als = bDY [u1Y [] []] als := by
    rw [hp]
    unfold begD bDY
    rw [begA_stg hus]
    rfl
  rw [hbd] at hg hent
  have hm := memN_130 ((n + 31) / 32) (by omega)
  have hz7 := z7_le n
  obtain ⟨htg1, hmd⟩ : AddrIs ([214, 148] ++ lowAddr 240 ++ [128]) tg ∧ md = tg := by
    rcases htg with ⟨h1, -⟩ | ⟨-, h2, h3⟩
    · cases h1
    · exact ⟨h2, h3⟩
  have hhi := high_k7 hta htg1
  obtain ⟨ms, hD1⟩ : ∃ ms, D1 = { bDY [u1Y [] []] als with accts := nonY ([u1Y [] []] ++ [s1Y]) tg 1, made := ms } := by
    rcases hent with ⟨h1, -⟩ | ⟨-, ms, h2⟩
    · cases h1
    · exact ⟨ms, h2⟩
  have hout : outD (stgY [u1Y [] []]) x (txY true (zeros 32) (dataK7 n)) tg als D1 = D1 := by
    unfold outD
    show ({ D1 with accts := moveY D1.accts (lowAddr 240) tg (beN (zeros 32)) } : WD) = D1
    rw [beN_zeros, move_zero]
  rw [hout] at hr
  have hgD1 := hr.good
  -- the accounts
  have e0 : lookY ([u1Y [] []] ++ [s1Y]) tg = zeroAcct tg := look_high hhi (low_two [] [])
  have hacc : D1.accts = nonY ([u1Y [] []] ++ [s1Y]) tg 1 := by rw [hD1]
  have hgb : GoodD B ([u1Y [] []] ++ [s1Y]) := hg.acc
  have hl1 : lookY D1.accts tg = { zeroAcct tg with nonce := 1 } := by
    rw [hacc]
    unfold nonY
    rw [e0]
    exact putY_look (d := { zeroAcct tg with nonce := 1 }) hta hgb.srt hgb.addr (.inl (by show (1 : Nat) ≠ 0; decide))
  have hl2 : lookY D1.accts (lowAddr 240) = s1Y := by
    rw [hacc]
    unfold nonY
    rw [e0]
    exact (lookY_putY _ { zeroAcct tg with nonce := 1 } _ (fun e => hhi.2 240 e)).trans rfl
  obtain ⟨g, hgv⟩ : ∃ g, g = 200000 - (53082 - 12 * z7 n) := ⟨_, rfl⟩
  obtain ⟨sv, hsv⟩ : ∃ sv, sv = bDY [u1Y [] []] als := ⟨_, rfl⟩
  have hfr : outFr (stgY [u1Y [] []]) x (txY true (zeros 32) (dataK7 n)) tg als = at4 { outerF 0 (beN (zeros 32)) tg (lowAddr 240) with kind := 1, code := dataK7 n, saved := sv } g 0 [] 0 := by
    have hb : begF (stgY [u1Y [] []]) (txY true (zeros 32) (dataK7 n)) (priceN (txY true (zeros 32) (dataK7 n)) x.fee) tg = { outerF (200000 - intrN (txY true (zeros 32) (dataK7 n))) (beN (zeros 32)) tg (lowAddr 240) with kind := 1, code := dataK7 n } := rfl
    unfold outFr
    rw [hb, intr_k7, hbd, hsv, hgv]
    rfl
  rw [hfr] at hr
  refine ⟨3, ?_⟩
  refine goX_push hr 97 (by omega) (by omega) rfl n (p2Y_val n [] _ (.inl rfl)) 3 rfl (by omega) (by simp) (by omega) (fun w2 h2 => ?_)
  refine goX_push h2 95 (by omega) (by omega) rfl 0 rfl 2 rfl (by omega) (by simp) (by decide) (fun w3 h3 => ?_)
  have hrc : reachA 243 [n, 0] = n := end_zero n
  have hwt := h3.wtle
  have hself : (at4 { outerF 0 (beN (zeros 32)) tg (lowAddr 240) with kind := 1, code := dataK7 n, saved := sv } (g - 3 - 2) (0 + 1 + immA 97 + 1 + immA 95) ([] ++ [n] ++ [0]) 0).self = tg := rfl
  have hlv : Gr B D1 (lvD true 0 n (zeros n) D1 tg) 10000 := by
    unfold lvD
    split
    · rename_i hh
      exact (Gr.code hgD1.snd hta (xs := zeros n) (by rw [zeros_len]; omega) (fun e => hh.2.2 (by have h2 := congrArg List.length e; rw [zeros_len] at h2; exact h2))).mono (by omega)
    · exact Gr.refl hgD1.snd _
  have hl3 : lookY (lvD true 0 n (zeros n) D1 tg).accts tg = ⟨tg, 1, 0, zeros n, []⟩ := by
    unfold lvD
    split
    · show lookY (putY D1.accts { lookY D1.accts tg with code := zeros n }) tg = _
      rw [hl1]
      exact putY_look (d := ⟨tg, 1, 0, zeros n, []⟩) hta hgD1.acc.srt hgD1.acc.addr (.inl (by show (1 : Nat) ≠ 0; decide))
    · rename_i hh
      have h0 : n = 0 := by
        rcases Nat.eq_zero_or_pos n with h | h
        · exact h
        · exact absurd ⟨rfl, rfl, by omega⟩ hh
      rw [hl1, h0]
      rfl
  have hl4 : lookY (lvD true 0 n (zeros n) D1 tg).accts (lowAddr 240) = s1Y := by
    unfold lvD
    split
    · show lookY (putY D1.accts { lookY D1.accts tg with code := zeros n }) (lowAddr 240) = _
      rw [hl1]
      exact (lookY_putY _ (⟨tg, 1, 0, zeros n, []⟩ : YAcct) _ (fun e => hhi.2 240 e)).trans hl2
    · exact hl2
  have hgone : (lvD true 0 n (zeros n) D1 tg).gone = [] ∧ (lvD true 0 n (zeros n) D1 tg).refund = 0 := by
    unfold lvD
    split <;> (rw [hD1]; exact ⟨rfl, rfl⟩)
  have hwl := hlv.wtle
  refine run_ret_outer (n := memN ((n + 31) / 32)) (l := n) (K' := 5000000) h3 rfl rfl rfl (by show reachA 243 [n, 0] ≤ 900000; omega) ?_ (by show memN ((n + 31) / 32) + 200 * n ≤ g - 3 - 2; omega) hn (by show 2 ≤ 2; omega) ?_ ?_ (by omega) (fun w4 h4 => ?_)
  · show costB 243 [n, 0] 0 0 = _
    rw [costB_new hrc]
    omega
  · rw [hself]
    exact hlv.good (K := 2250000000) (by omega) (Nat.le_refl _)
  · rw [hself]
    omega
  · rw [hself] at h4
    refine ⟨_, _, ⟨used_plain hgone.2 ?_, hmd, hhi, by rw [hl3], by rw [hl3], by rw [hl4]; decide⟩, hgone.1, ?_, h4⟩
    · show g - 3 - 2 - memN ((n + 31) / 32) - 200 * n + (53087 - 12 * z7 n + memN ((n + 31) / 32) + 200 * n) = 200000
      omega
    · show g - 3 - 2 - memN ((n + 31) / 32) - 200 * n ≤ 200000
      omega

end Go.Proofs.YgcsakGreat
