/-
  law: plain: the worlds behind the rows of Priced.
-/
import Derived.Test.YgcsakGreatLpJ
import Derived.Test.YgcsakGreatLcE
namespace Go.Proofs.YgcsakGreat
set_option linter.unusedVariables false
set_option linter.unusedSimpArgs false
set_option maxRecDepth 100000
open Go.RowKit

theorem lookO_outs : ∀ {ds : List YAcct}, Srt ds → ∀ a, lookO (outs ds) a = if emptyY (lookY ds a) = true then zeroOA a else outA (lookY ds a)
  | [], _, a => rfl
  | d :: ds, h, a => by
    have h' := List.pairwise_cons.1 h
    have ho : outs (d :: ds) = (if emptyY d = true then [] else [outA d]) ++ outs ds := by
      unfold outs
      cases he : emptyY d <;> simp [he]
    rw [ho]
    by_cases hda : d.addr = a
    · rw [lookY_cons_eq hda]
      by_cases he : emptyY d = true
      · rw [if_pos he, if_pos he, List.nil_append]
        refine lookO_none _ _ (fun o hm => ?_)
        obtain ⟨x, hx, -, rfl⟩ := outs_mem hm
        have := before_ne (h'.1 x hx)
        rw [outA_addr, ← hda]
        exact fun e => this e.symm
      · rw [if_neg he, if_neg he]
        show lookO (outA d :: outs ds) a = _
        rw [lookO, if_pos (by rw [outA_addr]; exact hda)]
    · rw [lookY_cons_ne hda, ← lookO_outs h'.2 a]
      by_cases he : emptyY d = true
      · rw [if_pos he]
        rfl
      · rw [if_neg he]
        show lookO (outA d :: outs ds) a = _
        rw [lookO, if_neg (by rw [outA_addr]; exact hda)]
/-- the accounts once the transaction is settled at no price -/
def finS (S : List YAcct) : List YAcct := balY (balY S (lowAddr 240) (lookY S (lowAddr 240)).bal) (lowAddr 192) (lookY (balY S (lowAddr 240) (lookY S (lowAddr 240)).bal) (lowAddr 192)).bal
theorem finA_stg {us : List YAcct} {tot left : Nat} {cr : Bool} {v data md rt : List Int} {D : WD} : finA D (endedX (stgY us) (xS tot) (txY cr v data) md rt left) = finS D.accts := by
  have hp : priceN (txY cr v data) (xS tot).fee = 0 := price_txY _ _ _
  have e1 : (endedX (stgY us) (xS tot) (txY cr v data) md rt left).price = 0 := hp
  have e2 : (endedX (stgY us) (xS tot) (txY cr v data) md rt left).origin = lowAddr 240 := rfl
  have e3 : (endedX (stgY us) (xS tot) (txY cr v data) md rt left).coin = lowAddr 192 := rfl
  unfold finA finS
  rw [e1, e2, e3]
  simp only [Nat.mul_zero, Nat.add_zero, Nat.zero_sub]
theorem finS_look {S : List YAcct} {b : List Int} (h1 : b ≠ lowAddr 240) (h2 : b ≠ lowAddr 192) : lookY (finS S) b = lookY S b := by
  unfold finS balY
  rw [lookY_putY _ _ _ (fun e => h2 (e.symm.trans (lookY_addr _ _))), lookY_putY _ _ _ (fun e => h1 (e.symm.trans (lookY_addr _ _)))]
theorem finS_mem {S : List YAcct} {x : YAcct} (h : x ∈ finS S) (hx : emptyY x = false) (hc : lookY S (lowAddr 192) = zeroAcct (lowAddr 192)) : x.addr = lowAddr 240 ∨ x ∈ S := by
  have hl : lookY (balY S (lowAddr 240) (lookY S (lowAddr 240)).bal) (lowAddr 192) = zeroAcct (lowAddr 192) := by
    unfold balY
    rw [lookY_putY _ _ _ (fun e => absurd (e.symm.trans (lookY_addr _ _)) (by decide))]
    exact hc
  unfold finS at h
  rw [hl] at h
  rcases putY_mem _ _ _ h with rfl | h
  · rw [hl] at hx
    exact absurd hx (by decide)
  · rcases putY_mem _ _ _ h with rfl | h
    · exact .inl (lookY_addr _ _)
    · exact .inr h
theorem fin4 : (lookO (outs (finS accE4)) (lowAddr 153)).bal = zeros 31 ++ [1] := by decide +kernel
theorem fin5 : (outs (finS [u4Y, s1Y])).length = 2 ∧ (lookO (outs (finS [u4Y, s1Y])) (lowAddr 153)).bal = zeros 32 := by decide +kernel
theorem fin7 {tg : List Int} {n : Nat} {S : List YAcct} (hhi : High tg) (h1 : (lookY S tg).nonce = 1) (h2 : (lookY S tg).code = zeros n) (hs : Srt (finS S)) : (lookO (outs (finS S)) tg).code = zeros n := by
  rw [lookO_outs hs, finS_look (hhi.2 240) (hhi.2 192)]
  have he : emptyY (lookY S tg) = false := by
    unfold emptyY
    rw [h1]
    rfl
  rw [he]
  exact h2
theorem look_made {a c : List Int} (h : High a) : lookY (nonY [u1Y c [], s1Y] (lowAddr 1) 2) a = zeroAcct a := by
  have hne : ¬ ({ lookY [u1Y c [], s1Y] (lowAddr 1) with nonce := 2 } : YAcct).addr = a := fun e => h.2 1 (e.symm.trans (lookY_addr _ _))
  exact (lookY_putY _ _ _ hne).trans (look_high h (low_two c []))
theorem made_mem {a c : List Int} (h : High a) {x : YAcct} (hx : x ∈ nonY (nonY [u1Y c [], s1Y] (lowAddr 1) 2) a 1) : x = ⟨a, 1, 0, [], []⟩ ∨ x.addr = lowAddr 1 ∨ x.addr = lowAddr 240 := by
  unfold nonY at hx
  rcases putY_mem _ _ _ hx with rfl | hx
  · left
    show ({ lookY (nonY [u1Y c [], s1Y] (lowAddr 1) 2) a with nonce := 1 } : YAcct) = _
    rw [look_made h]
    rfl
  · right
    rcases putY_mem _ _ _ hx with rfl | hx
    · exact .inl (lookY_addr _ _)
    · rcases List.mem_cons.mp hx with rfl | hx
      · exact .inl rfl
      · rw [List.mem_singleton.mp hx]
        exact .inr rfl
theorem made_192 {a c : List Int} (h : High a) : lookY (nonY (nonY [u1Y c [], s1Y] (lowAddr 1) 2) a 1) (lowAddr 192) = zeroAcct (lowAddr 192) := by
  have h1 : lookY (nonY (nonY [u1Y c [], s1Y] (lowAddr 1) 2) a 1) (lowAddr 192) = lookY (nonY [u1Y c [], s1Y] (lowAddr 1) 2) (lowAddr 192) := lookY_putY _ _ _ (fun e => h.2 192 (by have := lookY_addr a (nonY [u1Y c [], s1Y] (lowAddr 1) 2); exact this.symm.trans e))
  have h2 : lookY (nonY [u1Y c [], s1Y] (lowAddr 1) 2) (lowAddr 192) = lookY [u1Y c [], s1Y] (lowAddr 192) := lookY_putY _ _ _ (fun e => absurd (e.symm.trans (lookY_addr (lowAddr 1) [u1Y c [], s1Y])) (by decide))
  rw [h1, h2]
  rfl
/-- an account that a creation has made -/
def newO (o : OAcct) : Bool := decide (o.addr ≠ lowAddr 1 ∧ o.addr ≠ lowAddr 240)
theorem newO_iff {o : OAcct} : newO o = true ↔ o.addr ≠ lowAddr 1 ∧ o.addr ≠ lowAddr 240 := by unfold newO; rw [decide_eq_true_iff]
theorem fin9 {a c : List Int} (h : High a) {F : List YAcct} (hF : F = finS (nonY (nonY [u1Y c [], s1Y] (lowAddr 1) 2) a 1)) (hs : Srt F) :
    (∀ o ∈ outs F, newO o = true → o.nonce = 1 ∧ o.code = []) ∧ ((outs F).filter newO).length = 1 := by
  have hone : ∀ o ∈ outs F, newO o = true → o = outA ⟨a, 1, 0, [], []⟩ := by
    intro o ho hn
    obtain ⟨h1, h2⟩ := newO_iff.mp hn
    obtain ⟨x, hx, he, rfl⟩ := outs_mem ho
    rw [outA_addr] at h1 h2
    rw [hF] at hx
    rcases finS_mem hx he (made_192 h) with h3 | h3
    · exact absurd h3 h2
    · rcases made_mem h h3 with rfl | h4 | h4
      · rfl
      · exact absurd h4 h1
      · exact absurd h4 h2
  refine ⟨fun o ho hn => by rw [hone o ho hn]; exact ⟨rfl, rfl⟩, ?_⟩
  have hin : outA ⟨a, 1, 0, [], []⟩ ∈ outs F := by
    have hl : lookY F a = ⟨a, 1, 0, [], []⟩ := by
      rw [hF, finS_look (h.2 240) (h.2 192)]
      show lookY (putY (nonY [u1Y c [], s1Y] (lowAddr 1) 2) { lookY (nonY [u1Y c [], s1Y] (lowAddr 1) 2) a with nonce := 1 }) a = _
      rw [look_made h]
      have hg1 : ∀ y ∈ nonY [u1Y c [], s1Y] (lowAddr 1) 2, IsAddr y.addr := by
        intro y hy
        unfold nonY at hy
        rcases putY_mem _ _ _ hy with rfl | hy
        · exact lookY_isAddr _ _ (lowAddr_is 1 (by omega) (by omega))
        · rcases List.mem_cons.mp hy with rfl | hy
          · exact lowAddr_is 1 (by omega) (by omega)
          · rw [List.mem_singleton.mp hy]
            exact lowAddr_is 240 (by omega) (by omega)
      have hs0 : Srt [u1Y c [], s1Y] := by
        refine List.pairwise_cons.2 ⟨fun y hy => ?_, List.pairwise_singleton _ _⟩
        rw [List.mem_singleton.mp hy]
        show beforeB (lowAddr 1) (lowAddr 240) = true
        decide +kernel
      have ha0 : ∀ y ∈ [u1Y c [], s1Y], IsAddr y.addr := by
        intro y hy
        rcases List.mem_cons.mp hy with rfl | hy
        · exact lowAddr_is 1 (by omega) (by omega)
        · rw [List.mem_singleton.mp hy]
          exact lowAddr_is 240 (by omega) (by omega)
      have hs1 : Srt (nonY [u1Y c [], s1Y] (lowAddr 1) 2) := putY_srt (lookY_isAddr _ _ (lowAddr_is 1 (by omega) (by omega))) hs0 ha0
      exact putY_look (d := ⟨a, 1, 0, [], []⟩) h.1 hs1 hg1 (.inl (by show (1 : Nat) ≠ 0; decide))
    have hm : (⟨a, 1, 0, [], []⟩ : YAcct) ∈ F := by
      rcases lookY_mem F a with hm | hm
      · rw [hl] at hm
        exact hm
      · rw [hl] at hm
        exact absurd (show (1 : Nat) = 0 from congrArg YAcct.nonce hm) (by decide)
    unfold outs
    exact List.mem_map.2 ⟨_, List.mem_filter.2 ⟨hm, rfl⟩, rfl⟩
  have hnew : newO (outA ⟨a, 1, 0, [], []⟩) = true := newO_iff.mpr ⟨h.2 1, h.2 240⟩
  have hpw : ((outs F).filter newO).Pairwise (fun x y => x.addr ≠ y.addr) := by
    have h1 : (outs F).Pairwise (fun x y => x.addr ≠ y.addr) := by
      unfold outs
      rw [List.pairwise_map]
      exact (List.Pairwise.filter _ hs).imp (fun hh => before_ne hh)
    exact List.Pairwise.filter _ h1
  have hall : ∀ o ∈ (outs F).filter newO, o = outA ⟨a, 1, 0, [], []⟩ := fun o ho => by
    obtain ⟨h1, h2⟩ := List.mem_filter.1 ho
    exact hone o h1 h2
  have hmem : outA ⟨a, 1, 0, [], []⟩ ∈ (outs F).filter newO := List.mem_filter.2 ⟨hin, hnew⟩
  match hL : (outs F).filter newO, hpw, hall, hmem with
  | [], _, _, hmem => cases hmem
  | [_], _, _, _ => rfl
  | x :: y :: l, hpw, hall, _ =>
    have h1 := (List.pairwise_cons.1 hpw).1 y (List.mem_cons_self ..)
    rw [hall x (List.mem_cons_self ..), hall y (List.mem_cons_of_mem _ (List.mem_cons_self ..))] at h1
    exact absurd rfl h1

end Go.Proofs.YgcsakGreat
