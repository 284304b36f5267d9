/-
  rlp.Split: one contract.
-/
import Derived.Test.YgcsakSplitWays
namespace Go.Proofs.Ygcsak
set_option linter.unusedVariables false
set_option linter.unusedSimpArgs false
open Go.RowKit

def shortOf (x : Nat) : Nat := if 192 ≤ x then 192 else 128

def splitP (xs : List Int) : Option (Bool × List Int × List Int) :=
  if xs.length = 0 then none
  else if xs.getD 0 0 < 128 then some (false, xs.take 1, xs.drop 1)
  else
    let x := (xs.getD 0 0).toNat
    let s := sizeP xs (x - shortOf x)
    if s.2.2 = false ∨ xs.length < s.2.1 + s.1 then none
    else if x < 192 ∧ s.1 = 1 ∧ xs.getD s.2.1 0 < 128 then none
    else some (decide (192 ≤ x), (xs.drop s.2.1).take s.1, xs.drop (s.2.1 + s.1))

/-- the world is as it was, but for draws -/
def Calm (w w' : World) : Prop := w' = w ∨ w' = w.drew

theorem Calm.below {w w' : World} (h : Calm w w') (B : Nat) : Below B w w' := by
  rcases h with rfl | rfl
  · exact Below.refl _ _
  · exact (Below.refl _ _).drew

theorem Calm.src {w w' : World} (h : Calm w w') {a : Option Addr} {len cap : Nat} {xs : List Int} (s : Src w a len cap xs) : Src w' a len cap xs := s.kept (h.below _)

/-- what Split answers -/
def SplitEnds (xs : List Int) (w : World) (e : Ending) (w' : World) : Prop :=
  Calm w w' ∧
  match splitP xs with
  | none => e = .returned (.tuple #[.bool false, .slice none 0 0, .slice none 0 0, .bool false])
  | some (li, c, r) => ∃ a1 c1 a2 c2, e = .returned (.tuple #[.bool li, .slice a1 c.length c1, .slice a2 r.length c2, .bool true]) ∧ Src w' a1 c.length c1 c ∧ Src w' a2 r.length c2 r

theorem sizeP_at (xs : List Int) (n : Nat) (h : (sizeP xs n).2.2 = true) : 1 ≤ (sizeP xs n).2.1 ∧ (sizeP xs n).2.1 ≤ 8 := by
  unfold sizeP at *
  split
  · simp
  · rename_i h1
    rw [if_neg h1] at h
    split
    · rename_i h2; rw [if_pos h2] at h; simp at h
    · simp; omega

/-- content and rest out of the walks' addresses -/
theorem split_parts {w : World} {b off len cap : Nat} {xs : List Int} (h : Src w (some ⟨b, off, none⟩) len cap xs) (at_ sz : Nat) (hle : at_ + sz ≤ len) :
    Src w (if sz = 0 then some ⟨b, off, none⟩ else some ⟨b, off + at_, none⟩) sz sz ((xs.drop at_).take sz) ∧
    Src w (if cap = at_ + sz then some ⟨b, off, none⟩ else some ⟨b, off + (at_ + sz), none⟩) (len - (at_ + sz)) (cap - (at_ + sz)) (xs.drop (at_ + sz)) := by
  have hl := h.len_eq
  have hc := h.le
  have h1 := h.sub at_ (at_ + sz) (at_ + sz) (by omega) (by omega) (by omega) (by omega)
  have h2 := h.sub (at_ + sz) len cap hle (Nat.le_refl _) hc (Nat.le_refl _)
  rw [show at_ + sz - at_ = sz from by omega] at h1
  rw [List.take_of_length_le (by simp; omega)] at h2
  refine ⟨?_, h2⟩
  by_cases hz : sz = 0
  · rw [if_pos (by omega)] at h1
    rw [if_pos hz]
    exact h1
  · rw [if_neg (by omega)] at h1
    rw [if_neg hz]
    exact h1

theorem split_any (ao : Option Addr) (len cap : Nat) (xs : List Int) (w : World) (hs : Src w ao len cap xs) (hm : len ≤ 140737488355328) :
    Calls Sakg.prog 12 #[.slice ao len cap] w (SplitEnds xs w) := by
  have hlen := hs.len_eq
  have hle := hs.le
  have hmx := hs.max
  unfold maxLen at hmx
  by_cases h0 : len = 0
  · subst h0
    refine (split_nil ao cap w).mono ?_
    rintro e w' ⟨rfl, rfl⟩
    unfold SplitEnds
    refine ⟨.inl rfl, ?_⟩
    rw [show splitP xs = none from by unfold splitP; rw [if_pos hlen]]
  obtain ⟨b, off, rfl, hc⟩ := hs.at_ (by omega)
  have hx := hs.byt.get 0
  have hc0 : w.cell? ⟨b, off, none⟩ = some (.int .u8 (xs.getD 0 0)) := by simpa using hc 0 (by omega)
  by_cases hlo : xs.getD 0 0 < 128
  · have hp : splitP xs = some (false, xs.take 1, xs.drop 1) := by unfold splitP; rw [if_neg (by omega), if_pos hlo]
    refine (split_small b off len cap (xs.getD 0 0) _ w (by omega) hle hs.max hc0 hx.1 hlo rfl).mono ?_
    rintro e w' ⟨rfl, rfl⟩
    have hcalm : Calm w w.drew := .inr rfl
    refine ⟨hcalm, ?_⟩
    rw [hp]
    have h1 := hs.sub 0 1 1 (by omega) (by omega) (by omega) (by omega)
    have h2 := hs.sub 1 len cap (by omega) (Nat.le_refl _) hle (Nat.le_refl _)
    rw [List.take_of_length_le (by simp; omega)] at h2
    have e1 : (xs.take 1).length = 1 := by simp; omega
    have e2 : (xs.drop 1).length = len - 1 := by simp; omega
    simp only [e1, e2]
    exact ⟨_, _, _, _, rfl, hcalm.src (by simpa using h1), hcalm.src h2⟩
  obtain ⟨x, hxe⟩ : ∃ x : Nat, xs.getD 0 0 = (x : Int) := ⟨(xs.getD 0 0).toNat, by omega⟩
  rw [hxe] at hc0 hx hlo
  have hx1 : 128 ≤ x := by omega
  have hx2 : x < 256 := by omega
  have hS := size_any (some ⟨b, off, none⟩) len cap (x - shortOf x) xs w (by omega) hm hs
  have hp : splitP xs = (if (sizeP xs (x - shortOf x)).2.2 = false ∨ xs.length < (sizeP xs (x - shortOf x)).2.1 + (sizeP xs (x - shortOf x)).1 then none
    else if x < 192 ∧ (sizeP xs (x - shortOf x)).1 = 1 ∧ xs.getD (sizeP xs (x - shortOf x)).2.1 0 < 128 then none
    else some (decide (192 ≤ x), (xs.drop (sizeP xs (x - shortOf x)).2.1).take (sizeP xs (x - shortOf x)).1, xs.drop ((sizeP xs (x - shortOf x)).2.1 + (sizeP xs (x - shortOf x)).1))) := by
    unfold splitP
    rw [if_neg (by omega), hxe, if_neg hlo]
    rfl
  have hat := sizeP_at xs (x - shortOf x)
  have hcast : ((x - shortOf x : Nat) : Int) = (x : Int) - (if 192 ≤ x then 192 else 128) := by
    unfold shortOf
    split <;> omega
  rw [hcast] at hS
  obtain ⟨sz, at_, ok, hr⟩ : ∃ sz at_ ok, sizeP xs (x - shortOf x) = (sz, at_, ok) := ⟨_, _, _, rfl⟩
  rw [hr] at hS hp hat
  simp only at hp hat
  unfold sizeV at hS
  simp only at hS
  cases ok with
  | false =>
    rw [if_pos (Or.inl rfl)] at hp
    refine (split_bad_size b off len cap x sz at_ w (by omega) hc0 hx1 hx2 hS).mono ?_
    rintro e w' ⟨rfl, rfl⟩
    refine ⟨.inl rfl, ?_⟩
    rw [hp]
  | true =>
    have hat8 := (hat rfl).2
    by_cases hlong : len < at_ + sz
    · rw [if_pos (Or.inr (by omega))] at hp
      refine (split_too_long b off len cap x sz at_ w (by omega) hc0 hx1 hx2 hlong hat8 hm hS).mono ?_
      rintro e w' ⟨rfl, rfl⟩
      refine ⟨.inl rfl, ?_⟩
      rw [hp]
    · rw [if_neg (by simp; omega)] at hp
      have hfit : at_ + sz ≤ len := by omega
      have hparts := split_parts hs at_ sz hfit
      -- the good ending
      have good : ∀ (li : Bool) (A B : Option Addr) (n c : Nat), splitP xs = some (li, (xs.drop at_).take sz, xs.drop (at_ + sz)) → A = (if sz = 0 then some ⟨b, off, none⟩ else some ⟨b, off + at_, none⟩) →
          B = (if cap = at_ + sz then some ⟨b, off, none⟩ else some ⟨b, off + (at_ + sz), none⟩) → n = len - (at_ + sz) → c = cap - (at_ + sz) →
          SplitEnds xs w (.returned (.tuple #[.bool li, .slice A sz sz, .slice B n c, .bool true])) w.drew := by
        intro li A B n c h1 hA hB hn hcc
        have hcalm : Calm w w.drew := .inr rfl
        refine ⟨hcalm, ?_⟩
        rw [h1]
        have e1 : ((xs.drop at_).take sz).length = sz := by simp; omega
        have e2 : (xs.drop (at_ + sz)).length = len - (at_ + sz) := by simp; omega
        simp only [e1, e2]
        subst hA hB hn hcc
        exact ⟨_, _, _, _, rfl, hcalm.src hparts.1, hcalm.src hparts.2⟩
      by_cases hli : 192 ≤ x
      · rw [if_pos hli] at hS
        rw [if_neg (by omega), decide_eq_true hli] at hp
        by_cases hz : sz = 0
        · subst hz
          by_cases hcp : cap = at_
          · subst hcp
            obtain rfl : len = cap := by omega
            refine (split_list_ze b off x len w (by omega) hc0 hli hx2 hat8 hm hS).mono ?_
            rintro e w' ⟨rfl, rfl⟩
            exact good true _ _ _ _ hp (by simp) (by simp) (by simp) (by simp)
          · refine (split_list_zn b off len cap x at_ w (by omega) hle hmx (by omega) hc0 hli hx2 hat8 hm hcp hS).mono ?_
            rintro e w' ⟨rfl, rfl⟩
            exact good true _ _ _ _ hp (by simp) (by simp [hcp]) (by simp) (by simp)
        · by_cases hcp : cap = at_ + sz
          · subst hcp
            obtain rfl : len = at_ + sz := by omega
            refine (split_list_pe b off x sz at_ w (by omega) hc0 hli hx2 hat8 hm (by omega) hS).mono ?_
            rintro e w' ⟨rfl, rfl⟩
            exact good true _ _ _ _ hp (by simp [hz]) (by simp) (by simp) (by simp)
          · refine (split_list_pn b off len cap x sz at_ w (by omega) hle hmx (by omega) hc0 hli hx2 hat8 hm hcp (by omega) hS).mono ?_
            rintro e w' ⟨rfl, rfl⟩
            exact good true _ _ _ _ hp (by simp [hz]) (by simp [hcp]) (by simp) (by simp)
      · rw [if_neg hli] at hS
        by_cases hz : sz = 0
        · rw [if_neg (by omega), decide_eq_false hli] at hp
          subst hz
          by_cases hcp : cap = at_
          · subst hcp
            obtain rfl : len = cap := by omega
            refine (split_str_ze b off x len w (by omega) hc0 hx1 (by omega) hat8 hm hS).mono ?_
            rintro e w' ⟨rfl, rfl⟩
            exact good false _ _ _ _ hp (by simp) (by simp) (by simp) (by simp)
          · refine (split_str_zn b off len cap x at_ w (by omega) hle hmx (by omega) hc0 hx1 (by omega) hat8 hm hcp hS).mono ?_
            rintro e w' ⟨rfl, rfl⟩
            exact good false _ _ _ _ hp (by simp) (by simp [hcp]) (by simp) (by simp)
        · by_cases h1 : sz = 1
          · subst h1
            have hy := hs.byt.get at_
            have hcy := hc at_ (by omega)
            by_cases hyl : xs.getD at_ 0 < 128
            · rw [if_pos ⟨by omega, rfl, hyl⟩] at hp
              by_cases hcp : cap = at_ + 1
              · subst hcp
                obtain rfl : len = at_ + 1 := by omega
                refine (split_one_le b off x at_ w (by omega) hc0 hx1 (by omega) hat8 hm _ hcy hy.1 hyl hS).mono ?_
                rintro e w' ⟨rfl, rfl⟩
                refine ⟨.inl rfl, ?_⟩
                rw [hp]
              · refine (split_one_ln b off len cap x at_ w (by omega) hle hmx (by omega) hc0 hx1 (by omega) hat8 hm hcp _ hcy hy.1 hyl hS).mono ?_
                rintro e w' ⟨rfl, rfl⟩
                refine ⟨.inl rfl, ?_⟩
                rw [hp]
            · rw [if_neg (by rintro ⟨_, _, h⟩; exact hyl h), decide_eq_false hli] at hp
              by_cases hcp : cap = at_ + 1
              · subst hcp
                obtain rfl : len = at_ + 1 := by omega
                refine (split_one_he b off x at_ w (by omega) hc0 hx1 (by omega) hat8 hm _ hcy hy.1 (by omega) hS).mono ?_
                rintro e w' ⟨rfl, rfl⟩
                exact good false _ _ _ _ hp (by simp) (by simp) (by simp) (by simp)
              · refine (split_one_hn b off len cap x at_ w (by omega) hle hmx (by omega) hc0 hx1 (by omega) hat8 hm hcp _ hcy hy.1 (by omega) hS).mono ?_
                rintro e w' ⟨rfl, rfl⟩
                exact good false _ _ _ _ hp (by simp) (by simp [hcp]) (by simp) (by simp)
          · rw [if_neg (by omega), decide_eq_false hli] at hp
            by_cases hcp : cap = at_ + sz
            · subst hcp
              obtain rfl : len = at_ + sz := by omega
              refine (split_str_pe b off x sz at_ w (by omega) hc0 hx1 (by omega) hat8 hm (by omega) h1 hS).mono ?_
              rintro e w' ⟨rfl, rfl⟩
              exact good false _ _ _ _ hp (by simp [hz]) (by simp) (by simp) (by simp)
            · refine (split_str_pn b off len cap x sz at_ w (by omega) hle hmx (by omega) hc0 hx1 (by omega) hat8 hm hcp (by omega) h1 hS).mono ?_
              rintro e w' ⟨rfl, rfl⟩
              exact good false _ _ _ _ hp (by simp [hz]) (by simp [hcp]) (by simp) (by simp)

end Go.Proofs.Ygcsak
