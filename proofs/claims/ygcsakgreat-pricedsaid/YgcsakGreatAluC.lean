/-
  yp: bitwise, shifted.
-/
import Derived.Test.YgcsakGreatAluB
namespace Go.Proofs.YgcsakGreat
set_option linter.unusedVariables false
set_option linter.unusedSimpArgs false
set_option maxRecDepth 100000
open Go.RowKit

def digN (m i : Nat) : Nat := m / 256 ^ i % 256
theorem digN_lt (m i : Nat) : digN m i < 256 := Nat.mod_lt _ (by omega)
def bd (o : Nat) (x y : Int) : Int := if o = 22 then bits .and .u8 x y else if o = 23 then bits .or .u8 x y else if o = 24 then bits .xor .u8 x y else bits .xor .u8 IntKind.u8.max x
theorem bits_range (op : BinOp) (x y : Int) : 0 ≤ bits op .u8 x y ∧ bits op .u8 x y ≤ 255 := by
  unfold bits
  rw [IntKind.wrap_u8]
  omega
theorem bd_range (o : Nat) (x y : Nat) (hx : x < 256) : 0 ≤ bd o x y ∧ bd o x y ≤ 255 := by
  unfold bd
  split
  · exact bits_range _ _ _
  · split
    · exact bits_range _ _ _
    · split <;> exact bits_range _ _ _
def bwL (o a b : Nat) : List Int := (List.range 32).map fun i => bd o (digN a i) (digN b i)
def bwN (o a b : Nat) : Nat := val (bwL o a b)
theorem bwL_len (o a b : Nat) : (bwL o a b).length = 32 := by simp [bwL]
theorem bwL_byt (o a b : Nat) : Byt (bwL o a b) := by
  intro x hx
  obtain ⟨i, _, rfl⟩ := List.mem_map.1 hx
  exact bd_range o _ _ (digN_lt a i)
theorem bwL_get (o a b i : Nat) (h : i < 32) : (bwL o a b).getD i 0 = bd o (digN a i) (digN b i) := by
  simp [bwL, List.getD, h]
theorem bwN_lt (o a b : Nat) : bwN o a b < P256 := by
  have := val_lt (bwL o a b) (bwL_byt o a b)
  rw [bwL_len] at this
  exact this
theorem digN_big {m la i : Nat} (h : m < 256 ^ la) (hi : la ≤ i) : digN m i = 0 := by
  unfold digN
  rw [Nat.div_eq_of_lt (Nat.lt_of_lt_of_le h (Nat.pow_le_pow_right (by omega) hi))]
theorem IsNat.lt_len {w : World} {a : Option Addr} {la ca m : Nat} (h : IsNat w a la ca m) : m < 256 ^ la := by
  obtain ⟨xs, h1, h2, rfl, h4⟩ := h
  have := val_lt xs h1.byt
  rwa [h1.len_eq] at this
/-- a digit's cell -/
theorem IsNat.digit {w : World} {a : Option Addr} {la ca m : Nat} (h : IsNat w a la ca m) (i : Nat) (hi : i < la) : ∃ b off, a = some ⟨b, off, none⟩ ∧ b < w.heap.size ∧ w.cell? ⟨b, off + i, none⟩ = some (.int .u8 (digN m i)) := by
  obtain ⟨xs, h1, h2, rfl, h4⟩ := h
  obtain ⟨b, off, e, hc⟩ := h1.at_ (by omega)
  refine ⟨b, off, e, h1.lt _ e (by omega), ?_⟩
  have hd := dig_at xs i h1.byt (by rw [h1.len_eq]; exact hi)
  have hx := h1.byt (xs.getD i 0) (by rw [List.getD_eq_getElem?_getD, List.getElem?_eq_getElem (by rw [h1.len_eq]; exact hi)]; simp)
  rw [hc i hi]
  unfold digN
  rw [hd]
  congr 2
  omega

set_option maxHeartbeats 8000000 in
theorem bitwise_22 (a b : Option Addr) (la ca lb cb m n : Nat) (w : World) (h1 : IsNat w a la ca m) (h2 : IsNat w b lb cb n) (hm : m < BIG) (hn : n < BIG) :
    Calls Sakg.prog 70 #[.int .u8 22, .slice a la ca, .slice b lb cb] w (MakesNat w (bwN 22 m n)) := by
  have H1 := hide h1
  have H2 := hide h2
  have hl1 := h1.len 200 hm
  have hl2 := h2.len 200 hn
  have hlt1 := h1.lt_len
  have hlt2 := h2.lt_len
  have HLT1 := hide hlt1
  have HLT2 := hide hlt2
  obtain ⟨R, hR⟩ : ∃ R, R = bwL 22 m n := ⟨_, rfl⟩
  have hRl : R.length = 32 := by rw [hR]; exact bwL_len _ _ _
  have hRb : Byt R := by rw [hR]; exact bwL_byt _ _ _
  have hRg : ∀ i, i < 32 → R.getD i 0 = bd 22 (digN m i) (digN n i) := fun i hi => by rw [hR]; exact bwL_get _ _ _ i hi
  have hRv : bwN 22 m n = val R := by rw [hR]; rfl
  rw [hRv]
  have HRG := hide hRg
  have HRL := hide hRl
  have HRB := hide hRb
  clear h1 h2 hlt1 hlt2 hR hRl hRb hRg hRv
  go_enter Sakg.func70, Sakg.ntmps70
  go_wp2_with (at_make; refine wpList_make_bytes rfl _ _ 54 rfl Sakg.underlying54 _ _ 32 rfl rfl rfl rfl (by omega) ?_; intro w2 ho2 hb2 hs2; have HO2 := hide ho2; have HB2 := hide hb2; clear ho2 hb2 hs2)
  go_loopg [14] 32 (fun gk iv wr => ∃ i : Nat, i + gk = 32 ∧ iv = .int .i64 i ∧ Own wr w.heap.size (fillL R 32 i) ∧ Below w.heap.size w wr)
  case atStart => exact ⟨0, by omega, rfl, by rw [fillL_zero]; exact unhide HO2, unhide HB2⟩
  case round =>
    obtain ⟨i, hi, rfl, ho, hbe⟩ := hrel
    by_cases hi32 : i < 32
    · have hcg := ho.cell i (by rw [fillL_len R 32 i (unhide HRL) (by omega)]; exact hi32)
      have hfg := ho.froz i
      have hst := ho.set i (R.getD i 0)
      rw [fillL_step R 32 i (unhide HRL) hi32, unhide HRG i hi32] at hst
      obtain ⟨u, hu⟩ : ∃ u, u = (fillL R 32 i).getD i 0 := ⟨_, rfl⟩
      rw [← hu] at hcg
      have hbe2 := hbe.setCell (p := ⟨w.heap.size, i, none⟩) (Nat.le_refl _) (.int .u8 (bd 22 (digN m i) (digN n i)))
      have hx256 := digN_lt m i
      have HST := hide hst
      have HB2' := hide hbe2
      clear hst hu ho hbe2
      by_cases hia : i < la
      · have t1 : decide ((i : Int) < (la : Int)) = true := decide_eq_true (by omega)
        obtain ⟨b1, o1, rfl, l1, c1⟩ := (unhide H1).digit i hia
        have c1' := (hbe.cell (p := ⟨b1, o1 + i, none⟩) l1).trans c1
        clear c1
        by_cases hib : i < lb
        · have t2 : decide ((i : Int) < (lb : Int)) = true := decide_eq_true (by omega)
          obtain ⟨b2, o2, rfl, l2, c2⟩ := (unhide H2).digit i hib
          have c2' := (hbe.cell (p := ⟨b2, o2 + i, none⟩) l2).trans c2
          clear c2
          generalize digN m i = x at *
          generalize digN n i = y at *
          go_wp2
          go_roundg (31 - i)
          case measure => omega
          case rel => exact ⟨i + 1, by omega, rfl, unhide HST, unhide HB2'⟩
        · have t2 : decide ((i : Int) < (lb : Int)) = false := decide_eq_false (by omega)
          have z2 := digN_big (unhide HLT2) (show lb ≤ i by omega)
          generalize digN m i = x at *
          rw [z2] at HST HB2'
          clear z2
          go_wp2
          go_roundg (31 - i)
          case measure => omega
          case rel => exact ⟨i + 1, by omega, rfl, unhide HST, unhide HB2'⟩

      · have t1 : decide ((i : Int) < (la : Int)) = false := decide_eq_false (by omega)
        have z1 := digN_big (unhide HLT1) (show la ≤ i by omega)
        by_cases hib : i < lb
        · have t2 : decide ((i : Int) < (lb : Int)) = true := decide_eq_true (by omega)
          obtain ⟨b2, o2, rfl, l2, c2⟩ := (unhide H2).digit i hib
          have c2' := (hbe.cell (p := ⟨b2, o2 + i, none⟩) l2).trans c2
          clear c2
          rw [z1] at HST HB2'
          generalize digN n i = y at *
          clear z1 hx256
          go_wp2
          go_roundg (31 - i)
          case measure => omega
          case rel => exact ⟨i + 1, by omega, rfl, unhide HST, unhide HB2'⟩
        · have t2 : decide ((i : Int) < (lb : Int)) = false := decide_eq_false (by omega)
          have z2 := digN_big (unhide HLT2) (show lb ≤ i by omega)
          rw [z1] at HST HB2'
          rw [z2] at HST HB2'
          clear z1 hx256
          clear z2
          go_wp2
          go_roundg (31 - i)
          case measure => omega
          case rel => exact ⟨i + 1, by omega, rfl, unhide HST, unhide HB2'⟩
    · obtain rfl : i = 32 := by omega
      have hfa : fillL R 32 32 = R := by
        have := fillL_all R
        rwa [unhide HRL] at this
      rw [hfa] at ho
      have hs := OwnT.src_all ho (unhide HRB) 32 (unhide HRL).symm (by unfold maxLen; omega)
      have HC := hide (norm_nat _ 32 32 R wr hs (by omega))
      clear ho hs hfa
      go_wp2_with fail
      refine (unhide HC).mono ?_
      rintro e w3 ⟨A, k, c, rfl, n3, N3, b3⟩
      have HN3 := hide n3
      clear n3
      go_wp2
      go_ret
      exact ⟨A, k, c, rfl, unhide HN3, N3.later hbe.size, hbe.trans (b3.mono hbe.size)⟩
set_option maxHeartbeats 8000000 in
theorem bitwise_23 (a b : Option Addr) (la ca lb cb m n : Nat) (w : World) (h1 : IsNat w a la ca m) (h2 : IsNat w b lb cb n) (hm : m < BIG) (hn : n < BIG) :
    Calls Sakg.prog 70 #[.int .u8 23, .slice a la ca, .slice b lb cb] w (MakesNat w (bwN 23 m n)) := by
  have H1 := hide h1
  have H2 := hide h2
  have hl1 := h1.len 200 hm
  have hl2 := h2.len 200 hn
  have hlt1 := h1.lt_len
  have hlt2 := h2.lt_len
  have HLT1 := hide hlt1
  have HLT2 := hide hlt2
  obtain ⟨R, hR⟩ : ∃ R, R = bwL 23 m n := ⟨_, rfl⟩
  have hRl : R.length = 32 := by rw [hR]; exact bwL_len _ _ _
  have hRb : Byt R := by rw [hR]; exact bwL_byt _ _ _
  have hRg : ∀ i, i < 32 → R.getD i 0 = bd 23 (digN m i) (digN n i) := fun i hi => by rw [hR]; exact bwL_get _ _ _ i hi
  have hRv : bwN 23 m n = val R := by rw [hR]; rfl
  rw [hRv]
  have HRG := hide hRg
  have HRL := hide hRl
  have HRB := hide hRb
  clear h1 h2 hlt1 hlt2 hR hRl hRb hRg hRv
  go_enter Sakg.func70, Sakg.ntmps70
  go_wp2_with (at_make; refine wpList_make_bytes rfl _ _ 54 rfl Sakg.underlying54 _ _ 32 rfl rfl rfl rfl (by omega) ?_; intro w2 ho2 hb2 hs2; have HO2 := hide ho2; have HB2 := hide hb2; clear ho2 hb2 hs2)
  go_loopg [14] 32 (fun gk iv wr => ∃ i : Nat, i + gk = 32 ∧ iv = .int .i64 i ∧ Own wr w.heap.size (fillL R 32 i) ∧ Below w.heap.size w wr)
  case atStart => exact ⟨0, by omega, rfl, by rw [fillL_zero]; exact unhide HO2, unhide HB2⟩
  case round =>
    obtain ⟨i, hi, rfl, ho, hbe⟩ := hrel
    by_cases hi32 : i < 32
    · have hcg := ho.cell i (by rw [fillL_len R 32 i (unhide HRL) (by omega)]; exact hi32)
      have hfg := ho.froz i
      have hst := ho.set i (R.getD i 0)
      rw [fillL_step R 32 i (unhide HRL) hi32, unhide HRG i hi32] at hst
      obtain ⟨u, hu⟩ : ∃ u, u = (fillL R 32 i).getD i 0 := ⟨_, rfl⟩
      rw [← hu] at hcg
      have hbe2 := hbe.setCell (p := ⟨w.heap.size, i, none⟩) (Nat.le_refl _) (.int .u8 (bd 23 (digN m i) (digN n i)))
      have hx256 := digN_lt m i
      have HST := hide hst
      have HB2' := hide hbe2
      clear hst hu ho hbe2
      by_cases hia : i < la
      · have t1 : decide ((i : Int) < (la : Int)) = true := decide_eq_true (by omega)
        obtain ⟨b1, o1, rfl, l1, c1⟩ := (unhide H1).digit i hia
        have c1' := (hbe.cell (p := ⟨b1, o1 + i, none⟩) l1).trans c1
        clear c1
        by_cases hib : i < lb
        · have t2 : decide ((i : Int) < (lb : Int)) = true := decide_eq_true (by omega)
          obtain ⟨b2, o2, rfl, l2, c2⟩ := (unhide H2).digit i hib
          have c2' := (hbe.cell (p := ⟨b2, o2 + i, none⟩) l2).trans c2
          clear c2
          generalize digN m i = x at *
          generalize digN n i = y at *
          go_wp2
          go_roundg (31 - i)
          case measure => omega
          case rel => exact ⟨i + 1, by omega, rfl, unhide HST, unhide HB2'⟩
        · have t2 : decide ((i : Int) < (lb : Int)) = false := decide_eq_false (by omega)
          have z2 := digN_big (unhide HLT2) (show lb ≤ i by omega)
          generalize digN m i = x at *
          rw [z2] at HST HB2'
          clear z2
          go_wp2
          go_roundg (31 - i)
          case measure => omega
          case rel => exact ⟨i + 1, by omega, rfl, unhide HST, unhide HB2'⟩

      · have t1 : decide ((i : Int) < (la : Int)) = false := decide_eq_false (by omega)
        have z1 := digN_big (unhide HLT1) (show la ≤ i by omega)
        by_cases hib : i < lb
        · have t2 : decide ((i : Int) < (lb : Int)) = true := decide_eq_true (by omega)
          obtain ⟨b2, o2, rfl, l2, c2⟩ := (unhide H2).digit i hib
          have c2' := (hbe.cell (p := ⟨b2, o2 + i, none⟩) l2).trans c2
          clear c2
          rw [z1] at HST HB2'
          generalize digN n i = y at *
          clear z1 hx256
          go_wp2
          go_roundg (31 - i)
          case measure => omega
          case rel => exact ⟨i + 1, by omega, rfl, unhide HST, unhide HB2'⟩
        · have t2 : decide ((i : Int) < (lb : Int)) = false := decide_eq_false (by omega)
          have z2 := digN_big (unhide HLT2) (show lb ≤ i by omega)
          rw [z1] at HST HB2'
          rw [z2] at HST HB2'
          clear z1 hx256
          clear z2
          go_wp2
          go_roundg (31 - i)
          case measure => omega
          case rel => exact ⟨i + 1, by omega, rfl, unhide HST, unhide HB2'⟩
    · obtain rfl : i = 32 := by omega
      have hfa : fillL R 32 32 = R := by
        have := fillL_all R
        rwa [unhide HRL] at this
      rw [hfa] at ho
      have hs := OwnT.src_all ho (unhide HRB) 32 (unhide HRL).symm (by unfold maxLen; omega)
      have HC := hide (norm_nat _ 32 32 R wr hs (by omega))
      clear ho hs hfa
      go_wp2_with fail
      refine (unhide HC).mono ?_
      rintro e w3 ⟨A, k, c, rfl, n3, N3, b3⟩
      have HN3 := hide n3
      clear n3
      go_wp2
      go_ret
      exact ⟨A, k, c, rfl, unhide HN3, N3.later hbe.size, hbe.trans (b3.mono hbe.size)⟩
set_option maxHeartbeats 8000000 in
theorem bitwise_24 (a b : Option Addr) (la ca lb cb m n : Nat) (w : World) (h1 : IsNat w a la ca m) (h2 : IsNat w b lb cb n) (hm : m < BIG) (hn : n < BIG) :
    Calls Sakg.prog 70 #[.int .u8 24, .slice a la ca, .slice b lb cb] w (MakesNat w (bwN 24 m n)) := by
  have H1 := hide h1
  have H2 := hide h2
  have hl1 := h1.len 200 hm
  have hl2 := h2.len 200 hn
  have hlt1 := h1.lt_len
  have hlt2 := h2.lt_len
  have HLT1 := hide hlt1
  have HLT2 := hide hlt2
  obtain ⟨R, hR⟩ : ∃ R, R = bwL 24 m n := ⟨_, rfl⟩
  have hRl : R.length = 32 := by rw [hR]; exact bwL_len _ _ _
  have hRb : Byt R := by rw [hR]; exact bwL_byt _ _ _
  have hRg : ∀ i, i < 32 → R.getD i 0 = bd 24 (digN m i) (digN n i) := fun i hi => by rw [hR]; exact bwL_get _ _ _ i hi
  have hRv : bwN 24 m n = val R := by rw [hR]; rfl
  rw [hRv]
  have HRG := hide hRg
  have HRL := hide hRl
  have HRB := hide hRb
  clear h1 h2 hlt1 hlt2 hR hRl hRb hRg hRv
  go_enter Sakg.func70, Sakg.ntmps70
  go_wp2_with (at_make; refine wpList_make_bytes rfl _ _ 54 rfl Sakg.underlying54 _ _ 32 rfl rfl rfl rfl (by omega) ?_; intro w2 ho2 hb2 hs2; have HO2 := hide ho2; have HB2 := hide hb2; clear ho2 hb2 hs2)
  go_loopg [14] 32 (fun gk iv wr => ∃ i : Nat, i + gk = 32 ∧ iv = .int .i64 i ∧ Own wr w.heap.size (fillL R 32 i) ∧ Below w.heap.size w wr)
  case atStart => exact ⟨0, by omega, rfl, by rw [fillL_zero]; exact unhide HO2, unhide HB2⟩
  case round =>
    obtain ⟨i, hi, rfl, ho, hbe⟩ := hrel
    by_cases hi32 : i < 32
    · have hcg := ho.cell i (by rw [fillL_len R 32 i (unhide HRL) (by omega)]; exact hi32)
      have hfg := ho.froz i
      have hst := ho.set i (R.getD i 0)
      rw [fillL_step R 32 i (unhide HRL) hi32, unhide HRG i hi32] at hst
      obtain ⟨u, hu⟩ : ∃ u, u = (fillL R 32 i).getD i 0 := ⟨_, rfl⟩
      rw [← hu] at hcg
      have hbe2 := hbe.setCell (p := ⟨w.heap.size, i, none⟩) (Nat.le_refl _) (.int .u8 (bd 24 (digN m i) (digN n i)))
      have hx256 := digN_lt m i
      have HST := hide hst
      have HB2' := hide hbe2
      clear hst hu ho hbe2
      by_cases hia : i < la
      · have t1 : decide ((i : Int) < (la : Int)) = true := decide_eq_true (by omega)
        obtain ⟨b1, o1, rfl, l1, c1⟩ := (unhide H1).digit i hia
        have c1' := (hbe.cell (p := ⟨b1, o1 + i, none⟩) l1).trans c1
        clear c1
        by_cases hib : i < lb
        · have t2 : decide ((i : Int) < (lb : Int)) = true := decide_eq_true (by omega)
          obtain ⟨b2, o2, rfl, l2, c2⟩ := (unhide H2).digit i hib
          have c2' := (hbe.cell (p := ⟨b2, o2 + i, none⟩) l2).trans c2
          clear c2
          generalize digN m i = x at *
          generalize digN n i = y at *
          go_wp2
          go_roundg (31 - i)
          case measure => omega
          case rel => exact ⟨i + 1, by omega, rfl, unhide HST, unhide HB2'⟩
        · have t2 : decide ((i : Int) < (lb : Int)) = false := decide_eq_false (by omega)
          have z2 := digN_big (unhide HLT2) (show lb ≤ i by omega)
          generalize digN m i = x at *
          rw [z2] at HST HB2'
          clear z2
          go_wp2
          go_roundg (31 - i)
          case measure => omega
          case rel => exact ⟨i + 1, by omega, rfl, unhide HST, unhide HB2'⟩

      · have t1 : decide ((i : Int) < (la : Int)) = false := decide_eq_false (by omega)
        have z1 := digN_big (unhide HLT1) (show la ≤ i by omega)
        by_cases hib : i < lb
        · have t2 : decide ((i : Int) < (lb : Int)) = true := decide_eq_true (by omega)
          obtain ⟨b2, o2, rfl, l2, c2⟩ := (unhide H2).digit i hib
          have c2' := (hbe.cell (p := ⟨b2, o2 + i, none⟩) l2).trans c2
          clear c2
          rw [z1] at HST HB2'
          generalize digN n i = y at *
          clear z1 hx256
          go_wp2
          go_roundg (31 - i)
          case measure => omega
          case rel => exact ⟨i + 1, by omega, rfl, unhide HST, unhide HB2'⟩
        · have t2 : decide ((i : Int) < (lb : Int)) = false := decide_eq_false (by omega)
          have z2 := digN_big (unhide HLT2) (show lb ≤ i by omega)
          rw [z1] at HST HB2'
          rw [z2] at HST HB2'
          clear z1 hx256
          clear z2
          go_wp2
          go_roundg (31 - i)
          case measure => omega
          case rel => exact ⟨i + 1, by omega, rfl, unhide HST, unhide HB2'⟩
    · obtain rfl : i = 32 := by omega
      have hfa : fillL R 32 32 = R := by
        have := fillL_all R
        rwa [unhide HRL] at this
      rw [hfa] at ho
      have hs := OwnT.src_all ho (unhide HRB) 32 (unhide HRL).symm (by unfold maxLen; omega)
      have HC := hide (norm_nat _ 32 32 R wr hs (by omega))
      clear ho hs hfa
      go_wp2_with fail
      refine (unhide HC).mono ?_
      rintro e w3 ⟨A, k, c, rfl, n3, N3, b3⟩
      have HN3 := hide n3
      clear n3
      go_wp2
      go_ret
      exact ⟨A, k, c, rfl, unhide HN3, N3.later hbe.size, hbe.trans (b3.mono hbe.size)⟩
set_option maxHeartbeats 8000000 in
theorem bitwise_25 (a b : Option Addr) (la ca lb cb m n : Nat) (w : World) (h1 : IsNat w a la ca m) (h2 : IsNat w b lb cb n) (hm : m < BIG) (hn : n < BIG) :
    Calls Sakg.prog 70 #[.int .u8 25, .slice a la ca, .slice b lb cb] w (MakesNat w (bwN 25 m n)) := by
  have H1 := hide h1
  have H2 := hide h2
  have hl1 := h1.len 200 hm
  have hl2 := h2.len 200 hn
  have hlt1 := h1.lt_len
  have hlt2 := h2.lt_len
  have HLT1 := hide hlt1
  have HLT2 := hide hlt2
  obtain ⟨R, hR⟩ : ∃ R, R = bwL 25 m n := ⟨_, rfl⟩
  have hRl : R.length = 32 := by rw [hR]; exact bwL_len _ _ _
  have hRb : Byt R := by rw [hR]; exact bwL_byt _ _ _
  have hRg : ∀ i, i < 32 → R.getD i 0 = bd 25 (digN m i) (digN n i) := fun i hi => by rw [hR]; exact bwL_get _ _ _ i hi
  have hRv : bwN 25 m n = val R := by rw [hR]; rfl
  rw [hRv]
  have HRG := hide hRg
  have HRL := hide hRl
  have HRB := hide hRb
  clear h1 h2 hlt1 hlt2 hR hRl hRb hRg hRv
  go_enter Sakg.func70, Sakg.ntmps70
  go_wp2_with (at_make; refine wpList_make_bytes rfl _ _ 54 rfl Sakg.underlying54 _ _ 32 rfl rfl rfl rfl (by omega) ?_; intro w2 ho2 hb2 hs2; have HO2 := hide ho2; have HB2 := hide hb2; clear ho2 hb2 hs2)
  go_loopg [14] 32 (fun gk iv wr => ∃ i : Nat, i + gk = 32 ∧ iv = .int .i64 i ∧ Own wr w.heap.size (fillL R 32 i) ∧ Below w.heap.size w wr)
  case atStart => exact ⟨0, by omega, rfl, by rw [fillL_zero]; exact unhide HO2, unhide HB2⟩
  case round =>
    obtain ⟨i, hi, rfl, ho, hbe⟩ := hrel
    by_cases hi32 : i < 32
    · have hcg := ho.cell i (by rw [fillL_len R 32 i (unhide HRL) (by omega)]; exact hi32)
      have hfg := ho.froz i
      have hst := ho.set i (R.getD i 0)
      rw [fillL_step R 32 i (unhide HRL) hi32, unhide HRG i hi32] at hst
      obtain ⟨u, hu⟩ : ∃ u, u = (fillL R 32 i).getD i 0 := ⟨_, rfl⟩
      rw [← hu] at hcg
      have hbe2 := hbe.setCell (p := ⟨w.heap.size, i, none⟩) (Nat.le_refl _) (.int .u8 (bd 25 (digN m i) (digN n i)))
      have hx256 := digN_lt m i
      have HST := hide hst
      have HB2' := hide hbe2
      clear hst hu ho hbe2
      by_cases hia : i < la
      · have t1 : decide ((i : Int) < (la : Int)) = true := decide_eq_true (by omega)
        obtain ⟨b1, o1, rfl, l1, c1⟩ := (unhide H1).digit i hia
        have c1' := (hbe.cell (p := ⟨b1, o1 + i, none⟩) l1).trans c1
        clear c1
        by_cases hib : i < lb
        · have t2 : decide ((i : Int) < (lb : Int)) = true := decide_eq_true (by omega)
          obtain ⟨b2, o2, rfl, l2, c2⟩ := (unhide H2).digit i hib
          have c2' := (hbe.cell (p := ⟨b2, o2 + i, none⟩) l2).trans c2
          clear c2
          generalize digN m i = x at *
          generalize digN n i = y at *
          go_wp2
          go_roundg (31 - i)
          case measure => omega
          case rel => exact ⟨i + 1, by omega, rfl, unhide HST, unhide HB2'⟩
        · have t2 : decide ((i : Int) < (lb : Int)) = false := decide_eq_false (by omega)
          have z2 := digN_big (unhide HLT2) (show lb ≤ i by omega)
          generalize digN m i = x at *
          rw [z2] at HST HB2'
          clear z2
          go_wp2
          go_roundg (31 - i)
          case measure => omega
          case rel => exact ⟨i + 1, by omega, rfl, unhide HST, unhide HB2'⟩

      · have t1 : decide ((i : Int) < (la : Int)) = false := decide_eq_false (by omega)
        have z1 := digN_big (unhide HLT1) (show la ≤ i by omega)
        by_cases hib : i < lb
        · have t2 : decide ((i : Int) < (lb : Int)) = true := decide_eq_true (by omega)
          obtain ⟨b2, o2, rfl, l2, c2⟩ := (unhide H2).digit i hib
          have c2' := (hbe.cell (p := ⟨b2, o2 + i, none⟩) l2).trans c2
          clear c2
          rw [z1] at HST HB2'
          generalize digN n i = y at *
          clear z1 hx256
          go_wp2
          go_roundg (31 - i)
          case measure => omega
          case rel => exact ⟨i + 1, by omega, rfl, unhide HST, unhide HB2'⟩
        · have t2 : decide ((i : Int) < (lb : Int)) = false := decide_eq_false (by omega)
          have z2 := digN_big (unhide HLT2) (show lb ≤ i by omega)
          rw [z1] at HST HB2'
          rw [z2] at HST HB2'
          clear z1 hx256
          clear z2
          go_wp2
          go_roundg (31 - i)
          case measure => omega
          case rel => exact ⟨i + 1, by omega, rfl, unhide HST, unhide HB2'⟩
    · obtain rfl : i = 32 := by omega
      have hfa : fillL R 32 32 = R := by
        have := fillL_all R
        rwa [unhide HRL] at this
      rw [hfa] at ho
      have hs := OwnT.src_all ho (unhide HRB) 32 (unhide HRL).symm (by unfold maxLen; omega)
      have HC := hide (norm_nat _ 32 32 R wr hs (by omega))
      clear ho hs hfa
      go_wp2_with fail
      refine (unhide HC).mono ?_
      rintro e w3 ⟨A, k, c, rfl, n3, N3, b3⟩
      have HN3 := hide n3
      clear n3
      go_wp2
      go_ret
      exact ⟨A, k, c, rfl, unhide HN3, N3.later hbe.size, hbe.trans (b3.mono hbe.size)⟩

def shS (m : Nat) : Nat := if m ≤ 256 then m else 256
theorem shS_le (m : Nat) : shS m ≤ 256 := by unfold shS; split <;> omega
def shN (o m n : Nat) : Nat := if o = 27 then n * 2 ^ shS m % P256 else if o = 29 ∧ negB n = true then bwN 25 (bwN 25 n 0 / 2 ^ shS m) 0 else n / 2 ^ shS m
theorem pow_le_P {s : Nat} (h : s ≤ 256) : 2 ^ s ≤ P256 := by rw [← two256]; exact Nat.pow_le_pow_right (by omega) h
theorem mul_big2 {m n : Nat} (hm : m < P256) (hn : n ≤ P256) : m * n < BIG := by
  refine Nat.lt_of_le_of_lt (Nat.mul_le_mul (Nat.le_of_lt hm) hn) ?_
  unfold P256
  rw [← Nat.pow_add]
  exact Nat.lt_of_lt_of_le (Nat.pow_lt_pow_right (by omega) (show 32 + 32 < 65 by omega)) (big_pow 65 (by omega))

set_option maxHeartbeats 8000000 in
theorem shifted_any (o : Nat) (ho : o = 27 ∨ o = 28 ∨ o = 29) (a b : Option Addr) (la ca lb cb m n : Nat) (w : World) (h1 : IsNat w a la ca m) (h2 : IsNat w b lb cb n) (hm : m < P256) (hn : n < P256) :
    Calls Sakg.prog 72 #[.int .u8 o, .slice a la ca, .slice b lb cb] w (MakesNat w (shN o m n)) := by
  have hmB : m < BIG := Nat.lt_trans hm p256_lt
  have hnB : n < BIG := Nat.lt_trans hn p256_lt
  have HU := hide (u64_any a la ca m w h1 hmB)
  have H2 := hide h2
  obtain ⟨s, hs⟩ : ∃ s, s = shS m := ⟨_, rfl⟩
  have hsl : s ≤ 256 := by rw [hs]; exact shS_le m
  have HS := hide hs
  have hres : shN o m n = if o = 27 then n * 2 ^ s % P256 else if o = 29 ∧ negB n = true then bwN 25 (bwN 25 n 0 / 2 ^ s) 0 else n / 2 ^ s := by rw [hs]; rfl
  have HRES := hide hres
  have hpl := pow_le_P hsl
  have hplt : 2 ^ s < BIG := Nat.lt_of_le_of_lt hpl p256_lt
  have HPL := hide hpl
  have HPLT := hide hplt
  have HPW := hide (pow2_any s w hsl)
  obtain ⟨tf, htf⟩ : ∃ tf, tf = fits64 m := ⟨_, rfl⟩
  obtain ⟨um, hum⟩ : ∃ um, um = u64N m := ⟨_, rfl⟩
  rw [← htf, ← hum] at HU
  have HTF := hide htf
  have HUM := hide hum
  clear h1 h2 hs hres hpl hplt htf hum
  go_enter Sakg.func72, Sakg.ntmps72
  go_upto_region 2 with (go_at_call 131; refine (unhide HU).mono ?_; rintro e w1 ⟨rfl, rfl⟩)
  go_cut [26] (fun s26 wc => s26 = .bool (decide (256 < m)) ∧ wc = w)
  case first =>
    cases tf with
    | false =>
      have h256 : decide (256 < m) = true := decide_eq_true (by have h := of_decide_eq_false (show decide (m < 256 ^ 8) = false from (unhide HTF).symm); omega)
      have H256 := hide h256
      clear h256
      go_wp2_with fail
      go_meet
      case rel => exact ⟨by rw [unhide H256], rfl⟩
    | true =>
      have hu : um = m := by rw [unhide HUM]; unfold u64N; rw [if_pos (of_decide_eq_true (unhide HTF).symm)]
      subst hu
      have h256 : decide (256 < um) = decide ((256 : Int) < (um : Int)) := decide_eq_decide.2 (by omega)
      have H256 := hide h256
      clear h256
      go_wp2_with fail
      go_meet
      case rel => exact ⟨by first | rw [unhide H256] | rfl, rfl⟩
  case rest =>
    obtain ⟨rfl, rfl⟩ := hcut
    go_upto_if 26 with fail
    go_cut [7] (fun s7 wc' => s7 = .int .u64 s ∧ wc' = wc)
    case first =>
      by_cases h256 : 256 < m
      · have es : s = 256 := by rw [unhide HS]; unfold shS; rw [if_neg (by omega)]
        have ht : decide (256 < m) = true := decide_eq_true h256
        have ES := hide es
        clear es
        go_wp2_with fail
        go_meet
        case rel => exact ⟨by rw [unhide ES]; rfl, rfl⟩
      · have es : s = m := by rw [unhide HS]; unfold shS; rw [if_pos (by omega)]
        have ht : decide (256 < m) = false := decide_eq_false h256
        have hu : s = um := by rw [es, unhide HUM]; unfold u64N; rw [if_pos (by omega)]
        have ES := hide hu
        clear es hu
        go_wp2_with fail
        go_meet
        case rel => exact ⟨by rw [unhide ES], rfl⟩
    case rest =>
      obtain ⟨rfl, rfl⟩ := hcut
      go_wp2_with fail
      refine (unhide HPW).mono ?_
      rintro e w1 ⟨A1, k1, c1, rfl, n1, N1, b1⟩
      have NN1 := hide n1
      clear n1
      rcases ho with rfl | rfl | rfl
      · have hr2 : shN 27 m n = n * 2 ^ s % 256 ^ 32 := by rw [unhide HRES, if_pos rfl]; rfl
        have HR2 := hide hr2
        have HM := hide (((unhide H2).kept b1).mul (unhide NN1) hnB (unhide HPLT))
        have hb := mul_big2 hn (unhide HPL)
        clear hr2
        go_wp2_with fail
        refine (unhide HM).mono ?_
        rintro e w2 ⟨A2, k2, c2, rfl, n2, N2, b2⟩
        have HW := hide (wrapped_any A2 k2 c2 _ w2 n2 hb)
        clear n2
        go_wp2_with fail
        refine (unhide HW).mono ?_
        rintro e w3 ⟨A3, k3, c3, rfl, n3, N3, b3⟩
        have HN3 := hide n3
        clear n3
        go_wp2
        go_ret
        rw [unhide HR2]
        have b12 := b1.trans (b2.mono b1.size)
        exact ⟨A3, k3, c3, rfl, unhide HN3, N3.later b12.size, b12.trans (b3.mono b12.size)⟩
      · have hr2 : shN 28 m n = n / 2 ^ s := by rw [unhide HRES, if_neg (by omega), if_neg (by omega)]
        have HR2 := hide hr2
        have HD := hide (((unhide H2).kept b1).dm (unhide NN1) hnB (unhide HPLT))
        clear hr2
        go_wp2_with fail
        refine (unhide HD).mono ?_
        rintro e w2 ⟨A2, k2, c2, A3, k3, c3, ok, rfl, n2, -, N2, -, b2⟩
        have HN2 := hide n2
        clear n2
        go_wp2
        go_ret
        rw [unhide HR2]
        exact ⟨A2, k2, c2, rfl, unhide HN2, N2.later b1.size, b1.trans (b2.mono b1.size)⟩
      · have HNG := hide (isNegative_any b lb cb n w1 ((unhide H2).kept b1) hnB)
        cases hng : negB n with
        | false =>
          rw [hng] at HNG
          have hr2 : shN 29 m n = n / 2 ^ s := by rw [unhide HRES, if_neg (by omega), if_neg (by simp [hng])]
          have HR2 := hide hr2
          have HD := hide (((unhide H2).kept b1).dm (unhide NN1) hnB (unhide HPLT))
          clear hr2 hng
          go_wp2_with (go_at_call 64; refine (unhide HNG).mono ?_; rintro e w9 ⟨rfl, rfl⟩)
          refine (unhide HD).mono ?_
          rintro e w2 ⟨A2, k2, c2, A3, k3, c3, ok, rfl, n2, -, N2, -, b2⟩
          have HN2 := hide n2
          clear n2
          go_wp2
          go_ret
          rw [unhide HR2]
          exact ⟨A2, k2, c2, rfl, unhide HN2, N2.later b1.size, b1.trans (b2.mono b1.size)⟩
        | true =>
          rw [hng] at HNG
          have hr2 : shN 29 m n = bwN 25 (bwN 25 n 0 / 2 ^ s) 0 := by rw [unhide HRES, if_neg (by omega), if_pos ⟨rfl, hng⟩]
          have HR2 := hide hr2
          have HB := hide (bitwise_25 b none lb cb 0 0 n 0 w1 ((unhide H2).kept b1) (IsNat.nil _) hnB (by omega))
          clear hr2 hng
          go_wp2_with (go_at_call 64; refine (unhide HNG).mono ?_; rintro e w9 ⟨rfl, rfl⟩)
          refine (unhide HB).mono ?_
          rintro e w2 ⟨A2, k2, c2, rfl, n2, N2, b2⟩
          have hq : bwN 25 n 0 < BIG := Nat.lt_trans (bwN_lt _ _ _) p256_lt
          have HD := hide (n2.dm ((unhide NN1).kept b2) hq (unhide HPLT))
          clear n2
          go_wp2_with fail
          refine (unhide HD).mono ?_
          rintro e w3 ⟨A3, k3, c3, A4, k4, c4, ok, rfl, n3, -, N3, -, b3⟩
          have HB2 := hide (bitwise_25 A3 none k3 c3 0 0 _ 0 w3 n3 (IsNat.nil _) (Nat.lt_of_le_of_lt (Nat.div_le_self _ _) hq) (by omega))
          clear n3
          go_wp2_with fail
          refine (unhide HB2).mono ?_
          rintro e w4 ⟨A5, k5, c5, rfl, n5, N5, b5⟩
          have HN5 := hide n5
          clear n5
          go_wp2
          go_ret
          rw [unhide HR2]
          have b13 := b1.trans ((b2.trans (b3.mono b2.size)).mono b1.size)
          exact ⟨A5, k5, c5, rfl, unhide HN5, N5.later b13.size, b13.trans (b5.mono b13.size)⟩

end Go.Proofs.YgcsakGreat
