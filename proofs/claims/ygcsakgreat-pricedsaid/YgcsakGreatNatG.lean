/-
  nat.Mul.
-/
import Derived.Test.YgcsakGreatNatF
namespace Go.Proofs.YgcsakGreat
set_option linter.unusedVariables false
set_option linter.unusedSimpArgs false
set_option maxRecDepth 100000
open Go.RowKit

theorem val_set : ∀ (Q : List Int) (k : Nat) (q d : Nat), k < Q.length → Q.getD k 0 = (q : Int) → val (Q.set k (d : Int)) + 256 ^ k * q = val Q + 256 ^ k * d
  | [], _, _, _, h, _ => by simp at h
  | x :: Q, 0, q, d, _, hq => by
    have hx : x = (q : Int) := hq
    subst hx
    simp only [List.set_cons_zero, val, Int.toNat_natCast, Nat.pow_zero]
    omega
  | x :: Q, k + 1, q, d, h, hq => by
    have ih := val_set Q k q d (by simpa using h) (by simpa using hq)
    simp only [List.set_cons_succ, val, Nat.pow_succ]
    have e1 : 256 ^ k * 256 * q = 256 * (256 ^ k * q) := by rw [Nat.mul_comm (256 ^ k) 256, Nat.mul_assoc]
    have e2 : 256 ^ k * 256 * d = 256 * (256 ^ k * d) := by rw [Nat.mul_comm (256 ^ k) 256, Nat.mul_assoc]
    omega

theorem mul_step (P us vs : List Int) (i j x y q c d c' : Nat) (hk : i + j < P.length) (hq : P.getD (i + j) 0 = (q : Int)) (hy : vs.getD j 0 = (y : Int))
    (hv : val P + 256 ^ (i + j) * c = val (us.take i) * val vs + 256 ^ i * (x * val (vs.take j))) (hd : c + (x * y + q) = d + 256 * c') :
    val (P.set (i + j) (d : Int)) + 256 ^ (i + (j + 1)) * c' = val (us.take i) * val vs + 256 ^ i * (x * val (vs.take (j + 1))) := by
  have h1 := val_set P (i + j) q d hk hq
  rw [val_take_succ vs, hy, Int.toNat_natCast, Nat.mul_add, Nat.mul_add]
  rw [show i + (j + 1) = (i + j) + 1 from by omega, Nat.pow_succ]
  have e1 : 256 ^ i * (x * (256 ^ j * y)) = 256 ^ (i + j) * (x * y) := by
    rw [Nat.pow_add, Nat.mul_left_comm x, Nat.mul_assoc]
  rw [e1]
  have h2 : 256 ^ (i + j) * (c + (x * y + q)) = 256 ^ (i + j) * (d + 256 * c') := by rw [hd]
  rw [Nat.mul_add, Nat.mul_add, Nat.mul_add, ← Nat.mul_assoc (256 ^ (i + j)) 256 c'] at h2
  generalize 256 ^ (i + j) * (x * y) = A at *
  generalize 256 ^ (i + j) * q = B at *
  generalize 256 ^ (i + j) * c = C at *
  generalize 256 ^ (i + j) * d = E at *
  generalize 256 ^ (i + j) * 256 * c' = F at *
  generalize 256 ^ i * (x * val (vs.take j)) = G at *
  generalize val (us.take i) * val vs = M at *
  omega

theorem mul_row (P us vs : List Int) (i n2 x c : Nat) (hP : P.length = i + n2) (hx : us.getD i 0 = (x : Int)) (hvs : vs.length = n2)
    (hv : val P + 256 ^ (i + n2) * c = val (us.take i) * val vs + 256 ^ i * (x * val (vs.take n2))) :
    val (P ++ [(c : Int)]) = val (us.take (i + 1)) * val vs := by
  rw [val_append, hP]
  simp only [val, Int.toNat_natCast, Nat.mul_zero, Nat.add_zero]
  have hvt : vs.take n2 = vs := List.take_of_length_le (by omega)
  rw [hv, hvt, val_take_succ us, hx, Int.toNat_natCast, Nat.add_mul, Nat.mul_assoc]

theorem carry_le (c x y q : Nat) (hc : c ≤ 255) (hx : x ≤ 255) (hy : y ≤ 255) (hq : q ≤ 255) : (c + (x * y + q)) / 256 ≤ 255 ∧ x * y ≤ 65025 := by
  have h : x * y ≤ 255 * 255 := Nat.mul_le_mul hx hy
  omega

theorem set_snoc_zeros (P : List Int) (n : Nat) (k : Nat) (d : Int) (h : k < P.length) : (P ++ zeros n).set k d = P.set k d ++ zeros n := by
  rw [List.set_append_left _ _ h]
theorem getD_app (P : List Int) (n k : Nat) (h : k < P.length) : (P ++ zeros n).getD k 0 = P.getD k 0 := by
  rw [List.getD_eq_getElem?_getD, List.getD_eq_getElem?_getD, List.getElem?_append_left h]
theorem Byt.set {l : List Int} (h : Byt l) (k : Nat) (d : Int) (hd : 0 ≤ d ∧ d ≤ 255) : Byt (l.set k d) := by
  intro x hx
  rcases List.mem_or_eq_of_mem_set hx with h' | h'
  · exact h x h'
  · subst h'; exact hd

set_option maxHeartbeats 4000000 in
theorem mul_any (a b : Option Addr) (la lb ca cb : Nat) (xs ys : List Int) (w : World) (h1 : Src w a la ca xs) (h2 : Src w b lb cb ys) (hm : la ≤ 100000000) (hm2 : lb ≤ 100000000) :
    Calls Sakg.prog 33 #[.slice a la ca, .slice b lb cb] w (MakesNat w (val xs * val ys)) := by
  have e1 := val_trimL xs
  have e2 := val_trimL ys
  have b1 := trimL_byt h1.byt
  have b2 := trimL_byt h2.byt
  have q1 := trimL_len xs
  have q2 := trimL_len ys
  have q3 := h1.len_eq
  have q4 := h2.len_eq
  rw [← e1, ← e2]
  have HC1 := hide (trim_any a la ca xs w h1 (by omega))
  have HC2 := hide (trim_any b lb cb ys w h2 (by omega))
  clear h1 h2 e1 e2
  have r1 : (trimL xs).length ≤ 100000000 := by omega
  have r2 : (trimL ys).length ≤ 100000000 := by omega
  clear q1 q2 q3 q4
  generalize trimL xs = us at *
  generalize trimL ys = vs at *
  have HB1 := hide b1
  have HB2 := hide b2
  have R1 := hide r1
  have R2 := hide r2
  clear b1 b2 r1 r2
  go_enter Sakg.func33, Sakg.ntmps33
  go_wp2_with fail
  refine (unhide HC1).mono ?_
  rintro e w1 ⟨⟨n1, rfl, s1⟩, rfl⟩
  go_wp2_with fail
  refine (unhide HC2).mono ?_
  rintro e w1 ⟨⟨n2, rfl, s2⟩, rfl⟩
  have l1 := s1.len_eq
  have l2 := s2.len_eq
  have r1 := unhide R1
  have r2 := unhide R2
  rw [l1] at r1
  rw [l2] at r2
  have S1 := hide s1
  have S2 := hide s2
  have L1 := hide l1
  have L2 := hide l2
  clear HC1 HC2 s1 s2 l1 l2 R1 R2
  go_wp2_with (at_make; refine wpList_make_bytes rfl _ _ 54 rfl Sakg.underlying54 _ _ (n1 + n2) rfl rfl (by omega) (by omega) (by omega) ?_; intro w2 ho2 hb2 hz2)
  have HO2 := hide ho2
  clear ho2 hz2
  go_loopw [23] (fun ct wr => ∃ (i : Nat) (P : List Int), i ≤ n1 ∧ ct = .int .i64 i ∧ P.length = i + n2 ∧ Byt P ∧ Own wr w.heap.size (P ++ zeros (n1 - i)) ∧ val P = val (us.take i) * val vs ∧ Below w.heap.size w wr) (fun ct _ => n1 - (intOf ct).toNat)
  case atStart => exact ⟨0, zeros n2, by omega, rfl, by simp [zeros_len], zeros_byt _, by rw [show zeros n2 ++ zeros (n1 - 0) = zeros (n1 + n2) from by simp [zeros]; omega]; exact unhide HO2, by simp [val, zeros, val_zeros], hb2⟩
  case round =>
    obtain ⟨i, P, hi, rfl, hPl, hPb, ho, hv, hbe⟩ := hrel
    have HPL := hide hPl
    have HPB := hide hPb
    have HV := hide hv
    have HO := hide ho
    by_cases hil : i < n1
    · obtain ⟨p1, o1, rfl, c1⟩ := (unhide S1).at_ (by omega)
      have hp1 : p1 < w.heap.size := World.block_lt_of_cell? w _ (c1 0 (by omega))
      have x1 : wr.cell? ⟨p1, o1 + i, none⟩ = some (.int .u8 (us.getD i 0)) := (hbe.cell (p := ⟨p1, o1 + i, none⟩) hp1).trans (c1 i hil)
      have xb := (unhide HB1).get i
      obtain ⟨x, hx⟩ : ∃ x : Nat, us.getD i 0 = (x : Int) := ⟨(us.getD i 0).toNat, by omega⟩
      rw [hx] at x1 xb
      have HX := hide hx
      have hx255 : x ≤ 255 := by omega
      clear c1 hx hPl hPb hv ho
      go_wp2_with fail
      go_loopw [8, 30] (fun cy ct wq => ∃ (j c : Nat) (Q : List Int), j ≤ n2 ∧ c ≤ 255 ∧ ct = .int .i64 j ∧ cy = .int .u32 c ∧ Q.length = i + n2 ∧ Byt Q ∧ Own wq w.heap.size (Q ++ zeros (n1 - i)) ∧ val Q + 256 ^ (i + j) * c = val (us.take i) * val vs + 256 ^ i * (x * val (vs.take j)) ∧ Below w.heap.size w wq) (fun _ ct _ => n2 - (intOf ct).toNat)
      case atStart => exact ⟨0, 0, P, by omega, by omega, rfl, rfl, unhide HPL, unhide HPB, unhide HO, by have := unhide HV; simp [val]; exact this, hbe⟩
      case round =>
        obtain ⟨j, c, Q, hj, hc1, rfl, rfl, hQl, hQb, hoq, hvq, hbq⟩ := hrel
        by_cases hjl : j < n2
        · obtain ⟨p2, o2, rfl, c2⟩ := (unhide S2).at_ (by omega)
          have hp2 : p2 < w.heap.size := World.block_lt_of_cell? w _ (c2 0 (by omega))
          have x2 : wr.cell? ⟨p2, o2 + j, none⟩ = some (.int .u8 (vs.getD j 0)) := (hbq.cell (p := ⟨p2, o2 + j, none⟩) hp2).trans (c2 j hjl)
          have yb := (unhide HB2).get j
          obtain ⟨y, hy⟩ : ∃ y : Nat, vs.getD j 0 = (y : Int) := ⟨(vs.getD j 0).toNat, by omega⟩
          rw [hy] at x2 yb
          have hcg := hoq.cell (i + j) (by simp [zeros_len]; omega)
          rw [getD_app Q _ _ (by omega)] at hcg
          have qb := hQb.get (i + j)
          obtain ⟨q, hq⟩ : ∃ q : Nat, Q.getD (i + j) 0 = (q : Int) := ⟨(Q.getD (i + j) 0).toNat, by omega⟩
          rw [hq] at hcg qb
          have hfg := hoq.froz (i + j)
          have hcl := carry_le c x y q hc1 hx255 (by omega) (by omega)
          have hst := mul_step Q us vs i j x y q c ((c + (x * y + q)) % 256) ((c + (x * y + q)) / 256) (by omega) hq hy hvq (by omega)
          have hso := hoq.set (i + j) (((c + (x * y + q)) % 256 : Nat) : Int)
          rw [set_snoc_zeros Q _ _ _ (by omega)] at hso
          have hsl : (Q.set (i + j) (((c + (x * y + q)) % 256 : Nat) : Int)).length = i + n2 := by simp [hQl]
          have hsb : Byt (Q.set (i + j) (((c + (x * y + q)) % 256 : Nat) : Int)) := hQb.set _ _ (by omega)
          have hbs := hbq.setCell (p := ⟨w.heap.size, i + j, none⟩) (Nat.le_refl _) (.int .u8 (((c + (x * y + q)) % 256 : Nat) : Int))
          have A1 := hide hst
          have A2 := hide hso
          have A3 := hide hsl
          have A4 := hide hsb
          have A5 := hide hbs
          have hxy : x * y ≤ 65025 := hcl.2
          have A6 := hide hcl.1
          clear c2 hy hq hst hso hsl hsb hbs hcl hQl hQb hoq hvq
          obtain ⟨p, hp⟩ : ∃ p : Nat, x * y = p := ⟨_, rfl⟩
          have hpI : (x : Int) * (y : Int) = (p : Int) := by rw [← hp]; simp
          rw [hp] at hxy A1 A2 A3 A4 A5 A6
          clear hp
          go_wp2
          go_roundw
          case rel => exact ⟨j + 1, (c + (p + q)) / 256, _, by omega, unhide A6, by go_num, by go_num, unhide A3, unhide A4, unhide A2, unhide A1, unhide A5⟩
          case measure => simp [intOf]; omega
        · obtain rfl : j = n2 := by omega
          have hcg := hoq.cell (i + j) (by simp [zeros_len]; omega)
          have hfg := hoq.froz (i + j)
          have hso := hoq.set (i + j) ((c : Nat) : Int)
          rw [show (Q ++ zeros (n1 - i)) = Q ++ zeros (i + j + (n1 - i) - (i + j)) from by congr 2; omega] at hso
          rw [set_zeros Q (i + j) (i + j + (n1 - i)) _ hQl (by omega)] at hso
          rw [show i + j + (n1 - i) - (i + j + 1) = n1 - (i + 1) from by omega] at hso
          have hrow := mul_row Q us vs i j x c hQl (unhide HX) (unhide L2) hvq
          have hql2 : (Q ++ [((c : Nat) : Int)]).length = i + 1 + j := by simp [hQl]; omega
          have hqb2 : Byt (Q ++ [((c : Nat) : Int)]) := hQb.snoc _ (by omega)
          have hbs := hbq.setCell (p := ⟨w.heap.size, i + j, none⟩) (Nat.le_refl _) (.int .u8 ((c : Nat) : Int))
          obtain ⟨u, hu⟩ : ∃ u, u = (Q ++ zeros (n1 - i)).getD (i + j) 0 := ⟨_, rfl⟩
          rw [← hu] at hcg
          have A1 := hide hrow
          have A2 := hide hso
          have A3 := hide hql2
          have A4 := hide hqb2
          have A5 := hide hbs
          clear hu hrow hso hql2 hqb2 hbs hQl hQb hoq hvq
          go_wp2
          go_roundw
          case rel => exact ⟨i + 1, _, by omega, by go_num, unhide A3, unhide A4, unhide A2, unhide A1, unhide A5⟩
          case measure => simp [intOf]; omega
    · obtain rfl : i = n1 := by omega
      rw [Nat.sub_self, show zeros 0 = [] from rfl, List.append_nil] at ho
      rw [List.take_of_length_le (by have := unhide L1; omega)] at hv
      have hsrc := ho.src_all hPb (i + n2) hPl.symm (by unfold maxLen; omega)
      have HC := hide (clip_any _ _ _ _ _ hsrc (by omega))
      have HV2 := hide hv
      clear hsrc ho hv HV hPl hPb HO
      go_wp2_with fail
      refine (unhide HC).mono ?_
      rintro e w3 ⟨⟨A, k, rfl, hs3, hk0, hA⟩, rfl⟩
      go_wp2
      go_ret
      refine ⟨A, k, k, rfl, ?_, New.or hA (New.at _ _ _ (Nat.le_refl _)), hbe⟩
      have := isNat_of_trim hs3 hk0
      rw [unhide HV2] at this
      exact this

theorem IsNat.mul {w : World} {a b : Option Addr} {la lb ca cb m n : Nat} (h1 : IsNat w a la ca m) (h2 : IsNat w b lb cb n) (hm : m < BIG) (hn : n < BIG) :
    Calls Sakg.prog 33 #[.slice a la ca, .slice b lb cb] w (MakesNat w (m * n)) := by
  have := h1.len 200 hm
  have := h2.len 200 hn
  obtain ⟨xs, s1, _, e1, _⟩ := h1
  obtain ⟨ys, s2, _, e2, _⟩ := h2
  rw [← e1, ← e2]
  exact mul_any a b la lb ca cb xs ys w s1 s2 (by omega) (by omega)

end Go.Proofs.YgcsakGreat
