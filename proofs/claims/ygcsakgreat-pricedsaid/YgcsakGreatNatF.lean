/-
  nat.take and nat.Sub.
-/
import Derived.Test.YgcsakGreatNatE
namespace Go.Proofs.YgcsakGreat
set_option linter.unusedVariables false
set_option linter.unusedSimpArgs false
set_option maxRecDepth 100000
open Go.RowKit

/-- nothing but block g has turned, and no block is new -/
structure Only (g : Nat) (w w' : World) : Prop where
  os : w'.os = w.os
  tape : w'.tape = w.tape
  output : w'.output = w.output
  size : w'.heap.size = w.heap.size
  block : ∀ k, k ≠ g → w'.heap[k]? = w.heap[k]?

theorem Only.refl (g : Nat) (w : World) : Only g w w := ⟨rfl, rfl, rfl, rfl, fun _ _ => rfl⟩
theorem Only.trans {g : Nat} {a b c : World} (h : Only g a b) (k : Only g b c) : Only g a c :=
  ⟨k.os.trans h.os, k.tape.trans h.tape, k.output.trans h.output, k.size.trans h.size, fun i hi => (k.block i hi).trans (h.block i hi)⟩
theorem Only.setCell {g : Nat} {a w : World} (h : Only g a w) (j : Nat) (v : Value) : Only g a (w.setCell ⟨g, j, none⟩ v) :=
  h.trans ⟨rfl, rfl, rfl, by simp [World.setCell], fun k hk => heap_setCell_other w _ k v hk⟩
theorem Only.quiet {g : Nat} {a w w' : World} (h : Only g a w) (q : Quiet w w') : Only g a w' := by
  obtain ⟨n, rfl⟩ := q
  exact ⟨h.os, h.tape, h.output, h.size, h.block⟩
theorem Only.below {g : Nat} {w w' : World} (h : Only g w w') (B : Nat) (hB : B ≤ g) : Below B w w' :=
  ⟨h.os, h.tape, h.output, Nat.le_of_eq h.size.symm, fun k hk => h.block k (by omega)⟩
theorem Only.cell {g : Nat} {w w' : World} (h : Only g w w') (p : Addr) (hp : p.block ≠ g) : w'.cell? p = w.cell? p := World.cell?_of_block (h.block _ hp)
theorem Only.src {g : Nat} {w w' : World} (h : Only g w w') {a : Option Addr} {l c : Nat} {xs : List Int} (s : Src w a l c xs) (hne : ∀ x, a = some x → 0 < l → x.block ≠ g) : Src w' a l c xs := by
  refine ⟨s.len_eq, s.le, s.max, s.byt, s.nil, fun hl => ?_⟩
  obtain ⟨b, off, ha, hc⟩ := s.at_ hl
  exact ⟨b, off, ha, fun i hi => (h.cell ⟨b, off + i, none⟩ (hne ⟨b, off, none⟩ ha hl)).trans (hc i hi)⟩
theorem Only.own {g g' : Nat} {t : TypeId} {w w' : World} (h : Only g w w') {xs : List Int} (o : OwnT t w g' xs) (hne : g' ≠ g) : OwnT t w' g' xs := by
  unfold OwnT
  rw [h.block g' hne]
  exact o

theorem set_drop (D us : List Int) (j : Nat) (d : Int) (hD : D.length = j) (h : j < us.length) : (D ++ us.drop j).set j d = (D ++ [d]) ++ us.drop (j + 1) := by
  rw [drop_cons us j h, List.set_append_right _ _ (by omega), hD, Nat.sub_self, List.append_assoc]
  rfl

theorem take_step (D us vs : List Int) (j c x y d c' : Nat) (hD : D.length = j) (hx : us.getD j 0 = (x : Int)) (hy : vs.getD j 0 = (y : Int)) (hv : val D + val (vs.take j) = val (us.take j) + 256 ^ j * c)
    (hd : c + d + y = x + 256 * c') : val (D ++ [(d : Int)]) + val (vs.take (j + 1)) = val (us.take (j + 1)) + 256 ^ (j + 1) * c' := by
  rw [val_append, val_take_succ us, val_take_succ vs, hx, hy, hD]
  simp only [val, Int.toNat_natCast, Nat.mul_zero, Nat.add_zero, Nat.pow_succ]
  generalize 256 ^ j = P at *
  have h2 : P * (c + d + y) = P * (x + 256 * c') := by rw [hd]
  rw [Nat.mul_add, Nat.mul_add, Nat.mul_add, ← Nat.mul_assoc] at h2
  omega

set_option maxHeartbeats 4000000 in
theorem take_any (g n : Nat) (b : Option Addr) (lb cb : Nat) (us vs : List Int) (w : World) (h1 : Own w g us) (hub : Byt us) (hn : us.length = n) (h2 : Src w b lb cb vs) (hne : ∀ x, b = some x → 0 < lb → x.block ≠ g) (hlb : lb ≤ n) (hm : n ≤ 1000000000) :
    Calls Sakg.prog 91 #[.slice (some ⟨g, 0, none⟩) n n, .slice b lb cb] w fun e w' => ∃ (D : List Int) (c : Nat), e = .returned (.int .u16 c) ∧ c ≤ 1 ∧ Own w' g D ∧ D.length = n ∧ Byt D ∧ val D + val vs = val us + 256 ^ n * c ∧ Only g w w' := by
  have H1 := hide h1
  have H2 := hide h2
  have HUB := hide hub
  have HN := hide hn
  have hl2 := hide h2.len_eq
  have hvb := hide h2.byt
  clear h1 h2 hub hn
  go_enter Sakg.func91, Sakg.ntmps91
  go_wp2_with fail
  go_loopw [5, 11] (fun cy i wr => ∃ (j c : Nat) (D : List Int), j ≤ n ∧ c ≤ 1 ∧ i = .int .i64 j ∧ cy = .int .u16 c ∧ D.length = j ∧ Byt D ∧ Own wr g (D ++ us.drop j) ∧ val D + val (vs.take j) = val (us.take j) + 256 ^ j * c ∧ Only g w wr) (fun _ i _ => n - (intOf i).toNat)
  case atStart => exact ⟨0, 0, [], by omega, by omega, rfl, rfl, rfl, (fun x hx => by simp at hx), unhide H1, by simp [val], Only.refl _ _⟩
  case round =>
    obtain ⟨j, c, D, hj, hc1, rfl, rfl, hDl, hDb, ho, hv, hon⟩ := hrel
    have HDL := hide hDl
    have HDB := hide hDb
    have HV := hide hv
    have hul := unhide HN
    by_cases hjl : j < n
    · have hcg := ho.cell j (by simp; omega)
      have hfg := ho.froz j
      have hgu : (D ++ us.drop j).getD j 0 = us.getD j 0 := by
        rw [List.getD_eq_getElem?_getD, List.getElem?_append_right (by omega), hDl, Nat.sub_self, List.getElem?_drop]
        simp
      rw [hgu] at hcg
      have xb := (unhide HUB).get j
      have hset := fun d => ho.set j d
      obtain ⟨x, hx⟩ : ∃ x : Nat, us.getD j 0 = (x : Int) := ⟨(us.getD j 0).toNat, by omega⟩
      rw [hx] at hcg xb
      have HX := hide hx
      have HSET := hide hset
      clear hDl hDb hv hgu hx ho hul hset
      have good : ∀ (y d c' : Nat), vs.getD j 0 = (y : Int) → c + d + y = x + 256 * c' → d ≤ 255 → c' ≤ 1 →
          ∃ (D' : List Int), D'.length = j + 1 ∧ Byt D' ∧ Own (wr.setCell ⟨g, j, none⟩ (.int .u8 (d : Int))) g (D' ++ us.drop (j + 1)) ∧ val D' + val (vs.take (j + 1)) = val (us.take (j + 1)) + 256 ^ (j + 1) * c' ∧ Only g w (wr.setCell ⟨g, j, none⟩ (.int .u8 (d : Int))) := by
        intro y d c' hy hd hd2 hc'
        have hul := unhide HN
        refine ⟨D ++ [(d : Int)], by simp [unhide HDL], (unhide HDB).snoc _ (by omega), ?_, take_step D us vs j c x y d c' (unhide HDL) (unhide HX) hy (unhide HV) hd, hon.setCell j _⟩
        have := unhide HSET (d : Int)
        rw [set_drop D us j _ (unhide HDL) (by omega)] at this
        exact this
      have GOOD := hide good
      clear good
      by_cases hjb : j < lb
      · obtain ⟨p2, o2, rfl, c2⟩ := (unhide H2).at_ (by omega)
        have x2 : wr.cell? ⟨p2, o2 + j, none⟩ = some (.int .u8 (vs.getD j 0)) := (hon.cell ⟨p2, o2 + j, none⟩ (hne ⟨p2, o2, none⟩ rfl (by omega))).trans (c2 j hjb)
        have yb := (unhide hvb).get j
        obtain ⟨y, hy⟩ : ∃ y : Nat, vs.getD j 0 = (y : Int) := ⟨(vs.getD j 0).toNat, by omega⟩
        rw [hy] at x2 yb
        clear c2
        by_cases hb : x < c + y
        · obtain ⟨d, hd⟩ : ∃ d, c + d + y = x + 256 * 1 := ⟨x + 256 - c - y, by omega⟩
          obtain ⟨D', a1, a2, a3, a4, a5⟩ := unhide GOOD y d 1 hy hd (by omega) (by omega)
          have A3 := hide a3
          have A4 := hide a4
          have A5 := hide a5
          have A2 := hide a2
          have A1 := hide a1
          have hd3 : (x : Int) + 256 - ((c : Int) + (y : Int)) = (d : Int) := by omega
          have d1 : decide ((x : Int) < (c : Int) + (y : Int)) = true := decide_eq_true (by omega)
          clear a1 a2 a3 a4 a5 hy
          go_wp2
          go_roundw
          case rel => exact ⟨j + 1, 1, D', by omega, by omega, by go_num, rfl, unhide A1, unhide A2, unhide A3, unhide A4, unhide A5⟩
          case measure => simp [intOf]; omega
        · obtain ⟨d, hd⟩ : ∃ d, c + d + y = x + 256 * 0 := ⟨x - c - y, by omega⟩
          obtain ⟨D', a1, a2, a3, a4, a5⟩ := unhide GOOD y d 0 hy hd (by omega) (by omega)
          have A3 := hide a3
          have A4 := hide a4
          have A5 := hide a5
          have A2 := hide a2
          have A1 := hide a1
          have hd3 : (x : Int) - ((c : Int) + (y : Int)) = (d : Int) := by omega
          have d1 : decide ((x : Int) < (c : Int) + (y : Int)) = false := decide_eq_false (by omega)
          clear a1 a2 a3 a4 a5 hy
          go_wp2
          go_roundw
          case rel => exact ⟨j + 1, 0, D', by omega, by omega, by go_num, rfl, unhide A1, unhide A2, unhide A3, unhide A4, unhide A5⟩
          case measure => simp [intOf]; omega
      · have hy : vs.getD j 0 = ((0 : Nat) : Int) := by rw [List.getD_eq_getElem?_getD, List.getElem?_eq_none (by have := unhide hl2; omega)]; rfl
        by_cases hb : x < c
        · obtain ⟨d, hd⟩ : ∃ d, c + d + 0 = x + 256 * 1 := ⟨x + 256 - c, by omega⟩
          obtain ⟨D', a1, a2, a3, a4, a5⟩ := unhide GOOD 0 d 1 hy hd (by omega) (by omega)
          have A3 := hide a3
          have A4 := hide a4
          have A5 := hide a5
          have A2 := hide a2
          have A1 := hide a1
          have hd3 : (x : Int) + 256 - (c : Int) = (d : Int) := by omega
          have d1 : decide ((x : Int) < (c : Int)) = true := decide_eq_true (by omega)
          clear a1 a2 a3 a4 a5 hy
          go_wp2
          go_roundw
          case rel => exact ⟨j + 1, 1, D', by omega, by omega, by go_num, rfl, unhide A1, unhide A2, unhide A3, unhide A4, unhide A5⟩
          case measure => simp [intOf]; omega
        · obtain ⟨d, hd⟩ : ∃ d, c + d + 0 = x + 256 * 0 := ⟨x - c, by omega⟩
          obtain ⟨D', a1, a2, a3, a4, a5⟩ := unhide GOOD 0 d 0 hy hd (by omega) (by omega)
          have A3 := hide a3
          have A4 := hide a4
          have A5 := hide a5
          have A2 := hide a2
          have A1 := hide a1
          have hd3 : (x : Int) - (c : Int) = (d : Int) := by omega
          have d1 : decide ((x : Int) < (c : Int)) = false := decide_eq_false (by omega)
          clear a1 a2 a3 a4 a5 hy
          go_wp2
          go_roundw
          case rel => exact ⟨j + 1, 0, D', by omega, by omega, by go_num, rfl, unhide A1, unhide A2, unhide A3, unhide A4, unhide A5⟩
          case measure => simp [intOf]; omega
    · obtain rfl : j = n := by omega
      rw [List.drop_eq_nil_of_le (by omega), List.append_nil] at ho
      rw [List.take_of_length_le (by have := unhide hl2; omega), List.take_of_length_le (by omega)] at hv
      have HO := hide ho
      have HV2 := hide hv
      clear ho hv HV hDl hDb hul
      go_wp2
      go_ret
      exact ⟨D, c, rfl, hc1, unhide HO, unhide HDL, unhide HDB, unhide HV2, hon⟩

set_option maxHeartbeats 1000000 in
theorem take_nil (b : Option Addr) (lb cb : Nat) (w : World) :
    Calls Sakg.prog 91 #[.slice none 0 0, .slice b lb cb] w fun e w' => e = .returned (.int .u16 0) ∧ w = w' := by
  go_enter Sakg.func91, Sakg.ntmps91
  go_wp2_with fail
  go_loop [5, 11] (fun cy i => cy = .int .u16 0 ∧ i = .int .i64 0) (fun _ _ => 0)
  case atStart => exact ⟨rfl, rfl⟩
  case round =>
    obtain ⟨rfl, rfl⟩ := hrel
    go_wp2
    go_ret
    exact ⟨rfl, rfl⟩

set_option maxHeartbeats 2000000 in
theorem sub_any (a b : Option Addr) (la lb ca cb : Nat) (xs ys : List Int) (w : World) (h1 : Src w a la ca xs) (h2 : Src w b lb cb ys) (hm : la ≤ 100000000) (hm2 : lb ≤ 100000000) :
    Calls Sakg.prog 35 #[.slice a la ca, .slice b lb cb] w fun e w' => ∃ A k c, e = .returned (.tuple #[.slice A k c, .bool (decide (val ys ≤ val xs))]) ∧ IsNat w' A k c (val xs - val ys) ∧ New w A ∧ Below w.heap.size w w' := by
  have HCMP := hide (cmp_any a b la lb ca cb xs ys w h1 h2 (by omega) (by omega))
  have H1 := hide h1
  have H2 := hide h2
  have hl1 := hide h1.len_eq
  have hl2 := hide h2.len_eq
  clear h1 h2
  by_cases hlt : val xs < val ys
  · rw [cmpI_lt hlt] at HCMP
    have hd : decide (val ys ≤ val xs) = false := decide_eq_false (by omega)
    have hz : val xs - val ys = 0 := by omega
    rw [hd, hz]
    clear hd hz
    go_enter Sakg.func35, Sakg.ntmps35
    go_wp2_with fail
    refine (unhide HCMP).mono ?_
    rintro e w1 ⟨rfl, hq⟩
    go_wp2
    go_ret2
    exact ⟨none, 0, 0, rfl, IsNat.nil _, New.nil _, hq.below _⟩
  · have hge : (0 : Int) ≤ cmpI (val xs) (val ys) := by unfold cmpI; rw [if_neg hlt]; split <;> omega
    have hd : decide (val ys ≤ val xs) = true := decide_eq_true (by omega)
    rw [hd]
    clear hd
    have d0 : decide (cmpI (val xs) (val ys) < 0) = false := decide_eq_false (by omega)
    generalize cmpI (val xs) (val ys) = cr at HCMP hge d0
    go_enter Sakg.func35, Sakg.ntmps35
    go_wp2_with fail
    refine (unhide HCMP).mono ?_
    rintro e w1 ⟨rfl, hq⟩
    have s1 := (unhide H1).kept (hq.below _)
    have s2 := (unhide H2).kept (hq.below _)
    have hs := hide hq.size
    have hb1 := hq.below w.heap.size
    have S1 := hide s1
    have S2 := hide s2
    clear s1 s2 hq HCMP
    go_wp2_with fail
    refine (norm_own _ _ _ _ _ (unhide S1) (by omega)).mono ?_
    rintro e w2 ⟨A, k, rfl, ⟨rfl, rfl, ht, rfl⟩ | ⟨rfl, hk, h0, ho, hz, hbe⟩⟩
    · have hv0 : val xs = 0 := by rw [← val_trimL, ht]; rfl
      have HV := hide hv0
      clear ht hv0
      go_wp2_with fail
      refine (trim_any _ _ _ _ _ (unhide S2) (by omega)).mono ?_
      rintro e w3 ⟨⟨k2, rfl, s3⟩, rfl⟩
      clear s3
      go_wp2_with fail
      refine (take_nil _ _ _ _).mono ?_
      rintro e w3 ⟨rfl, rfl⟩
      go_wp2_with fail
      refine (clip_any _ _ _ [] _ (Src.ofNil _) (by omega)).mono ?_
      rintro e w3 ⟨⟨A, k, rfl, s4, hA, hAo⟩, rfl⟩
      go_wp2
      go_ret2
      refine ⟨A, k, k, rfl, ?_, New.or hAo (New.nil _), hb1⟩
      have := isNat_of_trim s4 hA
      have hv := unhide HV
      rw [show val xs - val ys = val [] from by simp [val]; omega]
      exact this
    · have hub := trimL_byt (unhide H1).byt
      have htl := trimL_len xs
      have hll := unhide hl1
      have hvx := val_trimL xs
      have hm3 : k ≤ 100000000 := by omega
      generalize trimL xs = us at *
      have HVX := hide hvx
      have HUB := hide hub
      have HK := hide hk
      have HO := hide ho
      have HZ := hide hz
      have S2' := hide ((unhide S2).kept hbe)
      have lt2 := hide ((unhide S2).lt)
      clear hvx hub hk ho htl hll hz
      go_wp2_with fail
      refine (trim_any _ _ _ _ _ (unhide S2') (by omega)).mono ?_
      rintro e w3 ⟨⟨k2, rfl, s3⟩, rfl⟩
      have hvy := val_trimL ys
      have l3 := s3.len_eq
      have hle : k2 ≤ k := by
        rcases Nat.lt_or_ge k k2 with h | h
        · exfalso
          have := val_lt_len us (trimL ys) (unhide HUB) s3.byt (trimL_idem ys) (by have := unhide HK; omega)
          have := unhide HVX
          omega
        · exact h
      have S3 := hide s3
      have HVY := hide hvy
      clear hvy l3 s3
      go_wp2_with fail
      refine (take_any _ _ _ _ _ us (trimL ys) _ (unhide HO) (unhide HUB) (unhide HK).symm (unhide S3) ?_ hle (by omega)).mono ?_
      · intro x hx hl
        have hx1 := (unhide S3).lt x hx hl
        obtain ⟨b', off', ha', hc'⟩ := (unhide S3).at_ hl
        rw [hx] at ha'
        obtain rfl := Option.some.inj ha'
        have hlb : 0 < lb := by
          have := trimL_len ys
          have := unhide hl2
          have := (unhide S3).len_eq
          omega
        have h9 := unhide lt2 _ hx hlb
        simp only at h9 ⊢
        omega
      · rintro e w4 ⟨D, c, rfl, hc1, hoD, hDl, hDb, hvD, hon⟩
        have hvk : val D = val xs - val ys := by
          have h1 := unhide HVX
          have h2 := unhide HVY
          have h3 := val_lt D hDb
          rw [hDl] at h3
          rcases Nat.lt_or_ge 0 c with hc | hc
          · exfalso
            obtain rfl : c = 1 := by omega
            omega
          · obtain rfl : c = 0 := by omega
            omega
        have hsD := hoD.src_all hDb k hDl.symm (by unfold maxLen; omega)
        have HC := hide (clip_any _ _ _ _ _ hsD (by omega))
        have HVK := hide hvk
        clear hoD hDl hDb hvD hvk hsD
        go_wp2_with fail
        refine (unhide HC).mono ?_
        rintro e w5 ⟨⟨A, k5, rfl, s5, hA, hAo⟩, rfl⟩
        go_wp2
        go_ret2
        refine ⟨A, k5, k5, rfl, ?_, New.or hAo (New.at _ _ _ (by have := unhide hs; omega)), (hb1.trans (hbe.mono (by have := unhide hs; omega))).trans (hon.below _ (by have := unhide hs; omega))⟩
        have := isNat_of_trim s5 hA
        rw [unhide HVK] at this
        exact this

theorem IsNat.sub {w : World} {a b : Option Addr} {la lb ca cb m n : Nat} (h1 : IsNat w a la ca m) (h2 : IsNat w b lb cb n) (hm : m < BIG) (hn : n < BIG) :
    Calls Sakg.prog 35 #[.slice a la ca, .slice b lb cb] w fun e w' => ∃ A k c, e = .returned (.tuple #[.slice A k c, .bool (decide (n ≤ m))]) ∧ IsNat w' A k c (m - n) ∧ New w A ∧ Below w.heap.size w w' := by
  have := h1.len 200 hm
  have := h2.len 200 hn
  obtain ⟨xs, s1, _, e1, _⟩ := h1
  obtain ⟨ys, s2, _, e2, _⟩ := h2
  rw [← e1, ← e2]
  exact sub_any a b la lb ca cb xs ys w s1 s2 (by omega) (by omega)

end Go.Proofs.YgcsakGreat
