/-
  plain: a world that may be started from is good.
-/
import Derived.Test.YgcsakGreatKpB
import Derived.Test.YgcsakGreatBegV
import Derived.Test.YgcsakGreatNatI
namespace Go.Proofs.YgcsakGreat
set_option linter.unusedVariables false
set_option linter.unusedSimpArgs false

theorem beN_cons (x : Int) (xs : List Int) : beN (x :: xs) = beN xs + 256 ^ xs.length * x.toNat := by
  unfold beN
  rw [List.reverse_cons, val_append, List.length_reverse]
  simp [val]
theorem beN_snoc (xs : List Int) (x : Int) : beN (xs ++ [x]) = x.toNat + 256 * beN xs := by
  unfold beN
  rw [List.reverse_append]
  simp [val]
theorem beN_bound (xs : List Int) (h : Byt xs) : beN xs < 256 ^ xs.length := by
  unfold beN
  have := val_lt xs.reverse (fun x hx => h x (List.mem_reverse.1 hx))
  rwa [List.length_reverse] at this
theorem before_num : ∀ (a b : List Int), Byt a → Byt b → a.length = b.length → beforeB a b = true → beN a < beN b := by
  intro a
  induction a with
  | nil =>
    intro b _ _ hl h
    cases b with
    | nil => rw [before_irrefl] at h; cases h
    | cons y b => simp at hl
  | cons x a ih =>
    intro b ha hb hl h
    cases b with
    | nil => simp at hl
    | cons y b =>
      have hl' : a.length = b.length := by simpa using hl
      have e : ∀ c : List Int, (strOfNums c).toList = c.map (fun z => UInt8.ofNat z.toNat) := fun c => by
        rw [ByteArray.toList_eq, strOfNums_data]
      unfold beforeB at h
      rw [e, e, List.map_cons, List.map_cons, Op.bytesLess, Bool.or_eq_true, Bool.and_eq_true, decide_eq_true_eq, beq_iff_eq] at h
      have hx := ha x (by simp)
      have hy := hb y (by simp)
      have e1 : x.toNat % 2 ^ 8 = x.toNat := Nat.mod_eq_of_lt (by omega)
      have e2 : y.toNat % 2 ^ 8 = y.toNat := Nat.mod_eq_of_lt (by omega)
      rw [beN_cons, beN_cons, hl']
      have ba := beN_bound a (fun z hz => ha z (by simp [hz]))
      rw [hl'] at ba
      rcases h with h | ⟨h1, h2⟩
      · rw [UInt8.lt_iff_toNat_lt, UInt8.toNat_ofNat', UInt8.toNat_ofNat', e1, e2] at h
        have h3 : 256 ^ b.length * (x.toNat + 1) ≤ 256 ^ b.length * y.toNat := Nat.mul_le_mul_left _ h
        rw [Nat.mul_add, Nat.mul_one] at h3
        omega
      · have h3 := congrArg UInt8.toNat h1
        rw [UInt8.toNat_ofNat', UInt8.toNat_ofNat', e1, e2] at h3
        have h4 := ih b (fun z hz => ha z (by simp [hz])) (fun z hz => hb z (by simp [hz])) hl' (by unfold beforeB; rw [e, e]; exact h2)
        rw [h3]
        omega
theorem addFrom_len (s b : List Int) : ∀ (i c : Nat) (D : List Int), (addFrom s b i c D).2.length = i + D.length
  | 0, c, D => by simp [addFrom]
  | i + 1, c, D => by rw [addFrom, addFrom_len s b i]; simp; omega
theorem addFrom_byt (s b : List Int) : ∀ (i c : Nat) (D : List Int), Byt D → Byt (addFrom s b i c D).2
  | 0, c, D, h => h
  | i + 1, c, D, h => by
    rw [addFrom]
    refine addFrom_byt s b i _ _ (fun z hz => ?_)
    rcases List.mem_cons.1 hz with rfl | hz
    · omega
    · exact h z hz
theorem addFrom_val (s b : List Int) : ∀ (i c : Nat) (D : List Int), i ≤ s.length → i ≤ b.length →
    beN (addFrom s b i c D).2 + 256 ^ (i + D.length) * (addFrom s b i c D).1 = beN D + 256 ^ D.length * (c + beN (s.take i) + beN (b.take i))
  | 0, c, D, _, _ => by
    have h0 : beN [] = 0 := rfl
    simp [addFrom, h0]
  | i + 1, c, D, hs, hb => by
    rw [addFrom]
    have ih := addFrom_val s b i ((c + (s.getD i 0).toNat + (b.getD i 0).toNat) / 256) ((((c + (s.getD i 0).toNat + (b.getD i 0).toNat) % 256 : Nat) : Int) :: D) (by omega) (by omega)
    have es : s.take (i + 1) = s.take i ++ [s.getD i 0] := by
      rw [List.take_succ_eq_append_getElem (by omega)]
      simp [List.getD, show i < s.length by omega]
    have eb : b.take (i + 1) = b.take i ++ [b.getD i 0] := by
      rw [List.take_succ_eq_append_getElem (by omega)]
      simp [List.getD, show i < b.length by omega]
    rw [es, eb, beN_snoc, beN_snoc]
    rw [List.length_cons, beN_cons] at ih
    rw [show i + 1 + D.length = i + (D.length + 1) by omega, ih]
    generalize (s.getD i 0).toNat = u
    generalize (b.getD i 0).toNat = v
    generalize beN (s.take i) = S
    generalize beN (b.take i) = T
    have h1 : ((((c + u + v) % 256 : Nat) : Int)).toNat = (c + u + v) % 256 := by omega
    rw [h1, Nat.pow_succ]
    generalize 256 ^ D.length = P
    have h2 : c + (u + 256 * S) + (v + 256 * T) = (c + u + v) % 256 + 256 * ((c + u + v) / 256 + S + T) := by omega
    rw [h2]
    generalize (c + u + v) / 256 + S + T = Q
    generalize (c + u + v) % 256 = R
    rw [Nat.mul_add P R, ← Nat.mul_assoc P 256 Q, Nat.add_assoc]
theorem addW_is {s b : List Int} (hs : IsW s) (hb : IsW b) : IsW (addW s b).2 := ⟨by unfold addW; rw [addFrom_len]; rfl, by unfold addW; exact addFrom_byt _ _ _ _ _ (fun z hz => by cases hz)⟩
theorem addW_val {s b : List Int} (hs : IsW s) (hb : IsW b) (hc : (addW s b).1 = 0) : beN (addW s b).2 = beN s + beN b := by
  have h := addFrom_val s b 32 0 [] (by rw [hs.len]; omega) (by rw [hb.len]; omega)
  have h0 : beN [] = 0 := rfl
  unfold addW at hc ⊢
  rw [hc, List.take_of_length_le (by rw [hs.len]; omega), List.take_of_length_le (by rw [hb.len]; omega), h0] at h
  simpa using h

def balsN (ds : List OAcct) : Nat := (ds.map fun d => beN d.bal).sum
theorem okWs_sum : ∀ (ds : List OAcct) (p : Option (List Int)) (sum : List Int), IsW sum → (∀ o ∈ ds, IsW o.bal) → okWs p sum ds = true → beN sum + balsN ds < 256 ^ 32
  | [], _, sum, hs, _, _ => by
    have := beN_bound sum hs.byt
    rw [hs.len] at this
    simpa [balsN] using this
  | d :: ds, p, sum, hs, hb, h => by
    have hd := hb d (by simp)
    have h2 : (addW sum d.bal).1 = 0 ∧ okWs (some d.addr) (addW sum d.bal).2 ds = true := by
      cases p with
      | none => simp only [okWs, Bool.and_eq_true, decide_eq_true_eq] at h; exact h.2
      | some a => simp only [okWs, Bool.and_eq_true, decide_eq_true_eq] at h; exact h.2.2
    have ih := okWs_sum ds _ _ (addW_is hs hd) (fun o ho => hb o (by simp [ho])) h2.2
    rw [addW_val hs hd h2.1] at ih
    unfold balsN at *
    rw [List.map_cons, List.sum_cons]
    omega
theorem okWs_srt : ∀ (ds : List OAcct) (p : Option (List Int)) (sum : List Int), okWs p sum ds = true → (∀ a, p = some a → ∀ d ∈ ds, beforeB a d.addr = true) ∧ ds.Pairwise (fun x y => beforeB x.addr y.addr = true)
  | [], _, _, _ => ⟨fun _ _ d hd => (by cases hd), List.Pairwise.nil⟩
  | d :: ds, p, sum, h => by
    have h2 : okWs (some d.addr) (addW sum d.bal).2 ds = true := by
      cases p with
      | none => simp only [okWs, Bool.and_eq_true, decide_eq_true_eq] at h; exact h.2.2
      | some a => simp only [okWs, Bool.and_eq_true, decide_eq_true_eq] at h; exact h.2.2.2
    have ih := okWs_srt ds _ _ h2
    refine ⟨fun a ha y hy => ?_, List.Pairwise.cons (fun y hy => ih.1 _ rfl y hy) ih.2⟩
    subst ha
    simp only [okWs, Bool.and_eq_true, decide_eq_true_eq] at h
    rcases List.mem_cons.1 hy with rfl | hy
    · exact h.1
    · exact before_trans h.1 (ih.1 _ rfl y hy)
theorem beN_zero {a : List Int} (h : IsW a) (hz : beN a = 0) : a = zeros 32 := by
  have h1 : val a.reverse = val (zeros 32) := by
    have h2 : val (zeros 32) = 0 := val_zeros 32
    rw [h2]
    exact hz
  have h3 := val_inj a.reverse (zeros 32) (fun x hx => h.byt x (List.mem_reverse.1 hx)) (fun x hx => by rw [List.eq_of_mem_replicate hx]; omega) (by rw [List.length_reverse, h.len, zeros_len]) h1
  have h4 := congrArg List.reverse h3
  rw [List.reverse_reverse] at h4
  rw [h4]
  unfold zeros
  rw [List.reverse_replicate]
theorem okSl_srt : ∀ (ss : List (List Int × List Int)) (p : Option (List Int)), (∀ a, p = some a → IsW a) → (∀ s ∈ ss, IsW s.1 ∧ IsW s.2) → okSl p ss = true → (∀ a, p = some a → ∀ s ∈ ss, beN a < beN s.1) ∧ ss.Pairwise (fun x y => beN x.1 < beN y.1) ∧ (∀ s ∈ ss, beN s.2 ≠ 0)
  | [], _, _, _, _ => ⟨fun _ _ s hs => (by cases hs), List.Pairwise.nil, fun s hs => by cases hs⟩
  | s :: ss, p, hp, hw, h => by
    have hs := hw s (by simp)
    have h2 : okSl (some s.1) ss = true := by
      cases p with
      | none => simp only [okSl, Bool.and_eq_true] at h; exact h.2
      | some a => simp only [okSl, Bool.and_eq_true] at h; exact h.2.2
    have hn : ¬ s.2 = zeros 32 := by
      cases p with
      | none => simp only [okSl, Bool.and_eq_true, Bool.not_eq_true', decide_eq_false_iff_not] at h; exact h.1
      | some a => simp only [okSl, Bool.and_eq_true, Bool.not_eq_true', decide_eq_false_iff_not] at h; exact h.1
    have ih := okSl_srt ss (some s.1) (fun a ha => by cases ha; exact hs.1) (fun t ht => hw t (by simp [ht])) h2
    refine ⟨fun a ha t ht => ?_, List.Pairwise.cons (fun t ht => ih.1 _ rfl t ht) ih.2.1, fun t ht => ?_⟩
    · subst ha
      have ha := hp a rfl
      simp only [okSl, Bool.and_eq_true] at h
      have h3 := before_num a s.1 ha.byt hs.1.byt (by rw [ha.len, hs.1.len]) h.2.1
      rcases List.mem_cons.1 ht with rfl | ht
      · exact h3
      · exact Nat.lt_trans h3 (ih.1 _ rfl t ht)
    · rcases List.mem_cons.1 ht with rfl | ht
      · exact fun h0 => hn (beN_zero hs.2 h0)
      · exact ih.2.2 t ht
theorem goodA_of {o : OAcct} (h : okA o = true) (hn : o.nonce < 256 ^ 8) (hs : ∀ s ∈ o.slots, IsW s.1 ∧ IsW s.2) : GoodA (acctOf o) := by
  have h1 := okA_le o h
  unfold okA at h
  simp only [Bool.and_eq_true, Bool.not_eq_true'] at h
  have h2 := okSl_srt o.slots none (fun a ha => by cases ha) hs h.2.2
  refine ⟨hn, h1.1, fun s hm => ?_, ?_, fun hne => ?_⟩
  · obtain ⟨t, ht, rfl⟩ := List.mem_map.1 hm
    exact ⟨(hs t ht).1.lt, (hs t ht).2.lt, h2.2.2 t ht⟩
  · exact List.pairwise_map.2 h2.2.1
  · by_cases h0 : o.nonce = 0
    · refine .inr (fun hc => ?_)
      have hc' : o.code = [] := hc
      have hsl : 0 < o.slots.length := by
        rcases Nat.eq_zero_or_pos o.slots.length with h' | h'
        · exact absurd (by show o.slots.map _ = []; rw [List.eq_nil_of_length_eq_zero h']; rfl) hne
        · exact h'
      have := h.1
      rw [h0, hc'] at this
      simp [hsl] at this
    · exact .inl h0
theorem sum_acct (ds : List OAcct) : sumB (ds.map acctOf) = balsN ds := by
  unfold sumB balsN
  rw [List.map_map]
  rfl
theorem good_world {ds : List OAcct} (h : worldB ds = true) (hs : Small ds) : GoodD (balsN ds) (ds.map acctOf) ∧ balsN ds < P256 ∧ szA (ds.map acctOf) ≤ 136 := by
  unfold worldB at h
  simp only [Bool.and_eq_true, Bool.not_eq_true', decide_eq_false_iff_not] at h
  have hall := okWs_all ds none (zeros 32) h.2
  have hz : IsW (zeros 32) := zeroW_is
  have h1 := okWs_sum ds none (zeros 32) hz (fun o ho => (hs o ho).2.2.1) h.2
  have h2 := okWs_srt ds none (zeros 32) h.2
  rw [beN_zeros] at h1
  refine ⟨⟨List.pairwise_map.2 h2.2, fun d hd => ?_, fun d hd => ?_, sum_acct ds⟩, by unfold P256; omega, ?_⟩
  · obtain ⟨o, ho, rfl⟩ := List.mem_map.1 hd
    exact (hs o ho).1
  · obtain ⟨o, ho, rfl⟩ := List.mem_map.1 hd
    exact goodA_of (hall o ho) (hs o ho).2.1 (hs o ho).2.2.2
  · have h3 : ∀ (xs : List OAcct), (∀ o ∈ xs, okA o = true) → szA (xs.map acctOf) ≤ 17 * xs.length := by
      intro xs
      induction xs with
      | nil => intro _; simp [szA]
      | cons o xs ih =>
        intro hx
        have h4 := ih (fun y hy => hx y (by simp [hy]))
        have h5 := (okA_le o (hx o (by simp))).2
        rw [List.map_cons, szA_cons, List.length_cons]
        have h6 : (acctOf o).slots.length = o.slots.length := by unfold acctOf; simp
        omega
    have h4 := h3 ds hall
    have h5 := h.1
    omega

end Go.Proofs.YgcsakGreat
