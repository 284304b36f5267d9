/-
  plain: the accounts' order, their sum, their number; what put does to them.
-/
import Derived.Test.YgcsakGreatKsA
import Derived.Test.YgcsakGreatBegX
namespace Go.Proofs.YgcsakGreat
set_option linter.unusedVariables false
set_option linter.unusedSimpArgs false

theorem bl_irrefl : ∀ x : List UInt8, Op.bytesLess x x = false
  | [] => rfl
  | a :: x => by rw [Op.bytesLess, bl_irrefl x]; simp
theorem bl_trans : ∀ x y z : List UInt8, Op.bytesLess x y = true → Op.bytesLess y z = true → Op.bytesLess x z = true
  | [], [], _, h, _ => by simp [Op.bytesLess] at h
  | _ :: _, [], _, h, _ => by simp [Op.bytesLess] at h
  | _, _ :: _, [], _, h => by simp [Op.bytesLess] at h
  | [], _ :: _, _ :: _, _, _ => by simp [Op.bytesLess]
  | a :: x, b :: y, c :: z, h, k => by
    simp only [Op.bytesLess, Bool.or_eq_true, decide_eq_true_eq, Bool.and_eq_true, beq_iff_eq] at h k ⊢
    rcases h with h | ⟨rfl, h⟩
    · rcases k with k | ⟨rfl, k⟩
      · exact .inl (UInt8.lt_trans h k)
      · exact .inl h
    · rcases k with k | ⟨rfl, k⟩
      · exact .inl k
      · exact .inr ⟨rfl, bl_trans x y z h k⟩
theorem bl_total : ∀ x y : List UInt8, Op.bytesLess x y = false → Op.bytesLess y x = false → x = y
  | [], [], _, _ => rfl
  | [], _ :: _, h, _ => by simp [Op.bytesLess] at h
  | _ :: _, [], _, h => by simp [Op.bytesLess] at h
  | a :: x, b :: y, h, k => by
    rw [Op.bytesLess, Bool.or_eq_false_iff] at h k
    have h1 : ¬ a < b := by simpa using h.1
    have k1 : ¬ b < a := by simpa using k.1
    have hab : a = b := UInt8.le_antisymm (UInt8.not_lt.1 k1) (UInt8.not_lt.1 h1)
    subst hab
    have h2 := h.2
    have k2 := k.2
    simp at h2 k2
    rw [bl_total x y h2 k2]

theorem nums_inj {a b : List Int} (ha : Byt a) (hb : Byt b) (h : (strOfNums a).toList = (strOfNums b).toList) : a = b := by
  rw [ByteArray.toList_eq, ByteArray.toList_eq, strOfNums_data, strOfNums_data] at h
  induction a generalizing b with
  | nil => cases b with
    | nil => rfl
    | cons y b => simp at h
  | cons x a ih => cases b with
    | nil => simp at h
    | cons y b =>
      simp only [List.map_cons, List.cons.injEq] at h
      obtain ⟨h1, h2⟩ := h
      have hx := ha x (by simp)
      have hy := hb y (by simp)
      have h3 := congrArg UInt8.toNat h1
      rw [UInt8.toNat_ofNat', UInt8.toNat_ofNat'] at h3
      have hxy : x = y := by
        have e1 : x.toNat % 2 ^ 8 = x.toNat := Nat.mod_eq_of_lt (by omega)
        have e2 : y.toNat % 2 ^ 8 = y.toNat := Nat.mod_eq_of_lt (by omega)
        omega
      rw [hxy, ih (fun z hz => ha z (by simp [hz])) (fun z hz => hb z (by simp [hz])) h2]
theorem before_irrefl (a : List Int) : beforeB a a = false := bl_irrefl _
theorem before_trans {a b c : List Int} (h : beforeB a b = true) (k : beforeB b c = true) : beforeB a c = true := bl_trans _ _ _ h k
theorem before_total {a b : List Int} (ha : IsAddr a) (hb : IsAddr b) (h : beforeB a b = false) (hn : a ≠ b) : beforeB b a = true := by
  cases hk : beforeB b a with
  | true => rfl
  | false => exact absurd (nums_inj ha.byt hb.byt (bl_total _ _ h hk)) hn
theorem before_ne {a b : List Int} (h : beforeB a b = true) : a ≠ b := fun e => by rw [e, before_irrefl] at h; cases h

def Srt (ds : List YAcct) : Prop := ds.Pairwise (fun x y => beforeB x.addr y.addr = true)
def sumB (ds : List YAcct) : Nat := (ds.map YAcct.bal).sum
def szA (ds : List YAcct) : Nat := (ds.map fun d => 1 + d.slots.length).sum
theorem sumB_cons (x : YAcct) (ds : List YAcct) : sumB (x :: ds) = x.bal + sumB ds := by simp [sumB]
theorem szA_cons (x : YAcct) (ds : List YAcct) : szA (x :: ds) = 1 + x.slots.length + szA ds := by simp [szA]
theorem szA_nil : szA [] = 0 := rfl
theorem sumB_nil : sumB [] = 0 := rfl
theorem szA_ge (ds : List YAcct) : ds.length ≤ szA ds := by
  induction ds with
  | nil => exact Nat.le_refl _
  | cons x ds ih => rw [szA_cons, List.length_cons]; omega
theorem szA_slots {ds : List YAcct} {d : YAcct} (h : d ∈ ds) : d.slots.length ≤ szA ds := by
  induction ds with
  | nil => simp at h
  | cons x ds ih =>
    rw [szA_cons]
    rcases List.mem_cons.1 h with rfl | h
    · omega
    · have := ih h; omega
theorem sumB_mem {ds : List YAcct} {d : YAcct} (h : d ∈ ds) : d.bal ≤ sumB ds := by
  induction ds with
  | nil => simp at h
  | cons x ds ih =>
    rw [sumB_cons]
    rcases List.mem_cons.1 h with rfl | h
    · omega
    · have := ih h; omega
theorem sumB_look (ds : List YAcct) (a : List Int) : (lookY ds a).bal ≤ sumB ds := by
  rcases lookY_mem ds a with h | h
  · exact sumB_mem h
  · rw [h]; exact Nat.zero_le _
theorem szA_look (ds : List YAcct) (a : List Int) : (lookY ds a).slots.length ≤ szA ds := by
  rcases lookY_mem ds a with h | h
  · exact szA_slots h
  · rw [h]; exact Nat.zero_le _
theorem lookY_cons_ne {x : YAcct} {ds : List YAcct} {a : List Int} (h : x.addr ≠ a) : lookY (x :: ds) a = lookY ds a := by rw [lookY, if_neg h]
theorem lookY_cons_eq {x : YAcct} {ds : List YAcct} {a : List Int} (h : x.addr = a) : lookY (x :: ds) a = x := by rw [lookY, if_pos h]

theorem putL_true (d : YAcct) : ∀ (ds : List YAcct), Srt ds → Srt (putL d true ds) ∧ sumB (putL d true ds) + (lookY ds d.addr).bal = sumB ds ∧ szA (putL d true ds) ≤ szA ds ∧ szA (putL d true ds) + (lookY ds d.addr).slots.length ≤ szA ds ∧ ((∀ y ∈ ds, y.addr ≠ d.addr) → putL d true ds = ds) ∧ (∀ y ∈ putL d true ds, y ∈ ds ∧ y.addr ≠ d.addr)
  | [], _ => ⟨List.Pairwise.nil, rfl, Nat.le_refl _, Nat.le_refl _, fun _ => rfl, fun y hy => by simp [putL] at hy⟩
  | x :: ds, h => by
    obtain ⟨hx, hs⟩ := List.pairwise_cons.1 h
    obtain ⟨i1, i2, i3, i4, i5, i6⟩ := putL_true d ds hs
    have e : putL d true (x :: ds) = (if x.addr = d.addr then [] else [x]) ++ putL d true ds := by rw [putL]; simp
    by_cases hxd : x.addr = d.addr
    · have hno : ∀ y ∈ ds, y.addr ≠ d.addr := fun y hy he => before_ne (hx y hy) (hxd.trans he.symm)
      have e2 : putL d true (x :: ds) = ds := by rw [e, if_pos hxd, List.nil_append, i5 hno]
      refine ⟨by rw [e2]; exact hs, ?_, ?_, ?_, fun h' => absurd hxd (h' x (by simp)), fun y hy => ?_⟩
      · rw [e2, lookY_cons_eq hxd, sumB_cons]; omega
      · rw [e2, szA_cons]; omega
      · rw [e2, lookY_cons_eq hxd, szA_cons]; omega
      · rw [e2] at hy
        exact ⟨by simp [hy], hno y hy⟩
    · have e2 : putL d true (x :: ds) = x :: putL d true ds := by rw [e, if_neg hxd]; rfl
      refine ⟨?_, ?_, ?_, ?_, fun h' => ?_, fun y hy => ?_⟩
      · rw [e2]
        exact List.pairwise_cons.2 ⟨fun y hy => hx y (i6 y hy).1, i1⟩
      · rw [e2, lookY_cons_ne hxd, sumB_cons, sumB_cons]; omega
      · rw [e2, szA_cons, szA_cons]; omega
      · rw [e2, lookY_cons_ne hxd, szA_cons, szA_cons]; omega
      · rw [e2, i5 (fun y hy => h' y (by simp [hy]))]
      · rw [e2] at hy
        rcases List.mem_cons.1 hy with rfl | hy
        · exact ⟨by simp, hxd⟩
        · exact ⟨by simp [(i6 y hy).1], (i6 y hy).2⟩

theorem putL_false (d : YAcct) (hd : IsAddr d.addr) : ∀ (ds : List YAcct), Srt ds → (∀ y ∈ ds, IsAddr y.addr) → Srt (putL d false ds) ∧ sumB (putL d false ds) + (lookY ds d.addr).bal = sumB ds + d.bal ∧ szA (putL d false ds) + (lookY ds d.addr).slots.length ≤ szA ds + (1 + d.slots.length) ∧ lookY (putL d false ds) d.addr = d
  | [], _, _ => by
    have e : putL d false [] = [d] := rfl
    rw [e]
    refine ⟨List.pairwise_singleton _ _, by simp [sumB, lookY, zeroAcct], by simp [szA, lookY, zeroAcct], by rw [lookY_cons_eq rfl]⟩
  | x :: ds, h, ha => by
    obtain ⟨hx, hs⟩ := List.pairwise_cons.1 h
    cases hb : beforeB x.addr d.addr with
    | true =>
      obtain ⟨i1, i2, i3, i4⟩ := putL_false d hd ds hs (fun y hy => ha y (by simp [hy]))
      have hxd := before_ne hb
      have e2 : putL d false (x :: ds) = x :: putL d false ds := by rw [putL, hb, if_neg hxd]; rfl
      refine ⟨?_, ?_, ?_, ?_⟩
      · rw [e2]
        refine List.pairwise_cons.2 ⟨fun y hy => ?_, i1⟩
        rcases putL_mem d ds _ y hy with rfl | hy
        · exact hb
        · exact hx y hy
      · rw [e2, lookY_cons_ne hxd, sumB_cons, sumB_cons]; omega
      · rw [e2, lookY_cons_ne hxd, szA_cons, szA_cons]; omega
      · rw [e2, lookY_cons_ne hxd, i4]
    | false =>
      obtain ⟨i1, i2, i3, i4, i5, i6⟩ := putL_true d (x :: ds) h
      have e0 : putL d true (x :: ds) = (if x.addr = d.addr then [] else [x]) ++ putL d true ds := by rw [putL]; simp
      have e2 : putL d false (x :: ds) = d :: putL d true (x :: ds) := by
        rw [e0, putL, hb]
        rfl
      refine ⟨?_, ?_, ?_, ?_⟩
      · rw [e2]
        refine List.pairwise_cons.2 ⟨fun y hy => ?_, i1⟩
        obtain ⟨hy1, hy2⟩ := i6 y hy
        have hdx : x.addr ≠ d.addr → beforeB d.addr x.addr = true := before_total (ha x (by simp)) hd hb
        rcases List.mem_cons.1 hy1 with rfl | hy1
        · exact hdx hy2
        · by_cases hxd : x.addr = d.addr
          · have := hx y hy1; rwa [hxd] at this
          · exact before_trans (hdx hxd) (hx y hy1)
      · rw [e2, sumB_cons]; omega
      · rw [e2, szA_cons]; omega
      · rw [e2, lookY_cons_eq rfl]

/-- put, plainly -/
theorem putY_srt {ds : List YAcct} {d : YAcct} (hd : IsAddr d.addr) (h : Srt ds) (ha : ∀ y ∈ ds, IsAddr y.addr) : Srt (putY ds d) := by
  unfold putY
  cases emptyY d && decide (d.slots.length = 0) with
  | true => exact (putL_true d ds h).1
  | false => exact (putL_false d hd ds h ha).1
theorem putY_sum {ds : List YAcct} {d : YAcct} (hd : IsAddr d.addr) (h : Srt ds) (ha : ∀ y ∈ ds, IsAddr y.addr) : sumB (putY ds d) + (lookY ds d.addr).bal = sumB ds + d.bal := by
  unfold putY
  cases hq : emptyY d && decide (d.slots.length = 0) with
  | true =>
    rw [(putL_true d ds h).2.1]
    have : d.bal = 0 := by
      unfold emptyY at hq
      simp at hq
      exact hq.1.1.2
    omega
  | false => exact (putL_false d hd ds h ha).2.1
theorem putY_sz {ds : List YAcct} {d : YAcct} (hd : IsAddr d.addr) (h : Srt ds) (ha : ∀ y ∈ ds, IsAddr y.addr) : szA (putY ds d) + (lookY ds d.addr).slots.length ≤ szA ds + (1 + d.slots.length) := by
  unfold putY
  cases hq : emptyY d && decide (d.slots.length = 0) with
  | true => have := (putL_true d ds h).2.2.2.1; omega
  | false => exact (putL_false d hd ds h ha).2.2.1
theorem putY_look {ds : List YAcct} {d : YAcct} (hd : IsAddr d.addr) (h : Srt ds) (ha : ∀ y ∈ ds, IsAddr y.addr) (hl : d.nonce ≠ 0 ∨ d.code ≠ []) : lookY (putY ds d) d.addr = d := by
  unfold putY
  have hq : (emptyY d && decide (d.slots.length = 0)) = false := by
    have : emptyY d = false := by
      unfold emptyY
      rcases hl with hl | hl
      · simp [hl]
      · have : ¬ d.code.length = 0 := fun e => hl (List.length_eq_zero_iff.1 e)
        simp [this]
    rw [this]; rfl
  rw [hq]
  exact (putL_false d hd ds h ha).2.2.2

/-- an account's numbers -/
structure GoodA (d : YAcct) : Prop where
  non : d.nonce < 256 ^ 8
  code : d.code.length ≤ 256
  slots : ∀ s ∈ d.slots, s.1 < P256 ∧ s.2 < P256 ∧ s.2 ≠ 0
  sorted : d.slots.Pairwise (fun x y => x.1 < y.1)
  live : d.slots ≠ [] → d.nonce ≠ 0 ∨ d.code ≠ []
theorem GoodA.zero (a : List Int) : GoodA (zeroAcct a) := ⟨Nat.pow_pos (by omega), by simp [zeroAcct], fun s hs => by simp [zeroAcct] at hs, List.Pairwise.nil, fun h => absurd rfl h⟩
structure GoodD (B : Nat) (ds : List YAcct) : Prop where
  srt : Srt ds
  addr : ∀ d ∈ ds, IsAddr d.addr
  all : ∀ d ∈ ds, GoodA d
  sum : sumB ds = B
theorem GoodD.look {B : Nat} {ds : List YAcct} (h : GoodD B ds) (a : List Int) : GoodA (lookY ds a) := by
  rcases lookY_mem ds a with hm | hm
  · exact h.all _ hm
  · rw [hm]; exact GoodA.zero a
theorem GoodD.bal {B : Nat} {ds : List YAcct} (h : GoodD B ds) (a : List Int) : (lookY ds a).bal ≤ B := by rw [← h.sum]; exact sumB_look ds a
theorem GoodD.put {B B' : Nat} {ds : List YAcct} (h : GoodD B ds) {d : YAcct} (hd : IsAddr d.addr) (hg : GoodA d) (hB : B' + (lookY ds d.addr).bal = B + d.bal) : GoodD B' (putY ds d) := by
  refine ⟨putY_srt hd h.srt h.addr, fun x hx => ?_, fun x hx => ?_, ?_⟩
  · rcases putY_mem ds d x hx with rfl | hm
    · exact hd
    · exact h.addr x hm
  · rcases putY_mem ds d x hx with rfl | hm
    · exact hg
    · exact h.all x hm
  · have h1 := putY_sum hd h.srt h.addr
    have h2 := h.sum
    omega
theorem nonce_big {n : Nat} (h : n < 256 ^ 8) : n < BIG := Nat.lt_of_lt_of_le h (big_pow 8 (by omega))
theorem bal_big {n B : Nat} (h : n ≤ B) (hB : B < P256) : n < BIG := Nat.lt_of_le_of_lt h (Nat.lt_trans hB p256_lt)
theorem GoodD.bnd {B : Nat} {ds : List YAcct} (h : GoodD B ds) (hB : B < P256) : Bnd ds := fun d hd => ⟨nonce_big (h.all d hd).non, bal_big (by rw [← h.sum]; exact sumB_mem hd) hB⟩
theorem GoodD.balK {B : Nat} {ds : List YAcct} (h : GoodD B ds) (hB : B < P256) : Bal P256 ds := fun d hd => Nat.lt_of_le_of_lt (by rw [← h.sum]; exact sumB_mem hd) hB

/-- it has a nonce or a code -/
def Live (ds : List YAcct) (a : List Int) : Prop := (lookY ds a).nonce ≠ 0 ∨ (lookY ds a).code ≠ []
theorem Live.put {B : Nat} {ds : List YAcct} (h : GoodD B ds) {d : YAcct} (hd : IsAddr d.addr) (hl : Live ds d.addr → d.nonce ≠ 0 ∨ d.code ≠ []) (a : List Int) (ha : Live ds a) : Live (putY ds d) a := by
  unfold Live
  by_cases he : d.addr = a
  · subst he
    have h1 := hl ha
    rw [putY_look hd h.srt h.addr h1]
    exact h1
  · rw [lookY_putY ds d a he]; exact ha
theorem lookY_isAddr (ds : List YAcct) (a : List Int) (ha : IsAddr a) : IsAddr (lookY ds a).addr := by rw [lookY_addr]; exact ha

/-- setBalance -/
def balY (ds : List YAcct) (a : List Int) (m : Nat) : List YAcct := putY ds { lookY ds a with bal := m }
def nonY (ds : List YAcct) (a : List Int) (m : Nat) : List YAcct := putY ds { lookY ds a with nonce := m }
def codY (ds : List YAcct) (a : List Int) (xs : List Int) : List YAcct := putY ds { lookY ds a with code := xs }
theorem GoodD.balY {B B' : Nat} {ds : List YAcct} (h : GoodD B ds) {a : List Int} (ha : IsAddr a) {m : Nat} (hB : B' + (lookY ds a).bal = B + m) : GoodD B' (balY ds a m) := by
  have g := h.look a
  refine h.put (d := { lookY ds a with bal := m }) (lookY_isAddr ds a ha) ⟨g.non, g.code, g.slots, g.sorted, g.live⟩ ?_
  show B' + (lookY ds (lookY ds a).addr).bal = B + m
  rw [lookY_addr]; exact hB
theorem GoodD.nonY {B : Nat} {ds : List YAcct} (h : GoodD B ds) {a : List Int} (ha : IsAddr a) {m : Nat} (hm : m < 256 ^ 8) (h0 : m ≠ 0) : GoodD B (nonY ds a m) := by
  have g := h.look a
  refine h.put (d := { lookY ds a with nonce := m }) (lookY_isAddr ds a ha) ⟨hm, g.code, g.slots, g.sorted, fun _ => .inl h0⟩ ?_
  show B + (lookY ds (lookY ds a).addr).bal = B + (lookY ds a).bal
  rw [lookY_addr]
theorem GoodD.codY {B : Nat} {ds : List YAcct} (h : GoodD B ds) {a : List Int} (ha : IsAddr a) {xs : List Int} (hm : xs.length ≤ 256) (h0 : xs ≠ []) : GoodD B (codY ds a xs) := by
  have g := h.look a
  refine h.put (d := { lookY ds a with code := xs }) (lookY_isAddr ds a ha) ⟨g.non, hm, g.slots, g.sorted, fun _ => .inr h0⟩ ?_
  show B + (lookY ds (lookY ds a).addr).bal = B + (lookY ds a).bal
  rw [lookY_addr]
theorem Live.balY {B : Nat} {ds : List YAcct} (h : GoodD B ds) {a : List Int} (ha : IsAddr a) {m : Nat} (b : List Int) (hb : Live ds b) : Live (Go.Proofs.YgcsakGreat.balY ds a m) b :=
  Live.put h (d := { lookY ds a with bal := m }) (lookY_isAddr ds a ha) (fun hl => by rw [show ({ lookY ds a with bal := m } : YAcct).addr = a from lookY_addr a ds] at hl; exact hl) b hb
theorem Live.nonY {B : Nat} {ds : List YAcct} (h : GoodD B ds) {a : List Int} (ha : IsAddr a) {m : Nat} (h0 : m ≠ 0) (b : List Int) (hb : Live ds b) : Live (Go.Proofs.YgcsakGreat.nonY ds a m) b :=
  Live.put h (d := { lookY ds a with nonce := m }) (lookY_isAddr ds a ha) (fun hl => .inl h0) b hb
theorem Live.codY {B : Nat} {ds : List YAcct} (h : GoodD B ds) {a : List Int} (ha : IsAddr a) {xs : List Int} (h0 : xs ≠ []) (b : List Int) (hb : Live ds b) : Live (Go.Proofs.YgcsakGreat.codY ds a xs) b :=
  Live.put h (d := { lookY ds a with code := xs }) (lookY_isAddr ds a ha) (fun hl => .inr h0) b hb
theorem Live.nonSelf {B : Nat} {ds : List YAcct} (h : GoodD B ds) {a : List Int} (ha : IsAddr a) {m : Nat} (h0 : m ≠ 0) : Live (Go.Proofs.YgcsakGreat.nonY ds a m) a := by
  unfold Live
  have e : ({ lookY ds a with nonce := m } : YAcct).addr = a := lookY_addr a ds
  have := putY_look (ds := ds) (d := { lookY ds a with nonce := m }) (lookY_isAddr ds a ha) h.srt h.addr (.inl h0)
  rw [e] at this
  unfold Go.Proofs.YgcsakGreat.nonY
  rw [this]
  exact .inl h0
theorem sz_balY {B : Nat} {ds : List YAcct} (h : GoodD B ds) {a : List Int} (ha : IsAddr a) (m : Nat) : szA (balY ds a m) ≤ szA ds + 1 := by
  have := putY_sz (ds := ds) (d := { lookY ds a with bal := m }) (lookY_isAddr ds a ha) h.srt h.addr
  have e : (lookY ds ({ lookY ds a with bal := m } : YAcct).addr) = lookY ds a := by show lookY ds (lookY ds a).addr = _; rw [lookY_addr]
  rw [e] at this
  unfold balY
  simp only at this ⊢
  omega
theorem sz_nonY {B : Nat} {ds : List YAcct} (h : GoodD B ds) {a : List Int} (ha : IsAddr a) (m : Nat) : szA (nonY ds a m) ≤ szA ds + 1 := by
  have := putY_sz (ds := ds) (d := { lookY ds a with nonce := m }) (lookY_isAddr ds a ha) h.srt h.addr
  have e : (lookY ds ({ lookY ds a with nonce := m } : YAcct).addr) = lookY ds a := by show lookY ds (lookY ds a).addr = _; rw [lookY_addr]
  rw [e] at this
  unfold nonY
  simp only at this ⊢
  omega
theorem sz_codY {B : Nat} {ds : List YAcct} (h : GoodD B ds) {a : List Int} (ha : IsAddr a) (m : List Int) : szA (codY ds a m) ≤ szA ds + 1 := by
  have := putY_sz (ds := ds) (d := { lookY ds a with code := m }) (lookY_isAddr ds a ha) h.srt h.addr
  have e : (lookY ds ({ lookY ds a with code := m } : YAcct).addr) = lookY ds a := by show lookY ds (lookY ds a).addr = _; rw [lookY_addr]
  rw [e] at this
  unfold codY
  simp only at this ⊢
  omega

/-- move -/
theorem move_eq (ds : List YAcct) (f t : List Int) (m : Nat) : moveY ds f t m = if m ≤ (lookY ds f).bal ∧ m ≠ 0 then balY (balY ds f ((lookY ds f).bal - m)) t ((lookY (balY ds f ((lookY ds f).bal - m)) t).bal + m) else ds := rfl
theorem GoodD.move {B : Nat} {ds : List YAcct} (h : GoodD B ds) {f t : List Int} (hf : IsAddr f) (ht : IsAddr t) (m : Nat) : GoodD B (moveY ds f t m) := by
  rw [move_eq]
  split
  · rename_i hm
    have hle := h.bal f
    have h1 : GoodD (B - m) (Go.Proofs.YgcsakGreat.balY ds f ((lookY ds f).bal - m)) := h.balY hf (by omega)
    exact h1.balY ht (by omega)
  · exact h
theorem Live.move {B : Nat} {ds : List YAcct} (h : GoodD B ds) {f t : List Int} (hf : IsAddr f) (ht : IsAddr t) (m : Nat) (b : List Int) (hb : Live ds b) : Live (moveY ds f t m) b := by
  rw [move_eq]
  split
  · rename_i hm
    have hle := h.bal f
    have h1 : GoodD (B - m) (Go.Proofs.YgcsakGreat.balY ds f ((lookY ds f).bal - m)) := h.balY hf (by omega)
    exact Live.balY h1 ht b (Live.balY h hf b hb)
  · exact hb
theorem sz_move {B : Nat} {ds : List YAcct} (h : GoodD B ds) {f t : List Int} (hf : IsAddr f) (ht : IsAddr t) (m : Nat) : szA (moveY ds f t m) ≤ szA ds + 2 := by
  rw [move_eq]
  split
  · rename_i hm
    have hle := h.bal f
    have h1 : GoodD (B - m) (Go.Proofs.YgcsakGreat.balY ds f ((lookY ds f).bal - m)) := h.balY hf (by omega)
    have a1 := sz_balY h hf ((lookY ds f).bal - m)
    have a2 := sz_balY h1 ht ((lookY (balY ds f ((lookY ds f).bal - m)) t).bal + m)
    omega
  · omega

/-- store: the slots of one account -/
def stoL (k v : Nat) : Bool → List (Nat × Nat) → List (Nat × Nat)
  | laid, [] => if laid then [] else [(k, v)]
  | laid, s :: ss => (if (!laid && decide (k ≤ s.1)) = true then [(k, v)] else []) ++ (if s.1 = k then [] else [s]) ++ stoL k v (laid || decide (k ≤ s.1)) ss
def stoS (ss : List (Nat × Nat)) (k v : Nat) : List (Nat × Nat) := stoL k v (decide (v = 0)) ss
def stoY (ds : List YAcct) (a : List Int) (k v : Nat) : List YAcct := putY ds { lookY ds a with slots := stoS (lookY ds a).slots k v }
theorem stoL_mem (k v : Nat) : ∀ (ss : List (Nat × Nat)) (laid : Bool) (x : Nat × Nat), x ∈ stoL k v laid ss → (x = (k, v) ∧ laid = false) ∨ (x ∈ ss ∧ x.1 ≠ k)
  | [], laid, x, h => by
    cases laid
    · simp [stoL] at h; exact .inl ⟨h, rfl⟩
    · simp [stoL] at h
  | s :: ss, laid, x, h => by
    rw [stoL] at h
    rcases List.mem_append.1 h with h | h
    · rcases List.mem_append.1 h with h | h
      · split at h
        · rename_i hc
          simp at h hc
          exact .inl ⟨h, hc.1⟩
        · simp at h
      · split at h
        · simp at h
        · rename_i hc
          simp at h; subst h; exact .inr ⟨by simp, hc⟩
    · rcases stoL_mem k v ss _ x h with ⟨h1, h2⟩ | ⟨h1, h2⟩
      · simp at h2; exact .inl ⟨h1, h2.1⟩
      · exact .inr ⟨by simp [h1], h2⟩
theorem stoL_len (k v : Nat) : ∀ (ss : List (Nat × Nat)) (laid : Bool), (stoL k v laid ss).length ≤ ss.length + (if laid then 0 else 1)
  | [], laid => by cases laid <;> simp [stoL]
  | s :: ss, laid => by
    rw [stoL, List.length_append, List.length_append, List.length_cons]
    have ih := stoL_len k v ss (laid || decide (k ≤ s.1))
    have h2 : (if s.1 = k then [] else [s] : List (Nat × Nat)).length ≤ 1 := by split <;> simp
    cases laid with
    | true => simp at ih ⊢; omega
    | false =>
      by_cases hk : k ≤ s.1
      · simp [hk] at ih ⊢; omega
      · simp [hk] at ih ⊢; omega
theorem stoL_srt (k v : Nat) : ∀ (ss : List (Nat × Nat)) (laid : Bool), ss.Pairwise (fun x y => x.1 < y.1) → (laid = true → ∀ s ∈ ss, k ≤ s.1 ∨ v = 0) → (stoL k v laid ss).Pairwise (fun x y => x.1 < y.1)
  | [], laid, _, _ => by cases laid <;> simp [stoL]
  | s :: ss, laid, h, hl => by
    obtain ⟨hs, h'⟩ := List.pairwise_cons.1 h
    have ih := stoL_srt k v ss (laid || decide (k ≤ s.1)) h' (fun hq x hx => by
      simp only [Bool.or_eq_true, decide_eq_true_eq] at hq
      rcases hq with hq | hq
      · exact hl hq x (by simp [hx])
      · exact .inl (by have := hs x hx; omega))
    rw [stoL]
    have hin : ∀ x ∈ (if s.1 = k then [] else [s] : List (Nat × Nat)), x = s ∧ s.1 ≠ k := fun x hx => by
      split at hx
      · simp at hx
      · simp at hx; rename_i hc; exact ⟨hx, hc⟩
    refine List.pairwise_append.2 ⟨List.pairwise_append.2 ⟨?_, ?_, fun a ha b hb => ?_⟩, ih, fun a ha b hb => ?_⟩
    · split <;> simp
    · split <;> simp
    · split at ha
      · rename_i hc
        simp at ha hc
        obtain ⟨rfl, hb2⟩ := hin b hb
        subst ha
        show k < _
        omega
      · simp at ha
    · have hb1 := stoL_mem k v ss _ b hb
      rcases List.mem_append.1 ha with ha | ha
      · split at ha
        · rename_i hc
          simp at ha hc
          subst ha
          rcases hb1 with ⟨_, h2⟩ | ⟨h1, _⟩
          · simp [hc.2] at h2
          · have := hs b h1
            show k < b.1
            omega
        · simp at ha
      · obtain ⟨rfl, ha2⟩ := hin a ha
        rcases hb1 with ⟨h1, h2⟩ | ⟨h1, _⟩
        · simp at h2
          rw [h1]
          show _ < k
          omega
        · exact hs b h1
theorem GoodD.store {B : Nat} {ds : List YAcct} (h : GoodD B ds) {a : List Int} (ha : IsAddr a) (hl : Live ds a) {k v : Nat} (hk : k < P256) (hv : v < P256) : GoodD B (stoY ds a k v) := by
  have g := h.look a
  refine h.put (d := { lookY ds a with slots := stoS (lookY ds a).slots k v }) (lookY_isAddr ds a ha) ⟨g.non, g.code, fun s hs => ?_, ?_, fun _ => hl⟩ ?_
  · rcases stoL_mem k v _ _ s hs with ⟨rfl, h2⟩ | ⟨h1, _⟩
    · exact ⟨hk, hv, of_decide_eq_false h2⟩
    · exact g.slots s h1
  · exact stoL_srt k v _ _ g.sorted (fun hq s hs => .inr (of_decide_eq_true hq))
  · show B + (lookY ds (lookY ds a).addr).bal = B + (lookY ds a).bal
    rw [lookY_addr]
theorem Live.store {B : Nat} {ds : List YAcct} (h : GoodD B ds) {a : List Int} (ha : IsAddr a) {k v : Nat} (b : List Int) (hb : Live ds b) : Live (stoY ds a k v) b :=
  Live.put h (d := { lookY ds a with slots := stoS (lookY ds a).slots k v }) (lookY_isAddr ds a ha) (fun hl => by rw [show ({ lookY ds a with slots := stoS (lookY ds a).slots k v } : YAcct).addr = a from lookY_addr a ds] at hl; exact hl) b hb
theorem sz_store {B : Nat} {ds : List YAcct} (h : GoodD B ds) {a : List Int} (ha : IsAddr a) (k v : Nat) : szA (stoY ds a k v) ≤ szA ds + 2 := by
  have := putY_sz (ds := ds) (d := { lookY ds a with slots := stoS (lookY ds a).slots k v }) (lookY_isAddr ds a ha) h.srt h.addr
  have e : (lookY ds ({ lookY ds a with slots := stoS (lookY ds a).slots k v } : YAcct).addr) = lookY ds a := by show lookY ds (lookY ds a).addr = _; rw [lookY_addr]
  rw [e] at this
  have h2 := stoL_len k v (lookY ds a).slots (decide (v = 0))
  have h3 : (if decide (v = 0) = true then 0 else 1) ≤ 1 := by split <;> omega
  unfold stoY
  unfold stoS at this ⊢
  simp only at this ⊢
  omega

end Go.Proofs.YgcsakGreat
