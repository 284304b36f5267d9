/-
  kmodel, exactly: Sum.
-/
import Derived.Test.YgcsakGreatKyF
import Derived.Test.YgcsakGreatKmH
import Derived.Laws.BitsAllLaws
namespace Go.Proofs.YgcsakGreat
set_option linter.unusedVariables false
set_option linter.unusedSimpArgs false
set_option maxRecDepth 100000
open Go.RowKit

/-- the padded bits; N: the place of the last -/
def padB (xs : List Int) (N k : Nat) : Bool := if k < 8 * xs.length then (xs.getD (k / 8) 0).toNat.testBit (k % 8) else (k == 8 * xs.length || k == N)
def Pd (xs : List Int) (N n : Nat) (f : Nat → Bool) : Prop := ∀ k, k < n → f k = padB xs N k
theorem Pd.step {xs : List Int} {N n : Nat} {f : Nat → Bool} {b : Bool} (h : Pd xs N n f) (hb : b = padB xs N n) : Pd xs N (n + 1) (fun k => if k = n then b else f k) := by
  intro k hk
  show (if k = n then b else f k) = _
  by_cases h1 : k = n
  · rw [if_pos h1, hb, h1]
  · rw [if_neg h1]
    exact h k (by omega)
theorem bit_test8 (x : Int) (k : Nat) (h0 : 0 ≤ x) (h1 : x ≤ 255) : (bits .and .u8 (x / 2 ^ k) 1 == 1) = x.toNat.testBit k := by
  obtain ⟨c, rfl⟩ : ∃ c : Nat, x = (c : Int) := ⟨x.toNat, by omega⟩
  have e : ((c : Int) / 2 ^ k) = ((c / 2 ^ k : Nat) : Int) := by rw [Int.natCast_ediv, Int.natCast_pow]; rfl
  have h := u8_and_nat (c / 2 ^ k) 1 (Nat.lt_of_le_of_lt (Nat.div_le_self _ _) (by omega)) (by decide)
  rw [e, show (1 : Int) = ((1 : Nat) : Int) from rfl, h, Nat.and_one_is_mod, Int.toNat_natCast, Nat.testBit_eq_decide_div_mod_eq]
  have h2 := Nat.mod_two_eq_zero_or_one (c / 2 ^ k)
  rcases h2 with h2 | h2 <;> rw [h2] <;> rfl
theorem padB_data {xs : List Int} {N i k : Nat} (hi : i < xs.length) (hk : k < 8) (hx : 0 ≤ xs.getD i 0 ∧ xs.getD i 0 ≤ 255) : (bits .and .u8 (xs.getD i 0 / 2 ^ k) 1 == 1) = padB xs N (8 * i + k) := by
  rw [bit_test8 _ _ hx.1 hx.2]
  unfold padB
  rw [if_pos (by omega), show (8 * i + k) / 8 = i by omega, show (8 * i + k) % 8 = k by omega]
theorem padB_one {xs : List Int} {N : Nat} : true = padB xs N (8 * xs.length) := by
  unfold padB
  rw [if_neg (by omega)]
  simp
theorem padB_zero {xs : List Int} {N n : Nat} (h1 : 8 * xs.length < n) (h2 : n ≠ N) : false = padB xs N n := by
  unfold padB
  rw [if_neg (by omega)]
  have e1 : (n == 8 * xs.length) = false := by rw [beq_eq_false_iff_ne]; omega
  have e2 : (n == N) = false := by rw [beq_eq_false_iff_ne]; exact h2
  rw [e1, e2]
  rfl
theorem padB_last {xs : List Int} {N : Nat} (h : 8 * xs.length < N) : true = padB xs N N := by
  unfold padB
  rw [if_neg (by omega)]
  simp
/-- a slice of n bools, our own, exactly -/
def Bx (base : Nat) (w : World) (v : Value) (n : Nat) (L : (Nat → Bool) → Prop) : Prop := ∃ f, w.ownsRow base 4 1 v n (bools n f) ∧ L f
theorem Bx.kept {base : Nat} {w w' : World} {v : Value} {n : Nat} {L : (Nat → Bool) → Prop} (h : Bx base w v n L) (hb : Below w.heap.size w w') : Bx base w' v n L := by
  obtain ⟨f, h, e⟩ := h
  exact ⟨f, own_kept h hb, e⟩
theorem Bx.bs {base : Nat} {w : World} {v : Value} {n : Nat} {L : (Nat → Bool) → Prop} (h : Bx base w v n L) : Bs base w v n := by
  obtain ⟨f, h, _⟩ := h
  exact ⟨f, h⟩
theorem bools_snoc (n : Nat) (f : Nat → Bool) (b : Bool) : bools n f ++ [.bool b] = bools (n + 1) (fun k => if k = n then b else f k) := by
  apply List.ext_getElem?
  intro j
  by_cases h1 : j < n
  · rw [List.getElem?_append_left (by rw [bools_len]; exact h1), bools_get _ _ _ h1, bools_get _ _ _ (by omega), if_neg (by omega)]
  · by_cases h2 : j = n
    · subst h2
      rw [List.getElem?_append_right (by rw [bools_len]; omega), bools_len, Nat.sub_self, bools_get _ _ _ (by omega), if_pos rfl]
      rfl
    · rw [List.getElem?_eq_none (by simp [bools_len]; omega), List.getElem?_eq_none (by rw [bools_len]; omega)]
theorem wpList_append_boolx {w : World} {ops : Array Oper} {rest : List Oper} {o : Oper} {a : Act} {Q : Exit → Act → World → Prop} (hgd : o.guard = none) (s x : Operand)
    (ho : o.op = .call { callee := .builtin .append, args := #[s, x], argTypes := #[255, 255] }) (base : Nat) (v : Value) (n : Nat) (xs : List Int) (N : Nat) (hs : a.eval s = v) (hown : Bx base w v n (Pd xs N n))
    (g : Nat) (b : Bool) (t' : TypeId) (hx : a.eval x = .slice (some ⟨g, 0, none⟩) 1 1) (hrow : RowT t' w g [.bool b]) (hb : b = padB xs N n) (hn : n + 1 ≤ 1000000000) (hbase : base ≤ w.heap.size)
    (h : ∀ v' w', Bx base w' v' (n + 1) (Pd xs N (n + 1)) → Below base w w' → wpList Sakg.prog ops Q rest (a.put o.dst v') w') : wpList Sakg.prog ops Q (o :: rest) a w := by
  obtain ⟨f, hf, hp⟩ := hown
  cases hi : Sakg.prog.info? 4 with
  | none => have := infoBool; rw [hi] at this; cases this
  | some i0 =>
    have h0 := infoBool
    rw [hi] at h0
    simp only [Option.map_some, Option.some.injEq, Prod.mk.injEq] at h0
    refine wpList_append_own w hgd s x 255 ho base 4 i0 (.bool false) 1 1 Sakg.underlying255 hi h0.1 h0.2.1 h0.2.2 rfl (by omega) v n (bools n f) hs hf ⟨g, 0, none⟩ 1 1 [.bool b] hx rfl ?_ (by simp [Value.oneCell']) (by unfold maxLen; omega) (by omega) hbase ?_
    · intro j u hj
      rw [addAt, Nat.zero_add, hrow.cell]
      exact hj
    · intro v' w' ho' hg _
      rw [bools_snoc] at ho'
      refine h v' w' ⟨_, ho', hp.step hb⟩ ((Below.refl base w).grown hg hbase ?_)
      intro k hk
      exact (hf.lt k hk).1
theorem Bx.read {base : Nat} {w : World} {v : Value} {n : Nat} {L : (Nat → Bool) → Prop} (h : Bx base w v n L) (hn : 0 < n) : ∃ (g c : Nat) (f : Nat → Bool), v = .slice (some ⟨g, 0, none⟩) n c ∧ g < w.heap.size ∧ base ≤ g ∧ (∀ i, i < n → w.cell? ⟨g, i, none⟩ = some (.bool (f i))) ∧ L f := by
  obtain ⟨f, ⟨h1, h2⟩, e⟩ := h
  rcases h2 with ⟨_, h0⟩ | ⟨g, cap, cur, hv, hb, hg, hc, hm, hs, ht⟩
  · omega
  · refine ⟨g, cap, f, hv, (Array.getElem?_eq_some_iff.1 hg).1, hb, fun i hi => ?_, e⟩
    rw [cell_of_row w g i _ _ _ hg]
    have : (cur.toList.take (n * 1))[i]? = (bools n f)[i]? := by rw [ht]
    rw [List.getElem?_take, if_pos (by omega), bools_get _ _ _ hi] at this
    simpa using this
def Sx (w wr : World) (v : Value) (n : Nat) (xs : List Int) (N : Nat) : Prop := RowT 28 wr w.heap.size (bv (zeros 32)) ∧ Bx (w.heap.size + 1) wr v n (Pd xs N n) ∧ Below w.heap.size w wr
theorem Sx.step {w wr w' : World} {v v' : Value} {n N : Nat} {xs : List Int} {o : Obj} (h : Sx w wr v n xs N) (hb : Bx (w.heap.size + 1) w' v' (n + 1) (Pd xs N (n + 1))) (hbe : Below (w.heap.size + 1) (wr.alloc o) w') : Sx w w' v' (n + 1) xs N := by
  have h1 : w.heap.size < wr.heap.size := h.1.lt
  exact ⟨(h.1.alloc o).below hbe (by omega), hb, (h.2.2.alloc (by omega) o).trans (hbe.mono (by omega))⟩
/-- the state with j bits taken in -/
def xorAt (s : KS) (j : Nat) (b : Bool) : KS := fun P Q Z => if 64 * (5 * Q + P) + Z = j % 1088 then !s P Q Z == b else s P Q Z
def absS (xs : List Int) (N : Nat) : Nat → KS
  | 0 => fun _ _ _ => false
  | j + 1 => if j % 1088 = 1087 then permS (xorAt (absS xs N j) j (padB xs N j)) 24 else xorAt (absS xs N j) j (padB xs N j)
theorem Sp.xorAt {f : Nat → Bool} {s : KS} {j : Nat} {b : Bool} (h : Sp f s) : Sp (fun k => if k = j % 1088 then !f (j % 1088) == b else f k) (xorAt s j b) := by
  intro P Q Z hP hQ hZ
  show (if 64 * (5 * Q + P) + Z = j % 1088 then !f (j % 1088) == b else f (64 * (5 * Q + P) + Z)) = if 64 * (5 * Q + P) + Z = j % 1088 then !s P Q Z == b else s P Q Z
  by_cases hk : 64 * (5 * Q + P) + Z = j % 1088
  · rw [if_pos hk, if_pos hk, ← hk, h P Q Z hP hQ hZ]
  · rw [if_neg hk, if_neg hk, h P Q Z hP hQ hZ]
/-- the place of the last bit -/
def lastN (l : Nat) : Nat := 8 * l + 1 + (2175 - (8 * l + 1) % 1088) % 1088
def hashS (xs : List Int) : KS := absS xs (lastN xs.length) (lastN xs.length + 1)
/-- the bytes' bits, k of them laid -/
def Ob (f : Nat → Bool) (k : Nat) (ys : List Int) : Prop := ∀ q e, q < 32 → e < 8 → (ys.getD q 0).toNat.testBit e = (decide (8 * q + e < k) && f (8 * q + e))
theorem Ob.start (f : Nat → Bool) : Ob f 0 (zeros 32) := by
  intro q e hq he
  have h1 : (zeros 32).getD q 0 = 0 := by
    unfold zeros
    rw [List.getD_eq_getElem?_getD, List.getElem?_replicate]
    split <;> rfl
  rw [h1, decide_eq_false (by omega)]
  simp
theorem Ob.no {f : Nat → Bool} {k : Nat} {ys : List Int} (h : Ob f k ys) (hf : f k = false) : Ob f (k + 1) ys := by
  intro q e hq he
  rw [h q e hq he]
  by_cases h1 : 8 * q + e = k
  · rw [h1, hf]; simp
  · congr 1
    rw [decide_eq_decide]
    omega
theorem Ob.yes {f : Nat → Bool} {k Q E : Nat} {ys : List Int} (h : Ob f k ys) (hf : f k = true) (hl : ys.length = 32) (hb : Byt ys) (hk : k < 256) (hQ : Q = k / 8) (hE : E = k % 8) : Ob f (k + 1) (ys.set Q (bits .or .u8 (ys.getD Q 0) (IntKind.u8.wrap (2 ^ E)))) := by
  intro q e hq he
  have hQ2 : Q < 32 := by omega
  have hbq : 0 ≤ ys.getD Q 0 ∧ ys.getD Q 0 ≤ 255 := hb.get Q
  obtain ⟨y, hy⟩ : ∃ y : Nat, ys.getD Q 0 = (y : Int) := ⟨(ys.getD Q 0).toNat, by omega⟩
  have hp : 2 ^ E < 256 := Nat.lt_of_lt_of_le (Nat.pow_lt_pow_right (by omega) (show E < 8 by omega)) (by decide)
  have hw : IntKind.u8.wrap ((2 : Int) ^ E) = ((2 ^ E : Nat) : Int) := by
    have e1 : ((2 : Int) ^ E) = ((2 ^ E : Nat) : Int) := by rw [Int.natCast_pow]; rfl
    rw [e1, IntKind.wrap_u8]
    generalize (2 ^ E : Nat) = q at hp ⊢
    omega
  have hor := u8_or_nat y (2 ^ E) (by omega) hp
  rw [hy, hw, hor]
  by_cases hqq : q = Q
  · subst hqq
    have h1 : (ys.set q ((y ||| 2 ^ E : Nat) : Int)).getD q 0 = ((y ||| 2 ^ E : Nat) : Int) := by
      rw [List.getD_eq_getElem?_getD, List.getElem?_set_self (by omega)]; rfl
    have h2 := h q e hq he
    rw [hy, Int.toNat_natCast] at h2
    rw [h1, Int.toNat_natCast, Nat.testBit_or, h2, Nat.testBit_two_pow]
    by_cases h3 : 8 * q + e = k
    · rw [h3, hf, decide_eq_true (show E = e by omega)]; simp
    · rw [decide_eq_false (show ¬ E = e by omega), Bool.or_false]
      congr 1
      rw [decide_eq_decide]
      omega
  · have h1 : (ys.set Q ((y ||| 2 ^ E : Nat) : Int)).getD q 0 = ys.getD q 0 := by
      rw [List.getD_eq_getElem?_getD, List.getElem?_set_ne (fun h => hqq h.symm), ← List.getD_eq_getElem?_getD]
    rw [h1, h q e hq he]
    congr 1
    rw [decide_eq_decide]
    omega
/-- the hash's bits -/
def HashIs (xs ys : List Int) : Prop := ∀ i, i < 256 → (ys.getD (i / 8) 0).toNat.testBit (i % 8) = hashS xs (i / 64) 0 (i % 64)
theorem Ob.done {f : Nat → Bool} {k : Nat} {ys xs : List Int} (h : Ob f k ys) (hk : 256 ≤ k) (hs : Sp f (hashS xs)) : HashIs xs ys := by
  intro i hi
  rw [h (i / 8) (i % 8) (by omega) (by omega), decide_eq_true (by omega), Bool.true_and, show 8 * (i / 8) + i % 8 = i by omega]
  have h1 := hs (i / 64) 0 (i % 64) (by omega) (by omega) (by omega)
  rw [show 64 * (5 * 0 + i / 64) + i % 64 = i by omega] at h1
  exact h1

set_option maxHeartbeats 8000000 in
theorem sum_x (A : Option Addr) (l c : Nat) (xs : List Int) (w : World) (h : Src w A l c xs) (hl : l ≤ 1000000) :
    Calls Sakg.prog 233 #[.slice A l c] w fun e w' => (∃ ys, e = .returned (.agg (bv ys).toArray) ∧ ys.length = 32 ∧ Byt ys ∧ HashIs xs ys) ∧ Below w.heap.size w w' := by
  have H := hide h
  have hxl : xs.length = l := h.len_eq
  have HXB := hide h.byt
  obtain ⟨NN, hNN⟩ : ∃ NN, NN = lastN l := ⟨_, rfl⟩
  have HNN := hide hNN
  have HXL := hide hxl
  clear hNN hxl
  have hmk : IntKind.i64.wrap (8 * (l : Int)) = 8 * (l : Int) := by rw [IntKind.wrap_i64]; omega
  have hmk2 : IntKind.i64.wrap (8 * (l : Int) + 2176) = 8 * (l : Int) + 2176 := by rw [IntKind.wrap_i64]; omega
  have hb0 : Below w.heap.size w (w.alloc (.cells (bv (zeros 32)).toArray 28)) := (Below.refl _ _).alloc (Nat.le_refl _) _
  have hr0 : RowT 28 (w.alloc (.cells (bv (zeros 32)).toArray 28)) w.heap.size (bv (zeros 32)) := RowT.new _ _ _
  clear h
  go_enter Sakg.func233, Sakg.ntmps233
  go_upto_region 2 with ((with_reducible refine at_makeSlice ?_); refine wpList_make_bools rfl _ _ rfl _ (8 * l + 2176) rfl rfl (by omega) (by omega) (fun w1 v1 hv1 hb1 => ?_))
  have hS1 : Sx w w1 v1 0 xs NN := ⟨hr0.kept hb1, by have h9 := hv1; rw [World.size_alloc] at h9; obtain ⟨f9, h9⟩ := h9; exact ⟨f9, h9, fun k hk => absurd hk (by omega)⟩, hb0.trans (hb1.mono (by simp))⟩
  clear hv1 hb1 hr0 hb0
  go_wp2_with fail
  go_loopg [19, 3] l (fun gk iv bvv wr => ∃ i : Nat, i + gk = l ∧ iv = .int .i64 i ∧ Sx w wr bvv (8 * i) xs NN)
  case atStart => exact ⟨0, by omega, rfl, hS1⟩
  case round =>
    obtain ⟨i, hi, rfl, hS⟩ := hrel
    by_cases hil : i < l
    · obtain ⟨b, off, rfl, hcs⟩ := (unhide H).at_ (by omega)
      have hlt := (unhide H).lt _ rfl (by omega)
      have hci : wr.cell? ⟨b, off + i, none⟩ = some (.int .u8 (xs.getD i 0)) := by rw [hS.2.2.cell (p := ⟨b, off + i, none⟩) hlt]; exact hcs i hil
      have dil : (i : Int) < (l : Int) := by omega
      have hxr := (unhide HXB).get i
      have hpb : ∀ k, k < 8 → (bits .and .u8 (xs.getD i 0 / 2 ^ k) 1 == 1) = padB xs NN (8 * i + k) := fun k hk => padB_data (by rw [unhide HXL]; exact hil) hk hxr
      obtain ⟨x, hx⟩ : ∃ x, x = xs.getD i 0 := ⟨_, rfl⟩
      rw [← hx] at hci hpb
      have HPB := hide hpb
      clear hcs hx hS1 hpb hxr
      go_wp2_with fail
      go_loopg [6, 3] 8 (fun gk kv bvv wr => ∃ k : Nat, k + gk = 8 ∧ kv = .int .i64 k ∧ Sx w wr bvv (8 * i + k) xs NN)
      case atStart => exact ⟨0, by omega, rfl, hS⟩
      case round =>
        obtain ⟨k, hk, rfl, hS⟩ := hrel
        by_cases hkl : k < 8
        · have ik : (k : Int) < 8 := by omega
          have bk : (0 : Int) ≤ (k : Int) := by omega
          go_wp2_with (first
            | ((with_reducible refine at_append ?_); refine wpList_append_boolx rfl (.tmp 27) (.tmp 33) rfl (w.heap.size + 1) _ (8 * i + k) xs NN rfl (hS.2.1.kept ((Below.refl _ _).alloc (Nat.le_refl _) _)) wr.heap.size _ 4 rfl (RowT.new _ _ _) (unhide HPB k hkl) (by omega) (by have := hS.1.lt; simp; omega) (fun v2 w2 hv2 hb2 => ?_); have hS2 := hS.step hv2 hb2; clear hv2 hb2))
          go_roundg (7 - k)
          case measure => omega
          case rel => exact ⟨k + 1, by omega, rfl, hS2⟩
        · have dk : decide ((k : Int) < 8) = false := decide_eq_false (by omega)
          have hS2 : Sx w wr u3 (8 * (i + 1)) xs NN := by
            have e : 8 * (i + 1) = 8 * i + k := by omega
            rw [e]; exact hS
          clear hS
          go_wp2
          go_roundg (l - 1 - i)
          case measure => omega
          case rel => exact ⟨i + 1, by omega, rfl, hS2⟩
    · obtain rfl : i = l := by omega
      clear hi hil hS1
      go_upto_region 11 with (first
            | ((with_reducible refine at_append ?_); refine wpList_append_boolx rfl (.tmp 36) (.tmp 37) rfl (w.heap.size + 1) _ (8 * i) xs NN rfl (hS.2.1.kept ((Below.refl _ _).alloc (Nat.le_refl _) _)) wr.heap.size _ 4 rfl (RowT.new _ _ _) (by rw [← unhide HXL]; exact padB_one) (by omega) (by have := hS.1.lt; simp; omega) (fun v2 w2 hv2 hb2 => ?_); have hS2 := hS.step hv2 hb2; clear hv2 hb2))
      clear hS H hmk hmk2
      obtain ⟨d, hd, hd2⟩ : ∃ d, d < 1088 ∧ (8 * i + 1 + d) % 1088 = 1087 := ⟨(2175 - (8 * i + 1) % 1088) % 1088, by omega, by omega⟩
      obtain ⟨N, hN⟩ : ∃ N, N = 8 * i + 1 + d := ⟨_, rfl⟩
      have hNe : NN = N := by have h9 := unhide HNN; unfold lastN at h9; omega
      have HNe := hide hNe
      clear hNe
      have hNb : N ≤ 9000000 := by omega
      rw [← hN] at hd2
      go_loopg [3] d (fun gk bvv wr => ∃ n : Nat, n + gk = N ∧ gk < 1088 ∧ 8 * i < n ∧ Sx w wr bvv n xs NN)
      case atStart => exact ⟨8 * i + 1, by omega, hd, by omega, hS2⟩
      case round =>
        obtain ⟨n, hn, hgk, hin, hS⟩ := hrel
        obtain ⟨a3, c3, rfl⟩ := hS.2.1.bs.len
        clear hS2
        by_cases hz : gk = 0
        · subst hz
          obtain rfl : n = N := by omega
          have t1 : ((n : Int) % 1088 == 1087) = true := by
            have : (n : Int) % 1088 = 1087 := by omega
            rw [this]; rfl
          have hS' := hS
          clear hN hd hn hgk
          go_upto_region 14 with (first
            | ((with_reducible refine at_append ?_); refine wpList_append_boolx rfl (.tmp 46) (.tmp 47) rfl (w.heap.size + 1) _ n xs NN rfl (hS.2.1.kept ((Below.refl _ _).alloc (Nat.le_refl _) _)) wr.heap.size _ 4 rfl (RowT.new _ _ _) (by rw [unhide HNe]; exact padB_last (by rw [unhide HXL]; exact hin)) (by omega) (by have := hS.1.lt; simp; omega) (fun v2 w2 hv2 hb2 => ?_); have hS2 := hS.step hv2 hb2; clear hv2 hb2))
          obtain ⟨gb, cb, fb, rfl, hgb, hgb2, hbits, hpd⟩ := hS2.2.1.read (by omega)
          obtain ⟨M, hM⟩ : ∃ M, M = n + 1 := ⟨_, rfl⟩
          rw [← hM] at hbits hS2 hpd
          have HPD := hide hpd
          have HME := hide (show M = NN + 1 by have := unhide HNe; omega)
          clear hpd
          simp only [← hM]
          have hM0 : 0 < M := by omega
          have hMb : M ≤ 9000001 := by omega
          clear hM hS hS' t1 hd2 hin
          go_upto_region 15 with ((with_reducible refine at_alloc 396 ?_); refine wpList_alloc_g (by rfl) 396 rfl _ _ infoS (bools_len _ _) ?_)
          obtain ⟨w5, hw5⟩ : ∃ w5, w5 = w2.alloc (.cells (bools 1600 fun _ => false).toArray 396) := ⟨_, rfl⟩
          have hs5 : w2.heap.size < w5.heap.size := by rw [hw5]; simp
          have r5 : BT 396 w5 w2.heap.size 1600 (fun _ => false) := by rw [hw5]; exact RowT.new _ _ _
          have o5 : RowT 28 w5 w.heap.size (bv (zeros 32)) := by rw [hw5]; exact hS2.1.alloc _
          have b5 : Below w.heap.size w w5 := by rw [hw5]; exact hS2.2.2.alloc (by have := hS2.1.lt; omega) _
          have bits5 : ∀ i, i < M → w5.cell? ⟨gb, i, none⟩ = some (.bool (fb i)) := fun i hi => by
            rw [hw5, ((Below.refl w2.heap.size w2).alloc (Nat.le_refl _) _).cell (p := ⟨gb, i, none⟩) hgb]
            exact hbits i hi
          have hso : w.heap.size < w2.heap.size := hS2.1.lt
          rw [← hw5]
          have O5 := hide o5
          have B5 := hide bits5
          clear hw5 hbits hS2 o5 bits5
          go_wp2_with fail
          go_loopg [51] M (fun gk iv wr => ∃ j : Nat, j + gk = M ∧ iv = .int .i64 j ∧ (∃ fs, BT 396 wr w2.heap.size 1600 fs ∧ Sp fs (absS xs NN j)) ∧ Chg w2.heap.size w5 wr)
          case atStart => exact ⟨0, by omega, rfl, ⟨_, r5, fun P Q Z _ _ _ => rfl⟩, Chg.refl _ _⟩
          case round =>
            obtain ⟨j, hj, rfl, ⟨fs, hfs, efs⟩, hc⟩ := hrel
            have EFS := hide efs
            clear efs
            by_cases hjl : j < M
            · have ij : (j : Int) < (M : Int) := by omega
              have cj : wr.cell? ⟨gb, j, none⟩ = some (.bool (fb j)) := by rw [hc.cell ⟨gb, j, none⟩ (by simp; omega) (by simp; omega)]; exact unhide B5 j hjl
              obtain ⟨P, hP, hP2⟩ : ∃ P : Nat, (j : Int) % 1088 = (P : Int) ∧ P < 1088 := ⟨j % 1088, by omega, by omega⟩
              have HPm := hide (show j % 1088 = P by omega)
              have iP : (P : Int) < 1600 := by omega
              have cP := hfs.cell P (by omega)
              have zP := hfs.froz P
              have FS := hide hfs
              clear hfs r5
              have hset := fun b => (unhide FS).set P b
              have hon := fun (b : Bool) => hc.trans (Chg.ofOnly ((Only.refl w2.heap.size wr).setCell P (.bool b)))
              have HSET := hide hset
              have HON := hide hon
              clear hset hon
              have hxo := (unhide EFS).xorAt (j := j) (b := fb j)
              rw [unhide HPm] at hxo
              have HXO2 := hide hxo
              clear hxo
              by_cases hPe : P = 1087
              · have tP : ((P : Int) == 1087) = true := by subst hPe; rfl
                have HPE := hide hPe
                clear hPe
                go_wp2_with (go_at_call 325; refine (permF_x w2.heap.size _ _ _ (unhide HSET _) (unhide HXO2)).mono ?_; rintro e w6 ⟨rfl, h6, hc6⟩; have hc6' := (unhide HON _).trans hc6; clear hc6)
                go_roundg (M - 1 - j)
                case measure => omega
                case rel =>
                  refine ⟨j + 1, by omega, rfl, ?_, hc6'⟩
                  obtain ⟨f6, h61, h62⟩ := h6
                  refine ⟨f6, h61, ?_⟩
                  unfold absS
                  rw [if_pos ((unhide HPm).trans (unhide HPE))]
                  rw [unhide HPD j hjl] at h62
                  exact h62
              · have tP : ((P : Int) == 1087) = false := by
                  have : ¬ (P : Int) = 1087 := by omega
                  simp [this]
                have HPE := hide hPe
                clear hPe
                go_wp2
                go_roundg (M - 1 - j)
                case measure => omega
                case rel =>
                  refine ⟨j + 1, by omega, rfl, ⟨_, unhide HSET _, ?_⟩, unhide HON _⟩
                  unfold absS
                  rw [if_neg (fun h => unhide HPE ((unhide HPm).symm.trans h))]
                  rw [← unhide HPD j hjl]
                  exact unhide HXO2
            · obtain rfl : j = M := by omega
              have HHS := hide (show Sp fs (hashS xs) by unfold hashS; rw [unhide HXL, ← unhide HNN, ← unhide HME]; exact unhide EFS)
              clear hj hjl r5
              have w6s : w5.heap.size ≤ wr.heap.size := hc.size
              have c6 : ∀ o, Chg w2.heap.size w5 (wr.alloc o) := fun o => hc.trans (Chg.of ((Below.refl _ _).alloc (Nat.le_refl _) o))
              have bt6 : ∀ o, BT 396 (wr.alloc o) w2.heap.size 1600 fs := fun o => RowT.alloc hfs o
              have o6 : RowT 28 (wr.alloc (.cells (bv (zeros 32)).toArray 28)) wr.heap.size (bv (zeros 32)) := RowT.new _ _ _
              have C6 := hide c6
              have BT6 := hide bt6
              have hsz7 : ∀ o, (wr.alloc o).heap.size = wr.heap.size + 1 := fun o => by simp
              clear c6 bt6 hfs
              go_upto_region 23 with ((with_reducible refine at_alloc 28 ?_); refine wpList_alloc_g (by rfl) 28 rfl (bv (zeros 32)) 32 info32 (by rw [bv_len, zeros_len]) ?_)
              obtain ⟨w7, hw7⟩ : ∃ w7, w7 = wr.alloc (.cells (bv (zeros 32)).toArray 28) := ⟨_, rfl⟩
              have c7 : Chg w2.heap.size w5 w7 := hw7 ▸ unhide C6 _
              have bt7 : BT 396 w7 w2.heap.size 1600 fs := hw7 ▸ unhide BT6 _
              have s7 : wr.heap.size < w7.heap.size := by rw [hw7]; simp
              rw [← hw7] at o6 ⊢
              obtain ⟨go, hgo⟩ : ∃ go, go = wr.heap.size := ⟨_, rfl⟩
              rw [← hgo] at o6 s7 w6s ⊢
              have C7 := hide c7
              have BT7 := hide bt7
              clear hw7 C6 BT6 c7 bt7 hsz7 hc hgo
              go_wp2_with fail
              go_loopg [11] 256 (fun gk iv wr => ∃ (k : Nat) (ys : List Int), k + gk = 256 ∧ iv = .int .i64 k ∧ RowT 28 wr go (bv ys) ∧ ys.length = 32 ∧ Byt ys ∧ Ob fs k ys ∧ Chg go w7 wr)
              case atStart => exact ⟨0, zeros 32, by omega, rfl, o6, zeros_len 32, zeros_byt 32, Ob.start fs, Chg.refl _ _⟩
              case round =>
                obtain ⟨k, ys, hk, rfl, hrow, hyl, hyb, hob, hc⟩ := hrel
                have HOB := hide hob
                clear hob
                by_cases hkl : k < 256
                · have ik : (k : Int) < 256 := by omega
                  have ik2 : (k : Int) < 1600 := by omega
                  have bk : (0 : Int) ≤ (k : Int) := by omega
                  have ck : wr.cell? ⟨w2.heap.size, k, none⟩ = some (.bool (fs k)) := by rw [hc.cell ⟨w2.heap.size, k, none⟩ (by simp; omega) (by simp; omega)]; exact (unhide BT7).cell k (by omega)
                  obtain ⟨b0, hb0⟩ : ∃ b0, fs k = b0 := ⟨_, rfl⟩
                  rw [hb0] at ck
                  have HB0 := hide hb0
                  clear hb0
                  have HROW := hide hrow
                  have HYB := hide hyb
                  have HYL := hide hyl
                  clear o6
                  cases b0 with
                  | false =>
                    clear hrow hyb hyl
                    go_wp2
                    go_roundg (255 - k)
                    case measure => omega
                    case rel => exact ⟨k + 1, ys, by omega, rfl, unhide HROW, unhide HYL, unhide HYB, (unhide HOB).no (unhide HB0), hc⟩
                  | true =>
                    obtain ⟨Q, hQ, hQ2⟩ : ∃ Q : Nat, (k : Int) / 8 = (Q : Int) ∧ Q < 32 := ⟨k / 8, by omega, by omega⟩
                    obtain ⟨E, hE, hE2⟩ : ∃ E : Nat, (k : Int) % 8 = (E : Int) ∧ E < 8 := ⟨k % 8, by omega, by omega⟩
                    have e1 : Int.tdiv (k : Int) 8 = Q := by rw [Int.tdiv_eq_ediv_of_nonneg (by omega)]; exact hQ
                    have e2 : Int.tmod (k : Int) 8 = E := by rw [Int.tmod_eq_emod_of_nonneg (by omega)]; exact hE
                    have e3 : IntKind.i64.wrap (Q : Int) = Q := by rw [IntKind.wrap_i64]; omega
                    have e4 : IntKind.i64.wrap (E : Int) = E := by rw [IntKind.wrap_i64]; omega
                    have iQ : (Q : Int) < 32 := by omega
                    have bE : (0 : Int) ≤ (E : Int) := by omega
                    have cQ : wr.cell? ⟨go, Q, none⟩ = some (.int .u8 (ys.getD Q 0)) := by
                      rw [hrow.cell, bv, List.getElem?_map, getD_some' ys Q (by omega)]; rfl
                    have zQ := hrow.froz Q
                    have hset := fun (v : Int) => hrow.set Q (.int .u8 v)
                    have hsv : ∀ v : Int, (bv ys).set Q (.int .u8 v) = bv (ys.set Q v) := fun v => by simp [bv, List.map_set]
                    have hob1 := (unhide HOB).yes (unhide HB0) hyl hyb hkl (show Q = k / 8 by omega) (show E = k % 8 by omega)
                    generalize ys.getD Q 0 = y0 at cQ hob1
                    have HOB1 := hide hob1
                    clear hob1
                    have HSET := hide hset
                    have HSV := hide hsv
                    clear hset hsv hrow hyb hyl
                    go_upto_region 27 with fail
                    rw [shade_of 80]
                    go_region_held3 (fun _ => True) (trivial) (fail)
                    go_wp2
                    go_roundg (255 - k)
                    case measure => omega
                    case rel =>
                      have h1 := unhide HSET (bits .or .u8 y0 (IntKind.u8.wrap (2 ^ E)))
                      rw [unhide HSV] at h1
                      refine ⟨k + 1, ys.set Q (bits .or .u8 y0 (IntKind.u8.wrap (2 ^ E))), by omega, rfl, RowT.kept h1 (Quiet.below ⟨1, rfl⟩ _), by rw [List.length_set]; exact unhide HYL, (unhide HYB).set Q _ ⟨(bits_within .or .u8 _ _).1, (bits_within .or .u8 _ _).2⟩, unhide HOB1, ?_⟩
                      exact (hc.trans (Chg.ofOnly ((Only.refl go wr).setCell Q _))).trans (Chg.of (Quiet.below ⟨1, rfl⟩ _))
                · have dk : decide ((k : Int) < 256) = false := decide_eq_false (by omega)
                  have o9 : RowT 28 wr w.heap.size (bv (zeros 32)) := hc.row ((unhide C7).row (unhide O5) (by omega)) (by omega)
                  have b9 : Below w.heap.size w wr := b5.trans (((unhide C7).below w.heap.size (by omega) (by omega)).trans (hc.below w.heap.size (by omega) (by omega)))
                  have hsz : (Sakg.prog.info? 28).map (·.size) = some (bv ys).length := by rw [bv_len, hyl]; exact size32
                  have HROW := hide hrow
                  have O9 := hide o9
                  have hyl2 : (bv (zeros 32)).length = (bv ys).length := by rw [bv_len, bv_len, hyl, zeros_len]
                  clear hrow o9 o6
                  go_wp2_with (first
                    | ((with_reducible refine at_load 28 ?_); refine wpList_load_g (by rfl) 28 (.tmp 10) rfl go 0 rfl (bv ys) _ (unhide HROW).rangeAll Sakg.underlying28 rfl hsz ?_)
                    | ((with_reducible refine at_store 28 ?_); refine wpList_store_whole rfl 28 (.tmp 2) (.tmp 86) rfl w.heap.size 28 (bv (zeros 32)) (bv ys) rfl rfl (unhide O9) hyl2 hsz (bv_one _) ?_; intro wE hrE hoE))
                  refine bodyPost_ret (results_cell_row rfl _ _ _ _ _ _ _ rfl hrE Sakg.underlying28 rfl (by simpa using hsz)) rfl ?_
                  exact ⟨⟨ys, rfl, hyl, hyb, (unhide HOB).done (by omega) (unhide HHS)⟩, b9.trans (hoE.below _ (Nat.le_refl _))⟩
        · have t1 : ((n : Int) % 1088 == 1087) = false := by
            have : ¬ (n : Int) % 1088 = 1087 := by omega
            simp [this]
          go_wp2_with (first
            | ((with_reducible refine at_append ?_); refine wpList_append_boolx rfl (.tmp 43) (.tmp 44) rfl (w.heap.size + 1) _ n xs NN rfl (hS.2.1.kept ((Below.refl _ _).alloc (Nat.le_refl _) _)) wr.heap.size _ 4 rfl (RowT.new _ _ _) (padB_zero (by rw [unhide HXL]; exact hin) (by have := unhide HNe; omega)) (by omega) (by have := hS.1.lt; simp; omega) (fun v2 w2 hv2 hb2 => ?_); have hS2 := hS.step hv2 hb2; clear hv2 hb2))
          go_roundg (gk - 1)
          case measure => omega
          case rel => exact ⟨n + 1, by omega, by omega, by omega, hS2⟩


end Go.Proofs.YgcsakGreat
