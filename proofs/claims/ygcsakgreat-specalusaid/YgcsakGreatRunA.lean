/-
  the law's program, step by step.
-/
import Derived.Test.YgcsakGreatSteB
import Derived.Test.YgcsakGreatAluQ
namespace Go.Proofs.YgcsakGreat
set_option linter.unusedVariables false
set_option linter.unusedSimpArgs false
set_option linter.unusedSectionVars false
set_option maxRecDepth 100000
open Go.RowKit

/-- what an instruction of the law costs, operands [c, b, a] -/
def gasA (o B : Nat) : Nat := bareN o [0, B, 0]
theorem bareN_arg (o : Nat) (s t : List Nat) (h : argN s 1 = argN t 1) : bareN o s = bareN o t := by
  unfold bareN
  rw [h]
theorem costN_free (o : Nat) (stk : List Nat) (ml : Nat) (h : needN o stk = 0) : costN o stk ml = bareN o stk := by
  unfold costN
  rw [if_pos (by rw [h]; exact Nat.zero_le _)]
theorem needN_zero (o : Nat) (stk : List Nat) (h1 : o ≠ 82) (h2 : o ≠ 243) : needN o stk = 0 := by
  unfold needN reachN
  rw [if_neg h1, if_neg h2]
theorem argN_snoc0 (s : List Nat) (x : Nat) : argN (s ++ [x]) 0 = x := by
  unfold argN
  rw [List.reverse_append]
  rfl
theorem argN_snoc1 (s : List Nat) (x y : Nat) : argN (s ++ [x] ++ [y]) 1 = x := by
  unfold argN
  rw [List.reverse_append, List.reverse_append]
  rfl
def AllW (s : List Nat) : Prop := ∀ x ∈ s, x < P256
theorem AllW.arg {s : List Nat} (h : AllW s) (i : Nat) : argN s i < P256 := by
  unfold argN
  rw [List.getD_eq_getElem?_getD]
  cases hx : s.reverse[i]? with
  | none => exact p256_pos
  | some x => exact h x (List.mem_reverse.1 (List.mem_of_getElem? hx))
theorem AllW.snoc {s : List Nat} (h : AllW s) {x : Nat} (hx : x < P256) : AllW (s ++ [x]) := fun y hy => by
  rcases List.mem_append.1 hy with hy | hy
  · exact h y hy
  · rw [List.mem_singleton.1 hy]; exact hx
theorem AllW.take {s : List Nat} (h : AllW s) (n : Nat) : AllW (s.take n) := fun y hy => h y (List.mem_of_mem_take hy)

section
variable (o : Nat) (a b c : List Int) (bw gf cF : Nat) (cs : List Value) (w0 : World)
/-- what holds ahead of step k -/
def At : Nat → World → Prop
  | 0, w => ∃ fr, Play bw gf cF cs fr 0 179000 [] [] (aluProg o a b c) w ∧ fr[9]? = some nilS ∧ Chg gf w0 w
  | 1, w => ∃ fr, Play bw gf cF cs fr 33 178997 [beN c] [] (aluProg o a b c) w ∧ fr[9]? = some nilS ∧ Chg gf w0 w
  | 2, w => ∃ fr, Play bw gf cF cs fr 66 178994 [beN c, beN b] [] (aluProg o a b c) w ∧ fr[9]? = some nilS ∧ Chg gf w0 w
  | 3, w => ∃ fr, Play bw gf cF cs fr 99 178991 [beN c, beN b, beN a] [] (aluProg o a b c) w ∧ fr[9]? = some nilS ∧ Chg gf w0 w
  | 4, w => ∃ fr, Play bw gf cF cs fr 100 (178991 - gasA o (beN b)) ([beN c, beN b, beN a].take (3 - takN o) ++ [aluN o (beN a) (beN b) (beN c)]) [] (aluProg o a b c) w ∧ fr[9]? = some nilS ∧ Chg gf w0 w
  | 5, w => ∃ fr, Play bw gf cF cs fr 101 (178991 - gasA o (beN b) - 2) ([beN c, beN b, beN a].take (3 - takN o) ++ [aluN o (beN a) (beN b) (beN c)] ++ [0]) [] (aluProg o a b c) w ∧ fr[9]? = some nilS ∧ Chg gf w0 w
  | 6, w => ∃ fr, Play bw gf cF cs fr 102 (178991 - gasA o (beN b) - 2 - 6) ([beN c, beN b, beN a].take (3 - takN o)) (be32 (aluN o (beN a) (beN b) (beN c))) (aluProg o a b c) w ∧ Chg gf w0 w
  | 7, w => ∃ fr, Play bw gf cF cs fr 104 (178991 - gasA o (beN b) - 2 - 6 - 3) ([beN c, beN b, beN a].take (3 - takN o) ++ [32]) (be32 (aluN o (beN a) (beN b) (beN c))) (aluProg o a b c) w ∧ Chg gf w0 w
  | 8, w => ∃ fr, Play bw gf cF cs fr 105 (178991 - gasA o (beN b) - 2 - 6 - 3 - 2) ([beN c, beN b, beN a].take (3 - takN o) ++ [32] ++ [0]) (be32 (aluN o (beN a) (beN b) (beN c))) (aluProg o a b c) w ∧ Chg gf w0 w
  | _, _ => False
end

theorem step_push (o : Nat) (ho : o = 95 ∨ o = 96 ∨ o = 127) {bw gf cF : Nat} {cs fr : List Value} {pc gas : Nat} {stk : List Nat} {mem code : List Int} {w : World} (h : Play bw gf cF cs fr pc gas stk mem code w) (hl : stk.length ≤ 50) (hs : AllW stk) (hml : mem.length ≤ 32000) (hcl : code.length ≤ 100000) (hop : code.getD pc 0 = (o : Int)) (hpc : pc + 1 + immN o ≤ code.length) (hpc1 : pc + 1 < code.length)
    (hgas : gas < 1000000) (hpay : bareN o stk ≤ gas) (pc' gas' v : Nat) (e1 : pc + 1 + immN o = pc') (e2 : gas - bareN o stk = gas') (e3 : pushN code pc (immN o) = v) :
    Calls Sakg.prog 49 #[.pointer (some ⟨bw, 0, none⟩)] w fun e w' => e = .returned (.bool true) ∧ ∃ fr', Play bw gf cF cs fr' pc' gas' (stk ++ [v]) mem code w' ∧ SameBut fr fr' ∧ Chg gf w w' := by
  have hop' : opO o := by unfold opO; omega
  have hgv : givN o = 1 := by unfold givN; rw [if_neg (by omega)]
  have htk : takN o = 0 := by unfold takN; rw [if_neg (by omega), if_neg (by omega), if_pos (by omega)]
  have hnd := needN_zero o stk (by omega) (by omega)
  have hco := costN_free o stk mem.length hnd
  have hS := step_one o hop' hgv h hl hs.arg hml hcl (by omega) hop (by omega) hgas (by rw [hco]; exact hpay) v (by rw [hnd]; exact Nat.zero_le _) (fun fr1 gas1 w1 hf ao c hA => by
    have := value_push o ho hf ao (takN o) c _ hA (by omega) hpc hpc1 hcl
    rwa [e3] at this)
  rw [hco, htk, Nat.sub_zero, List.take_length, e1, e2] at hS
  exact hS

theorem step_alu (o : Nat) (ho : aluO o) {bw gf cF : Nat} {cs fr : List Value} {pc gas A B C : Nat} {mem code : List Int} {w : World} (h : Play bw gf cF cs fr pc gas [C, B, A] mem code w) (hs : AllW [C, B, A]) (hml : mem.length ≤ 32000) (hcl : code.length ≤ 100000) (hop : code.getD pc 0 = (o : Int)) (hin : pc < code.length)
    (hgas : gas < 1000000) (hpay : gasA o B ≤ gas) :
    Calls Sakg.prog 49 #[.pointer (some ⟨bw, 0, none⟩)] w fun e w' => e = .returned (.bool true) ∧ ∃ fr', Play bw gf cF cs fr' (pc + 1) (gas - gasA o B) ([C, B, A].take (3 - takN o) ++ [aluN o A B C]) mem code w' ∧ SameBut fr fr' ∧ Chg gf w w' := by
  have hop' : opO o := .inl ho
  have hgv : givN o = 1 := by unfold aluO at ho; unfold givN; rw [if_neg (by omega)]
  have hnd := needN_zero o [C, B, A] (by unfold aluO at ho; omega) (by unfold aluO at ho; omega)
  have hco : costN o [C, B, A] mem.length = gasA o B := (costN_free o _ mem.length hnd).trans (bareN_arg o _ _ rfl)
  have him : immN o = 0 := by unfold aluO at ho; unfold immN; rw [if_neg (by omega), if_neg (by omega)]
  have htk : takN o ≤ 3 := by unfold takN; (repeat (split; omega)); omega
  have hS := step_one o hop' hgv h (by simp) hs.arg hml hcl hin hop (by simpa using htk) hgas (by rw [hco]; exact hpay) (aluN o A B C) (by rw [hnd]; exact Nat.zero_le _) (fun fr1 gas1 w1 hf ao c hA => by
    have := value_alu o ho bw gf ao (takN o) c _ w1 hA (by omega) (fun i => by
      rw [List.getD_eq_getElem?_getD]
      cases hx : (argsOf [C, B, A] (takN o))[i]? with
      | none => exact p256_pos
      | some x =>
        obtain ⟨j, -, rfl⟩ := List.mem_map.1 (List.mem_of_getElem? hx)
        exact hs.arg j)
    rwa [aluN_args o A B C ho] at this)
  rw [hco, him, Nat.add_zero] at hS
  exact hS

set_option maxHeartbeats 4000000 in
theorem step_ended {bw : Nat} {cs : List Value} {w : World} (h : RowT 107 w bw cs) (h11 : cs[11]? = some (.int .u8 2)) :
    Calls Sakg.prog 49 #[.pointer (some ⟨bw, 0, none⟩)] w fun e w' => e = .returned (.bool false) ∧ w = w' := by
  have e11 : w.cell? ⟨bw, 11, none⟩ = some (.int .u8 2) := by rw [h.cell]; exact h11
  clear h h11
  go_enter Sakg.func49, Sakg.ntmps49
  go_wp2
  go_ret
  exact ⟨rfl, rfl⟩

theorem gasA_le (o B : Nat) (h : B < P256) : gasA o B ≤ 2000 := bareN_le o _ h
theorem beN_ltP {xs : List Int} (h : IsW xs) : beN xs < P256 := h.lt
theorem pushN_at (code : List Int) (pc k : Nat) (xs : List Int) (h : (code.drop (pc + 1)).take k = xs) : pushN code pc k = beN xs := by
  unfold pushN beN
  rw [h]

section
variable {o : Nat} {a b c : List Int} {bw gf cF : Nat} {cs : List Value} {w0 w : World} (ho : aluO o) (ha : IsW a) (hb : IsW b) (hc : IsW c)
include ho ha hb hc
abbrev StepTo (bw : Nat) (w : World) (P : World → Prop) : Prop := Calls Sakg.prog 49 #[.pointer (some ⟨bw, 0, none⟩)] w fun e w' => e = .returned (.bool true) ∧ P w'
theorem plen : (aluProg o a b c).length = 106 := aluProg_len o a b c ha.len hb.len hc.len
theorem at0 (h : At o a b c bw gf cF cs w0 0 w) : StepTo bw w (At o a b c bw gf cF cs w0 1) := by
  obtain ⟨fr, hp, h9, hch⟩ := h
  have hl := plen ho ha hb hc
  obtain ⟨x1, x2⟩ := ap0 o a b c ha.len hb.len hc.len
  refine (step_push 127 (by omega) hp (by simp) (fun x hx => by simp at hx) (by simp) (by omega) x1 (by rw [hl]; decide) (by omega) (by omega) (show 3 ≤ 179000 by omega) 33 178997 (beN c) rfl rfl (pushN_at _ _ _ _ x2)).mono ?_
  rintro e w' ⟨he, fr', hp', hsb, hc'⟩
  exact ⟨he, fr', hp', by rw [hsb 9 (by omega) (by omega) (by omega)]; exact h9, hch.trans hc'⟩
theorem at1 (h : At o a b c bw gf cF cs w0 1 w) : StepTo bw w (At o a b c bw gf cF cs w0 2) := by
  obtain ⟨fr, hp, h9, hch⟩ := h
  have hl := plen ho ha hb hc
  obtain ⟨x1, x2⟩ := ap33 o a b c ha.len hb.len hc.len
  have hA : AllW [beN c] := fun x hx => by rw [List.mem_singleton.1 hx]; exact beN_ltP hc
  refine (step_push 127 (by omega) hp (by simp) hA (by simp) (by omega) x1 (by rw [hl]; decide) (by omega) (by omega) (show 3 ≤ 178997 by omega) 66 178994 (beN b) rfl rfl (pushN_at _ _ _ _ x2)).mono ?_
  rintro e w' ⟨he, fr', hp', hsb, hc'⟩
  exact ⟨he, fr', hp', by rw [hsb 9 (by omega) (by omega) (by omega)]; exact h9, hch.trans hc'⟩
theorem all3 : AllW [beN c, beN b, beN a] := fun x hx => by
  simp only [List.mem_cons, List.not_mem_nil, or_false] at hx
  rcases hx with rfl | rfl | rfl
  · exact beN_ltP hc
  · exact beN_ltP hb
  · exact beN_ltP ha
theorem at2 (h : At o a b c bw gf cF cs w0 2 w) : StepTo bw w (At o a b c bw gf cF cs w0 3) := by
  obtain ⟨fr, hp, h9, hch⟩ := h
  have hl := plen ho ha hb hc
  obtain ⟨x1, x2⟩ := ap66 o a b c ha.len hb.len hc.len
  have hA : AllW [beN c, beN b] := fun x hx => by
    simp only [List.mem_cons, List.not_mem_nil, or_false] at hx
    rcases hx with rfl | rfl
    · exact beN_ltP hc
    · exact beN_ltP hb
  refine (step_push 127 (by omega) hp (by simp) hA (by simp) (by omega) x1 (by rw [hl]; decide) (by omega) (by omega) (show 3 ≤ 178994 by omega) 99 178991 (beN a) rfl rfl (pushN_at _ _ _ _ x2)).mono ?_
  rintro e w' ⟨he, fr', hp', hsb, hc'⟩
  exact ⟨he, fr', hp', by rw [hsb 9 (by omega) (by omega) (by omega)]; exact h9, hch.trans hc'⟩
theorem at3 (h : At o a b c bw gf cF cs w0 3 w) : StepTo bw w (At o a b c bw gf cF cs w0 4) := by
  obtain ⟨fr, hp, h9, hch⟩ := h
  have hl := plen ho ha hb hc
  obtain ⟨x1, -⟩ := apT o a b c ha.len hb.len hc.len 0
  have hg := gasA_le o (beN b) (beN_ltP hb)
  refine (step_alu o ho hp (all3 ho ha hb hc) (by simp) (by omega) x1 (by omega) (by omega) (by omega)).mono ?_
  rintro e w' ⟨he, fr', hp', hsb, hc'⟩
  exact ⟨he, fr', hp', by rw [hsb 9 (by omega) (by omega) (by omega)]; exact h9, hch.trans hc'⟩
theorem resW : aluN o (beN a) (beN b) (beN c) < P256 := aluN_lt o _ _ _ (beN_ltP ha) (beN_ltP hb) (beN_ltP hc)
theorem all4 : AllW ([beN c, beN b, beN a].take (3 - takN o) ++ [aluN o (beN a) (beN b) (beN c)]) := ((all3 ho ha hb hc).take _).snoc (resW ho ha hb hc)
theorem at4 (h : At o a b c bw gf cF cs w0 4 w) : StepTo bw w (At o a b c bw gf cF cs w0 5) := by
  obtain ⟨fr, hp, h9, hch⟩ := h
  have hl := plen ho ha hb hc
  obtain ⟨x1, -⟩ := apT o a b c ha.len hb.len hc.len 1
  have hg := gasA_le o (beN b) (beN_ltP hb)
  have hlen : ([beN c, beN b, beN a].take (3 - takN o) ++ [aluN o (beN a) (beN b) (beN c)]).length ≤ 50 := by rw [List.length_append, List.length_take]; simp; omega
  have hbz : bareN 95 ([beN c, beN b, beN a].take (3 - takN o) ++ [aluN o (beN a) (beN b) (beN c)]) = 2 := rfl
  refine (step_push 95 (by omega) hp hlen (all4 ho ha hb hc) (by simp) (by omega) x1 (by rw [hl]; decide) (by omega) (by omega) (by rw [hbz]; omega) 101 (178991 - gasA o (beN b) - 2) 0 rfl (by rw [hbz]) rfl).mono ?_
  rintro e w' ⟨he, fr', hp', hsb, hc'⟩
  exact ⟨he, fr', hp', by rw [hsb 9 (by omega) (by omega) (by omega)]; exact h9, hch.trans hc'⟩
theorem at5 (h : At o a b c bw gf cF cs w0 5 w) : StepTo bw w (At o a b c bw gf cF cs w0 6) := by
  obtain ⟨fr, hp, h9, hch⟩ := h
  have hl := plen ho ha hb hc
  obtain ⟨x1, -⟩ := apT o a b c ha.len hb.len hc.len 2
  have hg := gasA_le o (beN b) (beN_ltP hb)
  obtain ⟨S, hS⟩ : ∃ S, S = [beN c, beN b, beN a].take (3 - takN o) := ⟨_, rfl⟩
  have hSl : S.length ≤ 3 := by rw [hS, List.length_take]; simp
  have hall := all4 ho ha hb hc
  have hr := resW ho ha hb hc
  unfold At
  generalize aluN o (beN a) (beN b) (beN c) = r at hp hall hr ⊢
  rw [← hS] at hp hall ⊢
  have a0 : argN (S ++ [r] ++ [0]) 0 = 0 := argN_snoc0 _ _
  have a1 : argN (S ++ [r] ++ [0]) 1 = r := argN_snoc1 _ _ _
  have hco : costN 82 (S ++ [r] ++ [0]) 0 = 6 := by
    unfold costN needN reachN
    rw [if_pos rfl, a0]
    rfl
  have hlS : (S ++ [r] ++ [0]).length = S.length + 2 := by simp
  have htk : (S ++ [r] ++ [0]).take ((S ++ [r] ++ [0]).length - 2) = S := by
    rw [hlS, Nat.add_sub_cancel, List.append_assoc, List.take_left]
  have hM := step_mstore hp (by omega) (hall.snoc p256_pos).arg (by omega) (by omega) x1 (by omega) (by omega) (by rw [hco]; omega) h9 r a0 a1 hr
  rw [hco, htk] at hM
  refine hM.mono ?_
  rintro e w' ⟨he, fr', hp', hc'⟩
  exact ⟨he, fr', hp', hch.trans hc'⟩
theorem at6 (h : At o a b c bw gf cF cs w0 6 w) : StepTo bw w (At o a b c bw gf cF cs w0 7) := by
  obtain ⟨fr, hp, hch⟩ := h
  have hl := plen ho ha hb hc
  obtain ⟨x1, -⟩ := apT o a b c ha.len hb.len hc.len 3
  obtain ⟨-, x2⟩ := apT o a b c ha.len hb.len hc.len 4
  have hg := gasA_le o (beN b) (beN_ltP hb)
  have hlen : ([beN c, beN b, beN a].take (3 - takN o)).length ≤ 50 := by rw [List.length_take]; simp; omega
  have hbz : bareN 96 ([beN c, beN b, beN a].take (3 - takN o)) = 3 := rfl
  have hml := be32_len (aluN o (beN a) (beN b) (beN c))
  refine (step_push 96 (by omega) hp hlen ((all3 ho ha hb hc).take _) (by omega) (by omega) x1 (by rw [hl]; decide) (by omega) (by omega) (by rw [hbz]; omega) 104 (178991 - gasA o (beN b) - 2 - 6 - 3) 32 rfl (by rw [hbz]) ?_).mono ?_
  · rw [pushN_at _ _ _ [32] (by rw [show 102 + 1 = 99 + 4 from rfl, x2]; rfl)]
    rfl
  · rintro e w' ⟨he, fr', hp', hsb, hc'⟩
    exact ⟨he, fr', hp', hch.trans hc'⟩
theorem at7 (h : At o a b c bw gf cF cs w0 7 w) : StepTo bw w (At o a b c bw gf cF cs w0 8) := by
  obtain ⟨fr, hp, hch⟩ := h
  have hl := plen ho ha hb hc
  obtain ⟨x1, -⟩ := apT o a b c ha.len hb.len hc.len 5
  have hg := gasA_le o (beN b) (beN_ltP hb)
  have hlen : ([beN c, beN b, beN a].take (3 - takN o) ++ [32]).length ≤ 50 := by rw [List.length_append, List.length_take]; simp; omega
  have hbz : bareN 95 ([beN c, beN b, beN a].take (3 - takN o) ++ [32]) = 2 := rfl
  have hml := be32_len (aluN o (beN a) (beN b) (beN c))
  have h32 : 32 < P256 := Nat.lt_trans (by omega) p256_k
  refine (step_push 95 (by omega) hp hlen (((all3 ho ha hb hc).take _).snoc h32) (by omega) (by omega) x1 (by rw [hl]; decide) (by omega) (by omega) (by rw [hbz]; omega) 105 (178991 - gasA o (beN b) - 2 - 6 - 3 - 2) 0 rfl (by rw [hbz]) rfl).mono ?_
  rintro e w' ⟨he, fr', hp', hsb, hc'⟩
  exact ⟨he, fr', hp', hch.trans hc'⟩
/-- what holds behind the last step -/
def AtEnd (o : Nat) (a b c : List Int) (bw gf : Nat) (cs : List Value) (w0 w' : World) : Prop :=
  ∃ g cs' A4 k4 c4, RowT 107 w' bw cs' ∧ cs'.length = 179 ∧ (∀ i, i ≠ 9 → i ≠ 10 → i ≠ 11 → i ≠ 12 → i ≠ 16 → cs'[i]? = cs[i]?) ∧ cs'[9]? = some nilS ∧ cs'[10]? = some (.slice (some ⟨g, 0, none⟩) 32 32) ∧ cs'[11]? = some (.int .u8 2) ∧ cs'[12]? = some (.int .u8 0) ∧ cs'[16]? = some (.slice A4 k4 c4) ∧
    Stab bw (fun w => IsNat w A4 k4 c4 (178978 - gasA o (beN b))) w' ∧ Stab bw (fun w => Src w (some ⟨g, 0, none⟩) 32 32 (be32 (aluN o (beN a) (beN b) (beN c)))) w' ∧ ChgS (GF bw gf) w0 w'
theorem at8 (h : At o a b c bw gf cF cs w0 8 w) : StepTo bw w (AtEnd o a b c bw gf cs w0) := by
  obtain ⟨fr, hp, hch⟩ := h
  have hl := plen ho ha hb hc
  obtain ⟨x1, -⟩ := apT o a b c ha.len hb.len hc.len 6
  have hg := gasA_le o (beN b) (beN_ltP hb)
  obtain ⟨S, hS⟩ : ∃ S, S = [beN c, beN b, beN a].take (3 - takN o) := ⟨_, rfl⟩
  have hSl : S.length ≤ 3 := by rw [hS, List.length_take]; simp
  have h32 : 32 < P256 := Nat.lt_trans (by omega) p256_k
  have hall := ((all3 ho ha hb hc).take (3 - takN o)).snoc h32
  rw [← hS] at hp hall
  have a0 : argN (S ++ [32] ++ [0]) 0 = 0 := argN_snoc0 _ _
  have a1 : argN (S ++ [32] ++ [0]) 1 = 32 := argN_snoc1 _ _ _
  have hml := be32_len (aluN o (beN a) (beN b) (beN c))
  have hco : costN 243 (S ++ [32] ++ [0]) (be32 (aluN o (beN a) (beN b) (beN c))).length = 0 := by
    have hr : reachN 243 (S ++ [32] ++ [0]) = 32 := by
      unfold reachN
      rw [if_neg (by omega), if_pos rfl, a0, a1]
      rfl
    unfold costN needN
    rw [hr, hml]
    rfl
  have hlS : (S ++ [32] ++ [0]).length = S.length + 2 := by simp
  have hM := step_return hp (by omega) (hall.snoc p256_pos).arg hml (by omega) (by omega) x1 (by omega) (by omega) (by rw [hco]; omega) (be32_byt _) a0 a1
  rw [hco, Nat.sub_zero] at hM
  refine hM.mono ?_
  rintro e w' ⟨he, g, cs', A4, k4, c4, r1, r2, r3, r4, r5, r6, r7, r8, r9, r10, r11⟩
  refine ⟨he, g, cs', A4, k4, c4, r1, r2, r3, r4, r5, r6, r7, r8, ?_, r10, (ChgS.chg (G := GF bw gf) hch (.inr rfl)).then r11 (fun _ h _ => h)⟩
  rw [show 178978 - gasA o (beN b) = 178991 - gasA o (beN b) - 2 - 6 - 3 - 2 by omega]
  exact r9
end

end Go.Proofs.YgcsakGreat
