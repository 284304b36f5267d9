/-
  yp: grow.
-/
import Derived.Test.YgcsakGreatBeA
namespace Go.Proofs.YgcsakGreat
set_option linter.unusedVariables false
set_option linter.unusedSimpArgs false
set_option maxRecDepth 100000
open Go.RowKit

/-- 'copy' from nil -/
theorem wpList_copy_nil {w : World} {ops : Array Oper} {rest : List Oper} {o : Oper} {a : Act} {Q : Exit → Act → World → Prop} (hgd : o.guard = none) (d s : Operand) (dT sT : TypeId)
    (ho : o.op = .call { callee := .builtin .copy, args := #[d, s], argTypes := #[dT, sT] }) (ht : Sakg.prog.underlying dT = some (.slice 5))
    (ad : Addr) (n dc : Nat) (hd : a.eval d = .slice (some ad) n dc) (hs : a.eval s = .slice none 0 0)
    (h : wpList Sakg.prog ops Q rest (a.put o.dst (.int .i64 0)) w) : wpList Sakg.prog ops Q (o :: rest) a w := by
  obtain ⟨i0, hi, hz0, hz1, hz2⟩ := info_parts Sakg.info5
  refine wpList_plain hgd fun K hK => ?_
  have hrun := run_copy_nil (P := Sakg.prog) w dT sT o.type 5 ad n dc ht (by rw [hi]; rfl)
  unfold Oper.wp
  simp [execOp, ho, resolve, invoke, builtin, hd, hs, hrun, Result.andThen]
  exact hK _ _ h

set_option maxHeartbeats 4000000 in
theorem grow_none {bw gf : Nat} {fr : List Value} {pc gas : Nat} {stk : List Nat} {mem code : List Int} {w : World} (h : FM bw gf fr pc gas stk mem code w) (a : Option Addr) (la ca t : Nat) (hn : IsNat w a la ca t) (ht : t + 31 < BIG) (hml : mem.length ≤ 32000) (hno : (t + 31) / 32 ≤ mem.length / 32) :
    Calls Sakg.prog 115 #[.pointer (some ⟨gf, 0, none⟩), .slice a la ca] w fun e w' => e = .returned (.tuple #[]) ∧ Below w.heap.size w w' := by
  have hBB := big_ge
  obtain ⟨A, l, c, m1, m2⟩ := h.memN
  have hlm := m2.now.len_eq
  have x9 : ∀ wz, Below w.heap.size w wz → wz.cell? ⟨gf, 9, none⟩ = some (.slice A l c) := fun wz hz => by rw [(h.row.kept hz).cell]; exact m1
  have X9 := hide x9
  have HW := hide (words_any a la ca t w hn ht)
  obtain ⟨q, hq⟩ : ∃ q, q = (t + 31) / 32 := ⟨_, rfl⟩
  obtain ⟨hv, hhv⟩ : ∃ hv, hv = l / 32 := ⟨_, rfl⟩
  rw [← hq] at HW
  have hql : q ≤ 1000 := by omega
  have e32 : (l : Int) / 32 = (hv : Int) := by omega
  have hu : u64N q = q := by unfold u64N; rw [if_pos (by omega)]
  have HU := hide hu
  have hnlt : ¬ hv < q := by omega
  have tle : decide (hv < q) = false := decide_eq_false hnlt
  clear h m1 m2 x9 hq hhv hu hno
  go_enter Sakg.func115, Sakg.ntmps115
  go_wp2_with fail
  refine (unhide HW).mono ?_
  rintro e w1 ⟨A1, k1, c1, rfl, n1, N1, b1⟩
  have HS := hide (small_any A1 k1 c1 q w1 n1 (by omega))
  rw [unhide HU] at HS
  have y9 := unhide X9 w1 b1
  clear n1
  go_wp2_with fail
  refine (unhide HS).mono ?_
  rintro e w2 ⟨rfl, rfl⟩
  go_wp2
  refine bodyPost_done rfl rfl ?_
  exact ⟨rfl, b1⟩

set_option maxHeartbeats 4000000 in
theorem grow_first {bw gf : Nat} {fr : List Value} {pc gas : Nat} {stk : List Nat} {code : List Int} {w : World} (h : FM bw gf fr pc gas stk [] code w) (a : Option Addr) (la ca t : Nat) (hn : IsNat w a la ca t) (ht : t + 31 < BIG) (h1 : (t + 31) / 32 = 1) (hnil : fr[9]? = some nilS) :
    Calls Sakg.prog 115 #[.pointer (some ⟨gf, 0, none⟩), .slice a la ca] w fun e w' => e = .returned (.tuple #[]) ∧ ∃ g w1, w.heap.size ≤ g ∧ Below w.heap.size w w1 ∧ OwnT 5 w1 g (zeros 32) ∧ w' = w1.setCell ⟨gf, 9, none⟩ (.slice (some ⟨g, 0, none⟩) 32 32) := by
  have hBB := big_ge
  have hgl := h.row.lt
  have hrow : ∀ wz, Below w.heap.size w wz → RowT 194 wz gf fr := fun wz hz => h.row.kept hz
  have HROW := hide hrow
  have HW := hide (words_any a la ca t w hn ht)
  rw [h1] at HW
  have HU : u64N 1 = 1 := by unfold u64N; rw [if_pos (by omega)]
  clear h hrow h1
  go_enter Sakg.func115, Sakg.ntmps115
  go_wp2_with fail
  refine (unhide HW).mono ?_
  rintro e w1 ⟨A1, k1, c1, rfl, n1, N1, b1⟩
  have HS := hide (small_any A1 k1 c1 1 w1 n1 (by omega))
  rw [HU] at HS
  have y9 : w1.cell? ⟨gf, 9, none⟩ = some (.slice none 0 0) := by rw [(unhide HROW w1 b1).cell]; exact hnil
  clear n1 HU
  go_wp2_with fail
  refine (unhide HS).mono ?_
  rintro e w2 ⟨rfl, rfl⟩
  go_wp2_with (first
    | (at_make; refine wpList_make_bytes_u rfl _ _ 30 rfl Sakg.underlying30 _ _ 32 rfl rfl rfl rfl (by omega) ?_; intro w3 ho3 hb3 hs3; have d3 : Below w.heap.size w w3 := b1.trans (hb3.mono b1.size); have z9 : w3.cell? ⟨gf, 9, none⟩ = some (.slice none 0 0) := by { rw [(unhide HROW w3 d3).cell]; exact hnil }; have f9 := (unhide HROW w3 d3).froz 9; have HO3 := hide ho3; clear ho3 hs3)
    | (with_reducible refine at_copy ?_; refine wpList_copy_nil rfl _ _ _ _ rfl Sakg.underlying30 _ 32 _ rfl rfl ?_))
  refine bodyPost_done rfl rfl ?_
  exact ⟨rfl, w1.heap.size, w3, b1.size, d3, unhide HO3, rfl⟩

end Go.Proofs.YgcsakGreat
