/-
  kmodel: Sum.
-/
import Derived.Test.YgcsakGreatKmG
namespace Go.Proofs.YgcsakGreat
set_option linter.unusedVariables false
set_option linter.unusedSimpArgs false
set_option maxRecDepth 100000
open Go.RowKit

theorem at_makeSlice {P : Program} {ops : Array Oper} {Q : Exit → Act → World → Prop} {rest : List Oper} {d : Option Tmp} {ty : TypeId} {p : String} {af : Array Edge} {g : Option (Nat × Bool)} {a : Act} {w : World} {t : TypeId} {x y : Operand}
    (h : wpList P ops Q (⟨d, .makeSlice t x y, ty, p, af, g⟩ :: rest) a w) : wpList P ops Q (⟨d, .makeSlice t x y, ty, p, af, g⟩ :: rest) a w := h
/-- a slice of n bools, our own -/
def Bs (base : Nat) (w : World) (v : Value) (n : Nat) : Prop := ∃ f, w.ownsRow base 4 1 v n (bools n f)
theorem Bs.kept {base : Nat} {w w' : World} {v : Value} {n : Nat} (h : Bs base w v n) (hb : Below w.heap.size w w') : Bs base w' v n := by
  obtain ⟨f, h⟩ := h
  exact ⟨f, own_kept h hb⟩
theorem Bs.read {base : Nat} {w : World} {v : Value} {n : Nat} (h : Bs base w v n) (hn : 0 < n) : ∃ (g c : Nat) (f : Nat → Bool), v = .slice (some ⟨g, 0, none⟩) n c ∧ g < w.heap.size ∧ base ≤ g ∧ ∀ i, i < n → w.cell? ⟨g, i, none⟩ = some (.bool (f i)) := by
  obtain ⟨f, h1, h2⟩ := h
  rcases h2 with ⟨_, h0⟩ | ⟨g, cap, cur, hv, hb, hg, hc, hm, hs, ht⟩
  · omega
  · refine ⟨g, cap, f, hv, (Array.getElem?_eq_some_iff.1 hg).1, hb, fun i hi => ?_⟩
    rw [cell_of_row w g i _ _ _ hg]
    have : (cur.toList.take (n * 1))[i]? = (bools n f)[i]? := by rw [ht]
    rw [List.getElem?_take, if_pos (by omega), bools_get _ _ _ hi] at this
    simpa using this
theorem Bs.len {base : Nat} {w : World} {v : Value} {n : Nat} (h : Bs base w v n) : ∃ a c, v = .slice a n c := by
  obtain ⟨f, h1, h2⟩ := h
  rcases h2 with ⟨h2, h0⟩ | ⟨g, cap, cur, hv, _⟩
  · exact ⟨none, 0, by rw [h2, h0]⟩
  · exact ⟨_, _, hv⟩
theorem infoBool : (Sakg.prog.info? 4).map (fun i => (i.zero, i.size, i.bytes)) = some (some (.bool false), 1, 1) := by kernel_rfl

theorem wpList_append_bool {w : World} {ops : Array Oper} {rest : List Oper} {o : Oper} {a : Act} {Q : Exit → Act → World → Prop} (hgd : o.guard = none) (s x : Operand)
    (ho : o.op = .call { callee := .builtin .append, args := #[s, x], argTypes := #[255, 255] }) (base : Nat) (v : Value) (n : Nat) (hs : a.eval s = v) (hown : Bs base w v n)
    (g : Nat) (b : Bool) (t' : TypeId) (hx : a.eval x = .slice (some ⟨g, 0, none⟩) 1 1) (hrow : RowT t' w g [.bool b]) (hn : n + 1 ≤ 1000000000) (hbase : base ≤ w.heap.size)
    (h : ∀ v' w', Bs base w' v' (n + 1) → Below base w w' → wpList Sakg.prog ops Q rest (a.put o.dst v') w') : wpList Sakg.prog ops Q (o :: rest) a w := by
  obtain ⟨f, hf⟩ := hown
  cases hi : Sakg.prog.info? 4 with
  | none => have := infoBool; rw [hi] at this; cases this
  | some i0 =>
    have h0 := infoBool
    rw [hi] at h0
    simp only [Option.map_some, Option.some.injEq, Prod.mk.injEq] at h0
    refine wpList_append_own w hgd s x 255 ho base 4 i0 (.bool false) 1 1 Sakg.underlying255 hi h0.1 h0.2.1 h0.2.2 rfl (by omega) v n (bools n f) hs hf ⟨g, 0, none⟩ 1 1 [.bool b] hx rfl ?_ (by simp [Value.oneCell']) (by unfold maxLen; omega) (by omega) hbase ?_
    · intro j u hj
      rw [addAt, Nat.zero_add, hrow.cell]
      exact hj
    · intro v' w' ho' hg _
      obtain ⟨f2, hf2⟩ := bools_of (n + 1) (bools n f ++ [.bool b]) (by simp [bools_len]) (by
        intro u hu
        rcases List.mem_append.1 hu with hu | hu
        · exact bools_mem _ _ u hu
        · simp at hu; exact ⟨b, hu⟩)
      refine h v' w' ⟨f2, hf2 ▸ ho'⟩ ((Below.refl base w).grown hg hbase ?_)
      intro k hk
      exact (hf.lt k hk).1

theorem wpList_make_bools {w : World} {ops : Array Oper} {rest : List Oper} {o : Oper} {a : Act} {Q : Exit → Act → World → Prop}
    (hg : o.guard = none) (l c : Operand) (hop : o.op = Op.makeSlice 255 l c) (C : Int) (n : Nat) (hl : a.eval l = .int .i64 0) (hc : a.eval c = .int .i64 C) (hC : C = (n : Int)) (b3 : n ≤ 1000000000)
    (hK : ∀ w' v, Bs w.heap.size w' v 0 → Below w.heap.size w w' → wpList Sakg.prog ops Q rest (a.put o.dst v) w') :
    wpList Sakg.prog ops Q (o :: rest) a w := by
  subst hC
  cases hi : Sakg.prog.info? 4 with
  | none => have := infoBool; rw [hi] at this; cases this
  | some i0 =>
    have h0 := infoBool
    rw [hi] at h0
    simp only [Option.map_some, Option.some.injEq, Prod.mk.injEq] at h0
    refine wpList_plain hg fun K hK' => ?_
    have hrun := run_make (P := Sakg.prog) w 255 4 i0 (.bool false) Sakg.underlying255 hi h0.1 .i64 .i64 (0 : Int) (n : Int) (by omega) (by omega) (by rw [h0.2.2]; omega) (by omega)
    unfold Oper.wp
    simp [execOp, hop, hl, hc, hrun, Result.andThen]
    refine hK' _ _ (hK _ _ ⟨fun _ => false, ?_⟩ ((Below.refl _ _).alloc (Nat.le_refl _) _))
    have := World.ownsRow_made (base := w.heap.size) (e := 4) (size := 1) w (madeCells (Value.bool false).cells (n * i0.size)) n (Nat.le_refl _) (by unfold maxLen; omega) (by rw [size_madeCells, h0.2.1])
    have hz : bools 0 (fun _ => false) = [] := by unfold bools; rfl
    rw [hz]
    simpa [h0.2.1] using this

def Sm (w wr : World) (v : Value) (n : Nat) : Prop := RowT 28 wr w.heap.size (bv (zeros 32)) ∧ Bs (w.heap.size + 1) wr v n ∧ Below w.heap.size w wr
theorem Sm.step {w wr w' : World} {v v' : Value} {n : Nat} {o : Obj} (h : Sm w wr v n) (hb : Bs (w.heap.size + 1) w' v' (n + 1)) (hbe : Below (w.heap.size + 1) (wr.alloc o) w') : Sm w w' v' (n + 1) := by
  have h1 : w.heap.size < wr.heap.size := h.1.lt
  exact ⟨(h.1.alloc o).below hbe (by omega), hb, (h.2.2.alloc (by omega) o).trans (hbe.mono (by omega))⟩
theorem infoS : (Sakg.prog.info? 396).map (fun i => (i.zero, i.size)) = some (some (.agg (bools 1600 fun _ => false).toArray), 1600) := by kernel_rfl
theorem info32 : (Sakg.prog.info? 28).map (fun i => (i.zero, i.size)) = some (some (.agg (bv (zeros 32)).toArray), 32) := by kernel_rfl
theorem getD_some' (l : List Int) (i : Nat) (h : i < l.length) : l[i]? = some (l.getD i 0) := by
  rw [List.getD_eq_getElem?_getD, List.getElem?_eq_getElem h]; rfl
theorem size32 : (Sakg.prog.info? 28).map (·.size) = some 32 := by kernel_rfl

set_option maxHeartbeats 8000000 in
theorem sum_any (A : Option Addr) (l c : Nat) (xs : List Int) (w : World) (h : Src w A l c xs) (hl : l ≤ 1000000) :
    Calls Sakg.prog 233 #[.slice A l c] w fun e w' => (∃ ys, e = .returned (.agg (bv ys).toArray) ∧ ys.length = 32 ∧ Byt ys) ∧ Below w.heap.size w w' := by
  have H := hide h
  have hmk : IntKind.i64.wrap (8 * (l : Int)) = 8 * (l : Int) := by rw [IntKind.wrap_i64]; omega
  have hmk2 : IntKind.i64.wrap (8 * (l : Int) + 2176) = 8 * (l : Int) + 2176 := by rw [IntKind.wrap_i64]; omega
  have hb0 : Below w.heap.size w (w.alloc (.cells (bv (zeros 32)).toArray 28)) := (Below.refl _ _).alloc (Nat.le_refl _) _
  have hr0 : RowT 28 (w.alloc (.cells (bv (zeros 32)).toArray 28)) w.heap.size (bv (zeros 32)) := RowT.new _ _ _
  clear h
  go_enter Sakg.func233, Sakg.ntmps233
  go_upto_region 2 with ((with_reducible refine at_makeSlice ?_); refine wpList_make_bools rfl _ _ rfl _ (8 * l + 2176) rfl rfl (by omega) (by omega) (fun w1 v1 hv1 hb1 => ?_))
  have hS1 : Sm w w1 v1 0 := ⟨hr0.kept hb1, by have := hv1; rw [World.size_alloc] at this; exact this, hb0.trans (hb1.mono (by simp))⟩
  clear hv1 hb1 hr0 hb0
  go_wp2_with fail
  go_loopg [19, 3] l (fun gk iv bvv wr => ∃ i : Nat, i + gk = l ∧ iv = .int .i64 i ∧ Sm w wr bvv (8 * i))
  case atStart => exact ⟨0, by omega, rfl, hS1⟩
  case round =>
    obtain ⟨i, hi, rfl, hS⟩ := hrel
    by_cases hil : i < l
    · obtain ⟨b, off, rfl, hcs⟩ := (unhide H).at_ (by omega)
      have hlt := (unhide H).lt _ rfl (by omega)
      have hci : wr.cell? ⟨b, off + i, none⟩ = some (.int .u8 (xs.getD i 0)) := by rw [hS.2.2.cell (p := ⟨b, off + i, none⟩) hlt]; exact hcs i hil
      have dil : (i : Int) < (l : Int) := by omega
      obtain ⟨x, hx⟩ : ∃ x, x = xs.getD i 0 := ⟨_, rfl⟩
      rw [← hx] at hci
      clear hcs hx hS1
      go_wp2_with fail
      go_loopg [6, 3] 8 (fun gk kv bvv wr => ∃ k : Nat, k + gk = 8 ∧ kv = .int .i64 k ∧ Sm w wr bvv (8 * i + k))
      case atStart => exact ⟨0, by omega, rfl, hS⟩
      case round =>
        obtain ⟨k, hk, rfl, hS⟩ := hrel
        by_cases hkl : k < 8
        · have ik : (k : Int) < 8 := by omega
          have bk : (0 : Int) ≤ (k : Int) := by omega
          go_wp2_with (first
            | ((with_reducible refine at_append ?_); refine wpList_append_bool rfl (.tmp 27) (.tmp 33) rfl (w.heap.size + 1) _ (8 * i + k) rfl (hS.2.1.kept ((Below.refl _ _).alloc (Nat.le_refl _) _)) wr.heap.size _ 4 rfl (RowT.new _ _ _) (by omega) (by have := hS.1.lt; simp; omega) (fun v2 w2 hv2 hb2 => ?_); have hS2 := hS.step hv2 hb2; clear hv2 hb2))
          go_roundg (7 - k)
          case measure => omega
          case rel => exact ⟨k + 1, by omega, rfl, hS2⟩
        · have dk : decide ((k : Int) < 8) = false := decide_eq_false (by omega)
          have hS2 : Sm w wr u3 (8 * (i + 1)) := by
            have e : 8 * (i + 1) = 8 * i + k := by omega
            rw [e]; exact hS
          clear hS
          go_wp2
          go_roundg (l - 1 - i)
          case measure => omega
          case rel => exact ⟨i + 1, by omega, rfl, hS2⟩
    · obtain rfl : i = l := by omega
      clear hi hil hS1
      go_upto_region 11 with (first
            | ((with_reducible refine at_append ?_); refine wpList_append_bool rfl (.tmp 36) (.tmp 37) rfl (w.heap.size + 1) _ (8 * i) rfl (hS.2.1.kept ((Below.refl _ _).alloc (Nat.le_refl _) _)) wr.heap.size _ 4 rfl (RowT.new _ _ _) (by omega) (by have := hS.1.lt; simp; omega) (fun v2 w2 hv2 hb2 => ?_); have hS2 := hS.step hv2 hb2; clear hv2 hb2))
      clear hS H hmk hmk2
      obtain ⟨d, hd, hd2⟩ : ∃ d, d < 1088 ∧ (8 * i + 1 + d) % 1088 = 1087 := ⟨(2175 - (8 * i + 1) % 1088) % 1088, by omega, by omega⟩
      obtain ⟨N, hN⟩ : ∃ N, N = 8 * i + 1 + d := ⟨_, rfl⟩
      have hNb : N ≤ 9000000 := by omega
      rw [← hN] at hd2
      go_loopg [3] d (fun gk bvv wr => ∃ n : Nat, n + gk = N ∧ gk < 1088 ∧ Sm w wr bvv n)
      case atStart => exact ⟨8 * i + 1, by omega, hd, hS2⟩
      case round =>
        obtain ⟨n, hn, hgk, hS⟩ := hrel
        obtain ⟨a3, c3, rfl⟩ := hS.2.1.len
        clear hS2
        by_cases hz : gk = 0
        · subst hz
          obtain rfl : n = N := by omega
          have t1 : ((n : Int) % 1088 == 1087) = true := by
            have : (n : Int) % 1088 = 1087 := by omega
            rw [this]; rfl
          have hS' := hS
          clear hN hd hn hgk
          go_upto_region 14 with (first
            | ((with_reducible refine at_append ?_); refine wpList_append_bool rfl (.tmp 46) (.tmp 47) rfl (w.heap.size + 1) _ n rfl (hS.2.1.kept ((Below.refl _ _).alloc (Nat.le_refl _) _)) wr.heap.size _ 4 rfl (RowT.new _ _ _) (by omega) (by have := hS.1.lt; simp; omega) (fun v2 w2 hv2 hb2 => ?_); have hS2 := hS.step hv2 hb2; clear hv2 hb2))
          obtain ⟨gb, cb, fb, rfl, hgb, hgb2, hbits⟩ := hS2.2.1.read (by omega)
          obtain ⟨M, hM⟩ : ∃ M, M = n + 1 := ⟨_, rfl⟩
          rw [← hM] at hbits hS2
          simp only [← hM]
          have hM0 : 0 < M := by omega
          have hMb : M ≤ 9000001 := by omega
          clear hM hS hS' t1 hd2
          go_upto_region 15 with ((with_reducible refine at_alloc 396 ?_); refine wpList_alloc_g (by rfl) 396 rfl _ _ infoS (bools_len _ _) ?_)
          obtain ⟨w5, hw5⟩ : ∃ w5, w5 = w2.alloc (.cells (bools 1600 fun _ => false).toArray 396) := ⟨_, rfl⟩
          have hs5 : w2.heap.size < w5.heap.size := by rw [hw5]; simp
          have r5 : BT 396 w5 w2.heap.size 1600 (fun _ => false) := by rw [hw5]; exact RowT.new _ _ _
          have o5 : RowT 28 w5 w.heap.size (bv (zeros 32)) := by rw [hw5]; exact hS2.1.alloc _
          have b5 : Below w.heap.size w w5 := by rw [hw5]; exact hS2.2.2.alloc (by have := hS2.1.lt; omega) _
          have bits5 : ∀ i, i < M → w5.cell? ⟨gb, i, none⟩ = some (.bool (fb i)) := fun i hi => by
            rw [hw5, ((Below.refl w2.heap.size w2).alloc (Nat.le_refl _) _).cell (p := ⟨gb, i, none⟩) hgb]
            exact hbits i hi
          have hso : w.heap.size < w2.heap.size := hS2.1.lt
          rw [← hw5]
          have O5 := hide o5
          have B5 := hide bits5
          clear hw5 hbits hS2 o5 bits5
          go_wp2_with fail
          go_loopg [51] M (fun gk iv wr => ∃ j : Nat, j + gk = M ∧ iv = .int .i64 j ∧ (∃ fs, BT 396 wr w2.heap.size 1600 fs) ∧ Chg w2.heap.size w5 wr)
          case atStart => exact ⟨0, by omega, rfl, ⟨_, r5⟩, Chg.refl _ _⟩
          case round =>
            obtain ⟨j, hj, rfl, ⟨fs, hfs⟩, hc⟩ := hrel
            by_cases hjl : j < M
            · have ij : (j : Int) < (M : Int) := by omega
              have cj : wr.cell? ⟨gb, j, none⟩ = some (.bool (fb j)) := by rw [hc.cell ⟨gb, j, none⟩ (by simp; omega) (by simp; omega)]; exact unhide B5 j hjl
              obtain ⟨P, hP, hP2⟩ : ∃ P : Nat, (j : Int) % 1088 = (P : Int) ∧ P < 1088 := ⟨j % 1088, by omega, by omega⟩
              have iP : (P : Int) < 1600 := by omega
              have cP := hfs.cell P (by omega)
              have zP := hfs.froz P
              have FS := hide hfs
              clear hfs r5
              have hset := fun b => (unhide FS).set P b
              have hon := fun (b : Bool) => hc.trans (Chg.ofOnly ((Only.refl w2.heap.size wr).setCell P (.bool b)))
              have HSET := hide hset
              have HON := hide hon
              clear hset hon
              by_cases hPe : P = 1087
              · have tP : ((P : Int) == 1087) = true := by subst hPe; rfl
                have HPE := hide hPe
                clear hPe
                go_wp2_with (go_at_call 325; refine (permF_any w2.heap.size _ _ (unhide HSET _)).mono ?_; rintro e w6 ⟨rfl, h6, hc6⟩; have hc6' := (unhide HON _).trans hc6; clear hc6)
                go_roundg (M - 1 - j)
                case measure => omega
                case rel => exact ⟨j + 1, by omega, rfl, h6, hc6'⟩
              · have tP : ((P : Int) == 1087) = false := by
                  have : ¬ (P : Int) = 1087 := by omega
                  simp [this]
                have HPE := hide hPe
                clear hPe
                go_wp2
                go_roundg (M - 1 - j)
                case measure => omega
                case rel => exact ⟨j + 1, by omega, rfl, ⟨_, unhide HSET _⟩, unhide HON _⟩
            · obtain rfl : j = M := by omega
              clear hj hjl r5
              have w6s : w5.heap.size ≤ wr.heap.size := hc.size
              have c6 : ∀ o, Chg w2.heap.size w5 (wr.alloc o) := fun o => hc.trans (Chg.of ((Below.refl _ _).alloc (Nat.le_refl _) o))
              have bt6 : ∀ o, BT 396 (wr.alloc o) w2.heap.size 1600 fs := fun o => RowT.alloc hfs o
              have o6 : RowT 28 (wr.alloc (.cells (bv (zeros 32)).toArray 28)) wr.heap.size (bv (zeros 32)) := RowT.new _ _ _
              have C6 := hide c6
              have BT6 := hide bt6
              have hsz7 : ∀ o, (wr.alloc o).heap.size = wr.heap.size + 1 := fun o => by simp
              clear c6 bt6 hfs
              go_upto_region 23 with ((with_reducible refine at_alloc 28 ?_); refine wpList_alloc_g (by rfl) 28 rfl (bv (zeros 32)) 32 info32 (by rw [bv_len, zeros_len]) ?_)
              obtain ⟨w7, hw7⟩ : ∃ w7, w7 = wr.alloc (.cells (bv (zeros 32)).toArray 28) := ⟨_, rfl⟩
              have c7 : Chg w2.heap.size w5 w7 := hw7 ▸ unhide C6 _
              have bt7 : BT 396 w7 w2.heap.size 1600 fs := hw7 ▸ unhide BT6 _
              have s7 : wr.heap.size < w7.heap.size := by rw [hw7]; simp
              rw [← hw7] at o6 ⊢
              obtain ⟨go, hgo⟩ : ∃ go, go = wr.heap.size := ⟨_, rfl⟩
              rw [← hgo] at o6 s7 w6s ⊢
              have C7 := hide c7
              have BT7 := hide bt7
              clear hw7 C6 BT6 c7 bt7 hsz7 hc hgo
              go_wp2_with fail
              go_loopg [11] 256 (fun gk iv wr => ∃ (k : Nat) (ys : List Int), k + gk = 256 ∧ iv = .int .i64 k ∧ RowT 28 wr go (bv ys) ∧ ys.length = 32 ∧ Byt ys ∧ Chg go w7 wr)
              case atStart => exact ⟨0, zeros 32, by omega, rfl, o6, zeros_len 32, zeros_byt 32, Chg.refl _ _⟩
              case round =>
                obtain ⟨k, ys, hk, rfl, hrow, hyl, hyb, hc⟩ := hrel
                by_cases hkl : k < 256
                · have ik : (k : Int) < 256 := by omega
                  have ik2 : (k : Int) < 1600 := by omega
                  have bk : (0 : Int) ≤ (k : Int) := by omega
                  have ck : wr.cell? ⟨w2.heap.size, k, none⟩ = some (.bool (fs k)) := by rw [hc.cell ⟨w2.heap.size, k, none⟩ (by simp; omega) (by simp; omega)]; exact (unhide BT7).cell k (by omega)
                  obtain ⟨b0, hb0⟩ : ∃ b0, fs k = b0 := ⟨_, rfl⟩
                  rw [hb0] at ck
                  clear hb0
                  have HROW := hide hrow
                  have HYB := hide hyb
                  have HYL := hide hyl
                  clear o6
                  cases b0 with
                  | false =>
                    clear hrow hyb hyl
                    go_wp2
                    go_roundg (255 - k)
                    case measure => omega
                    case rel => exact ⟨k + 1, ys, by omega, rfl, unhide HROW, unhide HYL, unhide HYB, hc⟩
                  | true =>
                    obtain ⟨Q, hQ, hQ2⟩ : ∃ Q : Nat, (k : Int) / 8 = (Q : Int) ∧ Q < 32 := ⟨k / 8, by omega, by omega⟩
                    obtain ⟨E, hE, hE2⟩ : ∃ E : Nat, (k : Int) % 8 = (E : Int) ∧ E < 8 := ⟨k % 8, by omega, by omega⟩
                    have e1 : Int.tdiv (k : Int) 8 = Q := by rw [Int.tdiv_eq_ediv_of_nonneg (by omega)]; exact hQ
                    have e2 : Int.tmod (k : Int) 8 = E := by rw [Int.tmod_eq_emod_of_nonneg (by omega)]; exact hE
                    have e3 : IntKind.i64.wrap (Q : Int) = Q := by rw [IntKind.wrap_i64]; omega
                    have e4 : IntKind.i64.wrap (E : Int) = E := by rw [IntKind.wrap_i64]; omega
                    have iQ : (Q : Int) < 32 := by omega
                    have bE : (0 : Int) ≤ (E : Int) := by omega
                    have cQ : wr.cell? ⟨go, Q, none⟩ = some (.int .u8 (ys.getD Q 0)) := by
                      rw [hrow.cell, bv, List.getElem?_map, getD_some' ys Q (by omega)]; rfl
                    have zQ := hrow.froz Q
                    have hset := fun (v : Int) => hrow.set Q (.int .u8 v)
                    have hsv : ∀ v : Int, (bv ys).set Q (.int .u8 v) = bv (ys.set Q v) := fun v => by simp [bv, List.map_set]
                    generalize ys.getD Q 0 = y0 at cQ
                    have HSET := hide hset
                    have HSV := hide hsv
                    clear hset hsv hrow hyb hyl
                    go_upto_region 27 with fail
                    rw [shade_of 80]
                    go_region_held3 (fun _ => True) (trivial) (fail)
                    go_wp2
                    go_roundg (255 - k)
                    case measure => omega
                    case rel =>
                      have h1 := unhide HSET (bits .or .u8 y0 (IntKind.u8.wrap (2 ^ E)))
                      rw [unhide HSV] at h1
                      refine ⟨k + 1, ys.set Q (bits .or .u8 y0 (IntKind.u8.wrap (2 ^ E))), by omega, rfl, RowT.kept h1 (Quiet.below ⟨1, rfl⟩ _), by rw [List.length_set]; exact unhide HYL, (unhide HYB).set Q _ ⟨(bits_within .or .u8 _ _).1, (bits_within .or .u8 _ _).2⟩, ?_⟩
                      exact (hc.trans (Chg.ofOnly ((Only.refl go wr).setCell Q _))).trans (Chg.of (Quiet.below ⟨1, rfl⟩ _))
                · have dk : decide ((k : Int) < 256) = false := decide_eq_false (by omega)
                  have o9 : RowT 28 wr w.heap.size (bv (zeros 32)) := hc.row ((unhide C7).row (unhide O5) (by omega)) (by omega)
                  have b9 : Below w.heap.size w wr := b5.trans (((unhide C7).below w.heap.size (by omega) (by omega)).trans (hc.below w.heap.size (by omega) (by omega)))
                  have hsz : (Sakg.prog.info? 28).map (·.size) = some (bv ys).length := by rw [bv_len, hyl]; exact size32
                  have HROW := hide hrow
                  have O9 := hide o9
                  have hyl2 : (bv (zeros 32)).length = (bv ys).length := by rw [bv_len, bv_len, hyl, zeros_len]
                  clear hrow o9 o6
                  go_wp2_with (first
                    | ((with_reducible refine at_load 28 ?_); refine wpList_load_g (by rfl) 28 (.tmp 10) rfl go 0 rfl (bv ys) _ (unhide HROW).rangeAll Sakg.underlying28 rfl hsz ?_)
                    | ((with_reducible refine at_store 28 ?_); refine wpList_store_whole rfl 28 (.tmp 2) (.tmp 86) rfl w.heap.size 28 (bv (zeros 32)) (bv ys) rfl rfl (unhide O9) hyl2 hsz (bv_one _) ?_; intro wE hrE hoE))
                  refine bodyPost_ret (results_cell_row rfl _ _ _ _ _ _ _ rfl hrE Sakg.underlying28 rfl (by simpa using hsz)) rfl ?_
                  exact ⟨⟨ys, rfl, hyl, hyb⟩, b9.trans (hoE.below _ (Nat.le_refl _))⟩
        · have t1 : ((n : Int) % 1088 == 1087) = false := by
            have : ¬ (n : Int) % 1088 = 1087 := by omega
            simp [this]
          go_wp2_with (first
            | ((with_reducible refine at_append ?_); refine wpList_append_bool rfl (.tmp 43) (.tmp 44) rfl (w.heap.size + 1) _ n rfl (hS.2.1.kept ((Below.refl _ _).alloc (Nat.le_refl _) _)) wr.heap.size _ 4 rfl (RowT.new _ _ _) (by omega) (by have := hS.1.lt; simp; omega) (fun v2 w2 hv2 hb2 => ?_); have hS2 := hS.step hv2 hb2; clear hv2 hb2))
          go_roundg (gk - 1)
          case measure => omega
          case rel => exact ⟨n + 1, by omega, by omega, hS2⟩

end Go.Proofs.YgcsakGreat
