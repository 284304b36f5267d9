/-
  yp: hashedAddr, createAddr.
-/
import Derived.Test.YgcsakGreatKmH
namespace Go.Proofs.YgcsakGreat
set_option linter.unusedVariables false
set_option linter.unusedSimpArgs false
set_option maxRecDepth 100000
open Go.RowKit

theorem infoAddr2 : (Sakg.prog.info? 26).map (fun i => (i.zero, i.size)) = some (some (.agg (bv (zeros 20)).toArray), 20) := by kernel_rfl

theorem run_arrayAt (g o : Nat) (wx : World) : (Instr.arrayAt 26 (.slice (some ⟨g, o, none⟩) 20 20)).run Sakg.prog wx = .ok (.pointer (some ⟨g, o, none⟩)) wx := by kernel_rfl
set_option maxHeartbeats 4000000 in
theorem hashedAddr_any (A : Option Addr) (l c : Nat) (xs : List Int) (w : World) (h : Src w A l c xs) (hl : l ≤ 1000000) :
    Calls Sakg.prog 190 #[.slice A l c] w fun e w' => (∃ a, e = .returned (.agg (bv a).toArray) ∧ IsAddr a) ∧ Below w.heap.size w w' := by
  have hb0 : Below w.heap.size w (w.alloc (.cells (bv (zeros 20)).toArray 26)) := (Below.refl _ _).alloc (Nat.le_refl _) _
  have hr0 : RowT 26 (w.alloc (.cells (bv (zeros 20)).toArray 26)) w.heap.size (bv (zeros 20)) := RowT.new _ _ _
  have HC := hide (sum_any A l c xs _ (h.kept hb0) hl)
  clear h
  go_enter Sakg.func190, Sakg.ntmps190
  go_upto_region 2 with (first
    | ((with_reducible refine at_alloc 26 ?_); refine wpList_alloc_g (by rfl) 26 rfl (bv (zeros 20)) 20 infoAddr2 (by rw [bv_len, zeros_len]) ?_)
    | (go_at_call 233; refine (unhide HC).mono ?_; rintro e w2 ⟨⟨ys, rfl, hyl, hyb⟩, hb2⟩; have hsz : (Sakg.prog.info? 28).map (·.size) = some (bv ys).length := by { rw [bv_len, hyl]; exact size32 })
    | ((with_reducible refine at_alloc 28 ?_); refine wpList_alloc_g (by rfl) 28 rfl (bv (zeros 32)) 32 info32 (by rw [bv_len, zeros_len]) ?_)
    | ((with_reducible refine at_store 28 ?_); refine wpList_store_whole rfl 28 (.tmp 3) (.tmp 5) rfl w2.heap.size 28 (bv (zeros 32)) (bv ys) rfl rfl (RowT.new _ _ _) (by rw [bv_len, bv_len, hyl, zeros_len]) hsz (bv_one _) ?_; intro w3 hr3 ho3; have hbb3 := box_below ho3; clear ho3))
  have ha : IsAddr ((ys.drop 12).take 20) := ⟨by simp [hyl], (hyb.drop 12).take 20⟩
  have hrg : w3.rangeAt w2.heap.size 12 (bv ((ys.drop 12).take 20)) := by
    have := hr3.range 12 20
    simp only [bv, ← List.map_drop, ← List.map_take] at this
    exact this
  have r3 : RowT 26 w3 w.heap.size (bv (zeros 20)) := (hr0.kept hb2).kept hbb3.1
  have b3 : Below w.heap.size w w3 := hb0.trans ((hb2.trans (hbb3.1.mono hb2.size)).mono (by simp))
  generalize (ys.drop 12).take 20 = a at *
  have HRG := hide hrg
  have R3 := hide r3
  clear hrg r3 hr3 hbb3 hsz hb2 hyl hyb
  have harr := run_arrayAt w2.heap.size 12
  have hasz : (Sakg.prog.info? 26).map (·.size) = some (bv a).toArray.size := by rw [List.size_toArray]; exact ha.size
  go_wp2_with (first
    | ((with_reducible refine at_load 26 ?_); refine wpList_load_g (by rfl) 26 (.tmp 7) rfl w2.heap.size 12 rfl (bv a) _ (unhide HRG) Sakg.underlying26 rfl ha.size ?_)
    | ((with_reducible refine at_store 26 ?_); refine wpList_store_whole rfl 26 (.tmp 2) (.tmp 8) rfl w.heap.size 26 (bv (zeros 20)) (bv a) rfl rfl (unhide R3) (by rw [bv_len, bv_len, ha.len, zeros_len]) ha.size (bv_one _) ?_; intro w4 hr4 ho4))
  refine bodyPost_ret (results_cell_row rfl _ _ _ _ _ _ _ rfl hr4 Sakg.underlying26 rfl hasz) rfl ?_
  exact ⟨⟨a, rfl, ha⟩, b3.trans (ho4.below _ (Nat.le_refl _))⟩


/-- one byte is appended; where the answer lies -/
theorem wpList_append_byte {w : World} {ops : Array Oper} {rest : List Oper} {o : Oper} {a : Act} {Q : Exit → Act → World → Prop} (hgd : o.guard = none) (s x : Operand)
    (ho : o.op = .call { callee := .builtin .append, args := #[s, x], argTypes := #[30, 30] }) (base : Nat) (v : Value) (n : Nat) (xs : List Int) (hs : a.eval s = v) (hown : w.ownsRow base 5 1 v n (bv xs))
    (g : Nat) (b : Int) (t' : TypeId) (hx : a.eval x = .slice (some ⟨g, 0, none⟩) 1 1) (hrow : RowT t' w g (bv [b])) (hn : n + 1 ≤ 1000000000) (hbase : base ≤ w.heap.size)
    (h : ∀ v' w', w'.ownsRow base 5 1 v' (n + 1) (bv (xs ++ [b])) → w.grownBy w' v.ownBlock → (v'.ownBlock = v.ownBlock ∨ v'.ownBlock = some w.heap.size) → wpList Sakg.prog ops Q rest (a.put o.dst v') w') : wpList Sakg.prog ops Q (o :: rest) a w := by
  obtain ⟨i0, hi, hz0, hz1, hz2⟩ := info_parts Sakg.info5
  have hnews : ∀ j u, (bv [b])[j]? = some u → w.cell? ((⟨g, 0, none⟩ : Addr).add j) = some u := fun j u hj => by
    rw [addAt, Nat.zero_add, hrow.cell]; exact hj
  refine wpList_plain hgd fun K hK => ?_
  obtain ⟨v', w', hr, h2, h3, h4⟩ := run_append_own (P := Sakg.prog) w base 30 o.type 5 i0 (.int .u8 0) 1 1 Sakg.underlying30 hi hz0 hz1 hz2 rfl (by decide) v n (bv xs) hown ⟨g, 0, none⟩ 1 1 (bv [b]) rfl hnews (bv_one [b]) (by unfold maxLen; omega) (by omega) hbase
  have hblk : v'.ownBlock = v.ownBlock ∨ v'.ownBlock = some w.heap.size := by
    rcases hown.2 with ⟨rfl, rfl⟩ | ⟨gg, cap, cur, rfl, hbg, hg, hnc, hcm, hcs, htake⟩
    · right
      have := run_append_nil (P := Sakg.prog) w 30 o.type 5 i0 (.int .u8 0) Sakg.underlying30 hi hz0 ⟨g, 0, none⟩ 1 1 (bv [b]) (by rw [hz1]; rfl) hnews (by omega) (by omega) (by rw [hz2]; omega)
      rw [hr] at this
      cases this
      rfl
    · by_cases hroom : n + 1 ≤ cap
      · left
        have := run_append_room (P := Sakg.prog) w 30 o.type 5 i0 Sakg.underlying30 hi gg n cap cur hg ⟨g, 0, none⟩ 1 1 (bv [b]) (by rw [hz1]; rfl) hnews (bv_one [b]) hroom (by rw [hz1]; simp [bv_len]; omega)
        rw [hr] at this
        cases this
        rfl
      · right
        have := run_append_grow (P := Sakg.prog) w 30 o.type 5 i0 (.int .u8 0) Sakg.underlying30 hi hz0 ⟨gg, 0, none⟩ n cap (bv xs) (by rw [hz1]; exact hown.1) (hown.cells (g := gg) rfl) ⟨g, 0, none⟩ 1 1 (bv [b]) (by rw [hz1]; rfl) hnews (by omega) (by omega) (by rw [hz2]; exact growslice_fits (by omega) (by omega))
        rw [hr] at this
        cases this
        rfl
  unfold Oper.wp
  simp [execOp, ho, resolve, invoke, builtin, hs, hx, hr, Result.andThen]
  exact hK _ _ (h v' w' (by rw [bv_append]; exact h2) h3 hblk)

set_option maxHeartbeats 8000000 in
theorem createAddr_any (a : List Int) (A : Option Addr) (k c m : Nat) (w : World) (ha : IsAddr a) (hn : IsNat w A k c m) (hm : m < BIG) :
    Calls Sakg.prog 100 #[.agg (bv a).toArray, .slice A k c] w fun e w' => (∃ a, e = .returned (.agg (bv a).toArray) ∧ IsAddr a) ∧ Below w.heap.size w w' := by
  obtain ⟨W, hW⟩ : ∃ W, W = ((w.alloc (.cells (bv a).toArray 26)).alloc (.cells (bv (zeros 20)).toArray 26)).alloc (.cells #[.int .u8 128] 5) := ⟨_, rfl⟩
  have hWs : W.heap.size = w.heap.size + 3 := by rw [hW]; simp
  have hb0 : Below w.heap.size w W := by rw [hW]; exact (((Below.refl _ _).alloc (Nat.le_refl _) _).alloc (by simp) _).alloc (by simp; omega) _
  have r0 : RowT 26 W w.heap.size (bv a) := by rw [hW]; exact ((RowT.new _ _ _).alloc _).alloc _
  have r1 : RowT 26 W (w.heap.size + 1) (bv (zeros 20)) := by
    rw [hW]
    have := (RowT.new 26 (w.alloc (.cells (bv a).toArray 26)) (bv (zeros 20))).alloc (.cells #[.int .u8 128] 5)
    rw [World.size_alloc] at this
    exact this
  have r2 : RowT 5 W (w.heap.size + 1 + 1) (bv [128]) := by
    rw [hW]
    have := RowT.new 5 ((w.alloc (.cells (bv a).toArray 26)).alloc (.cells (bv (zeros 20)).toArray 26)) (bv [128])
    rw [World.size_alloc, World.size_alloc] at this
    exact this
  have hk := hn.len 200 hm
  obtain ⟨xs, hsrc, -, hval, -⟩ := hn.kept hb0
  have HC := hide (norm_nat A k c xs W hsrc (by omega))
  rw [hval] at HC
  have R0 := hide r0
  have R1 := hide r1
  have R2 := hide r2
  have HA := hide ha
  clear r0 r1 r2 hsrc hn hval ha
  go_enter Sakg.func100, Sakg.ntmps100
  go_upto_region 2 with (first
    | ((with_reducible refine at_alloc 26 ?_); refine wpList_alloc_g (by rfl) 26 rfl (bv (zeros 20)) 20 infoAddr2 (by rw [bv_len, zeros_len]) ?_))
  rw [← hW]
  clear hW
  go_upto_region 3 with (go_at_call 90; refine (unhide HC).mono ?_; rintro e w2 ⟨A2, k2, c2, rfl, hN2, hnew2, hb2⟩)
  have hk2 : k2 ≤ 200 := hN2.len 200 hm
  obtain ⟨ys, hy2, -, -, -⟩ := hN2
  have s2 : w.heap.size + 3 ≤ w2.heap.size := by have := hb2.size; omega
  have q0 : RowT 26 w2 w.heap.size (bv a) := (unhide R0).kept hb2
  have q1 : RowT 26 w2 (w.heap.size + 1) (bv (zeros 20)) := (unhide R1).kept hb2
  have q2 : RowT 5 w2 (w.heap.size + 1 + 1) (bv [128]) := (unhide R2).kept hb2
  have b2 : Below w.heap.size w w2 := hb0.trans (hb2.mono (by omega))
  have hown : ∀ (z : Int) (wz : World), RowT 5 wz (w.heap.size + 1 + 1) (bv [z]) → wz.ownsRow (w.heap.size + 1 + 1) 5 1 (.slice (some ⟨w.heap.size + 1 + 1, 0, none⟩) 1 1) 1 (bv [z]) := fun z wz hz =>
    ⟨rfl, .inr ⟨w.heap.size + 1 + 1, 1, (bv [z]).toArray, rfl, Nat.le_refl _, hz, Nat.le_refl _, by unfold maxLen; omega, rfl, rfl⟩⟩
  have HOWN := hide hown
  have Q0 := hide q0
  have Q1 := hide q1
  have Q2 := hide q2
  have HY := hide hy2
  have Z2 := q2.froz 0
  have X2 : w2.cell? ⟨w.heap.size + 1 + 1, 0, none⟩ = some (.int .u8 128) := by rw [q2.cell]; rfl
  clear hown q0 q1 q2 hy2 HC R0 R1 R2
  go_cut [20] (fun s20 wc => ∃ t : Bool, s20 = .bool t ∧ (t = true → 0 < k2) ∧ w2 = wc)
  case first =>
    by_cases h1 : k2 = 1
    · subst h1
      obtain ⟨b, off, rfl, hcs⟩ := (unhide HY).at_ (by omega)
      have h0 := hcs 0 (by omega)
      rw [Nat.add_zero] at h0
      clear hcs
      obtain ⟨y0, hy0⟩ : ∃ y0, y0 = ys.getD 0 0 := ⟨_, rfl⟩
      rw [← hy0] at h0
      go_wp2_with fail
      go_meet
      case rel => exact ⟨_, rfl, fun _ => by omega, rfl⟩
    · have t1 : ((k2 : Int) == 1) = false := by
        have : ¬ (k2 : Int) = 1 := by omega
        simp [this]
      clear h1
      go_wp2_with fail
      go_meet
      case rel => exact ⟨_, rfl, (fun h => by cases h), rfl⟩
  case rest =>
    obtain ⟨t, rfl, ht0, rfl⟩ := hcut
    have HT0 := hide ht0
    clear ht0
    go_upto_if 20 with fail
    go_cut [5] (fun s5 wc => ∃ (m : Nat) (xs : List Int), wc.ownsRow (w.heap.size + 1 + 1) 5 1 s5 m (bv xs) ∧ Byt xs ∧ m ≤ 201 ∧ RowT 26 wc w.heap.size (bv a) ∧ RowT 26 wc (w.heap.size + 1) (bv (zeros 20)) ∧ Below w.heap.size w wc ∧ w.heap.size + 3 ≤ wc.heap.size)
    case first =>
      have hset : ∀ z : Int, RowT 5 (w2.setCell ⟨w.heap.size + 1 + 1, 0, none⟩ (.int .u8 z)) (w.heap.size + 1 + 1) (bv [z]) := fun z => (unhide Q2).set 0 (.int .u8 z)
      have hon : ∀ z : Int, Only (w.heap.size + 1 + 1) w2 (w2.setCell ⟨w.heap.size + 1 + 1, 0, none⟩ (.int .u8 z)) := fun z => (Only.refl _ _).setCell 0 _
      have HSET := hide hset
      have HON := hide hon
      clear hset hon
      have hend : ∀ z : Int, 0 ≤ z ∧ z ≤ 255 → (w2.setCell ⟨w.heap.size + 1 + 1, 0, none⟩ (.int .u8 z)).ownsRow (w.heap.size + 1 + 1) 5 1 (.slice (some ⟨w.heap.size + 1 + 1, 0, none⟩) 1 1) 1 (bv [z]) ∧ Byt [z] ∧ RowT 26 (w2.setCell ⟨w.heap.size + 1 + 1, 0, none⟩ (.int .u8 z)) w.heap.size (bv a) ∧ RowT 26 (w2.setCell ⟨w.heap.size + 1 + 1, 0, none⟩ (.int .u8 z)) (w.heap.size + 1) (bv (zeros 20)) ∧ Below w.heap.size w (w2.setCell ⟨w.heap.size + 1 + 1, 0, none⟩ (.int .u8 z)) ∧ w.heap.size + 3 ≤ (w2.setCell ⟨w.heap.size + 1 + 1, 0, none⟩ (.int .u8 z)).heap.size := fun z hz =>
        ⟨unhide HOWN z _ (unhide HSET z), (fun x hx => by simp at hx; subst hx; exact hz), (unhide Q0).only (unhide HON z) (by omega), (unhide Q1).only (unhide HON z) (by omega), b2.trans ((unhide HON z).below _ (by omega)), by rw [(unhide HON z).size]; exact s2⟩
      have HEND := hide hend
      clear hend
      cases t with
      | true =>
        obtain ⟨b, off, rfl, hcs⟩ := (unhide HY).at_ (unhide HT0 rfl)
        have hk0 : (0 : Int) < (k2 : Int) := by have := unhide HT0 rfl; omega
        have hk1 : 0 < k2 := unhide HT0 rfl
        have h0 := hcs 0 (unhide HT0 rfl)
        rw [Nat.add_zero] at h0
        have hby := (unhide HY).byt.get 0
        clear hcs
        obtain ⟨y0, hy0⟩ : ∃ y0, y0 = ys.getD 0 0 := ⟨_, rfl⟩
        rw [← hy0] at h0 hby
        clear hy0
        go_wp2_with fail
        go_meet
        case rel =>
          obtain ⟨e1, e2, e3, e4, e5, e6⟩ := unhide HEND y0 hby
          exact ⟨1, [y0], e1, e2, by omega, e3, e4, e5, e6⟩
      | false =>
        by_cases hk0 : k2 = 0
        · subst hk0
          go_wp2_with fail
          go_meet
          case rel => exact ⟨1, [128], unhide HOWN 128 _ (unhide Q2), (fun x hx => by simp at hx; omega), by omega, unhide Q0, unhide Q1, b2, s2⟩
        · have hk1 : 0 < k2 := by omega
          obtain ⟨b, off, rfl, hcs⟩ := (unhide HY).at_ hk1
          have hlt := (unhide HY).lt _ rfl hk1
          have HCS := hide hcs
          obtain ⟨z, hz⟩ : ∃ z : Int, z = (128 + (k2 : Int)) % 256 := ⟨_, rfl⟩
          have hzb : 0 ≤ z ∧ z ≤ 255 := by omega
          have hbw : W.heap.size ≤ b := hnew2 _ rfl
          clear hcs
          go_upto_region 7 with fail
          rw [← hz]
          obtain ⟨e1, e2, e3, e4, e5, e6⟩ := unhide HEND z hzb
          obtain ⟨w3, hw3⟩ : ∃ w3, w3 = w2.setCell ⟨w.heap.size + 1 + 1, 0, none⟩ (.int .u8 z) := ⟨_, rfl⟩
          have hcs3 : ∀ i, i < k2 → w3.cell? ⟨b, off + i, none⟩ = some (.int .u8 (ys.getD i 0)) := fun i hi => by
            rw [hw3, (unhide HON z).cell ⟨b, off + i, none⟩ (by simp; omega)]
            exact unhide HCS i hi
          have hb3 : b < w3.heap.size := by rw [hw3, (unhide HON z).size]; exact hlt
          rw [← hw3] at e1 e3 e4 e5 e6 ⊢
          have hyby := (unhide HY).byt
          have HYB := hide hyby
          clear HEND HSET HON hw3 X2 Z2 hyby
          go_wp2_with fail
          go_loopg [5, 7] k2 (fun gk v5 iv wr => ∃ (n : Nat) (xs : List Int), gk ≤ k2 ∧ iv = .int .i64 gk ∧ n + gk = k2 + 1 ∧ wr.ownsRow (w.heap.size + 1 + 1) 5 1 v5 n (bv xs) ∧ Byt xs ∧ RowT 26 wr w.heap.size (bv a) ∧ RowT 26 wr (w.heap.size + 1) (bv (zeros 20)) ∧ Below w.heap.size w wr ∧ w.heap.size + 3 ≤ wr.heap.size ∧ (∀ i, i < k2 → wr.cell? ⟨b, off + i, none⟩ = some (.int .u8 (ys.getD i 0))) ∧ v5.ownBlock ≠ some b ∧ b < wr.heap.size)
          case atStart => exact ⟨1, [z], Nat.le_refl _, rfl, by omega, e1, e2, e3, e4, e5, e6, hcs3, (fun h => by have := Option.some.inj h; simp at this; omega), hb3⟩
          case round =>
            obtain ⟨n, xs2, hgk, rfl, hng, hown, hxb, p0, p1, pb, ps, pcs, pne, pb2⟩ := hrel
            clear e1 e2 e3 e4 e5 e6 hcs3
            by_cases hz0 : gk = 0
            · subst hz0
              go_wp2
              go_meet
              case rel => exact ⟨n, xs2, hown, hxb, by omega, p0, p1, pb, ps⟩
            · obtain ⟨j, rfl⟩ : ∃ j, gk = j + 1 := ⟨gk - 1, by omega⟩
              have cj := pcs j (by omega)
              have hjb := (unhide HYB).get j
              obtain ⟨y, hy⟩ : ∃ y, y = ys.getD j 0 := ⟨_, rfl⟩
              rw [← hy] at cj hjb
              have ij : (0 : Int) ≤ (j : Int) := by omega
              have ij2 : (j : Int) < (k2 : Int) := by omega
              have ij3 : j < k2 := by omega
              have HOW := hide hown
              have P0 := hide p0
              have P1 := hide p1
              have PCS := hide pcs
              clear hown p0 p1 pcs hy
              go_wp2_with (first
                | ((with_reducible refine at_append ?_); refine wpList_append_byte rfl (.tmp 41) (.tmp 47) rfl (w.heap.size + 1 + 1) _ n xs2 rfl (own_kept (unhide HOW) ((Below.refl _ _).alloc (Nat.le_refl _) _)) wr.heap.size y 5 rfl (RowT.new _ _ _) (by omega) (by simp; omega) (fun v2 w4 hv2 hg2 hblk => ?_)))
              go_roundg j
              case measure => omega
              case rel =>
                have hbg : ∀ k, u5.ownBlock = some k → w.heap.size + 1 + 1 ≤ k := fun k hk => ((unhide HOW).lt k hk).1
                have hs4 := hg2.size
                rw [World.size_alloc] at hs4
                refine ⟨n + 1, xs2 ++ [y], by omega, rfl, by omega, hv2, hxb.snoc y hjb, ((unhide P0).alloc _).grown hg2 (fun h => ?_), ((unhide P1).alloc _).grown hg2 (fun h => ?_), (pb.alloc (by omega) _).grown hg2 (by simp; omega) (fun k hk => by have := hbg k hk; omega), by omega, fun i hi => ?_, ?_, by omega⟩
                · have := hbg _ h.symm; omega
                · have := hbg _ h.symm; omega
                · refine hg2.cell ?_ (fun h => pne h.symm)
                  rw [((Below.refl wr.heap.size wr).alloc (Nat.le_refl _) _).cell (p := ⟨b, off + i, none⟩) pb2]
                  exact unhide PCS i hi
                · rcases hblk with h | h
                  · rw [h]; exact pne
                  · rw [h]
                    intro hh
                    have := Option.some.inj hh
                    simp at this
                    omega
    case rest =>
      obtain ⟨m3, xs3, hown, hxb, hm3, p0, p1, pb, ps⟩ := hcut
      obtain ⟨a5, c5, rfl, hs5⟩ := own_src hown hxb
      have HS5 := hide hs5
      have P0 := hide p0
      have P1 := hide p1
      have hbld : ∀ (q : Int) (wz : World), w.heap.size ≤ wz.heap.size → (wz.alloc (.cells #[.int .u8 q, .int .u8 148] 5)).ownsRow wz.heap.size 5 1 (.slice (some ⟨wz.heap.size, 0, none⟩) 2 2) 2 (bv [q, 148]) := fun q wz hz => World.ownsRow_lit wz #[.int .u8 q, .int .u8 148] 2 (Nat.le_refl _) (by unfold maxLen; omega) rfl
      have HBLD := hide hbld
      have hsrc0 : ∀ o, Src (wc.alloc o) (some ⟨w.heap.size, 0, none⟩) 20 20 a := fun o => OwnT.src_all ((p0.alloc o)) (unhide HA).byt 20 (unhide HA).len.symm (by unfold maxLen; omega)
      have HSRC0 := hide hsrc0
      clear hown hs5 p0 p1 hbld hsrc0 HOWN Q0 Q1 Q2 HY HT0
      obtain ⟨q, hq⟩ : ∃ q : Int, q = (192 + (21 + (m3 : Int))) % 256 := ⟨_, rfl⟩
      have hqb : Byt [q, 148] := fun x hx => by
        simp at hx
        rcases hx with rfl | rfl <;> omega
      go_upto_region 12 with fail
      rw [← hq]
      obtain ⟨w4, hw4⟩ : ∃ w4, w4 = wc.alloc (.cells #[.int .u8 q, .int .u8 148] 5) := ⟨_, rfl⟩
      have o4 : w4.ownsRow wc.heap.size 5 1 (.slice (some ⟨wc.heap.size, 0, none⟩) 2 2) 2 (bv [q, 148]) := hw4 ▸ unhide HBLD q wc (by omega)
      have s4 : Src w4 (some ⟨w.heap.size, 0, none⟩) 20 20 a := hw4 ▸ unhide HSRC0 _
      have b4 : Below wc.heap.size wc w4 := hw4 ▸ (Below.refl _ _).alloc (Nat.le_refl _) _
      rw [← hw4]
      have z4 := b4.size
      clear hw4 HBLD HSRC0 hq
      go_upto_region 13 with (first
        | ((with_reducible refine at_append ?_); refine wpList_append_src rfl (.tmp 55) (.tmp 56) rfl wc.heap.size _ 2 [q, 148] rfl o4 _ 20 20 a rfl s4 (by omega) (by omega) (fun v5 w5 o5 b5 => ?_)))
      have b5' : Below wc.heap.size wc w5 := b4.trans b5
      have z5 := b5'.size
      have s5 := (unhide HS5).kept b5'
      have B5' := hide b5'
      clear o4 s4 b4 b5 b5'
      go_wp2_with (first
        | ((with_reducible refine at_append ?_); refine wpList_append_src rfl (.tmp 58) (.tmp 59) rfl wc.heap.size _ _ _ rfl o5 _ m3 c5 xs3 rfl s5 (by omega) (by omega) (fun v6 w6 o6 b6 => ?_); obtain ⟨a6, c6, rfl, s6⟩ := own_src o6 ((hqb.append (unhide HA).byt).append hxb))
        | (go_at_call 190; refine (hashedAddr_any a6 _ c6 _ w6 s6 (by omega)).mono ?_; rintro e w7 ⟨⟨ra, rfl, hra⟩, b7⟩; have b7' : Below wc.heap.size wc w7 := (unhide B5').trans (b6.trans (b7.mono (by have := b6.size; omega))))
        | ((with_reducible refine at_store 26 ?_); refine wpList_store_whole rfl 26 (.tmp 4) (.tmp 61) rfl (w.heap.size + 1) 26 (bv (zeros 20)) (bv ra) rfl rfl ((unhide P1).kept b7') (by rw [bv_len, bv_len, hra.len, zeros_len]) hra.size (bv_one _) ?_; intro w8 hr8 ho8))
      have hasz : (Sakg.prog.info? 26).map (·.size) = some (bv ra).toArray.size := by rw [List.size_toArray]; exact hra.size
      refine bodyPost_ret (results_cell_row rfl _ _ _ _ _ _ _ rfl hr8 Sakg.underlying26 rfl hasz) rfl ?_
      exact ⟨⟨ra, rfl, hra⟩, (pb.trans (b7'.mono (by omega))).trans (ho8.below _ (by omega))⟩

end Go.Proofs.YgcsakGreat
