/-
  yp: (*World).put.
-/
import Derived.Test.YgcsakGreatYpD
import Derived.Deep.LoopGhost
namespace Go.Proofs.YgcsakGreat
set_option linter.unusedVariables false
set_option linter.unusedSimpArgs false
set_option maxRecDepth 100000
open Go.RowKit

/-- the list with the account in its place, as the loop lays it -/
def putL (d : YAcct) : Bool → List YAcct → List YAcct
  | laid, [] => if laid then [] else [d]
  | laid, x :: xs => (if (!laid && !beforeB x.addr d.addr) = true then [d] else []) ++ (if x.addr = d.addr then [] else [x]) ++ putL d (laid || !beforeB x.addr d.addr) xs
def putY (ds : List YAcct) (d : YAcct) : List YAcct := putL d (emptyY d && decide (d.slots.length = 0)) ds

theorem Rws.app {w : World} {sz : Nat} {ao : Option Addr} {l c : Nat} {rows : List (List Value)} (h : Rws w sz ao l c rows) (i : Nat) (hi : i < l) : (rows.getD i []).length = sz := by
  have := h.len_eq
  exact h.sz_eq _ (by rw [List.getD_eq_getElem?_getD, List.getElem?_eq_getElem (by omega)]; simp)

theorem Each.all {α : Type} {R : List Value → α → Prop} {p : List Value → Prop} (hp : ∀ r d, R r d → p r) : ∀ {rs : List (List Value)} {ds : List α}, Each R rs ds → ∀ r ∈ rs, p r
  | [], [], _, _, h => by simp at h
  | r :: rs, d :: ds, he, x, hx => by
    rcases List.mem_cons.1 hx with rfl | hx
    · exact hp _ _ he.1
    · exact Each.all hp he.2 x hx
  | [], _ :: _, he, _, _ => he.elim
  | _ :: _, [], he, _, _ => he.elim

theorem bodyPost_done {fn : Func} {R : Ending → World → Prop} {a : Act} {w : World} (hr : fn.results = #[]) (hd : a.defers = []) (hR : R (.returned (.tuple #[])) w) : bodyPost Sakg.prog fn R .normal a w :=
  bodyPost_end (v := .tuple #[]) (by simp [results, hr]) hd hR

/-- what put leaves -/
def PutPost (R : List Value → YAcct → Prop) (T : TypeId) (bw : Nat) (cs : List Value) (l : Nat) (ds : List YAcct) (w w' : World) : Prop :=
  ∃ A n c' rows', RowT T w' bw (cs.set 0 (.slice A n c')) ∧ Rws w' 24 A n c' rows' ∧ Each R rows' ds ∧ New w A ∧ n ≤ l + 1 ∧ Chg bw w w'

set_option maxHeartbeats 8000000 in
theorem put_any (R : List Value → YAcct → Prop) (hR : ARow R) (T : TypeId) (bw : Nat) (cs : List Value) (ao : Option Addr) (l c : Nat) (rows : List (List Value)) (ds : List YAcct) (r0 : List Value) (d : YAcct) (w : World) (hcs : RowT T w bw cs) (h0 : cs[0]? = some (.slice ao l c)) (h1 : Rws w 24 ao l c rows) (h2 : Each R rows ds) (hl : l ≤ 1000000)
    (hr0 : R r0 d) (hrow : AcctRow w r0 d) (hd1 : d.nonce < BIG) (hd2 : d.bal < BIG) :
    Calls Sakg.prog 192 #[.pointer (some ⟨bw, 0, none⟩), .agg r0.toArray] w fun e w' => e = .returned (.tuple #[]) ∧ PutPost R T bw cs l (putY ds d) w w' := by
  obtain ⟨i0, hi0, hz0, hz1, hz2⟩ := info_parts infoAcct
  have HI0 := hide hi0
  have HZ0 := hide hz0
  have HZ1 := hide hz1
  have HZ2 := hide hz2
  have hslots : ∃ A4 k4 c4, r0[23]? = some (.slice A4 k4 c4) ∧ d.slots.length = k4 := by
    obtain ⟨A1, k1, c1, A2, k2, c2, A3, k3, c3, A4, k4, c4, rfl, ha, hn, hb, hc, rs, hs1, hs2⟩ := hrow
    refine ⟨A4, k4, c4, ?_, ?_⟩
    · rw [List.getElem?_append_right (by rw [bv_len, ha.len]; omega), bv_len, ha.len]; rfl
    · rw [← hs2.len, hs1.len_eq]
  obtain ⟨A4, k4, c4, hs23, hsl⟩ := hslots
  have hrl := hR.len hr0
  have hb1 : Below w.heap.size w (w.alloc (.cells r0.toArray 113)) := (Below.refl _ _).alloc (Nat.le_refl _) _
  have hr1 : RowT 113 (w.alloc (.cells r0.toArray 113)) w.heap.size r0 := RowT.new _ _ _
  have HE := hide (empty_any w.heap.size r0 d _ hr1 (hrow.kept hb1) hd1 hd2)
  have hlaid0 : (emptyY d && decide (d.slots.length = 0)) = (emptyY d && ((k4 : Int) == 0)) := by
    rw [hsl]
    congr 1
    by_cases h : k4 = 0
    · subst h; rfl
    · rw [decide_eq_false h, eq_comm]; simp; exact h
  have hpy : putY ds d = putL d (emptyY d && ((k4 : Int) == 0)) ds := by unfold putY; rw [hlaid0]
  have e23 : ∀ k, ((w.alloc (.cells r0.toArray 113)).drewN k).cell? ⟨w.heap.size, 23, none⟩ = some (.slice A4 k4 c4) := fun k => by rw [(hr1.kept (Quiet.below ⟨k, rfl⟩ _)).cell]; exact hs23
  have H := hide (rows_at h1 h2)
  have hln := h2.len
  have hln2 := h1.len_eq
  have HL : Hid (ds.length = l) := hide (by omega)
  have HRL := hide hrl
  have HR0 := hide hr0
  have HPY := hide hpy
  have HCS := hide hcs
  have hsz : (Sakg.prog.info? 113).map (·.size) = some r0.length := by rw [hrl]; exact sizeAcct
  have HSZ := hide hsz
  have hbw := hcs.lt
  have hc0 : ∀ k, ((w.alloc (.cells r0.toArray 113)).drewN k).cell? ⟨bw, 0, none⟩ = some (.slice ao l c) := fun k => by rw [((hcs.alloc _).kept (Quiet.below ⟨k, rfl⟩ _)).cell]; exact h0
  clear h1 h2 hln hln2 hi0 hz0 hz1 hz2 hrl hr0 hrow hpy hlaid0 hs23 hsl hd1 hd2 hcs hsz
  generalize emptyY d = em at *
  go_enter Sakg.func192, Sakg.ntmps192
  go_upto_region 2 with fail
  go_cut [5] (fun s5 wc => s5 = .bool (em && ((k4 : Int) == 0)) ∧ ∃ k, wc = (w.alloc (.cells r0.toArray 113)).drewN k)
  case first =>
    cases em with
    | false =>
      go_wp2_with (go_at_call 54; refine (unhide HE).mono ?_; rintro e w1 ⟨rfl, hq⟩; obtain ⟨n1, rfl⟩ := hq)
      go_meet
      case rel => exact ⟨rfl, _, rfl⟩
    | true =>
      go_wp2_with (go_at_call 54; refine (unhide HE).mono ?_; rintro e w1 ⟨rfl, hq⟩; obtain ⟨n1, rfl⟩ := hq)
      go_meet
      case rel => exact ⟨rfl, _, rfl⟩
  case rest =>
    obtain ⟨rfl, n1, rfl⟩ := hcut
    obtain ⟨w1, hw1⟩ : ∃ w1, w1 = (w.alloc (.cells r0.toArray 113)).drewN n1 := ⟨_, rfl⟩
    have hc1 := hc0 n1
    have hr2 : RowT 113 w1 w.heap.size r0 := by rw [hw1]; exact hr1.kept (Quiet.below ⟨n1, rfl⟩ _)
    have hb2 : Below w.heap.size w w1 := by rw [hw1]; exact hb1.trans (Quiet.below ⟨n1, rfl⟩ _)
    have hs2 : w1.heap.size = w.heap.size + 1 := by rw [hw1]; simp
    rw [← hw1] at hc1 ⊢
    generalize hl0 : (em && ((k4 : Int) == 0)) = laid0 at *
    clear hr1 hb1 hc0 e23 HE hw1 hl0
    go_wp2_with fail
    go_loopg [4, 5, 20] l (fun gk v ld ct wr => ∃ (i n : Nat) (laid : Bool) (os : List (List Value)) (do_ : List YAcct), i + gk = l ∧ ct = .int .i64 i ∧ ld = .bool laid ∧ n ≤ i + 1 ∧ (laid = false → n ≤ i) ∧ os.length = n ∧ wr.ownsRow (w.heap.size + 1) 113 24 v n os.flatten ∧ Each R os do_ ∧ do_ ++ putL d laid (ds.drop i) = putL d laid0 ds ∧ RowT 113 wr w.heap.size r0 ∧ Below w.heap.size w wr ∧ w.heap.size + 1 ≤ wr.heap.size)
    case atStart => exact ⟨0, 0, laid0, [], [], by omega, rfl, rfl, by omega, by omega, rfl, World.ownsRow_nil _ _ _ _, trivial, rfl, hr2, hb2, by omega⟩
    case round =>
      obtain ⟨i, n, laid, os, do_, hi, rfl, rfl, hn, hn0, hol, hown, hea, hput, hr, hbe, hsz⟩ := hrel
      by_cases hil : i < l
      · obtain ⟨b, off, rfl, hlt, hat⟩ := unhide H (by omega)
        obtain ⟨r, hrg, hrow, _⟩ := hat i hil
        have hts : ds.drop i = ds.getD i (zeroAcct []) :: ds.drop (i + 1) := by
          rw [List.drop_eq_getElem_cons (by have := unhide HL; omega)]
          simp [List.getD, show i < ds.length by have := unhide HL; omega]
        obtain ⟨x, hx⟩ : ∃ x, x = ds.getD i (zeroAcct []) := ⟨_, rfl⟩
        rw [← hx] at hrow hts
        rw [hts] at hput
        have hrl := hR.len hrow
        have hrg2 := range_below hrg hbe (fun _ => hlt)
        have hszr : (Sakg.prog.info? 113).map (·.size) = some r.length := by rw [hrl]; exact sizeAcct
        have heq := fun wx => addr_eq wx x.addr d.addr (hR.addr hrow) (hR.addr (unhide HR0))
        have hbf := fun wx => before_any x.addr d.addr wx (hR.addr hrow) (hR.addr (unhide HR0))
        have HPUT := hide hput
        have HROW := hide hrow
        have HRG := hide hrg2
        have HRLX := hide hrl
        have HSZR := hide hszr
        have HR := hide hr
        have HOWN := hide hown
        have HOL := hide hol
        have HEA := hide hea
        have HEQ := hide heq
        have HBF := hide hbf
        have HN := hide hn
        have HN0 := hide hn0
        clear hat hrg hrg2 hrow hts hx hr hown hn hn0 hol hea hput hr2 hb2 hrl hszr heq hbf hs2
        have hnb : n ≤ 1000002 := by have := unhide HN; omega
        go_upto_region 6 with (first
          | ((with_reducible refine at_load 113 ?_); refine wpList_load_g rfl 113 (.tmp 22) rfl b _ rfl r _ (unhide HRG) Sakg.underlying113 rfl (unhide HSZR) ?_)
          | ((with_reducible refine at_store 113 ?_); refine wpList_store_whole rfl 113 (.tmp 7) (.tmp 23) rfl _ _ _ r rfl rfl (RowT.new _ _ _) (by rw [unhide HRLX]; rfl) (unhide HSZR) (hR.one (unhide HROW)) ?_; intro w3 hx3 hon3; have hbb3 := box_below hon3; clear hon3))
        have ha3 := (unhide HR).kept hbb3.1
        have ho3 := own_kept (unhide HOWN) hbb3.1
        have hs3 : wr.heap.size < w3.heap.size := by omega
        have hbe3 : Below w.heap.size w w3 := hbe.trans (hbb3.1.mono (by omega))
        have hown_lt : ∀ k, u4.ownBlock = some k → k < wr.heap.size := fun k hk => ((unhide HOWN).lt k hk).2
        clear HR HOWN hbe
        obtain ⟨hbb3, hsz3⟩ := hbb3
        generalize hsw : wr.heap.size = sw at *
        clear hbb3 hsw
        simp only [Act.put]
        go_cut [33] (fun s33 wc => s33 = .bool (!laid && !beforeB x.addr d.addr) ∧ Below w3.heap.size w3 wc)
        case first =>
          cases laid with
          | true =>
            go_wp2_with fail
            go_meet
            case rel => exact ⟨rfl, Below.refl _ _⟩
          | false =>
            go_wp2_with (first
              | ((with_reducible refine at_load 26 ?_); refine wpList_load_g rfl 26 (.tmp 27) rfl _ 0 rfl (bv x.addr) _ (by have := hx3.range 0 20; rwa [hR.pre (unhide HROW)] at this) Sakg.underlying26 rfl (hR.addr (unhide HROW)).size ?_)
              | ((with_reducible refine at_load 26 ?_); refine wpList_load_g rfl 26 (.tmp 29) rfl _ 0 rfl (bv d.addr) _ (by have := ha3.range 0 20; rwa [hR.pre (unhide HR0)] at this) Sakg.underlying26 rfl (hR.addr (unhide HR0)).size ?_)
              | (go_at_call 195; refine (unhide HBF _).mono ?_; rintro e w4 ⟨rfl, hb4⟩))
            go_meet
            case rel => exact ⟨rfl, hb4⟩
        case rest =>
          obtain ⟨rfl, hb4⟩ := hcut
          have ha4 := ha3.kept hb4
          have hx4 := hx3.kept hb4
          have ho4 := own_kept ho3 hb4
          have hs4 := hb4.size
          have hbe4 : Below w.heap.size w wc := hbe3.trans (hb4.mono (by omega))
          have HNL := hide hown_lt
          clear ha3 hx3 ho3 hbe3 hb4 hown_lt HBF
          obtain ⟨bf, hbf⟩ : ∃ bf, bf = beforeB x.addr d.addr := ⟨_, rfl⟩
          rw [← hbf]
          have HBE := hide hbf
          clear hbf
          go_upto_if 33 with fail
          go_cut [4, 5] (fun v ld wy => ∃ (n' : Nat) (os' : List (List Value)) (do' : List YAcct), ld = .bool (laid || !bf) ∧ n' ≤ i + 1 ∧ ((laid || !bf) = false → n' ≤ i) ∧ os'.length = n' ∧ wy.ownsRow (w.heap.size + 1) 113 24 v n' os'.flatten ∧ Each R os' do' ∧ do' = do_ ++ (if (!laid && !bf) = true then [d] else []) ∧ RowT 113 wy w.heap.size r0 ∧ RowT 113 wy sw r ∧ Below w.heap.size w wy ∧ sw < wy.heap.size)
          case first =>
            obtain ⟨t, ht⟩ : ∃ t, t = (!laid && !bf) := ⟨_, rfl⟩
            rw [← ht]
            cases t with
            | true =>
              obtain ⟨rfl, rfl⟩ : laid = false ∧ bf = false := by cases laid <;> cases bf <;> simp at ht <;> simp
              clear ht
              have hn1 := unhide HN0 rfl
              go_wp2_with (first
                | ((with_reducible refine at_load 113 ?_); refine wpList_load_g rfl 113 (.tmp 3) rfl _ 0 rfl r0 _ ha4.rangeAll Sakg.underlying113 rfl (unhide HSZ) ?_)
                | ((with_reducible refine at_buildSlice ?_); refine wpList_build_one rfl 96 (.tmp 35) rfl 113 24 Sakg.underlying96 i0 _ (unhide HI0) (unhide HZ0) (unhide HZ1) rfl (by omega) (by omega) r0 rfl (unhide HRL) ?_)
                | ((with_reducible refine at_append ?_); refine wpList_append_one rfl (.tmp 34) (.tmp 36) 96 rfl 113 24 120 Sakg.underlying96 i0 _ (unhide HI0) (unhide HZ0) (unhide HZ1) (unhide HZ2) rfl (by omega) (w.heap.size + 1) _ _ _ rfl (own_kept ho4 ((Below.refl _ _).alloc (Nat.le_refl _) _)) _ _ r0 rfl (RowT.new _ _ _) (unhide HRL) (hR.one (unhide HR0)) (by omega) (by omega) (by simp; omega) ?_; intro v5 w5 ho5 hb5 hg5))
              have hs5 := hb5.size
              simp at hs5
              have hbw5 : Below (w.heap.size + 1) wc w5 := ((Below.refl _ _).alloc (by omega) _).trans hb5
              have hx5 := (hx4.alloc _).grown hg5 (by intro hh; have := unhide HNL _ hh.symm; omega)
              go_meet
              case rel =>
                refine ⟨n + 1, os ++ [r0], do_ ++ [d], rfl, by omega, (fun h => by simp at h), by simp [unhide HOL], ho5, (unhide HEA).snoc (unhide HR0), by simp, ha4.below hbw5 (by omega), hx5, hbe4.trans (hbw5.mono (by omega)), by omega⟩
            | false =>
              have e1 : (laid || !bf) = laid := by cases laid <;> cases bf <;> simp at ht <;> simp
              have E1 := hide e1
              have HT := hide ht
              clear e1 ht
              go_wp2_with fail
              go_meet
              case rel =>
                refine ⟨n, os, do_, by rw [unhide E1], unhide HN, by rw [unhide E1]; exact unhide HN0, unhide HOL, ho4, unhide HEA, ?_, ha4, hx4, hbe4, by omega⟩
                rw [← unhide HT]; simp
          case rest =>
            obtain ⟨n', os', do', rfl, hn', hn0', hol', hown', hea', hdo, ha6, hx6, hbe6, hs6⟩ := hcut
            have HN' := hide hn'
            have HN0' := hide hn0'
            have HOL' := hide hol'
            have HOWN' := hide hown'
            have HEA' := hide hea'
            have HDO := hide hdo
            have HA6 := hide ha6
            have HX6 := hide hx6
            clear hn0' hol' hown' hea' hdo ha6 hx6 ha4 hx4 ho4 hbe4 hs4 HN HN0 HNL HEA HOL
            have hput2 := unhide HPUT
            rw [putL, ← unhide HBE, ← List.append_assoc, ← List.append_assoc, ← unhide HDO] at hput2
            by_cases hxa : x.addr = d.addr
            · have heq := unhide HEQ
              rw [decide_eq_true hxa] at heq
              rw [if_pos hxa, List.append_nil] at hput2
              have HP2 := hide hput2
              clear hxa hput2
              go_wp2_with (first
                | ((with_reducible refine at_load 26 ?_); refine wpList_load_g rfl 26 (.tmp 38) rfl _ 0 rfl (bv x.addr) _ (by have := (unhide HX6).range 0 20; rwa [hR.pre (unhide HROW)] at this) Sakg.underlying26 rfl (hR.addr (unhide HROW)).size ?_)
                | ((with_reducible refine at_load 26 ?_); refine wpList_load_g rfl 26 (.tmp 40) rfl _ 0 rfl (bv d.addr) _ (by have := (unhide HA6).range 0 20; rwa [hR.pre (unhide HR0)] at this) Sakg.underlying26 rfl (hR.addr (unhide HR0)).size ?_))
              go_roundg (gk - 1)
              case measure => omega
              case rel => exact ⟨i + 1, n', _, os', do', by omega, by go_num, rfl, by omega, (fun h => by have := unhide HN0' h; omega), unhide HOL', unhide HOWN', unhide HEA', unhide HP2, unhide HA6, hbe6, by omega⟩
            · have heq := unhide HEQ
              rw [decide_eq_false hxa] at heq
              rw [if_neg hxa] at hput2
              have HP2 := hide hput2
              clear hxa hput2
              go_wp2_with (first
                | ((with_reducible refine at_load 26 ?_); refine wpList_load_g rfl 26 (.tmp 38) rfl _ 0 rfl (bv x.addr) _ (by have := (unhide HX6).range 0 20; rwa [hR.pre (unhide HROW)] at this) Sakg.underlying26 rfl (hR.addr (unhide HROW)).size ?_)
                | ((with_reducible refine at_load 26 ?_); refine wpList_load_g rfl 26 (.tmp 40) rfl _ 0 rfl (bv d.addr) _ (by have := (unhide HA6).range 0 20; rwa [hR.pre (unhide HR0)] at this) Sakg.underlying26 rfl (hR.addr (unhide HR0)).size ?_)
                | ((with_reducible refine at_load 113 ?_); refine wpList_load_g rfl 113 (.tmp 7) rfl _ 0 rfl r _ (unhide HX6).rangeAll Sakg.underlying113 rfl (unhide HSZR) ?_)
                | ((with_reducible refine at_buildSlice ?_); refine wpList_build_one rfl 96 (.tmp 44) rfl 113 24 Sakg.underlying96 i0 _ (unhide HI0) (unhide HZ0) (unhide HZ1) rfl (by omega) (by omega) r rfl (unhide HRLX) ?_)
                | ((with_reducible refine at_append ?_); refine wpList_append_one rfl (.tmp 43) (.tmp 45) 96 rfl 113 24 120 Sakg.underlying96 i0 _ (unhide HI0) (unhide HZ0) (unhide HZ1) (unhide HZ2) rfl (by omega) (w.heap.size + 1) _ _ _ rfl (own_kept (unhide HOWN') ((Below.refl _ _).alloc (Nat.le_refl _) _)) _ _ r rfl (RowT.new _ _ _) (unhide HRLX) (hR.one (unhide HROW)) (by omega) (by omega) (by simp; omega) ?_; intro v7 w7 ho7 hb7 hg7))
              have hs7 := hb7.size
              simp at hs7
              have hbw7 : Below (w.heap.size + 1) wc w7 := ((Below.refl _ _).alloc (by omega) _).trans hb7
              go_roundg (gk - 1)
              case measure => omega
              case rel =>
                refine ⟨i + 1, n' + 1, _, os' ++ [r], do' ++ [x], by omega, by go_num, rfl, by omega, (fun h => by have := unhide HN0' h; omega), by simp [unhide HOL'], ho7, (unhide HEA').snoc (unhide HROW), unhide HP2, (unhide HA6).below hbw7 (by omega), hbe6.trans (hbw7.mono (by omega)), by omega⟩
      · obtain rfl : i = l := by omega
        rw [List.drop_of_length_le (by have := unhide HL; omega)] at hput
        have HPUT := hide hput
        have HR := hide hr
        have HOWN := hide hown
        have HOL := hide hol
        have HEA := hide hea
        have hcr : RowT T wr bw cs := (unhide HCS).below hbe hbw
        have hcc : wr.cell? ⟨bw, 0, none⟩ = some (.slice ao i c) := by rw [hcr.cell]; exact h0
        have hcf := hcr.froz 0
        have HCR := hide hcr
        have hnb : n ≤ 1000002 := by omega
        have HN := hide hn
        have HN0 := hide hn0
        clear hr hown hol hea hput hr2 hb2 hs2 hcr hn hn0 hc1
        cases laid with
        | true =>
          obtain ⟨A, c', rfl, hrw⟩ := own_rws (unhide HOWN) ((unhide HEA).all (fun _ _ h => hR.len h)) (unhide HOL)
          have hlt := ((unhide HOWN).lt)
          have HRW := hide hrw
          have HLT := hide hlt
          clear hrw hlt HOWN
          go_wp2
          refine bodyPost_done rfl rfl ⟨rfl, ?_⟩
          have hon : Only bw wr (wr.setCell ⟨bw, 0, none⟩ (.slice A n c')) := (Only.refl _ _).setCell _ _
          have hcw : Chg bw w wr := Chg.of hbe
          refine ⟨A, n, c', os, (unhide HCR).set 0 _, (unhide HRW).only hon ?_, ?_, ?_, unhide HN, hcw.trans (Chg.ofOnly hon)⟩
          · intro x hx _
            subst hx
            have := unhide HLT x.block rfl
            omega
          · rw [unhide HPY, ← unhide HPUT]
            simpa [putL] using unhide HEA
          · intro x hx
            subst hx
            have := unhide HLT x.block rfl
            omega
        | false =>
          go_wp2_with (first
            | ((with_reducible refine at_load 113 ?_); refine wpList_load_g rfl 113 (.tmp 3) rfl _ 0 rfl r0 _ (unhide HR).rangeAll Sakg.underlying113 rfl (unhide HSZ) ?_)
            | ((with_reducible refine at_buildSlice ?_); refine wpList_build_one rfl 96 (.tmp 51) rfl 113 24 Sakg.underlying96 i0 _ (unhide HI0) (unhide HZ0) (unhide HZ1) rfl (by omega) (by omega) r0 rfl (unhide HRL) ?_)
            | ((with_reducible refine at_append ?_); refine wpList_append_one rfl (.tmp 50) (.tmp 52) 96 rfl 113 24 120 Sakg.underlying96 i0 _ (unhide HI0) (unhide HZ0) (unhide HZ1) (unhide HZ2) rfl (by omega) (w.heap.size + 1) _ _ _ rfl (own_kept (unhide HOWN) ((Below.refl _ _).alloc (Nat.le_refl _) _)) _ _ r0 rfl (RowT.new _ _ _) (unhide HRL) (hR.one (unhide HR0)) (by omega) (by omega) (by simp; omega) ?_; intro v5 w5 ho5 hb5 hg5; have hlt := ho5.lt; obtain ⟨A, c', rfl, hrw⟩ := own_rws ho5 (((unhide HEA).snoc (unhide HR0)).all (fun _ _ h => hR.len h)) (by simp [unhide HOL]); have hbw5 : Below (w.heap.size + 1) wr w5 := ((Below.refl _ _).alloc (by omega) _).trans hb5; have hcr5 := (unhide HCR).below hbw5 (by omega); have hcc5 : w5.cell? ⟨bw, 0, none⟩ = some (.slice ao i c) := by { rw [hcr5.cell]; exact h0 }; have hcf5 := hcr5.froz 0; have HRW := hide hrw; have HLT := hide hlt; clear hrw hlt ho5))
          refine bodyPost_done rfl rfl ⟨rfl, ?_⟩
          have hon : Only bw w5 (w5.setCell ⟨bw, 0, none⟩ (.slice A (n + 1) c')) := (Only.refl _ _).setCell _ _
          have hcw : Chg bw w w5 := Chg.of (hbe.trans (hbw5.mono (by omega)))
          refine ⟨A, n + 1, c', os ++ [r0], hcr5.set 0 _, (unhide HRW).only hon ?_, ?_, ?_, by have := unhide HN0 (by simp); omega, hcw.trans (Chg.ofOnly hon)⟩
          · intro x hx _
            subst hx
            have := unhide HLT x.block rfl
            omega
          · rw [unhide HPY, ← unhide HPUT]
            exact (unhide HEA).snoc (unhide HR0)
          · intro x hx
            subst hx
            have := unhide HLT x.block rfl
            omega

end Go.Proofs.YgcsakGreat
