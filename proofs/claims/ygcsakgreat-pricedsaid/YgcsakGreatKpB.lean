/-
  plain: the invariant of a running transaction.
-/
import Derived.Test.YgcsakGreatKfA
namespace Go.Proofs.YgcsakGreat
set_option linter.unusedVariables false
set_option linter.unusedSimpArgs false
set_option maxRecDepth 100000

theorem memN_mono {a b : Nat} (h : a ≤ b) : memN a ≤ memN b := by
  unfold memN
  have h1 := Nat.mul_le_mul h h
  have h2 := Nat.div_le_div_right (c := 512) h1
  omega
theorem memN_words {m : Nat} (h : memN m ≤ 1048576) : m ≤ 23200 := by
  rcases Nat.lt_or_ge 23200 m with h' | h'
  · have := memN_mono (Nat.le_of_lt h')
    have e : memN 23200 = 69600 + 23200 * 23200 / 512 := rfl
    omega
  · exact h'

/-- what a world weighs -/
def wt (d : WD) : Nat := d.refund + 2500 * (szW d + d.gone.length)
/-- a world within its bounds, its size apart -/
structure Snd (B : Nat) (d : WD) : Prop where
  acc : GoodD B d.accts
  temps : ∀ t ∈ d.temps, t.key < P256 ∧ t.val < P256
  logs : ∀ l ∈ d.logs, l.nt ≤ 4 ∧ l.nd ≤ 1000000
  tot : B < P256
theorem Good.snd {B : Nat} {d : WD} (h : Good B d) : Snd B d := ⟨h.acc, h.temps, h.logs, h.tot⟩
theorem Snd.good {B : Nat} {d : WD} (h : Snd B d) (hw : wt d ≤ 2250000000) : Good B d := by
  unfold wt at hw
  exact ⟨h.acc, h.temps, h.logs, by omega, Nat.lt_of_le_of_lt (show d.refund ≤ 2250000000 by omega) (by decide), h.tot⟩
/-- a world has gone on to another -/
structure Gr (B : Nat) (d d' : WD) (x : Nat) : Prop where
  snd : Snd B d'
  wtle : wt d' ≤ wt d + x
  live : ∀ a, Live d.accts a → Live d'.accts a
theorem Gr.refl {B : Nat} {d : WD} (h : Snd B d) (x : Nat) : Gr B d d x := ⟨h, by omega, fun _ h => h⟩
theorem Gr.trans {B : Nat} {a b c : WD} {x y : Nat} (h : Gr B a b x) (k : Gr B b c y) : Gr B a c (x + y) := ⟨k.snd, by have := h.wtle; have := k.wtle; omega, fun a ha => k.live a (h.live a ha)⟩
theorem Gr.mono {B : Nat} {a b : WD} {x y : Nat} (h : Gr B a b x) (hx : x ≤ y) : Gr B a b y := ⟨h.snd, by have := h.wtle; omega, h.live⟩
theorem Gr.good {B : Nat} {a b : WD} {x K : Nat} (h : Gr B a b x) (hK : wt a + x ≤ K) (h2 : K ≤ 2250000000) : Good B b := h.snd.good (by have := h.wtle; omega)
section
variable {B : Nat} {d : WD}
theorem Gr.warm (h : Snd B d) {als : List (List Int)} (hl : als.length ≤ d.warmA.length + 1) : Gr B d { d with warmA := als } 2500 :=
  ⟨⟨h.acc, h.temps, h.logs, h.tot⟩, by unfold wt szW; simp only; omega, fun _ h => h⟩
theorem Gr.warmS (h : Snd B d) {ms : List YMark} (hl : ms.length ≤ d.warmS.length + 1) : Gr B d { d with warmS := ms } 2500 :=
  ⟨⟨h.acc, h.temps, h.logs, h.tot⟩, by unfold wt szW; simp only; omega, fun _ h => h⟩
theorem Gr.made (h : Snd B d) {als : List (List Int)} (hl : als.length ≤ d.made.length + 1) : Gr B d { d with made := als } 2500 :=
  ⟨⟨h.acc, h.temps, h.logs, h.tot⟩, by unfold wt szW; simp only; omega, fun _ h => h⟩
theorem Gr.gone (h : Snd B d) {als : List (List Int)} (hl : als.length ≤ d.gone.length + 1) : Gr B d { d with gone := als } 5000 :=
  ⟨⟨h.acc, h.temps, h.logs, h.tot⟩, by unfold wt szW; simp only; omega, fun _ h => h⟩
theorem Gr.acc (h : Snd B d) {x : List YAcct} {k : Nat} (hg : GoodD B x) (hs : szA x ≤ szA d.accts + k) (hl : ∀ a, Live d.accts a → Live x a) : Gr B d { d with accts := x } (2500 * k) :=
  ⟨⟨hg, h.temps, h.logs, h.tot⟩, by unfold wt szW; simp only; omega, hl⟩
theorem Gr.move (h : Snd B d) {f t : List Int} (hf : IsAddr f) (ht : IsAddr t) (m : Nat) : Gr B d { d with accts := moveY d.accts f t m } 5000 :=
  Gr.acc (k := 2) h (h.acc.move hf ht m) (sz_move h.acc hf ht m) (fun a ha => Live.move h.acc hf ht m a ha)
theorem Gr.nonce (h : Snd B d) {a : List Int} (ha : IsAddr a) {m : Nat} (hm : m < 256 ^ 8) (h0 : m ≠ 0) : Gr B d { d with accts := nonY d.accts a m } 2500 :=
  Gr.acc (k := 1) h (h.acc.nonY ha hm h0) (sz_nonY h.acc ha m) (fun b hb => Live.nonY h.acc ha h0 b hb)
theorem Gr.code (h : Snd B d) {a : List Int} (ha : IsAddr a) {xs : List Int} (hm : xs.length ≤ 256) (h0 : xs ≠ []) : Gr B d { d with accts := codY d.accts a xs } 2500 :=
  Gr.acc (k := 1) h (h.acc.codY ha hm h0) (sz_codY h.acc ha xs) (fun b hb => Live.codY h.acc ha h0 b hb)
theorem Gr.store (h : Snd B d) {a : List Int} (ha : IsAddr a) (hl : Live d.accts a) {k v : Nat} (hk : k < P256) (hv : v < P256) : Gr B d { d with accts := stoY d.accts a k v } 5000 :=
  Gr.acc (k := 2) h (h.acc.store ha hl hk hv) (sz_store h.acc ha k v) (fun b hb => Live.store h.acc ha b hb)
theorem Gr.log (h : Snd B d) {l : YLog} (h1 : l.nt ≤ 4) (h2 : l.nd ≤ 1000000) : Gr B d { d with logs := d.logs ++ [l] } 2500 :=
  ⟨⟨h.acc, h.temps, fun x hx => by
    rcases List.mem_append.1 hx with hx | hx
    · exact h.logs x hx
    · rw [List.mem_singleton.1 hx]; exact ⟨h1, h2⟩, h.tot⟩, by unfold wt szW; simp only [List.length_append, List.length_singleton]; omega, fun _ h => h⟩
theorem Gr.temps (h : Snd B d) {ts : List YTemp} (hl : ts.length ≤ d.temps.length + 1) (ht : ∀ t ∈ ts, t.key < P256 ∧ t.val < P256) : Gr B d { d with temps := ts } 2500 :=
  ⟨⟨h.acc, ht, h.logs, h.tot⟩, by unfold wt szW; simp only; omega, fun _ h => h⟩
theorem Gr.refund (h : Snd B d) {r : Nat} (hr : r ≤ d.refund + 25000) : Gr B d { d with refund := r } 25000 :=
  ⟨⟨h.acc, h.temps, h.logs, h.tot⟩, by unfold wt szW; simp only; omega, fun _ h => h⟩
end

def sumG : List FD → Nat
  | [] => 0
  | f :: r => f.gas + sumG r
def sumM : List FD → Nat
  | [] => 0
  | f :: r => f.gas + memN (f.ml / 32) + sumM r
theorem sumG_le (fs : List FD) : sumG fs ≤ sumM fs := by
  induction fs with
  | nil => exact Nat.le_refl _
  | cons f r ih => unfold sumG sumM; omega
theorem sumM_mem {fs : List FD} {f : FD} (h : f ∈ fs) : f.gas + memN (f.ml / 32) ≤ sumM fs := by
  induction fs with
  | nil => simp at h
  | cons g r ih =>
    unfold sumM
    rcases List.mem_cons.1 h with rfl | h
    · omega
    · have := ih h; omega
/-- the worlds and the frames, the top first: each world is good, and whoever runs a code is live in it -/
def Okay (B : Nat) : List FD → WD → Prop
  | [], d => Snd B d
  | f :: r, d => Snd B d ∧ (∀ h ∈ f :: r, h.code ≠ [] → Live d.accts h.self) ∧ Okay B r f.saved
theorem Okay.snd {B : Nat} {fs : List FD} {d : WD} (h : Okay B fs d) : Snd B d := by
  cases fs with
  | nil => exact h
  | cons f r => exact h.1
theorem Okay.live {B : Nat} {fs : List FD} {d : WD} (h : Okay B fs d) : ∀ x ∈ fs, x.code ≠ [] → Live d.accts x.self := by
  cases fs with
  | nil => intro x hx; simp at hx
  | cons f r => exact h.2.1
/-- another world on top -/
theorem Okay.gr {B : Nat} {fs : List FD} {d d' : WD} {x : Nat} (h : Okay B fs d) (hg : Gr B d d' x) : Okay B fs d' := by
  cases fs with
  | nil => exact hg.snd
  | cons f r => exact ⟨hg.snd, fun y hy hc => hg.live _ (h.2.1 y hy hc), h.2.2⟩
/-- the top frame has gone, and the world stays -/
theorem Okay.pop {B : Nat} {f : FD} {r : List FD} {d : WD} (h : Okay B (f :: r) d) : Okay B r d := by
  cases r with
  | nil => exact h.1
  | cons g s => exact ⟨h.1, fun x hx => h.2.1 x (List.mem_cons_of_mem _ hx), h.2.2.2.2⟩
theorem Okay.back {B : Nat} {f : FD} {r : List FD} {d : WD} (h : Okay B (f :: r) d) : Okay B r f.saved := h.2.2
/-- the top frame has gone on -/
theorem Okay.top {B : Nat} {f f' : FD} {r : List FD} {d : WD} (h : Okay B (f :: r) d) (h1 : f'.code = f.code) (h2 : f'.self = f.self) (h3 : f'.saved = f.saved) : Okay B (f' :: r) d := by
  refine ⟨h.1, fun x hx hc => ?_, by rw [h3]; exact h.2.2⟩
  rcases List.mem_cons.1 hx with rfl | hx
  · rw [h1] at hc
    rw [h2]
    exact h.2.1 f (by simp) hc
  · exact h.2.1 x (List.mem_cons_of_mem _ hx) hc
/-- a frame more -/
theorem Okay.push {B : Nat} {f : FD} {r : List FD} {d d' : WD} {x : Nat} (h : Okay B r d) (hs : f.saved = d) (hg : Gr B d d' x) (hl : f.code ≠ [] → Live d'.accts f.self) : Okay B (f :: r) d' := by
  refine ⟨hg.snd, fun y hy hc => ?_, by rw [hs]; exact h⟩
  rcases List.mem_cons.1 hy with rfl | hy
  · exact hl hc
  · exact hg.live _ (h.live y hy hc)
/-- the world to which all goes back -/
theorem Okay.last {B : Nat} : ∀ {fs : List FD} {d : WD}, Okay B fs d → ∀ f, fs.getLast? = some f → Snd B f.saved
  | [], _, _, f, hf => by simp at hf
  | [g], d, h, f, hf => by
    obtain rfl : g = f := by simpa using hf
    exact h.2.2
  | g :: g' :: r, d, h, f, hf => by
    rw [List.getLast?_cons_cons] at hf
    exact Okay.last h.2.2 f hf

/-- any frame -/
structure AnyF (f : FD) : Prop where
  pc : f.pc < P256
  value : f.value < P256
  outOff : f.outOff < P256
  outLen : f.outLen < P256
  stk : ∀ x ∈ f.stk, x < P256
  slen : f.stk.length ≤ 64
  code : f.code.length ≤ 1000
  input : f.input.length ≤ 1000000
  kind : f.kind ≤ 7
  native : f.native ≤ 255
/-- a frame that waits for its child -/
structure WaitF (f : FD) : Prop where
  any : AnyF f
  pc : f.pc < 1000
  slen : f.stk.length ≤ 63

/-- a transaction at work: frames (the top first) and world -/
structure Inv (B K T : Nat) (fs : List FD) (d : WD) : Prop where
  ok : Okay B fs d
  wts : ∀ e ∈ d :: fs.map FD.saved, wt e + 400 * (sumG fs + 30 * fs.length) ≤ K
  mem : sumM fs ≤ 1048576
  gas : sumG fs ≤ T
  any : ∀ f ∈ fs, AnyF f
  wait : ∀ f ∈ fs.tail, WaitF f
  depth : fs.length ≤ 7
  lim : K ≤ 2250000000
section
variable {B K T : Nat} {fs r : List FD} {f f' : FD} {d d' : WD}
theorem Inv.now (h : Inv B K T fs d) : wt d + 400 * (sumG fs + 30 * fs.length) ≤ K := h.wts d (by simp)
theorem Inv.good (h : Inv B K T fs d) : Good B d := h.ok.snd.good (by have := h.now; have := h.lim; omega)
theorem Inv.ml (h : Inv B K T fs d) (hf : f ∈ fs) : f.ml / 32 ≤ 23200 ∧ f.ml ≤ 750000 := by
  have h1 := sumM_mem hf
  have h2 := h.mem
  have h3 := memN_words (m := f.ml / 32) (by omega)
  omega
theorem Inv.gasOf (h : Inv B K T fs d) (hf : f ∈ fs) : f.gas ≤ 1048576 := by
  have h1 := sumM_mem hf
  have h2 := h.mem
  omega
theorem wt_key {W W' x g g' l L K : Nat} (h1 : W + 400 * (g + 30 * L) ≤ K) (h2 : W' ≤ W + x) (h3 : g' + l = g) (h4 : x ≤ 400 * l) : W' + 400 * (g' + 30 * L) ≤ K := by omega
/-- the top frame has gone on, at a cost; the world too -/
theorem Inv.step (h : Inv B K T (f :: r) d) {x : Nat} (hg : Gr B d d' x) (h1 : f'.code = f.code) (h2 : f'.self = f.self) (h3 : f'.saved = f.saved) (hgas : f'.gas ≤ f.gas) (hm : f'.gas + memN (f'.ml / 32) ≤ f.gas + memN (f.ml / 32)) (hx : x ≤ 400 * (f.gas - f'.gas)) (ha : AnyF f') : Inv B K T (f' :: r) d' := by
  refine ⟨(h.ok.gr hg).top h1 h2 h3, fun e he => ?_, ?_, ?_, fun y hy => ?_, fun y hy => h.wait y (by simpa using hy), by have := h.depth; simpa using this, h.lim⟩
  · have hq : sumG (f' :: r) + (f.gas - f'.gas) = sumG (f :: r) := by unfold sumG; omega
    rcases List.mem_cons.1 he with rfl | he
    · exact wt_key h.now hg.wtle hq hx
    · exact wt_key (h.wts e (by
        rw [List.map_cons, h3, ← List.map_cons] at he
        exact List.mem_cons_of_mem _ he)) (Nat.le_refl _) hq (Nat.zero_le _)
  · have := h.mem
    unfold sumM at this ⊢
    omega
  · have := h.gas
    unfold sumG at this ⊢
    omega
  · rcases List.mem_cons.1 hy with rfl | hy
    · exact ha
    · exact h.any y (List.mem_cons_of_mem _ hy)
end

end Go.Proofs.YgcsakGreat
