/- Plain arithmetic of ring numbers: what the program's small functions compute, as functions on whole numbers. No program in sight. -/
import Derived.WalkKit
import Derived.IntWalk
import Derived.Deep.Draws
import Derived.OneCell
import Derived.Laws.Rows
import Derived.Lib.Hide
import Derived.StillTail
import Derived.Tactics2
import Derived.KernelRfl
namespace Go.Proofs.Ytpbnbhiffnnliaa
set_option linter.unusedSimpArgs false
set_option linter.unusedVariables false
open Go.RowKit

/-- n modulo 4096. -/
def ring (n : Int) : Int := n % 4096
/-- n is in 0..4095. -/
def rv (n : Int) : Bool := decide (0 ≤ n ∧ n < 4096)

theorem rv_iff {n : Int} : rv n = true ↔ 0 ≤ n ∧ n < 4096 := by simp [rv]
theorem rv_not {n : Int} (h : rv n = false) : n < 0 ∨ 4096 ≤ n := by simp [rv] at h; omega
theorem ring_lo (n : Int) : 0 ≤ ring n := by unfold ring; omega
theorem ring_hi (n : Int) : ring n < 4096 := by unfold ring; omega
theorem rv_ring (n : Int) : rv (ring n) = true := rv_iff.2 ⟨ring_lo n, ring_hi n⟩
theorem ring_of {n : Int} (h : rv n = true) : ring n = n := by rw [rv_iff] at h; unfold ring; omega
theorem ring_eq (n : Int) : (ring n == n) = rv n := by
  cases h : rv n
  · have := rv_not h; have := ring_lo n; have := ring_hi n; simp; omega
  · simp [ring_of h]
theorem rv_ge {n : Int} (b : Bool) (h : rv n = b) : (decide (n ≥ 0) && decide (n ≤ 4095)) = b := by
  subst h; unfold rv
  rw [← Bool.decide_and, decide_eq_decide]; omega

theorem toNat_and (n : Int) : (BitVec.ofInt 64 n &&& BitVec.ofInt 64 4095).toNat = (n % 4096).toNat := by
  have h1 : (BitVec.ofInt 64 4095).toNat = 2 ^ 12 - 1 := by decide
  rw [BitVec.toNat_and, h1, Nat.and_two_pow_sub_one_eq_mod, BitVec.toNat_ofInt]
  simp
  omega
theorem bits_4095 (n : Int) : bits .and .i64 n 4095 = ring n := by
  have := toNat_and n
  simp only [bits]
  show IntKind.i64.wrap ((BitVec.ofInt 64 n &&& BitVec.ofInt 64 4095).toNat : Int) = _
  rw [this, IntKind.wrap_i64]; unfold ring; omega
theorem wrap_ring (n : Int) : ring (IntKind.i64.wrap n) = ring n := by rw [IntKind.wrap_i64]; unfold ring; omega
theorem tmod_ring (n : Int) : Int.tmod (Int.tmod n 4096 + 4096) 4096 = ring n := by
  have h : -4096 < n.tmod 4096 ∧ n.tmod 4096 < 4096 ∧ (n.tmod 4096) % 4096 = n % 4096 := by
    rw [Int.tmod_eq_emod]; split <;> simp <;> omega
  unfold ring
  rw [Int.tmod_eq_emod_of_nonneg (by omega)]
  omega
theorem ring_wrap64 (n : Int) : ring (wrap64 n) = ring n := by unfold wrap64 ring; omega
theorem tmod_ring64 (n : Int) : Int.tmod (wrap64 (Int.tmod n 4096 + 4096)) 4096 = ring n := by
  have h : -4096 < n.tmod 4096 ∧ n.tmod 4096 < 4096 := by
    rw [Int.tmod_eq_emod]; split <;> simp <;> omega
  rw [show wrap64 (Int.tmod n 4096 + 4096) = Int.tmod n 4096 + 4096 by unfold wrap64; omega]
  exact tmod_ring n

/-- The sum, the difference, the product of two ring numbers; -1 for other numbers. -/
def addR (a b : Int) : Int := if rv a = true ∧ rv b = true then ring (a + b) else -1
def subR (a b : Int) : Int := if rv a = true ∧ rv b = true then ring (a - b) else -1
def mulR (a b : Int) : Int := if rv a = true ∧ rv b = true then ring (a * b) else -1
end Go.Proofs.Ytpbnbhiffnnliaa
namespace Go.Proofs.Ytpbnbhiffnnliaa
set_option linter.unusedSimpArgs false
set_option linter.unusedVariables false
open Go.RowKit

/-- Of what was in memory at w nothing has turned in w'. -/
def Ext (w w' : World) : Prop := Below w.heap.size w w'
theorem Ext.refl (w : World) : Ext w w := Below.refl _ _
theorem Ext.of_eq {w w' : World} (h : w = w') : Ext w w' := h ▸ Ext.refl w
theorem Ext.size {w w' : World} (h : Ext w w') : w.heap.size ≤ w'.heap.size := Below.size h
theorem Ext.trans {a b c : World} (h : Ext a b) (k : Ext b c) : Ext a c := Below.trans h (Below.mono k h.size)
theorem Ext.alloc {a w : World} (h : Ext a w) (o : Obj) : Ext a (w.alloc o) := Below.alloc h h.size o
theorem Ext.drew {a w : World} (h : Ext a w) : Ext a w.drew := Below.drew h
theorem Ext.drewN {a w : World} (h : Ext a w) (n : Nat) : Ext a (w.drewN n) := h.trans ⟨rfl, rfl, rfl, Nat.le_refl _, fun _ _ => rfl⟩
theorem Ext.setCell {a w : World} (h : Ext a w) {p : Addr} (hp : a.heap.size ≤ p.block) (u : Value) : Ext a (w.setCell p u) := Below.setCell h hp u
theorem Ext.below {w w' : World} (h : Ext w w') : Below w.heap.size w w' := h
theorem Ext.cells {w w' : World} (h : Ext w w') : (∀ b o, b < w.heap.size → w'.cell? ⟨b, o, none⟩ = w.cell? ⟨b, o, none⟩) ∧ (∀ b o, b < w.heap.size → w'.frozen? ⟨b, o, none⟩ = w.frozen? ⟨b, o, none⟩) :=
  ⟨fun b o hb => Below.cell (p := ⟨b, o, none⟩) h hb, fun b o hb => Below.frozen (p := ⟨b, o, none⟩) h hb⟩
theorem Ext.keep {w w' : World} (h : Ext w w') {b : Nat} {o : Obj} (k : w.heap[b]? = some o) : w'.heap[b]? = some o := by rw [Below.block h b (lt_of_block k)]; exact k
theorem Ext.lt {w w' : World} (h : Ext w w') {b : Nat} (k : b < w.heap.size) : b < w'.heap.size := Nat.lt_of_lt_of_le k h.size
theorem Ext.setRow {a w : World} (h : Ext a w) {g : Nat} (hp : a.heap.size ≤ g) (cs : Array Value) : Ext a (w.setRow g cs) :=
  Below.trans h ⟨rfl, rfl, rfl, by simp [World.setRow], fun k hk => setRow_other w g k cs (by omega)⟩

/-- A block of the call's own that holds a struct or an array: its cells, and that they may be written. -/
def Blk (w : World) (b : Nat) (cs : Array Value) (T : TypeId) : Prop := w.heap[b]? = some (.cells cs T (0, 0))
theorem Blk.keep {w w' : World} {b : Nat} {cs : Array Value} {T : TypeId} (h : Blk w b cs T) (hx : Ext w w') : Blk w' b cs T := hx.keep h
theorem Blk.lt {w : World} {b : Nat} {cs : Array Value} {T : TypeId} (h : Blk w b cs T) : b < w.heap.size := lt_of_block h
theorem Blk.cell {w : World} {b : Nat} {cs : Array Value} {T : TypeId} (h : Blk w b cs T) (i : Nat) : w.cell? ⟨b, i, none⟩ = cs[i]? := cell_of_row w b i cs T (0, 0) h
theorem Blk.free {w : World} {b : Nat} {cs : Array Value} {T : TypeId} (h : Blk w b cs T) (i : Nat) : w.frozen? ⟨b, i, none⟩ = false := by
  unfold Blk at h; simp [World.frozen?, h]
theorem Blk.new (w : World) (cs : Array Value) (T : TypeId) : Blk (w.alloc (.cells cs T)) w.heap.size cs T := heap_alloc_new w _
theorem Blk.old {w : World} {b : Nat} {cs : Array Value} {T : TypeId} (h : Blk w b cs T) (o : Obj) : Blk (w.alloc o) b cs T := h.keep ((Ext.refl w).alloc o)
theorem Blk.set {w : World} {b : Nat} {cs : Array Value} {T : TypeId} (h : Blk w b cs T) (cs' : Array Value) : Blk (w.setRow b cs') b cs' T := setRow_heap w b cs cs' T (0, 0) h
theorem Blk.other {w : World} {b g : Nat} {cs cs' : Array Value} {T : TypeId} (h : Blk w b cs T) (hne : b ≠ g) : Blk (w.setRow g cs') b cs T := by
  unfold Blk; rw [setRow_other w g b cs' hne]; exact h
/-- The cells of a block, as the walk asks for them. -/
theorem Blk.two {w : World} {b : Nat} {x y : Value} {T : TypeId} (h : Blk w b #[x, y] T) : w.cell? ⟨b, 0, none⟩ = some x ∧ w.cell? ⟨b, 1, none⟩ = some y := ⟨by rw [h.cell]; rfl, by rw [h.cell]; rfl⟩
theorem Blk.three {w : World} {b : Nat} {x y z : Value} {T : TypeId} (h : Blk w b #[x, y, z] T) : w.cell? ⟨b, 0, none⟩ = some x ∧ w.cell? ⟨b, 1, none⟩ = some y ∧ w.cell? ⟨b, 2, none⟩ = some z := ⟨by rw [h.cell]; rfl, by rw [h.cell]; rfl, by rw [h.cell]; rfl⟩
end Go.Proofs.Ytpbnbhiffnnliaa
namespace Go.Proofs.Ytpbnbhiffnnliaa
set_option linter.unusedSimpArgs false
set_option linter.unusedVariables false
open Go.RowKit

/-- A relation between worlds under which a region's operations may turn memory. -/
structure WRel (X : World → World → Prop) : Prop where
  refl : ∀ w, X w w
  trans : ∀ {a b c}, X a b → X b c → X a c
  size : ∀ {a b}, X a b → a.heap.size ≤ b.heap.size
  draw : ∀ w, X w { w with drawn := w.drawn + 1 }
theorem Ext.rel : WRel Ext := ⟨Ext.refl, Ext.trans, Ext.size, fun _ => ⟨rfl, rfl, rfl, Nat.le_refl _, fun _ _ => rfl⟩⟩

section
variable {P : Program} {X : World → World → Prop}

/-- What an operation comes to, carried out by itself: a value and a world. -/
def relUpon (P : Program) (K : Value → World → Prop) : Result Next → Prop
  | .ok (.value u) w' => K u w'
  | .ok .skip w' => K undef w'
  | .ok (.enter f args) w' => Calls P f args w' fun e w'' => ∃ u, e = .returned u ∧ K u w''
  | .ok (.row row args) w' => Rows P row args w' K
  | _ => False

/-- .. where its guard wants it; else it yields nothing. -/
def relOp (P : Program) (ops : Array Oper) (o : Oper) (a : Act) (w : World) (K : Value → World → Prop) : Prop :=
  if Region.wanted o (yielded ops a.tmps) then relUpon P K ((execOp a.eval o).run P w) else K undef w

theorem wpOp_of_relOp {ops : Array Oper} {Q : Exit → Act → World → Prop} {i : Nat} {o : Oper} {a : Act} {w : World} {K : Value → World → Prop} {K' : Act → World → Prop}
    (ho : ops[i]? = some o) (h : relOp P ops o a w K) (hk : ∀ u w', K u w' → K' (a.put o.dst u) w') : wpOp P ops Q i K' a w := by
  unfold wpOp
  simp only [ho]
  unfold relOp at h
  split
  · rename_i hw
    simp only [hw, if_true] at h
    refine .inl ?_
    unfold Oper.wp
    generalize (execOp a.eval o).run P w = r at *
    cases r with
    | ok n w' =>
      cases n <;> simp only [relUpon] at h <;> simp only [Oper.upon]
      case value u => exact hk _ _ h
      case skip => exact hk _ _ h
      case enter f args =>
        exact h.mono fun e w'' ⟨u, he, hu⟩ => by subst he; exact hk _ _ hu
      case row row args => exact h.mono fun u w'' hu => hk _ _ hu
    | halt x w' => simp only [relUpon] at h
  · rename_i hw
    simp only [hw] at h
    exact hk _ _ h

def dstOf (ops : Array Oper) (k : Nat) : Option Tmp := (ops[k]?).bind (·.dst)

/-- The values of the first n operations in their slots. -/
def putAll (ops : Array Oper) (v : Nat → Value) : Nat → Act → Act
  | 0, a => a
  | k + 1, a => (putAll ops v k a).put (dstOf ops k) (v k)

def upd {α : Type} (v : Nat → α) (i : Nat) (u : α) : Nat → α := fun k => if k = i then u else v k
theorem upd_same {α : Type} (v : Nat → α) (i : Nat) (u : α) : upd v i u i = u := by simp [upd]
theorem upd_ne {α : Type} (v : Nat → α) {i k : Nat} (u : α) (h : k ≠ i) : upd v i u k = v k := by simp [upd, h]
theorem upd_self {α : Type} (v : Nat → α) (i : Nat) : upd v i (v i) = v := by
  funext k; by_cases h : k = i
  · subst h; simp [upd]
  · simp [upd, h]

/-- In the middle: the operations 'L' have put their values, the other slots are as they were. -/
structure Mid (ops : Array Oper) (n : Nat) (a0 : Act) (L : Nat → Bool) (v : Nat → Value) (a : Act) : Prop where
  size : a.tmps.size = a0.tmps.size
  defers : a.defers = a0.defers
  new : ∀ k t, k < n → dstOf ops k = some t → L k = true → t < a0.tmps.size → a.tmps[t]? = some (v k)
  old : ∀ t, (∀ k, k < n → dstOf ops k = some t → L k = false) → a.tmps[t]? = a0.tmps[t]?

/-- No two of the first n put into one slot. -/
def Dst (ops : Array Oper) (n : Nat) : Prop := ∀ i k t, i < n → k < n → i ≠ k → dstOf ops i = some t → dstOf ops k ≠ some t

theorem put_tmps (a : Act) (d : Option Tmp) (u : Value) (t : Nat) (h : d ≠ some t) : (a.put d u).tmps[t]? = a.tmps[t]? := by
  cases d with
  | none => rfl
  | some e =>
    have : e ≠ t := fun x => h (by rw [x])
    simp [Act.put, Array.getElem?_setIfInBounds_ne this]
theorem put_size (a : Act) (d : Option Tmp) (u : Value) : (a.put d u).tmps.size = a.tmps.size := by cases d <;> simp [Act.put]
theorem put_defers' (a : Act) (d : Option Tmp) (u : Value) : (a.put d u).defers = a.defers := by cases d <;> rfl

theorem Mid.step {ops : Array Oper} {n : Nat} {a0 : Act} {L : Nat → Bool} {v : Nat → Value} {a : Act} (h : Mid ops n a0 L v a) (hd : Dst ops n) {i : Nat} (hi : i < n) (hl : L i = false) (u : Value) :
    Mid ops n a0 (upd L i true) (upd v i u) (a.put (dstOf ops i) u) := by
  refine ⟨by rw [put_size, h.size], by rw [put_defers', h.defers], fun k t hk hkt hlk ht => ?_, fun t hf => ?_⟩
  · by_cases hki : k = i
    · subst hki
      rw [upd_same, hkt]
      simp [Act.put, h.size, ht]
    · rw [upd_ne v u hki, put_tmps _ _ _ _ (hd k i t hk hi hki hkt)]
      rw [upd_ne L true hki] at hlk
      exact h.new k t hk hkt hlk ht
  · have hit : dstOf ops i ≠ some t := fun e => by have := hf i hi e; rw [upd_same] at this; cases this
    rw [put_tmps _ _ _ _ hit]
    refine h.old t fun k hk hkt => ?_
    by_cases hki : k = i
    · subst hki; exact hl
    · have := hf k hk hkt; rwa [upd_ne L true hki] at this

theorem Mid.start (ops : Array Oper) (n : Nat) (a0 : Act) (v : Nat → Value) : Mid ops n a0 (fun _ => false) v a0 :=
  ⟨rfl, rfl, fun _ _ _ _ h => (by cases h), fun _ _ => rfl⟩

theorem Mid.putAllMid {ops : Array Oper} {n : Nat} {a0 : Act} {v : Nat → Value} (hd : Dst ops n) : ∀ m, m ≤ n → Mid ops n a0 (fun k => decide (k < m)) v (putAll ops v m a0)
  | 0, _ => by simpa [putAll] using Mid.start ops n a0 v
  | m + 1, hm => by
    have ih := Mid.putAllMid (a0 := a0) (v := v) hd m (by omega)
    have := ih.step hd (i := m) (by omega) (by simp) (v m)
    rw [upd_self] at this
    have e : upd (fun k => decide (k < m)) m true = fun k => decide (k < m + 1) := by
      funext k; by_cases hk : k = m
      · subst hk; simp [upd]
      · simp [upd, hk]; omega
    rw [e] at this
    exact this

theorem Mid.all {ops : Array Oper} {n : Nat} {a0 : Act} {L : Nat → Bool} {v : Nat → Value} {a : Act} (h : Mid ops n a0 L v a) (hd : Dst ops n) (hL : ∀ k, k < n → L k = true) : a = putAll ops v n a0 := by
  have p := Mid.putAllMid (a0 := a0) (v := v) hd n (Nat.le_refl _)
  have et : a.tmps = (putAll ops v n a0).tmps := by
    apply Array.ext_getElem?
    intro t
    by_cases hs : t < a0.tmps.size
    · by_cases hk : ∃ k, k < n ∧ dstOf ops k = some t
      · obtain ⟨k, hk, hkt⟩ := hk
        rw [h.new k t hk hkt (hL k hk) hs, p.new k t hk hkt (by simp [hk]) hs]
      · have : ∀ k, k < n → dstOf ops k = some t → False := fun k h1 h2 => hk ⟨k, h1, h2⟩
        rw [h.old t fun k h1 h2 => (this k h1 h2).elim, p.old t fun k h1 h2 => (this k h1 h2).elim]
    · rw [Array.getElem?_eq_none (by rw [h.size]; omega), Array.getElem?_eq_none (by rw [p.size]; omega)]
  have ed : a.defers = (putAll ops v n a0).defers := by rw [h.defers, p.defers]
  cases a; cases hq : putAll ops v n a0
  simp only [hq] at et ed
  subst et; subst ed; rfl

/-- An operation that finds in its slots what it would find behind the whole head runs as it would there. -/
theorem same_run {ops : Array Oper} {o : Oper} (hs : ∀ cs b, o.op ≠ .select cs b) {a b : Act} (h : ∀ t ∈ o.looksAt ops, a.tmps[t]? = b.tmps[t]?) :
    execOp a.eval o = execOp b.eval o ∧ Region.wanted o (yielded ops a.tmps) = Region.wanted o (yielded ops b.tmps) := by
  constructor
  · refine execOp_congr o hs fun x hx => ?_
    cases x with
    | tmp t =>
      have := h t (List.mem_append_left _ (List.mem_filterMap.2 ⟨.tmp t, by simpa using hx, rfl⟩))
      simp only [Act.eval, Array.getD_eq_getD_getElem?, this]
    | _ => rfl
  · unfold Region.wanted
    cases hg : o.guard with
    | none => rfl
    | some gw =>
      obtain ⟨g, want⟩ := gw
      have hy : yielded ops a.tmps g = yielded ops b.tmps g := by
        unfold yielded
        cases ht : (ops[g]?).bind (·.dst) with
        | none => rfl
        | some t => simp only [Option.bind_some, h t (by simp [Oper.looksAt, hg, ht])]
      simp only [hy]

/-! ### The closed facts -/
def headB (ops : Array Oper) (n : Nat) : Bool :=
  (List.range n).all fun i => match ops[i]? with
    | none => false
    | some oi => (oi.after.all fun e => !Region.binds .any e || decide (e.on < i)) && (List.range n).all fun k => match dstOf ops k with
      | none => true
      | some t => (!(oi.looksAt ops).contains t || Region.waitsFor .any ops i k) && (i == k || oi.dst != some t)
def depsB (ops : Array Oper) (n : Nat) (D : Nat → List Nat) : Bool :=
  (List.range n).all fun i => (D i).all fun e => decide (e < i) && (Region.waitsFor .any ops i e || (D i).any fun k => decide (e < k) && Region.waitsFor .any ops k e)
def allTrue (m n : Nat) : Array Bool := ((List.range m).map fun k => decide (k < n)).toArray
def relB (ops : Array Oper) (n : Nat) (D : Nat → List Nat) : Bool :=
  Region.noSelect ops && decide (n ≤ ops.size) && headB ops n && depsB ops n D && (n == ops.size || (Region.sinkB .any ops n && Region.chainB .any ops n)) && Region.seqB .any ops (ops.size - n) n (allTrue ops.size n)

structure Facts (X : World → World → Prop) (D : Nat → List Nat) (R : Nat → List Value → Value → Nat → Nat → World → Prop) (n : Nat) (w0 : World) (L : Nat → Bool) (v : Nat → Value) (lo hi : Nat → Nat) (w : World) : Prop where
  ext : X w0 w
  fact : ∀ i, i < n → L i = true → w0.heap.size ≤ lo i ∧ lo i ≤ hi i ∧ hi i ≤ w.heap.size ∧ R i ((D i).map v) (v i) (lo i) (hi i) w
  apart : ∀ i j, i < n → j < n → L i = true → L j = true → i ≠ j → hi i ≤ lo j ∨ hi j ≤ lo i

theorem Facts.step {D : Nat → List Nat} {R : Nat → List Value → Value → Nat → Nat → World → Prop} {n : Nat} {w0 : World} {L : Nat → Bool} {v : Nat → Value} {lo hi : Nat → Nat} {w : World}
    (hX : WRel X) (stab : ∀ i, i < n → ∀ vs u lo hi w w', w0.heap.size ≤ lo → lo ≤ hi → hi ≤ w.heap.size → X w w' → R i vs u lo hi w → R i vs u lo hi w')
    (h : Facts X D R n w0 L v lo hi w) {i : Nat} (hl : L i = false) (hD : ∀ k, k < n → L k = true → i ∉ D k) (hDi : i ∉ D i) {u : Value} {w' : World} (hx : X w w')
    (hr : R i ((D i).map v) u w.heap.size w'.heap.size w') :
    Facts X D R n w0 (upd L i true) (upd v i u) (upd lo i w.heap.size) (upd hi i w'.heap.size) w' := by
  have hmap : ∀ k, i ∉ D k → (D k).map (upd v i u) = (D k).map v := fun k hk => List.map_congr_left fun x hx => upd_ne v u (fun e => hk (e ▸ hx))
  refine ⟨hX.trans h.ext hx, fun k hk hlk => ?_, fun k j hk hj hlk hlj hne => ?_⟩
  · by_cases hki : k = i
    · subst hki
      rw [upd_same, upd_same, upd_same, hmap _ hDi]
      exact ⟨hX.size h.ext, hX.size hx, Nat.le_refl _, hr⟩
    · rw [upd_ne L true hki] at hlk
      rw [upd_ne v u hki, upd_ne lo _ hki, upd_ne hi _ hki, hmap _ (hD k hk hlk)]
      obtain ⟨h1, h2, h3, h4⟩ := h.fact k hk hlk
      exact ⟨h1, h2, Nat.le_trans h3 (hX.size hx), stab k hk _ _ _ _ _ _ h1 h2 h3 hx h4⟩
  · by_cases hki : k = i
    · have hji : j ≠ i := fun e => hne (hki.trans e.symm)
      rw [upd_ne L true hji] at hlj
      subst hki
      rw [upd_same, upd_same, upd_ne lo _ hji, upd_ne hi _ hji]
      exact .inr (h.fact j hj hlj).2.2.1
    · rw [upd_ne L true hki] at hlk
      rw [upd_ne lo _ hki, upd_ne hi _ hki]
      by_cases hji : j = i
      · subst hji
        rw [upd_same, upd_same]
        exact .inl (h.fact k hk hlk).2.2.1
      · rw [upd_ne L true hji] at hlj
        rw [upd_ne lo _ hji, upd_ne hi _ hji]
        exact h.apart k j hk hj hlk hlj hne

def cnt (L : Nat → Bool) : Nat → Nat
  | 0 => 0
  | k + 1 => cnt L k + if L k = true then 0 else 1
theorem cnt_ge (L : Nat → Bool) (i : Nat) (u : Bool) : ∀ n, n ≤ i → cnt (upd L i u) n = cnt L n
  | 0, _ => rfl
  | n + 1, h => by simp only [cnt]; rw [cnt_ge L i u n (by omega), upd_ne L u (by omega)]
theorem cnt_set (L : Nat → Bool) (i : Nat) (hl : L i = false) : ∀ n, i < n → cnt (upd L i true) n + 1 = cnt L n
  | n + 1, h => by
    simp only [cnt]
    by_cases e : i = n
    · subst e; rw [cnt_ge L i true i (Nat.le_refl _), upd_same, hl]; simp
    · have := cnt_set L i hl n (by omega)
      rw [upd_ne L true (fun x => e x.symm)]; omega
theorem cnt_zero (L : Nat → Bool) : ∀ n, cnt L n = 0 → ∀ k, k < n → L k = true
  | n + 1, h, k, hk => by
    simp only [cnt] at h
    by_cases e : L n = true
    · by_cases hkn : k = n
      · subst hkn; exact e
      · exact cnt_zero L n (by omega) k (by omega)
    · simp [e] at h
theorem cnt_pos (L : Nat → Bool) : ∀ n, cnt L n ≠ 0 → ∃ k, k < n ∧ L k = false ∧ ∀ j, j < k → L j = true
  | n + 1, h => by
    by_cases h0 : cnt L n = 0
    · refine ⟨n, by omega, ?_, fun j hj => cnt_zero L n h0 j hj⟩
      simp only [cnt, h0] at h
      cases hl : L n
      · rfl
      · simp [hl] at h
    · obtain ⟨k, hk, h1, h2⟩ := cnt_pos L n h0
      exact ⟨k, by omega, h1, h2⟩
theorem cnt_false : ∀ n, cnt (fun _ => false) n = n
  | 0 => rfl
  | n + 1 => by simp [cnt, cnt_false n]

def lst (listed : Array Bool) : Nat → Bool := fun k => listed.getD k false
theorem lst_set (listed : Array Bool) (i : Nat) (hi : i < listed.size) : lst (listed.setIfInBounds i true) = upd (lst listed) i true := by
  funext k
  unfold lst
  by_cases h : k = i
  · subst h; rw [upd_same]; simp [hi]
  · rw [upd_ne _ _ h, getD_set_ne false (fun e => h e.symm)]

theorem waits_of {ops : Array Oper} {i k : Nat} {o : Oper} (ho : ops[i]? = some o) (h : Region.waitsFor .any ops i k = true) : ∃ e ∈ o.after, Region.binds .any e = true ∧ e.on = k := by
  obtain ⟨o', ho', e, he, hb, hon⟩ := Region.waitsFor_spec h
  have : o' = o := Option.some.inj (ho'.symm.trans ho)
  subst this
  exact ⟨e, he, hb, hon⟩

theorem deps_lt {ops : Array Oper} {n : Nat} {D : Nat → List Nat} (hd : depsB ops n D = true) {k : Nat} (hk : k < n) : ∀ e ∈ D k, e < k ∧ (Region.waitsFor .any ops k e = true ∨ ∃ j ∈ D k, e < j ∧ Region.waitsFor .any ops j e = true) := by
  intro e he
  have h1 := List.all_eq_true.1 hd k (List.mem_range.2 hk)
  have h2 := List.all_eq_true.1 h1 e he
  simp only [Bool.and_eq_true, decide_eq_true_eq, Bool.or_eq_true, List.any_eq_true] at h2
  obtain ⟨h3, h4⟩ := h2
  refine ⟨h3, h4.imp id ?_⟩
  rintro ⟨j, hj, h5, h6⟩
  exact ⟨j, hj, h5, h6⟩

theorem deps_listed {ops : Array Oper} {n : Nat} {D : Nat → List Nat} {listed : Array Bool} (inv : HeadInv .any ops n listed) (hd : depsB ops n D = true) {k : Nat} (hk : k < n)
    (hw : ∀ e, Region.waitsFor .any ops k e = true → lst listed e = true) : ∀ e ∈ D k, lst listed e = true := by
  have key : ∀ d e, k - e = d → e ∈ D k → lst listed e = true := by
    intro d
    induction d using Nat.strongRecOn with
    | _ d ih =>
      intro e hed he
      obtain ⟨hek, h | ⟨j, hj, hej, hwj⟩⟩ := deps_lt hd hk e he
      · exact hw e h
      · have hjk := (deps_lt hd hk j hj).1
        have hl := ih (k - j) (by omega) j rfl hj
        obtain ⟨oj, hoj, x, hx, hb, hon⟩ := Region.waitsFor_spec hwj
        have := inv.closed j oj hoj hl x hx hb
        rw [hon] at this
        exact this
  intro e he
  exact key _ e rfl he

theorem headB_dst {ops : Array Oper} {n : Nat} (h : headB ops n = true) : Dst ops n := by
  intro i k t hi hk hne hit hkt
  have h1 := List.all_eq_true.1 h i (List.mem_range.2 hi)
  cases ho : ops[i]? with
  | none => simp [ho] at h1
  | some oi =>
    simp only [ho, Bool.and_eq_true] at h1
    have h2 := List.all_eq_true.1 h1.2 k (List.mem_range.2 hk)
    have hd : oi.dst = some t := by simpa [dstOf, ho] using hit
    simp [hkt, hne, hd] at h2

theorem headB_look {ops : Array Oper} {n : Nat} (h : headB ops n = true) {i k : Nat} {o : Oper} {t : Tmp} (hi : i < n) (hk : k < n) (ho : ops[i]? = some o) (hkt : dstOf ops k = some t) (hl : t ∈ o.looksAt ops) : Region.waitsFor .any ops i k = true := by
  have h1 := List.all_eq_true.1 h i (List.mem_range.2 hi)
  simp only [ho, Bool.and_eq_true] at h1
  have h2 := List.all_eq_true.1 h1.2 k (List.mem_range.2 hk)
  simp [hkt, hl] at h2
  exact h2.1

theorem headB_on {ops : Array Oper} {n : Nat} (h : headB ops n = true) {i : Nat} (hi : i < n) : ∃ o, ops[i]? = some o ∧ ∀ e ∈ o.after, Region.binds .any e = true → e.on < i := by
  have h1 := List.all_eq_true.1 h i (List.mem_range.2 hi)
  cases ho : ops[i]? with
  | none => simp [ho] at h1
  | some oi =>
    simp only [ho, Bool.and_eq_true] at h1
    refine ⟨oi, rfl, fun e he hb => ?_⟩
    have := Array.all_eq_true_iff_forall_mem.1 h1.1 e he
    simpa [hb] using this

theorem allTrue_get (m n k : Nat) (hk : k < m) : (allTrue m n).getD k false = decide (k < n) := by
  simp [allTrue, hk]

theorem head_any {l : List Oper} {n : Nat} {D : Nat → List Nat} {R : Nat → List Value → Value → Nat → Nat → World → Prop} {Q : Exit → Act → World → Prop} {a0 : Act} {w0 : World}
    (hs : Region.noSelect l.toArray = true) (hn : n ≤ l.toArray.size) (hh : headB l.toArray n = true) (hd : depsB l.toArray n D = true)
    (ht : n = l.toArray.size ∨ (Region.sinkB .any l.toArray n = true ∧ Region.chainB .any l.toArray n = true)) (hq : Region.seqB .any l.toArray (l.toArray.size - n) n (allTrue l.toArray.size n) = true)
    (hX : WRel X) (stab : ∀ i, i < n → ∀ vs u lo hi w w', w0.heap.size ≤ lo → lo ≤ hi → hi ≤ w.heap.size → X w w' → R i vs u lo hi w → R i vs u lo hi w')
    (step : ∀ i, i < n → ∀ o, l[i]? = some o → ∀ (v : Nat → Value) (lo up : Nat → Nat) (w' : World), X w0 w' → (∀ e, (e ∈ D i ∨ Region.waitsFor .any l.toArray i e = true) → w0.heap.size ≤ lo e ∧ lo e ≤ up e ∧ up e ≤ w'.heap.size ∧ R e ((D e).map v) (v e) (lo e) (up e) w') →
      relOp P l.toArray o (putAll l.toArray v n a0) w' fun u w'' => X w' w'' ∧ R i ((D i).map v) u w'.heap.size w''.heap.size w'')
    (fin : ∀ (v : Nat → Value) (lo up : Nat → Nat) (w' : World), X w0 w' → (∀ i, i < n → w0.heap.size ≤ lo i ∧ lo i ≤ up i ∧ up i ≤ w'.heap.size ∧ R i ((D i).map v) (v i) (lo i) (up i) w') → (∀ i j, i < n → j < n → i ≠ j → up i ≤ lo j ∨ up j ≤ lo i) →
      wpList P l.toArray Q (l.drop n) (putAll l.toArray v n a0) w') :
    ∀ (m : Nat) (listed : Array Bool) (v : Nat → Value) (lo hi : Nat → Nat) (a : Act) (w : World), HeadInv .any l.toArray n listed → cnt (lst listed) n = m → Mid l.toArray n a0 (lst listed) v a →
      Facts X D R n w0 (lst listed) v lo hi w → wpAny P .any l.toArray Q (m + (l.toArray.size - n)) listed a w := by
  have hdst := headB_dst hh
  have hsel := Region.noSelect_spec hs
  intro m
  induction m with
  | zero =>
    intro listed v lo hi a w inv hc mid fa
    have hall := cnt_zero _ n hc
    have ha := mid.all hdst hall
    subst ha
    have hl : listed = allTrue l.toArray.size n := by
      apply Array.ext
      · rw [inv.size]; simp [allTrue]
      · intro k h1 h2
        have hk : k < l.toArray.size := by rw [← inv.size]; exact h1
        have e1 : listed[k] = listed.getD k false := by simp [h1]
        have e2 : (allTrue l.toArray.size n)[k] = (allTrue l.toArray.size n).getD k false := by rw [Array.getD_eq_getD_getElem?, Array.getElem?_eq_getElem h2]; rfl
        rw [e1, e2, allTrue_get _ _ _ hk]
        by_cases hkn : k < n
        · simp only [hkn, decide_true]; exact hall k hkn
        · simp only [hkn, decide_false]; exact getD_both (inv.tail k (by omega) hk)
    have hdl : (l.drop n).length = l.toArray.size - n := by simp
    rw [Nat.zero_add, ← hdl]
    refine wpAny_of_seq (l.drop n) n listed _ w (fun j => by simp [List.getElem?_drop]) (by rw [hdl, hl]; exact hq) ?_
    exact fin v lo hi w fa.ext (fun i hi => fa.fact i hi (hall i hi)) (fun i j hi hj hne => fa.apart i j hi hj (hall i hi) (hall j hj) hne)
  | succ m ih =>
    intro listed v lo up a w inv hc mid fa
    obtain ⟨k, hk, hlk, hbefore⟩ := cnt_pos (lst listed) n (by omega)
    have hks : k < listed.size := by rw [inv.size]; omega
    have hkun : listed.getD k true = false := getD_in hks hlk
    have hready : k ∈ Region.ready .any l.toArray listed := by
      obtain ⟨ok, hok, hon⟩ := headB_on hh hk
      exact mem_ready.2 ⟨hkun, ok, hok, fun e he hb => hbefore _ (hon e he hb)⟩
    rw [show m + 1 + (l.toArray.size - n) = (m + (l.toArray.size - n)) + 1 by omega]
    refine ⟨fun h => (by rw [h] at hready; cases hready), fun i hi => ?_⟩
    obtain ⟨hiun, o, ho, hall⟩ := mem_ready.1 hi
    have hisz : i < l.toArray.size := (Array.getElem?_eq_some_iff.1 ho).1
    have hin : i < n := by
      rcases ht with ht | ⟨hsk, hch⟩
      · omega
      · rcases Nat.lt_or_ge i n with h | h
        · exact h
        · have hnlt : n < l.toArray.size := by omega
          exact absurd hi (tail_waits hsk hch hnlt inv _ k rfl hk hkun i h)
    have hil : lst listed i = false := getD_both hiun
    have hwaits : ∀ e, Region.waitsFor .any l.toArray i e = true → lst listed e = true := fun e he => by
      obtain ⟨x, hx, hb, hon⟩ := waits_of ho he
      have := hall x hx hb
      rw [hon] at this
      exact this
    have hDi := deps_listed inv hd hin hwaits
    have hnotin : ∀ j, j < n → lst listed j = true → i ∉ D j := fun j hj hlj hmem => by
      have := deps_listed inv hd hj (fun e he => by
        obtain ⟨oj, hoj, x, hx, hb, hon⟩ := Region.waitsFor_spec he
        have := inv.closed j oj hoj hlj x hx hb
        rw [hon] at this; exact this) i hmem
      rw [hil] at this; cases this
    have hnoti : i ∉ D i := fun h => by have := (deps_lt hd hin i h).1; omega
    have pmid := Mid.putAllMid (a0 := a0) (v := v) hdst n (Nat.le_refl _)
    have hrun := same_run (ops := l.toArray) (o := o) (a := a) (b := putAll l.toArray v n a0) (fun cs b => hsel i o cs b ho) (fun t htl => by
      by_cases hts : t < a0.tmps.size
      · by_cases hex : ∃ j, j < n ∧ dstOf l.toArray j = some t
        · obtain ⟨j, hj, hjt⟩ := hex
          have hlj := hwaits j (headB_look hh hin hj ho hjt htl)
          rw [mid.new j t hj hjt hlj hts, pmid.new j t hj hjt (by simp [hj]) hts]
        · have hno : ∀ j, j < n → dstOf l.toArray j = some t → False := fun j h1 h2 => hex ⟨j, h1, h2⟩
          rw [mid.old t fun j h1 h2 => (hno j h1 h2).elim, pmid.old t fun j h1 h2 => (hno j h1 h2).elim]
      · rw [Array.getElem?_eq_none (by rw [mid.size]; exact Nat.le_of_not_lt hts), Array.getElem?_eq_none (by rw [pmid.size]; exact Nat.le_of_not_lt hts)])
    have hst := step i hin o (by simpa using ho) v lo up w fa.ext (fun e he => by
      have hei : e < i := by
        rcases he with he | he
        · exact (deps_lt hd hin e he).1
        · obtain ⟨o', ho', hon⟩ := headB_on hh hin
          obtain ⟨x, hx, hb, hxe⟩ := waits_of ho' he
          have := hon x hx hb
          omega
      exact fa.fact e (by omega) (he.elim (hDi e) (hwaits e)))
    unfold relOp at hst
    rw [← hrun.1, ← hrun.2] at hst
    refine wpOp_of_relOp ho hst fun u w' ⟨hx, hr⟩ => ?_
    have hset := lst_set listed i (by rw [inv.size]; exact hisz)
    have hdo : dstOf l.toArray i = o.dst := by simp only [dstOf, ho, Option.bind_some]
    refine ih _ (upd v i u) (upd lo i w.heap.size) (upd up i w'.heap.size) _ w' (inv.set hi hin) ?_ ?_ ?_
    · rw [hset]; have := cnt_set (lst listed) i hil n hin; omega
    · rw [hset, ← hdo]; exact mid.step hdst hin hil u
    · rw [hset]; exact fa.step hX stab hil hnotin hnoti hx hr

/-- **The rule.** -/
theorem wp_region_rel {id : Nat} {Q : Exit → Act → World → Prop} {a : Act} {w : World} {l : List Oper} (n : Nat) (D : Nat → List Nat) (R : Nat → List Value → Value → Nat → Nat → World → Prop)
    (hm : P.follows .mixedOrders = true) (hB : relB l.toArray n D = true)
    (hX : WRel X) (stab : ∀ i, i < n → ∀ vs u lo hi w1 w', w.heap.size ≤ lo → lo ≤ hi → hi ≤ w1.heap.size → X w1 w' → R i vs u lo hi w1 → R i vs u lo hi w')
    (step : ∀ i, i < n → ∀ o, l[i]? = some o → ∀ (v : Nat → Value) (lo up : Nat → Nat) (w' : World), X w w' → (∀ e, (e ∈ D i ∨ Region.waitsFor .any l.toArray i e = true) → w.heap.size ≤ lo e ∧ lo e ≤ up e ∧ up e ≤ w'.heap.size ∧ R e ((D e).map v) (v e) (lo e) (up e) w') →
      relOp P l.toArray o (putAll l.toArray v n a) w' fun u w'' => X w' w'' ∧ R i ((D i).map v) u w'.heap.size w''.heap.size w'')
    (fin : ∀ (v : Nat → Value) (lo up : Nat → Nat) (w' : World), X w w' → (∀ i, i < n → w.heap.size ≤ lo i ∧ lo i ≤ up i ∧ up i ≤ w'.heap.size ∧ R i ((D i).map v) (v i) (lo i) (up i) w') → (∀ i j, i < n → j < n → i ≠ j → up i ≤ lo j ∨ up j ≤ lo i) →
      wpList P l.toArray Q (l.drop n) (putAll l.toArray v n a) w') :
    (Code.region id l.toArray true).wp P Q a w := by
  simp only [relB, Bool.and_eq_true, decide_eq_true_eq, Bool.or_eq_true, beq_iff_eq] at hB
  obtain ⟨⟨⟨⟨⟨hs, hn⟩, hh⟩, hd⟩, ht⟩, hq⟩ := hB
  refine wp_region_any hm ?_
  have inv0 : HeadInv .any l.toArray n (Array.replicate l.toArray.size false) :=
    ⟨by simp, fun j oj _ hl => (by rw [getD_replicate_false] at hl; cases hl), fun t _ ht => getD_in (by simpa using ht) (getD_replicate_false _ _)⟩
  have hl0 : lst (Array.replicate l.toArray.size false) = fun _ => false := by funext k; exact getD_replicate_false _ _
  have := head_any (P := P) (Q := Q) (a0 := a) (w0 := w) hs hn hh hd ht hq hX stab step fin n (Array.replicate l.toArray.size false) (fun _ => undef) (fun _ => 0) (fun _ => 0) a { w with drawn := w.drawn + 1 } inv0
    (by rw [hl0]; exact cnt_false n) (by rw [hl0]; exact Mid.start _ _ _ _)
    (by rw [hl0]; exact ⟨hX.draw _, fun _ _ h => (by cases h), fun _ _ _ _ h => (by cases h)⟩)
  rwa [show n + (l.toArray.size - n) = l.toArray.size by omega] at this
end

/-! ### The rule, its parts laid out one by one -/
def allLt : Nat → (Nat → Prop) → Prop
  | 0, _ => True
  | k + 1, Q => allLt k Q ∧ Q k
theorem allLt_of {Q : Nat → Prop} : ∀ n, (∀ i, i < n → Q i) → allLt n Q
  | 0, _ => trivial
  | n + 1, h => ⟨allLt_of n fun i hi => h i (by omega), h n (by omega)⟩
theorem of_allLt {Q : Nat → Prop} : ∀ n, allLt n Q → ∀ i, i < n → Q i
  | n + 1, ⟨h1, h2⟩, i, hi => by
    by_cases e : i = n
    · subst e; exact h2
    · exact of_allLt n h1 i (by omega)

/-- What one operation of the head is told of: the operations whose values its relation names; the relation. -/
structure OpSpec (X : World → World → Prop) (n0 : Nat) where
  deps : List Nat
  rel : List Value → Value → Nat → Nat → World → Prop
  stab : ∀ vs u lo up w w', n0 ≤ lo → lo ≤ up → up ≤ w.heap.size → X w w' → rel vs u lo up w → rel vs u lo up w'

/-- The value is x. -/
def isv {X : World → World → Prop} {n0 : Nat} (x : Value) : OpSpec X n0 := ⟨[], fun _ u _ _ _ => u = x, fun _ _ _ _ _ _ _ _ _ _ h => h⟩
/-- A pointer to a new block of cells. -/
def newb {n0 : Nat} (cs : Array Value) (T : TypeId) : OpSpec Ext n0 := ⟨[], fun _ u lo up w => u = .pointer (some ⟨lo, 0, none⟩) ∧ up = lo + 1 ∧ Blk w lo cs T,
  fun _ _ _ _ _ _ _ _ _ hx ⟨h1, h2, h3⟩ => ⟨h1, h2, h3.keep hx⟩⟩

/-- One operation, run by the walk's own steps: what is asked of the value in its slot, and of the world. -/
def StepQ (a : Act) (d : Option Tmp) (G : Value → World → Prop) : Exit → Act → World → Prop := fun e a' w => e = .normal ∧ a'.defers = a.defers ∧ ∀ t, d = some t → G (a'.tmps.getD t undef) w

theorem stepQ_mk {a a' : Act} {t : Tmp} {G : Value → World → Prop} {w : World} {u : Value} (hd : a'.defers = a.defers) (hu : a'.tmps[t]? = some u) (hg : G u w) : StepQ a (some t) G .normal a' w :=
  ⟨rfl, hd, fun t' ht => by cases ht; rw [Array.getD_eq_getD_getElem?, hu]; exact hg⟩

theorem relOp_of_wpList {P : Program} {ops : Array Oper} {o : Oper} {a : Act} {w : World} {G : Value → World → Prop} {t : Tmp} (hdt : o.dst = some t) (hd : t < a.tmps.size)
    (h : wpList P ops (StepQ a o.dst G) [o] a w) : relOp P ops o a w G := by
  have fit : ∀ u w', StepQ a o.dst G .normal (a.put o.dst u) w' → G u w' := by
    rintro u w' ⟨_, _, h1⟩
    have := h1 t hdt
    rw [hdt] at this
    simpa [Act.put, hd] using this
  have nout : ¬ LetsOut (StepQ a o.dst G) := fun ⟨_, _, h, _⟩ => by cases h
  unfold wpList at h
  unfold relOp
  split
  · rename_i hw
    rw [if_pos hw] at h
    rcases h with h | ⟨_, h⟩
    case inr => exact absurd h nout
    unfold Oper.wp at h
    generalize (execOp a.eval o).run P w = r at *
    cases r with
    | ok n w' =>
      cases n <;> simp only [Oper.upon] at h <;> simp only [relUpon]
      case value u => exact fit _ _ h
      case skip => exact fit _ _ h
      case defer d =>
        obtain ⟨_, h1, _⟩ := h
        rw [put_defers'] at h1
        exact absurd h1 (List.cons_ne_self _ _)
      case enter f args =>
        refine h.mono fun e w'' he => ?_
        cases e with
        | returned u => exact ⟨u, rfl, fit _ _ he⟩
        | panicked c => obtain ⟨h1, _⟩ := he; cases h1
        | outgrown => exact absurd he nout
      case row row args => exact h.mono fun u w'' he => fit _ _ he
    | halt x w' =>
      cases x <;> simp only [Oper.upon] at h
      case panic u => obtain ⟨h1, _⟩ := h; cases h1
  · rename_i hw
    rw [if_neg hw] at h
    exact fit _ _ h

/-- The operations for which an operation waits. -/
def waits (o : Oper) : List Nat := o.after.toList.filterMap fun e => if Region.binds .any e = true then some e.on else none
theorem waitsFor_mem {ops : Array Oper} {i e : Nat} {o : Oper} (ho : ops[i]? = some o) (h : e ∈ waits o) : Region.waitsFor .any ops i e = true := by
  obtain ⟨x, hx, hb⟩ := List.mem_filterMap.1 h
  split at hb
  · rename_i hbx
    simp only [Option.some.injEq] at hb
    unfold Region.waitsFor
    simp only [ho]
    exact Array.any_eq_true'.2 ⟨x, by simpa using hx, by simp [hbx, hb]⟩
  · cases hb

def depsOk {X : World → World → Prop} {n0 : Nat} (S : List (OpSpec X n0)) (v : Nat → Value) (lo up : Nat → Nat) (w w' : World) : List Nat → Prop
  | [] => True
  | e :: r => (w.heap.size ≤ lo e ∧ lo e ≤ up e ∧ up e ≤ w'.heap.size ∧ (S.getD e (isv undef)).rel ((S.getD e (isv undef)).deps.map v) (v e) (lo e) (up e) w') ∧ depsOk S v lo up w w' r
/-- The same facts, one premise behind the other. -/
def depsImp {X : World → World → Prop} {n0 : Nat} (S : List (OpSpec X n0)) (v : Nat → Value) (lo up : Nat → Nat) (w w' : World) (G : Prop) : List Nat → Prop
  | [] => G
  | e :: r => w.heap.size ≤ lo e → lo e ≤ up e → up e ≤ w'.heap.size → (S.getD e (isv undef)).rel ((S.getD e (isv undef)).deps.map v) (v e) (lo e) (up e) w' → depsImp S v lo up w w' G r
theorem depsImp_get {X : World → World → Prop} {n0 : Nat} {S : List (OpSpec X n0)} {v : Nat → Value} {lo up : Nat → Nat} {w w' : World} {G : Prop} : ∀ D : List Nat, depsImp S v lo up w w' G D → depsOk S v lo up w w' D → G
  | [], h, _ => h
  | _ :: r, h, k => depsImp_get r (h k.1.1 k.1.2.1 k.1.2.2.1 k.1.2.2.2) k.2
def zipOk {X : World → World → Prop} {n0 : Nat} (P : Program) (ops : Array Oper) (S : List (OpSpec X n0)) (a : Act) (v : Nat → Value) (lo up : Nat → Nat) (w w' : World) : List Oper → List (OpSpec X n0) → Prop
  | o :: l, s :: r => depsImp S v lo up w w' (wpList P ops (StepQ a o.dst fun u w'' => X w' w'' ∧ s.rel (s.deps.map v) u w'.heap.size w''.heap.size w'') [o] a w') (s.deps ++ waits o) ∧ zipOk P ops S a v lo up w w' l r
  | _, _ => True
def factsOk {X : World → World → Prop} {n0 : Nat} (v : Nat → Value) (lo up : Nat → Nat) (w w' : World) : Nat → List (OpSpec X n0) → Prop
  | i, s :: r => (w.heap.size ≤ lo i ∧ lo i ≤ up i ∧ up i ≤ w'.heap.size ∧ s.rel (s.deps.map v) (v i) (lo i) (up i) w') ∧ factsOk v lo up w w' (i + 1) r
  | _, [] => True
/-- A head's operation without a slot is one whose relation does not name its value: here all have a slot in the frame. -/
def slotsB (m : Nat) (l : List Oper) : Bool := l.all fun o => match o.dst with | some t => decide (t < m) | none => false

theorem depsOk_of {X : World → World → Prop} {n0 : Nat} {S : List (OpSpec X n0)} {v : Nat → Value} {lo up : Nat → Nat} {w w' : World} : ∀ D : List Nat, (∀ e ∈ D, w.heap.size ≤ lo e ∧ lo e ≤ up e ∧ up e ≤ w'.heap.size ∧ (S.getD e (isv undef)).rel ((S.getD e (isv undef)).deps.map v) (v e) (lo e) (up e) w') → depsOk S v lo up w w' D
  | [], _ => trivial
  | e :: r, h => ⟨h e (by simp), depsOk_of r fun x hx => h x (by simp [hx])⟩
theorem zipOk_get {X : World → World → Prop} {n0 : Nat} {P : Program} {ops : Array Oper} {S : List (OpSpec X n0)} {a : Act} {v : Nat → Value} {lo up : Nat → Nat} {w w' : World} (l : List Oper) : ∀ (r : List (OpSpec X n0)), zipOk P ops S a v lo up w w' l r → ∀ (i : Nat) (o : Oper) (s : OpSpec X n0), l[i]? = some o → r[i]? = some s →
    depsOk S v lo up w w' (s.deps ++ waits o) → wpList P ops (StepQ a o.dst fun u w'' => X w' w'' ∧ s.rel (s.deps.map v) u w'.heap.size w''.heap.size w'') [o] a w' := by
  induction l with
  | nil => intro r _ i o s ho; simp at ho
  | cons o l ih =>
    intro r h i o' s' ho hs
    cases r with
    | nil => simp at hs
    | cons s r =>
      cases i with
      | zero =>
        obtain rfl : o = o' := Option.some.inj ho
        obtain rfl : s = s' := Option.some.inj hs
        exact depsImp_get _ h.1
      | succ i => exact ih r h.2 i o' s' ho hs
theorem factsOk_of {X : World → World → Prop} {n0 : Nat} {v : Nat → Value} {lo up : Nat → Nat} {w w' : World} : ∀ (r : List (OpSpec X n0)) (k : Nat), (∀ i s, r[i]? = some s → w.heap.size ≤ lo (k + i) ∧ lo (k + i) ≤ up (k + i) ∧ up (k + i) ≤ w'.heap.size ∧ s.rel (s.deps.map v) (v (k + i)) (lo (k + i)) (up (k + i)) w') → factsOk v lo up w w' k r
  | [], _, _ => trivial
  | s :: r, k, h => ⟨by simpa using h 0 s rfl, factsOk_of r (k + 1) fun i s' hs => by have := h (i + 1) s' (by simpa using hs); rwa [show k + (i + 1) = k + 1 + i by omega] at this⟩

/-- **The rule as it is used.** S: a specification for each operation of the head; A: the frame with the head's values in it. -/
theorem wp_region_zip' {X : World → World → Prop} (hX : WRel X) {P : Program} {id : Nat} {Q : Exit → Act → World → Prop} {a : Act} {w : World} {l : List Oper} (S : List (OpSpec X w.heap.size)) (A : (Nat → Value) → Act)
    (hm : P.follows .mixedOrders = true) (hB : relB l.toArray S.length (fun i => (S.getD i (isv undef)).deps) = true)
    (hA : ∀ v, putAll l.toArray v S.length a = A v) (hsl : ∀ v, slotsB (A v).tmps.size (l.take S.length) = true)
    (step : ∀ (v : Nat → Value) (lo up : Nat → Nat) (w' : World), X w w' → zipOk P l.toArray S (A v) v lo up w w' l S)
    (fin : ∀ (v : Nat → Value) (lo up : Nat → Nat) (w' : World), X w w' → factsOk v lo up w w' 0 S → (∀ i j, i < S.length → j < S.length → i ≠ j → up i ≤ lo j ∨ up j ≤ lo i) →
      wpList P l.toArray Q (l.drop S.length) (A v) w') :
    (Code.region id l.toArray true).wp P Q a w :=
  wp_region_rel S.length (fun i => (S.getD i (isv undef)).deps) (fun i => (S.getD i (isv undef)).rel) hm hB hX
    (fun i _ vs u lo hi w w' h1 h2 h3 h4 h5 => (S.getD i (isv undef)).stab vs u lo hi w w' h1 h2 h3 h4 h5)
    (fun i hi o ho v lo up w' hx hf => by
      have hs : S[i]? = some (S.getD i (isv undef)) := by simp [hi]
      have h1 := zipOk_get l S (step v lo up w' hx) i o _ ho hs (depsOk_of _ fun e he => hf e (by
        rcases List.mem_append.1 he with he | he
        · exact .inl he
        · exact .inr (waitsFor_mem (by simpa using ho) he)))
      have hmem : o ∈ l.take S.length := List.mem_of_getElem? (i := i) (by rw [List.getElem?_take, if_pos hi]; exact ho)
      have h2 := List.all_eq_true.1 (hsl v) o hmem
      rw [hA v]
      cases hdt : o.dst with
      | none => rw [hdt] at h2; cases h2
      | some t => exact relOp_of_wpList hdt (by rw [hdt] at h2; simpa using h2) h1)
    (fun v lo up w' hx hf ha => by
      rw [hA v]
      exact fin v lo up w' hx (factsOk_of S 0 fun i s hs => by
        have hi : i < S.length := (List.getElem?_eq_some_iff.1 hs).1
        have := hf i hi
        have e : S.getD i (isv undef) = s := by simp [hs]
        rw [e] at this
        simpa using this) ha)

theorem wp_region_zip {P : Program} {id : Nat} {Q : Exit → Act → World → Prop} {a : Act} {w : World} {l : List Oper} (S : List (OpSpec Ext w.heap.size)) (A : (Nat → Value) → Act)
    (hm : P.follows .mixedOrders = true) (hB : relB l.toArray S.length (fun i => (S.getD i (isv undef)).deps) = true)
    (hA : ∀ v, putAll l.toArray v S.length a = A v) (hsl : ∀ v, slotsB (A v).tmps.size (l.take S.length) = true)
    (step : ∀ (v : Nat → Value) (lo up : Nat → Nat) (w' : World), Ext w w' → zipOk P l.toArray S (A v) v lo up w w' l S)
    (fin : ∀ (v : Nat → Value) (lo up : Nat → Nat) (w' : World), Ext w w' → factsOk v lo up w w' 0 S → (∀ i j, i < S.length → j < S.length → i ≠ j → up i ≤ lo j ∨ up j ≤ lo i) →
      wpList P l.toArray Q (l.drop S.length) (A v) w') :
    (Code.region id l.toArray true).wp P Q a w := wp_region_zip' Ext.rel S A hm hB hA hsl step fin

/-- A struct is stored into a block of the call's own: the world behind it, as far as it is known. -/
theorem wpList_store_blk {P : Program} {ops : Array Oper} {rest : List Oper} {o : Oper} {a : Act} {w B : World} {Q : Exit → Act → World → Prop} (hgd : o.guard = none) (hno : o.dst = none) (ty : TypeId) (x y : Operand) (ho : o.op = .store ty x y)
    (g : Nat) (cells : Array Value) (hx : a.eval x = .pointer (some ⟨g, 0, none⟩)) (hy : a.eval y = .agg cells)
    (t : TypeId) (old : Array Value) (hg : Blk w g old t) (hi : (P.info? ty).map (·.size) = some cells.size)
    (hold : old.size = cells.size) (h1 : cells.all (·.oneCell') = true) (hB : Ext B w) (hBg : B.heap.size ≤ g)
    (h : ∀ w', Ext B w' → Blk w' g cells t → (∀ b, b ≠ g → w'.heap[b]? = w.heap[b]?) → w.heap.size ≤ w'.heap.size → wpList P ops Q rest a w') : wpList P ops Q (o :: rest) a w :=
  wpList_store_row hgd ty x y ho g cells hx hy t old hg hi hold h1 (by
    rw [hno]
    exact h _ (hB.setRow hBg cells) (hg.set cells) (fun b hb => setRow_other w g b cells hb) (by simp [World.setRow]))
theorem Blk.keep' {w w' : World} {b g : Nat} {cs : Array Value} {T : TypeId} (h : Blk w b cs T) (ho : ∀ b, b ≠ g → w'.heap[b]? = w.heap[b]?) (hne : b ≠ g) : Blk w' b cs T := by
  unfold Blk; rw [ho b hne]; exact h
end Go.Proofs.Ytpbnbhiffnnliaa
namespace Go.Proofs.Ytpbnbhiffnnliaa
set_option linter.unusedSimpArgs false
set_option linter.unusedVariables false
open Go.RowKit
theorem cnt_le (L : Nat → Bool) : ∀ n, cnt L n ≤ n
  | 0 => Nat.le_refl _
  | n + 1 => by have := cnt_le L n; simp only [cnt]; split <;> omega

section
variable {P : Program} {X : World → World → Prop}
theorem head_anyJ (J : Nat → World → Prop) {l : List Oper} {n : Nat} {D : Nat → List Nat} {R : Nat → List Value → Value → Nat → Nat → World → Prop} {Q : Exit → Act → World → Prop} {a0 : Act} {w0 : World}
    (hs : Region.noSelect l.toArray = true) (hn : n ≤ l.toArray.size) (hh : headB l.toArray n = true) (hd : depsB l.toArray n D = true)
    (ht : n = l.toArray.size ∨ (Region.sinkB .any l.toArray n = true ∧ Region.chainB .any l.toArray n = true)) (hq : Region.seqB .any l.toArray (l.toArray.size - n) n (allTrue l.toArray.size n) = true)
    (hX : WRel X) (stab : ∀ i, i < n → ∀ vs u lo hi w w', w0.heap.size ≤ lo → lo ≤ hi → hi ≤ w.heap.size → X w w' → R i vs u lo hi w → R i vs u lo hi w')
    (step : ∀ i, i < n → ∀ o, l[i]? = some o → ∀ (v : Nat → Value) (lo up : Nat → Nat) (w' : World), X w0 w' → ∀ m, m < n → J (m + 1) w' → (∀ e, (e ∈ D i ∨ Region.waitsFor .any l.toArray i e = true) → w0.heap.size ≤ lo e ∧ lo e ≤ up e ∧ up e ≤ w'.heap.size ∧ R e ((D e).map v) (v e) (lo e) (up e) w') →
      relOp P l.toArray o (putAll l.toArray v n a0) w' fun u w'' => X w' w'' ∧ R i ((D i).map v) u w'.heap.size w''.heap.size w'' ∧ J m w'')
    (fin : ∀ (v : Nat → Value) (lo up : Nat → Nat) (w' : World), X w0 w' → J 0 w' → (∀ i, i < n → w0.heap.size ≤ lo i ∧ lo i ≤ up i ∧ up i ≤ w'.heap.size ∧ R i ((D i).map v) (v i) (lo i) (up i) w') → (∀ i j, i < n → j < n → i ≠ j → up i ≤ lo j ∨ up j ≤ lo i) →
      wpList P l.toArray Q (l.drop n) (putAll l.toArray v n a0) w') :
    ∀ (m : Nat) (listed : Array Bool) (v : Nat → Value) (lo hi : Nat → Nat) (a : Act) (w : World), HeadInv .any l.toArray n listed → cnt (lst listed) n = m → Mid l.toArray n a0 (lst listed) v a →
      Facts X D R n w0 (lst listed) v lo hi w → J m w → wpAny P .any l.toArray Q (m + (l.toArray.size - n)) listed a w := by
  have hdst := headB_dst hh
  have hsel := Region.noSelect_spec hs
  intro m
  induction m with
  | zero =>
    intro listed v lo hi a w inv hc mid fa hj
    have hall := cnt_zero _ n hc
    have ha := mid.all hdst hall
    subst ha
    have hl : listed = allTrue l.toArray.size n := by
      apply Array.ext
      · rw [inv.size]; simp [allTrue]
      · intro k h1 h2
        have hk : k < l.toArray.size := by rw [← inv.size]; exact h1
        have e1 : listed[k] = listed.getD k false := by simp [h1]
        have e2 : (allTrue l.toArray.size n)[k] = (allTrue l.toArray.size n).getD k false := by rw [Array.getD_eq_getD_getElem?, Array.getElem?_eq_getElem h2]; rfl
        rw [e1, e2, allTrue_get _ _ _ hk]
        by_cases hkn : k < n
        · simp only [hkn, decide_true]; exact hall k hkn
        · simp only [hkn, decide_false]; exact getD_both (inv.tail k (by omega) hk)
    have hdl : (l.drop n).length = l.toArray.size - n := by simp
    rw [Nat.zero_add, ← hdl]
    refine wpAny_of_seq (l.drop n) n listed _ w (fun j => by simp [List.getElem?_drop]) (by rw [hdl, hl]; exact hq) ?_
    exact fin v lo hi w fa.ext hj (fun i hi => fa.fact i hi (hall i hi)) (fun i j hi hj hne => fa.apart i j hi hj (hall i hi) (hall j hj) hne)
  | succ m ih =>
    intro listed v lo up a w inv hc mid fa hj
    obtain ⟨k, hk, hlk, hbefore⟩ := cnt_pos (lst listed) n (by omega)
    have hks : k < listed.size := by rw [inv.size]; omega
    have hkun : listed.getD k true = false := getD_in hks hlk
    have hready : k ∈ Region.ready .any l.toArray listed := by
      obtain ⟨ok, hok, hon⟩ := headB_on hh hk
      exact mem_ready.2 ⟨hkun, ok, hok, fun e he hb => hbefore _ (hon e he hb)⟩
    rw [show m + 1 + (l.toArray.size - n) = (m + (l.toArray.size - n)) + 1 by omega]
    refine ⟨fun h => (by rw [h] at hready; cases hready), fun i hi => ?_⟩
    obtain ⟨hiun, o, ho, hall⟩ := mem_ready.1 hi
    have hisz : i < l.toArray.size := (Array.getElem?_eq_some_iff.1 ho).1
    have hin : i < n := by
      rcases ht with ht | ⟨hsk, hch⟩
      · omega
      · rcases Nat.lt_or_ge i n with h | h
        · exact h
        · have hnlt : n < l.toArray.size := by omega
          exact absurd hi (tail_waits hsk hch hnlt inv _ k rfl hk hkun i h)
    have hil : lst listed i = false := getD_both hiun
    have hwaits : ∀ e, Region.waitsFor .any l.toArray i e = true → lst listed e = true := fun e he => by
      obtain ⟨x, hx, hb, hon⟩ := waits_of ho he
      have := hall x hx hb
      rw [hon] at this
      exact this
    have hDi := deps_listed inv hd hin hwaits
    have hnotin : ∀ j, j < n → lst listed j = true → i ∉ D j := fun j hj hlj hmem => by
      have := deps_listed inv hd hj (fun e he => by
        obtain ⟨oj, hoj, x, hx, hb, hon⟩ := Region.waitsFor_spec he
        have := inv.closed j oj hoj hlj x hx hb
        rw [hon] at this; exact this) i hmem
      rw [hil] at this; cases this
    have hnoti : i ∉ D i := fun h => by have := (deps_lt hd hin i h).1; omega
    have pmid := Mid.putAllMid (a0 := a0) (v := v) hdst n (Nat.le_refl _)
    have hrun := same_run (ops := l.toArray) (o := o) (a := a) (b := putAll l.toArray v n a0) (fun cs b => hsel i o cs b ho) (fun t htl => by
      by_cases hts : t < a0.tmps.size
      · by_cases hex : ∃ j, j < n ∧ dstOf l.toArray j = some t
        · obtain ⟨j, hj, hjt⟩ := hex
          have hlj := hwaits j (headB_look hh hin hj ho hjt htl)
          rw [mid.new j t hj hjt hlj hts, pmid.new j t hj hjt (by simp [hj]) hts]
        · have hno : ∀ j, j < n → dstOf l.toArray j = some t → False := fun j h1 h2 => hex ⟨j, h1, h2⟩
          rw [mid.old t fun j h1 h2 => (hno j h1 h2).elim, pmid.old t fun j h1 h2 => (hno j h1 h2).elim]
      · rw [Array.getElem?_eq_none (by rw [mid.size]; exact Nat.le_of_not_lt hts), Array.getElem?_eq_none (by rw [pmid.size]; exact Nat.le_of_not_lt hts)])
    have hst := step i hin o (by simpa using ho) v lo up w fa.ext m (by have := cnt_le (lst listed) n; omega) hj (fun e he => by
      have hei : e < i := by
        rcases he with he | he
        · exact (deps_lt hd hin e he).1
        · obtain ⟨o', ho', hon⟩ := headB_on hh hin
          obtain ⟨x, hx, hb, hxe⟩ := waits_of ho' he
          have := hon x hx hb
          omega
      exact fa.fact e (by omega) (he.elim (hDi e) (hwaits e)))
    unfold relOp at hst
    rw [← hrun.1, ← hrun.2] at hst
    refine wpOp_of_relOp ho hst fun u w' ⟨hx, hr, hjm⟩ => ?_
    have hset := lst_set listed i (by rw [inv.size]; exact hisz)
    have hdo : dstOf l.toArray i = o.dst := by simp only [dstOf, ho, Option.bind_some]
    refine ih _ (upd v i u) (upd lo i w.heap.size) (upd up i w'.heap.size) _ w' (inv.set hi hin) ?_ ?_ ?_ hjm
    · rw [hset]; have := cnt_set (lst listed) i hil n hin; omega
    · rw [hset, ← hdo]; exact mid.step hdst hin hil u
    · rw [hset]; exact fa.step hX stab hil hnotin hnoti hx hr


theorem wp_region_relJ (J : Nat → World → Prop) {id : Nat} {Q : Exit → Act → World → Prop} {a : Act} {w : World} {l : List Oper} (n : Nat) (D : Nat → List Nat) (R : Nat → List Value → Value → Nat → Nat → World → Prop)
    (hJ : J n { w with drawn := w.drawn + 1 })
    (hm : P.follows .mixedOrders = true) (hB : relB l.toArray n D = true)
    (hX : WRel X) (stab : ∀ i, i < n → ∀ vs u lo hi w1 w', w.heap.size ≤ lo → lo ≤ hi → hi ≤ w1.heap.size → X w1 w' → R i vs u lo hi w1 → R i vs u lo hi w')
    (step : ∀ i, i < n → ∀ o, l[i]? = some o → ∀ (v : Nat → Value) (lo up : Nat → Nat) (w' : World), X w w' → ∀ m, m < n → J (m + 1) w' → (∀ e, (e ∈ D i ∨ Region.waitsFor .any l.toArray i e = true) → w.heap.size ≤ lo e ∧ lo e ≤ up e ∧ up e ≤ w'.heap.size ∧ R e ((D e).map v) (v e) (lo e) (up e) w') →
      relOp P l.toArray o (putAll l.toArray v n a) w' fun u w'' => X w' w'' ∧ R i ((D i).map v) u w'.heap.size w''.heap.size w'' ∧ J m w'')
    (fin : ∀ (v : Nat → Value) (lo up : Nat → Nat) (w' : World), X w w' → J 0 w' → (∀ i, i < n → w.heap.size ≤ lo i ∧ lo i ≤ up i ∧ up i ≤ w'.heap.size ∧ R i ((D i).map v) (v i) (lo i) (up i) w') → (∀ i j, i < n → j < n → i ≠ j → up i ≤ lo j ∨ up j ≤ lo i) →
      wpList P l.toArray Q (l.drop n) (putAll l.toArray v n a) w') :
    (Code.region id l.toArray true).wp P Q a w := by
  simp only [relB, Bool.and_eq_true, decide_eq_true_eq, Bool.or_eq_true, beq_iff_eq] at hB
  obtain ⟨⟨⟨⟨⟨hs, hn⟩, hh⟩, hd⟩, ht⟩, hq⟩ := hB
  refine wp_region_any hm ?_
  have inv0 : HeadInv .any l.toArray n (Array.replicate l.toArray.size false) :=
    ⟨by simp, fun j oj _ hl => (by rw [getD_replicate_false] at hl; cases hl), fun t _ ht => getD_in (by simpa using ht) (getD_replicate_false _ _)⟩
  have hl0 : lst (Array.replicate l.toArray.size false) = fun _ => false := by funext k; exact getD_replicate_false _ _
  have := head_anyJ (P := P) J (Q := Q) (a0 := a) (w0 := w) hs hn hh hd ht hq hX stab step fin n (Array.replicate l.toArray.size false) (fun _ => undef) (fun _ => 0) (fun _ => 0) a { w with drawn := w.drawn + 1 } inv0
    (by rw [hl0]; exact cnt_false n) (by rw [hl0]; exact Mid.start _ _ _ _)
    (by rw [hl0]; exact ⟨hX.draw _, fun _ _ h => (by cases h), fun _ _ _ _ h => (by cases h)⟩) hJ
  rwa [show n + (l.toArray.size - n) = l.toArray.size by omega] at this
end
def zipOkJ (G : World → Prop) {X : World → World → Prop} {n0 : Nat} (P : Program) (ops : Array Oper) (S : List (OpSpec X n0)) (a : Act) (v : Nat → Value) (lo up : Nat → Nat) (w w' : World) : List Oper → List (OpSpec X n0) → Prop
  | o :: l, s :: r => depsImp S v lo up w w' (wpList P ops (StepQ a o.dst fun u w'' => X w' w'' ∧ s.rel (s.deps.map v) u w'.heap.size w''.heap.size w'' ∧ G w'') [o] a w') (s.deps ++ waits o) ∧ zipOkJ G P ops S a v lo up w w' l r
  | _, _ => True

theorem zipOkJ_get {G : World → Prop} {X : World → World → Prop} {n0 : Nat} {P : Program} {ops : Array Oper} {S : List (OpSpec X n0)} {a : Act} {v : Nat → Value} {lo up : Nat → Nat} {w w' : World} (l : List Oper) : ∀ (r : List (OpSpec X n0)), zipOkJ G P ops S a v lo up w w' l r → ∀ (i : Nat) (o : Oper) (s : OpSpec X n0), l[i]? = some o → r[i]? = some s →
    depsOk S v lo up w w' (s.deps ++ waits o) → wpList P ops (StepQ a o.dst fun u w'' => X w' w'' ∧ s.rel (s.deps.map v) u w'.heap.size w''.heap.size w'' ∧ G w'') [o] a w' := by
  induction l with
  | nil => intro r _ i o s ho; simp at ho
  | cons o l ih =>
    intro r h i o' s' ho hs
    cases r with
    | nil => simp at hs
    | cons s r =>
      cases i with
      | zero =>
        obtain rfl : o = o' := Option.some.inj ho
        obtain rfl : s = s' := Option.some.inj hs
        exact depsImp_get _ h.1
      | succ i => exact ih r h.2 i o' s' ho hs

theorem wp_region_zipJ {X : World → World → Prop} (hX : WRel X) (J : Nat → World → Prop) {P : Program} {id : Nat} {Q : Exit → Act → World → Prop} {a : Act} {w : World} {l : List Oper} (S : List (OpSpec X w.heap.size)) (A : (Nat → Value) → Act)
    (hJ : J S.length { w with drawn := w.drawn + 1 })
    (hm : P.follows .mixedOrders = true) (hB : relB l.toArray S.length (fun i => (S.getD i (isv undef)).deps) = true)
    (hA : ∀ v, putAll l.toArray v S.length a = A v) (hsl : ∀ v, slotsB (A v).tmps.size (l.take S.length) = true)
    (step : ∀ (v : Nat → Value) (lo up : Nat → Nat) (w' : World), X w w' → ∀ m, m < S.length → J (m + 1) w' → zipOkJ (J m) P l.toArray S (A v) v lo up w w' l S)
    (fin : ∀ (v : Nat → Value) (lo up : Nat → Nat) (w' : World), X w w' → J 0 w' → factsOk v lo up w w' 0 S → (∀ i j, i < S.length → j < S.length → i ≠ j → up i ≤ lo j ∨ up j ≤ lo i) →
      wpList P l.toArray Q (l.drop S.length) (A v) w') :
    (Code.region id l.toArray true).wp P Q a w :=
  wp_region_relJ J S.length (fun i => (S.getD i (isv undef)).deps) (fun i => (S.getD i (isv undef)).rel) hJ hm hB hX
    (fun i _ vs u lo hi w w' h1 h2 h3 h4 h5 => (S.getD i (isv undef)).stab vs u lo hi w w' h1 h2 h3 h4 h5)
    (fun i hi o ho v lo up w' hx m hm' hj hf => by
      have hs : S[i]? = some (S.getD i (isv undef)) := by simp [hi]
      have h1 := zipOkJ_get l S (step v lo up w' hx m hm' hj) i o _ ho hs (depsOk_of _ fun e he => hf e (by
        rcases List.mem_append.1 he with he | he
        · exact .inl he
        · exact .inr (waitsFor_mem (by simpa using ho) he)))
      have hmem : o ∈ l.take S.length := List.mem_of_getElem? (i := i) (by rw [List.getElem?_take, if_pos hi]; exact ho)
      have h2 := List.all_eq_true.1 (hsl v) o hmem
      rw [hA v]
      cases hdt : o.dst with
      | none => rw [hdt] at h2; cases h2
      | some t => exact relOp_of_wpList hdt (by rw [hdt] at h2; simpa using h2) h1)
    (fun v lo up w' hx hj hf ha => by
      rw [hA v]
      exact fin v lo up w' hx hj (factsOk_of S 0 fun i s hs => by
        have hi : i < S.length := (List.getElem?_eq_some_iff.1 hs).1
        have := hf i hi
        have e : S.getD i (isv undef) = s := by simp [hs]
        rw [e] at this
        simpa using this) ha)


end Go.Proofs.Ytpbnbhiffnnliaa
