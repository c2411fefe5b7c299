/- Regions that draw their order and store into a block that they make: the rule for a head with operations without a slot; the relation 'Fill'. -/
import Derived.Test.YtjoomdihjffmlaaInts
namespace Go.Proofs.Ytjoomdihjffmlaa
set_option linter.unusedSimpArgs false
set_option linter.unusedVariables false
open Go.RowKit

/-- One operation: what is asked of the value in its slot (of any, where it has none), and of the world. -/
def StepS (a : Act) (d : Option Tmp) (G : Value → World → Prop) : Exit → Act → World → Prop :=
  fun e a' w => e = .normal ∧ a'.defers = a.defers ∧ (∀ t, d = some t → G (a'.tmps.getD t undef) w) ∧ (d = none → ∀ u, G u w)
theorem stepS_mk {a a' : Act} {t : Tmp} {G : Value → World → Prop} {w : World} {u : Value} (hd : a'.defers = a.defers) (hu : a'.tmps[t]? = some u) (hg : G u w) : StepS a (some t) G .normal a' w :=
  ⟨rfl, hd, fun t' ht => by cases ht; rw [Array.getD_eq_getD_getElem?, hu]; exact hg, fun h => by cases h⟩
theorem stepS_none {a a' : Act} {G : Value → World → Prop} {w : World} (hd : a'.defers = a.defers) (hg : ∀ u, G u w) : StepS a none G .normal a' w :=
  ⟨rfl, hd, fun t' ht => by (cases ht), fun _ => hg⟩
theorem relOp_of_wpListS {P : Program} {ops : Array Oper} {o : Oper} {a : Act} {w : World} {G : Value → World → Prop} (hd : ∀ t, o.dst = some t → t < a.tmps.size)
    (h : wpList P ops (StepS a o.dst G) [o] a w) : relOp P ops o a w G := by
  have fit : ∀ u w', StepS a o.dst G .normal (a.put o.dst u) w' → G u w' := by
    rintro u w' ⟨_, _, h1, h2⟩
    cases hdt : o.dst with
    | none => exact h2 hdt u
    | some t =>
      have := h1 t hdt
      rw [hdt] at this
      simpa [Act.put, hd t hdt] using this
  have nout : ¬ LetsOut (StepS a o.dst G) := fun ⟨_, _, h, _⟩ => by cases h
  unfold wpList at h
  unfold relOp
  split
  · rename_i hw
    rw [if_pos hw] at h
    rcases h with h | ⟨_, h⟩
    case inr => exact absurd h nout
    unfold Oper.wp at h
    generalize (execOp a.eval o).run P w = r at *
    cases r with
    | ok n w' =>
      cases n <;> simp only [Oper.upon] at h <;> simp only [relUpon]
      case value u => exact fit _ _ h
      case skip => exact fit _ _ h
      case defer d =>
        obtain ⟨_, h1, _⟩ := h
        rw [put_defers'] at h1
        exact absurd h1 (List.cons_ne_self _ _)
      case enter f args =>
        refine h.mono fun e w'' he => ?_
        cases e with
        | returned u => exact ⟨u, rfl, fit _ _ he⟩
        | panicked c => obtain ⟨h1, _⟩ := he; cases h1
        | outgrown => exact absurd he nout
      case row row args => exact h.mono fun u w'' he => fit _ _ he
    | halt x w' =>
      cases x <;> simp only [Oper.upon] at h
      case panic u => obtain ⟨h1, _⟩ := h; cases h1
  · rename_i hw
    rw [if_neg hw] at h
    exact fit _ _ h
def zipOkS {X : World → World → Prop} {n0 : Nat} (P : Program) (ops : Array Oper) (S : List (OpSpec X n0)) (a : Act) (v : Nat → Value) (lo up : Nat → Nat) (w w' : World) : List Oper → List (OpSpec X n0) → Prop
  | o :: l, s :: r => depsImp S v lo up w w' (wpList P ops (StepS a o.dst fun u w'' => X w' w'' ∧ s.rel (s.deps.map v) u w'.heap.size w''.heap.size w'') [o] a w') (s.deps ++ waits o) ∧ zipOkS P ops S a v lo up w w' l r
  | _, _ => True
theorem zipOkS_get {X : World → World → Prop} {n0 : Nat} {P : Program} {ops : Array Oper} {S : List (OpSpec X n0)} {a : Act} {v : Nat → Value} {lo up : Nat → Nat} {w w' : World} (l : List Oper) : ∀ (r : List (OpSpec X n0)), zipOkS P ops S a v lo up w w' l r → ∀ (i : Nat) (o : Oper) (s : OpSpec X n0), l[i]? = some o → r[i]? = some s →
    depsOk S v lo up w w' (s.deps ++ waits o) → wpList P ops (StepS a o.dst fun u w'' => X w' w'' ∧ s.rel (s.deps.map v) u w'.heap.size w''.heap.size w'') [o] a w' := by
  induction l with
  | nil => intro r _ i o s ho; simp at ho
  | cons o l ih =>
    intro r h i o' s' ho hs
    cases r with
    | nil => simp at hs
    | cons s r =>
      cases i with
      | zero =>
        obtain rfl : o = o' := Option.some.inj ho
        obtain rfl : s = s' := Option.some.inj hs
        exact depsImp_get _ h.1
      | succ i => exact ih r h.2 i o' s' ho hs
def slotsS (m : Nat) (l : List Oper) : Bool := l.all fun o => match o.dst with | some t => decide (t < m) | none => true
/-- **The rule**, where some operations have no slot. -/
theorem wp_region_zipS {X : World → World → Prop} (hX : WRel X) {P : Program} {id : Nat} {Q : Exit → Act → World → Prop} {a : Act} {w : World} {l : List Oper} (S : List (OpSpec X w.heap.size)) (A : (Nat → Value) → Act)
    (hm : P.follows .mixedOrders = true) (hB : relB l.toArray S.length (fun i => (S.getD i (isv undef)).deps) = true)
    (hA : ∀ v, putAll l.toArray v S.length a = A v) (hsl : ∀ v, slotsS (A v).tmps.size (l.take S.length) = true)
    (step : ∀ (v : Nat → Value) (lo up : Nat → Nat) (w' : World), X w w' → zipOkS P l.toArray S (A v) v lo up w w' l S)
    (fin : ∀ (v : Nat → Value) (lo up : Nat → Nat) (w' : World), X w w' → factsOk v lo up w w' 0 S → (∀ i j, i < S.length → j < S.length → i ≠ j → up i ≤ lo j ∨ up j ≤ lo i) →
      wpList P l.toArray Q (l.drop S.length) (A v) w') :
    (Code.region id l.toArray true).wp P Q a w :=
  wp_region_rel S.length (fun i => (S.getD i (isv undef)).deps) (fun i => (S.getD i (isv undef)).rel) hm hB hX
    (fun i _ vs u lo hi w w' h1 h2 h3 h4 h5 => (S.getD i (isv undef)).stab vs u lo hi w w' h1 h2 h3 h4 h5)
    (fun i hi o ho v lo up w' hx hf => by
      have hs : S[i]? = some (S.getD i (isv undef)) := by simp [hi]
      have h1 := zipOkS_get l S (step v lo up w' hx) i o _ ho hs (depsOk_of _ fun e he => hf e (by
        rcases List.mem_append.1 he with he | he
        · exact .inl he
        · exact .inr (waitsFor_mem (by simpa using ho) he)))
      have hmem : o ∈ l.take S.length := List.mem_of_getElem? (i := i) (by rw [List.getElem?_take, if_pos hi]; exact ho)
      have h2 := List.all_eq_true.1 (hsl v) o hmem
      rw [hA v]
      exact relOp_of_wpListS (fun t hdt => by rw [hdt] at h2; simpa using h2) h1)
    (fun v lo up w' hx hf ha => by
      rw [hA v]
      exact fin v lo up w' hx (factsOk_of S 0 fun i s hs => by
        have hi : i < S.length := (List.getElem?_eq_some_iff.1 hs).1
        have := hf i hi
        have e : S.getD i (isv undef) = s := by simp [hs]
        rw [e] at this
        simpa using this) ha)

/-- A relation in which a new block of zero cells cs0 may be filled with cs1; else nothing turns. -/
structure Fill (n0 : Nat) (T : TypeId) (cs0 cs1 : Array Value) (w w' : World) : Prop where
  os : w'.os = w.os
  tape : w'.tape = w.tape
  output : w'.output = w.output
  size : w.heap.size ≤ w'.heap.size
  block : ∀ k, k < w.heap.size → w'.heap[k]? = w.heap[k]? ∨ (n0 ≤ k ∧ w.heap[k]? = some (.cells cs0 T (0, 0)) ∧ w'.heap[k]? = some (.cells cs1 T (0, 0)))
variable {n0 : Nat} {T : TypeId} {cs0 cs1 : Array Value}
theorem Fill.of_ext {w w' : World} (h : Ext w w') : Fill n0 T cs0 cs1 w w' := ⟨h.os, h.tape, h.output, Ext.size h, fun k hk => .inl (Below.block h k hk)⟩
theorem Fill.refl (w : World) : Fill n0 T cs0 cs1 w w := Fill.of_ext (Ext.refl w)
theorem Fill.trans {a b c : World} (h : Fill n0 T cs0 cs1 a b) (k : Fill n0 T cs0 cs1 b c) : Fill n0 T cs0 cs1 a c := by
  refine ⟨k.os.trans h.os, k.tape.trans h.tape, k.output.trans h.output, Nat.le_trans h.size k.size, fun i hi => ?_⟩
  rcases h.block i hi with h1 | ⟨h1, h2, h3⟩ <;> rcases k.block i (Nat.lt_of_lt_of_le hi h.size) with k1 | ⟨k1, k2, k3⟩
  · exact .inl (k1.trans h1)
  · exact .inr ⟨k1, by rw [← h1]; exact k2, k3⟩
  · exact .inr ⟨h1, h2, by rw [k1]; exact h3⟩
  · exact .inr ⟨h1, h2, k3⟩
theorem Fill.rel (n0 : Nat) (T : TypeId) (cs0 cs1 : Array Value) : WRel (Fill n0 T cs0 cs1) where
  refl := Fill.refl
  trans := Fill.trans
  size := Fill.size
  draw := fun w => Fill.of_ext ⟨rfl, rfl, rfl, Nat.le_refl _, fun _ _ => rfl⟩
theorem Fill.ext {w w' : World} (h : Fill w.heap.size T cs0 cs1 w w') : Ext w w' :=
  ⟨h.os, h.tape, h.output, h.size, fun k hk => by rcases h.block k hk with h1 | ⟨h1, _⟩; exact h1; omega⟩
theorem Own.fill {w w' : World} {B : Nat} {v : Value} {xs : List Int} (h : Own B w v xs) (f : Fill n0 T cs0 cs1 w w') (hT : T ≠ 3) : Own B w' v xs := by
  obtain ⟨h1, h2⟩ := h
  refine ⟨h1, h2.imp id ?_⟩
  rintro ⟨g, cap, cur, hv, hg, hh, r⟩
  refine ⟨g, cap, cur, hv, hg, ?_, r⟩
  rcases f.block g (lt_of_block hh) with e | ⟨_, e, _⟩
  · rw [e]; exact hh
  · rw [hh] at e; simp at e; exact absurd e.2.symm hT
theorem Blk.fill {w w' : World} {b : Nat} (h : Blk w b cs1 T) (f : Fill n0 T cs0 cs1 w w') : Blk w' b cs1 T := by
  rcases f.block b h.lt with e | ⟨_, _, e⟩
  · unfold Blk; rw [e]; exact h
  · exact e
theorem Blk.fill' {w w' : World} {b : Nat} (h : Blk w b cs0 T ∨ Blk w b cs1 T) (f : Fill n0 T cs0 cs1 w w') : Blk w' b cs0 T ∨ Blk w' b cs1 T := by
  rcases h with h | h
  · rcases f.block b h.lt with e | ⟨_, _, e⟩
    · exact .inl (by unfold Blk; rw [e]; exact h)
    · exact .inr e
  · exact .inr (h.fill f)
/-- The new block that is to be filled. -/
def newF {m : Nat} (n0 : Nat) (cs0 cs1 : Array Value) (T : TypeId) : OpSpec (Fill n0 T cs0 cs1) m :=
  ⟨[], fun _ u lo up w => u = .pointer (some ⟨lo, 0, none⟩) ∧ up = lo + 1 ∧ (Blk w lo cs0 T ∨ Blk w lo cs1 T), fun _ _ _ _ _ _ _ _ _ hx ⟨h1, h2, h3⟩ => ⟨h1, h2, Blk.fill' h3 hx⟩⟩
/-- It is filled: the block of operation i. -/
def putF {m : Nat} (i : Nat) (n0 : Nat) (cs0 cs1 : Array Value) (T : TypeId) : OpSpec (Fill n0 T cs0 cs1) m :=
  ⟨[i], fun vs _ _ _ w => ∃ b, vs.headD undef = .pointer (some ⟨b, 0, none⟩) ∧ Blk w b cs1 T, fun _ _ _ _ _ _ _ _ _ hx ⟨b, h1, h2⟩ => ⟨b, h1, h2.fill hx⟩⟩
/-- The store that fills it. -/
theorem wpList_fill {P : Program} {ops : Array Oper} {o : Oper} {a : Act} {w B : World} {G : Value → World → Prop} (hgd : o.guard = none) (hno : o.dst = none) (x y : Operand) (ho : o.op = .store T x y)
    (g : Nat) (hx : a.eval x = .pointer (some ⟨g, 0, none⟩)) (hy : a.eval y = .agg cs1) (hg : Blk w g cs0 T ∨ Blk w g cs1 T) (hi : (P.info? T).map (·.size) = some cs1.size)
    (hold : cs0.size = cs1.size) (h1 : cs1.all (·.oneCell') = true) (hB : Ext B w) (hBg : B.heap.size ≤ g) (hn : n0 ≤ g)
    (h : ∀ w', Fill n0 T cs0 cs1 w w' → Blk w' g cs1 T → ∀ u, G u w') : wpList P ops (StepS a o.dst G) [o] a w := by
  have hend : ∀ w', Fill n0 T cs0 cs1 w w' → Blk w' g cs1 T → wpList P ops (StepS a o.dst G) [] a w' := fun w' f k => by
    unfold wpList
    rw [hno]
    exact stepS_none rfl (h w' f k)
  rcases hg with hg | hg
  · refine wpList_store_blk hgd hno T x y ho g cs1 hx hy T cs0 hg hi hold h1 hB hBg fun w' e1 k1 hoth hsz => hend w' ⟨?_, ?_, ?_, hsz, fun k hk => ?_⟩ k1
    · rw [e1.os, hB.os]
    · rw [e1.tape, hB.tape]
    · rw [e1.output, hB.output]
    · by_cases e : k = g
      · subst e; exact .inr ⟨hn, hg, k1⟩
      · exact .inl (hoth k e)
  · refine wpList_store_blk hgd hno T x y ho g cs1 hx hy T cs1 hg hi rfl h1 hB hBg fun w' e1 k1 hoth hsz => hend w' ⟨?_, ?_, ?_, hsz, fun k hk => ?_⟩ k1
    · rw [e1.os, hB.os]
    · rw [e1.tape, hB.tape]
    · rw [e1.output, hB.output]
    · by_cases e : k = g
      · subst e; exact .inl (by rw [k1, hg])
      · exact .inl (hoth k e)
/-- The rule with 'Fill' from the region's start. -/
theorem wp_region_zipF (T : TypeId) (cs0 cs1 : Array Value) {P : Program} {id : Nat} {Q : Exit → Act → World → Prop} {a : Act} {w : World} {l : List Oper} (S : List (OpSpec (Fill w.heap.size T cs0 cs1) w.heap.size)) (A : (Nat → Value) → Act)
    (hm : P.follows .mixedOrders = true) (hB : relB l.toArray S.length (fun i => (S.getD i (isv undef)).deps) = true)
    (hA : ∀ v, putAll l.toArray v S.length a = A v) (hsl : ∀ v, slotsS (A v).tmps.size (l.take S.length) = true)
    (step : ∀ (v : Nat → Value) (lo up : Nat → Nat) (w' : World), Fill w.heap.size T cs0 cs1 w w' → zipOkS P l.toArray S (A v) v lo up w w' l S)
    (fin : ∀ (v : Nat → Value) (lo up : Nat → Nat) (w' : World), Ext w w' → factsOk v lo up w w' 0 S → (∀ i j, i < S.length → j < S.length → i ≠ j → up i ≤ lo j ∨ up j ≤ lo i) →
      wpList P l.toArray Q (l.drop S.length) (A v) w') :
    (Code.region id l.toArray true).wp P Q a w := wp_region_zipS (Fill.rel _ _ _ _) S A hm hB hA hsl step fun v lo up w' hx hf ha => fin v lo up w' hx.ext hf ha
/-- A value of three parts, the second a new list. -/
def tupF {n0 m : Nat} {T : TypeId} {cs0 cs1 : Array Value} (hT : T ≠ 3) (a b : Value) (xs : List Int) : OpSpec (Fill n0 T cs0 cs1) m :=
  ⟨[], fun _ u _ _ w => ∃ s, u = .tuple #[a, s, b] ∧ Own n0 w s xs, fun _ _ _ _ _ _ _ _ _ hx ⟨s, h1, h2⟩ => ⟨s, h1, h2.fill hx hT⟩⟩
/-- A new list. -/
def ownF {n0 m : Nat} {T : TypeId} {cs0 cs1 : Array Value} (hT : T ≠ 3) (xs : List Int) : OpSpec (Fill n0 T cs0 cs1) m := ⟨[], fun _ u _ _ w => Own n0 w u xs, fun _ _ _ _ _ _ _ _ _ hx h => h.fill hx hT⟩
theorem modeNe' : (Region.Mode.any == Region.Mode.text) = false := rfl
theorem modeNg : (Region.Mode.any == Region.Mode.gc) = false := rfl
end Go.Proofs.Ytjoomdihjffmlaa
