/- Regions that draw their order and store into a block that they make: the rule for a head with operations without a slot; the relation 'Fill'. -/
import Derived.Test.YtpbnbhiffnnliaaKI
import Derived.Test.YtpbnbhiffnnliaaKA
namespace Go.Proofs.Ytpbnbhiffnnliaa
set_option linter.unusedSimpArgs false
set_option linter.unusedVariables false
open Go.RowKit

/-- One operation: what is asked of the value in its slot (of any, where it has none), and of the world. -/
def StepS (a : Act) (d : Option Tmp) (G : Value → World → Prop) : Exit → Act → World → Prop :=
  fun e a' w => e = .normal ∧ a'.defers = a.defers ∧ (∀ t, d = some t → G (a'.tmps.getD t undef) w) ∧ (d = none → ∀ u, G u w)
theorem stepS_mk {a a' : Act} {t : Tmp} {G : Value → World → Prop} {w : World} {u : Value} (hd : a'.defers = a.defers) (hu : a'.tmps[t]? = some u) (hg : G u w) : StepS a (some t) G .normal a' w :=
  ⟨rfl, hd, fun t' ht => by cases ht; rw [Array.getD_eq_getD_getElem?, hu]; exact hg, fun h => by cases h⟩
theorem stepS_none {a a' : Act} {G : Value → World → Prop} {w : World} (hd : a'.defers = a.defers) (hg : ∀ u, G u w) : StepS a none G .normal a' w :=
  ⟨rfl, hd, fun t' ht => by (cases ht), fun _ => hg⟩
theorem relOp_of_wpListS {P : Program} {ops : Array Oper} {o : Oper} {a : Act} {w : World} {G : Value → World → Prop} (hd : ∀ t, o.dst = some t → t < a.tmps.size)
    (h : wpList P ops (StepS a o.dst G) [o] a w) : relOp P ops o a w G := by
  have fit : ∀ u w', StepS a o.dst G .normal (a.put o.dst u) w' → G u w' := by
    rintro u w' ⟨_, _, h1, h2⟩
    cases hdt : o.dst with
    | none => exact h2 hdt u
    | some t =>
      have := h1 t hdt
      rw [hdt] at this
      simpa [Act.put, hd t hdt] using this
  have nout : ¬ LetsOut (StepS a o.dst G) := fun ⟨_, _, h, _⟩ => by cases h
  unfold wpList at h
  unfold relOp
  split
  · rename_i hw
    rw [if_pos hw] at h
    rcases h with h | ⟨_, h⟩
    case inr => exact absurd h nout
    unfold Oper.wp at h
    generalize (execOp a.eval o).run P w = r at *
    cases r with
    | ok n w' =>
      cases n <;> simp only [Oper.upon] at h <;> simp only [relUpon]
      case value u => exact fit _ _ h
      case skip => exact fit _ _ h
      case defer d =>
        obtain ⟨_, h1, _⟩ := h
        rw [put_defers'] at h1
        exact absurd h1 (List.cons_ne_self _ _)
      case enter f args =>
        refine h.mono fun e w'' he => ?_
        cases e with
        | returned u => exact ⟨u, rfl, fit _ _ he⟩
        | panicked c => obtain ⟨h1, _⟩ := he; cases h1
        | outgrown => exact absurd he nout
      case row row args => exact h.mono fun u w'' he => fit _ _ he
    | halt x w' =>
      cases x <;> simp only [Oper.upon] at h
      case panic u => obtain ⟨h1, _⟩ := h; cases h1
  · rename_i hw
    rw [if_neg hw] at h
    exact fit _ _ h
def zipOkS {X : World → World → Prop} {n0 : Nat} (P : Program) (ops : Array Oper) (S : List (OpSpec X n0)) (a : Act) (v : Nat → Value) (lo up : Nat → Nat) (w w' : World) : List Oper → List (OpSpec X n0) → Prop
  | o :: l, s :: r => depsImp S v lo up w w' (wpList P ops (StepS a o.dst fun u w'' => X w' w'' ∧ s.rel (s.deps.map v) u w'.heap.size w''.heap.size w'') [o] a w') (s.deps ++ waits o) ∧ zipOkS P ops S a v lo up w w' l r
  | _, _ => True
theorem zipOkS_get {X : World → World → Prop} {n0 : Nat} {P : Program} {ops : Array Oper} {S : List (OpSpec X n0)} {a : Act} {v : Nat → Value} {lo up : Nat → Nat} {w w' : World} (l : List Oper) : ∀ (r : List (OpSpec X n0)), zipOkS P ops S a v lo up w w' l r → ∀ (i : Nat) (o : Oper) (s : OpSpec X n0), l[i]? = some o → r[i]? = some s →
    depsOk S v lo up w w' (s.deps ++ waits o) → wpList P ops (StepS a o.dst fun u w'' => X w' w'' ∧ s.rel (s.deps.map v) u w'.heap.size w''.heap.size w'') [o] a w' := by
  induction l with
  | nil => intro r _ i o s ho; simp at ho
  | cons o l ih =>
    intro r h i o' s' ho hs
    cases r with
    | nil => simp at hs
    | cons s r =>
      cases i with
      | zero =>
        obtain rfl : o = o' := Option.some.inj ho
        obtain rfl : s = s' := Option.some.inj hs
        exact depsImp_get _ h.1
      | succ i => exact ih r h.2 i o' s' ho hs
def slotsS (m : Nat) (l : List Oper) : Bool := l.all fun o => match o.dst with | some t => decide (t < m) | none => true
/-- **The rule**, where some operations have no slot. -/
theorem wp_region_zipS {X : World → World → Prop} (hX : WRel X) {P : Program} {id : Nat} {Q : Exit → Act → World → Prop} {a : Act} {w : World} {l : List Oper} (S : List (OpSpec X w.heap.size)) (A : (Nat → Value) → Act)
    (hm : P.follows .mixedOrders = true) (hB : relB l.toArray S.length (fun i => (S.getD i (isv undef)).deps) = true)
    (hA : ∀ v, putAll l.toArray v S.length a = A v) (hsl : ∀ v, slotsS (A v).tmps.size (l.take S.length) = true)
    (step : ∀ (v : Nat → Value) (lo up : Nat → Nat) (w' : World), X w w' → zipOkS P l.toArray S (A v) v lo up w w' l S)
    (fin : ∀ (v : Nat → Value) (lo up : Nat → Nat) (w' : World), X w w' → factsOk v lo up w w' 0 S → (∀ i j, i < S.length → j < S.length → i ≠ j → up i ≤ lo j ∨ up j ≤ lo i) →
      wpList P l.toArray Q (l.drop S.length) (A v) w') :
    (Code.region id l.toArray true).wp P Q a w :=
  wp_region_rel S.length (fun i => (S.getD i (isv undef)).deps) (fun i => (S.getD i (isv undef)).rel) hm hB hX
    (fun i _ vs u lo hi w w' h1 h2 h3 h4 h5 => (S.getD i (isv undef)).stab vs u lo hi w w' h1 h2 h3 h4 h5)
    (fun i hi o ho v lo up w' hx hf => by
      have hs : S[i]? = some (S.getD i (isv undef)) := by simp [hi]
      have h1 := zipOkS_get l S (step v lo up w' hx) i o _ ho hs (depsOk_of _ fun e he => hf e (by
        rcases List.mem_append.1 he with he | he
        · exact .inl he
        · exact .inr (waitsFor_mem (by simpa using ho) he)))
      have hmem : o ∈ l.take S.length := List.mem_of_getElem? (i := i) (by rw [List.getElem?_take, if_pos hi]; exact ho)
      have h2 := List.all_eq_true.1 (hsl v) o hmem
      rw [hA v]
      exact relOp_of_wpListS (fun t hdt => by rw [hdt] at h2; simpa using h2) h1)
    (fun v lo up w' hx hf ha => by
      rw [hA v]
      exact fin v lo up w' hx (factsOk_of S 0 fun i s hs => by
        have hi : i < S.length := (List.getElem?_eq_some_iff.1 hs).1
        have := hf i hi
        have e : S.getD i (isv undef) = s := by simp [hs]
        rw [e] at this
        simpa using this) ha)

/-- A relation in which a new block of zero cells cs0 may be filled with cs1; else nothing turns. -/
structure Fill (n0 : Nat) (T : TypeId) (cs0 cs1 : Array Value) (w w' : World) : Prop where
  os : w'.os = w.os
  tape : w'.tape = w.tape
  output : w'.output = w.output
  size : w.heap.size ≤ w'.heap.size
  block : ∀ k, k < w.heap.size → w'.heap[k]? = w.heap[k]? ∨ (n0 ≤ k ∧ w.heap[k]? = some (.cells cs0 T (0, 0)) ∧ w'.heap[k]? = some (.cells cs1 T (0, 0)))
variable {n0 : Nat} {T : TypeId} {cs0 cs1 : Array Value}
theorem Fill.of_ext {w w' : World} (h : Ext w w') : Fill n0 T cs0 cs1 w w' := ⟨h.os, h.tape, h.output, Ext.size h, fun k hk => .inl (Below.block h k hk)⟩
theorem Fill.refl (w : World) : Fill n0 T cs0 cs1 w w := Fill.of_ext (Ext.refl w)
theorem Fill.trans {a b c : World} (h : Fill n0 T cs0 cs1 a b) (k : Fill n0 T cs0 cs1 b c) : Fill n0 T cs0 cs1 a c := by
  refine ⟨k.os.trans h.os, k.tape.trans h.tape, k.output.trans h.output, Nat.le_trans h.size k.size, fun i hi => ?_⟩
  rcases h.block i hi with h1 | ⟨h1, h2, h3⟩ <;> rcases k.block i (Nat.lt_of_lt_of_le hi h.size) with k1 | ⟨k1, k2, k3⟩
  · exact .inl (k1.trans h1)
  · exact .inr ⟨k1, by rw [← h1]; exact k2, k3⟩
  · exact .inr ⟨h1, h2, by rw [k1]; exact h3⟩
  · exact .inr ⟨h1, h2, k3⟩
theorem Fill.rel (n0 : Nat) (T : TypeId) (cs0 cs1 : Array Value) : WRel (Fill n0 T cs0 cs1) where
  refl := Fill.refl
  trans := Fill.trans
  size := Fill.size
  draw := fun w => Fill.of_ext ⟨rfl, rfl, rfl, Nat.le_refl _, fun _ _ => rfl⟩
theorem Fill.ext {w w' : World} (h : Fill w.heap.size T cs0 cs1 w w') : Ext w w' :=
  ⟨h.os, h.tape, h.output, h.size, fun k hk => by rcases h.block k hk with h1 | ⟨h1, _⟩; exact h1; omega⟩
theorem Own.fill {w w' : World} {B : Nat} {v : Value} {xs : List Int} (h : Own B w v xs) (f : Fill n0 T cs0 cs1 w w') (hT : T ≠ 3) : Own B w' v xs := by
  obtain ⟨h1, h2⟩ := h
  refine ⟨h1, h2.imp id ?_⟩
  rintro ⟨g, cap, cur, hv, hg, hh, r⟩
  refine ⟨g, cap, cur, hv, hg, ?_, r⟩
  rcases f.block g (lt_of_block hh) with e | ⟨_, e, _⟩
  · rw [e]; exact hh
  · rw [hh] at e; simp at e; exact absurd e.2.symm hT
theorem Blk.fill {w w' : World} {b : Nat} (h : Blk w b cs1 T) (f : Fill n0 T cs0 cs1 w w') : Blk w' b cs1 T := by
  rcases f.block b h.lt with e | ⟨_, _, e⟩
  · unfold Blk; rw [e]; exact h
  · exact e
theorem Blk.fill' {w w' : World} {b : Nat} (h : Blk w b cs0 T ∨ Blk w b cs1 T) (f : Fill n0 T cs0 cs1 w w') : Blk w' b cs0 T ∨ Blk w' b cs1 T := by
  rcases h with h | h
  · rcases f.block b h.lt with e | ⟨_, _, e⟩
    · exact .inl (by unfold Blk; rw [e]; exact h)
    · exact .inr e
  · exact .inr (h.fill f)
/-- The new block that is to be filled. -/
def newF {m : Nat} (n0 : Nat) (cs0 cs1 : Array Value) (T : TypeId) : OpSpec (Fill n0 T cs0 cs1) m :=
  ⟨[], fun _ u lo up w => u = .pointer (some ⟨lo, 0, none⟩) ∧ up = lo + 1 ∧ (Blk w lo cs0 T ∨ Blk w lo cs1 T), fun _ _ _ _ _ _ _ _ _ hx ⟨h1, h2, h3⟩ => ⟨h1, h2, Blk.fill' h3 hx⟩⟩
/-- It is filled: the block of operation i. -/
def putF {m : Nat} (i : Nat) (n0 : Nat) (cs0 cs1 : Array Value) (T : TypeId) : OpSpec (Fill n0 T cs0 cs1) m :=
  ⟨[i], fun vs _ _ _ w => ∃ b, vs.headD undef = .pointer (some ⟨b, 0, none⟩) ∧ Blk w b cs1 T, fun _ _ _ _ _ _ _ _ _ hx ⟨b, h1, h2⟩ => ⟨b, h1, h2.fill hx⟩⟩
/-- The store that fills it. -/
theorem wpList_fill {P : Program} {ops : Array Oper} {o : Oper} {a : Act} {w B : World} {G : Value → World → Prop} (hgd : o.guard = none) (hno : o.dst = none) (x y : Operand) (ho : o.op = .store T x y)
    (g : Nat) (hx : a.eval x = .pointer (some ⟨g, 0, none⟩)) (hy : a.eval y = .agg cs1) (hg : Blk w g cs0 T ∨ Blk w g cs1 T) (hi : (P.info? T).map (·.size) = some cs1.size)
    (hold : cs0.size = cs1.size) (h1 : cs1.all (·.oneCell') = true) (hB : Ext B w) (hBg : B.heap.size ≤ g) (hn : n0 ≤ g)
    (h : ∀ w', Fill n0 T cs0 cs1 w w' → Blk w' g cs1 T → ∀ u, G u w') : wpList P ops (StepS a o.dst G) [o] a w := by
  have hend : ∀ w', Fill n0 T cs0 cs1 w w' → Blk w' g cs1 T → wpList P ops (StepS a o.dst G) [] a w' := fun w' f k => by
    unfold wpList
    rw [hno]
    exact stepS_none rfl (h w' f k)
  rcases hg with hg | hg
  · refine wpList_store_blk hgd hno T x y ho g cs1 hx hy T cs0 hg hi hold h1 hB hBg fun w' e1 k1 hoth hsz => hend w' ⟨?_, ?_, ?_, hsz, fun k hk => ?_⟩ k1
    · rw [e1.os, hB.os]
    · rw [e1.tape, hB.tape]
    · rw [e1.output, hB.output]
    · by_cases e : k = g
      · subst e; exact .inr ⟨hn, hg, k1⟩
      · exact .inl (hoth k e)
  · refine wpList_store_blk hgd hno T x y ho g cs1 hx hy T cs1 hg hi rfl h1 hB hBg fun w' e1 k1 hoth hsz => hend w' ⟨?_, ?_, ?_, hsz, fun k hk => ?_⟩ k1
    · rw [e1.os, hB.os]
    · rw [e1.tape, hB.tape]
    · rw [e1.output, hB.output]
    · by_cases e : k = g
      · subst e; exact .inl (by rw [k1, hg])
      · exact .inl (hoth k e)
/-- The rule with 'Fill' from the region's start. -/
theorem wp_region_zipF (T : TypeId) (cs0 cs1 : Array Value) {P : Program} {id : Nat} {Q : Exit → Act → World → Prop} {a : Act} {w : World} {l : List Oper} (S : List (OpSpec (Fill w.heap.size T cs0 cs1) w.heap.size)) (A : (Nat → Value) → Act)
    (hm : P.follows .mixedOrders = true) (hB : relB l.toArray S.length (fun i => (S.getD i (isv undef)).deps) = true)
    (hA : ∀ v, putAll l.toArray v S.length a = A v) (hsl : ∀ v, slotsS (A v).tmps.size (l.take S.length) = true)
    (step : ∀ (v : Nat → Value) (lo up : Nat → Nat) (w' : World), Fill w.heap.size T cs0 cs1 w w' → zipOkS P l.toArray S (A v) v lo up w w' l S)
    (fin : ∀ (v : Nat → Value) (lo up : Nat → Nat) (w' : World), Ext w w' → factsOk v lo up w w' 0 S → (∀ i j, i < S.length → j < S.length → i ≠ j → up i ≤ lo j ∨ up j ≤ lo i) →
      wpList P l.toArray Q (l.drop S.length) (A v) w') :
    (Code.region id l.toArray true).wp P Q a w := wp_region_zipS (Fill.rel _ _ _ _) S A hm hB hA hsl step fun v lo up w' hx hf ha => fin v lo up w' hx.ext hf ha
/-- A value of three parts, the second a new list. -/
def tupF {n0 m : Nat} {T : TypeId} {cs0 cs1 : Array Value} (hT : T ≠ 3) (a b : Value) (xs : List Int) : OpSpec (Fill n0 T cs0 cs1) m :=
  ⟨[], fun _ u _ _ w => ∃ s, u = .tuple #[a, s, b] ∧ Own n0 w s xs, fun _ _ _ _ _ _ _ _ _ hx ⟨s, h1, h2⟩ => ⟨s, h1, h2.fill hx hT⟩⟩
/-- A new list. -/
def ownF {n0 m : Nat} {T : TypeId} {cs0 cs1 : Array Value} (hT : T ≠ 3) (xs : List Int) : OpSpec (Fill n0 T cs0 cs1) m := ⟨[], fun _ u _ _ w => Own n0 w u xs, fun _ _ _ _ _ _ _ _ _ hx h => h.fill hx hT⟩
theorem modeNe' : (Region.Mode.any == Region.Mode.text) = false := rfl
theorem modeNg : (Region.Mode.any == Region.Mode.gc) = false := rfl
end Go.Proofs.Ytpbnbhiffnnliaa
namespace Go.Proofs.Ytpbnbhiffnnliaa
set_option linter.unusedSimpArgs false
set_option linter.unusedVariables false
open Go.RowKit
section
variable {P : Program} {X : World → World → Prop}
theorem head_anyL (J : (Nat → Bool) → World → Prop) {l : List Oper} {n : Nat} {D : Nat → List Nat} {R : Nat → List Value → Value → Nat → Nat → World → Prop} {Q : Exit → Act → World → Prop} {a0 : Act} {w0 : World}
    (hs : Region.noSelect l.toArray = true) (hn : n ≤ l.toArray.size) (hh : headB l.toArray n = true) (hd : depsB l.toArray n D = true)
    (ht : n = l.toArray.size ∨ (Region.sinkB .any l.toArray n = true ∧ Region.chainB .any l.toArray n = true)) (hq : Region.seqB .any l.toArray (l.toArray.size - n) n (allTrue l.toArray.size n) = true)
    (hX : WRel X) (stab : ∀ i, i < n → ∀ vs u lo hi w w', w0.heap.size ≤ lo → lo ≤ hi → hi ≤ w.heap.size → X w w' → R i vs u lo hi w → R i vs u lo hi w')
    (step : ∀ i, i < n → ∀ o, l[i]? = some o → ∀ (v : Nat → Value) (lo up : Nat → Nat) (w' : World), X w0 w' → ∀ L : Nat → Bool, J L w' → L i = false → (∀ j, Region.waitsFor .any l.toArray j i = true → L j = false) → (∀ e, (e ∈ D i ∨ Region.waitsFor .any l.toArray i e = true) → w0.heap.size ≤ lo e ∧ lo e ≤ up e ∧ up e ≤ w'.heap.size ∧ R e ((D e).map v) (v e) (lo e) (up e) w') →
      relOp P l.toArray o (putAll l.toArray v n a0) w' fun u w'' => X w' w'' ∧ R i ((D i).map v) u w'.heap.size w''.heap.size w'' ∧ J (upd L i true) w'')
    (fin : ∀ (v : Nat → Value) (lo up : Nat → Nat) (w' : World), X w0 w' → ∀ L : Nat → Bool, J L w' → (∀ i, i < n → L i = true) → (∀ i, i < n → w0.heap.size ≤ lo i ∧ lo i ≤ up i ∧ up i ≤ w'.heap.size ∧ R i ((D i).map v) (v i) (lo i) (up i) w') → (∀ i j, i < n → j < n → i ≠ j → up i ≤ lo j ∨ up j ≤ lo i) →
      wpList P l.toArray Q (l.drop n) (putAll l.toArray v n a0) w') :
    ∀ (m : Nat) (listed : Array Bool) (v : Nat → Value) (lo hi : Nat → Nat) (a : Act) (w : World), HeadInv .any l.toArray n listed → cnt (lst listed) n = m → Mid l.toArray n a0 (lst listed) v a →
      Facts X D R n w0 (lst listed) v lo hi w → J (lst listed) w → wpAny P .any l.toArray Q (m + (l.toArray.size - n)) listed a w := by
  have hdst := headB_dst hh
  have hsel := Region.noSelect_spec hs
  intro m
  induction m with
  | zero =>
    intro listed v lo hi a w inv hc mid fa hj
    have hall := cnt_zero _ n hc
    have ha := mid.all hdst hall
    subst ha
    have hl : listed = allTrue l.toArray.size n := by
      apply Array.ext
      · rw [inv.size]; simp [allTrue]
      · intro k h1 h2
        have hk : k < l.toArray.size := by rw [← inv.size]; exact h1
        have e1 : listed[k] = listed.getD k false := by simp [h1]
        have e2 : (allTrue l.toArray.size n)[k] = (allTrue l.toArray.size n).getD k false := by rw [Array.getD_eq_getD_getElem?, Array.getElem?_eq_getElem h2]; rfl
        rw [e1, e2, allTrue_get _ _ _ hk]
        by_cases hkn : k < n
        · simp only [hkn, decide_true]; exact hall k hkn
        · simp only [hkn, decide_false]; exact getD_both (inv.tail k (by omega) hk)
    have hdl : (l.drop n).length = l.toArray.size - n := by simp
    rw [Nat.zero_add, ← hdl]
    refine wpAny_of_seq (l.drop n) n listed _ w (fun j => by simp [List.getElem?_drop]) (by rw [hdl, hl]; exact hq) ?_
    exact fin v lo hi w fa.ext (lst listed) hj hall (fun i hi => fa.fact i hi (hall i hi)) (fun i j hi hj hne => fa.apart i j hi hj (hall i hi) (hall j hj) hne)
  | succ m ih =>
    intro listed v lo up a w inv hc mid fa hj
    obtain ⟨k, hk, hlk, hbefore⟩ := cnt_pos (lst listed) n (by omega)
    have hks : k < listed.size := by rw [inv.size]; omega
    have hkun : listed.getD k true = false := getD_in hks hlk
    have hready : k ∈ Region.ready .any l.toArray listed := by
      obtain ⟨ok, hok, hon⟩ := headB_on hh hk
      exact mem_ready.2 ⟨hkun, ok, hok, fun e he hb => hbefore _ (hon e he hb)⟩
    rw [show m + 1 + (l.toArray.size - n) = (m + (l.toArray.size - n)) + 1 by omega]
    refine ⟨fun h => (by rw [h] at hready; cases hready), fun i hi => ?_⟩
    obtain ⟨hiun, o, ho, hall⟩ := mem_ready.1 hi
    have hisz : i < l.toArray.size := (Array.getElem?_eq_some_iff.1 ho).1
    have hin : i < n := by
      rcases ht with ht | ⟨hsk, hch⟩
      · omega
      · rcases Nat.lt_or_ge i n with h | h
        · exact h
        · have hnlt : n < l.toArray.size := by omega
          exact absurd hi (tail_waits hsk hch hnlt inv _ k rfl hk hkun i h)
    have hil : lst listed i = false := getD_both hiun
    have hwaits : ∀ e, Region.waitsFor .any l.toArray i e = true → lst listed e = true := fun e he => by
      obtain ⟨x, hx, hb, hon⟩ := waits_of ho he
      have := hall x hx hb
      rw [hon] at this
      exact this
    have hDi := deps_listed inv hd hin hwaits
    have hnotin : ∀ j, j < n → lst listed j = true → i ∉ D j := fun j hj hlj hmem => by
      have := deps_listed inv hd hj (fun e he => by
        obtain ⟨oj, hoj, x, hx, hb, hon⟩ := Region.waitsFor_spec he
        have := inv.closed j oj hoj hlj x hx hb
        rw [hon] at this; exact this) i hmem
      rw [hil] at this; cases this
    have hnoti : i ∉ D i := fun h => by have := (deps_lt hd hin i h).1; omega
    have pmid := Mid.putAllMid (a0 := a0) (v := v) hdst n (Nat.le_refl _)
    have hrun := same_run (ops := l.toArray) (o := o) (a := a) (b := putAll l.toArray v n a0) (fun cs b => hsel i o cs b ho) (fun t htl => by
      by_cases hts : t < a0.tmps.size
      · by_cases hex : ∃ j, j < n ∧ dstOf l.toArray j = some t
        · obtain ⟨j, hj, hjt⟩ := hex
          have hlj := hwaits j (headB_look hh hin hj ho hjt htl)
          rw [mid.new j t hj hjt hlj hts, pmid.new j t hj hjt (by simp [hj]) hts]
        · have hno : ∀ j, j < n → dstOf l.toArray j = some t → False := fun j h1 h2 => hex ⟨j, h1, h2⟩
          rw [mid.old t fun j h1 h2 => (hno j h1 h2).elim, pmid.old t fun j h1 h2 => (hno j h1 h2).elim]
      · rw [Array.getElem?_eq_none (by rw [mid.size]; exact Nat.le_of_not_lt hts), Array.getElem?_eq_none (by rw [pmid.size]; exact Nat.le_of_not_lt hts)])
    have hst := step i hin o (by simpa using ho) v lo up w fa.ext (lst listed) hj hil (fun j hw => by
      cases h : lst listed j
      · rfl
      · obtain ⟨oj, hoj, x, hx, hb, hon⟩ := Region.waitsFor_spec hw
        have := inv.closed j oj hoj h x hx hb
        rw [hon] at this
        rw [show lst listed i = true from this] at hil; cases hil) (fun e he => by
      have hei : e < i := by
        rcases he with he | he
        · exact (deps_lt hd hin e he).1
        · obtain ⟨o', ho', hon⟩ := headB_on hh hin
          obtain ⟨x, hx, hb, hxe⟩ := waits_of ho' he
          have := hon x hx hb
          omega
      exact fa.fact e (by omega) (he.elim (hDi e) (hwaits e)))
    unfold relOp at hst
    rw [← hrun.1, ← hrun.2] at hst
    refine wpOp_of_relOp ho hst fun u w' ⟨hx, hr, hjm⟩ => ?_
    have hset := lst_set listed i (by rw [inv.size]; exact hisz)
    have hdo : dstOf l.toArray i = o.dst := by simp only [dstOf, ho, Option.bind_some]
    refine ih _ (upd v i u) (upd lo i w.heap.size) (upd up i w'.heap.size) _ w' (inv.set hi hin) ?_ ?_ ?_ (by rw [hset]; exact hjm)
    · rw [hset]; have := cnt_set (lst listed) i hil n hin; omega
    · rw [hset, ← hdo]; exact mid.step hdst hin hil u
    · rw [hset]; exact fa.step hX stab hil hnotin hnoti hx hr



theorem wp_region_relL (J : (Nat → Bool) → World → Prop) {id : Nat} {Q : Exit → Act → World → Prop} {a : Act} {w : World} {l : List Oper} (n : Nat) (D : Nat → List Nat) (R : Nat → List Value → Value → Nat → Nat → World → Prop)
    (hJ : J (fun _ => false) { w with drawn := w.drawn + 1 })
    (hm : P.follows .mixedOrders = true) (hB : relB l.toArray n D = true)
    (hX : WRel X) (stab : ∀ i, i < n → ∀ vs u lo hi w1 w', w.heap.size ≤ lo → lo ≤ hi → hi ≤ w1.heap.size → X w1 w' → R i vs u lo hi w1 → R i vs u lo hi w')
    (step : ∀ i, i < n → ∀ o, l[i]? = some o → ∀ (v : Nat → Value) (lo up : Nat → Nat) (w' : World), X w w' → ∀ L : Nat → Bool, J L w' → L i = false → (∀ j, Region.waitsFor .any l.toArray j i = true → L j = false) → (∀ e, (e ∈ D i ∨ Region.waitsFor .any l.toArray i e = true) → w.heap.size ≤ lo e ∧ lo e ≤ up e ∧ up e ≤ w'.heap.size ∧ R e ((D e).map v) (v e) (lo e) (up e) w') →
      relOp P l.toArray o (putAll l.toArray v n a) w' fun u w'' => X w' w'' ∧ R i ((D i).map v) u w'.heap.size w''.heap.size w'' ∧ J (upd L i true) w'')
    (fin : ∀ (v : Nat → Value) (lo up : Nat → Nat) (w' : World), X w w' → ∀ L : Nat → Bool, J L w' → (∀ i, i < n → L i = true) → (∀ i, i < n → w.heap.size ≤ lo i ∧ lo i ≤ up i ∧ up i ≤ w'.heap.size ∧ R i ((D i).map v) (v i) (lo i) (up i) w') → (∀ i j, i < n → j < n → i ≠ j → up i ≤ lo j ∨ up j ≤ lo i) →
      wpList P l.toArray Q (l.drop n) (putAll l.toArray v n a) w') :
    (Code.region id l.toArray true).wp P Q a w := by
  simp only [relB, Bool.and_eq_true, decide_eq_true_eq, Bool.or_eq_true, beq_iff_eq] at hB
  obtain ⟨⟨⟨⟨⟨hs, hn⟩, hh⟩, hd⟩, ht⟩, hq⟩ := hB
  refine wp_region_any hm ?_
  have inv0 : HeadInv .any l.toArray n (Array.replicate l.toArray.size false) :=
    ⟨by simp, fun j oj _ hl => (by rw [getD_replicate_false] at hl; cases hl), fun t _ ht => getD_in (by simpa using ht) (getD_replicate_false _ _)⟩
  have hl0 : lst (Array.replicate l.toArray.size false) = fun _ => false := by funext k; exact getD_replicate_false _ _
  have := head_anyL (P := P) J (Q := Q) (a0 := a) (w0 := w) hs hn hh hd ht hq hX stab step fin n (Array.replicate l.toArray.size false) (fun _ => undef) (fun _ => 0) (fun _ => 0) a { w with drawn := w.drawn + 1 } inv0
    (by rw [hl0]; exact cnt_false n) (by rw [hl0]; exact Mid.start _ _ _ _)
    (by rw [hl0]; exact ⟨hX.draw _, fun _ _ h => (by cases h), fun _ _ _ _ h => (by cases h)⟩) (by rw [hl0]; exact hJ)
  rwa [show n + (l.toArray.size - n) = l.toArray.size by omega] at this
end
def zipOkL (J : (Nat → Bool) → World → Prop) (L : Nat → Bool) (l0 : List Oper) {X : World → World → Prop} {n0 : Nat} (P : Program) (ops : Array Oper) (S : List (OpSpec X n0)) (a : Act) (v : Nat → Value) (lo up : Nat → Nat) (w w' : World) : Nat → List Oper → List (OpSpec X n0) → Prop
  | i, o :: l, s :: r => (L i = false → (∀ j o', l0[j]? = some o' → i ∈ waits o' → L j = false) → depsImp S v lo up w w' (wpList P ops (StepS a o.dst fun u w'' => X w' w'' ∧ s.rel (s.deps.map v) u w'.heap.size w''.heap.size w'' ∧ J (upd L i true) w'') [o] a w') (s.deps ++ waits o)) ∧ zipOkL J L l0 P ops S a v lo up w w' (i + 1) l r
  | _, _, _ => True
theorem zipOkL_get {J : (Nat → Bool) → World → Prop} {L : Nat → Bool} {l0 : List Oper} {X : World → World → Prop} {n0 : Nat} {P : Program} {ops : Array Oper} {S : List (OpSpec X n0)} {a : Act} {v : Nat → Value} {lo up : Nat → Nat} {w w' : World} (l : List Oper) : ∀ (k : Nat) (r : List (OpSpec X n0)), zipOkL J L l0 P ops S a v lo up w w' k l r → ∀ (i : Nat) (o : Oper) (s : OpSpec X n0), l[i]? = some o → r[i]? = some s →
    L (k + i) = false → (∀ j o', l0[j]? = some o' → (k + i) ∈ waits o' → L j = false) →
    depsOk S v lo up w w' (s.deps ++ waits o) → wpList P ops (StepS a o.dst fun u w'' => X w' w'' ∧ s.rel (s.deps.map v) u w'.heap.size w''.heap.size w'' ∧ J (upd L (k + i) true) w'') [o] a w' := by
  induction l with
  | nil => intro k r _ i o s ho; simp at ho
  | cons o l ih =>
    intro k r h i o' s' ho hs h1 h2
    cases r with
    | nil => simp at hs
    | cons s r =>
      cases i with
      | zero =>
        obtain rfl : o = o' := Option.some.inj ho
        obtain rfl : s = s' := Option.some.inj hs
        exact depsImp_get _ (h.1 h1 h2)
      | succ i =>
        have := ih (k + 1) r h.2 i o' s' ho hs (by rw [show k + 1 + i = k + (i + 1) by omega]; exact h1) (by rw [show k + 1 + i = k + (i + 1) by omega]; exact h2)
        rwa [show k + 1 + i = k + (i + 1) by omega] at this

theorem wp_region_zipL {X : World → World → Prop} (hX : WRel X) (J : (Nat → Bool) → World → Prop) {P : Program} {id : Nat} {Q : Exit → Act → World → Prop} {a : Act} {w : World} {l : List Oper} (S : List (OpSpec X w.heap.size)) (A : (Nat → Value) → Act)
    (hJ : J (fun _ => false) { w with drawn := w.drawn + 1 })
    (hm : P.follows .mixedOrders = true) (hB : relB l.toArray S.length (fun i => (S.getD i (isv undef)).deps) = true)
    (hA : ∀ v, putAll l.toArray v S.length a = A v) (hsl : ∀ v, slotsS (A v).tmps.size (l.take S.length) = true)
    (step : ∀ (v : Nat → Value) (lo up : Nat → Nat) (w' : World), X w w' → ∀ L : Nat → Bool, J L w' → zipOkL J L l P l.toArray S (A v) v lo up w w' 0 l S)
    (fin : ∀ (v : Nat → Value) (lo up : Nat → Nat) (w' : World), X w w' → ∀ L : Nat → Bool, J L w' → (∀ i, i < S.length → L i = true) → factsOk v lo up w w' 0 S → (∀ i j, i < S.length → j < S.length → i ≠ j → up i ≤ lo j ∨ up j ≤ lo i) →
      wpList P l.toArray Q (l.drop S.length) (A v) w') :
    (Code.region id l.toArray true).wp P Q a w :=
  wp_region_relL J S.length (fun i => (S.getD i (isv undef)).deps) (fun i => (S.getD i (isv undef)).rel) hJ hm hB hX
    (fun i _ vs u lo hi w w' h1 h2 h3 h4 h5 => (S.getD i (isv undef)).stab vs u lo hi w w' h1 h2 h3 h4 h5)
    (fun i hi o ho v lo up w' hx L hj hLi hLw hf => by
      have hs : S[i]? = some (S.getD i (isv undef)) := by simp [hi]
      have h1 := zipOkL_get l 0 S (step v lo up w' hx L hj) i o _ ho hs (by rw [Nat.zero_add]; exact hLi) (fun j o' ho' hm => hLw j (waitsFor_mem (by simpa using ho') (by rw [Nat.zero_add] at hm; exact hm))) (depsOk_of _ fun e he => hf e (by
        rcases List.mem_append.1 he with he | he
        · exact .inl he
        · exact .inr (waitsFor_mem (by simpa using ho) he)))
      have hmem : o ∈ l.take S.length := List.mem_of_getElem? (i := i) (by rw [List.getElem?_take, if_pos hi]; exact ho)
      have h2 := List.all_eq_true.1 (hsl v) o hmem
      rw [hA v]
      rw [Nat.zero_add] at h1
      exact relOp_of_wpListS (fun t hdt => by rw [hdt] at h2; simpa using h2) h1)
    (fun v lo up w' hx L hj hL hf ha => by
      rw [hA v]
      exact fin v lo up w' hx L hj hL (factsOk_of S 0 fun i s hs => by
        have hi : i < S.length := (List.getElem?_eq_some_iff.1 hs).1
        have := hf i hi
        have e : S.getD i (isv undef) = s := by simp [hs]
        rw [e] at this
        simpa using this) ha)


end Go.Proofs.Ytpbnbhiffnnliaa
namespace Go.Proofs.Ytpbnbhiffnnliaa
set_option linter.unusedSimpArgs false
set_option linter.unusedVariables false
open Go.RowKit
/-- Block r, of zero cells cs0, may be filled with cs1; else nothing turns. -/
structure FillR (r : Nat) (T : TypeId) (cs0 cs1 : Array Value) (w w' : World) : Prop where
  os : w'.os = w.os
  tape : w'.tape = w.tape
  output : w'.output = w.output
  size : w.heap.size ≤ w'.heap.size
  block : ∀ k, k < w.heap.size → w'.heap[k]? = w.heap[k]? ∨ (k = r ∧ w.heap[k]? = some (.cells cs0 T (0, 0)) ∧ w'.heap[k]? = some (.cells cs1 T (0, 0)))
theorem FillR.of_ext {r : Nat} {T : TypeId} {cs0 cs1 : Array Value} {w w' : World} (h : Ext w w') : FillR r T cs0 cs1 w w' := ⟨h.os, h.tape, h.output, Ext.size h, fun k hk => .inl (Below.block h k hk)⟩
theorem FillR.refl {r : Nat} {T : TypeId} {cs0 cs1 : Array Value} (w : World) : FillR r T cs0 cs1 w w := FillR.of_ext (Ext.refl w)
theorem FillR.trans {r : Nat} {T : TypeId} {cs0 cs1 : Array Value} {a b c : World} (h : FillR r T cs0 cs1 a b) (k : FillR r T cs0 cs1 b c) : FillR r T cs0 cs1 a c := by
  refine ⟨k.os.trans h.os, k.tape.trans h.tape, k.output.trans h.output, Nat.le_trans h.size k.size, fun i hi => ?_⟩
  rcases h.block i hi with h1 | ⟨h1, h2, h3⟩ <;> rcases k.block i (Nat.lt_of_lt_of_le hi h.size) with k1 | ⟨k1, k2, k3⟩
  · exact .inl (k1.trans h1)
  · exact .inr ⟨k1, by rw [← h1]; exact k2, k3⟩
  · exact .inr ⟨h1, h2, by rw [k1]; exact h3⟩
  · exact .inr ⟨h1, h2, k3⟩
theorem FillR.rel (r : Nat) (T : TypeId) (cs0 cs1 : Array Value) : WRel (FillR r T cs0 cs1) where
  refl := FillR.refl
  trans := FillR.trans
  size := FillR.size
  draw := fun w => FillR.of_ext ⟨rfl, rfl, rfl, Nat.le_refl _, fun _ _ => rfl⟩
theorem FillR.blk {r : Nat} {T : TypeId} {cs0 cs1 : Array Value} {w w' : World} (h : FillR r T cs0 cs1 w w') {b : Nat} {cs : Array Value} {U : TypeId} (k : Blk w b cs U) (hr : b ≠ r) : Blk w' b cs U := by
  rcases h.block b k.lt with e | ⟨e, _⟩
  · unfold Blk; rw [e]; exact k
  · exact absurd e hr
theorem FillR.put {r : Nat} {T : TypeId} {cs0 cs1 : Array Value} {w w' : World} (h : FillR r T cs0 cs1 w w') (k : Blk w r cs1 T) : Blk w' r cs1 T := by
  rcases h.block r k.lt with e | ⟨_, _, e⟩
  · unfold Blk; rw [e]; exact k
  · exact e
theorem FillR.put' {r : Nat} {T : TypeId} {cs0 cs1 : Array Value} {w w' : World} (h : FillR r T cs0 cs1 w w') (k : Blk w r cs0 T ∨ Blk w r cs1 T) : Blk w' r cs0 T ∨ Blk w' r cs1 T := by
  rcases k with k | k
  · rcases h.block r k.lt with e | ⟨_, _, e⟩
    · exact .inl (by unfold Blk; rw [e]; exact k)
    · exact .inr e
  · exact .inr (h.put k)
/-- Before the region the filled block lay below: of the blocks ahead of both nothing has turned. -/
theorem FillR.ext {r : Nat} {T : TypeId} {cs0 cs1 : Array Value} {w0 w w' : World} (h : Ext w0 w) (m : FillR r T cs0 cs1 w w') (hr : w0.heap.size ≤ r) : Ext w0 w' :=
  Below.trans h ⟨m.os, m.tape, m.output, m.size, fun k hk => by
    rcases m.block k (Nat.lt_of_lt_of_le hk h.size) with e | ⟨e, _⟩
    · exact e
    · omega⟩
/-- Block r is filled. -/
def fillT {r m : Nat} {T : TypeId} {cs0 cs1 : Array Value} : OpSpec (FillR r T cs0 cs1) m :=
  ⟨[], fun _ _ _ _ w => Blk w r cs1 T, fun _ _ _ _ _ _ _ _ _ hx h => hx.put h⟩
/-- The store that fills block r. -/
theorem wpList_fillR {P : Program} {ops : Array Oper} {o : Oper} {a : Act} {w B : World} {G : Value → World → Prop} {T : TypeId} {cs0 cs1 : Array Value} (r : Nat) (hgd : o.guard = none) (hno : o.dst = none) (x y : Operand) (ho : o.op = .store T x y)
    (hx : a.eval x = .pointer (some ⟨r, 0, none⟩)) (hy : a.eval y = .agg cs1) (hg : Blk w r cs0 T ∨ Blk w r cs1 T) (hi : (P.info? T).map (·.size) = some cs1.size)
    (hold : cs0.size = cs1.size) (h1 : cs1.all (·.oneCell') = true) (hB : Ext B w) (hBg : B.heap.size ≤ r)
    (h : ∀ w', FillR r T cs0 cs1 w w' → Blk w' r cs1 T → (∀ b, b ≠ r → w'.heap[b]? = w.heap[b]?) → ∀ u, G u w') : wpList P ops (StepS a o.dst G) [o] a w := by
  have hend : ∀ w', FillR r T cs0 cs1 w w' → Blk w' r cs1 T → (∀ b, b ≠ r → w'.heap[b]? = w.heap[b]?) → wpList P ops (StepS a o.dst G) [] a w' := fun w' f k hoth => by
    unfold wpList
    rw [hno]
    exact stepS_none rfl (h w' f k hoth)
  rcases hg with hg | hg
  · refine wpList_store_blk hgd hno T x y ho r cs1 hx hy T cs0 hg hi hold h1 hB hBg fun w' e1 k1 hoth hsz => hend w' ⟨?_, ?_, ?_, hsz, fun k hk => ?_⟩ k1 hoth
    · rw [e1.os, hB.os]
    · rw [e1.tape, hB.tape]
    · rw [e1.output, hB.output]
    · by_cases e : k = r
      · subst e; exact .inr ⟨rfl, hg, k1⟩
      · exact .inl (hoth k e)
  · refine wpList_store_blk hgd hno T x y ho r cs1 hx hy T cs1 hg hi rfl h1 hB hBg fun w' e1 k1 hoth hsz => hend w' ⟨?_, ?_, ?_, hsz, fun k hk => ?_⟩ k1 hoth
    · rw [e1.os, hB.os]
    · rw [e1.tape, hB.tape]
    · rw [e1.output, hB.output]
    · by_cases e : k = r
      · subst e; exact .inl (by rw [k1, hg])
      · exact .inl (hoth k e)
end Go.Proofs.Ytpbnbhiffnnliaa
