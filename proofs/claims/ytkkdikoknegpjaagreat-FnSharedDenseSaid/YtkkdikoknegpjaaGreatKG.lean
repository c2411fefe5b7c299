import Derived.Test.YtkkdikoknegpjaaGreatQA
import Derived.Test.YtkkdikoknegpjaaGreatKF
namespace Go.Proofs.YtkkdikoknegpjaaGreat
set_option linter.unusedSimpArgs false
set_option linter.unusedVariables false
open Go.RowKit
section
variable {P : Program} {X : World → World → Prop}
theorem head_anyV (J : (Nat → Bool) → (Nat → Value) → World → Prop) {l : List Oper} {n : Nat} {D : Nat → List Nat} {R : Nat → List Value → Value → Nat → Nat → World → Prop} {Q : Exit → Act → World → Prop} {a0 : Act} {w0 : World}
 (hs : Region.noSelect l.toArray = true) (hn : n ≤ l.toArray.size) (hh : headB l.toArray n = true) (hd : depsB l.toArray n D = true)
 (ht : n = l.toArray.size ∨ (Region.sinkB .any l.toArray n = true ∧ Region.chainB .any l.toArray n = true)) (hq : Region.seqB .any l.toArray (l.toArray.size - n) n (allTrue l.toArray.size n) = true)
 (hX : WRel X) (stab : ∀ i, i < n → ∀ vs u lo hi w w', w0.heap.size ≤ lo → lo ≤ hi → hi ≤ w.heap.size → X w w' → R i vs u lo hi w → R i vs u lo hi w')
 (step : ∀ i, i < n → ∀ o, l[i]? = some o → ∀ (v : Nat → Value) (lo up : Nat → Nat) (w' : World), X w0 w' → ∀ L : Nat → Bool, J L v w' → L i = false → (∀ j, Region.waitsFor .any l.toArray j i = true → L j = false) → (∀ e, Region.waitsFor .any l.toArray i e = true → L e = true) → (∀ e, (e ∈ D i ∨ Region.waitsFor .any l.toArray i e = true) → w0.heap.size ≤ lo e ∧ lo e ≤ up e ∧ up e ≤ w'.heap.size ∧ R e ((D e).map v) (v e) (lo e) (up e) w') →
  relOp P l.toArray o (putAll l.toArray v n a0) w' fun u w'' => X w' w'' ∧ R i ((D i).map v) u w'.heap.size w''.heap.size w'' ∧ J (upd L i true) (upd v i u) w'')
 (fin : ∀ (v : Nat → Value) (lo up : Nat → Nat) (w' : World), X w0 w' → ∀ L : Nat → Bool, J L v w' → (∀ i, i < n → L i = true) → (∀ i, i < n → w0.heap.size ≤ lo i ∧ lo i ≤ up i ∧ up i ≤ w'.heap.size ∧ R i ((D i).map v) (v i) (lo i) (up i) w') → (∀ i j, i < n → j < n → i ≠ j → up i ≤ lo j ∨ up j ≤ lo i) →
  wpList P l.toArray Q (l.drop n) (putAll l.toArray v n a0) w') :
 ∀ (m : Nat) (listed : Array Bool) (v : Nat → Value) (lo hi : Nat → Nat) (a : Act) (w : World), HeadInv .any l.toArray n listed → cnt (lst listed) n = m → Mid l.toArray n a0 (lst listed) v a →
  Facts X D R n w0 (lst listed) v lo hi w → J (lst listed) v w → wpAny P .any l.toArray Q (m + (l.toArray.size - n)) listed a w := by
 have hdst := headB_dst hh
 have hsel := Region.noSelect_spec hs
 intro m
 induction m with
 | zero =>
  intro listed v lo hi a w inv hc mid fa hj
  have hall := cnt_zero _ n hc
  have ha := mid.all hdst hall
  subst ha
  have hl : listed = allTrue l.toArray.size n := by
   apply Array.ext
   ·rw [inv.size]; simp [allTrue]
   intro k h1 h2
   have hk : k < l.toArray.size := by rw [← inv.size]; exact h1
   have e1 : listed[k] = listed.getD k false := by simp [h1]
   have e2 : (allTrue l.toArray.size n)[k] = (allTrue l.toArray.size n).getD k false := by rw [Array.getD_eq_getD_getElem?, Array.getElem?_eq_getElem h2]; rfl
   rw [e1, e2, allTrue_get _ _ _ hk]
   by_cases hkn : k < n
   ·simp only [hkn, decide_true]; exact hall k hkn
   simp only [hkn, decide_false]; exact getD_both (inv.tail k (by omega) hk)
  have hdl : (l.drop n).length = l.toArray.size - n := by simp
  rw [Nat.zero_add, ← hdl]
  refine wpAny_of_seq (l.drop n) n listed _ w (fun j => by simp [List.getElem?_drop]) (by rw [hdl, hl]; exact hq) ?_
  exact fin v lo hi w fa.ext (lst listed) hj hall (fun i hi => fa.fact i hi (hall i hi)) (fun i j hi hj hne => fa.apart i j hi hj (hall i hi) (hall j hj) hne)
 | succ m ih =>
  intro listed v lo up a w inv hc mid fa hj
  obtain ⟨k, hk, hlk, hbefore⟩ := cnt_pos (lst listed) n (by omega)
  have hks : k < listed.size := by rw [inv.size]; omega
  have hkun : listed.getD k true = false := getD_in hks hlk
  have hready : k ∈ Region.ready .any l.toArray listed := by
   obtain ⟨ok, hok, hon⟩ := headB_on hh hk
   exact mem_ready.2 ⟨hkun, ok, hok, fun e he hb => hbefore _ (hon e he hb)⟩
  rw [show m + 1 + (l.toArray.size - n) = (m + (l.toArray.size - n)) + 1 by omega]
  refine ⟨fun h => (by rw [h] at hready; cases hready), fun i hi => ?_⟩
  obtain ⟨hiun, o, ho, hall⟩ := mem_ready.1 hi
  have hisz : i < l.toArray.size := (Array.getElem?_eq_some_iff.1 ho).1
  have hin : i < n := by
   rcases ht with ht | ⟨hsk, hch⟩
   ·omega
   rcases Nat.lt_or_ge i n with h | h
   ·exact h
   have hnlt : n < l.toArray.size := by omega
   exact absurd hi (tail_waits hsk hch hnlt inv _ k rfl hk hkun i h)
  have hil : lst listed i = false := getD_both hiun
  have hwaits : ∀ e, Region.waitsFor .any l.toArray i e = true → lst listed e = true := fun e he => by
   obtain ⟨x, hx, hb, hon⟩ := waits_of ho he
   have := hall x hx hb
   rw [hon] at this
   exact this
  have hDi := deps_listed inv hd hin hwaits
  have hnotin : ∀ j, j < n → lst listed j = true → i ∉ D j := fun j hj hlj hmem => by
   have := deps_listed inv hd hj (fun e he => by
    obtain ⟨oj, hoj, x, hx, hb, hon⟩ := Region.waitsFor_spec he
    have := inv.closed j oj hoj hlj x hx hb
    rw [hon] at this; exact this) i hmem
   rw [hil] at this; cases this
  have hnoti : i ∉ D i := fun h => by have := (deps_lt hd hin i h).1; omega
  have pmid := Mid.putAllMid (a0 := a0) (v := v) hdst n (Nat.le_refl _)
  have hrun := same_run (ops := l.toArray) (o := o) (a := a) (b := putAll l.toArray v n a0) (fun cs b => hsel i o cs b ho) (fun t htl => by
   by_cases hts : t < a0.tmps.size
   ·by_cases hex : ∃ j, j < n ∧ dstOf l.toArray j = some t
    ·obtain ⟨j, hj, hjt⟩ := hex
     have hlj := hwaits j (headB_look hh hin hj ho hjt htl)
     rw [mid.new j t hj hjt hlj hts, pmid.new j t hj hjt (by simp [hj]) hts]
    have hno : ∀ j, j < n → dstOf l.toArray j = some t → False := fun j h1 h2 => hex ⟨j, h1, h2⟩
    rw [mid.old t fun j h1 h2 => (hno j h1 h2).elim, pmid.old t fun j h1 h2 => (hno j h1 h2).elim]
   rw [Array.getElem?_eq_none (by rw [mid.size]; exact Nat.le_of_not_lt hts), Array.getElem?_eq_none (by rw [pmid.size]; exact Nat.le_of_not_lt hts)])
  have hst := step i hin o (by simpa using ho) v lo up w fa.ext (lst listed) hj hil (fun j hw => by
   cases h : lst listed j
   ·rfl
   ·obtain ⟨oj, hoj, x, hx, hb, hon⟩ := Region.waitsFor_spec hw
    have := inv.closed j oj hoj h x hx hb
    rw [hon] at this
    rw [show lst listed i = true from this] at hil; cases hil) hwaits (fun e he => by
   have hei : e < i := by
    rcases he with he | he
    ·exact (deps_lt hd hin e he).1
    obtain ⟨o', ho', hon⟩ := headB_on hh hin
    obtain ⟨x, hx, hb, hxe⟩ := waits_of ho' he
    have := hon x hx hb
    omega
   exact fa.fact e (by omega) (he.elim (hDi e) (hwaits e)))
  unfold relOp at hst
  rw [← hrun.1, ← hrun.2] at hst
  refine wpOp_of_relOp ho hst fun u w' ⟨hx, hr, hjm⟩ => ?_
  have hset := lst_set listed i (by rw [inv.size]; exact hisz)
  have hdo : dstOf l.toArray i = o.dst := by simp only [dstOf, ho, Option.bind_some]
  refine ih _ (upd v i u) (upd lo i w.heap.size) (upd up i w'.heap.size) _ w' (inv.set hi hin) ?_ ?_ ?_ (by rw [hset]; exact hjm)
  ·rw [hset]; have := cnt_set (lst listed) i hil n hin; omega
  ·rw [hset, ← hdo]; exact mid.step hdst hin hil u
  rw [hset]; exact fa.step hX stab hil hnotin hnoti hx hr
theorem wp_region_relV (J : (Nat → Bool) → (Nat → Value) → World → Prop) {id : Nat} {Q : Exit → Act → World → Prop} {a : Act} {w : World} {l : List Oper} (n : Nat) (D : Nat → List Nat) (R : Nat → List Value → Value → Nat → Nat → World → Prop)
 (hJ : J (fun _ => false) (fun _ => undef) { w with drawn := w.drawn + 1 })
 (hm : P.follows .mixedOrders = true) (hB : relB l.toArray n D = true)
 (hX : WRel X) (stab : ∀ i, i < n → ∀ vs u lo hi w1 w', w.heap.size ≤ lo → lo ≤ hi → hi ≤ w1.heap.size → X w1 w' → R i vs u lo hi w1 → R i vs u lo hi w')
 (step : ∀ i, i < n → ∀ o, l[i]? = some o → ∀ (v : Nat → Value) (lo up : Nat → Nat) (w' : World), X w w' → ∀ L : Nat → Bool, J L v w' → L i = false → (∀ j, Region.waitsFor .any l.toArray j i = true → L j = false) → (∀ e, Region.waitsFor .any l.toArray i e = true → L e = true) → (∀ e, (e ∈ D i ∨ Region.waitsFor .any l.toArray i e = true) → w.heap.size ≤ lo e ∧ lo e ≤ up e ∧ up e ≤ w'.heap.size ∧ R e ((D e).map v) (v e) (lo e) (up e) w') →
  relOp P l.toArray o (putAll l.toArray v n a) w' fun u w'' => X w' w'' ∧ R i ((D i).map v) u w'.heap.size w''.heap.size w'' ∧ J (upd L i true) (upd v i u) w'')
 (fin : ∀ (v : Nat → Value) (lo up : Nat → Nat) (w' : World), X w w' → ∀ L : Nat → Bool, J L v w' → (∀ i, i < n → L i = true) → (∀ i, i < n → w.heap.size ≤ lo i ∧ lo i ≤ up i ∧ up i ≤ w'.heap.size ∧ R i ((D i).map v) (v i) (lo i) (up i) w') → (∀ i j, i < n → j < n → i ≠ j → up i ≤ lo j ∨ up j ≤ lo i) →
  wpList P l.toArray Q (l.drop n) (putAll l.toArray v n a) w') :
 (Code.region id l.toArray true).wp P Q a w := by
 simp only [relB, Bool.and_eq_true, decide_eq_true_eq, Bool.or_eq_true, beq_iff_eq] at hB
 obtain ⟨⟨⟨⟨⟨hs, hn⟩, hh⟩, hd⟩, ht⟩, hq⟩ := hB
 refine wp_region_any hm ?_
 have inv0 : HeadInv .any l.toArray n (Array.replicate l.toArray.size false) :=
  ⟨by simp, fun j oj _ hl => (by rw [getD_replicate_false] at hl; cases hl), fun t _ ht => getD_in (by simpa using ht) (getD_replicate_false _ _)⟩
 have hl0 : lst (Array.replicate l.toArray.size false) = fun _ => false := by funext k; exact getD_replicate_false _ _
 have := head_anyV (P := P) J (Q := Q) (a0 := a) (w0 := w) hs hn hh hd ht hq hX stab step fin n (Array.replicate l.toArray.size false) (fun _ => undef) (fun _ => 0) (fun _ => 0) a { w with drawn := w.drawn + 1 } inv0
  (by rw [hl0]; exact cnt_false n) (by rw [hl0]; exact Mid.start _ _ _ _)
  (by rw [hl0]; exact ⟨hX.draw _, fun _ _ h => (by cases h), fun _ _ _ _ h => (by cases h)⟩) (by rw [hl0]; exact hJ)
 rwa [show n + (l.toArray.size - n) = l.toArray.size by omega] at this
end
def zipOkV (J : (Nat → Bool) → (Nat → Value) → World → Prop) (L : Nat → Bool) (l0 : List Oper) {X : World → World → Prop} {n0 : Nat} (P : Program) (ops : Array Oper) (S : List (OpSpec X n0)) (a : Act) (v : Nat → Value) (lo up : Nat → Nat) (w w' : World) : Nat → List Oper → List (OpSpec X n0) → Prop
 | i, o :: l, s :: r => (L i = false → (∀ j o', l0[j]? = some o' → i ∈ waits o' → L j = false) → (∀ e, e ∈ waits o → L e = true) → depsImp S v lo up w w' (wpList P ops (StepS a o.dst fun u w'' => X w' w'' ∧ s.rel (s.deps.map v) u w'.heap.size w''.heap.size w'' ∧ J (upd L i true) (upd v i u) w'') [o] a w') (s.deps ++ waits o)) ∧ zipOkV J L l0 P ops S a v lo up w w' (i + 1) l r
 | _, _, _ => True
theorem zipOkV_get {J : (Nat → Bool) → (Nat → Value) → World → Prop} {L : Nat → Bool} {l0 : List Oper} {X : World → World → Prop} {n0 : Nat} {P : Program} {ops : Array Oper} {S : List (OpSpec X n0)} {a : Act} {v : Nat → Value} {lo up : Nat → Nat} {w w' : World} (l : List Oper) : ∀ (k : Nat) (r : List (OpSpec X n0)), zipOkV J L l0 P ops S a v lo up w w' k l r → ∀ (i : Nat) (o : Oper) (s : OpSpec X n0), l[i]? = some o → r[i]? = some s →
 L (k + i) = false → (∀ j o', l0[j]? = some o' → (k + i) ∈ waits o' → L j = false) → (∀ e, e ∈ waits o → L e = true) →
 depsOk S v lo up w w' (s.deps ++ waits o) → wpList P ops (StepS a o.dst fun u w'' => X w' w'' ∧ s.rel (s.deps.map v) u w'.heap.size w''.heap.size w'' ∧ J (upd L (k + i) true) (upd v (k + i) u) w'') [o] a w' := by
 induction l with
 | nil => intro k r _ i o s ho; simp at ho
 | cons o l ih =>
  intro k r h i o' s' ho hs h1 h2 h3
  cases r with
  | nil => simp at hs
  | cons s r =>
   cases i with
   | zero =>
    obtain rfl : o = o' := Option.some.inj ho
    obtain rfl : s = s' := Option.some.inj hs
    exact depsImp_get _ (h.1 h1 h2 h3)
   | succ i =>
    have := ih (k + 1) r h.2 i o' s' ho hs (by rw [show k + 1 + i = k + (i + 1) by omega]; exact h1) (by rw [show k + 1 + i = k + (i + 1) by omega]; exact h2) h3
    rwa [show k + 1 + i = k + (i + 1) by omega] at this
theorem wp_region_zipV {X : World → World → Prop} (hX : WRel X) (J : (Nat → Bool) → (Nat → Value) → World → Prop) {P : Program} {id : Nat} {Q : Exit → Act → World → Prop} {a : Act} {w : World} {l : List Oper} (S : List (OpSpec X w.heap.size)) (A : (Nat → Value) → Act)
 (hJ : J (fun _ => false) (fun _ => undef) { w with drawn := w.drawn + 1 })
 (hm : P.follows .mixedOrders = true) (hB : relB l.toArray S.length (fun i => (S.getD i (isv undef)).deps) = true)
 (hA : ∀ v, putAll l.toArray v S.length a = A v) (hsl : ∀ v, slotsS (A v).tmps.size (l.take S.length) = true)
 (step : ∀ (v : Nat → Value) (lo up : Nat → Nat) (w' : World), X w w' → ∀ L : Nat → Bool, J L v w' → zipOkV J L l P l.toArray S (A v) v lo up w w' 0 l S)
 (fin : ∀ (v : Nat → Value) (lo up : Nat → Nat) (w' : World), X w w' → ∀ L : Nat → Bool, J L v w' → (∀ i, i < S.length → L i = true) → factsOk v lo up w w' 0 S → (∀ i j, i < S.length → j < S.length → i ≠ j → up i ≤ lo j ∨ up j ≤ lo i) →
  wpList P l.toArray Q (l.drop S.length) (A v) w') :
 (Code.region id l.toArray true).wp P Q a w :=
 wp_region_relV J S.length (fun i => (S.getD i (isv undef)).deps) (fun i => (S.getD i (isv undef)).rel) hJ hm hB hX
  (fun i _ vs u lo hi w w' h1 h2 h3 h4 h5 => (S.getD i (isv undef)).stab vs u lo hi w w' h1 h2 h3 h4 h5)
  (fun i hi o ho v lo up w' hx L hj hLi hLw hLe hf => by
   have hs : S[i]? = some (S.getD i (isv undef)) := by simp [hi]
   have h1 := zipOkV_get l 0 S (step v lo up w' hx L hj) i o _ ho hs (by rw [Nat.zero_add]; exact hLi) (fun j o' ho' hm => hLw j (waitsFor_mem (by simpa using ho') (by rw [Nat.zero_add] at hm; exact hm))) (fun e he => hLe e (waitsFor_mem (by simpa using ho) he)) (depsOk_of _ fun e he => hf e (by
    rcases List.mem_append.1 he with he | he
    ·exact .inl he
    exact .inr (waitsFor_mem (by simpa using ho) he)))
   have hmem : o ∈ l.take S.length := List.mem_of_getElem? (i := i) (by rw [List.getElem?_take, if_pos hi]; exact ho)
   have h2 := List.all_eq_true.1 (hsl v) o hmem
   rw [hA v]
   rw [Nat.zero_add] at h1
   exact relOp_of_wpListS (fun t hdt => by rw [hdt] at h2; simpa using h2) h1)
  (fun v lo up w' hx L hj hL hf ha => by
   rw [hA v]
   exact fin v lo up w' hx L hj hL (factsOk_of S 0 fun i s hs => by
    have hi : i < S.length := (List.getElem?_eq_some_iff.1 hs).1
    have := hf i hi
    have e : S.getD i (isv undef) = s := by simp [hs]
    rw [e] at this
    simpa using this) ha)
structure XS (n0 : Nat) (rs : List Nat) (Ts : List TypeId) (w w' : World) : Prop where
 os : w'.os = w.os
 tape : w'.tape = w.tape
 output : w'.output = w.output
 size : w.heap.size ≤ w'.heap.size
 block : ∀ k, k < w.heap.size → w'.heap[k]? = w.heap[k]? ∨ (k ∈ rs ∧ k < n0) ∨ (n0 ≤ k ∧ ∃ T cs cs', T ∈ Ts ∧ w.heap[k]? = some (.cells cs T (0, 0)) ∧ w'.heap[k]? = some (.cells cs' T (0, 0)))
section
variable {n0 : Nat} {rs : List Nat} {Ts : List TypeId}
theorem XS.of_ext {w w' : World} (h : Ext w w') : XS n0 rs Ts w w' := ⟨h.os, h.tape, h.output, Ext.size h, fun k hk => .inl (Below.block h k hk)⟩
theorem XS.refl (w : World) : XS n0 rs Ts w w := XS.of_ext (Ext.refl w)
theorem XS.trans {a b c : World} (h : XS n0 rs Ts a b) (k : XS n0 rs Ts b c) : XS n0 rs Ts a c := by
 refine ⟨k.os.trans h.os, k.tape.trans h.tape, k.output.trans h.output, Nat.le_trans h.size k.size, fun i hi => ?_⟩
 rcases k.block i (Nat.lt_of_lt_of_le hi h.size) with k1 | k1 | ⟨k0, T, cs, cs', k1, k2, k3⟩
 ·rcases h.block i hi with h1 | h1 | ⟨h0, T, cs, cs', h1, h2, h3⟩
  ·exact .inl (k1.trans h1)
  ·exact .inr (.inl h1)
  exact .inr (.inr ⟨h0, T, cs, cs', h1, h2, by rw [k1]; exact h3⟩)
 ·exact .inr (.inl k1)
 rcases h.block i hi with h1 | h1 | ⟨_, U, ds, ds', h1, h2, h3⟩
 ·exact .inr (.inr ⟨k0, T, cs, cs', k1, by rw [← h1]; exact k2, k3⟩)
 ·exact .inr (.inl h1)
 have e : U = T := by rw [h3] at k2; simp at k2; exact k2.2
 subst e
 exact .inr (.inr ⟨k0, U, ds, cs', h1, h2, k3⟩)
theorem XS.rel (n0 : Nat) (rs : List Nat) (Ts : List TypeId) : WRel (XS n0 rs Ts) where
 refl := XS.refl
 trans := XS.trans
 size := XS.size
 draw := fun w => XS.of_ext ⟨rfl, rfl, rfl, Nat.le_refl _, fun _ _ => rfl⟩
theorem XS.old {w w' : World} (h : XS n0 rs Ts w w') {k : Nat} (hk : k < w.heap.size) (h0 : k < n0) (hr : k ∉ rs) : w'.heap[k]? = w.heap[k]? := by
 rcases h.block k hk with e | e | ⟨e, _⟩
 ·exact e
 ·exact absurd e.1 hr
 omega
theorem XS.ext {w w' : World} (h : XS w.heap.size [] Ts w w') : Ext w w' := ⟨h.os, h.tape, h.output, h.size, fun _ hk => h.old hk hk (by simp)⟩
theorem Own.xs {w w' : World} {B : Nat} {v : Value} {xs : List Int} (h : Own B w v xs) (f : XS n0 rs Ts w w') (hB : n0 ≤ B) (hT : 3 ∉ Ts) : Own B w' v xs := by
 obtain ⟨h1, h2⟩ := h
 refine ⟨h1, h2.imp id ?_⟩
 rintro ⟨g, cap, cur, hv, hg, hh, r⟩
 refine ⟨g, cap, cur, hv, hg, ?_, r⟩
 rcases f.block g (lt_of_block hh) with e | e | ⟨_, T, cs, cs', hT', e, _⟩
 ·rw [e]; exact hh
 ·omega
 rw [hh] at e; simp at e; rw [← e.2] at hT'; exact absurd hT' hT
theorem OwnL.xs {w w' : World} {B : Nat} (f : XS n0 rs Ts w w') (hB : n0 ≤ B) (hT : 3 ∉ Ts) : ∀ {vs : List Value} {xs : List (List Int)}, OwnL B w vs xs → OwnL B w' vs xs
 | [], [], _ => trivial
 | _ :: _, _ :: _, h => ⟨h.1.xs f hB hT, OwnL.xs f hB hT h.2⟩
theorem Grp.xs {w w' : World} {B : Nat} {vs : List Value} {xs : List (List Int)} (h : Grp B w vs xs) (f : XS n0 rs Ts w w') (hB : n0 ≤ B) (hT : 3 ∉ Ts) : Grp B w' vs xs := ⟨h.own.xs f hB hT, h.apt⟩
theorem St.xs {g : Option (Nat × Nat)} {w0 w w' : World} {L : List Box} {vs : List Value} {xs : List (List Int)} (S : St g w0 w L vs xs) (f : XS w.heap.size rs Ts w w') (hr : ∀ r ∈ rs, w0.heap.size ≤ r) (hL : ∀ p ∈ L, p.b ∉ rs) (hv : ∀ v ∈ vs, ∀ q, v.ownBlock = some q → q ∉ rs) : St g w0 w' L vs xs := by
 have hlow : ∀ q, q < w0.heap.size → w'.heap[q]? = w.heap[q]? := fun q hq => f.old (by have := S.size; omega) (by have := S.size; omega) (fun h => by have := hr q h; omega)
 refine ⟨Chg.mk' (f.os.trans S.chg.os) (f.tape.trans S.chg.tape) (f.output.trans S.chg.output) (Nat.le_trans S.size f.size) (fun q hq hn => (hlow q hq).trans (S.chg.block q hq hn)), fun q n e => ⟨(S.rd q n e).1, (S.rd q n e).2.low (S.rd q n e).1 hlow⟩, fun p hp => ⟨?_, (S.box p hp).2⟩, S.dis, S.sep, S.grp.blocks fun v h q hq => f.old (S.grp.own.block v h q hq).2 (S.grp.own.block v h q hq).2 (hv v h q hq)⟩
 have k := (S.box p hp).1
 unfold Blk; rw [f.old k.lt k.lt (hL p hp)]; exact k
inductive Del : List Box → Nat → TypeId → List Value → List Box → Prop
 | head {g : Nat} {T : TypeId} {cs : List Value} {L : List Box} : Del (⟨g, T, cs⟩ :: L) g T cs L
 | tail {g : Nat} {T : TypeId} {cs : List Value} {p : Box} {L L' : List Box} : Del L g T cs L' → Del (p :: L) g T cs (p :: L')
theorem Del.mem {L L' : List Box} {g : Nat} {T : TypeId} {cs : List Value} (h : Del L g T cs L') : (⟨g, T, cs⟩ : Box) ∈ L := by
 induction h with
 | head => exact List.Mem.head _
 | tail _ ih => exact List.Mem.tail _ ih
theorem Del.sub {L L' : List Box} {g : Nat} {T : TypeId} {cs : List Value} (h : Del L g T cs L') : L'.Sublist L := by
 induction h with
 | head => exact List.sublist_cons_self _ _
 | tail _ ih => exact ih.cons_cons _
theorem Del.ne {L L' : List Box} {g : Nat} {T : TypeId} {cs : List Value} (h : Del L g T cs L') (hd : L.Pairwise fun p q => p.b ≠ q.b) : ∀ p ∈ L', p.b ≠ g := by
 induction h with
 | head => intro p hp e; exact (List.pairwise_cons.1 hd).1 p hp e.symm
 | tail h ih =>
  intro p hp e
  rcases List.mem_cons.1 hp with h1 | h1
  ·subst h1; exact (List.pairwise_cons.1 hd).1 _ h.mem e
  exact ih (List.pairwise_cons.1 hd).2 p h1 e
structure Alone (w0 w : World) (L : List Box) (vs : List Value) (r : Nat) (T : TypeId) (cs : List Value) : Prop where
 blk : Blk w r cs.toArray T
 low : w0.heap.size ≤ r
 dis : ∀ p ∈ L, p.b ≠ r
 sep : ∀ v ∈ vs, v.ownBlock ≠ some r
theorem St.del {g : Option (Nat × Nat)} {w0 w : World} {L L' : List Box} {vs : List Value} {xs : List (List Int)} (S : St g w0 w L vs xs) {r : Nat} {T : TypeId} {cs : List Value} (h : Del L r T cs L') : St g w0 w L' vs xs ∧ Alone w0 w L' vs r T cs :=
 ⟨S.boxes h.sub, (S.box _ h.mem).1, (S.box _ h.mem).2, h.ne S.dis, fun v hv => S.sep _ h.mem v hv⟩
theorem St.join {g : Option (Nat × Nat)} {w0 w : World} {L : List Box} {vs : List Value} {xs : List (List Int)} (S : St g w0 w L vs xs) {r : Nat} {T : TypeId} {cs : List Value} (k : Blk w r cs.toArray T) (hl : w0.heap.size ≤ r) (hd : ∀ p ∈ L, p.b ≠ r) (hv : ∀ v ∈ vs, v.ownBlock ≠ some r) : St g w0 w (⟨r, T, cs⟩ :: L) vs xs :=
 ⟨S.chg, S.rd, fun p hp => by rcases List.mem_cons.1 hp with h | h; (subst h; exact ⟨k, hl⟩); exact S.box p h, List.pairwise_cons.2 ⟨fun p hp e => hd p hp e.symm, S.dis⟩, fun p hp v h => by rcases List.mem_cons.1 hp with e | e; (subst e; exact hv v h); exact S.sep p e v h, S.grp⟩
theorem Alone.cons {w0 w w' : World} {L : List Box} {vs : List Value} {r : Nat} {T : TypeId} {cs cs' : List Value} (h : Alone w0 w L vs r T cs) (k : Blk w' r cs'.toArray T) : Alone w0 w' L vs r T cs' := ⟨k, h.low, h.dis, h.sep⟩
theorem Alone.more {w0 w : World} {L : List Box} {vs us : List Value} {r : Nat} {T : TypeId} {cs : List Value} (h : Alone w0 w L vs r T cs) (hu : ∀ u ∈ us, u.ownBlock ≠ some r) : Alone w0 w L (us ++ vs) r T cs := ⟨h.blk, h.low, h.dis, fun v hv => by rcases List.mem_append.1 hv with h1 | h1; exact hu v h1; exact h.sep v h1⟩
structure Px (r s : Nat) (T : TypeId) (z : Array Value) (F : World → Array Value → Prop) (L : Nat → Bool) (w : World) : Prop where
 no : L s = false → Blk w r z T
 yes : L s = true → ∃ cs, Blk w r cs T ∧ F w cs
theorem Px.ext {r s : Nat} {T : TypeId} {z : Array Value} {F : World → Array Value → Prop} {L : Nat → Bool} {w w' : World} (h : Px r s T z F L w) (hF : ∀ cs, F w cs → F w' cs) (hb : r < w.heap.size → w'.heap[r]? = w.heap[r]?) {i : Nat} (hi : s ≠ i) : Px r s T z F (upd L i true) w' := by
 have e : upd L i true s = L s := by simp [upd, hi]
 refine ⟨fun h1 => ?_, fun h1 => ?_⟩
 ·rw [e] at h1
  have k := h.no h1
  unfold Blk; rw [hb k.lt]; exact k
 rw [e] at h1
 obtain ⟨cs, k, f⟩ := h.yes h1
 exact ⟨cs, by unfold Blk; rw [hb k.lt]; exact k, hF cs f⟩
theorem Px.put {r s : Nat} {T : TypeId} {z : Array Value} {F : World → Array Value → Prop} {L : Nat → Bool} {w' : World} {cs : Array Value} (k : Blk w' r cs T) (f : F w' cs) : Px r s T z F (upd L s true) w' :=
 ⟨fun h => by simp [upd] at h, fun _ => ⟨cs, k, f⟩⟩
def Bx (n0 al s : Nat) (T : TypeId) (z : Array Value) (F : (Nat → Value) → Array Value → Prop) (L : Nat → Bool) (V : Nat → Value) (w : World) : Prop :=
 L al = true → ∃ b, V al = .pointer (some ⟨b, 0, none⟩) ∧ n0 ≤ b ∧ b < w.heap.size ∧ Px b s T z (fun _ cs => F V cs) L w
theorem Px.of_F {r s : Nat} {T : TypeId} {z : Array Value} {F F' : World → Array Value → Prop} {L : Nat → Bool} {w : World} (h : Px r s T z F L w) (hF : L s = true → ∀ cs, F w cs → F' w cs) : Px r s T z F' L w := ⟨h.no, fun h1 => (h.yes h1).imp fun cs k => ⟨k.1, hF h1 cs k.2⟩⟩
theorem Bx.start {n0 al s : Nat} {T : TypeId} {z : Array Value} {F : (Nat → Value) → Array Value → Prop} {V : Nat → Value} {w : World} : Bx n0 al s T z F (fun _ => false) V w := fun h => by cases h
theorem Bx.ext {n0 al s : Nat} {T : TypeId} {z : Array Value} {F : (Nat → Value) → Array Value → Prop} {L : Nat → Bool} {V : Nat → Value} {w w' : World} (h : Bx n0 al s T z F L V w) {i : Nat} {u : Value} (hF : L s = true → ∀ cs, F V cs → F (upd V i u) cs) (hs0 : w.heap.size ≤ w'.heap.size) (hb : ∀ b, b < w.heap.size → V al = .pointer (some ⟨b, 0, none⟩) → L al = true → w'.heap[b]? = w.heap[b]?) (ha : al ≠ i) (hs : s ≠ i) : Bx n0 al s T z F (upd L i true) (upd V i u) w' := by
 intro hl
 rw [show upd L i true al = L al by simp [upd, ha]] at hl
 obtain ⟨b, e, hb0, hlt, p⟩ := h hl
 exact ⟨b, by rw [show upd V i u al = V al by simp [upd, ha]]; exact e, hb0, by omega, (p.of_F (F' := fun _ cs => F (upd V i u) cs) hF).ext (fun _ h => h) (fun hk => hb b hk e hl) hs⟩
theorem Bx.new {n0 al s : Nat} {T : TypeId} {z : Array Value} {F : (Nat → Value) → Array Value → Prop} {L : Nat → Bool} {V : Nat → Value} {w : World} (hs : L s = false) (hne : s ≠ al) {b : Nat} (hb : n0 ≤ b) (k : Blk w b z T) : Bx n0 al s T z F (upd L al true) (upd V al (.pointer (some ⟨b, 0, none⟩))) w :=
 fun _ => ⟨b, by simp [upd], hb, k.lt, fun _ => k, fun h => by rw [show upd L al true s = L s by simp [upd, hne], hs] at h; cases h⟩
theorem Bx.put {n0 al s : Nat} {T : TypeId} {z : Array Value} {F : (Nat → Value) → Array Value → Prop} {L : Nat → Bool} {V : Nat → Value} {w' : World} {u : Value} {b : Nat} (hne : al ≠ s) (e : V al = .pointer (some ⟨b, 0, none⟩)) (hb : n0 ≤ b) {cs : Array Value} (k : Blk w' b cs T) (f : F (upd V s u) cs) : Bx n0 al s T z F (upd L s true) (upd V s u) w' :=
 fun _ => ⟨b, by rw [show upd V s u al = V al by simp [upd, hne]]; exact e, hb, k.lt, Px.put k f⟩
def sameV {X : World → World → Prop} {m : Nat} (k : Nat) : OpSpec X m := ⟨[k], fun vs u _ _ _ => u = vs.headD undef, fun _ _ _ _ _ _ _ _ _ _ h => h⟩
theorem St.xs1 {g : Option (Nat × Nat)} {w0 w w' : World} {L : List Box} {vs : List Value} {xs : List (List Int)} {r : Nat} {T : TypeId} {z : List Value} (S : St g w0 w L vs xs) (A : Alone w0 w L vs r T z) (f : XS w.heap.size [r] Ts w w') : St g w0 w' L vs xs :=
 S.xs f (fun q h => by rw [List.mem_singleton.1 h]; exact A.low) (fun p hp h => A.dis p hp (List.mem_singleton.1 h)) (fun v hv q hq h => A.sep v hv (by rw [hq, List.mem_singleton.1 h]))
theorem St.fill1 {g : Option (Nat × Nat)} {w0 w w' : World} {L : List Box} {vs us : List Value} {xs ys : List (List Int)} {r : Nat} {T : TypeId} {z cs : List Value} (S : St g w0 w L vs xs) (A : Alone w0 w L vs r T z) (f : XS w.heap.size [r] Ts w w') (k : Grp w.heap.size w' us ys) (kb : Blk w' r cs.toArray T) : St g w0 w' (⟨r, T, cs⟩ :: L) (us ++ vs) (ys ++ xs) := by
 have G := S.grow (S.xs1 A f) [] (fun _ h => by cases h) List.Pairwise.nil k (fun _ h => by cases h)
 refine G.join kb A.low A.dis (fun v hv => ?_)
 rcases List.mem_append.1 hv with h | h
 ·intro e
  have h1 := (k.own.block v h r e).1
  have h2 := A.blk.lt
  omega
 exact A.sep v h
theorem wpList_putX {P : Program} {ops : Array Oper} {o : Oper} {a : Act} {w : World} {G : Value → World → Prop} {T : TypeId} (hgd : o.guard = none) (hno : o.dst = none) (x y : Operand) (ho : o.op = .store T x y)
 (b : Nat) (cells old : Array Value) (hx : a.eval x = .pointer (some ⟨b, 0, none⟩)) (hy : a.eval y = .agg cells) (hg : Blk w b old T) (hi : (P.info? T).map (·.size) = some cells.size)
 (hold : old.size = cells.size) (h1 : cells.all (·.oneCell') = true) (hb : (b ∈ rs ∧ b < n0) ∨ (n0 ≤ b ∧ T ∈ Ts))
 (h : ∀ w', XS n0 rs Ts w w' → Blk w' b cells T → (∀ k, k ≠ b → w'.heap[k]? = w.heap[k]?) → w'.heap.size = w.heap.size → ∀ u, G u w') : wpList P ops (StepS a o.dst G) [o] a w := by
 refine wpList_store_row hgd T x y ho b cells hx hy T old hg hi hold h1 ?_
 have hoth : ∀ k, k ≠ b → (w.setRow b cells).heap[k]? = w.heap[k]? := fun k hk => setRow_other w b k cells hk
 have kb : Blk (w.setRow b cells) b cells T := hg.set cells
 unfold wpList
 rw [hno]
 refine stepS_none rfl (h _ ⟨rfl, rfl, rfl, by simp [World.setRow], fun k hk => ?_⟩ kb hoth (by simp [World.setRow]))
 by_cases e : k = b
 ·subst e
  rcases hb with hb | ⟨hb, hT⟩
  ·exact .inr (.inl hb)
  exact .inr (.inr ⟨hb, T, old, cells, hT, hg, kb⟩)
 exact .inl (hoth k e)
theorem St.nestR {w0 w w1 w' : World} {q n : Nat} {L L' : List Box} {vs us : List Value} {xs ys : List (List Int)} (S : St none w0 w L vs xs) (x : Ext w w1) (hq : w.heap.size ≤ q) (I : St (some (q, n)) w1 w' L' us ys) : St none w0 w' (L' ++ L) (us ++ vs) (ys ++ xs) ∧ (∀ p ∈ L' ++ L, p.b ≠ q) ∧ (∀ v ∈ us ++ vs, v.ownBlock ≠ some q) ∧ w0.heap.size ≤ q := by
 have hl := (I.rd q n rfl).1
 have hs := S.size
 refine ⟨S.nest x hq I, fun p hp e => ?_, fun v hv e => ?_, by omega⟩
 ·rcases List.mem_append.1 hp with h | h
  ·have := (I.box p h).2; omega
  have := (S.box p h).1.lt; omega
 rcases List.mem_append.1 hv with h | h
 ·have := (I.grp.own.block v h q e).1; omega
 have := (S.grp.own.block v h q e).2; omega
structure Rst (w0 w : World) (L : List Box) (vs : List Value) (xs : List (List Int)) (g : Nat) (rs : List Nat) : Prop where
 st : St none w0 w L vs xs
 low : ∀ r ∈ g :: rs, w0.heap.size ≤ r
 box : ∀ p ∈ L, p.b ∉ g :: rs
 lst : ∀ v ∈ vs, ∀ q, v.ownBlock = some q → q ∉ g :: rs
theorem Rst.start {w0 w : World} {L : List Box} {vs : List Value} {xs : List (List Int)} {g : Nat} (S : St none w0 w L vs xs) (h1 : ∀ p ∈ L, p.b ≠ g) (h2 : ∀ v ∈ vs, v.ownBlock ≠ some g) (h3 : w0.heap.size ≤ g) : Rst w0 w L vs xs g [] :=
 ⟨S, fun r hr => by rw [List.mem_singleton] at hr; omega, fun p hp h => h1 p hp (List.mem_singleton.1 h), fun v hv q hq h => h2 v hv (by rw [hq, List.mem_singleton.1 h])⟩
theorem Rst.del {w0 w : World} {L L' : List Box} {vs : List Value} {xs : List (List Int)} {g : Nat} {rs : List Nat} (S : Rst w0 w L vs xs g rs) {r : Nat} {T : TypeId} {cs : List Value} (h : Del L r T cs L') : Rst w0 w L' vs xs g (r :: rs) ∧ Blk w r cs.toArray T ∧ r ≠ g := by
 obtain ⟨S1, A⟩ := S.st.del h
 have hg : r ≠ g := fun e => S.box _ h.mem (by rw [e]; exact List.Mem.head _)
 refine ⟨⟨S1, fun q hq => ?_, fun p hp hq => ?_, fun v hv q e hq => ?_⟩, A.blk, hg⟩
 ·rcases List.mem_cons.1 hq with e | hq
  ·exact S.low q (by rw [e]; exact List.Mem.head _)
  rcases List.mem_cons.1 hq with e | hq
  ·rw [e]; exact A.low
  exact S.low q (List.mem_cons_of_mem _ hq)
 ·rcases List.mem_cons.1 hq with e | hq
  ·exact S.box p (h.sub.subset hp) (by rw [e]; exact List.Mem.head _)
  rcases List.mem_cons.1 hq with e | hq
  ·exact A.dis p hp e
  exact S.box p (h.sub.subset hp) (List.mem_cons_of_mem _ hq)
 rcases List.mem_cons.1 hq with e' | hq
 ·exact S.lst v hv q e (by rw [e']; exact List.Mem.head _)
 rcases List.mem_cons.1 hq with e' | hq
 ·exact A.sep v hv (by rw [e, e'])
 exact S.lst v hv q e (List.mem_cons_of_mem _ hq)
theorem Rst.xs {w0 w w' : World} {L : List Box} {vs : List Value} {xs : List (List Int)} {g : Nat} {rs : List Nat} (S : Rst w0 w L vs xs g rs) (f : XS w.heap.size (g :: rs) Ts w w') : Rst w0 w' L vs xs g rs :=
 ⟨S.st.xs f S.low S.box S.lst, S.low, S.box, S.lst⟩
theorem Rst.grp {w0 w w' : World} {L : List Box} {vs us : List Value} {xs ys : List (List Int)} {g : Nat} {rs : List Nat} (S : Rst w0 w L vs xs g rs) (f : XS w.heap.size (g :: rs) Ts w w') (k : Grp w.heap.size w' us ys) (hrs : ∀ r ∈ g :: rs, r < w.heap.size) : Rst w0 w' L (us ++ vs) (ys ++ xs) g rs :=
 ⟨S.st.grow (S.xs f).st [] (fun _ h => by cases h) List.Pairwise.nil k (fun _ h => by cases h), S.low, S.box, fun v hv q e hq => by
  rcases List.mem_append.1 hv with h | h
  ·have h1 := (k.own.block v h q e).1
   have h2 := hrs q hq
   omega
  exact S.lst v h q e hq⟩
theorem Rst.join {w0 w : World} {L : List Box} {vs : List Value} {xs : List (List Int)} {g r : Nat} {rs : List Nat} (S : Rst w0 w L vs xs g (r :: rs)) {T : TypeId} {cs : List Value} (k : Blk w r cs.toArray T) (hr : r ∉ g :: rs) : Rst w0 w (⟨r, T, cs⟩ :: L) vs xs g rs := by
 have hin : r ∈ g :: r :: rs := List.mem_cons_of_mem _ (List.Mem.head _)
 have sub : ∀ q ∈ g :: rs, q ∈ g :: r :: rs := fun q hq => by rcases List.mem_cons.1 hq with e | h; (rw [e]; exact List.Mem.head _); exact List.mem_cons_of_mem _ (List.mem_cons_of_mem _ h)
 refine ⟨S.st.join k (S.low r hin) (fun p hp e => S.box p hp (by rw [e]; exact hin)) (fun v hv e => S.lst v hv r e hin), fun q hq => S.low q (sub q hq), fun p hp h => ?_, fun v hv q e h => S.lst v hv q e (sub q h)⟩
 rcases List.mem_cons.1 hp with e | hp
 ·rw [e] at h; exact hr h
 exact S.box p hp (sub _ h)
theorem XS.of_mod {g : Nat} {w w' : World} (h : Mod g w w') (hg : g ∈ rs) (h0 : g < n0) : XS n0 rs Ts w w' := ⟨h.os, h.tape, h.output, h.size, fun k hk => by
 by_cases e : k = g
 ·subst e; exact .inr (.inl ⟨hg, h0⟩)
 exact .inl (h.block k hk e)⟩
theorem Px.mod {r s : Nat} {T : TypeId} {z : Array Value} {F : World → Array Value → Prop} {L : Nat → Bool} {w w' : World} {g : Nat} (h : Px r s T z F L w) (m : Mod g w w') (hne : r ≠ g) (hF : ∀ cs, F w cs → F w' cs) {i : Nat} (hi : s ≠ i) : Px r s T z F (upd L i true) w' := h.ext hF (fun hk => m.block r hk hne) hi
end
structure It where
 al : Nat
 s : Nat
 src : Nat
 T : TypeId
 z : Array Value
structure Bs (n0 : Nat) (its : List It) (L : Nat → Bool) (V : Nat → Value) (w : World) : Prop where
 ord : ∀ it ∈ its, L it.s = true → L it.al = true ∧ L it.src = true
 box : ∀ it ∈ its, L it.al = true → ∃ b, V it.al = .pointer (some ⟨b, 0, none⟩) ∧ n0 ≤ b ∧ b < w.heap.size ∧ (L it.s = false → Blk w b it.z it.T) ∧ (L it.s = true → ∃ cs, V it.src = .agg cs ∧ Blk w b cs it.T)
 dis : ∀ it ∈ its, ∀ jt ∈ its, it.al ≠ jt.al → L it.al = true → L jt.al = true → V it.al ≠ V jt.al
theorem Bs.start (n0 : Nat) (its : List It) (V : Nat → Value) (w : World) : Bs n0 its (fun _ => false) V w :=
 ⟨fun _ _ h => (by cases h), fun _ _ h => (by cases h), fun _ _ _ _ _ h => (by cases h)⟩
theorem updL_ne {L : Nat → Bool} {i k : Nat} (h : k ≠ i) : upd L i true k = L k := by simp [upd, h]
theorem updL_mono {L : Nat → Bool} {i k : Nat} (h : L k = true) : upd L i true k = true := by
 by_cases e : k = i
 ·simp [upd, e]
 rw [updL_ne e]; exact h
theorem updV_ne {V : Nat → Value} {i k : Nat} {u : Value} (h : k ≠ i) : upd V i u k = V k := by simp [upd, h]
theorem updV_eq {V : Nat → Value} {i : Nat} {u : Value} : upd V i u i = u := by simp [upd]
section
variable {n0 : Nat} {its : List It} {L : Nat → Bool} {V : Nat → Value} {w w' : World}
theorem Bs.other (h : Bs n0 its L V w) (x : Ext w w') {i : Nat} {u : Value} (hl : L i = false) (hi : ∀ it ∈ its, it.al ≠ i ∧ it.s ≠ i) : Bs n0 its (upd L i true) (upd V i u) w' := by
 refine ⟨fun it hit hs => ?_, fun it hit ha => ?_, fun it hit jt hjt hne h1 h2 => ?_⟩
 ·rw [updL_ne (hi it hit).2] at hs
  exact ⟨updL_mono (h.ord it hit hs).1, updL_mono (h.ord it hit hs).2⟩
 ·rw [updL_ne (hi it hit).1] at ha
  obtain ⟨b, e, hb, hlt, k0, k1⟩ := h.box it hit ha
  refine ⟨b, by rw [updV_ne (hi it hit).1]; exact e, hb, x.lt hlt, fun hs => ?_, fun hs => ?_⟩
  ·rw [updL_ne (hi it hit).2] at hs
   exact (k0 hs).keep x
  rw [updL_ne (hi it hit).2] at hs
  obtain ⟨cs, e2, k⟩ := k1 hs
  refine ⟨cs, ?_, k.keep x⟩
  rw [updV_ne (fun e3 => absurd (hl.symm.trans (e3 ▸ (h.ord it hit hs).2)) (by decide))]
  exact e2
 rw [updL_ne (hi it hit).1] at h1
 rw [updL_ne (hi jt hjt).1] at h2
 rw [updV_ne (hi it hit).1, updV_ne (hi jt hjt).1]
 exact h.dis it hit jt hjt hne h1 h2
theorem Bs.alloc (h : Bs n0 its L V w) {it0 : It} (h0 : it0 ∈ its) (hl : L it0.al = false) (uq : ∀ jt ∈ its, jt.al = it0.al → jt = it0) (hi : ∀ jt ∈ its, jt.s ≠ it0.al ∧ jt.src ≠ it0.al) {b : Nat} (hb : w.heap.size ≤ b) (hn : n0 ≤ w.heap.size) (x : Ext w w') (k : Blk w' b it0.z it0.T) :
 Bs n0 its (upd L it0.al true) (upd V it0.al (.pointer (some ⟨b, 0, none⟩))) w' := by
 have hnew : ∀ jt ∈ its, jt.al ≠ it0.al → L jt.al = true → V jt.al ≠ .pointer (some ⟨b, 0, none⟩) := fun jt hjt _ ha e => by
  obtain ⟨b', e', _, hlt, _⟩ := h.box jt hjt ha
  rw [e'] at e
  simp at e
  all_goals omega
 refine ⟨fun it hit hs => ?_, fun it hit ha => ?_, fun it hit jt hjt hne h1 h2 => ?_⟩
 ·rw [updL_ne (hi it hit).1] at hs
  exact ⟨updL_mono (h.ord it hit hs).1, updL_mono (h.ord it hit hs).2⟩
 ·by_cases ea : it.al = it0.al
  ·obtain rfl := uq it hit ea
   refine ⟨b, updV_eq, by omega, k.lt, fun _ => k, fun hs => ?_⟩
   rw [updL_ne (hi it hit).1] at hs
   exact absurd (hl.symm.trans (h.ord it hit hs).1) (by decide)
  rw [updL_ne ea] at ha
  obtain ⟨b', e, hb', hlt, k0, k1⟩ := h.box it hit ha
  refine ⟨b', by rw [updV_ne ea]; exact e, hb', x.lt hlt, fun hs => ?_, fun hs => ?_⟩
  ·rw [updL_ne (hi it hit).1] at hs
   exact (k0 hs).keep x
  rw [updL_ne (hi it hit).1] at hs
  obtain ⟨cs, e2, k⟩ := k1 hs
  exact ⟨cs, by rw [updV_ne (hi it hit).2]; exact e2, k.keep x⟩
 by_cases e1 : it.al = it0.al
 ·have e2 : jt.al ≠ it0.al := fun e => hne (e1.trans e.symm)
  rw [updL_ne e2] at h2
  rw [e1, updV_eq, updV_ne e2]
  exact (hnew jt hjt e2 h2).symm
 rw [updL_ne e1] at h1
 by_cases e2 : jt.al = it0.al
 ·rw [e2, updV_eq, updV_ne e1]
  exact hnew it hit e1 h1
 rw [updL_ne e2] at h2
 rw [updV_ne e1, updV_ne e2]
 exact h.dis it hit jt hjt hne h1 h2
theorem Bs.store (h : Bs n0 its L V w) {it0 : It} (h0 : it0 ∈ its) (hal : L it0.al = true) (hsrc : L it0.src = true) (uq : ∀ jt ∈ its, jt.s = it0.s → jt = it0) (ua : ∀ jt ∈ its, jt.al = it0.al → jt = it0) (hi : ∀ jt ∈ its, jt.al ≠ it0.s ∧ jt.src ≠ it0.s) {b : Nat} {cs : Array Value} {u : Value}
 (e : V it0.al = .pointer (some ⟨b, 0, none⟩)) (es : V it0.src = .agg cs) (k : Blk w' b cs it0.T) (hoth : ∀ q, q ≠ b → w'.heap[q]? = w.heap[q]?) (hs : w'.heap.size = w.heap.size) : Bs n0 its (upd L it0.s true) (upd V it0.s u) w' := by
 refine ⟨fun it hit h1 => ?_, fun it hit ha => ?_, fun it hit jt hjt hne h1 h2 => ?_⟩
 ·by_cases ea : it.s = it0.s
  ·obtain rfl := uq it hit ea
   exact ⟨updL_mono hal, updL_mono hsrc⟩
  rw [updL_ne ea] at h1
  exact ⟨updL_mono (h.ord it hit h1).1, updL_mono (h.ord it hit h1).2⟩
 ·rw [updL_ne (hi it hit).1] at ha
  obtain ⟨b', e', hb', hlt, k0, k1⟩ := h.box it hit ha
  refine ⟨b', by rw [updV_ne (hi it hit).1]; exact e', hb', by omega, fun h1 => ?_, fun h1 => ?_⟩
  ·have ea : it.s ≠ it0.s := fun ea => by rw [ea] at h1; simp [upd] at h1
   rw [updL_ne ea] at h1
   have hne : b' ≠ b := fun eb => by
    have : it.al ≠ it0.al := fun q => ea (by rw [ua it hit q])
    exact h.dis it hit it0 h0 this ha hal (by rw [e', e, eb])
   unfold Blk; rw [hoth b' hne]; exact k0 h1
  by_cases ea : it.s = it0.s
  ·obtain rfl := uq it hit ea
   rw [e] at e'
   simp at e'
   subst e'
   exact ⟨cs, by rw [updV_ne (hi it hit).2]; exact es, k⟩
  rw [updL_ne ea] at h1
  obtain ⟨ds, e2, kk⟩ := k1 h1
  have hne : b' ≠ b := fun eb => by
   have : it.al ≠ it0.al := fun q => ea (by rw [ua it hit q])
   exact h.dis it hit it0 h0 this ha hal (by rw [e', e, eb])
  refine ⟨ds, by rw [updV_ne (hi it hit).2]; exact e2, ?_⟩
  unfold Blk; rw [hoth b' hne]; exact kk
 rw [updL_ne (hi it hit).1] at h1
 rw [updL_ne (hi jt hjt).1] at h2
 rw [updV_ne (hi it hit).1, updV_ne (hi jt hjt).1]
 exact h.dis it hit jt hjt hne h1 h2
end
def tget : Value → Nat → Value
 | .tuple a, i => a.getD i undef
 | _, _ => undef
def tgetV {X : World → World → Prop} {m : Nat} (k i : Nat) : OpSpec X m := ⟨[k], fun vs u _ _ _ => u = tget (vs.headD undef) i, fun _ _ _ _ _ _ _ _ _ _ h => h⟩
end Go.Proofs.YtkkdikoknegpjaaGreat
