/- The region's rule with a fact about the world and about what has been done already. No program in sight. -/
import Derived.Test.YtjoomdihjffmlaaRgnS
import Derived.Test.YtjoomdihjffmlaaRgnJ
namespace Go.Proofs.Ytjoomdihjffmlaa
set_option linter.unusedSimpArgs false
set_option linter.unusedVariables false
open Go.RowKit
section
variable {P : Program} {X : World → World → Prop}
theorem head_anyL (J : (Nat → Bool) → World → Prop) {l : List Oper} {n : Nat} {D : Nat → List Nat} {R : Nat → List Value → Value → Nat → Nat → World → Prop} {Q : Exit → Act → World → Prop} {a0 : Act} {w0 : World}
    (hs : Region.noSelect l.toArray = true) (hn : n ≤ l.toArray.size) (hh : headB l.toArray n = true) (hd : depsB l.toArray n D = true)
    (ht : n = l.toArray.size ∨ (Region.sinkB .any l.toArray n = true ∧ Region.chainB .any l.toArray n = true)) (hq : Region.seqB .any l.toArray (l.toArray.size - n) n (allTrue l.toArray.size n) = true)
    (hX : WRel X) (stab : ∀ i, i < n → ∀ vs u lo hi w w', w0.heap.size ≤ lo → lo ≤ hi → hi ≤ w.heap.size → X w w' → R i vs u lo hi w → R i vs u lo hi w')
    (step : ∀ i, i < n → ∀ o, l[i]? = some o → ∀ (v : Nat → Value) (lo up : Nat → Nat) (w' : World), X w0 w' → ∀ L : Nat → Bool, J L w' → L i = false → (∀ j, Region.waitsFor .any l.toArray j i = true → L j = false) → (∀ e, (e ∈ D i ∨ Region.waitsFor .any l.toArray i e = true) → w0.heap.size ≤ lo e ∧ lo e ≤ up e ∧ up e ≤ w'.heap.size ∧ R e ((D e).map v) (v e) (lo e) (up e) w') →
      relOp P l.toArray o (putAll l.toArray v n a0) w' fun u w'' => X w' w'' ∧ R i ((D i).map v) u w'.heap.size w''.heap.size w'' ∧ J (upd L i true) w'')
    (fin : ∀ (v : Nat → Value) (lo up : Nat → Nat) (w' : World), X w0 w' → ∀ L : Nat → Bool, J L w' → (∀ i, i < n → L i = true) → (∀ i, i < n → w0.heap.size ≤ lo i ∧ lo i ≤ up i ∧ up i ≤ w'.heap.size ∧ R i ((D i).map v) (v i) (lo i) (up i) w') → (∀ i j, i < n → j < n → i ≠ j → up i ≤ lo j ∨ up j ≤ lo i) →
      wpList P l.toArray Q (l.drop n) (putAll l.toArray v n a0) w') :
    ∀ (m : Nat) (listed : Array Bool) (v : Nat → Value) (lo hi : Nat → Nat) (a : Act) (w : World), HeadInv .any l.toArray n listed → cnt (lst listed) n = m → Mid l.toArray n a0 (lst listed) v a →
      Facts X D R n w0 (lst listed) v lo hi w → J (lst listed) w → wpAny P .any l.toArray Q (m + (l.toArray.size - n)) listed a w := by
  have hdst := headB_dst hh
  have hsel := Region.noSelect_spec hs
  intro m
  induction m with
  | zero =>
    intro listed v lo hi a w inv hc mid fa hj
    have hall := cnt_zero _ n hc
    have ha := mid.all hdst hall
    subst ha
    have hl : listed = allTrue l.toArray.size n := by
      apply Array.ext
      · rw [inv.size]; simp [allTrue]
      · intro k h1 h2
        have hk : k < l.toArray.size := by rw [← inv.size]; exact h1
        have e1 : listed[k] = listed.getD k false := by simp [h1]
        have e2 : (allTrue l.toArray.size n)[k] = (allTrue l.toArray.size n).getD k false := by rw [Array.getD_eq_getD_getElem?, Array.getElem?_eq_getElem h2]; rfl
        rw [e1, e2, allTrue_get _ _ _ hk]
        by_cases hkn : k < n
        · simp only [hkn, decide_true]; exact hall k hkn
        · simp only [hkn, decide_false]; exact getD_both (inv.tail k (by omega) hk)
    have hdl : (l.drop n).length = l.toArray.size - n := by simp
    rw [Nat.zero_add, ← hdl]
    refine wpAny_of_seq (l.drop n) n listed _ w (fun j => by simp [List.getElem?_drop]) (by rw [hdl, hl]; exact hq) ?_
    exact fin v lo hi w fa.ext (lst listed) hj hall (fun i hi => fa.fact i hi (hall i hi)) (fun i j hi hj hne => fa.apart i j hi hj (hall i hi) (hall j hj) hne)
  | succ m ih =>
    intro listed v lo up a w inv hc mid fa hj
    obtain ⟨k, hk, hlk, hbefore⟩ := cnt_pos (lst listed) n (by omega)
    have hks : k < listed.size := by rw [inv.size]; omega
    have hkun : listed.getD k true = false := getD_in hks hlk
    have hready : k ∈ Region.ready .any l.toArray listed := by
      obtain ⟨ok, hok, hon⟩ := headB_on hh hk
      exact mem_ready.2 ⟨hkun, ok, hok, fun e he hb => hbefore _ (hon e he hb)⟩
    rw [show m + 1 + (l.toArray.size - n) = (m + (l.toArray.size - n)) + 1 by omega]
    refine ⟨fun h => (by rw [h] at hready; cases hready), fun i hi => ?_⟩
    obtain ⟨hiun, o, ho, hall⟩ := mem_ready.1 hi
    have hisz : i < l.toArray.size := (Array.getElem?_eq_some_iff.1 ho).1
    have hin : i < n := by
      rcases ht with ht | ⟨hsk, hch⟩
      · omega
      · rcases Nat.lt_or_ge i n with h | h
        · exact h
        · have hnlt : n < l.toArray.size := by omega
          exact absurd hi (tail_waits hsk hch hnlt inv _ k rfl hk hkun i h)
    have hil : lst listed i = false := getD_both hiun
    have hwaits : ∀ e, Region.waitsFor .any l.toArray i e = true → lst listed e = true := fun e he => by
      obtain ⟨x, hx, hb, hon⟩ := waits_of ho he
      have := hall x hx hb
      rw [hon] at this
      exact this
    have hDi := deps_listed inv hd hin hwaits
    have hnotin : ∀ j, j < n → lst listed j = true → i ∉ D j := fun j hj hlj hmem => by
      have := deps_listed inv hd hj (fun e he => by
        obtain ⟨oj, hoj, x, hx, hb, hon⟩ := Region.waitsFor_spec he
        have := inv.closed j oj hoj hlj x hx hb
        rw [hon] at this; exact this) i hmem
      rw [hil] at this; cases this
    have hnoti : i ∉ D i := fun h => by have := (deps_lt hd hin i h).1; omega
    have pmid := Mid.putAllMid (a0 := a0) (v := v) hdst n (Nat.le_refl _)
    have hrun := same_run (ops := l.toArray) (o := o) (a := a) (b := putAll l.toArray v n a0) (fun cs b => hsel i o cs b ho) (fun t htl => by
      by_cases hts : t < a0.tmps.size
      · by_cases hex : ∃ j, j < n ∧ dstOf l.toArray j = some t
        · obtain ⟨j, hj, hjt⟩ := hex
          have hlj := hwaits j (headB_look hh hin hj ho hjt htl)
          rw [mid.new j t hj hjt hlj hts, pmid.new j t hj hjt (by simp [hj]) hts]
        · have hno : ∀ j, j < n → dstOf l.toArray j = some t → False := fun j h1 h2 => hex ⟨j, h1, h2⟩
          rw [mid.old t fun j h1 h2 => (hno j h1 h2).elim, pmid.old t fun j h1 h2 => (hno j h1 h2).elim]
      · rw [Array.getElem?_eq_none (by rw [mid.size]; exact Nat.le_of_not_lt hts), Array.getElem?_eq_none (by rw [pmid.size]; exact Nat.le_of_not_lt hts)])
    have hst := step i hin o (by simpa using ho) v lo up w fa.ext (lst listed) hj hil (fun j hw => by
      cases h : lst listed j
      · rfl
      · obtain ⟨oj, hoj, x, hx, hb, hon⟩ := Region.waitsFor_spec hw
        have := inv.closed j oj hoj h x hx hb
        rw [hon] at this
        rw [show lst listed i = true from this] at hil; cases hil) (fun e he => by
      have hei : e < i := by
        rcases he with he | he
        · exact (deps_lt hd hin e he).1
        · obtain ⟨o', ho', hon⟩ := headB_on hh hin
          obtain ⟨x, hx, hb, hxe⟩ := waits_of ho' he
          have := hon x hx hb
          omega
      exact fa.fact e (by omega) (he.elim (hDi e) (hwaits e)))
    unfold relOp at hst
    rw [← hrun.1, ← hrun.2] at hst
    refine wpOp_of_relOp ho hst fun u w' ⟨hx, hr, hjm⟩ => ?_
    have hset := lst_set listed i (by rw [inv.size]; exact hisz)
    have hdo : dstOf l.toArray i = o.dst := by simp only [dstOf, ho, Option.bind_some]
    refine ih _ (upd v i u) (upd lo i w.heap.size) (upd up i w'.heap.size) _ w' (inv.set hi hin) ?_ ?_ ?_ (by rw [hset]; exact hjm)
    · rw [hset]; have := cnt_set (lst listed) i hil n hin; omega
    · rw [hset, ← hdo]; exact mid.step hdst hin hil u
    · rw [hset]; exact fa.step hX stab hil hnotin hnoti hx hr



theorem wp_region_relL (J : (Nat → Bool) → World → Prop) {id : Nat} {Q : Exit → Act → World → Prop} {a : Act} {w : World} {l : List Oper} (n : Nat) (D : Nat → List Nat) (R : Nat → List Value → Value → Nat → Nat → World → Prop)
    (hJ : J (fun _ => false) { w with drawn := w.drawn + 1 })
    (hm : P.follows .mixedOrders = true) (hB : relB l.toArray n D = true)
    (hX : WRel X) (stab : ∀ i, i < n → ∀ vs u lo hi w1 w', w.heap.size ≤ lo → lo ≤ hi → hi ≤ w1.heap.size → X w1 w' → R i vs u lo hi w1 → R i vs u lo hi w')
    (step : ∀ i, i < n → ∀ o, l[i]? = some o → ∀ (v : Nat → Value) (lo up : Nat → Nat) (w' : World), X w w' → ∀ L : Nat → Bool, J L w' → L i = false → (∀ j, Region.waitsFor .any l.toArray j i = true → L j = false) → (∀ e, (e ∈ D i ∨ Region.waitsFor .any l.toArray i e = true) → w.heap.size ≤ lo e ∧ lo e ≤ up e ∧ up e ≤ w'.heap.size ∧ R e ((D e).map v) (v e) (lo e) (up e) w') →
      relOp P l.toArray o (putAll l.toArray v n a) w' fun u w'' => X w' w'' ∧ R i ((D i).map v) u w'.heap.size w''.heap.size w'' ∧ J (upd L i true) w'')
    (fin : ∀ (v : Nat → Value) (lo up : Nat → Nat) (w' : World), X w w' → ∀ L : Nat → Bool, J L w' → (∀ i, i < n → L i = true) → (∀ i, i < n → w.heap.size ≤ lo i ∧ lo i ≤ up i ∧ up i ≤ w'.heap.size ∧ R i ((D i).map v) (v i) (lo i) (up i) w') → (∀ i j, i < n → j < n → i ≠ j → up i ≤ lo j ∨ up j ≤ lo i) →
      wpList P l.toArray Q (l.drop n) (putAll l.toArray v n a) w') :
    (Code.region id l.toArray true).wp P Q a w := by
  simp only [relB, Bool.and_eq_true, decide_eq_true_eq, Bool.or_eq_true, beq_iff_eq] at hB
  obtain ⟨⟨⟨⟨⟨hs, hn⟩, hh⟩, hd⟩, ht⟩, hq⟩ := hB
  refine wp_region_any hm ?_
  have inv0 : HeadInv .any l.toArray n (Array.replicate l.toArray.size false) :=
    ⟨by simp, fun j oj _ hl => (by rw [getD_replicate_false] at hl; cases hl), fun t _ ht => getD_in (by simpa using ht) (getD_replicate_false _ _)⟩
  have hl0 : lst (Array.replicate l.toArray.size false) = fun _ => false := by funext k; exact getD_replicate_false _ _
  have := head_anyL (P := P) J (Q := Q) (a0 := a) (w0 := w) hs hn hh hd ht hq hX stab step fin n (Array.replicate l.toArray.size false) (fun _ => undef) (fun _ => 0) (fun _ => 0) a { w with drawn := w.drawn + 1 } inv0
    (by rw [hl0]; exact cnt_false n) (by rw [hl0]; exact Mid.start _ _ _ _)
    (by rw [hl0]; exact ⟨hX.draw _, fun _ _ h => (by cases h), fun _ _ _ _ h => (by cases h)⟩) (by rw [hl0]; exact hJ)
  rwa [show n + (l.toArray.size - n) = l.toArray.size by omega] at this
end
def zipOkL (J : (Nat → Bool) → World → Prop) (L : Nat → Bool) (l0 : List Oper) {X : World → World → Prop} {n0 : Nat} (P : Program) (ops : Array Oper) (S : List (OpSpec X n0)) (a : Act) (v : Nat → Value) (lo up : Nat → Nat) (w w' : World) : Nat → List Oper → List (OpSpec X n0) → Prop
  | i, o :: l, s :: r => (L i = false → (∀ j o', l0[j]? = some o' → i ∈ waits o' → L j = false) → depsImp S v lo up w w' (wpList P ops (StepS a o.dst fun u w'' => X w' w'' ∧ s.rel (s.deps.map v) u w'.heap.size w''.heap.size w'' ∧ J (upd L i true) w'') [o] a w') (s.deps ++ waits o)) ∧ zipOkL J L l0 P ops S a v lo up w w' (i + 1) l r
  | _, _, _ => True
theorem zipOkL_get {J : (Nat → Bool) → World → Prop} {L : Nat → Bool} {l0 : List Oper} {X : World → World → Prop} {n0 : Nat} {P : Program} {ops : Array Oper} {S : List (OpSpec X n0)} {a : Act} {v : Nat → Value} {lo up : Nat → Nat} {w w' : World} (l : List Oper) : ∀ (k : Nat) (r : List (OpSpec X n0)), zipOkL J L l0 P ops S a v lo up w w' k l r → ∀ (i : Nat) (o : Oper) (s : OpSpec X n0), l[i]? = some o → r[i]? = some s →
    L (k + i) = false → (∀ j o', l0[j]? = some o' → (k + i) ∈ waits o' → L j = false) →
    depsOk S v lo up w w' (s.deps ++ waits o) → wpList P ops (StepS a o.dst fun u w'' => X w' w'' ∧ s.rel (s.deps.map v) u w'.heap.size w''.heap.size w'' ∧ J (upd L (k + i) true) w'') [o] a w' := by
  induction l with
  | nil => intro k r _ i o s ho; simp at ho
  | cons o l ih =>
    intro k r h i o' s' ho hs h1 h2
    cases r with
    | nil => simp at hs
    | cons s r =>
      cases i with
      | zero =>
        obtain rfl : o = o' := Option.some.inj ho
        obtain rfl : s = s' := Option.some.inj hs
        exact depsImp_get _ (h.1 h1 h2)
      | succ i =>
        have := ih (k + 1) r h.2 i o' s' ho hs (by rw [show k + 1 + i = k + (i + 1) by omega]; exact h1) (by rw [show k + 1 + i = k + (i + 1) by omega]; exact h2)
        rwa [show k + 1 + i = k + (i + 1) by omega] at this

theorem wp_region_zipL {X : World → World → Prop} (hX : WRel X) (J : (Nat → Bool) → World → Prop) {P : Program} {id : Nat} {Q : Exit → Act → World → Prop} {a : Act} {w : World} {l : List Oper} (S : List (OpSpec X w.heap.size)) (A : (Nat → Value) → Act)
    (hJ : J (fun _ => false) { w with drawn := w.drawn + 1 })
    (hm : P.follows .mixedOrders = true) (hB : relB l.toArray S.length (fun i => (S.getD i (isv undef)).deps) = true)
    (hA : ∀ v, putAll l.toArray v S.length a = A v) (hsl : ∀ v, slotsS (A v).tmps.size (l.take S.length) = true)
    (step : ∀ (v : Nat → Value) (lo up : Nat → Nat) (w' : World), X w w' → ∀ L : Nat → Bool, J L w' → zipOkL J L l P l.toArray S (A v) v lo up w w' 0 l S)
    (fin : ∀ (v : Nat → Value) (lo up : Nat → Nat) (w' : World), X w w' → ∀ L : Nat → Bool, J L w' → (∀ i, i < S.length → L i = true) → factsOk v lo up w w' 0 S → (∀ i j, i < S.length → j < S.length → i ≠ j → up i ≤ lo j ∨ up j ≤ lo i) →
      wpList P l.toArray Q (l.drop S.length) (A v) w') :
    (Code.region id l.toArray true).wp P Q a w :=
  wp_region_relL J S.length (fun i => (S.getD i (isv undef)).deps) (fun i => (S.getD i (isv undef)).rel) hJ hm hB hX
    (fun i _ vs u lo hi w w' h1 h2 h3 h4 h5 => (S.getD i (isv undef)).stab vs u lo hi w w' h1 h2 h3 h4 h5)
    (fun i hi o ho v lo up w' hx L hj hLi hLw hf => by
      have hs : S[i]? = some (S.getD i (isv undef)) := by simp [hi]
      have h1 := zipOkL_get l 0 S (step v lo up w' hx L hj) i o _ ho hs (by rw [Nat.zero_add]; exact hLi) (fun j o' ho' hm => hLw j (waitsFor_mem (by simpa using ho') (by rw [Nat.zero_add] at hm; exact hm))) (depsOk_of _ fun e he => hf e (by
        rcases List.mem_append.1 he with he | he
        · exact .inl he
        · exact .inr (waitsFor_mem (by simpa using ho) he)))
      have hmem : o ∈ l.take S.length := List.mem_of_getElem? (i := i) (by rw [List.getElem?_take, if_pos hi]; exact ho)
      have h2 := List.all_eq_true.1 (hsl v) o hmem
      rw [hA v]
      rw [Nat.zero_add] at h1
      exact relOp_of_wpListS (fun t hdt => by rw [hdt] at h2; simpa using h2) h1)
    (fun v lo up w' hx L hj hL hf ha => by
      rw [hA v]
      exact fin v lo up w' hx L hj hL (factsOk_of S 0 fun i s hs => by
        have hi : i < S.length := (List.getElem?_eq_some_iff.1 hs).1
        have := hf i hi
        have e : S.getD i (isv undef) = s := by simp [hs]
        rw [e] at this
        simpa using this) ha)


end Go.Proofs.Ytjoomdihjffmlaa
