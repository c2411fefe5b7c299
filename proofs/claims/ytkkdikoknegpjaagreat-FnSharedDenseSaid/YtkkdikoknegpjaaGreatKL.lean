import Derived.Test.YtkkdikoknegpjaaGreatKX
import Derived.Test.YtkkdikoknegpjaaGreatMkTab
import Derived.Test.YtkkdikoknegpjaaGreatUTab
import Derived.Test.YtkkdikoknegpjaaGreatKN
import Derived.Maps.AppendAt
import Derived.Test.YtkkdikoknegpjaaGreatMapT
import Derived.Test.YtkkdikoknegpjaaGreatKG
namespace Go.Proofs.YtkkdikoknegpjaaGreat
set_option linter.unusedSimpArgs false
set_option linter.unusedVariables false
open Go.RowKit
def msd (V : List Int) (s : Int) : Nat → Int
 | 0 => s
 | n + 1 => mtN V (msd V s n)
def lkF (V xs ys : List Int) (q : Int) (i : Nat) : Int := useF (xs.getD i 0) (ys.getD i 0) (mtA V q) (mtB V q) (mtF V q) (mtS V q)
def lkL (V xs ys : List Int) (q : Int) (i : Nat) : Int := useL (xs.getD i 0) (ys.getD i 0) (mtA V q) (mtB V q) (mtF V q) (mtS V q)
def lkC (V xs ys : List Int) (q : Int) (i : Nat) : Int := useC (xs.getD i 0) (ys.getD i 0) (mtA V q) (mtB V q) (mtF V q) (mtS V q)
def mpF (V xs ys : List Int) (s : Int) (i : Nat) : Int := lkF V xs ys (msd V s i) i
def mpL (V xs ys : List Int) (s : Int) (i : Nat) : Int := lkL V xs ys (msd V s i) i
def mpC (V xs ys : List Int) (s : Int) (i : Nat) : Int := lkC V xs ys (msd V s i) i
def mpOk (k : Int) (m : ShM) (s : Int) : Bool := fKnown k && m.ok && seedOk s
def mpSh (k : Int) (m : ShM) (s : Int) : ShM :=
 if mpOk k m s = true then ⟨⟨m.f.r, m.f.c, mapTo (mpF (fVals k) m.f.xs m.s.xs s) m.f.xs.length⟩, ⟨m.f.r, m.f.c, mapTo (mpL (fVals k) m.f.xs m.s.xs s) m.f.xs.length⟩⟩ else shZ
def mpO (k : Int) (m : ShM) (s : Int) : List Int := if mpOk k m s = true then mapTo (mpC (fVals k) m.f.xs m.s.xs s) m.f.xs.length else []
def mpS (k : Int) (m : ShM) (s : Int) : Int := if mpOk k m s = true then msd (fVals k) s m.f.xs.length else 0
theorem mpSh_bad {k : Int} {m : ShM} {s : Int} (h : mpOk k m s = false) : mpSh k m s = shZ ∧ mpO k m s = [] ∧ mpS k m s = 0 := by
 refine ⟨?_, ?_, ?_⟩
 ·unfold mpSh; rw [h]; rfl
 ·unfold mpO; rw [h]; rfl
 unfold mpS; rw [h]; rfl
theorem mpSh_ok {k : Int} {m : ShM} {s : Int} (h : mpOk k m s = true) : mpSh k m s = ⟨⟨m.f.r, m.f.c, mapTo (mpF (fVals k) m.f.xs m.s.xs s) m.f.xs.length⟩, ⟨m.f.r, m.f.c, mapTo (mpL (fVals k) m.f.xs m.s.xs s) m.f.xs.length⟩⟩ ∧ mpO k m s = mapTo (mpC (fVals k) m.f.xs m.s.xs s) m.f.xs.length ∧ mpS k m s = msd (fVals k) s m.f.xs.length := by
 refine ⟨?_, ?_, ?_⟩
 ·unfold mpSh; rw [h]; rfl
 ·unfold mpO; rw [h]; rfl
 unfold mpS; rw [h]; rfl
def fil (f : Nat → Int) (j L : Nat) : List Int := mapTo (fun i => if i < j then f i else 0) L
theorem fil_len (f : Nat → Int) (j L : Nat) : (fil f j L).length = L := mapTo_len _ _
theorem fil_zero (f : Nat → Int) (L : Nat) : zer L = fil f 0 L := by
 apply list_ext'
 ·rw [zer_len, fil_len]
 intro i hi
 rw [zer_len] at hi
 unfold fil
 rw [mapTo_get _ _ _ hi]
 simp [zer, hi]
theorem fil_full (f : Nat → Int) (L : Nat) : fil f L L = mapTo f L := by
 unfold fil
 exact mapTo_congr _ _ _ fun i hi => by simp [hi]
theorem fil_set (f : Nat → Int) {j L : Nat} (hj : j < L) : (fil f j L).set j (f j) = fil f (j + 1) L := by
 apply list_ext'
 ·rw [List.length_set, fil_len, fil_len]
 intro i hi
 rw [List.length_set, fil_len] at hi
 rw [getD_set (fil f j L) j i _ (by rw [fil_len]; exact hj)]
 unfold fil
 rw [mapTo_get _ _ _ hi, mapTo_get _ _ _ hi]
 by_cases e : i = j
 ·subst e; simp
 rw [if_neg e]
 by_cases h1 : i < j
 ·rw [if_pos h1, if_pos (by omega)]
 rw [if_neg h1, if_neg (by omega)]
theorem OwnL.put {B : Nat} {w w' : World} {v' : Value} {x' : List Int} (k : Own B w' v' x') : ∀ {vs : List Value} {xs : List (List Int)} (i : Nat), OwnL B w vs xs → (∀ j u, j ≠ i → vs[j]? = some u → ∀ q, u.ownBlock = some q → w'.heap[q]? = w.heap[q]?) → OwnL B w' (vs.set i v') (xs.set i x')
 | [], [], _, _, _ => trivial
 | _ :: vs, _ :: _, 0, h, hb => ⟨k, OwnL.blocks h.2 fun u hu q hq => by
  obtain ⟨j, hj⟩ := List.mem_iff_getElem?.1 hu
  exact hb (j + 1) u (by omega) (by simpa using hj) q hq⟩
 | v :: _, _ :: _, i + 1, h, hb => ⟨h.1.blocks (hb 0 v (by omega) rfl), OwnL.put k i h.2 fun j u hj hu => hb (j + 1) u (by omega) (by simpa using hu)⟩
theorem pairwise_put {vs : List Value} (h : vs.Pairwise Apt) {i : Nat} {v' : Value} (hi : ∀ j u, j ≠ i → vs[j]? = some u → Apt v' u) : (vs.set i v').Pairwise Apt := by
 rw [List.pairwise_iff_getElem] at h ⊢
 intro a b ha hb hab
 have ha' : a < vs.length := by simpa using ha
 have hb' : b < vs.length := by simpa using hb
 rw [List.getElem_set, List.getElem_set]
 split
 ·split
  ·omega
  exact hi b _ (by omega) (by simp [hb'])
 split
 ·exact (hi a _ (by omega) (by simp [ha'])).symm
 exact h a b ha' hb' hab
theorem St.putL {g : Option (Nat × Nat)} {w0 w w' : World} {L : List Box} {vs : List Value} {xs : List (List Int)} (S : St g w0 w L vs xs) (i : Nat) {v v' : Value} {x' : List Int} (h1 : vs[i]? = some v) (o : Own w0.heap.size w' v' x') (t : Turned v w w') (hat : v'.ownBlock = v.ownBlock ∨ v'.ownBlock = some w.heap.size) : St g w0 w' L (vs.set i v') (xs.set i x') := by
 have hv : v ∈ vs := List.mem_iff_getElem?.2 ⟨i, h1⟩
 have hown := S.grp.own.block v hv
 have apt : ∀ j u, j ≠ i → vs[j]? = some u → Apt v u := by
  intro j u hj hu
  have hi := (List.getElem?_eq_some_iff.1 h1)
  have hk := (List.getElem?_eq_some_iff.1 hu)
  obtain ⟨li, ei⟩ := hi
  obtain ⟨lj, ej⟩ := hk
  rw [← ei, ← ej]
  rcases Nat.lt_or_gt_of_ne hj with h | h
  ·exact (List.pairwise_iff_getElem.1 S.grp.apt j i lj li h).symm
  exact List.pairwise_iff_getElem.1 S.grp.apt i j li lj h
 have hlow : ∀ q, q < w0.heap.size → w'.heap[q]? = w.heap[q]? := fun q hq => t.block q (by have := S.size; omega) (fun e => by have := (hown q e).1; omega)
 have others : ∀ j u, j ≠ i → vs[j]? = some u → ∀ q, u.ownBlock = some q → w'.heap[q]? = w.heap[q]? := fun j u hj hu q hq => t.block q (S.grp.own.block u (List.mem_iff_getElem?.2 ⟨j, hu⟩) q hq).2 (fun e => (apt j u hj hu).l q hq e)
 refine ⟨Chg.mk' (t.os.trans S.chg.os) (t.tape.trans S.chg.tape) (t.output.trans S.chg.output) (Nat.le_trans S.size t.size) (fun q hq hn => (hlow q hq).trans (S.chg.block q hq hn)), fun q n e => ⟨(S.rd q n e).1, (S.rd q n e).2.low (S.rd q n e).1 hlow⟩, fun p hp => ⟨?_, (S.box p hp).2⟩, S.dis, fun p hp u hu => ?_, ⟨S.grp.own.put o i others, pairwise_put S.grp.apt fun j u hj hu => ?_⟩⟩
 ·have k := (S.box p hp).1
  unfold Blk; rw [t.block p.b k.lt (S.sep p hp v hv)]; exact k
 ·rcases List.mem_or_eq_of_mem_set hu with h | h
  ·exact S.sep p hp u h
  rw [h]
  rcases hat with e | e
  ·rw [e]; exact S.sep p hp v hv
  rw [e]; intro q; injection q with q; have := (S.box p hp).1.lt; omega
 rcases hat with e | e
 ·have a := apt j u hj hu
  exact ⟨fun q hq => by rw [e]; exact a.l q hq, fun q hq => a.r q (by rw [← e]; exact hq)⟩
 have b := S.grp.own.block u (List.mem_iff_getElem?.2 ⟨j, hu⟩)
 refine ⟨fun q hq hq' => ?_, fun q hq hq' => ?_⟩
 ·rw [e] at hq'; injection hq' with hq'; have := (b q hq).2; omega
 rw [e] at hq; injection hq with hq; have := (b q hq').2; omega
section
variable {ops : Array Oper} {rest : List Oper} {o : Oper} {a : Act} {Q : Exit → Act → World → Prop} {g : Option (Nat × Nat)} {w0 w : World} {L : List Box} {vs : List Value} {xs : List (List Int)}
theorem apI (S : St g w0 w L vs xs) (i : Nat) {v : Value} {x : List Int} (h1 : vs[i]? = some v) (h2 : xs[i]? = some x) {n : Nat} (hn : x.length = n) (hl : n + 1 ≤ 1099511627776) (b : Nat) (y : Int) (hb : Blk w b #[.int .i64 y] 3) (s q : Operand)
 (hgd : o.guard = none) (ho : o.op = .call { callee := .builtin .append, args := #[s, q], argTypes := #[22, 22] }) (hs : a.eval s = v) (hx : a.eval q = .slice (some ⟨b, 0, none⟩) 1 1)
 (h : ∀ p m w', St g w0 w' L (vs.set i (.slice p (n + 1) m)) (xs.set i (x ++ [y])) → wpList Tryz.prog ops Q rest (a.put o.dst (.slice p (n + 1) m)) w') : wpList Tryz.prog ops Q (o :: rest) a w := by
 subst hn
 obtain ⟨i0, hi, hz0, hz1, hz2⟩ := info_parts info_int
 have hown := S.grp.get i h1 h2
 refine wpList_append_own_at w hgd s q 22 ho w0.heap.size 3 i0 (.int .i64 0) 1 8 Tryz.underlying22 hi hz0 hz1 hz2 rfl (by decide) v x.length (rowI x) hs hown ⟨b, 0, none⟩ 1 1 [.int .i64 y] hx rfl (fun j u hj => ?_) (fun u hu => ?_) (by unfold maxLen; omega) (by omega) S.size fun v' w' ho' hgr _ hat => ?_
 ·match j, hj with
  | 0, hj => simp at hj; subst hj; exact hb.cell 0
 ·simp at hu; subst hu; rfl
 have o1 : Own w0.heap.size w' v' (x ++ [y]) := by
  unfold Own
  rw [List.length_append, List.length_singleton, rowI, List.map_append]
  exact ho'
 obtain ⟨p, m, e, -, -⟩ := id o1.ints
 rw [List.length_append, List.length_singleton] at e
 subst e
 exact h p m w' (S.putL i h1 o1 (Turned.of_grown hgr) hat)
theorem stL (S : St g w0 w L vs xs) (i : Nat) {b n c : Nat} {x : List Int} (h1 : vs[i]? = some (.slice (some ⟨b, 0, none⟩) n c)) (h2 : xs[i]? = some x) (hn : x.length = n) (j : Nat) (hj : j < n) (y : Int) (p q : Operand)
 (hgd : o.guard = none) (hno : o.dst = none) (ho : o.op = .store 3 p q) (hp : a.eval p = .pointer (some ⟨b, j, none⟩)) (hq : a.eval q = .int .i64 y)
 (h : ∀ w', St g w0 w' L vs (xs.set i (x.set j y)) → wpList Tryz.prog ops Q rest a w') : wpList Tryz.prog ops Q (o :: rest) a w := by
 have hown := S.grp.get i h1 h2
 obtain ⟨hc, hf⟩ := hown.cell hn j hj
 obtain ⟨s1, s2⟩ := hown.store hn j y
 have S' := S.putL i h1 s1 s2 (.inl rfl)
 have e : vs.set i (.slice (some ⟨b, 0, none⟩) n c) = vs := by
  apply List.ext_getElem?
  intro k
  rw [List.getElem?_set]
  split
  ·rename_i e; subst e
   split
   ·rw [h1]
   rename_i h; exact absurd (List.getElem?_eq_some_iff.1 h1).1 h
  rfl
 rw [e] at S'
 have hst := run_storeCells_cells (P := Tryz.prog) b j [.int .i64 y] 0 w (fun k hk => by
  have : k = 0 := by simp at hk; omega
  subst this
  simp [hc]) (fun k hk => by
  have : k = 0 := by simp at hk; omega
  subst this
  exact hf) (fun u hu => by rw [List.mem_singleton] at hu; subst hu; rfl)
 have hrun : (storeVar 3 ⟨b, j, none⟩ (.int .i64 y)).run Tryz.prog w = .ok () (w.setCell ⟨b, j, none⟩ (.int .i64 y)) := by
  obtain ⟨i0, hi, _, hz1, _⟩ := info_parts info_int
  simp only [Nat.add_zero] at hst
  simp [storeVar, sizeOf, typeInfo, hi, Value.cells, hz1, hst, World.setCells]
 refine wpList_plain hgd fun K hK => ?_
 unfold Oper.wp execOp
 simp only [ho, hp, hq, Instr.storeAt, Instr.sureAddr, Sem.run_bind, Sem.run_pure, Result.andThen_ok, hrun]
 refine hK _ _ ?_
 rw [hno]
 exact h _ S'
end
theorem Grp.zero3g {B : Nat} {w : World} {v : Value} (h : Own B w v []) : Grp B w [.slice none 0 0, .slice none 0 0, v] [[], [], []] :=
 ⟨⟨Own.nil _ _, Own.nil _ _, h, trivial⟩, by
  have a : ∀ v, Apt (.slice none 0 0) v := fun v => Apt.nil _ _ rfl
  simp [a]⟩
theorem MadePost.grp {vs : List Int} {s : Int} {w w' : World} {e : Ending} (h : MadePost vs s w e w') : ∃ v1 v2, e = .returned (.tuple #[.agg #[.int .i64 (mtA vs s), .int .i64 (mtB vs s), v1, v2], .int .i64 (mtN vs s)]) ∧ Grp w.heap.size w' [v1, v2] [mtF vs s, mtS vs s] ∧ Ext w w' := by
 obtain ⟨v1, v2, h1, h2, h3, h4, h5⟩ := h
 exact ⟨v1, v2, h1, ⟨⟨h2, h3, trivial⟩, by simp only [List.pairwise_cons, List.mem_cons, List.not_mem_nil, or_false, forall_eq, List.Pairwise.nil, and_true, false_imp_iff, implies_true]; exact ⟨fun q e1 e2 => h4 q e2 e1, fun q e1 e2 => h4 q e1 e2⟩⟩, h5⟩
def ZeroSh (R C : Nat) (w : World) (e : Ending) (w' : World) : Prop :=
 ∃ g0 g1, e = .returned (.agg #[.int .i64 R, .int .i64 C, .slice (some ⟨g0, 0, none⟩) (R * C) (R * C), .int .i64 R, .int .i64 C, .slice (some ⟨g1, 0, none⟩) (R * C) (R * C)]) ∧ Grp w.heap.size w' [.slice (some ⟨g0, 0, none⟩) (R * C) (R * C), .slice (some ⟨g1, 0, none⟩) (R * C) (R * C)] [zer (R * C), zer (R * C)] ∧ Ext w w'
set_option maxHeartbeats 2000000 in
set_option maxRecDepth 4000 in
theorem impl_emptyShared (R C : Nat) (hR : Side R) (hC : Side C) (w : World) : Calls Tryz.prog 115 #[.int .i64 R, .int .i64 C] w (ZeroSh R C w) := by
 have EM : Kept (∀ w, Calls Tryz.prog 66 #[.int .i64 R, .int .i64 C] w (ZeroPost R C w)) := ⟨fun w => impl_emptyMatrix R C hR.hi hC.hi w⟩
 unfold ZeroPost at EM
 unfold ZeroSh
 obtain ⟨L, hL⟩ : ∃ L, L = R * C := ⟨_, rfl⟩
 rw [← hL] at EM ⊢
 clear hL hR hC
 have S := kp (St.start w)
 go_enter Tryz.func115, Tryz.ntmps115
 go_wp2_with (first | (refine stiS S.o ?_; clear S; intro w9 S) | (refine aliS S.o ?_; clear S; intro b9 w9 S) | fail)
 (with_reducible refine (EM.out _).mono ?_)
 rintro e u9 ⟨g0, rfl, oZ, x9⟩
 replace S := kp (S.o.made oZ x9)
 clear x9 oZ
 go_wp2_with (first | (refine stiS S.o ?_; clear S; intro w9 S) | (refine aliS S.o ?_; clear S; intro b9 w9 S) | fail)
 (with_reducible refine (EM.out _).mono ?_)
 rintro e u9 ⟨g1, rfl, oZ, x9⟩
 replace S := kp (S.o.made oZ x9)
 clear x9 oZ
 go_wp2_with (first | (refine stiS S.o ?_; clear S; intro w9 S) | (refine aliS S.o ?_; clear S; intro b9 w9 S) | fail)
 exact bodyPost_ret (v := .agg #[.int .i64 R, .int .i64 C, .slice (some ⟨g0, 0, none⟩) L L, .int .i64 R, .int .i64 C, .slice (some ⟨g1, 0, none⟩) L L]) (by exact res1 rfl (by exact (rsiS S.o))) rfl ⟨_, _, rfl, S.o.grp.sel rfl [1, 0] (by decide) (by simp), S.o.ext⟩
set_option maxHeartbeats 2000000 in
set_option maxRecDepth 4000 in
theorem impl_sharesAt (r c p q : Int) (v u : Value) (x y : List Int) (j : Nat) (hx : j < x.length) (hy : j < y.length) (w : World) (h0 : Ints w v x) (h1 : Ints w u y) : Calls Tryz.prog 118 #[.agg #[.int .i64 r, .int .i64 c, v, .int .i64 p, .int .i64 q, u], .int .i64 j] w fun e w' => e = .returned (.agg #[.int .i64 (x.getD j 0), .int .i64 (y.getD j 0)]) ∧ Ext w w' := by
 obtain ⟨s0, n0, rfl, hm0, hc0⟩ := id h0
 obtain ⟨s1, n1, rfl, hm1, hc1⟩ := id h1
 clear hm0 hc0 hm1 hc1
 obtain ⟨b0, o0, rfl, l0, c0⟩ := at_len h0 rfl hx
 obtain ⟨b1, o1, rfl, l1, c1⟩ := at_len h1 rfl hy
 have C0 := kp (And.intro l0 c0)
 have C1 := kp (And.intro l1 c1)
 have z0 : (j : Int) < (x.length : Int) := by omega
 have z1 : (j : Int) < (y.length : Int) := by omega
 clear h0 h1 hx hy l0 l1 c0 c1
 generalize x.getD j 0 = a at *
 generalize y.getD j 0 = b at *
 have S := kp (St.start w)
 go_enter Tryz.func118, Tryz.ntmps118
 go_wp2_with (first | (refine ldIs S.o ?_) | (refine ldI S.o ?_) | (refine stiN S.o ?_; clear S; intro w9 S) | (refine aliN S.o ?_; clear S; intro b9 w9 S) | (refine bxiS S.o ?_; clear S; intro b9 w9 S) | fail)
 apply wp_region_zip [isv _, isv _, isv _, isv _, isv _, isv _, isv _, isv _, isv _, isv _, isv _, isv _, isv _] _ (by kernel_rfl)
 case hA => intro V; simp [putAll, dstOf, Act.put]; exact rfl
 case hsl => intro V; exact rfl
 case step =>
  intro V lo up w' hr
  have S := kp (S.o.quiet hr)
  simp only [zipOk, depsImp, isv, modeNg, newb, waits, Region.binds, List.map_nil, List.map_cons, List.headD_cons, List.nil_append, List.cons_append, List.filterMap_cons, List.filterMap_nil, ↓reduceIte, modeNe, Bool.false_eq_true, true_implies, List.getD_cons_zero, List.getD_cons_succ, and_true]
  refine ⟨?_, ?_, ?_, ?_, ?_, ?_, ?_, ?_, ?_, ?_, ?_, ?_, ?_⟩
  ·have d0 := (S.o.ext.cells.1 b0 (o0 + j) C0.out.1).trans C0.out.2
   have d1 := (S.o.ext.cells.1 b1 (o1 + j) C1.out.1).trans C1.out.2
   intros
   (try simp only [*])
   go_wp2_with (fail)
   refine sQ ?_
   exact eZ
  ·have d0 := (S.o.ext.cells.1 b0 (o0 + j) C0.out.1).trans C0.out.2
   have d1 := (S.o.ext.cells.1 b1 (o1 + j) C1.out.1).trans C1.out.2
   intros
   (try simp only [*])
   go_wp2_with (fail)
   refine sQ ?_
   exact eZ
  ·have d0 := (S.o.ext.cells.1 b0 (o0 + j) C0.out.1).trans C0.out.2
   have d1 := (S.o.ext.cells.1 b1 (o1 + j) C1.out.1).trans C1.out.2
   intros
   (try simp only [*])
   go_wp2_with (first | (refine ldIs S.o ?_) | fail)
   refine sQ ?_
   exact eZ
  ·have d0 := (S.o.ext.cells.1 b0 (o0 + j) C0.out.1).trans C0.out.2
   have d1 := (S.o.ext.cells.1 b1 (o1 + j) C1.out.1).trans C1.out.2
   intros
   (try simp only [*])
   go_wp2_with (fail)
   refine sQ ?_
   exact eZ
  ·have d0 := (S.o.ext.cells.1 b0 (o0 + j) C0.out.1).trans C0.out.2
   have d1 := (S.o.ext.cells.1 b1 (o1 + j) C1.out.1).trans C1.out.2
   intros
   (try simp only [*])
   go_wp2_with (first | (refine ldIs S.o ?_) | (refine ldI S.o ?_) | fail)
   refine sQ ?_
   exact eZ
  ·have d0 := (S.o.ext.cells.1 b0 (o0 + j) C0.out.1).trans C0.out.2
   have d1 := (S.o.ext.cells.1 b1 (o1 + j) C1.out.1).trans C1.out.2
   intros
   (try simp only [*])
   go_wp2_with (first | (refine ldI S.o ?_) | fail)
   refine sQ ?_
   exact eZ
  ·have d0 := (S.o.ext.cells.1 b0 (o0 + j) C0.out.1).trans C0.out.2
   have d1 := (S.o.ext.cells.1 b1 (o1 + j) C1.out.1).trans C1.out.2
   intros
   (try simp only [*])
   go_wp2_with (fail)
   refine sQ ?_
   exact eZ
  ·have d0 := (S.o.ext.cells.1 b0 (o0 + j) C0.out.1).trans C0.out.2
   have d1 := (S.o.ext.cells.1 b1 (o1 + j) C1.out.1).trans C1.out.2
   intros
   (try simp only [*])
   go_wp2_with (fail)
   refine sQ ?_
   exact eZ
  ·have d0 := (S.o.ext.cells.1 b0 (o0 + j) C0.out.1).trans C0.out.2
   have d1 := (S.o.ext.cells.1 b1 (o1 + j) C1.out.1).trans C1.out.2
   intros
   (try simp only [*])
   go_wp2_with (first | (refine ldIs S.o ?_) | fail)
   refine sQ ?_
   exact eZ
  ·have d0 := (S.o.ext.cells.1 b0 (o0 + j) C0.out.1).trans C0.out.2
   have d1 := (S.o.ext.cells.1 b1 (o1 + j) C1.out.1).trans C1.out.2
   intros
   (try simp only [*])
   go_wp2_with (fail)
   refine sQ ?_
   exact eZ
  ·have d0 := (S.o.ext.cells.1 b0 (o0 + j) C0.out.1).trans C0.out.2
   have d1 := (S.o.ext.cells.1 b1 (o1 + j) C1.out.1).trans C1.out.2
   intros
   (try simp only [*])
   go_wp2_with (first | (refine ldIs S.o ?_) | (refine ldI S.o ?_) | fail)
   refine sQ ?_
   exact eZ
  ·have d0 := (S.o.ext.cells.1 b0 (o0 + j) C0.out.1).trans C0.out.2
   have d1 := (S.o.ext.cells.1 b1 (o1 + j) C1.out.1).trans C1.out.2
   intros
   (try simp only [*])
   go_wp2_with (first | (refine ldI S.o ?_) | fail)
   refine sQ ?_
   exact eZ
  have d0 := (S.o.ext.cells.1 b0 (o0 + j) C0.out.1).trans C0.out.2
  have d1 := (S.o.ext.cells.1 b1 (o1 + j) C1.out.1).trans C1.out.2
  intros
  (try simp only [*])
  go_wp2_with (fail)
  refine sQ ?_
  exact eZ
 case hB => kernel_rfl
 intro V lo up w' hr hf ha
 simp only [factsOk, isv, modeNg, newb, List.map_nil, List.map_cons, List.headD_cons, and_true, Nat.zero_add, Nat.reduceAdd] at hf
 simp only [List.length_cons, List.length_nil, Nat.zero_add, Nat.reduceAdd, List.drop_succ_cons, List.drop_zero]
 obtain ⟨-, -, -, -, -, -, -, -, -, -, -, -, ⟨-, -, -, e12⟩⟩ := hf
 clear ha
 rw [e12]
 clear e12
 replace S := kp (S.o.quiet hr)
 clear hr
 go_wp2_with (first | (refine ldIs S.o ?_) | (refine ldI S.o ?_) | (refine stiN S.o ?_; clear S; intro w9 S) | (refine aliN S.o ?_; clear S; intro b9 w9 S) | (refine bxiS S.o ?_; clear S; intro b9 w9 S) | fail)
 exact bodyPost_ret (v := .agg #[.int .i64 a, .int .i64 b]) (by exact res1 rfl (by exact (rsiN S.o))) rfl ⟨rfl, S.o.ext⟩
set_option maxHeartbeats 2000000 in
set_option maxRecDepth 4000 in
theorem impl_put {g : Option (Nat × Nat)} {w0 w : World} {L : List Box} {vs : List Value} {xs : List (List Int)} (S0 : St g w0 w L vs xs) (r c p q : Int) (i0 i1 : Nat) (hne : ¬ i0 = i1) {b0 n0 c0 b1 n1 c1 : Nat} {x y : List Int} (e0 : vs[i0]? = some (.slice (some ⟨b0, 0, none⟩) n0 c0)) (f0 : xs[i0]? = some x) (l0 : x.length = n0)
 (e1 : vs[i1]? = some (.slice (some ⟨b1, 0, none⟩) n1 c1)) (f1 : xs[i1]? = some y) (l1 : y.length = n1) (j : Nat) (hx : j < n0) (hy : j < n1) (a b : Int) : Calls Tryz.prog 119 #[.agg #[.int .i64 r, .int .i64 c, .slice (some ⟨b0, 0, none⟩) n0 c0, .int .i64 p, .int .i64 q, .slice (some ⟨b1, 0, none⟩) n1 c1], .int .i64 j, .agg #[.int .i64 a, .int .i64 b]] w fun e w' =>
 e = .returned (.tuple #[]) ∧ St g w0 w' L vs ((xs.set i0 (x.set j a)).set i1 (y.set j b)) := by
 have z0 : (j : Int) < (n0 : Int) := by omega
 have z1 : (j : Int) < (n1 : Int) := by omega
 have S := kp S0
 clear S0
 go_enter Tryz.func119, Tryz.ntmps119
 go_wp2_with (first | (refine stL S.o i0 e0 f0 l0 j hx a _ _ rfl rfl rfl rfl rfl ?_; clear S; intro w9 S) | (refine stL S.o i1 e1 (by rw [List.getElem?_set, if_neg hne]; exact f1) l1 j hy b _ _ rfl rfl rfl rfl rfl ?_; clear S; intro w9 S) | (refine ldIs S.o ?_) | (refine ldI S.o ?_) | (refine bxiS S.o ?_; clear S; intro b9 w9 S) | (refine bxiN S.o ?_; clear S; intro b9 w9 S) | fail)
 exact bodyPost_end (v := .tuple #[]) (by first | rfl | simp [results, Tryz.results119]) rfl ⟨rfl, S.o.boxes ((List.sublist_cons_self _ _).trans (List.sublist_cons_self _ _))⟩
end Go.Proofs.YtkkdikoknegpjaaGreat
