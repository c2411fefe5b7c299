import Derived.Test.YtkkdikoknegpjaaGreatQD
import Derived.Test.YtkkdikoknegpjaaGreatSdX
import Derived.Test.YtkkdikoknegpjaaGreatKS
import Derived.Test.YtkkdikoknegpjaaGreatProdS
import Derived.Test.YtkkdikoknegpjaaGreatMapS
import Derived.Test.YtkkdikoknegpjaaGreatShB
import Derived.Test.YtkkdikoknegpjaaGreatQF
import Derived.Deep.Cut
namespace Go.Proofs.YtkkdikoknegpjaaGreat
set_option linter.unusedSimpArgs false
set_option linter.unusedVariables false
open Go.RowKit
theorem sdOk_eq (w b x : ShM) (s : Int) : sdOk w b x s = (b.ok && decide (b.f.c = 1) && decide (b.f.r = w.f.r) && pdOk w x s) := by
 unfold sdOk pdOk
 cases w.ok <;> cases b.ok <;> cases x.ok <;> cases seedOk s <;> cases decide (b.f.c = 1) <;> cases decide (b.f.r = w.f.r) <;> cases decide (w.f.c = x.f.r) <;> rfl
theorem St.aside {g : Option (Nat × Nat)} {w0 w w' : World} {L : List Box} {vs : List Value} {xs : List (List Int)} (S : St g w0 w L vs xs) {b : Nat} {cs : Array Value} {T : TypeId} (k : Blk w b cs T) (hT : T ≠ 3) (hb : w0.heap.size ≤ b) (hL : ∀ p ∈ L, p.b ≠ b) {n0 : Nat} {rs : List Nat} {Ts : List TypeId} (f : XS n0 rs Ts w w') (ho : ∀ q, q ≠ b → w'.heap[q]? = w.heap[q]?) : St g w0 w' L vs xs := by
 have f' : XS w.heap.size [b] [] w w' := ⟨f.os, f.tape, f.output, f.size, fun k hk => by
  by_cases e : k = b
  ·subst e; exact .inr (.inl ⟨by simp, hk⟩)
  exact .inl (ho k e)⟩
 exact S.xs f' (fun r hr => by rw [List.mem_singleton.1 hr]; exact hb) (fun p hp h => hL p hp (List.mem_singleton.1 h)) (fun v hv q hq h => S.grp.ne k hT v hv (by rw [hq, List.mem_singleton.1 h]))
theorem XS.of_turned {n0 : Nat} {rs : List Nat} {Ts : List TypeId} {v : Value} {w w' : World} (t : Turned v w w') (h : ∀ q, v.ownBlock = some q → q ∈ rs ∧ q < n0) : XS n0 rs Ts w w' := ⟨t.os, t.tape, t.output, t.size, fun k hk => by
 by_cases e : v.ownBlock = some k
 ·exact .inr (.inl (h k e))
 exact .inl (t.block k hk e)⟩
def shDS {n0 m : Nat} {rs : List Nat} {Ts : List TypeId} (hT : 3 ∉ Ts) (r0 c0 r1 c1 : Int) (x0 x1 : List Int) : OpSpec (XS n0 rs Ts) m :=
 ⟨[], fun _ u _ _ w => ∃ v0 v1, u = .agg #[.int .i64 r0, .int .i64 c0, v0, .int .i64 r1, .int .i64 c1, v1] ∧ Grp n0 w [v0, v1] [x0, x1], fun _ _ _ _ _ _ _ _ _ hx ⟨v0, v1, h1, h2⟩ => ⟨v0, v1, h1, h2.xs hx (Nat.le_refl _) hT⟩⟩
set_option maxHeartbeats 2000000 in
set_option maxRecDepth 4000 in
theorem spec_l13Wide (R C : Nat) (hR : Side R) (hC : Side C) (k : Int) (v u : Value) (xs ys : List Int) (hl : xs.length = R) (hl' : ys.length = R) (w : World) (h0 : Ints w v xs) (h1 : Ints w u ys) :
 Calls Tryz.prog 28 #[.agg #[.int .i64 R, .int .i64 k, v, .int .i64 R, .int .i64 k, u], .int .i64 C] w (WidePost R C xs ys w) := by
 unfold WidePost
 obtain ⟨p0, n0, rfl, hm9, hc9⟩ := id h0
 obtain ⟨p1, n1, rfl, hm8, hc8⟩ := id h1
 clear hm9 hc9 hm8 hc8
 have H0 := kp h0
 have H1 := kp h1
 clear h0 h1
 have CA := kp (fun (v : Value) (w' : World) (h : Ints w' v xs) => spec_l12Wide R C k hR hC v xs hl w' h)
 have CB := kp (fun (v : Value) (w' : World) (h : Ints w' v ys) => spec_l12Wide R C k hR hC v ys hl' w' h)
 clear hl hl'
 unfold MatPost at CA CB
 rw [show (wideM R C xs).r = (R : Int) from rfl, show (wideM R C xs).c = (C : Int) from rfl] at CA
 rw [show (wideM R C ys).r = (R : Int) from rfl, show (wideM R C ys).c = (C : Int) from rfl] at CB
 generalize (wideM R C xs).xs = as_ at *
 generalize (wideM R C ys).xs = bs at *
 have S := kp (St.start w)
 go_enter Tryz.func28, Tryz.ntmps28
 go_wp2_with (first | (refine ldiM S.o ?_) | (refine stiS S.o ?_; clear S; intro w9 S) | (refine aliS S.o ?_; clear S; intro b9 w9 S) | (refine bxiS S.o ?_; clear S; intro b9 w9 S) | fail)
 apply wp_region_zip [isv _, isv _, isv _, matR R C as_, isv _, isv _, isv _, matR R C bs, shU 3 7 R C] _ (by kernel_rfl)
 case hA => intro V; simp [putAll, dstOf, Act.put]; exact rfl
 case hsl => intro V; exact rfl
 case step =>
  intro V lo up w' hr
  have S := kp (S.o.quiet hr)
  simp only [zipOk, depsImp, isv, matR, shU, modeNg, newb, waits, Region.binds, List.map_nil, List.map_cons, List.headD_cons, List.nil_append, List.cons_append, List.filterMap_cons, List.filterMap_nil, ↓reduceIte, modeNe, Bool.false_eq_true, true_implies, List.getD_cons_zero, List.getD_cons_succ, and_true]
  refine ⟨?_, ?_, ?_, ?_, ?_, ?_, ?_, ?_, ?_⟩
  ·intros
   (try simp only [*])
   go_wp2_with (fail)
   refine sQ ?_
   exact eZ
  ·intros
   (try simp only [*])
   go_wp2_with (first | (refine ldiM S.o ?_) | fail)
   refine sQ ?_
   exact eZ
  ·intros
   (try simp only [*])
   go_wp2_with (fail)
   refine sQ ?_
   exact eZ
  ·intros
   (try simp only [*])
   go_wp2_with (fail)
   (with_reducible refine (CA.out _ _ (H0.out.keep S.o.ext)).mono ?_)
   rintro e w9 ⟨v9, rfl, o9, x9⟩
   go_wp2
   refine sQ ?_
   exact ⟨x9, v9, rfl, o9, fun q hq => (o9.block q hq).2⟩
  ·intros
   (try simp only [*])
   go_wp2_with (fail)
   refine sQ ?_
   exact eZ
  ·intros
   (try simp only [*])
   go_wp2_with (first | (refine ldiM S.o ?_) | fail)
   refine sQ ?_
   exact eZ
  ·intros
   (try simp only [*])
   go_wp2_with (fail)
   refine sQ ?_
   exact eZ
  ·intros
   (try simp only [*])
   go_wp2_with (fail)
   (with_reducible refine (CB.out _ _ (H1.out.keep S.o.ext)).mono ?_)
   rintro e w9 ⟨v9, rfl, o9, x9⟩
   go_wp2
   refine sQ ?_
   exact ⟨x9, v9, rfl, o9, fun q hq => (o9.block q hq).2⟩
  intros
  obtain ⟨va, ea, oa, ba⟩ := ‹∃ v, V 3 = _ ∧ Own _ _ v as_ ∧ _›
  obtain ⟨vb, eb, ob, bb⟩ := ‹∃ v, V 7 = _ ∧ Own _ _ v bs ∧ _›
  (try simp only [*])
  go_wp2_with (fail)
  refine sQ ?_
  exact ⟨Ext.refl _, va, vb, by first | exact ea | rfl, by first | exact eb | rfl, rfl⟩
 case hB => kernel_rfl
 intro V lo up w' hr hf ha
 simp only [factsOk, isv, matR, shU, modeNg, newb, List.map_nil, List.map_cons, List.headD_cons, and_true, Nat.zero_add, Nat.reduceAdd] at hf
 simp only [List.length_cons, List.length_nil, Nat.zero_add, Nat.reduceAdd, List.drop_succ_cons, List.drop_zero]
 obtain ⟨-, -, -, ⟨l3, -, -, v3, e3, o3, b3⟩, -, -, -, ⟨l7, -, -, v7, e7, o7, b7⟩, ⟨-, -, -, e8⟩⟩ := hf
 have AP : Apt v3 v7 := by
  have q := ha 3 7 (by simp) (by simp) (by decide)
  refine ⟨fun k h7 h3 => ?_, fun k h3 h7 => ?_⟩
  ·have a1 := (o3.block k h3).1
   have a2 := b3 k h3
   have a3 := (o7.block k h7).1
   have a4 := b7 k h7
   omega
  have a1 := (o3.block k h3).1
  have a2 := b3 k h3
  have a3 := (o7.block k h7).1
  have a4 := b7 k h7
  omega
 clear ha
 obtain ⟨va, vb, ea, eb, e8⟩ := e8
 rw [e3] at ea
 rw [e7] at eb
 cases ea
 cases eb
 rw [e8]
 clear e8 e3 e7
 have gg := Grp.two (o3.mono l3) (o7.mono l7) AP
 obtain ⟨pa, ma, hu9, -, -⟩ := id gg.o0.ints
 try simp only at hu9
 subst hu9
 obtain ⟨pb, mb, hu9, -, -⟩ := id gg.o1.ints
 try simp only at hu9
 subst hu9
 have S9 := S.o.madeG gg hr
 simp only [List.cons_append, List.nil_append] at S9
 replace S := kp S9
 clear S9 gg hr
 go_wp2_with (first | (refine ldiM S.o ?_) | (refine stiS S.o ?_; clear S; intro w9 S) | (refine aliS S.o ?_; clear S; intro b9 w9 S) | (refine bxiS S.o ?_; clear S; intro b9 w9 S) | fail)
 exact bodyPost_ret (v := .agg #[.int .i64 R, .int .i64 C, .slice pa as_.length ma, .int .i64 R, .int .i64 C, .slice pb bs.length mb]) (by exact res1 rfl (by exact (rsiS S.o))) rfl ⟨_, _, rfl, S.o.grp, S.o.ext⟩
theorem St.apart5 {g : Option (Nat × Nat)} {w0 w : World} {L : List Box} {v0 v1 v2 v3 v4 v5 : Value} {vs : List Value} {xs : List (List Int)} (S : St g w0 w L (v0 :: v1 :: v2 :: v3 :: v4 :: v5 :: vs) xs) (i : Nat) {v : Value} (hi : i ≠ 5) (h : (v0 :: v1 :: v2 :: v3 :: v4 :: v5 :: vs)[i]? = some v) : Apt v v5 := by
 obtain ⟨li, ei⟩ := List.getElem?_eq_some_iff.1 h
 have l5 : 5 < (v0 :: v1 :: v2 :: v3 :: v4 :: v5 :: vs).length := by simp
 have e5 : (v0 :: v1 :: v2 :: v3 :: v4 :: v5 :: vs)[5] = v5 := rfl
 have p := List.pairwise_iff_getElem.1 S.grp.apt
 rcases Nat.lt_or_gt_of_ne hi with h | h
 ·have a := p i 5 li l5 h
  rw [ei, e5] at a; exact a
 have a := p 5 i l5 li h
 rw [ei, e5] at a; exact a.symm
theorem St.neBox {g : Option (Nat × Nat)} {w0 w : World} {L : List Box} {vs : List Value} {xs : List (List Int)} (S : St g w0 w L vs xs) {b : Nat} {cs : Array Value} {T : TypeId} (k : Blk w b cs T) (hT : T ≠ 3) : ∀ v ∈ vs, v.ownBlock ≠ some b := S.grp.ne k hT
theorem St.lat {w : World} {L : List Box} (h : ∀ p ∈ L, Blk w p.b p.cs.toArray p.T) (hd : L.Pairwise fun p q => p.b ≠ q.b) : St none { w with heap := #[] } w L [] [] :=
 ⟨⟨rfl, rfl, rfl, Nat.zero_le _, fun _ hk => absurd hk (Nat.not_lt_zero _)⟩, fun _ _ h => (by cases h), fun p hp => ⟨h p hp, Nat.zero_le _⟩, hd, fun _ _ _ h => (by cases h), Grp.nil _ _⟩
set_option maxHeartbeats 8000000 in
set_option maxRecDepth 4000 in
theorem spec_SharedDense (r0 c0 r1 c1 r2 c2 r3 c3 r4 c4 r5 c5 : Int) (v0 v1 v2 v3 v4 v5 : Value) (x0 x1 x2 x3 x4 x5 : List Int) (s : Int) (w : World) (h0 : Arg w v0 x0) (h1 : Arg w v1 x1) (h2 : Arg w v2 x2) (h3 : Arg w v3 x3) (h4 : Arg w v4 x4) (h5 : Arg w v5 x5) : Calls Tryz.prog 6 #[.agg #[.int .i64 r0, .int .i64 c0, v0, .int .i64 r1, .int .i64 c1, v1], .agg #[.int .i64 r2, .int .i64 c2, v2, .int .i64 r3, .int .i64 c3, v3], .agg #[.int .i64 r4, .int .i64 c4, v4, .int .i64 r5, .int .i64 c5, v5], .int .i64 s] w (ShLN (sdSh ⟨⟨r0, c0, x0⟩, ⟨r1, c1, x1⟩⟩ ⟨⟨r2, c2, x2⟩, ⟨r3, c3, x3⟩⟩ ⟨⟨r4, c4, x4⟩, ⟨r5, c5, x5⟩⟩ s) (sdL ⟨⟨r0, c0, x0⟩, ⟨r1, c1, x1⟩⟩ ⟨⟨r2, c2, x2⟩, ⟨r3, c3, x3⟩⟩ ⟨⟨r4, c4, x4⟩, ⟨r5, c5, x5⟩⟩ s) (sdS ⟨⟨r0, c0, x0⟩, ⟨r1, c1, x1⟩⟩ ⟨⟨r2, c2, x2⟩, ⟨r3, c3, x3⟩⟩ ⟨⟨r4, c4, x4⟩, ⟨r5, c5, x5⟩⟩ s) w) := by
 cases g1 : ShM.ok ⟨⟨r2, c2, x2⟩, ⟨r3, c3, x3⟩⟩
 ·have hz : sdOk ⟨⟨r0, c0, x0⟩, ⟨r1, c1, x1⟩⟩ ⟨⟨r2, c2, x2⟩, ⟨r3, c3, x3⟩⟩ ⟨⟨r4, c4, x4⟩, ⟨r5, c5, x5⟩⟩ s = false := by rw [sdOk_eq]; simp only; simp only [g1, Bool.and_false, Bool.false_and]
  obtain ⟨z1, z2, z3⟩ := sdSh_bad hz
  rw [z1, z2, z3]
  clear hz z1 z2 z3
  unfold ShLN shZ matZ
  simp only
  have L0 := kp h0.len
  have L1 := kp h1.len
  have L2 := kp h2.len
  have L3 := kp h3.len
  have L4 := kp h4.len
  have L5 := kp h5.len
  have VB := kp (fun (v u : Value) (w' : World) (h : Ints w' v x2) (k : Ints w' u x3) => spec_SharedMatrixValid r2 c2 r3 c3 v u x2 x3 false g1 w' h k)
  clear g1
  obtain ⟨s0, n0, rfl, hm9, hc9⟩ := id h0.ints
  clear hm9 hc9
  have H0 := kp h0
  clear h0
  obtain ⟨s1, n1, rfl, hm9, hc9⟩ := id h1.ints
  clear hm9 hc9
  have H1 := kp h1
  clear h1
  obtain ⟨s2, n2, rfl, hm9, hc9⟩ := id h2.ints
  clear hm9 hc9
  have H2 := kp h2
  clear h2
  obtain ⟨s3, n3, rfl, hm9, hc9⟩ := id h3.ints
  clear hm9 hc9
  have H3 := kp h3
  clear h3
  obtain ⟨s4, n4, rfl, hm9, hc9⟩ := id h4.ints
  clear hm9 hc9
  have H4 := kp h4
  clear h4
  obtain ⟨s5, n5, rfl, hm9, hc9⟩ := id h5.ints
  clear hm9 hc9
  have H5 := kp h5
  clear h5
  have OW0 := kp (fun (w' : World) (hx : Ext w w') => (spec_l1OwnSharedMatrix r0 c0 r1 c1 _ _ x0 x1 w' (H0.out.keep hx) (H1.out.keep hx)).mono fun e w'' h => ShPost.grp (m := ⟨⟨r0, c0, x0⟩, ⟨r1, c1, x1⟩⟩) h)
  unfold ShGrp at OW0
  simp only at OW0
  have OW2 := kp (fun (w' : World) (hx : Ext w w') => (spec_l1OwnSharedMatrix r2 c2 r3 c3 _ _ x2 x3 w' (H2.out.keep hx) (H3.out.keep hx)).mono fun e w'' h => ShPost.grp (m := ⟨⟨r2, c2, x2⟩, ⟨r3, c3, x3⟩⟩) h)
  unfold ShGrp at OW2
  simp only at OW2
  have OW4 := kp (fun (w' : World) (hx : Ext w w') => (spec_l1OwnSharedMatrix r4 c4 r5 c5 _ _ x4 x5 w' (H4.out.keep hx) (H5.out.keep hx)).mono fun e w'' h => ShPost.grp (m := ⟨⟨r4, c4, x4⟩, ⟨r5, c5, x5⟩⟩) h)
  unfold ShGrp at OW4
  simp only at OW4
  have S := kp (St.start w)
  go_enter Tryz.func6, Tryz.ntmps6
  go_wp2_with (first | (refine bxiS (L := []) S.o ?_; clear S; intro b4 w9 S) | (refine bxiS (L := [_]) S.o ?_; clear S; intro b5 w9 S) | (refine bxiS (L := [_, _]) S.o ?_; clear S; intro b6 w9 S) | (refine aliS (L := [_, _, _]) S.o ?_; clear S; intro b8 w9 S) | (refine aliS (L := [_, _, _, _]) S.o ?_; clear S; intro b11 w9 S) | (refine aliS (L := [_, _, _, _, _]) S.o ?_; clear S; intro b14 w9 S) | (refine ldiS S.o ?_) | (refine ldI S.o ?_) | (refine stiS S.o ?_; clear S; intro w9 S) | (refine wW ?_; dsimp only) | fail)
  (with_reducible refine (OW0.out _ S.o.ext).mono ?_)
  rintro e u9 ⟨u0, u1, rfl, gg, x9⟩
  obtain ⟨p0, m0, hu9, -, -⟩ := id gg.o0.ints
  try simp only at hu9
  subst hu9
  obtain ⟨p1, m1, hu9, -, -⟩ := id gg.o1.ints
  try simp only at hu9
  subst hu9
  replace S := kp (S.o.made2 gg x9)
  clear gg x9
  go_wp2_with (first | (refine aliS (L := [_, _, _, _]) S.o ?_; clear S; intro b11 w9 S) | (refine aliS (L := [_, _, _, _, _]) S.o ?_; clear S; intro b14 w9 S) | (refine ldiS S.o ?_) | (refine ldI S.o ?_) | (refine stiS S.o ?_; clear S; intro w9 S) | (refine wW ?_; dsimp only) | fail)
  (with_reducible refine (OW2.out _ S.o.ext).mono ?_)
  rintro e u9 ⟨u2, u3, rfl, gg, x9⟩
  obtain ⟨p2, m2, hu9, -, -⟩ := id gg.o0.ints
  try simp only at hu9
  subst hu9
  obtain ⟨p3, m3, hu9, -, -⟩ := id gg.o1.ints
  try simp only at hu9
  subst hu9
  replace S := kp (S.o.made2 gg x9)
  clear gg x9
  go_wp2_with (first | (refine aliS (L := [_, _, _, _]) S.o ?_; clear S; intro b11 w9 S) | (refine aliS (L := [_, _, _, _, _]) S.o ?_; clear S; intro b14 w9 S) | (refine ldiS S.o ?_) | (refine ldI S.o ?_) | (refine stiS S.o ?_; clear S; intro w9 S) | (refine wW ?_; dsimp only) | fail)
  (with_reducible refine (OW4.out _ S.o.ext).mono ?_)
  rintro e u9 ⟨u4, u5, rfl, gg, x9⟩
  obtain ⟨p4, m4, hu9, -, -⟩ := id gg.o0.ints
  try simp only at hu9
  subst hu9
  obtain ⟨p5, m5, hu9, -, -⟩ := id gg.o1.ints
  try simp only at hu9
  subst hu9
  replace S := kp (S.o.made2 gg x9)
  clear gg x9
  go_wp2_with (first | (refine aliS (L := [_, _, _, _]) S.o ?_; clear S; intro b11 w9 S) | (refine aliS (L := [_, _, _, _, _]) S.o ?_; clear S; intro b14 w9 S) | (refine ldiS S.o ?_) | (refine ldI S.o ?_) | (refine stiS S.o ?_; clear S; intro w9 S) | (refine wW ?_; dsimp only) | fail)
  (with_reducible refine (VB.out _ _ _ (S.o.grp.get 2 rfl rfl).ints (S.o.grp.get 3 rfl rfl).ints).mono ?_)
  rintro e u9 ⟨rfl, x9⟩
  replace S := kp (S.o.quiet x9)
  clear x9
  go_upto_if 40 with (fail)
  go_wp2_with (first | (refine stiS (part := [.int .i64 0, .int .i64 0, .slice none 0 0, .int .i64 0, .int .i64 0, .slice none 0 0]) (hy := by kernel_rfl) (S.o.made (Own.empty (Nat.le_refl _) (Blk.new _ #[] 3) (by decide) rfl) ((Ext.refl _).alloc (.cells #[] 3))) ?_; clear S; intro w9 S) | (refine ldiS S.o ?_) | (refine ldI S.o ?_) | (refine wW ?_; dsimp only) | fail)
  exact bodyPost_ret (v := .tuple #[.agg #[.int .i64 0, .int .i64 0, .slice none 0 0, .int .i64 0, .int .i64 0, .slice none 0 0], _, .int .i64 0]) (by exact res3 rfl (by exact (rsiS S.o)) rfl rfl) rfl ⟨_, _, _, rfl, (Grp.zero3g S.o.grp.o0), S.o.ext⟩
 cases g2 : decide (c2 = 1)
 ·have hz : sdOk ⟨⟨r0, c0, x0⟩, ⟨r1, c1, x1⟩⟩ ⟨⟨r2, c2, x2⟩, ⟨r3, c3, x3⟩⟩ ⟨⟨r4, c4, x4⟩, ⟨r5, c5, x5⟩⟩ s = false := by rw [sdOk_eq]; simp only; simp only [g1, g2, Bool.and_false, Bool.false_and]
  obtain ⟨z1, z2, z3⟩ := sdSh_bad hz
  rw [z1, z2, z3]
  clear hz z1 z2 z3
  unfold ShLN shZ matZ
  simp only
  have L0 := kp h0.len
  have L1 := kp h1.len
  have L2 := kp h2.len
  have L3 := kp h3.len
  have L4 := kp h4.len
  have L5 := kp h5.len
  have VB := kp (fun (v u : Value) (w' : World) (h : Ints w' v x2) (k : Ints w' u x3) => spec_SharedMatrixValid r2 c2 r3 c3 v u x2 x3 true g1 w' h k)
  have e2 : (c2 == 1) = false := by simpa using g2
  have e2' : (c2 != 1) = true := by simpa using g2
  clear g1 g2
  obtain ⟨s0, n0, rfl, hm9, hc9⟩ := id h0.ints
  clear hm9 hc9
  have H0 := kp h0
  clear h0
  obtain ⟨s1, n1, rfl, hm9, hc9⟩ := id h1.ints
  clear hm9 hc9
  have H1 := kp h1
  clear h1
  obtain ⟨s2, n2, rfl, hm9, hc9⟩ := id h2.ints
  clear hm9 hc9
  have H2 := kp h2
  clear h2
  obtain ⟨s3, n3, rfl, hm9, hc9⟩ := id h3.ints
  clear hm9 hc9
  have H3 := kp h3
  clear h3
  obtain ⟨s4, n4, rfl, hm9, hc9⟩ := id h4.ints
  clear hm9 hc9
  have H4 := kp h4
  clear h4
  obtain ⟨s5, n5, rfl, hm9, hc9⟩ := id h5.ints
  clear hm9 hc9
  have H5 := kp h5
  clear h5
  have OW0 := kp (fun (w' : World) (hx : Ext w w') => (spec_l1OwnSharedMatrix r0 c0 r1 c1 _ _ x0 x1 w' (H0.out.keep hx) (H1.out.keep hx)).mono fun e w'' h => ShPost.grp (m := ⟨⟨r0, c0, x0⟩, ⟨r1, c1, x1⟩⟩) h)
  unfold ShGrp at OW0
  simp only at OW0
  have OW2 := kp (fun (w' : World) (hx : Ext w w') => (spec_l1OwnSharedMatrix r2 c2 r3 c3 _ _ x2 x3 w' (H2.out.keep hx) (H3.out.keep hx)).mono fun e w'' h => ShPost.grp (m := ⟨⟨r2, c2, x2⟩, ⟨r3, c3, x3⟩⟩) h)
  unfold ShGrp at OW2
  simp only at OW2
  have OW4 := kp (fun (w' : World) (hx : Ext w w') => (spec_l1OwnSharedMatrix r4 c4 r5 c5 _ _ x4 x5 w' (H4.out.keep hx) (H5.out.keep hx)).mono fun e w'' h => ShPost.grp (m := ⟨⟨r4, c4, x4⟩, ⟨r5, c5, x5⟩⟩) h)
  unfold ShGrp at OW4
  simp only at OW4
  have S := kp (St.start w)
  go_enter Tryz.func6, Tryz.ntmps6
  go_wp2_with (first | (refine bxiS (L := []) S.o ?_; clear S; intro b4 w9 S) | (refine bxiS (L := [_]) S.o ?_; clear S; intro b5 w9 S) | (refine bxiS (L := [_, _]) S.o ?_; clear S; intro b6 w9 S) | (refine aliS (L := [_, _, _]) S.o ?_; clear S; intro b8 w9 S) | (refine aliS (L := [_, _, _, _]) S.o ?_; clear S; intro b11 w9 S) | (refine aliS (L := [_, _, _, _, _]) S.o ?_; clear S; intro b14 w9 S) | (refine ldiS S.o ?_) | (refine ldI S.o ?_) | (refine stiS S.o ?_; clear S; intro w9 S) | (refine wW ?_; dsimp only) | fail)
  (with_reducible refine (OW0.out _ S.o.ext).mono ?_)
  rintro e u9 ⟨u0, u1, rfl, gg, x9⟩
  obtain ⟨p0, m0, hu9, -, -⟩ := id gg.o0.ints
  try simp only at hu9
  subst hu9
  obtain ⟨p1, m1, hu9, -, -⟩ := id gg.o1.ints
  try simp only at hu9
  subst hu9
  replace S := kp (S.o.made2 gg x9)
  clear gg x9
  go_wp2_with (first | (refine aliS (L := [_, _, _, _]) S.o ?_; clear S; intro b11 w9 S) | (refine aliS (L := [_, _, _, _, _]) S.o ?_; clear S; intro b14 w9 S) | (refine ldiS S.o ?_) | (refine ldI S.o ?_) | (refine stiS S.o ?_; clear S; intro w9 S) | (refine wW ?_; dsimp only) | fail)
  (with_reducible refine (OW2.out _ S.o.ext).mono ?_)
  rintro e u9 ⟨u2, u3, rfl, gg, x9⟩
  obtain ⟨p2, m2, hu9, -, -⟩ := id gg.o0.ints
  try simp only at hu9
  subst hu9
  obtain ⟨p3, m3, hu9, -, -⟩ := id gg.o1.ints
  try simp only at hu9
  subst hu9
  replace S := kp (S.o.made2 gg x9)
  clear gg x9
  go_wp2_with (first | (refine aliS (L := [_, _, _, _]) S.o ?_; clear S; intro b11 w9 S) | (refine aliS (L := [_, _, _, _, _]) S.o ?_; clear S; intro b14 w9 S) | (refine ldiS S.o ?_) | (refine ldI S.o ?_) | (refine stiS S.o ?_; clear S; intro w9 S) | (refine wW ?_; dsimp only) | fail)
  (with_reducible refine (OW4.out _ S.o.ext).mono ?_)
  rintro e u9 ⟨u4, u5, rfl, gg, x9⟩
  obtain ⟨p4, m4, hu9, -, -⟩ := id gg.o0.ints
  try simp only at hu9
  subst hu9
  obtain ⟨p5, m5, hu9, -, -⟩ := id gg.o1.ints
  try simp only at hu9
  subst hu9
  replace S := kp (S.o.made2 gg x9)
  clear gg x9
  go_wp2_with (first | (refine aliS (L := [_, _, _, _]) S.o ?_; clear S; intro b11 w9 S) | (refine aliS (L := [_, _, _, _, _]) S.o ?_; clear S; intro b14 w9 S) | (refine ldiS S.o ?_) | (refine ldI S.o ?_) | (refine stiS S.o ?_; clear S; intro w9 S) | (refine wW ?_; dsimp only) | fail)
  (with_reducible refine (VB.out _ _ _ (S.o.grp.get 2 rfl rfl).ints (S.o.grp.get 3 rfl rfl).ints).mono ?_)
  rintro e u9 ⟨rfl, x9⟩
  replace S := kp (S.o.quiet x9)
  clear x9
  obtain ⟨a0, a1, a2, a3, a4, a5⟩ := (show Blk u9 b5 #[.int .i64 r2, .int .i64 c2, .slice p2 x2.length m2, .int .i64 r3, .int .i64 c3, .slice p3 x3.length m3] 30 from (S.o.box ⟨b5, 30, [.int .i64 r2, .int .i64 c2, .slice p2 x2.length m2, .int .i64 r3, .int .i64 c3, .slice p3 x3.length m3]⟩ (by simp)).1).sixC
  go_upto_if 40 with (fail)
  clear a0 a1 a2 a3 a4 a5
  go_wp2_with (first | (refine stiS (part := [.int .i64 0, .int .i64 0, .slice none 0 0, .int .i64 0, .int .i64 0, .slice none 0 0]) (hy := by kernel_rfl) (S.o.made (Own.empty (Nat.le_refl _) (Blk.new _ #[] 3) (by decide) rfl) ((Ext.refl _).alloc (.cells #[] 3))) ?_; clear S; intro w9 S) | (refine ldiS S.o ?_) | (refine ldI S.o ?_) | (refine wW ?_; dsimp only) | fail)
  exact bodyPost_ret (v := .tuple #[.agg #[.int .i64 0, .int .i64 0, .slice none 0 0, .int .i64 0, .int .i64 0, .slice none 0 0], _, .int .i64 0]) (by exact res3 rfl (by exact (rsiS S.o)) rfl rfl) rfl ⟨_, _, _, rfl, (Grp.zero3g S.o.grp.o0), S.o.ext⟩
 cases g3 : decide (r2 = r0)
 ·have hz : sdOk ⟨⟨r0, c0, x0⟩, ⟨r1, c1, x1⟩⟩ ⟨⟨r2, c2, x2⟩, ⟨r3, c3, x3⟩⟩ ⟨⟨r4, c4, x4⟩, ⟨r5, c5, x5⟩⟩ s = false := by rw [sdOk_eq]; simp only; simp only [g1, g2, g3, Bool.and_false, Bool.false_and]
  obtain ⟨z1, z2, z3⟩ := sdSh_bad hz
  rw [z1, z2, z3]
  clear hz z1 z2 z3
  unfold ShLN shZ matZ
  simp only
  have L0 := kp h0.len
  have L1 := kp h1.len
  have L2 := kp h2.len
  have L3 := kp h3.len
  have L4 := kp h4.len
  have L5 := kp h5.len
  have VB := kp (fun (v u : Value) (w' : World) (h : Ints w' v x2) (k : Ints w' u x3) => spec_SharedMatrixValid r2 c2 r3 c3 v u x2 x3 true g1 w' h k)
  have e3 : (r2 == r0) = false := by simpa using g3
  have e3' : (r2 != r0) = true := by simpa using g3
  obtain rfl : c2 = 1 := by simpa using g2
  clear g1 g2 g3
  obtain ⟨s0, n0, rfl, hm9, hc9⟩ := id h0.ints
  clear hm9 hc9
  have H0 := kp h0
  clear h0
  obtain ⟨s1, n1, rfl, hm9, hc9⟩ := id h1.ints
  clear hm9 hc9
  have H1 := kp h1
  clear h1
  obtain ⟨s2, n2, rfl, hm9, hc9⟩ := id h2.ints
  clear hm9 hc9
  have H2 := kp h2
  clear h2
  obtain ⟨s3, n3, rfl, hm9, hc9⟩ := id h3.ints
  clear hm9 hc9
  have H3 := kp h3
  clear h3
  obtain ⟨s4, n4, rfl, hm9, hc9⟩ := id h4.ints
  clear hm9 hc9
  have H4 := kp h4
  clear h4
  obtain ⟨s5, n5, rfl, hm9, hc9⟩ := id h5.ints
  clear hm9 hc9
  have H5 := kp h5
  clear h5
  have OW0 := kp (fun (w' : World) (hx : Ext w w') => (spec_l1OwnSharedMatrix r0 c0 r1 c1 _ _ x0 x1 w' (H0.out.keep hx) (H1.out.keep hx)).mono fun e w'' h => ShPost.grp (m := ⟨⟨r0, c0, x0⟩, ⟨r1, c1, x1⟩⟩) h)
  unfold ShGrp at OW0
  simp only at OW0
  have OW2 := kp (fun (w' : World) (hx : Ext w w') => (spec_l1OwnSharedMatrix r2 1 r3 c3 _ _ x2 x3 w' (H2.out.keep hx) (H3.out.keep hx)).mono fun e w'' h => ShPost.grp (m := ⟨⟨r2, 1, x2⟩, ⟨r3, c3, x3⟩⟩) h)
  unfold ShGrp at OW2
  simp only at OW2
  have OW4 := kp (fun (w' : World) (hx : Ext w w') => (spec_l1OwnSharedMatrix r4 c4 r5 c5 _ _ x4 x5 w' (H4.out.keep hx) (H5.out.keep hx)).mono fun e w'' h => ShPost.grp (m := ⟨⟨r4, c4, x4⟩, ⟨r5, c5, x5⟩⟩) h)
  unfold ShGrp at OW4
  simp only at OW4
  have S := kp (St.start w)
  go_enter Tryz.func6, Tryz.ntmps6
  go_wp2_with (first | (refine bxiS (L := []) S.o ?_; clear S; intro b4 w9 S) | (refine bxiS (L := [_]) S.o ?_; clear S; intro b5 w9 S) | (refine bxiS (L := [_, _]) S.o ?_; clear S; intro b6 w9 S) | (refine aliS (L := [_, _, _]) S.o ?_; clear S; intro b8 w9 S) | (refine aliS (L := [_, _, _, _]) S.o ?_; clear S; intro b11 w9 S) | (refine aliS (L := [_, _, _, _, _]) S.o ?_; clear S; intro b14 w9 S) | (refine ldiS S.o ?_) | (refine ldI S.o ?_) | (refine stiS S.o ?_; clear S; intro w9 S) | (refine wW ?_; dsimp only) | fail)
  (with_reducible refine (OW0.out _ S.o.ext).mono ?_)
  rintro e u9 ⟨u0, u1, rfl, gg, x9⟩
  obtain ⟨p0, m0, hu9, -, -⟩ := id gg.o0.ints
  try simp only at hu9
  subst hu9
  obtain ⟨p1, m1, hu9, -, -⟩ := id gg.o1.ints
  try simp only at hu9
  subst hu9
  replace S := kp (S.o.made2 gg x9)
  clear gg x9
  go_wp2_with (first | (refine aliS (L := [_, _, _, _]) S.o ?_; clear S; intro b11 w9 S) | (refine aliS (L := [_, _, _, _, _]) S.o ?_; clear S; intro b14 w9 S) | (refine ldiS S.o ?_) | (refine ldI S.o ?_) | (refine stiS S.o ?_; clear S; intro w9 S) | (refine wW ?_; dsimp only) | fail)
  (with_reducible refine (OW2.out _ S.o.ext).mono ?_)
  rintro e u9 ⟨u2, u3, rfl, gg, x9⟩
  obtain ⟨p2, m2, hu9, -, -⟩ := id gg.o0.ints
  try simp only at hu9
  subst hu9
  obtain ⟨p3, m3, hu9, -, -⟩ := id gg.o1.ints
  try simp only at hu9
  subst hu9
  replace S := kp (S.o.made2 gg x9)
  clear gg x9
  go_wp2_with (first | (refine aliS (L := [_, _, _, _]) S.o ?_; clear S; intro b11 w9 S) | (refine aliS (L := [_, _, _, _, _]) S.o ?_; clear S; intro b14 w9 S) | (refine ldiS S.o ?_) | (refine ldI S.o ?_) | (refine stiS S.o ?_; clear S; intro w9 S) | (refine wW ?_; dsimp only) | fail)
  (with_reducible refine (OW4.out _ S.o.ext).mono ?_)
  rintro e u9 ⟨u4, u5, rfl, gg, x9⟩
  obtain ⟨p4, m4, hu9, -, -⟩ := id gg.o0.ints
  try simp only at hu9
  subst hu9
  obtain ⟨p5, m5, hu9, -, -⟩ := id gg.o1.ints
  try simp only at hu9
  subst hu9
  replace S := kp (S.o.made2 gg x9)
  clear gg x9
  go_wp2_with (first | (refine aliS (L := [_, _, _, _]) S.o ?_; clear S; intro b11 w9 S) | (refine aliS (L := [_, _, _, _, _]) S.o ?_; clear S; intro b14 w9 S) | (refine ldiS S.o ?_) | (refine ldI S.o ?_) | (refine stiS S.o ?_; clear S; intro w9 S) | (refine wW ?_; dsimp only) | fail)
  (with_reducible refine (VB.out _ _ _ (S.o.grp.get 2 rfl rfl).ints (S.o.grp.get 3 rfl rfl).ints).mono ?_)
  rintro e u9 ⟨rfl, x9⟩
  replace S := kp (S.o.quiet x9)
  clear x9
  go_upto_if 40 with (first | (refine ldiS S.o ?_) | (refine ldI S.o ?_) | (refine wW ?_; dsimp only) | fail)
  go_wp2_with (first | (refine stiS (part := [.int .i64 0, .int .i64 0, .slice none 0 0, .int .i64 0, .int .i64 0, .slice none 0 0]) (hy := by kernel_rfl) (S.o.made (Own.empty (Nat.le_refl _) (Blk.new _ #[] 3) (by decide) rfl) ((Ext.refl _).alloc (.cells #[] 3))) ?_; clear S; intro w9 S) | (refine ldiS S.o ?_) | (refine ldI S.o ?_) | (refine wW ?_; dsimp only) | fail)
  exact bodyPost_ret (v := .tuple #[.agg #[.int .i64 0, .int .i64 0, .slice none 0 0, .int .i64 0, .int .i64 0, .slice none 0 0], _, .int .i64 0]) (by exact res3 rfl (by exact (rsiS S.o)) rfl rfl) rfl ⟨_, _, _, rfl, (Grp.zero3g S.o.grp.o0), S.o.ext⟩
 cases g4 : pdOk ⟨⟨r0, c0, x0⟩, ⟨r1, c1, x1⟩⟩ ⟨⟨r4, c4, x4⟩, ⟨r5, c5, x5⟩⟩ s
 ·have hz : sdOk ⟨⟨r0, c0, x0⟩, ⟨r1, c1, x1⟩⟩ ⟨⟨r2, c2, x2⟩, ⟨r3, c3, x3⟩⟩ ⟨⟨r4, c4, x4⟩, ⟨r5, c5, x5⟩⟩ s = false := by rw [sdOk_eq]; simp only; simp only [g1, g2, g3, g4, Bool.and_false, Bool.false_and]
  obtain ⟨z1, z2, z3⟩ := sdSh_bad hz
  rw [z1, z2, z3]
  clear hz z1 z2 z3
  unfold ShLN shZ matZ
  simp only
  have L0 := kp h0.len
  have L1 := kp h1.len
  have L2 := kp h2.len
  have L3 := kp h3.len
  have L4 := kp h4.len
  have L5 := kp h5.len
  have VB := kp (fun (v u : Value) (w' : World) (h : Ints w' v x2) (k : Ints w' u x3) => spec_SharedMatrixValid r2 c2 r3 c3 v u x2 x3 true g1 w' h k)
  have PS := kp (fun (v0 v1 v4 v5 : Value) (w' : World) (h0 : Arg w' v0 x0) (h1 : Arg w' v1 x1) (h4 : Arg w' v4 x4) (h5 : Arg w' v5 x5) => spec_ProductShared r0 c0 r1 c1 r4 c4 r5 c5 v0 v1 v4 v5 x0 x1 x4 x5 s w' h0 h1 h4 h5)
  unfold ShLN at PS
  obtain ⟨z1, z2, z3⟩ := pdSh_bad g4
  rw [z1, z2, z3] at PS
  clear z1 z2 z3
  unfold shZ matZ at PS
  simp only at PS
  obtain rfl : c2 = 1 := by simpa using g2
  obtain rfl : r2 = r0 := by simpa using g3
  clear g1 g2 g3 g4
  obtain ⟨s0, n0, rfl, hm9, hc9⟩ := id h0.ints
  clear hm9 hc9
  have H0 := kp h0
  clear h0
  obtain ⟨s1, n1, rfl, hm9, hc9⟩ := id h1.ints
  clear hm9 hc9
  have H1 := kp h1
  clear h1
  obtain ⟨s2, n2, rfl, hm9, hc9⟩ := id h2.ints
  clear hm9 hc9
  have H2 := kp h2
  clear h2
  obtain ⟨s3, n3, rfl, hm9, hc9⟩ := id h3.ints
  clear hm9 hc9
  have H3 := kp h3
  clear h3
  obtain ⟨s4, n4, rfl, hm9, hc9⟩ := id h4.ints
  clear hm9 hc9
  have H4 := kp h4
  clear h4
  obtain ⟨s5, n5, rfl, hm9, hc9⟩ := id h5.ints
  clear hm9 hc9
  have H5 := kp h5
  clear h5
  have OW0 := kp (fun (w' : World) (hx : Ext w w') => (spec_l1OwnSharedMatrix r2 c0 r1 c1 _ _ x0 x1 w' (H0.out.keep hx) (H1.out.keep hx)).mono fun e w'' h => ShPost.grp (m := ⟨⟨r2, c0, x0⟩, ⟨r1, c1, x1⟩⟩) h)
  unfold ShGrp at OW0
  simp only at OW0
  have OW2 := kp (fun (w' : World) (hx : Ext w w') => (spec_l1OwnSharedMatrix r2 1 r3 c3 _ _ x2 x3 w' (H2.out.keep hx) (H3.out.keep hx)).mono fun e w'' h => ShPost.grp (m := ⟨⟨r2, 1, x2⟩, ⟨r3, c3, x3⟩⟩) h)
  unfold ShGrp at OW2
  simp only at OW2
  have OW4 := kp (fun (w' : World) (hx : Ext w w') => (spec_l1OwnSharedMatrix r4 c4 r5 c5 _ _ x4 x5 w' (H4.out.keep hx) (H5.out.keep hx)).mono fun e w'' h => ShPost.grp (m := ⟨⟨r4, c4, x4⟩, ⟨r5, c5, x5⟩⟩) h)
  unfold ShGrp at OW4
  simp only at OW4
  have S := kp (St.start w)
  go_enter Tryz.func6, Tryz.ntmps6
  go_wp2_with (first | (refine bxiS (L := []) S.o ?_; clear S; intro b4 w9 S) | (refine bxiS (L := [_]) S.o ?_; clear S; intro b5 w9 S) | (refine bxiS (L := [_, _]) S.o ?_; clear S; intro b6 w9 S) | (refine aliS (L := [_, _, _]) S.o ?_; clear S; intro b8 w9 S) | (refine aliS (L := [_, _, _, _]) S.o ?_; clear S; intro b11 w9 S) | (refine aliS (L := [_, _, _, _, _]) S.o ?_; clear S; intro b14 w9 S) | (refine ldiS S.o ?_) | (refine ldI S.o ?_) | (refine stiS S.o ?_; clear S; intro w9 S) | (refine wW ?_; dsimp only) | fail)
  (with_reducible refine (OW0.out _ S.o.ext).mono ?_)
  rintro e u9 ⟨u0, u1, rfl, gg, x9⟩
  obtain ⟨p0, m0, hu9, -, -⟩ := id gg.o0.ints
  try simp only at hu9
  subst hu9
  obtain ⟨p1, m1, hu9, -, -⟩ := id gg.o1.ints
  try simp only at hu9
  subst hu9
  replace S := kp (S.o.made2 gg x9)
  clear gg x9
  go_wp2_with (first | (refine aliS (L := [_, _, _, _]) S.o ?_; clear S; intro b11 w9 S) | (refine aliS (L := [_, _, _, _, _]) S.o ?_; clear S; intro b14 w9 S) | (refine ldiS S.o ?_) | (refine ldI S.o ?_) | (refine stiS S.o ?_; clear S; intro w9 S) | (refine wW ?_; dsimp only) | fail)
  (with_reducible refine (OW2.out _ S.o.ext).mono ?_)
  rintro e u9 ⟨u2, u3, rfl, gg, x9⟩
  obtain ⟨p2, m2, hu9, -, -⟩ := id gg.o0.ints
  try simp only at hu9
  subst hu9
  obtain ⟨p3, m3, hu9, -, -⟩ := id gg.o1.ints
  try simp only at hu9
  subst hu9
  replace S := kp (S.o.made2 gg x9)
  clear gg x9
  go_wp2_with (first | (refine aliS (L := [_, _, _, _]) S.o ?_; clear S; intro b11 w9 S) | (refine aliS (L := [_, _, _, _, _]) S.o ?_; clear S; intro b14 w9 S) | (refine ldiS S.o ?_) | (refine ldI S.o ?_) | (refine stiS S.o ?_; clear S; intro w9 S) | (refine wW ?_; dsimp only) | fail)
  (with_reducible refine (OW4.out _ S.o.ext).mono ?_)
  rintro e u9 ⟨u4, u5, rfl, gg, x9⟩
  obtain ⟨p4, m4, hu9, -, -⟩ := id gg.o0.ints
  try simp only at hu9
  subst hu9
  obtain ⟨p5, m5, hu9, -, -⟩ := id gg.o1.ints
  try simp only at hu9
  subst hu9
  replace S := kp (S.o.made2 gg x9)
  clear gg x9
  go_wp2_with (first | (refine aliS (L := [_, _, _, _]) S.o ?_; clear S; intro b11 w9 S) | (refine aliS (L := [_, _, _, _, _]) S.o ?_; clear S; intro b14 w9 S) | (refine ldiS S.o ?_) | (refine ldI S.o ?_) | (refine stiS S.o ?_; clear S; intro w9 S) | (refine wW ?_; dsimp only) | fail)
  (with_reducible refine (VB.out _ _ _ (S.o.grp.get 2 rfl rfl).ints (S.o.grp.get 3 rfl rfl).ints).mono ?_)
  rintro e u9 ⟨rfl, x9⟩
  replace S := kp (S.o.quiet x9)
  clear x9
  go_upto_if 40 with (first | (refine ldiS S.o ?_) | (refine ldI S.o ?_) | (refine wW ?_; dsimp only) | fail)
  go_wp2_with (first | (refine aliS (L := [_, _, _, _]) S.o ?_; clear S; intro b11 w9 S) | (refine aliS (L := [_, _, _, _, _]) S.o ?_; clear S; intro b14 w9 S) | (refine ldiS S.o ?_) | (refine ldI S.o ?_) | (refine stiS S.o ?_; clear S; intro w9 S) | (refine wW ?_; dsimp only) | fail)
  (with_reducible refine (PS.out _ _ _ _ _ ((S.o.grp.get 4 rfl rfl).arg L0.out) ((S.o.grp.get 5 rfl rfl).arg L1.out) ((S.o.grp.get 0 rfl rfl).arg L4.out) ((S.o.grp.get 1 rfl rfl).arg L5.out)).mono ?_)
  rintro e u9 ⟨y0, y1, y2, rfl, gg, x9⟩
  obtain ⟨py0, my0, hu9, -, -⟩ := id gg.o0.ints
  try simp only at hu9
  subst hu9
  obtain ⟨py1, my1, hu9, -, -⟩ := id gg.o1.ints
  try simp only at hu9
  subst hu9
  obtain ⟨py2, my2, hu9, -, -⟩ := id gg.o2.ints
  try simp only at hu9
  subst hu9
  replace S := kp (S.o.made3 gg x9)
  clear gg x9
  go_wp2_with (first | (refine aliS (L := [_, _, _, _]) S.o ?_; clear S; intro b11 w9 S) | (refine aliS (L := [_, _, _, _, _]) S.o ?_; clear S; intro b14 w9 S) | (refine stiS (part := [.int .i64 0, .int .i64 0, .slice none 0 0, .int .i64 0, .int .i64 0, .slice none 0 0]) (hy := by kernel_rfl) (S.o.made (Own.empty (Nat.le_refl _) (Blk.new _ #[] 3) (by decide) rfl) ((Ext.refl _).alloc (.cells #[] 3))) ?_; clear S; intro w9 S) | (refine ldiS S.o ?_) | (refine ldI S.o ?_) | (refine stiS S.o ?_; clear S; intro w9 S) | (refine wW ?_; dsimp only) | fail)
  exact bodyPost_ret (v := .tuple #[.agg #[.int .i64 0, .int .i64 0, .slice none 0 0, .int .i64 0, .int .i64 0, .slice none 0 0], _, .int .i64 0]) (by exact res3 rfl (by exact (rsiS S.o)) rfl rfl) rfl ⟨_, _, _, rfl, (Grp.zero3g S.o.grp.o0), S.o.ext⟩
 have hz : sdOk ⟨⟨r0, c0, x0⟩, ⟨r1, c1, x1⟩⟩ ⟨⟨r2, c2, x2⟩, ⟨r3, c3, x3⟩⟩ ⟨⟨r4, c4, x4⟩, ⟨r5, c5, x5⟩⟩ s = true := by rw [sdOk_eq]; simp only; simp only [g1, g2, g3, g4, Bool.and_self]
 obtain ⟨z1, z2, z3⟩ := sdSh_ok hz
 rw [z1, z2, z3]
 have NZ := (pd_mul g4).2.1
 have PL := kp (pd_lenS ⟨⟨r0, c0, x0⟩, ⟨r1, c1, x1⟩⟩ ⟨⟨r4, c4, x4⟩, ⟨r5, c5, x5⟩⟩ s)
 have LZ := kp (And.intro (pd_len ⟨⟨r0, c0, x0⟩, ⟨r1, c1, x1⟩⟩ ⟨⟨r4, c4, x4⟩, ⟨r5, c5, x5⟩⟩ s) (mp_lens 1 (pdSh ⟨⟨r0, c0, x0⟩, ⟨r1, c1, x1⟩⟩ ⟨⟨r4, c4, x4⟩, ⟨r5, c5, x5⟩⟩ s) (pdS ⟨⟨r0, c0, x0⟩, ⟨r1, c1, x1⟩⟩ ⟨⟨r4, c4, x4⟩, ⟨r5, c5, x5⟩⟩ s)))
 clear z1 z2 z3
 unfold ShLN sdM sdO
 have L0 := kp h0.len
 have L1 := kp h1.len
 have L2 := kp h2.len
 have L3 := kp h3.len
 have L4 := kp h4.len
 have L5 := kp h5.len
 have VB := kp (fun (v u : Value) (w' : World) (h : Ints w' v x2) (k : Ints w' u x3) => spec_SharedMatrixValid r2 c2 r3 c3 v u x2 x3 true g1 w' h k)
 have sides : r2 = r3 ∧ c2 = c3 ∧ mOk r2 c2 x2 = true ∧ mOk r3 c3 x3 = true := by
  have a := g1
  simp only [ShM.ok, Mat.ok, sameS, Bool.and_eq_true, decide_eq_true_eq] at a
  exact ⟨a.2.1, a.2.2, a.1.1, a.1.2⟩
 have px : mOk r0 c0 x0 = true ∧ mOk r4 c4 x4 = true := by
  have a := g4
  simp only [pdOk, ShM.ok, Mat.ok, Bool.and_eq_true] at a
  exact ⟨a.1.1.1.1.1, a.1.1.2.1.1⟩
 obtain rfl : c2 = 1 := by simpa using g2
 obtain rfl : r2 = r0 := by simpa using g3
 obtain ⟨rfl, rfl, m2, m3⟩ := sides
 obtain ⟨R, K, rfl, eK, R1, R5, -, -, -, -, -⟩ := mOk_nat px.1
 obtain ⟨K', C, eK', rfl, -, -, C1, C5, -, -, -⟩ := mOk_nat px.2
 have hR : Side R := ⟨R1, R5⟩
 have hC : Side C := ⟨C1, C5⟩
 have e2 : x2.length = R := by obtain ⟨_, _, h3, _⟩ := mOk_parts m2; omega
 have e3 : x3.length = R := by obtain ⟨_, _, h3, _⟩ := mOk_parts m3; omega
 clear m2 m3 px eK eK' R1 R5 C1 C5 g1 g2 g3 g4 hz
 (try simp only [Int.toNat_natCast])
 have PS := kp (fun (v0 v1 v4 v5 : Value) (w' : World) (h0 : Arg w' v0 x0) (h1 : Arg w' v1 x1) (h4 : Arg w' v4 x4) (h5 : Arg w' v5 x5) => spec_ProductShared R c0 r1 c1 r4 C r5 c5 v0 v1 v4 v5 x0 x1 x4 x5 s w' h0 h1 h4 h5)
 unfold ShLN at PS
 have MS := kp (fun (m : ShM) (z : Int) (v u : Value) (w' : World) (h : Arg w' v m.f.xs) (k : Arg w' u m.s.xs) => spec_MapShared 1 m.f.r m.f.c m.s.r m.s.c v u m.f.xs m.s.xs z w' h k)
 unfold ShLN at MS
 have WD := kp (fun (v u : Value) (w' : World) (h : Ints w' v x2) (k : Ints w' u x3) => spec_l13Wide R C hR hC 1 v u x2 x3 e2 e3 w' h k)
 unfold WidePost at WD
 have LO := kp (show (wideM R C x2).xs.length ≤ 1048576 ∧ (wideM R C x3).xs.length ≤ 1048576 by have := Nat.mul_le_mul hR.hi hC.hi; unfold wideM; simp only [mapTo_len]; omega)
 clear hR hC e2 e3
 replace MS := kp (MS.out (pdSh ⟨⟨R, c0, x0⟩, ⟨r1, c1, x1⟩⟩ ⟨⟨r4, C, x4⟩, ⟨r5, c5, x5⟩⟩ s) (pdS ⟨⟨R, c0, x0⟩, ⟨r1, c1, x1⟩⟩ ⟨⟨r4, C, x4⟩, ⟨r5, c5, x5⟩⟩ s))
 rw [show wideM R C x2 = ⟨R, C, (wideM R C x2).xs⟩ from rfl, show wideM R C x3 = ⟨R, C, (wideM R C x3).xs⟩ from rfl]
 generalize (wideM R C x2).xs = o1 at *
 generalize (wideM R C x3).xs = o2 at *
 change Kept (∀ (v u : Value) (w' : World), Arg w' v (pdSh ⟨⟨R, c0, x0⟩, ⟨r1, c1, x1⟩⟩ ⟨⟨r4, C, x4⟩, ⟨r5, c5, x5⟩⟩ s).f.xs → Arg w' u (pdSh ⟨⟨R, c0, x0⟩, ⟨r1, c1, x1⟩⟩ ⟨⟨r4, C, x4⟩, ⟨r5, c5, x5⟩⟩ s).s.xs → Calls Tryz.prog 26 #[.int .i64 1, .agg #[.int .i64 (pdSh ⟨⟨R, c0, x0⟩, ⟨r1, c1, x1⟩⟩ ⟨⟨r4, C, x4⟩, ⟨r5, c5, x5⟩⟩ s).f.r, .int .i64 (pdSh ⟨⟨R, c0, x0⟩, ⟨r1, c1, x1⟩⟩ ⟨⟨r4, C, x4⟩, ⟨r5, c5, x5⟩⟩ s).f.c, v, .int .i64 (pdSh ⟨⟨R, c0, x0⟩, ⟨r1, c1, x1⟩⟩ ⟨⟨r4, C, x4⟩, ⟨r5, c5, x5⟩⟩ s).s.r, .int .i64 (pdSh ⟨⟨R, c0, x0⟩, ⟨r1, c1, x1⟩⟩ ⟨⟨r4, C, x4⟩, ⟨r5, c5, x5⟩⟩ s).s.c, u], .int .i64 (pdS ⟨⟨R, c0, x0⟩, ⟨r1, c1, x1⟩⟩ ⟨⟨r4, C, x4⟩, ⟨r5, c5, x5⟩⟩ s)] w' fun e w'_1 => ∃ v0 v1 v2, e = .returned (.tuple #[.agg #[.int .i64 (mpSh 1 (pdSh ⟨⟨R, c0, x0⟩, ⟨r1, c1, x1⟩⟩ ⟨⟨r4, C, x4⟩, ⟨r5, c5, x5⟩⟩ s) (pdS ⟨⟨R, c0, x0⟩, ⟨r1, c1, x1⟩⟩ ⟨⟨r4, C, x4⟩, ⟨r5, c5, x5⟩⟩ s)).f.r, .int .i64 (mpSh 1 (pdSh ⟨⟨R, c0, x0⟩, ⟨r1, c1, x1⟩⟩ ⟨⟨r4, C, x4⟩, ⟨r5, c5, x5⟩⟩ s) (pdS ⟨⟨R, c0, x0⟩, ⟨r1, c1, x1⟩⟩ ⟨⟨r4, C, x4⟩, ⟨r5, c5, x5⟩⟩ s)).f.c, v0, .int .i64 (mpSh 1 (pdSh ⟨⟨R, c0, x0⟩, ⟨r1, c1, x1⟩⟩ ⟨⟨r4, C, x4⟩, ⟨r5, c5, x5⟩⟩ s) (pdS ⟨⟨R, c0, x0⟩, ⟨r1, c1, x1⟩⟩ ⟨⟨r4, C, x4⟩, ⟨r5, c5, x5⟩⟩ s)).s.r, .int .i64 (mpSh 1 (pdSh ⟨⟨R, c0, x0⟩, ⟨r1, c1, x1⟩⟩ ⟨⟨r4, C, x4⟩, ⟨r5, c5, x5⟩⟩ s) (pdS ⟨⟨R, c0, x0⟩, ⟨r1, c1, x1⟩⟩ ⟨⟨r4, C, x4⟩, ⟨r5, c5, x5⟩⟩ s)).s.c, v1], v2, .int .i64 (mpS 1 (pdSh ⟨⟨R, c0, x0⟩, ⟨r1, c1, x1⟩⟩ ⟨⟨r4, C, x4⟩, ⟨r5, c5, x5⟩⟩ s) (pdS ⟨⟨R, c0, x0⟩, ⟨r1, c1, x1⟩⟩ ⟨⟨r4, C, x4⟩, ⟨r5, c5, x5⟩⟩ s))]) ∧ Grp w'.heap.size w'_1 [v0, v1, v2] [(mpSh 1 (pdSh ⟨⟨R, c0, x0⟩, ⟨r1, c1, x1⟩⟩ ⟨⟨r4, C, x4⟩, ⟨r5, c5, x5⟩⟩ s) (pdS ⟨⟨R, c0, x0⟩, ⟨r1, c1, x1⟩⟩ ⟨⟨r4, C, x4⟩, ⟨r5, c5, x5⟩⟩ s)).f.xs, (mpSh 1 (pdSh ⟨⟨R, c0, x0⟩, ⟨r1, c1, x1⟩⟩ ⟨⟨r4, C, x4⟩, ⟨r5, c5, x5⟩⟩ s) (pdS ⟨⟨R, c0, x0⟩, ⟨r1, c1, x1⟩⟩ ⟨⟨r4, C, x4⟩, ⟨r5, c5, x5⟩⟩ s)).s.xs, mpO 1 (pdSh ⟨⟨R, c0, x0⟩, ⟨r1, c1, x1⟩⟩ ⟨⟨r4, C, x4⟩, ⟨r5, c5, x5⟩⟩ s) (pdS ⟨⟨R, c0, x0⟩, ⟨r1, c1, x1⟩⟩ ⟨⟨r4, C, x4⟩, ⟨r5, c5, x5⟩⟩ s)] ∧ Ext w' w'_1) at MS
 generalize mpSh 1 (pdSh ⟨⟨R, c0, x0⟩, ⟨r1, c1, x1⟩⟩ ⟨⟨r4, C, x4⟩, ⟨r5, c5, x5⟩⟩ s) (pdS ⟨⟨R, c0, x0⟩, ⟨r1, c1, x1⟩⟩ ⟨⟨r4, C, x4⟩, ⟨r5, c5, x5⟩⟩ s) = DM at *
 generalize mpO 1 (pdSh ⟨⟨R, c0, x0⟩, ⟨r1, c1, x1⟩⟩ ⟨⟨r4, C, x4⟩, ⟨r5, c5, x5⟩⟩ s) (pdS ⟨⟨R, c0, x0⟩, ⟨r1, c1, x1⟩⟩ ⟨⟨r4, C, x4⟩, ⟨r5, c5, x5⟩⟩ s) = l2 at *
 generalize mpS 1 (pdSh ⟨⟨R, c0, x0⟩, ⟨r1, c1, x1⟩⟩ ⟨⟨r4, C, x4⟩, ⟨r5, c5, x5⟩⟩ s) (pdS ⟨⟨R, c0, x0⟩, ⟨r1, c1, x1⟩⟩ ⟨⟨r4, C, x4⟩, ⟨r5, c5, x5⟩⟩ s) = N2 at *
 generalize pdSh ⟨⟨R, c0, x0⟩, ⟨r1, c1, x1⟩⟩ ⟨⟨r4, C, x4⟩, ⟨r5, c5, x5⟩⟩ s = DP at *
 generalize pdL ⟨⟨R, c0, x0⟩, ⟨r1, c1, x1⟩⟩ ⟨⟨r4, C, x4⟩, ⟨r5, c5, x5⟩⟩ s = l1 at *
 generalize pdS ⟨⟨R, c0, x0⟩, ⟨r1, c1, x1⟩⟩ ⟨⟨r4, C, x4⟩, ⟨r5, c5, x5⟩⟩ s = N1 at *
 obtain ⟨⟨fr, fc, fs⟩, ⟨sr, sc, ss⟩⟩ := DP
 obtain ⟨⟨gr, gc, gs_⟩, ⟨tr, tc, ts⟩⟩ := DM
 simp only at PS MS LZ PL ⊢
 have AD := kp (fun (v u v' u' : Value) (w' : World) (h : Arg w' v gs_) (k : Arg w' u ts) (h' : Arg w' v' o1) (k' : Arg w' u' o2) => (spec_AddSharedMatrices gr gc v gs_ tr tc u ts R C v' o1 R C u' o2 w' h k h' k').mono fun e w'' q => ShPost.grp q)
 unfold ShGrp at AD
 generalize addSh ⟨⟨gr, gc, gs_⟩, ⟨tr, tc, ts⟩⟩ ⟨⟨R, C, o1⟩, ⟨R, C, o2⟩⟩ = DD at *
 obtain ⟨⟨dr, dc, ds⟩, ⟨er, ec, es_⟩⟩ := DD
 simp only at AD ⊢
 have n0 : (N1 == 0) = false := by simp; omega
 clear NZ
 obtain ⟨s0, n0, rfl, hm9, hc9⟩ := id h0.ints
 clear hm9 hc9
 have H0 := kp h0
 clear h0
 obtain ⟨s1, n1, rfl, hm9, hc9⟩ := id h1.ints
 clear hm9 hc9
 have H1 := kp h1
 clear h1
 obtain ⟨s2, n2, rfl, hm9, hc9⟩ := id h2.ints
 clear hm9 hc9
 have H2 := kp h2
 clear h2
 obtain ⟨s3, n3, rfl, hm9, hc9⟩ := id h3.ints
 clear hm9 hc9
 have H3 := kp h3
 clear h3
 obtain ⟨s4, n4, rfl, hm9, hc9⟩ := id h4.ints
 clear hm9 hc9
 have H4 := kp h4
 clear h4
 obtain ⟨s5, n5, rfl, hm9, hc9⟩ := id h5.ints
 clear hm9 hc9
 have H5 := kp h5
 clear h5
 have OW0 := kp (fun (w' : World) (hx : Ext w w') => (spec_l1OwnSharedMatrix R c0 r1 c1 _ _ x0 x1 w' (H0.out.keep hx) (H1.out.keep hx)).mono fun e w'' h => ShPost.grp (m := ⟨⟨R, c0, x0⟩, ⟨r1, c1, x1⟩⟩) h)
 unfold ShGrp at OW0
 simp only at OW0
 have OW2 := kp (fun (w' : World) (hx : Ext w w') => (spec_l1OwnSharedMatrix R 1 R 1 _ _ x2 x3 w' (H2.out.keep hx) (H3.out.keep hx)).mono fun e w'' h => ShPost.grp (m := ⟨⟨R, 1, x2⟩, ⟨R, 1, x3⟩⟩) h)
 unfold ShGrp at OW2
 simp only at OW2
 have OW4 := kp (fun (w' : World) (hx : Ext w w') => (spec_l1OwnSharedMatrix r4 C r5 c5 _ _ x4 x5 w' (H4.out.keep hx) (H5.out.keep hx)).mono fun e w'' h => ShPost.grp (m := ⟨⟨r4, C, x4⟩, ⟨r5, c5, x5⟩⟩) h)
 unfold ShGrp at OW4
 simp only at OW4
 have S := kp (St.start w)
 go_enter Tryz.func6, Tryz.ntmps6
 go_wp2_with (first | (refine bxiS (L := []) S.o ?_; clear S; intro b4 w9 S) | (refine bxiS (L := [_]) S.o ?_; clear S; intro b5 w9 S) | (refine bxiS (L := [_, _]) S.o ?_; clear S; intro b6 w9 S) | (refine aliS (L := [_, _, _]) S.o ?_; clear S; intro b8 w9 S) | (refine aliS (L := [_, _, _, _]) S.o ?_; clear S; intro b11 w9 S) | (refine aliS (L := [_, _, _, _, _]) S.o ?_; clear S; intro b14 w9 S) | (refine ldiS S.o ?_) | (refine ldI S.o ?_) | (refine stiS S.o ?_; clear S; intro w9 S) | (refine wW ?_; dsimp only) | fail)
 (with_reducible refine (OW0.out _ S.o.ext).mono ?_)
 rintro e u9 ⟨u0, u1, rfl, gg, x9⟩
 obtain ⟨p0, m0, hu9, -, -⟩ := id gg.o0.ints
 try simp only at hu9
 subst hu9
 obtain ⟨p1, m1, hu9, -, -⟩ := id gg.o1.ints
 try simp only at hu9
 subst hu9
 replace S := kp (S.o.made2 gg x9)
 clear gg x9
 go_wp2_with (first | (refine aliS (L := [_, _, _, _]) S.o ?_; clear S; intro b11 w9 S) | (refine aliS (L := [_, _, _, _, _]) S.o ?_; clear S; intro b14 w9 S) | (refine ldiS S.o ?_) | (refine ldI S.o ?_) | (refine stiS S.o ?_; clear S; intro w9 S) | (refine wW ?_; dsimp only) | fail)
 (with_reducible refine (OW2.out _ S.o.ext).mono ?_)
 rintro e u9 ⟨u2, u3, rfl, gg, x9⟩
 obtain ⟨p2, m2, hu9, -, -⟩ := id gg.o0.ints
 try simp only at hu9
 subst hu9
 obtain ⟨p3, m3, hu9, -, -⟩ := id gg.o1.ints
 try simp only at hu9
 subst hu9
 replace S := kp (S.o.made2 gg x9)
 clear gg x9
 go_wp2_with (first | (refine aliS (L := [_, _, _, _]) S.o ?_; clear S; intro b11 w9 S) | (refine aliS (L := [_, _, _, _, _]) S.o ?_; clear S; intro b14 w9 S) | (refine ldiS S.o ?_) | (refine ldI S.o ?_) | (refine stiS S.o ?_; clear S; intro w9 S) | (refine wW ?_; dsimp only) | fail)
 (with_reducible refine (OW4.out _ S.o.ext).mono ?_)
 rintro e u9 ⟨u4, u5, rfl, gg, x9⟩
 obtain ⟨p4, m4, hu9, -, -⟩ := id gg.o0.ints
 try simp only at hu9
 subst hu9
 obtain ⟨p5, m5, hu9, -, -⟩ := id gg.o1.ints
 try simp only at hu9
 subst hu9
 replace S := kp (S.o.made2 gg x9)
 clear gg x9
 go_wp2_with (first | (refine aliS (L := [_, _, _, _]) S.o ?_; clear S; intro b11 w9 S) | (refine aliS (L := [_, _, _, _, _]) S.o ?_; clear S; intro b14 w9 S) | (refine ldiS S.o ?_) | (refine ldI S.o ?_) | (refine stiS S.o ?_; clear S; intro w9 S) | (refine wW ?_; dsimp only) | fail)
 (with_reducible refine (VB.out _ _ _ (S.o.grp.get 2 rfl rfl).ints (S.o.grp.get 3 rfl rfl).ints).mono ?_)
 rintro e u9 ⟨rfl, x9⟩
 replace S := kp (S.o.quiet x9)
 clear x9
 go_upto_if 40 with (first | (refine ldiS S.o ?_) | (refine ldI S.o ?_) | (refine wW ?_; dsimp only) | fail)
 go_wp2_with (first | (refine aliS (L := [_, _, _, _]) S.o ?_; clear S; intro b11 w9 S) | (refine aliS (L := [_, _, _, _, _]) S.o ?_; clear S; intro b14 w9 S) | (refine ldiS S.o ?_) | (refine ldI S.o ?_) | (refine stiS S.o ?_; clear S; intro w9 S) | (refine wW ?_; dsimp only) | fail)
 (with_reducible refine (PS.out _ _ _ _ _ ((S.o.grp.get 4 rfl rfl).arg L0.out) ((S.o.grp.get 5 rfl rfl).arg L1.out) ((S.o.grp.get 0 rfl rfl).arg L4.out) ((S.o.grp.get 1 rfl rfl).arg L5.out)).mono ?_)
 rintro e u9 ⟨y0, y1, y2, rfl, gg, x9⟩
 obtain ⟨py0, my0, hu9, -, -⟩ := id gg.o0.ints
 try simp only at hu9
 subst hu9
 obtain ⟨py1, my1, hu9, -, -⟩ := id gg.o1.ints
 try simp only at hu9
 subst hu9
 obtain ⟨py2, my2, hu9, -, -⟩ := id gg.o2.ints
 try simp only at hu9
 subst hu9
 replace S := kp (S.o.made3 gg x9)
 clear gg x9
 go_wp2_with (first | (refine aliS (L := [_, _, _, _]) S.o ?_; clear S; intro b11 w9 S) | (refine aliS (L := [_, _, _, _, _]) S.o ?_; clear S; intro b14 w9 S) | (refine ldiS S.o ?_) | (refine ldI S.o ?_) | (refine stiS S.o ?_; clear S; intro w9 S) | (refine wW ?_; dsimp only) | fail)
 (with_reducible refine (MS.out _ _ _ ((S.o.grp.get 0 rfl rfl).arg PL.out.1) ((S.o.grp.get 1 rfl rfl).arg PL.out.2)).mono ?_)
 rintro e u9 ⟨z0, z1, z2, rfl, gg, x9⟩
 obtain ⟨pz0, mz0, hu9, -, -⟩ := id gg.o0.ints
 try simp only at hu9
 subst hu9
 obtain ⟨pz1, mz1, hu9, -, -⟩ := id gg.o1.ints
 try simp only at hu9
 subst hu9
 obtain ⟨pz2, mz2, hu9, -, -⟩ := id gg.o2.ints
 try simp only at hu9
 subst hu9
 replace S := kp (S.o.made3 gg x9)
 clear gg x9
 go_wp2_with (first | (refine aliS (L := [_, _, _, _]) S.o ?_; clear S; intro b11 w9 S) | (refine aliS (L := [_, _, _, _, _]) S.o ?_; clear S; intro b14 w9 S) | (refine ldiS S.o ?_) | (refine ldI S.o ?_) | (refine stiS S.o ?_; clear S; intro w9 S) | (refine wW ?_; dsimp only) | fail)
 have D1 := kp (show Del [⟨b14, 30, [.int .i64 gr, .int .i64 gc, .slice pz0 gs_.length mz0, .int .i64 tr, .int .i64 tc, .slice pz1 ts.length mz1]⟩, ⟨b11, 30, [.int .i64 fr, .int .i64 fc, .slice py0 fs.length my0, .int .i64 sr, .int .i64 sc, .slice py1 ss.length my1]⟩, ⟨b8, 30, [.int .i64 0, .int .i64 0, .slice none 0 0, .int .i64 0, .int .i64 0, .slice none 0 0]⟩, ⟨b6, 30, [.int .i64 r4, .int .i64 C, .slice p4 x4.length m4, .int .i64 r5, .int .i64 c5, .slice p5 x5.length m5]⟩, ⟨b5, 30, [.int .i64 R, .int .i64 1, .slice p2 x2.length m2, .int .i64 R, .int .i64 1, .slice p3 x3.length m3]⟩, ⟨b4, 30, [.int .i64 R, .int .i64 c0, .slice p0 x0.length m0, .int .i64 r1, .int .i64 c1, .slice p1 x1.length m1]⟩] b8 30 [.int .i64 0, .int .i64 0, .slice none 0 0, .int .i64 0, .int .i64 0, .slice none 0 0] [⟨b14, 30, [.int .i64 gr, .int .i64 gc, .slice pz0 gs_.length mz0, .int .i64 tr, .int .i64 tc, .slice pz1 ts.length mz1]⟩, ⟨b11, 30, [.int .i64 fr, .int .i64 fc, .slice py0 fs.length my0, .int .i64 sr, .int .i64 sc, .slice py1 ss.length my1]⟩, ⟨b6, 30, [.int .i64 r4, .int .i64 C, .slice p4 x4.length m4, .int .i64 r5, .int .i64 c5, .slice p5 x5.length m5]⟩, ⟨b5, 30, [.int .i64 R, .int .i64 1, .slice p2 x2.length m2, .int .i64 R, .int .i64 1, .slice p3 x3.length m3]⟩, ⟨b4, 30, [.int .i64 R, .int .i64 c0, .slice p0 x0.length m0, .int .i64 r1, .int .i64 c1, .slice p1 x1.length m1]⟩] from (by repeat (first | exact Del.head | apply Del.tail)))
 obtain ⟨S1, A1⟩ := S.o.del D1.out
 clear S D1
 have S := kp S1
 have AL := kp A1
 clear S1 A1
 have OB : Kept (∀ q, (Value.slice py2 l1.length my2).ownBlock = some q → q < w9.heap.size ∧ q ≠ b8) := ⟨fun q hq => ⟨((S.o.grp.get 5 rfl rfl).block q hq).2, fun e => AL.out.sep (.slice py2 l1.length my2) (by simp) (by rw [hq, e])⟩⟩
 apply wp_region_zipV (XS.rel _ (b8 :: (Value.ownBlock (.slice py2 l1.length my2)).toList) []) (fun L V w' => (L 9 = false → St none w w' [⟨b14, 30, [.int .i64 gr, .int .i64 gc, .slice pz0 gs_.length mz0, .int .i64 tr, .int .i64 tc, .slice pz1 ts.length mz1]⟩, ⟨b11, 30, [.int .i64 fr, .int .i64 fc, .slice py0 fs.length my0, .int .i64 sr, .int .i64 sc, .slice py1 ss.length my1]⟩, ⟨b6, 30, [.int .i64 r4, .int .i64 C, .slice p4 x4.length m4, .int .i64 r5, .int .i64 c5, .slice p5 x5.length m5]⟩, ⟨b5, 30, [.int .i64 R, .int .i64 1, .slice p2 x2.length m2, .int .i64 R, .int .i64 1, .slice p3 x3.length m3]⟩, ⟨b4, 30, [.int .i64 R, .int .i64 c0, .slice p0 x0.length m0, .int .i64 r1, .int .i64 c1, .slice p1 x1.length m1]⟩] [.slice pz0 gs_.length mz0, .slice pz1 ts.length mz1, .slice pz2 l2.length mz2, .slice py0 fs.length my0, .slice py1 ss.length my1, .slice py2 l1.length my2, .slice p4 x4.length m4, .slice p5 x5.length m5, .slice p2 x2.length m2, .slice p3 x3.length m3, .slice p0 x0.length m0, .slice p1 x1.length m1] [gs_, ts, l2, fs, ss, l1, x4, x5, x2, x3, x0, x1]) ∧ (L 9 = true → L 6 = true ∧ ∃ u0 u1 p' m', V 6 = .agg #[.int .i64 dr, .int .i64 dc, u0, .int .i64 er, .int .i64 ec, u1] ∧ V 9 = .slice p' (l1.length + l2.length) m' ∧ St none w w' [⟨b14, 30, [.int .i64 gr, .int .i64 gc, .slice pz0 gs_.length mz0, .int .i64 tr, .int .i64 tc, .slice pz1 ts.length mz1]⟩, ⟨b11, 30, [.int .i64 fr, .int .i64 fc, .slice py0 fs.length my0, .int .i64 sr, .int .i64 sc, .slice py1 ss.length my1]⟩, ⟨b6, 30, [.int .i64 r4, .int .i64 C, .slice p4 x4.length m4, .int .i64 r5, .int .i64 c5, .slice p5 x5.length m5]⟩, ⟨b5, 30, [.int .i64 R, .int .i64 1, .slice p2 x2.length m2, .int .i64 R, .int .i64 1, .slice p3 x3.length m3]⟩, ⟨b4, 30, [.int .i64 R, .int .i64 c0, .slice p0 x0.length m0, .int .i64 r1, .int .i64 c1, .slice p1 x1.length m1]⟩] (u0 :: u1 :: [.slice pz0 gs_.length mz0, .slice pz1 ts.length mz1, .slice pz2 l2.length mz2, .slice py0 fs.length my0, .slice py1 ss.length my1, .slice p' (l1.length + l2.length) m', .slice p4 x4.length m4, .slice p5 x5.length m5, .slice p2 x2.length m2, .slice p3 x3.length m3, .slice p0 x0.length m0, .slice p1 x1.length m1]) (ds :: es_ :: [gs_, ts, l2, fs, ss, (l1 ++ l2), x4, x5, x2, x3, x0, x1])) ∧ (L 11 = true → L 9 = true) ∧ Px b8 11 30 #[.int .i64 0, .int .i64 0, .slice none 0 0, .int .i64 0, .int .i64 0, .slice none 0 0] (fun _ cs => V 6 = .agg cs) L w') [isv _, isv _, isv _, isv _, isv _, shDS (by decide) R C R C o1 o2, shDS (by decide) dr dc er ec ds es_, isv _, isv _, anyV, isv _, anyV, sameV 9] _ ?hJ (by kernel_rfl)
 case hJ => exact ⟨fun _ => S.o.quiet ⟨rfl, rfl, rfl, Nat.le_refl _, fun _ _ => rfl⟩, fun h => (by cases h), fun h => (by cases h), ⟨fun _ => AL.out.blk.keep ⟨rfl, rfl, rfl, Nat.le_refl _, fun _ _ => rfl⟩, fun h => (by cases h)⟩⟩
 case hA => intro V; simp [putAll, dstOf, Act.put]; exact rfl
 case hsl => intro V; exact rfl
 case step =>
  intro V lo up w' hr L hj
  have BS : ∀ p ∈ ([⟨b14, 30, [.int .i64 gr, .int .i64 gc, .slice pz0 gs_.length mz0, .int .i64 tr, .int .i64 tc, .slice pz1 ts.length mz1]⟩, ⟨b11, 30, [.int .i64 fr, .int .i64 fc, .slice py0 fs.length my0, .int .i64 sr, .int .i64 sc, .slice py1 ss.length my1]⟩, ⟨b6, 30, [.int .i64 r4, .int .i64 C, .slice p4 x4.length m4, .int .i64 r5, .int .i64 c5, .slice p5 x5.length m5]⟩, ⟨b5, 30, [.int .i64 R, .int .i64 1, .slice p2 x2.length m2, .int .i64 R, .int .i64 1, .slice p3 x3.length m3]⟩, ⟨b4, 30, [.int .i64 R, .int .i64 c0, .slice p0 x0.length m0, .int .i64 r1, .int .i64 c1, .slice p1 x1.length m1]⟩] : List Box), Blk w' p.b p.cs.toArray p.T := fun p hp => by
   have k := (S.o.box p hp).1
   unfold Blk
   rw [hr.old k.lt k.lt (fun h => by
    simp only [List.mem_cons] at h
    rcases h with e | h
    ·exact AL.out.dis p hp e
    exact S.o.sep p hp (.slice py2 l1.length my2) (by simp) (Option.mem_toList.1 h))]
   exact k
  have OI : ∀ i (v : Value) (x : List Int), i ≠ 5 → [.slice pz0 gs_.length mz0, .slice pz1 ts.length mz1, .slice pz2 l2.length mz2, .slice py0 fs.length my0, .slice py1 ss.length my1, .slice py2 l1.length my2, .slice p4 x4.length m4, .slice p5 x5.length m5, .slice p2 x2.length m2, .slice p3 x3.length m3, .slice p0 x0.length m0, .slice p1 x1.length m1][i]? = some v → [gs_, ts, l2, fs, ss, l1, x4, x5, x2, x3, x0, x1][i]? = some x → Own w.heap.size w' v x := fun i v x h5 a b => (S.o.grp.get i a b).blocks (fun q hq => hr.old ((S.o.grp.get i a b).block q hq).2 ((S.o.grp.get i a b).block q hq).2 (fun h => by
   simp only [List.mem_cons] at h
   rcases h with e | h
   ·exact AL.out.sep v (List.mem_iff_getElem?.2 ⟨i, a⟩) (by rw [hq, e])
   exact (S.o.apart5 i h5 a).l q (Option.mem_toList.1 h) hq))
  have SL := kp (St.lat BS S.o.dis)
  simp only [zipOkV, depsImp, isv, shDS, sameV, anyV, modeNg, newb, waits, Region.binds, List.map_nil, List.map_cons, List.headD_cons, List.nil_append, List.cons_append, List.filterMap_cons, List.filterMap_nil, ↓reduceIte, modeNe, Bool.false_eq_true, true_implies, List.getD_cons_zero, List.getD_cons_succ, and_true, Nat.zero_add, Nat.reduceAdd]
  refine ⟨?_, ?_, ?_, ?_, ?_, ?_, ?_, ?_, ?_, ?_, ?_, ?_, ?_⟩
  ·intro hl hw hd
   intros
   (try simp only [*])
   go_wp2_with (first | (refine ldiS SL.out ?_) | fail)
   refine sS ?_
   exact ⟨XS.refl _, rfl, (by simpa [upd] using hj.1), (by simpa [upd] using hj.2.1), (by simpa [upd] using hj.2.2.1), hj.2.2.2.ext (fun _ h => by simpa [upd] using h) (fun _ => rfl) (by decide)⟩
  ·intro hl hw hd
   intros
   (try simp only [*])
   go_wp2_with (first | (refine ldiS SL.out ?_) | fail)
   refine sS ?_
   exact ⟨XS.refl _, rfl, (by simpa [upd] using hj.1), (by simpa [upd] using hj.2.1), (by simpa [upd] using hj.2.2.1), hj.2.2.2.ext (fun _ h => by simpa [upd] using h) (fun _ => rfl) (by decide)⟩
  ·intro hl hw hd
   intros
   (try simp only [*])
   go_wp2_with (fail)
   refine sS ?_
   exact ⟨XS.refl _, rfl, (by simpa [upd] using hj.1), (by simpa [upd] using hj.2.1), (by simpa [upd] using hj.2.2.1), hj.2.2.2.ext (fun _ h => by simpa [upd] using h) (fun _ => rfl) (by decide)⟩
  ·intro hl hw hd
   intros
   (try simp only [*])
   go_wp2_with (fail)
   refine sS ?_
   exact ⟨XS.refl _, rfl, (by simpa [upd] using hj.1), (by simpa [upd] using hj.2.1), (by simpa [upd] using hj.2.2.1), hj.2.2.2.ext (fun _ h => by simpa [upd] using h) (fun _ => rfl) (by decide)⟩
  ·intro hl hw hd
   intros
   (try simp only [*])
   go_wp2_with (first | (refine ldI SL.out ?_) | fail)
   refine sS ?_
   exact ⟨XS.refl _, rfl, (by simpa [upd] using hj.1), (by simpa [upd] using hj.2.1), (by simpa [upd] using hj.2.2.1), hj.2.2.2.ext (fun _ h => by simpa [upd] using h) (fun _ => rfl) (by decide)⟩
  ·intro hl hw hd
   intros
   (try simp only [*])
   go_wp2_with (fail)
   (with_reducible refine (WD.out _ _ _ (OI 8 _ _ (by decide) rfl rfl).ints (OI 9 _ _ (by decide) rfl rfl).ints).mono ?_)
   rintro e w8 ⟨u0, u1, rfl, gg, x9⟩
   go_wp2
   refine sS ?_
   exact ⟨XS.of_ext x9, ⟨u0, u1, rfl, gg.mono hr.size⟩, (fun h => (hj.1 (by simpa [upd] using h)).quiet x9), (fun h => (by obtain ⟨q6, u0, u1, p', m', e6, e9, S9⟩ := hj.2.1 (by simpa [upd] using h); exact ⟨updL_mono q6, u0, u1, p', m', by simpa [upd] using e6, by simpa [upd] using e9, S9.quiet x9⟩)), (by simpa [upd] using hj.2.2.1), hj.2.2.2.ext (fun _ h => by simpa [upd] using h) (fun hk => Below.block x9 _ hk) (by decide)⟩
  ·intro hl hw hd
   have h9 : L 9 = false := by
    cases h : L 9
    ·rfl
    exact absurd (hl.symm.trans (hj.2.1 h).1) (by decide)
   have h11 : L 11 = false := by
    cases h : L 11
    ·rfl
    exact absurd (h9.symm.trans (hj.2.2.1 h)) (by decide)
   intros
   obtain ⟨q0, q1, e5, g5⟩ := ‹∃ v0 v1, V 5 = _ ∧ Grp _ _ _ [o1, o2]›
   (try simp only [*])
   go_wp2_with (fail)
   (with_reducible refine (AD.out _ _ _ _ _ ((OI 0 _ _ (by decide) rfl rfl).arg (by have := LZ.out; omega)) ((OI 1 _ _ (by decide) rfl rfl).arg (by have := LZ.out; omega)) (g5.o0.arg LO.out.1) (g5.o1.arg LO.out.2)).mono ?_)
   rintro e w8 ⟨u0, u1, rfl, gg, x9⟩
   go_wp2
   refine sS ?_
   exact ⟨XS.of_ext x9, ⟨u0, u1, rfl, gg.mono hr.size⟩, (fun h => (hj.1 (by simpa [upd] using h)).quiet x9), (fun h => absurd (h9.symm.trans (by simpa [upd] using h)) (by decide)), (by simpa [upd] using hj.2.2.1), ⟨fun h => (hj.2.2.2.no h11).keep x9, fun h => absurd (h11.symm.trans (by simpa [upd] using h)) (by decide)⟩⟩
  ·intro hl hw hd
   intros
   (try simp only [*])
   go_wp2_with (fail)
   refine sS ?_
   exact ⟨XS.refl _, rfl, (by simpa [upd] using hj.1), (by simpa [upd] using hj.2.1), (by simpa [upd] using hj.2.2.1), hj.2.2.2.ext (fun _ h => by simpa [upd] using h) (fun _ => rfl) (by decide)⟩
  ·intro hl hw hd
   intros
   (try simp only [*])
   go_wp2_with (fail)
   refine sS ?_
   exact ⟨XS.refl _, rfl, (by simpa [upd] using hj.1), (by simpa [upd] using hj.2.1), (by simpa [upd] using hj.2.2.1), hj.2.2.2.ext (fun _ h => by simpa [upd] using h) (fun _ => rfl) (by decide)⟩
  ·intro hl hw hd
   have h6 := hd 6 (by simp)
   have h11 : L 11 = false := by
    cases h : L 11
    ·rfl
    exact absurd (hl.symm.trans (hj.2.2.1 h)) (by decide)
   have SN := hj.1 hl
   intros
   obtain ⟨q0, q1, e6, g6⟩ := ‹∃ v0 v1, V 6 = _ ∧ Grp _ _ _ [ds, es_]›
   have S7 := kp (S.o.grow SN [] (fun _ h => by cases h) List.Pairwise.nil g6 (fun _ h => by cases h))
   clear SN
   (try simp only [*])
   go_wp2_with (at_builtin; refine apIs S7.out 7 rfl rfl rfl (S7.out.grp.get 4 rfl rfl).ints (S7.out.grp.get 4 rfl rfl).nilOk (by have := LZ.out; omega) _ _ rfl rfl rfl rfl ?_; intro p9 m9 w8 S8 t8)
   refine sS ?_
   have f8 : XS w9.heap.size (b8 :: (Value.ownBlock (.slice py2 l1.length my2)).toList) [] w' w8 := XS.of_turned t8 (fun q hq => ⟨by rw [hq]; simp, (OB.out q hq).1⟩)
   simp only [List.cons_append, List.nil_append, List.set_cons_succ, List.set_cons_zero] at S8
   refine ⟨f8, ?_⟩
   (try refine ⟨trivial, ?_⟩)
   exact ⟨(fun h => absurd h (by simp [upd])), (fun _ => (by first | exact ⟨updL_mono h6, q0, q1, p9, m9, by simpa [upd] using e6, updV_eq, S8⟩ | exact ⟨updL_mono h6, q0, q1, by simpa [upd] using e6, p9, m9, updV_eq, S8⟩)), (fun h => absurd (h11.symm.trans (by simpa [upd] using h)) (by decide)), ⟨fun h => (by have k := hj.2.2.2.no h11; unfold Blk; rw [t8.block b8 k.lt (fun e => (OB.out b8 e).2 rfl)]; exact k), fun h => absurd (h11.symm.trans (by simpa [upd] using h)) (by decide)⟩⟩
  ·intro hl hw hd
   intros
   (try simp only [*])
   go_wp2_with (fail)
   refine sS ?_
   exact ⟨XS.refl _, rfl, (by simpa [upd] using hj.1), (by simpa [upd] using hj.2.1), (by simpa [upd] using hj.2.2.1), hj.2.2.2.ext (fun _ h => by simpa [upd] using h) (fun _ => rfl) (by decide)⟩
  ·intro hl hw hd
   have h9 := hd 9 (by simp)
   obtain ⟨kz⟩ : Kept (Blk w' b8 #[.int .i64 0, .int .i64 0, .slice none 0 0, .int .i64 0, .int .i64 0, .slice none 0 0] 30) := ⟨hj.2.2.2.no hl⟩
   obtain ⟨q6, u0, u1, p', m', e6, e9, S9⟩ := hj.2.1 h9
   obtain ⟨pe, me, hu9, -, -⟩ := id (S9.grp.get 0 rfl rfl).ints
   try simp only at hu9
   subst hu9
   obtain ⟨pf, mf, hu9, -, -⟩ := id (S9.grp.get 1 rfl rfl).ints
   try simp only at hu9
   subst hu9
   have S7 := kp S9
   clear S9
   intros
   refine wpList_putX (by rfl) (by rfl) _ _ (by rfl) b8 _ _ (by rfl) (by exact e6) kz (by kernel_rfl) (by rfl) (by simp [Value.oneCell']) (.inl ⟨by simp, AL.out.blk.lt⟩) (fun w'' f k hoth hsz u => ⟨f, trivial, (fun h => absurd (h9.symm.trans (by simpa [upd] using h)) (by decide)), (fun _ => ⟨updL_mono q6, _, _, p', m', by simpa [upd] using e6, by simpa [upd] using e9, S7.out.aside kz (by decide) AL.out.low AL.out.dis f hoth⟩), (fun _ => updL_mono h9), Px.put k (by simpa [upd] using e6)⟩)
  intro hl hw hd
  intros
  (try simp only [*])
  go_wp2_with (fail)
  refine sS ?_
  exact ⟨XS.refl _, rfl, (by simpa [upd] using hj.1), (by simpa [upd] using hj.2.1), (by simpa [upd] using hj.2.2.1), hj.2.2.2.ext (fun _ h => by simpa [upd] using h) (fun _ => rfl) (by decide)⟩
 case hB => kernel_rfl
 intro V lo up w' hr L hj hL hf ha
 simp only [factsOk, isv, shDS, sameV, anyV, modeNg, newb, List.map_nil, List.map_cons, List.headD_cons, and_true, Nat.zero_add, Nat.reduceAdd] at hf
 simp only [List.length_cons, List.length_nil, Nat.zero_add, Nat.reduceAdd, List.drop_succ_cons, List.drop_zero]
 obtain ⟨-, -, -, -, -, -, -, -, -, -, ⟨-, -, -, e10⟩, -, ⟨-, -, -, e12⟩⟩ := hf
 clear ha
 obtain ⟨q6, u0, u1, p', m', e6, e9, S9⟩ := hj.2.1 (hL 9 (by simp))
 obtain ⟨cs, kb, e5⟩ := hj.2.2.2.yes (hL 11 (by simp))
 rw [e6] at e5
 injection e5 with e5
 subst e5
 (try simp only [List.headD_cons] at e12)
 rw [e12, e9, e10]
 clear e12 e9 e10 e6
 obtain ⟨pe, me, hu9, -, -⟩ := id (S9.grp.get 0 rfl rfl).ints
 try simp only at hu9
 subst hu9
 obtain ⟨pf, mf, hu9, -, -⟩ := id (S9.grp.get 1 rfl rfl).ints
 try simp only at hu9
 subst hu9
 have S8 := S9.join (cs := [.int .i64 dr, .int .i64 dc, .slice pe ds.length me, .int .i64 er, .int .i64 ec, .slice pf es_.length mf]) kb AL.out.low AL.out.dis (fun v hv => S9.neBox kb (by decide) v hv)
 clear S9 S hr hj kb
 have S := kp S8
 clear S8
 go_wp2_with (first | (refine ldiS S.o ?_) | (refine ldI S.o ?_) | (refine wW ?_; dsimp only) | fail)
 refine bodyPost_ret (v := .tuple #[.agg #[.int .i64 dr, .int .i64 dc, .slice pe ds.length me, .int .i64 er, .int .i64 ec, .slice pf es_.length mf], .slice p' (l1.length + l2.length) m', .int .i64 N2]) ?A rfl ⟨_, _, _, rfl, ?B, S.o.ext⟩
 case A => exact res3 rfl (by exact (rsiS S.o)) rfl rfl
 case B => exact S.o.grp.sel rfl [0, 1, 7] (by decide) (by simp)
end Go.Proofs.YtkkdikoknegpjaaGreat
