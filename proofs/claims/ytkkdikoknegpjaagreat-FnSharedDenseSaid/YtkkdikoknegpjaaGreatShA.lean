import Derived.Test.YtkkdikoknegpjaaGreatSPair
import Derived.Test.YtkkdikoknegpjaaGreatKE
namespace Go.Proofs.YtkkdikoknegpjaaGreat
set_option linter.unusedSimpArgs false
set_option linter.unusedVariables false
open Go.RowKit
def ShPost (m : ShM) (w : World) (e : Ending) (w' : World) : Prop :=
 ∃ v1 v2, e = .returned (.agg #[.int .i64 m.f.r, .int .i64 m.f.c, v1, .int .i64 m.s.r, .int .i64 m.s.c, v2]) ∧ Own w.heap.size w' v1 m.f.xs ∧ Own w.heap.size w' v2 m.s.xs ∧ Apt v1 v2 ∧ Ext w w'
def matR {n0 : Nat} (r c : Int) (xs : List Int) : OpSpec Ext n0 :=
 ⟨[], fun _ u lo up w => ∃ v, u = .agg #[.int .i64 r, .int .i64 c, v] ∧ Own lo w v xs ∧ ∀ q, v.ownBlock = some q → q < up, fun _ _ _ _ _ _ _ _ _ hx ⟨v, h1, h2, h3⟩ => ⟨v, h1, h2.keep hx, h3⟩⟩
theorem Apt.drawn {w w' : World} {v u : Value} {xs ys : List Int} {l1 u1 l2 u2 : Nat} (h : Own l1 w v xs) (hb : ∀ q, v.ownBlock = some q → q < u1) (k : Own l2 w' u ys) (kb : ∀ q, u.ownBlock = some q → q < u2) (ha : u1 ≤ l2 ∨ u2 ≤ l1) : Apt v u := by
 refine ⟨fun q h1 h2 => ?_, fun q h2 h1 => ?_⟩ <;>
 ·have a := hb q h2
  have b := (h.block q h2).1
  have c := kb q h1
  have d := (k.block q h1).1
  omega
set_option maxHeartbeats 2000000 in
theorem impl_SharedMatrixValid (r c p q : Int) (v u : Value) (xs ys : List Int) (b : Bool) (h : (mOk r c xs && mOk p q ys && (decide (r = p) && decide (c = q))) = b) (w : World) (h1 : Ints w v xs) (h2 : Ints w u ys) : Calls Tryz.prog 30 #[.agg #[.int .i64 r, .int .i64 c, v, .int .i64 p, .int .i64 q, u]] w fun e w' => e = .returned (.bool b) ∧ Ext w w' := by
 cases g1 : mOk r c xs
 ·have hb : b = false := by rw [← h, g1]; simp
  subst hb
  clear h
  obtain ⟨s1, n1, rfl, hm1, hc1⟩ := id h1
  obtain ⟨s2, n2, rfl, hm2, hc2⟩ := id h2
  clear hm1 hc1 hm2 hc2
  have HV := kp h1
  have HU := kp h2
  clear h1 h2
  have MA : Kept (∀ w', Ext w w' → Calls Tryz.prog 48 #[.agg #[.int .i64 r, .int .i64 c, .slice s1 xs.length n1]] w' fun e w'' => e = .returned (.bool false) ∧ Ext w' w'') := ⟨fun w' hx => g1 ▸ impl_MatrixValid _ _ _ xs w' (HV.out.keep hx)⟩
  clear g1
  have X := kp ((Ext.refl w).alloc (.cells #[.int .i64 r, .int .i64 c, .slice s1 xs.length n1, .int .i64 p, .int .i64 q, .slice s2 ys.length n2] 30))
  have kA := Blk.new w #[.int .i64 r, .int .i64 c, .slice s1 xs.length n1, .int .i64 p, .int .i64 q, .slice s2 ys.length n2] 30
  go_enter Tryz.func30, Tryz.ntmps30
  obtain ⟨akA0, akA1, akA2, akA3, akA4, akA5⟩ := kA.sixC
  go_wp2_with (fail)
  clear akA0 akA1 akA2 akA3 akA4 akA5
  (with_reducible refine (MA.out _ X.out).mono ?_)
  rintro e u1 ⟨rfl, x9⟩
  replace X := kp (X.out.trans x9)
  replace kA := kA.keep x9
  clear x9
  obtain ⟨akA0, akA1, akA2, akA3, akA4, akA5⟩ := kA.sixC
  clear kA
  go_wp2
  go_ret
  exact ⟨rfl, X.out⟩
 cases g2 : mOk p q ys
 ·have hb : b = false := by rw [← h, g1, g2]; simp
  subst hb
  clear h
  obtain ⟨s1, n1, rfl, hm1, hc1⟩ := id h1
  obtain ⟨s2, n2, rfl, hm2, hc2⟩ := id h2
  clear hm1 hc1 hm2 hc2
  have HV := kp h1
  have HU := kp h2
  clear h1 h2
  have MA : Kept (∀ w', Ext w w' → Calls Tryz.prog 48 #[.agg #[.int .i64 r, .int .i64 c, .slice s1 xs.length n1]] w' fun e w'' => e = .returned (.bool true) ∧ Ext w' w'') := ⟨fun w' hx => g1 ▸ impl_MatrixValid _ _ _ xs w' (HV.out.keep hx)⟩
  have MB : Kept (∀ w', Ext w w' → Calls Tryz.prog 48 #[.agg #[.int .i64 p, .int .i64 q, .slice s2 ys.length n2]] w' fun e w'' => e = .returned (.bool false) ∧ Ext w' w'') := ⟨fun w' hx => g2 ▸ impl_MatrixValid _ _ _ ys w' (HU.out.keep hx)⟩
  clear g1 g2
  have X := kp ((Ext.refl w).alloc (.cells #[.int .i64 r, .int .i64 c, .slice s1 xs.length n1, .int .i64 p, .int .i64 q, .slice s2 ys.length n2] 30))
  have kA := Blk.new w #[.int .i64 r, .int .i64 c, .slice s1 xs.length n1, .int .i64 p, .int .i64 q, .slice s2 ys.length n2] 30
  go_enter Tryz.func30, Tryz.ntmps30
  obtain ⟨akA0, akA1, akA2, akA3, akA4, akA5⟩ := kA.sixC
  go_wp2_with (fail)
  clear akA0 akA1 akA2 akA3 akA4 akA5
  (with_reducible refine (MA.out _ X.out).mono ?_)
  rintro e u1 ⟨rfl, x9⟩
  replace X := kp (X.out.trans x9)
  replace kA := kA.keep x9
  clear x9
  obtain ⟨akA0, akA1, akA2, akA3, akA4, akA5⟩ := kA.sixC
  go_wp2_with (fail)
  clear akA0 akA1 akA2 akA3 akA4 akA5
  (with_reducible refine (MB.out _ X.out).mono ?_)
  rintro e u2 ⟨rfl, x9⟩
  replace X := kp (X.out.trans x9)
  replace kA := kA.keep x9
  clear x9
  obtain ⟨akA0, akA1, akA2, akA3, akA4, akA5⟩ := kA.sixC
  clear kA
  go_wp2
  go_ret
  exact ⟨rfl, X.out⟩
 cases g3 : (decide (r = p) && decide (c = q))
 ·have hb : b = false := by rw [← h, g1, g2, g3]; rfl
  subst hb
  clear h
  obtain ⟨s1, n1, rfl, hm1, hc1⟩ := id h1
  obtain ⟨s2, n2, rfl, hm2, hc2⟩ := id h2
  clear hm1 hc1 hm2 hc2
  have HV := kp h1
  have HU := kp h2
  clear h1 h2
  have MA : Kept (∀ w', Ext w w' → Calls Tryz.prog 48 #[.agg #[.int .i64 r, .int .i64 c, .slice s1 xs.length n1]] w' fun e w'' => e = .returned (.bool true) ∧ Ext w' w'') := ⟨fun w' hx => g1 ▸ impl_MatrixValid _ _ _ xs w' (HV.out.keep hx)⟩
  have MB : Kept (∀ w', Ext w w' → Calls Tryz.prog 48 #[.agg #[.int .i64 p, .int .i64 q, .slice s2 ys.length n2]] w' fun e w'' => e = .returned (.bool true) ∧ Ext w' w'') := ⟨fun w' hx => g2 ▸ impl_MatrixValid _ _ _ ys w' (HU.out.keep hx)⟩
  have SS : Kept (∀ w', Calls Tryz.prog 62 #[.agg #[.int .i64 r, .int .i64 c, .slice s1 xs.length n1], .agg #[.int .i64 p, .int .i64 q, .slice s2 ys.length n2]] w' fun e w'' => e = .returned (.bool false) ∧ Ext w' w'') := ⟨fun w' => impl_sameSides r c p q _ _ false g3 w'⟩
  clear g1 g2 g3
  have X := kp ((Ext.refl w).alloc (.cells #[.int .i64 r, .int .i64 c, .slice s1 xs.length n1, .int .i64 p, .int .i64 q, .slice s2 ys.length n2] 30))
  have kA := Blk.new w #[.int .i64 r, .int .i64 c, .slice s1 xs.length n1, .int .i64 p, .int .i64 q, .slice s2 ys.length n2] 30
  go_enter Tryz.func30, Tryz.ntmps30
  obtain ⟨akA0, akA1, akA2, akA3, akA4, akA5⟩ := kA.sixC
  go_wp2_with (fail)
  clear akA0 akA1 akA2 akA3 akA4 akA5
  (with_reducible refine (MA.out _ X.out).mono ?_)
  rintro e u1 ⟨rfl, x9⟩
  replace X := kp (X.out.trans x9)
  replace kA := kA.keep x9
  clear x9
  obtain ⟨akA0, akA1, akA2, akA3, akA4, akA5⟩ := kA.sixC
  go_wp2_with (fail)
  clear akA0 akA1 akA2 akA3 akA4 akA5
  (with_reducible refine (MB.out _ X.out).mono ?_)
  rintro e u2 ⟨rfl, x9⟩
  replace X := kp (X.out.trans x9)
  replace kA := kA.keep x9
  clear x9
  obtain ⟨akA0, akA1, akA2, akA3, akA4, akA5⟩ := kA.sixC
  go_wp2_with (fail)
  clear akA0 akA1 akA2 akA3 akA4 akA5
  (with_reducible refine (SS.out _).mono ?_)
  rintro e u3 ⟨rfl, x9⟩
  replace X := kp (X.out.trans x9)
  replace kA := kA.keep x9
  clear x9
  obtain ⟨akA0, akA1, akA2, akA3, akA4, akA5⟩ := kA.sixC
  clear kA
  go_wp2
  go_ret
  exact ⟨rfl, X.out⟩
 have hb : b = true := by rw [← h, g1, g2, g3]; rfl
 subst hb
 clear h
 obtain ⟨s1, n1, rfl, hm1, hc1⟩ := id h1
 obtain ⟨s2, n2, rfl, hm2, hc2⟩ := id h2
 clear hm1 hc1 hm2 hc2
 have HV := kp h1
 have HU := kp h2
 clear h1 h2
 have MA : Kept (∀ w', Ext w w' → Calls Tryz.prog 48 #[.agg #[.int .i64 r, .int .i64 c, .slice s1 xs.length n1]] w' fun e w'' => e = .returned (.bool true) ∧ Ext w' w'') := ⟨fun w' hx => g1 ▸ impl_MatrixValid _ _ _ xs w' (HV.out.keep hx)⟩
 have MB : Kept (∀ w', Ext w w' → Calls Tryz.prog 48 #[.agg #[.int .i64 p, .int .i64 q, .slice s2 ys.length n2]] w' fun e w'' => e = .returned (.bool true) ∧ Ext w' w'') := ⟨fun w' hx => g2 ▸ impl_MatrixValid _ _ _ ys w' (HU.out.keep hx)⟩
 have SS : Kept (∀ w', Calls Tryz.prog 62 #[.agg #[.int .i64 r, .int .i64 c, .slice s1 xs.length n1], .agg #[.int .i64 p, .int .i64 q, .slice s2 ys.length n2]] w' fun e w'' => e = .returned (.bool true) ∧ Ext w' w'') := ⟨fun w' => impl_sameSides r c p q _ _ true g3 w'⟩
 clear g1 g2 g3
 have X := kp ((Ext.refl w).alloc (.cells #[.int .i64 r, .int .i64 c, .slice s1 xs.length n1, .int .i64 p, .int .i64 q, .slice s2 ys.length n2] 30))
 have kA := Blk.new w #[.int .i64 r, .int .i64 c, .slice s1 xs.length n1, .int .i64 p, .int .i64 q, .slice s2 ys.length n2] 30
 go_enter Tryz.func30, Tryz.ntmps30
 obtain ⟨akA0, akA1, akA2, akA3, akA4, akA5⟩ := kA.sixC
 go_wp2_with (fail)
 clear akA0 akA1 akA2 akA3 akA4 akA5
 (with_reducible refine (MA.out _ X.out).mono ?_)
 rintro e u1 ⟨rfl, x9⟩
 replace X := kp (X.out.trans x9)
 replace kA := kA.keep x9
 clear x9
 obtain ⟨akA0, akA1, akA2, akA3, akA4, akA5⟩ := kA.sixC
 go_wp2_with (fail)
 clear akA0 akA1 akA2 akA3 akA4 akA5
 (with_reducible refine (MB.out _ X.out).mono ?_)
 rintro e u2 ⟨rfl, x9⟩
 replace X := kp (X.out.trans x9)
 replace kA := kA.keep x9
 clear x9
 obtain ⟨akA0, akA1, akA2, akA3, akA4, akA5⟩ := kA.sixC
 go_wp2_with (fail)
 clear akA0 akA1 akA2 akA3 akA4 akA5
 (with_reducible refine (SS.out _).mono ?_)
 rintro e u3 ⟨rfl, x9⟩
 replace X := kp (X.out.trans x9)
 replace kA := kA.keep x9
 clear x9
 obtain ⟨akA0, akA1, akA2, akA3, akA4, akA5⟩ := kA.sixC
 clear kA
 go_wp2
 go_ret
 exact ⟨rfl, X.out⟩
set_option maxHeartbeats 2000000 in
theorem spec_SharedMatrixValid (r c p q : Int) (v u : Value) (xs ys : List Int) (b : Bool) (h : (mOk r c xs && mOk p q ys && (decide (r = p) && decide (c = q))) = b) (w : World) (h1 : Ints w v xs) (h2 : Ints w u ys) : Calls Tryz.prog 24 #[.agg #[.int .i64 r, .int .i64 c, v, .int .i64 p, .int .i64 q, u]] w fun e w' => e = .returned (.bool b) ∧ Ext w w' := by
 obtain ⟨s1, n1, rfl, hm1, hc1⟩ := id h1
 obtain ⟨s2, n2, rfl, hm2, hc2⟩ := id h2
 clear hm1 hc1 hm2 hc2
 have HV := kp h1
 have HU := kp h2
 clear h1 h2
 have LK := kp (fun w' (hx : Ext w w') => spec_l3Like r c p q _ _ xs ys b h w' (HV.out.keep hx) (HU.out.keep hx))
 clear h
 have X := kp ((Ext.refl w).alloc (.cells #[.int .i64 r, .int .i64 c, .slice s1 xs.length n1, .int .i64 p, .int .i64 q, .slice s2 ys.length n2] 30))
 have kA := Blk.new w #[.int .i64 r, .int .i64 c, .slice s1 xs.length n1, .int .i64 p, .int .i64 q, .slice s2 ys.length n2] 30
 go_enter Tryz.func24, Tryz.ntmps24
 obtain ⟨akA0, akA1, akA2, akA3, akA4, akA5⟩ := kA.sixC
 go_wp2_with (fail)
 clear akA0 akA1 akA2 akA3 akA4 akA5
 (with_reducible refine (LK.out _ X.out).mono ?_)
 rintro e u1 ⟨rfl, x9⟩
 replace X := kp (X.out.trans x9)
 replace kA := kA.keep x9
 clear x9
 clear kA
 go_wp2
 go_ret
 exact ⟨rfl, X.out⟩
set_option maxHeartbeats 4000000 in
theorem spec_l1OwnSharedMatrix (r c p q : Int) (v u : Value) (xs ys : List Int) (w : World) (h1 : Arg w v xs) (h2 : Arg w u ys) : Calls Tryz.prog 23 #[.agg #[.int .i64 r, .int .i64 c, v, .int .i64 p, .int .i64 q, u]] w (ShPost ⟨⟨r, c, xs⟩, ⟨p, q, ys⟩⟩ w) := by
 unfold ShPost
 obtain ⟨s1, n1, rfl, hm1, hc1⟩ := id h1.ints
 obtain ⟨s2, n2, rfl, hm2, hc2⟩ := id h2.ints
 clear hm1 hc1 hm2 hc2
 have HV := kp h1
 have HU := kp h2
 clear h1 h2
 have OA : Kept (∀ w', Ext w w' → Calls Tryz.prog 51 #[.agg #[.int .i64 r, .int .i64 c, .slice s1 xs.length n1]] w' (MatPost ⟨r, c, xs⟩ w')) := ⟨fun w' h => spec_l1OwnMatrix r c _ xs w' (HV.out.ints.keep h) HV.out.fit.nil HV.out.len⟩
 unfold MatPost at OA
 have OB : Kept (∀ w', Ext w w' → Calls Tryz.prog 51 #[.agg #[.int .i64 p, .int .i64 q, .slice s2 ys.length n2]] w' (MatPost ⟨p, q, ys⟩ w')) := ⟨fun w' h => spec_l1OwnMatrix p q _ ys w' (HU.out.ints.keep h) HU.out.fit.nil HU.out.len⟩
 unfold MatPost at OB
 have X := kp ((((Ext.refl w).alloc (.cells #[.int .i64 r, .int .i64 c, .slice s1 xs.length n1, .int .i64 p, .int .i64 q, .slice s2 ys.length n2] 30)).alloc (.cells #[.int .i64 0, .int .i64 0, .slice none 0 0, .int .i64 0, .int .i64 0, .slice none 0 0] 30)).alloc (.cells #[.int .i64 r, .int .i64 c, .slice s1 xs.length n1, .int .i64 p, .int .i64 q, .slice s2 ys.length n2] 30))
 have kA := ((Blk.new w #[.int .i64 r, .int .i64 c, .slice s1 xs.length n1, .int .i64 p, .int .i64 q, .slice s2 ys.length n2] 30).old (.cells #[.int .i64 0, .int .i64 0, .slice none 0 0, .int .i64 0, .int .i64 0, .slice none 0 0] 30)).old (.cells #[.int .i64 r, .int .i64 c, .slice s1 xs.length n1, .int .i64 p, .int .i64 q, .slice s2 ys.length n2] 30)
 have kR := (Blk.new (w.alloc (.cells #[.int .i64 r, .int .i64 c, .slice s1 xs.length n1, .int .i64 p, .int .i64 q, .slice s2 ys.length n2] 30)) #[.int .i64 0, .int .i64 0, .slice none 0 0, .int .i64 0, .int .i64 0, .slice none 0 0] 30).old (.cells #[.int .i64 r, .int .i64 c, .slice s1 xs.length n1, .int .i64 p, .int .i64 q, .slice s2 ys.length n2] 30)
 have kO := Blk.new ((w.alloc (.cells #[.int .i64 r, .int .i64 c, .slice s1 xs.length n1, .int .i64 p, .int .i64 q, .slice s2 ys.length n2] 30)).alloc (.cells #[.int .i64 0, .int .i64 0, .slice none 0 0, .int .i64 0, .int .i64 0, .slice none 0 0] 30)) #[.int .i64 r, .int .i64 c, .slice s1 xs.length n1, .int .i64 p, .int .i64 q, .slice s2 ys.length n2] 30
 simp only [World.size_alloc] at kR kO
 go_enter Tryz.func23, Tryz.ntmps23
 obtain ⟨akA0, akA1, akA2, akA3, akA4, akA5⟩ := kA.sixC
 go_wp2_with (fail)
 clear akA0 akA1 akA2 akA3 akA4 akA5
 (with_reducible refine (OA.out _ X.out).mono ?_)
 rintro e u1 ⟨vA, rfl, oA, x9⟩
 obtain ⟨pA, mA, huA, -, -⟩ := id oA.ints
 try simp only at huA
 subst huA
 replace oA := oA.mono X.out.size
 replace X := kp (X.out.trans x9)
 replace kA := kA.keep x9
 replace kR := kR.keep x9
 replace kO := kO.keep x9
 clear x9
 obtain ⟨akA0, akA1, akA2, akA3, akA4, akA5⟩ := kA.sixC
 obtain ⟨akO0, akO1, akO2, akO3, akO4, akO5⟩ := kO.sixC
 have fkO := kO.free
 go_wp2_with (fail)
 clear akA0 akA1 akA2 akA3 akA4 akA5
 clear akO0 akO1 akO2 akO3 akO4 akO5
 clear fkO
 replace oA := oA.oth (oA.ne kO (by decide)) 0 1 2 (.int .i64 r) (.int .i64 c) (.slice pA xs.length mA)
 replace kA := kA.oth (g := w.heap.size + 1 + 1) (by omega) 0 1 2 (.int .i64 r) (.int .i64 c) (.slice pA xs.length mA)
 replace kR := kR.oth (g := w.heap.size + 1 + 1) (by omega) 0 1 2 (.int .i64 r) (.int .i64 c) (.slice pA xs.length mA)
 replace kO := kO.sub 0 1 2 (.int .i64 r) (.int .i64 c) (.slice pA xs.length mA) (cs' := #[.int .i64 r, .int .i64 c, .slice pA xs.length mA, .int .i64 p, .int .i64 q, .slice s2 ys.length n2]) rfl
 replace X := kp (X.out.oth (g := w.heap.size + 1 + 1) (by omega) 0 1 2 (.int .i64 r) (.int .i64 c) (.slice pA xs.length mA))
 (with_reducible refine (OB.out _ X.out).mono ?_)
 rintro e u2 ⟨vB, rfl, oB, x9⟩
 have AP := kp (oA.apt oB)
 obtain ⟨pB, mB, huB, -, -⟩ := id oB.ints
 try simp only at huB
 subst huB
 replace oB := oB.mono X.out.size
 replace X := kp (X.out.trans x9)
 replace kA := kA.keep x9
 replace kR := kR.keep x9
 replace kO := kO.keep x9
 replace oA := oA.keep x9
 clear x9
 have neoAkO := kp (oA.ne kO (by decide))
 have neoAkR := kp (oA.ne kR (by decide))
 have KoA := kp oA
 have neoBkO := kp (oB.ne kO (by decide))
 have neoBkR := kp (oB.ne kR (by decide))
 have KoB := kp oB
 obtain ⟨akO0, akO1, akO2, akO3, akO4, akO5⟩ := kO.sixC
 have fkO := kO.free
 obtain ⟨akR0, akR1, akR2, akR3, akR4, akR5⟩ := kR.sixC
 have fkR := kR.free
 clear kA kR kO oA oB
 go_wp2
 exact bodyPost_ret (v := .agg #[.int .i64 r, .int .i64 c, .slice pA xs.length mA, .int .i64 p, .int .i64 q, .slice pB ys.length mB]) (by simp [results, Tryz.results23, go_sem, *]) rfl ⟨_, _, rfl, (((KoA.out.oth neoAkO.out 3 4 5 _ _ _).oth neoAkR.out 0 1 2 _ _ _).oth neoAkR.out 3 4 5 _ _ _), (((KoB.out.oth neoBkO.out 3 4 5 _ _ _).oth neoBkR.out 0 1 2 _ _ _).oth neoBkR.out 3 4 5 _ _ _), AP.out, (((X.out.oth (g := w.heap.size + 1 + 1) (by omega) 3 4 5 _ _ _).oth (g := w.heap.size + 1) (by omega) 0 1 2 _ _ _).oth (g := w.heap.size + 1) (by omega) 3 4 5 _ _ _)⟩
set_option maxHeartbeats 4000000 in
theorem impl_JoinMatrix (r c p q : Int) (v u : Value) (xs ys : List Int) (w : World) (h1 : Ints w v xs) (h2 : Ints w u ys) : Calls Tryz.prog 20 #[.agg #[.int .i64 r, .int .i64 c, v, .int .i64 p, .int .i64 q, u]] w (MatPost (joinM ⟨⟨r, c, xs⟩, ⟨p, q, ys⟩⟩) w) := by
 unfold MatPost
 obtain ⟨s1, n1, rfl, hm1, hc1⟩ := id h1
 obtain ⟨s2, n2, rfl, hm2, hc2⟩ := id h2
 clear hm1 hc1 hm2 hc2
 have HV := kp h1
 have HU := kp h2
 clear h1 h2
 have AM := kp (fun w' (hx : Ext w w') => impl_AddMatrices r c p q _ _ xs ys w' (HV.out.keep hx) (HU.out.keep hx))
 unfold MatPost at AM
 unfold joinM
 generalize addM ⟨r, c, xs⟩ ⟨p, q, ys⟩ = D at *
 obtain ⟨dr, dc, ds⟩ := D
 simp only at AM
 have X := kp (((Ext.refl w).alloc (.cells #[.int .i64 r, .int .i64 c, .slice s1 xs.length n1, .int .i64 p, .int .i64 q, .slice s2 ys.length n2] 30)).alloc (.cells #[.int .i64 0, .int .i64 0, .slice none 0 0] 28))
 have kA := (Blk.new w #[.int .i64 r, .int .i64 c, .slice s1 xs.length n1, .int .i64 p, .int .i64 q, .slice s2 ys.length n2] 30).old (.cells #[.int .i64 0, .int .i64 0, .slice none 0 0] 28)
 have kR := Blk.new (w.alloc (.cells #[.int .i64 r, .int .i64 c, .slice s1 xs.length n1, .int .i64 p, .int .i64 q, .slice s2 ys.length n2] 30)) #[.int .i64 0, .int .i64 0, .slice none 0 0] 28
 simp only [World.size_alloc] at kR
 go_enter Tryz.func20, Tryz.ntmps20
 obtain ⟨akA0, akA1, akA2, akA3, akA4, akA5⟩ := kA.sixC
 go_wp2_with (fail)
 clear akA0 akA1 akA2 akA3 akA4 akA5
 (with_reducible refine (AM.out _ X.out).mono ?_)
 rintro e u1 ⟨vD, rfl, oD, x9⟩
 obtain ⟨pD, mD, huD, -, -⟩ := id oD.ints
 try simp only at huD
 subst huD
 replace oD := oD.mono X.out.size
 replace X := kp (X.out.trans x9)
 replace kA := kA.keep x9
 replace kR := kR.keep x9
 clear x9
 have ne9 := kp (oD.ne kR (by decide))
 have OO := kp oD
 obtain ⟨r0, r1, r2⟩ := kR.three
 have rf := kR.free
 clear kA kR oD
 go_wp2
 exact bodyPost_ret (v := .agg #[.int .i64 dr, .int .i64 dc, .slice pD ds.length mD]) (by simp [results, Tryz.results20, go_sem, *]) rfl ⟨_, rfl, OO.out.other3 ne9.out _ _ _, X.out.other3 (by show w.heap.size ≤ w.heap.size + 1; omega) _ _ _⟩
set_option maxHeartbeats 4000000 in
theorem spec_JoinMatrix (r c p q : Int) (v u : Value) (xs ys : List Int) (w : World) (h1 : Arg w v xs) (h2 : Arg w u ys) : Calls Tryz.prog 79 #[.agg #[.int .i64 r, .int .i64 c, v, .int .i64 p, .int .i64 q, u]] w (MatPost (joinM ⟨⟨r, c, xs⟩, ⟨p, q, ys⟩⟩) w) := by
 unfold MatPost
 obtain ⟨s1, n1, rfl, hm1, hc1⟩ := id h1.ints
 obtain ⟨s2, n2, rfl, hm2, hc2⟩ := id h2.ints
 clear hm1 hc1 hm2 hc2
 have HV := kp h1
 have HU := kp h2
 clear h1 h2
 have OS := kp (fun w' (hx : Ext w w') => spec_l1OwnSharedMatrix r c p q _ _ xs ys w' (HV.out.keep hx) (HU.out.keep hx))
 unfold ShPost at OS
 have AM := kp (fun v u w' (h1 : Arg w' v xs) (h2 : Arg w' u ys) => spec_AddMatrices r c p q v u xs ys w' h1 h2)
 unfold MatPost at AM
 unfold joinM
 generalize addM ⟨r, c, xs⟩ ⟨p, q, ys⟩ = D at *
 obtain ⟨dr, dc, ds⟩ := D
 simp only at AM
 have X := kp (((Ext.refl w).alloc (.cells #[.int .i64 r, .int .i64 c, .slice s1 xs.length n1, .int .i64 p, .int .i64 q, .slice s2 ys.length n2] 30)).alloc (.cells #[.int .i64 0, .int .i64 0, .slice none 0 0] 28))
 have kA := (Blk.new w #[.int .i64 r, .int .i64 c, .slice s1 xs.length n1, .int .i64 p, .int .i64 q, .slice s2 ys.length n2] 30).old (.cells #[.int .i64 0, .int .i64 0, .slice none 0 0] 28)
 have kR := Blk.new (w.alloc (.cells #[.int .i64 r, .int .i64 c, .slice s1 xs.length n1, .int .i64 p, .int .i64 q, .slice s2 ys.length n2] 30)) #[.int .i64 0, .int .i64 0, .slice none 0 0] 28
 simp only [World.size_alloc] at kR
 go_enter Tryz.func79, Tryz.ntmps79
 obtain ⟨akA0, akA1, akA2, akA3, akA4, akA5⟩ := kA.sixC
 go_wp2_with (fail)
 clear akA0 akA1 akA2 akA3 akA4 akA5
 (with_reducible refine (OS.out _ X.out).mono ?_)
 rintro e u1 ⟨vA, vB, rfl, oA, oB, apA, x9⟩
 obtain ⟨pA, mA, huA, -, -⟩ := id oA.ints
 try simp only at huA
 subst huA
 replace oA := oA.mono X.out.size
 obtain ⟨pB, mB, huB, -, -⟩ := id oB.ints
 try simp only at huB
 subst huB
 replace oB := oB.mono X.out.size
 replace apA := kp apA
 replace X := kp (X.out.trans x9)
 replace kA := kA.keep x9
 replace kR := kR.keep x9
 clear x9
 obtain ⟨akA0, akA1, akA2, akA3, akA4, akA5⟩ := kA.sixC
 have fkA := kA.free
 go_wp2_with (fail)
 clear akA0 akA1 akA2 akA3 akA4 akA5
 clear fkA
 replace oA := oA.oth (oA.ne kA (by decide)) 0 1 2 (.int .i64 r) (.int .i64 c) (.slice pA xs.length mA)
 replace oB := oB.oth (oB.ne kA (by decide)) 0 1 2 (.int .i64 r) (.int .i64 c) (.slice pA xs.length mA)
 replace kR := kR.oth (g := w.heap.size) (by omega) 0 1 2 (.int .i64 r) (.int .i64 c) (.slice pA xs.length mA)
 replace kA := kA.sub 0 1 2 (.int .i64 r) (.int .i64 c) (.slice pA xs.length mA) (cs' := #[.int .i64 r, .int .i64 c, .slice pA xs.length mA, .int .i64 p, .int .i64 q, .slice s2 ys.length n2]) rfl
 replace X := kp (X.out.oth (g := w.heap.size) (by omega) 0 1 2 (.int .i64 r) (.int .i64 c) (.slice pA xs.length mA))
 replace oA := oA.oth (oA.ne kA (by decide)) 3 4 5 (.int .i64 p) (.int .i64 q) (.slice pB ys.length mB)
 replace oB := oB.oth (oB.ne kA (by decide)) 3 4 5 (.int .i64 p) (.int .i64 q) (.slice pB ys.length mB)
 replace kR := kR.oth (g := w.heap.size) (by omega) 3 4 5 (.int .i64 p) (.int .i64 q) (.slice pB ys.length mB)
 replace kA := kA.sub 3 4 5 (.int .i64 p) (.int .i64 q) (.slice pB ys.length mB) (cs' := #[.int .i64 r, .int .i64 c, .slice pA xs.length mA, .int .i64 p, .int .i64 q, .slice pB ys.length mB]) rfl
 replace X := kp (X.out.oth (g := w.heap.size) (by omega) 3 4 5 (.int .i64 p) (.int .i64 q) (.slice pB ys.length mB))
 (with_reducible refine (AM.out _ _ _ (oA.arg HV.out.len) (oB.arg HU.out.len)).mono ?_)
 rintro e u2 ⟨vD, rfl, oD, x9⟩
 obtain ⟨pD, mD, huD, -, -⟩ := id oD.ints
 try simp only at huD
 subst huD
 replace oD := oD.mono X.out.size
 replace X := kp (X.out.trans x9)
 replace kA := kA.keep x9
 replace kR := kR.keep x9
 replace oA := oA.keep x9
 replace oB := oB.keep x9
 clear x9
 have ne9 := kp (oD.ne kR (by decide))
 have OO := kp oD
 obtain ⟨r0, r1, r2⟩ := kR.three
 have rf := kR.free
 clear kA kR oA oB oD
 go_wp2
 exact bodyPost_ret (v := .agg #[.int .i64 dr, .int .i64 dc, .slice pD ds.length mD]) (by simp [results, Tryz.results79, go_sem, *]) rfl ⟨_, rfl, OO.out.other3 ne9.out _ _ _, X.out.other3 (by show w.heap.size ≤ w.heap.size + 1; omega) _ _ _⟩
end Go.Proofs.YtkkdikoknegpjaaGreat
