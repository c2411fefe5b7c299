import Derived.Test.YtkkdikoknegpjaaGreatShA
import Derived.Test.YtkkdikoknegpjaaGreatQA
namespace Go.Proofs.YtkkdikoknegpjaaGreat
set_option linter.unusedSimpArgs false
set_option linter.unusedVariables false
open Go.RowKit
set_option maxHeartbeats 4000000 in
set_option maxRecDepth 2000 in
theorem impl_AddSharedMatrices (r c : Int) (v1 : Value) (xs : List Int) (p q : Int) (v2 : Value) (ys : List Int) (rr cc : Int) (v3 : Value) (zs : List Int) (pp qq : Int) (v4 : Value) (us : List Int) (w : World) (h1 : Ints w v1 xs) (h2 : Ints w v2 ys) (h3 : Ints w v3 zs) (h4 : Ints w v4 us) : Calls Tryz.prog 37 #[.agg #[.int .i64 r, .int .i64 c, v1, .int .i64 p, .int .i64 q, v2], .agg #[.int .i64 rr, .int .i64 cc, v3, .int .i64 pp, .int .i64 qq, v4]] w (ShPost (addSh ⟨⟨r, c, xs⟩, ⟨p, q, ys⟩⟩ ⟨⟨rr, cc, zs⟩, ⟨pp, qq, us⟩⟩) w) := by
 unfold ShPost
 cases g1 : (mOk r c xs && mOk p q ys && (decide (r = p) && decide (c = q)))
 ·rw [show addSh ⟨⟨r, c, xs⟩, ⟨p, q, ys⟩⟩ ⟨⟨rr, cc, zs⟩, ⟨pp, qq, us⟩⟩ = shZ by unfold addSh shAddOk ShM.ok Mat.ok sameS; rw [if_neg (by simp [g1])]]
  obtain ⟨s1, n1, rfl, hm9, hc9⟩ := id h1
  clear hm9 hc9
  have H1 := kp h1
  clear h1
  obtain ⟨s2, n2, rfl, hm9, hc9⟩ := id h2
  clear hm9 hc9
  have H2 := kp h2
  clear h2
  obtain ⟨s3, n3, rfl, hm9, hc9⟩ := id h3
  clear hm9 hc9
  have H3 := kp h3
  clear h3
  obtain ⟨s4, n4, rfl, hm9, hc9⟩ := id h4
  clear hm9 hc9
  have H4 := kp h4
  clear h4
  have MA : Kept (∀ w', Ext w w' → Calls Tryz.prog 30 #[.agg #[.int .i64 r, .int .i64 c, .slice s1 xs.length n1, .int .i64 p, .int .i64 q, .slice s2 ys.length n2]] w' fun e w'' => e = .returned (.bool false) ∧ Ext w' w'') := ⟨fun w' hx => impl_SharedMatrixValid r c p q _ _ xs ys false g1 w' (H1.out.keep hx) (H2.out.keep hx)⟩
  clear g1
  have X := kp ((((Ext.refl w).alloc (.cells #[.int .i64 r, .int .i64 c, .slice s1 xs.length n1, .int .i64 p, .int .i64 q, .slice s2 ys.length n2] 30)).alloc (.cells #[.int .i64 rr, .int .i64 cc, .slice s3 zs.length n3, .int .i64 pp, .int .i64 qq, .slice s4 us.length n4] 30)).alloc (.cells #[.int .i64 0, .int .i64 0, .slice none 0 0, .int .i64 0, .int .i64 0, .slice none 0 0] 30))
  have kA := ((Blk.new w #[.int .i64 r, .int .i64 c, .slice s1 xs.length n1, .int .i64 p, .int .i64 q, .slice s2 ys.length n2] 30).old (.cells #[.int .i64 rr, .int .i64 cc, .slice s3 zs.length n3, .int .i64 pp, .int .i64 qq, .slice s4 us.length n4] 30)).old (.cells #[.int .i64 0, .int .i64 0, .slice none 0 0, .int .i64 0, .int .i64 0, .slice none 0 0] 30)
  have kB := (Blk.new (w.alloc (.cells #[.int .i64 r, .int .i64 c, .slice s1 xs.length n1, .int .i64 p, .int .i64 q, .slice s2 ys.length n2] 30)) #[.int .i64 rr, .int .i64 cc, .slice s3 zs.length n3, .int .i64 pp, .int .i64 qq, .slice s4 us.length n4] 30).old (.cells #[.int .i64 0, .int .i64 0, .slice none 0 0, .int .i64 0, .int .i64 0, .slice none 0 0] 30)
  have kR := Blk.new ((w.alloc (.cells #[.int .i64 r, .int .i64 c, .slice s1 xs.length n1, .int .i64 p, .int .i64 q, .slice s2 ys.length n2] 30)).alloc (.cells #[.int .i64 rr, .int .i64 cc, .slice s3 zs.length n3, .int .i64 pp, .int .i64 qq, .slice s4 us.length n4] 30)) #[.int .i64 0, .int .i64 0, .slice none 0 0, .int .i64 0, .int .i64 0, .slice none 0 0] 30
  simp only [World.size_alloc] at kB kR
  go_enter Tryz.func37, Tryz.ntmps37
  obtain ⟨akA0, akA1, akA2, akA3, akA4, akA5⟩ := kA.sixC
  go_wp2_with (fail)
  clear akA0 akA1 akA2 akA3 akA4 akA5
  (with_reducible refine (MA.out _ X.out).mono ?_)
  rintro e u1 ⟨rfl, x9⟩
  replace X := kp (X.out.trans x9)
  replace kA := kA.keep x9
  replace kB := kB.keep x9
  replace kR := kR.keep x9
  clear x9
  clear kA kB
  obtain ⟨akR0, akR1, akR2, akR3, akR4, akR5⟩ := kR.sixC
  have fkR := kR.free
  clear kR
  go_wp2
  exact bodyPost_ret (v := .agg #[.int .i64 0, .int .i64 0, .slice none 0 0, .int .i64 0, .int .i64 0, .slice none 0 0]) (by simp [results, Tryz.results37, go_sem, *]) rfl ⟨_, _, rfl, Own.nil _ _, Own.nil _ _, Apt.nil _ _ rfl, ((X.out.oth (g := w.heap.size + 1 + 1) (by omega) 0 1 2 _ _ _).oth (g := w.heap.size + 1 + 1) (by omega) 3 4 5 _ _ _)⟩
 cases g2 : (mOk rr cc zs && mOk pp qq us && (decide (rr = pp) && decide (cc = qq)))
 ·rw [show addSh ⟨⟨r, c, xs⟩, ⟨p, q, ys⟩⟩ ⟨⟨rr, cc, zs⟩, ⟨pp, qq, us⟩⟩ = shZ by unfold addSh shAddOk ShM.ok Mat.ok sameS; rw [if_neg (by simp [g2])]]
  obtain ⟨s1, n1, rfl, hm9, hc9⟩ := id h1
  clear hm9 hc9
  have H1 := kp h1
  clear h1
  obtain ⟨s2, n2, rfl, hm9, hc9⟩ := id h2
  clear hm9 hc9
  have H2 := kp h2
  clear h2
  obtain ⟨s3, n3, rfl, hm9, hc9⟩ := id h3
  clear hm9 hc9
  have H3 := kp h3
  clear h3
  obtain ⟨s4, n4, rfl, hm9, hc9⟩ := id h4
  clear hm9 hc9
  have H4 := kp h4
  clear h4
  have MA : Kept (∀ w', Ext w w' → Calls Tryz.prog 30 #[.agg #[.int .i64 r, .int .i64 c, .slice s1 xs.length n1, .int .i64 p, .int .i64 q, .slice s2 ys.length n2]] w' fun e w'' => e = .returned (.bool true) ∧ Ext w' w'') := ⟨fun w' hx => impl_SharedMatrixValid r c p q _ _ xs ys true g1 w' (H1.out.keep hx) (H2.out.keep hx)⟩
  have MB : Kept (∀ w', Ext w w' → Calls Tryz.prog 30 #[.agg #[.int .i64 rr, .int .i64 cc, .slice s3 zs.length n3, .int .i64 pp, .int .i64 qq, .slice s4 us.length n4]] w' fun e w'' => e = .returned (.bool false) ∧ Ext w' w'') := ⟨fun w' hx => impl_SharedMatrixValid rr cc pp qq _ _ zs us false g2 w' (H3.out.keep hx) (H4.out.keep hx)⟩
  clear g1 g2
  have X := kp ((((Ext.refl w).alloc (.cells #[.int .i64 r, .int .i64 c, .slice s1 xs.length n1, .int .i64 p, .int .i64 q, .slice s2 ys.length n2] 30)).alloc (.cells #[.int .i64 rr, .int .i64 cc, .slice s3 zs.length n3, .int .i64 pp, .int .i64 qq, .slice s4 us.length n4] 30)).alloc (.cells #[.int .i64 0, .int .i64 0, .slice none 0 0, .int .i64 0, .int .i64 0, .slice none 0 0] 30))
  have kA := ((Blk.new w #[.int .i64 r, .int .i64 c, .slice s1 xs.length n1, .int .i64 p, .int .i64 q, .slice s2 ys.length n2] 30).old (.cells #[.int .i64 rr, .int .i64 cc, .slice s3 zs.length n3, .int .i64 pp, .int .i64 qq, .slice s4 us.length n4] 30)).old (.cells #[.int .i64 0, .int .i64 0, .slice none 0 0, .int .i64 0, .int .i64 0, .slice none 0 0] 30)
  have kB := (Blk.new (w.alloc (.cells #[.int .i64 r, .int .i64 c, .slice s1 xs.length n1, .int .i64 p, .int .i64 q, .slice s2 ys.length n2] 30)) #[.int .i64 rr, .int .i64 cc, .slice s3 zs.length n3, .int .i64 pp, .int .i64 qq, .slice s4 us.length n4] 30).old (.cells #[.int .i64 0, .int .i64 0, .slice none 0 0, .int .i64 0, .int .i64 0, .slice none 0 0] 30)
  have kR := Blk.new ((w.alloc (.cells #[.int .i64 r, .int .i64 c, .slice s1 xs.length n1, .int .i64 p, .int .i64 q, .slice s2 ys.length n2] 30)).alloc (.cells #[.int .i64 rr, .int .i64 cc, .slice s3 zs.length n3, .int .i64 pp, .int .i64 qq, .slice s4 us.length n4] 30)) #[.int .i64 0, .int .i64 0, .slice none 0 0, .int .i64 0, .int .i64 0, .slice none 0 0] 30
  simp only [World.size_alloc] at kB kR
  go_enter Tryz.func37, Tryz.ntmps37
  obtain ⟨akA0, akA1, akA2, akA3, akA4, akA5⟩ := kA.sixC
  go_wp2_with (fail)
  clear akA0 akA1 akA2 akA3 akA4 akA5
  (with_reducible refine (MA.out _ X.out).mono ?_)
  rintro e u1 ⟨rfl, x9⟩
  replace X := kp (X.out.trans x9)
  replace kA := kA.keep x9
  replace kB := kB.keep x9
  replace kR := kR.keep x9
  clear x9
  obtain ⟨akB0, akB1, akB2, akB3, akB4, akB5⟩ := kB.sixC
  go_wp2_with (fail)
  clear akB0 akB1 akB2 akB3 akB4 akB5
  (with_reducible refine (MB.out _ X.out).mono ?_)
  rintro e u2 ⟨rfl, x9⟩
  replace X := kp (X.out.trans x9)
  replace kA := kA.keep x9
  replace kB := kB.keep x9
  replace kR := kR.keep x9
  clear x9
  clear kA kB
  obtain ⟨akR0, akR1, akR2, akR3, akR4, akR5⟩ := kR.sixC
  have fkR := kR.free
  clear kR
  go_wp2
  exact bodyPost_ret (v := .agg #[.int .i64 0, .int .i64 0, .slice none 0 0, .int .i64 0, .int .i64 0, .slice none 0 0]) (by simp [results, Tryz.results37, go_sem, *]) rfl ⟨_, _, rfl, Own.nil _ _, Own.nil _ _, Apt.nil _ _ rfl, ((X.out.oth (g := w.heap.size + 1 + 1) (by omega) 0 1 2 _ _ _).oth (g := w.heap.size + 1 + 1) (by omega) 3 4 5 _ _ _)⟩
 cases g3 : (decide (r = rr) && decide (c = cc))
 ·rw [show addSh ⟨⟨r, c, xs⟩, ⟨p, q, ys⟩⟩ ⟨⟨rr, cc, zs⟩, ⟨pp, qq, us⟩⟩ = shZ by unfold addSh shAddOk ShM.ok Mat.ok sameS; rw [if_neg (by simp [g3])]]
  obtain ⟨s1, n1, rfl, hm9, hc9⟩ := id h1
  clear hm9 hc9
  have H1 := kp h1
  clear h1
  obtain ⟨s2, n2, rfl, hm9, hc9⟩ := id h2
  clear hm9 hc9
  have H2 := kp h2
  clear h2
  obtain ⟨s3, n3, rfl, hm9, hc9⟩ := id h3
  clear hm9 hc9
  have H3 := kp h3
  clear h3
  obtain ⟨s4, n4, rfl, hm9, hc9⟩ := id h4
  clear hm9 hc9
  have H4 := kp h4
  clear h4
  have MA : Kept (∀ w', Ext w w' → Calls Tryz.prog 30 #[.agg #[.int .i64 r, .int .i64 c, .slice s1 xs.length n1, .int .i64 p, .int .i64 q, .slice s2 ys.length n2]] w' fun e w'' => e = .returned (.bool true) ∧ Ext w' w'') := ⟨fun w' hx => impl_SharedMatrixValid r c p q _ _ xs ys true g1 w' (H1.out.keep hx) (H2.out.keep hx)⟩
  have MB : Kept (∀ w', Ext w w' → Calls Tryz.prog 30 #[.agg #[.int .i64 rr, .int .i64 cc, .slice s3 zs.length n3, .int .i64 pp, .int .i64 qq, .slice s4 us.length n4]] w' fun e w'' => e = .returned (.bool true) ∧ Ext w' w'') := ⟨fun w' hx => impl_SharedMatrixValid rr cc pp qq _ _ zs us true g2 w' (H3.out.keep hx) (H4.out.keep hx)⟩
  have SS : Kept (∀ w', Calls Tryz.prog 62 #[.agg #[.int .i64 r, .int .i64 c, .slice s1 xs.length n1], .agg #[.int .i64 rr, .int .i64 cc, .slice s3 zs.length n3]] w' fun e w'' => e = .returned (.bool false) ∧ Ext w' w'') := ⟨fun w' => impl_sameSides r c rr cc _ _ false g3 w'⟩
  clear g1 g2 g3
  have X := kp ((((Ext.refl w).alloc (.cells #[.int .i64 r, .int .i64 c, .slice s1 xs.length n1, .int .i64 p, .int .i64 q, .slice s2 ys.length n2] 30)).alloc (.cells #[.int .i64 rr, .int .i64 cc, .slice s3 zs.length n3, .int .i64 pp, .int .i64 qq, .slice s4 us.length n4] 30)).alloc (.cells #[.int .i64 0, .int .i64 0, .slice none 0 0, .int .i64 0, .int .i64 0, .slice none 0 0] 30))
  have kA := ((Blk.new w #[.int .i64 r, .int .i64 c, .slice s1 xs.length n1, .int .i64 p, .int .i64 q, .slice s2 ys.length n2] 30).old (.cells #[.int .i64 rr, .int .i64 cc, .slice s3 zs.length n3, .int .i64 pp, .int .i64 qq, .slice s4 us.length n4] 30)).old (.cells #[.int .i64 0, .int .i64 0, .slice none 0 0, .int .i64 0, .int .i64 0, .slice none 0 0] 30)
  have kB := (Blk.new (w.alloc (.cells #[.int .i64 r, .int .i64 c, .slice s1 xs.length n1, .int .i64 p, .int .i64 q, .slice s2 ys.length n2] 30)) #[.int .i64 rr, .int .i64 cc, .slice s3 zs.length n3, .int .i64 pp, .int .i64 qq, .slice s4 us.length n4] 30).old (.cells #[.int .i64 0, .int .i64 0, .slice none 0 0, .int .i64 0, .int .i64 0, .slice none 0 0] 30)
  have kR := Blk.new ((w.alloc (.cells #[.int .i64 r, .int .i64 c, .slice s1 xs.length n1, .int .i64 p, .int .i64 q, .slice s2 ys.length n2] 30)).alloc (.cells #[.int .i64 rr, .int .i64 cc, .slice s3 zs.length n3, .int .i64 pp, .int .i64 qq, .slice s4 us.length n4] 30)) #[.int .i64 0, .int .i64 0, .slice none 0 0, .int .i64 0, .int .i64 0, .slice none 0 0] 30
  simp only [World.size_alloc] at kB kR
  go_enter Tryz.func37, Tryz.ntmps37
  obtain ⟨akA0, akA1, akA2, akA3, akA4, akA5⟩ := kA.sixC
  go_wp2_with (fail)
  clear akA0 akA1 akA2 akA3 akA4 akA5
  (with_reducible refine (MA.out _ X.out).mono ?_)
  rintro e u1 ⟨rfl, x9⟩
  replace X := kp (X.out.trans x9)
  replace kA := kA.keep x9
  replace kB := kB.keep x9
  replace kR := kR.keep x9
  clear x9
  obtain ⟨akB0, akB1, akB2, akB3, akB4, akB5⟩ := kB.sixC
  go_wp2_with (fail)
  clear akB0 akB1 akB2 akB3 akB4 akB5
  (with_reducible refine (MB.out _ X.out).mono ?_)
  rintro e u2 ⟨rfl, x9⟩
  replace X := kp (X.out.trans x9)
  replace kA := kA.keep x9
  replace kB := kB.keep x9
  replace kR := kR.keep x9
  clear x9
  obtain ⟨akA0, akA1, akA2, akA3, akA4, akA5⟩ := kA.sixC
  obtain ⟨akB0, akB1, akB2, akB3, akB4, akB5⟩ := kB.sixC
  go_wp2_with (fail)
  clear akA0 akA1 akA2 akA3 akA4 akA5
  clear akB0 akB1 akB2 akB3 akB4 akB5
  (with_reducible refine (SS.out _).mono ?_)
  rintro e u3 ⟨rfl, x9⟩
  replace X := kp (X.out.trans x9)
  replace kA := kA.keep x9
  replace kB := kB.keep x9
  replace kR := kR.keep x9
  clear x9
  clear kA kB
  obtain ⟨akR0, akR1, akR2, akR3, akR4, akR5⟩ := kR.sixC
  have fkR := kR.free
  clear kR
  go_wp2
  exact bodyPost_ret (v := .agg #[.int .i64 0, .int .i64 0, .slice none 0 0, .int .i64 0, .int .i64 0, .slice none 0 0]) (by simp [results, Tryz.results37, go_sem, *]) rfl ⟨_, _, rfl, Own.nil _ _, Own.nil _ _, Apt.nil _ _ rfl, ((X.out.oth (g := w.heap.size + 1 + 1) (by omega) 0 1 2 _ _ _).oth (g := w.heap.size + 1 + 1) (by omega) 3 4 5 _ _ _)⟩
 rw [show addSh ⟨⟨r, c, xs⟩, ⟨p, q, ys⟩⟩ ⟨⟨rr, cc, zs⟩, ⟨pp, qq, us⟩⟩ = ⟨addM ⟨r, c, xs⟩ ⟨rr, cc, zs⟩, addM ⟨p, q, ys⟩ ⟨pp, qq, us⟩⟩ by unfold addSh shAddOk ShM.ok Mat.ok sameS; rw [if_pos (by simp only [g1, g2, g3, Bool.and_self])]]
 obtain ⟨s1, n1, rfl, hm9, hc9⟩ := id h1
 clear hm9 hc9
 have H1 := kp h1
 clear h1
 obtain ⟨s2, n2, rfl, hm9, hc9⟩ := id h2
 clear hm9 hc9
 have H2 := kp h2
 clear h2
 obtain ⟨s3, n3, rfl, hm9, hc9⟩ := id h3
 clear hm9 hc9
 have H3 := kp h3
 clear h3
 obtain ⟨s4, n4, rfl, hm9, hc9⟩ := id h4
 clear hm9 hc9
 have H4 := kp h4
 clear h4
 have MA : Kept (∀ w', Ext w w' → Calls Tryz.prog 30 #[.agg #[.int .i64 r, .int .i64 c, .slice s1 xs.length n1, .int .i64 p, .int .i64 q, .slice s2 ys.length n2]] w' fun e w'' => e = .returned (.bool true) ∧ Ext w' w'') := ⟨fun w' hx => impl_SharedMatrixValid r c p q _ _ xs ys true g1 w' (H1.out.keep hx) (H2.out.keep hx)⟩
 have MB : Kept (∀ w', Ext w w' → Calls Tryz.prog 30 #[.agg #[.int .i64 rr, .int .i64 cc, .slice s3 zs.length n3, .int .i64 pp, .int .i64 qq, .slice s4 us.length n4]] w' fun e w'' => e = .returned (.bool true) ∧ Ext w' w'') := ⟨fun w' hx => impl_SharedMatrixValid rr cc pp qq _ _ zs us true g2 w' (H3.out.keep hx) (H4.out.keep hx)⟩
 have SS : Kept (∀ w', Calls Tryz.prog 62 #[.agg #[.int .i64 r, .int .i64 c, .slice s1 xs.length n1], .agg #[.int .i64 rr, .int .i64 cc, .slice s3 zs.length n3]] w' fun e w'' => e = .returned (.bool true) ∧ Ext w' w'') := ⟨fun w' => impl_sameSides r c rr cc _ _ true g3 w'⟩
 have AD := kp (fun w' (hx : Ext w w') => impl_AddMatrices r c rr cc _ _ xs zs w' (H1.out.keep hx) (H3.out.keep hx))
 unfold MatPost at AD
 have AE := kp (fun w' (hx : Ext w w') => impl_AddMatrices p q pp qq _ _ ys us w' (H2.out.keep hx) (H4.out.keep hx))
 unfold MatPost at AE
 clear g1 g2 g3
 generalize addM ⟨r, c, xs⟩ ⟨rr, cc, zs⟩ = D at *
 generalize addM ⟨p, q, ys⟩ ⟨pp, qq, us⟩ = E at *
 obtain ⟨dr, dc, ds⟩ := D
 obtain ⟨er, ec, es⟩ := E
 simp only at AD AE
 have X := kp ((((Ext.refl w).alloc (.cells #[.int .i64 r, .int .i64 c, .slice s1 xs.length n1, .int .i64 p, .int .i64 q, .slice s2 ys.length n2] 30)).alloc (.cells #[.int .i64 rr, .int .i64 cc, .slice s3 zs.length n3, .int .i64 pp, .int .i64 qq, .slice s4 us.length n4] 30)).alloc (.cells #[.int .i64 0, .int .i64 0, .slice none 0 0, .int .i64 0, .int .i64 0, .slice none 0 0] 30))
 have kA := ((Blk.new w #[.int .i64 r, .int .i64 c, .slice s1 xs.length n1, .int .i64 p, .int .i64 q, .slice s2 ys.length n2] 30).old (.cells #[.int .i64 rr, .int .i64 cc, .slice s3 zs.length n3, .int .i64 pp, .int .i64 qq, .slice s4 us.length n4] 30)).old (.cells #[.int .i64 0, .int .i64 0, .slice none 0 0, .int .i64 0, .int .i64 0, .slice none 0 0] 30)
 have kB := (Blk.new (w.alloc (.cells #[.int .i64 r, .int .i64 c, .slice s1 xs.length n1, .int .i64 p, .int .i64 q, .slice s2 ys.length n2] 30)) #[.int .i64 rr, .int .i64 cc, .slice s3 zs.length n3, .int .i64 pp, .int .i64 qq, .slice s4 us.length n4] 30).old (.cells #[.int .i64 0, .int .i64 0, .slice none 0 0, .int .i64 0, .int .i64 0, .slice none 0 0] 30)
 have kR := Blk.new ((w.alloc (.cells #[.int .i64 r, .int .i64 c, .slice s1 xs.length n1, .int .i64 p, .int .i64 q, .slice s2 ys.length n2] 30)).alloc (.cells #[.int .i64 rr, .int .i64 cc, .slice s3 zs.length n3, .int .i64 pp, .int .i64 qq, .slice s4 us.length n4] 30)) #[.int .i64 0, .int .i64 0, .slice none 0 0, .int .i64 0, .int .i64 0, .slice none 0 0] 30
 simp only [World.size_alloc] at kB kR
 go_enter Tryz.func37, Tryz.ntmps37
 obtain ⟨akA0, akA1, akA2, akA3, akA4, akA5⟩ := kA.sixC
 go_wp2_with (fail)
 clear akA0 akA1 akA2 akA3 akA4 akA5
 (with_reducible refine (MA.out _ X.out).mono ?_)
 rintro e u1 ⟨rfl, x9⟩
 replace X := kp (X.out.trans x9)
 replace kA := kA.keep x9
 replace kB := kB.keep x9
 replace kR := kR.keep x9
 clear x9
 obtain ⟨akB0, akB1, akB2, akB3, akB4, akB5⟩ := kB.sixC
 go_wp2_with (fail)
 clear akB0 akB1 akB2 akB3 akB4 akB5
 (with_reducible refine (MB.out _ X.out).mono ?_)
 rintro e u2 ⟨rfl, x9⟩
 replace X := kp (X.out.trans x9)
 replace kA := kA.keep x9
 replace kB := kB.keep x9
 replace kR := kR.keep x9
 clear x9
 obtain ⟨akA0, akA1, akA2, akA3, akA4, akA5⟩ := kA.sixC
 obtain ⟨akB0, akB1, akB2, akB3, akB4, akB5⟩ := kB.sixC
 go_wp2_with (fail)
 clear akA0 akA1 akA2 akA3 akA4 akA5
 clear akB0 akB1 akB2 akB3 akB4 akB5
 (with_reducible refine (SS.out _).mono ?_)
 rintro e u3 ⟨rfl, x9⟩
 replace X := kp (X.out.trans x9)
 replace kA := kA.keep x9
 replace kB := kB.keep x9
 replace kR := kR.keep x9
 clear x9
 obtain ⟨akA0, akA1, akA2, akA3, akA4, akA5⟩ := kA.sixC
 obtain ⟨akB0, akB1, akB2, akB3, akB4, akB5⟩ := kB.sixC
 go_wp2_with (fail)
 clear akA0 akA1 akA2 akA3 akA4 akA5
 clear akB0 akB1 akB2 akB3 akB4 akB5
 apply wp_region_zip [isv _, isv _, isv _, isv _, matR dr dc ds, isv _, isv _, isv _, isv _, matR er ec es] _ (by kernel_rfl)
 case hA => intro V; simp [putAll, dstOf, Act.put]; exact rfl
 case hsl => intro V; exact rfl
 case step =>
  intro V lo up w' hr
  obtain ⟨hcr, hzr⟩ := hr.cells
  have hsr := hr.size
  have kA := kA.keep hr
  have kB := kB.keep hr
  have kR := kR.keep hr
  have hxr := X.out.trans hr
  obtain ⟨akA0, akA1, akA2, akA3, akA4, akA5⟩ := kA.sixC
  obtain ⟨akB0, akB1, akB2, akB3, akB4, akB5⟩ := kB.sixC
  simp only [zipOk, depsImp, isv, matR, modeNg, newb, waits, Region.binds, List.map_nil, List.map_cons, List.headD_cons, List.nil_append, List.cons_append, List.filterMap_cons, List.filterMap_nil, ↓reduceIte, modeNe, Bool.false_eq_true, true_implies, List.getD_cons_zero, List.getD_cons_succ, and_true]
  refine ⟨?_, ?_, ?_, ?_, ?_, ?_, ?_, ?_, ?_, ?_⟩
  ·intros
   go_wp2
   refine sQ ?_
   exact eZ
  ·intros
   go_wp2
   refine sQ ?_
   exact eZ
  ·intros
   go_wp2
   refine sQ ?_
   exact eZ
  ·intros
   go_wp2
   refine sQ ?_
   exact eZ
  ·intros
   go_wp2_with (fail)
   (with_reducible refine (AD.out _ hxr).mono ?_)
   rintro e w9 ⟨v9, rfl, o9, x9⟩
   go_wp2
   refine sQ ?_
   exact ⟨x9, v9, rfl, o9, fun q hq => (o9.block q hq).2⟩
  ·intros
   go_wp2
   refine sQ ?_
   exact eZ
  ·intros
   go_wp2
   refine sQ ?_
   exact eZ
  ·intros
   go_wp2
   refine sQ ?_
   exact eZ
  ·intros
   go_wp2
   refine sQ ?_
   exact eZ
  intros
  go_wp2_with (fail)
  (with_reducible refine (AE.out _ hxr).mono ?_)
  rintro e w9 ⟨v9, rfl, o9, x9⟩
  go_wp2
  refine sQ ?_
  exact ⟨x9, v9, rfl, o9, fun q hq => (o9.block q hq).2⟩
 case hB => kernel_rfl
 intro V lo up w' hr hf ha
 simp only [factsOk, isv, matR, modeNg, newb, List.map_nil, List.map_cons, List.headD_cons, and_true, Nat.zero_add, Nat.reduceAdd] at hf
 simp only [List.length_cons, List.length_nil, Nat.zero_add, Nat.reduceAdd, List.drop_succ_cons, List.drop_zero]
 obtain ⟨-, -, -, -, ⟨l4, -, -, v4, e4, o4, b4⟩, -, -, -, -, ⟨l9, -, -, v9, e9, o9, b9⟩⟩ := hf
 have APDE := kp (Apt.drawn o4 b4 o9 b9 (ha 4 9 (by simp) (by simp) (by simp)))
 clear ha
 replace kA := kA.keep hr
 replace kB := kB.keep hr
 replace kR := kR.keep hr
 replace o4 := o4.mono (Nat.le_trans X.out.size l4)
 replace o9 := o9.mono (Nat.le_trans X.out.size l9)
 replace X := kp (X.out.trans hr)
 clear hr
 try clear hc hz
 obtain ⟨pD, mD, huD, -, -⟩ := id o4.ints
 try simp only at huD
 subst huD
 rw [e4]
 clear e4 l4 b4
 have oD := o4
 clear o4
 obtain ⟨pE, mE, huE, -, -⟩ := id o9.ints
 try simp only at huE
 subst huE
 rw [e9]
 clear e9 l9 b9
 have oE := o9
 clear o9
 have neoDkR := kp (oD.ne kR (by decide))
 have KoD := kp oD
 have neoEkR := kp (oE.ne kR (by decide))
 have KoE := kp oE
 obtain ⟨akR0, akR1, akR2, akR3, akR4, akR5⟩ := kR.sixC
 have fkR := kR.free
 clear kA kB kR oD oE
 go_wp2
 exact bodyPost_ret (v := .agg #[.int .i64 dr, .int .i64 dc, .slice pD ds.length mD, .int .i64 er, .int .i64 ec, .slice pE es.length mE]) (by simp [results, Tryz.results37, go_sem, *]) rfl ⟨_, _, rfl, ((KoD.out.oth neoDkR.out 0 1 2 _ _ _).oth neoDkR.out 3 4 5 _ _ _), ((KoE.out.oth neoEkR.out 0 1 2 _ _ _).oth neoEkR.out 3 4 5 _ _ _), APDE.out, ((X.out.oth (g := w.heap.size + 1 + 1) (by omega) 0 1 2 _ _ _).oth (g := w.heap.size + 1 + 1) (by omega) 3 4 5 _ _ _)⟩
set_option maxHeartbeats 4000000 in
set_option maxRecDepth 2000 in
theorem spec_AddSharedMatrices (r c : Int) (v1 : Value) (xs : List Int) (p q : Int) (v2 : Value) (ys : List Int) (rr cc : Int) (v3 : Value) (zs : List Int) (pp qq : Int) (v4 : Value) (us : List Int) (w : World) (h1 : Arg w v1 xs) (h2 : Arg w v2 ys) (h3 : Arg w v3 zs) (h4 : Arg w v4 us) : Calls Tryz.prog 27 #[.agg #[.int .i64 r, .int .i64 c, v1, .int .i64 p, .int .i64 q, v2], .agg #[.int .i64 rr, .int .i64 cc, v3, .int .i64 pp, .int .i64 qq, v4]] w (ShPost (addSh ⟨⟨r, c, xs⟩, ⟨p, q, ys⟩⟩ ⟨⟨rr, cc, zs⟩, ⟨pp, qq, us⟩⟩) w) := by
 unfold ShPost
 cases g1 : (mOk r c xs && mOk p q ys && (decide (r = p) && decide (c = q)))
 ·rw [show addSh ⟨⟨r, c, xs⟩, ⟨p, q, ys⟩⟩ ⟨⟨rr, cc, zs⟩, ⟨pp, qq, us⟩⟩ = shZ by unfold addSh shAddOk ShM.ok Mat.ok sameS; rw [if_neg (by simp [g1])]]
  obtain ⟨s1, n1, rfl, hm9, hc9⟩ := id h1.ints
  clear hm9 hc9
  have H1 := kp h1
  clear h1
  obtain ⟨s2, n2, rfl, hm9, hc9⟩ := id h2.ints
  clear hm9 hc9
  have H2 := kp h2
  clear h2
  obtain ⟨s3, n3, rfl, hm9, hc9⟩ := id h3.ints
  clear hm9 hc9
  have H3 := kp h3
  clear h3
  obtain ⟨s4, n4, rfl, hm9, hc9⟩ := id h4.ints
  clear hm9 hc9
  have H4 := kp h4
  clear h4
  have OA := kp (fun w' (hx : Ext w w') => spec_l1OwnSharedMatrix r c p q _ _ xs ys w' (H1.out.keep hx) (H2.out.keep hx))
  unfold ShPost at OA
  have OB := kp (fun w' (hx : Ext w w') => spec_l1OwnSharedMatrix rr cc pp qq _ _ zs us w' (H3.out.keep hx) (H4.out.keep hx))
  unfold ShPost at OB
  have MA : Kept (∀ v u w', Ints w' v xs → Ints w' u ys → Calls Tryz.prog 24 #[.agg #[.int .i64 r, .int .i64 c, v, .int .i64 p, .int .i64 q, u]] w' fun e w'' => e = .returned (.bool false) ∧ Ext w' w'') := ⟨fun v u w' h1 h2 => spec_SharedMatrixValid r c p q v u xs ys false g1 w' h1 h2⟩
  clear g1
  have X := kp ((((Ext.refl w).alloc (.cells #[.int .i64 r, .int .i64 c, .slice s1 xs.length n1, .int .i64 p, .int .i64 q, .slice s2 ys.length n2] 30)).alloc (.cells #[.int .i64 rr, .int .i64 cc, .slice s3 zs.length n3, .int .i64 pp, .int .i64 qq, .slice s4 us.length n4] 30)).alloc (.cells #[.int .i64 0, .int .i64 0, .slice none 0 0, .int .i64 0, .int .i64 0, .slice none 0 0] 30))
  have kA := ((Blk.new w #[.int .i64 r, .int .i64 c, .slice s1 xs.length n1, .int .i64 p, .int .i64 q, .slice s2 ys.length n2] 30).old (.cells #[.int .i64 rr, .int .i64 cc, .slice s3 zs.length n3, .int .i64 pp, .int .i64 qq, .slice s4 us.length n4] 30)).old (.cells #[.int .i64 0, .int .i64 0, .slice none 0 0, .int .i64 0, .int .i64 0, .slice none 0 0] 30)
  have kB := (Blk.new (w.alloc (.cells #[.int .i64 r, .int .i64 c, .slice s1 xs.length n1, .int .i64 p, .int .i64 q, .slice s2 ys.length n2] 30)) #[.int .i64 rr, .int .i64 cc, .slice s3 zs.length n3, .int .i64 pp, .int .i64 qq, .slice s4 us.length n4] 30).old (.cells #[.int .i64 0, .int .i64 0, .slice none 0 0, .int .i64 0, .int .i64 0, .slice none 0 0] 30)
  have kR := Blk.new ((w.alloc (.cells #[.int .i64 r, .int .i64 c, .slice s1 xs.length n1, .int .i64 p, .int .i64 q, .slice s2 ys.length n2] 30)).alloc (.cells #[.int .i64 rr, .int .i64 cc, .slice s3 zs.length n3, .int .i64 pp, .int .i64 qq, .slice s4 us.length n4] 30)) #[.int .i64 0, .int .i64 0, .slice none 0 0, .int .i64 0, .int .i64 0, .slice none 0 0] 30
  simp only [World.size_alloc] at kB kR
  go_enter Tryz.func27, Tryz.ntmps27
  obtain ⟨akA0, akA1, akA2, akA3, akA4, akA5⟩ := kA.sixC
  go_wp2_with (fail)
  clear akA0 akA1 akA2 akA3 akA4 akA5
  (with_reducible refine (OA.out _ X.out).mono ?_)
  rintro e u1 ⟨vA, vB, rfl, oA, oB, apA, x9⟩
  obtain ⟨pA, mA, huA, -, -⟩ := id oA.ints
  try simp only at huA
  subst huA
  replace oA := oA.mono X.out.size
  obtain ⟨pB, mB, huB, -, -⟩ := id oB.ints
  try simp only at huB
  subst huB
  replace oB := oB.mono X.out.size
  replace apA := kp apA
  replace X := kp (X.out.trans x9)
  replace kA := kA.keep x9
  replace kB := kB.keep x9
  replace kR := kR.keep x9
  clear x9
  obtain ⟨akA0, akA1, akA2, akA3, akA4, akA5⟩ := kA.sixC
  obtain ⟨akB0, akB1, akB2, akB3, akB4, akB5⟩ := kB.sixC
  have fkA := kA.free
  go_wp2_with (fail)
  clear akA0 akA1 akA2 akA3 akA4 akA5
  clear akB0 akB1 akB2 akB3 akB4 akB5
  clear fkA
  replace oA := oA.oth (oA.ne kA (by decide)) 0 1 2 (.int .i64 r) (.int .i64 c) (.slice pA xs.length mA)
  replace oB := oB.oth (oB.ne kA (by decide)) 0 1 2 (.int .i64 r) (.int .i64 c) (.slice pA xs.length mA)
  replace kB := kB.oth (g := w.heap.size) (by omega) 0 1 2 (.int .i64 r) (.int .i64 c) (.slice pA xs.length mA)
  replace kR := kR.oth (g := w.heap.size) (by omega) 0 1 2 (.int .i64 r) (.int .i64 c) (.slice pA xs.length mA)
  replace kA := kA.sub 0 1 2 (.int .i64 r) (.int .i64 c) (.slice pA xs.length mA) (cs' := #[.int .i64 r, .int .i64 c, .slice pA xs.length mA, .int .i64 p, .int .i64 q, .slice s2 ys.length n2]) rfl
  replace X := kp (X.out.oth (g := w.heap.size) (by omega) 0 1 2 (.int .i64 r) (.int .i64 c) (.slice pA xs.length mA))
  replace oA := oA.oth (oA.ne kA (by decide)) 3 4 5 (.int .i64 p) (.int .i64 q) (.slice pB ys.length mB)
  replace oB := oB.oth (oB.ne kA (by decide)) 3 4 5 (.int .i64 p) (.int .i64 q) (.slice pB ys.length mB)
  replace kB := kB.oth (g := w.heap.size) (by omega) 3 4 5 (.int .i64 p) (.int .i64 q) (.slice pB ys.length mB)
  replace kR := kR.oth (g := w.heap.size) (by omega) 3 4 5 (.int .i64 p) (.int .i64 q) (.slice pB ys.length mB)
  replace kA := kA.sub 3 4 5 (.int .i64 p) (.int .i64 q) (.slice pB ys.length mB) (cs' := #[.int .i64 r, .int .i64 c, .slice pA xs.length mA, .int .i64 p, .int .i64 q, .slice pB ys.length mB]) rfl
  replace X := kp (X.out.oth (g := w.heap.size) (by omega) 3 4 5 (.int .i64 p) (.int .i64 q) (.slice pB ys.length mB))
  (with_reducible refine (OB.out _ X.out).mono ?_)
  rintro e u2 ⟨vC, vF, rfl, oC, oF, apC, x9⟩
  obtain ⟨pC, mC, huC, -, -⟩ := id oC.ints
  try simp only at huC
  subst huC
  replace oC := oC.mono X.out.size
  obtain ⟨pF, mF, huF, -, -⟩ := id oF.ints
  try simp only at huF
  subst huF
  replace oF := oF.mono X.out.size
  replace apC := kp apC
  replace X := kp (X.out.trans x9)
  replace kA := kA.keep x9
  replace kB := kB.keep x9
  replace kR := kR.keep x9
  replace oA := oA.keep x9
  replace oB := oB.keep x9
  clear x9
  obtain ⟨akA0, akA1, akA2, akA3, akA4, akA5⟩ := kA.sixC
  obtain ⟨akB0, akB1, akB2, akB3, akB4, akB5⟩ := kB.sixC
  have fkB := kB.free
  go_wp2_with (fail)
  clear akA0 akA1 akA2 akA3 akA4 akA5
  clear akB0 akB1 akB2 akB3 akB4 akB5
  clear fkB
  replace oA := oA.oth (oA.ne kB (by decide)) 0 1 2 (.int .i64 rr) (.int .i64 cc) (.slice pC zs.length mC)
  replace oB := oB.oth (oB.ne kB (by decide)) 0 1 2 (.int .i64 rr) (.int .i64 cc) (.slice pC zs.length mC)
  replace oC := oC.oth (oC.ne kB (by decide)) 0 1 2 (.int .i64 rr) (.int .i64 cc) (.slice pC zs.length mC)
  replace oF := oF.oth (oF.ne kB (by decide)) 0 1 2 (.int .i64 rr) (.int .i64 cc) (.slice pC zs.length mC)
  replace kA := kA.oth (g := w.heap.size + 1) (by omega) 0 1 2 (.int .i64 rr) (.int .i64 cc) (.slice pC zs.length mC)
  replace kR := kR.oth (g := w.heap.size + 1) (by omega) 0 1 2 (.int .i64 rr) (.int .i64 cc) (.slice pC zs.length mC)
  replace kB := kB.sub 0 1 2 (.int .i64 rr) (.int .i64 cc) (.slice pC zs.length mC) (cs' := #[.int .i64 rr, .int .i64 cc, .slice pC zs.length mC, .int .i64 pp, .int .i64 qq, .slice s4 us.length n4]) rfl
  replace X := kp (X.out.oth (g := w.heap.size + 1) (by omega) 0 1 2 (.int .i64 rr) (.int .i64 cc) (.slice pC zs.length mC))
  replace oA := oA.oth (oA.ne kB (by decide)) 3 4 5 (.int .i64 pp) (.int .i64 qq) (.slice pF us.length mF)
  replace oB := oB.oth (oB.ne kB (by decide)) 3 4 5 (.int .i64 pp) (.int .i64 qq) (.slice pF us.length mF)
  replace oC := oC.oth (oC.ne kB (by decide)) 3 4 5 (.int .i64 pp) (.int .i64 qq) (.slice pF us.length mF)
  replace oF := oF.oth (oF.ne kB (by decide)) 3 4 5 (.int .i64 pp) (.int .i64 qq) (.slice pF us.length mF)
  replace kA := kA.oth (g := w.heap.size + 1) (by omega) 3 4 5 (.int .i64 pp) (.int .i64 qq) (.slice pF us.length mF)
  replace kR := kR.oth (g := w.heap.size + 1) (by omega) 3 4 5 (.int .i64 pp) (.int .i64 qq) (.slice pF us.length mF)
  replace kB := kB.sub 3 4 5 (.int .i64 pp) (.int .i64 qq) (.slice pF us.length mF) (cs' := #[.int .i64 rr, .int .i64 cc, .slice pC zs.length mC, .int .i64 pp, .int .i64 qq, .slice pF us.length mF]) rfl
  replace X := kp (X.out.oth (g := w.heap.size + 1) (by omega) 3 4 5 (.int .i64 pp) (.int .i64 qq) (.slice pF us.length mF))
  (with_reducible refine (MA.out _ _ _ oA.ints oB.ints).mono ?_)
  rintro e u3 ⟨rfl, x9⟩
  replace X := kp (X.out.trans x9)
  replace kA := kA.keep x9
  replace kB := kB.keep x9
  replace kR := kR.keep x9
  replace oA := oA.keep x9
  replace oB := oB.keep x9
  replace oC := oC.keep x9
  replace oF := oF.keep x9
  clear x9
  clear kA kB oA oB oC oF
  obtain ⟨akR0, akR1, akR2, akR3, akR4, akR5⟩ := kR.sixC
  have fkR := kR.free
  clear kR
  go_wp2
  exact bodyPost_ret (v := .agg #[.int .i64 0, .int .i64 0, .slice none 0 0, .int .i64 0, .int .i64 0, .slice none 0 0]) (by simp [results, Tryz.results27, go_sem, *]) rfl ⟨_, _, rfl, Own.nil _ _, Own.nil _ _, Apt.nil _ _ rfl, ((X.out.oth (g := w.heap.size + 1 + 1) (by omega) 0 1 2 _ _ _).oth (g := w.heap.size + 1 + 1) (by omega) 3 4 5 _ _ _)⟩
 cases g2 : (mOk rr cc zs && mOk pp qq us && (decide (rr = pp) && decide (cc = qq)))
 ·rw [show addSh ⟨⟨r, c, xs⟩, ⟨p, q, ys⟩⟩ ⟨⟨rr, cc, zs⟩, ⟨pp, qq, us⟩⟩ = shZ by unfold addSh shAddOk ShM.ok Mat.ok sameS; rw [if_neg (by simp [g2])]]
  obtain ⟨s1, n1, rfl, hm9, hc9⟩ := id h1.ints
  clear hm9 hc9
  have H1 := kp h1
  clear h1
  obtain ⟨s2, n2, rfl, hm9, hc9⟩ := id h2.ints
  clear hm9 hc9
  have H2 := kp h2
  clear h2
  obtain ⟨s3, n3, rfl, hm9, hc9⟩ := id h3.ints
  clear hm9 hc9
  have H3 := kp h3
  clear h3
  obtain ⟨s4, n4, rfl, hm9, hc9⟩ := id h4.ints
  clear hm9 hc9
  have H4 := kp h4
  clear h4
  have OA := kp (fun w' (hx : Ext w w') => spec_l1OwnSharedMatrix r c p q _ _ xs ys w' (H1.out.keep hx) (H2.out.keep hx))
  unfold ShPost at OA
  have OB := kp (fun w' (hx : Ext w w') => spec_l1OwnSharedMatrix rr cc pp qq _ _ zs us w' (H3.out.keep hx) (H4.out.keep hx))
  unfold ShPost at OB
  have MA : Kept (∀ v u w', Ints w' v xs → Ints w' u ys → Calls Tryz.prog 24 #[.agg #[.int .i64 r, .int .i64 c, v, .int .i64 p, .int .i64 q, u]] w' fun e w'' => e = .returned (.bool true) ∧ Ext w' w'') := ⟨fun v u w' h1 h2 => spec_SharedMatrixValid r c p q v u xs ys true g1 w' h1 h2⟩
  have MB : Kept (∀ v u w', Ints w' v zs → Ints w' u us → Calls Tryz.prog 24 #[.agg #[.int .i64 rr, .int .i64 cc, v, .int .i64 pp, .int .i64 qq, u]] w' fun e w'' => e = .returned (.bool false) ∧ Ext w' w'') := ⟨fun v u w' h1 h2 => spec_SharedMatrixValid rr cc pp qq v u zs us false g2 w' h1 h2⟩
  clear g1 g2
  have X := kp ((((Ext.refl w).alloc (.cells #[.int .i64 r, .int .i64 c, .slice s1 xs.length n1, .int .i64 p, .int .i64 q, .slice s2 ys.length n2] 30)).alloc (.cells #[.int .i64 rr, .int .i64 cc, .slice s3 zs.length n3, .int .i64 pp, .int .i64 qq, .slice s4 us.length n4] 30)).alloc (.cells #[.int .i64 0, .int .i64 0, .slice none 0 0, .int .i64 0, .int .i64 0, .slice none 0 0] 30))
  have kA := ((Blk.new w #[.int .i64 r, .int .i64 c, .slice s1 xs.length n1, .int .i64 p, .int .i64 q, .slice s2 ys.length n2] 30).old (.cells #[.int .i64 rr, .int .i64 cc, .slice s3 zs.length n3, .int .i64 pp, .int .i64 qq, .slice s4 us.length n4] 30)).old (.cells #[.int .i64 0, .int .i64 0, .slice none 0 0, .int .i64 0, .int .i64 0, .slice none 0 0] 30)
  have kB := (Blk.new (w.alloc (.cells #[.int .i64 r, .int .i64 c, .slice s1 xs.length n1, .int .i64 p, .int .i64 q, .slice s2 ys.length n2] 30)) #[.int .i64 rr, .int .i64 cc, .slice s3 zs.length n3, .int .i64 pp, .int .i64 qq, .slice s4 us.length n4] 30).old (.cells #[.int .i64 0, .int .i64 0, .slice none 0 0, .int .i64 0, .int .i64 0, .slice none 0 0] 30)
  have kR := Blk.new ((w.alloc (.cells #[.int .i64 r, .int .i64 c, .slice s1 xs.length n1, .int .i64 p, .int .i64 q, .slice s2 ys.length n2] 30)).alloc (.cells #[.int .i64 rr, .int .i64 cc, .slice s3 zs.length n3, .int .i64 pp, .int .i64 qq, .slice s4 us.length n4] 30)) #[.int .i64 0, .int .i64 0, .slice none 0 0, .int .i64 0, .int .i64 0, .slice none 0 0] 30
  simp only [World.size_alloc] at kB kR
  go_enter Tryz.func27, Tryz.ntmps27
  obtain ⟨akA0, akA1, akA2, akA3, akA4, akA5⟩ := kA.sixC
  go_wp2_with (fail)
  clear akA0 akA1 akA2 akA3 akA4 akA5
  (with_reducible refine (OA.out _ X.out).mono ?_)
  rintro e u1 ⟨vA, vB, rfl, oA, oB, apA, x9⟩
  obtain ⟨pA, mA, huA, -, -⟩ := id oA.ints
  try simp only at huA
  subst huA
  replace oA := oA.mono X.out.size
  obtain ⟨pB, mB, huB, -, -⟩ := id oB.ints
  try simp only at huB
  subst huB
  replace oB := oB.mono X.out.size
  replace apA := kp apA
  replace X := kp (X.out.trans x9)
  replace kA := kA.keep x9
  replace kB := kB.keep x9
  replace kR := kR.keep x9
  clear x9
  obtain ⟨akA0, akA1, akA2, akA3, akA4, akA5⟩ := kA.sixC
  obtain ⟨akB0, akB1, akB2, akB3, akB4, akB5⟩ := kB.sixC
  have fkA := kA.free
  go_wp2_with (fail)
  clear akA0 akA1 akA2 akA3 akA4 akA5
  clear akB0 akB1 akB2 akB3 akB4 akB5
  clear fkA
  replace oA := oA.oth (oA.ne kA (by decide)) 0 1 2 (.int .i64 r) (.int .i64 c) (.slice pA xs.length mA)
  replace oB := oB.oth (oB.ne kA (by decide)) 0 1 2 (.int .i64 r) (.int .i64 c) (.slice pA xs.length mA)
  replace kB := kB.oth (g := w.heap.size) (by omega) 0 1 2 (.int .i64 r) (.int .i64 c) (.slice pA xs.length mA)
  replace kR := kR.oth (g := w.heap.size) (by omega) 0 1 2 (.int .i64 r) (.int .i64 c) (.slice pA xs.length mA)
  replace kA := kA.sub 0 1 2 (.int .i64 r) (.int .i64 c) (.slice pA xs.length mA) (cs' := #[.int .i64 r, .int .i64 c, .slice pA xs.length mA, .int .i64 p, .int .i64 q, .slice s2 ys.length n2]) rfl
  replace X := kp (X.out.oth (g := w.heap.size) (by omega) 0 1 2 (.int .i64 r) (.int .i64 c) (.slice pA xs.length mA))
  replace oA := oA.oth (oA.ne kA (by decide)) 3 4 5 (.int .i64 p) (.int .i64 q) (.slice pB ys.length mB)
  replace oB := oB.oth (oB.ne kA (by decide)) 3 4 5 (.int .i64 p) (.int .i64 q) (.slice pB ys.length mB)
  replace kB := kB.oth (g := w.heap.size) (by omega) 3 4 5 (.int .i64 p) (.int .i64 q) (.slice pB ys.length mB)
  replace kR := kR.oth (g := w.heap.size) (by omega) 3 4 5 (.int .i64 p) (.int .i64 q) (.slice pB ys.length mB)
  replace kA := kA.sub 3 4 5 (.int .i64 p) (.int .i64 q) (.slice pB ys.length mB) (cs' := #[.int .i64 r, .int .i64 c, .slice pA xs.length mA, .int .i64 p, .int .i64 q, .slice pB ys.length mB]) rfl
  replace X := kp (X.out.oth (g := w.heap.size) (by omega) 3 4 5 (.int .i64 p) (.int .i64 q) (.slice pB ys.length mB))
  (with_reducible refine (OB.out _ X.out).mono ?_)
  rintro e u2 ⟨vC, vF, rfl, oC, oF, apC, x9⟩
  obtain ⟨pC, mC, huC, -, -⟩ := id oC.ints
  try simp only at huC
  subst huC
  replace oC := oC.mono X.out.size
  obtain ⟨pF, mF, huF, -, -⟩ := id oF.ints
  try simp only at huF
  subst huF
  replace oF := oF.mono X.out.size
  replace apC := kp apC
  replace X := kp (X.out.trans x9)
  replace kA := kA.keep x9
  replace kB := kB.keep x9
  replace kR := kR.keep x9
  replace oA := oA.keep x9
  replace oB := oB.keep x9
  clear x9
  obtain ⟨akA0, akA1, akA2, akA3, akA4, akA5⟩ := kA.sixC
  obtain ⟨akB0, akB1, akB2, akB3, akB4, akB5⟩ := kB.sixC
  have fkB := kB.free
  go_wp2_with (fail)
  clear akA0 akA1 akA2 akA3 akA4 akA5
  clear akB0 akB1 akB2 akB3 akB4 akB5
  clear fkB
  replace oA := oA.oth (oA.ne kB (by decide)) 0 1 2 (.int .i64 rr) (.int .i64 cc) (.slice pC zs.length mC)
  replace oB := oB.oth (oB.ne kB (by decide)) 0 1 2 (.int .i64 rr) (.int .i64 cc) (.slice pC zs.length mC)
  replace oC := oC.oth (oC.ne kB (by decide)) 0 1 2 (.int .i64 rr) (.int .i64 cc) (.slice pC zs.length mC)
  replace oF := oF.oth (oF.ne kB (by decide)) 0 1 2 (.int .i64 rr) (.int .i64 cc) (.slice pC zs.length mC)
  replace kA := kA.oth (g := w.heap.size + 1) (by omega) 0 1 2 (.int .i64 rr) (.int .i64 cc) (.slice pC zs.length mC)
  replace kR := kR.oth (g := w.heap.size + 1) (by omega) 0 1 2 (.int .i64 rr) (.int .i64 cc) (.slice pC zs.length mC)
  replace kB := kB.sub 0 1 2 (.int .i64 rr) (.int .i64 cc) (.slice pC zs.length mC) (cs' := #[.int .i64 rr, .int .i64 cc, .slice pC zs.length mC, .int .i64 pp, .int .i64 qq, .slice s4 us.length n4]) rfl
  replace X := kp (X.out.oth (g := w.heap.size + 1) (by omega) 0 1 2 (.int .i64 rr) (.int .i64 cc) (.slice pC zs.length mC))
  replace oA := oA.oth (oA.ne kB (by decide)) 3 4 5 (.int .i64 pp) (.int .i64 qq) (.slice pF us.length mF)
  replace oB := oB.oth (oB.ne kB (by decide)) 3 4 5 (.int .i64 pp) (.int .i64 qq) (.slice pF us.length mF)
  replace oC := oC.oth (oC.ne kB (by decide)) 3 4 5 (.int .i64 pp) (.int .i64 qq) (.slice pF us.length mF)
  replace oF := oF.oth (oF.ne kB (by decide)) 3 4 5 (.int .i64 pp) (.int .i64 qq) (.slice pF us.length mF)
  replace kA := kA.oth (g := w.heap.size + 1) (by omega) 3 4 5 (.int .i64 pp) (.int .i64 qq) (.slice pF us.length mF)
  replace kR := kR.oth (g := w.heap.size + 1) (by omega) 3 4 5 (.int .i64 pp) (.int .i64 qq) (.slice pF us.length mF)
  replace kB := kB.sub 3 4 5 (.int .i64 pp) (.int .i64 qq) (.slice pF us.length mF) (cs' := #[.int .i64 rr, .int .i64 cc, .slice pC zs.length mC, .int .i64 pp, .int .i64 qq, .slice pF us.length mF]) rfl
  replace X := kp (X.out.oth (g := w.heap.size + 1) (by omega) 3 4 5 (.int .i64 pp) (.int .i64 qq) (.slice pF us.length mF))
  (with_reducible refine (MA.out _ _ _ oA.ints oB.ints).mono ?_)
  rintro e u3 ⟨rfl, x9⟩
  replace X := kp (X.out.trans x9)
  replace kA := kA.keep x9
  replace kB := kB.keep x9
  replace kR := kR.keep x9
  replace oA := oA.keep x9
  replace oB := oB.keep x9
  replace oC := oC.keep x9
  replace oF := oF.keep x9
  clear x9
  obtain ⟨akB0, akB1, akB2, akB3, akB4, akB5⟩ := kB.sixC
  go_wp2_with (fail)
  clear akB0 akB1 akB2 akB3 akB4 akB5
  (with_reducible refine (MB.out _ _ _ oC.ints oF.ints).mono ?_)
  rintro e u4 ⟨rfl, x9⟩
  replace X := kp (X.out.trans x9)
  replace kA := kA.keep x9
  replace kB := kB.keep x9
  replace kR := kR.keep x9
  replace oA := oA.keep x9
  replace oB := oB.keep x9
  replace oC := oC.keep x9
  replace oF := oF.keep x9
  clear x9
  clear kA kB oA oB oC oF
  obtain ⟨akR0, akR1, akR2, akR3, akR4, akR5⟩ := kR.sixC
  have fkR := kR.free
  clear kR
  go_wp2
  exact bodyPost_ret (v := .agg #[.int .i64 0, .int .i64 0, .slice none 0 0, .int .i64 0, .int .i64 0, .slice none 0 0]) (by simp [results, Tryz.results27, go_sem, *]) rfl ⟨_, _, rfl, Own.nil _ _, Own.nil _ _, Apt.nil _ _ rfl, ((X.out.oth (g := w.heap.size + 1 + 1) (by omega) 0 1 2 _ _ _).oth (g := w.heap.size + 1 + 1) (by omega) 3 4 5 _ _ _)⟩
 cases g3 : (decide (r = rr) && decide (c = cc))
 ·rw [show addSh ⟨⟨r, c, xs⟩, ⟨p, q, ys⟩⟩ ⟨⟨rr, cc, zs⟩, ⟨pp, qq, us⟩⟩ = shZ by unfold addSh shAddOk ShM.ok Mat.ok sameS; rw [if_neg (by simp [g3])]]
  obtain ⟨s1, n1, rfl, hm9, hc9⟩ := id h1.ints
  clear hm9 hc9
  have H1 := kp h1
  clear h1
  obtain ⟨s2, n2, rfl, hm9, hc9⟩ := id h2.ints
  clear hm9 hc9
  have H2 := kp h2
  clear h2
  obtain ⟨s3, n3, rfl, hm9, hc9⟩ := id h3.ints
  clear hm9 hc9
  have H3 := kp h3
  clear h3
  obtain ⟨s4, n4, rfl, hm9, hc9⟩ := id h4.ints
  clear hm9 hc9
  have H4 := kp h4
  clear h4
  have OA := kp (fun w' (hx : Ext w w') => spec_l1OwnSharedMatrix r c p q _ _ xs ys w' (H1.out.keep hx) (H2.out.keep hx))
  unfold ShPost at OA
  have OB := kp (fun w' (hx : Ext w w') => spec_l1OwnSharedMatrix rr cc pp qq _ _ zs us w' (H3.out.keep hx) (H4.out.keep hx))
  unfold ShPost at OB
  have MA : Kept (∀ v u w', Ints w' v xs → Ints w' u ys → Calls Tryz.prog 24 #[.agg #[.int .i64 r, .int .i64 c, v, .int .i64 p, .int .i64 q, u]] w' fun e w'' => e = .returned (.bool true) ∧ Ext w' w'') := ⟨fun v u w' h1 h2 => spec_SharedMatrixValid r c p q v u xs ys true g1 w' h1 h2⟩
  have MB : Kept (∀ v u w', Ints w' v zs → Ints w' u us → Calls Tryz.prog 24 #[.agg #[.int .i64 rr, .int .i64 cc, v, .int .i64 pp, .int .i64 qq, u]] w' fun e w'' => e = .returned (.bool true) ∧ Ext w' w'') := ⟨fun v u w' h1 h2 => spec_SharedMatrixValid rr cc pp qq v u zs us true g2 w' h1 h2⟩
  have gl : (mOk r c xs && mOk rr cc zs && (decide (r = rr) && decide (c = cc))) = false := by rw [g3]; simp
  have SS : Kept (∀ v u w', Ints w' v xs → Ints w' u zs → Calls Tryz.prog 52 #[.agg #[.int .i64 r, .int .i64 c, v], .agg #[.int .i64 rr, .int .i64 cc, u]] w' fun e w'' => e = .returned (.bool false) ∧ Ext w' w'') := ⟨fun v u w' h1 h2 => spec_l3Like r c rr cc v u xs zs false gl w' h1 h2⟩
  clear gl
  clear g1 g2 g3
  have X := kp ((((Ext.refl w).alloc (.cells #[.int .i64 r, .int .i64 c, .slice s1 xs.length n1, .int .i64 p, .int .i64 q, .slice s2 ys.length n2] 30)).alloc (.cells #[.int .i64 rr, .int .i64 cc, .slice s3 zs.length n3, .int .i64 pp, .int .i64 qq, .slice s4 us.length n4] 30)).alloc (.cells #[.int .i64 0, .int .i64 0, .slice none 0 0, .int .i64 0, .int .i64 0, .slice none 0 0] 30))
  have kA := ((Blk.new w #[.int .i64 r, .int .i64 c, .slice s1 xs.length n1, .int .i64 p, .int .i64 q, .slice s2 ys.length n2] 30).old (.cells #[.int .i64 rr, .int .i64 cc, .slice s3 zs.length n3, .int .i64 pp, .int .i64 qq, .slice s4 us.length n4] 30)).old (.cells #[.int .i64 0, .int .i64 0, .slice none 0 0, .int .i64 0, .int .i64 0, .slice none 0 0] 30)
  have kB := (Blk.new (w.alloc (.cells #[.int .i64 r, .int .i64 c, .slice s1 xs.length n1, .int .i64 p, .int .i64 q, .slice s2 ys.length n2] 30)) #[.int .i64 rr, .int .i64 cc, .slice s3 zs.length n3, .int .i64 pp, .int .i64 qq, .slice s4 us.length n4] 30).old (.cells #[.int .i64 0, .int .i64 0, .slice none 0 0, .int .i64 0, .int .i64 0, .slice none 0 0] 30)
  have kR := Blk.new ((w.alloc (.cells #[.int .i64 r, .int .i64 c, .slice s1 xs.length n1, .int .i64 p, .int .i64 q, .slice s2 ys.length n2] 30)).alloc (.cells #[.int .i64 rr, .int .i64 cc, .slice s3 zs.length n3, .int .i64 pp, .int .i64 qq, .slice s4 us.length n4] 30)) #[.int .i64 0, .int .i64 0, .slice none 0 0, .int .i64 0, .int .i64 0, .slice none 0 0] 30
  simp only [World.size_alloc] at kB kR
  go_enter Tryz.func27, Tryz.ntmps27
  obtain ⟨akA0, akA1, akA2, akA3, akA4, akA5⟩ := kA.sixC
  go_wp2_with (fail)
  clear akA0 akA1 akA2 akA3 akA4 akA5
  (with_reducible refine (OA.out _ X.out).mono ?_)
  rintro e u1 ⟨vA, vB, rfl, oA, oB, apA, x9⟩
  obtain ⟨pA, mA, huA, -, -⟩ := id oA.ints
  try simp only at huA
  subst huA
  replace oA := oA.mono X.out.size
  obtain ⟨pB, mB, huB, -, -⟩ := id oB.ints
  try simp only at huB
  subst huB
  replace oB := oB.mono X.out.size
  replace apA := kp apA
  replace X := kp (X.out.trans x9)
  replace kA := kA.keep x9
  replace kB := kB.keep x9
  replace kR := kR.keep x9
  clear x9
  obtain ⟨akA0, akA1, akA2, akA3, akA4, akA5⟩ := kA.sixC
  obtain ⟨akB0, akB1, akB2, akB3, akB4, akB5⟩ := kB.sixC
  have fkA := kA.free
  go_wp2_with (fail)
  clear akA0 akA1 akA2 akA3 akA4 akA5
  clear akB0 akB1 akB2 akB3 akB4 akB5
  clear fkA
  replace oA := oA.oth (oA.ne kA (by decide)) 0 1 2 (.int .i64 r) (.int .i64 c) (.slice pA xs.length mA)
  replace oB := oB.oth (oB.ne kA (by decide)) 0 1 2 (.int .i64 r) (.int .i64 c) (.slice pA xs.length mA)
  replace kB := kB.oth (g := w.heap.size) (by omega) 0 1 2 (.int .i64 r) (.int .i64 c) (.slice pA xs.length mA)
  replace kR := kR.oth (g := w.heap.size) (by omega) 0 1 2 (.int .i64 r) (.int .i64 c) (.slice pA xs.length mA)
  replace kA := kA.sub 0 1 2 (.int .i64 r) (.int .i64 c) (.slice pA xs.length mA) (cs' := #[.int .i64 r, .int .i64 c, .slice pA xs.length mA, .int .i64 p, .int .i64 q, .slice s2 ys.length n2]) rfl
  replace X := kp (X.out.oth (g := w.heap.size) (by omega) 0 1 2 (.int .i64 r) (.int .i64 c) (.slice pA xs.length mA))
  replace oA := oA.oth (oA.ne kA (by decide)) 3 4 5 (.int .i64 p) (.int .i64 q) (.slice pB ys.length mB)
  replace oB := oB.oth (oB.ne kA (by decide)) 3 4 5 (.int .i64 p) (.int .i64 q) (.slice pB ys.length mB)
  replace kB := kB.oth (g := w.heap.size) (by omega) 3 4 5 (.int .i64 p) (.int .i64 q) (.slice pB ys.length mB)
  replace kR := kR.oth (g := w.heap.size) (by omega) 3 4 5 (.int .i64 p) (.int .i64 q) (.slice pB ys.length mB)
  replace kA := kA.sub 3 4 5 (.int .i64 p) (.int .i64 q) (.slice pB ys.length mB) (cs' := #[.int .i64 r, .int .i64 c, .slice pA xs.length mA, .int .i64 p, .int .i64 q, .slice pB ys.length mB]) rfl
  replace X := kp (X.out.oth (g := w.heap.size) (by omega) 3 4 5 (.int .i64 p) (.int .i64 q) (.slice pB ys.length mB))
  (with_reducible refine (OB.out _ X.out).mono ?_)
  rintro e u2 ⟨vC, vF, rfl, oC, oF, apC, x9⟩
  obtain ⟨pC, mC, huC, -, -⟩ := id oC.ints
  try simp only at huC
  subst huC
  replace oC := oC.mono X.out.size
  obtain ⟨pF, mF, huF, -, -⟩ := id oF.ints
  try simp only at huF
  subst huF
  replace oF := oF.mono X.out.size
  replace apC := kp apC
  replace X := kp (X.out.trans x9)
  replace kA := kA.keep x9
  replace kB := kB.keep x9
  replace kR := kR.keep x9
  replace oA := oA.keep x9
  replace oB := oB.keep x9
  clear x9
  obtain ⟨akA0, akA1, akA2, akA3, akA4, akA5⟩ := kA.sixC
  obtain ⟨akB0, akB1, akB2, akB3, akB4, akB5⟩ := kB.sixC
  have fkB := kB.free
  go_wp2_with (fail)
  clear akA0 akA1 akA2 akA3 akA4 akA5
  clear akB0 akB1 akB2 akB3 akB4 akB5
  clear fkB
  replace oA := oA.oth (oA.ne kB (by decide)) 0 1 2 (.int .i64 rr) (.int .i64 cc) (.slice pC zs.length mC)
  replace oB := oB.oth (oB.ne kB (by decide)) 0 1 2 (.int .i64 rr) (.int .i64 cc) (.slice pC zs.length mC)
  replace oC := oC.oth (oC.ne kB (by decide)) 0 1 2 (.int .i64 rr) (.int .i64 cc) (.slice pC zs.length mC)
  replace oF := oF.oth (oF.ne kB (by decide)) 0 1 2 (.int .i64 rr) (.int .i64 cc) (.slice pC zs.length mC)
  replace kA := kA.oth (g := w.heap.size + 1) (by omega) 0 1 2 (.int .i64 rr) (.int .i64 cc) (.slice pC zs.length mC)
  replace kR := kR.oth (g := w.heap.size + 1) (by omega) 0 1 2 (.int .i64 rr) (.int .i64 cc) (.slice pC zs.length mC)
  replace kB := kB.sub 0 1 2 (.int .i64 rr) (.int .i64 cc) (.slice pC zs.length mC) (cs' := #[.int .i64 rr, .int .i64 cc, .slice pC zs.length mC, .int .i64 pp, .int .i64 qq, .slice s4 us.length n4]) rfl
  replace X := kp (X.out.oth (g := w.heap.size + 1) (by omega) 0 1 2 (.int .i64 rr) (.int .i64 cc) (.slice pC zs.length mC))
  replace oA := oA.oth (oA.ne kB (by decide)) 3 4 5 (.int .i64 pp) (.int .i64 qq) (.slice pF us.length mF)
  replace oB := oB.oth (oB.ne kB (by decide)) 3 4 5 (.int .i64 pp) (.int .i64 qq) (.slice pF us.length mF)
  replace oC := oC.oth (oC.ne kB (by decide)) 3 4 5 (.int .i64 pp) (.int .i64 qq) (.slice pF us.length mF)
  replace oF := oF.oth (oF.ne kB (by decide)) 3 4 5 (.int .i64 pp) (.int .i64 qq) (.slice pF us.length mF)
  replace kA := kA.oth (g := w.heap.size + 1) (by omega) 3 4 5 (.int .i64 pp) (.int .i64 qq) (.slice pF us.length mF)
  replace kR := kR.oth (g := w.heap.size + 1) (by omega) 3 4 5 (.int .i64 pp) (.int .i64 qq) (.slice pF us.length mF)
  replace kB := kB.sub 3 4 5 (.int .i64 pp) (.int .i64 qq) (.slice pF us.length mF) (cs' := #[.int .i64 rr, .int .i64 cc, .slice pC zs.length mC, .int .i64 pp, .int .i64 qq, .slice pF us.length mF]) rfl
  replace X := kp (X.out.oth (g := w.heap.size + 1) (by omega) 3 4 5 (.int .i64 pp) (.int .i64 qq) (.slice pF us.length mF))
  (with_reducible refine (MA.out _ _ _ oA.ints oB.ints).mono ?_)
  rintro e u3 ⟨rfl, x9⟩
  replace X := kp (X.out.trans x9)
  replace kA := kA.keep x9
  replace kB := kB.keep x9
  replace kR := kR.keep x9
  replace oA := oA.keep x9
  replace oB := oB.keep x9
  replace oC := oC.keep x9
  replace oF := oF.keep x9
  clear x9
  obtain ⟨akB0, akB1, akB2, akB3, akB4, akB5⟩ := kB.sixC
  go_wp2_with (fail)
  clear akB0 akB1 akB2 akB3 akB4 akB5
  (with_reducible refine (MB.out _ _ _ oC.ints oF.ints).mono ?_)
  rintro e u4 ⟨rfl, x9⟩
  replace X := kp (X.out.trans x9)
  replace kA := kA.keep x9
  replace kB := kB.keep x9
  replace kR := kR.keep x9
  replace oA := oA.keep x9
  replace oB := oB.keep x9
  replace oC := oC.keep x9
  replace oF := oF.keep x9
  clear x9
  obtain ⟨akA0, akA1, akA2, akA3, akA4, akA5⟩ := kA.sixC
  obtain ⟨akB0, akB1, akB2, akB3, akB4, akB5⟩ := kB.sixC
  go_wp2_with (fail)
  clear akA0 akA1 akA2 akA3 akA4 akA5
  clear akB0 akB1 akB2 akB3 akB4 akB5
  (with_reducible refine (SS.out _ _ _ oA.ints oC.ints).mono ?_)
  rintro e u5 ⟨rfl, x9⟩
  replace X := kp (X.out.trans x9)
  replace kA := kA.keep x9
  replace kB := kB.keep x9
  replace kR := kR.keep x9
  replace oA := oA.keep x9
  replace oB := oB.keep x9
  replace oC := oC.keep x9
  replace oF := oF.keep x9
  clear x9
  clear kA kB oA oB oC oF
  obtain ⟨akR0, akR1, akR2, akR3, akR4, akR5⟩ := kR.sixC
  have fkR := kR.free
  clear kR
  go_wp2
  exact bodyPost_ret (v := .agg #[.int .i64 0, .int .i64 0, .slice none 0 0, .int .i64 0, .int .i64 0, .slice none 0 0]) (by simp [results, Tryz.results27, go_sem, *]) rfl ⟨_, _, rfl, Own.nil _ _, Own.nil _ _, Apt.nil _ _ rfl, ((X.out.oth (g := w.heap.size + 1 + 1) (by omega) 0 1 2 _ _ _).oth (g := w.heap.size + 1 + 1) (by omega) 3 4 5 _ _ _)⟩
 rw [show addSh ⟨⟨r, c, xs⟩, ⟨p, q, ys⟩⟩ ⟨⟨rr, cc, zs⟩, ⟨pp, qq, us⟩⟩ = ⟨addM ⟨r, c, xs⟩ ⟨rr, cc, zs⟩, addM ⟨p, q, ys⟩ ⟨pp, qq, us⟩⟩ by unfold addSh shAddOk ShM.ok Mat.ok sameS; rw [if_pos (by simp only [g1, g2, g3, Bool.and_self])]]
 obtain ⟨s1, n1, rfl, hm9, hc9⟩ := id h1.ints
 clear hm9 hc9
 have H1 := kp h1
 clear h1
 obtain ⟨s2, n2, rfl, hm9, hc9⟩ := id h2.ints
 clear hm9 hc9
 have H2 := kp h2
 clear h2
 obtain ⟨s3, n3, rfl, hm9, hc9⟩ := id h3.ints
 clear hm9 hc9
 have H3 := kp h3
 clear h3
 obtain ⟨s4, n4, rfl, hm9, hc9⟩ := id h4.ints
 clear hm9 hc9
 have H4 := kp h4
 clear h4
 have OA := kp (fun w' (hx : Ext w w') => spec_l1OwnSharedMatrix r c p q _ _ xs ys w' (H1.out.keep hx) (H2.out.keep hx))
 unfold ShPost at OA
 have OB := kp (fun w' (hx : Ext w w') => spec_l1OwnSharedMatrix rr cc pp qq _ _ zs us w' (H3.out.keep hx) (H4.out.keep hx))
 unfold ShPost at OB
 have MA : Kept (∀ v u w', Ints w' v xs → Ints w' u ys → Calls Tryz.prog 24 #[.agg #[.int .i64 r, .int .i64 c, v, .int .i64 p, .int .i64 q, u]] w' fun e w'' => e = .returned (.bool true) ∧ Ext w' w'') := ⟨fun v u w' h1 h2 => spec_SharedMatrixValid r c p q v u xs ys true g1 w' h1 h2⟩
 have MB : Kept (∀ v u w', Ints w' v zs → Ints w' u us → Calls Tryz.prog 24 #[.agg #[.int .i64 rr, .int .i64 cc, v, .int .i64 pp, .int .i64 qq, u]] w' fun e w'' => e = .returned (.bool true) ∧ Ext w' w'') := ⟨fun v u w' h1 h2 => spec_SharedMatrixValid rr cc pp qq v u zs us true g2 w' h1 h2⟩
 have gl : (mOk r c xs && mOk rr cc zs && (decide (r = rr) && decide (c = cc))) = true := by rw [g3]; simp only [Bool.and_eq_true] at g1 g2 ⊢; exact ⟨⟨g1.1.1, g2.1.1⟩, trivial⟩
 have SS : Kept (∀ v u w', Ints w' v xs → Ints w' u zs → Calls Tryz.prog 52 #[.agg #[.int .i64 r, .int .i64 c, v], .agg #[.int .i64 rr, .int .i64 cc, u]] w' fun e w'' => e = .returned (.bool true) ∧ Ext w' w'') := ⟨fun v u w' h1 h2 => spec_l3Like r c rr cc v u xs zs true gl w' h1 h2⟩
 have AD := kp (fun v u w' (h1 : Arg w' v xs) (h2 : Arg w' u zs) => spec_AddMatrices r c rr cc v u xs zs w' h1 h2)
 unfold MatPost at AD
 have AE := kp (fun v u w' (h1 : Arg w' v ys) (h2 : Arg w' u us) => spec_AddMatrices p q pp qq v u ys us w' h1 h2)
 unfold MatPost at AE
 clear g1 g2 g3 gl
 generalize addM ⟨r, c, xs⟩ ⟨rr, cc, zs⟩ = D at *
 generalize addM ⟨p, q, ys⟩ ⟨pp, qq, us⟩ = E at *
 obtain ⟨dr, dc, ds⟩ := D
 obtain ⟨er, ec, es⟩ := E
 simp only at AD AE
 have X := kp ((((Ext.refl w).alloc (.cells #[.int .i64 r, .int .i64 c, .slice s1 xs.length n1, .int .i64 p, .int .i64 q, .slice s2 ys.length n2] 30)).alloc (.cells #[.int .i64 rr, .int .i64 cc, .slice s3 zs.length n3, .int .i64 pp, .int .i64 qq, .slice s4 us.length n4] 30)).alloc (.cells #[.int .i64 0, .int .i64 0, .slice none 0 0, .int .i64 0, .int .i64 0, .slice none 0 0] 30))
 have kA := ((Blk.new w #[.int .i64 r, .int .i64 c, .slice s1 xs.length n1, .int .i64 p, .int .i64 q, .slice s2 ys.length n2] 30).old (.cells #[.int .i64 rr, .int .i64 cc, .slice s3 zs.length n3, .int .i64 pp, .int .i64 qq, .slice s4 us.length n4] 30)).old (.cells #[.int .i64 0, .int .i64 0, .slice none 0 0, .int .i64 0, .int .i64 0, .slice none 0 0] 30)
 have kB := (Blk.new (w.alloc (.cells #[.int .i64 r, .int .i64 c, .slice s1 xs.length n1, .int .i64 p, .int .i64 q, .slice s2 ys.length n2] 30)) #[.int .i64 rr, .int .i64 cc, .slice s3 zs.length n3, .int .i64 pp, .int .i64 qq, .slice s4 us.length n4] 30).old (.cells #[.int .i64 0, .int .i64 0, .slice none 0 0, .int .i64 0, .int .i64 0, .slice none 0 0] 30)
 have kR := Blk.new ((w.alloc (.cells #[.int .i64 r, .int .i64 c, .slice s1 xs.length n1, .int .i64 p, .int .i64 q, .slice s2 ys.length n2] 30)).alloc (.cells #[.int .i64 rr, .int .i64 cc, .slice s3 zs.length n3, .int .i64 pp, .int .i64 qq, .slice s4 us.length n4] 30)) #[.int .i64 0, .int .i64 0, .slice none 0 0, .int .i64 0, .int .i64 0, .slice none 0 0] 30
 simp only [World.size_alloc] at kB kR
 go_enter Tryz.func27, Tryz.ntmps27
 obtain ⟨akA0, akA1, akA2, akA3, akA4, akA5⟩ := kA.sixC
 go_wp2_with (fail)
 clear akA0 akA1 akA2 akA3 akA4 akA5
 (with_reducible refine (OA.out _ X.out).mono ?_)
 rintro e u1 ⟨vA, vB, rfl, oA, oB, apA, x9⟩
 obtain ⟨pA, mA, huA, -, -⟩ := id oA.ints
 try simp only at huA
 subst huA
 replace oA := oA.mono X.out.size
 obtain ⟨pB, mB, huB, -, -⟩ := id oB.ints
 try simp only at huB
 subst huB
 replace oB := oB.mono X.out.size
 replace apA := kp apA
 replace X := kp (X.out.trans x9)
 replace kA := kA.keep x9
 replace kB := kB.keep x9
 replace kR := kR.keep x9
 clear x9
 obtain ⟨akA0, akA1, akA2, akA3, akA4, akA5⟩ := kA.sixC
 obtain ⟨akB0, akB1, akB2, akB3, akB4, akB5⟩ := kB.sixC
 have fkA := kA.free
 go_wp2_with (fail)
 clear akA0 akA1 akA2 akA3 akA4 akA5
 clear akB0 akB1 akB2 akB3 akB4 akB5
 clear fkA
 replace oA := oA.oth (oA.ne kA (by decide)) 0 1 2 (.int .i64 r) (.int .i64 c) (.slice pA xs.length mA)
 replace oB := oB.oth (oB.ne kA (by decide)) 0 1 2 (.int .i64 r) (.int .i64 c) (.slice pA xs.length mA)
 replace kB := kB.oth (g := w.heap.size) (by omega) 0 1 2 (.int .i64 r) (.int .i64 c) (.slice pA xs.length mA)
 replace kR := kR.oth (g := w.heap.size) (by omega) 0 1 2 (.int .i64 r) (.int .i64 c) (.slice pA xs.length mA)
 replace kA := kA.sub 0 1 2 (.int .i64 r) (.int .i64 c) (.slice pA xs.length mA) (cs' := #[.int .i64 r, .int .i64 c, .slice pA xs.length mA, .int .i64 p, .int .i64 q, .slice s2 ys.length n2]) rfl
 replace X := kp (X.out.oth (g := w.heap.size) (by omega) 0 1 2 (.int .i64 r) (.int .i64 c) (.slice pA xs.length mA))
 replace oA := oA.oth (oA.ne kA (by decide)) 3 4 5 (.int .i64 p) (.int .i64 q) (.slice pB ys.length mB)
 replace oB := oB.oth (oB.ne kA (by decide)) 3 4 5 (.int .i64 p) (.int .i64 q) (.slice pB ys.length mB)
 replace kB := kB.oth (g := w.heap.size) (by omega) 3 4 5 (.int .i64 p) (.int .i64 q) (.slice pB ys.length mB)
 replace kR := kR.oth (g := w.heap.size) (by omega) 3 4 5 (.int .i64 p) (.int .i64 q) (.slice pB ys.length mB)
 replace kA := kA.sub 3 4 5 (.int .i64 p) (.int .i64 q) (.slice pB ys.length mB) (cs' := #[.int .i64 r, .int .i64 c, .slice pA xs.length mA, .int .i64 p, .int .i64 q, .slice pB ys.length mB]) rfl
 replace X := kp (X.out.oth (g := w.heap.size) (by omega) 3 4 5 (.int .i64 p) (.int .i64 q) (.slice pB ys.length mB))
 (with_reducible refine (OB.out _ X.out).mono ?_)
 rintro e u2 ⟨vC, vF, rfl, oC, oF, apC, x9⟩
 obtain ⟨pC, mC, huC, -, -⟩ := id oC.ints
 try simp only at huC
 subst huC
 replace oC := oC.mono X.out.size
 obtain ⟨pF, mF, huF, -, -⟩ := id oF.ints
 try simp only at huF
 subst huF
 replace oF := oF.mono X.out.size
 replace apC := kp apC
 replace X := kp (X.out.trans x9)
 replace kA := kA.keep x9
 replace kB := kB.keep x9
 replace kR := kR.keep x9
 replace oA := oA.keep x9
 replace oB := oB.keep x9
 clear x9
 obtain ⟨akA0, akA1, akA2, akA3, akA4, akA5⟩ := kA.sixC
 obtain ⟨akB0, akB1, akB2, akB3, akB4, akB5⟩ := kB.sixC
 have fkB := kB.free
 go_wp2_with (fail)
 clear akA0 akA1 akA2 akA3 akA4 akA5
 clear akB0 akB1 akB2 akB3 akB4 akB5
 clear fkB
 replace oA := oA.oth (oA.ne kB (by decide)) 0 1 2 (.int .i64 rr) (.int .i64 cc) (.slice pC zs.length mC)
 replace oB := oB.oth (oB.ne kB (by decide)) 0 1 2 (.int .i64 rr) (.int .i64 cc) (.slice pC zs.length mC)
 replace oC := oC.oth (oC.ne kB (by decide)) 0 1 2 (.int .i64 rr) (.int .i64 cc) (.slice pC zs.length mC)
 replace oF := oF.oth (oF.ne kB (by decide)) 0 1 2 (.int .i64 rr) (.int .i64 cc) (.slice pC zs.length mC)
 replace kA := kA.oth (g := w.heap.size + 1) (by omega) 0 1 2 (.int .i64 rr) (.int .i64 cc) (.slice pC zs.length mC)
 replace kR := kR.oth (g := w.heap.size + 1) (by omega) 0 1 2 (.int .i64 rr) (.int .i64 cc) (.slice pC zs.length mC)
 replace kB := kB.sub 0 1 2 (.int .i64 rr) (.int .i64 cc) (.slice pC zs.length mC) (cs' := #[.int .i64 rr, .int .i64 cc, .slice pC zs.length mC, .int .i64 pp, .int .i64 qq, .slice s4 us.length n4]) rfl
 replace X := kp (X.out.oth (g := w.heap.size + 1) (by omega) 0 1 2 (.int .i64 rr) (.int .i64 cc) (.slice pC zs.length mC))
 replace oA := oA.oth (oA.ne kB (by decide)) 3 4 5 (.int .i64 pp) (.int .i64 qq) (.slice pF us.length mF)
 replace oB := oB.oth (oB.ne kB (by decide)) 3 4 5 (.int .i64 pp) (.int .i64 qq) (.slice pF us.length mF)
 replace oC := oC.oth (oC.ne kB (by decide)) 3 4 5 (.int .i64 pp) (.int .i64 qq) (.slice pF us.length mF)
 replace oF := oF.oth (oF.ne kB (by decide)) 3 4 5 (.int .i64 pp) (.int .i64 qq) (.slice pF us.length mF)
 replace kA := kA.oth (g := w.heap.size + 1) (by omega) 3 4 5 (.int .i64 pp) (.int .i64 qq) (.slice pF us.length mF)
 replace kR := kR.oth (g := w.heap.size + 1) (by omega) 3 4 5 (.int .i64 pp) (.int .i64 qq) (.slice pF us.length mF)
 replace kB := kB.sub 3 4 5 (.int .i64 pp) (.int .i64 qq) (.slice pF us.length mF) (cs' := #[.int .i64 rr, .int .i64 cc, .slice pC zs.length mC, .int .i64 pp, .int .i64 qq, .slice pF us.length mF]) rfl
 replace X := kp (X.out.oth (g := w.heap.size + 1) (by omega) 3 4 5 (.int .i64 pp) (.int .i64 qq) (.slice pF us.length mF))
 (with_reducible refine (MA.out _ _ _ oA.ints oB.ints).mono ?_)
 rintro e u3 ⟨rfl, x9⟩
 replace X := kp (X.out.trans x9)
 replace kA := kA.keep x9
 replace kB := kB.keep x9
 replace kR := kR.keep x9
 replace oA := oA.keep x9
 replace oB := oB.keep x9
 replace oC := oC.keep x9
 replace oF := oF.keep x9
 clear x9
 obtain ⟨akB0, akB1, akB2, akB3, akB4, akB5⟩ := kB.sixC
 go_wp2_with (fail)
 clear akB0 akB1 akB2 akB3 akB4 akB5
 (with_reducible refine (MB.out _ _ _ oC.ints oF.ints).mono ?_)
 rintro e u4 ⟨rfl, x9⟩
 replace X := kp (X.out.trans x9)
 replace kA := kA.keep x9
 replace kB := kB.keep x9
 replace kR := kR.keep x9
 replace oA := oA.keep x9
 replace oB := oB.keep x9
 replace oC := oC.keep x9
 replace oF := oF.keep x9
 clear x9
 obtain ⟨akA0, akA1, akA2, akA3, akA4, akA5⟩ := kA.sixC
 obtain ⟨akB0, akB1, akB2, akB3, akB4, akB5⟩ := kB.sixC
 go_wp2_with (fail)
 clear akA0 akA1 akA2 akA3 akA4 akA5
 clear akB0 akB1 akB2 akB3 akB4 akB5
 (with_reducible refine (SS.out _ _ _ oA.ints oC.ints).mono ?_)
 rintro e u5 ⟨rfl, x9⟩
 replace X := kp (X.out.trans x9)
 replace kA := kA.keep x9
 replace kB := kB.keep x9
 replace kR := kR.keep x9
 replace oA := oA.keep x9
 replace oB := oB.keep x9
 replace oC := oC.keep x9
 replace oF := oF.keep x9
 clear x9
 obtain ⟨akA0, akA1, akA2, akA3, akA4, akA5⟩ := kA.sixC
 obtain ⟨akB0, akB1, akB2, akB3, akB4, akB5⟩ := kB.sixC
 go_wp2_with (fail)
 clear akA0 akA1 akA2 akA3 akA4 akA5
 clear akB0 akB1 akB2 akB3 akB4 akB5
 apply wp_region_zip [isv _, isv _, isv _, isv _, matR dr dc ds, isv _, isv _, isv _, isv _, matR er ec es] _ (by kernel_rfl)
 case hA => intro V; simp [putAll, dstOf, Act.put]; exact rfl
 case hsl => intro V; exact rfl
 case step =>
  intro V lo up w' hr
  obtain ⟨hcr, hzr⟩ := hr.cells
  have hsr := hr.size
  have kA := kA.keep hr
  have kB := kB.keep hr
  have kR := kR.keep hr
  have oA := oA.keep hr
  have oB := oB.keep hr
  have oC := oC.keep hr
  have oF := oF.keep hr
  have hxr := X.out.trans hr
  obtain ⟨akA0, akA1, akA2, akA3, akA4, akA5⟩ := kA.sixC
  obtain ⟨akB0, akB1, akB2, akB3, akB4, akB5⟩ := kB.sixC
  simp only [zipOk, depsImp, isv, matR, modeNg, newb, waits, Region.binds, List.map_nil, List.map_cons, List.headD_cons, List.nil_append, List.cons_append, List.filterMap_cons, List.filterMap_nil, ↓reduceIte, modeNe, Bool.false_eq_true, true_implies, List.getD_cons_zero, List.getD_cons_succ, and_true]
  refine ⟨?_, ?_, ?_, ?_, ?_, ?_, ?_, ?_, ?_, ?_⟩
  ·intros
   go_wp2
   refine sQ ?_
   exact eZ
  ·intros
   go_wp2
   refine sQ ?_
   exact eZ
  ·intros
   go_wp2
   refine sQ ?_
   exact eZ
  ·intros
   go_wp2
   refine sQ ?_
   exact eZ
  ·intros
   go_wp2_with (fail)
   (with_reducible refine (AD.out _ _ _ (oA.arg H1.out.len) (oC.arg H3.out.len)).mono ?_)
   rintro e w9 ⟨v9, rfl, o9, x9⟩
   go_wp2
   refine sQ ?_
   exact ⟨x9, v9, rfl, o9, fun q hq => (o9.block q hq).2⟩
  ·intros
   go_wp2
   refine sQ ?_
   exact eZ
  ·intros
   go_wp2
   refine sQ ?_
   exact eZ
  ·intros
   go_wp2
   refine sQ ?_
   exact eZ
  ·intros
   go_wp2
   refine sQ ?_
   exact eZ
  intros
  go_wp2_with (fail)
  (with_reducible refine (AE.out _ _ _ (oB.arg H2.out.len) (oF.arg H4.out.len)).mono ?_)
  rintro e w9 ⟨v9, rfl, o9, x9⟩
  go_wp2
  refine sQ ?_
  exact ⟨x9, v9, rfl, o9, fun q hq => (o9.block q hq).2⟩
 case hB => kernel_rfl
 intro V lo up w' hr hf ha
 simp only [factsOk, isv, matR, modeNg, newb, List.map_nil, List.map_cons, List.headD_cons, and_true, Nat.zero_add, Nat.reduceAdd] at hf
 simp only [List.length_cons, List.length_nil, Nat.zero_add, Nat.reduceAdd, List.drop_succ_cons, List.drop_zero]
 obtain ⟨-, -, -, -, ⟨l4, -, -, v4, e4, o4, b4⟩, -, -, -, -, ⟨l9, -, -, v9, e9, o9, b9⟩⟩ := hf
 have APDE := kp (Apt.drawn o4 b4 o9 b9 (ha 4 9 (by simp) (by simp) (by simp)))
 clear ha
 replace kA := kA.keep hr
 replace kB := kB.keep hr
 replace kR := kR.keep hr
 replace oA := oA.keep hr
 replace oB := oB.keep hr
 replace oC := oC.keep hr
 replace oF := oF.keep hr
 replace o4 := o4.mono (Nat.le_trans X.out.size l4)
 replace o9 := o9.mono (Nat.le_trans X.out.size l9)
 replace X := kp (X.out.trans hr)
 clear hr
 try clear hc hz
 obtain ⟨pD, mD, huD, -, -⟩ := id o4.ints
 try simp only at huD
 subst huD
 rw [e4]
 clear e4 l4 b4
 have oD := o4
 clear o4
 obtain ⟨pE, mE, huE, -, -⟩ := id o9.ints
 try simp only at huE
 subst huE
 rw [e9]
 clear e9 l9 b9
 have oE := o9
 clear o9
 have neoDkR := kp (oD.ne kR (by decide))
 have KoD := kp oD
 have neoEkR := kp (oE.ne kR (by decide))
 have KoE := kp oE
 obtain ⟨akR0, akR1, akR2, akR3, akR4, akR5⟩ := kR.sixC
 have fkR := kR.free
 clear kA kB kR oA oB oC oF oD oE
 go_wp2
 exact bodyPost_ret (v := .agg #[.int .i64 dr, .int .i64 dc, .slice pD ds.length mD, .int .i64 er, .int .i64 ec, .slice pE es.length mE]) (by simp [results, Tryz.results27, go_sem, *]) rfl ⟨_, _, rfl, ((KoD.out.oth neoDkR.out 0 1 2 _ _ _).oth neoDkR.out 3 4 5 _ _ _), ((KoE.out.oth neoEkR.out 0 1 2 _ _ _).oth neoEkR.out 3 4 5 _ _ _), APDE.out, ((X.out.oth (g := w.heap.size + 1 + 1) (by omega) 0 1 2 _ _ _).oth (g := w.heap.size + 1 + 1) (by omega) 3 4 5 _ _ _)⟩
end Go.Proofs.YtkkdikoknegpjaaGreat
