/- Sums of shared matrices: the contracts of both packages. -/
import Derived.Test.YtkkdikoknegpjaaShA
import Derived.Test.YtkkdikoknegpjaaKB
namespace Go.Proofs.Ytkkdikoknegpjaa
set_option linter.unusedSimpArgs false
set_option linter.unusedVariables false
open Go.RowKit

set_option maxHeartbeats 4000000 in
set_option maxRecDepth 2000 in
theorem impl_AddSharedMatrices (r c : Int) (v1 : Value) (xs : List Int) (p q : Int) (v2 : Value) (ys : List Int) (rr cc : Int) (v3 : Value) (zs : List Int) (pp qq : Int) (v4 : Value) (us : List Int) (w : World) (h1 : Ints w v1 xs) (h2 : Ints w v2 ys) (h3 : Ints w v3 zs) (h4 : Ints w v4 us) : Calls Try.prog 38 #[.agg #[.int .i64 r, .int .i64 c, v1, .int .i64 p, .int .i64 q, v2], .agg #[.int .i64 rr, .int .i64 cc, v3, .int .i64 pp, .int .i64 qq, v4]] w (ShPost (addSh ⟨⟨r, c, xs⟩, ⟨p, q, ys⟩⟩ ⟨⟨rr, cc, zs⟩, ⟨pp, qq, us⟩⟩) w) := by
  unfold ShPost
  cases g1 : (mOk r c xs && mOk p q ys && (decide (r = p) && decide (c = q)))
  · rw [show addSh ⟨⟨r, c, xs⟩, ⟨p, q, ys⟩⟩ ⟨⟨rr, cc, zs⟩, ⟨pp, qq, us⟩⟩ = shZ by unfold addSh shAddOk ShM.ok Mat.ok sameS; rw [if_neg (by simp [g1])]]
    obtain ⟨s1, n1, rfl, hm9, hc9⟩ := id h1
    clear hm9 hc9
    have H1 := Kept.mk h1
    clear h1
    obtain ⟨s2, n2, rfl, hm9, hc9⟩ := id h2
    clear hm9 hc9
    have H2 := Kept.mk h2
    clear h2
    obtain ⟨s3, n3, rfl, hm9, hc9⟩ := id h3
    clear hm9 hc9
    have H3 := Kept.mk h3
    clear h3
    obtain ⟨s4, n4, rfl, hm9, hc9⟩ := id h4
    clear hm9 hc9
    have H4 := Kept.mk h4
    clear h4
    have MA : Kept (∀ w', Ext w w' → Calls Try.prog 54 #[.agg #[.int .i64 r, .int .i64 c, .slice s1 xs.length n1, .int .i64 p, .int .i64 q, .slice s2 ys.length n2]] w' fun e w'' => e = .returned (.bool false) ∧ Ext w' w'') := ⟨fun w' hx => impl_SharedMatrixValid r c p q _ _ xs ys false g1 w' (H1.out.keep hx) (H2.out.keep hx)⟩
    clear g1
    have X := Kept.mk ((((Ext.refl w).alloc (.cells #[.int .i64 r, .int .i64 c, .slice s1 xs.length n1, .int .i64 p, .int .i64 q, .slice s2 ys.length n2] 33)).alloc (.cells #[.int .i64 rr, .int .i64 cc, .slice s3 zs.length n3, .int .i64 pp, .int .i64 qq, .slice s4 us.length n4] 33)).alloc (.cells #[.int .i64 0, .int .i64 0, .slice none 0 0, .int .i64 0, .int .i64 0, .slice none 0 0] 33))
    have kA := ((Blk.new w #[.int .i64 r, .int .i64 c, .slice s1 xs.length n1, .int .i64 p, .int .i64 q, .slice s2 ys.length n2] 33).old (.cells #[.int .i64 rr, .int .i64 cc, .slice s3 zs.length n3, .int .i64 pp, .int .i64 qq, .slice s4 us.length n4] 33)).old (.cells #[.int .i64 0, .int .i64 0, .slice none 0 0, .int .i64 0, .int .i64 0, .slice none 0 0] 33)
    have kB := (Blk.new (w.alloc (.cells #[.int .i64 r, .int .i64 c, .slice s1 xs.length n1, .int .i64 p, .int .i64 q, .slice s2 ys.length n2] 33)) #[.int .i64 rr, .int .i64 cc, .slice s3 zs.length n3, .int .i64 pp, .int .i64 qq, .slice s4 us.length n4] 33).old (.cells #[.int .i64 0, .int .i64 0, .slice none 0 0, .int .i64 0, .int .i64 0, .slice none 0 0] 33)
    have kR := Blk.new ((w.alloc (.cells #[.int .i64 r, .int .i64 c, .slice s1 xs.length n1, .int .i64 p, .int .i64 q, .slice s2 ys.length n2] 33)).alloc (.cells #[.int .i64 rr, .int .i64 cc, .slice s3 zs.length n3, .int .i64 pp, .int .i64 qq, .slice s4 us.length n4] 33)) #[.int .i64 0, .int .i64 0, .slice none 0 0, .int .i64 0, .int .i64 0, .slice none 0 0] 33
    simp only [World.size_alloc] at kB kR
    go_enter Try.func38, Try.ntmps38
    obtain ⟨akA0, akA1, akA2, akA3, akA4, akA5⟩ := kA.sixC
    go_wp2_with (fail)
    clear akA0 akA1 akA2 akA3 akA4 akA5
    (with_reducible refine (MA.out _ X.out).mono ?_)
    rintro e u1 ⟨rfl, x9⟩
    replace X := Kept.mk (X.out.trans x9)
    replace kA := kA.keep x9
    replace kB := kB.keep x9
    replace kR := kR.keep x9
    clear x9
    clear kA kB
    obtain ⟨akR0, akR1, akR2, akR3, akR4, akR5⟩ := kR.sixC
    have fkR := kR.free
    clear kR
    go_wp2
    exact bodyPost_ret (v := .agg #[.int .i64 0, .int .i64 0, .slice none 0 0, .int .i64 0, .int .i64 0, .slice none 0 0]) (by simp [results, Try.results38, go_sem, *]) rfl ⟨_, _, rfl, Own.nil _ _, Own.nil _ _, Apt.nil _ _ rfl, ((X.out.oth (g := w.heap.size + 1 + 1) (by omega) 0 1 2 _ _ _).oth (g := w.heap.size + 1 + 1) (by omega) 3 4 5 _ _ _)⟩
  · cases g2 : (mOk rr cc zs && mOk pp qq us && (decide (rr = pp) && decide (cc = qq)))
    · rw [show addSh ⟨⟨r, c, xs⟩, ⟨p, q, ys⟩⟩ ⟨⟨rr, cc, zs⟩, ⟨pp, qq, us⟩⟩ = shZ by unfold addSh shAddOk ShM.ok Mat.ok sameS; rw [if_neg (by simp [g2])]]
      obtain ⟨s1, n1, rfl, hm9, hc9⟩ := id h1
      clear hm9 hc9
      have H1 := Kept.mk h1
      clear h1
      obtain ⟨s2, n2, rfl, hm9, hc9⟩ := id h2
      clear hm9 hc9
      have H2 := Kept.mk h2
      clear h2
      obtain ⟨s3, n3, rfl, hm9, hc9⟩ := id h3
      clear hm9 hc9
      have H3 := Kept.mk h3
      clear h3
      obtain ⟨s4, n4, rfl, hm9, hc9⟩ := id h4
      clear hm9 hc9
      have H4 := Kept.mk h4
      clear h4
      have MA : Kept (∀ w', Ext w w' → Calls Try.prog 54 #[.agg #[.int .i64 r, .int .i64 c, .slice s1 xs.length n1, .int .i64 p, .int .i64 q, .slice s2 ys.length n2]] w' fun e w'' => e = .returned (.bool true) ∧ Ext w' w'') := ⟨fun w' hx => impl_SharedMatrixValid r c p q _ _ xs ys true g1 w' (H1.out.keep hx) (H2.out.keep hx)⟩
      have MB : Kept (∀ w', Ext w w' → Calls Try.prog 54 #[.agg #[.int .i64 rr, .int .i64 cc, .slice s3 zs.length n3, .int .i64 pp, .int .i64 qq, .slice s4 us.length n4]] w' fun e w'' => e = .returned (.bool false) ∧ Ext w' w'') := ⟨fun w' hx => impl_SharedMatrixValid rr cc pp qq _ _ zs us false g2 w' (H3.out.keep hx) (H4.out.keep hx)⟩
      clear g1 g2
      have X := Kept.mk ((((Ext.refl w).alloc (.cells #[.int .i64 r, .int .i64 c, .slice s1 xs.length n1, .int .i64 p, .int .i64 q, .slice s2 ys.length n2] 33)).alloc (.cells #[.int .i64 rr, .int .i64 cc, .slice s3 zs.length n3, .int .i64 pp, .int .i64 qq, .slice s4 us.length n4] 33)).alloc (.cells #[.int .i64 0, .int .i64 0, .slice none 0 0, .int .i64 0, .int .i64 0, .slice none 0 0] 33))
      have kA := ((Blk.new w #[.int .i64 r, .int .i64 c, .slice s1 xs.length n1, .int .i64 p, .int .i64 q, .slice s2 ys.length n2] 33).old (.cells #[.int .i64 rr, .int .i64 cc, .slice s3 zs.length n3, .int .i64 pp, .int .i64 qq, .slice s4 us.length n4] 33)).old (.cells #[.int .i64 0, .int .i64 0, .slice none 0 0, .int .i64 0, .int .i64 0, .slice none 0 0] 33)
      have kB := (Blk.new (w.alloc (.cells #[.int .i64 r, .int .i64 c, .slice s1 xs.length n1, .int .i64 p, .int .i64 q, .slice s2 ys.length n2] 33)) #[.int .i64 rr, .int .i64 cc, .slice s3 zs.length n3, .int .i64 pp, .int .i64 qq, .slice s4 us.length n4] 33).old (.cells #[.int .i64 0, .int .i64 0, .slice none 0 0, .int .i64 0, .int .i64 0, .slice none 0 0] 33)
      have kR := Blk.new ((w.alloc (.cells #[.int .i64 r, .int .i64 c, .slice s1 xs.length n1, .int .i64 p, .int .i64 q, .slice s2 ys.length n2] 33)).alloc (.cells #[.int .i64 rr, .int .i64 cc, .slice s3 zs.length n3, .int .i64 pp, .int .i64 qq, .slice s4 us.length n4] 33)) #[.int .i64 0, .int .i64 0, .slice none 0 0, .int .i64 0, .int .i64 0, .slice none 0 0] 33
      simp only [World.size_alloc] at kB kR
      go_enter Try.func38, Try.ntmps38
      obtain ⟨akA0, akA1, akA2, akA3, akA4, akA5⟩ := kA.sixC
      go_wp2_with (fail)
      clear akA0 akA1 akA2 akA3 akA4 akA5
      (with_reducible refine (MA.out _ X.out).mono ?_)
      rintro e u1 ⟨rfl, x9⟩
      replace X := Kept.mk (X.out.trans x9)
      replace kA := kA.keep x9
      replace kB := kB.keep x9
      replace kR := kR.keep x9
      clear x9
      obtain ⟨akB0, akB1, akB2, akB3, akB4, akB5⟩ := kB.sixC
      go_wp2_with (fail)
      clear akB0 akB1 akB2 akB3 akB4 akB5
      (with_reducible refine (MB.out _ X.out).mono ?_)
      rintro e u2 ⟨rfl, x9⟩
      replace X := Kept.mk (X.out.trans x9)
      replace kA := kA.keep x9
      replace kB := kB.keep x9
      replace kR := kR.keep x9
      clear x9
      clear kA kB
      obtain ⟨akR0, akR1, akR2, akR3, akR4, akR5⟩ := kR.sixC
      have fkR := kR.free
      clear kR
      go_wp2
      exact bodyPost_ret (v := .agg #[.int .i64 0, .int .i64 0, .slice none 0 0, .int .i64 0, .int .i64 0, .slice none 0 0]) (by simp [results, Try.results38, go_sem, *]) rfl ⟨_, _, rfl, Own.nil _ _, Own.nil _ _, Apt.nil _ _ rfl, ((X.out.oth (g := w.heap.size + 1 + 1) (by omega) 0 1 2 _ _ _).oth (g := w.heap.size + 1 + 1) (by omega) 3 4 5 _ _ _)⟩
    · cases g3 : (decide (r = rr) && decide (c = cc))
      · rw [show addSh ⟨⟨r, c, xs⟩, ⟨p, q, ys⟩⟩ ⟨⟨rr, cc, zs⟩, ⟨pp, qq, us⟩⟩ = shZ by unfold addSh shAddOk ShM.ok Mat.ok sameS; rw [if_neg (by simp [g3])]]
        obtain ⟨s1, n1, rfl, hm9, hc9⟩ := id h1
        clear hm9 hc9
        have H1 := Kept.mk h1
        clear h1
        obtain ⟨s2, n2, rfl, hm9, hc9⟩ := id h2
        clear hm9 hc9
        have H2 := Kept.mk h2
        clear h2
        obtain ⟨s3, n3, rfl, hm9, hc9⟩ := id h3
        clear hm9 hc9
        have H3 := Kept.mk h3
        clear h3
        obtain ⟨s4, n4, rfl, hm9, hc9⟩ := id h4
        clear hm9 hc9
        have H4 := Kept.mk h4
        clear h4
        have MA : Kept (∀ w', Ext w w' → Calls Try.prog 54 #[.agg #[.int .i64 r, .int .i64 c, .slice s1 xs.length n1, .int .i64 p, .int .i64 q, .slice s2 ys.length n2]] w' fun e w'' => e = .returned (.bool true) ∧ Ext w' w'') := ⟨fun w' hx => impl_SharedMatrixValid r c p q _ _ xs ys true g1 w' (H1.out.keep hx) (H2.out.keep hx)⟩
        have MB : Kept (∀ w', Ext w w' → Calls Try.prog 54 #[.agg #[.int .i64 rr, .int .i64 cc, .slice s3 zs.length n3, .int .i64 pp, .int .i64 qq, .slice s4 us.length n4]] w' fun e w'' => e = .returned (.bool true) ∧ Ext w' w'') := ⟨fun w' hx => impl_SharedMatrixValid rr cc pp qq _ _ zs us true g2 w' (H3.out.keep hx) (H4.out.keep hx)⟩
        have SS : Kept (∀ w', Calls Try.prog 56 #[.agg #[.int .i64 r, .int .i64 c, .slice s1 xs.length n1], .agg #[.int .i64 rr, .int .i64 cc, .slice s3 zs.length n3]] w' fun e w'' => e = .returned (.bool false) ∧ Ext w' w'') := ⟨fun w' => impl_sameSides r c rr cc _ _ false g3 w'⟩
        clear g1 g2 g3
        have X := Kept.mk ((((Ext.refl w).alloc (.cells #[.int .i64 r, .int .i64 c, .slice s1 xs.length n1, .int .i64 p, .int .i64 q, .slice s2 ys.length n2] 33)).alloc (.cells #[.int .i64 rr, .int .i64 cc, .slice s3 zs.length n3, .int .i64 pp, .int .i64 qq, .slice s4 us.length n4] 33)).alloc (.cells #[.int .i64 0, .int .i64 0, .slice none 0 0, .int .i64 0, .int .i64 0, .slice none 0 0] 33))
        have kA := ((Blk.new w #[.int .i64 r, .int .i64 c, .slice s1 xs.length n1, .int .i64 p, .int .i64 q, .slice s2 ys.length n2] 33).old (.cells #[.int .i64 rr, .int .i64 cc, .slice s3 zs.length n3, .int .i64 pp, .int .i64 qq, .slice s4 us.length n4] 33)).old (.cells #[.int .i64 0, .int .i64 0, .slice none 0 0, .int .i64 0, .int .i64 0, .slice none 0 0] 33)
        have kB := (Blk.new (w.alloc (.cells #[.int .i64 r, .int .i64 c, .slice s1 xs.length n1, .int .i64 p, .int .i64 q, .slice s2 ys.length n2] 33)) #[.int .i64 rr, .int .i64 cc, .slice s3 zs.length n3, .int .i64 pp, .int .i64 qq, .slice s4 us.length n4] 33).old (.cells #[.int .i64 0, .int .i64 0, .slice none 0 0, .int .i64 0, .int .i64 0, .slice none 0 0] 33)
        have kR := Blk.new ((w.alloc (.cells #[.int .i64 r, .int .i64 c, .slice s1 xs.length n1, .int .i64 p, .int .i64 q, .slice s2 ys.length n2] 33)).alloc (.cells #[.int .i64 rr, .int .i64 cc, .slice s3 zs.length n3, .int .i64 pp, .int .i64 qq, .slice s4 us.length n4] 33)) #[.int .i64 0, .int .i64 0, .slice none 0 0, .int .i64 0, .int .i64 0, .slice none 0 0] 33
        simp only [World.size_alloc] at kB kR
        go_enter Try.func38, Try.ntmps38
        obtain ⟨akA0, akA1, akA2, akA3, akA4, akA5⟩ := kA.sixC
        go_wp2_with (fail)
        clear akA0 akA1 akA2 akA3 akA4 akA5
        (with_reducible refine (MA.out _ X.out).mono ?_)
        rintro e u1 ⟨rfl, x9⟩
        replace X := Kept.mk (X.out.trans x9)
        replace kA := kA.keep x9
        replace kB := kB.keep x9
        replace kR := kR.keep x9
        clear x9
        obtain ⟨akB0, akB1, akB2, akB3, akB4, akB5⟩ := kB.sixC
        go_wp2_with (fail)
        clear akB0 akB1 akB2 akB3 akB4 akB5
        (with_reducible refine (MB.out _ X.out).mono ?_)
        rintro e u2 ⟨rfl, x9⟩
        replace X := Kept.mk (X.out.trans x9)
        replace kA := kA.keep x9
        replace kB := kB.keep x9
        replace kR := kR.keep x9
        clear x9
        obtain ⟨akA0, akA1, akA2, akA3, akA4, akA5⟩ := kA.sixC
        obtain ⟨akB0, akB1, akB2, akB3, akB4, akB5⟩ := kB.sixC
        go_wp2_with (fail)
        clear akA0 akA1 akA2 akA3 akA4 akA5
        clear akB0 akB1 akB2 akB3 akB4 akB5
        (with_reducible refine (SS.out _).mono ?_)
        rintro e u3 ⟨rfl, x9⟩
        replace X := Kept.mk (X.out.trans x9)
        replace kA := kA.keep x9
        replace kB := kB.keep x9
        replace kR := kR.keep x9
        clear x9
        clear kA kB
        obtain ⟨akR0, akR1, akR2, akR3, akR4, akR5⟩ := kR.sixC
        have fkR := kR.free
        clear kR
        go_wp2
        exact bodyPost_ret (v := .agg #[.int .i64 0, .int .i64 0, .slice none 0 0, .int .i64 0, .int .i64 0, .slice none 0 0]) (by simp [results, Try.results38, go_sem, *]) rfl ⟨_, _, rfl, Own.nil _ _, Own.nil _ _, Apt.nil _ _ rfl, ((X.out.oth (g := w.heap.size + 1 + 1) (by omega) 0 1 2 _ _ _).oth (g := w.heap.size + 1 + 1) (by omega) 3 4 5 _ _ _)⟩
      · rw [show addSh ⟨⟨r, c, xs⟩, ⟨p, q, ys⟩⟩ ⟨⟨rr, cc, zs⟩, ⟨pp, qq, us⟩⟩ = ⟨addM ⟨r, c, xs⟩ ⟨rr, cc, zs⟩, addM ⟨p, q, ys⟩ ⟨pp, qq, us⟩⟩ by unfold addSh shAddOk ShM.ok Mat.ok sameS; rw [if_pos (by simp only [g1, g2, g3, Bool.and_self])]]
        obtain ⟨s1, n1, rfl, hm9, hc9⟩ := id h1
        clear hm9 hc9
        have H1 := Kept.mk h1
        clear h1
        obtain ⟨s2, n2, rfl, hm9, hc9⟩ := id h2
        clear hm9 hc9
        have H2 := Kept.mk h2
        clear h2
        obtain ⟨s3, n3, rfl, hm9, hc9⟩ := id h3
        clear hm9 hc9
        have H3 := Kept.mk h3
        clear h3
        obtain ⟨s4, n4, rfl, hm9, hc9⟩ := id h4
        clear hm9 hc9
        have H4 := Kept.mk h4
        clear h4
        have MA : Kept (∀ w', Ext w w' → Calls Try.prog 54 #[.agg #[.int .i64 r, .int .i64 c, .slice s1 xs.length n1, .int .i64 p, .int .i64 q, .slice s2 ys.length n2]] w' fun e w'' => e = .returned (.bool true) ∧ Ext w' w'') := ⟨fun w' hx => impl_SharedMatrixValid r c p q _ _ xs ys true g1 w' (H1.out.keep hx) (H2.out.keep hx)⟩
        have MB : Kept (∀ w', Ext w w' → Calls Try.prog 54 #[.agg #[.int .i64 rr, .int .i64 cc, .slice s3 zs.length n3, .int .i64 pp, .int .i64 qq, .slice s4 us.length n4]] w' fun e w'' => e = .returned (.bool true) ∧ Ext w' w'') := ⟨fun w' hx => impl_SharedMatrixValid rr cc pp qq _ _ zs us true g2 w' (H3.out.keep hx) (H4.out.keep hx)⟩
        have SS : Kept (∀ w', Calls Try.prog 56 #[.agg #[.int .i64 r, .int .i64 c, .slice s1 xs.length n1], .agg #[.int .i64 rr, .int .i64 cc, .slice s3 zs.length n3]] w' fun e w'' => e = .returned (.bool true) ∧ Ext w' w'') := ⟨fun w' => impl_sameSides r c rr cc _ _ true g3 w'⟩
        have AD := Kept.mk (fun w' (hx : Ext w w') => impl_AddMatrices r c rr cc _ _ xs zs w' (H1.out.keep hx) (H3.out.keep hx))
        unfold MatPost at AD
        have AE := Kept.mk (fun w' (hx : Ext w w') => impl_AddMatrices p q pp qq _ _ ys us w' (H2.out.keep hx) (H4.out.keep hx))
        unfold MatPost at AE
        clear g1 g2 g3
        generalize addM ⟨r, c, xs⟩ ⟨rr, cc, zs⟩ = D at *
        generalize addM ⟨p, q, ys⟩ ⟨pp, qq, us⟩ = E at *
        obtain ⟨dr, dc, ds⟩ := D
        obtain ⟨er, ec, es⟩ := E
        simp only at AD AE
        have X := Kept.mk ((((Ext.refl w).alloc (.cells #[.int .i64 r, .int .i64 c, .slice s1 xs.length n1, .int .i64 p, .int .i64 q, .slice s2 ys.length n2] 33)).alloc (.cells #[.int .i64 rr, .int .i64 cc, .slice s3 zs.length n3, .int .i64 pp, .int .i64 qq, .slice s4 us.length n4] 33)).alloc (.cells #[.int .i64 0, .int .i64 0, .slice none 0 0, .int .i64 0, .int .i64 0, .slice none 0 0] 33))
        have kA := ((Blk.new w #[.int .i64 r, .int .i64 c, .slice s1 xs.length n1, .int .i64 p, .int .i64 q, .slice s2 ys.length n2] 33).old (.cells #[.int .i64 rr, .int .i64 cc, .slice s3 zs.length n3, .int .i64 pp, .int .i64 qq, .slice s4 us.length n4] 33)).old (.cells #[.int .i64 0, .int .i64 0, .slice none 0 0, .int .i64 0, .int .i64 0, .slice none 0 0] 33)
        have kB := (Blk.new (w.alloc (.cells #[.int .i64 r, .int .i64 c, .slice s1 xs.length n1, .int .i64 p, .int .i64 q, .slice s2 ys.length n2] 33)) #[.int .i64 rr, .int .i64 cc, .slice s3 zs.length n3, .int .i64 pp, .int .i64 qq, .slice s4 us.length n4] 33).old (.cells #[.int .i64 0, .int .i64 0, .slice none 0 0, .int .i64 0, .int .i64 0, .slice none 0 0] 33)
        have kR := Blk.new ((w.alloc (.cells #[.int .i64 r, .int .i64 c, .slice s1 xs.length n1, .int .i64 p, .int .i64 q, .slice s2 ys.length n2] 33)).alloc (.cells #[.int .i64 rr, .int .i64 cc, .slice s3 zs.length n3, .int .i64 pp, .int .i64 qq, .slice s4 us.length n4] 33)) #[.int .i64 0, .int .i64 0, .slice none 0 0, .int .i64 0, .int .i64 0, .slice none 0 0] 33
        simp only [World.size_alloc] at kB kR
        go_enter Try.func38, Try.ntmps38
        obtain ⟨akA0, akA1, akA2, akA3, akA4, akA5⟩ := kA.sixC
        go_wp2_with (fail)
        clear akA0 akA1 akA2 akA3 akA4 akA5
        (with_reducible refine (MA.out _ X.out).mono ?_)
        rintro e u1 ⟨rfl, x9⟩
        replace X := Kept.mk (X.out.trans x9)
        replace kA := kA.keep x9
        replace kB := kB.keep x9
        replace kR := kR.keep x9
        clear x9
        obtain ⟨akB0, akB1, akB2, akB3, akB4, akB5⟩ := kB.sixC
        go_wp2_with (fail)
        clear akB0 akB1 akB2 akB3 akB4 akB5
        (with_reducible refine (MB.out _ X.out).mono ?_)
        rintro e u2 ⟨rfl, x9⟩
        replace X := Kept.mk (X.out.trans x9)
        replace kA := kA.keep x9
        replace kB := kB.keep x9
        replace kR := kR.keep x9
        clear x9
        obtain ⟨akA0, akA1, akA2, akA3, akA4, akA5⟩ := kA.sixC
        obtain ⟨akB0, akB1, akB2, akB3, akB4, akB5⟩ := kB.sixC
        go_wp2_with (fail)
        clear akA0 akA1 akA2 akA3 akA4 akA5
        clear akB0 akB1 akB2 akB3 akB4 akB5
        (with_reducible refine (SS.out _).mono ?_)
        rintro e u3 ⟨rfl, x9⟩
        replace X := Kept.mk (X.out.trans x9)
        replace kA := kA.keep x9
        replace kB := kB.keep x9
        replace kR := kR.keep x9
        clear x9
        obtain ⟨akA0, akA1, akA2, akA3, akA4, akA5⟩ := kA.sixC
        obtain ⟨akB0, akB1, akB2, akB3, akB4, akB5⟩ := kB.sixC
        go_wp2_with (fail)
        clear akA0 akA1 akA2 akA3 akA4 akA5
        clear akB0 akB1 akB2 akB3 akB4 akB5
        apply wp_region_zip [isv _, isv _, isv _, isv _, matR dr dc ds, isv _, isv _, isv _, isv _, matR er ec es] _ (by kernel_rfl)
        case hA => intro V; simp [putAll, dstOf, Act.put]; exact rfl
        case hsl => intro V; exact rfl
        case step =>
          intro V lo up w' hr
          obtain ⟨hcr, hzr⟩ := hr.cells
          have hsr := hr.size
          have kA := kA.keep hr
          have kB := kB.keep hr
          have kR := kR.keep hr
          have hxr := X.out.trans hr
          obtain ⟨akA0, akA1, akA2, akA3, akA4, akA5⟩ := kA.sixC
          obtain ⟨akB0, akB1, akB2, akB3, akB4, akB5⟩ := kB.sixC
          simp only [zipOk, depsImp, isv, matR, modeNg, newb, waits, Region.binds, List.map_nil, List.map_cons, List.headD_cons, List.nil_append, List.cons_append, List.filterMap_cons, List.filterMap_nil, ↓reduceIte, modeNe, Bool.false_eq_true, true_implies, List.getD_cons_zero, List.getD_cons_succ, and_true]
          refine ⟨?_, ?_, ?_, ?_, ?_, ?_, ?_, ?_, ?_, ?_⟩
          · intros
            go_wp2
            refine stepQ_mk rfl (by simp only [List.getElem?_toArray, List.getElem?_cons_succ, List.getElem?_cons_zero]; exact rfl) ?_
            exact ⟨Ext.refl _, rfl⟩
          · intros
            go_wp2
            refine stepQ_mk rfl (by simp only [List.getElem?_toArray, List.getElem?_cons_succ, List.getElem?_cons_zero]; exact rfl) ?_
            exact ⟨Ext.refl _, rfl⟩
          · intros
            go_wp2
            refine stepQ_mk rfl (by simp only [List.getElem?_toArray, List.getElem?_cons_succ, List.getElem?_cons_zero]; exact rfl) ?_
            exact ⟨Ext.refl _, rfl⟩
          · intros
            go_wp2
            refine stepQ_mk rfl (by simp only [List.getElem?_toArray, List.getElem?_cons_succ, List.getElem?_cons_zero]; exact rfl) ?_
            exact ⟨Ext.refl _, rfl⟩
          · intros
            go_wp2_with (fail)
            (with_reducible refine (AD.out _ hxr).mono ?_)
            rintro e w9 ⟨v9, rfl, o9, x9⟩
            go_wp2
            refine stepQ_mk rfl (by simp only [List.getElem?_toArray, List.getElem?_cons_succ, List.getElem?_cons_zero]; exact rfl) ?_
            exact ⟨x9, v9, rfl, o9, fun q hq => (o9.block q hq).2⟩
          · intros
            go_wp2
            refine stepQ_mk rfl (by simp only [List.getElem?_toArray, List.getElem?_cons_succ, List.getElem?_cons_zero]; exact rfl) ?_
            exact ⟨Ext.refl _, rfl⟩
          · intros
            go_wp2
            refine stepQ_mk rfl (by simp only [List.getElem?_toArray, List.getElem?_cons_succ, List.getElem?_cons_zero]; exact rfl) ?_
            exact ⟨Ext.refl _, rfl⟩
          · intros
            go_wp2
            refine stepQ_mk rfl (by simp only [List.getElem?_toArray, List.getElem?_cons_succ, List.getElem?_cons_zero]; exact rfl) ?_
            exact ⟨Ext.refl _, rfl⟩
          · intros
            go_wp2
            refine stepQ_mk rfl (by simp only [List.getElem?_toArray, List.getElem?_cons_succ, List.getElem?_cons_zero]; exact rfl) ?_
            exact ⟨Ext.refl _, rfl⟩
          · intros
            go_wp2_with (fail)
            (with_reducible refine (AE.out _ hxr).mono ?_)
            rintro e w9 ⟨v9, rfl, o9, x9⟩
            go_wp2
            refine stepQ_mk rfl (by simp only [List.getElem?_toArray, List.getElem?_cons_succ, List.getElem?_cons_zero]; exact rfl) ?_
            exact ⟨x9, v9, rfl, o9, fun q hq => (o9.block q hq).2⟩
        case hB => kernel_rfl
        case fin =>
          intro V lo up w' hr hf ha
          simp only [factsOk, isv, matR, modeNg, newb, List.map_nil, List.map_cons, List.headD_cons, and_true, Nat.zero_add, Nat.reduceAdd] at hf
          simp only [List.length_cons, List.length_nil, Nat.zero_add, Nat.reduceAdd, List.drop_succ_cons, List.drop_zero]
          obtain ⟨-, -, -, -, ⟨l4, -, -, v4, e4, o4, b4⟩, -, -, -, -, ⟨l9, -, -, v9, e9, o9, b9⟩⟩ := hf
          have APDE := Kept.mk (Apt.drawn o4 b4 o9 b9 (ha 4 9 (by simp) (by simp) (by simp)))
          clear ha
          replace kA := kA.keep hr
          replace kB := kB.keep hr
          replace kR := kR.keep hr
          replace o4 := o4.mono (Nat.le_trans X.out.size l4)
          replace o9 := o9.mono (Nat.le_trans X.out.size l9)
          replace X := Kept.mk (X.out.trans hr)
          clear hr
          try clear hc hz
          obtain ⟨pD, mD, huD, -, -⟩ := id o4.ints
          try simp only at huD
          subst huD
          rw [e4]
          clear e4 l4 b4
          have oD := o4
          clear o4
          obtain ⟨pE, mE, huE, -, -⟩ := id o9.ints
          try simp only at huE
          subst huE
          rw [e9]
          clear e9 l9 b9
          have oE := o9
          clear o9
          have neoDkR := Kept.mk (oD.ne kR (by decide))
          have KoD := Kept.mk oD
          have neoEkR := Kept.mk (oE.ne kR (by decide))
          have KoE := Kept.mk oE
          obtain ⟨akR0, akR1, akR2, akR3, akR4, akR5⟩ := kR.sixC
          have fkR := kR.free
          clear kA kB kR oD oE
          go_wp2
          exact bodyPost_ret (v := .agg #[.int .i64 dr, .int .i64 dc, .slice pD ds.length mD, .int .i64 er, .int .i64 ec, .slice pE es.length mE]) (by simp [results, Try.results38, go_sem, *]) rfl ⟨_, _, rfl, ((KoD.out.oth neoDkR.out 0 1 2 _ _ _).oth neoDkR.out 3 4 5 _ _ _), ((KoE.out.oth neoEkR.out 0 1 2 _ _ _).oth neoEkR.out 3 4 5 _ _ _), APDE.out, ((X.out.oth (g := w.heap.size + 1 + 1) (by omega) 0 1 2 _ _ _).oth (g := w.heap.size + 1 + 1) (by omega) 3 4 5 _ _ _)⟩
end Go.Proofs.Ytkkdikoknegpjaa
