/- The laws' own functions on shared matrices. -/
import Derived.Test.YtjoomdihjffmlaaKF
import Derived.Test.YtjoomdihjffmlaaShA
namespace Go.Proofs.Ytjoomdihjffmlaa
set_option linter.unusedSimpArgs false
set_option linter.unusedVariables false
open Go.RowKit
/-- A call that leaves a new shared matrix, its lists as a group. -/
def ShGrp (r c p q : Int) (xs ys : List Int) (w : World) (e : Ending) (w' : World) : Prop :=
  ∃ v1 v2, e = .returned (.agg #[.int .i64 r, .int .i64 c, v1, .int .i64 p, .int .i64 q, v2]) ∧ Grp w.heap.size w' [v1, v2] [xs, ys] ∧ Ext w w'
theorem ShPost.grp {m : ShM} {w : World} {e : Ending} {w' : World} (h : ShPost m w e w') : ShGrp m.f.r m.f.c m.s.r m.s.c m.f.xs m.s.xs w e w' := by
  obtain ⟨v1, v2, h1, h2, h3, h4, h5⟩ := h
  exact ⟨v1, v2, h1, Grp.two h2 h3 h4, h5⟩

set_option maxHeartbeats 1000000 in
theorem laws_sameShares (r c p q : Int) (v u v2 u2 : Value) (xs ys : List Int) (w : World) (h1 : Ints w v xs) (h2 : Ints w u ys) (h3 : Ints w v2 xs) (h4 : Ints w u2 ys) : Calls Try.prog 30 #[.agg #[.int .i64 r, .int .i64 c, v, .int .i64 p, .int .i64 q, u], .agg #[.int .i64 r, .int .i64 c, v2, .int .i64 p, .int .i64 q, u2]] w fun e w' => e = .returned (.bool true) ∧ Ext w w' := by
  obtain ⟨s1, n1, rfl, hm9, hc9⟩ := id h1
  clear hm9 hc9
  have HV := Kept.mk h1
  clear h1
  obtain ⟨s2, n2, rfl, hm9, hc9⟩ := id h2
  clear hm9 hc9
  have HU := Kept.mk h2
  clear h2
  obtain ⟨s3, n3, rfl, hm9, hc9⟩ := id h3
  clear hm9 hc9
  have HW := Kept.mk h3
  clear h3
  obtain ⟨s4, n4, rfl, hm9, hc9⟩ := id h4
  clear hm9 hc9
  have HY := Kept.mk h4
  clear h4
  have E0 := Kept.mk (fun w' (hx : Ext w w') => laws_sameMatrix r c _ _ xs w' (HV.out.keep hx) (HW.out.keep hx))
  have E1 := Kept.mk (fun w' (hx : Ext w w') => laws_sameMatrix p q _ _ ys w' (HU.out.keep hx) (HY.out.keep hx))
  have X := Kept.mk (((Ext.refl w).alloc (.cells #[.int .i64 r, .int .i64 c, .slice s1 xs.length n1, .int .i64 p, .int .i64 q, .slice s2 ys.length n2] 50)).alloc (.cells #[.int .i64 r, .int .i64 c, .slice s3 xs.length n3, .int .i64 p, .int .i64 q, .slice s4 ys.length n4] 50))
  have kA := (Blk.new w #[.int .i64 r, .int .i64 c, .slice s1 xs.length n1, .int .i64 p, .int .i64 q, .slice s2 ys.length n2] 50).old (.cells #[.int .i64 r, .int .i64 c, .slice s3 xs.length n3, .int .i64 p, .int .i64 q, .slice s4 ys.length n4] 50)
  have kB := Blk.new (w.alloc (.cells #[.int .i64 r, .int .i64 c, .slice s1 xs.length n1, .int .i64 p, .int .i64 q, .slice s2 ys.length n2] 50)) #[.int .i64 r, .int .i64 c, .slice s3 xs.length n3, .int .i64 p, .int .i64 q, .slice s4 ys.length n4] 50
  simp only [World.size_alloc] at kB
  go_enter Try.func30, Try.ntmps30
  obtain ⟨akA0, akA1, akA2, akA3, akA4, akA5⟩ := kA.sixC
  obtain ⟨akB0, akB1, akB2, akB3, akB4, akB5⟩ := kB.sixC
  go_wp2_with (fail)
  clear akA0 akA1 akA2 akA3 akA4 akA5
  clear akB0 akB1 akB2 akB3 akB4 akB5
  (with_reducible refine (E0.out _ X.out).mono ?_)
  rintro e u1 ⟨rfl, x9⟩
  replace X := Kept.mk (X.out.trans x9)
  replace kA := kA.keep x9
  replace kB := kB.keep x9
  clear x9
  obtain ⟨akA0, akA1, akA2, akA3, akA4, akA5⟩ := kA.sixC
  obtain ⟨akB0, akB1, akB2, akB3, akB4, akB5⟩ := kB.sixC
  go_wp2_with (fail)
  clear akA0 akA1 akA2 akA3 akA4 akA5
  clear akB0 akB1 akB2 akB3 akB4 akB5
  (with_reducible refine (E1.out _ X.out).mono ?_)
  rintro e u2 ⟨rfl, x9⟩
  replace X := Kept.mk (X.out.trans x9)
  replace kA := kA.keep x9
  replace kB := kB.keep x9
  clear x9
  clear kA kB
  go_wp2
  go_ret
  exact ⟨rfl, X.out⟩
end Go.Proofs.Ytjoomdihjffmlaa
