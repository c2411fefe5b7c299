import Derived.Test.YtkkdikoknegpjaaGreatKF
import Derived.Test.YtkkdikoknegpjaaGreatShA
import Derived.Test.YtkkdikoknegpjaaGreatKE
namespace Go.Proofs.YtkkdikoknegpjaaGreat
set_option linter.unusedSimpArgs false
set_option linter.unusedVariables false
open Go.RowKit
def ShGrp (r c p q : Int) (xs ys : List Int) (w : World) (e : Ending) (w' : World) : Prop :=
 ∃ v1 v2, e = .returned (.agg #[.int .i64 r, .int .i64 c, v1, .int .i64 p, .int .i64 q, v2]) ∧ Grp w.heap.size w' [v1, v2] [xs, ys] ∧ Ext w w'
theorem ShPost.grp {m : ShM} {w : World} {e : Ending} {w' : World} (h : ShPost m w e w') : ShGrp m.f.r m.f.c m.s.r m.s.c m.f.xs m.s.xs w e w' := by
 obtain ⟨v1, v2, h1, h2, h3, h4, h5⟩ := h
 exact ⟨v1, v2, h1, Grp.two h2 h3 h4, h5⟩
set_option maxHeartbeats 1000000 in
theorem laws_sameShares (r c p q : Int) (v u v2 u2 : Value) (xs ys : List Int) (w : World) (h1 : Ints w v xs) (h2 : Ints w u ys) (h3 : Ints w v2 xs) (h4 : Ints w u2 ys) : Calls Tryz.prog 16 #[.agg #[.int .i64 r, .int .i64 c, v, .int .i64 p, .int .i64 q, u], .agg #[.int .i64 r, .int .i64 c, v2, .int .i64 p, .int .i64 q, u2]] w fun e w' => e = .returned (.bool true) ∧ Ext w w' := by
 obtain ⟨s1, n1, rfl, hm9, hc9⟩ := id h1
 clear hm9 hc9
 have HV := kp h1
 clear h1
 obtain ⟨s2, n2, rfl, hm9, hc9⟩ := id h2
 clear hm9 hc9
 have HU := kp h2
 clear h2
 obtain ⟨s3, n3, rfl, hm9, hc9⟩ := id h3
 clear hm9 hc9
 have HW := kp h3
 clear h3
 obtain ⟨s4, n4, rfl, hm9, hc9⟩ := id h4
 clear hm9 hc9
 have HY := kp h4
 clear h4
 have E0 := kp (fun w' (hx : Ext w w') => laws_sameMatrix r c _ _ xs w' (HV.out.keep hx) (HW.out.keep hx))
 have E1 := kp (fun w' (hx : Ext w w') => laws_sameMatrix p q _ _ ys w' (HU.out.keep hx) (HY.out.keep hx))
 have X := kp (((Ext.refl w).alloc (.cells #[.int .i64 r, .int .i64 c, .slice s1 xs.length n1, .int .i64 p, .int .i64 q, .slice s2 ys.length n2] 30)).alloc (.cells #[.int .i64 r, .int .i64 c, .slice s3 xs.length n3, .int .i64 p, .int .i64 q, .slice s4 ys.length n4] 30))
 have kA := (Blk.new w #[.int .i64 r, .int .i64 c, .slice s1 xs.length n1, .int .i64 p, .int .i64 q, .slice s2 ys.length n2] 30).old (.cells #[.int .i64 r, .int .i64 c, .slice s3 xs.length n3, .int .i64 p, .int .i64 q, .slice s4 ys.length n4] 30)
 have kB := Blk.new (w.alloc (.cells #[.int .i64 r, .int .i64 c, .slice s1 xs.length n1, .int .i64 p, .int .i64 q, .slice s2 ys.length n2] 30)) #[.int .i64 r, .int .i64 c, .slice s3 xs.length n3, .int .i64 p, .int .i64 q, .slice s4 ys.length n4] 30
 simp only [World.size_alloc] at kB
 go_enter Tryz.func16, Tryz.ntmps16
 obtain ⟨akA0, akA1, akA2, akA3, akA4, akA5⟩ := kA.sixC
 obtain ⟨akB0, akB1, akB2, akB3, akB4, akB5⟩ := kB.sixC
 go_wp2_with (fail)
 clear akA0 akA1 akA2 akA3 akA4 akA5
 clear akB0 akB1 akB2 akB3 akB4 akB5
 (with_reducible refine (E0.out _ X.out).mono ?_)
 rintro e u1 ⟨rfl, x9⟩
 replace X := kp (X.out.trans x9)
 replace kA := kA.keep x9
 replace kB := kB.keep x9
 clear x9
 obtain ⟨akA0, akA1, akA2, akA3, akA4, akA5⟩ := kA.sixC
 obtain ⟨akB0, akB1, akB2, akB3, akB4, akB5⟩ := kB.sixC
 go_wp2_with (fail)
 clear akA0 akA1 akA2 akA3 akA4 akA5
 clear akB0 akB1 akB2 akB3 akB4 akB5
 (with_reducible refine (E1.out _ X.out).mono ?_)
 rintro e u2 ⟨rfl, x9⟩
 replace X := kp (X.out.trans x9)
 replace kA := kA.keep x9
 replace kB := kB.keep x9
 clear x9
 clear kA kB
 go_wp2
 go_ret
 exact ⟨rfl, X.out⟩
theorem MatPost.grp {m : Mat} {w : World} {e : Ending} {w' : World} (h : MatPost m w e w') : ∃ v, e = .returned (.agg #[.int .i64 m.r, .int .i64 m.c, v]) ∧ Grp w.heap.size w' [v] [m.xs] ∧ Ext w w' := by
 obtain ⟨v, h1, h2, h3⟩ := h
 exact ⟨v, h1, Grp.one h2, h3⟩
end Go.Proofs.YtkkdikoknegpjaaGreat
