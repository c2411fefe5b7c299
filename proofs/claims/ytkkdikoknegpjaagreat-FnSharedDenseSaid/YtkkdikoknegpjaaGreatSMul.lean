import Derived.Test.YtkkdikoknegpjaaGreatSPair
import Derived.Test.YtkkdikoknegpjaaGreatKQ
namespace Go.Proofs.YtkkdikoknegpjaaGreat
set_option linter.unusedSimpArgs false
set_option linter.unusedVariables false
open Go.RowKit
set_option maxHeartbeats 8000000 in
set_option maxRecDepth 2000 in
theorem spec_MulMatrices (r c p q : Int) (v u : Value) (xs ys : List Int) (w : World) (h1 : Arg w v xs) (h2 : Arg w u ys) : Calls Tryz.prog 78 #[.agg #[.int .i64 r, .int .i64 c, v], .agg #[.int .i64 p, .int .i64 q, u]] w (MatPost (mulM ⟨r, c, xs⟩ ⟨p, q, ys⟩) w) := by
 unfold MatPost
 cases g1 : mOk r c xs
 ·rw [mulM_bad (by simp [g1])]
  obtain ⟨s1, n1, rfl, hm1, hc1⟩ := id h1.ints
  obtain ⟨s2, n2, rfl, hm2, hc2⟩ := id h2.ints
  clear hm1 hc1 hm2 hc2
  have HV := kp h1
  have HU := kp h2
  clear h1 h2
  have MA : Kept (∀ v w', Ints w' v xs → Calls Tryz.prog 75 #[.agg #[.int .i64 r, .int .i64 c, v]] w' fun e w'' => e = .returned (.bool false) ∧ Ext w' w'') := ⟨fun v w' h => g1 ▸ spec_MatrixValid r c v xs w' h⟩
  clear g1
  have OA : Kept (∀ w', Ints w' (.slice s1 xs.length n1) xs → Calls Tryz.prog 51 #[.agg #[.int .i64 r, .int .i64 c, .slice s1 xs.length n1]] w' (MatPost ⟨r, c, xs⟩ w')) := ⟨fun w' h => spec_l1OwnMatrix r c _ xs w' h HV.out.fit.nil HV.out.len⟩
  unfold MatPost at OA
  have OB : Kept (∀ w', Ints w' (.slice s2 ys.length n2) ys → Calls Tryz.prog 51 #[.agg #[.int .i64 p, .int .i64 q, .slice s2 ys.length n2]] w' (MatPost ⟨p, q, ys⟩ w')) := ⟨fun w' h => spec_l1OwnMatrix p q _ ys w' h HU.out.fit.nil HU.out.len⟩
  unfold MatPost at OB
  have X := kp ((((Ext.refl w).alloc (.cells #[.int .i64 r, .int .i64 c, .slice s1 xs.length n1] 28)).alloc (.cells #[.int .i64 p, .int .i64 q, .slice s2 ys.length n2] 28)).alloc (.cells #[.int .i64 0, .int .i64 0, .slice none 0 0] 28))
  have kA := ((Blk.new w #[.int .i64 r, .int .i64 c, .slice s1 xs.length n1] 28).old (.cells #[.int .i64 p, .int .i64 q, .slice s2 ys.length n2] 28)).old (.cells #[.int .i64 0, .int .i64 0, .slice none 0 0] 28)
  have kB := (Blk.new (w.alloc (.cells #[.int .i64 r, .int .i64 c, .slice s1 xs.length n1] 28)) #[.int .i64 p, .int .i64 q, .slice s2 ys.length n2] 28).old (.cells #[.int .i64 0, .int .i64 0, .slice none 0 0] 28)
  have kR := Blk.new ((w.alloc (.cells #[.int .i64 r, .int .i64 c, .slice s1 xs.length n1] 28)).alloc (.cells #[.int .i64 p, .int .i64 q, .slice s2 ys.length n2] 28)) #[.int .i64 0, .int .i64 0, .slice none 0 0] 28
  simp only [World.size_alloc] at kB kR
  go_enter Tryz.func78, Tryz.ntmps78
  obtain ⟨akA0, akA1, akA2⟩ := kA.three
  go_wp2_with (fail)
  clear akA0 akA1 akA2
  (with_reducible refine (OA.out _ (HV.out.ints.keep X.out)).mono ?_)
  rintro e u1 ⟨vA, rfl, oA, x9⟩
  obtain ⟨pA, mA, huA, -, -⟩ := id oA.ints
  try simp only at huA
  subst huA
  replace oA := oA.mono X.out.size
  replace X := kp (X.out.trans x9)
  replace kA := kA.keep x9
  replace kB := kB.keep x9
  replace kR := kR.keep x9
  clear x9
  obtain ⟨akA0, akA1, akA2⟩ := kA.three
  obtain ⟨akB0, akB1, akB2⟩ := kB.three
  have fkA := kA.free
  go_wp2_with (fail)
  clear akA0 akA1 akA2
  clear akB0 akB1 akB2
  clear fkA
  replace oA := oA.oth (oA.ne kA (by decide)) 0 1 2 (.int .i64 r) (.int .i64 c) (.slice pA xs.length mA)
  replace kB := kB.oth (g := w.heap.size) (by omega) 0 1 2 (.int .i64 r) (.int .i64 c) (.slice pA xs.length mA)
  replace kR := kR.oth (g := w.heap.size) (by omega) 0 1 2 (.int .i64 r) (.int .i64 c) (.slice pA xs.length mA)
  replace kA := kA.sub 0 1 2 (.int .i64 r) (.int .i64 c) (.slice pA xs.length mA) (cs' := #[.int .i64 r, .int .i64 c, .slice pA xs.length mA]) rfl
  replace X := kp (X.out.oth (g := w.heap.size) (by omega) 0 1 2 (.int .i64 r) (.int .i64 c) (.slice pA xs.length mA))
  (with_reducible refine (OB.out _ (HU.out.ints.keep X.out)).mono ?_)
  rintro e u2 ⟨vB, rfl, oB, x9⟩
  obtain ⟨pB, mB, huB, -, -⟩ := id oB.ints
  try simp only at huB
  subst huB
  replace oB := oB.mono X.out.size
  replace X := kp (X.out.trans x9)
  replace kA := kA.keep x9
  replace kB := kB.keep x9
  replace kR := kR.keep x9
  replace oA := oA.keep x9
  clear x9
  obtain ⟨akA0, akA1, akA2⟩ := kA.three
  obtain ⟨akB0, akB1, akB2⟩ := kB.three
  have fkB := kB.free
  go_wp2_with (fail)
  clear akA0 akA1 akA2
  clear akB0 akB1 akB2
  clear fkB
  replace oA := oA.oth (oA.ne kB (by decide)) 0 1 2 (.int .i64 p) (.int .i64 q) (.slice pB ys.length mB)
  replace oB := oB.oth (oB.ne kB (by decide)) 0 1 2 (.int .i64 p) (.int .i64 q) (.slice pB ys.length mB)
  replace kA := kA.oth (g := w.heap.size + 1) (by omega) 0 1 2 (.int .i64 p) (.int .i64 q) (.slice pB ys.length mB)
  replace kR := kR.oth (g := w.heap.size + 1) (by omega) 0 1 2 (.int .i64 p) (.int .i64 q) (.slice pB ys.length mB)
  replace kB := kB.sub 0 1 2 (.int .i64 p) (.int .i64 q) (.slice pB ys.length mB) (cs' := #[.int .i64 p, .int .i64 q, .slice pB ys.length mB]) rfl
  replace X := kp (X.out.oth (g := w.heap.size + 1) (by omega) 0 1 2 (.int .i64 p) (.int .i64 q) (.slice pB ys.length mB))
  (with_reducible refine (MA.out _ _ oA.ints).mono ?_)
  rintro e u3 ⟨rfl, x9⟩
  replace X := kp (X.out.trans x9)
  replace kA := kA.keep x9
  replace kB := kB.keep x9
  replace kR := kR.keep x9
  replace oA := oA.keep x9
  replace oB := oB.keep x9
  clear x9
  clear kA kB oA oB
  have RK := kp kR
  obtain ⟨r0, r1, r2⟩ := kR.three
  have rf := kR.free
  clear kR
  go_wp2
  exact bodyPost_ret (v := .agg #[.int .i64 0, .int .i64 0, .slice none 0 0]) (by simp [results, Tryz.results78, go_sem, *]) rfl ⟨_, rfl, Own.nil _ _, by first | exact X.out.other3 (by show w.heap.size ≤ w.heap.size + 1 + 1; omega) _ _ _ | exact X.out⟩
 cases g2 : mOk p q ys
 ·rw [mulM_bad (by simp [g2])]
  obtain ⟨s1, n1, rfl, hm1, hc1⟩ := id h1.ints
  obtain ⟨s2, n2, rfl, hm2, hc2⟩ := id h2.ints
  clear hm1 hc1 hm2 hc2
  have HV := kp h1
  have HU := kp h2
  clear h1 h2
  have MA : Kept (∀ v w', Ints w' v xs → Calls Tryz.prog 75 #[.agg #[.int .i64 r, .int .i64 c, v]] w' fun e w'' => e = .returned (.bool true) ∧ Ext w' w'') := ⟨fun v w' h => g1 ▸ spec_MatrixValid r c v xs w' h⟩
  have MB : Kept (∀ v w', Ints w' v ys → Calls Tryz.prog 75 #[.agg #[.int .i64 p, .int .i64 q, v]] w' fun e w'' => e = .returned (.bool false) ∧ Ext w' w'') := ⟨fun v w' h => g2 ▸ spec_MatrixValid p q v ys w' h⟩
  clear g1 g2
  have OA : Kept (∀ w', Ints w' (.slice s1 xs.length n1) xs → Calls Tryz.prog 51 #[.agg #[.int .i64 r, .int .i64 c, .slice s1 xs.length n1]] w' (MatPost ⟨r, c, xs⟩ w')) := ⟨fun w' h => spec_l1OwnMatrix r c _ xs w' h HV.out.fit.nil HV.out.len⟩
  unfold MatPost at OA
  have OB : Kept (∀ w', Ints w' (.slice s2 ys.length n2) ys → Calls Tryz.prog 51 #[.agg #[.int .i64 p, .int .i64 q, .slice s2 ys.length n2]] w' (MatPost ⟨p, q, ys⟩ w')) := ⟨fun w' h => spec_l1OwnMatrix p q _ ys w' h HU.out.fit.nil HU.out.len⟩
  unfold MatPost at OB
  have X := kp ((((Ext.refl w).alloc (.cells #[.int .i64 r, .int .i64 c, .slice s1 xs.length n1] 28)).alloc (.cells #[.int .i64 p, .int .i64 q, .slice s2 ys.length n2] 28)).alloc (.cells #[.int .i64 0, .int .i64 0, .slice none 0 0] 28))
  have kA := ((Blk.new w #[.int .i64 r, .int .i64 c, .slice s1 xs.length n1] 28).old (.cells #[.int .i64 p, .int .i64 q, .slice s2 ys.length n2] 28)).old (.cells #[.int .i64 0, .int .i64 0, .slice none 0 0] 28)
  have kB := (Blk.new (w.alloc (.cells #[.int .i64 r, .int .i64 c, .slice s1 xs.length n1] 28)) #[.int .i64 p, .int .i64 q, .slice s2 ys.length n2] 28).old (.cells #[.int .i64 0, .int .i64 0, .slice none 0 0] 28)
  have kR := Blk.new ((w.alloc (.cells #[.int .i64 r, .int .i64 c, .slice s1 xs.length n1] 28)).alloc (.cells #[.int .i64 p, .int .i64 q, .slice s2 ys.length n2] 28)) #[.int .i64 0, .int .i64 0, .slice none 0 0] 28
  simp only [World.size_alloc] at kB kR
  go_enter Tryz.func78, Tryz.ntmps78
  obtain ⟨akA0, akA1, akA2⟩ := kA.three
  go_wp2_with (fail)
  clear akA0 akA1 akA2
  (with_reducible refine (OA.out _ (HV.out.ints.keep X.out)).mono ?_)
  rintro e u1 ⟨vA, rfl, oA, x9⟩
  obtain ⟨pA, mA, huA, -, -⟩ := id oA.ints
  try simp only at huA
  subst huA
  replace oA := oA.mono X.out.size
  replace X := kp (X.out.trans x9)
  replace kA := kA.keep x9
  replace kB := kB.keep x9
  replace kR := kR.keep x9
  clear x9
  obtain ⟨akA0, akA1, akA2⟩ := kA.three
  obtain ⟨akB0, akB1, akB2⟩ := kB.three
  have fkA := kA.free
  go_wp2_with (fail)
  clear akA0 akA1 akA2
  clear akB0 akB1 akB2
  clear fkA
  replace oA := oA.oth (oA.ne kA (by decide)) 0 1 2 (.int .i64 r) (.int .i64 c) (.slice pA xs.length mA)
  replace kB := kB.oth (g := w.heap.size) (by omega) 0 1 2 (.int .i64 r) (.int .i64 c) (.slice pA xs.length mA)
  replace kR := kR.oth (g := w.heap.size) (by omega) 0 1 2 (.int .i64 r) (.int .i64 c) (.slice pA xs.length mA)
  replace kA := kA.sub 0 1 2 (.int .i64 r) (.int .i64 c) (.slice pA xs.length mA) (cs' := #[.int .i64 r, .int .i64 c, .slice pA xs.length mA]) rfl
  replace X := kp (X.out.oth (g := w.heap.size) (by omega) 0 1 2 (.int .i64 r) (.int .i64 c) (.slice pA xs.length mA))
  (with_reducible refine (OB.out _ (HU.out.ints.keep X.out)).mono ?_)
  rintro e u2 ⟨vB, rfl, oB, x9⟩
  obtain ⟨pB, mB, huB, -, -⟩ := id oB.ints
  try simp only at huB
  subst huB
  replace oB := oB.mono X.out.size
  replace X := kp (X.out.trans x9)
  replace kA := kA.keep x9
  replace kB := kB.keep x9
  replace kR := kR.keep x9
  replace oA := oA.keep x9
  clear x9
  obtain ⟨akA0, akA1, akA2⟩ := kA.three
  obtain ⟨akB0, akB1, akB2⟩ := kB.three
  have fkB := kB.free
  go_wp2_with (fail)
  clear akA0 akA1 akA2
  clear akB0 akB1 akB2
  clear fkB
  replace oA := oA.oth (oA.ne kB (by decide)) 0 1 2 (.int .i64 p) (.int .i64 q) (.slice pB ys.length mB)
  replace oB := oB.oth (oB.ne kB (by decide)) 0 1 2 (.int .i64 p) (.int .i64 q) (.slice pB ys.length mB)
  replace kA := kA.oth (g := w.heap.size + 1) (by omega) 0 1 2 (.int .i64 p) (.int .i64 q) (.slice pB ys.length mB)
  replace kR := kR.oth (g := w.heap.size + 1) (by omega) 0 1 2 (.int .i64 p) (.int .i64 q) (.slice pB ys.length mB)
  replace kB := kB.sub 0 1 2 (.int .i64 p) (.int .i64 q) (.slice pB ys.length mB) (cs' := #[.int .i64 p, .int .i64 q, .slice pB ys.length mB]) rfl
  replace X := kp (X.out.oth (g := w.heap.size + 1) (by omega) 0 1 2 (.int .i64 p) (.int .i64 q) (.slice pB ys.length mB))
  (with_reducible refine (MA.out _ _ oA.ints).mono ?_)
  rintro e u3 ⟨rfl, x9⟩
  replace X := kp (X.out.trans x9)
  replace kA := kA.keep x9
  replace kB := kB.keep x9
  replace kR := kR.keep x9
  replace oA := oA.keep x9
  replace oB := oB.keep x9
  clear x9
  obtain ⟨akB0, akB1, akB2⟩ := kB.three
  go_wp2_with (fail)
  clear akB0 akB1 akB2
  (with_reducible refine (MB.out _ _ oB.ints).mono ?_)
  rintro e u4 ⟨rfl, x9⟩
  replace X := kp (X.out.trans x9)
  replace kA := kA.keep x9
  replace kB := kB.keep x9
  replace kR := kR.keep x9
  replace oA := oA.keep x9
  replace oB := oB.keep x9
  clear x9
  clear kA kB oA oB
  have RK := kp kR
  obtain ⟨r0, r1, r2⟩ := kR.three
  have rf := kR.free
  clear kR
  go_wp2
  exact bodyPost_ret (v := .agg #[.int .i64 0, .int .i64 0, .slice none 0 0]) (by simp [results, Tryz.results78, go_sem, *]) rfl ⟨_, rfl, Own.nil _ _, by first | exact X.out.other3 (by show w.heap.size ≤ w.heap.size + 1 + 1; omega) _ _ _ | exact X.out⟩
 cases g3 : decide (c = p)
 ·rw [mulM_bad (by simp [g3])]
  obtain ⟨s1, n1, rfl, hm1, hc1⟩ := id h1.ints
  obtain ⟨s2, n2, rfl, hm2, hc2⟩ := id h2.ints
  clear hm1 hc1 hm2 hc2
  have HV := kp h1
  have HU := kp h2
  clear h1 h2
  have MA : Kept (∀ v w', Ints w' v xs → Calls Tryz.prog 75 #[.agg #[.int .i64 r, .int .i64 c, v]] w' fun e w'' => e = .returned (.bool true) ∧ Ext w' w'') := ⟨fun v w' h => g1 ▸ spec_MatrixValid r c v xs w' h⟩
  have MB : Kept (∀ v w', Ints w' v ys → Calls Tryz.prog 75 #[.agg #[.int .i64 p, .int .i64 q, v]] w' fun e w'' => e = .returned (.bool true) ∧ Ext w' w'') := ⟨fun v w' h => g2 ▸ spec_MatrixValid p q v ys w' h⟩
  have g4 : (c == p) = false := by simpa using g3
  clear g1 g2 g3
  have OA : Kept (∀ w', Ints w' (.slice s1 xs.length n1) xs → Calls Tryz.prog 51 #[.agg #[.int .i64 r, .int .i64 c, .slice s1 xs.length n1]] w' (MatPost ⟨r, c, xs⟩ w')) := ⟨fun w' h => spec_l1OwnMatrix r c _ xs w' h HV.out.fit.nil HV.out.len⟩
  unfold MatPost at OA
  have OB : Kept (∀ w', Ints w' (.slice s2 ys.length n2) ys → Calls Tryz.prog 51 #[.agg #[.int .i64 p, .int .i64 q, .slice s2 ys.length n2]] w' (MatPost ⟨p, q, ys⟩ w')) := ⟨fun w' h => spec_l1OwnMatrix p q _ ys w' h HU.out.fit.nil HU.out.len⟩
  unfold MatPost at OB
  have X := kp ((((Ext.refl w).alloc (.cells #[.int .i64 r, .int .i64 c, .slice s1 xs.length n1] 28)).alloc (.cells #[.int .i64 p, .int .i64 q, .slice s2 ys.length n2] 28)).alloc (.cells #[.int .i64 0, .int .i64 0, .slice none 0 0] 28))
  have kA := ((Blk.new w #[.int .i64 r, .int .i64 c, .slice s1 xs.length n1] 28).old (.cells #[.int .i64 p, .int .i64 q, .slice s2 ys.length n2] 28)).old (.cells #[.int .i64 0, .int .i64 0, .slice none 0 0] 28)
  have kB := (Blk.new (w.alloc (.cells #[.int .i64 r, .int .i64 c, .slice s1 xs.length n1] 28)) #[.int .i64 p, .int .i64 q, .slice s2 ys.length n2] 28).old (.cells #[.int .i64 0, .int .i64 0, .slice none 0 0] 28)
  have kR := Blk.new ((w.alloc (.cells #[.int .i64 r, .int .i64 c, .slice s1 xs.length n1] 28)).alloc (.cells #[.int .i64 p, .int .i64 q, .slice s2 ys.length n2] 28)) #[.int .i64 0, .int .i64 0, .slice none 0 0] 28
  simp only [World.size_alloc] at kB kR
  go_enter Tryz.func78, Tryz.ntmps78
  obtain ⟨akA0, akA1, akA2⟩ := kA.three
  go_wp2_with (fail)
  clear akA0 akA1 akA2
  (with_reducible refine (OA.out _ (HV.out.ints.keep X.out)).mono ?_)
  rintro e u1 ⟨vA, rfl, oA, x9⟩
  obtain ⟨pA, mA, huA, -, -⟩ := id oA.ints
  try simp only at huA
  subst huA
  replace oA := oA.mono X.out.size
  replace X := kp (X.out.trans x9)
  replace kA := kA.keep x9
  replace kB := kB.keep x9
  replace kR := kR.keep x9
  clear x9
  obtain ⟨akA0, akA1, akA2⟩ := kA.three
  obtain ⟨akB0, akB1, akB2⟩ := kB.three
  have fkA := kA.free
  go_wp2_with (fail)
  clear akA0 akA1 akA2
  clear akB0 akB1 akB2
  clear fkA
  replace oA := oA.oth (oA.ne kA (by decide)) 0 1 2 (.int .i64 r) (.int .i64 c) (.slice pA xs.length mA)
  replace kB := kB.oth (g := w.heap.size) (by omega) 0 1 2 (.int .i64 r) (.int .i64 c) (.slice pA xs.length mA)
  replace kR := kR.oth (g := w.heap.size) (by omega) 0 1 2 (.int .i64 r) (.int .i64 c) (.slice pA xs.length mA)
  replace kA := kA.sub 0 1 2 (.int .i64 r) (.int .i64 c) (.slice pA xs.length mA) (cs' := #[.int .i64 r, .int .i64 c, .slice pA xs.length mA]) rfl
  replace X := kp (X.out.oth (g := w.heap.size) (by omega) 0 1 2 (.int .i64 r) (.int .i64 c) (.slice pA xs.length mA))
  (with_reducible refine (OB.out _ (HU.out.ints.keep X.out)).mono ?_)
  rintro e u2 ⟨vB, rfl, oB, x9⟩
  obtain ⟨pB, mB, huB, -, -⟩ := id oB.ints
  try simp only at huB
  subst huB
  replace oB := oB.mono X.out.size
  replace X := kp (X.out.trans x9)
  replace kA := kA.keep x9
  replace kB := kB.keep x9
  replace kR := kR.keep x9
  replace oA := oA.keep x9
  clear x9
  obtain ⟨akA0, akA1, akA2⟩ := kA.three
  obtain ⟨akB0, akB1, akB2⟩ := kB.three
  have fkB := kB.free
  go_wp2_with (fail)
  clear akA0 akA1 akA2
  clear akB0 akB1 akB2
  clear fkB
  replace oA := oA.oth (oA.ne kB (by decide)) 0 1 2 (.int .i64 p) (.int .i64 q) (.slice pB ys.length mB)
  replace oB := oB.oth (oB.ne kB (by decide)) 0 1 2 (.int .i64 p) (.int .i64 q) (.slice pB ys.length mB)
  replace kA := kA.oth (g := w.heap.size + 1) (by omega) 0 1 2 (.int .i64 p) (.int .i64 q) (.slice pB ys.length mB)
  replace kR := kR.oth (g := w.heap.size + 1) (by omega) 0 1 2 (.int .i64 p) (.int .i64 q) (.slice pB ys.length mB)
  replace kB := kB.sub 0 1 2 (.int .i64 p) (.int .i64 q) (.slice pB ys.length mB) (cs' := #[.int .i64 p, .int .i64 q, .slice pB ys.length mB]) rfl
  replace X := kp (X.out.oth (g := w.heap.size + 1) (by omega) 0 1 2 (.int .i64 p) (.int .i64 q) (.slice pB ys.length mB))
  (with_reducible refine (MA.out _ _ oA.ints).mono ?_)
  rintro e u3 ⟨rfl, x9⟩
  replace X := kp (X.out.trans x9)
  replace kA := kA.keep x9
  replace kB := kB.keep x9
  replace kR := kR.keep x9
  replace oA := oA.keep x9
  replace oB := oB.keep x9
  clear x9
  obtain ⟨akB0, akB1, akB2⟩ := kB.three
  go_wp2_with (fail)
  clear akB0 akB1 akB2
  (with_reducible refine (MB.out _ _ oB.ints).mono ?_)
  rintro e u4 ⟨rfl, x9⟩
  replace X := kp (X.out.trans x9)
  replace kA := kA.keep x9
  replace kB := kB.keep x9
  replace kR := kR.keep x9
  replace oA := oA.keep x9
  replace oB := oB.keep x9
  clear x9
  obtain ⟨c0, c1, c2⟩ := kA.three
  obtain ⟨d0, d1, d2⟩ := kB.three
  clear kA kB oA oB
  have RK := kp kR
  obtain ⟨r0, r1, r2⟩ := kR.three
  have rf := kR.free
  clear kR
  go_wp2
  exact bodyPost_ret (v := .agg #[.int .i64 0, .int .i64 0, .slice none 0 0]) (by simp [results, Tryz.results78, go_sem, *]) rfl ⟨_, rfl, Own.nil _ _, by first | exact X.out.other3 (by show w.heap.size ≤ w.heap.size + 1 + 1; omega) _ _ _ | exact X.out⟩
 have g3' : p = c := by simp only [decide_eq_true_eq] at g3; exact g3.symm
 subst g3'
 obtain ⟨s1, n1, rfl, hm1, hc1⟩ := id h1.ints
 obtain ⟨s2, n2, rfl, hm2, hc2⟩ := id h2.ints
 clear hm1 hc1 hm2 hc2
 have HV := kp h1
 have HU := kp h2
 clear h1 h2
 obtain ⟨R, K, rfl, rfl, R1, R5, K1, K5, hL, L25, hrv⟩ := mOk_nat g1
 obtain ⟨K', C, e1, rfl, _, _, C1, C5, hL', L25', _⟩ := mOk_nat g2
 obtain rfl : K = K' := by omega
 clear e1 hrv
 rw [mulM_ok g1 g2]
 obtain ⟨L, hLL⟩ : ∃ L, L = R * C := ⟨_, rfl⟩
 rw [← hLL]
 have HLL := kp hLL
 clear hLL
 have MA : Kept (∀ v w', Ints w' v xs → Calls Tryz.prog 75 #[.agg #[.int .i64 R, .int .i64 K, v]] w' fun e w'' => e = .returned (.bool true) ∧ Ext w' w'') := ⟨fun v w' h => g1 ▸ spec_MatrixValid R K v xs w' h⟩
 have MB : Kept (∀ v w', Ints w' v ys → Calls Tryz.prog 75 #[.agg #[.int .i64 K, .int .i64 C, v]] w' fun e w'' => e = .returned (.bool true) ∧ Ext w' w'') := ⟨fun v w' h => g2 ▸ spec_MatrixValid K C v ys w' h⟩
 have hRC25 : R * C ≤ 25 := by have := Nat.mul_le_mul R5 C5; omega
 have RG : Kept (∀ n w, Calls Tryz.prog 86 #[.int .i64 n] w fun e w' => e = .returned (.int .i64 (ring n)) ∧ w = w') := ⟨fun n w => spec_l1Ring n w⟩
 have LX1 := kp hL
 have LX2 := kp hL'
 have L26 := kp hRC25
 have B25 := kp (And.intro L25 L25')
 have S5 := kp (And.intro R5 (And.intro K5 C5))
 have g4 : ((K : Int) == (K : Int)) = true := by simp
 clear hL hL' L25 L25' hRC25 R1 K1 C1 g1 g2 g3
 have OA : Kept (∀ w', Ints w' (.slice s1 xs.length n1) xs → Calls Tryz.prog 51 #[.agg #[.int .i64 R, .int .i64 K, .slice s1 xs.length n1]] w' (MatPost ⟨R, K, xs⟩ w')) := ⟨fun w' h => spec_l1OwnMatrix R K _ xs w' h HV.out.fit.nil HV.out.len⟩
 unfold MatPost at OA
 have OB : Kept (∀ w', Ints w' (.slice s2 ys.length n2) ys → Calls Tryz.prog 51 #[.agg #[.int .i64 K, .int .i64 C, .slice s2 ys.length n2]] w' (MatPost ⟨K, C, ys⟩ w')) := ⟨fun w' h => spec_l1OwnMatrix K C _ ys w' h HU.out.fit.nil HU.out.len⟩
 unfold MatPost at OB
 have X := kp ((((Ext.refl w).alloc (.cells #[.int .i64 R, .int .i64 K, .slice s1 xs.length n1] 28)).alloc (.cells #[.int .i64 K, .int .i64 C, .slice s2 ys.length n2] 28)).alloc (.cells #[.int .i64 0, .int .i64 0, .slice none 0 0] 28))
 have kA := ((Blk.new w #[.int .i64 R, .int .i64 K, .slice s1 xs.length n1] 28).old (.cells #[.int .i64 K, .int .i64 C, .slice s2 ys.length n2] 28)).old (.cells #[.int .i64 0, .int .i64 0, .slice none 0 0] 28)
 have kB := (Blk.new (w.alloc (.cells #[.int .i64 R, .int .i64 K, .slice s1 xs.length n1] 28)) #[.int .i64 K, .int .i64 C, .slice s2 ys.length n2] 28).old (.cells #[.int .i64 0, .int .i64 0, .slice none 0 0] 28)
 have kR := Blk.new ((w.alloc (.cells #[.int .i64 R, .int .i64 K, .slice s1 xs.length n1] 28)).alloc (.cells #[.int .i64 K, .int .i64 C, .slice s2 ys.length n2] 28)) #[.int .i64 0, .int .i64 0, .slice none 0 0] 28
 simp only [World.size_alloc] at kB kR
 go_enter Tryz.func78, Tryz.ntmps78
 obtain ⟨akA0, akA1, akA2⟩ := kA.three
 go_wp2_with (fail)
 clear akA0 akA1 akA2
 (with_reducible refine (OA.out _ (HV.out.ints.keep X.out)).mono ?_)
 rintro e u1 ⟨vA, rfl, oA, x9⟩
 obtain ⟨pA, mA, huA, -, -⟩ := id oA.ints
 try simp only at huA
 subst huA
 replace oA := oA.mono X.out.size
 replace X := kp (X.out.trans x9)
 replace kA := kA.keep x9
 replace kB := kB.keep x9
 replace kR := kR.keep x9
 clear x9
 obtain ⟨akA0, akA1, akA2⟩ := kA.three
 obtain ⟨akB0, akB1, akB2⟩ := kB.three
 have fkA := kA.free
 go_wp2_with (fail)
 clear akA0 akA1 akA2
 clear akB0 akB1 akB2
 clear fkA
 replace oA := oA.oth (oA.ne kA (by decide)) 0 1 2 (.int .i64 R) (.int .i64 K) (.slice pA xs.length mA)
 replace kB := kB.oth (g := w.heap.size) (by omega) 0 1 2 (.int .i64 R) (.int .i64 K) (.slice pA xs.length mA)
 replace kR := kR.oth (g := w.heap.size) (by omega) 0 1 2 (.int .i64 R) (.int .i64 K) (.slice pA xs.length mA)
 replace kA := kA.sub 0 1 2 (.int .i64 R) (.int .i64 K) (.slice pA xs.length mA) (cs' := #[.int .i64 R, .int .i64 K, .slice pA xs.length mA]) rfl
 replace X := kp (X.out.oth (g := w.heap.size) (by omega) 0 1 2 (.int .i64 R) (.int .i64 K) (.slice pA xs.length mA))
 (with_reducible refine (OB.out _ (HU.out.ints.keep X.out)).mono ?_)
 rintro e u2 ⟨vB, rfl, oB, x9⟩
 obtain ⟨pB, mB, huB, -, -⟩ := id oB.ints
 try simp only at huB
 subst huB
 replace oB := oB.mono X.out.size
 replace X := kp (X.out.trans x9)
 replace kA := kA.keep x9
 replace kB := kB.keep x9
 replace kR := kR.keep x9
 replace oA := oA.keep x9
 clear x9
 obtain ⟨akA0, akA1, akA2⟩ := kA.three
 obtain ⟨akB0, akB1, akB2⟩ := kB.three
 have fkB := kB.free
 go_wp2_with (fail)
 clear akA0 akA1 akA2
 clear akB0 akB1 akB2
 clear fkB
 replace oA := oA.oth (oA.ne kB (by decide)) 0 1 2 (.int .i64 K) (.int .i64 C) (.slice pB ys.length mB)
 replace oB := oB.oth (oB.ne kB (by decide)) 0 1 2 (.int .i64 K) (.int .i64 C) (.slice pB ys.length mB)
 replace kA := kA.oth (g := w.heap.size + 1) (by omega) 0 1 2 (.int .i64 K) (.int .i64 C) (.slice pB ys.length mB)
 replace kR := kR.oth (g := w.heap.size + 1) (by omega) 0 1 2 (.int .i64 K) (.int .i64 C) (.slice pB ys.length mB)
 replace kB := kB.sub 0 1 2 (.int .i64 K) (.int .i64 C) (.slice pB ys.length mB) (cs' := #[.int .i64 K, .int .i64 C, .slice pB ys.length mB]) rfl
 replace X := kp (X.out.oth (g := w.heap.size + 1) (by omega) 0 1 2 (.int .i64 K) (.int .i64 C) (.slice pB ys.length mB))
 (with_reducible refine (MA.out _ _ oA.ints).mono ?_)
 rintro e u3 ⟨rfl, x9⟩
 replace X := kp (X.out.trans x9)
 replace kA := kA.keep x9
 replace kB := kB.keep x9
 replace kR := kR.keep x9
 replace oA := oA.keep x9
 replace oB := oB.keep x9
 clear x9
 obtain ⟨akB0, akB1, akB2⟩ := kB.three
 go_wp2_with (fail)
 clear akB0 akB1 akB2
 (with_reducible refine (MB.out _ _ oB.ints).mono ?_)
 rintro e u4 ⟨rfl, x9⟩
 replace X := kp (X.out.trans x9)
 replace kA := kA.keep x9
 replace kB := kB.keep x9
 replace kR := kR.keep x9
 replace oA := oA.keep x9
 replace oB := oB.keep x9
 clear x9
 obtain ⟨akA0, akA1, akA2⟩ := kA.three
 obtain ⟨akB0, akB1, akB2⟩ := kB.three
 go_wp2_with (fail)
 clear akA0 akA1 akA2
 clear akB0 akB1 akB2
 clear OA OB MA MB g4
 have gR := kR.lt
 have kM := Blk.new u4 #[.int .i64 R, .int .i64 C, .slice none 0 0] 28
 replace kA := kA.old (.cells #[.int .i64 R, .int .i64 C, .slice none 0 0] 28)
 replace kB := kB.old (.cells #[.int .i64 R, .int .i64 C, .slice none 0 0] 28)
 replace kR := kR.old (.cells #[.int .i64 R, .int .i64 C, .slice none 0 0] 28)
 replace oA := oA.keep ((Ext.refl u4).alloc (.cells #[.int .i64 R, .int .i64 C, .slice none 0 0] 28))
 replace oB := oB.keep ((Ext.refl u4).alloc (.cells #[.int .i64 R, .int .i64 C, .slice none 0 0] 28))
 replace X := kp (X.out.alloc (.cells #[.int .i64 R, .int .i64 C, .slice none 0 0] 28))
 have lX := X.out.size
 generalize hgM : u4.heap.size = gM at *
 have HQ := kp (fun q hq => (oA.block q hq).2)
 have HQ2 := kp (fun q hq => (oB.block q hq).2)
 have hB0 : ∃ B0, B0 = (u4.alloc (.cells #[.int .i64 R, .int .i64 C, .slice none 0 0] 28)).heap.size := ⟨_, rfl⟩
 obtain ⟨B0, hB0⟩ := hB0
 rw [← hB0] at HQ HQ2 lX
 have LX := kp lX
 clear lX
 have hB1 : B0 ≤ (u4.alloc (.cells #[.int .i64 R, .int .i64 C, .slice none 0 0] 28)).heap.size := by rw [hB0]; exact Nat.le_refl _
 clear hB0
 go_loopw [6] (fun i wr => ∃ (j : Nat) (v : Value), j ≤ R ∧ i = .int .i64 j ∧ Blk wr gM #[.int .i64 R, .int .i64 C, v] 28 ∧ Own B0 wr v (mapTo (mulE xs ys K C) (j * C)) ∧ Own w.heap.size wr (.slice pA xs.length mA) xs ∧ Own w.heap.size wr (.slice pB ys.length mB) ys ∧ Blk wr w.heap.size #[.int .i64 R, .int .i64 K, .slice pA xs.length mA] 28 ∧ Blk wr (w.heap.size + 1) #[.int .i64 K, .int .i64 C, .slice pB ys.length mB] 28 ∧ Blk wr (w.heap.size + 1 + 1) #[.int .i64 0, .int .i64 0, .slice none 0 0] 28 ∧ Ext w wr ∧ B0 ≤ wr.heap.size) (fun i _ => R - (intOf i).toNat)
 case atStart => exact ⟨0, _, Nat.zero_le _, rfl, kM, by rw [Nat.zero_mul]; exact Own.nil _ _, oA, oB, kA, kB, kR, X.out, hB1⟩
 clear X kM kA kB kR oA oB hB1
 obtain ⟨i0, v0, hi0, rfl, kM, ho, oA, oB, kA, kB, kR, hx, hB⟩ := hrel
 by_cases hlt : i0 < R
 ·have hltZ : (i0 : Int) < (R : Int) := by omega
  have KM := kp kM
  have HO := kp ho
  have OA := kp oA
  have OB := kp oB
  have KA := kp kA
  have KB := kp kB
  have KR := kp kR
  have HX := kp hx
  have HBB := kp hB
  clear kM ho oA oB kA kB kR hx hB
  obtain ⟨a0, a1, a2⟩ := KA.out.three
  go_wp2_with (fail)
  clear a0 a1 a2
  go_loopw [7] (fun i wr => ∃ (j : Nat) (v : Value), j ≤ C ∧ i = .int .i64 j ∧ Blk wr gM #[.int .i64 R, .int .i64 C, v] 28 ∧ Own B0 wr v (mapTo (mulE xs ys K C) (i0 * C + j)) ∧ Own w.heap.size wr (.slice pA xs.length mA) xs ∧ Own w.heap.size wr (.slice pB ys.length mB) ys ∧ Blk wr w.heap.size #[.int .i64 R, .int .i64 K, .slice pA xs.length mA] 28 ∧ Blk wr (w.heap.size + 1) #[.int .i64 K, .int .i64 C, .slice pB ys.length mB] 28 ∧ Blk wr (w.heap.size + 1 + 1) #[.int .i64 0, .int .i64 0, .slice none 0 0] 28 ∧ Ext w wr ∧ B0 ≤ wr.heap.size) (fun i _ => C - (intOf i).toNat)
  case atStart => exact ⟨0, v0, Nat.zero_le _, rfl, KM.out, HO.out, OA.out, OB.out, KA.out, KB.out, KR.out, HX.out, HBB.out⟩
  clear KM HO OA OB KA KB KR HX HBB
  obtain ⟨j0, v1, hj0, rfl, kM, ho, oA, oB, kA, kB, kR, hx, hB⟩ := hrel
  by_cases hlj : j0 < C
  ·have hljZ : (j0 : Int) < (C : Int) := by omega
   have KM := kp kM
   have HO := kp ho
   have OA := kp oA
   have OB := kp oB
   have KA := kp kA
   have KB := kp kB
   have KR := kp kR
   have HX := kp hx
   have HBB := kp hB
   clear kM ho oA oB kA kB kR hx hB
   obtain ⟨b0, b1, b2⟩ := KB.out.three
   go_wp2_with (fail)
   clear b0 b1 b2
   go_loopw [8, 9] (fun s i wr' => ∃ (k : Nat) (t : Int), k ≤ K ∧ s = .int .i64 t ∧ i = .int .i64 k ∧ ring t = ring (sumTo (fun k => xs.getD (i0 * K + k) 0 * ys.getD (k * C + j0) 0) k) ∧ Ext wr wr') (fun _ i _ => K - (intOf i).toNat)
   case atStart => exact ⟨0, 0, Nat.zero_le _, rfl, rfl, rfl, Ext.refl _⟩
   obtain ⟨k, t, hk, rfl, rfl, hs, hy⟩ := hrel
   by_cases hlk : k < K
   ·have HS := kp hs
    clear hs
    have hlkZ : (k : Int) < (K : Int) := by omega
    obtain ⟨q1, hq1⟩ : ∃ q, q = i0 * K := ⟨_, rfl⟩
    obtain ⟨d1, hd1⟩ : ∃ d, d = i0 * K + k := ⟨_, rfl⟩
    obtain ⟨q2, hq2⟩ : ∃ q, q = k * C := ⟨_, rfl⟩
    obtain ⟨d2, hd2⟩ : ∃ d, d = k * C + j0 := ⟨_, rfl⟩
    have l1 : d1 < xs.length := by rw [hd1, LX1.out]; exact place_lt hlt hlk
    have l2 : d2 < ys.length := by rw [hd2, LX2.out]; exact place_lt hlk hlj
    have m1 : d1 = q1 + k := by rw [hd1, hq1]
    have m2 : d2 = q2 + j0 := by rw [hd2, hq2]
    have c1 : (i0 : Int) * (K : Int) = (q1 : Int) := by rw [hq1, Int.natCast_mul]
    have c2 : (k : Int) * (C : Int) = (q2 : Int) := by rw [hq2, Int.natCast_mul]
    have HD1 := kp hd1
    have HD2 := kp hd2
    clear hd1 hd2 hq1 hq2
    have n1' : d1 < 25 := Nat.lt_of_lt_of_le l1 (by rw [LX1.out]; exact B25.out.1)
    have n2' : d2 < 25 := Nat.lt_of_lt_of_le l2 (by rw [LX2.out]; exact B25.out.2)
    have e1 : wrap64 ((i0 : Int) * (K : Int)) = (q1 : Int) := by rw [c1]; clear c1 c2; unfold wrap64; omega
    have e2 : wrap64 ((k : Int) * (C : Int)) = (q2 : Int) := by rw [c2]; clear c1 c2 e1; unfold wrap64; omega
    clear c1 c2
    have E1 := kp e1
    have E2 := kp e2
    clear e1 e2
    have e3 : wrap64 ((q1 : Int) + (k : Int)) = (d1 : Int) := by unfold wrap64; omega
    have e4 : wrap64 ((q2 : Int) + (j0 : Int)) = (d2 : Int) := by clear e3; unfold wrap64; omega
    have z1 : (d1 : Int) < (xs.length : Int) := Int.ofNat_lt.2 l1
    have z2 : (d2 : Int) < (ys.length : Int) := Int.ofNat_lt.2 l2
    obtain ⟨b, off, es, lb, cb⟩ := at_len (OA.out.keep hy).ints rfl l1
    subst es
    obtain ⟨b', off', es, lb', cb'⟩ := at_len (OB.out.keep hy).ints rfl l2
    subst es
    have HP := kp (rfl : xs.getD d1 0 = xs.getD d1 0)
    generalize hp : xs.getD d1 0 = p at cb
    replace HP := kp hp
    generalize hp' : ys.getD d2 0 = p' at cb'
    have HPQ := kp hp'
    clear hp hp' l1 l2 m1 m2 n1' n2'
    have e1 := E1.out
    have e2 := E2.out
    clear E1 E2
    obtain ⟨a0, a1, a2⟩ := (KA.out.keep hy).three
    obtain ⟨c0, c1, c2⟩ := (KB.out.keep hy).three
    have HY := kp hy
    clear hy
    go_wp2_with (fail)
    go_quiet (fail)
    go_wp2
    go_roundw
    case rel => exact ⟨k + 1, _, by omega, rfl, by go_num, sum_step HS.out (by show p * p' = xs.getD (i0 * K + k) 0 * ys.getD (k * C + j0) 0; rw [← HD1.out, ← HD2.out, HP.out, HPQ.out]), HY.out.drewN _⟩
    case measure => simp [intOf]; omega
   obtain rfl : K = k := by omega
   have e9 : ring t = mulE xs ys K C (i0 * C + j0) := by rw [mulE_at hlj]; exact hs
   have HS := kp e9
   clear e9 hs
   replace KM := kp (KM.out.keep hy)
   replace HO := kp (HO.out.keep hy)
   replace OA := kp (OA.out.keep hy)
   replace OB := kp (OB.out.keep hy)
   replace KA := kp (KA.out.keep hy)
   replace KB := kp (KB.out.keep hy)
   replace KR := kp (KR.out.keep hy)
   replace HX := kp (HX.out.trans hy)
   replace HBB := kp (Nat.le_trans HBB.out hy.size)
   obtain ⟨a0, a1, a2⟩ := KA.out.three
   clear hy hlk hk
   have neM := kp (HO.out.ne KM.out (by decide))
   have neA := kp (HO.out.ne KA.out (by decide))
   have neB := kp (HO.out.ne KB.out (by decide))
   have neR := kp (HO.out.ne KR.out (by decide))
   have neP := kp (OA.out.ne KM.out (by decide))
   have neQ := kp (OB.out.ne KM.out (by decide))
   obtain ⟨d, hd⟩ : ∃ d, d = i0 * C + j0 := ⟨_, rfl⟩
   have hdL : d < R * C := by rw [hd]; exact place_lt hlt hlj
   have d25 : d < 25 := Nat.lt_of_lt_of_le hdL L26.out
   rw [← hd] at HS HO
   have HD := kp hd
   clear hd hdL
   go_wp2_with (fail)
   clear a0 a1 a2
   apply wp_region_zip [isv _, isv _, isv _, isv _, oneS (ring t)] _ (by kernel_rfl)
   case hA => intro V; simp [putAll, dstOf, Act.put]; exact rfl
   case hsl => intro V; exact rfl
   case step =>
    intro V lo up w' hr
    obtain ⟨hcr, hzr⟩ := hr.cells
    have hsr := hr.size
    obtain ⟨m0, m1', m2⟩ := (KM.out.keep hr).three
    simp only [zipOk, depsImp, isv, oneS, modeNg, newb, waits, Region.binds, List.map_nil, List.map_cons, List.headD_cons, List.nil_append, List.cons_append, List.filterMap_cons, List.filterMap_nil, ↓reduceIte, modeNe, Bool.false_eq_true, true_implies, List.getD_cons_zero, List.getD_cons_succ, and_true]
    refine ⟨?_, ?_, ?_, ?_, ?_⟩
    ·intros
     go_wp2
     refine sQ ?_
     exact eZ
    ·intros
     go_wp2
     refine sQ ?_
     exact eZ
    ·intros
     go_wp2
     refine sQ ?_
     exact eZ
    ·intros
     go_wp2_with (go_at_call 86; (with_reducible refine (RG.out _ _).mono ?_); rintro e w1 ⟨rfl, rfl⟩)
     refine sQ ?_
     first | exact ⟨Ext.refl _, rfl⟩ | exact ⟨hy, rfl⟩
    intros
    go_wp2
    refine sQ ?_
    exact ⟨(Ext.refl _).alloc _, rfl, by simp, Blk.new _ _ _⟩
   case hB => kernel_rfl
   intro V lo up w' hr hf ha
   simp only [factsOk, isv, oneS, modeNg, newb, List.map_nil, List.map_cons, List.headD_cons, and_true, Nat.zero_add, Nat.reduceAdd] at hf
   simp only [List.length_cons, List.length_nil, Nat.zero_add, Nat.reduceAdd, List.drop_succ_cons, List.drop_zero]
   obtain ⟨-, ⟨-, -, -, e1⟩, -, -, ⟨l4, -, -, e4, -, k4⟩⟩ := hf
   clear ha
   rw [e1, e4]
   clear e1 e4
   generalize lo 4 = g1 at *
   have hB' : B0 ≤ w'.heap.size := Nat.le_trans HBB.out hr.size
   go_wp2_with (at_builtin; refine wpList_append_one rfl _ _ rfl B0 _ (mapTo (mulE xs ys K C) d) rfl (HO.out.keep hr) g1 _ rfl k4 (by rw [mapTo_len]; omega) hB' ?_; intro v' w5 hown htu; have kM1 := Turned.blk (KM.out.keep hr) htu neM.out; obtain ⟨t0, t1, t2⟩ := kM1.three; have tf := kM1.free; have K1 := kp kM1; have OW := kp hown; have hv : ∃ a m, v' = .slice a (d + 1) m := (by obtain ⟨a, m, e, _⟩ := hown.ints; exact ⟨a, m, by rw [e]; simp [mapTo_len]⟩); obtain ⟨p2, m2, rfl⟩ := hv; have TU := kp htu; clear kM1 hown htu)
   have OW' : Own B0 w5 (.slice p2 (d + 1) m2) (mapTo (mulE xs ys K C) (d + 1)) := by rw [mapTo_succ, ← HS.out]; exact OW.out
   have NE2 := OW'.ne K1.out (by decide)
   have XE := kp (Turned.ext (HX.out.trans hr) TU.out (fun q hq => Nat.le_trans LX.out (HO.out.block q hq).1))
   have A2 := Turned.blk (KA.out.keep hr) TU.out neA.out
   have B2 := Turned.blk (KB.out.keep hr) TU.out neB.out
   have R2 := Turned.blk (KR.out.keep hr) TU.out neR.out
   have P2 := TU.out.own (OA.out.keep hr) (fun q hq e => by have h3 := (HO.out.block q hq).1; have h4 := HQ.out q e; omega)
   have Q2 := TU.out.own (OB.out.keep hr) (fun q hq e => by have h3 := (HO.out.block q hq).1; have h4 := HQ2.out q e; omega)
   have sz1 := TU.out.size
   clear t0 t1 t2 tf
   have OW2 : Own B0 w5 (.slice p2 (d + 1) m2) (mapTo (mulE xs ys K C) (i0 * C + (j0 + 1))) := by rw [← Nat.add_assoc, ← HD.out]; exact OW'
   go_roundw
   case rel =>
    exact ⟨j0 + 1, .slice p2 (d + 1) m2, by omega, by go_num, K1.out.set3 2 _, OW2.setOther _ NE2 _ _, P2.setOther _ neP.out _ _, Q2.setOther _ neQ.out _ _, A2.setO (by omega) _ _, B2.setO (by omega) _ _, R2.setO (by omega) _ _, XE.out.setCell (by show w.heap.size ≤ gM; omega) _, by simp [World.setCell]; omega⟩
   case measure => simp [intOf]; omega
  obtain rfl : j0 = C := by omega
  have ho' : Own B0 wr v1 (mapTo (mulE xs ys K j0) ((i0 + 1) * j0)) := by rw [Nat.add_mul, Nat.one_mul]; exact ho
  clear ho
  have ho := ho'
  clear ho'
  have KM := kp kM
  have HO := kp ho
  have OA := kp oA
  have OB := kp oB
  have KA := kp kA
  have KB := kp kB
  have KR := kp kR
  have HX := kp hx
  have HBB := kp hB
  clear kM ho oA oB kA kB kR hx hB
  obtain ⟨b0, b1, b2⟩ := KB.out.three
  go_wp2
  go_roundw
  case rel => exact ⟨i0 + 1, v1, by omega, by go_num, KM.out, HO.out, OA.out, OB.out, KA.out, KB.out, KR.out, HX.out, HBB.out⟩
  case measure => simp [intOf]; omega
 obtain rfl : i0 = R := by omega
 rw [← HLL.out] at ho
 have hvv : ∃ a m, v0 = .slice a L m := by obtain ⟨a, m, e, _⟩ := ho.ints; exact ⟨a, m, by rw [e]; simp [mapTo_len]⟩
 obtain ⟨p2, m2, rfl⟩ := hvv
 have NR := kp (ho.ne kR (by decide))
 obtain ⟨a0, a1, a2⟩ := kA.three
 obtain ⟨t0, t1, t2⟩ := kM.three
 obtain ⟨r0, r1, r2⟩ := kR.three
 have rf := kR.free
 have HO := kp (ho.mono LX.out)
 have HX := kp hx
 clear ho hx kM kA kB kR oA oB HV HU
 go_wp2
 exact bodyPost_ret (v := .agg #[.int .i64 i0, .int .i64 C, .slice p2 L m2]) (by simp [results, Tryz.results78, go_sem, *]) rfl ⟨_, rfl, HO.out.other3 NR.out _ _ _, HX.out.other3 (by show w.heap.size ≤ w.heap.size + 1 + 1; omega) _ _ _⟩
end Go.Proofs.YtkkdikoknegpjaaGreat
