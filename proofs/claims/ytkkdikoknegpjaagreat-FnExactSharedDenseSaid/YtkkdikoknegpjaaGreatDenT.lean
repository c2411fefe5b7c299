/- Dense layers: the program. -/
import Derived.Test.YtkkdikoknegpjaaGreatKQ
import Derived.Test.YtkkdikoknegpjaaGreatKS
import Derived.Test.YtkkdikoknegpjaaGreatShA
namespace Go.Proofs.YtkkdikoknegpjaaGreat
set_option linter.unusedSimpArgs false
set_option linter.unusedVariables false
open Go.RowKit
set_option maxHeartbeats 2000000 in
theorem impl_denseFits (r c p q : Int) (v u : Value) (xs ys : List Int) (b : Bool) (h : (mOk r c xs && mOk p q ys && decide (q = 1) && decide (p = r)) = b) (w : World) (h1 : Ints w v xs) (h2 : Ints w u ys) : Calls Tryz.prog 32 #[.agg #[.int .i64 r, .int .i64 c, v], .agg #[.int .i64 p, .int .i64 q, u]] w fun e w' => e = .returned (.bool b) ∧ Ext w w' := by
  cases g1 : mOk r c xs
  · have hb : b = false := by rw [← h, g1]; simp
    subst hb
    clear h
    obtain ⟨s1, n1, rfl, hm9, hc9⟩ := id h1
    clear hm9 hc9
    have HV := kp h1
    clear h1
    obtain ⟨s2, n2, rfl, hm9, hc9⟩ := id h2
    clear hm9 hc9
    have HU := kp h2
    clear h2
    have MA : Kept (∀ w', Ext w w' → Calls Tryz.prog 48 #[.agg #[.int .i64 r, .int .i64 c, .slice s1 xs.length n1]] w' fun e w'' => e = .returned (.bool false) ∧ Ext w' w'') := ⟨fun w' hx => g1 ▸ impl_MatrixValid _ _ _ xs w' (HV.out.keep hx)⟩
    clear g1
    have X := kp (((Ext.refl w).alloc (.cells #[.int .i64 r, .int .i64 c, .slice s1 xs.length n1] 28)).alloc (.cells #[.int .i64 p, .int .i64 q, .slice s2 ys.length n2] 28))
    have kA := (Blk.new w #[.int .i64 r, .int .i64 c, .slice s1 xs.length n1] 28).old (.cells #[.int .i64 p, .int .i64 q, .slice s2 ys.length n2] 28)
    have kB := Blk.new (w.alloc (.cells #[.int .i64 r, .int .i64 c, .slice s1 xs.length n1] 28)) #[.int .i64 p, .int .i64 q, .slice s2 ys.length n2] 28
    simp only [World.size_alloc] at kB
    go_enter Tryz.func32, Tryz.ntmps32
    obtain ⟨akA0, akA1, akA2⟩ := kA.three
    obtain ⟨akB0, akB1, akB2⟩ := kB.three
    go_wp2_with (fail)
    clear akA0 akA1 akA2
    clear akB0 akB1 akB2
    (with_reducible refine (MA.out _ X.out).mono ?_)
    rintro e u1 ⟨rfl, x9⟩
    replace X := kp (X.out.trans x9)
    replace kA := kA.keep x9
    replace kB := kB.keep x9
    clear x9
    obtain ⟨akA0, akA1, akA2⟩ := kA.three
    obtain ⟨akB0, akB1, akB2⟩ := kB.three
    clear kA kB
    go_wp2
    go_ret
    exact ⟨rfl, X.out⟩
  cases g2 : mOk p q ys
  · have hb : b = false := by rw [← h, g1, g2]; simp
    subst hb
    clear h
    obtain ⟨s1, n1, rfl, hm9, hc9⟩ := id h1
    clear hm9 hc9
    have HV := kp h1
    clear h1
    obtain ⟨s2, n2, rfl, hm9, hc9⟩ := id h2
    clear hm9 hc9
    have HU := kp h2
    clear h2
    have MA : Kept (∀ w', Ext w w' → Calls Tryz.prog 48 #[.agg #[.int .i64 r, .int .i64 c, .slice s1 xs.length n1]] w' fun e w'' => e = .returned (.bool true) ∧ Ext w' w'') := ⟨fun w' hx => g1 ▸ impl_MatrixValid _ _ _ xs w' (HV.out.keep hx)⟩
    have MB : Kept (∀ w', Ext w w' → Calls Tryz.prog 48 #[.agg #[.int .i64 p, .int .i64 q, .slice s2 ys.length n2]] w' fun e w'' => e = .returned (.bool false) ∧ Ext w' w'') := ⟨fun w' hx => g2 ▸ impl_MatrixValid _ _ _ ys w' (HU.out.keep hx)⟩
    clear g1 g2
    have X := kp (((Ext.refl w).alloc (.cells #[.int .i64 r, .int .i64 c, .slice s1 xs.length n1] 28)).alloc (.cells #[.int .i64 p, .int .i64 q, .slice s2 ys.length n2] 28))
    have kA := (Blk.new w #[.int .i64 r, .int .i64 c, .slice s1 xs.length n1] 28).old (.cells #[.int .i64 p, .int .i64 q, .slice s2 ys.length n2] 28)
    have kB := Blk.new (w.alloc (.cells #[.int .i64 r, .int .i64 c, .slice s1 xs.length n1] 28)) #[.int .i64 p, .int .i64 q, .slice s2 ys.length n2] 28
    simp only [World.size_alloc] at kB
    go_enter Tryz.func32, Tryz.ntmps32
    obtain ⟨akA0, akA1, akA2⟩ := kA.three
    obtain ⟨akB0, akB1, akB2⟩ := kB.three
    go_wp2_with (fail)
    clear akA0 akA1 akA2
    clear akB0 akB1 akB2
    (with_reducible refine (MA.out _ X.out).mono ?_)
    rintro e u1 ⟨rfl, x9⟩
    replace X := kp (X.out.trans x9)
    replace kA := kA.keep x9
    replace kB := kB.keep x9
    clear x9
    obtain ⟨akA0, akA1, akA2⟩ := kA.three
    obtain ⟨akB0, akB1, akB2⟩ := kB.three
    go_wp2_with (fail)
    clear akA0 akA1 akA2
    clear akB0 akB1 akB2
    (with_reducible refine (MB.out _ X.out).mono ?_)
    rintro e u2 ⟨rfl, x9⟩
    replace X := kp (X.out.trans x9)
    replace kA := kA.keep x9
    replace kB := kB.keep x9
    clear x9
    obtain ⟨akA0, akA1, akA2⟩ := kA.three
    obtain ⟨akB0, akB1, akB2⟩ := kB.three
    clear kA kB
    go_wp2
    go_ret
    exact ⟨rfl, X.out⟩
  by_cases g3 : q = 1
  · by_cases g4 : p = r
    · have hb : b = true := by rw [← h, g1, g2]; simp [g3, g4]
      subst hb
      clear h
      subst g3
      subst g4
      obtain ⟨s1, n1, rfl, hm9, hc9⟩ := id h1
      clear hm9 hc9
      have HV := kp h1
      clear h1
      obtain ⟨s2, n2, rfl, hm9, hc9⟩ := id h2
      clear hm9 hc9
      have HU := kp h2
      clear h2
      have MA : Kept (∀ w', Ext w w' → Calls Tryz.prog 48 #[.agg #[.int .i64 p, .int .i64 c, .slice s1 xs.length n1]] w' fun e w'' => e = .returned (.bool true) ∧ Ext w' w'') := ⟨fun w' hx => g1 ▸ impl_MatrixValid _ _ _ xs w' (HV.out.keep hx)⟩
      have MB : Kept (∀ w', Ext w w' → Calls Tryz.prog 48 #[.agg #[.int .i64 p, .int .i64 1, .slice s2 ys.length n2]] w' fun e w'' => e = .returned (.bool true) ∧ Ext w' w'') := ⟨fun w' hx => g2 ▸ impl_MatrixValid _ _ _ ys w' (HU.out.keep hx)⟩
      clear g1 g2
      have X := kp (((Ext.refl w).alloc (.cells #[.int .i64 p, .int .i64 c, .slice s1 xs.length n1] 28)).alloc (.cells #[.int .i64 p, .int .i64 1, .slice s2 ys.length n2] 28))
      have kA := (Blk.new w #[.int .i64 p, .int .i64 c, .slice s1 xs.length n1] 28).old (.cells #[.int .i64 p, .int .i64 1, .slice s2 ys.length n2] 28)
      have kB := Blk.new (w.alloc (.cells #[.int .i64 p, .int .i64 c, .slice s1 xs.length n1] 28)) #[.int .i64 p, .int .i64 1, .slice s2 ys.length n2] 28
      simp only [World.size_alloc] at kB
      go_enter Tryz.func32, Tryz.ntmps32
      obtain ⟨akA0, akA1, akA2⟩ := kA.three
      obtain ⟨akB0, akB1, akB2⟩ := kB.three
      go_wp2_with (fail)
      clear akA0 akA1 akA2
      clear akB0 akB1 akB2
      (with_reducible refine (MA.out _ X.out).mono ?_)
      rintro e u1 ⟨rfl, x9⟩
      replace X := kp (X.out.trans x9)
      replace kA := kA.keep x9
      replace kB := kB.keep x9
      clear x9
      obtain ⟨akA0, akA1, akA2⟩ := kA.three
      obtain ⟨akB0, akB1, akB2⟩ := kB.three
      go_wp2_with (fail)
      clear akA0 akA1 akA2
      clear akB0 akB1 akB2
      (with_reducible refine (MB.out _ X.out).mono ?_)
      rintro e u2 ⟨rfl, x9⟩
      replace X := kp (X.out.trans x9)
      replace kA := kA.keep x9
      replace kB := kB.keep x9
      clear x9
      obtain ⟨akA0, akA1, akA2⟩ := kA.three
      obtain ⟨akB0, akB1, akB2⟩ := kB.three
      clear kA kB
      go_wp2
      go_ret
      exact ⟨rfl, X.out⟩
    have hb : b = false := by rw [← h, g1, g2]; simp [g3, g4]
    subst hb
    clear h
    subst g3
    obtain ⟨s1, n1, rfl, hm9, hc9⟩ := id h1
    clear hm9 hc9
    have HV := kp h1
    clear h1
    obtain ⟨s2, n2, rfl, hm9, hc9⟩ := id h2
    clear hm9 hc9
    have HU := kp h2
    clear h2
    have MA : Kept (∀ w', Ext w w' → Calls Tryz.prog 48 #[.agg #[.int .i64 r, .int .i64 c, .slice s1 xs.length n1]] w' fun e w'' => e = .returned (.bool true) ∧ Ext w' w'') := ⟨fun w' hx => g1 ▸ impl_MatrixValid _ _ _ xs w' (HV.out.keep hx)⟩
    have MB : Kept (∀ w', Ext w w' → Calls Tryz.prog 48 #[.agg #[.int .i64 p, .int .i64 1, .slice s2 ys.length n2]] w' fun e w'' => e = .returned (.bool true) ∧ Ext w' w'') := ⟨fun w' hx => g2 ▸ impl_MatrixValid _ _ _ ys w' (HU.out.keep hx)⟩
    have e2 : (p == r) = false := by simpa using g4
    clear g1 g2
    have X := kp (((Ext.refl w).alloc (.cells #[.int .i64 r, .int .i64 c, .slice s1 xs.length n1] 28)).alloc (.cells #[.int .i64 p, .int .i64 1, .slice s2 ys.length n2] 28))
    have kA := (Blk.new w #[.int .i64 r, .int .i64 c, .slice s1 xs.length n1] 28).old (.cells #[.int .i64 p, .int .i64 1, .slice s2 ys.length n2] 28)
    have kB := Blk.new (w.alloc (.cells #[.int .i64 r, .int .i64 c, .slice s1 xs.length n1] 28)) #[.int .i64 p, .int .i64 1, .slice s2 ys.length n2] 28
    simp only [World.size_alloc] at kB
    go_enter Tryz.func32, Tryz.ntmps32
    obtain ⟨akA0, akA1, akA2⟩ := kA.three
    obtain ⟨akB0, akB1, akB2⟩ := kB.three
    go_wp2_with (fail)
    clear akA0 akA1 akA2
    clear akB0 akB1 akB2
    (with_reducible refine (MA.out _ X.out).mono ?_)
    rintro e u1 ⟨rfl, x9⟩
    replace X := kp (X.out.trans x9)
    replace kA := kA.keep x9
    replace kB := kB.keep x9
    clear x9
    obtain ⟨akA0, akA1, akA2⟩ := kA.three
    obtain ⟨akB0, akB1, akB2⟩ := kB.three
    go_wp2_with (fail)
    clear akA0 akA1 akA2
    clear akB0 akB1 akB2
    (with_reducible refine (MB.out _ X.out).mono ?_)
    rintro e u2 ⟨rfl, x9⟩
    replace X := kp (X.out.trans x9)
    replace kA := kA.keep x9
    replace kB := kB.keep x9
    clear x9
    obtain ⟨akA0, akA1, akA2⟩ := kA.three
    obtain ⟨akB0, akB1, akB2⟩ := kB.three
    clear kA kB
    go_wp2
    go_ret
    exact ⟨rfl, X.out⟩
  have hb : b = false := by rw [← h, g1, g2]; simp [g3]
  subst hb
  clear h
  obtain ⟨s1, n1, rfl, hm9, hc9⟩ := id h1
  clear hm9 hc9
  have HV := kp h1
  clear h1
  obtain ⟨s2, n2, rfl, hm9, hc9⟩ := id h2
  clear hm9 hc9
  have HU := kp h2
  clear h2
  have MA : Kept (∀ w', Ext w w' → Calls Tryz.prog 48 #[.agg #[.int .i64 r, .int .i64 c, .slice s1 xs.length n1]] w' fun e w'' => e = .returned (.bool true) ∧ Ext w' w'') := ⟨fun w' hx => g1 ▸ impl_MatrixValid _ _ _ xs w' (HV.out.keep hx)⟩
  have MB : Kept (∀ w', Ext w w' → Calls Tryz.prog 48 #[.agg #[.int .i64 p, .int .i64 q, .slice s2 ys.length n2]] w' fun e w'' => e = .returned (.bool true) ∧ Ext w' w'') := ⟨fun w' hx => g2 ▸ impl_MatrixValid _ _ _ ys w' (HU.out.keep hx)⟩
  have e1 : (q == 1) = false := by simpa using g3
  clear g1 g2
  have X := kp (((Ext.refl w).alloc (.cells #[.int .i64 r, .int .i64 c, .slice s1 xs.length n1] 28)).alloc (.cells #[.int .i64 p, .int .i64 q, .slice s2 ys.length n2] 28))
  have kA := (Blk.new w #[.int .i64 r, .int .i64 c, .slice s1 xs.length n1] 28).old (.cells #[.int .i64 p, .int .i64 q, .slice s2 ys.length n2] 28)
  have kB := Blk.new (w.alloc (.cells #[.int .i64 r, .int .i64 c, .slice s1 xs.length n1] 28)) #[.int .i64 p, .int .i64 q, .slice s2 ys.length n2] 28
  simp only [World.size_alloc] at kB
  go_enter Tryz.func32, Tryz.ntmps32
  obtain ⟨akA0, akA1, akA2⟩ := kA.three
  obtain ⟨akB0, akB1, akB2⟩ := kB.three
  go_wp2_with (fail)
  clear akA0 akA1 akA2
  clear akB0 akB1 akB2
  (with_reducible refine (MA.out _ X.out).mono ?_)
  rintro e u1 ⟨rfl, x9⟩
  replace X := kp (X.out.trans x9)
  replace kA := kA.keep x9
  replace kB := kB.keep x9
  clear x9
  obtain ⟨akA0, akA1, akA2⟩ := kA.three
  obtain ⟨akB0, akB1, akB2⟩ := kB.three
  go_wp2_with (fail)
  clear akA0 akA1 akA2
  clear akB0 akB1 akB2
  (with_reducible refine (MB.out _ X.out).mono ?_)
  rintro e u2 ⟨rfl, x9⟩
  replace X := kp (X.out.trans x9)
  replace kA := kA.keep x9
  replace kB := kB.keep x9
  clear x9
  obtain ⟨akA0, akA1, akA2⟩ := kA.three
  obtain ⟨akB0, akB1, akB2⟩ := kB.three
  clear kA kB
  go_wp2
  go_ret
  exact ⟨rfl, X.out⟩
end Go.Proofs.YtkkdikoknegpjaaGreat
