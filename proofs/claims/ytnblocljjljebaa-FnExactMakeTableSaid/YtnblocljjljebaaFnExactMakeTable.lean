/- Proved: the law FnExactMakeTable answers true for every input and leaves its arguments as they were. No condition. -/
import Derived.Test.YtnblocljjljebaaRows
import Derived.Test.YtnblocljjljebaaMkTab
import Derived.Test.YtnblocljjljebaaOpen
import Derived.ChangeSlices
import Derived.Test.YtnblocljjljebaaOpen
import Derived.ChangeOld
import Derived.Carry
namespace Go.Proofs.Ytnblocljjljebaa
set_option linter.unusedSimpArgs false
set_option linter.unusedVariables false
open Go.ChangeShapes Go.WideShapes Go.ChangeAt Go.RowKit Go.Joins
set_option linter.unusedVariables false
theorem own : ownKnob Try.prog.godebug = none := by kernel_rfl
theorem laidOut : laidOutB Try.prog = true := by kernel_rfl

/-- What was in memory at w is as it was in w', but for the blocks of two slices. -/
structure Turned2 (v u : Value) (w w' : World) : Prop where
  os : w'.os = w.os
  tape : w'.tape = w.tape
  output : w'.output = w.output
  size : w.heap.size ≤ w'.heap.size
  block : ∀ k, k < w.heap.size → v.ownBlock ≠ some k → u.ownBlock ≠ some k → w'.heap[k]? = w.heap[k]?
theorem Turned2.ext {v u : Value} {w0 w w' : World} (h : Ext w0 w) (t : Turned2 v u w w') (hv : ∀ k, v.ownBlock = some k → w0.heap.size ≤ k) (hu : ∀ k, u.ownBlock = some k → w0.heap.size ≤ k) : Ext w0 w' :=
  Below.trans h ⟨t.os, t.tape, t.output, t.size, fun k hk => t.block k (Nat.lt_of_lt_of_le hk h.size) (fun e => by have := hv k e; omega) (fun e => by have := hu k e; omega)⟩
theorem Turned2.own {v u x : Value} {w w' : World} {B : Nat} {xs : List Int} (h : Own B w x xs) (t : Turned2 v u w w') (hv : ∀ k, v.ownBlock = some k → x.ownBlock ≠ some k) (hu : ∀ k, u.ownBlock = some k → x.ownBlock ≠ some k) : Own B w' x xs := by
  obtain ⟨h1, h2⟩ := h
  refine ⟨h1, h2.imp id ?_⟩
  rintro ⟨g, cap, cur, rfl, hg, hh, r⟩
  exact ⟨g, cap, cur, rfl, hg, by rw [t.block g (lt_of_block hh) (fun e => hv g e rfl) (fun e => hu g e rfl)]; exact hh, r⟩
theorem Turned2.blk {v u : Value} {w w' : World} {b : Nat} {cs : Array Value} {T : TypeId} (h : Blk w b cs T) (t : Turned2 v u w w') (hv : v.ownBlock ≠ some b) (hu : u.ownBlock ≠ some b) : Blk w' b cs T := by
  unfold Blk; rw [t.block b h.lt hv hu]; exact h
theorem Ints.turned {v x : Value} {w w' : World} {xs : List Int} (h : Ints w x xs) (t : Turned v w w') (B : Nat) (hB : ∀ q, v.ownBlock = some q → B ≤ q) (hx : ∀ s n c, x = .slice (some s) n c → xs ≠ [] → s.block < B) : Ints w' x xs := by
  obtain ⟨a, cap, hv, hm, hc⟩ := h
  refine ⟨a, cap, hv, hm, fun i hi => ?_⟩
  obtain ⟨b, off, ha, hb, hcell⟩ := hc i hi
  subst ha
  have hlt := hx _ _ _ hv (by intro e; subst e; simp at hi)
  refine ⟨b, off, rfl, Nat.lt_of_lt_of_le hb t.size, ?_⟩
  rw [World.cell?_of_block (a := ⟨b, off + i, none⟩) (t.block b hb (fun e => by have := hB _ e; simp at hlt; omega))]
  exact hcell
set_option maxHeartbeats 1000000 in
theorem laws_markTable (B : Nat) (a b : Int) (v1 v2 : Value) (xs ys : List Int) (k : Int) (w : World) (h1 : Own B w v1 xs) (h2 : Own B w v2 ys) (hne : ∀ q, v1.ownBlock = some q → v2.ownBlock ≠ some q) (k0 : 0 ≤ k) (kb : k + xs.length + ys.length ≤ 1000000) :
    Calls Try.prog 48 #[.agg #[.int .i64 a, .int .i64 b, v1, v2], .int .i64 k] w fun e w' => e = .returned (.int .i64 (k + xs.length + ys.length)) ∧ Own B w' v1 (marks k xs.length) ∧ Own B w' v2 (marks (k + xs.length) ys.length) ∧ Turned2 v1 v2 w w' := by
  obtain ⟨p1, m1, rfl, -, -⟩ := id h1.ints
  obtain ⟨p2, m2, rfl, -, -⟩ := id h2.ints
  have kA := Blk.new w #[.int .i64 a, .int .i64 b, .slice p1 xs.length m1, .slice p2 ys.length m2] 39
  have x0 := (Ext.refl w).alloc (.cells #[.int .i64 a, .int .i64 b, .slice p1 xs.length m1, .slice p2 ys.length m2] 39)
  have lt1 := Kept.mk h1.block
  have lt2 := Kept.mk h2.block
  replace h1 := h1.keep x0
  replace h2 := h2.keep x0
  have HN := Kept.mk hne
  clear hne
  have HM := Kept.mk (And.intro k0 kb)
  go_enter Try.func48, Try.ntmps48
  go_wp2_with (fail)
  (with_reducible refine (laws_markIntS B _ _ k xs.length rfl _ h1 (by omega) (by have := HM.out; omega)).mono ?_)
  rintro e w1 ⟨rfl, m1', t1⟩
  replace kA := t1.blk kA (h1.ne kA (by decide))
  replace h2 := t1.own h2 (fun q e1 e2 => HN.out q e1 e2)
  have T1 := Kept.mk t1
  clear t1
  obtain ⟨a0, a1, a2, a3⟩ := kA.four
  go_wp2_with (fail)
  (with_reducible refine (laws_markIntS B _ _ (k + xs.length) ys.length rfl _ h2 (by omega) (by have := HM.out; omega)).mono ?_)
  rintro e w2 ⟨rfl, m2', t2⟩
  have m3 := t2.own m1' (fun q e1 e2 => HN.out q e2 e1)
  have T2 := Kept.mk t2
  clear t2 a0 a1 a2 a3
  go_wp2
  go_ret
  exact ⟨rfl, m3, m2', T2.out.os.trans (T1.out.os.trans x0.os), T2.out.tape.trans (T1.out.tape.trans x0.tape), T2.out.output.trans (T1.out.output.trans x0.output), Nat.le_trans x0.size (Nat.le_trans T1.out.size T2.out.size), fun q hq e1 e2 => (T2.out.block q (Nat.lt_of_lt_of_le hq (Nat.le_trans x0.size T1.out.size)) e2).trans ((T1.out.block q (Nat.lt_of_lt_of_le hq x0.size) e1).trans (Below.block x0 q hq))⟩
set_option maxHeartbeats 1000000 in
theorem laws_heldTable (a b : Int) (v1 v2 : Value) (n1 n2 : Nat) (k : Int) (w : World) (h1 : Ints w v1 (marks k n1)) (h2 : Ints w v2 (marks (k + n1) n2)) (k0 : 0 ≤ k) (kb : k + n1 + n2 ≤ 1000000) :
    Calls Try.prog 49 #[.agg #[.int .i64 a, .int .i64 b, v1, v2], .int .i64 k] w fun e w' => e = .returned (.int .i64 (k + n1 + n2)) ∧ Ext w w' := by
  obtain ⟨p1, m1, rfl, -, -⟩ := id h1
  obtain ⟨p2, m2, rfl, -, -⟩ := id h2
  have kA := Blk.new w #[.int .i64 a, .int .i64 b, .slice p1 (marks k n1).length m1, .slice p2 (marks (k + n1) n2).length m2] 39
  have x0 := (Ext.refl w).alloc (.cells #[.int .i64 a, .int .i64 b, .slice p1 (marks k n1).length m1, .slice p2 (marks (k + n1) n2).length m2] 39)
  replace h1 := h1.keep x0
  replace h2 := h2.keep x0
  have HM := Kept.mk (And.intro k0 kb)
  go_enter Try.func49, Try.ntmps49
  go_wp2_with (fail)
  (with_reducible refine (laws_heldIntS _ k n1 _ h1 (by omega) (by have := HM.out; omega)).mono ?_)
  rintro e w1 ⟨rfl, rfl⟩
  have c1 : ¬ (k + (n1 : Int) < 0) := by omega
  go_wp2_with (fail)
  (with_reducible refine (laws_heldIntS _ (k + n1) n2 _ h2 (by omega) (by have := HM.out; omega)).mono ?_)
  rintro e w1 ⟨rfl, rfl⟩
  have c2 : ¬ (k + (n1 : Int) + n2 < 0) := by omega
  go_wp2
  go_ret
  exact ⟨rfl, x0⟩
set_option maxHeartbeats 8000000 in
set_option maxRecDepth 4000 in
theorem walk_FnExactMakeTable (v : Value) (vs : List Int) (s : Int) (w : World) (hv : Ints w v vs) : Calls Try.prog 13 #[v, .int .i64 s] w fun e w' => e = .returned (.bool true) ∧ Ext w w' := by
  obtain ⟨sv, nv, rfl, hmv, hcv⟩ := id hv
  clear hmv hcv
  by_cases hl : (vs.length : Int) ≤ 1048576
  · have MI : Kept (∀ w (v : Value), Ints w v vs → Calls Try.prog 47 #[v, .int .i64 s] w (MadePost vs s w)) := ⟨fun w v h => impl_MakeTable vs s v w h⟩
    have MS : Kept (∀ w (v : Value), Ints w v vs → Calls Try.prog 45 #[v, .int .i64 s] w (MadePost vs s w)) := ⟨fun w v h => spec_MakeTable vs s v w h⟩
    unfold MadePost at MI MS
    have nF : ((mtF vs s).length : Int) ≤ 4096 := by unfold mtF; split <;> simp [rlist_len]
    have nG : ((mtS vs s).length : Int) ≤ 4096 := by unfold mtS; split <;> simp [secL_len]
    generalize mtA vs s = A at *
    generalize mtB vs s = C at *
    generalize mtF vs s = F at *
    generalize mtS vs s = G at *
    generalize mtN vs s = N at *
    have NB := Kept.mk (And.intro nF nG)
    clear nF nG
    have HL : Kept (vs.length ≤ 1048576) := ⟨by omega⟩
    have HV := Kept.mk hv
    clear hv
    go_enter Try.func13, Try.ntmps13
    go_wp2_with (fail)
    (with_reducible refine (laws_toIntS _ vs _ HV.out HL.out).mono ?_)
    rintro e w1 ⟨u1, rfl, c1, hx⟩
    clear hl
    go_wp2_with (fail)
    (with_reducible refine (MS.out _ _ c1.ints).mono ?_)
    rintro e w2 ⟨v1, v2, rfl, o51, o52, hd5, x2⟩
    clear c1
    replace hx := hx.trans x2
    clear x2 hd5
    obtain ⟨p51, m51, hh, -, -⟩ := id o51.ints
    subst hh
    obtain ⟨p52, m52, hh, -, -⟩ := id o52.ints
    subst hh
    go_wp2_with (fail)
    have k5 := Blk.new w2 #[.int .i64 A, .int .i64 C, .slice p51 F.length m51, .slice p52 G.length m52] 39
    have xa := (Ext.refl w2).alloc (.cells #[.int .i64 A, .int .i64 C, .slice p51 F.length m51, .slice p52 G.length m52] 39)
    replace o51 := o51.keep xa
    replace o52 := o52.keep xa
    replace hx := hx.trans xa
    clear xa
    have lw := Kept.mk hx.size
    have b51 := Kept.mk o51.block
    have b52 := Kept.mk o52.block
    go_wp2_with (fail)
    (with_reducible refine (laws_toIntS _ vs _ (HV.out.keep hx) HL.out).mono ?_)
    rintro e w3 ⟨u7, rfl, c7, x3⟩
    have sz3 := Kept.mk x3.size
    replace k5 := k5.keep x3
    replace o51 := o51.keep x3
    replace o52 := o52.keep x3
    replace hx := hx.trans x3
    clear x3
    obtain ⟨p7, m7, hh, -, -⟩ := id c7.ints
    subst hh
    have b7 := Kept.mk c7.block
    go_wp2_with (fail)
    (with_reducible refine (MI.out _ _ c7.ints).mono ?_)
    rintro e w4 ⟨v1, v2, rfl, o81, o82, hd8, x4⟩
    have l5 := k5.lt
    have sz4 := Kept.mk (Nat.le_trans sz3.out (Nat.le_refl w3.heap.size))
    replace k5 := k5.keep x4
    replace o51 := o51.keep x4
    replace o52 := o52.keep x4
    replace c7 := c7.keep x4
    replace hx := hx.trans x4
    clear x4
    obtain ⟨p81, m81, hh, -, -⟩ := id o81.ints
    subst hh
    obtain ⟨p82, m82, hh, -, -⟩ := id o82.ints
    subst hh
    have HD8 := Kept.mk hd8
    clear hd8
    have ne58 : w2.heap.size ≠ w4.heap.size := by have := k5.lt; omega
    have k8 := Blk.new w4 #[.int .i64 A, .int .i64 C, .slice p81 F.length m81, .slice p82 G.length m82] 39
    have xa := (Ext.refl w4).alloc (.cells #[.int .i64 A, .int .i64 C, .slice p81 F.length m81, .slice p82 G.length m82] 39)
    replace k5 := k5.keep xa
    replace o51 := o51.keep xa
    replace o52 := o52.keep xa
    replace c7 := c7.keep xa
    replace o81 := o81.keep xa
    replace o82 := o82.keep xa
    replace hx := hx.trans xa
    clear xa
    obtain ⟨f0, f1, f2, f3⟩ := k5.four
    obtain ⟨e0, e1, e2, e3⟩ := k8.four
    go_wp2_with (fail)
    (with_reducible refine (laws_eqTable A C _ _ _ _ F G _ o81.ints o82.ints o51.ints o52.ints).mono ?_)
    rintro e w5 ⟨rfl, x5⟩
    clear f0 f1 f2 f3 e0 e1 e2 e3
    replace k5 := k5.keep x5
    replace k8 := k8.keep x5
    replace o51 := o51.keep x5
    replace o52 := o52.keep x5
    replace c7 := c7.keep x5
    replace o81 := o81.keep x5
    replace o82 := o82.keep x5
    replace hx := hx.trans x5
    clear x5
    go_wp2_with (fail)
    (with_reducible refine (laws_toIntS _ vs _ (HV.out.keep hx) HL.out).mono ?_)
    rintro e w6 ⟨u8, rfl, c8, x6⟩
    replace k5 := k5.keep x6
    replace k8 := k8.keep x6
    replace o51 := o51.keep x6
    replace o52 := o52.keep x6
    replace c7 := c7.keep x6
    replace o81 := o81.keep x6
    replace o82 := o82.keep x6
    replace hx := hx.trans x6
    clear x6
    go_wp2_with (fail)
    (with_reducible refine (laws_eqIntS _ _ _ _ c7.ints c8.ints).mono ?_)
    rintro e w7 ⟨rfl, x7⟩
    clear c8
    replace k5 := k5.keep x7
    replace k8 := k8.keep x7
    replace o51 := o51.keep x7
    replace o52 := o52.keep x7
    replace c7 := c7.keep x7
    replace o81 := o81.keep x7
    replace o82 := o82.keep x7
    replace hx := hx.trans x7
    clear x7
    have b81 := Kept.mk o81.block
    have b82 := Kept.mk o82.block
    go_wp2_with (fail)
    (with_reducible refine (laws_markIntS _ _ _ 1 vs.length rfl _ c7 (by omega) (by have := HL.out; omega)).mono ?_)
    rintro e w8 ⟨rfl, c9, t8⟩
    replace o51 := t8.own o51 (fun q e1 e2 => by have := (b7.out q e1).1; have := (b51.out q e2).2; omega)
    replace o52 := t8.own o52 (fun q e1 e2 => by have := (b7.out q e1).1; have := (b52.out q e2).2; omega)
    replace o81 := t8.own o81 (fun q e1 e2 => by have := (b7.out q e1).2; have := (b81.out q e2).1; omega)
    replace o82 := t8.own o82 (fun q e1 e2 => by have := (b7.out q e1).2; have := (b82.out q e2).1; omega)
    replace k5 := t8.blk k5 (c7.ne k5 (by decide))
    replace k8 := t8.blk k8 (c7.ne k8 (by decide))
    replace hx := t8.ext hx (fun q e1 => by have := (b7.out q e1).1; have := sz3.out; have := lw.out; omega)
    clear t8 c7 c9
    have m0 : ¬ ((1 : Int) + vs.length < 0) := by omega
    obtain ⟨f0, f1, f2, f3⟩ := k5.four
    obtain ⟨e0, e1, e2, e3⟩ := k8.four
    go_wp2_with (fail)
    (with_reducible refine (laws_eqTable A C _ _ _ _ F G _ o81.ints o82.ints o51.ints o52.ints).mono ?_)
    rintro e w9 ⟨rfl, x9⟩
    clear f0 f1 f2 f3 e0 e1 e2 e3
    replace k5 := k5.keep x9
    replace k8 := k8.keep x9
    replace o51 := o51.keep x9
    replace o52 := o52.keep x9
    replace o81 := o81.keep x9
    replace o82 := o82.keep x9
    replace hx := hx.trans x9
    clear x9
    obtain ⟨e0, e1, e2, e3⟩ := k8.four
    have B81 := Kept.mk o81.block
    have B82 := Kept.mk o82.block
    go_wp2_with (fail)
    (with_reducible refine (laws_markTable _ A C _ _ F G 1 _ o81 o82 HD8.out (by omega) (by have := NB.out; omega)).mono ?_)
    rintro e w10 ⟨rfl, q81, q82, t10⟩
    clear e0 e1 e2 e3
    replace o51 := t10.own o51 (fun q e1 e2 => by have := (B81.out q e1).1; have := (b51.out q e2).2; have := sz4.out; omega) (fun q e1 e2 => by have := (B82.out q e1).1; have := (b51.out q e2).2; have := sz4.out; omega)
    replace o52 := t10.own o52 (fun q e1 e2 => by have := (B81.out q e1).1; have := (b52.out q e2).2; have := sz4.out; omega) (fun q e1 e2 => by have := (B82.out q e1).1; have := (b52.out q e2).2; have := sz4.out; omega)
    replace k5 := t10.blk k5 (o81.ne k5 (by decide)) (o82.ne k5 (by decide))
    replace k8 := t10.blk k8 (o81.ne k8 (by decide)) (o82.ne k8 (by decide))
    replace hx := t10.ext hx (fun q e1 => by have := (B81.out q e1).1; have := sz4.out; have := lw.out; omega) (fun q e1 => by have := (B82.out q e1).1; have := sz4.out; have := lw.out; omega)
    clear t10 o81 o82
    obtain ⟨e0, e1, e2, e3⟩ := k8.four
    go_wp2_with (fail)
    (with_reducible refine (laws_heldTable A C _ _ F.length G.length 1 _ q81.ints q82.ints (by omega) (by have := NB.out; omega)).mono ?_)
    rintro e w11 ⟨rfl, x11⟩
    clear e0 e1 e2 e3
    replace k5 := k5.keep x11
    replace k8 := k8.keep x11
    replace o51 := o51.keep x11
    replace o52 := o52.keep x11
    replace q81 := q81.keep x11
    replace q82 := q82.keep x11
    replace hx := hx.trans x11
    clear x11
    have m1 : ¬ ((1 : Int) + F.length + G.length < 0) := by omega
    go_wp2_with (fail)
    (with_reducible refine (laws_toIntS _ vs _ (HV.out.keep hx) HL.out).mono ?_)
    rintro e w12 ⟨u9, rfl, c9, x12⟩
    replace k5 := k5.keep x12
    replace k8 := k8.keep x12
    replace o51 := o51.keep x12
    replace o52 := o52.keep x12
    replace q81 := q81.keep x12
    replace q82 := q82.keep x12
    replace hx := hx.trans x12
    clear x12
    go_wp2_with (fail)
    (with_reducible refine (MI.out _ _ c9.ints).mono ?_)
    rintro e w13 ⟨v1, v2, rfl, o131, o132, hd13, x13⟩
    clear c9 hd13
    replace k5 := k5.keep x13
    replace k8 := k8.keep x13
    replace o51 := o51.keep x13
    replace o52 := o52.keep x13
    replace q81 := q81.keep x13
    replace q82 := q82.keep x13
    replace hx := hx.trans x13
    clear x13
    obtain ⟨p131, m131, hh, -, -⟩ := id o131.ints
    subst hh
    obtain ⟨p132, m132, hh, -, -⟩ := id o132.ints
    subst hh
    have ne5 : w2.heap.size ≠ w13.heap.size := by have := k5.lt; omega
    have ne8 : w4.heap.size ≠ w13.heap.size := by have := k8.lt; omega
    have k13 := Blk.new w13 #[.int .i64 A, .int .i64 C, .slice p131 F.length m131, .slice p132 G.length m132] 39
    have xa := (Ext.refl w13).alloc (.cells #[.int .i64 A, .int .i64 C, .slice p131 F.length m131, .slice p132 G.length m132] 39)
    replace k5 := k5.keep xa
    replace k8 := k8.keep xa
    replace o51 := o51.keep xa
    replace o52 := o52.keep xa
    replace q81 := q81.keep xa
    replace q82 := q82.keep xa
    replace o131 := o131.keep xa
    replace o132 := o132.keep xa
    replace hx := hx.trans xa
    clear xa
    obtain ⟨f0, f1, f2, f3⟩ := k5.four
    obtain ⟨d0, d1, d2, d3⟩ := k13.four
    go_wp2_with (fail)
    (with_reducible refine (laws_eqTable A C _ _ _ _ F G _ o131.ints o132.ints o51.ints o52.ints).mono ?_)
    rintro e w14 ⟨rfl, x14⟩
    clear f0 f1 f2 f3 d0 d1 d2 d3 o131 o132 k13
    replace k5 := k5.keep x14
    replace k8 := k8.keep x14
    replace o51 := o51.keep x14
    replace o52 := o52.keep x14
    replace q81 := q81.keep x14
    replace q82 := q82.keep x14
    replace hx := hx.trans x14
    clear x14
    obtain ⟨e0, e1, e2, e3⟩ := k8.four
    go_wp2_with (fail)
    (with_reducible refine (laws_heldTable A C _ _ F.length G.length 1 _ q81.ints q82.ints (by omega) (by have := NB.out; omega)).mono ?_)
    rintro e w15 ⟨rfl, x15⟩
    go_wp2
    go_ret
    exact ⟨rfl, hx.trans x15⟩
  · have hg : (1048576 : Int) < vs.length := by omega
    clear hl
    go_enter Try.func13, Try.ntmps13
    go_wp2_with (fail)
    go_ret
    exact ⟨rfl, Ext.refl _⟩
theorem iadd_at (b o i : Nat) : (⟨b, o, none⟩ : Addr).add i = ⟨b, o + i, none⟩ := by
  unfold Addr.add; by_cases h : i = 0
  · subst h; rfl
  · rw [if_neg h]
theorem icell_lt {w : World} {b o : Nat} {v : Value} (h : w.cell? ⟨b, o, none⟩ = some v) : b < w.heap.size := by
  apply Classical.byContradiction
  intro hn
  have : w.heap[b]? = none := by simp; omega
  simp [World.cell?, this] at h
theorem ints_of {H : Type} {enc : TypeId × Value → H} {w : World} {base : Nat} {spare : Nat → Bool} {held : Bool} {fuel : Nat} {c : Value} {x : DataW H × List MemPlace}
    (h : DataW.trod enc Try.prog w base spare held fuel 32 [c] = some x) : ∃ xs, Ints w c xs := by
  rcases open_ints Try.underlying32 Try.underlying3 (by kernel_rfl) h with ⟨hcs, _⟩ | ⟨y, l, cp, zs, hcs, _, hl, hm, hz, _, hcell, hwz⟩
  · simp at hcs
    subst hcs
    exact ⟨[], none, 0, rfl, Nat.zero_le _, fun i hi => absurd hi (Nat.not_lt_zero _)⟩
  · simp at hcs
    subst hcs
    have hz' : l ≤ zs.length := by rw [hz]; split <;> omega
    have hlen : (zs.take l).length = l := by rw [List.length_take]; omega
    refine ⟨zs.take l, some y, cp, by rw [hlen], by rw [hlen]; omega, fun i hi => ?_⟩
    rw [hlen] at hi
    have hci := hcell i (by omega)
    obtain ⟨b, off, spot⟩ := y
    have hspot : spot = none := by
      have h0 := hcell 0 (by omega)
      simpa [Addr.add] using World.cell?_spot h0
    subst hspot
    rw [iadd_at] at hci
    refine ⟨b, off, rfl, icell_lt hci, ?_⟩
    rw [hci]
    have h1 : i < zs.length := by omega
    simp [hi, h1]

set_option maxRecDepth 100000 in
theorem lifted_FnExactMakeTable (os : Os) (started : os.Started) (H : Type) (enc : TypeId × Value → H) :
    ReturnsInHanded {} Try.checked os 13 .any (Rows.fnExactMakeTableSpec.pre6 enc Try.prog Try.f13 Rows.fnExactMakeTableRow.domain false) (Rows.fnExactMakeTableSpec.post enc Try.prog Try.f13 false true false false) := by
  refine returnsInHanded_of_change (C := Try.checked) own started (by kernel_rfl) Try.func13
    (ChangeSpec.witness6 (enc := enc) (C := Try.checked) false ⟨#[], #[.slice none 0 0, .int .i64 0], []⟩ 8 (by kernel_rfl) (by kernel_rfl) (by kernel_rfl) (by kernel_rfl)) ?_
  intro W base args ds gs before hval0 hW hcnd _
  have hval : ∀ (j : Nat) t v, Try.f13.params[j]? = some t → args[j]? = some v → Value.okWide Try.prog W .any base t v := hval0
  have hW' := hW
  obtain ⟨p, q, hA0, hV, rfl, hfz, hnd⟩ := hW
  have hA : DataW.TrodAll enc Try.prog W 0 (fun _ => true) true Try.f13.params.toList args.toList ds p := hA0
  rw [Try.params13] at hA hval
  obtain ⟨v0, vs0, d0, ds0, p0, q0, hargs, rfl, rfl, h0, r0⟩ := trodAll_cons hA
  obtain ⟨v1, vs1, d1, ds1, p1, q1, rfl, rfl, rfl, h1, r1⟩ := trodAll_cons r0
  obtain ⟨rfl, rfl, rfl⟩ := trodAll_nil r1
  obtain rfl : args = #[v0, v1] := by cases args; simp_all
  obtain ⟨rfl, rfl⟩ := trodVars_none hV
  have k0 := h0
  have lt0 : ∀ x ∈ p0, x.block < W.heap.size := by obtain ⟨m, hm⟩ := k0; exact DataW.trod_lt m _ _ _ hm
  obtain ⟨sa0, sl0, sc0, rfl⟩ := okWide_slice Try.underlying32 (hval 0 32 v0 rfl rfl)
  obtain ⟨fu0, hf0⟩ := h0
  obtain ⟨xs0, ix0⟩ := ints_of (by simpa [Value.cells] using hf0)
  have k1 := h1
  have lt1 : ∀ x ∈ p1, x.block < W.heap.size := by obtain ⟨m, hm⟩ := k1; exact DataW.trod_lt m _ _ _ hm
  obtain ⟨a1, rfl, rfl, rfl, w1⟩ := open_int Try.underlying3 (hval 1 3 v1 rfl rfl) h1
  clear hA0 hval0
  refine (walk_FnExactMakeTable (.slice sa0 sl0 sc0) xs0 a1 W ix0).mono fun e W' ⟨he, bel⟩ => ?_
  subst he
  exact ⟨_, rfl, _, _, _, [], _, [], hW', trodAll_mk1 (shut_bool Try.underlying4 _), (trodAll_cons_mk (Below.trod laidOut (by kernel_rfl) (of_decide_eq_true (by kernel_rfl)) k0 bel lt0) (trodAll_cons_mk (shut_int Try.underlying3 w1) trodAll_mk0)), rfl, Below.frame bel _, fun h => by cases h⟩
theorem proved_FnExactMakeTable : Rows.FnExactMakeTableSaid :=
  OpenClaim.holds_of_wide 13 Try.f13 rfl rfl rfl rfl rfl rfl rfl ⟨rfl, rfl, rfl, rfl, rfl⟩ rfl rfl rfl rfl rfl (by kernel_rfl) Try.func13 (by kernel_rfl)
    (of_decide_eq_true (by kernel_rfl)) (by unfold Func.isWrapper; rw [if_neg (of_decide_eq_false (by kernel_rfl))]; exact ⟨rfl, rfl⟩)
    (fun os started H enc _ => lifted_FnExactMakeTable os started H enc)
#print axioms proved_FnExactMakeTable

end Go.Proofs.Ytnblocljjljebaa
