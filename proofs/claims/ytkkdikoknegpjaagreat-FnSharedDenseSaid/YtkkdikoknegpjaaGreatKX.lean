import Derived.Deep.Cut
import Derived.Test.YtkkdikoknegpjaaGreatKG
import Derived.Test.YtkkdikoknegpjaaGreatQG
import Derived.Test.YtkkdikoknegpjaaGreatKK
import Derived.Test.YtkkdikoknegpjaaGreatKV
import Derived.Test.YtkkdikoknegpjaaGreatTriT
import Derived.Test.YtkkdikoknegpjaaGreatQE
namespace Go.Proofs.YtkkdikoknegpjaaGreat
set_option linter.unusedSimpArgs false
set_option linter.unusedVariables false
open Go.RowKit
section
variable {g : Option (Nat × Nat)} {w0 w w' : World} {L L1 L2 L3 : List Box} {vs us : List Value} {xs ys : List (List Int)} {r1 r2 r3 : Nat} {T1 T2 T3 : TypeId} {z1 z2 z3 c1 c2 c3 : List Value} {Ts : List TypeId}
theorem St.rest3 (S : St g w0 w L vs xs) (D1 : Del L r1 T1 z1 L1) (D2 : Del L1 r2 T2 z2 L2) (D3 : Del L2 r3 T3 z3 L3) (f : XS w.heap.size [r1, r2, r3] Ts w w') : St g w0 w' L3 vs xs := by
 have S3 := S.boxes (D3.sub.trans (D2.sub.trans D1.sub))
 refine S3.xs f (fun r hr => ?_) (fun p hp hr => ?_) (fun v hv q hq hr => ?_)
 ·simp only [List.mem_cons, List.not_mem_nil, or_false] at hr
  rcases hr with rfl | rfl | rfl
  ·exact (S.box _ D1.mem).2
  ·exact (S.box _ (D1.sub.subset D2.mem)).2
  exact (S.box _ ((D2.sub.trans D1.sub).subset D3.mem)).2
 ·simp only [List.mem_cons, List.not_mem_nil, or_false] at hr
  rcases hr with h | h | h
  ·exact D1.ne S.dis p ((D3.sub.trans D2.sub).subset hp) h
  ·exact D2.ne (S.dis.sublist D1.sub) p (D3.sub.subset hp) h
  exact D3.ne (S.dis.sublist (D2.sub.trans D1.sub)) p hp h
 simp only [List.mem_cons, List.not_mem_nil, or_false] at hr
 rcases hr with h | h | h
 ·exact S.sep _ D1.mem v hv (by rw [hq, h])
 ·exact S.sep _ (D1.sub.subset D2.mem) v hv (by rw [hq, h])
 exact S.sep _ ((D2.sub.trans D1.sub).subset D3.mem) v hv (by rw [hq, h])
theorem St.fill3 (S : St g w0 w L vs xs) (D1 : Del L r1 T1 z1 L1) (D2 : Del L1 r2 T2 z2 L2) (D3 : Del L2 r3 T3 z3 L3) (f : XS w.heap.size [r1, r2, r3] Ts w w') (k : Grp w.heap.size w' us ys) (k1 : Blk w' r1 c1.toArray T1) (k2 : Blk w' r2 c2.toArray T2) (k3 : Blk w' r3 c3.toArray T3) :
 St g w0 w' (⟨r1, T1, c1⟩ :: ⟨r2, T2, c2⟩ :: ⟨r3, T3, c3⟩ :: L3) (us ++ vs) (ys ++ xs) := by
 have R := S.rest3 D1 D2 D3 f
 have S3 := S.boxes (D3.sub.trans (D2.sub.trans D1.sub))
 have G : St g w0 w' L3 (us ++ vs) (ys ++ xs) := S3.grow R [] (fun _ h => by cases h) List.Pairwise.nil k (fun _ h => by cases h)
 have m1 := D1.mem
 have m2 := D1.sub.subset D2.mem
 have m3 := (D2.sub.trans D1.sub).subset D3.mem
 have sp : ∀ p ∈ L, ∀ v ∈ us ++ vs, v.ownBlock ≠ some p.b := fun p hp v hv e => by
  rcases List.mem_append.1 hv with h | h
  ·have a := (k.own.block v h _ e).1
   have b := (S.box p hp).1.lt
   omega
  exact S.sep p hp v h e
 have J3 := G.join k3 (S.box _ m3).2 (fun p hp => D3.ne (S.dis.sublist (D2.sub.trans D1.sub)) p hp) (sp _ m3)
 have J2 := J3.join k2 (S.box _ m2).2 (fun p hp => by
  rcases List.mem_cons.1 hp with e | e
  ·rw [e]; have q := D2.ne (S.dis.sublist D1.sub) _ D3.mem; exact q
  exact D2.ne (S.dis.sublist D1.sub) p (D3.sub.subset e)) (sp _ m2)
 exact J2.join k1 (S.box _ m1).2 (fun p hp => by
  rcases List.mem_cons.1 hp with e | e
  ·rw [e]; have q := D1.ne S.dis _ D2.mem; exact q
  rcases List.mem_cons.1 e with e | e
  ·rw [e]; have q := D1.ne S.dis _ (D2.sub.subset D3.mem); exact q
  exact D1.ne S.dis p ((D3.sub.trans D2.sub).subset e)) (sp _ m1)
end
theorem Grp.zero4 (B : Nat) (w : World) : Grp B w [.slice none 0 0, .slice none 0 0, .slice none 0 0, .slice none 0 0] [[], [], [], []] :=
 ⟨⟨Own.nil _ _, Own.nil _ _, Own.nil _ _, Own.nil _ _, trivial⟩, by have a : Apt (.slice none 0 0) (.slice none 0 0) := Apt.nil _ _ rfl; simp [a]⟩
def MulP4 (a b d e : Mat) (ok : Bool) (w : World) (x : Ending) (w' : World) : Prop :=
 ∃ v0 v1 v2 v3, x = .returned (.tuple #[.agg #[.int .i64 a.r, .int .i64 a.c, v0, .int .i64 b.r, .int .i64 b.c, v1], .agg #[.int .i64 d.r, .int .i64 d.c, v2], .agg #[.int .i64 e.r, .int .i64 e.c, v3], .bool ok]) ∧ Grp w.heap.size w' [v0, v1, v2, v3] [a.xs, b.xs, d.xs, e.xs] ∧ Ext w w'
def MulPost (x y : ShM) (t : TrM) (w : World) : Ending → World → Prop := MulP4 (mulSh x y t).f (mulSh x y t).s (mulShD x y t) (mulShE x y t) (mulShOk x y t) w
theorem MulPost_bad {x y : ShM} {t : TrM} (h : mulShOk x y t = false) (w : World) : MulPost x y t w = MulP4 matZ matZ matZ matZ false w := by
 unfold MulPost mulSh mulShD mulShE; rw [h]; rfl
theorem MulPost_ok {x y : ShM} {t : TrM} (h : mulShOk x y t = true) (w : World) : MulPost x y t w = MulP4 (mulShF x y t) (mulShS x y t) (opD x t.a) (opD y t.b) true w := by
 unfold MulPost mulSh mulShD mulShE; rw [h]; rfl
def bs3 {n0 : Nat} (r0 c0 r1 c1 r2 c2 : Int) (x0 x1 x2 : List Int) : OpSpec Ext n0 := ⟨[], fun _ u lo _ w => ∃ v0 v1 v2, u = .slice (some ⟨lo, 0, none⟩) 3 3 ∧ Blk w lo #[.int .i64 r0, .int .i64 c0, v0, .int .i64 r1, .int .i64 c1, v1, .int .i64 r2, .int .i64 c2, v2] 28 ∧ Ints w v0 x0 ∧ Ints w v1 x1 ∧ Ints w v2 x2,
 fun _ _ _ _ _ _ _ _ _ hx ⟨v0, v1, v2, h, k, a, b, c⟩ => ⟨v0, v1, v2, h, k.keep hx, a.keep hx, b.keep hx, c.keep hx⟩⟩
def matU {n0 m : Nat} {rs : List Nat} {Ts : List TypeId} (hT : 3 ∉ Ts) (r c r' c' : Int) (s : Value) (xs : List Int) : OpSpec (XS n0 rs Ts) m :=
 ⟨[], fun _ u _ _ w => ∃ v, u = .agg #[.int .i64 r, .int .i64 c, v, .int .i64 r', .int .i64 c', s] ∧ Own n0 w v xs, fun _ _ _ _ _ _ _ _ _ hx ⟨v, h1, h2⟩ => ⟨v, h1, h2.xs hx (Nat.le_refl _) hT⟩⟩
def bs2 {n0 : Nat} (r0 c0 r1 c1 : Int) (x0 x1 : List Int) : OpSpec Ext n0 := ⟨[], fun _ u lo _ w => ∃ v0 v1, u = .slice (some ⟨lo, 0, none⟩) 2 2 ∧ Blk w lo #[.int .i64 r0, .int .i64 c0, v0, .int .i64 r1, .int .i64 c1, v1] 28 ∧ Ints w v0 x0 ∧ Ints w v1 x1,
 fun _ _ _ _ _ _ _ _ _ hx ⟨v0, v1, h, k, a, b⟩ => ⟨v0, v1, h, k.keep hx, a.keep hx, b.keep hx⟩⟩
set_option maxHeartbeats 2000000 in
set_option maxRecDepth 4000 in
theorem spec_l1OwnMatrixTriple (r0 c0 r1 c1 r2 c2 r3 c3 r4 c4 r5 c5 : Int) (v0 v1 v2 v3 v4 v5 : Value) (x0 x1 x2 x3 x4 x5 : List Int) (w : World) (h0 : Arg w v0 x0) (h1 : Arg w v1 x1) (h2 : Arg w v2 x2) (h3 : Arg w v3 x3) (h4 : Arg w v4 x4) (h5 : Arg w v5 x5) : Calls Tryz.prog 80 #[.agg #[.int .i64 r0, .int .i64 c0, v0, .int .i64 r1, .int .i64 c1, v1, .int .i64 r2, .int .i64 c2, v2, .int .i64 r3, .int .i64 c3, v3, .int .i64 r4, .int .i64 c4, v4, .int .i64 r5, .int .i64 c5, v5]] w (TrGrp r0 c0 r1 c1 r2 c2 r3 c3 r4 c4 r5 c5 x0 x1 x2 x3 x4 x5 w) := by
 obtain ⟨s0, n0, rfl, hm9, hc9⟩ := id h0.ints
 clear hm9 hc9
 have H0 := kp h0
 clear h0
 obtain ⟨s1, n1, rfl, hm9, hc9⟩ := id h1.ints
 clear hm9 hc9
 have H1 := kp h1
 clear h1
 obtain ⟨s2, n2, rfl, hm9, hc9⟩ := id h2.ints
 clear hm9 hc9
 have H2 := kp h2
 clear h2
 obtain ⟨s3, n3, rfl, hm9, hc9⟩ := id h3.ints
 clear hm9 hc9
 have H3 := kp h3
 clear h3
 obtain ⟨s4, n4, rfl, hm9, hc9⟩ := id h4.ints
 clear hm9 hc9
 have H4 := kp h4
 clear h4
 obtain ⟨s5, n5, rfl, hm9, hc9⟩ := id h5.ints
 clear hm9 hc9
 have H5 := kp h5
 clear h5
 have O0 := kp (fun (w' : World) (hx : Ext w w') => spec_l1OwnSharedMatrix r0 c0 r1 c1 _ _ x0 x1 w' (H0.out.keep hx) (H1.out.keep hx))
 have O1 := kp (fun (w' : World) (hx : Ext w w') => spec_l1OwnSharedMatrix r2 c2 r3 c3 _ _ x2 x3 w' (H2.out.keep hx) (H3.out.keep hx))
 have O2 := kp (fun (w' : World) (hx : Ext w w') => spec_l1OwnSharedMatrix r4 c4 r5 c5 _ _ x4 x5 w' (H4.out.keep hx) (H5.out.keep hx))
 have S := kp (St.start w)
 go_enter Tryz.func80, Tryz.ntmps80
 go_wp2_with (first | (refine ldiS S.o ?_) | (refine ldiT S.o ?_) | (refine stiS S.o ?_; clear S; intro w9 S) | (refine stiT S.o ?_; clear S; intro w9 S) | (refine aliT S.o ?_; clear S; intro b9 w9 S) | (refine bxiT S.o ?_; clear S; intro b9 w9 S) | fail)
 have o := fun w' hx => (O0.out w' hx).mono fun e w'' h => ShPost.grp (m := ⟨⟨r0, c0, x0⟩, ⟨r1, c1, x1⟩⟩) h
 unfold ShGrp at o
 have o := kp o
 (with_reducible refine (o.out _ S.o.ext).mono ?_)
 rintro e u9 ⟨u0, u1, rfl, gg, x9⟩
 clear o
 obtain ⟨p0, m0, hu9, -, -⟩ := id gg.o0.ints
 try simp only at hu9
 subst hu9
 obtain ⟨p1, m1, hu9, -, -⟩ := id gg.o1.ints
 try simp only at hu9
 subst hu9
 replace S := kp (S.o.made2 gg x9)
 clear gg x9
 go_wp2_with (first | (refine ldiS S.o ?_) | (refine ldiT S.o ?_) | (refine stiS S.o ?_; clear S; intro w9 S) | (refine stiT S.o ?_; clear S; intro w9 S) | (refine aliT S.o ?_; clear S; intro b9 w9 S) | (refine bxiT S.o ?_; clear S; intro b9 w9 S) | fail)
 have o := fun w' hx => (O1.out w' hx).mono fun e w'' h => ShPost.grp (m := ⟨⟨r2, c2, x2⟩, ⟨r3, c3, x3⟩⟩) h
 unfold ShGrp at o
 have o := kp o
 (with_reducible refine (o.out _ S.o.ext).mono ?_)
 rintro e u9 ⟨u2, u3, rfl, gg, x9⟩
 clear o
 obtain ⟨p2, m2, hu9, -, -⟩ := id gg.o0.ints
 try simp only at hu9
 subst hu9
 obtain ⟨p3, m3, hu9, -, -⟩ := id gg.o1.ints
 try simp only at hu9
 subst hu9
 replace S := kp (S.o.made2 gg x9)
 clear gg x9
 go_wp2_with (first | (refine ldiS S.o ?_) | (refine ldiT S.o ?_) | (refine stiS S.o ?_; clear S; intro w9 S) | (refine stiT S.o ?_; clear S; intro w9 S) | (refine aliT S.o ?_; clear S; intro b9 w9 S) | (refine bxiT S.o ?_; clear S; intro b9 w9 S) | fail)
 have o := fun w' hx => (O2.out w' hx).mono fun e w'' h => ShPost.grp (m := ⟨⟨r4, c4, x4⟩, ⟨r5, c5, x5⟩⟩) h
 unfold ShGrp at o
 have o := kp o
 (with_reducible refine (o.out _ S.o.ext).mono ?_)
 rintro e u9 ⟨u4, u5, rfl, gg, x9⟩
 clear o
 obtain ⟨p4, m4, hu9, -, -⟩ := id gg.o0.ints
 try simp only at hu9
 subst hu9
 obtain ⟨p5, m5, hu9, -, -⟩ := id gg.o1.ints
 try simp only at hu9
 subst hu9
 replace S := kp (S.o.made2 gg x9)
 clear gg x9
 go_wp2_with (first | (refine ldiS S.o ?_) | (refine ldiT S.o ?_) | (refine stiS S.o ?_; clear S; intro w9 S) | (refine stiT S.o ?_; clear S; intro w9 S) | (refine aliT S.o ?_; clear S; intro b9 w9 S) | (refine bxiT S.o ?_; clear S; intro b9 w9 S) | fail)
 have G : Grp w.heap.size _ [.slice p0 x0.length m0, .slice p1 x1.length m1, .slice p2 x2.length m2, .slice p3 x3.length m3, .slice p4 x4.length m4, .slice p5 x5.length m5] [x0, x1, x2, x3, x4, x5] := S.o.grp.swap6
 exact bodyPost_ret (v := .agg #[.int .i64 r0, .int .i64 c0, .slice p0 x0.length m0, .int .i64 r1, .int .i64 c1, .slice p1 x1.length m1, .int .i64 r2, .int .i64 c2, .slice p2 x2.length m2, .int .i64 r3, .int .i64 c3, .slice p3 x3.length m3, .int .i64 r4, .int .i64 c4, .slice p4 x4.length m4, .int .i64 r5, .int .i64 c5, .slice p5 x5.length m5]) (by exact res1 rfl (by exact (rsiT S.o))) rfl ⟨_, _, _, _, _, _, rfl, G, S.o.ext⟩
def pdOk (x y : ShM) (s : Int) : Bool := x.ok && y.ok && decide (x.f.c = y.f.r) && seedOk s
def pdT (x y : ShM) (s : Int) : TrM := tripM x.f.r x.f.c y.f.c s
def pdSh (x y : ShM) (s : Int) : ShM := if pdOk x y s = true then mulSh x y (pdT x y s) else shZ
def pdL (x y : ShM) (s : Int) : List Int := if pdOk x y s = true then (mulShD x y (pdT x y s)).xs ++ (mulShE x y (pdT x y s)).xs else []
def pdS (x y : ShM) (s : Int) : Int := if pdOk x y s = true then tripS x.f.r x.f.c y.f.c s else 0
def ShLN (m : ShM) (l : List Int) (n : Int) (w : World) (e : Ending) (w' : World) : Prop :=
 ∃ v0 v1 v2, e = .returned (.tuple #[.agg #[.int .i64 m.f.r, .int .i64 m.f.c, v0, .int .i64 m.s.r, .int .i64 m.s.c, v1], v2, .int .i64 n]) ∧ Grp w.heap.size w' [v0, v1, v2] [m.f.xs, m.s.xs, l] ∧ Ext w w'
theorem pdSh_bad {x y : ShM} {s : Int} (h : pdOk x y s = false) : pdSh x y s = shZ ∧ pdL x y s = [] ∧ pdS x y s = 0 := by
 refine ⟨?_, ?_, ?_⟩
 ·unfold pdSh; rw [h]; rfl
 ·unfold pdL; rw [h]; rfl
 unfold pdS; rw [h]; rfl
theorem pdSh_ok {x y : ShM} {s : Int} (h : pdOk x y s = true) : pdSh x y s = mulSh x y (pdT x y s) ∧ pdL x y s = (mulShD x y (pdT x y s)).xs ++ (mulShE x y (pdT x y s)).xs ∧ pdS x y s = tripS x.f.r x.f.c y.f.c s := by
 refine ⟨?_, ?_, ?_⟩
 ·unfold pdSh; rw [h]; rfl
 ·unfold pdL; rw [h]; rfl
 unfold pdS; rw [h]; rfl
theorem Grp.zero3 (B : Nat) (w : World) : Grp B w [.slice none 0 0, .slice none 0 0, .slice none 0 0] [[], [], []] :=
 ⟨⟨Own.nil _ _, Own.nil _ _, Own.nil _ _, trivial⟩, by have a : Apt (.slice none 0 0) (.slice none 0 0) := Apt.nil _ _ rfl; simp [a]⟩
theorem mulShD_len (x y : ShM) (t : TrM) : (mulShD x y t).xs.length ≤ 1048576 := by
 unfold mulShD opD
 split
 ·exact pairM_len _ _ _
 exact Nat.zero_le _
theorem mulShE_len (x y : ShM) (t : TrM) : (mulShE x y t).xs.length ≤ 1048576 := by
 unfold mulShE opD
 split
 ·exact pairM_len _ _ _
 exact Nat.zero_le _
theorem Blk.xs {n0 : Nat} {rs : List Nat} {Ts : List TypeId} {w w' : World} {b : Nat} {cs : Array Value} {T : TypeId} (h : Blk w b cs T) (f : XS n0 rs Ts w w') (hb : n0 ≤ b) (hT : T ∉ Ts) : Blk w' b cs T := by
 unfold Blk at h ⊢
 rcases f.block b (Blk.lt h) with e | e | ⟨_, U, ds, ds', hU, e, _⟩
 ·rw [e]; exact h
 ·omega
 rw [h] at e; simp at e; rw [← e.2] at hU; exact absurd hU hT
theorem Grp.zeroE {B g : Nat} {w : World} (hB : B ≤ g) (k : Blk w g #[] 3) : Grp B w [.slice none 0 0, .slice none 0 0, .slice (some ⟨g, 0, none⟩) 0 0] [[], [], []] :=
 ⟨⟨Own.nil _ _, Own.nil _ _, Own.empty hB k (Nat.zero_le _) rfl, trivial⟩, by
  have a : ∀ v, Apt (.slice none 0 0) v := fun v => Apt.nil _ _ rfl
  simp [a]⟩
structure Fre (n0 : Nat) (rs : List Nat) (w w' : World) : Prop where
 os : w'.os = w.os
 tape : w'.tape = w.tape
 output : w'.output = w.output
 size : w.heap.size ≤ w'.heap.size
 block : ∀ k, k < n0 → k < w.heap.size → k ∉ rs → w'.heap[k]? = w.heap[k]?
theorem Fre.of_ext {n0 : Nat} {rs : List Nat} {w w' : World} (h : Ext w w') : Fre n0 rs w w' := ⟨h.os, h.tape, h.output, Ext.size h, fun k _ hk _ => Below.block h k hk⟩
theorem Fre.refl (n0 : Nat) (rs : List Nat) (w : World) : Fre n0 rs w w := Fre.of_ext (Ext.refl w)
theorem Fre.trans {n0 : Nat} {rs : List Nat} {a b c : World} (h : Fre n0 rs a b) (k : Fre n0 rs b c) : Fre n0 rs a c :=
 ⟨k.os.trans h.os, k.tape.trans h.tape, k.output.trans h.output, Nat.le_trans h.size k.size, fun i h0 hi hr => (k.block i h0 (Nat.lt_of_lt_of_le hi h.size) hr).trans (h.block i h0 hi hr)⟩
theorem Fre.rel (n0 : Nat) (rs : List Nat) : WRel (Fre n0 rs) where
 refl := Fre.refl n0 rs
 trans := Fre.trans
 size := Fre.size
 draw := fun w => Fre.of_ext ⟨rfl, rfl, rfl, Nat.le_refl _, fun _ _ => rfl⟩
theorem Fre.turned {n0 : Nat} {rs : List Nat} {v : Value} {w w' : World} (t : Turned v w w') (hv : ∀ q, v.ownBlock = some q → n0 ≤ q) : Fre n0 rs w w' :=
 ⟨t.os, t.tape, t.output, t.size, fun k h0 hk _ => t.block k hk (fun e => by have := hv k e; omega)⟩
theorem St.fre1 {g : Option (Nat × Nat)} {w0 w w' : World} {L : List Box} {vs : List Value} {xs : List (List Int)} {r : Nat} {T : TypeId} {z : List Value} (S : St g w0 w L vs xs) (A : Alone w0 w L vs r T z) (f : Fre w.heap.size [r] w w') : St g w0 w' L vs xs := by
 have hlow : ∀ q, q < w0.heap.size → w'.heap[q]? = w.heap[q]? := fun q hq => f.block q (by have := S.size; omega) (by have := S.size; omega) (fun h => by have := A.low; rw [List.mem_singleton.1 h] at hq; omega)
 refine ⟨Chg.mk' (f.os.trans S.chg.os) (f.tape.trans S.chg.tape) (f.output.trans S.chg.output) (Nat.le_trans S.size f.size) (fun q hq hn => (hlow q hq).trans (S.chg.block q hq hn)), fun q n e => ⟨(S.rd q n e).1, (S.rd q n e).2.low (S.rd q n e).1 hlow⟩, fun p hp => ⟨?_, (S.box p hp).2⟩, S.dis, S.sep, S.grp.blocks fun v h q hq => f.block q (S.grp.own.block v h q hq).2 (S.grp.own.block v h q hq).2 (fun hr => A.sep v h (by rw [hq, List.mem_singleton.1 hr]))⟩
 have k := (S.box p hp).1
 unfold Blk; rw [f.block p.b k.lt k.lt (fun hr => A.dis p hp (List.mem_singleton.1 hr))]; exact k
theorem St.fillF {g : Option (Nat × Nat)} {w0 w w' : World} {L : List Box} {vs us : List Value} {xs ys : List (List Int)} {r : Nat} {T : TypeId} {z cs : List Value} (S : St g w0 w L vs xs) (A : Alone w0 w L vs r T z) (f : Fre w.heap.size [r] w w') (k : Grp w.heap.size w' us ys) (kb : Blk w' r cs.toArray T) : St g w0 w' (⟨r, T, cs⟩ :: L) (us ++ vs) (ys ++ xs) := by
 have G := S.grow (S.fre1 A f) [] (fun _ h => by cases h) List.Pairwise.nil k (fun _ h => by cases h)
 refine G.join kb A.low A.dis (fun v hv => ?_)
 rcases List.mem_append.1 hv with h | h
 ·intro e
  have h1 := (k.own.block v h r e).1
  have h2 := A.blk.lt
  omega
 exact A.sep v h
theorem wpList_putF {n0 : Nat} {rs : List Nat} {P : Program} {ops : Array Oper} {o : Oper} {a : Act} {w : World} {G : Value → World → Prop} {T : TypeId} (hgd : o.guard = none) (hno : o.dst = none) (x y : Operand) (ho : o.op = .store T x y)
 (b : Nat) (cells old : Array Value) (hx : a.eval x = .pointer (some ⟨b, 0, none⟩)) (hy : a.eval y = .agg cells) (hg : Blk w b old T) (hi : (P.info? T).map (·.size) = some cells.size)
 (hold : old.size = cells.size) (h1 : cells.all (·.oneCell') = true) (hb : b ∈ rs)
 (h : ∀ w', Fre n0 rs w w' → Blk w' b cells T → (∀ k, k ≠ b → w'.heap[k]? = w.heap[k]?) → w'.heap.size = w.heap.size → ∀ u, G u w') : wpList P ops (StepS a o.dst G) [o] a w := by
 refine wpList_store_row hgd T x y ho b cells hx hy T old hg hi hold h1 ?_
 have hoth : ∀ k, k ≠ b → (w.setRow b cells).heap[k]? = w.heap[k]? := fun k hk => setRow_other w b k cells hk
 have kb : Blk (w.setRow b cells) b cells T := hg.set cells
 unfold wpList
 rw [hno]
 exact stepS_none rfl (h _ ⟨rfl, rfl, rfl, by simp [World.setRow], fun k _ _ hr => hoth k (fun e => hr (by rw [e]; exact hb))⟩ kb hoth (by simp [World.setRow]))
def lstV {n0 m : Nat} {rs : List Nat} {Ts : List TypeId} (hT : 3 ∉ Ts) (xs : List Int) : OpSpec (XS n0 rs Ts) m :=
 ⟨[], fun _ u _ _ w => Own n0 w u xs, fun _ _ _ _ _ _ _ _ _ hx h => h.xs hx (Nat.le_refl _) hT⟩
def twoV {n0 m : Nat} {rs : List Nat} {Ts : List TypeId} (hT : 22 ∉ Ts) (a b : Value) : OpSpec (XS n0 rs Ts) m :=
 ⟨[], fun _ u _ _ w => ∃ g, u = .slice (some ⟨g, 0, none⟩) 2 2 ∧ n0 ≤ g ∧ Blk w g #[a, b] 22, fun _ _ _ _ _ _ _ _ _ hx ⟨g, h1, h2, h3⟩ => ⟨g, h1, h2, h3.xs hx h2 hT⟩⟩
end Go.Proofs.YtkkdikoknegpjaaGreat
