import Derived.Test.YtkkdikoknegpjaaGreatQD
import Derived.Test.YtkkdikoknegpjaaGreatMapI
import Derived.Test.YtkkdikoknegpjaaGreatProdI
namespace Go.Proofs.YtkkdikoknegpjaaGreat
set_option linter.unusedSimpArgs false
set_option linter.unusedVariables false
open Go.RowKit
def resE {n0 : Nat} (fr fc sr sc N : Int) (fs ss ls : List Int) : OpSpec Ext n0 :=
 ⟨[], fun _ u lo _ w => ∃ v0 v1 v2, u = .tuple #[.agg #[.int .i64 fr, .int .i64 fc, v0, .int .i64 sr, .int .i64 sc, v1], v2, .int .i64 N] ∧ Grp lo w [v0, v1, v2] [fs, ss, ls], fun _ _ _ _ _ _ _ _ _ hx ⟨v0, v1, v2, h1, h2⟩ => ⟨v0, v1, v2, h1, h2.keep hx⟩⟩
set_option maxHeartbeats 4000000 in
set_option maxRecDepth 4000 in
theorem impl_look {w0 w : World} (b : Nat) (F : List Value → List Box) (hF : ∀ cs cs', Put (F cs) b 57 cs cs' (F cs')) (q : Int) {p : Option Addr} {n m : Nat} {vs : List Value} {xs : List (List Int)} (S0 : St none w0 w (F [.int .i64 q, .slice p n m]) vs xs) (i : Nat) {x : List Int} (hi1 : vs[i]? = some (.slice p n m)) (hi2 : xs[i]? = some x) (hn : x.length = n) (k r0 c0 r1 c1 : Int) (v0 v1 : Value) (x0 x1 : List Int) (h0 : Ints w v0 x0) (h1 : Ints w v1 x1) (hl : n + (mpO k ⟨⟨r0, c0, x0⟩, ⟨r1, c1, x1⟩⟩ q).length ≤ 1099511627776) :
 Calls Tryz.prog 65 #[.pointer (some ⟨b, 0, none⟩), .int .i64 k, .agg #[.int .i64 r0, .int .i64 c0, v0, .int .i64 r1, .int .i64 c1, v1]] w fun e w' => ∃ a0 a1 p' m', e = .returned (.agg #[.int .i64 (mpSh k ⟨⟨r0, c0, x0⟩, ⟨r1, c1, x1⟩⟩ q).f.r, .int .i64 (mpSh k ⟨⟨r0, c0, x0⟩, ⟨r1, c1, x1⟩⟩ q).f.c, a0, .int .i64 (mpSh k ⟨⟨r0, c0, x0⟩, ⟨r1, c1, x1⟩⟩ q).s.r, .int .i64 (mpSh k ⟨⟨r0, c0, x0⟩, ⟨r1, c1, x1⟩⟩ q).s.c, a1]) ∧
  St none w0 w' (F [.int .i64 (mpS k ⟨⟨r0, c0, x0⟩, ⟨r1, c1, x1⟩⟩ q), .slice p' (n + (mpO k ⟨⟨r0, c0, x0⟩, ⟨r1, c1, x1⟩⟩ q).length) m']) (a0 :: a1 :: vs.set i (.slice p' (n + (mpO k ⟨⟨r0, c0, x0⟩, ⟨r1, c1, x1⟩⟩ q).length) m')) ((mpSh k ⟨⟨r0, c0, x0⟩, ⟨r1, c1, x1⟩⟩ q).f.xs :: (mpSh k ⟨⟨r0, c0, x0⟩, ⟨r1, c1, x1⟩⟩ q).s.xs :: xs.set i (x ++ mpO k ⟨⟨r0, c0, x0⟩, ⟨r1, c1, x1⟩⟩ q)) := by
 have MS := kp (fun (v0 v1 : Value) (w' : World) (h0 : Ints w' v0 x0) (h1 : Ints w' v1 x1) => impl_MapShared k r0 c0 r1 c1 v0 v1 x0 x1 q w' h0 h1)
 unfold ShLN at MS
 generalize mpSh k ⟨⟨r0, c0, x0⟩, ⟨r1, c1, x1⟩⟩ q = DM at *
 generalize mpO k ⟨⟨r0, c0, x0⟩, ⟨r1, c1, x1⟩⟩ q = ls at *
 generalize mpS k ⟨⟨r0, c0, x0⟩, ⟨r1, c1, x1⟩⟩ q = N at *
 obtain ⟨⟨fr, fc, fs⟩, ⟨sr, sc, ss⟩⟩ := DM
 simp only at MS ⊢
 obtain ⟨s0, n0, rfl, hm9, hc9⟩ := id h0
 clear hm9 hc9
 have H0 := kp h0
 clear h0
 obtain ⟨s1, n1, rfl, hm9, hc9⟩ := id h1
 clear hm9 hc9
 have H1 := kp h1
 clear h1
 have HX := kp (Ext.refl w)
 have S := kp S0
 clear S0
 go_enter Tryz.func65, Tryz.ntmps65
 go_wp2_with (first | (refine bxE S.o HX.out (L := F [.int .i64 q, .slice p n m]) ?_; clear S HX; intro b5 w9 S HX) | (refine alE S.o HX.out (L := ⟨b5, 30, [.int .i64 r0, .int .i64 c0, .slice s0 x0.length n0, .int .i64 r1, .int .i64 c1, .slice s1 x1.length n1]⟩ :: F [.int .i64 q, .slice p n m]) ?_; clear S HX; intro b6 w9 S HX) | fail)
 apply wp_region_zip [isv _, isv _, isv _, isv _, isv _, isv _, isv _, resE fr fc sr sc N fs ss ls, tgetV 7 0, tgetV 7 1, tgetV 7 2] _ (by kernel_rfl)
 case hA => intro V; simp [putAll, dstOf, Act.put]; exact rfl
 case hsl => intro V; exact rfl
 case step =>
  intro V lo up w' hr
  have S := kp (S.o.quiet hr)
  simp only [zipOk, depsImp, isv, resE, tgetV, modeNg, newb, waits, Region.binds, List.map_nil, List.map_cons, List.headD_cons, List.nil_append, List.cons_append, List.filterMap_cons, List.filterMap_nil, ↓reduceIte, modeNe, Bool.false_eq_true, true_implies, List.getD_cons_zero, List.getD_cons_succ, and_true]
  refine ⟨?_, ?_, ?_, ?_, ?_, ?_, ?_, ?_, ?_, ?_, ?_⟩
  ·intros
   (try simp only [*])
   go_wp2_with (first | (refine ldI S.o (v := .int .i64 q) ?_ (hp := Lod.tail (Lod.tail ((hF _ [.int .i64 q, .slice p n m]).lod (.take .done))))) | fail)
   refine sQ ?_
   exact eZ
  ·intros
   (try simp only [*])
   go_wp2_with (first | (refine ldI S.o (v := .int .i64 q) ?_ (hp := Lod.tail (Lod.tail ((hF _ [.int .i64 q, .slice p n m]).lod (.take .done))))) | fail)
   refine sQ ?_
   exact eZ
  ·intros
   (try simp only [*])
   go_wp2_with (first | (refine ldiS S.o ?_) | (refine ldI S.o (v := .int .i64 q) ?_ (hp := Lod.tail (Lod.tail ((hF _ [.int .i64 q, .slice p n m]).lod (.take .done))))) | fail)
   refine sQ ?_
   exact eZ
  ·intros
   (try simp only [*])
   go_wp2_with (first | (refine ldI S.o (v := .int .i64 q) ?_ (hp := Lod.tail (Lod.tail ((hF _ [.int .i64 q, .slice p n m]).lod (.take .done))))) | fail)
   refine sQ ?_
   exact eZ
  ·intros
   (try simp only [*])
   go_wp2_with (first | (refine ldI S.o (v := .int .i64 q) ?_ (hp := Lod.tail (Lod.tail ((hF _ [.int .i64 q, .slice p n m]).lod (.take .done))))) | fail)
   refine sQ ?_
   exact eZ
  ·intros
   (try simp only [*])
   go_wp2_with (first | (refine ldI S.o (v := .int .i64 q) ?_ (hp := Lod.tail (Lod.tail ((hF _ [.int .i64 q, .slice p n m]).lod (.take .done))))) | fail)
   refine sQ ?_
   exact eZ
  ·intros
   (try simp only [*])
   go_wp2_with (first | (refine ldI S.o (v := .int .i64 q) ?_ (hp := Lod.tail (Lod.tail ((hF _ [.int .i64 q, .slice p n m]).lod (.take .done))))) | fail)
   refine sQ ?_
   exact eZ
  ·intros
   (try simp only [*])
   go_wp2_with (fail)
   (with_reducible refine (MS.out _ _ _ (H0.out.keep (HX.out.trans hr)) (H1.out.keep (HX.out.trans hr))).mono ?_)
   rintro e w9 ⟨v0, v1, v2, rfl, gg, x9⟩
   go_wp2
   refine sQ ?_
   exact ⟨x9, v0, v1, v2, rfl, gg⟩
  ·intros
   obtain ⟨v0, v1, v2, e_r, g_r⟩ := ‹∃ z0 z1 z2, V 7 = _ ∧ Grp _ _ _ [fs, ss, ls]›
   (try simp only [*])
   go_wp2_with (fail)
   refine sQ ?_
   exact ⟨Ext.refl _, by (try rw [e_r]); rfl⟩
  ·intros
   obtain ⟨v0, v1, v2, e_r, g_r⟩ := ‹∃ z0 z1 z2, V 7 = _ ∧ Grp _ _ _ [fs, ss, ls]›
   (try simp only [*])
   go_wp2_with (fail)
   refine sQ ?_
   exact ⟨Ext.refl _, by (try rw [e_r]); rfl⟩
  intros
  obtain ⟨v0, v1, v2, e_r, g_r⟩ := ‹∃ z0 z1 z2, V 7 = _ ∧ Grp _ _ _ [fs, ss, ls]›
  (try simp only [*])
  go_wp2_with (fail)
  refine sQ ?_
  exact ⟨Ext.refl _, by (try rw [e_r]); rfl⟩
 case hB => kernel_rfl
 intro V lo up w' hr hf ha
 simp only [factsOk, isv, resE, tgetV, modeNg, newb, List.map_nil, List.map_cons, List.headD_cons, and_true, Nat.zero_add, Nat.reduceAdd] at hf
 simp only [List.length_cons, List.length_nil, Nat.zero_add, Nat.reduceAdd, List.drop_succ_cons, List.drop_zero]
 obtain ⟨⟨-, -, -, eV0⟩, -, -, -, -, -, -, ⟨l7, -, -, v0, v1, v2, e7, g7⟩, ⟨-, -, -, eX0⟩, ⟨-, -, -, eX1⟩, ⟨-, -, -, eX2⟩⟩ := hf
 clear ha
 obtain ⟨pa, ma, hu9, -, -⟩ := id (g7.get 0 rfl rfl).ints
 try simp only at hu9
 subst hu9
 obtain ⟨pb, mb, hu9, -, -⟩ := id (g7.get 1 rfl rfl).ints
 try simp only at hu9
 subst hu9
 obtain ⟨pl, ml, hu9, -, -⟩ := id (g7.get 2 rfl rfl).ints
 try simp only at hu9
 subst hu9
 have eY0 : V 8 = .agg #[.int .i64 fr, .int .i64 fc, .slice pa fs.length ma, .int .i64 sr, .int .i64 sc, .slice pb ss.length mb] := by
  have a := eX0
  rw [e7] at a
  exact a
 have eY1 : V 9 = .slice pl ls.length ml := by
  have a := eX1
  rw [e7] at a
  exact a
 have eY2 : V 10 = .int .i64 N := by
  have a := eX2
  rw [e7] at a
  exact a
 rw [eV0, eY0, eY1, eY2]
 clear eV0 eX0 eX1 eX2 eY0 eY1 eY2 e7
 have S9 := S.o.madeG (g7.mono l7) hr
 simp only [List.cons_append, List.nil_append] at S9
 replace S := kp S9
 clear S9 hr g7
 go_wp2_with (fail)
 (with_reducible refine (impl_take b (fun cs => ⟨b6, 30, [.int .i64 0, .int .i64 0, .slice none 0 0, .int .i64 0, .int .i64 0, .slice none 0 0]⟩ :: ⟨b5, 30, [.int .i64 r0, .int .i64 c0, .slice s0 x0.length n0, .int .i64 r1, .int .i64 c1, .slice s1 x1.length n1]⟩ :: F cs) (fun cs cs' => Put.tail (Put.tail (hF cs cs'))) q S.o (i + 3) (by simpa using hi1) (by simpa using hi2) hn fr fc sr sc pa pb fs.length ma ss.length mb _ ls (S.o.grp.get 2 rfl rfl).ints (S.o.grp.get 2 rfl rfl).nilOk hl N).mono ?_)
 rintro e u9 ⟨p', m', rfl, -, S9⟩
 simp only [List.set_cons_succ] at S9
 replace S := kp S9
 clear S9
 go_wp2_with (first | (refine stiS S.o ?_ (hp := Sto.head (by repeat constructor)); clear S; intro w9 S; have S := kp S) | fail)
 exact bodyPost_ret (v := .agg #[.int .i64 fr, .int .i64 fc, .slice pa fs.length ma, .int .i64 sr, .int .i64 sc, .slice pb ss.length mb]) (by exact res1 rfl (by exact rsiS S.o (hm := List.Mem.head _))) rfl ⟨_, _, _, _, rfl, S.o.sub ((List.sublist_cons_self _ _).trans (List.sublist_cons_self _ _)) (List.Sublist.cons_cons _ (List.Sublist.cons_cons _ (List.Sublist.cons _ (List.Sublist.refl _)))) ⟨S.o.grp.own.1, S.o.grp.own.2.1, S.o.grp.own.2.2.2⟩⟩
def CutE (L : Nat → Bool) (V : Nat → Value) (E : List Box) : Prop := (L 12 = false ∧ E = []) ∨ (L 12 = true ∧ ∃ bb, V 12 = .pointer (some ⟨bb, 0, none⟩) ∧ E = [⟨bb, 30, [.int .i64 0, .int .i64 0, .slice none 0 0, .int .i64 0, .int .i64 0, .slice none 0 0]⟩])
def CutL (fr fc sr sc N : Int) (fs ss ls : List Int) (L : Nat → Bool) (V : Nat → Value) (us : List Value) (ys : List (List Int)) : Prop :=
 (L 7 = false ∧ us = [] ∧ ys = []) ∨ (L 7 = true ∧ ∃ v0 v1 v2, V 7 = .tuple #[.agg #[.int .i64 fr, .int .i64 fc, v0, .int .i64 sr, .int .i64 sc, v1], v2, .int .i64 N] ∧ us = [v0, v1, v2] ∧ ys = [fs, ss, ls])
structure CutJ (w0 w9 : World) (B B' : List Box) (C : Option Addr → Nat → List Box) (vs : List Value) (xs xs' : List (List Int)) (VS : Option Addr → Nat → List Value) (fr fc sr sc N : Int) (fs ss ls : List Int) (L : Nat → Bool) (V : Nat → Value) (w' : World) : Prop where
 c1 : L 7 = true → L 1 = true ∧ L 2 = true ∧ L 6 = true
 c2 : L 11 = true → L 7 = true
 c3 : L 11 = true → L 8 = true ∧ L 9 = true ∧ L 10 = true
 st : ∃ E, CutE L V E ∧ ((L 11 = false ∧ Ext w9 w' ∧ ∃ us ys, CutL fr fc sr sc N fs ss ls L V us ys ∧ St none w0 w' (E ++ B) (us ++ vs) (ys ++ xs)) ∨
  (L 11 = true ∧ ∃ v0 v1 v2 p' m', V 11 = .agg #[.int .i64 fr, .int .i64 fc, v0, .int .i64 sr, .int .i64 sc, v1] ∧ St none w0 w' (E ++ C p' m') (v0 :: v1 :: v2 :: VS p' m') (fs :: ss :: ls :: xs')))
section
variable {w0 w9 w' w'' : World} {B B' : List Box} {C : Option Addr → Nat → List Box} {vs : List Value} {xs xs' : List (List Int)} {VS : Option Addr → Nat → List Value} {fr fc sr sc N : Int} {fs ss ls : List Int} {L : Nat → Bool} {V : Nat → Value}
theorem CutE.other {E : List Box} (h : CutE L V E) {i : Nat} {u : Value} (hi : i ≠ 12) : CutE (upd L i true) (upd V i u) E := by
 unfold CutE at h ⊢
 rw [updL_ne (Ne.symm hi), updV_ne (Ne.symm hi)]
 exact h
theorem CutL.other {us : List Value} {ys : List (List Int)} (h : CutL fr fc sr sc N fs ss ls L V us ys) {i : Nat} {u : Value} (hi : i ≠ 7) : CutL fr fc sr sc N fs ss ls (upd L i true) (upd V i u) us ys := by
 unfold CutL at h ⊢
 rw [updL_ne (Ne.symm hi), updV_ne (Ne.symm hi)]
 exact h
theorem CutJ.pure (h : CutJ w0 w9 B B' C vs xs xs' VS fr fc sr sc N fs ss ls L V w') {i : Nat} (u : Value) (h7 : i ≠ 7) (h11 : i ≠ 11) (h12 : i ≠ 12) : CutJ w0 w9 B B' C vs xs xs' VS fr fc sr sc N fs ss ls (upd L i true) (upd V i u) w' := by
 obtain ⟨c1, c2, c3, E, hE, h⟩ := h
 refine ⟨fun a => ?_, fun a => ?_, fun a => ?_, E, hE.other h12, ?_⟩
 ·rw [updL_ne (Ne.symm h7)] at a
  obtain ⟨a1, a2, a3⟩ := c1 a
  exact ⟨updL_mono a1, updL_mono a2, updL_mono a3⟩
 ·rw [updL_ne (Ne.symm h11)] at a
  exact updL_mono (c2 a)
 ·rw [updL_ne (Ne.symm h11)] at a
  exact ⟨updL_mono (c3 a).1, updL_mono (c3 a).2.1, updL_mono (c3 a).2.2⟩
 rw [updL_ne (Ne.symm h11), updV_ne (Ne.symm h11)]
 rcases h with ⟨a, x, us, ys, hl, S⟩ | h
 ·exact .inl ⟨a, x, us, ys, hl.other h7, S⟩
 exact .inr h
theorem CutJ.ext (h : CutJ w0 w9 B B' C vs xs xs' VS fr fc sr sc N fs ss ls L V w') (h7 : L 7 = false) : Ext w9 w' := by
 obtain ⟨c1, c2, c3, E, hE, h⟩ := h
 rcases h with ⟨_, x, _⟩ | ⟨a, _⟩
 ·exact x
 exact absurd (h7.symm.trans (c2 a)) (by decide)
theorem CutJ.tup (h : CutJ w0 w9 B B' C vs xs xs' VS fr fc sr sc N fs ss ls L V w') (h7 : L 7 = true) (h11 : L 11 = false) : ∃ v0 v1 v2 : Value, V 7 = .tuple #[.agg #[.int .i64 fr, .int .i64 fc, v0, .int .i64 sr, .int .i64 sc, v1], v2, .int .i64 N] := by
 obtain ⟨c1, c2, c3, E, hE, h⟩ := h
 rcases h with ⟨a, x, us, ys, hl, S⟩ | ⟨a, _⟩
 ·rcases hl with ⟨b, _⟩ | ⟨_, v0, v1, v2, e, _⟩
  ·rw [h7] at b; cases b
  exact ⟨v0, v1, v2, e⟩
 rw [h11] at a; cases a
theorem Put.app {L0 L1 : List Box} {b : Nat} {T : TypeId} {cs cs' : List Value} (h : Put L0 b T cs cs' L1) : ∀ E : List Box, Put (E ++ L0) b T cs cs' (E ++ L1)
 | [] => h
 | _ :: E => Put.tail (Put.app h E)
theorem CutJ.call (h : CutJ w0 w9 B B' C vs xs xs' VS fr fc sr sc N fs ss ls L V w') (h7 : L 7 = false) (h1 : L 1 = true ∧ L 2 = true ∧ L 6 = true) (x : Ext w' w'') {v0 v1 v2 : Value} (g : Grp w'.heap.size w'' [v0, v1, v2] [fs, ss, ls]) :
 CutJ w0 w9 B B' C vs xs xs' VS fr fc sr sc N fs ss ls (upd L 7 true) (upd V 7 (.tuple #[.agg #[.int .i64 fr, .int .i64 fc, v0, .int .i64 sr, .int .i64 sc, v1], v2, .int .i64 N])) w'' := by
 obtain ⟨c1, c2, c3, E, hE, h⟩ := h
 refine ⟨fun _ => ⟨updL_mono h1.1, updL_mono h1.2.1, updL_mono h1.2.2⟩, fun _ => by simp [upd], fun a => absurd (h7.symm.trans (c2 (by rwa [updL_ne (by decide)] at a))) (by decide), E, hE.other (by decide), ?_⟩
 rw [updL_ne (by decide), updV_ne (by decide)]
 rcases h with ⟨a, x', us, ys, hl, S⟩ | ⟨a, _⟩
 ·rcases hl with ⟨_, rfl, rfl⟩ | ⟨h7', _⟩
  ·refine .inl ⟨a, x'.trans x, [v0, v1, v2], [fs, ss, ls], .inr ⟨by simp [upd], v0, v1, v2, updV_eq, rfl, rfl⟩, ?_⟩
   have S9 := S.madeG g x
   simpa using S9
  rw [h7] at h7'; cases h7'
 exact absurd (h7.symm.trans (c2 a)) (by decide)
theorem CutJ.alloc (h : CutJ w0 w9 B B' C vs xs xs' VS fr fc sr sc N fs ss ls L V w') (h12 : L 12 = false) : CutJ w0 w9 B B' C vs xs xs' VS fr fc sr sc N fs ss ls (upd L 12 true) (upd V 12 (.pointer (some ⟨w'.heap.size, 0, none⟩))) (w'.alloc (.cells #[.int .i64 0, .int .i64 0, .slice none 0 0, .int .i64 0, .int .i64 0, .slice none 0 0] 30)) := by
 obtain ⟨c1, c2, c3, E, hE, h⟩ := h
 rcases hE with ⟨_, rfl⟩ | ⟨a, _⟩
 ·refine ⟨fun a => ?_, fun a => ?_, fun a => ?_, [⟨w'.heap.size, 30, [.int .i64 0, .int .i64 0, .slice none 0 0, .int .i64 0, .int .i64 0, .slice none 0 0]⟩], .inr ⟨by simp [upd], _, updV_eq, rfl⟩, ?_⟩
  ·rw [updL_ne (by decide)] at a
   obtain ⟨a1, a2, a3⟩ := c1 a
   exact ⟨updL_mono a1, updL_mono a2, updL_mono a3⟩
  ·rw [updL_ne (by decide)] at a
   exact updL_mono (c2 a)
  ·rw [updL_ne (by decide)] at a
   exact ⟨updL_mono (c3 a).1, updL_mono (c3 a).2.1, updL_mono (c3 a).2.2⟩
  rw [updL_ne (by decide), updV_ne (by decide)]
  rcases h with ⟨a, x, us, ys, hl, S⟩ | ⟨a, v0, v1, v2, p', m', e, S⟩
  ·exact .inl ⟨a, x.alloc _, us, ys, hl.other (by decide), S.alloc 30 [.int .i64 0, .int .i64 0, .slice none 0 0, .int .i64 0, .int .i64 0, .slice none 0 0]⟩
  exact .inr ⟨a, v0, v1, v2, p', m', e, S.alloc 30 [.int .i64 0, .int .i64 0, .slice none 0 0, .int .i64 0, .int .i64 0, .slice none 0 0]⟩
 rw [h12] at a; cases a
end
set_option maxHeartbeats 8000000 in
set_option maxRecDepth 4000 in
theorem steps_cutProduct {w0 w : World} (b : Nat) (F : List Value → List Box) (hF : ∀ cs cs', Put (F cs) b 57 cs cs' (F cs')) (q : Int) {p : Option Addr} {n m : Nat} {vs : List Value} {xs : List (List Int)} (S0 : St none w0 w (F [.int .i64 q, .slice p n m]) vs xs) (i : Nat) {x : List Int} (hi1 : vs[i]? = some (.slice p n m)) (hi2 : xs[i]? = some x) (hn : x.length = n) (r0 c0 r1 c1 r2 c2 r3 c3 : Int) (v0 v1 v2 v3 : Value) (x0 x1 x2 x3 : List Int) (h0 : Ints w v0 x0) (h1 : Ints w v1 x1) (h2 : Ints w v2 x2) (h3 : Ints w v3 x3) (hl1 : n + (pdL ⟨⟨r0, c0, x0⟩, ⟨r1, c1, x1⟩⟩ ⟨⟨r2, c2, x2⟩, ⟨r3, c3, x3⟩⟩ q).length ≤ 1099511627776) (hl2 : n + (pdL ⟨⟨r0, c0, x0⟩, ⟨r1, c1, x1⟩⟩ ⟨⟨r2, c2, x2⟩, ⟨r3, c3, x3⟩⟩ q).length + (mpO 1 (pdSh ⟨⟨r0, c0, x0⟩, ⟨r1, c1, x1⟩⟩ ⟨⟨r2, c2, x2⟩, ⟨r3, c3, x3⟩⟩ q) (pdS ⟨⟨r0, c0, x0⟩, ⟨r1, c1, x1⟩⟩ ⟨⟨r2, c2, x2⟩, ⟨r3, c3, x3⟩⟩ q)).length ≤ 1099511627776) :
 Calls Tryz.prog 33 #[.pointer (some ⟨b, 0, none⟩), .agg #[.int .i64 r0, .int .i64 c0, v0, .int .i64 r1, .int .i64 c1, v1], .agg #[.int .i64 r2, .int .i64 c2, v2, .int .i64 r3, .int .i64 c3, v3]] w fun e w' => ∃ a0 a1 p' m', e = .returned (.agg #[.int .i64 (mpSh 1 (pdSh ⟨⟨r0, c0, x0⟩, ⟨r1, c1, x1⟩⟩ ⟨⟨r2, c2, x2⟩, ⟨r3, c3, x3⟩⟩ q) (pdS ⟨⟨r0, c0, x0⟩, ⟨r1, c1, x1⟩⟩ ⟨⟨r2, c2, x2⟩, ⟨r3, c3, x3⟩⟩ q)).f.r, .int .i64 (mpSh 1 (pdSh ⟨⟨r0, c0, x0⟩, ⟨r1, c1, x1⟩⟩ ⟨⟨r2, c2, x2⟩, ⟨r3, c3, x3⟩⟩ q) (pdS ⟨⟨r0, c0, x0⟩, ⟨r1, c1, x1⟩⟩ ⟨⟨r2, c2, x2⟩, ⟨r3, c3, x3⟩⟩ q)).f.c, a0, .int .i64 (mpSh 1 (pdSh ⟨⟨r0, c0, x0⟩, ⟨r1, c1, x1⟩⟩ ⟨⟨r2, c2, x2⟩, ⟨r3, c3, x3⟩⟩ q) (pdS ⟨⟨r0, c0, x0⟩, ⟨r1, c1, x1⟩⟩ ⟨⟨r2, c2, x2⟩, ⟨r3, c3, x3⟩⟩ q)).s.r, .int .i64 (mpSh 1 (pdSh ⟨⟨r0, c0, x0⟩, ⟨r1, c1, x1⟩⟩ ⟨⟨r2, c2, x2⟩, ⟨r3, c3, x3⟩⟩ q) (pdS ⟨⟨r0, c0, x0⟩, ⟨r1, c1, x1⟩⟩ ⟨⟨r2, c2, x2⟩, ⟨r3, c3, x3⟩⟩ q)).s.c, a1]) ∧
  St none w0 w' (F [.int .i64 (mpS 1 (pdSh ⟨⟨r0, c0, x0⟩, ⟨r1, c1, x1⟩⟩ ⟨⟨r2, c2, x2⟩, ⟨r3, c3, x3⟩⟩ q) (pdS ⟨⟨r0, c0, x0⟩, ⟨r1, c1, x1⟩⟩ ⟨⟨r2, c2, x2⟩, ⟨r3, c3, x3⟩⟩ q)), .slice p' (n + (pdL ⟨⟨r0, c0, x0⟩, ⟨r1, c1, x1⟩⟩ ⟨⟨r2, c2, x2⟩, ⟨r3, c3, x3⟩⟩ q).length + (mpO 1 (pdSh ⟨⟨r0, c0, x0⟩, ⟨r1, c1, x1⟩⟩ ⟨⟨r2, c2, x2⟩, ⟨r3, c3, x3⟩⟩ q) (pdS ⟨⟨r0, c0, x0⟩, ⟨r1, c1, x1⟩⟩ ⟨⟨r2, c2, x2⟩, ⟨r3, c3, x3⟩⟩ q)).length) m']) (a0 :: a1 :: vs.set i (.slice p' (n + (pdL ⟨⟨r0, c0, x0⟩, ⟨r1, c1, x1⟩⟩ ⟨⟨r2, c2, x2⟩, ⟨r3, c3, x3⟩⟩ q).length + (mpO 1 (pdSh ⟨⟨r0, c0, x0⟩, ⟨r1, c1, x1⟩⟩ ⟨⟨r2, c2, x2⟩, ⟨r3, c3, x3⟩⟩ q) (pdS ⟨⟨r0, c0, x0⟩, ⟨r1, c1, x1⟩⟩ ⟨⟨r2, c2, x2⟩, ⟨r3, c3, x3⟩⟩ q)).length) m')) ((mpSh 1 (pdSh ⟨⟨r0, c0, x0⟩, ⟨r1, c1, x1⟩⟩ ⟨⟨r2, c2, x2⟩, ⟨r3, c3, x3⟩⟩ q) (pdS ⟨⟨r0, c0, x0⟩, ⟨r1, c1, x1⟩⟩ ⟨⟨r2, c2, x2⟩, ⟨r3, c3, x3⟩⟩ q)).f.xs :: (mpSh 1 (pdSh ⟨⟨r0, c0, x0⟩, ⟨r1, c1, x1⟩⟩ ⟨⟨r2, c2, x2⟩, ⟨r3, c3, x3⟩⟩ q) (pdS ⟨⟨r0, c0, x0⟩, ⟨r1, c1, x1⟩⟩ ⟨⟨r2, c2, x2⟩, ⟨r3, c3, x3⟩⟩ q)).s.xs :: xs.set i (x ++ (pdL ⟨⟨r0, c0, x0⟩, ⟨r1, c1, x1⟩⟩ ⟨⟨r2, c2, x2⟩, ⟨r3, c3, x3⟩⟩ q) ++ (mpO 1 (pdSh ⟨⟨r0, c0, x0⟩, ⟨r1, c1, x1⟩⟩ ⟨⟨r2, c2, x2⟩, ⟨r3, c3, x3⟩⟩ q) (pdS ⟨⟨r0, c0, x0⟩, ⟨r1, c1, x1⟩⟩ ⟨⟨r2, c2, x2⟩, ⟨r3, c3, x3⟩⟩ q)))) := by
 have PS := kp (fun (v0 v1 v2 v3 : Value) (w' : World) (h0 : Ints w' v0 x0) (h1 : Ints w' v1 x1) (h2 : Ints w' v2 x2) (h3 : Ints w' v3 x3) => impl_ProductShared r0 c0 r1 c1 r2 c2 r3 c3 v0 v1 v2 v3 x0 x1 x2 x3 q w' h0 h1 h2 h3)
 unfold ShLN at PS
 generalize pdSh ⟨⟨r0, c0, x0⟩, ⟨r1, c1, x1⟩⟩ ⟨⟨r2, c2, x2⟩, ⟨r3, c3, x3⟩⟩ q = DM at *
 generalize pdL ⟨⟨r0, c0, x0⟩, ⟨r1, c1, x1⟩⟩ ⟨⟨r2, c2, x2⟩, ⟨r3, c3, x3⟩⟩ q = ls at *
 generalize pdS ⟨⟨r0, c0, x0⟩, ⟨r1, c1, x1⟩⟩ ⟨⟨r2, c2, x2⟩, ⟨r3, c3, x3⟩⟩ q = N at *
 obtain ⟨⟨fr, fc, fs⟩, ⟨sr, sc, ss⟩⟩ := DM
 simp only at PS ⊢
 obtain ⟨s0, n0, rfl, hm9, hc9⟩ := id h0
 clear hm9 hc9
 have H0 := kp h0
 clear h0
 obtain ⟨s1, n1, rfl, hm9, hc9⟩ := id h1
 clear hm9 hc9
 have H1 := kp h1
 clear h1
 obtain ⟨s2, n2, rfl, hm9, hc9⟩ := id h2
 clear hm9 hc9
 have H2 := kp h2
 clear h2
 obtain ⟨s3, n3, rfl, hm9, hc9⟩ := id h3
 clear hm9 hc9
 have H3 := kp h3
 clear h3
 have HX := kp (Ext.refl w)
 have S := kp S0
 clear S0
 go_enter Tryz.func33, Tryz.ntmps33
 go_wp2_with (first | (refine bxE S.o HX.out (L := F [.int .i64 q, .slice p n m]) ?_; clear S HX; intro b4 w9 S HX) | (refine bxE S.o HX.out (L := ⟨b4, 30, [.int .i64 r0, .int .i64 c0, .slice s0 x0.length n0, .int .i64 r1, .int .i64 c1, .slice s1 x1.length n1]⟩ :: F [.int .i64 q, .slice p n m]) ?_; clear S HX; intro b5 w9 S HX) | (refine alE S.o HX.out (L := ⟨b5, 30, [.int .i64 r2, .int .i64 c2, .slice s2 x2.length n2, .int .i64 r3, .int .i64 c3, .slice s3 x3.length n3]⟩ :: ⟨b4, 30, [.int .i64 r0, .int .i64 c0, .slice s0 x0.length n0, .int .i64 r1, .int .i64 c1, .slice s1 x1.length n1]⟩ :: F [.int .i64 q, .slice p n m]) ?_; clear S HX; intro b6 w9 S HX) | fail)
 apply wp_region_zipV SzR (fun L V w' => CutJ w0 w9 (⟨b6, 30, [.int .i64 0, .int .i64 0, .slice none 0 0, .int .i64 0, .int .i64 0, .slice none 0 0]⟩ :: ⟨b5, 30, [.int .i64 r2, .int .i64 c2, .slice s2 x2.length n2, .int .i64 r3, .int .i64 c3, .slice s3 x3.length n3]⟩ :: ⟨b4, 30, [.int .i64 r0, .int .i64 c0, .slice s0 x0.length n0, .int .i64 r1, .int .i64 c1, .slice s1 x1.length n1]⟩ :: F [.int .i64 q, .slice p n m]) [] (fun p' m' => ⟨b6, 30, [.int .i64 0, .int .i64 0, .slice none 0 0, .int .i64 0, .int .i64 0, .slice none 0 0]⟩ :: ⟨b5, 30, [.int .i64 r2, .int .i64 c2, .slice s2 x2.length n2, .int .i64 r3, .int .i64 c3, .slice s3 x3.length n3]⟩ :: ⟨b4, 30, [.int .i64 r0, .int .i64 c0, .slice s0 x0.length n0, .int .i64 r1, .int .i64 c1, .slice s1 x1.length n1]⟩ :: F [.int .i64 N, .slice p' (n + ls.length) m']) vs xs (xs.set i (x ++ ls)) (fun p' m' => vs.set i (.slice p' (n + ls.length) m')) fr fc sr sc N fs ss ls L V w') [isv _, isv _, isv _, isv _, isv _, isv _, isv _, anyV, tgetV 7 0, tgetV 7 1, tgetV 7 2, anyV, anyV] _ ?hJ (by kernel_rfl)
 case hJ => exact ⟨fun h => (by cases h), fun h => (by cases h), fun h => (by cases h), [], .inl ⟨rfl, rfl⟩, .inl ⟨rfl, ⟨rfl, rfl, rfl, Nat.le_refl _, fun _ _ => rfl⟩, [], [], .inl ⟨rfl, rfl, rfl⟩, S.o.quiet ⟨rfl, rfl, rfl, Nat.le_refl _, fun _ _ => rfl⟩⟩⟩
 case hA => intro V; simp [putAll, dstOf, Act.put]; exact rfl
 case hsl => intro V; exact rfl
 case step =>
  intro V lo up w' hr L hj
  simp only [zipOkV, depsImp, isv, tgetV, anyV, modeNg, newb, waits, Region.binds, List.map_nil, List.map_cons, List.headD_cons, List.nil_append, List.cons_append, List.filterMap_cons, List.filterMap_nil, ↓reduceIte, modeNe, Bool.false_eq_true, true_implies, List.getD_cons_zero, List.getD_cons_succ, and_true, Nat.zero_add, Nat.reduceAdd]
  refine ⟨?_, ?_, ?_, ?_, ?_, ?_, ?_, ?_, ?_, ?_, ?_, ?_, ?_⟩
  ·intro hl hw hd
   intros
   (try simp only [*])
   go_wp2_with (fail)
   refine sS ?_
   exact ⟨Nat.le_refl _, rfl, hj.pure _ (by decide) (by decide) (by decide)⟩
  ·intro hl hw hd
   intros
   have h7 : L 7 = false := by
    cases h : L 7
    ·rfl
    exact absurd (hl.symm.trans (hj.c1 h).1) (by decide)
   have S := kp (S.o.quiet (hj.ext h7))
   (try simp only [*])
   go_wp2_with (first | (refine ldiS S.o ?_) | (refine ldI S.o (v := .int .i64 q) ?_ (hp := Lod.tail (Lod.tail (Lod.tail ((hF _ [.int .i64 q, .slice p n m]).lod (.take .done)))))) | fail)
   refine sS ?_
   exact ⟨Nat.le_refl _, rfl, hj.pure _ (by decide) (by decide) (by decide)⟩
  ·intro hl hw hd
   intros
   have h7 : L 7 = false := by
    cases h : L 7
    ·rfl
    exact absurd (hl.symm.trans (hj.c1 h).2.1) (by decide)
   have S := kp (S.o.quiet (hj.ext h7))
   (try simp only [*])
   go_wp2_with (first | (refine ldiS S.o ?_) | (refine ldI S.o (v := .int .i64 q) ?_ (hp := Lod.tail (Lod.tail (Lod.tail ((hF _ [.int .i64 q, .slice p n m]).lod (.take .done)))))) | fail)
   refine sS ?_
   exact ⟨Nat.le_refl _, rfl, hj.pure _ (by decide) (by decide) (by decide)⟩
  ·intro hl hw hd
   intros
   (try simp only [*])
   go_wp2_with (fail)
   refine sS ?_
   exact ⟨Nat.le_refl _, rfl, hj.pure _ (by decide) (by decide) (by decide)⟩
  ·intro hl hw hd
   intros
   (try simp only [*])
   go_wp2_with (fail)
   refine sS ?_
   exact ⟨Nat.le_refl _, rfl, hj.pure _ (by decide) (by decide) (by decide)⟩
  ·intro hl hw hd
   intros
   (try simp only [*])
   go_wp2_with (fail)
   refine sS ?_
   exact ⟨Nat.le_refl _, rfl, hj.pure _ (by decide) (by decide) (by decide)⟩
  ·intro hl hw hd
   intros
   have h7 : L 7 = false := by
    cases h : L 7
    ·rfl
    exact absurd (hl.symm.trans (hj.c1 h).2.2) (by decide)
   have S := kp (S.o.quiet (hj.ext h7))
   (try simp only [*])
   go_wp2_with (first | (refine ldI S.o (v := .int .i64 q) ?_ (hp := Lod.tail (Lod.tail (Lod.tail ((hF _ [.int .i64 q, .slice p n m]).lod (.take .done)))))) | fail)
   refine sS ?_
   exact ⟨Nat.le_refl _, rfl, hj.pure _ (by decide) (by decide) (by decide)⟩
  ·intro hl hw hd
   have h1_ := hd 1 (by simp)
   have h2_ := hd 2 (by simp)
   have h6_ := hd 6 (by simp)
   have x_ := HX.out.trans (hj.ext hl)
   intros
   (try simp only [*])
   go_wp2_with (fail)
   (with_reducible refine (PS.out _ _ _ _ _ (H0.out.keep x_) (H1.out.keep x_) (H2.out.keep x_) (H3.out.keep x_)).mono ?_)
   rintro e w8 ⟨v0, v1, v2, rfl, gg, x9⟩
   go_wp2
   refine sS ?_
   exact ⟨x9.size, trivial, hj.call hl ⟨h1_, h2_, h6_⟩ x9 gg⟩
  ·intro hl hw hd
   have h7 := hd 7 (by simp)
   have h11 : L 11 = false := by
    cases h : L 11
    ·rfl
    exact absurd (hl.symm.trans (hj.c3 h).1) (by decide)
   obtain ⟨v0, v1, v2, e_r⟩ := hj.tup h7 h11
   intros
   (try simp only [*])
   go_wp2_with (fail)
   refine sS ?_
   exact ⟨Nat.le_refl _, by (try rw [e_r]); rfl, hj.pure _ (by decide) (by decide) (by decide)⟩
  ·intro hl hw hd
   have h7 := hd 7 (by simp)
   have h11 : L 11 = false := by
    cases h : L 11
    ·rfl
    exact absurd (hl.symm.trans (hj.c3 h).2.1) (by decide)
   obtain ⟨v0, v1, v2, e_r⟩ := hj.tup h7 h11
   intros
   (try simp only [*])
   go_wp2_with (fail)
   refine sS ?_
   exact ⟨Nat.le_refl _, by (try rw [e_r]); rfl, hj.pure _ (by decide) (by decide) (by decide)⟩
  ·intro hl hw hd
   have h7 := hd 7 (by simp)
   have h11 : L 11 = false := by
    cases h : L 11
    ·rfl
    exact absurd (hl.symm.trans (hj.c3 h).2.2) (by decide)
   obtain ⟨v0, v1, v2, e_r⟩ := hj.tup h7 h11
   intros
   (try simp only [*])
   go_wp2_with (fail)
   refine sS ?_
   exact ⟨Nat.le_refl _, by (try rw [e_r]); rfl, hj.pure _ (by decide) (by decide) (by decide)⟩
  ·intro hl hw hd
   have h8 := hd 8 (by simp)
   have h9 := hd 9 (by simp)
   have h10 := hd 10 (by simp)
   have h7 := hd 7 (by simp)
   obtain ⟨c1, c2, c3, E, hE, h⟩ := hj
   rcases h with ⟨a, x, us, ys, hl9, S9⟩ | ⟨a, _⟩
   ·rcases hl9 with ⟨b9, _⟩ | ⟨_, v0, v1, v2, e_r, rfl, rfl⟩
    ·rw [h7] at b9; cases b9
    obtain ⟨pa, ma, hu9, -, -⟩ := id (S9.grp.get 0 rfl rfl).ints
    try simp only at hu9
    subst hu9
    obtain ⟨pb, mb, hu9, -, -⟩ := id (S9.grp.get 1 rfl rfl).ints
    try simp only at hu9
    subst hu9
    obtain ⟨pl, ml, hu9, -, -⟩ := id (S9.grp.get 2 rfl rfl).ints
    try simp only at hu9
    subst hu9
    intros
    have e8 : tget (V 7) 0 = .agg #[.int .i64 fr, .int .i64 fc, .slice pa fs.length ma, .int .i64 sr, .int .i64 sc, .slice pb ss.length mb] := by rw [e_r]; rfl
    have e9 : tget (V 7) 1 = .slice pl ls.length ml := by rw [e_r]; rfl
    have e10 : tget (V 7) 2 = .int .i64 N := by rw [e_r]; rfl
    have E8 := kp e8
    have E9 := kp e9
    have E10 := kp e10
    clear e8 e9 e10
    have S7 := kp S9
    have C1 := kp c1
    have HE := kp hE
    clear S9 c1 c2 c3 hE e_r
    (try simp only [*])
    go_wp2_with (fail)
    rw [E8.out, E9.out, E10.out]
    (with_reducible refine (impl_take b (fun cs => E ++ (⟨b6, 30, [.int .i64 0, .int .i64 0, .slice none 0 0, .int .i64 0, .int .i64 0, .slice none 0 0]⟩ :: ⟨b5, 30, [.int .i64 r2, .int .i64 c2, .slice s2 x2.length n2, .int .i64 r3, .int .i64 c3, .slice s3 x3.length n3]⟩ :: ⟨b4, 30, [.int .i64 r0, .int .i64 c0, .slice s0 x0.length n0, .int .i64 r1, .int .i64 c1, .slice s1 x1.length n1]⟩ :: F cs)) (fun cs cs' => Put.app (Put.tail (Put.tail (Put.tail (hF cs cs')))) E) q S7.out (i + 3) (by simpa using hi1) (by simpa using hi2) hn fr fc sr sc pa pb fs.length ma ss.length mb _ ls (S7.out.grp.get 2 rfl rfl).ints (S7.out.grp.get 2 rfl rfl).nilOk hl1 N).mono ?_)
    rintro e w8 ⟨p', m', rfl, hsz, S8⟩
    simp only [List.cons_append, List.nil_append, List.set_cons_succ] at S8
    go_wp2
    refine sS ?_
    refine ⟨hsz, trivial, fun q => ?_, fun _ => updL_mono h7, fun _ => ⟨updL_mono h8, updL_mono h9, updL_mono h10⟩, E, HE.out.other (by decide), .inr ⟨by simp [upd], _, _, _, p', m', updV_eq, S8⟩⟩
    rw [updL_ne (by decide)] at q
    obtain ⟨a1, a2, a3⟩ := C1.out q
    exact ⟨updL_mono a1, updL_mono a2, updL_mono a3⟩
   rw [hl] at a; cases a
  intro hl hw hd
  intros
  go_wp2
  refine sS ?_
  exact ⟨by rw [World.size_alloc]; exact Nat.le_succ _, trivial, hj.alloc hl⟩
 case hB => kernel_rfl
 intro V lo up w' hr L hj hL hf ha
 simp only [factsOk, isv, tgetV, anyV, modeNg, newb, List.map_nil, List.map_cons, List.headD_cons, and_true, Nat.zero_add, Nat.reduceAdd] at hf
 simp only [List.length_cons, List.length_nil, Nat.zero_add, Nat.reduceAdd, List.drop_succ_cons, List.drop_zero]
 obtain ⟨-, -, -, -, -, -, -, -, -, -, -, -, -⟩ := hf
 clear ha
 obtain ⟨c1, c2, c3, E, hE, h⟩ := hj
 rcases hE with ⟨a, _⟩ | ⟨_, bb, e12, rfl⟩
 ·rw [hL 12 (by simp)] at a; cases a
 rcases h with ⟨a, _⟩ | ⟨_, v0, v1, v2, p', m', e11, S9⟩
 ·rw [hL 11 (by simp)] at a; cases a
 rw [e11, e12]
 clear e11 e12 c1 c2 c3 hr HX
 simp only [List.cons_append, List.nil_append] at S9
 obtain ⟨pa, ma, hu9, -, -⟩ := id S9.grp.o0.ints
 try simp only at hu9
 subst hu9
 obtain ⟨pb, mb, hu9, -, -⟩ := id S9.grp.o1.ints
 try simp only at hu9
 subst hu9
 obtain ⟨pl, ml, hu9, -, -⟩ := id S9.grp.o2.ints
 try simp only at hu9
 subst hu9
 replace S := kp S9
 clear S9
 go_wp2_with (first | (refine stiS (part := [.int .i64 fr, .int .i64 fc, .slice pa fs.length ma, .int .i64 sr, .int .i64 sc, .slice pb ss.length mb]) S.o ?_ (hp := Sto.head (by repeat constructor)); clear S; intro w9 S; have S := kp S) | (refine ldiS S.o ?_ (hp := Lod.head (by repeat constructor))) | fail)
 have hlt := (List.getElem?_eq_some_iff.1 hi1).1
 have hlt' := (List.getElem?_eq_some_iff.1 hi2).1
 (with_reducible refine (impl_look b (fun cs => ⟨bb, 30, [.int .i64 fr, .int .i64 fc, .slice pa fs.length ma, .int .i64 sr, .int .i64 sc, .slice pb ss.length mb]⟩ :: ⟨b6, 30, [.int .i64 0, .int .i64 0, .slice none 0 0, .int .i64 0, .int .i64 0, .slice none 0 0]⟩ :: ⟨b5, 30, [.int .i64 r2, .int .i64 c2, .slice s2 x2.length n2, .int .i64 r3, .int .i64 c3, .slice s3 x3.length n3]⟩ :: ⟨b4, 30, [.int .i64 r0, .int .i64 c0, .slice s0 x0.length n0, .int .i64 r1, .int .i64 c1, .slice s1 x1.length n1]⟩ :: F cs) (fun cs cs' => Put.tail (Put.tail (Put.tail (Put.tail (hF cs cs'))))) N S.o (i + 3) (by rw [List.getElem?_cons_succ, List.getElem?_cons_succ, List.getElem?_cons_succ]; exact List.getElem?_set_self hlt) (by rw [List.getElem?_cons_succ, List.getElem?_cons_succ, List.getElem?_cons_succ]; exact List.getElem?_set_self hlt') (by rw [List.length_append, hn]) 1 fr fc sr sc _ _ fs ss (S.o.grp.get 0 rfl rfl).ints (S.o.grp.get 1 rfl rfl).ints hl2).mono ?_)
 rintro e u9 ⟨a0, a1, p2, m2, rfl, S9⟩
 simp only [List.set_cons_succ, List.set_set] at S9
 obtain ⟨pc, mc, hu9, -, -⟩ := id (S9.grp.get 0 rfl rfl).ints
 try simp only at hu9
 subst hu9
 obtain ⟨pd, md, hu9, -, -⟩ := id (S9.grp.get 1 rfl rfl).ints
 try simp only at hu9
 subst hu9
 replace S := kp S9
 clear S9
 go_wp2_with (first | (refine stiS (part := [.int .i64 (mpSh 1 ⟨⟨fr, fc, fs⟩, ⟨sr, sc, ss⟩⟩ N).f.r, .int .i64 (mpSh 1 ⟨⟨fr, fc, fs⟩, ⟨sr, sc, ss⟩⟩ N).f.c, .slice pc (mpSh 1 ⟨⟨fr, fc, fs⟩, ⟨sr, sc, ss⟩⟩ N).f.xs.length mc, .int .i64 (mpSh 1 ⟨⟨fr, fc, fs⟩, ⟨sr, sc, ss⟩⟩ N).s.r, .int .i64 (mpSh 1 ⟨⟨fr, fc, fs⟩, ⟨sr, sc, ss⟩⟩ N).s.c, .slice pd (mpSh 1 ⟨⟨fr, fc, fs⟩, ⟨sr, sc, ss⟩⟩ N).s.xs.length md]) S.o ?_ (hp := Sto.tail (Sto.head (by repeat constructor))); clear S; intro w9 S; have S := kp S) | fail)
 exact bodyPost_ret (v := .agg #[.int .i64 (mpSh 1 ⟨⟨fr, fc, fs⟩, ⟨sr, sc, ss⟩⟩ N).f.r, .int .i64 (mpSh 1 ⟨⟨fr, fc, fs⟩, ⟨sr, sc, ss⟩⟩ N).f.c, .slice pc (mpSh 1 ⟨⟨fr, fc, fs⟩, ⟨sr, sc, ss⟩⟩ N).f.xs.length mc, .int .i64 (mpSh 1 ⟨⟨fr, fc, fs⟩, ⟨sr, sc, ss⟩⟩ N).s.r, .int .i64 (mpSh 1 ⟨⟨fr, fc, fs⟩, ⟨sr, sc, ss⟩⟩ N).s.c, .slice pd (mpSh 1 ⟨⟨fr, fc, fs⟩, ⟨sr, sc, ss⟩⟩ N).s.xs.length md]) (by exact res1 rfl (by exact rsiS S.o (hm := List.Mem.tail _ (List.Mem.head _)))) rfl ⟨_, _, _, _, rfl, S.o.sub ((List.sublist_cons_self _ _).trans ((List.sublist_cons_self _ _).trans ((List.sublist_cons_self _ _).trans (List.sublist_cons_self _ _)))) (List.Sublist.cons_cons _ (List.Sublist.cons_cons _ (List.Sublist.cons _ (List.Sublist.cons _ (List.Sublist.cons _ (List.Sublist.refl _)))))) ⟨S.o.grp.own.1, S.o.grp.own.2.1, S.o.grp.own.2.2.2.2.2⟩⟩
end Go.Proofs.YtkkdikoknegpjaaGreat
