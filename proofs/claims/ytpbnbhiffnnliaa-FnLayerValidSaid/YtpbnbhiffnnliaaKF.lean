/- Groups of lists that lie apart: those of a struct. No program in sight. -/
import Derived.Test.YtpbnbhiffnnliaaPairT
import Derived.Test.YtpbnbhiffnnliaaDraw
import Derived.Laws.IdiomCopy
import Derived.Deep.MidRow
namespace Go.Proofs.Ytpbnbhiffnnliaa
set_option linter.unusedSimpArgs false
set_option linter.unusedVariables false
open Go.RowKit
def OwnL (B : Nat) (w : World) : List Value → List (List Int) → Prop
  | [], [] => True
  | v :: vs, x :: xs => Own B w v x ∧ OwnL B w vs xs
  | _, _ => False
def IntsL (w : World) : List Value → List (List Int) → Prop
  | [], [] => True
  | v :: vs, x :: xs => Ints w v x ∧ IntsL w vs xs
  | _, _ => False
theorem OwnL.keep {B : Nat} {w w' : World} (x : Ext w w') : ∀ {vs : List Value} {xs : List (List Int)}, OwnL B w vs xs → OwnL B w' vs xs
  | [], [], _ => trivial
  | _ :: _, _ :: _, h => ⟨h.1.keep x, h.2.keep x⟩
theorem OwnL.mono {B B' : Nat} {w : World} (b : B' ≤ B) : ∀ {vs : List Value} {xs : List (List Int)}, OwnL B w vs xs → OwnL B' w vs xs
  | [], [], _ => trivial
  | _ :: _, _ :: _, h => ⟨h.1.mono b, h.2.mono b⟩
theorem OwnL.block {B : Nat} {w : World} : ∀ {vs : List Value} {xs : List (List Int)}, OwnL B w vs xs → ∀ v ∈ vs, ∀ q, v.ownBlock = some q → B ≤ q ∧ q < w.heap.size
  | _ :: _, _ :: _, h, v, hv, q, hq => by
    rcases List.mem_cons.1 hv with rfl | hv
    · exact h.1.block q hq
    · exact OwnL.block h.2 v hv q hq
theorem OwnL.ne {B : Nat} {w : World} {b : Nat} {cs : Array Value} {U : TypeId} (k : Blk w b cs U) (hU : U ≠ 3) : ∀ {vs : List Value} {xs : List (List Int)}, OwnL B w vs xs → ∀ v ∈ vs, v.ownBlock ≠ some b
  | _ :: _, _ :: _, h, v, hv => by
    rcases List.mem_cons.1 hv with rfl | hv
    · exact h.1.ne k hU
    · exact OwnL.ne k hU h.2 v hv
theorem OwnL.ints {B : Nat} {w : World} : ∀ {vs : List Value} {xs : List (List Int)}, OwnL B w vs xs → IntsL w vs xs
  | [], [], _ => trivial
  | _ :: _, _ :: _, h => ⟨h.1.ints, OwnL.ints h.2⟩
/-- What was in memory is as it was, but for the lists' own blocks. -/
structure TurnedL (vs : List Value) (w w' : World) : Prop where
  os : w'.os = w.os
  tape : w'.tape = w.tape
  output : w'.output = w.output
  size : w.heap.size ≤ w'.heap.size
  block : ∀ k, k < w.heap.size → (∀ v ∈ vs, v.ownBlock ≠ some k) → w'.heap[k]? = w.heap[k]?
theorem Turned.toL {v : Value} {w w' : World} (t : Turned v w w') : TurnedL [v] w w' := ⟨t.os, t.tape, t.output, t.size, fun k hk h => t.block k hk (h v (by simp))⟩
theorem TurnedL.trans {vs us : List Value} {a b c : World} (t : TurnedL vs a b) (s : TurnedL us b c) : TurnedL (vs ++ us) a c :=
  ⟨s.os.trans t.os, s.tape.trans t.tape, s.output.trans t.output, Nat.le_trans t.size s.size, fun k hk h =>
    (s.block k (Nat.lt_of_lt_of_le hk t.size) (fun v hv => h v (List.mem_append_right _ hv))).trans (t.block k hk (fun v hv => h v (List.mem_append_left _ hv)))⟩
theorem TurnedL.ext0 {vs : List Value} {a b c : World} (t : TurnedL vs b c) (x : Ext a b) (h : ∀ v ∈ vs, ∀ q, v.ownBlock = some q → a.heap.size ≤ q) : Ext a c :=
  Below.trans x ⟨t.os, t.tape, t.output, t.size, fun k hk => t.block k (Nat.lt_of_lt_of_le hk x.size) (fun v hv e => by have := h v hv k e; omega)⟩
/-- .. behind a call that has made boxes ahead of it and turned the lists. -/
theorem TurnedL.pre {vs : List Value} {a b c : World} (x : Ext a b) (t : TurnedL vs b c) : TurnedL vs a c :=
  ⟨t.os.trans x.os, t.tape.trans x.tape, t.output.trans x.output, Nat.le_trans x.size t.size, fun k hk h => (t.block k (Nat.lt_of_lt_of_le hk x.size) h).trans (Below.block x k hk)⟩
theorem TurnedL.own {vs : List Value} {w w' : World} {B : Nat} {u : Value} {xs : List Int} (h : Own B w u xs) (t : TurnedL vs w w') (hne : ∀ v ∈ vs, Apt v u) : Own B w' u xs := by
  obtain ⟨h1, h2⟩ := h
  refine ⟨h1, h2.imp id ?_⟩
  rintro ⟨g, cap, cur, rfl, hg, hh, r⟩
  exact ⟨g, cap, cur, rfl, hg, by rw [t.block g (lt_of_block hh) (fun v hv e => (hne v hv).r g e rfl)]; exact hh, r⟩
theorem TurnedL.blk {vs : List Value} {w w' : World} {b : Nat} {cs : Array Value} {T : TypeId} (h : Blk w b cs T) (t : TurnedL vs w w') (hne : ∀ v ∈ vs, v.ownBlock ≠ some b) : Blk w' b cs T := by
  unfold Blk; rw [t.block b h.lt hne]; exact h
structure SepL (vs us : List Value) : Prop where
  all : ∀ v ∈ vs, ∀ u ∈ us, Apt v u
theorem SepL.symm {vs us : List Value} (h : SepL vs us) : SepL us vs := ⟨fun v hv u hu => (h.all u hu v hv).symm⟩
/-- A group: lists of the call's own from B on, apart. -/
structure Grp (B : Nat) (w : World) (vs : List Value) (xs : List (List Int)) : Prop where
  own : OwnL B w vs xs
  apt : vs.Pairwise Apt
theorem Grp.keep {B : Nat} {w w' : World} {vs : List Value} {xs : List (List Int)} (h : Grp B w vs xs) (x : Ext w w') : Grp B w' vs xs := ⟨h.own.keep x, h.apt⟩
theorem Grp.mono {B B' : Nat} {w : World} {vs : List Value} {xs : List (List Int)} (h : Grp B w vs xs) (b : B' ≤ B) : Grp B' w vs xs := ⟨h.own.mono b, h.apt⟩
theorem Grp.sep {B : Nat} {w w' : World} {vs us : List Value} {xs ys : List (List Int)} (h : Grp B w vs xs) (k : Grp w.heap.size w' us ys) : SepL vs us :=
  ⟨fun v hv u hu => ⟨fun q h1 h2 => by have a := (k.own.block u hu q h1).1; have b := (h.own.block v hv q h2).2; omega, fun q h2 h1 => by have a := (k.own.block u hu q h1).1; have b := (h.own.block v hv q h2).2; omega⟩⟩
theorem OwnL.turned {vs : List Value} {w w' : World} {B : Nat} (t : TurnedL vs w w') : ∀ {us : List Value} {xs : List (List Int)}, OwnL B w us xs → SepL vs us → OwnL B w' us xs
  | [], [], _, _ => trivial
  | u :: _, _ :: _, h, s => ⟨t.own h.1 (fun v hv => s.all v hv u (by simp)), OwnL.turned t h.2 ⟨fun v hv x hx => s.all v hv x (List.mem_cons_of_mem _ hx)⟩⟩
theorem Grp.turned {B : Nat} {w w' : World} {vs us : List Value} {xs : List (List Int)} (h : Grp B w us xs) (t : TurnedL vs w w') (s : SepL vs us) : Grp B w' us xs := ⟨h.own.turned t s, h.apt⟩
theorem Grp.blk {B : Nat} {w w' : World} {vs : List Value} {xs : List (List Int)} (h : Grp B w vs xs) (t : TurnedL vs w w') {b : Nat} {cs : Array Value} {U : TypeId} (k : Blk w b cs U) (hU : U ≠ 3) : Blk w' b cs U := t.blk k (h.own.ne k hU)
theorem Grp.one {B : Nat} {w : World} {v : Value} {x : List Int} (h : Own B w v x) : Grp B w [v] [x] := ⟨⟨h, trivial⟩, by simp⟩
theorem Grp.two {B : Nat} {w : World} {v u : Value} {x y : List Int} (h : Own B w v x) (k : Own B w u y) (a : Apt v u) : Grp B w [v, u] [x, y] := ⟨⟨h, k, trivial⟩, by simp [a]⟩
theorem Grp.nil (B : Nat) (w : World) : Grp B w [] [] := ⟨trivial, List.Pairwise.nil⟩
theorem Grp.app {B : Nat} {w : World} {vs us : List Value} {xs ys : List (List Int)} (h : Grp B w vs xs) (k : Grp B w us ys) (s : SepL vs us) : Grp B w (vs ++ us) (xs ++ ys) := by
  refine ⟨?_, List.pairwise_append.2 ⟨h.apt, k.apt, s.all⟩⟩
  have key : ∀ {vs : List Value} {xs : List (List Int)}, OwnL B w vs xs → OwnL B w (vs ++ us) (xs ++ ys) := by
    intro vs
    induction vs with
    | nil => intro xs h; cases xs with
      | nil => exact k.own
      | cons _ _ => exact h.elim
    | cons v vs ih => intro xs h; cases xs with
      | nil => exact h.elim
      | cons x xs => exact ⟨h.1, ih h.2⟩
  exact key h.own
theorem Grp.setOther {B : Nat} {w : World} {vs : List Value} {xs : List (List Int)} (h : Grp B w vs xs) {b : Nat} (hb : ∀ v ∈ vs, v.ownBlock ≠ some b) (i : Nat) (u : Value) : Grp B (w.setCell ⟨b, i, none⟩ u) vs xs := by
  refine ⟨?_, h.apt⟩
  have key : ∀ {vs : List Value} {xs : List (List Int)}, (∀ v ∈ vs, v.ownBlock ≠ some b) → OwnL B w vs xs → OwnL B (w.setCell ⟨b, i, none⟩ u) vs xs := by
    intro vs
    induction vs with
    | nil => intro xs _ h; cases xs with
      | nil => trivial
      | cons _ _ => exact h.elim
    | cons v vs ih => intro xs hb h; cases xs with
      | nil => exact h.elim
      | cons x xs => exact ⟨h.1.setOther b (hb v (by simp)) i u, ih (fun v hv => hb v (List.mem_cons_of_mem _ hv)) h.2⟩
  exact key hb h.own
theorem Grp.oth {B : Nat} {w : World} {vs : List Value} {xs : List (List Int)} (h : Grp B w vs xs) {b : Nat} (hb : ∀ v ∈ vs, v.ownBlock ≠ some b) (i j k : Nat) (p q u : Value) : Grp B (((w.setCell ⟨b, i, none⟩ p).setCell ⟨b, j, none⟩ q).setCell ⟨b, k, none⟩ u) vs xs :=
  ((h.setOther hb i p).setOther hb j q).setOther hb k u
theorem Grp.keep' {B : Nat} {w w' : World} {g : Nat} (hb : ∀ b, b ≠ g → w'.heap[b]? = w.heap[b]?) {vs : List Value} {xs : List (List Int)} (h : Grp B w vs xs) (hne : ∀ v ∈ vs, v.ownBlock ≠ some g) : Grp B w' vs xs := by
  refine ⟨?_, h.apt⟩
  have key : ∀ {vs : List Value} {xs : List (List Int)}, (∀ v ∈ vs, v.ownBlock ≠ some g) → OwnL B w vs xs → OwnL B w' vs xs := by
    intro vs
    induction vs with
    | nil => intro xs _ h; cases xs with
      | nil => trivial
      | cons _ _ => exact h.elim
    | cons v vs ih => intro xs hne h; cases xs with
      | nil => exact h.elim
      | cons x xs => exact ⟨h.1.keep' hb (hne v (by simp)), ih (fun v hv => hne v (List.mem_cons_of_mem _ hv)) h.2⟩
  exact key hne h.own
theorem Grp.ne {B : Nat} {w : World} {vs : List Value} {xs : List (List Int)} (h : Grp B w vs xs) {b : Nat} {cs : Array Value} {U : TypeId} (k : Blk w b cs U) (hU : U ≠ 3) : ∀ v ∈ vs, v.ownBlock ≠ some b := h.own.ne k hU
theorem Grp.o0 {B : Nat} {w : World} {v0 : Value} {x0 : List Int} {vs : List Value} {xs : List (List Int)} (h : Grp B w (v0 :: vs) (x0 :: xs)) : Own B w v0 x0 := (show Own B w v0 x0 ∧ OwnL B w vs xs from h.own).1
theorem Grp.o1 {B : Nat} {w : World} {v0 v1 : Value} {x0 x1 : List Int} {vs : List Value} {xs : List (List Int)} (h : Grp B w (v0 :: v1 :: vs) (x0 :: x1 :: xs)) : Own B w v1 x1 := (show Own B w v0 x0 ∧ (Own B w v1 x1 ∧ OwnL B w vs xs) from h.own).2.1
theorem Grp.o2 {B : Nat} {w : World} {v0 v1 v2 : Value} {x0 x1 x2 : List Int} {vs : List Value} {xs : List (List Int)} (h : Grp B w (v0 :: v1 :: v2 :: vs) (x0 :: x1 :: x2 :: xs)) : Own B w v2 x2 := (show Own B w v0 x0 ∧ (Own B w v1 x1 ∧ (Own B w v2 x2 ∧ OwnL B w vs xs)) from h.own).2.2.1
theorem Grp.o3 {B : Nat} {w : World} {v0 v1 v2 v3 : Value} {x0 x1 x2 x3 : List Int} {vs : List Value} {xs : List (List Int)} (h : Grp B w (v0 :: v1 :: v2 :: v3 :: vs) (x0 :: x1 :: x2 :: x3 :: xs)) : Own B w v3 x3 := (show Own B w v0 x0 ∧ (Own B w v1 x1 ∧ (Own B w v2 x2 ∧ (Own B w v3 x3 ∧ OwnL B w vs xs))) from h.own).2.2.2.1
theorem Grp.o4 {B : Nat} {w : World} {v0 v1 v2 v3 v4 : Value} {x0 x1 x2 x3 x4 : List Int} {vs : List Value} {xs : List (List Int)} (h : Grp B w (v0 :: v1 :: v2 :: v3 :: v4 :: vs) (x0 :: x1 :: x2 :: x3 :: x4 :: xs)) : Own B w v4 x4 := (show Own B w v0 x0 ∧ (Own B w v1 x1 ∧ (Own B w v2 x2 ∧ (Own B w v3 x3 ∧ (Own B w v4 x4 ∧ OwnL B w vs xs)))) from h.own).2.2.2.2.1
theorem Grp.o5 {B : Nat} {w : World} {v0 v1 v2 v3 v4 v5 : Value} {x0 x1 x2 x3 x4 x5 : List Int} {vs : List Value} {xs : List (List Int)} (h : Grp B w (v0 :: v1 :: v2 :: v3 :: v4 :: v5 :: vs) (x0 :: x1 :: x2 :: x3 :: x4 :: x5 :: xs)) : Own B w v5 x5 := (show Own B w v0 x0 ∧ (Own B w v1 x1 ∧ (Own B w v2 x2 ∧ (Own B w v3 x3 ∧ (Own B w v4 x4 ∧ (Own B w v5 x5 ∧ OwnL B w vs xs))))) from h.own).2.2.2.2.2.1
/-- The marks of a group, one list behind the other. -/
def marksL (k : Int) : List Nat → List (List Int)
  | [] => []
  | n :: ns => marks k n :: marksL (k + n) ns
/-- The sum of some lengths. -/
def totL : List Nat → Nat
  | [] => 0
  | n :: ns => n + totL ns
/-- What markers leave. -/
def MarkL (B : Nat) (vs : List Value) (k : Int) (ns : List Nat) (w : World) (e : Ending) (w' : World) : Prop :=
  e = .returned (.int .i64 (k + totL ns)) ∧ Grp B w' vs (marksL k ns) ∧ TurnedL vs w w'
/-- What is left of a budget behind lists of these lengths. -/
def leftL (l : Int) (n : Nat) : Int := if l - n < 0 then -1 else l - n
theorem marksL_app (k : Int) : ∀ (ns ms : List Nat), marksL k (ns ++ ms) = marksL k ns ++ marksL (k + totL ns) ms
  | [], ms => by simp [marksL, totL]
  | n :: ns, ms => by
    have e : k + (n : Int) + (totL ns : Int) = k + ((n + totL ns : Nat) : Int) := by omega
    simp only [List.cons_append, marksL, totL, marksL_app (k + n) ns ms, e]
theorem totL_app (ns ms : List Nat) : totL (ns ++ ms) = totL ns + totL ms := by
  induction ns with
  | nil => simp [totL]
  | cons n ns ih => simp only [List.cons_append, totL, ih]; omega
end Go.Proofs.Ytpbnbhiffnnliaa
namespace Go.Proofs.Ytpbnbhiffnnliaa
set_option linter.unusedSimpArgs false
set_option linter.unusedVariables false
open Go.RowKit
/-- A box: its block, its type, its cells. -/
structure Box where
  b : Nat
  T : TypeId
  cs : List Value
/-- Nothing old has turned, but for a reader's block, if one is named (with how many bytes it may have read). -/
def Chg : Option (Nat × Nat) → World → World → Prop
  | none => Ext
  | some g => Mod g.1
theorem Chg.refl : ∀ (g : Option (Nat × Nat)) (w : World), Chg g w w
  | none, w => Ext.refl w
  | some g, w => Mod.refl g.1 w
theorem Chg.trans : ∀ {g : Option (Nat × Nat)} {a b c : World}, Chg g a b → Chg g b c → Chg g a c
  | none, _, _, _, h, k => Ext.trans h k
  | some _, _, _, _, h, k => Mod.trans h k
theorem Chg.of_ext : ∀ {g : Option (Nat × Nat)} {a b : World}, Ext a b → Chg g a b
  | none, _, _, h => h
  | some _, _, _, h => Mod.of_ext h
theorem Chg.size : ∀ {g : Option (Nat × Nat)} {a b : World}, Chg g a b → a.heap.size ≤ b.heap.size
  | none, _, _, h => Ext.size h
  | some _, _, _, h => Mod.size h
theorem Chg.os : ∀ {g : Option (Nat × Nat)} {a b : World}, Chg g a b → b.os = a.os
  | none, _, _, h => Below.os h
  | some _, _, _, h => Mod.os h
theorem Chg.tape : ∀ {g : Option (Nat × Nat)} {a b : World}, Chg g a b → b.tape = a.tape
  | none, _, _, h => Below.tape h
  | some _, _, _, h => Mod.tape h
theorem Chg.output : ∀ {g : Option (Nat × Nat)} {a b : World}, Chg g a b → b.output = a.output
  | none, _, _, h => Below.output h
  | some _, _, _, h => Mod.output h
/-- Not the reader's block. -/
def NotR (g : Option (Nat × Nat)) (k : Nat) : Prop := ∀ q n, g = some (q, n) → q ≠ k
theorem Chg.block : ∀ {g : Option (Nat × Nat)} {a b : World}, Chg g a b → ∀ k, k < a.heap.size → NotR g k → b.heap[k]? = a.heap[k]?
  | none, _, _, h, k, hk, _ => Below.block h k hk
  | some g, _, _, h, k, hk, hg => Mod.block h k hk (fun e => hg g.1 g.2 rfl e.symm)
theorem Chg.mk' {g : Option (Nat × Nat)} {a b : World} (h1 : b.os = a.os) (h2 : b.tape = a.tape) (h3 : b.output = a.output) (hs : a.heap.size ≤ b.heap.size) (hb : ∀ k, k < a.heap.size → NotR g k → b.heap[k]? = a.heap[k]?) : Chg g a b := by
  cases g with
  | none => exact ⟨h1, h2, h3, hs, fun k hk => hb k hk (fun _ _ e => by cases e)⟩
  | some g => exact ⟨h1, h2, h3, hs, fun k hk hn => hb k hk (fun q n e => by cases e; exact fun e => hn e.symm)⟩
theorem Rdr.low {g P B : Nat} {w w' : World} (h : Rdr g P w) (hg : g < B) (hb : ∀ k, k < B → w'.heap[k]? = w.heap[k]?) : Rdr g P w' := by
  obtain ⟨p, sl, h1, h2, h3⟩ := h
  exact ⟨p, sl, by unfold Blk; rw [hb g hg]; exact h1, h2.cells (fun k hk => hb k (by omega)), h3⟩
theorem Own.blocks {B : Nat} {w w' : World} {v : Value} {xs : List Int} (h : Own B w v xs) (hb : ∀ q, v.ownBlock = some q → w'.heap[q]? = w.heap[q]?) : Own B w' v xs := by
  obtain ⟨h1, h2⟩ := h
  refine ⟨h1, h2.imp id ?_⟩
  rintro ⟨k, cap, cur, rfl, hk, hh, r⟩
  exact ⟨k, cap, cur, rfl, hk, by rw [hb k rfl]; exact hh, r⟩
theorem OwnL.blocks {B : Nat} {w w' : World} : ∀ {vs : List Value} {xs : List (List Int)}, OwnL B w vs xs → (∀ v ∈ vs, ∀ q, v.ownBlock = some q → w'.heap[q]? = w.heap[q]?) → OwnL B w' vs xs
  | [], [], _, _ => trivial
  | v :: _, _ :: _, h, hb => ⟨h.1.blocks (hb v (by simp)), OwnL.blocks h.2 (fun u hu => hb u (List.mem_cons_of_mem _ hu))⟩
theorem Grp.blocks {B : Nat} {w w' : World} {vs : List Value} {xs : List (List Int)} (h : Grp B w vs xs) (hb : ∀ v ∈ vs, ∀ q, v.ownBlock = some q → w'.heap[q]? = w.heap[q]?) : Grp B w' vs xs := ⟨h.own.blocks hb, h.apt⟩

theorem OwnL.snoc {B : Nat} {w : World} {v : Value} {x : List Int} (k : Own B w v x) : ∀ {vs : List Value} {xs : List (List Int)}, OwnL B w vs xs → OwnL B w (vs ++ [v]) (xs ++ [x])
  | [], [], _ => ⟨k, trivial⟩
  | _ :: _, _ :: _, h => ⟨h.1, OwnL.snoc k h.2⟩
theorem OwnL.rev {B : Nat} {w : World} : ∀ {vs : List Value} {xs : List (List Int)}, OwnL B w vs xs → OwnL B w vs.reverse xs.reverse
  | [], [], _ => trivial
  | _ :: _, _ :: _, h => by rw [List.reverse_cons, List.reverse_cons]; exact OwnL.snoc h.1 (OwnL.rev h.2)
theorem Grp.rev {B : Nat} {w : World} {vs : List Value} {xs : List (List Int)} (h : Grp B w vs xs) : Grp B w vs.reverse xs.reverse := ⟨h.own.rev, List.pairwise_reverse.2 (h.apt.imp Apt.symm)⟩
structure St (g : Option (Nat × Nat)) (w0 w : World) (L : List Box) (vs : List Value) (xs : List (List Int)) : Prop where
  chg : Chg g w0 w
  rd : ∀ q n, g = some (q, n) → q < w0.heap.size ∧ Rdr q n w
  box : ∀ p ∈ L, Blk w p.b p.cs.toArray p.T ∧ w0.heap.size ≤ p.b
  dis : L.Pairwise fun p q => p.b ≠ q.b
  sep : ∀ p ∈ L, ∀ v ∈ vs, v.ownBlock ≠ some p.b
  grp : Grp w0.heap.size w vs xs
section
variable {g : Option (Nat × Nat)} {w0 w w' : World} {L : List Box} {vs : List Value} {xs : List (List Int)}
theorem St.start (w : World) : St none w w [] [] [] := ⟨Ext.refl w, fun _ _ h => (by cases h), fun _ h => (by cases h), List.Pairwise.nil, fun _ h => (by cases h), Grp.nil _ _⟩
theorem St.startR {g P : Nat} {w : World} (h : Rdr g P w) : St (some (g, P)) w w [] [] [] := ⟨Mod.refl g w, fun _ _ e => (by cases e; exact ⟨h.lt, h⟩), fun _ h => (by cases h), List.Pairwise.nil, fun _ h => (by cases h), Grp.nil _ _⟩
theorem St.ext (S : St none w0 w L vs xs) : Ext w0 w := S.chg
theorem St.mod {g n : Nat} (S : St (some (g, n)) w0 w L vs xs) : Mod g w0 w := S.chg
theorem St.rdr {g n : Nat} (S : St (some (g, n)) w0 w L vs xs) : Rdr g n w := (S.rd g n rfl).2
theorem St.size (S : St g w0 w L vs xs) : w0.heap.size ≤ w.heap.size := S.chg.size
theorem St.notR (S : St g w0 w L vs xs) {k : Nat} (hk : w0.heap.size ≤ k) : NotR g k := fun q n e h => by have := (S.rd q n e).1; omega
/-- What every step is: the rest of the world may have grown, the reader has gone on. -/
theorem St.turn {g' : Option (Nat × Nat)} (S : St g w0 w L vs xs) (c : Chg g' w0 w') (r : ∀ q n, g' = some (q, n) → q < w0.heap.size ∧ Rdr q n w') (hb : ∀ k, k < w.heap.size → w0.heap.size ≤ k → w'.heap[k]? = w.heap[k]?) : St g' w0 w' L vs xs where
  chg := c
  rd := r
  box := fun p hp => ⟨by
    have k := (S.box p hp).1
    unfold Blk; rw [hb p.b k.lt (S.box p hp).2]; exact k, (S.box p hp).2⟩
  dis := S.dis
  sep := S.sep
  grp := S.grp.blocks fun v hv q hq => hb q ((S.grp.own.block v hv q hq).2) ((S.grp.own.block v hv q hq).1)
theorem St.quiet (S : St g w0 w L vs xs) (x : Ext w w') : St g w0 w' L vs xs :=
  S.turn (S.chg.trans (Chg.of_ext x)) (fun q n e => ⟨(S.rd q n e).1, (S.rd q n e).2.keep x⟩) (fun k hk _ => Below.block x k hk)
theorem St.read {g n m : Nat} (S : St (some (g, n)) w0 w L vs xs) (hr : Rdr g m w') (hm : Mod g w w') : St (some (g, m)) w0 w' L vs xs :=
  S.turn (g' := some (g, m)) (Mod.trans S.mod hm) (fun q n e => by cases e; exact ⟨(S.rd _ _ rfl).1, hr⟩) (fun k hk h0 => hm.block k hk (by have := (S.rd _ _ rfl).1; omega))
theorem St.more {g n m : Nat} (S : St (some (g, n)) w0 w L vs xs) (h : n ≤ m) (hp : Room m) : St (some (g, m)) w0 w L vs xs := S.read (S.rdr.mono h hp) (Mod.refl g w)
/-- New boxes and new lists. -/
theorem St.grow (S : St g w0 w L vs xs) (T : St g w0 w' L vs xs) (bs : List Box) (hbs : ∀ p ∈ bs, Blk w' p.b p.cs.toArray p.T ∧ w.heap.size ≤ p.b) (hd : bs.Pairwise fun p q => p.b ≠ q.b) {us : List Value} {ys : List (List Int)} (k : Grp w.heap.size w' us ys)
    (hs : ∀ p ∈ bs, ∀ v ∈ us, v.ownBlock ≠ some p.b) : St g w0 w' (bs ++ L) (us ++ vs) (ys ++ xs) := by
  have hw := S.size
  refine ⟨T.chg, T.rd, fun p hp => ?_, List.pairwise_append.2 ⟨hd, S.dis, fun p hp q hq e => ?_⟩, fun p hp v hv => ?_, ?_⟩
  · rcases List.mem_append.1 hp with hp | hp
    · exact ⟨(hbs p hp).1, Nat.le_trans hw (hbs p hp).2⟩
    · exact T.box p hp
  · have h1 := (hbs p hp).2
    have h2 := (S.box q hq).1.lt
    omega
  · rcases List.mem_append.1 hp with hp | hp
    · rcases List.mem_append.1 hv with hv | hv
      · exact hs p hp v hv
      · intro e
        have h1 := (S.grp.own.block v hv _ e).2
        have h2 := (hbs p hp).2
        omega
    · rcases List.mem_append.1 hv with hv | hv
      · intro e
        have h1 := (k.own.block v hv _ e).1
        have h2 := (S.box p hp).1.lt
        omega
      · exact S.sep p hp v hv
  · exact Grp.app (k.mono hw) T.grp (SepL.symm (S.grp.sep k))
theorem St.made {v : Value} {x : List Int} (S : St g w0 w L vs xs) (o : Own w.heap.size w' v x) (c : Ext w w') : St g w0 w' L (v :: vs) (x :: xs) :=
  S.grow (S.quiet c) [] (fun _ h => by cases h) List.Pairwise.nil (Grp.one o) (fun _ h => by cases h)
theorem St.madeG {us : List Value} {ys : List (List Int)} (S : St g w0 w L vs xs) (k : Grp w.heap.size w' us ys) (c : Ext w w') : St g w0 w' L (us ++ vs) (ys ++ xs) :=
  S.grow (S.quiet c) [] (fun _ h => by cases h) List.Pairwise.nil k (fun _ h => by cases h)
theorem St.grp_read {g n m : Nat} (S : St (some (g, n)) w0 w L vs xs) {us : List Value} {ys : List (List Int)} (k : Grp w.heap.size w' us ys) (hr : Rdr g m w') (hm : Mod g w w') : St (some (g, m)) w0 w' L (us ++ vs) (ys ++ xs) := by
  have T := S.read hr hm
  have S' : St (some (g, m)) w0 w' L vs xs := T
  refine ⟨T.chg, T.rd, T.box, T.dis, fun p hp v hv => ?_, Grp.app (k.mono S.size) T.grp (SepL.symm (S.grp.sep k))⟩
  rcases List.mem_append.1 hv with hv | hv
  · intro e
    have h1 := (k.own.block v hv _ e).1
    have h2 := (S.box p hp).1.lt
    omega
  · exact S.sep p hp v hv
theorem St.madeR {g n m : Nat} {v : Value} {x : List Int} (S : St (some (g, n)) w0 w L vs xs) (o : Own w.heap.size w' v x) (hr : Rdr g m w') (hm : Mod g w w') : St (some (g, m)) w0 w' L (v :: vs) (x :: xs) := S.grp_read (Grp.one o) hr hm
theorem St.newBox (S : St g w0 w L vs xs) (c : Ext w w') {b : Nat} {T : TypeId} {cs : List Value} (k : Blk w' b cs.toArray T) (hb : w.heap.size ≤ b) : St g w0 w' (⟨b, T, cs⟩ :: L) vs xs :=
  S.grow (S.quiet c) [⟨b, T, cs⟩] (fun p hp => by rw [List.mem_singleton] at hp; subst hp; exact ⟨k, hb⟩) (by simp) (Grp.nil _ _) (fun _ _ _ h => by cases h)
theorem St.alloc (S : St g w0 w L vs xs) (T : TypeId) (cs : List Value) : St g w0 (w.alloc (.cells cs.toArray T)) (⟨w.heap.size, T, cs⟩ :: L) vs xs :=
  S.newBox ((Ext.refl w).alloc _) (Blk.new w cs.toArray T) (Nat.le_refl _)
theorem St.made2 {v0 v1 : Value} {x0 x1 : List Int} (S : St g w0 w L vs xs) (k : Grp w.heap.size w' [v0, v1] [x0, x1]) (c : Ext w w') : St g w0 w' L (v0 :: v1 :: vs) (x0 :: x1 :: xs) := S.madeG k c
theorem St.made3 {v0 v1 v2 : Value} {x0 x1 x2 : List Int} (S : St g w0 w L vs xs) (k : Grp w.heap.size w' [v0, v1, v2] [x0, x1, x2]) (c : Ext w w') : St g w0 w' L (v0 :: v1 :: v2 :: vs) (x0 :: x1 :: x2 :: xs) := S.madeG k c
theorem St.made6 {v0 v1 v2 v3 v4 v5 : Value} {x0 x1 x2 x3 x4 x5 : List Int} (S : St g w0 w L vs xs) (k : Grp w.heap.size w' [v0, v1, v2, v3, v4, v5] [x0, x1, x2, x3, x4, x5]) (c : Ext w w') : St g w0 w' L (v0 :: v1 :: v2 :: v3 :: v4 :: v5 :: vs) (x0 :: x1 :: x2 :: x3 :: x4 :: x5 :: xs) := S.madeG k c
theorem St.read2 {g n m : Nat} {v0 v1 : Value} {x0 x1 : List Int} (S : St (some (g, n)) w0 w L vs xs) (k : Grp w.heap.size w' [v0, v1] [x0, x1]) (hr : Rdr g m w') (hm : Mod g w w') : St (some (g, m)) w0 w' L (v0 :: v1 :: vs) (x0 :: x1 :: xs) := S.grp_read k hr hm
theorem St.read6 {g n m : Nat} {v0 v1 v2 v3 v4 v5 : Value} {x0 x1 x2 x3 x4 x5 : List Int} (S : St (some (g, n)) w0 w L vs xs) (k : Grp w.heap.size w' [v0, v1, v2, v3, v4, v5] [x0, x1, x2, x3, x4, x5]) (hr : Rdr g m w') (hm : Mod g w w') : St (some (g, m)) w0 w' L (v0 :: v1 :: v2 :: v3 :: v4 :: v5 :: vs) (x0 :: x1 :: x2 :: x3 :: x4 :: x5 :: xs) := S.grp_read k hr hm
/-- Some boxes and lists are forgotten. -/
theorem St.sub (S : St g w0 w L vs xs) {L' : List Box} {us : List Value} {ys : List (List Int)} (hL : L'.Sublist L) (hv : us.Sublist vs) (ho : OwnL w0.heap.size w us ys) : St g w0 w L' us ys :=
  ⟨S.chg, S.rd, fun p hp => S.box p (hL.subset hp), S.dis.sublist hL, fun p hp v h => S.sep p (hL.subset hp) v (hv.subset h), ⟨ho, S.grp.apt.sublist hv⟩⟩
theorem St.boxes (S : St g w0 w L vs xs) {L' : List Box} (hL : L'.Sublist L) : St g w0 w L' vs xs := S.sub hL (List.Sublist.refl _) S.grp.own
theorem St.noBox (S : St g w0 w L vs xs) : St g w0 w [] vs xs := S.boxes (List.nil_sublist _)
theorem St.noLists (S : St g w0 w L vs xs) : St g w0 w L [] [] := S.sub (List.Sublist.refl _) (List.nil_sublist _) trivial
theorem St.tailList {v : Value} {x : List Int} (S : St g w0 w L (v :: vs) (x :: xs)) : St g w0 w L vs xs := S.sub (List.Sublist.refl _) (List.sublist_cons_self _ _) S.grp.own.2
theorem St.own {v : Value} {x : List Int} (S : St g w0 w L (v :: vs) (x :: xs)) : Own w0.heap.size w v x := S.grp.o0
/-- What a piece with a reader of its own leaves, seen from ahead of the reader's making. -/
theorem St.nest {w1 : World} {q n : Nat} {L' : List Box} {us : List Value} {ys : List (List Int)} (S : St none w0 w L vs xs) (x : Ext w w1) (hq : w.heap.size ≤ q) (I : St (some (q, n)) w1 w' L' us ys) : St none w0 w' (L' ++ L) (us ++ vs) (ys ++ xs) := by
  have c : Ext w w' := Mod.ext x I.mod hq
  refine S.grow (S.quiet c) L' (fun p hp => ⟨(I.box p hp).1, Nat.le_trans x.size (I.box p hp).2⟩) I.dis (I.grp.mono x.size) I.sep
theorem St.nest' {w1 : World} {L' : List Box} {us : List Value} {ys : List (List Int)} (S : St g w0 w L vs xs) (I : St none w w' L' us ys) : St g w0 w' (L' ++ L) (us ++ vs) (ys ++ xs) :=
  S.grow (S.quiet I.ext) L' (fun p hp => I.box p hp) I.dis I.grp I.sep
/-- Lists have turned. -/
theorem St.turned {us : List Value} {ys : List (List Int)} (S : St g w0 w L vs xs) (t : TurnedL us w w') (hsub : ∀ u ∈ us, u ∈ vs) (k : Grp w0.heap.size w' vs ys) : St g w0 w' L vs ys := by
  have hlow : ∀ q, q < w0.heap.size → w'.heap[q]? = w.heap[q]? := fun q hq => t.block q (by have := S.size; omega) (fun u hu e => by have := (S.grp.own.block u (hsub u hu) q e).1; omega)
  refine ⟨Chg.mk' (t.os.trans S.chg.os) (t.tape.trans S.chg.tape) (t.output.trans S.chg.output) (Nat.le_trans S.size t.size) (fun q hq hn => (hlow q hq).trans (S.chg.block q hq hn)), fun q n e => ⟨(S.rd q n e).1, (S.rd q n e).2.low (S.rd q n e).1 hlow⟩, fun p hp => ⟨?_, (S.box p hp).2⟩, S.dis, S.sep, k⟩
  have k := (S.box p hp).1
  unfold Blk; rw [t.block p.b k.lt (fun u hu => S.sep p hp u (hsub u hu))]; exact k
/-- One list, the only one, has grown; it may lie elsewhere. -/
theorem St.grown {v v' : Value} {x x' : List Int} (S : St g w0 w L [v] [x]) (t : Turned v w w') (o : Own w0.heap.size w' v' x') (hT : ∀ p ∈ L, p.T ≠ 3) : St g w0 w' L [v'] [x'] := by
  have hlow : ∀ q, q < w0.heap.size → w'.heap[q]? = w.heap[q]? := fun q hq => t.block q (by have := S.size; omega) (fun e => by have := (S.grp.own.block v (by simp) q e).1; omega)
  have hbx : ∀ p ∈ L, Blk w' p.b p.cs.toArray p.T := fun p hp => by
    have k := (S.box p hp).1
    unfold Blk; rw [t.block p.b k.lt (S.sep p hp v (by simp))]; exact k
  refine ⟨Chg.mk' (t.os.trans S.chg.os) (t.tape.trans S.chg.tape) (t.output.trans S.chg.output) (Nat.le_trans S.size t.size) (fun q hq hn => (hlow q hq).trans (S.chg.block q hq hn)), fun q n e => ⟨(S.rd q n e).1, (S.rd q n e).2.low (S.rd q n e).1 hlow⟩, fun p hp => ⟨hbx p hp, (S.box p hp).2⟩, S.dis, fun p hp u hu => ?_, Grp.one o⟩
  rw [List.mem_singleton] at hu
  subst hu
  exact o.ne (hbx p hp) (hT p hp)
end

theorem OwnL.get {B : Nat} {w : World} : ∀ {vs : List Value} {xs : List (List Int)} (i : Nat) {v : Value} {x : List Int}, OwnL B w vs xs → vs[i]? = some v → xs[i]? = some x → Own B w v x
  | _ :: _, _ :: _, 0, v, x, h, h1, h2 => by simp at h1 h2; subst h1 h2; exact h.1
  | _ :: _, _ :: _, i + 1, v, x, h, h1, h2 => OwnL.get i h.2 (by simpa using h1) (by simpa using h2)
  | [], [], _, _, _, _, h1, _ => by simp at h1
theorem Grp.get {B : Nat} {w : World} {vs : List Value} {xs : List (List Int)} (h : Grp B w vs xs) (i : Nat) {v : Value} {x : List Int} (h1 : vs[i]? = some v) (h2 : xs[i]? = some x) : Own B w v x := h.own.get i h1 h2
theorem OwnL.app' {B : Nat} {w : World} : ∀ {hs_ bs : List Value} {xs ys : List (List Int)}, hs_.length = xs.length → (OwnL B w (hs_ ++ bs) (xs ++ ys) ↔ OwnL B w hs_ xs ∧ OwnL B w bs ys)
  | [], bs, [], ys, _ => by simp [OwnL]
  | _ :: _, _, _ :: _, _, h => by simp only [List.cons_append, OwnL]; rw [OwnL.app' (by simpa using h)]; exact and_assoc.symm
theorem Grp.mid {B : Nat} {w : World} {hs_ us bs : List Value} {xs ys zs : List (List Int)} (h : Grp B w (hs_ ++ (us ++ bs)) (xs ++ (ys ++ zs))) (h1 : hs_.length = xs.length) (h2 : us.length = ys.length) : Grp B w us ys :=
  ⟨((OwnL.app' h2).1 ((OwnL.app' h1).1 h.own).2).1, (List.pairwise_append.1 (List.pairwise_append.1 h.apt).2.1).1⟩
/-- A group in the midst has been turned. -/
theorem Grp.putMid {B : Nat} {w w' : World} {hs_ us bs : List Value} {xs ys zs ys' : List (List Int)} (h : Grp B w (hs_ ++ (us ++ bs)) (xs ++ (ys ++ zs))) (h1 : hs_.length = xs.length) (h2 : us.length = ys.length) (h3 : us.length = ys'.length) (t : TurnedL us w w') (k : Grp B w' us ys') : Grp B w' (hs_ ++ (us ++ bs)) (xs ++ (ys' ++ zs)) := by
  have hp := List.pairwise_append.1 h.apt
  have hq := List.pairwise_append.1 hp.2.1
  refine ⟨(OwnL.app' h1).2 ⟨?_, (OwnL.app' h3).2 ⟨k.own, ?_⟩⟩, h.apt⟩
  · exact OwnL.turned t ((OwnL.app' h1).1 h.own).1 ⟨fun u hu a ha => (hp.2.2 a ha u (List.mem_append_left _ hu)).symm⟩
  · exact OwnL.turned t ((OwnL.app' h2).1 ((OwnL.app' h1).1 h.own).2).2 ⟨fun u hu b hb => hq.2.2 u hu b hb⟩
theorem St.marked {g : Option (Nat × Nat)} {w0 w w' : World} {L : List Box} {hs_ us bs : List Value} {xs ys zs ys' : List (List Int)} (S : St g w0 w L (hs_ ++ (us ++ bs)) (xs ++ (ys ++ zs))) (h1 : hs_.length = xs.length) (h2 : us.length = ys.length) (h3 : us.length = ys'.length) (t : TurnedL us w w') (k : Grp w0.heap.size w' us ys') : St g w0 w' L (hs_ ++ (us ++ bs)) (xs ++ (ys' ++ zs)) :=
  S.turned t (fun u hu => List.mem_append_right _ (List.mem_append_left _ hu)) (S.grp.putMid h1 h2 h3 t k)
theorem Own.rebase {B B' : Nat} {w : World} {v : Value} {xs : List Int} (h : Own B w v xs) (hb : ∀ q, v.ownBlock = some q → B' ≤ q) : Own B' w v xs := by
  obtain ⟨h1, h2⟩ := h
  refine ⟨h1, h2.imp id ?_⟩
  rintro ⟨g, cap, cur, rfl, hg, r⟩
  exact ⟨g, cap, cur, rfl, hb g rfl, r⟩
/-- A list that is not empty lies behind B': so does the world's end. -/
theorem Own.below {B B' : Nat} {w : World} {v : Value} {xs : List Int} (h : Own B w v xs) (hb : ∀ q, v.ownBlock = some q → B' ≤ q) (hx : 0 < xs.length) : B' ≤ w.heap.size := by
  obtain ⟨_, ⟨_, h2⟩ | ⟨g, cap, cur, rfl, hg, hh, _⟩⟩ := h
  · omega
  · have := hb g rfl
    have := lt_of_block hh
    omega
/-- The first list has grown; it may lie elsewhere, but behind all others. -/
theorem St.grownH {g : Option (Nat × Nat)} {w0 w w' : World} {L : List Box} {vs : List Value} {xs : List (List Int)} {v v' : Value} {x x' : List Int} {B2 : Nat} (S : St g w0 w L (v :: vs) (x :: xs)) (t : Turned v w w') (o : Own B2 w' v' x') (hB : w0.heap.size ≤ B2) (hvs : ∀ u ∈ vs, ∀ q, u.ownBlock = some q → q < B2) (hold : ∀ q, v.ownBlock = some q → B2 ≤ q) (hT : ∀ p ∈ L, p.T ≠ 3) : St g w0 w' L (v' :: vs) (x' :: xs) := by
  have hlow : ∀ q, q < w0.heap.size → w'.heap[q]? = w.heap[q]? := fun q hq => t.block q (by have := S.size; omega) (fun e => by have := hold q e; omega)
  have hbx : ∀ p ∈ L, Blk w' p.b p.cs.toArray p.T := fun p hp => by
    have k := (S.box p hp).1
    unfold Blk; rw [t.block p.b k.lt (S.sep p hp v (by simp))]; exact k
  have hg : OwnL w0.heap.size w' vs xs := OwnL.blocks S.grp.own.2 (fun u hu q hq => t.block q (S.grp.own.2.block u hu q hq).2 (fun e => by have := hold q e; have := hvs u hu q hq; omega))
  refine ⟨Chg.mk' (t.os.trans S.chg.os) (t.tape.trans S.chg.tape) (t.output.trans S.chg.output) (Nat.le_trans S.size t.size) (fun q hq hn => (hlow q hq).trans (S.chg.block q hq hn)), fun q n e => ⟨(S.rd q n e).1, (S.rd q n e).2.low (S.rd q n e).1 hlow⟩, fun p hp => ⟨hbx p hp, (S.box p hp).2⟩, S.dis, fun p hp u hu => ?_, ⟨⟨o.mono hB, hg⟩, List.pairwise_cons.2 ⟨fun u hu => ⟨fun q h1 h2 => ?_, fun q h2 h1 => ?_⟩, (List.pairwise_cons.1 S.grp.apt).2⟩⟩⟩
  · rcases List.mem_cons.1 hu with h | h
    · rw [h]; exact o.ne (hbx p hp) (hT p hp)
    · exact S.sep p hp u (List.mem_cons_of_mem _ h)
  · have a := (o.block q h2).1
    have b := hvs u hu q h1
    omega
  · have a := (o.block q h2).1
    have b := hvs u hu q h1
    omega
theorem Grp.sel {B : Nat} {w : World} {vs : List Value} {xs : List (List Int)} (h : Grp B w vs xs) (hl : vs.length = xs.length) : ∀ is : List Nat, is.Nodup → (∀ i ∈ is, i < vs.length) → Grp B w (is.map fun i => vs.getD i undef) (is.map fun i => xs.getD i []) := by
  intro is hn hi
  refine ⟨?_, ?_⟩
  · induction is with
    | nil => trivial
    | cons i r ih =>
      have hi0 := hi i (by simp)
      refine ⟨h.own.get i (v := vs.getD i undef) (x := xs.getD i []) (by simp [hi0]) (by simp [show i < xs.length by omega]), ih (List.nodup_cons.1 hn).2 (fun j hj => hi j (List.mem_cons_of_mem _ hj))⟩
  · refine List.pairwise_map.2 ?_
    have key : ∀ i j, i < vs.length → j < vs.length → i ≠ j → Apt (vs.getD i undef) (vs.getD j undef) := by
      intro i j h1 h2 hne
      have e : ∀ k (hk : k < vs.length), vs.getD k undef = vs[k] := fun k hk => by simp [hk]
      rw [e i h1, e j h2]
      rcases Nat.lt_or_gt_of_ne hne with h3 | h3
      · exact List.pairwise_iff_getElem.1 h.apt i j h1 h2 h3
      · exact (List.pairwise_iff_getElem.1 h.apt j i h2 h1 h3).symm
    exact List.Pairwise.imp_of_mem (fun {a b} ha hb hne => key a b (hi a ha) (hi b hb) hne) hn
/-! The cells. -/
theorem Own.setCells' {w : World} (b : Nat) : ∀ (vs : List Value) (o : Nat) (w : World) (k : Nat), k ≠ b → (w.setCells b o vs).heap[k]? = w.heap[k]?
  | [], _, _, _, _ => rfl
  | v :: r, o, w, k, hk => (Own.setCells' (w := w) b r (o + 1) _ k hk).trans (Below.heap_setCell _ _ _ _ (by show k ≠ b; exact hk))
/-- The cells from 'off' on written anew. -/
def splice (cs : List Value) (off : Nat) (part : List Value) : List Value := cs.take off ++ (part ++ cs.drop (off + part.length))
theorem setCells_row (b : Nat) (T : TypeId) : ∀ (vs : List Value) (o : Nat) (cs : Array Value) (w : World), Blk w b cs T → o + vs.length ≤ cs.size → Blk (w.setCells b o vs) b (splice cs.toList o vs).toArray T ∧ (∀ k, k ≠ b → (w.setCells b o vs).heap[k]? = w.heap[k]?) ∧ (w.setCells b o vs).heap.size = w.heap.size ∧ (w.setCells b o vs).os = w.os ∧ (w.setCells b o vs).tape = w.tape ∧ (w.setCells b o vs).output = w.output
  | [], o, cs, w, h, _ => by
    refine ⟨?_, fun _ _ => rfl, rfl, rfl, rfl, rfl⟩
    have : (splice cs.toList o []).toArray = cs := by simp [splice]
    rw [this]; exact h
  | v :: r, o, cs, w, h, hl => by
    have h1 : Blk (w.setCell ⟨b, o, none⟩ v) b (cs.setIfInBounds o v) T := heap_setCell_same w b o cs T v h
    have hl' : o + 1 + r.length ≤ (cs.setIfInBounds o v).size := by simp at hl ⊢; omega
    obtain ⟨a1, a2, a3, a4, a5, a6⟩ := setCells_row b T r (o + 1) _ _ h1 hl'
    refine ⟨?_, fun k hk => (a2 k hk).trans (Below.heap_setCell _ _ _ _ (by show k ≠ b; exact hk)), ?_, a4, a5, a6⟩
    · have e : (splice (cs.setIfInBounds o v).toList (o + 1) r) = splice cs.toList o (v :: r) := by
        simp only [splice, Array.toList_setIfInBounds]
        have ho : o < cs.toList.length := by simp at hl ⊢; omega
        rw [List.take_set, List.take_add_one, List.set_append_right _ _ (by simp; omega)]
        have e1 : (cs.toList[o]?).toList = [cs.toList[o]] := by simp [ho]
        rw [List.drop_set_of_lt (by omega), e1]
        simp
        have : o - min o cs.size = 0 := by simp at ho; omega
        rw [this]
        simp
        omega
      rw [← e]; exact a1
    · rw [show w.setCells b o (v :: r) = (w.setCell ⟨b, o, none⟩ v).setCells b (o + 1) r from rfl, a3]; simp [World.setCell]
/-- One box of a list of boxes written anew. -/
inductive Put : List Box → Nat → TypeId → List Value → List Value → List Box → Prop
  | head {g : Nat} {T : TypeId} {cs cs' : List Value} {L : List Box} : Put (⟨g, T, cs⟩ :: L) g T cs cs' (⟨g, T, cs'⟩ :: L)
  | tail {g : Nat} {T : TypeId} {cs cs' : List Value} {p : Box} {L L' : List Box} : Put L g T cs cs' L' → Put (p :: L) g T cs cs' (p :: L')
theorem Put.mem {L L' : List Box} {g : Nat} {T : TypeId} {cs cs' : List Value} (h : Put L g T cs cs' L') : (⟨g, T, cs⟩ : Box) ∈ L := by
  induction h with
  | head => exact List.Mem.head _
  | tail _ ih => exact List.Mem.tail _ ih
theorem Put.mem' {L L' : List Box} {g : Nat} {T : TypeId} {cs cs' : List Value} (h : Put L g T cs cs' L') : ∀ p ∈ L', p = ⟨g, T, cs'⟩ ∨ p ∈ L := by
  induction h with
  | head => intro p hp; rcases List.mem_cons.1 hp with h | h; (exact .inl h); exact .inr (List.Mem.tail _ h)
  | tail _ ih => intro p hp; rcases List.mem_cons.1 hp with h | h; (subst h; exact .inr (List.Mem.head _)); exact (ih p h).imp id (List.Mem.tail _)
theorem Put.bs {L L' : List Box} {g : Nat} {T : TypeId} {cs cs' : List Value} (h : Put L g T cs cs' L') : L'.map Box.b = L.map Box.b := by
  induction h with
  | head => rfl
  | tail _ ih => simp only [List.map_cons, ih]
theorem Put.eq {L L' : List Box} {g : Nat} {T : TypeId} {cs cs' : List Value} (h : Put L g T cs cs' L') (hd : L.Pairwise fun p q => p.b ≠ q.b) : ∀ p ∈ L', p.b = g → p = ⟨g, T, cs'⟩ := by
  induction h with
  | head =>
    intro p hp e
    rcases List.mem_cons.1 hp with h | h
    · exact h
    · exact absurd e.symm ((List.pairwise_cons.1 hd).1 p h)
  | tail h ih =>
    intro p hp e
    rcases List.mem_cons.1 hp with h1 | h1
    · subst h1; exact absurd e ((List.pairwise_cons.1 hd).1 _ h.mem)
    · exact ih (List.pairwise_cons.1 hd).2 p h1 e
theorem pair_map {L : List Box} : (L.Pairwise fun p q => p.b ≠ q.b) ↔ (L.map Box.b).Pairwise (· ≠ ·) := (List.pairwise_map).symm
theorem St.stored {g : Option (Nat × Nat)} {w0 w w' : World} {L L' : List Box} {vs : List Value} {xs : List (List Int)} (S : St g w0 w L vs xs) {b : Nat} {T : TypeId} {cs cs' : List Value} (hp : Put L b T cs cs' L')
    (k : Blk w' b cs'.toArray T) (hb : ∀ q, q ≠ b → w'.heap[q]? = w.heap[q]?) (hs : w'.heap.size = w.heap.size) (h1 : w'.os = w.os) (h2 : w'.tape = w.tape) (h3 : w'.output = w.output) : St g w0 w' L' vs xs := by
  have hm := S.box _ hp.mem
  have hlow : ∀ q, q < w0.heap.size → w'.heap[q]? = w.heap[q]? := fun q hq => hb q (by have := hm.2; show q ≠ b; simp only at this; omega)
  refine ⟨Chg.mk' (h1.trans S.chg.os) (h2.trans S.chg.tape) (h3.trans S.chg.output) (by have := S.size; omega) (fun q hq hn => (hlow q hq).trans (S.chg.block q hq hn)), fun q n e => ⟨(S.rd q n e).1, (S.rd q n e).2.low (S.rd q n e).1 hlow⟩, fun p hp' => ?_, ?_, fun p hp' v hv => ?_, ?_⟩
  · by_cases e : p.b = b
    · rw [hp.eq S.dis p hp' e]; exact ⟨k, hm.2⟩
    · rcases hp.mem' p hp' with h | h
      · rw [h] at e; exact absurd rfl e
      · have := S.box p h
        refine ⟨?_, this.2⟩
        have k := this.1
        unfold Blk; rw [hb p.b e]; exact k
  · rw [pair_map, hp.bs, ← pair_map]; exact S.dis
  · rcases hp.mem' p hp' with h | h
    · rw [h]; exact S.sep _ hp.mem v hv
    · exact S.sep p h v hv
  · exact S.grp.blocks fun v hv q hq => hb q (fun e => S.sep _ hp.mem v hv (by rw [hq, e]))

/-- The n cells from off on. -/
inductive Cut : List Value → Nat → Nat → List Value → Prop
  | skip {x : Value} {cs part : List Value} {off n : Nat} : Cut cs off n part → Cut (x :: cs) (off + 1) n part
  | take {x : Value} {cs part : List Value} {n : Nat} : Cut cs 0 n part → Cut (x :: cs) 0 (n + 1) (x :: part)
  | done {cs : List Value} : Cut cs 0 0 []
theorem Cut.eq {cs part : List Value} {off n : Nat} (h : Cut cs off n part) : (cs.drop off).take n = part ∧ part.length = n := by
  induction h with
  | skip _ ih => simpa using ih
  | take _ ih => simpa using ih
  | done => simp
/-- The n cells from off on of the box b. -/
inductive Lod : List Box → Nat → Nat → Nat → List Value → Prop
  | head {b : Nat} {T : TypeId} {cs part : List Value} {off n : Nat} {L : List Box} : Cut cs off n part → Lod (⟨b, T, cs⟩ :: L) b off n part
  | tail {b : Nat} {part : List Value} {off n : Nat} {p : Box} {L : List Box} : Lod L b off n part → Lod (p :: L) b off n part
theorem Lod.mem {L : List Box} {b off n : Nat} {part : List Value} (h : Lod L b off n part) : ∃ T cs, (⟨b, T, cs⟩ : Box) ∈ L ∧ (cs.drop off).take n = part ∧ part.length = n := by
  induction h with
  | head h => exact ⟨_, _, List.Mem.head _, h.eq⟩
  | tail _ ih => obtain ⟨T, cs, h1, h2⟩ := ih; exact ⟨T, cs, List.Mem.tail _ h1, h2⟩
/-- The cells from off on written anew. -/
inductive Spl : List Value → Nat → List Value → List Value → Prop
  | skip {x : Value} {cs cs' part : List Value} {off : Nat} : Spl cs off part cs' → Spl (x :: cs) (off + 1) part (x :: cs')
  | put {x y : Value} {cs cs' part : List Value} : Spl cs 0 part cs' → Spl (x :: cs) 0 (y :: part) (y :: cs')
  | done {cs : List Value} : Spl cs 0 [] cs
theorem Spl.eq {cs cs' part : List Value} {off : Nat} (h : Spl cs off part cs') : splice cs off part = cs' ∧ off + part.length ≤ cs.length := by
  induction h with
  | skip _ ih => refine ⟨?_, by simp; omega⟩; rw [← ih.1]; simp [splice, Nat.add_right_comm]
  | put _ ih => refine ⟨?_, by simp; omega⟩; rw [← ih.1]; simp [splice]
  | done => simp [splice]
/-- The cells from off on of the box b written anew. -/
inductive Sto : List Box → Nat → Nat → List Value → List Box → Prop
  | head {b : Nat} {T : TypeId} {cs cs' part : List Value} {off : Nat} {L : List Box} : Spl cs off part cs' → Sto (⟨b, T, cs⟩ :: L) b off part (⟨b, T, cs'⟩ :: L)
  | tail {b : Nat} {part : List Value} {off : Nat} {p : Box} {L L' : List Box} : Sto L b off part L' → Sto (p :: L) b off part (p :: L')
theorem Sto.put {L L' : List Box} {b off : Nat} {part : List Value} (h : Sto L b off part L') : ∃ T cs cs', Put L b T cs cs' L' ∧ splice cs off part = cs' ∧ off + part.length ≤ cs.length := by
  induction h with
  | head h => exact ⟨_, _, _, Put.head, h.eq⟩
  | tail _ ih => obtain ⟨T, cs, cs', h1, h2⟩ := ih; exact ⟨T, cs, cs', Put.tail h1, h2⟩
theorem St.out {g : Option (Nat × Nat)} {w0 w : World} {L : List Box} {vs : List Value} {xs : List (List Int)} (S : St g w0 w L vs xs) : St g w0 w L vs xs := S

/-! The operations. -/
section
variable {P : Program} {ops : Array Oper} {rest : List Oper} {o : Oper} {a : Act} {Q : Exit → Act → World → Prop} {g : Option (Nat × Nat)} {w0 w : World} {L : List Box} {vs : List Value} {xs : List (List Int)}
/-- A guarded operation that is wanted. -/
theorem wpList_want {gp : Nat × Bool} (hg : o.guard = some gp) (hw : Region.wanted o (yielded ops a.tmps) = true) (h : wpList P ops Q ({ o with guard := none } :: rest) a w) : wpList P ops Q (o :: rest) a w := by
  unfold wpList at h ⊢
  rw [if_pos hw]
  rw [if_pos (show Region.wanted { o with guard := none } (yielded ops a.tmps) = true from rfl)] at h
  exact h
theorem St.wpAlloc (T : TypeId) (z : Value) (cs : List Value) (hz : (P.info? T).bind (·.zero) = some z) (hc : z.cells = cs.toArray) (S : St g w0 w L vs xs) (hgd : o.guard = none) (ho : o.op = .alloc T)
    (h : ∀ b w', St g w0 w' (⟨b, T, cs⟩ :: L) vs xs → wpList P ops Q rest (a.put o.dst (.pointer (some ⟨b, 0, none⟩))) w') : wpList P ops Q (o :: rest) a w := by
  refine wpList_plain hgd fun K hK => ?_
  unfold Oper.wp execOp
  cases hq : P.info? T with
  | none => rw [hq] at hz; cases hz
  | some i =>
    have hz' : i.zero = some z := by rw [hq] at hz; exact hz
    have hrun : (Instr.alloc T true (.tuple #[])).run P w = .ok (.pointer (some ⟨w.heap.size, 0, none⟩)) (w.alloc (.cells cs.toArray T)) := by
      simp [Instr.alloc, zeroValue, typeInfo, hq, hz', Sem.run_bind, newVar, newRow, hc]
    simp only [ho, Sem.run_bind, hrun, Result.andThen_ok, Sem.run_pure]
    exact hK _ _ (h w.heap.size (w.alloc (.cells cs.toArray T)) (S.alloc T cs))
theorem St.wpBox (T : TypeId) (S : St g w0 w L vs xs) (hgd : o.guard = none) (x : Operand) (ho : o.op = .box T x) (cs : List Value) (hc : (a.eval x).cells = cs.toArray)
    (h : ∀ b w', St g w0 w' (⟨b, T, cs⟩ :: L) vs xs → wpList P ops Q rest (a.put o.dst (.pointer (some ⟨b, 0, none⟩))) w') : wpList P ops Q (o :: rest) a w := by
  refine wpList_plain hgd fun K hK => ?_
  unfold Oper.wp execOp
  simp only [ho, Sem.run_bind, Instr.box, newVar, newRow, run_newObj_alloc, Sem.run_pure, Result.andThen_ok, hc]
  exact hK _ _ (h w.heap.size (w.alloc (.cells cs.toArray T)) (S.alloc T cs))
theorem St.wpLoad (ty : TypeId) (n : Nat) (d : TypeDesc) (hu : P.underlying ty = some d) (hd : d.isRow = true) (hi : (P.info? ty).map (·.size) = some n) (S : St g w0 w L vs xs) (hgd : o.guard = none) (x : Operand) (ho : o.op = .load ty x)
    (b off : Nat) (hx : a.eval x = .pointer (some ⟨b, off, none⟩)) (T : TypeId) (cs part : List Value) (hm : (⟨b, T, cs⟩ : Box) ∈ L) (hp : (cs.drop off).take n = part) (hl : part.length = n)
    (h : wpList P ops Q rest (a.put o.dst (.agg part.toArray)) w) : wpList P ops Q (o :: rest) a w := by
  refine wpList_load_mid hgd ty x ho b off hx part d (fun j v hj => ?_) hu hd (by rw [hl]; exact hi) h
  have k := (S.box _ hm).1
  rw [k.cell, List.getElem?_toArray]
  rw [← hp, List.getElem?_take] at hj
  split at hj
  · rw [List.getElem?_drop] at hj; exact hj
  · cases hj
theorem St.wpLoad1 (ty : TypeId) (d : TypeDesc) (hu : P.underlying ty = some d) (hd : d.isRow = false) (S : St g w0 w L vs xs) (hgd : o.guard = none) (x : Operand) (ho : o.op = .load ty x)
    (b off : Nat) (hx : a.eval x = .pointer (some ⟨b, off, none⟩)) (T : TypeId) (cs : List Value) (v : Value) (hm : (⟨b, T, cs⟩ : Box) ∈ L) (hv : cs[off]? = some v)
    (h : wpList P ops Q rest (a.put o.dst v) w) : wpList P ops Q (o :: rest) a w := by
  refine wpList_plain hgd fun K hK => ?_
  have k := (S.box _ hm).1
  have hc : w.cell? ⟨b, off, none⟩ = some v := by rw [k.cell, List.getElem?_toArray]; exact hv
  have hagg : (isAgg ty).run P w = .ok false w := by
    unfold isAgg
    rw [Sem.run_bind, run_underlying hu w]
    cases d <;> simp_all
  have hrun : (loadVar ty ⟨b, off, none⟩).run P w = .ok v w := by
    simp [loadVar, Sem.run_bind, hagg, hc]
  unfold Oper.wp execOp
  simp only [ho, hx, Instr.loadAt, Instr.sureAddr, Sem.run_bind, Sem.run_pure, Result.andThen_ok, hrun]
  exact hK _ _ h
theorem St.wpStore (ty : TypeId) (n : Nat) (hi : (P.info? ty).map (·.size) = some n) (S : St g w0 w L vs xs) (hgd : o.guard = none) (hno : o.dst = none) (x y : Operand) (ho : o.op = .store ty x y)
    (b off : Nat) (hx : a.eval x = .pointer (some ⟨b, off, none⟩)) (part : List Value) (hy : a.eval y = .agg part.toArray) (hl : part.length = n) (h1 : part.all (·.oneCell') = true)
    (T : TypeId) (cs cs' : List Value) (L' : List Box) (hput : Put L b T cs cs' L') (hs : splice cs off part = cs') (hfit : off + n ≤ cs.length)
    (h : ∀ w', St g w0 w' L' vs xs → wpList P ops Q rest a w') : wpList P ops Q (o :: rest) a w := by
  have k := (S.box _ hput.mem).1
  obtain ⟨a1, a2, a3, a4, a5, a6⟩ := setCells_row b T part off cs.toArray w k (by simp; omega)
  refine wpList_store_mid hgd ty x y ho b off part.toArray hx hy (fun j hj => ⟨?_, k.free _⟩) (by simp [hl, hi]) ?_ ?_
  · rw [k.cell]
    have : off + j < cs.length := by simp at hj; omega
    simp [this]
  · simpa using h1
  · rw [hno]
    refine h _ (S.stored hput ?_ a2 a3 a4 a5 a6)
    rw [← hs]
    exact a1
theorem St.wpStore1 (ty : TypeId) (hi : (P.info? ty).map (·.size) = some 1) (S : St g w0 w L vs xs) (hgd : o.guard = none) (hno : o.dst = none) (x y : Operand) (ho : o.op = .store ty x y)
    (b off : Nat) (hx : a.eval x = .pointer (some ⟨b, off, none⟩)) (v : Value) (hy : a.eval y = v) (h1 : v.oneCell' = true)
    (T : TypeId) (cs cs' : List Value) (L' : List Box) (hput : Put L b T cs cs' L') (hs : splice cs off [v] = cs') (hfit : off + 1 ≤ cs.length)
    (h : ∀ w', St g w0 w' L' vs xs → wpList P ops Q rest a w') : wpList P ops Q (o :: rest) a w := by
  have k := (S.box _ hput.mem).1
  obtain ⟨a1, a2, a3, a4, a5, a6⟩ := setCells_row b T [v] off cs.toArray w k (by simp; omega)
  have hvc : v.cells = #[v] := by
    cases v <;> first | rfl | (simp [Value.oneCell'] at h1)
  have hst := run_storeCells_cells (P := P) b off [v] 0 w (fun j hj => by
      have : j = 0 := by simp at hj; omega
      subst this
      rw [k.cell]
      have : off < cs.length := by omega
      simp [this]) (fun j hj => k.free _) (fun u hu => by rw [List.mem_singleton] at hu; subst hu; exact h1)
  have hrun : (storeVar ty ⟨b, off, none⟩ v).run P w = .ok () (w.setCells b off [v]) := by
    cases hq : P.info? ty with
    | none => simp [hq] at hi
    | some i =>
      have hs : i.size = 1 := by simpa [hq] using hi
      simp only [Nat.add_zero] at hst
      simp [storeVar, sizeOf, typeInfo, hq, hvc, hs, hst]
  refine wpList_plain hgd fun K hK => ?_
  unfold Oper.wp execOp
  simp only [ho, hx, hy, Instr.storeAt, Instr.sureAddr, Sem.run_bind, Sem.run_pure, Result.andThen_ok, hrun]
  have hK' := hK (a.put o.dst undef) (w.setCells b off [v])
  rw [hno] at hK'
  refine hK _ _ ?_
  rw [hno]
  refine h _ (S.stored hput ?_ a2 a3 a4 a5 a6)
  rw [← hs]
  exact a1
end
end Go.Proofs.Ytpbnbhiffnnliaa
namespace Go.Proofs.Ytpbnbhiffnnliaa
set_option linter.unusedSimpArgs false
set_option linter.unusedVariables false
open Go.RowKit
/-- One result. -/
def resOne (tmps : Array Value) : ResultVar → Sem Value
  | .tmp t => pure (tmps.getD t undef)
  | .cell a t => do loadVar t (← asAddr (tmps.getD a undef))
theorem results_eq (fn : Func) (tmps : Array Value) : results fn tmps = (do
    let vs ← fn.results.mapM (resOne tmps)
    pure (if h : vs.size = 1 then vs[0] else .tuple vs)) := by
  unfold results
  congr 2
section
variable {P : Program} {fn : Func} {tmps : Array Value} {w : World}
theorem res1 {r : ResultVar} {v : Value} (h : fn.results = #[r]) (h1 : (resOne tmps r).run P w = .ok v w) : (results fn tmps).run P w = .ok v w := by
  rw [results_eq, h]; simp [Sem.run_bind, h1]
theorem res2 {r q : ResultVar} {v u : Value} (h : fn.results = #[r, q]) (h1 : (resOne tmps r).run P w = .ok v w) (h2 : (resOne tmps q).run P w = .ok u w) : (results fn tmps).run P w = .ok (.tuple #[v, u]) w := by
  rw [results_eq, h]; simp [Sem.run_bind, h1, h2]
theorem res3 {r q s : ResultVar} {v u z : Value} (h : fn.results = #[r, q, s]) (h1 : (resOne tmps r).run P w = .ok v w) (h2 : (resOne tmps q).run P w = .ok u w) (h3 : (resOne tmps s).run P w = .ok z w) : (results fn tmps).run P w = .ok (.tuple #[v, u, z]) w := by
  rw [results_eq, h]; simp [Sem.run_bind, h1, h2, h3]
theorem res4 {r q s t : ResultVar} {v u z x : Value} (h : fn.results = #[r, q, s, t]) (h1 : (resOne tmps r).run P w = .ok v w) (h2 : (resOne tmps q).run P w = .ok u w) (h3 : (resOne tmps s).run P w = .ok z w) (h4 : (resOne tmps t).run P w = .ok x w) : (results fn tmps).run P w = .ok (.tuple #[v, u, z, x]) w := by
  rw [results_eq, h]; simp [Sem.run_bind, h1, h2, h3, h4]
theorem resTmp (t : Tmp) : (resOne tmps (.tmp t)).run P w = .ok (tmps.getD t undef) w := rfl
theorem St.resCell {g : Option (Nat × Nat)} {w0 : World} {L : List Box} {vs : List Value} {xs : List (List Int)} (ty : TypeId) (n : Nat) (d : TypeDesc) (hu : P.underlying ty = some d) (hd : d.isRow = true) (hi : (P.info? ty).map (·.size) = some n) (S : St g w0 w L vs xs) (p : Tmp)
    (b : Nat) (hp : tmps.getD p undef = .pointer (some ⟨b, 0, none⟩)) (T : TypeId) (cs : List Value) (hm : (⟨b, T, cs⟩ : Box) ∈ L) (hl : cs.length = n) : (resOne tmps (.cell p ty)).run P w = .ok (.agg cs.toArray) w := by
  have k := (S.box _ hm).1
  have hr := run_loadVar_mid (P := P) w b 0 ty cs d (fun j v hj => by rw [k.cell, List.getElem?_toArray, Nat.zero_add]; exact hj) hu hd (by rw [hl]; exact hi)
  have hp' : tmps[p]?.getD undef = .pointer (some ⟨b, 0, none⟩) := by simpa using hp
  simp [resOne, hp', asAddr, hr]
end
theorem cut_one {cs : List Value} {off : Nat} {v : Value} (h : (cs.drop off).take 1 = [v]) : cs[off]? = some v := by
  have := congrArg (fun l : List Value => l[0]?) h
  simpa [List.getElem?_take, List.getElem?_drop] using this
section
variable {ops : Array Oper} {rest : List Oper} {o : Oper} {a : Act} {Q : Exit → Act → World → Prop} {g : Option (Nat × Nat)} {w0 w : World} {L : List Box} {vs : List Value} {xs : List (List Int)}

theorem ldiM (S : St g w0 w L vs xs) {x : Operand} {b off : Nat} {part : List Value} (h : wpList Try.prog ops Q rest (a.put o.dst (.agg part.toArray)) w) (hgd : o.guard = none := by rfl) (ho : o.op = .load 25 x := by rfl) (hx : a.eval x = .pointer (some ⟨b, off, none⟩) := by rfl) (hp : Lod L b off 3 part := by repeat constructor) : wpList Try.prog ops Q (o :: rest) a w := by
  obtain ⟨T, cs, h1, h2, h3⟩ := hp.mem
  exact St.wpLoad 25 3 _ Try.underlying25 rfl (by kernel_rfl) S hgd x ho b off hx T cs part h1 h2 h3 h
theorem stiM (S : St g w0 w L vs xs) {x y : Operand} {b off : Nat} {part : List Value} {L' : List Box} (h : ∀ w', St g w0 w' L' vs xs → wpList Try.prog ops Q rest a w') (hgd : o.guard = none := by rfl) (hno : o.dst = none := by rfl) (ho : o.op = .store 25 x y := by rfl) (hx : a.eval x = .pointer (some ⟨b, off, none⟩) := by rfl) (hy : a.eval y = .agg part.toArray := by rfl) (hl : part.length = 3 := by rfl) (h1 : part.all (·.oneCell') = true := by rfl) (hp : Sto L b off part L' := by repeat constructor) : wpList Try.prog ops Q (o :: rest) a w := by
  obtain ⟨T, cs, cs', p1, p2, p3⟩ := hp.put
  exact St.wpStore 25 3 (by kernel_rfl) S hgd hno x y ho b off hx part hy hl h1 T cs cs' L' p1 p2 (by omega) h
theorem aliM (S : St g w0 w L vs xs) (h : ∀ b w', St g w0 w' (⟨b, 25, [.int .i64 0, .int .i64 0, .slice none 0 0]⟩ :: L) vs xs → wpList Try.prog ops Q rest (a.put o.dst (.pointer (some ⟨b, 0, none⟩))) w') (hgd : o.guard = none := by rfl) (ho : o.op = .alloc 25 := by rfl) : wpList Try.prog ops Q (o :: rest) a w :=
  St.wpAlloc 25 (.agg #[.int .i64 0, .int .i64 0, .slice none 0 0]) [.int .i64 0, .int .i64 0, .slice none 0 0] (by kernel_rfl) rfl S hgd ho h
theorem bxiM (S : St g w0 w L vs xs) {x : Operand} {cs : List Value} (h : ∀ b w', St g w0 w' (⟨b, 25, cs⟩ :: L) vs xs → wpList Try.prog ops Q rest (a.put o.dst (.pointer (some ⟨b, 0, none⟩))) w') (hgd : o.guard = none := by rfl) (ho : o.op = .box 25 x := by rfl) (hx : a.eval x = .agg cs.toArray := by rfl) : wpList Try.prog ops Q (o :: rest) a w :=
  St.wpBox 25 S hgd x ho cs (by rw [hx]; rfl) h
theorem rsiM {tmps : Array Value} {p : Tmp} {b : Nat} {T : TypeId} {cs : List Value} (S : St g w0 w L vs xs) (hp : tmps.getD p undef = .pointer (some ⟨b, 0, none⟩) := by rfl) (hm : (⟨b, T, cs⟩ : Box) ∈ L := by repeat constructor) (hl : cs.length = 3 := by rfl) : (resOne tmps (.cell p 25)).run Try.prog w = .ok (.agg cs.toArray) w :=
  St.resCell 25 3 _ Try.underlying25 rfl (by kernel_rfl) S p b hp T cs hm hl
theorem ldlM (S : St g w0 w L vs xs) {x : Operand} {b off : Nat} {part : List Value} (h : wpList Try.prog ops Q rest (a.put o.dst (.agg part.toArray)) w) (hgd : o.guard = none := by rfl) (ho : o.op = .load 75 x := by rfl) (hx : a.eval x = .pointer (some ⟨b, off, none⟩) := by rfl) (hp : Lod L b off 3 part := by repeat constructor) : wpList Try.prog ops Q (o :: rest) a w := by
  obtain ⟨T, cs, h1, h2, h3⟩ := hp.mem
  exact St.wpLoad 75 3 _ Try.underlying75 rfl (by kernel_rfl) S hgd x ho b off hx T cs part h1 h2 h3 h
theorem stlM (S : St g w0 w L vs xs) {x y : Operand} {b off : Nat} {part : List Value} {L' : List Box} (h : ∀ w', St g w0 w' L' vs xs → wpList Try.prog ops Q rest a w') (hgd : o.guard = none := by rfl) (hno : o.dst = none := by rfl) (ho : o.op = .store 75 x y := by rfl) (hx : a.eval x = .pointer (some ⟨b, off, none⟩) := by rfl) (hy : a.eval y = .agg part.toArray := by rfl) (hl : part.length = 3 := by rfl) (h1 : part.all (·.oneCell') = true := by rfl) (hp : Sto L b off part L' := by repeat constructor) : wpList Try.prog ops Q (o :: rest) a w := by
  obtain ⟨T, cs, cs', p1, p2, p3⟩ := hp.put
  exact St.wpStore 75 3 (by kernel_rfl) S hgd hno x y ho b off hx part hy hl h1 T cs cs' L' p1 p2 (by omega) h
theorem allM (S : St g w0 w L vs xs) (h : ∀ b w', St g w0 w' (⟨b, 75, [.int .i64 0, .int .i64 0, .slice none 0 0]⟩ :: L) vs xs → wpList Try.prog ops Q rest (a.put o.dst (.pointer (some ⟨b, 0, none⟩))) w') (hgd : o.guard = none := by rfl) (ho : o.op = .alloc 75 := by rfl) : wpList Try.prog ops Q (o :: rest) a w :=
  St.wpAlloc 75 (.agg #[.int .i64 0, .int .i64 0, .slice none 0 0]) [.int .i64 0, .int .i64 0, .slice none 0 0] (by kernel_rfl) rfl S hgd ho h
theorem bxlM (S : St g w0 w L vs xs) {x : Operand} {cs : List Value} (h : ∀ b w', St g w0 w' (⟨b, 75, cs⟩ :: L) vs xs → wpList Try.prog ops Q rest (a.put o.dst (.pointer (some ⟨b, 0, none⟩))) w') (hgd : o.guard = none := by rfl) (ho : o.op = .box 75 x := by rfl) (hx : a.eval x = .agg cs.toArray := by rfl) : wpList Try.prog ops Q (o :: rest) a w :=
  St.wpBox 75 S hgd x ho cs (by rw [hx]; rfl) h
theorem rslM {tmps : Array Value} {p : Tmp} {b : Nat} {T : TypeId} {cs : List Value} (S : St g w0 w L vs xs) (hp : tmps.getD p undef = .pointer (some ⟨b, 0, none⟩) := by rfl) (hm : (⟨b, T, cs⟩ : Box) ∈ L := by repeat constructor) (hl : cs.length = 3 := by rfl) : (resOne tmps (.cell p 75)).run Try.prog w = .ok (.agg cs.toArray) w :=
  St.resCell 75 3 _ Try.underlying75 rfl (by kernel_rfl) S p b hp T cs hm hl
theorem ldiY (S : St g w0 w L vs xs) {x : Operand} {b off : Nat} {part : List Value} (h : wpList Try.prog ops Q rest (a.put o.dst (.agg part.toArray)) w) (hgd : o.guard = none := by rfl) (ho : o.op = .load 42 x := by rfl) (hx : a.eval x = .pointer (some ⟨b, off, none⟩) := by rfl) (hp : Lod L b off 2 part := by repeat constructor) : wpList Try.prog ops Q (o :: rest) a w := by
  obtain ⟨T, cs, h1, h2, h3⟩ := hp.mem
  exact St.wpLoad 42 2 _ Try.underlying42 rfl (by kernel_rfl) S hgd x ho b off hx T cs part h1 h2 h3 h
theorem stiY (S : St g w0 w L vs xs) {x y : Operand} {b off : Nat} {part : List Value} {L' : List Box} (h : ∀ w', St g w0 w' L' vs xs → wpList Try.prog ops Q rest a w') (hgd : o.guard = none := by rfl) (hno : o.dst = none := by rfl) (ho : o.op = .store 42 x y := by rfl) (hx : a.eval x = .pointer (some ⟨b, off, none⟩) := by rfl) (hy : a.eval y = .agg part.toArray := by rfl) (hl : part.length = 2 := by rfl) (h1 : part.all (·.oneCell') = true := by rfl) (hp : Sto L b off part L' := by repeat constructor) : wpList Try.prog ops Q (o :: rest) a w := by
  obtain ⟨T, cs, cs', p1, p2, p3⟩ := hp.put
  exact St.wpStore 42 2 (by kernel_rfl) S hgd hno x y ho b off hx part hy hl h1 T cs cs' L' p1 p2 (by omega) h
theorem aliY (S : St g w0 w L vs xs) (h : ∀ b w', St g w0 w' (⟨b, 42, [.int .i64 0, .slice none 0 0]⟩ :: L) vs xs → wpList Try.prog ops Q rest (a.put o.dst (.pointer (some ⟨b, 0, none⟩))) w') (hgd : o.guard = none := by rfl) (ho : o.op = .alloc 42 := by rfl) : wpList Try.prog ops Q (o :: rest) a w :=
  St.wpAlloc 42 (.agg #[.int .i64 0, .slice none 0 0]) [.int .i64 0, .slice none 0 0] (by kernel_rfl) rfl S hgd ho h
theorem bxiY (S : St g w0 w L vs xs) {x : Operand} {cs : List Value} (h : ∀ b w', St g w0 w' (⟨b, 42, cs⟩ :: L) vs xs → wpList Try.prog ops Q rest (a.put o.dst (.pointer (some ⟨b, 0, none⟩))) w') (hgd : o.guard = none := by rfl) (ho : o.op = .box 42 x := by rfl) (hx : a.eval x = .agg cs.toArray := by rfl) : wpList Try.prog ops Q (o :: rest) a w :=
  St.wpBox 42 S hgd x ho cs (by rw [hx]; rfl) h
theorem rsiY {tmps : Array Value} {p : Tmp} {b : Nat} {T : TypeId} {cs : List Value} (S : St g w0 w L vs xs) (hp : tmps.getD p undef = .pointer (some ⟨b, 0, none⟩) := by rfl) (hm : (⟨b, T, cs⟩ : Box) ∈ L := by repeat constructor) (hl : cs.length = 2 := by rfl) : (resOne tmps (.cell p 42)).run Try.prog w = .ok (.agg cs.toArray) w :=
  St.resCell 42 2 _ Try.underlying42 rfl (by kernel_rfl) S p b hp T cs hm hl
theorem ldlY (S : St g w0 w L vs xs) {x : Operand} {b off : Nat} {part : List Value} (h : wpList Try.prog ops Q rest (a.put o.dst (.agg part.toArray)) w) (hgd : o.guard = none := by rfl) (ho : o.op = .load 37 x := by rfl) (hx : a.eval x = .pointer (some ⟨b, off, none⟩) := by rfl) (hp : Lod L b off 2 part := by repeat constructor) : wpList Try.prog ops Q (o :: rest) a w := by
  obtain ⟨T, cs, h1, h2, h3⟩ := hp.mem
  exact St.wpLoad 37 2 _ Try.underlying37 rfl (by kernel_rfl) S hgd x ho b off hx T cs part h1 h2 h3 h
theorem stlY (S : St g w0 w L vs xs) {x y : Operand} {b off : Nat} {part : List Value} {L' : List Box} (h : ∀ w', St g w0 w' L' vs xs → wpList Try.prog ops Q rest a w') (hgd : o.guard = none := by rfl) (hno : o.dst = none := by rfl) (ho : o.op = .store 37 x y := by rfl) (hx : a.eval x = .pointer (some ⟨b, off, none⟩) := by rfl) (hy : a.eval y = .agg part.toArray := by rfl) (hl : part.length = 2 := by rfl) (h1 : part.all (·.oneCell') = true := by rfl) (hp : Sto L b off part L' := by repeat constructor) : wpList Try.prog ops Q (o :: rest) a w := by
  obtain ⟨T, cs, cs', p1, p2, p3⟩ := hp.put
  exact St.wpStore 37 2 (by kernel_rfl) S hgd hno x y ho b off hx part hy hl h1 T cs cs' L' p1 p2 (by omega) h
theorem allY (S : St g w0 w L vs xs) (h : ∀ b w', St g w0 w' (⟨b, 37, [.int .i64 0, .slice none 0 0]⟩ :: L) vs xs → wpList Try.prog ops Q rest (a.put o.dst (.pointer (some ⟨b, 0, none⟩))) w') (hgd : o.guard = none := by rfl) (ho : o.op = .alloc 37 := by rfl) : wpList Try.prog ops Q (o :: rest) a w :=
  St.wpAlloc 37 (.agg #[.int .i64 0, .slice none 0 0]) [.int .i64 0, .slice none 0 0] (by kernel_rfl) rfl S hgd ho h
theorem bxlY (S : St g w0 w L vs xs) {x : Operand} {cs : List Value} (h : ∀ b w', St g w0 w' (⟨b, 37, cs⟩ :: L) vs xs → wpList Try.prog ops Q rest (a.put o.dst (.pointer (some ⟨b, 0, none⟩))) w') (hgd : o.guard = none := by rfl) (ho : o.op = .box 37 x := by rfl) (hx : a.eval x = .agg cs.toArray := by rfl) : wpList Try.prog ops Q (o :: rest) a w :=
  St.wpBox 37 S hgd x ho cs (by rw [hx]; rfl) h
theorem rslY {tmps : Array Value} {p : Tmp} {b : Nat} {T : TypeId} {cs : List Value} (S : St g w0 w L vs xs) (hp : tmps.getD p undef = .pointer (some ⟨b, 0, none⟩) := by rfl) (hm : (⟨b, T, cs⟩ : Box) ∈ L := by repeat constructor) (hl : cs.length = 2 := by rfl) : (resOne tmps (.cell p 37)).run Try.prog w = .ok (.agg cs.toArray) w :=
  St.resCell 37 2 _ Try.underlying37 rfl (by kernel_rfl) S p b hp T cs hm hl
theorem ldI (S : St g w0 w L vs xs) {x : Operand} {b off : Nat} {v : Value} (h : wpList Try.prog ops Q rest (a.put o.dst v) w) (hgd : o.guard = none := by rfl) (ho : o.op = .load 3 x := by rfl) (hx : a.eval x = .pointer (some ⟨b, off, none⟩) := by rfl) (hp : Lod L b off 1 [v] := by repeat constructor) : wpList Try.prog ops Q (o :: rest) a w := by
  obtain ⟨T, cs, h1, h2, h3⟩ := hp.mem
  exact St.wpLoad1 3 _ Try.underlying3 rfl S hgd x ho b off hx T cs v h1 (cut_one h2) h
theorem stI (S : St g w0 w L vs xs) {x y : Operand} {b off : Nat} {v : Value} {L' : List Box} (h : ∀ w', St g w0 w' L' vs xs → wpList Try.prog ops Q rest a w') (hgd : o.guard = none := by rfl) (hno : o.dst = none := by rfl) (ho : o.op = .store 3 x y := by rfl) (hx : a.eval x = .pointer (some ⟨b, off, none⟩) := by rfl) (hy : a.eval y = v := by (conv => lhs; whnf)) (h1 : v.oneCell' = true := by rfl) (hp : Sto L b off [v] L' := by repeat constructor) : wpList Try.prog ops Q (o :: rest) a w := by
  obtain ⟨T, cs, cs', p1, p2, p3⟩ := hp.put
  exact St.wpStore1 3 (by kernel_rfl) S hgd hno x y ho b off hx v hy h1 T cs cs' L' p1 p2 p3 h
theorem ldIs (S : St g w0 w L vs xs) {x : Operand} {b off : Nat} {v : Value} (h : wpList Try.prog ops Q rest (a.put o.dst v) w) (hgd : o.guard = none := by rfl) (ho : o.op = .load 23 x := by rfl) (hx : a.eval x = .pointer (some ⟨b, off, none⟩) := by rfl) (hp : Lod L b off 1 [v] := by repeat constructor) : wpList Try.prog ops Q (o :: rest) a w := by
  obtain ⟨T, cs, h1, h2, h3⟩ := hp.mem
  exact St.wpLoad1 23 _ Try.underlying23 rfl S hgd x ho b off hx T cs v h1 (cut_one h2) h
theorem stIs (S : St g w0 w L vs xs) {x y : Operand} {b off : Nat} {v : Value} {L' : List Box} (h : ∀ w', St g w0 w' L' vs xs → wpList Try.prog ops Q rest a w') (hgd : o.guard = none := by rfl) (hno : o.dst = none := by rfl) (ho : o.op = .store 23 x y := by rfl) (hx : a.eval x = .pointer (some ⟨b, off, none⟩) := by rfl) (hy : a.eval y = v := by (conv => lhs; whnf)) (h1 : v.oneCell' = true := by rfl) (hp : Sto L b off [v] L' := by repeat constructor) : wpList Try.prog ops Q (o :: rest) a w := by
  obtain ⟨T, cs, cs', p1, p2, p3⟩ := hp.put
  exact St.wpStore1 23 (by kernel_rfl) S hgd hno x y ho b off hx v hy h1 T cs cs' L' p1 p2 p3 h
theorem ldMs (S : St g w0 w L vs xs) {x : Operand} {b off : Nat} {v : Value} (h : wpList Try.prog ops Q rest (a.put o.dst v) w) (hgd : o.guard = none := by rfl) (ho : o.op = .load 40 x := by rfl) (hx : a.eval x = .pointer (some ⟨b, off, none⟩) := by rfl) (hp : Lod L b off 1 [v] := by repeat constructor) : wpList Try.prog ops Q (o :: rest) a w := by
  obtain ⟨T, cs, h1, h2, h3⟩ := hp.mem
  exact St.wpLoad1 40 _ Try.underlying40 rfl S hgd x ho b off hx T cs v h1 (cut_one h2) h
theorem stMs (S : St g w0 w L vs xs) {x y : Operand} {b off : Nat} {v : Value} {L' : List Box} (h : ∀ w', St g w0 w' L' vs xs → wpList Try.prog ops Q rest a w') (hgd : o.guard = none := by rfl) (hno : o.dst = none := by rfl) (ho : o.op = .store 40 x y := by rfl) (hx : a.eval x = .pointer (some ⟨b, off, none⟩) := by rfl) (hy : a.eval y = v := by (conv => lhs; whnf)) (h1 : v.oneCell' = true := by rfl) (hp : Sto L b off [v] L' := by repeat constructor) : wpList Try.prog ops Q (o :: rest) a w := by
  obtain ⟨T, cs, cs', p1, p2, p3⟩ := hp.put
  exact St.wpStore1 40 (by kernel_rfl) S hgd hno x y ho b off hx v hy h1 T cs cs' L' p1 p2 p3 h
theorem ldlMs (S : St g w0 w L vs xs) {x : Operand} {b off : Nat} {v : Value} (h : wpList Try.prog ops Q rest (a.put o.dst v) w) (hgd : o.guard = none := by rfl) (ho : o.op = .load 35 x := by rfl) (hx : a.eval x = .pointer (some ⟨b, off, none⟩) := by rfl) (hp : Lod L b off 1 [v] := by repeat constructor) : wpList Try.prog ops Q (o :: rest) a w := by
  obtain ⟨T, cs, h1, h2, h3⟩ := hp.mem
  exact St.wpLoad1 35 _ Try.underlying35 rfl S hgd x ho b off hx T cs v h1 (cut_one h2) h
theorem stlMs (S : St g w0 w L vs xs) {x y : Operand} {b off : Nat} {v : Value} {L' : List Box} (h : ∀ w', St g w0 w' L' vs xs → wpList Try.prog ops Q rest a w') (hgd : o.guard = none := by rfl) (hno : o.dst = none := by rfl) (ho : o.op = .store 35 x y := by rfl) (hx : a.eval x = .pointer (some ⟨b, off, none⟩) := by rfl) (hy : a.eval y = v := by (conv => lhs; whnf)) (h1 : v.oneCell' = true := by rfl) (hp : Sto L b off [v] L' := by repeat constructor) : wpList Try.prog ops Q (o :: rest) a w := by
  obtain ⟨T, cs, cs', p1, p2, p3⟩ := hp.put
  exact St.wpStore1 35 (by kernel_rfl) S hgd hno x y ho b off hx v hy h1 T cs cs' L' p1 p2 p3 h
end
end Go.Proofs.Ytpbnbhiffnnliaa
