/- Groups of lists that lie apart: those of a struct. No program in sight. -/
import Derived.Test.YtjoomdihjffmlaaPairT
namespace Go.Proofs.Ytjoomdihjffmlaa
set_option linter.unusedSimpArgs false
set_option linter.unusedVariables false
open Go.RowKit
def OwnL (B : Nat) (w : World) : List Value → List (List Int) → Prop
  | [], [] => True
  | v :: vs, x :: xs => Own B w v x ∧ OwnL B w vs xs
  | _, _ => False
def IntsL (w : World) : List Value → List (List Int) → Prop
  | [], [] => True
  | v :: vs, x :: xs => Ints w v x ∧ IntsL w vs xs
  | _, _ => False
theorem OwnL.keep {B : Nat} {w w' : World} (x : Ext w w') : ∀ {vs : List Value} {xs : List (List Int)}, OwnL B w vs xs → OwnL B w' vs xs
  | [], [], _ => trivial
  | _ :: _, _ :: _, h => ⟨h.1.keep x, h.2.keep x⟩
theorem OwnL.mono {B B' : Nat} {w : World} (b : B' ≤ B) : ∀ {vs : List Value} {xs : List (List Int)}, OwnL B w vs xs → OwnL B' w vs xs
  | [], [], _ => trivial
  | _ :: _, _ :: _, h => ⟨h.1.mono b, h.2.mono b⟩
theorem OwnL.block {B : Nat} {w : World} : ∀ {vs : List Value} {xs : List (List Int)}, OwnL B w vs xs → ∀ v ∈ vs, ∀ q, v.ownBlock = some q → B ≤ q ∧ q < w.heap.size
  | _ :: _, _ :: _, h, v, hv, q, hq => by
    rcases List.mem_cons.1 hv with rfl | hv
    · exact h.1.block q hq
    · exact OwnL.block h.2 v hv q hq
theorem OwnL.ne {B : Nat} {w : World} {b : Nat} {cs : Array Value} {U : TypeId} (k : Blk w b cs U) (hU : U ≠ 3) : ∀ {vs : List Value} {xs : List (List Int)}, OwnL B w vs xs → ∀ v ∈ vs, v.ownBlock ≠ some b
  | _ :: _, _ :: _, h, v, hv => by
    rcases List.mem_cons.1 hv with rfl | hv
    · exact h.1.ne k hU
    · exact OwnL.ne k hU h.2 v hv
theorem OwnL.ints {B : Nat} {w : World} : ∀ {vs : List Value} {xs : List (List Int)}, OwnL B w vs xs → IntsL w vs xs
  | [], [], _ => trivial
  | _ :: _, _ :: _, h => ⟨h.1.ints, OwnL.ints h.2⟩
/-- What was in memory is as it was, but for the lists' own blocks. -/
structure TurnedL (vs : List Value) (w w' : World) : Prop where
  os : w'.os = w.os
  tape : w'.tape = w.tape
  output : w'.output = w.output
  size : w.heap.size ≤ w'.heap.size
  block : ∀ k, k < w.heap.size → (∀ v ∈ vs, v.ownBlock ≠ some k) → w'.heap[k]? = w.heap[k]?
theorem Turned.toL {v : Value} {w w' : World} (t : Turned v w w') : TurnedL [v] w w' := ⟨t.os, t.tape, t.output, t.size, fun k hk h => t.block k hk (h v (by simp))⟩
theorem TurnedL.trans {vs us : List Value} {a b c : World} (t : TurnedL vs a b) (s : TurnedL us b c) : TurnedL (vs ++ us) a c :=
  ⟨s.os.trans t.os, s.tape.trans t.tape, s.output.trans t.output, Nat.le_trans t.size s.size, fun k hk h =>
    (s.block k (Nat.lt_of_lt_of_le hk t.size) (fun v hv => h v (List.mem_append_right _ hv))).trans (t.block k hk (fun v hv => h v (List.mem_append_left _ hv)))⟩
theorem TurnedL.ext0 {vs : List Value} {a b c : World} (t : TurnedL vs b c) (x : Ext a b) (h : ∀ v ∈ vs, ∀ q, v.ownBlock = some q → a.heap.size ≤ q) : Ext a c :=
  Below.trans x ⟨t.os, t.tape, t.output, t.size, fun k hk => t.block k (Nat.lt_of_lt_of_le hk x.size) (fun v hv e => by have := h v hv k e; omega)⟩
/-- .. behind a call that has made boxes ahead of it and turned the lists. -/
theorem TurnedL.pre {vs : List Value} {a b c : World} (x : Ext a b) (t : TurnedL vs b c) : TurnedL vs a c :=
  ⟨t.os.trans x.os, t.tape.trans x.tape, t.output.trans x.output, Nat.le_trans x.size t.size, fun k hk h => (t.block k (Nat.lt_of_lt_of_le hk x.size) h).trans (Below.block x k hk)⟩
theorem TurnedL.own {vs : List Value} {w w' : World} {B : Nat} {u : Value} {xs : List Int} (h : Own B w u xs) (t : TurnedL vs w w') (hne : ∀ v ∈ vs, Apt v u) : Own B w' u xs := by
  obtain ⟨h1, h2⟩ := h
  refine ⟨h1, h2.imp id ?_⟩
  rintro ⟨g, cap, cur, rfl, hg, hh, r⟩
  exact ⟨g, cap, cur, rfl, hg, by rw [t.block g (lt_of_block hh) (fun v hv e => (hne v hv).r g e rfl)]; exact hh, r⟩
theorem TurnedL.blk {vs : List Value} {w w' : World} {b : Nat} {cs : Array Value} {T : TypeId} (h : Blk w b cs T) (t : TurnedL vs w w') (hne : ∀ v ∈ vs, v.ownBlock ≠ some b) : Blk w' b cs T := by
  unfold Blk; rw [t.block b h.lt hne]; exact h
structure SepL (vs us : List Value) : Prop where
  all : ∀ v ∈ vs, ∀ u ∈ us, Apt v u
theorem SepL.symm {vs us : List Value} (h : SepL vs us) : SepL us vs := ⟨fun v hv u hu => (h.all u hu v hv).symm⟩
/-- A group: lists of the call's own from B on, apart. -/
structure Grp (B : Nat) (w : World) (vs : List Value) (xs : List (List Int)) : Prop where
  own : OwnL B w vs xs
  apt : vs.Pairwise Apt
theorem Grp.keep {B : Nat} {w w' : World} {vs : List Value} {xs : List (List Int)} (h : Grp B w vs xs) (x : Ext w w') : Grp B w' vs xs := ⟨h.own.keep x, h.apt⟩
theorem Grp.mono {B B' : Nat} {w : World} {vs : List Value} {xs : List (List Int)} (h : Grp B w vs xs) (b : B' ≤ B) : Grp B' w vs xs := ⟨h.own.mono b, h.apt⟩
theorem Grp.sep {B : Nat} {w w' : World} {vs us : List Value} {xs ys : List (List Int)} (h : Grp B w vs xs) (k : Grp w.heap.size w' us ys) : SepL vs us :=
  ⟨fun v hv u hu => ⟨fun q h1 h2 => by have a := (k.own.block u hu q h1).1; have b := (h.own.block v hv q h2).2; omega, fun q h2 h1 => by have a := (k.own.block u hu q h1).1; have b := (h.own.block v hv q h2).2; omega⟩⟩
theorem OwnL.turned {vs : List Value} {w w' : World} {B : Nat} (t : TurnedL vs w w') : ∀ {us : List Value} {xs : List (List Int)}, OwnL B w us xs → SepL vs us → OwnL B w' us xs
  | [], [], _, _ => trivial
  | u :: _, _ :: _, h, s => ⟨t.own h.1 (fun v hv => s.all v hv u (by simp)), OwnL.turned t h.2 ⟨fun v hv x hx => s.all v hv x (List.mem_cons_of_mem _ hx)⟩⟩
theorem Grp.turned {B : Nat} {w w' : World} {vs us : List Value} {xs : List (List Int)} (h : Grp B w us xs) (t : TurnedL vs w w') (s : SepL vs us) : Grp B w' us xs := ⟨h.own.turned t s, h.apt⟩
theorem Grp.blk {B : Nat} {w w' : World} {vs : List Value} {xs : List (List Int)} (h : Grp B w vs xs) (t : TurnedL vs w w') {b : Nat} {cs : Array Value} {U : TypeId} (k : Blk w b cs U) (hU : U ≠ 3) : Blk w' b cs U := t.blk k (h.own.ne k hU)
theorem Grp.one {B : Nat} {w : World} {v : Value} {x : List Int} (h : Own B w v x) : Grp B w [v] [x] := ⟨⟨h, trivial⟩, by simp⟩
theorem Grp.two {B : Nat} {w : World} {v u : Value} {x y : List Int} (h : Own B w v x) (k : Own B w u y) (a : Apt v u) : Grp B w [v, u] [x, y] := ⟨⟨h, k, trivial⟩, by simp [a]⟩
theorem Grp.nil (B : Nat) (w : World) : Grp B w [] [] := ⟨trivial, List.Pairwise.nil⟩
theorem Grp.app {B : Nat} {w : World} {vs us : List Value} {xs ys : List (List Int)} (h : Grp B w vs xs) (k : Grp B w us ys) (s : SepL vs us) : Grp B w (vs ++ us) (xs ++ ys) := by
  refine ⟨?_, List.pairwise_append.2 ⟨h.apt, k.apt, s.all⟩⟩
  have key : ∀ {vs : List Value} {xs : List (List Int)}, OwnL B w vs xs → OwnL B w (vs ++ us) (xs ++ ys) := by
    intro vs
    induction vs with
    | nil => intro xs h; cases xs with
      | nil => exact k.own
      | cons _ _ => exact h.elim
    | cons v vs ih => intro xs h; cases xs with
      | nil => exact h.elim
      | cons x xs => exact ⟨h.1, ih h.2⟩
  exact key h.own
theorem Grp.setOther {B : Nat} {w : World} {vs : List Value} {xs : List (List Int)} (h : Grp B w vs xs) {b : Nat} (hb : ∀ v ∈ vs, v.ownBlock ≠ some b) (i : Nat) (u : Value) : Grp B (w.setCell ⟨b, i, none⟩ u) vs xs := by
  refine ⟨?_, h.apt⟩
  have key : ∀ {vs : List Value} {xs : List (List Int)}, (∀ v ∈ vs, v.ownBlock ≠ some b) → OwnL B w vs xs → OwnL B (w.setCell ⟨b, i, none⟩ u) vs xs := by
    intro vs
    induction vs with
    | nil => intro xs _ h; cases xs with
      | nil => trivial
      | cons _ _ => exact h.elim
    | cons v vs ih => intro xs hb h; cases xs with
      | nil => exact h.elim
      | cons x xs => exact ⟨h.1.setOther b (hb v (by simp)) i u, ih (fun v hv => hb v (List.mem_cons_of_mem _ hv)) h.2⟩
  exact key hb h.own
theorem Grp.oth {B : Nat} {w : World} {vs : List Value} {xs : List (List Int)} (h : Grp B w vs xs) {b : Nat} (hb : ∀ v ∈ vs, v.ownBlock ≠ some b) (i j k : Nat) (p q u : Value) : Grp B (((w.setCell ⟨b, i, none⟩ p).setCell ⟨b, j, none⟩ q).setCell ⟨b, k, none⟩ u) vs xs :=
  ((h.setOther hb i p).setOther hb j q).setOther hb k u
theorem Grp.keep' {B : Nat} {w w' : World} {g : Nat} (hb : ∀ b, b ≠ g → w'.heap[b]? = w.heap[b]?) {vs : List Value} {xs : List (List Int)} (h : Grp B w vs xs) (hne : ∀ v ∈ vs, v.ownBlock ≠ some g) : Grp B w' vs xs := by
  refine ⟨?_, h.apt⟩
  have key : ∀ {vs : List Value} {xs : List (List Int)}, (∀ v ∈ vs, v.ownBlock ≠ some g) → OwnL B w vs xs → OwnL B w' vs xs := by
    intro vs
    induction vs with
    | nil => intro xs _ h; cases xs with
      | nil => trivial
      | cons _ _ => exact h.elim
    | cons v vs ih => intro xs hne h; cases xs with
      | nil => exact h.elim
      | cons x xs => exact ⟨h.1.keep' hb (hne v (by simp)), ih (fun v hv => hne v (List.mem_cons_of_mem _ hv)) h.2⟩
  exact key hne h.own
theorem Grp.ne {B : Nat} {w : World} {vs : List Value} {xs : List (List Int)} (h : Grp B w vs xs) {b : Nat} {cs : Array Value} {U : TypeId} (k : Blk w b cs U) (hU : U ≠ 3) : ∀ v ∈ vs, v.ownBlock ≠ some b := h.own.ne k hU
theorem Grp.o0 {B : Nat} {w : World} {v0 : Value} {x0 : List Int} {vs : List Value} {xs : List (List Int)} (h : Grp B w (v0 :: vs) (x0 :: xs)) : Own B w v0 x0 := (show Own B w v0 x0 ∧ OwnL B w vs xs from h.own).1
theorem Grp.o1 {B : Nat} {w : World} {v0 v1 : Value} {x0 x1 : List Int} {vs : List Value} {xs : List (List Int)} (h : Grp B w (v0 :: v1 :: vs) (x0 :: x1 :: xs)) : Own B w v1 x1 := (show Own B w v0 x0 ∧ (Own B w v1 x1 ∧ OwnL B w vs xs) from h.own).2.1
theorem Grp.o2 {B : Nat} {w : World} {v0 v1 v2 : Value} {x0 x1 x2 : List Int} {vs : List Value} {xs : List (List Int)} (h : Grp B w (v0 :: v1 :: v2 :: vs) (x0 :: x1 :: x2 :: xs)) : Own B w v2 x2 := (show Own B w v0 x0 ∧ (Own B w v1 x1 ∧ (Own B w v2 x2 ∧ OwnL B w vs xs)) from h.own).2.2.1
theorem Grp.o3 {B : Nat} {w : World} {v0 v1 v2 v3 : Value} {x0 x1 x2 x3 : List Int} {vs : List Value} {xs : List (List Int)} (h : Grp B w (v0 :: v1 :: v2 :: v3 :: vs) (x0 :: x1 :: x2 :: x3 :: xs)) : Own B w v3 x3 := (show Own B w v0 x0 ∧ (Own B w v1 x1 ∧ (Own B w v2 x2 ∧ (Own B w v3 x3 ∧ OwnL B w vs xs))) from h.own).2.2.2.1
theorem Grp.o4 {B : Nat} {w : World} {v0 v1 v2 v3 v4 : Value} {x0 x1 x2 x3 x4 : List Int} {vs : List Value} {xs : List (List Int)} (h : Grp B w (v0 :: v1 :: v2 :: v3 :: v4 :: vs) (x0 :: x1 :: x2 :: x3 :: x4 :: xs)) : Own B w v4 x4 := (show Own B w v0 x0 ∧ (Own B w v1 x1 ∧ (Own B w v2 x2 ∧ (Own B w v3 x3 ∧ (Own B w v4 x4 ∧ OwnL B w vs xs)))) from h.own).2.2.2.2.1
theorem Grp.o5 {B : Nat} {w : World} {v0 v1 v2 v3 v4 v5 : Value} {x0 x1 x2 x3 x4 x5 : List Int} {vs : List Value} {xs : List (List Int)} (h : Grp B w (v0 :: v1 :: v2 :: v3 :: v4 :: v5 :: vs) (x0 :: x1 :: x2 :: x3 :: x4 :: x5 :: xs)) : Own B w v5 x5 := (show Own B w v0 x0 ∧ (Own B w v1 x1 ∧ (Own B w v2 x2 ∧ (Own B w v3 x3 ∧ (Own B w v4 x4 ∧ (Own B w v5 x5 ∧ OwnL B w vs xs))))) from h.own).2.2.2.2.2.1
/-- The marks of a group, one list behind the other. -/
def marksL (k : Int) : List Nat → List (List Int)
  | [] => []
  | n :: ns => marks k n :: marksL (k + n) ns
/-- The sum of some lengths. -/
def totL : List Nat → Nat
  | [] => 0
  | n :: ns => n + totL ns
/-- What markers leave. -/
def MarkL (B : Nat) (vs : List Value) (k : Int) (ns : List Nat) (w : World) (e : Ending) (w' : World) : Prop :=
  e = .returned (.int .i64 (k + totL ns)) ∧ Grp B w' vs (marksL k ns) ∧ TurnedL vs w w'
/-- What is left of a budget behind lists of these lengths. -/
def leftL (l : Int) (n : Nat) : Int := if l - n < 0 then -1 else l - n
theorem marksL_app (k : Int) : ∀ (ns ms : List Nat), marksL k (ns ++ ms) = marksL k ns ++ marksL (k + totL ns) ms
  | [], ms => by simp [marksL, totL]
  | n :: ns, ms => by
    have e : k + (n : Int) + (totL ns : Int) = k + ((n + totL ns : Nat) : Int) := by omega
    simp only [List.cons_append, marksL, totL, marksL_app (k + n) ns ms, e]
theorem totL_app (ns ms : List Nat) : totL (ns ++ ms) = totL ns + totL ms := by
  induction ns with
  | nil => simp [totL]
  | cons n ns ih => simp only [List.cons_append, totL, ih]; omega
end Go.Proofs.Ytjoomdihjffmlaa
