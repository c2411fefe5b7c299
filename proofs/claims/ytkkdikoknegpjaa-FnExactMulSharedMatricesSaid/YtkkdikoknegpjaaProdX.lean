/- Shared products by a dealer's triple: what they are. -/
import Derived.Test.YtkkdikoknegpjaaMulX
import Derived.Test.YtkkdikoknegpjaaMTriD
namespace Go.Proofs.Ytkkdikoknegpjaa
set_option linter.unusedSimpArgs false
set_option linter.unusedVariables false
open Go.RowKit
def pdOk (x y : ShM) (s : Int) : Bool := x.ok && y.ok && decide (x.f.c = y.f.r) && seedOk s
/-- The dealer's triple. -/
def pdT (x y : ShM) (s : Int) : TrM := tripM x.f.r x.f.c y.f.c s
def pdSh (x y : ShM) (s : Int) : ShM := if pdOk x y s = true then mulSh x y (pdT x y s) else shZ
def pdL (x y : ShM) (s : Int) : List Int := if pdOk x y s = true then (mulShD x y (pdT x y s)).xs ++ (mulShE x y (pdT x y s)).xs else []
def pdS (x y : ShM) (s : Int) : Int := if pdOk x y s = true then tripS x.f.r x.f.c y.f.c s else 0
/-- A shared matrix, a list and a number, all new. -/
def ShLN (m : ShM) (l : List Int) (n : Int) (w : World) (e : Ending) (w' : World) : Prop :=
  ∃ v0 v1 v2, e = .returned (.tuple #[.agg #[.int .i64 m.f.r, .int .i64 m.f.c, v0, .int .i64 m.s.r, .int .i64 m.s.c, v1], v2, .int .i64 n]) ∧ Grp w.heap.size w' [v0, v1, v2] [m.f.xs, m.s.xs, l] ∧ Ext w w'
theorem pdSh_bad {x y : ShM} {s : Int} (h : pdOk x y s = false) : pdSh x y s = shZ ∧ pdL x y s = [] ∧ pdS x y s = 0 := by
  refine ⟨?_, ?_, ?_⟩
  · unfold pdSh; rw [h]; rfl
  · unfold pdL; rw [h]; rfl
  · unfold pdS; rw [h]; rfl
theorem pdSh_ok {x y : ShM} {s : Int} (h : pdOk x y s = true) : pdSh x y s = mulSh x y (pdT x y s) ∧ pdL x y s = (mulShD x y (pdT x y s)).xs ++ (mulShE x y (pdT x y s)).xs ∧ pdS x y s = tripS x.f.r x.f.c y.f.c s := by
  refine ⟨?_, ?_, ?_⟩
  · unfold pdSh; rw [h]; rfl
  · unfold pdL; rw [h]; rfl
  · unfold pdS; rw [h]; rfl
theorem Grp.zero3 (B : Nat) (w : World) : Grp B w [.slice none 0 0, .slice none 0 0, .slice none 0 0] [[], [], []] :=
  ⟨⟨Own.nil _ _, Own.nil _ _, Own.nil _ _, trivial⟩, by have a : Apt (.slice none 0 0) (.slice none 0 0) := Apt.nil _ _ rfl; simp [a]⟩
theorem mulShD_len (x y : ShM) (t : TrM) : (mulShD x y t).xs.length ≤ 1048576 := by
  unfold mulShD opD
  split
  · exact pairM_len _ _ _
  · exact Nat.zero_le _
theorem mulShE_len (x y : ShM) (t : TrM) : (mulShE x y t).xs.length ≤ 1048576 := by
  unfold mulShE opD
  split
  · exact pairM_len _ _ _
  · exact Nat.zero_le _
theorem Blk.xs {n0 : Nat} {rs : List Nat} {Ts : List TypeId} {w w' : World} {b : Nat} {cs : Array Value} {T : TypeId} (h : Blk w b cs T) (f : XS n0 rs Ts w w') (hb : n0 ≤ b) (hT : T ∉ Ts) : Blk w' b cs T := by
  unfold Blk at h ⊢
  rcases f.block b (Blk.lt h) with e | e | ⟨_, U, ds, ds', hU, e, _⟩
  · rw [e]; exact h
  · omega
  · rw [h] at e; simp at e; rw [← e.2] at hU; exact absurd hU hT
/-- A new list. -/
def lstV {n0 m : Nat} {rs : List Nat} {Ts : List TypeId} (hT : 3 ∉ Ts) (xs : List Int) : OpSpec (XS n0 rs Ts) m :=
  ⟨[], fun _ u _ _ w => Own n0 w u xs, fun _ _ _ _ _ _ _ _ _ hx h => h.xs hx (Nat.le_refl _) hT⟩
/-- A slice in a new block that holds two lists. -/
def twoV {n0 m : Nat} {rs : List Nat} {Ts : List TypeId} (hT : 22 ∉ Ts) (a b : Value) : OpSpec (XS n0 rs Ts) m :=
  ⟨[], fun _ u _ _ w => ∃ g, u = .slice (some ⟨g, 0, none⟩) 2 2 ∧ n0 ≤ g ∧ Blk w g #[a, b] 22, fun _ _ _ _ _ _ _ _ _ hx ⟨g, h1, h2, h3⟩ => ⟨g, h1, h2, h3.xs hx h2 hT⟩⟩
end Go.Proofs.Ytkkdikoknegpjaa
