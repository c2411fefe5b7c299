/- A range over a function whose closure keeps its state in a captured block G: the law for a loop that leaves by a break when N rounds are over. No program in sight. -/
import Derived.Test.YtkkdikoknegpjaaDraw
import Derived.RangeFuncOwn
import Derived.RangeFuncLeaves
namespace Go.Proofs.Ytkkdikoknegpjaa
set_option linter.unusedSimpArgs false
set_option linter.unusedVariables false
open Go.RowKit

/-- The closure gf: it hands the values 'enc k' to yield, k = 0, 1, .., until yield says no; what it turns is block G alone; yield says no when k = N at the latest. -/
def Stream (F : Fence) (n : Nat) (P : Program) (gf : Nat) (lb : Array Value) (G : Nat) (enc : Nat → Array Value) (N : Nat) (w0 : World) : Prop :=
  ∀ (l : Nat) (J : Nat → World → Prop) (Jx : World → Prop) (W : World), Ext w0 W → (∀ k A B, J k A → Mod G A B → J k B) →
    (∀ k A, k ≤ N → J k A → YieldAt F (n - 1) P l (enc k) A fun e W' => (e = .returned (.bool true) ∧ k < N ∧ J (k + 1) W' ∧ W'.heap[G]? = A.heap[G]?) ∨ (e = .returned (.bool false) ∧ Jx W')) →
    J 0 W → CallsIn F n P gf (#[.func (.yield l) #[] #[]] ++ lb) W fun e W' => (∃ v, e = .returned v) ∧ Jx W'

/-- How the body of round k may be left. -/
def streamPost (c : Nat) (N G k : Nat) (I : Nat → World → Prop) (Ix : World → Prop) (W : World) : Exit → Act → World → Prop
  | .normal, _, W' => KeepsOthers W W' ∧ W'.heap[G]? = W.heap[G]? ∧ k < N ∧ I (k + 1) W'
  | .exit id, _, W' => id = c ∧ KeepsOthers W W' ∧ Ix W'
  | _, _, _ => False

variable {F : Fence} {n : Nat} {P : Program}
theorem range_stream {g : Operand} {ps : Array Tmp} {assign body : Go.Code} {Q : Exit → Act → World → Prop} {a : Act} {w : World}
    (hro : F.round = none) (h1 : 1 ≤ n) {gf G N : Nat} {lb : Array Value} {enc : Nat → Array Value} (hg : a.eval g = .func (.func gf) #[] lb) (hFg : F.fn gf) (eg : ∀ args w, (callFunc gf args).run P w = .ok (.enter gf args) w)
    (hseq : Stream F (n - 1) P gf lb G enc N w) (hG : G < w.heap.size) (hps : ∀ k, (enc k).size = ps.size) (c : Nat)
    (I : Nat → World → Prop) (Ix : World → Prop) (hI : ∀ k A B, I k A → Mod G A B → I k B)
    (hI' : ∀ k A l o o', I k A → w.heap.size ≤ l → A.heap[l]? = some o → o.isCells = false → I k (A.putObj l o'))
    (hIx : ∀ A l o o', Ix A → w.heap.size ≤ l → A.heap[l]? = some o → o.isCells = false → Ix (A.putObj l o'))
    (h0 : I 0 w) (a₁ : Nat → Act)
    (hassign : ∀ (l k : Nat) (W : World) (K : Act → World → Prop), K (a₁ k) W →
      assign.wpIn (F.inRound l) (n - 1 - 1) P (Exit.then K (fun _ _ _ => False)) { tmps := (ps.zip (enc k)).foldl (fun t (p, v) => t.setIfInBounds p v) a.tmps, defers := [] } W)
    (hbody : ∀ (l k : Nat) (W : World), k ≤ N → I k W → w.heap.size ≤ W.heap.size → body.wpIn (F.inRound l) (n - 1 - 1) P (streamPost c N G k I Ix W) (a₁ k) W)
    (hstop : ∀ (D : Nat) (W : World), w.heap.size ≤ D → Ix W → W.heap[D]? = some (.deferred (some [])) → (Go.Code.exit c).wpIn F n P Q { a with defers := { target := .collected D, args := #[] } :: a.defers } W) :
    (Go.Code.rangeFunc g ps assign body).wpIn F n P Q a w := by
  refine wpIn_rangeFunc ?_
  intro fn hfn
  rw [hro]
  obtain ⟨rc, hrc⟩ : ∃ rc : LoopState → Option Go.Code → Loop, rc = fun st pe => { state := st, pending := pe, fn, tmps := a.tmps, params := ps, assign, body, defers := w.heap.size } := ⟨_, rfl⟩
  obtain ⟨W1, hW1⟩ : ∃ W1, (w.alloc (.deferred (some []))).alloc (.loop (rc .ready none)) = W1 := ⟨_, rfl⟩
  have x1 : Ext w W1 := by rw [← hW1]; exact ((Ext.refl w).alloc _).alloc _
  have L1 : W1.heap[w.heap.size + 1]? = some (.loop (rc .ready none)) := by
    rw [← hW1]; have := heap_alloc_new (w.alloc (.deferred (some []))) (.loop (rc .ready none)); simpa using this
  have D1 : W1.heap[w.heap.size]? = some (.deferred (some [])) := by
    rw [← hW1]; exact ((Ext.refl (w.alloc (.deferred (some [])))).alloc _).keep (heap_alloc_new w _)
  have I1 : I 0 W1 := hI 0 w W1 h0 (Mod.of_ext x1)
  -- what the rounds keep
  let J : Nat → World → Prop := fun k W => I k W ∧ W.heap[w.heap.size + 1]? = some (.loop (rc .ready none)) ∧ W.heap[w.heap.size]? = some (.deferred (some []))
  let Jx : World → Prop := fun W => Ix W ∧ W.heap[w.heap.size + 1]? = some (.loop (rc .done (some (.exit c)))) ∧ W.heap[w.heap.size]? = some (.deferred (some []))
  have hJ : ∀ k A B, J k A → Mod G A B → J k B := by
    rintro k A B ⟨i, l, d⟩ m
    exact ⟨hI k A B i m, (m.block _ (lt_of_block l) (by omega)).trans l, (m.block _ (lt_of_block d) (by omega)).trans d⟩
  have hround : ∀ k A, k ≤ N → J k A → YieldAt F (n - 1 - 1) P (w.heap.size + 1) (enc k) A fun e W' => (e = .returned (.bool true) ∧ k < N ∧ J (k + 1) W' ∧ W'.heap[G]? = A.heap[G]?) ∨ (e = .returned (.bool false) ∧ Jx W') := by
    rintro k A hk ⟨i, l, d⟩
    have hy := run_yield (P := P) (args := enc k) l (by rw [hrc]; exact hps k)
    rw [hrc] at hy
    refine ⟨fn, _, assign, body, hy, roundIn_of_wpIn hfn (hassign _ k A _ ⟨_, run_beginRound l (by rw [hrc]), ?_⟩)⟩
    have ll := lt_of_block l
    have l2 : (A.putObj (w.heap.size + 1) (.loop { rc .ready none with state := .busy })).heap[w.heap.size + 1]? = some (.loop { rc .ready none with state := .busy }) := World.putObj_heap_same ll
    have d2 : (A.putObj (w.heap.size + 1) (.loop { rc .ready none with state := .busy })).heap[w.heap.size]? = some (.deferred (some [])) := (World.putObj_heap_other (by omega)).trans d
    have g2 : (A.putObj (w.heap.size + 1) (.loop { rc .ready none with state := .busy })).heap[G]? = A.heap[G]? := World.putObj_heap_other (by omega)
    refine wpIn_mono (hbody _ k _ hk (hI' k A _ _ _ i (by omega) l rfl) (by simp [World.putObj]; omega)) ?_
    rintro e a3 W3 hp
    cases e with
    | normal =>
      obtain ⟨k3, g3, hlt, i3⟩ := hp
      have l3 := k3.same _ _ l2 rfl
      have hr := run_endRound (P := P) none l3
      refine ⟨_, _, hr, .inl ⟨rfl, hlt, ⟨hI' _ _ _ _ _ i3 (by omega) l3 rfl, ?_, (World.putObj_heap_other (by omega)).trans (k3.same _ _ d2 rfl)⟩, ((World.putObj_heap_other (by omega)).trans g3).trans g2⟩⟩
      rw [World.putObj_heap_same (lt_of_block l3), hrc]; rfl
    | exit id =>
      obtain ⟨rfl, k3, i3⟩ := hp
      have l3 := k3.same _ _ l2 rfl
      have hr := run_endRound (P := P) (some (.exit id)) l3
      refine ⟨_, _, hr, .inr ⟨rfl, hIx _ _ _ _ i3 (by omega) l3 rfl, ?_, (World.putObj_heap_other (by omega)).trans (k3.same _ _ d2 rfl)⟩⟩
      rw [World.putObj_heap_same (lt_of_block l3), hrc]; rfl
    | ret => exact hp.elim
    | goto t => exact hp.elim
    | panic ch => exact hp.elim
    | outgrown => exact hp.elim
  refine ⟨w.heap.size + 1, [{ target := .collected w.heap.size, args := #[] }], W1, { target := .fn (.func gf) lb, args := #[.func (.yield (w.heap.size + 1)) #[] #[]] }, W1, gf,
    #[.func (.yield (w.heap.size + 1)) #[] #[]] ++ lb, W1, ?_, ?_, ?_, ?_, fun _ => h1, ?_⟩
  · rw [← hW1, hrc]; exact run_enterLoop_outer _ _ _ _ _
  · simp only [resolve, hg]
    simp [go_sem]
  · intro f' hf'; simp [Target.leads] at hf'; subst hf'; exact hFg
  · simp [invoke, go_sem, eg]
  · refine (hseq (w.heap.size + 1) J Jx W1 x1 hJ hround ⟨I1, L1, D1⟩).mono ?_
    rintro e W2 ⟨⟨v, rfl⟩, i, l, d⟩
    have := run_endLoop (P := P) l (by rw [hrc]; simp)
    refine ⟨some (.exit c), _, (by rw [hrc] at this; exact this), ?_⟩
    exact hstop _ _ (Nat.le_refl _) (hIx _ _ _ _ i (by omega) l rfl) ((World.putObj_heap_other (by omega)).trans d)
end Go.Proofs.Ytkkdikoknegpjaa
