/- Boxes that a region makes and fills: one fact about all of them. -/
import Derived.Test.YtkkdikoknegpjaaRgnV
namespace Go.Proofs.Ytkkdikoknegpjaa
set_option linter.unusedSimpArgs false
set_option linter.unusedVariables false
open Go.RowKit
/-- A box of a region: operation al makes it, operation s stores the value of operation src into it; its type, its zero. -/
structure It where
  al : Nat
  s : Nat
  src : Nat
  T : TypeId
  z : Array Value
structure Bs (n0 : Nat) (its : List It) (L : Nat → Bool) (V : Nat → Value) (w : World) : Prop where
  ord : ∀ it ∈ its, L it.s = true → L it.al = true ∧ L it.src = true
  box : ∀ it ∈ its, L it.al = true → ∃ b, V it.al = .pointer (some ⟨b, 0, none⟩) ∧ n0 ≤ b ∧ b < w.heap.size ∧ (L it.s = false → Blk w b it.z it.T) ∧ (L it.s = true → ∃ cs, V it.src = .agg cs ∧ Blk w b cs it.T)
  dis : ∀ it ∈ its, ∀ jt ∈ its, it.al ≠ jt.al → L it.al = true → L jt.al = true → V it.al ≠ V jt.al
theorem Bs.start (n0 : Nat) (its : List It) (V : Nat → Value) (w : World) : Bs n0 its (fun _ => false) V w :=
  ⟨fun _ _ h => (by cases h), fun _ _ h => (by cases h), fun _ _ _ _ _ h => (by cases h)⟩
theorem updL_ne {L : Nat → Bool} {i k : Nat} (h : k ≠ i) : upd L i true k = L k := by simp [upd, h]
theorem updL_mono {L : Nat → Bool} {i k : Nat} (h : L k = true) : upd L i true k = true := by
  by_cases e : k = i
  · simp [upd, e]
  · rw [updL_ne e]; exact h
theorem updV_ne {V : Nat → Value} {i k : Nat} {u : Value} (h : k ≠ i) : upd V i u k = V k := by simp [upd, h]
theorem updV_eq {V : Nat → Value} {i : Nat} {u : Value} : upd V i u i = u := by simp [upd]
section
variable {n0 : Nat} {its : List It} {L : Nat → Bool} {V : Nat → Value} {w w' : World}
/-- An operation that neither makes nor fills one of the boxes. -/
theorem Bs.other (h : Bs n0 its L V w) (x : Ext w w') {i : Nat} {u : Value} (hl : L i = false) (hi : ∀ it ∈ its, it.al ≠ i ∧ it.s ≠ i) : Bs n0 its (upd L i true) (upd V i u) w' := by
  refine ⟨fun it hit hs => ?_, fun it hit ha => ?_, fun it hit jt hjt hne h1 h2 => ?_⟩
  · rw [updL_ne (hi it hit).2] at hs
    exact ⟨updL_mono (h.ord it hit hs).1, updL_mono (h.ord it hit hs).2⟩
  · rw [updL_ne (hi it hit).1] at ha
    obtain ⟨b, e, hb, hlt, k0, k1⟩ := h.box it hit ha
    refine ⟨b, by rw [updV_ne (hi it hit).1]; exact e, hb, x.lt hlt, fun hs => ?_, fun hs => ?_⟩
    · rw [updL_ne (hi it hit).2] at hs
      exact (k0 hs).keep x
    · rw [updL_ne (hi it hit).2] at hs
      obtain ⟨cs, e2, k⟩ := k1 hs
      refine ⟨cs, ?_, k.keep x⟩
      rw [updV_ne (fun e3 => absurd (hl.symm.trans (e3 ▸ (h.ord it hit hs).2)) (by decide))]
      exact e2
  · rw [updL_ne (hi it hit).1] at h1
    rw [updL_ne (hi jt hjt).1] at h2
    rw [updV_ne (hi it hit).1, updV_ne (hi jt hjt).1]
    exact h.dis it hit jt hjt hne h1 h2
/-- A box is made. -/
theorem Bs.alloc (h : Bs n0 its L V w) {it0 : It} (h0 : it0 ∈ its) (hl : L it0.al = false) (uq : ∀ jt ∈ its, jt.al = it0.al → jt = it0) (hi : ∀ jt ∈ its, jt.s ≠ it0.al ∧ jt.src ≠ it0.al) {b : Nat} (hb : w.heap.size ≤ b) (hn : n0 ≤ w.heap.size) (x : Ext w w') (k : Blk w' b it0.z it0.T) :
    Bs n0 its (upd L it0.al true) (upd V it0.al (.pointer (some ⟨b, 0, none⟩))) w' := by
  have hnew : ∀ jt ∈ its, jt.al ≠ it0.al → L jt.al = true → V jt.al ≠ .pointer (some ⟨b, 0, none⟩) := fun jt hjt _ ha e => by
    obtain ⟨b', e', _, hlt, _⟩ := h.box jt hjt ha
    rw [e'] at e
    simp at e
    all_goals omega
  refine ⟨fun it hit hs => ?_, fun it hit ha => ?_, fun it hit jt hjt hne h1 h2 => ?_⟩
  · rw [updL_ne (hi it hit).1] at hs
    exact ⟨updL_mono (h.ord it hit hs).1, updL_mono (h.ord it hit hs).2⟩
  · by_cases ea : it.al = it0.al
    · obtain rfl := uq it hit ea
      refine ⟨b, updV_eq, by omega, k.lt, fun _ => k, fun hs => ?_⟩
      rw [updL_ne (hi it hit).1] at hs
      exact absurd (hl.symm.trans (h.ord it hit hs).1) (by decide)
    · rw [updL_ne ea] at ha
      obtain ⟨b', e, hb', hlt, k0, k1⟩ := h.box it hit ha
      refine ⟨b', by rw [updV_ne ea]; exact e, hb', x.lt hlt, fun hs => ?_, fun hs => ?_⟩
      · rw [updL_ne (hi it hit).1] at hs
        exact (k0 hs).keep x
      · rw [updL_ne (hi it hit).1] at hs
        obtain ⟨cs, e2, k⟩ := k1 hs
        exact ⟨cs, by rw [updV_ne (hi it hit).2]; exact e2, k.keep x⟩
  · by_cases e1 : it.al = it0.al
    · have e2 : jt.al ≠ it0.al := fun e => hne (e1.trans e.symm)
      rw [updL_ne e2] at h2
      rw [e1, updV_eq, updV_ne e2]
      exact (hnew jt hjt e2 h2).symm
    · rw [updL_ne e1] at h1
      by_cases e2 : jt.al = it0.al
      · rw [e2, updV_eq, updV_ne e1]
        exact hnew it hit e1 h1
      · rw [updL_ne e2] at h2
        rw [updV_ne e1, updV_ne e2]
        exact h.dis it hit jt hjt hne h1 h2
/-- A box is filled. -/
theorem Bs.store (h : Bs n0 its L V w) {it0 : It} (h0 : it0 ∈ its) (hal : L it0.al = true) (hsrc : L it0.src = true) (uq : ∀ jt ∈ its, jt.s = it0.s → jt = it0) (ua : ∀ jt ∈ its, jt.al = it0.al → jt = it0) (hi : ∀ jt ∈ its, jt.al ≠ it0.s ∧ jt.src ≠ it0.s) {b : Nat} {cs : Array Value} {u : Value}
    (e : V it0.al = .pointer (some ⟨b, 0, none⟩)) (es : V it0.src = .agg cs) (k : Blk w' b cs it0.T) (hoth : ∀ q, q ≠ b → w'.heap[q]? = w.heap[q]?) (hs : w'.heap.size = w.heap.size) : Bs n0 its (upd L it0.s true) (upd V it0.s u) w' := by
  refine ⟨fun it hit h1 => ?_, fun it hit ha => ?_, fun it hit jt hjt hne h1 h2 => ?_⟩
  · by_cases ea : it.s = it0.s
    · obtain rfl := uq it hit ea
      exact ⟨updL_mono hal, updL_mono hsrc⟩
    · rw [updL_ne ea] at h1
      exact ⟨updL_mono (h.ord it hit h1).1, updL_mono (h.ord it hit h1).2⟩
  · rw [updL_ne (hi it hit).1] at ha
    obtain ⟨b', e', hb', hlt, k0, k1⟩ := h.box it hit ha
    refine ⟨b', by rw [updV_ne (hi it hit).1]; exact e', hb', by omega, fun h1 => ?_, fun h1 => ?_⟩
    · have ea : it.s ≠ it0.s := fun ea => by rw [ea] at h1; simp [upd] at h1
      rw [updL_ne ea] at h1
      have hne : b' ≠ b := fun eb => by
        have : it.al ≠ it0.al := fun q => ea (by rw [ua it hit q])
        exact h.dis it hit it0 h0 this ha hal (by rw [e', e, eb])
      unfold Blk; rw [hoth b' hne]; exact k0 h1
    · by_cases ea : it.s = it0.s
      · obtain rfl := uq it hit ea
        rw [e] at e'
        simp at e'
        subst e'
        exact ⟨cs, by rw [updV_ne (hi it hit).2]; exact es, k⟩
      · rw [updL_ne ea] at h1
        obtain ⟨ds, e2, kk⟩ := k1 h1
        have hne : b' ≠ b := fun eb => by
          have : it.al ≠ it0.al := fun q => ea (by rw [ua it hit q])
          exact h.dis it hit it0 h0 this ha hal (by rw [e', e, eb])
        refine ⟨ds, by rw [updV_ne (hi it hit).2]; exact e2, ?_⟩
        unfold Blk; rw [hoth b' hne]; exact kk
  · rw [updL_ne (hi it hit).1] at h1
    rw [updL_ne (hi jt hjt).1] at h2
    rw [updV_ne (hi it hit).1, updV_ne (hi jt hjt).1]
    exact h.dis it hit jt hjt hne h1 h2
end
/-- A component of a tuple. -/
def tget : Value → Nat → Value
  | .tuple a, i => a.getD i undef
  | _, _ => undef
/-- The component i of the value of operation k. -/
def tgetV {X : World → World → Prop} {m : Nat} (k i : Nat) : OpSpec X m := ⟨[k], fun vs u _ _ _ => u = tget (vs.headD undef) i, fun _ _ _ _ _ _ _ _ _ _ h => h⟩
/-- New lists and a value made of them. -/
def grpV {n0 m : Nat} {rs : List Nat} {Ts : List TypeId} (hT : 3 ∉ Ts) (f : List Value → Value) (xs : List (List Int)) : OpSpec (XS n0 rs Ts) m :=
  ⟨[], fun _ u _ _ w => ∃ vs, u = f vs ∧ Grp n0 w vs xs, fun _ _ _ _ _ _ _ _ _ hx ⟨vs, h1, h2⟩ => ⟨vs, h1, h2.xs hx (Nat.le_refl _) hT⟩⟩
end Go.Proofs.Ytkkdikoknegpjaa
