/- RandomList of the program: its stream's closure, the loop over it. -/
import Derived.Test.YtpbnbhiffnnliaaRand
import Derived.Test.YtpbnbhiffnnliaaStr
import Derived.RangeFuncBox
import Derived.RangeFuncCalls
import Derived.Shelf.Abstract
import Derived.OwnWalkIn
import Derived.TacticsInMore
import Derived.LoopIn
import Derived.LoopNIn
import Derived.Sort.LoopGhostIn
namespace Go.Proofs.Ytpbnbhiffnnliaa
set_option linter.unusedSimpArgs false
set_option linter.unusedVariables false
open Go.RowKit Go.Shelf
attribute [local go_sem] Oper.semAt_some

theorem Blk.grown {w w' : World} {row : Option Nat} {b : Nat} {cs : Array Value} {T : TypeId} (h : Blk w b cs T) (hg : w.grownBy w' row) (hne : some b ≠ row) : Blk w' b cs T := (hg.block b h.lt hne).trans h
theorem Own.of_block {B : Nat} {w w' : World} {g a c : Nat} {xs : List Int} (h : Own B w (.slice (some ⟨g, 0, none⟩) a c) xs) (e : w'.heap[g]? = w.heap[g]?) : Own B w' (.slice (some ⟨g, 0, none⟩) a c) xs := by
  obtain ⟨h1, ⟨h2, _⟩ | ⟨k, cap, cur, hv, hg, hh, r⟩⟩ := h
  · cases h2
  · simp at hv
    obtain ⟨rfl, rfl, rfl⟩ := hv
    exact ⟨h1, .inr ⟨g, c, cur, rfl, hg, by rw [e]; exact hh, r⟩⟩
theorem Blk.putObj {w : World} {b l : Nat} {cs : Array Value} {T : TypeId} {o' : Obj} (h : Blk w b cs T) (hne : b ≠ l) : Blk (w.putObj l o') b cs T := (World.putObj_heap_other hne).trans h
theorem Ext.putObj {w A : World} {l : Nat} (h : Ext w A) (hl : w.heap.size ≤ l) (o' : Obj) : Ext w (A.putObj l o') :=
  Below.trans h ⟨rfl, rfl, rfl, by simp [World.putObj], fun k hk => World.putObj_heap_other (by omega)⟩
theorem Own.cellsAt {B : Nat} {A : World} {g a c : Nat} {xs : List Int} (h : Own B A (.slice (some ⟨g, 0, none⟩) a c) xs) {u : Obj} (o : Obj) (ho : (A.alloc u).heap[g]? = some o) : o.isCells = true := by
  obtain ⟨h1, ⟨h2, _⟩ | ⟨k, cap, cur, hv, hg, hh, r⟩⟩ := h
  · cases h2
  · simp at hv
    obtain ⟨rfl, rfl, rfl⟩ := hv
    rw [((Ext.refl A).alloc u).keep hh] at ho
    cases ho
    rfl
theorem Ext.grown' {w A B : World} (h : Ext w A) {u : Obj} {g : Nat} (hg : (A.alloc u).grownBy B (some g)) (hw : w.heap.size ≤ g) : Ext w B := by
  have h' := h.alloc u
  exact Below.trans h' ⟨hg.os, hg.tape, hg.output, hg.size, fun k hk => hg.block k (Nat.lt_of_lt_of_le hk h'.size) (by simp; omega)⟩
/-- What the loop's own cells hold when k numbers are there. -/
structure RInv (w : World) (s : Int) (n g b : Nat) (k : Nat) (W : World) : Prop where
  own : Own w.heap.size W (.slice (some ⟨g, 0, none⟩) k n) (rlist s k)
  list : Blk W b #[.slice (some ⟨g, 0, none⟩) k n] 23
  last : Blk W (b + 1) #[.int .i64 (strm s k)] 3
  many : Blk W w.heap.size #[.int .i64 n] 3
  ext : Ext w W
theorem RInv.mod {w : World} {s : Int} {n g b k : Nat} {A B : World} (h : RInv w s n g b k A) (hg : g < b) (hw : w.heap.size < b) (m : Mod (b + 1 + 1) A B) : RInv w s n g b k B where
  own := h.own.of_block (m.block g (by have := h.list.lt; omega) (by omega))
  list := m.blk h.list (by omega)
  last := m.blk h.last (by omega)
  many := m.blk h.many (by omega)
  ext := Mod.ext h.ext m (by omega)
theorem RInv.put {w : World} {s : Int} {n g b k : Nat} {A : World} {l : Nat} (h : RInv w s n g b k A) (hg : g < b) (hw : w.heap.size < b) (hl : b + 1 + 1 + 1 ≤ l) (o' : Obj) : RInv w s n g b k (A.putObj l o') where
  own := h.own.of_block (World.putObj_heap_other (by omega))
  list := h.list.putObj (by omega)
  last := h.last.putObj (by omega)
  many := h.many.putObj (by omega)
  ext := h.ext.putObj (by omega) o'
end Go.Proofs.Ytpbnbhiffnnliaa
