/- Slices of integers: one that reads as a list; one that the call owns. The contracts of the laws' own functions on them. -/
import Derived.Test.YtpbnbhiffnnliaaRing
import Derived.Test.YtpbnbhiffnnliaaKA
import Derived.LoopTactic
import Derived.BigQuiet
import Derived.Deep.QuietTactic
import Derived.Laws.AppendOwnNone
namespace Go.Proofs.Ytpbnbhiffnnliaa
set_option linter.unusedSimpArgs false
set_option linter.unusedVariables false
open Go.RowKit

def rowI (xs : List Int) : List Value := xs.map (Value.int .i64)
/-- The slice v, of the call's own from block B on, holds xs. -/
def Own (B : Nat) (w : World) (v : Value) (xs : List Int) : Prop := w.ownsRow B 3 1 v xs.length (rowI xs)
/-- The slice v reads as xs. -/
def Ints (w : World) (v : Value) (xs : List Int) : Prop :=
  ∃ (a : Option Addr) (cap : Nat), v = .slice a xs.length cap ∧ xs.length ≤ maxLen ∧ ∀ i, i < xs.length → ∃ b off, a = some ⟨b, off, none⟩ ∧ b < w.heap.size ∧ w.cell? ⟨b, off + i, none⟩ = some (.int .i64 (xs.getD i 0))

theorem Ints.keep {w w' : World} {v : Value} {xs : List Int} (h : Ints w v xs) (hx : Ext w w') : Ints w' v xs := by
  obtain ⟨a, cap, hv, hm, hc⟩ := h
  refine ⟨a, cap, hv, hm, fun i hi => ?_⟩
  obtain ⟨b, off, ha, hb, hcell⟩ := hc i hi
  exact ⟨b, off, ha, hx.lt hb, by rw [hx.cells.1 b _ hb]; exact hcell⟩
theorem Own.keep {B : Nat} {w w' : World} {v : Value} {xs : List Int} (h : Own B w v xs) (hx : Ext w w') : Own B w' v xs := by
  obtain ⟨h1, h2⟩ := h
  refine ⟨h1, h2.imp id ?_⟩
  rintro ⟨g, cap, cur, hv, hg, hh, r⟩
  exact ⟨g, cap, cur, hv, hg, hx.keep hh, r⟩
theorem Own.mono {B B' : Nat} {w : World} {v : Value} {xs : List Int} (h : Own B w v xs) (hB : B' ≤ B) : Own B' w v xs := by
  obtain ⟨h1, h2⟩ := h
  refine ⟨h1, h2.imp id ?_⟩
  rintro ⟨g, cap, cur, hv, hg, r⟩
  exact ⟨g, cap, cur, hv, Nat.le_trans hB hg, r⟩
theorem Own.nil (B : Nat) (w : World) : Own B w (.slice none 0 0) [] := World.ownsRow_nil _ _ _ _
theorem Own.empty {B : Nat} {w : World} {g : Nat} {cap : Nat} {cur : Array Value} (hB : B ≤ g) (hg : w.heap[g]? = some (.cells cur 3 (0, 0))) (hm : cap ≤ maxLen) (hc : cur.size = cap) : Own B w (.slice (some ⟨g, 0, none⟩) 0 cap) [] :=
  ⟨rfl, .inr ⟨g, cap, cur, rfl, hB, hg, Nat.zero_le _, hm, by omega, by simp [rowI]⟩⟩
theorem Own.lit {B : Nat} {w : World} {g : Nat} (xs : List Int) (hB : B ≤ g) (hg : w.heap[g]? = some (.cells (rowI xs).toArray 3 (0, 0))) (hm : xs.length ≤ maxLen) : Own B w (.slice (some ⟨g, 0, none⟩) xs.length xs.length) xs :=
  ⟨by simp [rowI], .inr ⟨g, xs.length, _, rfl, hB, hg, Nat.le_refl _, hm, by simp [rowI], List.take_of_length_le (by simp [rowI])⟩⟩
theorem Own.ints {B : Nat} {w : World} {v : Value} {xs : List Int} (h : Own B w v xs) : Ints w v xs := by
  have h0 := h
  obtain ⟨h1, ⟨rfl, h2⟩ | ⟨g, cap, cur, hv, hg, hh, hn, hm, hs, ht⟩⟩ := h
  · exact ⟨none, 0, by rw [h2], by rw [h2]; exact Nat.zero_le _, fun i hi => by omega⟩
  · subst hv
    refine ⟨_, cap, rfl, Nat.le_trans hn hm, fun i hi => ⟨g, 0, rfl, lt_of_block hh, ?_⟩⟩
    have := World.ownsRow.cellAt h0 i (by omega)
    rw [Nat.zero_add, this]
    simp [rowI, hi]
theorem Own.len {B : Nat} {w : World} {v : Value} {xs : List Int} (h : Own B w v xs) : xs.length ≤ maxLen := by
  obtain ⟨_, _, _, hm, _⟩ := h.ints; exact hm
theorem Own.block {B : Nat} {w : World} {v : Value} {xs : List Int} (h : Own B w v xs) : ∀ k, v.ownBlock = some k → B ≤ k ∧ k < w.heap.size := World.ownsRow.lt h
theorem Own.setOther {B : Nat} {w : World} {v : Value} {xs : List Int} (h : Own B w v xs) (g : Nat) (hne : v.ownBlock ≠ some g) (i : Nat) (u : Value) : Own B (w.setCell ⟨g, i, none⟩ u) v xs := by
  obtain ⟨h1, h2⟩ := h
  refine ⟨h1, h2.imp id ?_⟩
  rintro ⟨k, cap, cur, hv, hg, hh, r⟩
  subst hv
  have hkg : k ≠ g := fun e => hne (by rw [e]; rfl)
  exact ⟨k, cap, cur, rfl, hg, by rw [Below.heap_setCell _ _ _ _ (by show k ≠ g; exact hkg)]; exact hh, r⟩
/-- The lists' blocks are none of the structs'. -/
theorem Own.ne {B : Nat} {w : World} {v : Value} {xs : List Int} (h : Own B w v xs) {b : Nat} {cs : Array Value} {U : TypeId} (k : Blk w b cs U) (hU : U ≠ 3) : v.ownBlock ≠ some b := by
  obtain ⟨_, ⟨rfl, _⟩ | ⟨g, cap, cur, rfl, _, hh, _⟩⟩ := h
  · simp [Value.ownBlock]
  · intro e
    simp [Value.ownBlock] at e
    subst e
    rw [k] at hh
    simp at hh
    exact hU hh.2
theorem Own.keep' {B : Nat} {w w' : World} {v : Value} {xs : List Int} (h : Own B w v xs) {g : Nat} (hb : ∀ b, b ≠ g → w'.heap[b]? = w.heap[b]?) (hg : v.ownBlock ≠ some g) : Own B w' v xs := by
  obtain ⟨h1, h2⟩ := h
  refine ⟨h1, h2.imp id ?_⟩
  rintro ⟨k, cap, cur, rfl, hk, hh, r⟩
  exact ⟨k, cap, cur, rfl, hk, by rw [hb k (fun e => hg (by simp [Value.ownBlock, e]))]; exact hh, r⟩
/-- What was in memory at w is as it was in w', but for the slice v's own block. -/
structure Turned (v : Value) (w w' : World) : Prop where
  os : w'.os = w.os
  tape : w'.tape = w.tape
  output : w'.output = w.output
  size : w.heap.size ≤ w'.heap.size
  block : ∀ k, k < w.heap.size → v.ownBlock ≠ some k → w'.heap[k]? = w.heap[k]?
theorem Turned.refl (v : Value) (w : World) : Turned v w w := ⟨rfl, rfl, rfl, Nat.le_refl _, fun _ _ _ => rfl⟩
theorem Turned.ext {v : Value} {w0 w w' : World} (h : Ext w0 w) (t : Turned v w w') (hv : ∀ k, v.ownBlock = some k → w0.heap.size ≤ k) : Ext w0 w' :=
  Below.trans h ⟨t.os, t.tape, t.output, t.size, fun k hk => t.block k (Nat.lt_of_lt_of_le hk h.size) (fun e => by have := hv k e; omega)⟩
theorem Turned.own {v u : Value} {w w' : World} {B : Nat} {xs : List Int} (h : Own B w u xs) (t : Turned v w w') (hne : ∀ k, v.ownBlock = some k → u.ownBlock ≠ some k) : Own B w' u xs := by
  obtain ⟨h1, h2⟩ := h
  refine ⟨h1, h2.imp id ?_⟩
  rintro ⟨g, cap, cur, rfl, hg, hh, r⟩
  exact ⟨g, cap, cur, rfl, hg, by rw [t.block g (lt_of_block hh) (fun e => hne g e rfl)]; exact hh, r⟩
theorem Turned.blk {v : Value} {w w' : World} {b : Nat} {cs : Array Value} {T : TypeId} (h : Blk w b cs T) (t : Turned v w w') (hne : v.ownBlock ≠ some b) : Blk w' b cs T := by
  unfold Blk; rw [t.block b h.lt hne]; exact h
/-- What the marks are: k, k + 1, .. -/
def marks (k : Int) (n : Nat) : List Int := (List.range n).map fun (i : Nat) => k + (i : Int)
theorem marks_len (k : Int) (n : Nat) : (marks k n).length = n := by simp [marks]
theorem marks_get (k : Int) (n i : Nat) (h : i < n) : (marks k n).getD i 0 = k + i := by simp [marks, h]

set_option maxHeartbeats 1000000 in
theorem laws_eqIntS (v u : Value) (xs : List Int) (w : World) (hv : Ints w v xs) (hu : Ints w u xs) : Calls Try.prog 70 #[v, u] w fun e w' => e = .returned (.bool true) ∧ Ext w w' := by
  obtain ⟨a, cap, rfl, hm, hca⟩ := hv
  obtain ⟨c, cap', rfl, _, hcc⟩ := hu
  unfold maxLen at hm
  have hxs := Lib.hid (rfl : xs.length = xs.length)
  generalize hl : xs.length = n at *
  clear hxs
  have HL := Lib.hid hl; clear hl
  go_enter Try.func70, Try.ntmps70
  go_wp2
  go_loopw [5] (fun i wr => ∃ k nq : Nat, k ≤ n ∧ i = .int .i64 k ∧ wr = w.drewN nq) (fun i _ => n - (intOf i).toNat)
  case atStart => exact ⟨0, 0, Nat.zero_le _, rfl, rfl⟩
  case round =>
    obtain ⟨k, nq, hk, rfl, rfl⟩ := hrel
    by_cases hlt : k < n
    · obtain ⟨b, off, rfl, _, h1⟩ := hca k hlt
      obtain ⟨b', off', rfl, _, h2⟩ := hcc k hlt
      clear hca hcc
      go_wp2
      go_quiet (fail)
      go_wp2
      go_roundw
      case rel => exact ⟨k + 1, _, by omega, by go_num, rfl⟩
      case measure => simp [intOf]; omega
    · clear hca hcc
      go_wp2
      go_ret
      exact ⟨rfl, (Ext.refl _).drewN _⟩
set_option maxHeartbeats 1000000 in
theorem laws_sameInts (v u : Value) (xs : List Int) (w : World) (hv : Ints w v xs) (hu : Ints w u xs) : Calls Try.prog 29 #[v, u] w fun e w' => e = .returned (.bool true) ∧ Ext w w' := by
  obtain ⟨a, cap, rfl, hm, hca⟩ := hv
  obtain ⟨c, cap', rfl, _, hcc⟩ := hu
  unfold maxLen at hm
  have hxs := Lib.hid (rfl : xs.length = xs.length)
  generalize hl : xs.length = n at *
  clear hxs
  have HL := Lib.hid hl; clear hl
  go_enter Try.func29, Try.ntmps29
  go_wp2
  go_loopw [5] (fun i wr => ∃ k nq : Nat, k ≤ n ∧ i = .int .i64 k ∧ wr = w.drewN nq) (fun i _ => n - (intOf i).toNat)
  case atStart => exact ⟨0, 0, Nat.zero_le _, rfl, rfl⟩
  case round =>
    obtain ⟨k, nq, hk, rfl, rfl⟩ := hrel
    by_cases hlt : k < n
    · obtain ⟨b, off, rfl, _, h1⟩ := hca k hlt
      obtain ⟨b', off', rfl, _, h2⟩ := hcc k hlt
      clear hca hcc
      go_wp2
      go_quiet (fail)
      go_wp2
      go_roundw
      case rel => exact ⟨k + 1, _, by omega, by go_num, rfl⟩
      case measure => simp [intOf]; omega
    · clear hca hcc
      go_wp2
      go_ret
      exact ⟨rfl, (Ext.refl _).drewN _⟩
theorem info_int : (Try.prog.info? 3).map (fun i => (i.zero, i.size, i.bytes)) = some (some (.int .i64 0), 1, 8) := by kernel_rfl
/-- A result that is a slice of integers in new memory. -/
def OwnPost (xs : List Int) (w : World) (e : Ending) (w' : World) : Prop := ∃ v, e = .returned v ∧ Own w.heap.size w' v xs ∧ Ext w w'
theorem Turned.of_grown {v : Value} {w w' : World} (h : w.grownBy w' v.ownBlock) : Turned v w w' :=
  ⟨h.os, h.tape, h.output, h.size, fun k hk hne => h.block k hk (fun e => hne e.symm)⟩
theorem Ext.of_grown {w w' : World} (h : w.grownBy w' none) : Ext w w' := ⟨h.os, h.tape, h.output, h.size, fun k hk => h.block k hk (by simp)⟩
theorem Own.cell {B : Nat} {w : World} {g n cap : Nat} {xs : List Int} (h : Own B w (.slice (some ⟨g, 0, none⟩) n cap) xs) (hn : xs.length = n) (j : Nat) (hj : j < n) : w.cell? ⟨g, j, none⟩ = some (.int .i64 (xs.getD j 0)) ∧ w.frozen? ⟨g, j, none⟩ = false := by
  unfold Own at h
  rw [hn] at h
  have hjx : j < xs.length := by omega
  refine ⟨?_, World.ownsRow.frozenAt h j⟩
  rw [World.ownsRow.cellAt h j (by omega)]
  simp [rowI, hjx]
theorem Own.store {B : Nat} {w : World} {g n cap : Nat} {xs : List Int} (h : Own B w (.slice (some ⟨g, 0, none⟩) n cap) xs) (hn : xs.length = n) (j : Nat) (y : Int) :
    Own B (w.setCell ⟨g, j, none⟩ (.int .i64 y)) (.slice (some ⟨g, 0, none⟩) n cap) (xs.set j y) ∧ Turned (.slice (some ⟨g, 0, none⟩) n cap) w (w.setCell ⟨g, j, none⟩ (.int .i64 y)) := by
  unfold Own at h
  rw [hn] at h
  have := World.ownsRow.stored h j (.int .i64 y)
  refine ⟨?_, Turned.of_grown this.2⟩
  unfold Own
  rw [List.length_set, hn, rowI, List.map_set]
  exact this.1
/-- 'make([]int, n)'. -/
theorem wpList_make_ints (w : World) {ops : Array Oper} {rest : List Oper} {o : Oper} {a : Act} {Q : Exit → Act → World → Prop} (hg : o.guard = none) (l c : Operand) (hop : o.op = Op.makeSlice 23 l c)
    (B : Nat) (n : Nat) (L : Int) (hl : a.eval l = .int .i64 L) (hc : a.eval c = .int .i64 L) (hL : L = (n : Int)) (hn : n ≤ 1099511627776) (hB : B ≤ w.heap.size)
    (hK : ∀ w', Own B w' (.slice (some ⟨w.heap.size, 0, none⟩) n n) (List.replicate n 0) → Ext w w' → w.heap.size < w'.heap.size → wpList Try.prog ops Q rest (a.put o.dst (.slice (some ⟨w.heap.size, 0, none⟩) n n)) w') : wpList Try.prog ops Q (o :: rest) a w := by
  obtain ⟨i0, hi, hz0, hz1, hz2⟩ := info_parts info_int
  refine wpList_make_full w hg l c 23 hop B 3 i0 (.int .i64 0) 1 Try.underlying23 hi hz0 hz1 .i64 .i64 L L n hl hc hL hL (by rw [hz2]; omega) (by unfold maxLen; omega) hB fun w' ho hgr => ?_
  have e : (madeCells (Value.int .i64 0).cells (n * 1)).toList = rowI (List.replicate n 0) := by
    rw [Nat.mul_one, show (Value.int .i64 0).cells = #[Value.int .i64 0] from rfl, toList_madeCells_one]; simp [rowI]
  rw [e] at ho
  have hlt : w.heap.size < w'.heap.size := (World.ownsRow.lt ho w.heap.size rfl).2
  exact hK w' (by unfold Own; rw [List.length_replicate]; exact ho) (Ext.of_grown hgr) hlt
/-- 'append(v, y)' of one integer to a slice of the call's own. -/
theorem wpList_append_one {w : World} {ops : Array Oper} {rest : List Oper} {o : Oper} {a : Act} {Q : Exit → Act → World → Prop} (hgd : o.guard = none) (s x : Operand)
    (ho : o.op = .call { callee := .builtin .append, args := #[s, x], argTypes := #[23, 23] }) (B : Nat) (v : Value) (xs : List Int) (hs : a.eval s = v) (hown : Own B w v xs)
    (b : Nat) (y : Int) (hx : a.eval x = .slice (some ⟨b, 0, none⟩) 1 1) (hb : Blk w b #[.int .i64 y] 3) (hlen : xs.length + 1 ≤ 1099511627776) (hB : B ≤ w.heap.size)
    (h : ∀ v' w', Own B w' v' (xs ++ [y]) → Turned v w w' → wpList Try.prog ops Q rest (a.put o.dst v') w') : wpList Try.prog ops Q (o :: rest) a w := by
  obtain ⟨i0, hi, hz0, hz1, hz2⟩ := info_parts info_int
  refine wpList_append_own w hgd s x 23 ho B 3 i0 (.int .i64 0) 1 8 Try.underlying23 hi hz0 hz1 hz2 rfl (by decide) v xs.length (rowI xs) hs hown ⟨b, 0, none⟩ 1 1 [.int .i64 y] hx rfl (fun j u hj => ?_) (fun u hu => ?_) (by unfold maxLen; omega) (by omega) hB fun v' w' ho' hgr _ => ?_
  · match j, hj with
    | 0, hj => simp at hj; subst hj; exact hb.cell 0
  · simp at hu; subst hu; rfl
  · refine h v' w' ?_ (Turned.of_grown hgr)
    unfold Own
    rw [List.length_append, List.length_singleton, rowI, List.map_append]
    exact ho'

end Go.Proofs.Ytpbnbhiffnnliaa
namespace Go.Proofs.Ytpbnbhiffnnliaa
set_option linter.unusedSimpArgs false
set_option linter.unusedVariables false
open Go.RowKit
/-- A nil slice has no room. -/
def NilOk (v : Value) : Prop := ∀ n c, v = .slice none n c → c = 0
theorem Own.nilOk {B : Nat} {w : World} {v : Value} {xs : List Int} (h : Own B w v xs) : NilOk v := by
  obtain ⟨_, ⟨rfl, _⟩ | ⟨g, cap, cur, rfl, _⟩⟩ := h
  · intro n c e; cases e; rfl
  · intro n c e; cases e
theorem add_pl (b o i : Nat) : (⟨b, o, none⟩ : Addr).add i = ⟨b, o + i, none⟩ := by
  unfold Addr.add; by_cases h : i = 0
  · subst h; rfl
  · rw [if_neg h]
theorem wpList_append_ints {w : World} {ops : Array Oper} {rest : List Oper} {o : Oper} {a : Act} {Q : Exit → Act → World → Prop} (hgd : o.guard = none) (s x : Operand)
    (ho : o.op = .call { callee := .builtin .append, args := #[s, x], argTypes := #[23, 23] }) (B : Nat) (v : Value) (xs : List Int) (hs : a.eval s = v) (hown : Own B w v xs)
    (u : Value) (ys : List Int) (hx : a.eval x = u) (hi : Ints w u ys) (hn : NilOk u) (hlen : xs.length + ys.length ≤ 1099511627776) (hB : B ≤ w.heap.size)
    (h : ∀ v' w', Own B w' v' (xs ++ ys) → Turned v w w' → wpList Try.prog ops Q rest (a.put o.dst v') w') : wpList Try.prog ops Q (o :: rest) a w := by
  obtain ⟨i0, hi0, hz0, hz1, hz2⟩ := info_parts info_int
  obtain ⟨ad, cap, rfl, hm, hc⟩ := hi
  cases ad with
  | none =>
    have e : ys.length = 0 := by
      rcases Nat.eq_zero_or_pos ys.length with h0 | h0
      · exact h0
      · obtain ⟨b, off, h1, _⟩ := hc 0 h0; cases h1
    obtain rfl : ys = [] := List.eq_nil_of_length_eq_zero e
    obtain rfl := hn _ _ rfl
    refine wpList_append_own_none hgd s x 23 ho B 3 i0 1 Try.underlying23 hi0 v xs.length (rowI xs) hs hown hx ?_
    exact h v w (by rw [List.append_nil]; exact hown) ⟨rfl, rfl, rfl, Nat.le_refl _, fun _ _ _ => rfl⟩
  | some ad =>
    have hcells : ∀ j u, (rowI ys)[j]? = some u → w.cell? (ad.add j) = some u := by
      intro j u hj
      have hlt : j < ys.length := by
        have := List.getElem?_eq_some_iff.1 hj
        obtain ⟨h1, _⟩ := this
        simpa [rowI] using h1
      obtain ⟨b, off, h1, h2, h3⟩ := hc j hlt
      cases h1
      rw [add_pl, h3, ← hj]
      simp [rowI, hlt]
    refine wpList_append_own w hgd s x 23 ho B 3 i0 (.int .i64 0) 1 8 Try.underlying23 hi0 hz0 hz1 hz2 rfl (by decide) v xs.length (rowI xs) hs hown ad ys.length cap (rowI ys) hx (by simp [rowI]) hcells (fun u hu => ?_) (by unfold maxLen; omega) (by omega) hB fun v' w' ho' hgr _ => ?_
    · simp only [rowI, List.mem_map] at hu
      obtain ⟨z, _, rfl⟩ := hu; rfl
    · refine h v' w' ?_ (Turned.of_grown hgr)
      unfold Own
      rw [List.length_append, rowI, List.map_append]
      exact ho'
end Go.Proofs.Ytpbnbhiffnnliaa
