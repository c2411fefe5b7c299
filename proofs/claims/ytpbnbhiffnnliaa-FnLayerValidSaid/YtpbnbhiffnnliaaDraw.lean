/- The reader that draws inputs from a code: what each draw returns, as far as a law needs it; the reader's own block is all that turns. -/
import Derived.Test.YtpbnbhiffnnliaaKI
import Derived.BigQuiet
namespace Go.Proofs.Ytpbnbhiffnnliaa
set_option linter.unusedSimpArgs false
set_option linter.unusedVariables false
open Go.RowKit

/-- What was in memory at w is as it was in w', but for block g. -/
structure Mod (g : Nat) (w w' : World) : Prop where
  os : w'.os = w.os
  tape : w'.tape = w.tape
  output : w'.output = w.output
  size : w.heap.size ≤ w'.heap.size
  block : ∀ k, k < w.heap.size → k ≠ g → w'.heap[k]? = w.heap[k]?
theorem Mod.refl (g : Nat) (w : World) : Mod g w w := ⟨rfl, rfl, rfl, Nat.le_refl _, fun _ _ _ => rfl⟩
theorem Mod.trans {g : Nat} {a b c : World} (h : Mod g a b) (k : Mod g b c) : Mod g a c :=
  ⟨k.os.trans h.os, k.tape.trans h.tape, k.output.trans h.output, Nat.le_trans h.size k.size, fun i hi hne => (k.block i (Nat.lt_of_lt_of_le hi h.size) hne).trans (h.block i hi hne)⟩
theorem Mod.of_ext {g : Nat} {a b : World} (h : Ext a b) : Mod g a b := ⟨h.os, h.tape, h.output, Ext.size h, fun k hk _ => Below.block h k hk⟩
theorem Mod.alloc {g : Nat} {a w : World} (h : Mod g a w) (o : Obj) : Mod g a (w.alloc o) := h.trans (Mod.of_ext ((Ext.refl w).alloc o))
theorem Mod.drewN {g : Nat} {a w : World} (h : Mod g a w) (n : Nat) : Mod g a (w.drewN n) := h.trans (Mod.of_ext ((Ext.refl w).drewN n))
theorem Mod.set {g : Nat} {a w : World} (h : Mod g a w) (i : Nat) (u : Value) : Mod g a (w.setCell ⟨g, i, none⟩ u) :=
  h.trans ⟨rfl, rfl, rfl, by simp [World.setCell], fun k _ hne => Below.heap_setCell _ _ _ _ hne⟩
theorem Mod.setNew {g : Nat} {a w : World} (h : Mod g a w) {b : Nat} (hb : a.heap.size ≤ b) (i : Nat) (u : Value) : Mod g a (w.setCell ⟨b, i, none⟩ u) :=
  ⟨h.os, h.tape, h.output, by simpa [World.setCell] using h.size, fun k hk hne => (Below.heap_setCell _ _ _ _ (by show k ≠ b; omega)).trans (h.block k hk hne)⟩
theorem Mod.ext {g : Nat} {w0 w w' : World} (h : Ext w0 w) (m : Mod g w w') (hg : w0.heap.size ≤ g) : Ext w0 w' :=
  Below.trans h ⟨m.os, m.tape, m.output, m.size, fun k hk => m.block k (Nat.lt_of_lt_of_le hk h.size) (by omega)⟩
theorem Mod.cells {g : Nat} {w w' : World} (h : Mod g w w') : (∀ b o, b < w.heap.size → b ≠ g → w'.cell? ⟨b, o, none⟩ = w.cell? ⟨b, o, none⟩) ∧ (∀ b o, b < w.heap.size → b ≠ g → w'.frozen? ⟨b, o, none⟩ = w.frozen? ⟨b, o, none⟩) :=
  ⟨fun b o hb hne => World.cell?_of_block (a := ⟨b, o, none⟩) (h.block b hb hne), fun b o hb hne => World.frozen?_of_block (a := ⟨b, o, none⟩) (h.block b hb hne)⟩
theorem Mod.blk {g : Nat} {w w' : World} (h : Mod g w w') {b : Nat} {cs : Array Value} {T : TypeId} (k : Blk w b cs T) (hne : b ≠ g) : Blk w' b cs T := by
  unfold Blk; rw [h.block b k.lt hne]; exact k

/-- A slice of at most N bytes, all in blocks ahead of block g. -/
def Code (g : Nat) (N : Nat) (w : World) (v : Value) : Prop :=
  ∃ (a : Option Addr) (n cap : Nat), v = .slice a n cap ∧ n ≤ N ∧ ∀ i, i < n → ∃ b off, a = some ⟨b, off, none⟩ ∧ b < g ∧ ∃ c : Int, w.cell? ⟨b, off + i, none⟩ = some (.int .u8 c) ∧ 0 ≤ c ∧ c ≤ 255
theorem Code.cells {g N : Nat} {w w' : World} {v : Value} (h : Code g N w v) (m : ∀ b, b < g → w'.heap[b]? = w.heap[b]?) : Code g N w' v := by
  obtain ⟨a, n, cap, hv, hn, hc⟩ := h
  refine ⟨a, n, cap, hv, hn, fun i hi => ?_⟩
  obtain ⟨b, off, ha, hb, c, hcell, hlo, hhi⟩ := hc i hi
  exact ⟨b, off, ha, hb, c, by rw [World.cell?_of_block (a := ⟨b, off + i, none⟩) (m b hb)]; exact hcell, hlo, hhi⟩
/-- A fact that the walk does not look into. -/
structure Kept (p : Prop) : Prop where
  out : p
/-- A count that a whole number holds with room to spare. -/
structure Room (P : Nat) : Prop where
  to ::
  int : (P : Int) ≤ 1073741824
theorem Room.le {P Q : Nat} (h : Room Q) (k : P ≤ Q) : Room P := ⟨by have := h.int; omega⟩
/-- Block g is a reader that has read at most P bytes. -/
def Rdr (g : Nat) (P : Nat) (w : World) : Prop := ∃ (p : Nat) (sl : Value), Blk w g #[sl, .int .i64 p] 68 ∧ Code g 2000 w sl ∧ p ≤ P ∧ Room P
theorem Rdr.lt {g P : Nat} {w : World} (h : Rdr g P w) : g < w.heap.size := by obtain ⟨_, _, h1, _⟩ := h; exact h1.lt
theorem Rdr.keep {g P : Nat} {w w' : World} (h : Rdr g P w) (hx : Ext w w') : Rdr g P w' := by
  have hl := h.lt
  obtain ⟨p, sl, h1, h2, h3⟩ := h
  exact ⟨p, sl, h1.keep hx, h2.cells (fun b hb => Below.block hx b (by omega)), h3⟩
theorem Rdr.set {g P : Nat} {w : World} (h : Rdr g P w) {b : Nat} (hb : g < b) (i : Nat) (u : Value) : Rdr g P (w.setCell ⟨b, i, none⟩ u) := by
  obtain ⟨p, sl, h1, h2, h3⟩ := h
  refine ⟨p, sl, ?_, h2.cells (fun k hk => Below.heap_setCell _ _ _ _ (by show k ≠ b; omega)), h3⟩
  unfold Blk; rw [Below.heap_setCell _ _ _ _ (by show g ≠ b; omega)]; exact h1
theorem Rdr.setRow {g P : Nat} {w : World} (h : Rdr g P w) {b : Nat} (hb : g < b) (cs : Array Value) : Rdr g P (w.setRow b cs) := by
  obtain ⟨p, sl, h1, h2, h3⟩ := h
  refine ⟨p, sl, ?_, h2.cells (fun k hk => setRow_other w b k cs (by omega)), h3⟩
  unfold Blk; rw [setRow_other w b g cs (by omega)]; exact h1
theorem Mod.setRow {g : Nat} {a w : World} (h : Mod g a w) {b : Nat} (hb : a.heap.size ≤ b) (cs : Array Value) : Mod g a (w.setRow b cs) :=
  ⟨h.os, h.tape, h.output, by simpa [World.setRow] using h.size, fun k hk hne => (setRow_other w b k cs (by omega)).trans (h.block k hk hne)⟩
theorem Rdr.mono {g P Q : Nat} {w : World} (h : Rdr g P w) (hq : P ≤ Q) (hb : Room Q) : Rdr g Q w := by
  obtain ⟨p, sl, h1, h2, h3, h4⟩ := h
  exact ⟨p, sl, h1, h2, Nat.le_trans h3 hq, hb⟩
theorem xor_nonneg (x y : Int) (hx : 0 ≤ x) (hx' : x ≤ 1099511627776) (hy : 0 ≤ y) (hy' : y ≤ 1099511627776) : 0 ≤ bits .xor .i64 x y ∧ bits .xor .i64 x y ≤ 4611686018427387904 := by
  obtain ⟨a, rfl⟩ := Int.eq_ofNat_of_zero_le hx
  obtain ⟨b, rfl⟩ := Int.eq_ofNat_of_zero_le hy
  have h1 : a ^^^ b < 2 ^ 41 := Nat.xor_lt_two_pow (by omega) (by omega)
  have e : (BitVec.ofInt 64 (a : Int) ^^^ BitVec.ofInt 64 (b : Int)).toNat = a ^^^ b := by
    rw [BitVec.ofInt_natCast, BitVec.ofInt_natCast, BitVec.toNat_xor, BitVec.toNat_ofNat, BitVec.toNat_ofNat, Nat.mod_eq_of_lt (by omega), Nat.mod_eq_of_lt (by omega)]
  have : bits .xor .i64 (a : Int) (b : Int) = ((a ^^^ b : Nat) : Int) := by
    show IntKind.i64.wrap ((BitVec.ofInt 64 (a : Int) ^^^ BitVec.ofInt 64 (b : Int)).toNat : Int) = _
    rw [e, IntKind.wrap_i64]; omega
  rw [this]; omega
/-- What a draw leaves: a value that is as asked, the reader some bytes further, and nothing else turned. -/
def Drawn (g P : Nat) (ok : Value → Prop) (w : World) (e : Ending) (w' : World) : Prop :=
  ∃ v, e = .returned v ∧ ok v ∧ Rdr g P w' ∧ Mod g w w'
/-- Small enough. -/
structure In40 (x : Int) : Prop where
  lo : -1 ≤ x
  hi : x ≤ 1099511627776
/-- A small bound. -/
structure Bnd (n : Int) : Prop where
  lo : 0 ≤ n
  hi : n ≤ 1000000
/-- A number that is small enough. -/
def IsNum (v : Value) : Prop := ∃ x : Int, v = .int .i64 x ∧ In40 x
/-- A number below n (0 if there is none). -/
def Below' (n : Int) (v : Value) : Prop := ∃ x : Nat, v = .int .i64 x ∧ (1 ≤ n → (x : Int) < n) ∧ (n < 1 → x = 0)
theorem pick_mk {g P : Nat} {n : Int} {w w' : World} {y : Int} (h0 : 0 ≤ y) (h1 : 1 ≤ n → y < n) (h2 : n < 1 → y = 0) (hr : Rdr g P w') (hm : Mod g w w') : Drawn g P (Below' n) w (.returned (.int .i64 y)) w' := by
  obtain ⟨x, rfl⟩ := Int.eq_ofNat_of_zero_le h0
  exact ⟨_, rfl, ⟨x, rfl, h1, fun h => by have := h2 h; omega⟩, hr, hm⟩
theorem Rdr.next {g p P : Nat} {w : World} {sl : Value} (h1 : Blk w g #[sl, .int .i64 p] 68) (h2 : Code g 2000 w sl) (h3 : p ≤ P) (h4 : Room (P + 1)) (n : Nat) : Rdr g (P + 1) ((w.setCell ⟨g, 1, none⟩ (.int .i64 ((p : Int) + 1))).drewN n) ∧ Mod g w ((w.setCell ⟨g, 1, none⟩ (.int .i64 ((p : Int) + 1))).drewN n) := by
  have m : Mod g w ((w.setCell ⟨g, 1, none⟩ (.int .i64 ((p : Int) + 1))).drewN n) := ((Mod.refl g w).set 1 _).drewN n
  refine ⟨⟨p + 1, sl, ?_, h2.cells (fun b hb => m.block b (by have := h1.lt; omega) (by omega)), by omega, h4⟩, m⟩
  have := heap_setCell_same w g 1 #[sl, .int .i64 p] 68 (.int .i64 ((p : Int) + 1)) h1
  exact this
/-- The pick's last arithmetic. -/
theorem pick_last {c d n p l : Int} (hn : 1 ≤ n) (c0 : 0 ≤ c) (c1 : c ≤ 255) (d0 : 0 ≤ d) (d1 : d ≤ 255) (p0 : 0 ≤ p) (p1 : p ≤ 1073741824) (l0 : 0 < l) :
    0 ≤ ((bits BinOp.xor IntKind.i64 (wrap64 (c * 131 + d * 1117 + p * 29 + wrap64 (wrap64 (p / l) * 53))) (wrap64 ((wrap64 (c * 131 + d * 1117 + p * 29 + wrap64 (wrap64 (p / l) * 53))).tdiv 64))).tmod n) ∧
    ((bits BinOp.xor IntKind.i64 (wrap64 (c * 131 + d * 1117 + p * 29 + wrap64 (wrap64 (p / l) * 53))) (wrap64 ((wrap64 (c * 131 + d * 1117 + p * 29 + wrap64 (wrap64 (p / l) * 53))).tdiv 64))).tmod n) < n := by
  have q0 : 0 ≤ p / l := Int.ediv_nonneg p0 (Int.le_of_lt l0)
  have q1 : p / l ≤ p := Int.ediv_le_self _ p0
  generalize p / l = q at q0 q1
  have e1 : wrap64 q = q := by unfold wrap64; omega
  have e2 : wrap64 (q * 53) = q * 53 := by unfold wrap64; omega
  rw [e1, e2]
  obtain ⟨X, hX⟩ : ∃ X, X = c * 131 + d * 1117 + p * 29 + q * 53 := ⟨_, rfl⟩
  have b0 : 0 ≤ X := by omega
  have b1 : X ≤ 1099511627776 := by omega
  rw [← hX]; clear hX
  have e3 : wrap64 X = X := by unfold wrap64; omega
  have e4 : X.tdiv 64 = X / 64 := Int.tdiv_eq_ediv_of_nonneg b0
  have e5 : wrap64 (X / 64) = X / 64 := by unfold wrap64; omega
  rw [e3, e4, e5]
  have hx := (xor_nonneg X (X / 64) b0 b1 (by omega) (by omega)).1
  exact ⟨Int.tmod_nonneg _ hx, Int.tmod_lt_of_pos _ (by omega)⟩

set_option maxHeartbeats 4000000 in
theorem pick (g P : Nat) (n : Int) (hp : Room (P + 1)) (w : World) (hr : Rdr g P w) : Calls Try.prog 21 #[.pointer (some ⟨g, 0, none⟩), .int .i64 n] w (Drawn g (P + 1) (Below' n) w) := by
  obtain ⟨p, sl, hblk, hcode, hpP, hP⟩ := hr
  clear hP
  obtain ⟨a, l, cap, rfl, hl, hc⟩ := id hcode
  have NEXT := Lib.hid (Rdr.next hblk hcode hpP hp)
  obtain ⟨c0, c1⟩ := hblk.two
  have f1 := hblk.free 1
  have hpb : p + 1 ≤ 1073741824 := by have := hp.int; omega
  clear hblk hcode hpP hp
  by_cases hn : n < 1
  · clear hc
    go_enter Try.func21, Try.ntmps21
    go_wp2
    go_ret
    exact pick_mk (by omega) (by omega) (by omega) (NEXT.out 0).1 (NEXT.out 0).2
  · by_cases hl0 : l = 0
    · subst hl0
      clear hc
      go_enter Try.func21, Try.ntmps21
      go_wp2
      go_ret
      exact pick_mk (by omega) (by omega) (by omega) (NEXT.out 0).1 (NEXT.out 0).2
    · by_cases hpl : p < l
      · obtain ⟨b, off, rfl, hb, c, hcell, hlo, hhi⟩ := hc p hpl
        clear hc
        have hne : b ≠ g := by omega
        clear hb
        go_enter Try.func21, Try.ntmps21
        go_wp2
        go_ret
        have r0 := Int.emod_nonneg c (show n ≠ 0 by omega)
        have r1 := Int.emod_lt_of_pos c (show 0 < n by omega)
        exact pick_mk (by omega) (by omega) (by omega) (NEXT.out 0).1 (NEXT.out 0).2
      · have hlpos : 0 < l := by omega
        obtain ⟨b, off, rfl, hb, c, hcell, hlo, hhi⟩ := hc (p % l) (Nat.mod_lt _ hlpos)
        obtain ⟨b', off', hbb, hb', d, hcell', hlo', hhi'⟩ := hc ((p * 7 + 3) % l) (Nat.mod_lt _ hlpos)
        simp only [Option.some.injEq, Addr.mk.injEq, and_true] at hbb
        obtain ⟨rfl, rfl⟩ := hbb
        clear hc
        have hne : b ≠ g := by omega
        clear hb hb'
        obtain ⟨i, hi⟩ : ∃ i, i = p % l := ⟨_, rfl⟩
        obtain ⟨j, hj⟩ : ∃ j, j = (p * 7 + 3) % l := ⟨_, rfl⟩
        have ei : (p : Int) % (l : Int) = (i : Int) := by rw [hi]; omega
        have ej : ((p : Int) * 7 + 3) % (l : Int) = (j : Int) := by rw [hj]; simp
        have li : i < l := by rw [hi]; exact Nat.mod_lt _ hlpos
        have lj : j < l := by rw [hj]; exact Nat.mod_lt _ hlpos
        rw [← hi] at hcell
        rw [← hj] at hcell'
        clear hi hj
        go_enter Try.func21, Try.ntmps21
        go_wp2
        go_quiet (fail)
        go_wp2
        go_ret
        have last := pick_last hn hlo hhi hlo' hhi' (show (0 : Int) ≤ p by omega) (by omega) (show (0 : Int) < l by omega)
        exact pick_mk last.1 (fun _ => last.2) (by omega) (NEXT.out _).1 (NEXT.out _).2

/-- Chosen or not. -/
def IsBool (v : Value) : Prop := ∃ b : Bool, v = .bool b
set_option maxHeartbeats 1000000 in
theorem odd (g P : Nat) (n : Int) (HN : Bnd n) (hp : Room (P + 1)) (w : World) (hr : Rdr g P w) : Calls Try.prog 23 #[.pointer (some ⟨g, 0, none⟩), .int .i64 n] w (Drawn g (P + 1) IsBool w) := by
  have n0 := HN.lo
  by_cases hn : 0 < n
  · go_enter Try.func23, Try.ntmps23
    go_wp2_with (go_at_call 21; (with_reducible refine (pick g P _ hp _ hr).mono ?_); rintro e w1 ⟨v, rfl, ⟨x, rfl, h1, h2⟩, hr1, hm1⟩)
    clear h1 h2
    go_wp2
    go_ret
    exact ⟨_, rfl, ⟨_, rfl⟩, hr1, hm1⟩
  · go_enter Try.func23, Try.ntmps23
    go_wp2
    go_ret
    exact ⟨_, rfl, ⟨_, rfl⟩, hr.mono (by omega) hp, Mod.refl g _⟩

/-- A slice of bytes. -/
def Bytes (w : World) (v : Value) : Prop :=
  ∃ (a : Option Addr) (n cap : Nat), v = .slice a n cap ∧ n ≤ cap ∧ (cap : Int) ≤ 9223372036854775807 ∧ ∀ i, i < n → ∃ b off, a = some ⟨b, off, none⟩ ∧ b < w.heap.size ∧ ∃ c : Int, w.cell? ⟨b, off + i, none⟩ = some (.int .u8 c) ∧ 0 ≤ c ∧ c ≤ 255
theorem Bytes.ext {w w' : World} {v : Value} (h : Bytes w v) (hx : Ext w w') : Bytes w' v := by
  obtain ⟨a, n, cap, hv, hn, hm, hc⟩ := h
  refine ⟨a, n, cap, hv, hn, hm, fun i hi => ?_⟩
  obtain ⟨b, off, ha, hb, c, hcell, hlo, hhi⟩ := hc i hi
  exact ⟨b, off, ha, hx.lt hb, c, by rw [hx.cells.1 b _ hb]; exact hcell, hlo, hhi⟩
/-- What l20Open leaves: a new reader. -/
def Opened (w : World) (e : Ending) (w' : World) : Prop := ∃ g, e = .returned (.pointer (some ⟨g, 0, none⟩)) ∧ w.heap.size ≤ g ∧ Rdr g 0 w' ∧ Ext w w'
theorem opened_mk {w : World} {a : Option Addr} {n cap : Nat} (hn : n ≤ 2000) (hc : ∀ i, i < n → ∃ b off, a = some ⟨b, off, none⟩ ∧ b < w.heap.size ∧ ∃ c : Int, w.cell? ⟨b, off + i, none⟩ = some (.int .u8 c) ∧ 0 ≤ c ∧ c ≤ 255) :
    Opened w (.returned (.pointer (some ⟨w.heap.size, 0, none⟩))) (w.alloc (.cells #[.slice a n cap, .int .i64 0] 68)) := by
  refine ⟨_, rfl, Nat.le_refl _, ⟨0, _, Blk.new _ _ _, ⟨a, n, cap, rfl, hn, fun i hi => ?_⟩, Nat.le_refl _, Room.to (by omega)⟩, (Ext.refl w).alloc _⟩
  obtain ⟨b, off, ha, hb, c, hcell, hlo, hhi⟩ := hc i hi
  exact ⟨b, off, ha, hb, c, by rw [((Ext.refl w).alloc _).cells.1 b _ hb]; exact hcell, hlo, hhi⟩
set_option maxHeartbeats 1000000 in
theorem open' (v : Value) (w : World) (hb : Bytes w v) : Calls Try.prog 20 #[v] w (Opened w) := by
  obtain ⟨a, n, cap, rfl, hn, hm, hc⟩ := hb
  have HC := Lib.hid hc; clear hc
  by_cases hl : n ≤ 2000
  · go_enter Try.func20, Try.ntmps20
    go_wp2
    go_ret
    exact opened_mk hl HC.out
  · obtain ⟨b, off, rfl, hb, -⟩ := HC.out 0 (by omega)
    go_enter Try.func20, Try.ntmps20
    go_wp2
    go_ret
    exact opened_mk (by omega) (fun i hi => HC.out i (by omega))

end Go.Proofs.Ytpbnbhiffnnliaa
