import Derived.Test.YtkkdikoknegpjaaGreatKI
import Derived.BigQuiet
import Derived.Test.YtkkdikoknegpjaaGreatKA
namespace Go.Proofs.YtkkdikoknegpjaaGreat
set_option linter.unusedSimpArgs false
set_option linter.unusedVariables false
open Go.RowKit
structure Mod (g : Nat) (w w' : World) : Prop where
 os : w'.os = w.os
 tape : w'.tape = w.tape
 output : w'.output = w.output
 size : w.heap.size ≤ w'.heap.size
 block : ∀ k, k < w.heap.size → k ≠ g → w'.heap[k]? = w.heap[k]?
theorem Mod.refl (g : Nat) (w : World) : Mod g w w := ⟨rfl, rfl, rfl, Nat.le_refl _, fun _ _ _ => rfl⟩
theorem Mod.trans {g : Nat} {a b c : World} (h : Mod g a b) (k : Mod g b c) : Mod g a c :=
 ⟨k.os.trans h.os, k.tape.trans h.tape, k.output.trans h.output, Nat.le_trans h.size k.size, fun i hi hne => (k.block i (Nat.lt_of_lt_of_le hi h.size) hne).trans (h.block i hi hne)⟩
theorem Mod.of_ext {g : Nat} {a b : World} (h : Ext a b) : Mod g a b := ⟨h.os, h.tape, h.output, Ext.size h, fun k hk _ => Below.block h k hk⟩
theorem Mod.alloc {g : Nat} {a w : World} (h : Mod g a w) (o : Obj) : Mod g a (w.alloc o) := h.trans (Mod.of_ext ((Ext.refl w).alloc o))
theorem Mod.drewN {g : Nat} {a w : World} (h : Mod g a w) (n : Nat) : Mod g a (w.drewN n) := h.trans (Mod.of_ext ((Ext.refl w).drewN n))
theorem Mod.set {g : Nat} {a w : World} (h : Mod g a w) (i : Nat) (u : Value) : Mod g a (w.setCell ⟨g, i, none⟩ u) :=
 h.trans ⟨rfl, rfl, rfl, by simp [World.setCell], fun k _ hne => Below.heap_setCell _ _ _ _ hne⟩
theorem Mod.ext {g : Nat} {w0 w w' : World} (h : Ext w0 w) (m : Mod g w w') (hg : w0.heap.size ≤ g) : Ext w0 w' :=
 Below.trans h ⟨m.os, m.tape, m.output, m.size, fun k hk => m.block k (Nat.lt_of_lt_of_le hk h.size) (by omega)⟩
theorem Mod.cells {g : Nat} {w w' : World} (h : Mod g w w') : (∀ b o, b < w.heap.size → b ≠ g → w'.cell? ⟨b, o, none⟩ = w.cell? ⟨b, o, none⟩) ∧ (∀ b o, b < w.heap.size → b ≠ g → w'.frozen? ⟨b, o, none⟩ = w.frozen? ⟨b, o, none⟩) :=
 ⟨fun b o hb hne => World.cell?_of_block (a := ⟨b, o, none⟩) (h.block b hb hne), fun b o hb hne => World.frozen?_of_block (a := ⟨b, o, none⟩) (h.block b hb hne)⟩
theorem Mod.blk {g : Nat} {w w' : World} (h : Mod g w w') {b : Nat} {cs : Array Value} {T : TypeId} (k : Blk w b cs T) (hne : b ≠ g) : Blk w' b cs T := by
 unfold Blk; rw [h.block b k.lt hne]; exact k
def Code (g : Nat) (N : Nat) (w : World) (v : Value) : Prop :=
 ∃ (a : Option Addr) (n cap : Nat), v = .slice a n cap ∧ n ≤ N ∧ ∀ i, i < n → ∃ b off, a = some ⟨b, off, none⟩ ∧ b < g ∧ ∃ c : Int, w.cell? ⟨b, off + i, none⟩ = some (.int .u8 c) ∧ 0 ≤ c ∧ c ≤ 255
theorem Code.cells {g N : Nat} {w w' : World} {v : Value} (h : Code g N w v) (m : ∀ b, b < g → w'.heap[b]? = w.heap[b]?) : Code g N w' v := by
 obtain ⟨a, n, cap, hv, hn, hc⟩ := h
 refine ⟨a, n, cap, hv, hn, fun i hi => ?_⟩
 obtain ⟨b, off, ha, hb, c, hcell, hlo, hhi⟩ := hc i hi
 exact ⟨b, off, ha, hb, c, by rw [World.cell?_of_block (a := ⟨b, off + i, none⟩) (m b hb)]; exact hcell, hlo, hhi⟩
structure Kept (p : Prop) : Prop where
 out : p
theorem kp {p : Prop} (h : p) : Kept p := ⟨h⟩
theorem Kept.o {p : Prop} (h : Kept p) : p := h.out
structure Room (P : Nat) : Prop where
 to ::
 int : (P : Int) ≤ 1073741824
theorem Room.le {P Q : Nat} (h : Room Q) (k : P ≤ Q) : Room P := ⟨by have := h.int; omega⟩
def Rdr (g : Nat) (P : Nat) (w : World) : Prop := ∃ (p : Nat) (sl : Value), Blk w g #[sl, .int .i64 p] 91 ∧ Code g 2000 w sl ∧ p ≤ P ∧ Room P
theorem Rdr.lt {g P : Nat} {w : World} (h : Rdr g P w) : g < w.heap.size := by obtain ⟨_, _, h1, _⟩ := h; exact h1.lt
theorem Rdr.keep {g P : Nat} {w w' : World} (h : Rdr g P w) (hx : Ext w w') : Rdr g P w' := by
 have hl := h.lt
 obtain ⟨p, sl, h1, h2, h3⟩ := h
 exact ⟨p, sl, h1.keep hx, h2.cells (fun b hb => Below.block hx b (by omega)), h3⟩
theorem Rdr.set {g P : Nat} {w : World} (h : Rdr g P w) {b : Nat} (hb : g < b) (i : Nat) (u : Value) : Rdr g P (w.setCell ⟨b, i, none⟩ u) := by
 obtain ⟨p, sl, h1, h2, h3⟩ := h
 refine ⟨p, sl, ?_, h2.cells (fun k hk => Below.heap_setCell _ _ _ _ (by show k ≠ b; omega)), h3⟩
 unfold Blk; rw [Below.heap_setCell _ _ _ _ (by show g ≠ b; omega)]; exact h1
theorem Rdr.setRow {g P : Nat} {w : World} (h : Rdr g P w) {b : Nat} (hb : g < b) (cs : Array Value) : Rdr g P (w.setRow b cs) := by
 obtain ⟨p, sl, h1, h2, h3⟩ := h
 refine ⟨p, sl, ?_, h2.cells (fun k hk => setRow_other w b k cs (by omega)), h3⟩
 unfold Blk; rw [setRow_other w b g cs (by omega)]; exact h1
theorem Mod.setRow {g : Nat} {a w : World} (h : Mod g a w) {b : Nat} (hb : a.heap.size ≤ b) (cs : Array Value) : Mod g a (w.setRow b cs) :=
 ⟨h.os, h.tape, h.output, by simpa [World.setRow] using h.size, fun k hk hne => (setRow_other w b k cs (by omega)).trans (h.block k hk hne)⟩
theorem Rdr.mono {g P Q : Nat} {w : World} (h : Rdr g P w) (hq : P ≤ Q) (hb : Room Q) : Rdr g Q w := by
 obtain ⟨p, sl, h1, h2, h3, h4⟩ := h
 exact ⟨p, sl, h1, h2, Nat.le_trans h3 hq, hb⟩
theorem xor_nonneg (x y : Int) (hx : 0 ≤ x) (hx' : x ≤ 1099511627776) (hy : 0 ≤ y) (hy' : y ≤ 1099511627776) : 0 ≤ bits .xor .i64 x y ∧ bits .xor .i64 x y ≤ 4611686018427387904 := by
 obtain ⟨a, rfl⟩ := Int.eq_ofNat_of_zero_le hx
 obtain ⟨b, rfl⟩ := Int.eq_ofNat_of_zero_le hy
 have h1 : a ^^^ b < 2 ^ 41 := Nat.xor_lt_two_pow (by omega) (by omega)
 have e : (BitVec.ofInt 64 (a : Int) ^^^ BitVec.ofInt 64 (b : Int)).toNat = a ^^^ b := by
  rw [BitVec.ofInt_natCast, BitVec.ofInt_natCast, BitVec.toNat_xor, BitVec.toNat_ofNat, BitVec.toNat_ofNat, Nat.mod_eq_of_lt (by omega), Nat.mod_eq_of_lt (by omega)]
 have : bits .xor .i64 (a : Int) (b : Int) = ((a ^^^ b : Nat) : Int) := by
  show IntKind.i64.wrap ((BitVec.ofInt 64 (a : Int) ^^^ BitVec.ofInt 64 (b : Int)).toNat : Int) = _
  rw [e, IntKind.wrap_i64]; omega
 rw [this]; omega
def Drawn (g P : Nat) (ok : Value → Prop) (w : World) (e : Ending) (w' : World) : Prop :=
 ∃ v, e = .returned v ∧ ok v ∧ Rdr g P w' ∧ Mod g w w'
structure In40 (x : Int) : Prop where
 lo : -1 ≤ x
 hi : x ≤ 1099511627776
structure Bnd (n : Int) : Prop where
 lo : 0 ≤ n
 hi : n ≤ 1000000
def IsNum (v : Value) : Prop := ∃ x : Int, v = .int .i64 x ∧ In40 x
def Below' (n : Int) (v : Value) : Prop := ∃ x : Nat, v = .int .i64 x ∧ (1 ≤ n → (x : Int) < n) ∧ (n < 1 → x = 0)
theorem pick_mk {g P : Nat} {n : Int} {w w' : World} {y : Int} (h0 : 0 ≤ y) (h1 : 1 ≤ n → y < n) (h2 : n < 1 → y = 0) (hr : Rdr g P w') (hm : Mod g w w') : Drawn g P (Below' n) w (.returned (.int .i64 y)) w' := by
 obtain ⟨x, rfl⟩ := Int.eq_ofNat_of_zero_le h0
 exact ⟨_, rfl, ⟨x, rfl, h1, fun h => by have := h2 h; omega⟩, hr, hm⟩
theorem Rdr.next {g p P : Nat} {w : World} {sl : Value} (h1 : Blk w g #[sl, .int .i64 p] 91) (h2 : Code g 2000 w sl) (h3 : p ≤ P) (h4 : Room (P + 1)) (n : Nat) : Rdr g (P + 1) ((w.setCell ⟨g, 1, none⟩ (.int .i64 ((p : Int) + 1))).drewN n) ∧ Mod g w ((w.setCell ⟨g, 1, none⟩ (.int .i64 ((p : Int) + 1))).drewN n) := by
 have m : Mod g w ((w.setCell ⟨g, 1, none⟩ (.int .i64 ((p : Int) + 1))).drewN n) := ((Mod.refl g w).set 1 _).drewN n
 refine ⟨⟨p + 1, sl, ?_, h2.cells (fun b hb => m.block b (by have := h1.lt; omega) (by omega)), by omega, h4⟩, m⟩
 have := heap_setCell_same w g 1 #[sl, .int .i64 p] 91 (.int .i64 ((p : Int) + 1)) h1
 exact this
theorem pick_last {c d n p l : Int} (hn : 1 ≤ n) (c0 : 0 ≤ c) (c1 : c ≤ 255) (d0 : 0 ≤ d) (d1 : d ≤ 255) (p0 : 0 ≤ p) (p1 : p ≤ 1073741824) (l0 : 0 < l) :
 0 ≤ ((bits BinOp.xor IntKind.i64 (wrap64 (c * 131 + d * 1117 + p * 29 + wrap64 (wrap64 (p / l) * 53))) (wrap64 ((wrap64 (c * 131 + d * 1117 + p * 29 + wrap64 (wrap64 (p / l) * 53))).tdiv 64))).tmod n) ∧
 ((bits BinOp.xor IntKind.i64 (wrap64 (c * 131 + d * 1117 + p * 29 + wrap64 (wrap64 (p / l) * 53))) (wrap64 ((wrap64 (c * 131 + d * 1117 + p * 29 + wrap64 (wrap64 (p / l) * 53))).tdiv 64))).tmod n) < n := by
 have q0 : 0 ≤ p / l := Int.ediv_nonneg p0 (Int.le_of_lt l0)
 have q1 : p / l ≤ p := Int.ediv_le_self _ p0
 generalize p / l = q at q0 q1
 have e1 : wrap64 q = q := by unfold wrap64; omega
 have e2 : wrap64 (q * 53) = q * 53 := by unfold wrap64; omega
 rw [e1, e2]
 obtain ⟨X, hX⟩ : ∃ X, X = c * 131 + d * 1117 + p * 29 + q * 53 := ⟨_, rfl⟩
 have b0 : 0 ≤ X := by omega
 have b1 : X ≤ 1099511627776 := by omega
 rw [← hX]; clear hX
 have e3 : wrap64 X = X := by unfold wrap64; omega
 have e4 : X.tdiv 64 = X / 64 := Int.tdiv_eq_ediv_of_nonneg b0
 have e5 : wrap64 (X / 64) = X / 64 := by unfold wrap64; omega
 rw [e3, e4, e5]
 have hx := (xor_nonneg X (X / 64) b0 b1 (by omega) (by omega)).1
 exact ⟨Int.tmod_nonneg _ hx, Int.tmod_lt_of_pos _ (by omega)⟩
set_option maxHeartbeats 4000000 in
theorem pick (g P : Nat) (n : Int) (hp : Room (P + 1)) (w : World) (hr : Rdr g P w) : Calls Tryz.prog 42 #[.pointer (some ⟨g, 0, none⟩), .int .i64 n] w (Drawn g (P + 1) (Below' n) w) := by
 obtain ⟨p, sl, hblk, hcode, hpP, hP⟩ := hr
 clear hP
 obtain ⟨a, l, cap, rfl, hl, hc⟩ := id hcode
 have NEXT := Lib.hid (Rdr.next hblk hcode hpP hp)
 obtain ⟨c0, c1⟩ := hblk.two
 have f1 := hblk.free 1
 have hpb : p + 1 ≤ 1073741824 := by have := hp.int; omega
 clear hblk hcode hpP hp
 by_cases hn : n < 1
 ·clear hc
  go_enter Tryz.func42, Tryz.ntmps42
  go_wp2
  go_ret
  exact pick_mk (by omega) (by omega) (by omega) (NEXT.out 0).1 (NEXT.out 0).2
 by_cases hl0 : l = 0
 ·subst hl0
  clear hc
  go_enter Tryz.func42, Tryz.ntmps42
  go_wp2
  go_ret
  exact pick_mk (by omega) (by omega) (by omega) (NEXT.out 0).1 (NEXT.out 0).2
 by_cases hpl : p < l
 ·obtain ⟨b, off, rfl, hb, c, hcell, hlo, hhi⟩ := hc p hpl
  clear hc
  have hne : b ≠ g := by omega
  clear hb
  go_enter Tryz.func42, Tryz.ntmps42
  go_wp2
  go_ret
  have r0 := Int.emod_nonneg c (show n ≠ 0 by omega)
  have r1 := Int.emod_lt_of_pos c (show 0 < n by omega)
  exact pick_mk (by omega) (by omega) (by omega) (NEXT.out 0).1 (NEXT.out 0).2
 have hlpos : 0 < l := by omega
 obtain ⟨b, off, rfl, hb, c, hcell, hlo, hhi⟩ := hc (p % l) (Nat.mod_lt _ hlpos)
 obtain ⟨b', off', hbb, hb', d, hcell', hlo', hhi'⟩ := hc ((p * 7 + 3) % l) (Nat.mod_lt _ hlpos)
 simp only [Option.some.injEq, Addr.mk.injEq, and_true] at hbb
 obtain ⟨rfl, rfl⟩ := hbb
 clear hc
 have hne : b ≠ g := by omega
 clear hb hb'
 obtain ⟨i, hi⟩ : ∃ i, i = p % l := ⟨_, rfl⟩
 obtain ⟨j, hj⟩ : ∃ j, j = (p * 7 + 3) % l := ⟨_, rfl⟩
 have ei : (p : Int) % (l : Int) = (i : Int) := by rw [hi]; omega
 have ej : ((p : Int) * 7 + 3) % (l : Int) = (j : Int) := by rw [hj]; simp
 have li : i < l := by rw [hi]; exact Nat.mod_lt _ hlpos
 have lj : j < l := by rw [hj]; exact Nat.mod_lt _ hlpos
 rw [← hi] at hcell
 rw [← hj] at hcell'
 clear hi hj
 go_enter Tryz.func42, Tryz.ntmps42
 go_wp2
 go_quiet (fail)
 go_wp2
 go_ret
 have last := pick_last hn hlo hhi hlo' hhi' (show (0 : Int) ≤ p by omega) (by omega) (show (0 : Int) < l by omega)
 exact pick_mk last.1 (fun _ => last.2) (by omega) (NEXT.out _).1 (NEXT.out _).2
def IsBool (v : Value) : Prop := ∃ b : Bool, v = .bool b
set_option maxHeartbeats 1000000 in
theorem odd (g P : Nat) (n : Int) (HN : Bnd n) (hp : Room (P + 1)) (w : World) (hr : Rdr g P w) : Calls Tryz.prog 44 #[.pointer (some ⟨g, 0, none⟩), .int .i64 n] w (Drawn g (P + 1) IsBool w) := by
 have n0 := HN.lo
 by_cases hn : 0 < n
 ·go_enter Tryz.func44, Tryz.ntmps44
  go_wp2_with (go_at_call 42; (with_reducible refine (pick g P _ hp _ hr).mono ?_); rintro e w1 ⟨v, rfl, ⟨x, rfl, h1, h2⟩, hr1, hm1⟩)
  clear h1 h2
  go_wp2
  go_ret
  exact ⟨_, rfl, ⟨_, rfl⟩, hr1, hm1⟩
 go_enter Tryz.func44, Tryz.ntmps44
 go_wp2
 go_ret
 exact ⟨_, rfl, ⟨_, rfl⟩, hr.mono (by omega) hp, Mod.refl g _⟩
def Bytes (w : World) (v : Value) : Prop :=
 ∃ (a : Option Addr) (n cap : Nat), v = .slice a n cap ∧ n ≤ cap ∧ (cap : Int) ≤ 9223372036854775807 ∧ ∀ i, i < n → ∃ b off, a = some ⟨b, off, none⟩ ∧ b < w.heap.size ∧ ∃ c : Int, w.cell? ⟨b, off + i, none⟩ = some (.int .u8 c) ∧ 0 ≤ c ∧ c ≤ 255
theorem Bytes.ext {w w' : World} {v : Value} (h : Bytes w v) (hx : Ext w w') : Bytes w' v := by
 obtain ⟨a, n, cap, hv, hn, hm, hc⟩ := h
 refine ⟨a, n, cap, hv, hn, hm, fun i hi => ?_⟩
 obtain ⟨b, off, ha, hb, c, hcell, hlo, hhi⟩ := hc i hi
 exact ⟨b, off, ha, hx.lt hb, c, by rw [hx.cells.1 b _ hb]; exact hcell, hlo, hhi⟩
def Opened (w : World) (e : Ending) (w' : World) : Prop := ∃ g, e = .returned (.pointer (some ⟨g, 0, none⟩)) ∧ w.heap.size ≤ g ∧ Rdr g 0 w' ∧ Ext w w'
theorem opened_mk {w : World} {a : Option Addr} {n cap : Nat} (hn : n ≤ 2000) (hc : ∀ i, i < n → ∃ b off, a = some ⟨b, off, none⟩ ∧ b < w.heap.size ∧ ∃ c : Int, w.cell? ⟨b, off + i, none⟩ = some (.int .u8 c) ∧ 0 ≤ c ∧ c ≤ 255) :
 Opened w (.returned (.pointer (some ⟨w.heap.size, 0, none⟩))) (w.alloc (.cells #[.slice a n cap, .int .i64 0] 91)) := by
 refine ⟨_, rfl, Nat.le_refl _, ⟨0, _, Blk.new _ _ _, ⟨a, n, cap, rfl, hn, fun i hi => ?_⟩, Nat.le_refl _, Room.to (by omega)⟩, (Ext.refl w).alloc _⟩
 obtain ⟨b, off, ha, hb, c, hcell, hlo, hhi⟩ := hc i hi
 exact ⟨b, off, ha, hb, c, by rw [((Ext.refl w).alloc _).cells.1 b _ hb]; exact hcell, hlo, hhi⟩
set_option maxHeartbeats 1000000 in
theorem open' (v : Value) (w : World) (hb : Bytes w v) : Calls Tryz.prog 41 #[v] w (Opened w) := by
 obtain ⟨a, n, cap, rfl, hn, hm, hc⟩ := hb
 have HC := Lib.hid hc; clear hc
 by_cases hl : n ≤ 2000
 ·go_enter Tryz.func41, Tryz.ntmps41
  go_wp2
  go_ret
  exact opened_mk hl HC.out
 obtain ⟨b, off, rfl, hb, -⟩ := HC.out 0 (by omega)
 go_enter Tryz.func41, Tryz.ntmps41
 go_wp2
 go_ret
 exact opened_mk (by omega) (fun i hi => HC.out i (by omega))
def StepS (a : Act) (d : Option Tmp) (G : Value → World → Prop) : Exit → Act → World → Prop :=
 fun e a' w => e = .normal ∧ a'.defers = a.defers ∧ (∀ t, d = some t → G (a'.tmps.getD t undef) w) ∧ (d = none → ∀ u, G u w)
theorem stepS_mk {a a' : Act} {t : Tmp} {G : Value → World → Prop} {w : World} {u : Value} (hd : a'.defers = a.defers) (hu : a'.tmps[t]? = some u) (hg : G u w) : StepS a (some t) G .normal a' w :=
 ⟨rfl, hd, fun t' ht => by cases ht; rw [Array.getD_eq_getD_getElem?, hu]; exact hg, fun h => by cases h⟩
theorem sS {a a' : Act} {t : Tmp} {G : Value → World → Prop} {w : World} {u : Value} (hg : G u w) (hd : a'.defers = a.defers := by rfl) (hu : a'.tmps[t]? = some u := by (simp only [List.getElem?_toArray, List.getElem?_cons_succ, List.getElem?_cons_zero]; exact rfl)) : StepS a (some t) G .normal a' w := stepS_mk hd hu hg
theorem stepS_none {a a' : Act} {G : Value → World → Prop} {w : World} (hd : a'.defers = a.defers) (hg : ∀ u, G u w) : StepS a none G .normal a' w :=
 ⟨rfl, hd, fun t' ht => by (cases ht), fun _ => hg⟩
theorem relOp_of_wpListS {P : Program} {ops : Array Oper} {o : Oper} {a : Act} {w : World} {G : Value → World → Prop} (hd : ∀ t, o.dst = some t → t < a.tmps.size)
 (h : wpList P ops (StepS a o.dst G) [o] a w) : relOp P ops o a w G := by
 have fit : ∀ u w', StepS a o.dst G .normal (a.put o.dst u) w' → G u w' := by
  rintro u w' ⟨_, _, h1, h2⟩
  cases hdt : o.dst with
  | none => exact h2 hdt u
  | some t =>
   have := h1 t hdt
   rw [hdt] at this
   simpa [Act.put, hd t hdt] using this
 have nout : ¬ LetsOut (StepS a o.dst G) := fun ⟨_, _, h, _⟩ => by cases h
 unfold wpList at h
 unfold relOp
 split
 ·rename_i hw
  rw [if_pos hw] at h
  rcases h with h | ⟨_, h⟩
  case inr => exact absurd h nout
  unfold Oper.wp at h
  generalize (execOp a.eval o).run P w = r at *
  cases r with
  | ok n w' =>
   cases n <;> simp only [Oper.upon] at h <;> simp only [relUpon]
   case value u => exact fit _ _ h
   case skip => exact fit _ _ h
   case defer d =>
    obtain ⟨_, h1, _⟩ := h
    rw [put_defers'] at h1
    exact absurd h1 (List.cons_ne_self _ _)
   case enter f args =>
    refine h.mono fun e w'' he => ?_
    cases e with
    | returned u => exact ⟨u, rfl, fit _ _ he⟩
    | panicked c => obtain ⟨h1, _⟩ := he; cases h1
    | outgrown => exact absurd he nout
   case row row args => exact h.mono fun u w'' he => fit _ _ he
  | halt x w' =>
   cases x <;> simp only [Oper.upon] at h
   case panic u => obtain ⟨h1, _⟩ := h; cases h1
 rename_i hw
 rw [if_neg hw] at h
 exact fit _ _ h
def zipOkS {X : World → World → Prop} {n0 : Nat} (P : Program) (ops : Array Oper) (S : List (OpSpec X n0)) (a : Act) (v : Nat → Value) (lo up : Nat → Nat) (w w' : World) : List Oper → List (OpSpec X n0) → Prop
 | o :: l, s :: r => depsImp S v lo up w w' (wpList P ops (StepS a o.dst fun u w'' => X w' w'' ∧ s.rel (s.deps.map v) u w'.heap.size w''.heap.size w'') [o] a w') (s.deps ++ waits o) ∧ zipOkS P ops S a v lo up w w' l r
 | _, _ => True
theorem zipOkS_get {X : World → World → Prop} {n0 : Nat} {P : Program} {ops : Array Oper} {S : List (OpSpec X n0)} {a : Act} {v : Nat → Value} {lo up : Nat → Nat} {w w' : World} (l : List Oper) : ∀ (r : List (OpSpec X n0)), zipOkS P ops S a v lo up w w' l r → ∀ (i : Nat) (o : Oper) (s : OpSpec X n0), l[i]? = some o → r[i]? = some s →
 depsOk S v lo up w w' (s.deps ++ waits o) → wpList P ops (StepS a o.dst fun u w'' => X w' w'' ∧ s.rel (s.deps.map v) u w'.heap.size w''.heap.size w'') [o] a w' := by
 induction l with
 | nil => intro r _ i o s ho; simp at ho
 | cons o l ih =>
  intro r h i o' s' ho hs
  cases r with
  | nil => simp at hs
  | cons s r =>
   cases i with
   | zero =>
    obtain rfl : o = o' := Option.some.inj ho
    obtain rfl : s = s' := Option.some.inj hs
    exact depsImp_get _ h.1
   | succ i => exact ih r h.2 i o' s' ho hs
def slotsS (m : Nat) (l : List Oper) : Bool := l.all fun o => match o.dst with | some t => decide (t < m) | none => true
theorem wp_region_zipS {X : World → World → Prop} (hX : WRel X) {P : Program} {id : Nat} {Q : Exit → Act → World → Prop} {a : Act} {w : World} {l : List Oper} (S : List (OpSpec X w.heap.size)) (A : (Nat → Value) → Act)
 (hm : P.follows .mixedOrders = true) (hB : relB l.toArray S.length (fun i => (S.getD i (isv undef)).deps) = true)
 (hA : ∀ v, putAll l.toArray v S.length a = A v) (hsl : ∀ v, slotsS (A v).tmps.size (l.take S.length) = true)
 (step : ∀ (v : Nat → Value) (lo up : Nat → Nat) (w' : World), X w w' → zipOkS P l.toArray S (A v) v lo up w w' l S)
 (fin : ∀ (v : Nat → Value) (lo up : Nat → Nat) (w' : World), X w w' → factsOk v lo up w w' 0 S → (∀ i j, i < S.length → j < S.length → i ≠ j → up i ≤ lo j ∨ up j ≤ lo i) →
  wpList P l.toArray Q (l.drop S.length) (A v) w') :
 (Code.region id l.toArray true).wp P Q a w :=
 wp_region_rel S.length (fun i => (S.getD i (isv undef)).deps) (fun i => (S.getD i (isv undef)).rel) hm hB hX
  (fun i _ vs u lo hi w w' h1 h2 h3 h4 h5 => (S.getD i (isv undef)).stab vs u lo hi w w' h1 h2 h3 h4 h5)
  (fun i hi o ho v lo up w' hx hf => by
   have hs : S[i]? = some (S.getD i (isv undef)) := by simp [hi]
   have h1 := zipOkS_get l S (step v lo up w' hx) i o _ ho hs (depsOk_of _ fun e he => hf e (by
    rcases List.mem_append.1 he with he | he
    ·exact .inl he
    exact .inr (waitsFor_mem (by simpa using ho) he)))
   have hmem : o ∈ l.take S.length := List.mem_of_getElem? (i := i) (by rw [List.getElem?_take, if_pos hi]; exact ho)
   have h2 := List.all_eq_true.1 (hsl v) o hmem
   rw [hA v]
   exact relOp_of_wpListS (fun t hdt => by rw [hdt] at h2; simpa using h2) h1)
  (fun v lo up w' hx hf ha => by
   rw [hA v]
   exact fin v lo up w' hx (factsOk_of S 0 fun i s hs => by
    have hi : i < S.length := (List.getElem?_eq_some_iff.1 hs).1
    have := hf i hi
    have e : S.getD i (isv undef) = s := by simp [hs]
    rw [e] at this
    simpa using this) ha)
structure Fill (n0 : Nat) (T : TypeId) (cs0 cs1 : Array Value) (w w' : World) : Prop where
 os : w'.os = w.os
 tape : w'.tape = w.tape
 output : w'.output = w.output
 size : w.heap.size ≤ w'.heap.size
 block : ∀ k, k < w.heap.size → w'.heap[k]? = w.heap[k]? ∨ (n0 ≤ k ∧ w.heap[k]? = some (.cells cs0 T (0, 0)) ∧ w'.heap[k]? = some (.cells cs1 T (0, 0)))
variable {n0 : Nat} {T : TypeId} {cs0 cs1 : Array Value}
theorem Fill.of_ext {w w' : World} (h : Ext w w') : Fill n0 T cs0 cs1 w w' := ⟨h.os, h.tape, h.output, Ext.size h, fun k hk => .inl (Below.block h k hk)⟩
theorem Fill.refl (w : World) : Fill n0 T cs0 cs1 w w := Fill.of_ext (Ext.refl w)
theorem Fill.trans {a b c : World} (h : Fill n0 T cs0 cs1 a b) (k : Fill n0 T cs0 cs1 b c) : Fill n0 T cs0 cs1 a c := by
 refine ⟨k.os.trans h.os, k.tape.trans h.tape, k.output.trans h.output, Nat.le_trans h.size k.size, fun i hi => ?_⟩
 rcases h.block i hi with h1 | ⟨h1, h2, h3⟩ <;> rcases k.block i (Nat.lt_of_lt_of_le hi h.size) with k1 | ⟨k1, k2, k3⟩
 ·exact .inl (k1.trans h1)
 ·exact .inr ⟨k1, by rw [← h1]; exact k2, k3⟩
 ·exact .inr ⟨h1, h2, by rw [k1]; exact h3⟩
 exact .inr ⟨h1, h2, k3⟩
theorem Fill.rel (n0 : Nat) (T : TypeId) (cs0 cs1 : Array Value) : WRel (Fill n0 T cs0 cs1) where
 refl := Fill.refl
 trans := Fill.trans
 size := Fill.size
 draw := fun w => Fill.of_ext ⟨rfl, rfl, rfl, Nat.le_refl _, fun _ _ => rfl⟩
theorem Fill.ext {w w' : World} (h : Fill w.heap.size T cs0 cs1 w w') : Ext w w' :=
 ⟨h.os, h.tape, h.output, h.size, fun k hk => by rcases h.block k hk with h1 | ⟨h1, _⟩; exact h1; omega⟩
theorem modeNg : (Region.Mode.any == Region.Mode.gc) = false := rfl
section
variable {P : Program} {X : World → World → Prop}
end
structure FillR (r : Nat) (T : TypeId) (cs0 cs1 : Array Value) (w w' : World) : Prop where
 os : w'.os = w.os
 tape : w'.tape = w.tape
 output : w'.output = w.output
 size : w.heap.size ≤ w'.heap.size
 block : ∀ k, k < w.heap.size → w'.heap[k]? = w.heap[k]? ∨ (k = r ∧ w.heap[k]? = some (.cells cs0 T (0, 0)) ∧ w'.heap[k]? = some (.cells cs1 T (0, 0)))
theorem FillR.of_ext {r : Nat} {T : TypeId} {cs0 cs1 : Array Value} {w w' : World} (h : Ext w w') : FillR r T cs0 cs1 w w' := ⟨h.os, h.tape, h.output, Ext.size h, fun k hk => .inl (Below.block h k hk)⟩
theorem FillR.refl {r : Nat} {T : TypeId} {cs0 cs1 : Array Value} (w : World) : FillR r T cs0 cs1 w w := FillR.of_ext (Ext.refl w)
theorem FillR.trans {r : Nat} {T : TypeId} {cs0 cs1 : Array Value} {a b c : World} (h : FillR r T cs0 cs1 a b) (k : FillR r T cs0 cs1 b c) : FillR r T cs0 cs1 a c := by
 refine ⟨k.os.trans h.os, k.tape.trans h.tape, k.output.trans h.output, Nat.le_trans h.size k.size, fun i hi => ?_⟩
 rcases h.block i hi with h1 | ⟨h1, h2, h3⟩ <;> rcases k.block i (Nat.lt_of_lt_of_le hi h.size) with k1 | ⟨k1, k2, k3⟩
 ·exact .inl (k1.trans h1)
 ·exact .inr ⟨k1, by rw [← h1]; exact k2, k3⟩
 ·exact .inr ⟨h1, h2, by rw [k1]; exact h3⟩
 exact .inr ⟨h1, h2, k3⟩
theorem FillR.rel (r : Nat) (T : TypeId) (cs0 cs1 : Array Value) : WRel (FillR r T cs0 cs1) where
 refl := FillR.refl
 trans := FillR.trans
 size := FillR.size
 draw := fun w => FillR.of_ext ⟨rfl, rfl, rfl, Nat.le_refl _, fun _ _ => rfl⟩
theorem FillR.blk {r : Nat} {T : TypeId} {cs0 cs1 : Array Value} {w w' : World} (h : FillR r T cs0 cs1 w w') {b : Nat} {cs : Array Value} {U : TypeId} (k : Blk w b cs U) (hr : b ≠ r) : Blk w' b cs U := by
 rcases h.block b k.lt with e | ⟨e, _⟩
 ·unfold Blk; rw [e]; exact k
 exact absurd e hr
theorem FillR.put {r : Nat} {T : TypeId} {cs0 cs1 : Array Value} {w w' : World} (h : FillR r T cs0 cs1 w w') (k : Blk w r cs1 T) : Blk w' r cs1 T := by
 rcases h.block r k.lt with e | ⟨_, _, e⟩
 ·unfold Blk; rw [e]; exact k
 exact e
theorem FillR.put' {r : Nat} {T : TypeId} {cs0 cs1 : Array Value} {w w' : World} (h : FillR r T cs0 cs1 w w') (k : Blk w r cs0 T ∨ Blk w r cs1 T) : Blk w' r cs0 T ∨ Blk w' r cs1 T := by
 rcases k with k | k
 ·rcases h.block r k.lt with e | ⟨_, _, e⟩
  ·exact .inl (by unfold Blk; rw [e]; exact k)
  exact .inr e
 exact .inr (h.put k)
theorem FillR.ext {r : Nat} {T : TypeId} {cs0 cs1 : Array Value} {w0 w w' : World} (h : Ext w0 w) (m : FillR r T cs0 cs1 w w') (hr : w0.heap.size ≤ r) : Ext w0 w' :=
 Below.trans h ⟨m.os, m.tape, m.output, m.size, fun k hk => by
  rcases m.block k (Nat.lt_of_lt_of_le hk h.size) with e | ⟨e, _⟩
  ·exact e
  omega⟩
def fillT {r m : Nat} {T : TypeId} {cs0 cs1 : Array Value} : OpSpec (FillR r T cs0 cs1) m :=
 ⟨[], fun _ _ _ _ w => Blk w r cs1 T, fun _ _ _ _ _ _ _ _ _ hx h => hx.put h⟩
theorem wpList_fillR {P : Program} {ops : Array Oper} {o : Oper} {a : Act} {w B : World} {G : Value → World → Prop} {T : TypeId} {cs0 cs1 : Array Value} (r : Nat) (hgd : o.guard = none) (hno : o.dst = none) (x y : Operand) (ho : o.op = .store T x y)
 (hx : a.eval x = .pointer (some ⟨r, 0, none⟩)) (hy : a.eval y = .agg cs1) (hg : Blk w r cs0 T ∨ Blk w r cs1 T) (hi : (P.info? T).map (·.size) = some cs1.size)
 (hold : cs0.size = cs1.size) (h1 : cs1.all (·.oneCell') = true) (hB : Ext B w) (hBg : B.heap.size ≤ r)
 (h : ∀ w', FillR r T cs0 cs1 w w' → Blk w' r cs1 T → (∀ b, b ≠ r → w'.heap[b]? = w.heap[b]?) → ∀ u, G u w') : wpList P ops (StepS a o.dst G) [o] a w := by
 have hend : ∀ w', FillR r T cs0 cs1 w w' → Blk w' r cs1 T → (∀ b, b ≠ r → w'.heap[b]? = w.heap[b]?) → wpList P ops (StepS a o.dst G) [] a w' := fun w' f k hoth => by
  unfold wpList
  rw [hno]
  exact stepS_none rfl (h w' f k hoth)
 rcases hg with hg | hg
 ·refine wpList_store_blk hgd hno T x y ho r cs1 hx hy T cs0 hg hi hold h1 hB hBg fun w' e1 k1 hoth hsz => hend w' ⟨?_, ?_, ?_, hsz, fun k hk => ?_⟩ k1 hoth
  ·rw [e1.os, hB.os]
  ·rw [e1.tape, hB.tape]
  ·rw [e1.output, hB.output]
  by_cases e : k = r
  ·subst e; exact .inr ⟨rfl, hg, k1⟩
  exact .inl (hoth k e)
 refine wpList_store_blk hgd hno T x y ho r cs1 hx hy T cs1 hg hi rfl h1 hB hBg fun w' e1 k1 hoth hsz => hend w' ⟨?_, ?_, ?_, hsz, fun k hk => ?_⟩ k1 hoth
 ·rw [e1.os, hB.os]
 ·rw [e1.tape, hB.tape]
 ·rw [e1.output, hB.output]
 by_cases e : k = r
 ·subst e; exact .inl (by rw [k1, hg])
 exact .inl (hoth k e)
theorem Mod.pick {g : Nat} {w w' : World} (m : Mod g w w') {b : Nat} {cs : Array Value} {T : TypeId} (k : Blk w b cs T) (hne : b ≠ g) {x : Nat} {n : Int} (hx : (x : Int) < n) (lo hi : Int)
 (hall : ∀ i : Nat, (i : Int) < n → ∃ v : Int, cs[i]? = some (.int .i64 v) ∧ lo ≤ v ∧ v ≤ hi) : ∃ v : Int, w'.cell? ⟨b, x, none⟩ = some (.int .i64 v) ∧ lo ≤ v ∧ v ≤ hi := by
 obtain ⟨v, h1, h2, h3⟩ := hall x hx
 exact ⟨v, by rw [(m.blk k hne).cell]; exact h1, h2, h3⟩
set_option maxHeartbeats 2000000 in
theorem ring20 (g P : Nat) (n : Int) (HN : Bnd n) (HP : Room (P + 6)) (w : World) (hr : Rdr g P w) : Calls Tryz.prog 96 #[.pointer (some ⟨g, 0, none⟩), .int .i64 n] w (Drawn g (P + 6) IsNum w) := by
 go_enter Tryz.func96, Tryz.ntmps96
 go_wp2_with (go_at_call 42; (with_reducible refine (pick g _ _ (HP.le (by omega)) _ (hr)).mono ?_); rintro e w1 ⟨v, rfl, ⟨x1, rfl, h1, z1⟩, hr1, hm1⟩)
 have l1 : (x1 : Int) < _ := h1 (by omega)
 clear h1 z1
 go_wp2_with (go_at_call 42; (with_reducible refine (pick g _ _ (HP.le (by omega)) _ (hr1)).mono ?_); rintro e w2 ⟨v, rfl, ⟨x2, rfl, h2, z2⟩, hr2, hm2⟩)
 have l2 : (x2 : Int) < _ := h2 (by omega)
 clear h2 z2
 go_wp2_with (first | (go_at_call 86; (with_reducible refine (spec_l1Ring _ _).mono ?_); rintro e wr ⟨rfl, rfl⟩) | (go_at_call 42; (with_reducible refine (pick g _ _ (HP.le (by omega)) _ (hr2)).mono ?_); rintro e w3 ⟨v, rfl, ⟨x3, rfl, h3, z3⟩, hr3, hm3⟩))
 have l3 : (x3 : Int) < _ := h3 (by omega)
 clear h3 z3
 go_wp2_with (fail)
 have rb := And.intro (ring_lo ((x2 : Int) - 128)) (ring_hi ((x2 : Int) - 128))
 (with_reducible refine (pick g _ _ (HP.le (by omega)) _ (Rdr.keep hr3 ((Ext.refl w3).alloc _))).mono ?_)
 rintro e w4 ⟨v, rfl, ⟨x4, rfl, h4, z4⟩, hr4, hm4⟩
 have l4 : (x4 : Int) < 8 := h4 (by omega)
 obtain ⟨y4, hy4, lo4, hi4⟩ := hm4.pick (Blk.new _ _ _) (by have := hr3.lt; omega) l4 (-1) 1099511627776 (by
  intro i hi
  have hi' : i = 0 ∨ i = 1 ∨ i = 2 ∨ i = 3 ∨ i = 4 ∨ i = 5 ∨ i = 6 ∨ i = 7 := by omega
  clear hi
  rcases hi' with rfl | rfl | rfl | rfl | rfl | rfl | rfl | rfl <;> exact ⟨_, rfl, by omega, by omega⟩)
 replace hm4 := (Mod.of_ext ((Ext.refl w3).alloc _)).trans hm4
 have N4 : In40 y4 := ⟨lo4, hi4⟩
 clear h4 z4 lo4 hi4
 replace hm4 := ((hm1.trans hm2).trans hm3).trans hm4
 clear hm1 hm2 hm3
 clear rb l1 l2 l3
 go_wp2_with (fail)
 (with_reducible refine (odd g _ _ HN (HP.le (by omega)) _ (hr4)).mono ?_)
 rintro e w5 ⟨v, rfl, ⟨b5, rfl⟩, hr5, hm5⟩
 replace hm5 := hm4.trans hm5
 clear hm4
 cases b5
 ·go_wp2
  go_ret
  exact ⟨_, rfl, ⟨_, rfl, N4⟩, hr5.mono (by omega) HP, hm5⟩
 go_wp2_with (fail)
 (with_reducible refine (pick g _ _ (HP.le (by omega)) _ (Rdr.keep hr5 ((Ext.refl w5).alloc _))).mono ?_)
 rintro e w6 ⟨v, rfl, ⟨x6, rfl, h6, z6⟩, hr6, hm6⟩
 have l6 : (x6 : Int) < 3 := h6 (by omega)
 obtain ⟨y6, hy6, lo6, hi6⟩ := hm6.pick (Blk.new _ _ _) (by have := hr5.lt; omega) l6 (-1) 1099511627776 (by
  intro i hi
  have hi' : i = 0 ∨ i = 1 ∨ i = 2 := by omega
  clear hi
  rcases hi' with rfl | rfl | rfl <;> exact ⟨_, rfl, by omega, by omega⟩)
 replace hm6 := (Mod.of_ext ((Ext.refl w5).alloc _)).trans hm6
 have N6 : In40 y6 := ⟨lo6, hi6⟩
 clear h6 z6 lo6 hi6
 go_wp2
 go_ret
 exact ⟨_, rfl, ⟨_, rfl, N6⟩, hr6.mono (by omega) HP, hm5.trans hm6⟩
theorem Mod.rel (g : Nat) : WRel (Mod g) where
 refl := Mod.refl g
 trans := Mod.trans
 size := Mod.size
 draw := fun w => Mod.of_ext ⟨rfl, rfl, rfl, Nat.le_refl _, fun _ _ => rfl⟩
theorem modeNe : (Region.Mode.any == Region.Mode.text) = false := rfl
def isP {X : World → World → Prop} {n0 : Nat} (p : Value → Prop) : OpSpec X n0 := ⟨[], fun _ u _ _ _ => p u, fun _ _ _ _ _ _ _ _ _ _ h => h⟩
def Lt (n : Int) (u : Value) : Prop := ∃ x : Nat, u = .int .i64 x ∧ (x : Int) < n
def AnInt (u : Value) : Prop := ∃ x : Int, u = .int .i64 x
theorem Blk.at {w : World} {b : Nat} {cs : Array Value} {T : TypeId} (h : Blk w b cs T) {n x : Nat} (hx : x < n) (hall : ∀ i : Nat, i < n → ∃ v : Int, cs[i]? = some (.int .i64 v)) : ∃ v : Int, w.cell? ⟨b, x, none⟩ = some (.int .i64 v) := by
 obtain ⟨v, hv⟩ := hall x hx
 exact ⟨v, by rw [h.cell]; exact hv⟩
structure ModF (g r : Nat) (T : TypeId) (cs0 cs1 : Array Value) (w w' : World) : Prop where
 os : w'.os = w.os
 tape : w'.tape = w.tape
 output : w'.output = w.output
 size : w.heap.size ≤ w'.heap.size
 block : ∀ k, k < w.heap.size → k ≠ g → w'.heap[k]? = w.heap[k]? ∨ (k = r ∧ w.heap[k]? = some (.cells cs0 T (0, 0)) ∧ w'.heap[k]? = some (.cells cs1 T (0, 0)))
theorem ModF.of_mod {g r : Nat} {T : TypeId} {cs0 cs1 : Array Value} {w w' : World} (h : Mod g w w') : ModF g r T cs0 cs1 w w' := ⟨h.os, h.tape, h.output, h.size, fun k hk hne => .inl (h.block k hk hne)⟩
theorem ModF.refl {g r : Nat} {T : TypeId} {cs0 cs1 : Array Value} (w : World) : ModF g r T cs0 cs1 w w := ModF.of_mod (Mod.refl g w)
theorem ModF.trans {g r : Nat} {T : TypeId} {cs0 cs1 : Array Value} {a b c : World} (h : ModF g r T cs0 cs1 a b) (k : ModF g r T cs0 cs1 b c) : ModF g r T cs0 cs1 a c := by
 refine ⟨k.os.trans h.os, k.tape.trans h.tape, k.output.trans h.output, Nat.le_trans h.size k.size, fun i hi hne => ?_⟩
 rcases h.block i hi hne with h1 | ⟨h1, h2, h3⟩ <;> rcases k.block i (Nat.lt_of_lt_of_le hi h.size) hne with k1 | ⟨k1, k2, k3⟩
 ·exact .inl (k1.trans h1)
 ·exact .inr ⟨k1, by rw [← h1]; exact k2, k3⟩
 ·exact .inr ⟨h1, h2, by rw [k1]; exact h3⟩
 exact .inr ⟨h1, h2, k3⟩
theorem ModF.rel (g r : Nat) (T : TypeId) (cs0 cs1 : Array Value) : WRel (ModF g r T cs0 cs1) where
 refl := ModF.refl
 trans := ModF.trans
 size := ModF.size
 draw := fun w => ModF.of_mod (Mod.of_ext ⟨rfl, rfl, rfl, Nat.le_refl _, fun _ _ => rfl⟩)
theorem ModF.blk {g r : Nat} {T : TypeId} {cs0 cs1 : Array Value} {w w' : World} (h : ModF g r T cs0 cs1 w w') {b : Nat} {cs : Array Value} {U : TypeId} (k : Blk w b cs U) (hg : b ≠ g) (hr : b ≠ r) : Blk w' b cs U := by
 rcases h.block b k.lt hg with e | ⟨e, _⟩
 ·unfold Blk; rw [e]; exact k
 exact absurd e hr
theorem ModF.put {g r : Nat} {T : TypeId} {cs0 cs1 : Array Value} {w w' : World} (h : ModF g r T cs0 cs1 w w') (hg : r ≠ g) (k : Blk w r cs1 T) : Blk w' r cs1 T := by
 rcases h.block r k.lt hg with e | ⟨_, _, e⟩
 ·unfold Blk; rw [e]; exact k
 exact e
theorem ModF.put' {g r : Nat} {T : TypeId} {cs0 cs1 : Array Value} {w w' : World} (h : ModF g r T cs0 cs1 w w') (hg : r ≠ g) (k : Blk w r cs0 T ∨ Blk w r cs1 T) : Blk w' r cs0 T ∨ Blk w' r cs1 T := by
 rcases k with k | k
 ·rcases h.block r k.lt hg with e | ⟨_, _, e⟩
  ·exact .inl (by unfold Blk; rw [e]; exact k)
  exact .inr e
 exact .inr (h.put hg k)
theorem ModF.ext {g r : Nat} {T : TypeId} {cs0 cs1 : Array Value} {w0 w w' : World} (h : Ext w0 w) (m : ModF g r T cs0 cs1 w w') (hg : w0.heap.size ≤ g) (hr : w0.heap.size ≤ r) : Ext w0 w' :=
 Below.trans h ⟨m.os, m.tape, m.output, m.size, fun k hk => by
  rcases m.block k (Nat.lt_of_lt_of_le hk h.size) (by omega) with e | ⟨e, _⟩
  ·exact e
  omega⟩
end Go.Proofs.YtkkdikoknegpjaaGreat
