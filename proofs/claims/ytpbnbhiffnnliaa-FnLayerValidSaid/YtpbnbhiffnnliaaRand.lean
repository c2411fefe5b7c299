/- Random streams: the numbers behind a seed; lists of them; made triples. -/
import Derived.Test.YtpbnbhiffnnliaaKH
import Derived.Test.YtpbnbhiffnnliaaDraw
namespace Go.Proofs.Ytpbnbhiffnnliaa
set_option linter.unusedSimpArgs false
set_option linter.unusedVariables false
open Go.RowKit
/-- The next seed. -/
def nxt (s : Int) : Int := s * 48271 % 2147483647
/-- A seed. -/
def seedOk (s : Int) : Bool := decide (1 ≤ s) && decide (s ≤ 2147483646)
structure Seed (s : Int) : Prop where
  lo : 1 ≤ s
  hi : s ≤ 2147483646
theorem seed_of {s : Int} (h : seedOk s = true) : Seed s := by simp [seedOk] at h; exact ⟨h.1, h.2⟩
theorem Seed.ok {s : Int} (h : Seed s) : seedOk s = true := by simp [seedOk]; exact ⟨h.lo, h.hi⟩
theorem Seed.next {s : Int} (h : Seed s) : Seed (nxt s) := by
  have h1 := h.lo
  have h2 := h.hi
  have h3 : s * 48271 % 2147483647 ≠ 0 := by
    intro e
    obtain ⟨q, hq⟩ : ∃ q, s * 48271 = 2147483647 * q := ⟨s * 48271 / 2147483647, by omega⟩
    omega
  unfold nxt
  exact ⟨by omega, by omega⟩
/-- The walk's own form of the next seed. -/
theorem Seed.form {s : Int} (h : Seed s) : Int.tmod (wrap64 (s * 48271)) 2147483647 = nxt s ∧ Int.tmod (wrap64 (48271 * s)) 2147483647 = nxt s := by
  have h1 := h.lo
  have h2 := h.hi
  have e1 : wrap64 (s * 48271) = s * 48271 := by unfold wrap64; omega
  have e2 : wrap64 (48271 * s) = s * 48271 := by unfold wrap64; omega
  rw [e1, e2, Int.tmod_eq_emod_of_nonneg (by omega)]
  exact ⟨rfl, rfl⟩
theorem Seed.num {s : Int} (h : Seed s) : Int.tmod (wrap64 (Int.tdiv s 8)) 4096 = ring (s / 8) ∧ wrap64 (Int.tdiv s 8) = s / 8 := by
  have h1 := h.lo
  have h2 := h.hi
  have e1 : Int.tdiv s 8 = s / 8 := Int.tdiv_eq_ediv_of_nonneg (by omega)
  have e2 : wrap64 (s / 8) = s / 8 := by unfold wrap64; omega
  rw [e1, e2, Int.tmod_eq_emod_of_nonneg (by omega)]
  exact ⟨rfl, rfl⟩
/-- The seed behind k draws. -/
def strm (s : Int) : Nat → Int
  | 0 => s
  | k + 1 => nxt (strm s k)
theorem Seed.strm {s : Int} (h : Seed s) : ∀ k, Seed (strm s k)
  | 0 => h
  | k + 1 => (h.strm k).next
/-- The k-th number behind a seed. -/
def rnd (s : Int) (k : Nat) : Int := ring (strm s (k + 1) / 8)
theorem rnd_rv (s : Int) (k : Nat) : rv (rnd s k) = true := rv_ring _
def rlist (s : Int) (n : Nat) : List Int := (List.range n).map (rnd s)
theorem rlist_len (s : Int) (n : Nat) : (rlist s n).length = n := by simp [rlist]
theorem rlist_succ (s : Int) (n : Nat) : rlist s (n + 1) = rlist s n ++ [rnd s n] := by simp [rlist, List.range_succ]
theorem rlist_get (s : Int) (n i : Nat) (h : i < n) : (rlist s n).getD i 0 = rnd s i := by simp [rlist, h]
theorem rlist_at (s : Int) (n i : Nat) (h : i < n) : (rlist s n)[i]? = some (rnd s i) := by simp [rlist, h]
/-- A count. -/
structure Cnt (n : Nat) : Prop where
  le : (n : Int) ≤ 1000000
/-- What a list of n random numbers leaves: the new list, the last seed. -/
def ListPost (s : Int) (n : Nat) (w : World) (e : Ending) (w' : World) : Prop :=
  ∃ v, e = .returned (.tuple #[v, .int .i64 (strm s n)]) ∧ Own w.heap.size w' v (rlist s n) ∧ Ext w w'

def splF (x r : Int) : Int := if rv x && rv r then r else -1
def splL (x r : Int) : Int := if rv x && rv r then ring (x - r) else -1

/-- Block g begins with the integers f 0 .. f (n - 1). -/
def Row (g : Nat) (f : Nat → Int) (n : Nat) (w : World) : Prop := g < w.heap.size ∧ ∀ i, i < n → w.cell? ⟨g, i, none⟩ = some (.int .i64 (f i))
theorem Row.lt {g n : Nat} {f : Nat → Int} {w : World} (h : Row g f n w) : g < w.heap.size := h.1
theorem Row.keep {g n : Nat} {f : Nat → Int} {w w' : World} (h : Row g f n w) (hx : Ext w w') : Row g f n w' := ⟨hx.lt h.1, fun i hi => by rw [hx.cells.1 g i h.1]; exact h.2 i hi⟩
theorem Row.two {g : Nat} {f : Nat → Int} {w : World} (h : Row g f 2 w) : w.cell? ⟨g, 0, none⟩ = some (.int .i64 (f 0)) ∧ w.cell? ⟨g, 1, none⟩ = some (.int .i64 (f 1)) := ⟨h.2 0 (by omega), h.2 1 (by omega)⟩
theorem Row.five {g : Nat} {f : Nat → Int} {w : World} (h : Row g f 5 w) : w.cell? ⟨g, 0, none⟩ = some (.int .i64 (f 0)) ∧ w.cell? ⟨g, 1, none⟩ = some (.int .i64 (f 1)) ∧ w.cell? ⟨g, 2, none⟩ = some (.int .i64 (f 2)) ∧ w.cell? ⟨g, 3, none⟩ = some (.int .i64 (f 3)) ∧ w.cell? ⟨g, 4, none⟩ = some (.int .i64 (f 4)) :=
  ⟨h.2 0 (by omega), h.2 1 (by omega), h.2 2 (by omega), h.2 3 (by omega), h.2 4 (by omega)⟩
theorem Own.form {B : Nat} {w : World} {v : Value} {xs : List Int} (h : Own B w v xs) (hn : 0 < xs.length) : ∃ g cap, v = .slice (some ⟨g, 0, none⟩) xs.length cap ∧ B ≤ g ∧ g < w.heap.size ∧ ∀ i, i < xs.length → w.cell? ⟨g, i, none⟩ = some (.int .i64 (xs.getD i 0)) := by
  have h0 := h
  obtain ⟨h1, ⟨h2, _⟩ | ⟨g, cap, cur, rfl, hg, hh, _⟩⟩ := h
  · omega
  · exact ⟨g, cap, rfl, hg, lt_of_block hh, fun i hi => (Own.cell h0 rfl i hi).1⟩
theorem Own.row {B : Nat} {w : World} {v : Value} {s : Int} {n : Nat} (h : Own B w v (rlist s n)) (hn : 0 < n) : ∃ g cap, v = .slice (some ⟨g, 0, none⟩) n cap ∧ B ≤ g ∧ Row g (rnd s) n w := by
  obtain ⟨g, cap, e, hB, hg, hc⟩ := h.form (by rw [rlist_len]; exact hn)
  rw [rlist_len] at e hc
  exact ⟨g, cap, e, hB, hg, fun i hi => by rw [hc i hi, rlist_get s n i hi]⟩
/-- The triple behind a seed. -/
def tA (s : Int) : Int := if seedOk s then rnd s 0 else 0
def tB (s : Int) : Int := if seedOk s then rnd s 1 else 0
def tC (s : Int) : Int := if seedOk s then rnd s 2 else 0
def tD (s : Int) : Int := if seedOk s then rnd s 3 else 0
def tE (s : Int) : Int := if seedOk s then splF (mulR (addR (rnd s 0) (rnd s 1)) (addR (rnd s 2) (rnd s 3))) (rnd s 4) else 0
def tF (s : Int) : Int := if seedOk s then splL (mulR (addR (rnd s 0) (rnd s 1)) (addR (rnd s 2) (rnd s 3))) (rnd s 4) else 0
def tN (s : Int) : Int := if seedOk s then strm s 5 else 0

theorem Blk.six {w : World} {b : Nat} {x0 x1 x2 x3 x4 x5 : Value} {T : TypeId} (h : Blk w b #[x0, x1, x2, x3, x4, x5] T) : w.cell? ⟨b, 0, none⟩ = some x0 ∧ w.cell? ⟨b, 1, none⟩ = some x1 ∧ w.cell? ⟨b, 2, none⟩ = some x2 ∧ w.cell? ⟨b, 3, none⟩ = some x3 ∧ w.cell? ⟨b, 4, none⟩ = some x4 ∧ w.cell? ⟨b, 5, none⟩ = some x5 :=
  ⟨by rw [h.cell]; rfl, by rw [h.cell]; rfl, by rw [h.cell]; rfl, by rw [h.cell]; rfl, by rw [h.cell]; rfl, by rw [h.cell]; rfl⟩

end Go.Proofs.Ytpbnbhiffnnliaa
