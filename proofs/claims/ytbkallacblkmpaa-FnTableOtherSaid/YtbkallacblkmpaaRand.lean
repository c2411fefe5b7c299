/- Random streams: the numbers behind a seed; lists of them; made triples. -/
import Derived.Test.YtbkallacblkmpaaShares2
import Derived.Test.YtbkallacblkmpaaDraw
namespace Go.Proofs.Ytbkallacblkmpaa
set_option linter.unusedSimpArgs false
set_option linter.unusedVariables false
open Go.RowKit
/-- The next seed. -/
def nxt (s : Int) : Int := s * 48271 % 2147483647
/-- A seed. -/
def seedOk (s : Int) : Bool := decide (1 ≤ s) && decide (s ≤ 2147483646)
structure Seed (s : Int) : Prop where
  lo : 1 ≤ s
  hi : s ≤ 2147483646
theorem seed_of {s : Int} (h : seedOk s = true) : Seed s := by simp [seedOk] at h; exact ⟨h.1, h.2⟩
theorem Seed.ok {s : Int} (h : Seed s) : seedOk s = true := by simp [seedOk]; exact ⟨h.lo, h.hi⟩
theorem Seed.next {s : Int} (h : Seed s) : Seed (nxt s) := by
  have h1 := h.lo
  have h2 := h.hi
  have h3 : s * 48271 % 2147483647 ≠ 0 := by
    intro e
    obtain ⟨q, hq⟩ : ∃ q, s * 48271 = 2147483647 * q := ⟨s * 48271 / 2147483647, by omega⟩
    omega
  unfold nxt
  exact ⟨by omega, by omega⟩
/-- The walk's own form of the next seed. -/
theorem Seed.form {s : Int} (h : Seed s) : Int.tmod (wrap64 (s * 48271)) 2147483647 = nxt s ∧ Int.tmod (wrap64 (48271 * s)) 2147483647 = nxt s := by
  have h1 := h.lo
  have h2 := h.hi
  have e1 : wrap64 (s * 48271) = s * 48271 := by unfold wrap64; omega
  have e2 : wrap64 (48271 * s) = s * 48271 := by unfold wrap64; omega
  rw [e1, e2, Int.tmod_eq_emod_of_nonneg (by omega)]
  exact ⟨rfl, rfl⟩
theorem Seed.num {s : Int} (h : Seed s) : Int.tmod (wrap64 (Int.tdiv s 8)) 4096 = ring (s / 8) ∧ wrap64 (Int.tdiv s 8) = s / 8 := by
  have h1 := h.lo
  have h2 := h.hi
  have e1 : Int.tdiv s 8 = s / 8 := Int.tdiv_eq_ediv_of_nonneg (by omega)
  have e2 : wrap64 (s / 8) = s / 8 := by unfold wrap64; omega
  rw [e1, e2, Int.tmod_eq_emod_of_nonneg (by omega)]
  exact ⟨rfl, rfl⟩
/-- The seed behind k draws. -/
def strm (s : Int) : Nat → Int
  | 0 => s
  | k + 1 => nxt (strm s k)
theorem Seed.strm {s : Int} (h : Seed s) : ∀ k, Seed (strm s k)
  | 0 => h
  | k + 1 => (h.strm k).next
/-- The k-th number behind a seed. -/
def rnd (s : Int) (k : Nat) : Int := ring (strm s (k + 1) / 8)
theorem rnd_rv (s : Int) (k : Nat) : rv (rnd s k) = true := rv_ring _
def rlist (s : Int) (n : Nat) : List Int := (List.range n).map (rnd s)
theorem rlist_len (s : Int) (n : Nat) : (rlist s n).length = n := by simp [rlist]
theorem rlist_succ (s : Int) (n : Nat) : rlist s (n + 1) = rlist s n ++ [rnd s n] := by simp [rlist, List.range_succ]
theorem rlist_get (s : Int) (n i : Nat) (h : i < n) : (rlist s n).getD i 0 = rnd s i := by simp [rlist, h]
theorem rlist_at (s : Int) (n i : Nat) (h : i < n) : (rlist s n)[i]? = some (rnd s i) := by simp [rlist, h]
/-- A count. -/
structure Cnt (n : Nat) : Prop where
  le : (n : Int) ≤ 1000000
/-- What a list of n random numbers leaves: the new list, the last seed. -/
def ListPost (s : Int) (n : Nat) (w : World) (e : Ending) (w' : World) : Prop :=
  ∃ v, e = .returned (.tuple #[v, .int .i64 (strm s n)]) ∧ Own w.heap.size w' v (rlist s n) ∧ Ext w w'

theorem spec_l4Next (s : Int) (h : Seed s) (w : World) : Calls Try.prog 67 #[.int .i64 s] w fun e w' => e = .returned (.int .i64 (nxt s)) ∧ w = w' := by
  have HF := h.form.1
  clear h
  go_enter Try.func67, Try.ntmps67
  go_wp2
  go_ret
  exact ⟨rfl, rfl⟩
set_option maxHeartbeats 2000000 in
theorem spec_l4List (s : Int) (n : Nat) (hs : Seed s) (hn : Cnt n) (w : World) : Calls Try.prog 38 #[.int .i64 s, .int .i64 n] w (ListPost s n w) := by
  go_enter Try.func38, Try.ntmps38
  go_wp2
  go_loopw [0, 6, 7] (fun c v i wr => ∃ j : Nat, j ≤ n ∧ c = .int .i64 (strm s j) ∧ i = .int .i64 j ∧ Own w.heap.size wr v (rlist s j) ∧ Ext w wr) (fun _ _ i _ => n - (intOf i).toNat)
  case atStart => exact ⟨0, by omega, rfl, rfl, Own.empty (Nat.le_refl _) (Blk.new _ _ _) (by unfold maxLen; omega) rfl, (Ext.refl _).alloc _⟩
  case round =>
    obtain ⟨j, hj, rfl, rfl, ho, hxw⟩ := hrel
    have hj' : (j : Int) ≤ 1000000 := by have := hn.le; omega
    by_cases hlt : (j : Int) < (n : Int)
    · have HO := Lib.hid ho; clear ho
      have S0 := hs.strm j
      have S1 : Int.tmod (wrap64 (Int.tdiv (nxt (strm s j)) 8)) 4096 = rnd s j := ((hs.strm j).next.num).1
      go_wp2_with (first | (go_at_call 67; (with_reducible refine (spec_l4Next _ S0 _).mono ?_); rintro e w1 ⟨rfl, rfl⟩) | (at_builtin; refine wpList_append_one rfl _ _ rfl w.heap.size _ (rlist s j) rfl (HO.out.keep ((Ext.refl wr).alloc _)) wr.heap.size _ rfl (Blk.new _ _ _) (by rw [rlist_len]; omega) (by have := hxw.size; simp; omega) ?_; intro v' w1 hown1 htu))
      have hB := HO.out.block
      have e : Own w.heap.size w1 v' (rlist s (j + 1)) := by rw [rlist_succ]; exact hown1
      have hx1 : Ext w w1 := htu.ext (hxw.alloc _) (fun q hq => (hB q hq).1)
      have HE := Lib.hid e; clear e hown1 htu hB HO
      go_wp2
      go_roundw
      case rel => exact ⟨j + 1, by omega, rfl, by go_num, HE.out, hx1⟩
      case measure => simp [intOf]; omega
    · have e : j = n := by omega
      subst e
      have HO := Lib.hid ho; clear ho
      go_wp2
      go_ret2
      exact ⟨_, rfl, HO.out, hxw⟩

def splF (x r : Int) : Int := if rv x && rv r then r else -1
def splL (x r : Int) : Int := if rv x && rv r then ring (x - r) else -1

set_option maxHeartbeats 2000000 in
theorem spec_SplitNumber (x r : Int) (w : World) : Calls Try.prog 55 #[.int .i64 x, .int .i64 r] w fun e w' => e = .returned (.agg #[.int .i64 (splF x r), .int .i64 (splL x r)]) ∧ Ext w w' := by
  cases h1 : rv x
  · rw [show splF x r = -1 by simp [splF, h1], show splL x r = -1 by simp [splL, h1]]
    have H1 := Kept.mk h1; clear h1
    go_enter Try.func55, Try.ntmps55
    go_wp2_with (go_at_call 66; (with_reducible refine (spec_RingValid x false H1.out _).mono ?_); rintro e w1 ⟨rfl, rfl⟩)
    first | exact bodyPost_ret (v := .agg #[.int .i64 (-1), .int .i64 (-1)]) (by first | (simp [results, Try.results55, go_sem, hc]; done) | (simp [results, Try.results55, go_sem]; done) | (simp [results, Try.results55, go_sem, *]; done)) rfl ⟨rfl, (by (repeat (first | refine Ext.setCell ?_ (by first | (simp; done) | (simp; omega) | omega) _ | refine Ext.alloc ?_ _ | refine Ext.drew ?_ | refine Ext.setRow ?_ (by omega) _)); first | exact Ext.refl _ | exact hx | (refine Ext.trans ?_ hx; (repeat (refine Ext.alloc ?_ _)); exact Ext.refl _))⟩
  · cases h2 : rv r
    · rw [show splF x r = -1 by simp [splF, h1, h2], show splL x r = -1 by simp [splL, h1, h2]]
      have H1 := Kept.mk h1; clear h1
      have H2 := Kept.mk h2; clear h2
      go_enter Try.func55, Try.ntmps55
      go_wp2_with (first | (go_at_call 66; (with_reducible refine (spec_RingValid x true H1.out _).mono ?_); rintro e w1 ⟨rfl, rfl⟩) | (go_at_call 66; (with_reducible refine (spec_RingValid r false H2.out _).mono ?_); rintro e w1 ⟨rfl, rfl⟩))
      first | exact bodyPost_ret (v := .agg #[.int .i64 (-1), .int .i64 (-1)]) (by first | (simp [results, Try.results55, go_sem, hc]; done) | (simp [results, Try.results55, go_sem]; done) | (simp [results, Try.results55, go_sem, *]; done)) rfl ⟨rfl, (by (repeat (first | refine Ext.setCell ?_ (by first | (simp; done) | (simp; omega) | omega) _ | refine Ext.alloc ?_ _ | refine Ext.drew ?_ | refine Ext.setRow ?_ (by omega) _)); first | exact Ext.refl _ | exact hx | (refine Ext.trans ?_ hx; (repeat (refine Ext.alloc ?_ _)); exact Ext.refl _))⟩
    · rw [show splF x r = r by simp [splF, h1, h2], show splL x r = ring (x - r) by simp [splL, h1, h2]]
      have W1 := ring_wrap64 (x - r)
      have H1 := Kept.mk h1; clear h1
      have H2 := Kept.mk h2; clear h2
      go_enter Try.func55, Try.ntmps55
      go_wp2_with (first | (go_at_call 66; (with_reducible refine (spec_RingValid x true H1.out _).mono ?_); rintro e w1 ⟨rfl, rfl⟩) | (go_at_call 66; (with_reducible refine (spec_RingValid r true H2.out _).mono ?_); rintro e w1 ⟨rfl, rfl⟩) | (go_at_call 40; (with_reducible refine (spec_l1Ring _ _).mono ?_); rintro e w1 ⟨rfl, rfl⟩))
      have W1 := ring_wrap64 (x - r)
      first | exact bodyPost_ret (v := .agg #[.int .i64 r, .int .i64 (ring (x - r))]) (by first | (simp [results, Try.results55, go_sem, hc]; done) | (simp [results, Try.results55, go_sem]; done) | (simp [results, Try.results55, go_sem, *]; done)) rfl ⟨rfl, (by (repeat (first | refine Ext.setCell ?_ (by first | (simp; done) | (simp; omega) | omega) _ | refine Ext.alloc ?_ _ | refine Ext.drew ?_ | refine Ext.setRow ?_ (by omega) _)); first | exact Ext.refl _ | exact hx | (refine Ext.trans ?_ hx; (repeat (refine Ext.alloc ?_ _)); exact Ext.refl _))⟩
set_option maxHeartbeats 2000000 in
theorem impl_SplitNumber (x r : Int) (w : World) : Calls Try.prog 76 #[.int .i64 x, .int .i64 r] w fun e w' => e = .returned (.agg #[.int .i64 (splF x r), .int .i64 (splL x r)]) ∧ Ext w w' := by
  cases h1 : rv x
  · rw [show splF x r = -1 by simp [splF, h1], show splL x r = -1 by simp [splL, h1]]
    have H1 := Kept.mk h1; clear h1
    go_enter Try.func76, Try.ntmps76
    go_wp2_with (first | (go_at_call 41; (with_reducible refine (impl_RingValid x false H1.out _).mono ?_); rintro e w1 ⟨rfl, rfl⟩) | (go_at_call 50; (with_reducible refine (impl_noShares _).mono ?_); rintro e w1 ⟨rfl, hy⟩; (first | (replace hx := hx.trans hy; clear hc hz hy; obtain ⟨hc, hz⟩ := hx.cells) | (have hx := hy; clear hy; obtain ⟨hc, hz⟩ := hx.cells))))
    first | exact bodyPost_ret (v := .agg #[.int .i64 (-1), .int .i64 (-1)]) (by first | (simp [results, Try.results76, go_sem, hc]; done) | (simp [results, Try.results76, go_sem]; done) | (simp [results, Try.results76, go_sem, *]; done)) rfl ⟨rfl, (by (repeat (first | refine Ext.setCell ?_ (by first | (simp; done) | (simp; omega) | omega) _ | refine Ext.alloc ?_ _ | refine Ext.drew ?_ | refine Ext.setRow ?_ (by omega) _)); first | exact Ext.refl _ | exact hx | (refine Ext.trans ?_ hx; (repeat (refine Ext.alloc ?_ _)); exact Ext.refl _))⟩
  · cases h2 : rv r
    · rw [show splF x r = -1 by simp [splF, h1, h2], show splL x r = -1 by simp [splL, h1, h2]]
      have H1 := Kept.mk h1; clear h1
      have H2 := Kept.mk h2; clear h2
      go_enter Try.func76, Try.ntmps76
      go_wp2_with (first | (go_at_call 41; (with_reducible refine (impl_RingValid x true H1.out _).mono ?_); rintro e w1 ⟨rfl, rfl⟩) | (go_at_call 41; (with_reducible refine (impl_RingValid r false H2.out _).mono ?_); rintro e w1 ⟨rfl, rfl⟩) | (go_at_call 50; (with_reducible refine (impl_noShares _).mono ?_); rintro e w1 ⟨rfl, hy⟩; (first | (replace hx := hx.trans hy; clear hc hz hy; obtain ⟨hc, hz⟩ := hx.cells) | (have hx := hy; clear hy; obtain ⟨hc, hz⟩ := hx.cells))))
      first | exact bodyPost_ret (v := .agg #[.int .i64 (-1), .int .i64 (-1)]) (by first | (simp [results, Try.results76, go_sem, hc]; done) | (simp [results, Try.results76, go_sem]; done) | (simp [results, Try.results76, go_sem, *]; done)) rfl ⟨rfl, (by (repeat (first | refine Ext.setCell ?_ (by first | (simp; done) | (simp; omega) | omega) _ | refine Ext.alloc ?_ _ | refine Ext.drew ?_ | refine Ext.setRow ?_ (by omega) _)); first | exact Ext.refl _ | exact hx | (refine Ext.trans ?_ hx; (repeat (refine Ext.alloc ?_ _)); exact Ext.refl _))⟩
    · rw [show splF x r = r by simp [splF, h1, h2], show splL x r = ring (x - r) by simp [splL, h1, h2]]
      have SB := Kept.mk (show subR x r = ring (x - r) from subR_ok h1 h2)
      have H1 := Kept.mk h1; clear h1
      have H2 := Kept.mk h2; clear h2
      go_enter Try.func76, Try.ntmps76
      go_wp2_with (first | (go_at_call 41; (with_reducible refine (impl_RingValid x true H1.out _).mono ?_); rintro e w1 ⟨rfl, rfl⟩) | (go_at_call 41; (with_reducible refine (impl_RingValid r true H2.out _).mono ?_); rintro e w1 ⟨rfl, rfl⟩) | (go_at_call 34; (with_reducible refine (impl_SubRing _ _ _).mono ?_); rintro e w1 ⟨rfl, rfl⟩))
      (try rw [SB.out])
      first | exact bodyPost_ret (v := .agg #[.int .i64 r, .int .i64 (ring (x - r))]) (by first | (simp [results, Try.results76, go_sem, hc]; done) | (simp [results, Try.results76, go_sem]; done) | (simp [results, Try.results76, go_sem, *]; done)) rfl ⟨rfl, (by (repeat (first | refine Ext.setCell ?_ (by first | (simp; done) | (simp; omega) | omega) _ | refine Ext.alloc ?_ _ | refine Ext.drew ?_ | refine Ext.setRow ?_ (by omega) _)); first | exact Ext.refl _ | exact hx | (refine Ext.trans ?_ hx; (repeat (refine Ext.alloc ?_ _)); exact Ext.refl _))⟩
/-- Block g begins with the integers f 0 .. f (n - 1). -/
def Row (g : Nat) (f : Nat → Int) (n : Nat) (w : World) : Prop := g < w.heap.size ∧ ∀ i, i < n → w.cell? ⟨g, i, none⟩ = some (.int .i64 (f i))
theorem Row.lt {g n : Nat} {f : Nat → Int} {w : World} (h : Row g f n w) : g < w.heap.size := h.1
theorem Row.keep {g n : Nat} {f : Nat → Int} {w w' : World} (h : Row g f n w) (hx : Ext w w') : Row g f n w' := ⟨hx.lt h.1, fun i hi => by rw [hx.cells.1 g i h.1]; exact h.2 i hi⟩
theorem Row.two {g : Nat} {f : Nat → Int} {w : World} (h : Row g f 2 w) : w.cell? ⟨g, 0, none⟩ = some (.int .i64 (f 0)) ∧ w.cell? ⟨g, 1, none⟩ = some (.int .i64 (f 1)) := ⟨h.2 0 (by omega), h.2 1 (by omega)⟩
theorem Row.five {g : Nat} {f : Nat → Int} {w : World} (h : Row g f 5 w) : w.cell? ⟨g, 0, none⟩ = some (.int .i64 (f 0)) ∧ w.cell? ⟨g, 1, none⟩ = some (.int .i64 (f 1)) ∧ w.cell? ⟨g, 2, none⟩ = some (.int .i64 (f 2)) ∧ w.cell? ⟨g, 3, none⟩ = some (.int .i64 (f 3)) ∧ w.cell? ⟨g, 4, none⟩ = some (.int .i64 (f 4)) :=
  ⟨h.2 0 (by omega), h.2 1 (by omega), h.2 2 (by omega), h.2 3 (by omega), h.2 4 (by omega)⟩
theorem Own.form {B : Nat} {w : World} {v : Value} {xs : List Int} (h : Own B w v xs) (hn : 0 < xs.length) : ∃ g cap, v = .slice (some ⟨g, 0, none⟩) xs.length cap ∧ B ≤ g ∧ g < w.heap.size ∧ ∀ i, i < xs.length → w.cell? ⟨g, i, none⟩ = some (.int .i64 (xs.getD i 0)) := by
  have h0 := h
  obtain ⟨h1, ⟨h2, _⟩ | ⟨g, cap, cur, rfl, hg, hh, _⟩⟩ := h
  · omega
  · exact ⟨g, cap, rfl, hg, lt_of_block hh, fun i hi => (Own.cell h0 rfl i hi).1⟩
theorem Own.row {B : Nat} {w : World} {v : Value} {s : Int} {n : Nat} (h : Own B w v (rlist s n)) (hn : 0 < n) : ∃ g cap, v = .slice (some ⟨g, 0, none⟩) n cap ∧ B ≤ g ∧ Row g (rnd s) n w := by
  obtain ⟨g, cap, e, hB, hg, hc⟩ := h.form (by rw [rlist_len]; exact hn)
  rw [rlist_len] at e hc
  exact ⟨g, cap, e, hB, hg, fun i hi => by rw [hc i hi, rlist_get s n i hi]⟩
/-- The triple behind a seed. -/
def tA (s : Int) : Int := if seedOk s then rnd s 0 else 0
def tB (s : Int) : Int := if seedOk s then rnd s 1 else 0
def tC (s : Int) : Int := if seedOk s then rnd s 2 else 0
def tD (s : Int) : Int := if seedOk s then rnd s 3 else 0
def tE (s : Int) : Int := if seedOk s then splF (mulR (addR (rnd s 0) (rnd s 1)) (addR (rnd s 2) (rnd s 3))) (rnd s 4) else 0
def tF (s : Int) : Int := if seedOk s then splL (mulR (addR (rnd s 0) (rnd s 1)) (addR (rnd s 2) (rnd s 3))) (rnd s 4) else 0
def tN (s : Int) : Int := if seedOk s then strm s 5 else 0

theorem Blk.six {w : World} {b : Nat} {x0 x1 x2 x3 x4 x5 : Value} {T : TypeId} (h : Blk w b #[x0, x1, x2, x3, x4, x5] T) : w.cell? ⟨b, 0, none⟩ = some x0 ∧ w.cell? ⟨b, 1, none⟩ = some x1 ∧ w.cell? ⟨b, 2, none⟩ = some x2 ∧ w.cell? ⟨b, 3, none⟩ = some x3 ∧ w.cell? ⟨b, 4, none⟩ = some x4 ∧ w.cell? ⟨b, 5, none⟩ = some x5 :=
  ⟨by rw [h.cell]; rfl, by rw [h.cell]; rfl, by rw [h.cell]; rfl, by rw [h.cell]; rfl, by rw [h.cell]; rfl, by rw [h.cell]; rfl⟩

set_option maxHeartbeats 4000000 in
set_option maxRecDepth 4000 in
theorem spec_MakeTriple (s : Int) (w : World) : Calls Try.prog 58 #[.int .i64 s] w fun e w' => e = .returned (.tuple #[.agg #[.int .i64 (tA s), .int .i64 (tB s), .int .i64 (tC s), .int .i64 (tD s), .int .i64 (tE s), .int .i64 (tF s)], .int .i64 (tN s)]) ∧ Ext w w' := by
  cases hk : seedOk s
  · rw [show tA s = 0 by simp [tA, hk], show tB s = 0 by simp [tB, hk], show tC s = 0 by simp [tC, hk], show tD s = 0 by simp [tD, hk], show tE s = 0 by simp [tE, hk], show tF s = 0 by simp [tF, hk], show tN s = 0 by simp [tN, hk]]
    have HK := Kept.mk (show (decide (1 ≤ s) && decide (s ≤ 2147483646)) = false from hk); clear hk
    go_enter Try.func58, Try.ntmps58
    go_wp2_with (go_at_call 37; (with_reducible refine (spec_l1In s 1 2147483646 false HK.out _).mono ?_); rintro e w1 ⟨rfl, rfl⟩)
    exact bodyPost_ret (v := .tuple #[.agg #[.int .i64 0, .int .i64 0, .int .i64 0, .int .i64 0, .int .i64 0, .int .i64 0], .int .i64 0]) (by first | (simp [results, Try.results58, go_sem]; done) | (simp [results, Try.results58, go_sem, *]; done)) rfl ⟨rfl, (by (repeat (first | refine Ext.setCell ?_ (by first | (simp; done) | (simp; omega) | omega) _ | refine Ext.alloc ?_ _ | refine Ext.drew ?_ | refine Ext.setRow ?_ (by omega) _)); first | exact Ext.refl _ | exact hx | (refine Ext.trans ?_ hx; (repeat (refine Ext.alloc ?_ _)); exact Ext.refl _))⟩
  · rw [show tA s = rnd s 0 by simp [tA, hk], show tB s = rnd s 1 by simp [tB, hk], show tC s = rnd s 2 by simp [tC, hk], show tD s = rnd s 3 by simp [tD, hk], show tE s = splF (mulR (addR (rnd s 0) (rnd s 1)) (addR (rnd s 2) (rnd s 3))) (rnd s 4) by simp [tE, hk], show tF s = splL (mulR (addR (rnd s 0) (rnd s 1)) (addR (rnd s 2) (rnd s 3))) (rnd s 4) by simp [tF, hk], show tN s = strm s 5 by simp [tN, hk]]
    have HS := Kept.mk (seed_of hk)
    have HK := Kept.mk (show (decide (1 ≤ s) && decide (s ≤ 2147483646)) = true from hk); clear hk
    have L5 : Kept (∀ w, Calls Try.prog 38 #[.int .i64 s, .int .i64 5] w (ListPost s 5 w)) := Kept.mk (fun w => spec_l4List s 5 HS.out ⟨by decide⟩ w)
    go_enter Try.func58, Try.ntmps58
    go_wp2_with (go_at_call 37; (with_reducible refine (spec_l1In s 1 2147483646 true HK.out _).mono ?_); rintro e w1 ⟨rfl, rfl⟩)
    (with_reducible refine (L5.out _).mono ?_)
    rintro e w1 ⟨v, rfl, o, hx⟩
    obtain ⟨g, cap, rfl, hg, R⟩ := o.row (by omega)
    clear o
    obtain ⟨hc, hz⟩ := hx.cells
    go_wp2
    apply wp_region_zip [isv _, isv _, isv _, isv _, isv _, isv _, isv _, isv _, isv _, isv _, isv _, isv _, isv _, isv _, isv _, newb _ 67] _ (by kernel_rfl)
    case hA => intro V; simp [putAll, dstOf, Act.put]; exact rfl
    case hsl => intro V; exact rfl
    case step =>
      intro V lo up w' hr
      have hxr := hx.trans hr
      obtain ⟨hcr, hzr⟩ := hxr.cells
      have R := R.keep hr
      obtain ⟨r0, r1, r2, r3, r4⟩ := R.five
      simp only [zipOk, depsImp, isv, newb, waits, Region.binds, List.map_nil, List.nil_append, List.filterMap_cons, List.filterMap_nil, ↓reduceIte, true_implies, List.getD_cons_zero, List.getD_cons_succ, and_true]
      refine ⟨?_, ?_, ?_, ?_, ?_, ?_, ?_, ?_, ?_, ?_, ?_, ?_, ?_, ?_, ?_, ?_⟩
      all_goals
        intros
        go_wp2
        refine stepQ_mk rfl (by simp only [List.getElem?_toArray, List.getElem?_cons_succ, List.getElem?_cons_zero]; exact rfl) ?_
        first | exact ⟨hy, rfl⟩ | exact ⟨Ext.refl _, rfl⟩ | exact ⟨Ext.refl _, by assumption⟩ | exact ⟨(Ext.refl _).alloc _, rfl, by simp, Blk.new _ _ _⟩
    case hB => kernel_rfl
    case fin =>
      intro V lo up w' hr hf ha
      simp only [factsOk, isv, newb, List.map_nil, and_true, Nat.zero_add, Nat.reduceAdd] at hf
      simp only [List.length_cons, List.length_nil, Nat.zero_add, Nat.reduceAdd, List.drop_succ_cons, List.drop_zero]
      obtain ⟨⟨-, -, -, e0⟩, ⟨-, -, -, e1⟩, ⟨-, -, -, e2⟩, ⟨-, -, -, e3⟩, ⟨-, -, -, e4⟩, ⟨-, -, -, e5⟩, ⟨-, -, -, e6⟩, ⟨-, -, -, e7⟩, ⟨-, -, -, e8⟩, ⟨-, -, -, e9⟩, ⟨-, -, -, e10⟩, ⟨-, -, -, e11⟩, ⟨-, -, -, e12⟩, ⟨-, -, -, e13⟩, ⟨-, -, -, e14⟩, ⟨lp15, -, -, e15, -, kp15⟩⟩ := hf
      rw [e0, e1, e2, e3, e4, e5, e6, e7, e8, e9, e10, e11, e12, e13, e14, e15]
      clear e0 e1 e2 e3 e4 e5 e6 e7 e8 e9 e10 e11 e12 e13 e14 e15
      generalize lo 15 = bp15 at *
      clear ha V lo up
      have hs0 := hx.size
      replace hx := hx.trans hr
      have tR := R.lt
      replace R := R.keep hr
      clear hr
      try clear hc hz
      obtain ⟨hc, hz⟩ := hx.cells
      have neR : g ≠ bp15 := by omega
      refine wpList_store_blk rfl rfl 67 (.tmp 6) (.tmp 30) rfl bp15 _ rfl rfl 67 _ kp15 (by kernel_rfl) rfl (by simp [Value.oneCell']) hx (by omega) ?_
      rintro W1 hy kp15' hoth hsz
      replace R : Row g (rnd s) 5 W1 := ⟨by have := R.lt; omega, fun i hi => by rw [World.cell?_of_block (a := ⟨g, i, none⟩) (hoth g neR)]; exact R.2 i hi⟩
      clear kp15
      have kp15 := kp15'
      clear kp15' hoth hx
      have hx := hy
      clear hy
      clear hc hz
      obtain ⟨hc, hz⟩ := hx.cells
      go_wp2
      apply wp_region_zip [isv _, isv _, isv _, isv _, isv _, isv _, isv _, isv _, isv _, isv _, isv _, isv _] _ (by kernel_rfl)
      case hA => intro V; simp [putAll, dstOf, Act.put]; exact rfl
      case hsl => intro V; exact rfl
      case step =>
        intro V lo up w' hr
        have hxr := hx.trans hr
        obtain ⟨hcr, hzr⟩ := hxr.cells
        have R := R.keep hr
        have kp15 := kp15.keep hr
        obtain ⟨r0, r1, r2, r3, r4⟩ := R.five
        obtain ⟨k0, k1, k2, k3, k4, k5⟩ := kp15.six
        have kl := kp15.lt
        simp only [zipOk, depsImp, isv, waits, Region.binds, List.map_nil, List.nil_append, List.filterMap_cons, List.filterMap_nil, ↓reduceIte, true_implies, List.getD_cons_zero, List.getD_cons_succ, and_true]
        refine ⟨?_, ?_, ?_, ?_, ?_, ?_, ?_, ?_, ?_, ?_, ?_, ?_⟩
        all_goals
          intros
          go_wp2_with (first | (go_at_call 39; (with_reducible refine (spec_JoinShares _ _ _).mono ?_); rintro e w1 ⟨rfl, hy⟩) | (go_at_call 74; (with_reducible refine (spec_MulRing _ _ _).mono ?_); rintro e w1 ⟨rfl, rfl⟩) | (go_at_call 55; (with_reducible refine (spec_SplitNumber _ _ _).mono ?_); rintro e w1 ⟨rfl, hy⟩))
          refine stepQ_mk rfl (by simp only [List.getElem?_toArray, List.getElem?_cons_succ, List.getElem?_cons_zero]; exact rfl) ?_
          first | exact ⟨hy, rfl⟩ | exact ⟨Ext.refl _, rfl⟩ | exact ⟨Ext.refl _, by assumption⟩ | exact ⟨(Ext.refl _).alloc _, rfl, by simp, Blk.new _ _ _⟩
      case hB => kernel_rfl
      case fin =>
        intro V lo up w' hr hf ha
        simp only [factsOk, isv, List.map_nil, and_true, Nat.zero_add, Nat.reduceAdd] at hf
        simp only [List.length_cons, List.length_nil, Nat.zero_add, Nat.reduceAdd, List.drop_succ_cons, List.drop_zero]
        obtain ⟨⟨-, -, -, e0⟩, ⟨-, -, -, e1⟩, ⟨-, -, -, e2⟩, ⟨-, -, -, e3⟩, ⟨-, -, -, e4⟩, ⟨-, -, -, e5⟩, ⟨-, -, -, e6⟩, ⟨-, -, -, e7⟩, ⟨-, -, -, e8⟩, ⟨-, -, -, e9⟩, ⟨-, -, -, e10⟩, ⟨-, -, -, e11⟩⟩ := hf
        rw [e0, e1, e2, e3, e4, e5, e6, e7, e8, e9, e10, e11]
        clear e0 e1 e2 e3 e4 e5 e6 e7 e8 e9 e10 e11
        clear ha V lo up
        have hs0 := hx.size
        replace hx := hx.trans hr
        have tR := R.lt
        replace R := R.keep hr
        have tkp15 := kp15.lt
        replace kp15 := kp15.keep hr
        clear hr
        try clear hc hz
        obtain ⟨hc, hz⟩ := hx.cells
        obtain ⟨k0, k1, k2, k3, k4, k5⟩ := kp15.six
        have kl := kp15.lt
        have kf4 := kp15.free 4
        have kf5 := kp15.free 5
        have zz := hx.size
        (try simp at zz)
        simp only [World.size_alloc] at hg hs0
        have n1 : w.heap.size ≠ bp15 := by omega
        have n2 : bp15 ≠ w.heap.size := by omega
        have n3 : w.heap.size ≤ bp15 := by omega
        have c0 := hc w.heap.size 0 (by simp)
        have c1 := hc w.heap.size 1 (by simp)
        have c2 := hc w.heap.size 2 (by simp)
        have c3 := hc w.heap.size 3 (by simp)
        have c4 := hc w.heap.size 4 (by simp)
        have c5 := hc w.heap.size 5 (by simp)
        have f0 := hz w.heap.size 0 (by simp)
        have f1 := hz w.heap.size 1 (by simp)
        have f2 := hz w.heap.size 2 (by simp)
        have f3 := hz w.heap.size 3 (by simp)
        have f4 := hz w.heap.size 4 (by simp)
        have f5 := hz w.heap.size 5 (by simp)
        simp at c0 c1 c2 c3 c4 c5 f0 f1 f2 f3 f4 f5
        have HX := Kept.mk hx
        clear hx hc hz R kp15 tkp15 tR hs0 hsz lp15 neR hg L5 HS
        generalize hE : splF (mulR (addR (rnd s 0) (rnd s 1)) (addR (rnd s 2) (rnd s 3))) (rnd s 4) = E at *
        have HE := Kept.mk hE; clear hE
        generalize hF : splL (mulR (addR (rnd s 0) (rnd s 1)) (addR (rnd s 2) (rnd s 3))) (rnd s 4) = E' at *
        have HF := Kept.mk hF; clear hF
        generalize h0 : rnd s 0 = r0 at *
        have H0 := Kept.mk h0; clear h0
        generalize h1 : rnd s 1 = r1 at *
        have H1 := Kept.mk h1; clear h1
        generalize h2 : rnd s 2 = r2 at *
        have H2 := Kept.mk h2; clear h2
        generalize h3 : rnd s 3 = r3 at *
        have H3 := Kept.mk h3; clear h3
        go_wp2
        obtain rfl := HE.out
        obtain rfl := HF.out
        obtain rfl := H0.out
        obtain rfl := H1.out
        obtain rfl := H2.out
        obtain rfl := H3.out
        have hx := HX.out
        exact bodyPost_ret (v := .tuple #[.agg #[.int .i64 (rnd s 0), .int .i64 (rnd s 1), .int .i64 (rnd s 2), .int .i64 (rnd s 3), .int .i64 (splF (mulR (addR (rnd s 0) (rnd s 1)) (addR (rnd s 2) (rnd s 3))) (rnd s 4)), .int .i64 (splL (mulR (addR (rnd s 0) (rnd s 1)) (addR (rnd s 2) (rnd s 3))) (rnd s 4))], .int .i64 (strm s 5)]) (by simp [results, Try.results58, go_sem, *]) rfl ⟨rfl, (by (repeat (first | refine Ext.setCell ?_ (by first | (simp; done) | (simp; omega) | omega) _ | refine Ext.alloc ?_ _ | refine Ext.drew ?_ | refine Ext.setRow ?_ (by omega) _)); first | exact Ext.refl _ | exact hx | (refine Ext.trans ?_ hx; (repeat (refine Ext.alloc ?_ _)); exact Ext.refl _))⟩
end Go.Proofs.Ytbkallacblkmpaa
