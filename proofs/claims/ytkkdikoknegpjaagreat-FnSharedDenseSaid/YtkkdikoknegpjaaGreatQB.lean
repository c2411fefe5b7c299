import Derived.Test.YtkkdikoknegpjaaGreatKH
import Derived.Test.YtkkdikoknegpjaaGreatQA
import Derived.RangeFuncOwn
import Derived.RangeFuncLeaves
import Derived.RangeFuncBox
import Derived.RangeFuncCalls
import Derived.Shelf.Abstract
import Derived.OwnWalkIn
import Derived.TacticsInMore
import Derived.LoopIn
import Derived.LoopNIn
import Derived.Sort.LoopGhostIn
namespace Go.Proofs.YtkkdikoknegpjaaGreat
set_option linter.unusedSimpArgs false
set_option linter.unusedVariables false
open Go.RowKit
def nxt (s : Int) : Int := s * 48271 % 2147483647
def seedOk (s : Int) : Bool := decide (1 ≤ s) && decide (s ≤ 2147483646)
structure Seed (s : Int) : Prop where
 lo : 1 ≤ s
 hi : s ≤ 2147483646
theorem seed_of {s : Int} (h : seedOk s = true) : Seed s := by simp [seedOk] at h; exact ⟨h.1, h.2⟩
theorem Seed.ok {s : Int} (h : Seed s) : seedOk s = true := by simp [seedOk]; exact ⟨h.lo, h.hi⟩
theorem Seed.next {s : Int} (h : Seed s) : Seed (nxt s) := by
 have h1 := h.lo
 have h2 := h.hi
 have h3 : s * 48271 % 2147483647 ≠ 0 := by
  intro e
  obtain ⟨q, hq⟩ : ∃ q, s * 48271 = 2147483647 * q := ⟨s * 48271 / 2147483647, by omega⟩
  omega
 unfold nxt
 exact ⟨by omega, by omega⟩
theorem Seed.form {s : Int} (h : Seed s) : Int.tmod (wrap64 (s * 48271)) 2147483647 = nxt s ∧ Int.tmod (wrap64 (48271 * s)) 2147483647 = nxt s := by
 have h1 := h.lo
 have h2 := h.hi
 have e1 : wrap64 (s * 48271) = s * 48271 := by unfold wrap64; omega
 have e2 : wrap64 (48271 * s) = s * 48271 := by unfold wrap64; omega
 rw [e1, e2, Int.tmod_eq_emod_of_nonneg (by omega)]
 exact ⟨rfl, rfl⟩
theorem Seed.num {s : Int} (h : Seed s) : Int.tmod (wrap64 (Int.tdiv s 8)) 4096 = ring (s / 8) ∧ wrap64 (Int.tdiv s 8) = s / 8 := by
 have h1 := h.lo
 have h2 := h.hi
 have e1 : Int.tdiv s 8 = s / 8 := Int.tdiv_eq_ediv_of_nonneg (by omega)
 have e2 : wrap64 (s / 8) = s / 8 := by unfold wrap64; omega
 rw [e1, e2, Int.tmod_eq_emod_of_nonneg (by omega)]
 exact ⟨rfl, rfl⟩
def strm (s : Int) : Nat → Int
 | 0 => s
 | k + 1 => nxt (strm s k)
theorem Seed.strm {s : Int} (h : Seed s) : ∀ k, Seed (strm s k)
 | 0 => h
 | k + 1 => (h.strm k).next
def rnd (s : Int) (k : Nat) : Int := ring (strm s (k + 1) / 8)
theorem rnd_rv (s : Int) (k : Nat) : rv (rnd s k) = true := rv_ring _
def rlist (s : Int) (n : Nat) : List Int := (List.range n).map (rnd s)
theorem rlist_len (s : Int) (n : Nat) : (rlist s n).length = n := by simp [rlist]
theorem rlist_succ (s : Int) (n : Nat) : rlist s (n + 1) = rlist s n ++ [rnd s n] := by simp [rlist, List.range_succ]
theorem rlist_get (s : Int) (n i : Nat) (h : i < n) : (rlist s n).getD i 0 = rnd s i := by simp [rlist, h]
structure Cnt (n : Nat) : Prop where
 le : (n : Int) ≤ 1000000
def ListPost (s : Int) (n : Nat) (w : World) (e : Ending) (w' : World) : Prop :=
 ∃ v, e = .returned (.tuple #[v, .int .i64 (strm s n)]) ∧ Own w.heap.size w' v (rlist s n) ∧ Ext w w'
theorem spec_l4Next (s : Int) (h : Seed s) (w : World) : Calls Tryz.prog 108 #[.int .i64 s] w fun e w' => e = .returned (.int .i64 (nxt s)) ∧ w = w' := by
 have HF := h.form.1
 clear h
 go_enter Tryz.func108, Tryz.ntmps108
 go_wp2
 go_ret
 exact ⟨rfl, rfl⟩
set_option maxHeartbeats 2000000 in
theorem spec_l4List (s : Int) (n : Nat) (hs : Seed s) (hn : Cnt n) (w : World) : Calls Tryz.prog 84 #[.int .i64 s, .int .i64 n] w (ListPost s n w) := by
 go_enter Tryz.func84, Tryz.ntmps84
 go_wp2
 go_loopw [0, 6, 7] (fun c v i wr => ∃ j : Nat, j ≤ n ∧ c = .int .i64 (strm s j) ∧ i = .int .i64 j ∧ Own w.heap.size wr v (rlist s j) ∧ Ext w wr) (fun _ _ i _ => n - (intOf i).toNat)
 case atStart => exact ⟨0, by omega, rfl, rfl, Own.empty (Nat.le_refl _) (Blk.new _ _ _) (by unfold maxLen; omega) rfl, (Ext.refl _).alloc _⟩
 obtain ⟨j, hj, rfl, rfl, ho, hxw⟩ := hrel
 have hj' : (j : Int) ≤ 1000000 := by have := hn.le; omega
 by_cases hlt : (j : Int) < (n : Int)
 ·have HO := Lib.hid ho; clear ho
  have S0 := hs.strm j
  have S1 : Int.tmod (wrap64 (Int.tdiv (nxt (strm s j)) 8)) 4096 = rnd s j := ((hs.strm j).next.num).1
  go_wp2_with (first | (go_at_call 108; (with_reducible refine (spec_l4Next _ S0 _).mono ?_); rintro e w1 ⟨rfl, rfl⟩) | (at_builtin; refine wpList_append_one rfl _ _ rfl w.heap.size _ (rlist s j) rfl (HO.out.keep ((Ext.refl wr).alloc _)) wr.heap.size _ rfl (Blk.new _ _ _) (by rw [rlist_len]; omega) (by have := hxw.size; simp; omega) ?_; intro v' w1 hown1 htu))
  have hB := HO.out.block
  have e : Own w.heap.size w1 v' (rlist s (j + 1)) := by rw [rlist_succ]; exact hown1
  have hx1 : Ext w w1 := htu.ext (hxw.alloc _) (fun q hq => (hB q hq).1)
  have HE := Lib.hid e; clear e hown1 htu hB HO
  go_wp2
  go_roundw
  case rel => exact ⟨j + 1, by omega, rfl, by go_num, HE.out, hx1⟩
  case measure => simp [intOf]; omega
 have e : j = n := by omega
 subst e
 have HO := Lib.hid ho; clear ho
 go_wp2
 go_ret2
 exact ⟨_, rfl, HO.out, hxw⟩
def splL (x r : Int) : Int := if rv x && rv r then ring (x - r) else -1
def Row (g : Nat) (f : Nat → Int) (n : Nat) (w : World) : Prop := g < w.heap.size ∧ ∀ i, i < n → w.cell? ⟨g, i, none⟩ = some (.int .i64 (f i))
theorem Row.lt {g n : Nat} {f : Nat → Int} {w : World} (h : Row g f n w) : g < w.heap.size := h.1
theorem Row.keep {g n : Nat} {f : Nat → Int} {w w' : World} (h : Row g f n w) (hx : Ext w w') : Row g f n w' := ⟨hx.lt h.1, fun i hi => by rw [hx.cells.1 g i h.1]; exact h.2 i hi⟩
theorem Row.two {g : Nat} {f : Nat → Int} {w : World} (h : Row g f 2 w) : w.cell? ⟨g, 0, none⟩ = some (.int .i64 (f 0)) ∧ w.cell? ⟨g, 1, none⟩ = some (.int .i64 (f 1)) := ⟨h.2 0 (by omega), h.2 1 (by omega)⟩
theorem Own.form {B : Nat} {w : World} {v : Value} {xs : List Int} (h : Own B w v xs) (hn : 0 < xs.length) : ∃ g cap, v = .slice (some ⟨g, 0, none⟩) xs.length cap ∧ B ≤ g ∧ g < w.heap.size ∧ ∀ i, i < xs.length → w.cell? ⟨g, i, none⟩ = some (.int .i64 (xs.getD i 0)) := by
 have h0 := h
 obtain ⟨h1, ⟨h2, _⟩ | ⟨g, cap, cur, rfl, hg, hh, _⟩⟩ := h
 ·omega
 exact ⟨g, cap, rfl, hg, lt_of_block hh, fun i hi => (Own.cell h0 rfl i hi).1⟩
theorem Own.row {B : Nat} {w : World} {v : Value} {s : Int} {n : Nat} (h : Own B w v (rlist s n)) (hn : 0 < n) : ∃ g cap, v = .slice (some ⟨g, 0, none⟩) n cap ∧ B ≤ g ∧ Row g (rnd s) n w := by
 obtain ⟨g, cap, e, hB, hg, hc⟩ := h.form (by rw [rlist_len]; exact hn)
 rw [rlist_len] at e hc
 exact ⟨g, cap, e, hB, hg, fun i hi => by rw [hc i hi, rlist_get s n i hi]⟩
def tF (s : Int) : Int := if seedOk s then splL (mulR (addR (rnd s 0) (rnd s 1)) (addR (rnd s 2) (rnd s 3))) (rnd s 4) else 0
def Stream (F : Fence) (n : Nat) (P : Program) (gf : Nat) (lb : Array Value) (G : Nat) (enc : Nat → Array Value) (N : Nat) (w0 : World) : Prop :=
 ∀ (l : Nat) (J : Nat → World → Prop) (Jx : World → Prop) (W : World), Ext w0 W → (∀ k A B, J k A → Mod G A B → J k B) →
  (∀ k A, k ≤ N → J k A → YieldAt F (n - 1) P l (enc k) A fun e W' => (e = .returned (.bool true) ∧ k < N ∧ J (k + 1) W' ∧ W'.heap[G]? = A.heap[G]?) ∨ (e = .returned (.bool false) ∧ Jx W')) →
  J 0 W → CallsIn F n P gf (#[.func (.yield l) #[] #[]] ++ lb) W fun e W' => (∃ v, e = .returned v) ∧ Jx W'
def streamPost (c : Nat) (N G k : Nat) (I : Nat → World → Prop) (Ix : World → Prop) (W : World) : Exit → Act → World → Prop
 | .normal, _, W' => KeepsOthers W W' ∧ W'.heap[G]? = W.heap[G]? ∧ k < N ∧ I (k + 1) W'
 | .exit id, _, W' => id = c ∧ KeepsOthers W W' ∧ Ix W'
 | _, _, _ => False
variable {F : Fence} {n : Nat} {P : Program}
theorem range_stream {g : Operand} {ps : Array Tmp} {assign body : Go.Code} {Q : Exit → Act → World → Prop} {a : Act} {w : World}
 (hro : F.round = none) (h1 : 1 ≤ n) {gf G N : Nat} {lb : Array Value} {enc : Nat → Array Value} (hg : a.eval g = .func (.func gf) #[] lb) (hFg : F.fn gf) (eg : ∀ args w, (callFunc gf args).run P w = .ok (.enter gf args) w)
 (hseq : Stream F (n - 1) P gf lb G enc N w) (hG : G < w.heap.size) (hps : ∀ k, (enc k).size = ps.size) (c : Nat)
 (I : Nat → World → Prop) (Ix : World → Prop) (hI : ∀ k A B, I k A → Mod G A B → I k B)
 (hI' : ∀ k A l o o', I k A → w.heap.size ≤ l → A.heap[l]? = some o → o.isCells = false → I k (A.putObj l o'))
 (hIx : ∀ A l o o', Ix A → w.heap.size ≤ l → A.heap[l]? = some o → o.isCells = false → Ix (A.putObj l o'))
 (h0 : I 0 w) (a₁ : Nat → Act)
 (hassign : ∀ (l k : Nat) (W : World) (K : Act → World → Prop), K (a₁ k) W →
  assign.wpIn (F.inRound l) (n - 1 - 1) P (Exit.then K (fun _ _ _ => False)) { tmps := (ps.zip (enc k)).foldl (fun t (p, v) => t.setIfInBounds p v) a.tmps, defers := [] } W)
 (hbody : ∀ (l k : Nat) (W : World), k ≤ N → I k W → w.heap.size ≤ W.heap.size → body.wpIn (F.inRound l) (n - 1 - 1) P (streamPost c N G k I Ix W) (a₁ k) W)
 (hstop : ∀ (D : Nat) (W : World), w.heap.size ≤ D → Ix W → W.heap[D]? = some (.deferred (some [])) → (Go.Code.exit c).wpIn F n P Q { a with defers := { target := .collected D, args := #[] } :: a.defers } W) :
 (Go.Code.rangeFunc g ps assign body).wpIn F n P Q a w := by
 refine wpIn_rangeFunc ?_
 intro fn hfn
 rw [hro]
 obtain ⟨rc, hrc⟩ : ∃ rc : LoopState → Option Go.Code → Loop, rc = fun st pe => { state := st, pending := pe, fn, tmps := a.tmps, params := ps, assign, body, defers := w.heap.size } := ⟨_, rfl⟩
 obtain ⟨W1, hW1⟩ : ∃ W1, (w.alloc (.deferred (some []))).alloc (.loop (rc .ready none)) = W1 := ⟨_, rfl⟩
 have x1 : Ext w W1 := by rw [← hW1]; exact ((Ext.refl w).alloc _).alloc _
 have L1 : W1.heap[w.heap.size + 1]? = some (.loop (rc .ready none)) := by
  rw [← hW1]; have := heap_alloc_new (w.alloc (.deferred (some []))) (.loop (rc .ready none)); simpa using this
 have D1 : W1.heap[w.heap.size]? = some (.deferred (some [])) := by
  rw [← hW1]; exact ((Ext.refl (w.alloc (.deferred (some [])))).alloc _).keep (heap_alloc_new w _)
 have I1 : I 0 W1 := hI 0 w W1 h0 (Mod.of_ext x1)
 let J : Nat → World → Prop := fun k W => I k W ∧ W.heap[w.heap.size + 1]? = some (.loop (rc .ready none)) ∧ W.heap[w.heap.size]? = some (.deferred (some []))
 let Jx : World → Prop := fun W => Ix W ∧ W.heap[w.heap.size + 1]? = some (.loop (rc .done (some (.exit c)))) ∧ W.heap[w.heap.size]? = some (.deferred (some []))
 have hJ : ∀ k A B, J k A → Mod G A B → J k B := by
  rintro k A B ⟨i, l, d⟩ m
  exact ⟨hI k A B i m, (m.block _ (lt_of_block l) (by omega)).trans l, (m.block _ (lt_of_block d) (by omega)).trans d⟩
 have hround : ∀ k A, k ≤ N → J k A → YieldAt F (n - 1 - 1) P (w.heap.size + 1) (enc k) A fun e W' => (e = .returned (.bool true) ∧ k < N ∧ J (k + 1) W' ∧ W'.heap[G]? = A.heap[G]?) ∨ (e = .returned (.bool false) ∧ Jx W') := by
  rintro k A hk ⟨i, l, d⟩
  have hy := run_yield (P := P) (args := enc k) l (by rw [hrc]; exact hps k)
  rw [hrc] at hy
  refine ⟨fn, _, assign, body, hy, roundIn_of_wpIn hfn (hassign _ k A _ ⟨_, run_beginRound l (by rw [hrc]), ?_⟩)⟩
  have ll := lt_of_block l
  have l2 : (A.putObj (w.heap.size + 1) (.loop { rc .ready none with state := .busy })).heap[w.heap.size + 1]? = some (.loop { rc .ready none with state := .busy }) := World.putObj_heap_same ll
  have d2 : (A.putObj (w.heap.size + 1) (.loop { rc .ready none with state := .busy })).heap[w.heap.size]? = some (.deferred (some [])) := (World.putObj_heap_other (by omega)).trans d
  have g2 : (A.putObj (w.heap.size + 1) (.loop { rc .ready none with state := .busy })).heap[G]? = A.heap[G]? := World.putObj_heap_other (by omega)
  refine wpIn_mono (hbody _ k _ hk (hI' k A _ _ _ i (by omega) l rfl) (by simp [World.putObj]; omega)) ?_
  rintro e a3 W3 hp
  cases e with
  | normal =>
   obtain ⟨k3, g3, hlt, i3⟩ := hp
   have l3 := k3.same _ _ l2 rfl
   have hr := run_endRound (P := P) none l3
   refine ⟨_, _, hr, .inl ⟨rfl, hlt, ⟨hI' _ _ _ _ _ i3 (by omega) l3 rfl, ?_, (World.putObj_heap_other (by omega)).trans (k3.same _ _ d2 rfl)⟩, ((World.putObj_heap_other (by omega)).trans g3).trans g2⟩⟩
   rw [World.putObj_heap_same (lt_of_block l3), hrc]; rfl
  | exit id =>
   obtain ⟨rfl, k3, i3⟩ := hp
   have l3 := k3.same _ _ l2 rfl
   have hr := run_endRound (P := P) (some (.exit id)) l3
   refine ⟨_, _, hr, .inr ⟨rfl, hIx _ _ _ _ i3 (by omega) l3 rfl, ?_, (World.putObj_heap_other (by omega)).trans (k3.same _ _ d2 rfl)⟩⟩
   rw [World.putObj_heap_same (lt_of_block l3), hrc]; rfl
  | ret => exact hp.elim
  | goto t => exact hp.elim
  | panic ch => exact hp.elim
  | outgrown => exact hp.elim
 refine ⟨w.heap.size + 1, [{ target := .collected w.heap.size, args := #[] }], W1, { target := .fn (.func gf) lb, args := #[.func (.yield (w.heap.size + 1)) #[] #[]] }, W1, gf,
  #[.func (.yield (w.heap.size + 1)) #[] #[]] ++ lb, W1, ?_, ?_, ?_, ?_, fun _ => h1, ?_⟩
 ·rw [← hW1, hrc]; exact run_enterLoop_outer _ _ _ _ _
 ·simp only [resolve, hg]
  simp [go_sem]
 ·intro f' hf'; simp [Target.leads] at hf'; subst hf'; exact hFg
 ·simp [invoke, go_sem, eg]
 refine (hseq (w.heap.size + 1) J Jx W1 x1 hJ hround ⟨I1, L1, D1⟩).mono ?_
 rintro e W2 ⟨⟨v, rfl⟩, i, l, d⟩
 have := run_endLoop (P := P) l (by rw [hrc]; simp)
 refine ⟨some (.exit c), _, (by rw [hrc] at this; exact this), ?_⟩
 exact hstop _ _ (Nat.le_refl _) (hIx _ _ _ _ i (by omega) l rfl) ((World.putObj_heap_other (by omega)).trans d)
end Go.Proofs.YtkkdikoknegpjaaGreat
namespace Go.Proofs.YtkkdikoknegpjaaGreat
set_option linter.unusedSimpArgs false
set_option linter.unusedVariables false
open Go.RowKit Go.Shelf
attribute [local go_sem] Oper.semAt_some
theorem impl_seedValid (s : Int) (b : Bool) (h : (decide (1 ≤ s) && decide (s ≤ 2147483646)) = b) (w : World) : Calls Tryz.prog 31 #[.int .i64 s] w fun e w' => e = .returned (.bool b) ∧ w = w' := by
 by_cases h1 : s < 1
 ·obtain rfl : false = b := by rw [← h]; have : ¬ 1 ≤ s := (by omega); simp [this]
  clear h
  go_enter Tryz.func31, Tryz.ntmps31
  go_wp2
  go_ret
  exact ⟨rfl, rfl⟩
 have h1' : 1 ≤ s := by omega
 clear h1
 by_cases h2 : s ≤ 2147483646
 ·obtain rfl : true = b := by rw [← h]; simp [h1', h2]
  clear h
  go_enter Tryz.func31, Tryz.ntmps31
  go_wp2
  go_ret
  exact ⟨rfl, rfl⟩
 obtain rfl : false = b := by rw [← h]; simp [h2]
 clear h
 go_enter Tryz.func31, Tryz.ntmps31
 go_wp2
 go_ret
 exact ⟨rfl, rfl⟩
theorem impl_NextRandom (s : Int) (hs : Seed s) (w : World) : Calls Tryz.prog 132 #[.int .i64 s] w fun e w' => e = .returned (.tuple #[.int .i64 (rnd s 0), .int .i64 (nxt s)]) ∧ w = w' := by
 have HK := kp (show (decide (1 ≤ s) && decide (s ≤ 2147483646)) = true from hs.ok)
 have F1 := hs.form.2
 have F2 : Int.tdiv (nxt s) 8 = nxt s / 8 := by have := hs.next.lo; exact Int.tdiv_eq_ediv_of_nonneg (by omega)
 have F3 : wrap64 (nxt s / 8) = nxt s / 8 := by rw [← F2]; exact hs.next.num.2.trans F2.symm
 have R := kp (show ring (nxt s / 8) = rnd s 0 from rfl)
 clear hs
 go_enter Tryz.func132, Tryz.ntmps132
 go_wp2_with (first | (go_at_call 31; (with_reducible refine (impl_seedValid s true HK.out _).mono ?_); rintro e w1 ⟨rfl, rfl⟩) | (go_at_call 97; (with_reducible refine (impl_RingOf _ _).mono ?_); rintro e w1 ⟨rfl, rfl⟩))
 go_ret2
 exact ⟨rfl, rfl⟩
theorem impl_randomStream (s : Int) (w : World) : Calls Tryz.prog 129 #[.int .i64 s] w fun e w' => e = .returned (.func (.func 131) #[] #[.pointer (some ⟨w.heap.size, 0, none⟩)]) ∧ w' = w.alloc (.cells #[.int .i64 s] 3) := by
 go_enter Tryz.func129, Tryz.ntmps129
 go_wp2
 go_ret
 exact ⟨rfl, rfl⟩
def rEnc (s : Int) (k : Nat) : Array Value := #[.int .i64 (rnd s k), .int .i64 (strm s (k + 1))]
set_option maxRecDepth 100000 in
set_option maxHeartbeats 2000000 in
theorem stream_in (n : Nat) (hn : 2 ≤ n) (G : Nat) (s : Int) (hs : Seed s) (N : Nat) (w0 : World) (hG : Blk w0 G #[.int .i64 s] 3) : Stream Fence.wide n Tryz.prog 131 #[.pointer (some ⟨G, 0, none⟩)] G (rEnc s) N w0 := by
 intro l J Jx W hx hJ hY h0
 refine callsIn_of_wp Tryz.func131 rfl trivial ?_ rfl
 simp only [Tryz.ntmps131, List.size_toArray, List.length_cons, List.length_nil, Nat.reduceAdd, Nat.reduceSub, Array.replicate_succ, Array.replicate_zero, List.push_toArray, List.append_toArray, List.nil_append, List.cons_append]
 have hG' := hG.keep hx
 clear hG hx
 gi_wp2
 gi_loopg [] N (fun m wr => ∃ k, k + m = N ∧ Blk wr G #[.int .i64 (strm s k)] 3 ∧ J k wr)
 case atStart => exact ⟨0, by omega, hG', h0⟩
 obtain ⟨k, hk, hb, hj⟩ := hrel
 obtain ⟨fn, tmps, assign, body, hy, hR⟩ := hY k wr (by omega) hj
 dsimp only [rEnc] at hy
 have hc := hb.cell 0
 have hf := hb.free 0
 simp only [List.getElem?_toArray, List.getElem?_cons_zero] at hc
 have NR : Kept (∀ w, Calls Tryz.prog 132 #[.int .i64 (strm s k)] w fun e w' => e = .returned (.tuple #[.int .i64 (rnd s k), .int .i64 (strm s (k + 1))]) ∧ w = w') := ⟨fun w => impl_NextRandom (strm s k) (hs.strm k) w⟩
 have HB := kp hb
 have HJ := kp hJ
 clear hb hJ hj hY h0 hG'
 gi_wp2_with (fail)
 refine ⟨trivial, fun h => (by cases h), (callsIn_wide.2 (NR.out _)).mono ?_⟩
 rintro e w1 ⟨rfl, rfl⟩
 gi_wp2
 refine ⟨fun h => (by cases h), hR.mono ?_⟩
 rintro e W3 (⟨rfl, hlt, hj3, hg3⟩ | ⟨rfl, hx3⟩)
 ·have hb3 : Blk W3 G #[.int .i64 (strm s k)] 3 := by unfold Blk; rw [hg3]; exact HB.out
  clear hg3 hc hf
  have hc := hb3.cell 0
  have hf := hb3.free 0
  simp only [List.getElem?_toArray, List.getElem?_cons_zero] at hc
  have H3 := kp (And.intro hb3 hj3)
  clear hb3 hj3 hR hy
  gi_wp2
  gi_roundg (N - (k + 1))
  case rel => exact ⟨k + 1, by omega, by have := heap_setCell_same W3 G 0 #[.int .i64 (strm s k)] 3 (.int .i64 (strm s (k + 1))) H3.out.1; exact this, HJ.out _ _ _ H3.out.2 ((Mod.refl G W3).set 0 _)⟩
  case measure => omega
 gi_wp2
 refine bodyPost_ret (results_none rfl _ _ _) rfl ?_
 exact ⟨⟨_, rfl⟩, hx3⟩
theorem Blk.grown {w w' : World} {row : Option Nat} {b : Nat} {cs : Array Value} {T : TypeId} (h : Blk w b cs T) (hg : w.grownBy w' row) (hne : some b ≠ row) : Blk w' b cs T := (hg.block b h.lt hne).trans h
theorem Own.of_block {B : Nat} {w w' : World} {g a c : Nat} {xs : List Int} (h : Own B w (.slice (some ⟨g, 0, none⟩) a c) xs) (e : w'.heap[g]? = w.heap[g]?) : Own B w' (.slice (some ⟨g, 0, none⟩) a c) xs := by
 obtain ⟨h1, ⟨h2, _⟩ | ⟨k, cap, cur, hv, hg, hh, r⟩⟩ := h
 ·cases h2
 simp at hv
 obtain ⟨rfl, rfl, rfl⟩ := hv
 exact ⟨h1, .inr ⟨g, c, cur, rfl, hg, by rw [e]; exact hh, r⟩⟩
theorem Blk.putObj {w : World} {b l : Nat} {cs : Array Value} {T : TypeId} {o' : Obj} (h : Blk w b cs T) (hne : b ≠ l) : Blk (w.putObj l o') b cs T := (World.putObj_heap_other hne).trans h
theorem Ext.putObj {w A : World} {l : Nat} (h : Ext w A) (hl : w.heap.size ≤ l) (o' : Obj) : Ext w (A.putObj l o') :=
 Below.trans h ⟨rfl, rfl, rfl, by simp [World.putObj], fun k hk => World.putObj_heap_other (by omega)⟩
theorem Own.cellsAt {B : Nat} {A : World} {g a c : Nat} {xs : List Int} (h : Own B A (.slice (some ⟨g, 0, none⟩) a c) xs) {u : Obj} (o : Obj) (ho : (A.alloc u).heap[g]? = some o) : o.isCells = true := by
 obtain ⟨h1, ⟨h2, _⟩ | ⟨k, cap, cur, hv, hg, hh, r⟩⟩ := h
 ·cases h2
 simp at hv
 obtain ⟨rfl, rfl, rfl⟩ := hv
 rw [((Ext.refl A).alloc u).keep hh] at ho
 cases ho
 rfl
theorem Ext.grown' {w A B : World} (h : Ext w A) {u : Obj} {g : Nat} (hg : (A.alloc u).grownBy B (some g)) (hw : w.heap.size ≤ g) : Ext w B := by
 have h' := h.alloc u
 exact Below.trans h' ⟨hg.os, hg.tape, hg.output, hg.size, fun k hk => hg.block k (Nat.lt_of_lt_of_le hk h'.size) (by simp; omega)⟩
structure RInv (w : World) (s : Int) (n g b : Nat) (k : Nat) (W : World) : Prop where
 own : Own w.heap.size W (.slice (some ⟨g, 0, none⟩) k n) (rlist s k)
 list : Blk W b #[.slice (some ⟨g, 0, none⟩) k n] 22
 last : Blk W (b + 1) #[.int .i64 (strm s k)] 3
 many : Blk W w.heap.size #[.int .i64 n] 3
 ext : Ext w W
theorem RInv.mod {w : World} {s : Int} {n g b k : Nat} {A B : World} (h : RInv w s n g b k A) (hg : g < b) (hw : w.heap.size < b) (m : Mod (b + 1 + 1) A B) : RInv w s n g b k B where
 own := h.own.of_block (m.block g (by have := h.list.lt; omega) (by omega))
 list := m.blk h.list (by omega)
 last := m.blk h.last (by omega)
 many := m.blk h.many (by omega)
 ext := Mod.ext h.ext m (by omega)
theorem RInv.put {w : World} {s : Int} {n g b k : Nat} {A : World} {l : Nat} (h : RInv w s n g b k A) (hg : g < b) (hw : w.heap.size < b) (hl : b + 1 + 1 + 1 ≤ l) (o' : Obj) : RInv w s n g b k (A.putObj l o') where
 own := h.own.of_block (World.putObj_heap_other (by omega))
 list := h.list.putObj (by omega)
 last := h.last.putObj (by omega)
 many := h.many.putObj (by omega)
 ext := h.ext.putObj (by omega) o'
set_option maxRecDepth 100000 in
set_option maxHeartbeats 4000000 in
theorem impl_RandomList (s : Int) (n : Nat) (hs : Seed s) (hn : (n : Int) ≤ 4096) (w : World) : Calls Tryz.prog 122 #[.int .i64 s, .int .i64 n] w (ListPost s n w) := by
 obtain ⟨i0, hi, hz0, hz1, hz2⟩ := info_parts info_int
 have HK := kp (show (decide (1 ≤ s) && decide (s ≤ 2147483646)) = true from hs.ok)
 have HS := kp hs
 clear hs
 refine (callsIn_wide (n := 6)).1 ?_
 refine callsIn_of_wp_marks Tryz.func122 rfl trivial ?_ rfl
 simp only [Tryz.ntmps122, List.size_toArray, List.length_cons, List.length_nil, Nat.reduceAdd, Nat.reduceSub, Array.replicate_succ, Array.replicate_zero, List.push_toArray, List.append_toArray, List.nil_append, List.cons_append]
 gi_wp2_with (fail)
 refine ⟨trivial, (callsIn_wide.2 (impl_seedValid s true HK.out _)).mono ?_⟩
 rintro e w1 ⟨rfl, rfl⟩
 gi_wp2_with (gi_at_make; refine wpListIn_make_own _ rfl _ _ 22 rfl w.heap.size 3 i0 (.int .i64 0) 1 Tryz.underlying22 hi hz0 hz1 .i64 .i64 n n rfl rfl rfl (by rw [hz2]; omega) (by unfold maxLen; omega) (by simp) ?_; intro w1 hown hgrow)
 have k0 : Blk w1 w.heap.size #[.int .i64 n] 3 := (Blk.new w _ _).grown hgrow (by simp)
 have hx1 : Ext w w1 := ((Ext.refl w).alloc _).trans (Ext.of_grown hgrow)
 have hg1 : w.heap.size + 1 < w1.heap.size := by have := (World.ownsRow.lt hown _ rfl).2; simpa using this
 simp only [World.size_alloc] at hown
 have HOWN := kp hown
 have HX := kp hx1
 clear hown hgrow hx1
 gi_wp2_with (fail)
 refine ⟨trivial, (callsIn_wide.2 (impl_randomStream s _)).mono ?_⟩
 rintro e w2 ⟨rfl, rfl⟩
 gi_wp2_with (fail)
 have h0 : RInv w s n (w.heap.size + 1) w1.heap.size 0 (((w1.alloc (.cells #[.slice (some ⟨w.heap.size + 1, 0, none⟩) 0 n] 22)).alloc (.cells #[.int .i64 s] 3)).alloc (.cells #[.int .i64 s] 3)) := {
  own := (Own.keep (show Own w.heap.size w1 (.slice (some ⟨w.heap.size + 1, 0, none⟩) 0 n) [] from HOWN.out) (((Ext.refl w1).alloc _).alloc _)).keep ((Ext.refl _).alloc _)
  list := ((Blk.new w1 _ _).old _).old _
  last := by have := (Blk.new (w1.alloc (.cells #[.slice (some ⟨w.heap.size + 1, 0, none⟩) 0 n] 22)) #[.int .i64 s] 3).old (.cells #[.int .i64 s] 3); simp only [World.size_alloc] at this; exact this
  many := ((k0.old _).old _).old _
  ext := HX.out.trans ((((Ext.refl w1).alloc _).alloc _).alloc _) }
 have hG : Blk (((w1.alloc (.cells #[.slice (some ⟨w.heap.size + 1, 0, none⟩) 0 n] 22)).alloc (.cells #[.int .i64 s] 3)).alloc (.cells #[.int .i64 s] 3)) (w1.heap.size + 1 + 1) #[.int .i64 s] 3 := by
  have := Blk.new ((w1.alloc (.cells #[.slice (some ⟨w.heap.size + 1, 0, none⟩) 0 n] 22)).alloc (.cells #[.int .i64 s] 3)) #[.int .i64 s] 3; simpa using this
 have hsz : (((w1.alloc (.cells #[.slice (some ⟨w.heap.size + 1, 0, none⟩) 0 n] 22)).alloc (.cells #[.int .i64 s] 3)).alloc (.cells #[.int .i64 s] 3)).heap.size = w1.heap.size + 1 + 1 + 1 := by simp
 clear HOWN k0
 refine range_stream rfl (by omega) (gf := 131) (G := w1.heap.size + 1 + 1) (N := n) (enc := rEnc s) rfl trivial (enters_of Tryz.func131 (by kernel_rfl) rfl)
  (stream_in _ (by omega) _ s HS.out n _ hG) (by omega) (fun _ => rfl) 0
  (RInv w s n (w.heap.size + 1) w1.heap.size) (RInv w s n (w.heap.size + 1) w1.heap.size n) (fun k A B h m => h.mod hg1 (by omega) m) (fun k A l o o' h hl _ _ => h.put hg1 (by omega) (by omega) o') (fun A l o o' h hl _ _ => h.put hg1 (by omega) (by omega) o') h0
  (fun k => { tmps := #[.int .i64 s, .int .i64 n, undef, .pointer (some ⟨w.heap.size, 0, none⟩), .slice none 0 0, .int .i64 0, .pointer (some ⟨w1.heap.size, 0, none⟩), .pointer (some ⟨w1.heap.size + 1, 0, none⟩), .int .i64 (rnd s k), .int .i64 (strm s (k + 1)), .int .i64 s, .bool true, .bool false, .bool false, .int .i64 n, .bool (decide ((n : Int) < 0)), .bool (decide ((n : Int) < 0)), .bool (decide ((n : Int) < 0)), .int .i64 n, .bool (decide ((4096 : Int) < n)), .bool (decide ((n : Int) < 0) || decide ((4096 : Int) < n)), .int .i64 n, .slice (some ⟨w.heap.size + 1, 0, none⟩) 0 n, .int .i64 s, .int .i64 s, .func (.func 131) #[] #[.pointer (some ⟨w1.heap.size + 1 + 1, 0, none⟩)], .int .i64 (rnd s k), .int .i64 (strm s (k + 1)), undef, undef, undef, undef, undef, undef, undef, undef, undef, undef, undef], defers := [] }) ?assign ?body ?stop
 case assign =>
  intro l k W K hK
  dsimp only [rEnc]
  gi_wp2
  exact hK
 case body =>
  intro l k W hk h hW
  rw [hsz] at hW
  have c0 := h.many.cell 0
  have cb := h.list.cell 0
  have fb := h.list.free 0
  have cl := h.last.cell 0
  have fl := h.last.free 0
  simp only [List.getElem?_toArray, List.getElem?_cons_zero] at c0 cb cl
  have H := kp h
  clear h hG h0
  by_cases e : k = n
  ·subst e
   gi_wp2
   exact ⟨rfl, KeepsOthers.refl _, H.out⟩
  have e1 : ((k : Int) == (n : Int)) = false := by simp; omega
  have e2 : k + 1 ≤ n := by omega
  gi_wp2_with (gi_at_builtin; refine wpListIn_append_fits _ rfl _ _ 22 rfl w.heap.size 3 i0 1 Tryz.underlying22 hi hz1 (w.heap.size + 1) k n (rowI (rlist s k)) rfl (by have := H.out.own.keep ((Ext.refl W).alloc (.cells #[.int .i64 (rnd s k)] 3)); unfold Own at this; rw [rlist_len] at this; exact this) ⟨W.heap.size, 0, none⟩ 1 1 [.int .i64 (rnd s k)] rfl rfl (cell_one_new _ _ _) (by simp [Value.oneCell']) e2 ?_; intro w2 hown2 hgrow; have k1 := (H.out.list.old (.cells #[.int .i64 (rnd s k)] 3)).grown hgrow (by simp; omega); have k2 := (H.out.last.old (.cells #[.int .i64 (rnd s k)] 3)).grown hgrow (by simp; omega); have k3 := (H.out.many.old (.cells #[.int .i64 (rnd s k)] 3)).grown hgrow (by simp); have d1 := k1.cell 0; have d2 := k2.cell 0; have g1 := k1.free 0; have g2 := k2.free 0; simp only [List.getElem?_toArray, List.getElem?_cons_zero] at d1 d2; have KB := kp (And.intro k1 (And.intro k2 k3)); have O2 := kp hown2; have H2 := kp (And.intro hgrow (show ∀ o, (W.alloc (.cells #[.int .i64 (rnd s k)] 3)).heap[w.heap.size + 1]? = some o → o.isCells = true from fun o ho => H.out.own.cellsAt o ho)); clear k1 k2 k3 hown2 hgrow)
  exact ⟨(((KeepsOthers.alloc W _).trans (KeepsOthers.of_grownBy H2.out.1 (fun j o e ho => by cases e; exact H2.out.2 o ho))).trans (KeepsOthers.setCell _ _ _)).trans (KeepsOthers.setCell _ _ _), by
   rw [Below.heap_setCell _ _ _ _ (by show w1.heap.size + 1 + 1 ≠ w1.heap.size + 1; omega), Below.heap_setCell _ _ _ _ (by show w1.heap.size + 1 + 1 ≠ w1.heap.size; omega), H2.out.1.block _ (by simp; omega) (by simp; omega)]
   exact Below.heap_alloc _ _ _ (by omega), by omega, {
   own := by
    refine Own.of_block (w := w2) ?_ ?_
    ·unfold Own; rw [rlist_len, rlist_succ, rowI, List.map_append]; exact O2.out
    rw [Below.heap_setCell _ _ _ _ (by show w.heap.size + 1 ≠ w1.heap.size + 1; omega), Below.heap_setCell _ _ _ _ (by show w.heap.size + 1 ≠ w1.heap.size; omega)]
   list := by
    unfold Blk
    rw [Below.heap_setCell _ _ _ _ (by show w1.heap.size ≠ w1.heap.size + 1; omega)]
    exact heap_setCell_same w2 w1.heap.size 0 #[.slice (some ⟨w.heap.size + 1, 0, none⟩) k n] 22 (.slice (some ⟨w.heap.size + 1, 0, none⟩) (k + 1) n) KB.out.1
   last := by
    refine heap_setCell_same (w2.setCell ⟨w1.heap.size, 0, none⟩ _) (w1.heap.size + 1) 0 #[.int .i64 (strm s k)] 3 (.int .i64 (strm s (k + 1))) ?_
    rw [Below.heap_setCell _ _ _ _ (by show w1.heap.size + 1 ≠ w1.heap.size; omega)]
    exact KB.out.2.1
   many := by
    unfold Blk
    rw [Below.heap_setCell _ _ _ _ (by show w.heap.size ≠ w1.heap.size + 1; omega), Below.heap_setCell _ _ _ _ (by show w.heap.size ≠ w1.heap.size; omega)]
    exact KB.out.2.2
   ext := (Ext.setCell (Ext.setCell (Ext.grown' H.out.ext H2.out.1 (Nat.le_succ _)) (by show w.heap.size ≤ w1.heap.size; omega) _) (by show w.heap.size ≤ w1.heap.size + 1; omega) _) }⟩
 case stop =>
  intro D W hD h hK
  have cb := h.list.cell 0
  have cl := h.last.cell 0
  simp only [List.getElem?_toArray, List.getElem?_cons_zero] at cb cl
  have H := kp h
  clear h hG h0
  gi_wp2
  gi_region
  all_goals gi_wp2
  refine ⟨by simp, .inl ⟨_, _, rfl, run_takeDeferred (by exact hK), ?_⟩⟩
  have R := (H.out.mod hg1 (by omega) (Mod.of_ext ((Ext.refl W).drew))).put hg1 (by omega) (show w1.heap.size + 1 + 1 + 1 ≤ D by rw [hsz] at hD; exact hD) (.deferred none)
  exact ⟨_, results_tmp2 rfl _ _ _, _, rfl, R.own, R.ext⟩
end Go.Proofs.YtkkdikoknegpjaaGreat
