/- Slices of matrices as they read: at each place three cells, the third a list. What a valid layer is. The laws' own functions on slices of matrices and on layers. -/
import Derived.Test.YtpbnbhiffnnliaaKF
import Derived.Test.YtpbnbhiffnnliaaDenT
import Derived.Deep.MidRow
import Derived.Laws.MakeOwn
import Derived.BigQuiet
namespace Go.Proofs.Ytpbnbhiffnnliaa
set_option linter.unusedSimpArgs false
set_option linter.unusedVariables false
open Go.RowKit
/-- The slice v, from the offset off on, reads as the matrices ms; all its blocks lie from B on. -/
def Mats (B off : Nat) (w : World) (v : Value) (ms : List Mat) : Prop :=
  ∃ (a : Option Addr) (cap : Nat), v = .slice a ms.length cap ∧ ms.length ≤ maxLen ∧ ∀ i, i < ms.length → ∃ b u, a = some ⟨b, off, none⟩ ∧ B ≤ b ∧ b < w.heap.size ∧
    w.rangeAt b (off + i * 3) [.int .i64 (ms.getD i matZ).r, .int .i64 (ms.getD i matZ).c, u] ∧ Ints w u (ms.getD i matZ).xs ∧ ∀ q, u.ownBlock = some q → B ≤ q
theorem rangeAt_keep {w w' : World} (hx : Ext w w') {b o : Nat} {cs : List Value} (hb : b < w.heap.size) (h : w.rangeAt b o cs) : w'.rangeAt b o cs := fun j v hv => by rw [hx.cells.1 b _ hb]; exact h j v hv
theorem Mats.frame {B off : Nat} {w w' : World} {v : Value} {ms : List Mat} (h : Mats B off w v ms) (hs : w.heap.size ≤ w'.heap.size) (hf : ∀ q, B ≤ q → q < w.heap.size → w'.heap[q]? = w.heap[q]?) : Mats B off w' v ms := by
  obtain ⟨a, cap, hv, hm, hc⟩ := h
  refine ⟨a, cap, hv, hm, fun i hi => ?_⟩
  obtain ⟨b, u, ha, h1, hb, hr, ⟨a', c', e, hm', hc'⟩, h2⟩ := hc i hi
  refine ⟨b, u, ha, h1, Nat.lt_of_lt_of_le hb hs, fun j v hv => ?_, ⟨a', c', e, hm', fun j hj => ?_⟩, h2⟩
  · have := hr j v hv
    simp only [World.cell?, hf b h1 hb] at this ⊢
    exact this
  · obtain ⟨b', o', ea, hb', hc9⟩ := hc' j hj
    refine ⟨b', o', ea, Nat.lt_of_lt_of_le hb' hs, ?_⟩
    have h3 : B ≤ b' := h2 b' (by rw [e, ea]; rfl)
    simp only [World.cell?, hf b' h3 hb'] at hc9 ⊢
    exact hc9
theorem Mats.keep {B off : Nat} {w w' : World} {v : Value} {ms : List Mat} (h : Mats B off w v ms) (hx : Ext w w') : Mats B off w' v ms := h.frame hx.size fun q _ hq => Below.block hx q hq
theorem Mats.mono {B B' off : Nat} {w : World} {v : Value} {ms : List Mat} (h : Mats B off w v ms) (hB : B' ≤ B) : Mats B' off w v ms := by
  obtain ⟨a, cap, hv, hm, hc⟩ := h
  refine ⟨a, cap, hv, hm, fun i hi => ?_⟩
  obtain ⟨b, u, ha, h1, hb, hr, hu, h2⟩ := hc i hi
  exact ⟨b, u, ha, Nat.le_trans hB h1, hb, hr, hu, fun q hq => Nat.le_trans hB (h2 q hq)⟩
theorem Mats.nil (B off : Nat) (w : World) : Mats B off w (.slice none 0 0) [] := ⟨none, 0, rfl, Nat.zero_le _, fun _ h => absurd h (Nat.not_lt_zero _)⟩
theorem Mats.lit {B off : Nat} {w : World} {v : Value} {ms : List Mat} (h : Mats B off w v ms) : ∃ a n cap, v = .slice a n cap ∧ n = ms.length ∧ Mats B off w (.slice a n cap) ms := by
  have h0 := h
  obtain ⟨a, cap, rfl, -, -⟩ := h0
  exact ⟨a, _, cap, rfl, rfl, h⟩
theorem Mats.elt {B off : Nat} {w : World} {a : Option Addr} {n cap : Nat} {ms : List Mat} (h : Mats B off w (.slice a n cap) ms) : n ≤ 9223372036854775807 ∧ ∀ i, i < n → ∃ b u, a = some ⟨b, off, none⟩ ∧ B ≤ b ∧ b < w.heap.size ∧
    w.rangeAt b (off + i * 3) [.int .i64 (ms.getD i matZ).r, .int .i64 (ms.getD i matZ).c, u] ∧ Ints w u (ms.getD i matZ).xs ∧ ∀ q, u.ownBlock = some q → B ≤ q := by
  obtain ⟨a, cap, e, hm, hc⟩ := h
  cases e
  exact ⟨hm, hc⟩
/-- A layer of the kind k with the weights ms is valid. -/
def layOk (k : Int) (ms : List Mat) : Bool :=
  ms.all Mat.ok && (if k = 1 then decide (ms.length = 2) && decide ((ms.getD 1 matZ).c = 1) && decide ((ms.getD 1 matZ).r = (ms.getD 0 matZ).r)
    else if k = 2 then decide (ms.length = 0)
    else if k = 3 then decide (ms.length = 3) && decide ((ms.getD 0 matZ).r = (ms.getD 0 matZ).c) && sameS (ms.getD 0 matZ) (ms.getD 1 matZ) && sameS (ms.getD 0 matZ) (ms.getD 2 matZ)
    else false)
/-- How many values the first k matrices hold. -/
def valsN (ms : List Mat) : Nat → Nat
  | 0 => 0
  | k + 1 => valsN ms k + (ms.getD k matZ).xs.length
theorem valsN_le (ms : List Mat) {k n : Nat} (h : k ≤ n) : valsN ms k ≤ valsN ms n := by
  induction n with
  | zero => obtain rfl : k = 0 := by omega
            exact Nat.le_refl _
  | succ n ih =>
    rcases Nat.lt_or_ge k (n + 1) with h1 | h1
    · have := ih (by omega)
      simp only [valsN]; omega
    · obtain rfl : k = n + 1 := by omega
      exact Nat.le_refl _
/-- What is left of the room. -/
def szM (left : Int) (ms : List Mat) : Int := if left - ms.length - valsN ms ms.length < 0 then -1 else left - ms.length - valsN ms ms.length
/-- A block that is being filled with matrices: k of n. -/
def Fil (g n : Nat) (ms : List Mat) (k : Nat) (w : World) : Prop :=
  (∃ cs : Array Value, Blk w g cs 25 ∧ cs.size = n * 3) ∧ ∀ j, j < k → ∃ u, w.rangeAt g (j * 3) [.int .i64 (ms.getD j matZ).r, .int .i64 (ms.getD j matZ).c, u] ∧ Own (g + 1) w u (ms.getD j matZ).xs
theorem Fil.keep {g n k : Nat} {ms : List Mat} {w w' : World} (h : Fil g n ms k w) (hx : Ext w w') : Fil g n ms k w' := by
  obtain ⟨⟨cs, hb, hs⟩, hc⟩ := h
  refine ⟨⟨cs, hb.keep hx, hs⟩, fun j hj => ?_⟩
  obtain ⟨u, h1, h2⟩ := hc j hj
  exact ⟨u, rangeAt_keep hx hb.lt h1, h2.keep hx⟩
theorem Own.oths {B : Nat} {u : Value} {xs : List Int} {g : Nat} (hne : u.ownBlock ≠ some g) : ∀ (vs : List Value) (o : Nat) {w : World}, Own B w u xs → Own B (w.setCells g o vs) u xs
  | [], _, _, h => h
  | v :: r, o, _, h => Own.oths hne r (o + 1) (h.setOther g hne o v)
theorem Fil.step {g n k : Nat} {ms : List Mat} {w : World} (h : Fil g n ms k w) (hk : k < n) {u : Value} (hu : Own (g + 1) w u (ms.getD k matZ).xs) :
    Fil g n ms (k + 1) (w.setCells g (k * 3) [.int .i64 (ms.getD k matZ).r, .int .i64 (ms.getD k matZ).c, u]) ∧ (∀ q, q ≠ g → (w.setCells g (k * 3) [.int .i64 (ms.getD k matZ).r, .int .i64 (ms.getD k matZ).c, u]).heap[q]? = w.heap[q]?) ∧
      (w.setCells g (k * 3) [.int .i64 (ms.getD k matZ).r, .int .i64 (ms.getD k matZ).c, u]).heap.size = w.heap.size := by
  obtain ⟨⟨cs, hb, hs⟩, hc⟩ := h
  obtain ⟨a1, a2, a3, -, -, -⟩ := setCells_row g 25 [.int .i64 (ms.getD k matZ).r, .int .i64 (ms.getD k matZ).c, u] (k * 3) cs w hb (by simp; omega)
  have hth : w.there g (k * 3) 3 := fun j hj => ⟨by rw [hb.cell]; have : k * 3 + j < cs.size := by omega
                                                    simp [this], hb.free _⟩
  refine ⟨⟨⟨_, a1, ?_⟩, fun j hj => ?_⟩, a2, a3⟩
  · simp [splice]; omega
  · rcases Nat.lt_succ_iff_lt_or_eq.1 hj with h | rfl
    · obtain ⟨q, h1, h2⟩ := hc j h
      exact ⟨q, World.rangeAt_setCells_apart h1 g (k * 3) _ (.inr (.inl (by simp; omega))), Own.oths (fun e => by have := (h2.block _ e).1; omega) _ _ h2⟩
    · exact ⟨u, World.rangeAt_setCells_same w g (j * 3) _ hth, Own.oths (fun e => by have := (hu.block _ e).1; omega) _ _ hu⟩
theorem Fil.done {g n : Nat} {ms : List Mat} {w : World} (h : Fil g n ms n w) (hn : n = ms.length) (hm : n ≤ maxLen) : Mats g 0 w (.slice (some ⟨g, 0, none⟩) n n) ms := by
  obtain ⟨⟨cs, hb, hs⟩, hc⟩ := h
  subst hn
  refine ⟨_, _, rfl, hm, fun i hi => ?_⟩
  obtain ⟨u, h1, h2⟩ := hc i hi
  exact ⟨g, u, rfl, Nat.le_refl _, hb.lt, by rw [Nat.zero_add]; exact h1, h2.ints, fun q hq => by have := (h2.block q hq).1; omega⟩
theorem wpFil {ops : Array Oper} {rest : List Oper} {o : Oper} {a : Act} {Q : Exit → Act → World → Prop} {w0 w : World} {g n k : Nat} {ms : List Mat} {r c : Int} {xs : List Int} {u : Value} (F : Fil g n ms k w) (X : Ext w0 w) (hg : w0.heap.size ≤ g) (hk : k < n) (e : ms.getD k matZ = ⟨r, c, xs⟩) (hu : Own (g + 1) w u xs)
    (h : ∀ w', Fil g n ms (k + 1) w' → Ext w0 w' → wpList Try.prog ops Q rest a w') (h1 : u.oneCell' = true := by rfl) (hgd : o.guard = none := by rfl) (hno : o.dst = none := by rfl) {x y : Operand} (ho : o.op = .store 25 x y := by rfl) (hx : a.eval x = .pointer (some ⟨g, k * 3, none⟩) := by rfl) (hy : a.eval y = .agg #[.int .i64 r, .int .i64 c, u] := by rfl) : wpList Try.prog ops Q (o :: rest) a w := by
  have hb := F.1
  obtain ⟨cs, hb, hs⟩ := hb
  obtain ⟨f1, f2, f3⟩ := F.step hk (u := u) (by rw [e]; exact hu)
  rw [e] at f1 f2 f3
  obtain ⟨-, -, -, a4, a5, a6⟩ := setCells_row g 25 [.int .i64 r, .int .i64 c, u] (k * 3) cs w hb (by simp; omega)
  refine wpList_store_mid hgd 25 x y ho g (k * 3) #[.int .i64 r, .int .i64 c, u] hx hy (fun j hj => ⟨?_, hb.free _⟩) (by kernel_rfl) ?_ ?_
  · rw [hb.cell]
    have : k * 3 + j < cs.size := by simp at hj; omega
    simp [this]
  · rw [Array.all_eq_true_iff_forall_mem]
    intro v hv
    simp only [List.mem_toArray, List.mem_cons, List.not_mem_nil, or_false] at hv
    rcases hv with rfl | rfl | rfl
    · rfl
    · rfl
    · exact h1
  · rw [hno]
    exact h _ f1 ⟨a4.trans (Below.os X), a5.trans (Below.tape X), a6.trans (Below.output X), by rw [show (w.setCells g (k * 3) _).heap.size = w.heap.size from f3]; exact X.size, fun q hq => (f2 q (by omega)).trans (Below.block X q hq)⟩
theorem infoM : (Try.prog.info? 25).map (fun i => (i.zero, i.size, i.bytes)) = some (some (.agg #[.int .i64 0, .int .i64 0, .slice none 0 0]), 3, 40) := by kernel_rfl
/-- A slice of n zero matrices. -/
theorem wpMkMs {ops : Array Oper} {rest : List Oper} {o : Oper} {a : Act} {Q : Exit → Act → World → Prop} {w : World} {n : Nat} (hn : n ≤ 1048576) (ms : List Mat)
    (h : ∀ w', Fil w.heap.size n ms 0 w' → Ext w w' → wpList Try.prog ops Q rest (a.put o.dst (.slice (some ⟨w.heap.size, 0, none⟩) n n)) w') (hgd : o.guard = none := by rfl) {l c : Operand} (ho : o.op = .makeSlice 40 l c := by rfl) (hl : a.eval l = .int .i64 n := by rfl) (hc : a.eval c = .int .i64 n := by rfl) : wpList Try.prog ops Q (o :: rest) a w := by
  obtain ⟨i, hi, hz⟩ := Option.map_eq_some_iff.1 infoM
  simp only [Prod.mk.injEq] at hz
  obtain ⟨hz, hs, hb⟩ := hz
  have hr := run_make (P := Try.prog) w 40 25 i _ Try.underlying40 hi hz .i64 .i64 n n (by omega) (Int.le_refl _) (by rw [hb]; omega) (by omega)
  simp only [Int.toNat_natCast] at hr
  refine wpList_plain hgd fun K hK => ?_
  unfold Oper.wp
  simp only [execOp, ho, hl, hc, Sem.run_bind, hr, Result.andThen_ok, Sem.run_pure]
  refine hK _ _ (h _ ⟨⟨_, Blk.new w _ _, ?_⟩, fun j hj => absurd hj (Nat.not_lt_zero _)⟩ ((Ext.refl w).alloc _))
  rw [size_madeCells, hs]

set_option maxHeartbeats 2000000 in
theorem laws_szMatrixS (B off : Nat) (v : Value) (ms : List Mat) (left : Int) (w : World) (h : Mats B off w v ms) (l0 : 0 ≤ left) (l1 : left ≤ 1048576) : Calls Try.prog 43 #[v, .int .i64 left] w fun e w' => e = .returned (.int .i64 (szM left ms)) ∧ Ext w w' := by
  obtain ⟨a, cap, rfl, hm, hc⟩ := h
  unfold maxLen at hm
  obtain ⟨n, hn⟩ : ∃ n, n = ms.length := ⟨_, rfl⟩
  rw [← hn] at hm hc ⊢
  obtain ⟨tot, ht⟩ : ∃ tot : Nat, tot = valsN ms n := ⟨_, rfl⟩
  obtain ⟨z, hz⟩ : ∃ z, z = szM left ms := ⟨_, rfl⟩
  have HZ : Kept ((left - n - tot < 0 → z = -1) ∧ (¬ left - n - tot < 0 → z = left - n - tot)) := ⟨by rw [hz]; unfold szM; rw [ht, hn]; exact ⟨fun h => if_pos h, fun h => if_neg h⟩⟩
  rw [← hz]
  have HC := Kept.mk hc
  have HS : Kept (∀ k, k ≤ n → valsN ms k ≤ tot) := ⟨fun k hk => by rw [ht]; exact valsN_le ms hk⟩
  have HT : Kept (valsN ms n = tot) := ⟨ht.symm⟩
  clear hz hc ht hn
  by_cases g0 : left - n < 0
  · obtain rfl : z = -1 := HZ.out.1 (by omega)
    go_enter Try.func43, Try.ntmps43
    go_wp2
    go_ret
    exact ⟨rfl, Ext.refl _⟩
  · have g1 : ¬ left - ↑n < 0 := g0
    go_enter Try.func43, Try.ntmps43
    go_wp2_with (fail)
    go_loopw [1, 5] (fun q i wr => ∃ k : Nat, k ≤ n ∧ i = .int .i64 k ∧ q = .int .i64 (left - n - valsN ms k) ∧ 0 ≤ left - n - valsN ms k ∧ Ext w wr) (fun _ i _ => n - (intOf i).toNat)
    case atStart => exact ⟨0, Nat.zero_le _, rfl, by simp [valsN], by simp only [valsN]; omega, Ext.refl _⟩
    case round =>
      obtain ⟨k, hk, rfl, rfl, hl0, hx⟩ := hrel
      have X := Kept.mk hx
      clear hx
      by_cases hlt : k < n
      · obtain ⟨b, u, rfl, -, hb, hr, hu, -⟩ := HC.out k hlt
        have RA := Kept.mk (rangeAt_keep X.out hb hr)
        have HU := Kept.mk (hu.keep X.out)
        clear hr hu
        generalize hM : ms.getD k matZ = M at RA HU
        obtain ⟨r, c, xs⟩ := M
        simp only at RA HU
        have z1 : (k : Int) < (n : Int) := Int.ofNat_lt.2 hlt
        have S9 := Kept.mk (laws_szMatrix r c u xs _ wr HU.out hl0 (by omega))
        have hv1 : valsN ms (k + 1) = valsN ms k + xs.length := by simp only [valsN, hM]
        have hle := HS.out (k + 1) (by omega)
        rw [hv1] at hle
        have HV1 := Kept.mk hv1
        clear hv1 hM
        generalize valsN ms k = vk at *
        generalize hL : xs.length = L at *
        clear hL
        by_cases g1 : left - n - vk - L < 0
        · rw [if_pos (by omega)] at S9
          obtain rfl : z = -1 := HZ.out.1 (by omega)
          clear hle hk g0 l0 l1 hl0 g1
          go_wp2_with (first | (refine wpList_load_mid rfl 75 _ rfl _ _ rfl _ _ RA.out Try.underlying75 rfl (by kernel_rfl) ?_; dsimp only) | fail)
          (with_reducible refine (S9.out).mono ?_)
          rintro e u9 ⟨rfl, x9⟩
          replace X := Kept.mk (X.out.trans x9)
          clear x9
          go_wp2
          go_ret
          exact ⟨rfl, X.out⟩
        · rw [if_neg (by omega)] at S9
          have e1 : decide (left - ↑n - ↑vk - ↑L < 0) = false := by simpa using g1
          clear hle g0
          go_wp2_with (first | (refine wpList_load_mid rfl 75 _ rfl _ _ rfl _ _ RA.out Try.underlying75 rfl (by kernel_rfl) ?_; dsimp only) | fail)
          (with_reducible refine (S9.out).mono ?_)
          rintro e u9 ⟨rfl, x9⟩
          replace X := Kept.mk (X.out.trans x9)
          clear x9
          go_wp2
          go_roundw
          case rel => exact ⟨k + 1, by omega, by go_num, by rw [HV1.out]; congr 1; omega, by rw [HV1.out]; omega, X.out⟩
          case measure => simp [intOf]; omega
      · obtain rfl : k = n := by omega
        rw [HT.out] at hl0 ⊢
        obtain rfl := HZ.out.2 (by omega)
        go_wp2
        go_ret
        exact ⟨rfl, X.out⟩
set_option maxHeartbeats 2000000 in
theorem laws_toMatrixS (B off : Nat) (v : Value) (ms : List Mat) (w : World) (h : Mats B off w v ms) (l0 : ms.length ≤ 1048576) (l1 : ∀ i, i < ms.length → (ms.getD i matZ).xs.length ≤ 1048576) : Calls Try.prog 45 #[v] w fun e w' => ∃ u, e = .returned u ∧ Mats w.heap.size 0 w' u ms ∧ Ext w w' := by
  obtain ⟨a, cap, rfl, hm, hc⟩ := h
  unfold maxLen at hm
  obtain ⟨n, hn⟩ : ∃ n, n = ms.length := ⟨_, rfl⟩
  rw [← hn] at hm hc l0 l1 ⊢
  have HC := Kept.mk hc
  have L1 := Kept.mk l1
  have HN := Kept.mk hn
  clear hc l1 hn
  go_enter Try.func45, Try.ntmps45
  go_wp2_with (first | (refine wpMkMs l0 ms ?_; intro w1 F X) | fail)
  replace F := Kept.mk F
  replace X := Kept.mk X
  obtain ⟨g, hg⟩ : ∃ g, g = w.heap.size := ⟨_, rfl⟩
  rw [← hg] at F ⊢
  have HG : Kept (w.heap.size ≤ g) := ⟨by omega⟩
  clear hg
  go_loopw [4] (fun i wr => ∃ k : Nat, k ≤ n ∧ i = .int .i64 k ∧ Fil g n ms k wr ∧ Ext w wr) (fun i _ => n - (intOf i).toNat)
  case atStart => exact ⟨0, Nat.zero_le _, rfl, F.out, X.out⟩
  case round =>
    clear F X
    obtain ⟨k, hk, rfl, hf, hx⟩ := hrel
    have F := Kept.mk hf
    have X := Kept.mk hx
    clear hf hx
    by_cases hlt : k < n
    · obtain ⟨b, u, rfl, -, hb, hr, hu, -⟩ := HC.out k hlt
      have RA := Kept.mk (rangeAt_keep X.out hb hr)
      have HU := Kept.mk (hu.keep X.out)
      clear hr hu
      generalize hM : ms.getD k matZ = M at RA HU
      obtain ⟨r, c, xs⟩ := M
      simp only at RA HU
      have z1 : (k : Int) < (n : Int) := Int.ofNat_lt.2 hlt
      have HM := Kept.mk hM
      have hL := L1.out k hlt
      rw [hM] at hL
      have S9 := Kept.mk (laws_toMatrix r c u xs wr HU.out hL)
      unfold MatPost at S9
      simp only at S9
      clear hL hM
      go_wp2_with (first | (refine wpList_load_mid rfl 75 _ rfl _ _ rfl _ _ RA.out Try.underlying75 rfl (by kernel_rfl) ?_; dsimp only) | fail)
      (with_reducible refine (S9.out).mono ?_)
      rintro e u9 ⟨v9, rfl, o9, x9⟩
      have G9 : Kept (g + 1 ≤ wr.heap.size) := ⟨by obtain ⟨⟨_, hb, _⟩, _⟩ := F.out; exact hb.lt⟩
      replace o9 := o9.mono G9.out
      replace F := Kept.mk (F.out.keep x9)
      replace X := Kept.mk (X.out.trans x9)
      clear x9
      obtain ⟨p9, m9, hu9, -, -⟩ := id o9.ints
      try simp only at hu9
      subst hu9
      replace o9 := Kept.mk o9
      go_wp2_with (first | (refine wpFil F.out X.out HG.out hlt HM.out o9.out ?_; clear F X; intro w9 F X; replace F := Kept.mk F; replace X := Kept.mk X) | fail)
      go_roundw
      case rel => exact ⟨k + 1, by omega, by go_num, F.out, X.out⟩
      case measure => simp [intOf]; omega
    · obtain rfl : k = n := by omega
      go_wp2
      go_ret
      exact ⟨_, rfl, (F.out.done HN.out (by unfold maxLen; omega)).mono HG.out, X.out⟩
set_option maxHeartbeats 2000000 in
theorem laws_eqMatrixS (B B' off off' : Nat) (v v' : Value) (ms : List Mat) (w : World) (h : Mats B off w v ms) (h' : Mats B' off' w v' ms) : Calls Try.prog 47 #[v, v'] w fun e w' => e = .returned (.bool true) ∧ Ext w w' := by
  obtain ⟨a, cap, rfl, hm, hc⟩ := h
  obtain ⟨a', cap', rfl, -, hc'⟩ := h'
  unfold maxLen at hm
  obtain ⟨n, hn⟩ : ∃ n, n = ms.length := ⟨_, rfl⟩
  rw [← hn] at hm hc hc' ⊢
  have HC := Kept.mk hc
  have HD := Kept.mk hc'
  clear hc hc' hn
  go_enter Try.func47, Try.ntmps47
  go_wp2_with (fail)
  go_loopw [5] (fun i wr => ∃ k : Nat, k ≤ n ∧ i = .int .i64 k ∧ Ext w wr) (fun i _ => n - (intOf i).toNat)
  case atStart => exact ⟨0, Nat.zero_le _, rfl, Ext.refl _⟩
  case round =>
    obtain ⟨k, hk, rfl, hx⟩ := hrel
    have X := Kept.mk hx
    clear hx
    by_cases hlt : k < n
    · obtain ⟨b, u, rfl, -, hb, hr, hu, -⟩ := HC.out k hlt
      obtain ⟨b', u', rfl, -, hb', hr', hu', -⟩ := HD.out k hlt
      have R1 := Kept.mk (fun w' (hx : Ext w w') => rangeAt_keep hx hb hr)
      have R2 := Kept.mk (fun w' (hx : Ext w w') => rangeAt_keep hx hb' hr')
      have HU := Kept.mk (fun w' (hx : Ext w w') => hu.keep hx)
      have HU' := Kept.mk (fun w' (hx : Ext w w') => hu'.keep hx)
      clear hr hu hr' hu'
      generalize ms.getD k matZ = M at *
      obtain ⟨r, c, xs⟩ := M
      simp only at R1 R2 HU HU'
      have z1 : (k : Int) < (n : Int) := Int.ofNat_lt.2 hlt
      have E9 := Kept.mk (fun w' (hx : Ext w w') => laws_eqMatrix r c u u' xs w' (HU.out w' hx) (HU'.out w' hx))
      clear hb hb'
      go_wp2_with (fail)
      have hx := X.out
      apply wp_region_zip [isv _, isv _, isv _, isv _, isv _, isv _, isv _, isv _, isv _, isv _] _ (by kernel_rfl)
      case hA => intro V; simp [putAll, dstOf, Act.put]; exact rfl
      case hsl => intro V; exact rfl
      case step =>
        intro V lo up w' hr
        have hxr := hx.trans hr
        obtain ⟨hcr, hzr⟩ := hxr.cells
        simp only [zipOk, depsImp, isv, waits, Region.binds, List.map_nil, List.nil_append, List.filterMap_cons, List.filterMap_nil, ↓reduceIte, true_implies, List.getD_cons_zero, List.getD_cons_succ, and_true]
        refine ⟨?_, ?_, ?_, ?_, ?_, ?_, ?_, ?_, ?_, ?_⟩
        all_goals
          intros
          (try simp only [*])
          go_wp2_with (first | (refine wpList_load_mid rfl 25 _ rfl _ _ rfl _ _ (R1.out _ hxr) Try.underlying25 rfl (by kernel_rfl) ?_) | (refine wpList_load_mid rfl 25 _ rfl _ _ rfl _ _ (R2.out _ hxr) Try.underlying25 rfl (by kernel_rfl) ?_) | (go_at_call 63; (with_reducible refine (E9.out _ hxr).mono ?_); rintro e w1 ⟨rfl, hy⟩))
          refine stepQ_mk rfl (by simp only [List.getElem?_toArray, List.getElem?_cons_succ, List.getElem?_cons_zero]; exact rfl) ?_
          first | exact ⟨hy, rfl⟩ | exact ⟨Ext.refl _, rfl⟩ | exact ⟨Ext.refl _, by assumption⟩ | exact ⟨(Ext.refl _).alloc _, rfl, by simp, Blk.new _ _ _⟩
      case hB => kernel_rfl
      case fin =>
        intro V lo up w' hr hf ha
        simp only [factsOk, isv, List.map_nil, and_true, Nat.zero_add, Nat.reduceAdd] at hf
        simp only [List.length_cons, List.length_nil, Nat.zero_add, Nat.reduceAdd, List.drop_succ_cons, List.drop_zero]
        obtain ⟨⟨-, -, -, e0⟩, ⟨-, -, -, e1⟩, ⟨-, -, -, e2⟩, ⟨-, -, -, e3⟩, ⟨-, -, -, e4⟩, ⟨-, -, -, e5⟩, ⟨-, -, -, e6⟩, ⟨-, -, -, e7⟩, ⟨-, -, -, e8⟩, ⟨-, -, -, e9⟩⟩ := hf
        rw [e0, e1, e2, e3, e4, e5, e6, e7, e8, e9]
        clear e0 e1 e2 e3 e4 e5 e6 e7 e8 e9
        clear ha V lo up
        have hs0 := hx.size
        replace hx := hx.trans hr
        clear hr
        try clear hc hz
        obtain ⟨hc, hz⟩ := hx.cells
        have X := Kept.mk hx
        clear hx
        go_wp2
        go_roundw
        case rel => exact ⟨k + 1, by omega, by go_num, X.out⟩
        case measure => simp [intOf]; omega
    · go_wp2
      go_ret
      exact ⟨rfl, X.out⟩
end Go.Proofs.Ytpbnbhiffnnliaa
