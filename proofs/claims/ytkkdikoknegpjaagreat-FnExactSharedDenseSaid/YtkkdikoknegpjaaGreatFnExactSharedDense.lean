/- Proved: the law FnExactSharedDense answers true for every input and leaves its arguments as they were. No condition. -/
import Derived.Test.YtkkdikoknegpjaaGreatRows
import Derived.Test.YtkkdikoknegpjaaGreatWExactSD
import Derived.ChangeSlices
import Derived.Test.YtkkdikoknegpjaaGreatOpen
import Derived.ChangeOld
import Derived.Carry
namespace Go.Proofs.YtkkdikoknegpjaaGreat
set_option linter.unusedSimpArgs false
set_option linter.unusedVariables false
open Go.ChangeShapes Go.WideShapes Go.ChangeAt Go.RowKit Go.Joins
set_option linter.unusedVariables false
theorem own : ownKnob Tryz.prog.godebug = none := by kernel_rfl
theorem laidOut : laidOutB Tryz.prog = true := by kernel_rfl
theorem iadd_at (b o i : Nat) : (⟨b, o, none⟩ : Addr).add i = ⟨b, o + i, none⟩ := by
  unfold Addr.add; by_cases h : i = 0
  · subst h; rfl
  rw [if_neg h]
theorem icell_lt {w : World} {b o : Nat} {v : Value} (h : w.cell? ⟨b, o, none⟩ = some v) : b < w.heap.size := by
  apply Classical.byContradiction
  intro hn
  have : w.heap[b]? = none := by simp; omega
  simp [World.cell?, this] at h
theorem ints_of {H : Type} {enc : TypeId × Value → H} {w : World} {base : Nat} {spare : Nat → Bool} {held : Bool} {fuel : Nat} {c : Value} {x : DataW H × List MemPlace}
    (h : DataW.trod enc Tryz.prog w base spare held fuel 22 [c] = some x) : ∃ xs, Ints w c xs := by
  rcases open_ints Tryz.underlying22 Tryz.underlying3 (by kernel_rfl) h with ⟨hcs, _⟩ | ⟨y, l, cp, zs, hcs, _, hl, hm, hz, _, hcell, hwz⟩
  · simp at hcs
    subst hcs
    exact ⟨[], none, 0, rfl, Nat.zero_le _, fun i hi => absurd hi (Nat.not_lt_zero _)⟩
  simp at hcs
  subst hcs
  have hz' : l ≤ zs.length := by rw [hz]; split <;> omega
  have hlen : (zs.take l).length = l := by rw [List.length_take]; omega
  refine ⟨zs.take l, some y, cp, by rw [hlen], by rw [hlen]; omega, fun i hi => ?_⟩
  rw [hlen] at hi
  have hci := hcell i (by omega)
  obtain ⟨b, off, spot⟩ := y
  have hspot : spot = none := by
    have h0 := hcell 0 (by omega)
    simpa [Addr.add] using World.cell?_spot h0
  subst hspot
  rw [iadd_at] at hci
  refine ⟨b, off, rfl, icell_lt hci, ?_⟩
  rw [hci]
  have h1 : i < zs.length := by omega
  simp [hi, h1]
theorem cells_mi : Tryz.prog.cellsOf 3 = 1 := by kernel_rfl
theorem cells_ml : Tryz.prog.cellsOf 22 = 1 := by kernel_rfl
theorem cells_mat : Tryz.prog.cellsOf 24 = 3 := by kernel_rfl
theorem trod_mat {H : Type} {enc : TypeId × Value → H} {w : World} {base : Nat} {spare : Nat → Bool} {held : Bool} {n : Nat} {c0 c1 c2 : Value} {x : DataW H × List MemPlace} (h : DataW.trod enc Tryz.prog w base spare held n 24 [c0, c1, c2] = some x) :
    ∃ (a b : Int) (xs : List Int), c0 = .int .i64 a ∧ c1 = .int .i64 b ∧ Ints w c2 xs := by
  obtain ⟨_, hf⟩ := struct_field Tryz.underlying24 h
  obtain ⟨_, _, t0⟩ := hf 0 _ rfl
  obtain ⟨_, _, t1⟩ := hf 1 _ rfl
  obtain ⟨_, _, t2⟩ := hf 2 _ rfl
  simp [cells_mi, cells_ml] at t0 t1 t2
  obtain ⟨a, e0, b0⟩ := leaf_int Tryz.underlying3 t0
  obtain ⟨b, e1, b1⟩ := leaf_int Tryz.underlying3 t1
  simp at e0 e1
  obtain ⟨xs, hx⟩ := ints_of t2
  exact ⟨a, b, xs, e0, e1, hx⟩
theorem cells_shm : Tryz.prog.cellsOf 26 = 6 := by kernel_rfl
theorem trod_shm {H : Type} {enc : TypeId × Value → H} {w : World} {base : Nat} {spare : Nat → Bool} {held : Bool} {n : Nat} {c0 c1 c2 c3 c4 c5 : Value} {x : DataW H × List MemPlace} (h : DataW.trod enc Tryz.prog w base spare held n 26 [c0, c1, c2, c3, c4, c5] = some x) :
    ∃ (a0 b0 a1 b1 : Int) (x0 x1 : List Int), c0 = .int .i64 a0 ∧ c1 = .int .i64 b0 ∧ Ints w c2 x0 ∧ c3 = .int .i64 a1 ∧ c4 = .int .i64 b1 ∧ Ints w c5 x1 := by
  obtain ⟨_, hf⟩ := struct_field Tryz.underlying26 h
  obtain ⟨_, _, t0⟩ := hf 0 _ rfl
  obtain ⟨_, _, t1⟩ := hf 1 _ rfl
  simp [cells_mat] at t0 t1
  obtain ⟨a0, b0, x0, ea0, eb0, ix0⟩ := trod_mat t0
  obtain ⟨a1, b1, x1, ea1, eb1, ix1⟩ := trod_mat t1
  exact ⟨a0, b0, a1, b1, x0, x1, ea0, eb0, ix0, ea1, eb1, ix1⟩
set_option maxRecDepth 100000 in
theorem lifted_FnExactSharedDense (os : Os) (started : os.Started) (H : Type) (enc : TypeId × Value → H) :
    ReturnsInHanded {} Tryz.checked os 3 .any (Rows.fnExactSharedDenseSpec.pre6 enc Tryz.prog Tryz.f3 Rows.fnExactSharedDenseRow.domain false) (Rows.fnExactSharedDenseSpec.post enc Tryz.prog Tryz.f3 false true false false) := by
  refine returnsInHanded_of_change (C := Tryz.checked) own started (by kernel_rfl) Tryz.func3
    (ChangeSpec.witness6 (enc := enc) (C := Tryz.checked) false ⟨#[], #[.agg #[.int .i64 0, .int .i64 0, .slice none 0 0, .int .i64 0, .int .i64 0, .slice none 0 0], .agg #[.int .i64 0, .int .i64 0, .slice none 0 0, .int .i64 0, .int .i64 0, .slice none 0 0], .agg #[.int .i64 0, .int .i64 0, .slice none 0 0, .int .i64 0, .int .i64 0, .slice none 0 0], .int .i64 0], []⟩ 8 (by kernel_rfl) (by kernel_rfl) (by kernel_rfl) (by kernel_rfl)) ?_
  intro W base args ds gs before hval0 hW hcnd _
  have hval : ∀ (j : Nat) t v, Tryz.f3.params[j]? = some t → args[j]? = some v → Value.okWide Tryz.prog W .any base t v := hval0
  have hW' := hW
  obtain ⟨p, q, hA0, hV, rfl, hfz, hnd⟩ := hW
  have hA : DataW.TrodAll enc Tryz.prog W 0 (fun _ => true) true Tryz.f3.params.toList args.toList ds p := hA0
  rw [Tryz.params3] at hA hval
  obtain ⟨v0, vs0, d0, ds0, p0, q0, hargs, rfl, rfl, h0, r0⟩ := trodAll_cons hA
  obtain ⟨v1, vs1, d1, ds1, p1, q1, rfl, rfl, rfl, h1, r1⟩ := trodAll_cons r0
  obtain ⟨v2, vs2, d2, ds2, p2, q2, rfl, rfl, rfl, h2, r2⟩ := trodAll_cons r1
  obtain ⟨v3, vs3, d3, ds3, p3, q3, rfl, rfl, rfl, h3, r3⟩ := trodAll_cons r2
  obtain ⟨rfl, rfl, rfl⟩ := trodAll_nil r3
  obtain rfl : args = #[v0, v1, v2, v3] := by cases args; simp_all
  obtain ⟨rfl, rfl⟩ := trodVars_none hV
  have k0 := h0
  have lt0 : ∀ x ∈ p0, x.block < W.heap.size := by obtain ⟨m, hm⟩ := k0; exact DataW.trod_lt m _ _ _ hm
  obtain ⟨cs0, rfl, hs0⟩ := okWide_struct Tryz.underlying26 (hval 0 26 v0 rfl rfl)
  rw [cells_shm] at hs0
  obtain ⟨cs0⟩ := cs0
  obtain ⟨c0_0, c0_1, c0_2, c0_3, c0_4, c0_5, rfl⟩ := list6 (l := cs0) (by simpa using hs0)
  obtain ⟨fu0, hf0⟩ := h0
  obtain ⟨a0_0, b0_0, a0_1, b0_1, xs0_0, xs0_1, rfl, rfl, ix0_0, rfl, rfl, ix0_1⟩ := trod_shm (by simpa [Value.cells] using hf0)
  have k1 := h1
  have lt1 : ∀ x ∈ p1, x.block < W.heap.size := by obtain ⟨m, hm⟩ := k1; exact DataW.trod_lt m _ _ _ hm
  obtain ⟨cs1, rfl, hs1⟩ := okWide_struct Tryz.underlying26 (hval 1 26 v1 rfl rfl)
  rw [cells_shm] at hs1
  obtain ⟨cs1⟩ := cs1
  obtain ⟨c1_0, c1_1, c1_2, c1_3, c1_4, c1_5, rfl⟩ := list6 (l := cs1) (by simpa using hs1)
  obtain ⟨fu1, hf1⟩ := h1
  obtain ⟨a1_0, b1_0, a1_1, b1_1, xs1_0, xs1_1, rfl, rfl, ix1_0, rfl, rfl, ix1_1⟩ := trod_shm (by simpa [Value.cells] using hf1)
  have k2 := h2
  have lt2 : ∀ x ∈ p2, x.block < W.heap.size := by obtain ⟨m, hm⟩ := k2; exact DataW.trod_lt m _ _ _ hm
  obtain ⟨cs2, rfl, hs2⟩ := okWide_struct Tryz.underlying26 (hval 2 26 v2 rfl rfl)
  rw [cells_shm] at hs2
  obtain ⟨cs2⟩ := cs2
  obtain ⟨c2_0, c2_1, c2_2, c2_3, c2_4, c2_5, rfl⟩ := list6 (l := cs2) (by simpa using hs2)
  obtain ⟨fu2, hf2⟩ := h2
  obtain ⟨a2_0, b2_0, a2_1, b2_1, xs2_0, xs2_1, rfl, rfl, ix2_0, rfl, rfl, ix2_1⟩ := trod_shm (by simpa [Value.cells] using hf2)
  have k3 := h3
  have lt3 : ∀ x ∈ p3, x.block < W.heap.size := by obtain ⟨m, hm⟩ := k3; exact DataW.trod_lt m _ _ _ hm
  obtain ⟨a3, rfl, rfl, rfl, w3⟩ := open_int Tryz.underlying3 (hval 3 3 v3 rfl rfl) h3
  clear hA0 hval0
  refine (walk_FnExactSharedDense a0_0 b0_0 c0_2 xs0_0 a0_1 b0_1 c0_5 xs0_1 a1_0 b1_0 c1_2 xs1_0 a1_1 b1_1 c1_5 xs1_1 a2_0 b2_0 c2_2 xs2_0 a2_1 b2_1 c2_5 xs2_1 a3 W ix0_0 ix0_1 ix1_0 ix1_1 ix2_0 ix2_1).mono fun e W' ⟨he, bel⟩ => ?_
  subst he
  exact ⟨_, rfl, _, _, _, [], _, [], hW', trodAll_mk1 (shut_bool Tryz.underlying4 _), (trodAll_cons_mk (Below.trod laidOut (by kernel_rfl) (of_decide_eq_true (by kernel_rfl)) k0 bel lt0) (trodAll_cons_mk (Below.trod laidOut (by kernel_rfl) (of_decide_eq_true (by kernel_rfl)) k1 bel lt1) (trodAll_cons_mk (Below.trod laidOut (by kernel_rfl) (of_decide_eq_true (by kernel_rfl)) k2 bel lt2) (trodAll_cons_mk (shut_int Tryz.underlying3 w3) trodAll_mk0)))), rfl, Below.frame bel _, fun h => by cases h⟩
theorem proved_FnExactSharedDense : Rows.FnExactSharedDenseSaid :=
  OpenClaim.holds_of_wide 3 Tryz.f3 rfl rfl rfl rfl rfl rfl rfl ⟨rfl, rfl, rfl, rfl, rfl⟩ rfl rfl rfl rfl rfl (by kernel_rfl) Tryz.func3 (by kernel_rfl)
    (of_decide_eq_true (by kernel_rfl)) (by unfold Func.isWrapper; rw [if_neg (of_decide_eq_false (by kernel_rfl))]; exact ⟨rfl, rfl⟩)
    (fun os started H enc _ => lifted_FnExactSharedDense os started H enc)
#print axioms proved_FnExactSharedDense
end Go.Proofs.YtkkdikoknegpjaaGreat
