/- Proved: the law FnExactLayerValid answers true for every input and leaves its arguments as they were. No condition. -/
import Derived.Test.YtpbnbhiffnnliaaRows
import Derived.Test.YtpbnbhiffnnliaaLayL
import Derived.ChangeSlices
import Derived.Deep.Slices
import Derived.Test.YtpbnbhiffnnliaaOpen
import Derived.ChangeOld
import Derived.Carry
namespace Go.Proofs.Ytpbnbhiffnnliaa
set_option linter.unusedSimpArgs false
set_option linter.unusedVariables false
open Go.ChangeShapes Go.WideShapes Go.ChangeAt Go.RowKit Go.Joins
set_option linter.unusedVariables false
theorem own : ownKnob Try.prog.godebug = none := by kernel_rfl
theorem laidOut : laidOutB Try.prog = true := by kernel_rfl
theorem iadd_at (b o i : Nat) : (⟨b, o, none⟩ : Addr).add i = ⟨b, o + i, none⟩ := by
  unfold Addr.add; by_cases h : i = 0
  · subst h; rfl
  · rw [if_neg h]
theorem icell_lt {w : World} {b o : Nat} {v : Value} (h : w.cell? ⟨b, o, none⟩ = some v) : b < w.heap.size := by
  apply Classical.byContradiction
  intro hn
  have : w.heap[b]? = none := by simp; omega
  simp [World.cell?, this] at h
theorem ints_of {H : Type} {enc : TypeId × Value → H} {w : World} {base : Nat} {spare : Nat → Bool} {held : Bool} {fuel : Nat} {c : Value} {x : DataW H × List MemPlace}
    (h : DataW.trod enc Try.prog w base spare held fuel 23 [c] = some x) : ∃ xs, Ints w c xs := by
  rcases open_ints Try.underlying23 Try.underlying3 (by kernel_rfl) h with ⟨hcs, _⟩ | ⟨y, l, cp, zs, hcs, _, hl, hm, hz, _, hcell, hwz⟩
  · simp at hcs
    subst hcs
    exact ⟨[], none, 0, rfl, Nat.zero_le _, fun i hi => absurd hi (Nat.not_lt_zero _)⟩
  · simp at hcs
    subst hcs
    have hz' : l ≤ zs.length := by rw [hz]; split <;> omega
    have hlen : (zs.take l).length = l := by rw [List.length_take]; omega
    refine ⟨zs.take l, some y, cp, by rw [hlen], by rw [hlen]; omega, fun i hi => ?_⟩
    rw [hlen] at hi
    have hci := hcell i (by omega)
    obtain ⟨b, off, spot⟩ := y
    have hspot : spot = none := by
      have h0 := hcell 0 (by omega)
      simpa [Addr.add] using World.cell?_spot h0
    subst hspot
    rw [iadd_at] at hci
    refine ⟨b, off, rfl, icell_lt hci, ?_⟩
    rw [hci]
    have h1 : i < zs.length := by omega
    simp [hi, h1]
theorem cells_mi : Try.prog.cellsOf 3 = 1 := by kernel_rfl
theorem cells_ml : Try.prog.cellsOf 23 = 1 := by kernel_rfl
theorem cells_mat : Try.prog.cellsOf 75 = 3 := by kernel_rfl
theorem trod_mat {H : Type} {enc : TypeId × Value → H} {w : World} {base : Nat} {spare : Nat → Bool} {held : Bool} {n : Nat} {c0 c1 c2 : Value} {x : DataW H × List MemPlace} (h : DataW.trod enc Try.prog w base spare held n 75 [c0, c1, c2] = some x) :
    ∃ (a b : Int) (xs : List Int), c0 = .int .i64 a ∧ c1 = .int .i64 b ∧ Ints w c2 xs := by
  obtain ⟨_, hf⟩ := struct_field Try.underlying75 h
  obtain ⟨_, _, t0⟩ := hf 0 _ rfl
  obtain ⟨_, _, t1⟩ := hf 1 _ rfl
  obtain ⟨_, _, t2⟩ := hf 2 _ rfl
  simp [cells_mi, cells_ml] at t0 t1 t2
  obtain ⟨a, e0, b0⟩ := leaf_int Try.underlying3 t0
  obtain ⟨b, e1, b1⟩ := leaf_int Try.underlying3 t1
  simp at e0 e1
  obtain ⟨xs, hx⟩ := ints_of t2
  exact ⟨a, b, xs, e0, e1, hx⟩
instance : Inhabited Mat := ⟨matZ⟩
theorem mats_of {H : Type} {enc : TypeId × Value → H} {w : World} {base : Nat} {spare : Nat → Bool} {held : Bool} {fuel : Nat} {c : Value} {x : DataW H × List MemPlace}
    (h : DataW.trod enc Try.prog w base spare held fuel 35 [c] = some x) : ∃ ms off, Mats 0 off w c ms := by
  rcases Go.Deep.open_slice Try.underlying35 h with ⟨hcs, _⟩ | ⟨a, len, cap, m, n, D, Pl, hcs, _, hl, hm, hmm, _, hi⟩
  · simp at hcs
    subst hcs
    exact ⟨[], 0, Mats.nil 0 0 w⟩
  · simp at hcs
    subst hcs
    have hlm : len ≤ m := by rw [hmm]; split <;> omega
    obtain ⟨b, off, spot⟩ := a
    have hspot : 0 < len → spot = none := by
      intro h0
      obtain ⟨cs', h1, h2⟩ := hi 0 (by omega)
      rw [cells_mat] at h1
      obtain ⟨_, hcl, hat⟩ := World.cells?_some h1
      match cs', hcl with
      | [c0, c1, c2], _ =>
        have h0 := hat 0 (by omega)
        simpa [Addr.add] using World.cell?_spot h0
    have key : ∀ i, i < len → ∃ M : Mat, spot = none ∧ b < w.heap.size ∧ ∃ u, w.rangeAt b (off + i * 3) [.int .i64 M.r, .int .i64 M.c, u] ∧ Ints w u M.xs := by
      intro i hil
      obtain ⟨cs', h1, h2⟩ := hi i (by omega)
      rw [cells_mat] at h1
      obtain ⟨_, hcl, hat⟩ := World.cells?_some h1
      match cs', hcl with
      | [c0, c1, c2], _ =>
        obtain ⟨p, q, xs, rfl, rfl, hx⟩ := trod_mat h2
        have h0 := hat 0 (by omega)
        have h1 := hat 1 (by omega)
        have h2 := hat 2 (by omega)
        rw [Go.Deep.add_add] at h0 h1 h2
        have hs : spot = none := hspot (by omega)
        subst hs
        rw [iadd_at] at h0 h1 h2
        refine ⟨⟨p, q, xs⟩, rfl, icell_lt h0, c2, fun j v hj => ?_, hx⟩
        match j, hj with
        | 0, hj => simp only [List.getElem?_cons_zero, Option.some.injEq] at hj h0; subst hj; rw [← h0]; rfl
        | 1, hj => simp only [List.getElem?_cons_succ, List.getElem?_cons_zero, Option.some.injEq] at hj h1; subst hj; rw [← h1]; rfl
        | 2, hj => simp only [List.getElem?_cons_succ, List.getElem?_cons_zero, Option.some.injEq] at hj h2; subst hj; rw [← h2]; rfl
        | j + 3, hj => simp at hj
    obtain ⟨f, hf⟩ := Go.Deep.choose_lt key
    refine ⟨(List.range len).map f, off, some ⟨b, off, spot⟩, cap, by simp, by simp; omega, fun i hi => ?_⟩
    have hi' : i < len := by simpa using hi
    obtain ⟨hs, hb, u, hr, hu⟩ := hf i hi'
    subst hs
    have e : ((List.range len).map f).getD i matZ = f i := by simp [hi']
    rw [e]
    exact ⟨b, u, rfl, Nat.zero_le _, hb, hr, hu, fun _ _ => Nat.zero_le _⟩
theorem cells_lay : Try.prog.cellsOf 37 = 2 := by kernel_rfl
theorem cells_mats : Try.prog.cellsOf 35 = 1 := by kernel_rfl
theorem trod_lay {H : Type} {enc : TypeId × Value → H} {w : World} {base : Nat} {spare : Nat → Bool} {held : Bool} {n : Nat} {c0 c1 : Value} {x : DataW H × List MemPlace} (h : DataW.trod enc Try.prog w base spare held n 37 [c0, c1] = some x) :
    ∃ (k : Int) (ms : List Mat) (off : Nat), c0 = .int .i64 k ∧ Mats 0 off w c1 ms := by
  obtain ⟨_, hf⟩ := struct_field Try.underlying37 h
  obtain ⟨_, _, t0⟩ := hf 0 _ rfl
  obtain ⟨_, _, t1⟩ := hf 1 _ rfl
  simp [cells_mi, cells_mats] at t0 t1
  obtain ⟨a, e0, b0⟩ := leaf_int Try.underlying3 t0
  simp at e0
  obtain ⟨ms, off, hm⟩ := mats_of t1
  exact ⟨a, ms, off, e0, hm⟩
set_option maxRecDepth 100000 in
theorem lifted_FnExactLayerValid (os : Os) (started : os.Started) (H : Type) (enc : TypeId × Value → H) :
    ReturnsInHanded {} Try.checked os 4 .any (Rows.fnExactLayerValidSpec.pre6 enc Try.prog Try.f4 Rows.fnExactLayerValidRow.domain false) (Rows.fnExactLayerValidSpec.post enc Try.prog Try.f4 false true false false) := by
  refine returnsInHanded_of_change (C := Try.checked) own started (by kernel_rfl) Try.func4
    (ChangeSpec.witness6 (enc := enc) (C := Try.checked) false ⟨#[], #[.agg #[.int .i64 0, .slice none 0 0]], []⟩ 8 (by kernel_rfl) (by kernel_rfl) (by kernel_rfl) (by kernel_rfl)) ?_
  intro W base args ds gs before hval0 hW hcnd _
  have hval : ∀ (j : Nat) t v, Try.f4.params[j]? = some t → args[j]? = some v → Value.okWide Try.prog W .any base t v := hval0
  have hW' := hW
  obtain ⟨p, q, hA0, hV, rfl, hfz, hnd⟩ := hW
  have hA : DataW.TrodAll enc Try.prog W 0 (fun _ => true) true Try.f4.params.toList args.toList ds p := hA0
  rw [Try.params4] at hA hval
  obtain ⟨v0, vs0, d0, ds0, p0, q0, hargs, rfl, rfl, h0, r0⟩ := trodAll_cons hA
  obtain ⟨rfl, rfl, rfl⟩ := trodAll_nil r0
  obtain rfl : args = #[v0] := by cases args; simp_all
  obtain ⟨rfl, rfl⟩ := trodVars_none hV
  have k0 := h0
  have lt0 : ∀ x ∈ p0, x.block < W.heap.size := by obtain ⟨m, hm⟩ := k0; exact DataW.trod_lt m _ _ _ hm
  obtain ⟨cs0, rfl, hs0⟩ := okWide_struct Try.underlying37 (hval 0 37 v0 rfl rfl)
  rw [cells_lay] at hs0
  obtain ⟨c00, c01, rfl⟩ := array2 hs0
  obtain ⟨fu0, hf0⟩ := h0
  obtain ⟨a00, ms0, off0, rfl, ix0⟩ := trod_lay (by simpa [Value.cells] using hf0)
  clear hA0 hval0
  refine (walk_FnExactLayerValid 0 off0 a00 c01 ms0 W ix0).mono fun e W' ⟨he, bel⟩ => ?_
  subst he
  exact ⟨_, rfl, _, _, _, [], _, [], hW', trodAll_mk1 (shut_bool Try.underlying4 _), (trodAll_cons_mk (Below.trod laidOut (by kernel_rfl) (of_decide_eq_true (by kernel_rfl)) k0 bel lt0) trodAll_mk0), rfl, Below.frame bel _, fun h => by cases h⟩
theorem proved_FnExactLayerValid : Rows.FnExactLayerValidSaid :=
  OpenClaim.holds_of_wide 4 Try.f4 rfl rfl rfl rfl rfl rfl rfl ⟨rfl, rfl, rfl, rfl, rfl⟩ rfl rfl rfl rfl rfl (by kernel_rfl) Try.func4 (by kernel_rfl)
    (of_decide_eq_true (by kernel_rfl)) (by unfold Func.isWrapper; rw [if_neg (of_decide_eq_false (by kernel_rfl))]; exact ⟨rfl, rfl⟩)
    (fun os started H enc _ => lifted_FnExactLayerValid os started H enc)
#print axioms proved_FnExactLayerValid
end Go.Proofs.Ytpbnbhiffnnliaa
