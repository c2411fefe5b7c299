/- What DrawFunctionAt returns. -/
import Derived.Test.YtnblocljjljebaaRgnM
namespace Go.Proofs.Ytnblocljjljebaa
open Go.RowKit

set_option maxHeartbeats 4000000 in
theorem spec_DrawFunctionAt (v : Value) (w : World) (hb : Bytes w v) : Calls Try.prog 17 #[v] w fun e w' => ∃ k x : Int, e = .returned (.tuple #[.int .i64 k, .int .i64 x]) ∧ Ext w w' := by
  go_enter Try.func17, Try.ntmps17
  go_wp2_with (fail)
  (with_reducible refine (open' _ _ hb).mono ?_)
  rintro e w1 ⟨g, rfl, hg, hr1, hx1⟩
  have hlt := hr1.lt
  have HP : Room 200 := ⟨by omega⟩
  go_wp2_with (fail)
  apply wp_region_zipJ (Mod.rel g) (fun m w' => Rdr g (10 * (9 - m)) w') [newS hlt 7 #[.int .i64 1, .int .i64 2, .int .i64 3, .int .i64 4, .int .i64 5, .int .i64 0, .int .i64 6] 3, isv _, isP (Lt 7), ixS hlt 7 #[.int .i64 1, .int .i64 2, .int .i64 3, .int .i64 4, .int .i64 5, .int .i64 0, .int .i64 6] 3, isP AnInt, isv _, isP IsNum, isP AnInt, isP IsNum] _ ?hJ (by kernel_rfl)
  case hJ => exact (hr1.keep ⟨rfl, rfl, rfl, Nat.le_refl _, fun _ _ => rfl⟩).mono (by omega) (HP.le (by simp))
  case hA => intro V; simp [putAll, dstOf, Act.put]; exact rfl
  case hsl => intro V; exact rfl
  case step =>
    intro V lo up w' hr m hm hj
    simp only [List.length_cons, List.length_nil, Nat.zero_add, Nat.reduceAdd] at hm
    have RJ : Rdr g (10 * (9 - m)) w' := hj.mono (by omega) (HP.le (by omega))
    have hlt' := hr.size
    simp only [zipOkJ, depsImp, isv, isP, newS, ixS, waits, Region.binds, List.map_nil, List.nil_append, List.filterMap_cons, List.filterMap_nil, ↓reduceIte, modeNe, Bool.false_eq_true, true_implies, List.getD_cons_zero, List.getD_cons_succ, and_true]
    refine ⟨?_, ?_, ?_, ?_, ?_, ?_, ?_, ?_, ?_⟩
    · go_wp2
      refine stepQ_mk rfl (by simp only [List.getElem?_toArray, List.getElem?_cons_succ, List.getElem?_cons_zero]; exact rfl) ?_
      exact ⟨Mod.of_ext ((Ext.refl _).alloc _), ⟨rfl, by simp, Blk.new _ _ _⟩, RJ.keep ((Ext.refl _).alloc _)⟩
    · go_wp2
      refine stepQ_mk rfl (by simp only [List.getElem?_toArray, List.getElem?_cons_succ, List.getElem?_cons_zero]; exact rfl) ?_
      exact ⟨Mod.refl _ _, rfl, RJ⟩
    · intro _ _ _ e1
      go_wp2_with (fail)
      (with_reducible refine (pick g _ _ (HP.le (by omega)) _ hj).mono ?_)
      rintro e w2 ⟨v, rfl, ⟨x, rfl, h2, z2⟩, hr2, hm2⟩
      go_wp2
      refine stepQ_mk rfl (by simp only [List.getElem?_toArray, List.getElem?_cons_succ, List.getElem?_cons_zero]; exact rfl) ?_
      exact ⟨hm2, ⟨x, rfl, h2 (by omega)⟩, hr2.mono (by omega) (HP.le (by omega))⟩
    · intro s1 s2 s3 ⟨e0, u0, k0⟩ _ _ _ ⟨x, e2, l2⟩
      go_wp2
      refine stepQ_mk rfl (by simp only [List.getElem?_toArray, List.getElem?_cons_succ, List.getElem?_cons_zero]; exact rfl) ?_
      exact ⟨Mod.refl _ _, ⟨_, x, rfl, by omega, s1, k0⟩, RJ⟩
    · intro _ _ _ ⟨b, x, e3, lx, lb, kb⟩
      obtain ⟨y, hy⟩ := kb.at lx (by
        intro i hi
        have hi' : i = 0 ∨ i = 1 ∨ i = 2 ∨ i = 3 ∨ i = 4 ∨ i = 5 ∨ i = 6 := by omega
        rcases hi' with rfl | rfl | rfl | rfl | rfl | rfl | rfl <;> exact ⟨_, rfl⟩)
      go_wp2
      refine stepQ_mk rfl (by simp only [List.getElem?_toArray, List.getElem?_cons_succ, List.getElem?_cons_zero]; exact rfl) ?_
      exact ⟨Mod.refl _ _, ⟨y, rfl⟩, RJ⟩
    · intros
      go_wp2
      refine stepQ_mk rfl (by simp only [List.getElem?_toArray, List.getElem?_cons_succ, List.getElem?_cons_zero]; exact rfl) ?_
      exact ⟨Mod.refl _ _, rfl, RJ⟩
    · intro _ _ _ e5 _ _ _ _
      go_wp2_with (fail)
      (with_reducible refine (ring20 g _ 12 ⟨by omega, by omega⟩ (HP.le (by omega)) _ hj).mono ?_)
      rintro e w2 ⟨v, rfl, ⟨x, rfl, A⟩, hr2, hm2⟩
      go_wp2
      refine stepQ_mk rfl (by simp only [List.getElem?_toArray, List.getElem?_cons_succ, List.getElem?_cons_zero]; exact rfl) ?_
      exact ⟨hm2, ⟨x, rfl, A⟩, hr2.mono (by omega) (HP.le (by omega))⟩
    · intro _ _ _ ⟨y, e4⟩
      intros
      go_wp2
      refine stepQ_mk rfl (by simp only [List.getElem?_toArray, List.getElem?_cons_succ, List.getElem?_cons_zero]; exact rfl) ?_
      exact ⟨Mod.refl _ _, ⟨y, e4⟩, RJ⟩
    · intro _ _ _ ⟨y, e4, A⟩
      intros
      go_wp2
      refine stepQ_mk rfl (by simp only [List.getElem?_toArray, List.getElem?_cons_succ, List.getElem?_cons_zero]; exact rfl) ?_
      exact ⟨Mod.refl _ _, ⟨y, e4, A⟩, RJ⟩
  case hB => kernel_rfl
  case fin =>
    intro V lo up w' hr hj hf ha
    simp only [factsOk, isv, isP, newS, ixS, List.map_nil, and_true, Nat.zero_add, Nat.reduceAdd] at hf
    simp only [List.length_cons, List.length_nil, Nat.zero_add, Nat.reduceAdd, List.drop_succ_cons, List.drop_zero]
    obtain ⟨-, -, -, -, -, -, -, ⟨-, -, -, k, e7⟩, ⟨-, -, -, x, e8, -⟩⟩ := hf
    rw [e7, e8]
    go_wp2
    exact bodyPost_ret (v := .tuple #[.int .i64 k, .int .i64 x]) (by simp [results, Try.results17, go_sem]) rfl ⟨k, x, rfl, Mod.ext hx1 hr hg⟩

end Go.Proofs.Ytnblocljjljebaa
