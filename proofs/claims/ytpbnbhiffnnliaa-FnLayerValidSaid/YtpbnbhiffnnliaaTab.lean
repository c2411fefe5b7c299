/- The contracts of tables: whether all are ring numbers, whether a table is valid. -/
import Derived.Test.YtpbnbhiffnnliaaKH
import Derived.Test.YtpbnbhiffnnliaaKI
import Derived.Test.YtpbnbhiffnnliaaDraw
namespace Go.Proofs.Ytpbnbhiffnnliaa
set_option linter.unusedSimpArgs false
set_option linter.unusedVariables false
open Go.RowKit
theorem Blk.four {w : World} {b : Nat} {x y z u : Value} {T : TypeId} (h : Blk w b #[x, y, z, u] T) : w.cell? ⟨b, 0, none⟩ = some x ∧ w.cell? ⟨b, 1, none⟩ = some y ∧ w.cell? ⟨b, 2, none⟩ = some z ∧ w.cell? ⟨b, 3, none⟩ = some u :=
  ⟨by rw [h.cell]; rfl, by rw [h.cell]; rfl, by rw [h.cell]; rfl, by rw [h.cell]; rfl⟩
theorem Blk.setO {w : World} {b g : Nat} {cs : Array Value} {T : TypeId} (h : Blk w b cs T) (hne : b ≠ g) (i : Nat) (u : Value) : Blk (w.setCell ⟨g, i, none⟩ u) b cs T := by
  unfold Blk; rw [Below.heap_setCell _ _ _ _ (by show b ≠ g; exact hne)]; exact h
theorem Blk.set4 {w : World} {b : Nat} {x y z u : Value} {T : TypeId} (h : Blk w b #[x, y, z, u] T) (i : Nat) (v : Value) : Blk (w.setCell ⟨b, i, none⟩ v) b (#[x, y, z, u].setIfInBounds i v) T := heap_setCell_same w b i _ T v h
theorem meas1 (L j : Nat) (h : j < L) : L - (intOf (.int .i64 ((j : Int) + 1))).toNat < L - (intOf (.int .i64 (j : Int))).toNat := by
  have e1 : (intOf (.int .i64 ((j : Int) + 1))).toNat = j + 1 := by show ((j : Int) + 1).toNat = _; omega
  have e2 : (intOf (.int .i64 (j : Int))).toNat = j := by show ((j : Int)).toNat = _; omega
  rw [e1, e2]; omega
theorem beqd (a b : Int) : (a == b) = decide (a = b) := rfl
theorem list_ext' {xs ys : List Int} (hl : xs.length = ys.length) (h : ∀ i, i < xs.length → xs.getD i 0 = ys.getD i 0) : xs = ys := by
  apply List.ext_getElem hl
  intro i h1 h2
  have := h i h1
  simpa [h1, h2] using this
theorem getD_set' (xs : List Int) (j i : Nat) (y : Int) (hj : j < xs.length) : (xs.set j y).getD i 0 = if i = j then y else xs.getD i 0 := by
  by_cases h : i = j
  · subst h; simp [hj]
  · simp [List.getElem?_set, Ne.symm h, h]
theorem all_yes {xs : List Int} (h : ∀ i, i < xs.length → rv (xs.getD i 0) = true) : xs.all rv = true := by
  rw [List.all_eq_true]
  intro x hx
  obtain ⟨i, hi, rfl⟩ := List.getElem_of_mem hx
  have := h i hi
  simpa [hi] using this
theorem all_no {xs : List Int} {k : Nat} (hk : k < xs.length) (h : rv (xs.getD k 0) = false) : xs.all rv = false := by
  rw [List.all_eq_false]
  exact ⟨xs[k], List.getElem_mem hk, by simp [hk] at h; simp [h]⟩

set_option maxHeartbeats 1000000 in
theorem impl_allRing (v : Value) (xs : List Int) (w : World) (hv : Ints w v xs) : Calls Try.prog 52 #[v] w fun e w' => e = .returned (.bool (xs.all rv)) ∧ w = w' := by
  obtain ⟨a, cap, rfl, hm, hca⟩ := hv
  unfold maxLen at hm
  have HC := Kept.mk hca; clear hca
  go_enter Try.func52, Try.ntmps52
  go_wp2
  go_loopw [4, 7] (fun _ i wr => ∃ k : Nat, k ≤ xs.length ∧ i = .int .i64 k ∧ (∀ i, i < k → rv (xs.getD i 0) = true) ∧ wr = w) (fun _ i _ => xs.length - (intOf i).toNat)
  case atStart => exact ⟨0, Nat.zero_le _, rfl, fun i hi => absurd hi (Nat.not_lt_zero _), rfl⟩
  case round =>
    obtain ⟨k, hk, rfl, hall, rfl⟩ := hrel
    have HA := Kept.mk hall; clear hall
    by_cases hlt : k < xs.length
    · obtain ⟨b, off, rfl, _, h1⟩ := HC.out k hlt
      cases hr : rv (xs.getD k 0)
      · have HN := Kept.mk (all_no hlt hr)
        have HR := Kept.mk hr; clear hr
        generalize xs.getD k 0 = y at *
        go_wp2_with (go_at_call 36; (with_reducible refine (impl_RingValid _ false HR.out _).mono ?_); rintro e w1 ⟨rfl, rfl⟩)
        go_ret
        exact ⟨by rw [HN.out]; rfl, rfl⟩
      · have HN : Kept (∀ i, i < k + 1 → rv (xs.getD i 0) = true) := ⟨fun i hi => by
          by_cases e : i = k
          · rw [e]; exact hr
          · exact HA.out i (by omega)⟩
        have HR := Kept.mk hr; clear hr
        generalize xs.getD k 0 = y at *
        go_wp2_with (go_at_call 36; (with_reducible refine (impl_RingValid _ true HR.out _).mono ?_); rintro e w1 ⟨rfl, rfl⟩)
        go_roundw
        case rel => exact ⟨k + 1, by omega, by go_num, HN.out, by trivial⟩
        case measure => simp [intOf]; omega
    · go_wp2
      go_ret
      exact ⟨by rw [all_yes fun i hi => HA.out i (by omega)]; rfl, rfl⟩

/-- A list with a ring number for every ring number. -/
def goodL (xs : List Int) : Bool := xs.all rv && decide ((xs.length : Int) = 4096)
set_option maxHeartbeats 1000000 in
theorem laws_szIntS (v : Value) (xs : List Int) (left : Int) (w : World) (hv : Ints w v xs) (l0 : 0 ≤ left) (l1 : left ≤ 1048576) : Calls Try.prog 68 #[v, .int .i64 left] w fun e w' => e = .returned (.int .i64 (if left - xs.length < 0 then -1 else left - xs.length)) ∧ w = w' := by
  obtain ⟨a, cap, rfl, hm, hca⟩ := hv
  clear hca
  unfold maxLen at hm
  have hw : wrap64 (left - (xs.length : Int)) = left - xs.length := by unfold wrap64; omega
  clear l1 hm
  by_cases h : left - (xs.length : Int) < 0
  · rw [if_pos h]
    have hd : decide (left - (xs.length : Int) < 0) = true := by simpa using h
    go_enter Try.func68, Try.ntmps68
    go_wp2
    go_ret
    exact ⟨rfl, rfl⟩
  · rw [if_neg h]
    have hd : decide (left - (xs.length : Int) < 0) = false := by simpa using h
    go_enter Try.func68, Try.ntmps68
    go_wp2
    go_ret
    exact ⟨rfl, rfl⟩

set_option maxHeartbeats 1000000 in
theorem laws_toIntS (v : Value) (xs : List Int) (w : World) (hv : Ints w v xs) (hl : xs.length ≤ 1048576) : Calls Try.prog 69 #[v] w (OwnPost xs w) := by
  obtain ⟨a, cap, rfl, hm, hca⟩ := hv
  clear hm
  have HC := Kept.mk hca; clear hca
  have HL := Kept.mk hl; clear hl
  go_enter Try.func69, Try.ntmps69
  go_wp2_with (at_make; refine wpList_make_ints _ rfl _ _ rfl w.heap.size xs.length xs.length rfl rfl rfl (by have := HL.out; omega) (Nat.le_refl _) ?_; intro w1 hown hx hlt; have HOWN := Kept.mk hown; clear hown)
  generalize hg : w.heap.size = g at *
  have HG := Kept.mk hg; clear hg
  go_loopw [4] (fun i wr => ∃ (j : Nat) (ys : List Int), j ≤ xs.length ∧ i = .int .i64 j ∧ ys.length = xs.length ∧ Own g wr (.slice (some ⟨g, 0, none⟩) xs.length xs.length) ys ∧ (∀ i, i < j → ys.getD i 0 = xs.getD i 0) ∧ Ext w wr) (fun i _ => xs.length - (intOf i).toNat)
  case atStart => exact ⟨0, List.replicate xs.length 0, Nat.zero_le _, rfl, List.length_replicate, HOWN.out, fun i hi => absurd hi (Nat.not_lt_zero i), hx⟩
  case round =>
    obtain ⟨j, ys, hj, rfl, hlen, ho, hval, hxw⟩ := hrel
    clear HOWN
    by_cases hlt' : j < xs.length
    · obtain ⟨b, off, rfl, hb, h1⟩ := HC.out j hlt'
      obtain ⟨hc1, hc2⟩ := ho.cell hlen j hlt'
      have hst := Kept.mk (ho.store hlen j (xs.getD j 0))
      have hbr : wr.cell? ⟨b, off + j, none⟩ = some (.int .i64 (xs.getD j 0)) := by rw [hxw.cells.1 b _ (by rw [HG.out]; exact hb)]; exact h1
      have HV := Kept.mk hval; have HL2 := Kept.mk hlen; clear hval hlen ho h1
      have HY : Kept (∀ i, i < j + 1 → (ys.set j (xs.getD j 0)).getD i 0 = xs.getD i 0) := ⟨fun i hi => by
        rw [getD_set' _ _ _ _ (by rw [HL2.out]; exact hlt')]
        by_cases e : i = j
        · rw [if_pos e, e]
        · rw [if_neg e]; exact HV.out i (by omega)⟩
      generalize xs.getD j 0 = y at *
      have ew : wrap64 ((j : Int) + 1) = (j : Int) + 1 := by have := HL.out; unfold wrap64; omega
      go_wp2
      go_roundw
      case rel => exact ⟨j + 1, ys.set j y, by omega, by go_num, by rw [List.length_set]; exact HL2.out, hst.out.1, HY.out, hst.out.2.ext hxw (fun q hq => by simp [Value.ownBlock] at hq; rw [HG.out]; omega)⟩
      case measure => first | exact meas1 _ _ hlt' | (rw [ew]; exact meas1 _ _ hlt')
    · have e : ys = xs := list_ext' hlen fun i hi => hval i (by omega)
      subst e
      clear hval hlen
      have HO := Kept.mk ho; clear ho
      go_wp2
      go_ret
      exact ⟨_, rfl, by rw [HG.out]; exact HO.out, hxw⟩

def tabV (a b : Int) (xs ys : List Int) : Bool := rv a && rv b && (goodL xs && goodL ys)
/-- What toTable leaves: a table of new lists. -/
def TabPost (a b : Int) (xs ys : List Int) (w : World) (e : Ending) (w' : World) : Prop :=
  ∃ v1 v2, e = .returned (.agg #[.int .i64 a, .int .i64 b, v1, v2]) ∧ Own w.heap.size w' v1 xs ∧ Own w.heap.size w' v2 ys ∧ Ext w w'
end Go.Proofs.Ytpbnbhiffnnliaa
