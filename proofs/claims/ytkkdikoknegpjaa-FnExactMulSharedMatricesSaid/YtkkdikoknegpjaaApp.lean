/- Appends of a list of integers to a list of the call's own. -/
import Derived.Test.YtkkdikoknegpjaaInts
import Derived.Laws.AppendOwnNone
namespace Go.Proofs.Ytkkdikoknegpjaa
set_option linter.unusedSimpArgs false
set_option linter.unusedVariables false
open Go.RowKit
/-- A nil slice has no room. -/
def NilOk (v : Value) : Prop := ∀ n c, v = .slice none n c → c = 0
theorem Own.nilOk {B : Nat} {w : World} {v : Value} {xs : List Int} (h : Own B w v xs) : NilOk v := by
  obtain ⟨_, ⟨rfl, _⟩ | ⟨g, cap, cur, rfl, _⟩⟩ := h
  · intro n c e; cases e; rfl
  · intro n c e; cases e
theorem add_pl (b o i : Nat) : (⟨b, o, none⟩ : Addr).add i = ⟨b, o + i, none⟩ := by
  unfold Addr.add; by_cases h : i = 0
  · subst h; rfl
  · rw [if_neg h]
theorem wpList_append_ints {w : World} {ops : Array Oper} {rest : List Oper} {o : Oper} {a : Act} {Q : Exit → Act → World → Prop} (hgd : o.guard = none) (s x : Operand)
    (ho : o.op = .call { callee := .builtin .append, args := #[s, x], argTypes := #[22, 22] }) (B : Nat) (v : Value) (xs : List Int) (hs : a.eval s = v) (hown : Own B w v xs)
    (u : Value) (ys : List Int) (hx : a.eval x = u) (hi : Ints w u ys) (hn : NilOk u) (hlen : xs.length + ys.length ≤ 1099511627776) (hB : B ≤ w.heap.size)
    (h : ∀ v' w', Own B w' v' (xs ++ ys) → Turned v w w' → wpList Try.prog ops Q rest (a.put o.dst v') w') : wpList Try.prog ops Q (o :: rest) a w := by
  obtain ⟨i0, hi0, hz0, hz1, hz2⟩ := info_parts info_int
  obtain ⟨ad, cap, rfl, hm, hc⟩ := hi
  cases ad with
  | none =>
    have e : ys.length = 0 := by
      rcases Nat.eq_zero_or_pos ys.length with h0 | h0
      · exact h0
      · obtain ⟨b, off, h1, _⟩ := hc 0 h0; cases h1
    obtain rfl : ys = [] := List.eq_nil_of_length_eq_zero e
    obtain rfl := hn _ _ rfl
    refine wpList_append_own_none hgd s x 22 ho B 3 i0 1 Try.underlying22 hi0 v xs.length (rowI xs) hs hown hx ?_
    exact h v w (by rw [List.append_nil]; exact hown) ⟨rfl, rfl, rfl, Nat.le_refl _, fun _ _ _ => rfl⟩
  | some ad =>
    have hcells : ∀ j u, (rowI ys)[j]? = some u → w.cell? (ad.add j) = some u := by
      intro j u hj
      have hlt : j < ys.length := by
        have := List.getElem?_eq_some_iff.1 hj
        obtain ⟨h1, _⟩ := this
        simpa [rowI] using h1
      obtain ⟨b, off, h1, h2, h3⟩ := hc j hlt
      cases h1
      rw [add_pl, h3, ← hj]
      simp [rowI, hlt]
    refine wpList_append_own w hgd s x 22 ho B 3 i0 (.int .i64 0) 1 8 Try.underlying22 hi0 hz0 hz1 hz2 rfl (by decide) v xs.length (rowI xs) hs hown ad ys.length cap (rowI ys) hx (by simp [rowI]) hcells (fun u hu => ?_) (by unfold maxLen; omega) (by omega) hB fun v' w' ho' hgr _ => ?_
    · simp only [rowI, List.mem_map] at hu
      obtain ⟨z, _, rfl⟩ := hu; rfl
    · refine h v' w' ?_ (Turned.of_grown hgr)
      unfold Own
      rw [List.length_append, rowI, List.map_append]
      exact ho'
end Go.Proofs.Ytkkdikoknegpjaa
