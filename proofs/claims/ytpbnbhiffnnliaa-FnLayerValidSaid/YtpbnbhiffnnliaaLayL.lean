/- The laws' own functions on layers; the walk through the law FnExactLayerValid. -/
import Derived.Test.YtpbnbhiffnnliaaLayI
namespace Go.Proofs.Ytpbnbhiffnnliaa
set_option linter.unusedSimpArgs false
set_option linter.unusedVariables false
open Go.RowKit
section
variable {P : Program} {ops : Array Oper} {rest : List Oper} {o : Oper} {a : Act} {Q : Exit → Act → World → Prop} {g : Option (Nat × Nat)} {w0 w : World} {L : List Box} {vs : List Value} {xs : List (List Int)}
/-- A store into a box, with what is said of all other blocks. -/
theorem St.wpStoreK (ty : TypeId) (n : Nat) (hi : (P.info? ty).map (·.size) = some n) (S : St g w0 w L vs xs) (hgd : o.guard = none) (hno : o.dst = none) (x y : Operand) (ho : o.op = .store ty x y)
    (b off : Nat) (hx : a.eval x = .pointer (some ⟨b, off, none⟩)) (part : List Value) (hy : a.eval y = .agg part.toArray) (hl : part.length = n) (h1 : part.all (·.oneCell') = true)
    (T : TypeId) (cs cs' : List Value) (L' : List Box) (hput : Put L b T cs cs' L') (hs : splice cs off part = cs') (hfit : off + n ≤ cs.length)
    (h : ∀ w', St g w0 w' L' vs xs → (∀ q, q ≠ b → w'.heap[q]? = w.heap[q]?) → w'.heap.size = w.heap.size → wpList P ops Q rest a w') : wpList P ops Q (o :: rest) a w := by
  have k := (S.box _ hput.mem).1
  obtain ⟨a1, a2, a3, a4, a5, a6⟩ := setCells_row b T part off cs.toArray w k (by simp; omega)
  refine wpList_store_mid hgd ty x y ho b off part.toArray hx hy (fun j hj => ⟨?_, k.free _⟩) (by simp [hl, hi]) ?_ ?_
  · rw [k.cell]
    have : off + j < cs.length := by simp at hj; omega
    simp [this]
  · simpa using h1
  · rw [hno]
    refine h _ (S.stored hput ?_ a2 a3 a4 a5 a6) a2 a3
    rw [← hs]
    exact a1
theorem St.wpStore1K (ty : TypeId) (hi : (P.info? ty).map (·.size) = some 1) (S : St g w0 w L vs xs) (hgd : o.guard = none) (hno : o.dst = none) (x y : Operand) (ho : o.op = .store ty x y)
    (b off : Nat) (hx : a.eval x = .pointer (some ⟨b, off, none⟩)) (v : Value) (hy : a.eval y = v) (h1 : v.oneCell' = true)
    (T : TypeId) (cs cs' : List Value) (L' : List Box) (hput : Put L b T cs cs' L') (hs : splice cs off [v] = cs') (hfit : off + 1 ≤ cs.length)
    (h : ∀ w', St g w0 w' L' vs xs → (∀ q, q ≠ b → w'.heap[q]? = w.heap[q]?) → w'.heap.size = w.heap.size → wpList P ops Q rest a w') : wpList P ops Q (o :: rest) a w := by
  have k := (S.box _ hput.mem).1
  obtain ⟨a1, a2, a3, a4, a5, a6⟩ := setCells_row b T [v] off cs.toArray w k (by simp; omega)
  have hvc : v.cells = #[v] := by
    cases v <;> first | rfl | (simp [Value.oneCell'] at h1)
  have hst := run_storeCells_cells (P := P) b off [v] 0 w (fun j hj => by
      have : j = 0 := by simp at hj; omega
      subst this
      rw [k.cell]
      have : off < cs.length := by omega
      simp [this]) (fun j hj => k.free _) (fun u hu => by rw [List.mem_singleton] at hu; subst hu; exact h1)
  have hrun : (storeVar ty ⟨b, off, none⟩ v).run P w = .ok () (w.setCells b off [v]) := by
    cases hq : P.info? ty with
    | none => simp [hq] at hi
    | some i =>
      have hs : i.size = 1 := by simpa [hq] using hi
      simp only [Nat.add_zero] at hst
      simp [storeVar, sizeOf, typeInfo, hq, hvc, hs, hst]
  refine wpList_plain hgd fun K hK => ?_
  unfold Oper.wp execOp
  simp only [ho, hx, hy, Instr.storeAt, Instr.sureAddr, Sem.run_bind, Sem.run_pure, Result.andThen_ok, hrun]
  have hK' := hK (a.put o.dst undef) (w.setCells b off [v])
  rw [hno] at hK'
  refine hK _ _ ?_
  rw [hno]
  refine h _ (S.stored hput ?_ a2 a3 a4 a5 a6) a2 a3
  rw [← hs]
  exact a1
theorem stMsK (S : St g w0 w L vs xs) {x y : Operand} {b off : Nat} {v : Value} {L' : List Box} (h : ∀ w', St g w0 w' L' vs xs → (∀ q, q ≠ b → w'.heap[q]? = w.heap[q]?) → w'.heap.size = w.heap.size → wpList Try.prog ops Q rest a w') (hgd : o.guard = none := by rfl) (hno : o.dst = none := by rfl) (ho : o.op = .store 40 x y := by rfl) (hx : a.eval x = .pointer (some ⟨b, off, none⟩) := by rfl) (hy : a.eval y = v := by (conv => lhs; whnf)) (h1 : v.oneCell' = true := by rfl) (hp : Sto L b off [v] L' := by repeat constructor) : wpList Try.prog ops Q (o :: rest) a w := by
  obtain ⟨T, cs, cs', p1, p2, p3⟩ := hp.put
  exact St.wpStore1K 40 (by kernel_rfl) S hgd hno x y ho b off hx v hy h1 T cs cs' L' p1 p2 p3 h
theorem stiYK (S : St g w0 w L vs xs) {x y : Operand} {b off : Nat} {part : List Value} {L' : List Box} (h : ∀ w', St g w0 w' L' vs xs → (∀ q, q ≠ b → w'.heap[q]? = w.heap[q]?) → w'.heap.size = w.heap.size → wpList Try.prog ops Q rest a w') (hgd : o.guard = none := by rfl) (hno : o.dst = none := by rfl) (ho : o.op = .store 42 x y := by rfl) (hx : a.eval x = .pointer (some ⟨b, off, none⟩) := by rfl) (hy : a.eval y = .agg part.toArray := by rfl) (hl : part.length = 2 := by rfl) (h1 : part.all (·.oneCell') = true := by rfl) (hp : Sto L b off part L' := by repeat constructor) : wpList Try.prog ops Q (o :: rest) a w := by
  obtain ⟨T, cs, cs', p1, p2, p3⟩ := hp.put
  exact St.wpStoreK 42 2 (by kernel_rfl) S hgd hno x y ho b off hx part hy hl h1 T cs cs' L' p1 p2 (by omega) h
end
theorem Mats.other {B off : Nat} {w w' : World} {v : Value} {ms : List Mat} (h : Mats B off w v ms) {b : Nat} (hb : b < B) (hf : ∀ q, q ≠ b → w'.heap[q]? = w.heap[q]?) (hs : w'.heap.size = w.heap.size) : Mats B off w' v ms := h.frame (by omega) fun q hq _ => hf q (by omega)
theorem szM_case (left : Int) (ms : List Mat) : szM left ms = -1 ∨ (0 ≤ szM left ms ∧ szM left ms = left - ms.length - valsN ms ms.length) := by
  unfold szM; split <;> omega
theorem valsN_one (ms : List Mat) {i n : Nat} (hi : i < n) : (ms.getD i matZ).xs.length ≤ valsN ms n := by
  have := valsN_le ms (k := i + 1) (n := n) (by omega)
  simp only [valsN] at this
  omega

set_option maxHeartbeats 1000000 in
theorem laws_szLayer (B off : Nat) (k : Int) (v : Value) (ms : List Mat) (left : Int) (w : World) (h : Mats B off w v ms) (l0 : 0 ≤ left) (l1 : left ≤ 1048576) : Calls Try.prog 14 #[.agg #[.int .i64 k, v], .int .i64 left] w fun e w' => e = .returned (.int .i64 (szM left ms)) ∧ Ext w w' := by
  obtain ⟨a, n, cap, rfl, hn, h⟩ := h.lit
  have SZ := Kept.mk (fun w' (hx : Ext w w') => laws_szMatrixS B off _ ms left w' (h.keep hx) l0 l1)
  have hcs := szM_case left ms
  clear h hn
  generalize szM left ms = z at *
  have S := Kept.mk (St.start w)
  rcases hcs with hz | hz
  · subst hz
    clear l0 l1
    go_enter Try.func14, Try.ntmps14
    go_wp2_with (first | (refine ldlMs S.out ?_) | (refine bxlY S.out ?_; clear S; intro b9 w9 S) | (refine wpList_want rfl rfl ?_; dsimp only) | fail)
    (with_reducible refine (SZ.out _ S.out.ext).mono ?_)
    rintro e u9 ⟨rfl, x9⟩
    replace S := Kept.mk (S.out.quiet x9)
    clear x9
    go_wp2
    go_ret
    exact ⟨rfl, S.out.ext⟩
  · obtain ⟨hz, -⟩ := hz
    have e1 : decide (z < 0) = false := by simp; omega
    clear l0 l1
    go_enter Try.func14, Try.ntmps14
    go_wp2_with (first | (refine ldlMs S.out ?_) | (refine bxlY S.out ?_; clear S; intro b9 w9 S) | (refine wpList_want rfl rfl ?_; dsimp only) | fail)
    (with_reducible refine (SZ.out _ S.out.ext).mono ?_)
    rintro e u9 ⟨rfl, x9⟩
    replace S := Kept.mk (S.out.quiet x9)
    clear x9
    go_wp2
    go_ret
    exact ⟨rfl, S.out.ext⟩
set_option maxHeartbeats 1000000 in
theorem laws_toLayer (B off : Nat) (k : Int) (v : Value) (ms : List Mat) (w : World) (h : Mats B off w v ms) (l0 : ms.length ≤ 1048576) (l1 : ∀ i, i < ms.length → (ms.getD i matZ).xs.length ≤ 1048576) : Calls Try.prog 16 #[.agg #[.int .i64 k, v]] w fun e w' => ∃ u, e = .returned (.agg #[.int .i64 k, u]) ∧ Mats w.heap.size 0 w' u ms ∧ Ext w w' := by
  obtain ⟨a, n, cap, rfl, hn, h⟩ := h.lit
  have TM := Kept.mk (fun w' (hx : Ext w w') => laws_toMatrixS B off _ ms w' (h.keep hx) l0 l1)
  clear h hn l0 l1
  have S := Kept.mk (St.start w)
  go_enter Try.func16, Try.ntmps16
  go_wp2_with (first | (refine aliY (L := [_]) S.out ?_; clear S; intro b2 w9 S) | (refine aliY (L := [_, _]) S.out ?_; clear S; intro b3 w9 S) | (refine ldI S.out ?_) | (refine ldlMs S.out ?_) | (refine stI S.out ?_; clear S; intro w9 S) | (refine bxlY S.out ?_; clear S; intro b9 w9 S) | (refine wpList_want rfl rfl ?_; dsimp only) | fail)
  have l3 := (S.out.box _ (List.Mem.head _)).1.lt
  have l2 := (S.out.box _ (List.Mem.tail _ (List.Mem.head _))).1.lt
  simp only at l2 l3
  have lw := S.out.size
  (with_reducible refine (TM.out _ S.out.ext).mono ?_)
  rintro e u9 ⟨v9, rfl, hm, x9⟩
  obtain ⟨a9, n9, cap9, rfl, -, hm⟩ := hm.lit
  replace S := Kept.mk (S.out.quiet x9)
  clear x9
  go_wp2_with (first | (refine stMsK S.out ?_; clear S; intro w9 S hf hs; replace hm := Mats.other hm l3 hf hs; clear hf hs) | (refine stiYK S.out ?_; clear S; intro w9 S hf hs; replace hm := Mats.other hm l2 hf hs; clear hf hs) | (refine ldiY S.out ?_) | fail)
  exact bodyPost_ret (v := _) (res1 rfl (rsiY S.out)) rfl ⟨_, rfl, hm.mono lw, S.out.ext⟩
set_option maxHeartbeats 1000000 in
theorem laws_eqLayer (B B' off off' : Nat) (k : Int) (v v' : Value) (ms : List Mat) (w : World) (h : Mats B off w v ms) (h' : Mats B' off' w v' ms) : Calls Try.prog 18 #[.agg #[.int .i64 k, v], .agg #[.int .i64 k, v']] w fun e w' => e = .returned (.bool true) ∧ Ext w w' := by
  obtain ⟨a, n, cap, rfl, hn, h⟩ := h.lit
  obtain ⟨a', n', cap', rfl, hn', h'⟩ := h'.lit
  have EQ := Kept.mk (fun w' (hx : Ext w w') => laws_eqMatrixS B B' off off' _ _ ms w' (h.keep hx) (h'.keep hx))
  clear h h' hn hn'
  have S := Kept.mk (St.start w)
  go_enter Try.func18, Try.ntmps18
  go_wp2_with (first | (refine bxiY (L := []) S.out ?_; clear S; intro b2 w9 S) | (refine bxiY (L := [_]) S.out ?_; clear S; intro b3 w9 S) | (refine ldI S.out ?_) | (refine ldMs S.out ?_) | (refine wpList_want rfl rfl ?_; dsimp only) | fail)
  (with_reducible refine (EQ.out _ S.out.ext).mono ?_)
  rintro e u9 ⟨rfl, x9⟩
  replace S := Kept.mk (S.out.quiet x9)
  clear x9
  go_wp2
  go_ret
  exact ⟨rfl, S.out.ext⟩
/-- A layer that reads as these matrices. -/
def layR {n0 : Nat} (k : Int) (ms : List Mat) : OpSpec Ext n0 := ⟨[], fun _ u _ _ w => ∃ v, u = .agg #[.int .i64 k, v] ∧ Mats 0 0 w v ms, fun _ _ _ _ _ _ _ _ _ hx ⟨v, h1, h2⟩ => ⟨v, h1, h2.keep hx⟩⟩

set_option maxHeartbeats 4000000 in
set_option maxRecDepth 4000 in
theorem walk_FnExactLayerValid (B off : Nat) (k : Int) (v : Value) (ms : List Mat) (w : World) (h : Mats B off w v ms) : Calls Try.prog 4 #[.agg #[.int .i64 k, v]] w fun e w' => e = .returned (.bool true) ∧ Ext w w' := by
  obtain ⟨a, n, cap, rfl, hn, h⟩ := h.lit
  have SZ := Kept.mk (fun w' (hx : Ext w w') => laws_szLayer B off k _ ms 1048576 w' (h.keep hx) (by decide) (by decide))
  have hcs := szM_case 1048576 ms
  have S := Kept.mk (St.start w)
  rcases hcs with hz | hz
  · rw [hz] at SZ
    clear hz h hn
    go_enter Try.func4, Try.ntmps4
    go_wp2_with (first | (refine ldlY S.out ?_) | (refine ldiY S.out ?_) | (refine ldI S.out ?_) | (refine ldMs S.out ?_) | (refine ldlMs S.out ?_) | (refine bxlY S.out ?_; clear S; intro b9 w9 S) | (refine wpList_want rfl rfl ?_; dsimp only) | fail)
    (with_reducible refine (SZ.out _ S.out.ext).mono ?_)
    rintro e u9 ⟨rfl, x9⟩
    replace S := Kept.mk (S.out.quiet x9)
    clear x9
    go_wp2
    go_ret
    exact ⟨rfl, S.out.ext⟩
  · obtain ⟨hz, he⟩ := hz
    have TL := Kept.mk (fun w' (hx : Ext w w') => laws_toLayer B off k _ ms w' (h.keep hx) (by omega) (fun i hi => by have := valsN_one ms hi; omega))
    clear h hn he
    generalize szM 1048576 ms = z at *
    have e1 : decide (z < 0) = false := by simp; omega
    obtain ⟨b, hb⟩ : ∃ b, layOk k ms = b := ⟨_, rfl⟩
    have SV := Kept.mk (fun u w' (hm : Mats 0 0 w' u ms) => spec_LayerValid 0 k u ms b hb w' hm)
    have IV := Kept.mk (fun u w' (hm : Mats 0 0 w' u ms) => impl_LayerValid 0 k u ms b hb w' hm)
    have EL := Kept.mk (fun v v' w' (hm : Mats 0 0 w' v ms) (hm' : Mats 0 0 w' v' ms) => laws_eqLayer 0 0 0 0 k v v' ms w' hm hm')
    clear hb hz
    go_enter Try.func4, Try.ntmps4
    go_wp2_with (first | (refine ldlY S.out ?_) | (refine ldiY S.out ?_) | (refine ldI S.out ?_) | (refine ldMs S.out ?_) | (refine ldlMs S.out ?_) | (refine bxlY S.out ?_; clear S; intro b9 w9 S) | (refine wpList_want rfl rfl ?_; dsimp only) | fail)
    (with_reducible refine (SZ.out _ S.out.ext).mono ?_)
    rintro e u9 ⟨rfl, x9⟩
    replace S := Kept.mk (S.out.quiet x9)
    clear x9
    go_wp2_with (first | (refine ldlY S.out ?_) | (refine ldiY S.out ?_) | (refine ldI S.out ?_) | (refine ldMs S.out ?_) | (refine ldlMs S.out ?_) | (refine bxlY S.out ?_; clear S; intro b9 w9 S) | (refine wpList_want rfl rfl ?_; dsimp only) | fail)
    (with_reducible refine (TL.out _ S.out.ext).mono ?_)
    rintro e u9 ⟨v9, rfl, hm, x9⟩
    obtain ⟨a1, n1, c1, rfl, -, hm⟩ := hm.lit
    replace hm := Kept.mk (hm.mono (Nat.zero_le _))
    replace S := Kept.mk (S.out.quiet x9)
    clear x9
    go_wp2_with (first | (refine ldlY S.out ?_) | (refine ldiY S.out ?_) | (refine ldI S.out ?_) | (refine ldMs S.out ?_) | (refine ldlMs S.out ?_) | (refine bxlY S.out ?_; clear S; intro b9 w9 S) | (refine wpList_want rfl rfl ?_; dsimp only) | fail)
    (with_reducible refine (SV.out _ _ hm.out).mono ?_)
    rintro e u9 ⟨rfl, x9⟩
    replace S := Kept.mk (S.out.quiet x9)
    clear x9
    clear hm
    go_wp2_with (first | (refine ldlY S.out ?_) | (refine ldiY S.out ?_) | (refine ldI S.out ?_) | (refine ldMs S.out ?_) | (refine ldlMs S.out ?_) | (refine bxlY S.out ?_; clear S; intro b9 w9 S) | (refine wpList_want rfl rfl ?_; dsimp only) | fail)
    (with_reducible refine (TL.out _ S.out.ext).mono ?_)
    rintro e u9 ⟨v9, rfl, hm, x9⟩
    obtain ⟨a2, n2, c2, rfl, -, hm⟩ := hm.lit
    replace hm := Kept.mk (hm.mono (Nat.zero_le _))
    replace S := Kept.mk (S.out.quiet x9)
    clear x9
    have T := Kept.mk (St.start u9)
    go_wp2_with (first | (refine aliY T.out ?_; clear T; intro b5 w9 T) | (refine stiY T.out ?_; clear T; intro w9 T) | (refine ldiY T.out ?_) | fail)
    have T9 := T.out.ext
    replace hm := Kept.mk (hm.out.keep T9)
    replace S := Kept.mk (S.out.quiet T9)
    clear T9
    (with_reducible refine (IV.out _ _ hm.out).mono ?_)
    rintro e u9 ⟨rfl, x9⟩
    replace S := Kept.mk (S.out.quiet x9)
    replace T := Kept.mk (T.out.quiet x9)
    replace hm := Kept.mk (hm.out.keep x9)
    clear x9
    go_wp2_with (fail)
    apply wp_region_zip [isv _, isv _, layR k ms, isv _, isv _] _ (by kernel_rfl)
    case hA => intro V; simp [putAll, dstOf, Act.put]; exact rfl
    case hsl => intro V; exact rfl
    case step =>
      intro V lo up w' hr
      have S := Kept.mk (S.out.quiet hr)
      have T9 := Kept.mk (T.out.quiet hr)
      have hm9 := Kept.mk (hm.out.keep hr)
      simp only [zipOk, depsImp, isv, layR, modeNg, newb, waits, Region.binds, List.map_nil, List.map_cons, List.headD_cons, List.nil_append, List.cons_append, List.filterMap_cons, List.filterMap_nil, ↓reduceIte, modeNe, Bool.false_eq_true, true_implies, List.getD_cons_zero, List.getD_cons_succ, and_true]
      refine ⟨?_, ?_, ?_, ?_, ?_⟩
      · intros
        go_wp2_with (first | (refine ldiY T9.out ?_) | (refine ldlY S.out ?_) | fail)
        refine stepQ_mk rfl (by simp only [List.getElem?_toArray, List.getElem?_cons_succ, List.getElem?_cons_zero]; exact rfl) ?_
        exact ⟨Ext.refl _, rfl⟩
      · intros
        go_wp2_with (first | (refine ldiY T9.out ?_) | (refine ldlY S.out ?_) | fail)
        refine stepQ_mk rfl (by simp only [List.getElem?_toArray, List.getElem?_cons_succ, List.getElem?_cons_zero]; exact rfl) ?_
        exact ⟨Ext.refl _, rfl⟩
      · intros
        (try simp only [*])
        go_wp2_with (first | (refine ldiY T9.out ?_) | (refine ldlY S.out ?_) | fail)
        (with_reducible refine (TL.out _ S.out.ext).mono ?_)
        rintro e u9 ⟨v9, rfl, hm9, x9⟩
        go_wp2
        refine stepQ_mk rfl (by simp only [List.getElem?_toArray, List.getElem?_cons_succ, List.getElem?_cons_zero]; exact rfl) ?_
        exact ⟨x9, v9, rfl, hm9.mono (Nat.zero_le _)⟩
      · intros
        obtain ⟨v7, e7, m7⟩ := ‹∃ v, V 2 = _ ∧ Mats _ _ _ v _›
        (try simp only [*])
        go_wp2_with (first | (refine ldiY T9.out ?_) | (refine ldlY S.out ?_) | fail)
        (with_reducible refine (EL.out _ _ _ hm9.out m7).mono ?_)
        rintro e u9 ⟨rfl, x9⟩
        go_wp2
        refine stepQ_mk rfl (by simp only [List.getElem?_toArray, List.getElem?_cons_succ, List.getElem?_cons_zero]; exact rfl) ?_
        exact ⟨x9, rfl⟩
      · intros
        (try simp only [*])
        go_wp2_with (first | (refine ldiY T9.out ?_) | (refine ldlY S.out ?_) | fail)
        refine stepQ_mk rfl (by simp only [List.getElem?_toArray, List.getElem?_cons_succ, List.getElem?_cons_zero]; exact rfl) ?_
        exact ⟨Ext.refl _, rfl⟩
    case hB => kernel_rfl
    case fin =>
      intro V lo up w' hr hf ha
      simp only [factsOk, isv, layR, modeNg, newb, List.map_nil, List.map_cons, List.headD_cons, and_true, Nat.zero_add, Nat.reduceAdd] at hf
      simp only [List.length_cons, List.length_nil, Nat.zero_add, Nat.reduceAdd, List.drop_succ_cons, List.drop_zero]
      obtain ⟨-, -, -, -, ⟨-, -, -, e4⟩⟩ := hf
      clear ha
      rw [e4]
      clear e4
      replace S := Kept.mk (S.out.quiet hr)
      clear hr
      go_wp2
      go_ret
      exact ⟨rfl, S.out.ext⟩
end Go.Proofs.Ytpbnbhiffnnliaa
