import Derived.Test.YtkkdikoknegpjaaGreatKL
import Derived.Test.YtkkdikoknegpjaaGreatKS
import Derived.Test.YtkkdikoknegpjaaGreatShA
import Derived.Test.YtkkdikoknegpjaaGreatKG
namespace Go.Proofs.YtkkdikoknegpjaaGreat
set_option linter.unusedSimpArgs false
set_option linter.unusedVariables false
open Go.RowKit
section
variable {ops : Array Oper} {rest : List Oper} {o : Oper} {a : Act} {Q : Exit → Act → World → Prop} {g : Option (Nat × Nat)} {w0 w : World} {L : List Box} {vs : List Value} {xs : List (List Int)}
theorem ldiQ (S : St g w0 w L vs xs) {x : Operand} {b off : Nat} {part : List Value} (h : wpList Tryz.prog ops Q rest (a.put o.dst (.agg part.toArray)) w) (hgd : o.guard = none := by rfl) (ho : o.op = .load 57 x := by rfl) (hx : a.eval x = .pointer (some ⟨b, off, none⟩) := by rfl) (hp : Lod L b off 2 part := by repeat constructor) : wpList Tryz.prog ops Q (o :: rest) a w := by
 obtain ⟨T, cs, h1, h2, h3⟩ := hp.mem
 exact St.wpLoad 57 2 _ Tryz.underlying57 rfl (by kernel_rfl) S hgd x ho b off hx T cs part h1 h2 h3 h
theorem stiQ (S : St g w0 w L vs xs) {x y : Operand} {b off : Nat} {part : List Value} {L' : List Box} (h : ∀ w', St g w0 w' L' vs xs → wpList Tryz.prog ops Q rest a w') (hgd : o.guard = none := by rfl) (hno : o.dst = none := by rfl) (ho : o.op = .store 57 x y := by rfl) (hx : a.eval x = .pointer (some ⟨b, off, none⟩) := by rfl) (hy : a.eval y = .agg part.toArray := by rfl) (hl : part.length = 2 := by rfl) (h1 : part.all (·.oneCell') = true := by rfl) (hp : Sto L b off part L' := by repeat constructor) : wpList Tryz.prog ops Q (o :: rest) a w := by
 obtain ⟨T, cs, cs', p1, p2, p3⟩ := hp.put
 exact St.wpStore 57 2 (by kernel_rfl) S hgd hno x y ho b off hx part hy hl h1 T cs cs' L' p1 p2 (by omega) h
theorem aliQ (S : St g w0 w L vs xs) (h : ∀ b w', St g w0 w' (⟨b, 57, [.int .i64 0, .slice none 0 0]⟩ :: L) vs xs → wpList Tryz.prog ops Q rest (a.put o.dst (.pointer (some ⟨b, 0, none⟩))) w') (hgd : o.guard = none := by rfl) (ho : o.op = .alloc 57 := by rfl) : wpList Tryz.prog ops Q (o :: rest) a w :=
 St.wpAlloc 57 (.agg #[.int .i64 0, .slice none 0 0]) [.int .i64 0, .slice none 0 0] (by kernel_rfl) rfl S hgd ho h
end
section
variable {ops : Array Oper} {rest : List Oper} {o : Oper} {a : Act} {Q : Exit → Act → World → Prop} {g : Option (Nat × Nat)} {w0 w : World} {L : List Box} {vs : List Value} {xs : List (List Int)}
theorem Put.lod {L L' : List Box} {b : Nat} {T : TypeId} {cs cs' : List Value} (h : Put L b T cs cs' L') {off n : Nat} {part : List Value} (c : Cut cs off n part) : Lod L b off n part := by
 induction h with
 | head => exact Lod.head c
 | tail _ ih => exact Lod.tail (ih c)
theorem Put.sto {L L' : List Box} {b : Nat} {T : TypeId} {cs cs' : List Value} (h : Put L b T cs cs' L') {off : Nat} {part : List Value} (c : Spl cs off part cs') : Sto L b off part L' := by
 induction h with
 | head => exact Sto.head c
 | tail _ ih => exact Sto.tail (ih c)
theorem apIs (S : St g w0 w L vs xs) (i : Nat) {v : Value} {x : List Int} (h1 : vs[i]? = some v) (h2 : xs[i]? = some x) {n : Nat} (hn : x.length = n) {u : Value} {ys : List Int} (hu : Ints w u ys) (hnil : NilOk u) (hl : n + ys.length ≤ 1099511627776) (s q : Operand)
 (hgd : o.guard = none) (ho : o.op = .call { callee := .builtin .append, args := #[s, q], argTypes := #[22, 22] }) (hs : a.eval s = v) (hx : a.eval q = u)
 (h : ∀ p m w', St g w0 w' L (vs.set i (.slice p (n + ys.length) m)) (xs.set i (x ++ ys)) → Turned v w w' → wpList Tryz.prog ops Q rest (a.put o.dst (.slice p (n + ys.length) m)) w') : wpList Tryz.prog ops Q (o :: rest) a w := by
 subst hn
 obtain ⟨i0, hi, hz0, hz1, hz2⟩ := info_parts info_int
 have hown := S.grp.get i h1 h2
 obtain ⟨ad, cap, rfl, hm, hc⟩ := id hu
 have fin : ∀ v' w', Own w0.heap.size w' v' (x ++ ys) → Turned v w w' → (v'.ownBlock = v.ownBlock ∨ v'.ownBlock = some w.heap.size) → wpList Tryz.prog ops Q rest (a.put o.dst v') w' := fun v' w' o1 t hat => by
  obtain ⟨p, m, e, -, -⟩ := id o1.ints
  rw [List.length_append] at e
  subst e
  exact h p m w' (S.putL i h1 o1 t hat) t
 cases ad with
 | none =>
  have e : ys.length = 0 := by
   rcases Nat.eq_zero_or_pos ys.length with h0 | h0
   ·exact h0
   obtain ⟨b, off, h1, _⟩ := hc 0 h0; cases h1
  obtain rfl : ys = [] := List.eq_nil_of_length_eq_zero e
  obtain rfl := hnil _ _ rfl
  refine wpList_append_own_none hgd s q 22 ho w0.heap.size 3 i0 1 Tryz.underlying22 hi v x.length (rowI x) hs hown hx ?_
  exact fin v w (by rw [List.append_nil]; exact hown) ⟨rfl, rfl, rfl, Nat.le_refl _, fun _ _ _ => rfl⟩ (.inl rfl)
 | some ad =>
  have hcells : ∀ j u, (rowI ys)[j]? = some u → w.cell? (ad.add j) = some u := by
   intro j u hj
   have hlt : j < ys.length := by
    have := List.getElem?_eq_some_iff.1 hj
    obtain ⟨h1, _⟩ := this
    simpa [rowI] using h1
   obtain ⟨b, off, h1, h2, h3⟩ := hc j hlt
   cases h1
   rw [add_pl, h3, ← hj]
   simp [rowI, hlt]
  refine wpList_append_own_at w hgd s q 22 ho w0.heap.size 3 i0 (.int .i64 0) 1 8 Tryz.underlying22 hi hz0 hz1 hz2 rfl (by decide) v x.length (rowI x) hs hown ad ys.length cap (rowI ys) hx (by simp [rowI]) hcells (fun u hu => ?_) (by unfold maxLen; omega) (by omega) S.size fun v' w' ho' hgr _ hat => ?_
  ·simp only [rowI, List.mem_map] at hu
   obtain ⟨z, _, rfl⟩ := hu; rfl
  refine fin v' w' ?_ (Turned.of_grown hgr) hat
  unfold Own
  rw [List.length_append, rowI, List.map_append]
  exact ho'
theorem ldX (S : St none w0 w L vs xs) {b : Nat} {cs : List Value} {T : TypeId} (k : Blk w0 b cs.toArray T) {x : Operand} {off : Nat} {v : Value} (h : wpList Tryz.prog ops Q rest (a.put o.dst v) w) (hgd : o.guard = none) (ho : o.op = .load 3 x) (hx : a.eval x = .pointer (some ⟨b, off, none⟩)) (hv : cs[off]? = some v) : wpList Tryz.prog ops Q (o :: rest) a w := by
 refine wpList_plain hgd fun K hK => ?_
 have k := k.keep S.ext
 have hc : w.cell? ⟨b, off, none⟩ = some v := by rw [k.cell, List.getElem?_toArray]; exact hv
 have hagg : (isAgg 3).run Tryz.prog w = .ok false w := by
  unfold isAgg
  rw [Sem.run_bind, run_underlying Tryz.underlying3 w]
  rfl
 have hrun : (loadVar 3 ⟨b, off, none⟩).run Tryz.prog w = .ok v w := by
  simp [loadVar, Sem.run_bind, hagg, hc]
 unfold Oper.wp execOp
 simp only [ho, hx, Instr.loadAt, Instr.sureAddr, Sem.run_bind, Sem.run_pure, Result.andThen_ok, hrun]
 exact hK _ _ h
end
theorem SzR : WRel (fun w w' : World => w.heap.size ≤ w'.heap.size) where
 refl := fun _ => Nat.le_refl _
 trans := Nat.le_trans
 size := fun h => h
 draw := fun _ => Nat.le_refl _
section
variable {ops : Array Oper} {rest : List Oper} {o : Oper} {a : Act} {Q : Exit → Act → World → Prop} {g : Option (Nat × Nat)} {w0 w w1 : World} {L : List Box} {vs : List Value} {xs : List (List Int)}
theorem bxE (S : St g w0 w L vs xs) (x : Ext w1 w) {y : Operand} {cs : List Value} (h : ∀ b w', Kept (St g w0 w' (⟨b, 30, cs⟩ :: L) vs xs) → Kept (Ext w1 w') → wpList Tryz.prog ops Q rest (a.put o.dst (.pointer (some ⟨b, 0, none⟩))) w') (hgd : o.guard = none := by rfl) (ho : o.op = .box 30 y := by rfl) (hx : a.eval y = .agg cs.toArray := by rfl) : wpList Tryz.prog ops Q (o :: rest) a w := by
 have hc : (a.eval y).cells = cs.toArray := by rw [hx]; rfl
 refine wpList_plain hgd fun K hK => ?_
 unfold Oper.wp execOp
 simp only [ho, Sem.run_bind, Instr.box, newVar, newRow, run_newObj_alloc, Sem.run_pure, Result.andThen_ok, hc]
 exact hK _ _ (h w.heap.size (w.alloc (.cells cs.toArray 30)) ⟨S.alloc 30 cs⟩ ⟨x.alloc _⟩)
theorem alE (S : St g w0 w L vs xs) (x : Ext w1 w) (h : ∀ b w', Kept (St g w0 w' (⟨b, 30, [.int .i64 0, .int .i64 0, .slice none 0 0, .int .i64 0, .int .i64 0, .slice none 0 0]⟩ :: L) vs xs) → Kept (Ext w1 w') → wpList Tryz.prog ops Q rest (a.put o.dst (.pointer (some ⟨b, 0, none⟩))) w') (hgd : o.guard = none := by rfl) (ho : o.op = .alloc 30 := by rfl) : wpList Tryz.prog ops Q (o :: rest) a w := by
 refine wpList_plain hgd fun K hK => ?_
 unfold Oper.wp execOp
 have hz : (Tryz.prog.info? 30).bind (·.zero) = some (.agg #[.int .i64 0, .int .i64 0, .slice none 0 0, .int .i64 0, .int .i64 0, .slice none 0 0]) := by kernel_rfl
 cases hq : Tryz.prog.info? 30 with
 | none => rw [hq] at hz; cases hz
 | some i =>
  have hz' : i.zero = some (.agg #[.int .i64 0, .int .i64 0, .slice none 0 0, .int .i64 0, .int .i64 0, .slice none 0 0]) := by rw [hq] at hz; exact hz
  have hrun : (Instr.alloc 30 true (.tuple #[])).run Tryz.prog w = .ok (.pointer (some ⟨w.heap.size, 0, none⟩)) (w.alloc (.cells #[.int .i64 0, .int .i64 0, .slice none 0 0, .int .i64 0, .int .i64 0, .slice none 0 0] 30)) := by
   simp [Instr.alloc, zeroValue, typeInfo, hq, hz', Sem.run_bind, newVar, newRow, Value.cells]
  simp only [ho, Sem.run_bind, hrun, Result.andThen_ok, Sem.run_pure]
  exact hK _ _ (h w.heap.size _ ⟨S.alloc 30 _⟩ ⟨x.alloc _⟩)
theorem stE1 (S : St g w0 w L vs xs) {k : Nat} (x : k ≤ w.heap.size) (ty : TypeId) {y z : Operand} {b off : Nat} {v : Value} {L' : List Box} (hp : Sto L b off [v] L') (h : ∀ w', Kept (St g w0 w' L' vs xs) → Kept (k ≤ w'.heap.size) → wpList Tryz.prog ops Q rest a w') (hi : (Tryz.prog.info? ty).map (·.size) = some 1) (hgd : o.guard = none := by rfl) (hno : o.dst = none := by rfl) (ho : o.op = .store ty y z := by rfl) (hx : a.eval y = .pointer (some ⟨b, off, none⟩) := by rfl) (hy : a.eval z = v := by rfl) (h1 : v.oneCell' = true := by rfl) : wpList Tryz.prog ops Q (o :: rest) a w := by
 obtain ⟨T, cs, cs', hput, hs, hfit⟩ := hp.put
 have k := (S.box _ hput.mem).1
 obtain ⟨a1, a2, a3, a4, a5, a6⟩ := setCells_row b T [v] off cs.toArray w k (by simp at hfit ⊢; omega)
 have hvc : v.cells = #[v] := by
  cases v <;> first | rfl | (simp [Value.oneCell'] at h1)
 have hst := run_storeCells_cells (P := Tryz.prog) b off [v] 0 w (fun j hj => by
  have : j = 0 := by simp at hj; omega
  subst this
  rw [k.cell]
  have : off < cs.length := by simp at hfit; omega
  simp [this]) (fun j hj => k.free _) (fun u hu => by rw [List.mem_singleton] at hu; subst hu; exact h1)
 have hrun : (storeVar ty ⟨b, off, none⟩ v).run Tryz.prog w = .ok () (w.setCells b off [v]) := by
  cases hq : Tryz.prog.info? ty with
  | none => simp [hq] at hi
  | some i =>
   have hs : i.size = 1 := by simpa [hq] using hi
   simp only [Nat.add_zero] at hst
   simp [storeVar, sizeOf, typeInfo, hq, hvc, hs, hst]
 refine wpList_plain hgd fun K hK => ?_
 unfold Oper.wp execOp
 simp only [ho, hx, hy, Instr.storeAt, Instr.sureAddr, Sem.run_bind, Sem.run_pure, Result.andThen_ok, hrun]
 refine hK _ _ ?_
 rw [hno]
 refine h _ ⟨S.stored hput ?_ a2 a3 a4 a5 a6⟩ ⟨by rw [a3]; exact x⟩
 rw [← hs]
 exact a1
theorem stE6 (S : St g w0 w L vs xs) {k : Nat} (x : k ≤ w.heap.size) {y z : Operand} {b off : Nat} {part : List Value} {L' : List Box} (hp : Sto L b off part L') (h : ∀ w', Kept (St g w0 w' L' vs xs) → Kept (k ≤ w'.heap.size) → wpList Tryz.prog ops Q rest a w') (hgd : o.guard = none := by rfl) (hno : o.dst = none := by rfl) (ho : o.op = .store 30 y z := by rfl) (hx : a.eval y = .pointer (some ⟨b, off, none⟩) := by rfl) (hy : a.eval z = .agg part.toArray := by rfl) (hl : part.length = 6 := by rfl) (h1 : part.all (·.oneCell') = true := by rfl) : wpList Tryz.prog ops Q (o :: rest) a w := by
 obtain ⟨T, cs, cs', hput, hs, hfit⟩ := hp.put
 have k := (S.box _ hput.mem).1
 obtain ⟨a1, a2, a3, a4, a5, a6⟩ := setCells_row b T part off cs.toArray w k (by simp; omega)
 refine wpList_store_mid hgd 30 y z ho b off part.toArray hx hy (fun j hj => ⟨?_, k.free _⟩) (by rw [List.size_toArray, hl]; kernel_rfl) ?_ ?_
 ·rw [k.cell]
  have : off + j < cs.length := by simp at hj; omega
  simp [this]
 ·simpa using h1
 rw [hno]
 refine h _ ⟨S.stored hput ?_ a2 a3 a4 a5 a6⟩ ⟨by rw [a3]; exact x⟩
 rw [← hs]
 exact a1
end
set_option maxHeartbeats 2000000 in
set_option maxRecDepth 4000 in
theorem impl_take {g : Option (Nat × Nat)} {w0 w : World} (b : Nat) (F : List Value → List Box) (hF : ∀ cs cs', Put (F cs) b 57 cs cs' (F cs')) (q : Int) {p : Option Addr} {n m : Nat} {vs : List Value} {xs : List (List Int)} (S0 : St g w0 w (F [.int .i64 q, .slice p n m]) vs xs) (i : Nat) {x : List Int} (h1 : vs[i]? = some (.slice p n m)) (h2 : xs[i]? = some x) (hn : x.length = n)
 (r0 c0 r1 c1 : Int) (p0 p1 : Option Addr) (n0 m0 n1 m1 : Nat) (u : Value) (ys : List Int) (hu : Ints w u ys) (hnil : NilOk u) (hl : n + ys.length ≤ 1099511627776) (s : Int) :
 Calls Tryz.prog 63 #[.pointer (some ⟨b, 0, none⟩), .agg #[.int .i64 r0, .int .i64 c0, .slice p0 n0 m0, .int .i64 r1, .int .i64 c1, .slice p1 n1 m1], u, .int .i64 s] w fun e w' => ∃ p' m', e = .returned (.agg #[.int .i64 r0, .int .i64 c0, .slice p0 n0 m0, .int .i64 r1, .int .i64 c1, .slice p1 n1 m1]) ∧ w.heap.size ≤ w'.heap.size ∧ St g w0 w' (F [.int .i64 s, .slice p' (n + ys.length) m']) (vs.set i (.slice p' (n + ys.length) m')) (xs.set i (x ++ ys)) := by
 have HX := kp (Ext.refl w)
 have S := kp S0
 clear S0
 go_enter Tryz.func63, Tryz.ntmps63
 go_wp2_with (first | (refine bxE S.o HX.out (L := F [.int .i64 q, .slice p n m]) ?_; clear S HX; intro b5 w9 S HX) | (refine alE S.o HX.out (L := ⟨b5, 30, [.int .i64 r0, .int .i64 c0, .slice p0 n0 m0, .int .i64 r1, .int .i64 c1, .slice p1 n1 m1]⟩ :: F [.int .i64 q, .slice p n m]) ?_; clear S HX; intro b8 w9 S HX) | (refine ldIs S.o (v := .slice p n m) ?_ (hp := Lod.tail (Lod.tail ((hF _ [.int .i64 q, .slice p n m]).lod (.skip (.take .done)))))) | (at_builtin; refine apIs S.o i h1 h2 hn (hu.keep HX.out) hnil hl _ _ rfl rfl rfl rfl ?_; clear S; intro p9 m9 w9 S TT; have HZ := kp (Nat.le_trans HX.out.size TT.size); clear HX TT; have S := kp S) | (refine stE1 S.o HZ.out 22 (L' := ⟨b8, 30, [.int .i64 0, .int .i64 0, .slice none 0 0, .int .i64 0, .int .i64 0, .slice none 0 0]⟩ :: ⟨b5, 30, [.int .i64 r0, .int .i64 c0, .slice p0 n0 m0, .int .i64 r1, .int .i64 c1, .slice p1 n1 m1]⟩ :: F [.int .i64 q, .slice p9 (n + ys.length) m9]) (Sto.tail (Sto.tail ((hF _ _).sto (.skip (.put .done))))) ?_ (by kernel_rfl); clear S HZ; intro w9 S HZ) | (refine stE1 S.o HZ.out 3 (L' := ⟨b8, 30, [.int .i64 0, .int .i64 0, .slice none 0 0, .int .i64 0, .int .i64 0, .slice none 0 0]⟩ :: ⟨b5, 30, [.int .i64 r0, .int .i64 c0, .slice p0 n0 m0, .int .i64 r1, .int .i64 c1, .slice p1 n1 m1]⟩ :: F [.int .i64 s, .slice p9 (n + ys.length) m9]) (Sto.tail (Sto.tail ((hF _ _).sto (.put .done)))) ?_ (by kernel_rfl); clear S HZ; intro w9 S HZ) | (refine ldiS S.o ?_ (hp := Lod.tail (Lod.head (by repeat constructor)))) | (refine stE6 (b := b8) (off := 0) (part := [.int .i64 r0, .int .i64 c0, .slice p0 n0 m0, .int .i64 r1, .int .i64 c1, .slice p1 n1 m1]) S.o HZ.out (Sto.head (by repeat constructor)) ?_; clear S HZ; intro w9 S HZ) | fail)
 exact bodyPost_ret (v := .agg #[.int .i64 r0, .int .i64 c0, .slice p0 n0 m0, .int .i64 r1, .int .i64 c1, .slice p1 n1 m1]) (by exact res1 rfl (by exact rsiS S.o (hm := List.Mem.head _))) rfl ⟨_, _, rfl, HZ.out, S.o.boxes ((List.sublist_cons_self _ _).trans (List.sublist_cons_self _ _))⟩
set_option maxHeartbeats 2000000 in
set_option maxRecDepth 4000 in
theorem impl_SharedDense_1 (R C : Nat) (hR : Side R) (hC : Side C) (k : Int) (v : Value) (xs : List Int) (hl : xs.length = R) (bx : Nat) (d0 d1 d2 : Int) (s0 s1 : Value) (w : World) (hb : Blk w bx [.int .i64 d0, .int .i64 C, s0, .int .i64 d1, .int .i64 d2, s1].toArray 30) (h1 : Ints w v xs) :
 Calls Tryz.prog 35 #[.agg #[.int .i64 R, .int .i64 k, v], .pointer (some ⟨bx, 0, none⟩)] w (MatPost (wideM R C xs) w) := by
 obtain ⟨p, n, rfl, hm9, hc9⟩ := id h1
 clear hm9 hc9
 have H := kp h1
 clear h1
 have HB := kp hb
 clear hb
 have SC := kp (fun (v : Value) (w' : World) (h : Ints w' v xs) => impl_spreadColumn R C k hR hC v xs hl w' h)
 clear hl
 unfold MatPost at SC ⊢
 have LW := kp (show (wideM R C xs).r = (R : Int) ∧ (wideM R C xs).c = (C : Int) from ⟨rfl, rfl⟩)
 generalize wideM R C xs = D at *
 obtain ⟨dr, dc, ds⟩ := D
 simp only at SC LW ⊢
 have S := kp (St.start w)
 go_enter Tryz.func35, Tryz.ntmps35
 go_wp2_with (first | (refine ldX S.o HB.out ?_ rfl rfl rfl rfl) | (refine ldiM S.o ?_) | (refine stiM S.o ?_; clear S; intro w9 S) | (refine aliM S.o ?_; clear S; intro b9 w9 S) | (refine bxiM S.o ?_; clear S; intro b9 w9 S) | fail)
 (with_reducible refine (SC.out _ _ (H.out.keep S.o.ext)).mono ?_)
 rintro e u9 ⟨vD, rfl, oD, x9⟩
 replace S := kp (S.o.made oD x9)
 clear x9
 obtain ⟨pD, mD, hu9, -, -⟩ := id oD.ints
 try simp only at hu9
 subst hu9
 clear oD
 go_wp2_with (first | (refine ldX S.o HB.out ?_ rfl rfl rfl rfl) | (refine ldiM S.o ?_) | (refine stiM S.o ?_; clear S; intro w9 S) | (refine aliM S.o ?_; clear S; intro b9 w9 S) | (refine bxiM S.o ?_; clear S; intro b9 w9 S) | fail)
 exact bodyPost_ret (v := .agg #[.int .i64 dr, .int .i64 dc, .slice pD ds.length mD]) (by exact res1 rfl (by exact (rsiM S.o))) rfl ⟨_, rfl, S.o.own, S.o.ext⟩
def shU {n0 : Nat} (i j : Nat) (R C : Nat) : OpSpec Ext n0 := ⟨[i, j], fun vs u _ _ _ => ∃ va vb, vs.headD undef = .agg #[.int .i64 R, .int .i64 C, va] ∧ vs.getD 1 undef = .agg #[.int .i64 R, .int .i64 C, vb] ∧ u = .agg #[.int .i64 R, .int .i64 C, va, .int .i64 R, .int .i64 C, vb], fun _ _ _ _ _ _ _ _ _ _ h => h⟩
def WidePost (R C : Nat) (xs ys : List Int) (w : World) (e : Ending) (w' : World) : Prop :=
 ∃ va vb, e = .returned (.agg #[.int .i64 R, .int .i64 C, va, .int .i64 R, .int .i64 C, vb]) ∧ Grp w.heap.size w' [va, vb] [(wideM R C xs).xs, (wideM R C ys).xs] ∧ Ext w w'
set_option maxHeartbeats 2000000 in
set_option maxRecDepth 4000 in
theorem impl_each (R C : Nat) (hR : Side R) (hC : Side C) (k : Int) (v u : Value) (xs ys : List Int) (hl : xs.length = R) (hl' : ys.length = R) (bx : Nat) (d0 d1 d2 : Int) (s0 s1 : Value) (w : World) (hb : Blk w bx [.int .i64 d0, .int .i64 C, s0, .int .i64 d1, .int .i64 d2, s1].toArray 30) (h0 : Ints w v xs) (h1 : Ints w u ys) :
 Calls Tryz.prog 34 #[.agg #[.int .i64 R, .int .i64 k, v, .int .i64 R, .int .i64 k, u], .func (.func 35) #[] #[.pointer (some ⟨bx, 0, none⟩)]] w (WidePost R C xs ys w) := by
 unfold WidePost
 obtain ⟨p0, n0, rfl, hm9, hc9⟩ := id h0
 obtain ⟨p1, n1, rfl, hm8, hc8⟩ := id h1
 clear hm9 hc9 hm8 hc8
 have H0 := kp h0
 have H1 := kp h1
 clear h0 h1
 have HB := kp hb
 clear hb
 have CA := kp (fun (v : Value) (w' : World) (hx : Ext w w') (h : Ints w' v xs) => impl_SharedDense_1 R C hR hC k v xs hl bx d0 d1 d2 s0 s1 w' (HB.out.keep hx) h)
 have CB := kp (fun (v : Value) (w' : World) (hx : Ext w w') (h : Ints w' v ys) => impl_SharedDense_1 R C hR hC k v ys hl' bx d0 d1 d2 s0 s1 w' (HB.out.keep hx) h)
 clear hl hl'
 unfold MatPost at CA CB
 rw [show (wideM R C xs).r = (R : Int) from rfl, show (wideM R C xs).c = (C : Int) from rfl] at CA
 rw [show (wideM R C ys).r = (R : Int) from rfl, show (wideM R C ys).c = (C : Int) from rfl] at CB
 generalize (wideM R C xs).xs = as_ at *
 generalize (wideM R C ys).xs = bs at *
 have S := kp (St.start w)
 go_enter Tryz.func34, Tryz.ntmps34
 go_wp2_with (first | (refine ldiM S.o ?_) | (refine stiS S.o ?_; clear S; intro w9 S) | (refine aliS S.o ?_; clear S; intro b9 w9 S) | (refine bxiS S.o ?_; clear S; intro b9 w9 S) | fail)
 apply wp_region_zip [isv _, isv _, isv _, matR R C as_, isv _, isv _, isv _, matR R C bs, shU 3 7 R C] _ (by kernel_rfl)
 case hA => intro V; simp [putAll, dstOf, Act.put]; exact rfl
 case hsl => intro V; exact rfl
 case step =>
  intro V lo up w' hr
  have S := kp (S.o.quiet hr)
  simp only [zipOk, depsImp, isv, matR, shU, modeNg, newb, waits, Region.binds, List.map_nil, List.map_cons, List.headD_cons, List.nil_append, List.cons_append, List.filterMap_cons, List.filterMap_nil, ↓reduceIte, modeNe, Bool.false_eq_true, true_implies, List.getD_cons_zero, List.getD_cons_succ, and_true]
  refine ⟨?_, ?_, ?_, ?_, ?_, ?_, ?_, ?_, ?_⟩
  ·intros
   (try simp only [*])
   go_wp2_with (fail)
   refine sQ ?_
   exact eZ
  ·intros
   (try simp only [*])
   go_wp2_with (fail)
   refine sQ ?_
   exact eZ
  ·intros
   (try simp only [*])
   go_wp2_with (first | (refine ldiM S.o ?_) | fail)
   refine sQ ?_
   exact eZ
  ·intros
   (try simp only [*])
   go_wp2_with (fail)
   (with_reducible refine (CA.out _ _ S.o.ext (H0.out.keep S.o.ext)).mono ?_)
   rintro e w9 ⟨v9, rfl, o9, x9⟩
   go_wp2
   refine sQ ?_
   exact ⟨x9, v9, rfl, o9, fun q hq => (o9.block q hq).2⟩
  ·intros
   (try simp only [*])
   go_wp2_with (fail)
   refine sQ ?_
   exact eZ
  ·intros
   (try simp only [*])
   go_wp2_with (fail)
   refine sQ ?_
   exact eZ
  ·intros
   (try simp only [*])
   go_wp2_with (first | (refine ldiM S.o ?_) | fail)
   refine sQ ?_
   exact eZ
  ·intros
   (try simp only [*])
   go_wp2_with (fail)
   (with_reducible refine (CB.out _ _ S.o.ext (H1.out.keep S.o.ext)).mono ?_)
   rintro e w9 ⟨v9, rfl, o9, x9⟩
   go_wp2
   refine sQ ?_
   exact ⟨x9, v9, rfl, o9, fun q hq => (o9.block q hq).2⟩
  intros
  obtain ⟨va, ea, oa, ba⟩ := ‹∃ v, V 3 = _ ∧ Own _ _ v as_ ∧ _›
  obtain ⟨vb, eb, ob, bb⟩ := ‹∃ v, V 7 = _ ∧ Own _ _ v bs ∧ _›
  (try simp only [*])
  go_wp2_with (fail)
  refine sQ ?_
  exact ⟨Ext.refl _, va, vb, by first | exact ea | rfl, by first | exact eb | rfl, rfl⟩
 case hB => kernel_rfl
 intro V lo up w' hr hf ha
 simp only [factsOk, isv, matR, shU, modeNg, newb, List.map_nil, List.map_cons, List.headD_cons, and_true, Nat.zero_add, Nat.reduceAdd] at hf
 simp only [List.length_cons, List.length_nil, Nat.zero_add, Nat.reduceAdd, List.drop_succ_cons, List.drop_zero]
 obtain ⟨-, -, -, ⟨l3, -, -, v3, e3, o3, b3⟩, -, -, -, ⟨l7, -, -, v7, e7, o7, b7⟩, ⟨-, -, -, e8⟩⟩ := hf
 have AP : Apt v3 v7 := by
  have q := ha 3 7 (by simp) (by simp) (by decide)
  refine ⟨fun k h7 h3 => ?_, fun k h3 h7 => ?_⟩
  ·have a1 := (o3.block k h3).1
   have a2 := b3 k h3
   have a3 := (o7.block k h7).1
   have a4 := b7 k h7
   omega
  have a1 := (o3.block k h3).1
  have a2 := b3 k h3
  have a3 := (o7.block k h7).1
  have a4 := b7 k h7
  omega
 clear ha
 obtain ⟨va, vb, ea, eb, e8⟩ := e8
 rw [e3] at ea
 rw [e7] at eb
 cases ea
 cases eb
 rw [e8]
 clear e8 e3 e7
 have gg := Grp.two (o3.mono l3) (o7.mono l7) AP
 obtain ⟨pa, ma, hu9, -, -⟩ := id gg.o0.ints
 try simp only at hu9
 subst hu9
 obtain ⟨pb, mb, hu9, -, -⟩ := id gg.o1.ints
 try simp only at hu9
 subst hu9
 have S9 := S.o.madeG gg hr
 simp only [List.cons_append, List.nil_append] at S9
 replace S := kp S9
 clear S9 gg hr
 go_wp2_with (first | (refine ldiM S.o ?_) | (refine stiS S.o ?_; clear S; intro w9 S) | (refine aliS S.o ?_; clear S; intro b9 w9 S) | (refine bxiS S.o ?_; clear S; intro b9 w9 S) | fail)
 exact bodyPost_ret (v := .agg #[.int .i64 R, .int .i64 C, .slice pa as_.length ma, .int .i64 R, .int .i64 C, .slice pb bs.length mb]) (by exact res1 rfl (by exact (rsiS S.o))) rfl ⟨_, _, rfl, S.o.grp, S.o.ext⟩
end Go.Proofs.YtkkdikoknegpjaaGreat
