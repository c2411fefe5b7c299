/- The rules of a walk by rows at the program's own types; what a function hands back out of its boxes. -/
import Derived.Test.YtjoomdihjffmlaaSt
namespace Go.Proofs.Ytjoomdihjffmlaa
set_option linter.unusedSimpArgs false
set_option linter.unusedVariables false
open Go.RowKit
/-- One result. -/
def resOne (tmps : Array Value) : ResultVar → Sem Value
  | .tmp t => pure (tmps.getD t undef)
  | .cell a t => do loadVar t (← asAddr (tmps.getD a undef))
theorem results_eq (fn : Func) (tmps : Array Value) : results fn tmps = (do
    let vs ← fn.results.mapM (resOne tmps)
    pure (if h : vs.size = 1 then vs[0] else .tuple vs)) := by
  unfold results
  congr 2
section
variable {P : Program} {fn : Func} {tmps : Array Value} {w : World}
theorem res1 {r : ResultVar} {v : Value} (h : fn.results = #[r]) (h1 : (resOne tmps r).run P w = .ok v w) : (results fn tmps).run P w = .ok v w := by
  rw [results_eq, h]; simp [Sem.run_bind, h1]
theorem res2 {r q : ResultVar} {v u : Value} (h : fn.results = #[r, q]) (h1 : (resOne tmps r).run P w = .ok v w) (h2 : (resOne tmps q).run P w = .ok u w) : (results fn tmps).run P w = .ok (.tuple #[v, u]) w := by
  rw [results_eq, h]; simp [Sem.run_bind, h1, h2]
theorem res3 {r q s : ResultVar} {v u z : Value} (h : fn.results = #[r, q, s]) (h1 : (resOne tmps r).run P w = .ok v w) (h2 : (resOne tmps q).run P w = .ok u w) (h3 : (resOne tmps s).run P w = .ok z w) : (results fn tmps).run P w = .ok (.tuple #[v, u, z]) w := by
  rw [results_eq, h]; simp [Sem.run_bind, h1, h2, h3]
theorem res4 {r q s t : ResultVar} {v u z x : Value} (h : fn.results = #[r, q, s, t]) (h1 : (resOne tmps r).run P w = .ok v w) (h2 : (resOne tmps q).run P w = .ok u w) (h3 : (resOne tmps s).run P w = .ok z w) (h4 : (resOne tmps t).run P w = .ok x w) : (results fn tmps).run P w = .ok (.tuple #[v, u, z, x]) w := by
  rw [results_eq, h]; simp [Sem.run_bind, h1, h2, h3, h4]
theorem resTmp (t : Tmp) : (resOne tmps (.tmp t)).run P w = .ok (tmps.getD t undef) w := rfl
theorem St.resCell {g : Option (Nat × Nat)} {w0 : World} {L : List Box} {vs : List Value} {xs : List (List Int)} (ty : TypeId) (n : Nat) (d : TypeDesc) (hu : P.underlying ty = some d) (hd : d.isRow = true) (hi : (P.info? ty).map (·.size) = some n) (S : St g w0 w L vs xs) (p : Tmp)
    (b : Nat) (hp : tmps.getD p undef = .pointer (some ⟨b, 0, none⟩)) (T : TypeId) (cs : List Value) (hm : (⟨b, T, cs⟩ : Box) ∈ L) (hl : cs.length = n) : (resOne tmps (.cell p ty)).run P w = .ok (.agg cs.toArray) w := by
  have k := (S.box _ hm).1
  have hr := run_loadVar_mid (P := P) w b 0 ty cs d (fun j v hj => by rw [k.cell, List.getElem?_toArray, Nat.zero_add]; exact hj) hu hd (by rw [hl]; exact hi)
  have hp' : tmps[p]?.getD undef = .pointer (some ⟨b, 0, none⟩) := by simpa using hp
  simp [resOne, hp', asAddr, hr]
end
section
variable {ops : Array Oper} {rest : List Oper} {o : Oper} {a : Act} {Q : Exit → Act → World → Prop} {g : Option (Nat × Nat)} {w0 w : World} {L : List Box} {vs : List Value} {xs : List (List Int)}

theorem ldiM (S : St g w0 w L vs xs) (hgd : o.guard = none) (x : Operand) (ho : o.op = .load 25 x) (b off : Nat) (hx : a.eval x = .pointer (some ⟨b, off, none⟩)) (T : TypeId) (cs part : List Value) (hm : (⟨b, T, cs⟩ : Box) ∈ L) (hp : (cs.drop off).take 3 = part) (hl : part.length = 3)
    (h : wpList Try.prog ops Q rest (a.put o.dst (.agg part.toArray)) w) : wpList Try.prog ops Q (o :: rest) a w :=
  St.wpLoad 25 3 _ Try.underlying25 rfl (by kernel_rfl) S hgd x ho b off hx T cs part hm hp hl h
theorem stiM (S : St g w0 w L vs xs) (hgd : o.guard = none) (hno : o.dst = none) (x y : Operand) (ho : o.op = .store 25 x y) (b off : Nat) (hx : a.eval x = .pointer (some ⟨b, off, none⟩)) (part : List Value) (hy : a.eval y = .agg part.toArray) (hl : part.length = 3) (h1 : part.all (·.oneCell') = true)
    (T : TypeId) (cs cs' : List Value) (L' : List Box) (_ : (⟨b, T, cs⟩ : Box) ∈ L) (hs : splice cs off part = cs') (hput : Put L b T cs cs' L') (hfit : off + 3 ≤ cs.length)
    (h : ∀ w', St g w0 w' L' vs xs → wpList Try.prog ops Q rest a w') : wpList Try.prog ops Q (o :: rest) a w :=
  St.wpStore 25 3 (by kernel_rfl) S hgd hno x y ho b off hx part hy hl h1 T cs cs' L' hput hs hfit h
theorem aliM (S : St g w0 w L vs xs) (hgd : o.guard = none) (ho : o.op = .alloc 25)
    (h : ∀ b w', St g w0 w' (⟨b, 25, [.int .i64 0, .int .i64 0, .slice none 0 0]⟩ :: L) vs xs → wpList Try.prog ops Q rest (a.put o.dst (.pointer (some ⟨b, 0, none⟩))) w') : wpList Try.prog ops Q (o :: rest) a w :=
  St.wpAlloc 25 (.agg #[.int .i64 0, .int .i64 0, .slice none 0 0]) [.int .i64 0, .int .i64 0, .slice none 0 0] (by kernel_rfl) rfl S hgd ho h
theorem bxiM (S : St g w0 w L vs xs) (hgd : o.guard = none) (x : Operand) (ho : o.op = .box 25 x) (cs : List Value) (hx : a.eval x = .agg cs.toArray)
    (h : ∀ b w', St g w0 w' (⟨b, 25, cs⟩ :: L) vs xs → wpList Try.prog ops Q rest (a.put o.dst (.pointer (some ⟨b, 0, none⟩))) w') : wpList Try.prog ops Q (o :: rest) a w :=
  St.wpBox 25 S hgd x ho cs (by rw [hx]; rfl) h
theorem rsiM {tmps : Array Value} (S : St g w0 w L vs xs) (p : Tmp) (b : Nat) (hp : tmps.getD p undef = .pointer (some ⟨b, 0, none⟩)) (T : TypeId) (cs : List Value) (hm : (⟨b, T, cs⟩ : Box) ∈ L) (hl : cs.length = 3) : (resOne tmps (.cell p 25)).run Try.prog w = .ok (.agg cs.toArray) w :=
  St.resCell 25 3 _ Try.underlying25 rfl (by kernel_rfl) S p b hp T cs hm hl
theorem ldlM (S : St g w0 w L vs xs) (hgd : o.guard = none) (x : Operand) (ho : o.op = .load 56 x) (b off : Nat) (hx : a.eval x = .pointer (some ⟨b, off, none⟩)) (T : TypeId) (cs part : List Value) (hm : (⟨b, T, cs⟩ : Box) ∈ L) (hp : (cs.drop off).take 3 = part) (hl : part.length = 3)
    (h : wpList Try.prog ops Q rest (a.put o.dst (.agg part.toArray)) w) : wpList Try.prog ops Q (o :: rest) a w :=
  St.wpLoad 56 3 _ Try.underlying56 rfl (by kernel_rfl) S hgd x ho b off hx T cs part hm hp hl h
theorem stlM (S : St g w0 w L vs xs) (hgd : o.guard = none) (hno : o.dst = none) (x y : Operand) (ho : o.op = .store 56 x y) (b off : Nat) (hx : a.eval x = .pointer (some ⟨b, off, none⟩)) (part : List Value) (hy : a.eval y = .agg part.toArray) (hl : part.length = 3) (h1 : part.all (·.oneCell') = true)
    (T : TypeId) (cs cs' : List Value) (L' : List Box) (_ : (⟨b, T, cs⟩ : Box) ∈ L) (hs : splice cs off part = cs') (hput : Put L b T cs cs' L') (hfit : off + 3 ≤ cs.length)
    (h : ∀ w', St g w0 w' L' vs xs → wpList Try.prog ops Q rest a w') : wpList Try.prog ops Q (o :: rest) a w :=
  St.wpStore 56 3 (by kernel_rfl) S hgd hno x y ho b off hx part hy hl h1 T cs cs' L' hput hs hfit h
theorem allM (S : St g w0 w L vs xs) (hgd : o.guard = none) (ho : o.op = .alloc 56)
    (h : ∀ b w', St g w0 w' (⟨b, 56, [.int .i64 0, .int .i64 0, .slice none 0 0]⟩ :: L) vs xs → wpList Try.prog ops Q rest (a.put o.dst (.pointer (some ⟨b, 0, none⟩))) w') : wpList Try.prog ops Q (o :: rest) a w :=
  St.wpAlloc 56 (.agg #[.int .i64 0, .int .i64 0, .slice none 0 0]) [.int .i64 0, .int .i64 0, .slice none 0 0] (by kernel_rfl) rfl S hgd ho h
theorem bxlM (S : St g w0 w L vs xs) (hgd : o.guard = none) (x : Operand) (ho : o.op = .box 56 x) (cs : List Value) (hx : a.eval x = .agg cs.toArray)
    (h : ∀ b w', St g w0 w' (⟨b, 56, cs⟩ :: L) vs xs → wpList Try.prog ops Q rest (a.put o.dst (.pointer (some ⟨b, 0, none⟩))) w') : wpList Try.prog ops Q (o :: rest) a w :=
  St.wpBox 56 S hgd x ho cs (by rw [hx]; rfl) h
theorem rslM {tmps : Array Value} (S : St g w0 w L vs xs) (p : Tmp) (b : Nat) (hp : tmps.getD p undef = .pointer (some ⟨b, 0, none⟩)) (T : TypeId) (cs : List Value) (hm : (⟨b, T, cs⟩ : Box) ∈ L) (hl : cs.length = 3) : (resOne tmps (.cell p 56)).run Try.prog w = .ok (.agg cs.toArray) w :=
  St.resCell 56 3 _ Try.underlying56 rfl (by kernel_rfl) S p b hp T cs hm hl
theorem ldiS (S : St g w0 w L vs xs) (hgd : o.guard = none) (x : Operand) (ho : o.op = .load 50 x) (b off : Nat) (hx : a.eval x = .pointer (some ⟨b, off, none⟩)) (T : TypeId) (cs part : List Value) (hm : (⟨b, T, cs⟩ : Box) ∈ L) (hp : (cs.drop off).take 6 = part) (hl : part.length = 6)
    (h : wpList Try.prog ops Q rest (a.put o.dst (.agg part.toArray)) w) : wpList Try.prog ops Q (o :: rest) a w :=
  St.wpLoad 50 6 _ Try.underlying50 rfl (by kernel_rfl) S hgd x ho b off hx T cs part hm hp hl h
theorem stiS (S : St g w0 w L vs xs) (hgd : o.guard = none) (hno : o.dst = none) (x y : Operand) (ho : o.op = .store 50 x y) (b off : Nat) (hx : a.eval x = .pointer (some ⟨b, off, none⟩)) (part : List Value) (hy : a.eval y = .agg part.toArray) (hl : part.length = 6) (h1 : part.all (·.oneCell') = true)
    (T : TypeId) (cs cs' : List Value) (L' : List Box) (_ : (⟨b, T, cs⟩ : Box) ∈ L) (hs : splice cs off part = cs') (hput : Put L b T cs cs' L') (hfit : off + 6 ≤ cs.length)
    (h : ∀ w', St g w0 w' L' vs xs → wpList Try.prog ops Q rest a w') : wpList Try.prog ops Q (o :: rest) a w :=
  St.wpStore 50 6 (by kernel_rfl) S hgd hno x y ho b off hx part hy hl h1 T cs cs' L' hput hs hfit h
theorem aliS (S : St g w0 w L vs xs) (hgd : o.guard = none) (ho : o.op = .alloc 50)
    (h : ∀ b w', St g w0 w' (⟨b, 50, [.int .i64 0, .int .i64 0, .slice none 0 0, .int .i64 0, .int .i64 0, .slice none 0 0]⟩ :: L) vs xs → wpList Try.prog ops Q rest (a.put o.dst (.pointer (some ⟨b, 0, none⟩))) w') : wpList Try.prog ops Q (o :: rest) a w :=
  St.wpAlloc 50 (.agg #[.int .i64 0, .int .i64 0, .slice none 0 0, .int .i64 0, .int .i64 0, .slice none 0 0]) [.int .i64 0, .int .i64 0, .slice none 0 0, .int .i64 0, .int .i64 0, .slice none 0 0] (by kernel_rfl) rfl S hgd ho h
theorem bxiS (S : St g w0 w L vs xs) (hgd : o.guard = none) (x : Operand) (ho : o.op = .box 50 x) (cs : List Value) (hx : a.eval x = .agg cs.toArray)
    (h : ∀ b w', St g w0 w' (⟨b, 50, cs⟩ :: L) vs xs → wpList Try.prog ops Q rest (a.put o.dst (.pointer (some ⟨b, 0, none⟩))) w') : wpList Try.prog ops Q (o :: rest) a w :=
  St.wpBox 50 S hgd x ho cs (by rw [hx]; rfl) h
theorem rsiS {tmps : Array Value} (S : St g w0 w L vs xs) (p : Tmp) (b : Nat) (hp : tmps.getD p undef = .pointer (some ⟨b, 0, none⟩)) (T : TypeId) (cs : List Value) (hm : (⟨b, T, cs⟩ : Box) ∈ L) (hl : cs.length = 6) : (resOne tmps (.cell p 50)).run Try.prog w = .ok (.agg cs.toArray) w :=
  St.resCell 50 6 _ Try.underlying50 rfl (by kernel_rfl) S p b hp T cs hm hl
theorem ldiN (S : St g w0 w L vs xs) (hgd : o.guard = none) (x : Operand) (ho : o.op = .load 129 x) (b off : Nat) (hx : a.eval x = .pointer (some ⟨b, off, none⟩)) (T : TypeId) (cs part : List Value) (hm : (⟨b, T, cs⟩ : Box) ∈ L) (hp : (cs.drop off).take 2 = part) (hl : part.length = 2)
    (h : wpList Try.prog ops Q rest (a.put o.dst (.agg part.toArray)) w) : wpList Try.prog ops Q (o :: rest) a w :=
  St.wpLoad 129 2 _ Try.underlying129 rfl (by kernel_rfl) S hgd x ho b off hx T cs part hm hp hl h
theorem stiN (S : St g w0 w L vs xs) (hgd : o.guard = none) (hno : o.dst = none) (x y : Operand) (ho : o.op = .store 129 x y) (b off : Nat) (hx : a.eval x = .pointer (some ⟨b, off, none⟩)) (part : List Value) (hy : a.eval y = .agg part.toArray) (hl : part.length = 2) (h1 : part.all (·.oneCell') = true)
    (T : TypeId) (cs cs' : List Value) (L' : List Box) (_ : (⟨b, T, cs⟩ : Box) ∈ L) (hs : splice cs off part = cs') (hput : Put L b T cs cs' L') (hfit : off + 2 ≤ cs.length)
    (h : ∀ w', St g w0 w' L' vs xs → wpList Try.prog ops Q rest a w') : wpList Try.prog ops Q (o :: rest) a w :=
  St.wpStore 129 2 (by kernel_rfl) S hgd hno x y ho b off hx part hy hl h1 T cs cs' L' hput hs hfit h
theorem aliN (S : St g w0 w L vs xs) (hgd : o.guard = none) (ho : o.op = .alloc 129)
    (h : ∀ b w', St g w0 w' (⟨b, 129, [.int .i64 0, .int .i64 0]⟩ :: L) vs xs → wpList Try.prog ops Q rest (a.put o.dst (.pointer (some ⟨b, 0, none⟩))) w') : wpList Try.prog ops Q (o :: rest) a w :=
  St.wpAlloc 129 (.agg #[.int .i64 0, .int .i64 0]) [.int .i64 0, .int .i64 0] (by kernel_rfl) rfl S hgd ho h
theorem bxiN (S : St g w0 w L vs xs) (hgd : o.guard = none) (x : Operand) (ho : o.op = .box 129 x) (cs : List Value) (hx : a.eval x = .agg cs.toArray)
    (h : ∀ b w', St g w0 w' (⟨b, 129, cs⟩ :: L) vs xs → wpList Try.prog ops Q rest (a.put o.dst (.pointer (some ⟨b, 0, none⟩))) w') : wpList Try.prog ops Q (o :: rest) a w :=
  St.wpBox 129 S hgd x ho cs (by rw [hx]; rfl) h
theorem rsiN {tmps : Array Value} (S : St g w0 w L vs xs) (p : Tmp) (b : Nat) (hp : tmps.getD p undef = .pointer (some ⟨b, 0, none⟩)) (T : TypeId) (cs : List Value) (hm : (⟨b, T, cs⟩ : Box) ∈ L) (hl : cs.length = 2) : (resOne tmps (.cell p 129)).run Try.prog w = .ok (.agg cs.toArray) w :=
  St.resCell 129 2 _ Try.underlying129 rfl (by kernel_rfl) S p b hp T cs hm hl
theorem ldiY (S : St g w0 w L vs xs) (hgd : o.guard = none) (x : Operand) (ho : o.op = .load 40 x) (b off : Nat) (hx : a.eval x = .pointer (some ⟨b, off, none⟩)) (T : TypeId) (cs part : List Value) (hm : (⟨b, T, cs⟩ : Box) ∈ L) (hp : (cs.drop off).take 2 = part) (hl : part.length = 2)
    (h : wpList Try.prog ops Q rest (a.put o.dst (.agg part.toArray)) w) : wpList Try.prog ops Q (o :: rest) a w :=
  St.wpLoad 40 2 _ Try.underlying40 rfl (by kernel_rfl) S hgd x ho b off hx T cs part hm hp hl h
theorem stiY (S : St g w0 w L vs xs) (hgd : o.guard = none) (hno : o.dst = none) (x y : Operand) (ho : o.op = .store 40 x y) (b off : Nat) (hx : a.eval x = .pointer (some ⟨b, off, none⟩)) (part : List Value) (hy : a.eval y = .agg part.toArray) (hl : part.length = 2) (h1 : part.all (·.oneCell') = true)
    (T : TypeId) (cs cs' : List Value) (L' : List Box) (_ : (⟨b, T, cs⟩ : Box) ∈ L) (hs : splice cs off part = cs') (hput : Put L b T cs cs' L') (hfit : off + 2 ≤ cs.length)
    (h : ∀ w', St g w0 w' L' vs xs → wpList Try.prog ops Q rest a w') : wpList Try.prog ops Q (o :: rest) a w :=
  St.wpStore 40 2 (by kernel_rfl) S hgd hno x y ho b off hx part hy hl h1 T cs cs' L' hput hs hfit h
theorem aliY (S : St g w0 w L vs xs) (hgd : o.guard = none) (ho : o.op = .alloc 40)
    (h : ∀ b w', St g w0 w' (⟨b, 40, [.int .i64 0, .slice none 0 0]⟩ :: L) vs xs → wpList Try.prog ops Q rest (a.put o.dst (.pointer (some ⟨b, 0, none⟩))) w') : wpList Try.prog ops Q (o :: rest) a w :=
  St.wpAlloc 40 (.agg #[.int .i64 0, .slice none 0 0]) [.int .i64 0, .slice none 0 0] (by kernel_rfl) rfl S hgd ho h
theorem bxiY (S : St g w0 w L vs xs) (hgd : o.guard = none) (x : Operand) (ho : o.op = .box 40 x) (cs : List Value) (hx : a.eval x = .agg cs.toArray)
    (h : ∀ b w', St g w0 w' (⟨b, 40, cs⟩ :: L) vs xs → wpList Try.prog ops Q rest (a.put o.dst (.pointer (some ⟨b, 0, none⟩))) w') : wpList Try.prog ops Q (o :: rest) a w :=
  St.wpBox 40 S hgd x ho cs (by rw [hx]; rfl) h
theorem rsiY {tmps : Array Value} (S : St g w0 w L vs xs) (p : Tmp) (b : Nat) (hp : tmps.getD p undef = .pointer (some ⟨b, 0, none⟩)) (T : TypeId) (cs : List Value) (hm : (⟨b, T, cs⟩ : Box) ∈ L) (hl : cs.length = 2) : (resOne tmps (.cell p 40)).run Try.prog w = .ok (.agg cs.toArray) w :=
  St.resCell 40 2 _ Try.underlying40 rfl (by kernel_rfl) S p b hp T cs hm hl
theorem ldlY (S : St g w0 w L vs xs) (hgd : o.guard = none) (x : Operand) (ho : o.op = .load 35 x) (b off : Nat) (hx : a.eval x = .pointer (some ⟨b, off, none⟩)) (T : TypeId) (cs part : List Value) (hm : (⟨b, T, cs⟩ : Box) ∈ L) (hp : (cs.drop off).take 2 = part) (hl : part.length = 2)
    (h : wpList Try.prog ops Q rest (a.put o.dst (.agg part.toArray)) w) : wpList Try.prog ops Q (o :: rest) a w :=
  St.wpLoad 35 2 _ Try.underlying35 rfl (by kernel_rfl) S hgd x ho b off hx T cs part hm hp hl h
theorem stlY (S : St g w0 w L vs xs) (hgd : o.guard = none) (hno : o.dst = none) (x y : Operand) (ho : o.op = .store 35 x y) (b off : Nat) (hx : a.eval x = .pointer (some ⟨b, off, none⟩)) (part : List Value) (hy : a.eval y = .agg part.toArray) (hl : part.length = 2) (h1 : part.all (·.oneCell') = true)
    (T : TypeId) (cs cs' : List Value) (L' : List Box) (_ : (⟨b, T, cs⟩ : Box) ∈ L) (hs : splice cs off part = cs') (hput : Put L b T cs cs' L') (hfit : off + 2 ≤ cs.length)
    (h : ∀ w', St g w0 w' L' vs xs → wpList Try.prog ops Q rest a w') : wpList Try.prog ops Q (o :: rest) a w :=
  St.wpStore 35 2 (by kernel_rfl) S hgd hno x y ho b off hx part hy hl h1 T cs cs' L' hput hs hfit h
theorem allY (S : St g w0 w L vs xs) (hgd : o.guard = none) (ho : o.op = .alloc 35)
    (h : ∀ b w', St g w0 w' (⟨b, 35, [.int .i64 0, .slice none 0 0]⟩ :: L) vs xs → wpList Try.prog ops Q rest (a.put o.dst (.pointer (some ⟨b, 0, none⟩))) w') : wpList Try.prog ops Q (o :: rest) a w :=
  St.wpAlloc 35 (.agg #[.int .i64 0, .slice none 0 0]) [.int .i64 0, .slice none 0 0] (by kernel_rfl) rfl S hgd ho h
theorem bxlY (S : St g w0 w L vs xs) (hgd : o.guard = none) (x : Operand) (ho : o.op = .box 35 x) (cs : List Value) (hx : a.eval x = .agg cs.toArray)
    (h : ∀ b w', St g w0 w' (⟨b, 35, cs⟩ :: L) vs xs → wpList Try.prog ops Q rest (a.put o.dst (.pointer (some ⟨b, 0, none⟩))) w') : wpList Try.prog ops Q (o :: rest) a w :=
  St.wpBox 35 S hgd x ho cs (by rw [hx]; rfl) h
theorem rslY {tmps : Array Value} (S : St g w0 w L vs xs) (p : Tmp) (b : Nat) (hp : tmps.getD p undef = .pointer (some ⟨b, 0, none⟩)) (T : TypeId) (cs : List Value) (hm : (⟨b, T, cs⟩ : Box) ∈ L) (hl : cs.length = 2) : (resOne tmps (.cell p 35)).run Try.prog w = .ok (.agg cs.toArray) w :=
  St.resCell 35 2 _ Try.underlying35 rfl (by kernel_rfl) S p b hp T cs hm hl
theorem ldI (S : St g w0 w L vs xs) (hgd : o.guard = none) (x : Operand) (ho : o.op = .load 3 x) (b off : Nat) (hx : a.eval x = .pointer (some ⟨b, off, none⟩)) (T : TypeId) (cs : List Value) (v : Value) (hm : (⟨b, T, cs⟩ : Box) ∈ L) (hv : cs[off]? = some v)
    (h : wpList Try.prog ops Q rest (a.put o.dst v) w) : wpList Try.prog ops Q (o :: rest) a w :=
  St.wpLoad1 3 _ Try.underlying3 rfl S hgd x ho b off hx T cs v hm hv h
theorem stI (S : St g w0 w L vs xs) (hgd : o.guard = none) (hno : o.dst = none) (x y : Operand) (ho : o.op = .store 3 x y) (b off : Nat) (hx : a.eval x = .pointer (some ⟨b, off, none⟩)) (v : Value) (hy : a.eval y = v) (h1 : v.oneCell' = true)
    (T : TypeId) (cs cs' : List Value) (L' : List Box) (_ : (⟨b, T, cs⟩ : Box) ∈ L) (hs : splice cs off [v] = cs') (hput : Put L b T cs cs' L') (hfit : off + 1 ≤ cs.length)
    (h : ∀ w', St g w0 w' L' vs xs → wpList Try.prog ops Q rest a w') : wpList Try.prog ops Q (o :: rest) a w :=
  St.wpStore1 3 (by kernel_rfl) S hgd hno x y ho b off hx v hy h1 T cs cs' L' hput hs hfit h
theorem ldIs (S : St g w0 w L vs xs) (hgd : o.guard = none) (x : Operand) (ho : o.op = .load 23 x) (b off : Nat) (hx : a.eval x = .pointer (some ⟨b, off, none⟩)) (T : TypeId) (cs : List Value) (v : Value) (hm : (⟨b, T, cs⟩ : Box) ∈ L) (hv : cs[off]? = some v)
    (h : wpList Try.prog ops Q rest (a.put o.dst v) w) : wpList Try.prog ops Q (o :: rest) a w :=
  St.wpLoad1 23 _ Try.underlying23 rfl S hgd x ho b off hx T cs v hm hv h
theorem stIs (S : St g w0 w L vs xs) (hgd : o.guard = none) (hno : o.dst = none) (x y : Operand) (ho : o.op = .store 23 x y) (b off : Nat) (hx : a.eval x = .pointer (some ⟨b, off, none⟩)) (v : Value) (hy : a.eval y = v) (h1 : v.oneCell' = true)
    (T : TypeId) (cs cs' : List Value) (L' : List Box) (_ : (⟨b, T, cs⟩ : Box) ∈ L) (hs : splice cs off [v] = cs') (hput : Put L b T cs cs' L') (hfit : off + 1 ≤ cs.length)
    (h : ∀ w', St g w0 w' L' vs xs → wpList Try.prog ops Q rest a w') : wpList Try.prog ops Q (o :: rest) a w :=
  St.wpStore1 23 (by kernel_rfl) S hgd hno x y ho b off hx v hy h1 T cs cs' L' hput hs hfit h
theorem ldMs (S : St g w0 w L vs xs) (hgd : o.guard = none) (x : Operand) (ho : o.op = .load 38 x) (b off : Nat) (hx : a.eval x = .pointer (some ⟨b, off, none⟩)) (T : TypeId) (cs : List Value) (v : Value) (hm : (⟨b, T, cs⟩ : Box) ∈ L) (hv : cs[off]? = some v)
    (h : wpList Try.prog ops Q rest (a.put o.dst v) w) : wpList Try.prog ops Q (o :: rest) a w :=
  St.wpLoad1 38 _ Try.underlying38 rfl S hgd x ho b off hx T cs v hm hv h
theorem stMs (S : St g w0 w L vs xs) (hgd : o.guard = none) (hno : o.dst = none) (x y : Operand) (ho : o.op = .store 38 x y) (b off : Nat) (hx : a.eval x = .pointer (some ⟨b, off, none⟩)) (v : Value) (hy : a.eval y = v) (h1 : v.oneCell' = true)
    (T : TypeId) (cs cs' : List Value) (L' : List Box) (_ : (⟨b, T, cs⟩ : Box) ∈ L) (hs : splice cs off [v] = cs') (hput : Put L b T cs cs' L') (hfit : off + 1 ≤ cs.length)
    (h : ∀ w', St g w0 w' L' vs xs → wpList Try.prog ops Q rest a w') : wpList Try.prog ops Q (o :: rest) a w :=
  St.wpStore1 38 (by kernel_rfl) S hgd hno x y ho b off hx v hy h1 T cs cs' L' hput hs hfit h
theorem ldlMs (S : St g w0 w L vs xs) (hgd : o.guard = none) (x : Operand) (ho : o.op = .load 33 x) (b off : Nat) (hx : a.eval x = .pointer (some ⟨b, off, none⟩)) (T : TypeId) (cs : List Value) (v : Value) (hm : (⟨b, T, cs⟩ : Box) ∈ L) (hv : cs[off]? = some v)
    (h : wpList Try.prog ops Q rest (a.put o.dst v) w) : wpList Try.prog ops Q (o :: rest) a w :=
  St.wpLoad1 33 _ Try.underlying33 rfl S hgd x ho b off hx T cs v hm hv h
theorem stlMs (S : St g w0 w L vs xs) (hgd : o.guard = none) (hno : o.dst = none) (x y : Operand) (ho : o.op = .store 33 x y) (b off : Nat) (hx : a.eval x = .pointer (some ⟨b, off, none⟩)) (v : Value) (hy : a.eval y = v) (h1 : v.oneCell' = true)
    (T : TypeId) (cs cs' : List Value) (L' : List Box) (_ : (⟨b, T, cs⟩ : Box) ∈ L) (hs : splice cs off [v] = cs') (hput : Put L b T cs cs' L') (hfit : off + 1 ≤ cs.length)
    (h : ∀ w', St g w0 w' L' vs xs → wpList Try.prog ops Q rest a w') : wpList Try.prog ops Q (o :: rest) a w :=
  St.wpStore1 33 (by kernel_rfl) S hgd hno x y ho b off hx v hy h1 T cs cs' L' hput hs hfit h
end
end Go.Proofs.Ytjoomdihjffmlaa
