/- Layers that are drawn from a code. -/
import Derived.Test.YtpbnbhiffnnliaaLayL
import Derived.Test.YtpbnbhiffnnliaaMatD
import Derived.Maps.AppendAt
import Derived.Deep.Cut
namespace Go.Proofs.Ytpbnbhiffnnliaa
set_option linter.unusedSimpArgs false
set_option linter.unusedVariables false
open Go.RowKit
/-- The cells of matrices whose lists are the call's own. -/
def MCells (B : Nat) (w : World) : List Value → List Mat → Prop
  | _, [] => True
  | r :: c :: u :: cs, m :: ms => r = .int .i64 m.r ∧ c = .int .i64 m.c ∧ Own B w u m.xs ∧ MCells B w cs ms
  | _, _ :: _ => False
theorem MCells.nil {B : Nat} {w : World} : ∀ {cs : List Value}, MCells B w cs []
  | [] => trivial
  | [_] => trivial
  | [_, _] => trivial
  | _ :: _ :: _ :: _ => trivial
theorem MCells.get {B : Nat} {w : World} : ∀ {ms : List Mat} {cs : List Value}, MCells B w cs ms → ∀ i, i < ms.length → ∃ u, cs[i * 3]? = some (.int .i64 (ms.getD i matZ).r) ∧ cs[i * 3 + 1]? = some (.int .i64 (ms.getD i matZ).c) ∧ cs[i * 3 + 2]? = some u ∧ Own B w u (ms.getD i matZ).xs
  | m :: ms, r :: c :: u :: cs, h, 0, _ => by
    obtain ⟨rfl, rfl, ho, _⟩ := h
    exact ⟨u, rfl, rfl, rfl, ho⟩
  | m :: ms, r :: c :: u :: cs, h, i + 1, hi => by
    obtain ⟨_, _, _, hr⟩ := h
    obtain ⟨q, h0, h1, h2, h3⟩ := MCells.get hr i (by simpa using hi)
    refine ⟨q, ?_, ?_, ?_, by simpa using h3⟩
    · rw [show (i + 1) * 3 = i * 3 + 3 by omega]; simpa using h0
    · rw [show (i + 1) * 3 + 1 = i * 3 + 1 + 3 by omega]; simpa using h1
    · rw [show (i + 1) * 3 + 2 = i * 3 + 2 + 3 by omega]; simpa using h2
theorem MCells.mats {B : Nat} {w : World} {b n cap : Nat} {cs : List Value} {ms : List Mat} {T : TypeId} (h : Blk w b cs.toArray T ∧ B ≤ b) (k : MCells B w cs ms) (hn : n = ms.length := by rfl) (hm : n ≤ 1000 := by decide) : Mats B 0 w (.slice (some ⟨b, 0, none⟩) n cap) ms := by
  subst hn
  refine ⟨_, cap, rfl, by unfold maxLen; omega, fun i hi => ?_⟩
  obtain ⟨u, h0, h1, h2, h3⟩ := k.get i hi
  refine ⟨b, u, rfl, h.2, h.1.lt, fun j v hj => ?_, h3.ints, fun q hq => (h3.block q hq).1⟩
  rw [h.1.cell, List.getElem?_toArray, Nat.zero_add]
  match j, hj with
  | 0, hj => rw [Nat.add_zero, h0]; simpa using hj
  | 1, hj => rw [h1]; simpa using hj
  | 2, hj => rw [h2]; simpa using hj
  | j + 3, hj => simp at hj
section
variable {g : Option (Nat × Nat)} {w0 w w' : World} {L : List Box} {vs : List Value} {xs : List (List Int)}
/-- A box is forgotten, its block may turn. -/
theorem St.lost {b : Nat} {T : TypeId} {cs : List Value} (S : St g w0 w (⟨b, T, cs⟩ :: L) vs xs) (h1 : w'.os = w.os) (h2 : w'.tape = w.tape) (h3 : w'.output = w.output) (hs : w.heap.size ≤ w'.heap.size) (hb : ∀ q, q < w.heap.size → q ≠ b → w'.heap[q]? = w.heap[q]?) : St g w0 w' L vs xs := by
  have hm := S.box _ (List.Mem.head _)
  have hlow : ∀ q, q < w0.heap.size → w'.heap[q]? = w.heap[q]? := fun q hq => hb q (by have := S.size; omega) (by have := hm.2; show q ≠ b; simp only at this; omega)
  refine ⟨Chg.mk' (h1.trans S.chg.os) (h2.trans S.chg.tape) (h3.trans S.chg.output) (Nat.le_trans S.size hs) (fun q hq hn => (hlow q hq).trans (S.chg.block q hq hn)), fun q n e => ⟨(S.rd q n e).1, (S.rd q n e).2.low (S.rd q n e).1 hlow⟩, fun p hp => ⟨?_, (S.box p (List.Mem.tail _ hp)).2⟩, (List.pairwise_cons.1 S.dis).2, fun p hp v hv => S.sep p (List.Mem.tail _ hp) v hv, S.grp.blocks fun v hv q hq => hb q ((S.grp.own.block v hv q hq).2) (fun e => S.sep _ (List.Mem.head _) v hv (by rw [hq, e]))⟩
  have k := (S.box p (List.Mem.tail _ hp)).1
  unfold Blk
  rw [hb p.b k.lt (fun e => (List.pairwise_cons.1 S.dis).1 p hp e.symm)]
  exact k
/-- A box that is new, or lies where a forgotten one lay. -/
theorem St.putBox {b : Nat} {T : TypeId} {cs : List Value} (S : St g w0 w L vs xs) (k : Blk w b cs.toArray T) (hb : w0.heap.size ≤ b) (hL : ∀ p ∈ L, p.b ≠ b) (hv : ∀ v ∈ vs, v.ownBlock ≠ some b) : St g w0 w (⟨b, T, cs⟩ :: L) vs xs :=
  ⟨S.chg, S.rd, fun p hp => by
    rcases List.mem_cons.1 hp with h | h
    · subst h; exact ⟨k, hb⟩
    · exact S.box p h, List.pairwise_cons.2 ⟨fun p hp e => hL p hp e.symm, S.dis⟩, fun p hp v h => by
    rcases List.mem_cons.1 hp with e | e
    · subst e; exact hv v h
    · exact S.sep p e v h, S.grp⟩
end
section
variable {ops : Array Oper} {rest : List Oper} {o : Oper} {a : Act} {Q : Exit → Act → World → Prop} {g : Option (Nat × Nat)} {w0 w : World} {L : List Box} {vs : List Value} {xs : List (List Int)}
theorem oneCells {news : List Value} (h : news.all (·.oneCell') = true) : ∀ u ∈ news, u.oneCell' = true := fun u hu => List.all_eq_true.1 h u hu
/-- One matrix appended to a slice of n, which is full. -/
theorem apM {b b1 n : Nat} {cs news : List Value} (S : St g w0 w (⟨b1, 25, news⟩ :: ⟨b, 25, cs⟩ :: L) vs xs)
    (h : ∀ b' cap rst w', St g w0 w' (⟨b', 25, cs ++ news ++ rst⟩ :: L) vs xs → wpList Try.prog ops Q rest (a.put o.dst (.slice (some ⟨b', 0, none⟩) (n + 1) cap)) w') (hcs : cs.length = n * 3 := by rfl) (hns : news.length = 3 := by rfl) (hn : n ≤ 1000 := by decide)
    (h1 : news.all (·.oneCell') = true := by rfl) (hgd : o.guard = none := by rfl) {s x : Operand} (ho : o.op = .call { callee := .builtin .append, args := #[s, x], argTypes := #[40, 40] } := by rfl)
    (hs : a.eval s = .slice (some ⟨b, 0, none⟩) n n := by rfl) (hx : a.eval x = .slice (some ⟨b1, 0, none⟩) 1 1 := by rfl) : wpList Try.prog ops Q (o :: rest) a w := by
  obtain ⟨i, hi, hz⟩ := Option.map_eq_some_iff.1 infoM
  simp only [Prod.mk.injEq] at hz
  obtain ⟨hz, hsz, hby⟩ := hz
  obtain ⟨k1, l1⟩ := S.box _ (List.Mem.head _)
  obtain ⟨k0, l0⟩ := S.box _ (List.Mem.tail _ (List.Mem.head _))
  simp only at k1 l1 k0 l0
  have hd := S.dis
  have S1 := S.boxes (L' := ⟨b, 25, cs⟩ :: L) (List.sublist_cons_self _ _)
  refine wpList_append_own_at (P := Try.prog) w hgd s x 40 ho w0.heap.size 25 i _ 3 40 Try.underlying40 hi hz hsz hby (by rfl) (by decide) (.slice (some ⟨b, 0, none⟩) n n) n cs hs
    ⟨hcs, .inr ⟨b, n, cs.toArray, rfl, l0, k0, Nat.le_refl _, by unfold maxLen; omega, by simpa using hcs, by simp [List.take_of_length_le (Nat.le_of_eq hcs)]⟩⟩ ⟨b1, 0, none⟩ 1 1 news hx (by omega) (fun j u hj => ?_) (oneCells h1) (by unfold maxLen; omega) (by omega) S.size ?_
  · rw [Addr.add_mid, Nat.zero_add, k1.cell, List.getElem?_toArray]; exact hj
  · intro v' w' hown hgr hnil hat
    have S2 := S1.lost hgr.os hgr.tape hgr.output hgr.size (fun q hq hne => hgr.block q hq (fun e => hne (by simpa [Value.ownBlock] using e)))
    obtain ⟨hlen, ⟨-, h9⟩ | ⟨b', cap, cur, rfl, hb', hh, hnc, hcm, hcsz, htake⟩⟩ := hown
    · omega
    · have hcur : cur = (cs ++ news ++ cur.toList.drop ((n + 1) * 3)).toArray := by
        apply Array.toList_inj.1
        simp only [List.toList_toArray]
        rw [← htake]
        exact (List.take_append_drop _ _).symm
      rw [hcur] at hh
      have hat' : b' = b ∨ b' = w.heap.size := by simpa [Value.ownBlock] using hat
      refine h b' cap _ w' (S2.putBox hh hb' (fun p hp => ?_) (fun v hv => ?_))
      · rcases hat' with e | e
        · rw [e]; exact fun e' => (List.pairwise_cons.1 (List.pairwise_cons.1 hd).2).1 p hp e'.symm
        · rw [e]; exact Nat.ne_of_lt (S.box p (List.Mem.tail _ (List.Mem.tail _ hp))).1.lt
      · rcases hat' with e | e
        · rw [e]; exact S.sep _ (List.Mem.tail _ (List.Mem.head _)) v hv
        · rw [e]; intro e'; exact absurd (S.grp.own.block v hv _ e').2 (Nat.lt_irrefl _)
/-- One matrix appended to no slice. -/
theorem apN {b1 : Nat} {news : List Value} (S : St g w0 w (⟨b1, 25, news⟩ :: L) vs xs)
    (h : ∀ b' cap rst w', St g w0 w' (⟨b', 25, news ++ rst⟩ :: L) vs xs → wpList Try.prog ops Q rest (a.put o.dst (.slice (some ⟨b', 0, none⟩) 1 cap)) w') (hns : news.length = 3 := by rfl)
    (h1 : news.all (·.oneCell') = true := by rfl) (hgd : o.guard = none := by rfl) {s x : Operand} (ho : o.op = .call { callee := .builtin .append, args := #[s, x], argTypes := #[40, 40] } := by rfl)
    (hs : a.eval s = .slice none 0 0 := by rfl) (hx : a.eval x = .slice (some ⟨b1, 0, none⟩) 1 1 := by rfl) : wpList Try.prog ops Q (o :: rest) a w := by
  obtain ⟨i, hi, hz⟩ := Option.map_eq_some_iff.1 infoM
  simp only [Prod.mk.injEq] at hz
  obtain ⟨hz, hsz, hby⟩ := hz
  obtain ⟨k1, l1⟩ := S.box _ (List.Mem.head _)
  simp only at k1 l1
  have S1 := S.boxes (L' := L) (List.sublist_cons_self _ _)
  refine wpList_append_own_at (P := Try.prog) w hgd s x 40 ho w0.heap.size 25 i _ 3 40 Try.underlying40 hi hz hsz hby (by rfl) (by decide) (.slice none 0 0) 0 [] hs
    (World.ownsRow_nil _ _ _ _) ⟨b1, 0, none⟩ 1 1 news hx (by omega) (fun j u hj => ?_) (oneCells h1) (by unfold maxLen; omega) (by omega) S.size ?_
  · rw [Addr.add_mid, Nat.zero_add, k1.cell, List.getElem?_toArray]; exact hj
  · intro v' w' hown hgr hnil hat
    have S2 := S1.quiet ⟨hgr.os, hgr.tape, hgr.output, hgr.size, fun q hq => hgr.block q hq (fun e => by cases e)⟩
    obtain ⟨hlen, ⟨-, h9⟩ | ⟨b', cap, cur, rfl, hb', hh, hnc, hcm, hcsz, htake⟩⟩ := hown
    · omega
    · have hcur : cur = (news ++ cur.toList.drop (1 * 3)).toArray := by
        apply Array.toList_inj.1
        simp only [List.toList_toArray]
        simp only [List.nil_append, Nat.zero_add] at htake
        rw [← htake]
        exact (List.take_append_drop _ _).symm
      rw [hcur] at hh
      have hat' : b' = w.heap.size := by simpa [Value.ownBlock] using hat
      refine h b' cap _ w' (S2.putBox hh hb' (fun p hp => ?_) (fun v hv => ?_))
      · rw [hat']; exact Nat.ne_of_lt (S.box p (List.Mem.tail _ hp)).1.lt
      · rw [hat']; intro e'; exact absurd (S.grp.own.block v hv _ e').2 (Nat.lt_irrefl _)
end
theorem Own.modG {g B : Nat} {w w' : World} {v : Value} {xs : List Int} (h : Own B w v xs) (hg : g < B) (hm : Mod g w w') : Own B w' v xs :=
  h.blocks fun q hq => hm.block q (h.block q hq).2 (fun e => by have := (h.block q hq).1; omega)
/-- A new matrix. -/
def mtG {g n0 : Nat} (hg : g < n0) : OpSpec (Mod g) n0 := ⟨[], fun _ u _ _ w => IsMat n0 w u, fun _ _ _ _ _ _ _ _ _ hx ⟨r, c, v, xs, h1, h2, h3⟩ => ⟨r, c, v, xs, h1, h2.modG hg hx, h3⟩⟩
/-- A new slice of one matrix. -/
def s1G {g n0 : Nat} (hg : g < n0) : OpSpec (Mod g) n0 := ⟨[], fun _ u lo _ w => ∃ (r c : Int) (v : Value) (xs : List Int), u = .slice (some ⟨lo, 0, none⟩) 1 1 ∧ Blk w lo #[.int .i64 r, .int .i64 c, v] 25 ∧ Own n0 w v xs ∧ v.ownBlock ≠ some lo,
  fun _ _ _ _ _ _ h0 _ _ hx ⟨r, c, v, xs, h1, h2, h3, h4⟩ => ⟨r, c, v, xs, h1, hx.blk h2 (by omega), h3.modG hg hx, h4⟩⟩
/-- What a drawn layer is. -/
def LayD (g m : Nat) (w : World) (e : Ending) (w' : World) : Prop := ∃ (k : Int) (v : Value) (ms : List Mat), e = .returned (.agg #[.int .i64 k, v]) ∧ Mats w.heap.size 0 w' v ms ∧ Rdr g m w' ∧ Mod g w w'

set_option maxHeartbeats 6000000 in
set_option maxRecDepth 4000 in
theorem lay20_1 (g P R C : Nat) (hR : Sd R) (hC : Sd C) (HP : Room (P + 60000)) (w : World) (hr : Rdr g P w) : Calls Try.prog 48 #[.pointer (some ⟨g, 0, none⟩), .int .i64 1, .int .i64 R, .int .i64 C, .int .i64 2] w (LayD g (P + 60000) w) := by
  have S := Kept.mk (St.startR hr)
  clear hr
  go_enter Try.func48, Try.ntmps48
  go_wp2_with (first | (refine aliY (L := []) S.out ?_; clear S; intro b10 w9 S) | (refine aliY (L := [_]) S.out ?_; clear S; intro b11 w9 S) | (refine ldiY S.out ?_) | (refine ldMs S.out ?_) | (refine ldI S.out ?_) | (refine stiY S.out ?_; clear S; intro w9 S) | (refine stMs S.out ?_; clear S; intro w9 S) | (refine stI S.out ?_; clear S; intro w9 S) | (refine wpList_want rfl rfl ?_; dsimp only) | fail)
  (with_reducible refine (pick g _ 3 (HP.le (by omega)) _ S.out.rdr).mono ?_)
  rintro e u9 ⟨v7, rfl, ⟨y1, rfl, h1, -⟩, hr7, hm7⟩
  replace S := Kept.mk (S.out.read hr7 hm7)
  clear hr7 hm7
  have l1 : (y1 : Int) < 3 := h1 (by omega)
  clear h1
  obtain ⟨O, hO⟩ : ∃ n : Nat, n = y1 + 1 := ⟨_, rfl⟩
  have sO : Sd O := ⟨by omega, by omega⟩
  have tO : O ≤ 3 := by omega
  have q1 : wrap64 (1 + (y1 : Int)) = (O : Int) := by unfold wrap64; omega
  have p1 : 1 + (y1 : Int) = (O : Int) := by omega
  have zO : wrap64 (O : Int) = (O : Int) := by unfold wrap64; omega
  clear hO
  go_wp2_with (first | (refine ldiY S.out ?_) | (refine ldMs S.out ?_) | (refine ldI S.out ?_) | (refine stiY S.out ?_; clear S; intro w9 S) | (refine stMs S.out ?_; clear S; intro w9 S) | (refine stI S.out ?_; clear S; intro w9 S) | (refine wpList_want rfl rfl ?_; dsimp only) | fail)
  clear q1 p1 zO
  (with_reducible refine (mat20 g _ O R 0 sO hR ⟨by omega, by omega⟩ (HP.le (by omega)) _ S.out.rdr).mono ?_)
  rintro e u9 ⟨v7, rfl, ⟨r0, c0, v0, x0, rfl, o0, l0⟩, hr7, hm7⟩
  replace S := Kept.mk (S.out.madeR o0 hr7 hm7)
  clear hr7 hm7
  obtain ⟨p0, m0, hu9, -, -⟩ := id o0.ints
  try simp only at hu9
  subst hu9
  clear o0
  go_wp2_with (first | (refine ldiY S.out ?_) | (refine ldMs S.out ?_) | (refine ldI S.out ?_) | (refine stiY S.out ?_; clear S; intro w9 S) | (refine stMs S.out ?_; clear S; intro w9 S) | (refine stI S.out ?_; clear S; intro w9 S) | (refine wpList_want rfl rfl ?_; dsimp only) | fail)
  (with_reducible refine ((show Calls Try.prog 22 #[.pointer (some ⟨g, 0, none⟩), .int .i64 O, .int .i64 1, .int .i64 0] _ _ from mat20 g _ O 1 0 sO ⟨by omega, by omega⟩ ⟨by omega, by omega⟩ (HP.le (by omega)) _ S.out.rdr)).mono ?_)
  rintro e u9 ⟨v7, rfl, ⟨r1, c1, v1, x1, rfl, o1, l1⟩, hr7, hm7⟩
  replace S := Kept.mk (S.out.madeR o1 hr7 hm7)
  clear hr7 hm7
  obtain ⟨p1, m1, hu9, -, -⟩ := id o1.ints
  try simp only at hu9
  subst hu9
  clear o1
  go_wp2_with (first | (refine stMs (S.out.alloc 25 [.int .i64 r0, .int .i64 c0, .slice p0 x0.length m0, .int .i64 r1, .int .i64 c1, .slice p1 x1.length m1]) ?_; clear S; intro w9 S; generalize u9.heap.size = b12 at *) | (refine ldiY S.out ?_) | (refine ldMs S.out ?_) | (refine ldI S.out ?_) | (refine stiY S.out ?_; clear S; intro w9 S) | (refine stMs S.out ?_; clear S; intro w9 S) | (refine stI S.out ?_; clear S; intro w9 S) | (refine wpList_want rfl rfl ?_; dsimp only) | fail)
  (with_reducible refine (odd g _ 2 ⟨by omega, by omega⟩ (HP.le (by omega)) _ S.out.rdr).mono ?_)
  rintro e u9 ⟨v7, rfl, ⟨b7, rfl⟩, hr7, hm7⟩
  replace S := Kept.mk (S.out.read hr7 hm7)
  clear hr7 hm7
  cases b7
  · go_wp2_with (first | (refine ldiY S.out ?_) | (refine ldMs S.out ?_) | (refine ldI S.out ?_) | (refine stiY S.out ?_; clear S; intro w9 S) | (refine stMs S.out ?_; clear S; intro w9 S) | (refine stI S.out ?_; clear S; intro w9 S) | (refine wpList_want rfl rfl ?_; dsimp only) | fail)
    exact bodyPost_ret (v := .agg #[.int .i64 1, .slice (some ⟨b12, 0, none⟩) 2 2]) (by exact res1 rfl (by exact (rsiY S.out))) rfl ⟨_, _, _, rfl, (MCells.mats (ms := [⟨r0, c0, x0⟩, ⟨r1, c1, x1⟩]) (S.out.box _ (List.Mem.head _)) ⟨rfl, rfl, S.out.grp.o1, ⟨rfl, rfl, S.out.grp.o0, MCells.nil⟩⟩), S.out.rdr.mono (by omega) HP, S.out.mod⟩
  · go_wp2_with (first | (refine ldiY S.out ?_) | (refine ldMs S.out ?_) | (refine ldI S.out ?_) | (refine stiY S.out ?_; clear S; intro w9 S) | (refine stMs S.out ?_; clear S; intro w9 S) | (refine stI S.out ?_; clear S; intro w9 S) | (refine wpList_want rfl rfl ?_; dsimp only) | fail)
    (with_reducible refine (pick g _ 4 (HP.le (by omega)) _ S.out.rdr).mono ?_)
    rintro e u9 ⟨v7, rfl, ⟨x7, rfl, h7, -⟩, hr7, hm7⟩
    replace S := Kept.mk (S.out.read hr7 hm7)
    clear hr7 hm7
    have l7 : (x7 : Int) < 4 := h7 (by omega)
    clear h7
    by_cases e0 : x7 = 0
    · subst e0
      go_wp2_with (first | (refine ldiY S.out ?_) | (refine ldMs S.out ?_) | (refine ldI S.out ?_) | (refine stiY S.out ?_; clear S; intro w9 S) | (refine stMs S.out ?_; clear S; intro w9 S) | (refine stI S.out ?_; clear S; intro w9 S) | (refine wpList_want rfl rfl ?_; dsimp only) | fail)
      replace S := Kept.mk (S.out.alloc 3 [.int .i64 0, .int .i64 4])
      (with_reducible refine (pick g _ 2 (HP.le (by omega)) _ S.out.rdr).mono ?_)
      rintro e u9 ⟨v7, rfl, ⟨x8, rfl, h8, -⟩, hr7, hm7⟩
      replace S := Kept.mk (S.out.read hr7 hm7)
      clear hr7 hm7
      have l8 : (x8 : Int) < 2 := h8 (by omega)
      clear h8
      obtain ⟨y, hy⟩ := Blk.intAt (cs := [0, 4]) (S.out.box _ (List.Mem.head _)).1 (x := x8) (by show x8 < 2; omega)
      replace S := Kept.mk (S.out.boxes (List.sublist_cons_self _ _))
      go_wp2_with (first | (refine ldiY S.out ?_) | (refine ldMs S.out ?_) | (refine ldI S.out ?_) | (refine stiY S.out ?_; clear S; intro w9 S) | (refine stMs S.out ?_; clear S; intro w9 S) | (refine stI S.out ?_; clear S; intro w9 S) | (refine wpList_want rfl rfl ?_; dsimp only) | fail)
      exact bodyPost_ret (v := .agg #[.int .i64 y, .slice (some ⟨b12, 0, none⟩) 2 2]) (by exact res1 rfl (by exact (rsiY S.out))) rfl ⟨_, _, _, rfl, (MCells.mats (ms := [⟨r0, c0, x0⟩, ⟨r1, c1, x1⟩]) (S.out.box _ (List.Mem.head _)) ⟨rfl, rfl, S.out.grp.o1, ⟨rfl, rfl, S.out.grp.o0, MCells.nil⟩⟩), S.out.rdr.mono (by omega) HP, S.out.mod⟩
    · have n0 : ((x7 : Int) == 0) = false := by simp; omega
      by_cases e1 : x7 = 1
      · subst e1
        go_wp2_with (first | (refine ldiY S.out ?_) | (refine ldMs S.out ?_) | (refine ldI S.out ?_) | (refine stiY S.out ?_; clear S; intro w9 S) | (refine stMs S.out ?_; clear S; intro w9 S) | (refine stI S.out ?_; clear S; intro w9 S) | (refine wpList_want rfl rfl ?_; dsimp only) | fail)
        have hlt := S.out.rdr.lt
        apply wp_region_zipJ (Mod.rel g) (fun m w' => Rdr g (P + 1 + 6000 + 6000 + 1 + 1 + 6000 * (5 - m)) w') [isv _, isv _, isv _, mtG hlt, s1G hlt] _ ?hJ (by kernel_rfl)
        case hJ => exact (S.out.rdr.keep ⟨rfl, rfl, rfl, Nat.le_refl _, fun _ _ => rfl⟩).mono (by first | (simp; done) | (simp; omega) | omega) (HP.le (by first | (simp; done) | (simp; omega) | omega))
        case hA => intro V; simp [putAll, dstOf, Act.put]; exact rfl
        case hsl => intro V; exact rfl
        case step =>
          intro V lo up w' hr m hm hj
          simp only [List.length_cons, List.length_nil, Nat.zero_add, Nat.reduceAdd] at hm
          have RJ : Rdr g (P + 1 + 6000 + 6000 + 1 + 1 + 6000 * (5 - m)) w' := hj.mono (by omega) (HP.le (by omega))
          have S := Kept.mk (S.out.read RJ hr)
          simp only [zipOkJ, depsImp, isv, isP, mtG, s1G, waits, Region.binds, List.map_nil, List.map_cons, List.headD_cons, List.nil_append, List.cons_append, List.filterMap_cons, List.filterMap_nil, ↓reduceIte, modeNe, Bool.false_eq_true, true_implies, List.getD_cons_zero, List.getD_cons_succ, and_true]
          refine ⟨?_, ?_, ?_, ?_, ?_⟩
          · intros
            (try simp only [*])
            go_wp2_with (first | (refine ldMs S.out ?_) | (refine ldI S.out ?_) | (refine wpList_want rfl rfl ?_; dsimp only) | fail)
            refine stepQ_mk rfl (by simp only [List.getElem?_toArray, List.getElem?_cons_succ, List.getElem?_cons_zero]; exact rfl) ?_
            exact ⟨Mod.refl _ _, rfl, RJ⟩
          · intros
            (try simp only [*])
            go_wp2_with (first | (refine ldMs S.out ?_) | (refine ldI S.out ?_) | (refine wpList_want rfl rfl ?_; dsimp only) | fail)
            refine stepQ_mk rfl (by simp only [List.getElem?_toArray, List.getElem?_cons_succ, List.getElem?_cons_zero]; exact rfl) ?_
            exact ⟨Mod.refl _ _, rfl, RJ⟩
          · intros
            (try simp only [*])
            go_wp2_with (first | (refine ldMs S.out ?_) | (refine ldI S.out ?_) | (refine wpList_want rfl rfl ?_; dsimp only) | fail)
            refine stepQ_mk rfl (by simp only [List.getElem?_toArray, List.getElem?_cons_succ, List.getElem?_cons_zero]; exact rfl) ?_
            exact ⟨Mod.refl _ _, rfl, RJ⟩
          · intros
            (try simp only [*])
            go_wp2_with (fail)
            have hz := hr.size
            (with_reducible refine ((show Calls Try.prog 22 #[.pointer (some ⟨g, 0, none⟩), .int .i64 1, .int .i64 1, .int .i64 0] _ _ from mat20 g _ 1 1 0 ⟨by omega, by omega⟩ ⟨by omega, by omega⟩ ⟨by omega, by omega⟩ (HP.le (by omega)) _ hj)).mono ?_)
            rintro e w7 ⟨v7, rfl, ⟨ra, ca, va, xa, rfl, oa, la⟩, hr7, hm7⟩
            go_wp2
            refine stepQ_mk rfl (by simp only [List.getElem?_toArray, List.getElem?_cons_succ, List.getElem?_cons_zero]; exact rfl) ?_
            exact ⟨hm7, ⟨ra, ca, va, xa, rfl, oa.mono hz, la⟩, hr7.mono (by omega) (HP.le (by omega))⟩
          · intro _ _ _ ⟨ra, ca, va, xa, e3, oa, la⟩
            obtain ⟨pa, ma, hu9, -, -⟩ := id oa.ints
            try simp only at hu9
            subst hu9
            intros
            (try simp only [*])
            go_wp2
            refine stepQ_mk rfl (by simp only [List.getElem?_toArray, List.getElem?_cons_succ, List.getElem?_cons_zero]; exact rfl) ?_
            exact ⟨Mod.of_ext ((Ext.refl _).alloc _), ⟨ra, ca, _, xa, rfl, Blk.new _ _ _, oa.keep ((Ext.refl _).alloc _), fun e => by have := (oa.block _ e).2; omega⟩, RJ.keep ((Ext.refl _).alloc _)⟩
        case hB => kernel_rfl
        case fin =>
          intro V lo up w' hr hj hf ha
          simp only [factsOk, isv, isP, mtG, s1G, List.map_nil, List.map_cons, List.headD_cons, and_true, Nat.zero_add, Nat.reduceAdd] at hf
          simp only [List.length_cons, List.length_nil, Nat.zero_add, Nat.reduceAdd, List.drop_succ_cons, List.drop_zero]
          obtain ⟨-, ⟨-, -, -, e1⟩, -, -, ⟨lo4, -, -, ra, ca, va, xa, e4, k4, oa, na⟩⟩ := hf
          clear ha
          have RJ : Rdr g (P + 1 + 6000 + 6000 + 1 + 1 + 30000) w' := hj.mono (by omega) (HP.le (by omega))
          clear hj
          rw [e1, e4]
          clear e1 e4
          generalize lo 4 = b14 at *
          obtain ⟨pa, ma, hu9, -, -⟩ := id oa.ints
          try simp only at hu9
          subst hu9
          have T := S.out.read RJ hr
          have S8 := S.out.more (m := P + 60000) (by omega) HP
          have T8 := T.more (m := P + 60000) (by omega) HP
          replace S := Kept.mk (S8.grow T8 [⟨b14, 25, [.int .i64 ra, .int .i64 ca, .slice pa xa.length ma]⟩] (fun p hp => by rw [List.mem_singleton] at hp; subst hp; exact ⟨k4, lo4⟩) (by simp) (Grp.one oa) (fun p hp v hv => by rw [List.mem_singleton] at hp hv; subst hp hv; exact na))
          clear RJ hr T S8 T8 k4 lo4 oa na
          simp only [List.cons_append, List.nil_append] at S
          go_wp2_with (first | (at_builtin; refine apM (n := 2) S.out ?_; clear S; intro b15 cap15 rst w9 S; replace S := Kept.mk S; simp only [List.cons_append, List.nil_append] at S) | (refine ldiY S.out ?_) | (refine ldMs S.out ?_) | (refine ldI S.out ?_) | (refine stiY S.out ?_; clear S; intro w9 S) | (refine stMs S.out ?_; clear S; intro w9 S) | (refine stI S.out ?_; clear S; intro w9 S) | (refine wpList_want rfl rfl ?_; dsimp only) | fail)
          exact bodyPost_ret (v := .agg #[.int .i64 1, .slice (some ⟨b15, 0, none⟩) 3 cap15]) (by exact res1 rfl (by exact (rsiY S.out))) rfl ⟨_, _, _, rfl, (MCells.mats (ms := [⟨r0, c0, x0⟩, ⟨r1, c1, x1⟩, ⟨ra, ca, xa⟩]) (S.out.box _ (List.Mem.head _)) ⟨rfl, rfl, S.out.grp.o2, ⟨rfl, rfl, S.out.grp.o1, ⟨rfl, rfl, S.out.grp.o0, MCells.nil⟩⟩⟩), S.out.rdr.mono (by omega) HP, S.out.mod⟩
      · have n1 : ((x7 : Int) == 1) = false := by simp; omega
        by_cases e2 : x7 = 2
        · subst e2
          go_wp2_with (first | (refine ldiY S.out ?_) | (refine ldMs S.out ?_) | (refine ldI S.out ?_) | (refine stiY S.out ?_; clear S; intro w9 S) | (refine stMs S.out ?_; clear S; intro w9 S) | (refine stI S.out ?_; clear S; intro w9 S) | (refine wpList_want rfl rfl ?_; dsimp only) | fail)
          (with_reducible refine ((show Calls Try.prog 22 #[.pointer (some ⟨g, 0, none⟩), .int .i64 2, .int .i64 2, .int .i64 1] _ _ from mat20 g _ 2 2 1 ⟨by omega, by omega⟩ ⟨by omega, by omega⟩ ⟨by omega, by omega⟩ (HP.le (by omega)) _ S.out.rdr)).mono ?_)
          rintro e u9 ⟨v7, rfl, ⟨r9, c9, v9, x9, rfl, o9, l9⟩, hr7, hm7⟩
          replace S := Kept.mk (S.out.madeR o9 hr7 hm7)
          clear hr7 hm7
          obtain ⟨p9, m9, hu9, -, -⟩ := id o9.ints
          try simp only at hu9
          subst hu9
          clear o9
          go_wp2_with (first | (refine stMs (S.out.alloc 25 [.int .i64 r9, .int .i64 c9, .slice p9 x9.length m9]) ?_; clear S; intro w9 S; generalize u9.heap.size = b13 at *) | (refine ldiY S.out ?_) | (refine ldMs S.out ?_) | (refine ldI S.out ?_) | (refine stiY S.out ?_; clear S; intro w9 S) | (refine stMs S.out ?_; clear S; intro w9 S) | (refine stI S.out ?_; clear S; intro w9 S) | (refine wpList_want rfl rfl ?_; dsimp only) | fail)
          exact bodyPost_ret (v := .agg #[.int .i64 1, .slice (some ⟨b13, 0, none⟩) 1 1]) (by exact res1 rfl (by exact (rsiY S.out))) rfl ⟨_, _, _, rfl, (MCells.mats (ms := [⟨r9, c9, x9⟩]) (S.out.box _ (List.Mem.head _)) ⟨rfl, rfl, S.out.grp.o0, MCells.nil⟩), S.out.rdr.mono (by omega) HP, S.out.mod⟩
        · have n2 : ((x7 : Int) == 2) = false := by simp; omega
          go_wp2_with (first | (refine ldiY S.out ?_) | (refine ldMs S.out ?_) | (refine ldI S.out ?_) | (refine stiY S.out ?_; clear S; intro w9 S) | (refine stMs S.out ?_; clear S; intro w9 S) | (refine stI S.out ?_; clear S; intro w9 S) | (refine wpList_want rfl rfl ?_; dsimp only) | fail)
          (with_reducible refine (pick g _ 2 (HP.le (by omega)) _ S.out.rdr).mono ?_)
          rintro e u9 ⟨v7, rfl, ⟨x8, rfl, h8, -⟩, hr7, hm7⟩
          replace S := Kept.mk (S.out.read hr7 hm7)
          clear hr7 hm7
          have l8 : (x8 : Int) < 2 := h8 (by omega)
          clear h8
          have w1 : wrap64 (2 * (x8 : Int)) = 2 * (x8 : Int) := by unfold wrap64; omega
          have w2 : wrap64 (1 + 2 * (x8 : Int)) = 1 + 2 * (x8 : Int) := by unfold wrap64; omega
          go_wp2_with (first | (refine ldiY S.out ?_) | (refine ldMs S.out ?_) | (refine ldI S.out ?_) | (refine stiY S.out ?_; clear S; intro w9 S) | (refine stMs S.out ?_; clear S; intro w9 S) | (refine stI S.out ?_; clear S; intro w9 S) | (refine wpList_want rfl rfl ?_; dsimp only) | fail)
          exact bodyPost_ret (v := .agg #[.int .i64 (1 + 2 * (x8 : Int)), .slice none 0 0]) (by exact res1 rfl (by exact (rsiY S.out))) rfl ⟨_, _, _, rfl, Mats.nil _ _ _, S.out.rdr.mono (by omega) HP, S.out.mod⟩
set_option maxHeartbeats 6000000 in
set_option maxRecDepth 4000 in
theorem lay20_2 (g P R C : Nat) (hR : Sd R) (hC : Sd C) (HP : Room (P + 60000)) (w : World) (hr : Rdr g P w) : Calls Try.prog 48 #[.pointer (some ⟨g, 0, none⟩), .int .i64 2, .int .i64 R, .int .i64 C, .int .i64 2] w (LayD g (P + 60000) w) := by
  have S := Kept.mk (St.startR hr)
  clear hr
  go_enter Try.func48, Try.ntmps48
  go_wp2_with (first | (refine aliY (L := []) S.out ?_; clear S; intro b10 w9 S) | (refine aliY (L := [_]) S.out ?_; clear S; intro b11 w9 S) | (refine ldiY S.out ?_) | (refine ldMs S.out ?_) | (refine ldI S.out ?_) | (refine stiY S.out ?_; clear S; intro w9 S) | (refine stMs S.out ?_; clear S; intro w9 S) | (refine stI S.out ?_; clear S; intro w9 S) | (refine wpList_want rfl rfl ?_; dsimp only) | fail)
  go_wp2_with (first | (refine ldiY S.out ?_) | (refine ldMs S.out ?_) | (refine ldI S.out ?_) | (refine stiY S.out ?_; clear S; intro w9 S) | (refine stMs S.out ?_; clear S; intro w9 S) | (refine stI S.out ?_; clear S; intro w9 S) | (refine wpList_want rfl rfl ?_; dsimp only) | fail)
  (with_reducible refine (odd g _ 2 ⟨by omega, by omega⟩ (HP.le (by omega)) _ S.out.rdr).mono ?_)
  rintro e u9 ⟨v7, rfl, ⟨b7, rfl⟩, hr7, hm7⟩
  replace S := Kept.mk (S.out.read hr7 hm7)
  clear hr7 hm7
  cases b7
  · go_wp2_with (first | (refine ldiY S.out ?_) | (refine ldMs S.out ?_) | (refine ldI S.out ?_) | (refine stiY S.out ?_; clear S; intro w9 S) | (refine stMs S.out ?_; clear S; intro w9 S) | (refine stI S.out ?_; clear S; intro w9 S) | (refine wpList_want rfl rfl ?_; dsimp only) | fail)
    exact bodyPost_ret (v := .agg #[.int .i64 2, .slice none 0 0]) (by exact res1 rfl (by exact (rsiY S.out))) rfl ⟨_, _, _, rfl, Mats.nil _ _ _, S.out.rdr.mono (by omega) HP, S.out.mod⟩
  · go_wp2_with (first | (refine ldiY S.out ?_) | (refine ldMs S.out ?_) | (refine ldI S.out ?_) | (refine stiY S.out ?_; clear S; intro w9 S) | (refine stMs S.out ?_; clear S; intro w9 S) | (refine stI S.out ?_; clear S; intro w9 S) | (refine wpList_want rfl rfl ?_; dsimp only) | fail)
    (with_reducible refine (pick g _ 4 (HP.le (by omega)) _ S.out.rdr).mono ?_)
    rintro e u9 ⟨v7, rfl, ⟨x7, rfl, h7, -⟩, hr7, hm7⟩
    replace S := Kept.mk (S.out.read hr7 hm7)
    clear hr7 hm7
    have l7 : (x7 : Int) < 4 := h7 (by omega)
    clear h7
    by_cases e0 : x7 = 0
    · subst e0
      go_wp2_with (first | (refine ldiY S.out ?_) | (refine ldMs S.out ?_) | (refine ldI S.out ?_) | (refine stiY S.out ?_; clear S; intro w9 S) | (refine stMs S.out ?_; clear S; intro w9 S) | (refine stI S.out ?_; clear S; intro w9 S) | (refine wpList_want rfl rfl ?_; dsimp only) | fail)
      replace S := Kept.mk (S.out.alloc 3 [.int .i64 0, .int .i64 4])
      (with_reducible refine (pick g _ 2 (HP.le (by omega)) _ S.out.rdr).mono ?_)
      rintro e u9 ⟨v7, rfl, ⟨x8, rfl, h8, -⟩, hr7, hm7⟩
      replace S := Kept.mk (S.out.read hr7 hm7)
      clear hr7 hm7
      have l8 : (x8 : Int) < 2 := h8 (by omega)
      clear h8
      obtain ⟨y, hy⟩ := Blk.intAt (cs := [0, 4]) (S.out.box _ (List.Mem.head _)).1 (x := x8) (by show x8 < 2; omega)
      replace S := Kept.mk (S.out.boxes (List.sublist_cons_self _ _))
      go_wp2_with (first | (refine ldiY S.out ?_) | (refine ldMs S.out ?_) | (refine ldI S.out ?_) | (refine stiY S.out ?_; clear S; intro w9 S) | (refine stMs S.out ?_; clear S; intro w9 S) | (refine stI S.out ?_; clear S; intro w9 S) | (refine wpList_want rfl rfl ?_; dsimp only) | fail)
      exact bodyPost_ret (v := .agg #[.int .i64 y, .slice none 0 0]) (by exact res1 rfl (by exact (rsiY S.out))) rfl ⟨_, _, _, rfl, Mats.nil _ _ _, S.out.rdr.mono (by omega) HP, S.out.mod⟩
    · have n0 : ((x7 : Int) == 0) = false := by simp; omega
      by_cases e1 : x7 = 1
      · subst e1
        go_wp2_with (first | (refine ldiY S.out ?_) | (refine ldMs S.out ?_) | (refine ldI S.out ?_) | (refine stiY S.out ?_; clear S; intro w9 S) | (refine stMs S.out ?_; clear S; intro w9 S) | (refine stI S.out ?_; clear S; intro w9 S) | (refine wpList_want rfl rfl ?_; dsimp only) | fail)
        have hlt := S.out.rdr.lt
        apply wp_region_zipJ (Mod.rel g) (fun m w' => Rdr g (P + 1 + 1 + 6000 * (5 - m)) w') [isv _, isv _, isv _, mtG hlt, s1G hlt] _ ?hJ (by kernel_rfl)
        case hJ => exact (S.out.rdr.keep ⟨rfl, rfl, rfl, Nat.le_refl _, fun _ _ => rfl⟩).mono (by first | (simp; done) | (simp; omega) | omega) (HP.le (by first | (simp; done) | (simp; omega) | omega))
        case hA => intro V; simp [putAll, dstOf, Act.put]; exact rfl
        case hsl => intro V; exact rfl
        case step =>
          intro V lo up w' hr m hm hj
          simp only [List.length_cons, List.length_nil, Nat.zero_add, Nat.reduceAdd] at hm
          have RJ : Rdr g (P + 1 + 1 + 6000 * (5 - m)) w' := hj.mono (by omega) (HP.le (by omega))
          have S := Kept.mk (S.out.read RJ hr)
          simp only [zipOkJ, depsImp, isv, isP, mtG, s1G, waits, Region.binds, List.map_nil, List.map_cons, List.headD_cons, List.nil_append, List.cons_append, List.filterMap_cons, List.filterMap_nil, ↓reduceIte, modeNe, Bool.false_eq_true, true_implies, List.getD_cons_zero, List.getD_cons_succ, and_true]
          refine ⟨?_, ?_, ?_, ?_, ?_⟩
          · intros
            (try simp only [*])
            go_wp2_with (first | (refine ldMs S.out ?_) | (refine ldI S.out ?_) | (refine wpList_want rfl rfl ?_; dsimp only) | fail)
            refine stepQ_mk rfl (by simp only [List.getElem?_toArray, List.getElem?_cons_succ, List.getElem?_cons_zero]; exact rfl) ?_
            exact ⟨Mod.refl _ _, rfl, RJ⟩
          · intros
            (try simp only [*])
            go_wp2_with (first | (refine ldMs S.out ?_) | (refine ldI S.out ?_) | (refine wpList_want rfl rfl ?_; dsimp only) | fail)
            refine stepQ_mk rfl (by simp only [List.getElem?_toArray, List.getElem?_cons_succ, List.getElem?_cons_zero]; exact rfl) ?_
            exact ⟨Mod.refl _ _, rfl, RJ⟩
          · intros
            (try simp only [*])
            go_wp2_with (first | (refine ldMs S.out ?_) | (refine ldI S.out ?_) | (refine wpList_want rfl rfl ?_; dsimp only) | fail)
            refine stepQ_mk rfl (by simp only [List.getElem?_toArray, List.getElem?_cons_succ, List.getElem?_cons_zero]; exact rfl) ?_
            exact ⟨Mod.refl _ _, rfl, RJ⟩
          · intros
            (try simp only [*])
            go_wp2_with (fail)
            have hz := hr.size
            (with_reducible refine ((show Calls Try.prog 22 #[.pointer (some ⟨g, 0, none⟩), .int .i64 1, .int .i64 1, .int .i64 0] _ _ from mat20 g _ 1 1 0 ⟨by omega, by omega⟩ ⟨by omega, by omega⟩ ⟨by omega, by omega⟩ (HP.le (by omega)) _ hj)).mono ?_)
            rintro e w7 ⟨v7, rfl, ⟨ra, ca, va, xa, rfl, oa, la⟩, hr7, hm7⟩
            go_wp2
            refine stepQ_mk rfl (by simp only [List.getElem?_toArray, List.getElem?_cons_succ, List.getElem?_cons_zero]; exact rfl) ?_
            exact ⟨hm7, ⟨ra, ca, va, xa, rfl, oa.mono hz, la⟩, hr7.mono (by omega) (HP.le (by omega))⟩
          · intro _ _ _ ⟨ra, ca, va, xa, e3, oa, la⟩
            obtain ⟨pa, ma, hu9, -, -⟩ := id oa.ints
            try simp only at hu9
            subst hu9
            intros
            (try simp only [*])
            go_wp2
            refine stepQ_mk rfl (by simp only [List.getElem?_toArray, List.getElem?_cons_succ, List.getElem?_cons_zero]; exact rfl) ?_
            exact ⟨Mod.of_ext ((Ext.refl _).alloc _), ⟨ra, ca, _, xa, rfl, Blk.new _ _ _, oa.keep ((Ext.refl _).alloc _), fun e => by have := (oa.block _ e).2; omega⟩, RJ.keep ((Ext.refl _).alloc _)⟩
        case hB => kernel_rfl
        case fin =>
          intro V lo up w' hr hj hf ha
          simp only [factsOk, isv, isP, mtG, s1G, List.map_nil, List.map_cons, List.headD_cons, and_true, Nat.zero_add, Nat.reduceAdd] at hf
          simp only [List.length_cons, List.length_nil, Nat.zero_add, Nat.reduceAdd, List.drop_succ_cons, List.drop_zero]
          obtain ⟨-, ⟨-, -, -, e1⟩, -, -, ⟨lo4, -, -, ra, ca, va, xa, e4, k4, oa, na⟩⟩ := hf
          clear ha
          have RJ : Rdr g (P + 1 + 1 + 30000) w' := hj.mono (by omega) (HP.le (by omega))
          clear hj
          rw [e1, e4]
          clear e1 e4
          generalize lo 4 = b14 at *
          obtain ⟨pa, ma, hu9, -, -⟩ := id oa.ints
          try simp only at hu9
          subst hu9
          have T := S.out.read RJ hr
          have S8 := S.out.more (m := P + 60000) (by omega) HP
          have T8 := T.more (m := P + 60000) (by omega) HP
          replace S := Kept.mk (S8.grow T8 [⟨b14, 25, [.int .i64 ra, .int .i64 ca, .slice pa xa.length ma]⟩] (fun p hp => by rw [List.mem_singleton] at hp; subst hp; exact ⟨k4, lo4⟩) (by simp) (Grp.one oa) (fun p hp v hv => by rw [List.mem_singleton] at hp hv; subst hp hv; exact na))
          clear RJ hr T S8 T8 k4 lo4 oa na
          simp only [List.cons_append, List.nil_append] at S
          go_wp2_with (first | (at_builtin; refine apN S.out ?_; clear S; intro b15 cap15 rst w9 S; replace S := Kept.mk S; simp only [List.cons_append, List.nil_append] at S) | (refine ldiY S.out ?_) | (refine ldMs S.out ?_) | (refine ldI S.out ?_) | (refine stiY S.out ?_; clear S; intro w9 S) | (refine stMs S.out ?_; clear S; intro w9 S) | (refine stI S.out ?_; clear S; intro w9 S) | (refine wpList_want rfl rfl ?_; dsimp only) | fail)
          exact bodyPost_ret (v := .agg #[.int .i64 2, .slice (some ⟨b15, 0, none⟩) 1 cap15]) (by exact res1 rfl (by exact (rsiY S.out))) rfl ⟨_, _, _, rfl, (MCells.mats (ms := [⟨ra, ca, xa⟩]) (S.out.box _ (List.Mem.head _)) ⟨rfl, rfl, S.out.grp.o0, MCells.nil⟩), S.out.rdr.mono (by omega) HP, S.out.mod⟩
      · have n1 : ((x7 : Int) == 1) = false := by simp; omega
        by_cases e2 : x7 = 2
        · subst e2
          go_wp2_with (first | (refine ldiY S.out ?_) | (refine ldMs S.out ?_) | (refine ldI S.out ?_) | (refine stiY S.out ?_; clear S; intro w9 S) | (refine stMs S.out ?_; clear S; intro w9 S) | (refine stI S.out ?_; clear S; intro w9 S) | (refine wpList_want rfl rfl ?_; dsimp only) | fail)
          (with_reducible refine ((show Calls Try.prog 22 #[.pointer (some ⟨g, 0, none⟩), .int .i64 2, .int .i64 2, .int .i64 1] _ _ from mat20 g _ 2 2 1 ⟨by omega, by omega⟩ ⟨by omega, by omega⟩ ⟨by omega, by omega⟩ (HP.le (by omega)) _ S.out.rdr)).mono ?_)
          rintro e u9 ⟨v7, rfl, ⟨r9, c9, v9, x9, rfl, o9, l9⟩, hr7, hm7⟩
          replace S := Kept.mk (S.out.madeR o9 hr7 hm7)
          clear hr7 hm7
          obtain ⟨p9, m9, hu9, -, -⟩ := id o9.ints
          try simp only at hu9
          subst hu9
          clear o9
          go_wp2_with (first | (refine stMs (S.out.alloc 25 [.int .i64 r9, .int .i64 c9, .slice p9 x9.length m9]) ?_; clear S; intro w9 S; generalize u9.heap.size = b13 at *) | (refine ldiY S.out ?_) | (refine ldMs S.out ?_) | (refine ldI S.out ?_) | (refine stiY S.out ?_; clear S; intro w9 S) | (refine stMs S.out ?_; clear S; intro w9 S) | (refine stI S.out ?_; clear S; intro w9 S) | (refine wpList_want rfl rfl ?_; dsimp only) | fail)
          exact bodyPost_ret (v := .agg #[.int .i64 2, .slice (some ⟨b13, 0, none⟩) 1 1]) (by exact res1 rfl (by exact (rsiY S.out))) rfl ⟨_, _, _, rfl, (MCells.mats (ms := [⟨r9, c9, x9⟩]) (S.out.box _ (List.Mem.head _)) ⟨rfl, rfl, S.out.grp.o0, MCells.nil⟩), S.out.rdr.mono (by omega) HP, S.out.mod⟩
        · have n2 : ((x7 : Int) == 2) = false := by simp; omega
          go_wp2_with (first | (refine ldiY S.out ?_) | (refine ldMs S.out ?_) | (refine ldI S.out ?_) | (refine stiY S.out ?_; clear S; intro w9 S) | (refine stMs S.out ?_; clear S; intro w9 S) | (refine stI S.out ?_; clear S; intro w9 S) | (refine wpList_want rfl rfl ?_; dsimp only) | fail)
          (with_reducible refine (pick g _ 2 (HP.le (by omega)) _ S.out.rdr).mono ?_)
          rintro e u9 ⟨v7, rfl, ⟨x8, rfl, h8, -⟩, hr7, hm7⟩
          replace S := Kept.mk (S.out.read hr7 hm7)
          clear hr7 hm7
          have l8 : (x8 : Int) < 2 := h8 (by omega)
          clear h8
          have w1 : wrap64 (2 * (x8 : Int)) = 2 * (x8 : Int) := by unfold wrap64; omega
          have w2 : wrap64 (1 + 2 * (x8 : Int)) = 1 + 2 * (x8 : Int) := by unfold wrap64; omega
          go_wp2_with (first | (refine ldiY S.out ?_) | (refine ldMs S.out ?_) | (refine ldI S.out ?_) | (refine stiY S.out ?_; clear S; intro w9 S) | (refine stMs S.out ?_; clear S; intro w9 S) | (refine stI S.out ?_; clear S; intro w9 S) | (refine wpList_want rfl rfl ?_; dsimp only) | fail)
          exact bodyPost_ret (v := .agg #[.int .i64 (1 + 2 * (x8 : Int)), .slice none 0 0]) (by exact res1 rfl (by exact (rsiY S.out))) rfl ⟨_, _, _, rfl, Mats.nil _ _ _, S.out.rdr.mono (by omega) HP, S.out.mod⟩
set_option maxHeartbeats 6000000 in
set_option maxRecDepth 4000 in
theorem lay20_3 (g P R C : Nat) (hR : Sd R) (hC : Sd C) (HP : Room (P + 60000)) (w : World) (hr : Rdr g P w) : Calls Try.prog 48 #[.pointer (some ⟨g, 0, none⟩), .int .i64 3, .int .i64 R, .int .i64 C, .int .i64 2] w (LayD g (P + 60000) w) := by
  have S := Kept.mk (St.startR hr)
  clear hr
  go_enter Try.func48, Try.ntmps48
  go_wp2_with (first | (refine aliY (L := []) S.out ?_; clear S; intro b10 w9 S) | (refine aliY (L := [_]) S.out ?_; clear S; intro b11 w9 S) | (refine ldiY S.out ?_) | (refine ldMs S.out ?_) | (refine ldI S.out ?_) | (refine stiY S.out ?_; clear S; intro w9 S) | (refine stMs S.out ?_; clear S; intro w9 S) | (refine stI S.out ?_; clear S; intro w9 S) | (refine wpList_want rfl rfl ?_; dsimp only) | fail)
  (with_reducible refine (mat20 g _ C C 0 hC hC ⟨by omega, by omega⟩ (HP.le (by omega)) _ S.out.rdr).mono ?_)
  rintro e u9 ⟨v7, rfl, ⟨r0, c0, v0, x0, rfl, o0, l0⟩, hr7, hm7⟩
  replace S := Kept.mk (S.out.madeR o0 hr7 hm7)
  clear hr7 hm7
  obtain ⟨p0, m0, hu9, -, -⟩ := id o0.ints
  try simp only at hu9
  subst hu9
  clear o0
  go_wp2_with (first | (refine ldiY S.out ?_) | (refine ldMs S.out ?_) | (refine ldI S.out ?_) | (refine stiY S.out ?_; clear S; intro w9 S) | (refine stMs S.out ?_; clear S; intro w9 S) | (refine stI S.out ?_; clear S; intro w9 S) | (refine wpList_want rfl rfl ?_; dsimp only) | fail)
  (with_reducible refine (mat20 g _ C C 0 hC hC ⟨by omega, by omega⟩ (HP.le (by omega)) _ S.out.rdr).mono ?_)
  rintro e u9 ⟨v7, rfl, ⟨r1, c1, v1, x1, rfl, o1, l1⟩, hr7, hm7⟩
  replace S := Kept.mk (S.out.madeR o1 hr7 hm7)
  clear hr7 hm7
  obtain ⟨p1, m1, hu9, -, -⟩ := id o1.ints
  try simp only at hu9
  subst hu9
  clear o1
  go_wp2_with (first | (refine ldiY S.out ?_) | (refine ldMs S.out ?_) | (refine ldI S.out ?_) | (refine stiY S.out ?_; clear S; intro w9 S) | (refine stMs S.out ?_; clear S; intro w9 S) | (refine stI S.out ?_; clear S; intro w9 S) | (refine wpList_want rfl rfl ?_; dsimp only) | fail)
  (with_reducible refine (mat20 g _ C C 0 hC hC ⟨by omega, by omega⟩ (HP.le (by omega)) _ S.out.rdr).mono ?_)
  rintro e u9 ⟨v7, rfl, ⟨r2, c2, v2, x2, rfl, o2, l2⟩, hr7, hm7⟩
  replace S := Kept.mk (S.out.madeR o2 hr7 hm7)
  clear hr7 hm7
  obtain ⟨p2, m2, hu9, -, -⟩ := id o2.ints
  try simp only at hu9
  subst hu9
  clear o2
  go_wp2_with (first | (refine stMs (S.out.alloc 25 [.int .i64 r0, .int .i64 c0, .slice p0 x0.length m0, .int .i64 r1, .int .i64 c1, .slice p1 x1.length m1, .int .i64 r2, .int .i64 c2, .slice p2 x2.length m2]) ?_; clear S; intro w9 S; generalize u9.heap.size = b12 at *) | (refine ldiY S.out ?_) | (refine ldMs S.out ?_) | (refine ldI S.out ?_) | (refine stiY S.out ?_; clear S; intro w9 S) | (refine stMs S.out ?_; clear S; intro w9 S) | (refine stI S.out ?_; clear S; intro w9 S) | (refine wpList_want rfl rfl ?_; dsimp only) | fail)
  (with_reducible refine (odd g _ 2 ⟨by omega, by omega⟩ (HP.le (by omega)) _ S.out.rdr).mono ?_)
  rintro e u9 ⟨v7, rfl, ⟨b7, rfl⟩, hr7, hm7⟩
  replace S := Kept.mk (S.out.read hr7 hm7)
  clear hr7 hm7
  cases b7
  · go_wp2_with (first | (refine ldiY S.out ?_) | (refine ldMs S.out ?_) | (refine ldI S.out ?_) | (refine stiY S.out ?_; clear S; intro w9 S) | (refine stMs S.out ?_; clear S; intro w9 S) | (refine stI S.out ?_; clear S; intro w9 S) | (refine wpList_want rfl rfl ?_; dsimp only) | fail)
    exact bodyPost_ret (v := .agg #[.int .i64 3, .slice (some ⟨b12, 0, none⟩) 3 3]) (by exact res1 rfl (by exact (rsiY S.out))) rfl ⟨_, _, _, rfl, (MCells.mats (ms := [⟨r0, c0, x0⟩, ⟨r1, c1, x1⟩, ⟨r2, c2, x2⟩]) (S.out.box _ (List.Mem.head _)) ⟨rfl, rfl, S.out.grp.o2, ⟨rfl, rfl, S.out.grp.o1, ⟨rfl, rfl, S.out.grp.o0, MCells.nil⟩⟩⟩), S.out.rdr.mono (by omega) HP, S.out.mod⟩
  · go_wp2_with (first | (refine ldiY S.out ?_) | (refine ldMs S.out ?_) | (refine ldI S.out ?_) | (refine stiY S.out ?_; clear S; intro w9 S) | (refine stMs S.out ?_; clear S; intro w9 S) | (refine stI S.out ?_; clear S; intro w9 S) | (refine wpList_want rfl rfl ?_; dsimp only) | fail)
    (with_reducible refine (pick g _ 4 (HP.le (by omega)) _ S.out.rdr).mono ?_)
    rintro e u9 ⟨v7, rfl, ⟨x7, rfl, h7, -⟩, hr7, hm7⟩
    replace S := Kept.mk (S.out.read hr7 hm7)
    clear hr7 hm7
    have l7 : (x7 : Int) < 4 := h7 (by omega)
    clear h7
    by_cases e0 : x7 = 0
    · subst e0
      go_wp2_with (first | (refine ldiY S.out ?_) | (refine ldMs S.out ?_) | (refine ldI S.out ?_) | (refine stiY S.out ?_; clear S; intro w9 S) | (refine stMs S.out ?_; clear S; intro w9 S) | (refine stI S.out ?_; clear S; intro w9 S) | (refine wpList_want rfl rfl ?_; dsimp only) | fail)
      replace S := Kept.mk (S.out.alloc 3 [.int .i64 0, .int .i64 4])
      (with_reducible refine (pick g _ 2 (HP.le (by omega)) _ S.out.rdr).mono ?_)
      rintro e u9 ⟨v7, rfl, ⟨x8, rfl, h8, -⟩, hr7, hm7⟩
      replace S := Kept.mk (S.out.read hr7 hm7)
      clear hr7 hm7
      have l8 : (x8 : Int) < 2 := h8 (by omega)
      clear h8
      obtain ⟨y, hy⟩ := Blk.intAt (cs := [0, 4]) (S.out.box _ (List.Mem.head _)).1 (x := x8) (by show x8 < 2; omega)
      replace S := Kept.mk (S.out.boxes (List.sublist_cons_self _ _))
      go_wp2_with (first | (refine ldiY S.out ?_) | (refine ldMs S.out ?_) | (refine ldI S.out ?_) | (refine stiY S.out ?_; clear S; intro w9 S) | (refine stMs S.out ?_; clear S; intro w9 S) | (refine stI S.out ?_; clear S; intro w9 S) | (refine wpList_want rfl rfl ?_; dsimp only) | fail)
      exact bodyPost_ret (v := .agg #[.int .i64 y, .slice (some ⟨b12, 0, none⟩) 3 3]) (by exact res1 rfl (by exact (rsiY S.out))) rfl ⟨_, _, _, rfl, (MCells.mats (ms := [⟨r0, c0, x0⟩, ⟨r1, c1, x1⟩, ⟨r2, c2, x2⟩]) (S.out.box _ (List.Mem.head _)) ⟨rfl, rfl, S.out.grp.o2, ⟨rfl, rfl, S.out.grp.o1, ⟨rfl, rfl, S.out.grp.o0, MCells.nil⟩⟩⟩), S.out.rdr.mono (by omega) HP, S.out.mod⟩
    · have n0 : ((x7 : Int) == 0) = false := by simp; omega
      by_cases e1 : x7 = 1
      · subst e1
        go_wp2_with (first | (refine ldiY S.out ?_) | (refine ldMs S.out ?_) | (refine ldI S.out ?_) | (refine stiY S.out ?_; clear S; intro w9 S) | (refine stMs S.out ?_; clear S; intro w9 S) | (refine stI S.out ?_; clear S; intro w9 S) | (refine wpList_want rfl rfl ?_; dsimp only) | fail)
        have hlt := S.out.rdr.lt
        apply wp_region_zipJ (Mod.rel g) (fun m w' => Rdr g (P + 6000 + 6000 + 6000 + 1 + 1 + 6000 * (5 - m)) w') [isv _, isv _, isv _, mtG hlt, s1G hlt] _ ?hJ (by kernel_rfl)
        case hJ => exact (S.out.rdr.keep ⟨rfl, rfl, rfl, Nat.le_refl _, fun _ _ => rfl⟩).mono (by first | (simp; done) | (simp; omega) | omega) (HP.le (by first | (simp; done) | (simp; omega) | omega))
        case hA => intro V; simp [putAll, dstOf, Act.put]; exact rfl
        case hsl => intro V; exact rfl
        case step =>
          intro V lo up w' hr m hm hj
          simp only [List.length_cons, List.length_nil, Nat.zero_add, Nat.reduceAdd] at hm
          have RJ : Rdr g (P + 6000 + 6000 + 6000 + 1 + 1 + 6000 * (5 - m)) w' := hj.mono (by omega) (HP.le (by omega))
          have S := Kept.mk (S.out.read RJ hr)
          simp only [zipOkJ, depsImp, isv, isP, mtG, s1G, waits, Region.binds, List.map_nil, List.map_cons, List.headD_cons, List.nil_append, List.cons_append, List.filterMap_cons, List.filterMap_nil, ↓reduceIte, modeNe, Bool.false_eq_true, true_implies, List.getD_cons_zero, List.getD_cons_succ, and_true]
          refine ⟨?_, ?_, ?_, ?_, ?_⟩
          · intros
            (try simp only [*])
            go_wp2_with (first | (refine ldMs S.out ?_) | (refine ldI S.out ?_) | (refine wpList_want rfl rfl ?_; dsimp only) | fail)
            refine stepQ_mk rfl (by simp only [List.getElem?_toArray, List.getElem?_cons_succ, List.getElem?_cons_zero]; exact rfl) ?_
            exact ⟨Mod.refl _ _, rfl, RJ⟩
          · intros
            (try simp only [*])
            go_wp2_with (first | (refine ldMs S.out ?_) | (refine ldI S.out ?_) | (refine wpList_want rfl rfl ?_; dsimp only) | fail)
            refine stepQ_mk rfl (by simp only [List.getElem?_toArray, List.getElem?_cons_succ, List.getElem?_cons_zero]; exact rfl) ?_
            exact ⟨Mod.refl _ _, rfl, RJ⟩
          · intros
            (try simp only [*])
            go_wp2_with (first | (refine ldMs S.out ?_) | (refine ldI S.out ?_) | (refine wpList_want rfl rfl ?_; dsimp only) | fail)
            refine stepQ_mk rfl (by simp only [List.getElem?_toArray, List.getElem?_cons_succ, List.getElem?_cons_zero]; exact rfl) ?_
            exact ⟨Mod.refl _ _, rfl, RJ⟩
          · intros
            (try simp only [*])
            go_wp2_with (fail)
            have hz := hr.size
            (with_reducible refine ((show Calls Try.prog 22 #[.pointer (some ⟨g, 0, none⟩), .int .i64 1, .int .i64 1, .int .i64 0] _ _ from mat20 g _ 1 1 0 ⟨by omega, by omega⟩ ⟨by omega, by omega⟩ ⟨by omega, by omega⟩ (HP.le (by omega)) _ hj)).mono ?_)
            rintro e w7 ⟨v7, rfl, ⟨ra, ca, va, xa, rfl, oa, la⟩, hr7, hm7⟩
            go_wp2
            refine stepQ_mk rfl (by simp only [List.getElem?_toArray, List.getElem?_cons_succ, List.getElem?_cons_zero]; exact rfl) ?_
            exact ⟨hm7, ⟨ra, ca, va, xa, rfl, oa.mono hz, la⟩, hr7.mono (by omega) (HP.le (by omega))⟩
          · intro _ _ _ ⟨ra, ca, va, xa, e3, oa, la⟩
            obtain ⟨pa, ma, hu9, -, -⟩ := id oa.ints
            try simp only at hu9
            subst hu9
            intros
            (try simp only [*])
            go_wp2
            refine stepQ_mk rfl (by simp only [List.getElem?_toArray, List.getElem?_cons_succ, List.getElem?_cons_zero]; exact rfl) ?_
            exact ⟨Mod.of_ext ((Ext.refl _).alloc _), ⟨ra, ca, _, xa, rfl, Blk.new _ _ _, oa.keep ((Ext.refl _).alloc _), fun e => by have := (oa.block _ e).2; omega⟩, RJ.keep ((Ext.refl _).alloc _)⟩
        case hB => kernel_rfl
        case fin =>
          intro V lo up w' hr hj hf ha
          simp only [factsOk, isv, isP, mtG, s1G, List.map_nil, List.map_cons, List.headD_cons, and_true, Nat.zero_add, Nat.reduceAdd] at hf
          simp only [List.length_cons, List.length_nil, Nat.zero_add, Nat.reduceAdd, List.drop_succ_cons, List.drop_zero]
          obtain ⟨-, ⟨-, -, -, e1⟩, -, -, ⟨lo4, -, -, ra, ca, va, xa, e4, k4, oa, na⟩⟩ := hf
          clear ha
          have RJ : Rdr g (P + 6000 + 6000 + 6000 + 1 + 1 + 30000) w' := hj.mono (by omega) (HP.le (by omega))
          clear hj
          rw [e1, e4]
          clear e1 e4
          generalize lo 4 = b14 at *
          obtain ⟨pa, ma, hu9, -, -⟩ := id oa.ints
          try simp only at hu9
          subst hu9
          have T := S.out.read RJ hr
          have S8 := S.out.more (m := P + 60000) (by omega) HP
          have T8 := T.more (m := P + 60000) (by omega) HP
          replace S := Kept.mk (S8.grow T8 [⟨b14, 25, [.int .i64 ra, .int .i64 ca, .slice pa xa.length ma]⟩] (fun p hp => by rw [List.mem_singleton] at hp; subst hp; exact ⟨k4, lo4⟩) (by simp) (Grp.one oa) (fun p hp v hv => by rw [List.mem_singleton] at hp hv; subst hp hv; exact na))
          clear RJ hr T S8 T8 k4 lo4 oa na
          simp only [List.cons_append, List.nil_append] at S
          go_wp2_with (first | (at_builtin; refine apM (n := 3) S.out ?_; clear S; intro b15 cap15 rst w9 S; replace S := Kept.mk S; simp only [List.cons_append, List.nil_append] at S) | (refine ldiY S.out ?_) | (refine ldMs S.out ?_) | (refine ldI S.out ?_) | (refine stiY S.out ?_; clear S; intro w9 S) | (refine stMs S.out ?_; clear S; intro w9 S) | (refine stI S.out ?_; clear S; intro w9 S) | (refine wpList_want rfl rfl ?_; dsimp only) | fail)
          exact bodyPost_ret (v := .agg #[.int .i64 3, .slice (some ⟨b15, 0, none⟩) 4 cap15]) (by exact res1 rfl (by exact (rsiY S.out))) rfl ⟨_, _, _, rfl, (MCells.mats (ms := [⟨r0, c0, x0⟩, ⟨r1, c1, x1⟩, ⟨r2, c2, x2⟩, ⟨ra, ca, xa⟩]) (S.out.box _ (List.Mem.head _)) ⟨rfl, rfl, S.out.grp.o3, ⟨rfl, rfl, S.out.grp.o2, ⟨rfl, rfl, S.out.grp.o1, ⟨rfl, rfl, S.out.grp.o0, MCells.nil⟩⟩⟩⟩), S.out.rdr.mono (by omega) HP, S.out.mod⟩
      · have n1 : ((x7 : Int) == 1) = false := by simp; omega
        by_cases e2 : x7 = 2
        · subst e2
          go_wp2_with (first | (refine ldiY S.out ?_) | (refine ldMs S.out ?_) | (refine ldI S.out ?_) | (refine stiY S.out ?_; clear S; intro w9 S) | (refine stMs S.out ?_; clear S; intro w9 S) | (refine stI S.out ?_; clear S; intro w9 S) | (refine wpList_want rfl rfl ?_; dsimp only) | fail)
          (with_reducible refine ((show Calls Try.prog 22 #[.pointer (some ⟨g, 0, none⟩), .int .i64 2, .int .i64 2, .int .i64 1] _ _ from mat20 g _ 2 2 1 ⟨by omega, by omega⟩ ⟨by omega, by omega⟩ ⟨by omega, by omega⟩ (HP.le (by omega)) _ S.out.rdr)).mono ?_)
          rintro e u9 ⟨v7, rfl, ⟨r9, c9, v9, x9, rfl, o9, l9⟩, hr7, hm7⟩
          replace S := Kept.mk (S.out.madeR o9 hr7 hm7)
          clear hr7 hm7
          obtain ⟨p9, m9, hu9, -, -⟩ := id o9.ints
          try simp only at hu9
          subst hu9
          clear o9
          go_wp2_with (first | (refine stMs (S.out.alloc 25 [.int .i64 r9, .int .i64 c9, .slice p9 x9.length m9]) ?_; clear S; intro w9 S; generalize u9.heap.size = b13 at *) | (refine ldiY S.out ?_) | (refine ldMs S.out ?_) | (refine ldI S.out ?_) | (refine stiY S.out ?_; clear S; intro w9 S) | (refine stMs S.out ?_; clear S; intro w9 S) | (refine stI S.out ?_; clear S; intro w9 S) | (refine wpList_want rfl rfl ?_; dsimp only) | fail)
          exact bodyPost_ret (v := .agg #[.int .i64 3, .slice (some ⟨b13, 0, none⟩) 1 1]) (by exact res1 rfl (by exact (rsiY S.out))) rfl ⟨_, _, _, rfl, (MCells.mats (ms := [⟨r9, c9, x9⟩]) (S.out.box _ (List.Mem.head _)) ⟨rfl, rfl, S.out.grp.o0, MCells.nil⟩), S.out.rdr.mono (by omega) HP, S.out.mod⟩
        · have n2 : ((x7 : Int) == 2) = false := by simp; omega
          go_wp2_with (first | (refine ldiY S.out ?_) | (refine ldMs S.out ?_) | (refine ldI S.out ?_) | (refine stiY S.out ?_; clear S; intro w9 S) | (refine stMs S.out ?_; clear S; intro w9 S) | (refine stI S.out ?_; clear S; intro w9 S) | (refine wpList_want rfl rfl ?_; dsimp only) | fail)
          (with_reducible refine (pick g _ 2 (HP.le (by omega)) _ S.out.rdr).mono ?_)
          rintro e u9 ⟨v7, rfl, ⟨x8, rfl, h8, -⟩, hr7, hm7⟩
          replace S := Kept.mk (S.out.read hr7 hm7)
          clear hr7 hm7
          have l8 : (x8 : Int) < 2 := h8 (by omega)
          clear h8
          have w1 : wrap64 (2 * (x8 : Int)) = 2 * (x8 : Int) := by unfold wrap64; omega
          have w2 : wrap64 (1 + 2 * (x8 : Int)) = 1 + 2 * (x8 : Int) := by unfold wrap64; omega
          go_wp2_with (first | (refine ldiY S.out ?_) | (refine ldMs S.out ?_) | (refine ldI S.out ?_) | (refine stiY S.out ?_; clear S; intro w9 S) | (refine stMs S.out ?_; clear S; intro w9 S) | (refine stI S.out ?_; clear S; intro w9 S) | (refine wpList_want rfl rfl ?_; dsimp only) | fail)
          exact bodyPost_ret (v := .agg #[.int .i64 (1 + 2 * (x8 : Int)), .slice none 0 0]) (by exact res1 rfl (by exact (rsiY S.out))) rfl ⟨_, _, _, rfl, Mats.nil _ _ _, S.out.rdr.mono (by omega) HP, S.out.mod⟩
theorem lay20 (g P k R C : Nat) (hk : Sd k) (hk3 : k ≤ 3) (hR : Sd R) (hC : Sd C) (HP : Room (P + 60000)) (w : World) (hr : Rdr g P w) : Calls Try.prog 48 #[.pointer (some ⟨g, 0, none⟩), .int .i64 k, .int .i64 R, .int .i64 C, .int .i64 2] w (LayD g (P + 60000) w) := by
  have h := hk.lo
  obtain rfl | rfl | rfl : k = 1 ∨ k = 2 ∨ k = 3 := by omega
  · exact lay20_1 g P R C hR hC HP w hr
  · exact lay20_2 g P R C hR hC HP w hr
  · exact lay20_3 g P R C hR hC HP w hr

end Go.Proofs.Ytpbnbhiffnnliaa
