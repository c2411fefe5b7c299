/- What DrawMakeMatrixTriple returns. -/
import Derived.Test.YtijbfkiljkpebaaStT
import Derived.Test.YtijbfkiljkpebaaSideD
import Derived.Test.YtijbfkiljkpebaaDraw5
namespace Go.Proofs.Ytijbfkiljkpebaa
set_option linter.unusedSimpArgs false
set_option linter.unusedVariables false
open Go.RowKit

set_option maxHeartbeats 2000000 in
theorem spec_DrawMakeMatrixTriple (v : Value) (w : World) (hb : Bytes w v) : Calls Try.prog 26 #[v] w fun e w' => ∃ r k c s : Int, e = .returned (.tuple #[.int .i64 r, .int .i64 k, .int .i64 c, .int .i64 s]) ∧ Ext w w' := by
  have S := Kept.mk (St.start w)
  have HP : Room 100 := ⟨by omega⟩
  go_enter Try.func26, Try.ntmps26
  go_wp2_with (fail)
  (with_reducible refine (open' _ _ (hb.ext S.out.ext)).mono ?_)
  rintro e w1 ⟨g, rfl, hg, hr1, hx1⟩
  have O := S
  replace S := Kept.mk (St.startR hr1)
  clear hr1
  go_wp2_with (fail)
  (with_reducible refine (odd g _ 6 ⟨by omega, by omega⟩ (HP.le (by omega)) _ S.out.rdr).mono ?_)
  rintro e u9 ⟨v7, rfl, ⟨b7, rfl⟩, hr7, hm7⟩
  replace S := Kept.mk (S.out.read hr7 hm7)
  clear hr7 hm7
  cases b7
  · go_wp2_with (fail)
    (with_reducible refine (side20 g _ (HP.le (by omega)) _ S.out.rdr).mono ?_)
    rintro e u9 ⟨v7, rfl, ⟨n0, rfl, -⟩, hr7, hm7⟩
    replace S := Kept.mk (S.out.read hr7 hm7)
    clear hr7 hm7
    go_wp2_with (fail)
    (with_reducible refine (side20 g _ (HP.le (by omega)) _ S.out.rdr).mono ?_)
    rintro e u9 ⟨v7, rfl, ⟨n1, rfl, -⟩, hr7, hm7⟩
    replace S := Kept.mk (S.out.read hr7 hm7)
    clear hr7 hm7
    go_wp2_with (fail)
    (with_reducible refine (side20 g _ (HP.le (by omega)) _ S.out.rdr).mono ?_)
    rintro e u9 ⟨v7, rfl, ⟨n2, rfl, -⟩, hr7, hm7⟩
    replace S := Kept.mk (S.out.read hr7 hm7)
    clear hr7 hm7
    go_wp2_with (fail)
    (with_reducible refine (seed20 g _ 9 ⟨by omega, by omega⟩ (HP.le (by omega)) _ S.out.rdr).mono ?_)
    rintro e u9 ⟨v7, rfl, ⟨s, rfl, -⟩, hr7, hm7⟩
    replace S := Kept.mk (S.out.read hr7 hm7)
    clear hr7 hm7
    go_wp2
    exact bodyPost_ret (v := .tuple #[.int .i64 n0, .int .i64 n1, .int .i64 n2, .int .i64 s]) (by exact res4 rfl rfl rfl rfl rfl) rfl ⟨_, _, _, _, rfl, Mod.ext (O.out.ext.trans hx1) S.out.mod (Nat.le_trans O.out.size hg)⟩
  · go_wp2_with (fail)
    (with_reducible refine (pick g _ 7 (HP.le (by omega)) _ S.out.rdr).mono ?_)
    rintro e u9 ⟨v7, rfl, ⟨n0, rfl, -, -⟩, hr7, hm7⟩
    replace S := Kept.mk (S.out.read hr7 hm7)
    clear hr7 hm7
    go_wp2_with (fail)
    (with_reducible refine (pick g _ 7 (HP.le (by omega)) _ S.out.rdr).mono ?_)
    rintro e u9 ⟨v7, rfl, ⟨n1, rfl, -, -⟩, hr7, hm7⟩
    replace S := Kept.mk (S.out.read hr7 hm7)
    clear hr7 hm7
    go_wp2_with (fail)
    (with_reducible refine (pick g _ 7 (HP.le (by omega)) _ S.out.rdr).mono ?_)
    rintro e u9 ⟨v7, rfl, ⟨n2, rfl, -, -⟩, hr7, hm7⟩
    replace S := Kept.mk (S.out.read hr7 hm7)
    clear hr7 hm7
    go_wp2_with (fail)
    (with_reducible refine (seed20 g _ 6 ⟨by omega, by omega⟩ (HP.le (by omega)) _ S.out.rdr).mono ?_)
    rintro e u9 ⟨v7, rfl, ⟨s, rfl, -⟩, hr7, hm7⟩
    replace S := Kept.mk (S.out.read hr7 hm7)
    clear hr7 hm7
    go_wp2
    exact bodyPost_ret (v := .tuple #[.int .i64 n0, .int .i64 n1, .int .i64 n2, .int .i64 s]) (by exact res4 rfl rfl rfl rfl rfl) rfl ⟨_, _, _, _, rfl, Mod.ext (O.out.ext.trans hx1) S.out.mod (Nat.le_trans O.out.size hg)⟩
end Go.Proofs.Ytijbfkiljkpebaa
