/- Proved: the law FnMaxShared answers true for every input. No condition. -/
import Derived.Test.YtbkallacblkmpaaRows
import Derived.Test.YtbkallacblkmpaaMaxL
import Derived.Test.YtbkallacblkmpaaDrawLs
import Derived.Test.YtbkallacblkmpaaOpen
import Derived.ChangeSlices
import Derived.Test.YtbkallacblkmpaaOpen
import Derived.ChangeOld
import Derived.Carry
namespace Go.Proofs.Ytbkallacblkmpaa
set_option linter.unusedSimpArgs false
set_option linter.unusedVariables false
open Go.ChangeShapes Go.WideShapes Go.ChangeAt Go.RowKit Go.Joins
set_option linter.unusedVariables false
theorem own : ownKnob Try.prog.godebug = none := by kernel_rfl
theorem laidOut : laidOutB Try.prog = true := by kernel_rfl

theorem laws_alive (w : World) : Calls Try.prog 12 #[] w fun e w' => e = .returned (.bool true) ∧ w = w' := by
  go_enter Try.func12, Try.ntmps12
  go_wp2_with (go_at_call 41; (with_reducible refine (impl_RingValid 5 true (by decide) _).mono ?_); rintro e w1 ⟨rfl, rfl⟩)
  go_ret
  exact ⟨rfl, rfl⟩
set_option maxHeartbeats 4000000 in
set_option maxRecDepth 2000 in
theorem walk_FnMaxShared (v : Value) (w : World) (hb : Bytes w v) : Calls Try.prog 7 #[v] w fun e w' => e = .returned (.bool true) ∧ Ext w w' := by
  obtain ⟨a, n, cap, rfl, hn, hm, hc⟩ := id hb
  clear hc
  have HB := Kept.mk hb; clear hb
  by_cases hl : (n : Int) ≤ 1048576
  · go_enter Try.func7, Try.ntmps7
    go_wp2_with (fail)
    (with_reducible refine (spec_DrawMaxShared _ _ HB.out).mono ?_)
    rintro e w1 ⟨x, y, p, q, s, rfl, hx1⟩
    clear hl
    cases hk : lsOk x y p q s
    · have z1 : mxF x y p q s = -1 := by simp [mxF, hk]
      have z2 : mxL x y p q s = -1 := by simp [mxL, hk]
      have z3 : mxO x y p q s = [] := by simp [mxO, hk]
      have z4 : mxN x y p q s = 0 := by simp [mxN, hk]
      have Mimpl := impl_MaxShared x y p q s
      unfold MaxPost at Mimpl
      rw [z1, z2, z3, z4] at Mimpl
      replace Mimpl := Kept.mk Mimpl
      have Mspec := spec_MaxShared x y p q s
      unfold MaxPost at Mspec
      rw [z1, z2, z3, z4] at Mspec
      replace Mspec := Kept.mk Mspec
      clear z1 z2 z3 z4
      clear hk
      have hx := hx1
      clear hx1
      have kX := Blk.new w1 #[.int .i64 x, .int .i64 y] 27
      replace hx := hx.alloc (.cells #[.int .i64 x, .int .i64 y] 27)
      have kY := Blk.new (w1.alloc (.cells #[.int .i64 x, .int .i64 y] 27)) #[.int .i64 p, .int .i64 q] 27
      replace kX := kX.old (.cells #[.int .i64 p, .int .i64 q] 27)
      replace hx := hx.alloc (.cells #[.int .i64 p, .int .i64 q] 27)
      simp only [World.size_alloc] at kY
      obtain ⟨x0, x1⟩ := kX.two
      obtain ⟨y0, y1⟩ := kY.two
      go_wp2_with (fail)
      (with_reducible refine (Mimpl.out _).mono ?_)
      rintro e w2 ⟨sI, rfl, oI, x2⟩
      clear x0 x1 y0 y1
      replace kX := kX.keep x2
      replace kY := kY.keep x2
      replace hx := hx.trans x2
      clear x2
      obtain ⟨pI, mI, hh, -, -⟩ := id oI.ints
      simp only [List.length_nil] at hh
      subst hh
      have oI := oI.keep ((Ext.refl w2).alloc (.cells #[.int .i64 (-1), .int .i64 (-1)] 27))
      have kI := Blk.new w2 #[.int .i64 (-1), .int .i64 (-1)] 27
      replace kX := kX.old (.cells #[.int .i64 (-1), .int .i64 (-1)] 27)
      replace kY := kY.old (.cells #[.int .i64 (-1), .int .i64 (-1)] 27)
      replace hx := hx.alloc (.cells #[.int .i64 (-1), .int .i64 (-1)] 27)
      obtain ⟨x0, x1⟩ := kX.two
      obtain ⟨y0, y1⟩ := kY.two
      go_wp2_with (fail)
      (with_reducible refine (Mspec.out _).mono ?_)
      rintro e w3 ⟨sS, rfl, oS, x3⟩
      clear x0 x1 y0 y1 Mimpl Mspec
      have lI := kI.lt
      replace kX := kX.keep x3
      replace kY := kY.keep x3
      replace kI := kI.keep x3
      replace oI := oI.keep x3
      replace hx := hx.trans x3
      clear x3
      obtain ⟨pS, mS, hh, -, -⟩ := id oS.ints
      simp only [List.length_nil] at hh
      subst hh
      have oI := oI.keep ((Ext.refl w3).alloc (.cells #[.int .i64 (-1), .int .i64 (-1)] 27))
      have oS := oS.keep ((Ext.refl w3).alloc (.cells #[.int .i64 (-1), .int .i64 (-1)] 27))
      have kS := Blk.new w3 #[.int .i64 (-1), .int .i64 (-1)] 27
      replace kX := kX.old (.cells #[.int .i64 (-1), .int .i64 (-1)] 27)
      replace kY := kY.old (.cells #[.int .i64 (-1), .int .i64 (-1)] 27)
      replace kI := kI.old (.cells #[.int .i64 (-1), .int .i64 (-1)] 27)
      replace hx := hx.alloc (.cells #[.int .i64 (-1), .int .i64 (-1)] 27)
      obtain ⟨i0, i1⟩ := kI.two
      obtain ⟨s0, s1⟩ := kS.two
      have OI := Kept.mk oI.ints
      have OS := Kept.mk oS.ints
      clear oI oS
      go_wp2_with (fail)
      (with_reducible refine (laws_sameInts _ _ [] _ OI.out OS.out).mono ?_)
      rintro e w4 ⟨rfl, x4⟩
      clear i0 i1 s0 s1 kS OI OS
      replace kX := kX.keep x4
      replace kY := kY.keep x4
      replace kI := kI.keep x4
      replace hx := hx.trans x4
      clear x4
      obtain ⟨i0, i1⟩ := kI.two
      have HX := Kept.mk hx
      clear hx
      go_wp2_with (go_at_call 12; (with_reducible refine (laws_alive _).mono ?_); rintro e w1 ⟨rfl, rfl⟩)
      go_ret
      exact ⟨rfl, HX.out⟩
    · obtain ⟨X, Y, Z, aX, aY, rX, rY, aZ, rZ, nZ, n0, hl⟩ := max_law hk
      have Mimpl := impl_MaxShared x y p q s
      unfold MaxPost at Mimpl
      replace Mimpl := Kept.mk Mimpl
      have Mspec := spec_MaxShared x y p q s
      unfold MaxPost at Mspec
      replace Mspec := Kept.mk Mspec
      clear hk
      generalize mxF x y p q s = F at *
      generalize mxL x y p q s = L at *
      generalize mxN x y p q s = N at *
      generalize mxO x y p q s = xs at *
      have e0 : (N == 0) = false := by simp; omega
      clear n0
      have JA : Kept (∀ w', Calls Try.prog 21 #[.agg #[.int .i64 x, .int .i64 y]] w' fun e w'' => e = .returned (.int .i64 X) ∧ Ext w' w'') := ⟨fun w' => aX ▸ impl_JoinShares x y w'⟩
      have JB : Kept (∀ w', Calls Try.prog 21 #[.agg #[.int .i64 p, .int .i64 q]] w' fun e w'' => e = .returned (.int .i64 Y) ∧ Ext w' w'') := ⟨fun w' => aY ▸ impl_JoinShares p q w'⟩
      have JC : Kept (∀ w', Calls Try.prog 21 #[.agg #[.int .i64 F, .int .i64 L]] w' fun e w'' => e = .returned (.int .i64 Z) ∧ Ext w' w'') := ⟨fun w' => aZ ▸ impl_JoinShares F L w'⟩
      have GA : Kept (∀ w', Calls Try.prog 20 #[.int .i64 X] w' fun e w'' => e = .returned (.int .i64 (sgn X)) ∧ w' = w'') := ⟨fun w' => sgnOf_rv rX ▸ impl_SignedOf X w'⟩
      have GB : Kept (∀ w', Calls Try.prog 20 #[.int .i64 Y] w' fun e w'' => e = .returned (.int .i64 (sgn Y)) ∧ w' = w'') := ⟨fun w' => sgnOf_rv rY ▸ impl_SignedOf Y w'⟩
      have GC : Kept (∀ w', Calls Try.prog 20 #[.int .i64 Z] w' fun e w'' => e = .returned (.int .i64 (sgn Z)) ∧ w' = w'') := ⟨fun w' => sgnOf_rv rZ ▸ impl_SignedOf Z w'⟩
      have bX := sgn_bd rX
      have bY := sgn_bd rY
      clear aX aY aZ rX rY rZ
      generalize sgn X = m at *
      generalize sgn Y = n at *
      generalize sgn Z = z at *
      have NZ := Kept.mk nZ
      have BX := Kept.mk bX
      have BY := Kept.mk bY
      clear nZ bX bY
      have E0 := Kept.mk e0
      clear e0
      have hx := hx1
      clear hx1
      have kX := Blk.new w1 #[.int .i64 x, .int .i64 y] 27
      replace hx := hx.alloc (.cells #[.int .i64 x, .int .i64 y] 27)
      have kY := Blk.new (w1.alloc (.cells #[.int .i64 x, .int .i64 y] 27)) #[.int .i64 p, .int .i64 q] 27
      replace kX := kX.old (.cells #[.int .i64 p, .int .i64 q] 27)
      replace hx := hx.alloc (.cells #[.int .i64 p, .int .i64 q] 27)
      simp only [World.size_alloc] at kY
      obtain ⟨x0, x1⟩ := kX.two
      obtain ⟨y0, y1⟩ := kY.two
      go_wp2_with (fail)
      (with_reducible refine (Mimpl.out _).mono ?_)
      rintro e w2 ⟨sI, rfl, oI, x2⟩
      clear x0 x1 y0 y1
      replace kX := kX.keep x2
      replace kY := kY.keep x2
      replace hx := hx.trans x2
      clear x2
      obtain ⟨pI, mI, hh, -, -⟩ := id oI.ints
      rw [hl] at hh
      subst hh
      have oI := oI.keep ((Ext.refl w2).alloc (.cells #[.int .i64 F, .int .i64 L] 27))
      have kI := Blk.new w2 #[.int .i64 F, .int .i64 L] 27
      replace kX := kX.old (.cells #[.int .i64 F, .int .i64 L] 27)
      replace kY := kY.old (.cells #[.int .i64 F, .int .i64 L] 27)
      replace hx := hx.alloc (.cells #[.int .i64 F, .int .i64 L] 27)
      obtain ⟨x0, x1⟩ := kX.two
      obtain ⟨y0, y1⟩ := kY.two
      go_wp2_with (fail)
      (with_reducible refine (Mspec.out _).mono ?_)
      rintro e w3 ⟨sS, rfl, oS, x3⟩
      clear x0 x1 y0 y1 Mimpl Mspec
      have lI := kI.lt
      replace kX := kX.keep x3
      replace kY := kY.keep x3
      replace kI := kI.keep x3
      replace oI := oI.keep x3
      replace hx := hx.trans x3
      clear x3
      obtain ⟨pS, mS, hh, -, -⟩ := id oS.ints
      rw [hl] at hh
      subst hh
      have oI := oI.keep ((Ext.refl w3).alloc (.cells #[.int .i64 F, .int .i64 L] 27))
      have oS := oS.keep ((Ext.refl w3).alloc (.cells #[.int .i64 F, .int .i64 L] 27))
      have kS := Blk.new w3 #[.int .i64 F, .int .i64 L] 27
      replace kX := kX.old (.cells #[.int .i64 F, .int .i64 L] 27)
      replace kY := kY.old (.cells #[.int .i64 F, .int .i64 L] 27)
      replace kI := kI.old (.cells #[.int .i64 F, .int .i64 L] 27)
      replace hx := hx.alloc (.cells #[.int .i64 F, .int .i64 L] 27)
      obtain ⟨i0, i1⟩ := kI.two
      obtain ⟨s0, s1⟩ := kS.two
      have OI := Kept.mk oI.ints
      have OS := Kept.mk oS.ints
      clear oI oS
      go_wp2_with (fail)
      (with_reducible refine (laws_sameInts _ _ xs _ OI.out OS.out).mono ?_)
      rintro e w4 ⟨rfl, x4⟩
      clear i0 i1 s0 s1 kS OI OS
      replace kX := kX.keep x4
      replace kY := kY.keep x4
      replace kI := kI.keep x4
      replace hx := hx.trans x4
      clear x4
      obtain ⟨i0, i1⟩ := kI.two
      obtain ⟨x0, x1⟩ := kX.two
      have e0 := E0.out
      clear hl
      go_wp2_with (fail)
      (with_reducible refine (JA.out _).mono ?_)
      rintro e w14 ⟨rfl, x14⟩
      clear x0 x1 i0 i1 e0 E0
      replace kX := kX.keep x14
      replace kY := kY.keep x14
      replace kI := kI.keep x14
      replace hx := hx.trans x14
      clear x14
      go_wp2_with (fail)
      (with_reducible refine (GA.out _).mono ?_)
      rintro e w15 ⟨rfl, rfl⟩
      obtain ⟨y0, y1⟩ := kY.two
      go_wp2_with (fail)
      (with_reducible refine (JB.out _).mono ?_)
      rintro e w16 ⟨rfl, x16⟩
      clear y0 y1
      replace kI := kI.keep x16
      replace hx := hx.trans x16
      clear x16
      go_wp2_with (fail)
      (with_reducible refine (GB.out _).mono ?_)
      rintro e w17 ⟨rfl, rfl⟩
      clear JA JB GA GB kX kY lI
      obtain ⟨⟨b1, b2⟩, b3, b4⟩ := And.intro BX.out BY.out
      clear BX BY
      have HX := Kept.mk hx
      clear hx
      obtain ⟨i0, i1⟩ := kI.two
      clear kI
      by_cases c1 : 2 * (m - n) < 4096
      · by_cases c2 : 2 * (n - m) < 4096
        · have zz := NZ.out c1 c2
          clear NZ
          go_wp2_with (fail)
          (with_reducible refine (JC.out _).mono ?_)
          rintro e w18 ⟨rfl, x18⟩
          clear JC i0 i1
          go_wp2_with (fail)
          (with_reducible refine (GC.out _).mono ?_)
          rintro e w19 ⟨rfl, rfl⟩
          clear GC
          by_cases c3 : m < n
          · rw [if_pos c3] at zz
            subst zz
            go_wp2
            go_ret
            exact ⟨by first | rfl | (simp; omega) | (simp [c3]), HX.out.trans x18⟩
          · rw [if_neg c3] at zz
            subst zz
            go_wp2
            go_ret
            exact ⟨by first | rfl | (simp; omega) | (simp [c3]), HX.out.trans x18⟩
        · clear NZ JC GC
          go_wp2
          go_ret
          exact ⟨by first | rfl | simp, HX.out⟩
      · clear NZ JC GC
        go_wp2
        go_ret
        exact ⟨by first | rfl | simp, HX.out⟩
  · have hl' : ¬ (n : Int) ≤ 1048576 := hl
    have hg : (1048576 : Int) < n := by omega
    clear hl
    go_enter Try.func7, Try.ntmps7
    go_wp2_with (fail)
    go_ret
    exact ⟨rfl, Ext.refl _⟩
theorem add_at (b o i : Nat) : (⟨b, o, none⟩ : Addr).add i = ⟨b, o + i, none⟩ := by
  unfold Addr.add; by_cases h : i = 0
  · subst h; rfl
  · rw [if_neg h]
theorem cell_lt {w : World} {b o : Nat} {v : Value} (h : w.cell? ⟨b, o, none⟩ = some v) : b < w.heap.size := by
  apply Classical.byContradiction
  intro hn
  have : w.heap[b]? = none := by simp; omega
  simp [World.cell?, this] at h
theorem bytes_of {H : Type} {enc : TypeId × Value → H} {w : World} {base : Nat} {held : Bool} {t e : TypeId} {fuel : Nat} {a : Option Addr} {len cap : Nat} {x : DataW H × List MemPlace} (ht : Try.prog.underlying t = some (.slice e)) (he : Try.prog.underlying e = some (.int .u8)) (hc : Try.prog.cellsOf e = 1)
    (h : DataW.trod enc Try.prog w base (fun _ => true) held fuel t (Value.slice a len cap).cells.toList = some x) : Bytes w (.slice a len cap) := by
  rcases open_ints ht he hc h with ⟨hcs, _⟩ | ⟨x, l, c, zs, hcs, _, hl, hm, hz, _, hcell, hwz⟩
  · simp [Value.cells] at hcs
    obtain ⟨rfl, rfl, rfl⟩ := hcs
    exact ⟨none, 0, 0, rfl, Nat.le_refl _, by omega, fun i hi => absurd hi (Nat.not_lt_zero _)⟩
  · simp [Value.cells] at hcs
    obtain ⟨rfl, rfl, rfl⟩ := hcs
    have hz' : zs.length = cap := by simpa using hz
    refine ⟨some x, len, cap, rfl, hl, by unfold maxLen at hm; omega, fun i hi => ?_⟩
    have hci := hcell i (by omega)
    obtain ⟨b, off, spot⟩ := x
    have hspot : spot = none := by
      have h0 := hcell 0 (by omega)
      simpa [Addr.add] using World.cell?_spot h0
    subst hspot
    rw [add_at] at hci
    have hwf := hwz (zs.getD i 0) (by
      have : i < zs.length := by omega
      simp [this])
    refine ⟨b, off, rfl, cell_lt hci, _, hci, ?_⟩
    have := bounds_u8 hwf
    omega

set_option maxRecDepth 100000 in
theorem lifted_FnMaxShared (os : Os) (started : os.Started) (H : Type) (enc : TypeId × Value → H) :
    ReturnsInHanded {} Try.checked os 7 .any (Rows.fnMaxSharedSpec.pre6 enc Try.prog Try.f7 Rows.fnMaxSharedRow.domain false) (Rows.fnMaxSharedSpec.post enc Try.prog Try.f7 false true false false) := by
  refine returnsInHanded_of_change (C := Try.checked) own started (by kernel_rfl) Try.func7
    (ChangeSpec.witness6 (enc := enc) (C := Try.checked) false ⟨#[], #[.slice none 0 0], []⟩ 8 (by kernel_rfl) (by kernel_rfl) (by kernel_rfl) (by kernel_rfl)) ?_
  intro W base args ds gs before hval0 hW hcnd _
  have hval : ∀ (j : Nat) t v, Try.f7.params[j]? = some t → args[j]? = some v → Value.okWide Try.prog W .any base t v := hval0
  have hW' := hW
  obtain ⟨p, q, hA0, hV, rfl, hfz, hnd⟩ := hW
  have hA : DataW.TrodAll enc Try.prog W 0 (fun _ => true) true Try.f7.params.toList args.toList ds p := hA0
  rw [Try.params7] at hA hval
  obtain ⟨v0, vs0, d0, ds0, p0, q0, hargs, rfl, rfl, h0, r0⟩ := trodAll_cons hA
  obtain ⟨rfl, rfl, rfl⟩ := trodAll_nil r0
  obtain rfl : args = #[v0] := by cases args; simp_all
  obtain ⟨rfl, rfl⟩ := trodVars_none hV
  have k0 := h0
  have lt0 : ∀ x ∈ p0, x.block < W.heap.size := by obtain ⟨m, hm⟩ := k0; exact DataW.trod_lt m _ _ _ hm
  obtain ⟨sa0, sl0, sc0, rfl⟩ := okWide_slice Try.underlying22 (hval 0 22 v0 rfl rfl)
  have by0 : Bytes W (.slice sa0 sl0 sc0) := by
    obtain ⟨fu, hf⟩ := h0
    exact bytes_of Try.underlying22 Try.underlying5 (by kernel_rfl) hf
  clear hA0 hval0
  refine (walk_FnMaxShared (.slice sa0 sl0 sc0) W by0).mono fun e W' ⟨he, bel⟩ => ?_
  subst he
  exact ⟨_, rfl, _, _, _, [], _, [], hW', trodAll_mk1 (shut_bool Try.underlying4 _), (trodAll_cons_mk (Below.trod laidOut (by kernel_rfl) (of_decide_eq_true (by kernel_rfl)) k0 bel lt0) trodAll_mk0), rfl, Below.frame bel _, fun h => by cases h⟩
theorem proved_FnMaxShared : Rows.FnMaxSharedSaid :=
  OpenClaim.holds_of_wide 7 Try.f7 rfl rfl rfl rfl rfl rfl rfl ⟨rfl, rfl, rfl, rfl, rfl⟩ rfl rfl rfl rfl rfl (by kernel_rfl) Try.func7 (by kernel_rfl)
    (of_decide_eq_true (by kernel_rfl)) (by unfold Func.isWrapper; rw [if_neg (of_decide_eq_false (by kernel_rfl))]; exact ⟨rfl, rfl⟩)
    (fun os started H enc _ => lifted_FnMaxShared os started H enc)
#print axioms proved_FnMaxShared

end Go.Proofs.Ytbkallacblkmpaa
