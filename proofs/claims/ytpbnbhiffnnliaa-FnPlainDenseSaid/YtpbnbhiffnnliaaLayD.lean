/- The reference's LayerValid at a dense layer of two matrices. -/
import Derived.Test.YtpbnbhiffnnliaaKF
import Derived.Test.YtpbnbhiffnnliaaSPair
import Derived.Test.YtpbnbhiffnnliaaDenT
import Derived.BigQuiet
namespace Go.Proofs.Ytpbnbhiffnnliaa
set_option linter.unusedSimpArgs false
set_option linter.unusedVariables false
open Go.RowKit

set_option maxHeartbeats 4000000 in
set_option maxRecDepth 4000 in
theorem spec_LayerValid2 (r c p q : Int) (v u : Value) (xs ys : List Int) (g : Nat) (b : Bool) (h : (mOk r c xs && mOk p q ys && decide (q = 1) && decide (p = r)) = b) (w : World) (hg : Blk w g #[.int .i64 r, .int .i64 c, v, .int .i64 p, .int .i64 q, u] 25) (h1 : Ints w v xs) (h2 : Ints w u ys) :
    Calls Try.prog 15 #[.agg #[.int .i64 1, .slice (some ⟨g, 0, none⟩) 2 2]] w fun e w' => e = .returned (.bool b) ∧ Ext w w' := by
  cases g1 : mOk r c xs
  · have hb : b = false := by rw [← h, g1]; simp
    subst hb
    clear h
    obtain ⟨s1, n1, rfl, hm1, hc1⟩ := id h1
    obtain ⟨s2, n2, rfl, hm2, hc2⟩ := id h2
    clear hm1 hc1 hm2 hc2
    have HV := Kept.mk h1
    have HU := Kept.mk h2
    have KG := Kept.mk hg
    clear h1 h2 hg
    have MA : Kept (∀ w', Ext w w' → Calls Try.prog 31 #[.agg #[.int .i64 r, .int .i64 c, .slice s1 xs.length n1]] w' fun e w'' => e = .returned (.bool false) ∧ Ext w' w'') := ⟨fun w' hx => g1 ▸ spec_MatrixValid _ _ _ xs w' (HV.out.keep hx)⟩
    clear g1
    have S := Kept.mk (St.start w)
    go_enter Try.func15, Try.ntmps15
    go_wp2_with (first | (refine bxiY (L := []) S.out ?_; clear S; intro bl w9 S) | (refine ldI S.out ?_) | (refine ldMs S.out ?_) | (refine ldiY S.out ?_) | (refine bxiY S.out ?_; clear S; intro b9 w9 S) | (refine wpList_want rfl rfl ?_; dsimp only) | fail)
    go_loopw [3] (fun i wr => ∃ k : Nat, k ≤ 2 ∧ i = .int .i64 k ∧ k ≤ 0 ∧ St none w wr [⟨bl, 42, [.int .i64 1, .slice (some ⟨g, 0, none⟩) 2 2]⟩] [] []) (fun i _ => 2 - (intOf i).toNat)
    case atStart => exact ⟨0, by omega, rfl, by omega, S.out⟩
    case round =>
      clear S
      obtain ⟨k, hk, rfl, hk9, S⟩ := hrel
      have S := Kept.mk S
      obtain rfl | rfl | rfl : k = 0 ∨ k = 1 ∨ k = 2 := by omega
      · obtain ⟨a0, a1, a2, a3, a4, a5⟩ := (KG.out.keep S.out.ext).sixC
        go_wp2_with (first | (refine bxiY (L := []) S.out ?_; clear S; intro bl w9 S) | (refine ldI S.out ?_) | (refine ldMs S.out ?_) | (refine ldiY S.out ?_) | (refine bxiY S.out ?_; clear S; intro b9 w9 S) | (refine wpList_want rfl rfl ?_; dsimp only) | fail)
        (with_reducible refine (MA.out _ S.out.ext).mono ?_)
        rintro e u9 ⟨rfl, x9⟩
        replace S := Kept.mk (S.out.quiet x9)
        clear x9
        go_wp2_with (first | (refine bxiY (L := []) S.out ?_; clear S; intro bl w9 S) | (refine ldI S.out ?_) | (refine ldMs S.out ?_) | (refine ldiY S.out ?_) | (refine bxiY S.out ?_; clear S; intro b9 w9 S) | (refine wpList_want rfl rfl ?_; dsimp only) | fail)
        go_ret
        exact ⟨rfl, S.out.ext⟩
      · omega
      · omega
  · cases g2 : mOk p q ys
    · have hb : b = false := by rw [← h, g1, g2]; simp
      subst hb
      clear h
      obtain ⟨s1, n1, rfl, hm1, hc1⟩ := id h1
      obtain ⟨s2, n2, rfl, hm2, hc2⟩ := id h2
      clear hm1 hc1 hm2 hc2
      have HV := Kept.mk h1
      have HU := Kept.mk h2
      have KG := Kept.mk hg
      clear h1 h2 hg
      have MA : Kept (∀ w', Ext w w' → Calls Try.prog 31 #[.agg #[.int .i64 r, .int .i64 c, .slice s1 xs.length n1]] w' fun e w'' => e = .returned (.bool true) ∧ Ext w' w'') := ⟨fun w' hx => g1 ▸ spec_MatrixValid _ _ _ xs w' (HV.out.keep hx)⟩
      have MB : Kept (∀ w', Ext w w' → Calls Try.prog 31 #[.agg #[.int .i64 p, .int .i64 q, .slice s2 ys.length n2]] w' fun e w'' => e = .returned (.bool false) ∧ Ext w' w'') := ⟨fun w' hx => g2 ▸ spec_MatrixValid _ _ _ ys w' (HU.out.keep hx)⟩
      clear g1 g2
      have S := Kept.mk (St.start w)
      go_enter Try.func15, Try.ntmps15
      go_wp2_with (first | (refine bxiY (L := []) S.out ?_; clear S; intro bl w9 S) | (refine ldI S.out ?_) | (refine ldMs S.out ?_) | (refine ldiY S.out ?_) | (refine bxiY S.out ?_; clear S; intro b9 w9 S) | (refine wpList_want rfl rfl ?_; dsimp only) | fail)
      go_loopw [3] (fun i wr => ∃ k : Nat, k ≤ 2 ∧ i = .int .i64 k ∧ k ≤ 1 ∧ St none w wr [⟨bl, 42, [.int .i64 1, .slice (some ⟨g, 0, none⟩) 2 2]⟩] [] []) (fun i _ => 2 - (intOf i).toNat)
      case atStart => exact ⟨0, by omega, rfl, by omega, S.out⟩
      case round =>
        clear S
        obtain ⟨k, hk, rfl, hk9, S⟩ := hrel
        have S := Kept.mk S
        obtain rfl | rfl | rfl : k = 0 ∨ k = 1 ∨ k = 2 := by omega
        · obtain ⟨a0, a1, a2, a3, a4, a5⟩ := (KG.out.keep S.out.ext).sixC
          go_wp2_with (first | (refine bxiY (L := []) S.out ?_; clear S; intro bl w9 S) | (refine ldI S.out ?_) | (refine ldMs S.out ?_) | (refine ldiY S.out ?_) | (refine bxiY S.out ?_; clear S; intro b9 w9 S) | (refine wpList_want rfl rfl ?_; dsimp only) | fail)
          (with_reducible refine (MA.out _ S.out.ext).mono ?_)
          rintro e u9 ⟨rfl, x9⟩
          replace S := Kept.mk (S.out.quiet x9)
          clear x9
          go_wp2_with (first | (refine bxiY (L := []) S.out ?_; clear S; intro bl w9 S) | (refine ldI S.out ?_) | (refine ldMs S.out ?_) | (refine ldiY S.out ?_) | (refine bxiY S.out ?_; clear S; intro b9 w9 S) | (refine wpList_want rfl rfl ?_; dsimp only) | fail)
          go_roundw
          case rel => exact ⟨1, by omega, rfl, by omega, S.out⟩
          case measure => simp [intOf]
        · obtain ⟨a0, a1, a2, a3, a4, a5⟩ := (KG.out.keep S.out.ext).sixC
          go_wp2_with (first | (refine bxiY (L := []) S.out ?_; clear S; intro bl w9 S) | (refine ldI S.out ?_) | (refine ldMs S.out ?_) | (refine ldiY S.out ?_) | (refine bxiY S.out ?_; clear S; intro b9 w9 S) | (refine wpList_want rfl rfl ?_; dsimp only) | fail)
          (with_reducible refine (MB.out _ S.out.ext).mono ?_)
          rintro e u9 ⟨rfl, x9⟩
          replace S := Kept.mk (S.out.quiet x9)
          clear x9
          go_wp2_with (first | (refine bxiY (L := []) S.out ?_; clear S; intro bl w9 S) | (refine ldI S.out ?_) | (refine ldMs S.out ?_) | (refine ldiY S.out ?_) | (refine bxiY S.out ?_; clear S; intro b9 w9 S) | (refine wpList_want rfl rfl ?_; dsimp only) | fail)
          go_ret
          exact ⟨rfl, S.out.ext⟩
        · omega
    · by_cases g3 : q = 1
      · by_cases g4 : p = r
        · have hb : b = true := by rw [← h, g1, g2]; simp [g3, g4]
          subst hb
          clear h
          subst g3
          subst g4
          obtain ⟨s1, n1, rfl, hm1, hc1⟩ := id h1
          obtain ⟨s2, n2, rfl, hm2, hc2⟩ := id h2
          clear hm1 hc1 hm2 hc2
          have HV := Kept.mk h1
          have HU := Kept.mk h2
          have KG := Kept.mk hg
          clear h1 h2 hg
          have MA : Kept (∀ w', Ext w w' → Calls Try.prog 31 #[.agg #[.int .i64 p, .int .i64 c, .slice s1 xs.length n1]] w' fun e w'' => e = .returned (.bool true) ∧ Ext w' w'') := ⟨fun w' hx => g1 ▸ spec_MatrixValid _ _ _ xs w' (HV.out.keep hx)⟩
          have MB : Kept (∀ w', Ext w w' → Calls Try.prog 31 #[.agg #[.int .i64 p, .int .i64 1, .slice s2 ys.length n2]] w' fun e w'' => e = .returned (.bool true) ∧ Ext w' w'') := ⟨fun w' hx => g2 ▸ spec_MatrixValid _ _ _ ys w' (HU.out.keep hx)⟩
          clear g1 g2
          have S := Kept.mk (St.start w)
          go_enter Try.func15, Try.ntmps15
          go_wp2_with (first | (refine bxiY (L := []) S.out ?_; clear S; intro bl w9 S) | (refine ldI S.out ?_) | (refine ldMs S.out ?_) | (refine ldiY S.out ?_) | (refine bxiY S.out ?_; clear S; intro b9 w9 S) | (refine wpList_want rfl rfl ?_; dsimp only) | fail)
          go_loopw [3] (fun i wr => ∃ k : Nat, k ≤ 2 ∧ i = .int .i64 k ∧  St none w wr [⟨bl, 42, [.int .i64 1, .slice (some ⟨g, 0, none⟩) 2 2]⟩] [] []) (fun i _ => 2 - (intOf i).toNat)
          case atStart => exact ⟨0, by omega, rfl, S.out⟩
          case round =>
            clear S
            obtain ⟨k, hk, rfl, S⟩ := hrel
            have S := Kept.mk S
            obtain rfl | rfl | rfl : k = 0 ∨ k = 1 ∨ k = 2 := by omega
            · obtain ⟨a0, a1, a2, a3, a4, a5⟩ := (KG.out.keep S.out.ext).sixC
              go_wp2_with (first | (refine bxiY (L := []) S.out ?_; clear S; intro bl w9 S) | (refine ldI S.out ?_) | (refine ldMs S.out ?_) | (refine ldiY S.out ?_) | (refine bxiY S.out ?_; clear S; intro b9 w9 S) | (refine wpList_want rfl rfl ?_; dsimp only) | fail)
              (with_reducible refine (MA.out _ S.out.ext).mono ?_)
              rintro e u9 ⟨rfl, x9⟩
              replace S := Kept.mk (S.out.quiet x9)
              clear x9
              go_wp2_with (first | (refine bxiY (L := []) S.out ?_; clear S; intro bl w9 S) | (refine ldI S.out ?_) | (refine ldMs S.out ?_) | (refine ldiY S.out ?_) | (refine bxiY S.out ?_; clear S; intro b9 w9 S) | (refine wpList_want rfl rfl ?_; dsimp only) | fail)
              go_roundw
              case rel => exact ⟨1, by omega, rfl, S.out⟩
              case measure => simp [intOf]
            · obtain ⟨a0, a1, a2, a3, a4, a5⟩ := (KG.out.keep S.out.ext).sixC
              go_wp2_with (first | (refine bxiY (L := []) S.out ?_; clear S; intro bl w9 S) | (refine ldI S.out ?_) | (refine ldMs S.out ?_) | (refine ldiY S.out ?_) | (refine bxiY S.out ?_; clear S; intro b9 w9 S) | (refine wpList_want rfl rfl ?_; dsimp only) | fail)
              (with_reducible refine (MB.out _ S.out.ext).mono ?_)
              rintro e u9 ⟨rfl, x9⟩
              replace S := Kept.mk (S.out.quiet x9)
              clear x9
              go_wp2_with (first | (refine bxiY (L := []) S.out ?_; clear S; intro bl w9 S) | (refine ldI S.out ?_) | (refine ldMs S.out ?_) | (refine ldiY S.out ?_) | (refine bxiY S.out ?_; clear S; intro b9 w9 S) | (refine wpList_want rfl rfl ?_; dsimp only) | fail)
              go_roundw
              case rel => exact ⟨2, by omega, rfl, S.out⟩
              case measure => simp [intOf]
            · obtain ⟨a0, a1, a2, a3, a4, a5⟩ := (KG.out.keep S.out.ext).sixC
              obtain ⟨y0, y1⟩ := (S.out.box _ (List.Mem.head _)).1.two
              go_wp2_with (first | (refine bxiY (L := []) S.out ?_; clear S; intro bl w9 S) | (refine ldI S.out ?_) | (refine ldMs S.out ?_) | (refine ldiY S.out ?_) | (refine bxiY S.out ?_; clear S; intro b9 w9 S) | (refine wpList_want rfl rfl ?_; dsimp only) | fail)
              go_quiet (fail)
              go_wp2
              go_ret
              exact ⟨rfl, S.out.ext.drewN _⟩
        · have hb : b = false := by rw [← h, g1, g2]; simp [g3, g4]
          subst hb
          clear h
          subst g3
          have e2 : (p == r) = false := by simpa using g4
          obtain ⟨s1, n1, rfl, hm1, hc1⟩ := id h1
          obtain ⟨s2, n2, rfl, hm2, hc2⟩ := id h2
          clear hm1 hc1 hm2 hc2
          have HV := Kept.mk h1
          have HU := Kept.mk h2
          have KG := Kept.mk hg
          clear h1 h2 hg
          have MA : Kept (∀ w', Ext w w' → Calls Try.prog 31 #[.agg #[.int .i64 r, .int .i64 c, .slice s1 xs.length n1]] w' fun e w'' => e = .returned (.bool true) ∧ Ext w' w'') := ⟨fun w' hx => g1 ▸ spec_MatrixValid _ _ _ xs w' (HV.out.keep hx)⟩
          have MB : Kept (∀ w', Ext w w' → Calls Try.prog 31 #[.agg #[.int .i64 p, .int .i64 1, .slice s2 ys.length n2]] w' fun e w'' => e = .returned (.bool true) ∧ Ext w' w'') := ⟨fun w' hx => g2 ▸ spec_MatrixValid _ _ _ ys w' (HU.out.keep hx)⟩
          clear g1 g2 g4
          have S := Kept.mk (St.start w)
          go_enter Try.func15, Try.ntmps15
          go_wp2_with (first | (refine bxiY (L := []) S.out ?_; clear S; intro bl w9 S) | (refine ldI S.out ?_) | (refine ldMs S.out ?_) | (refine ldiY S.out ?_) | (refine bxiY S.out ?_; clear S; intro b9 w9 S) | (refine wpList_want rfl rfl ?_; dsimp only) | fail)
          go_loopw [3] (fun i wr => ∃ k : Nat, k ≤ 2 ∧ i = .int .i64 k ∧  St none w wr [⟨bl, 42, [.int .i64 1, .slice (some ⟨g, 0, none⟩) 2 2]⟩] [] []) (fun i _ => 2 - (intOf i).toNat)
          case atStart => exact ⟨0, by omega, rfl, S.out⟩
          case round =>
            clear S
            obtain ⟨k, hk, rfl, S⟩ := hrel
            have S := Kept.mk S
            obtain rfl | rfl | rfl : k = 0 ∨ k = 1 ∨ k = 2 := by omega
            · obtain ⟨a0, a1, a2, a3, a4, a5⟩ := (KG.out.keep S.out.ext).sixC
              go_wp2_with (first | (refine bxiY (L := []) S.out ?_; clear S; intro bl w9 S) | (refine ldI S.out ?_) | (refine ldMs S.out ?_) | (refine ldiY S.out ?_) | (refine bxiY S.out ?_; clear S; intro b9 w9 S) | (refine wpList_want rfl rfl ?_; dsimp only) | fail)
              (with_reducible refine (MA.out _ S.out.ext).mono ?_)
              rintro e u9 ⟨rfl, x9⟩
              replace S := Kept.mk (S.out.quiet x9)
              clear x9
              go_wp2_with (first | (refine bxiY (L := []) S.out ?_; clear S; intro bl w9 S) | (refine ldI S.out ?_) | (refine ldMs S.out ?_) | (refine ldiY S.out ?_) | (refine bxiY S.out ?_; clear S; intro b9 w9 S) | (refine wpList_want rfl rfl ?_; dsimp only) | fail)
              go_roundw
              case rel => exact ⟨1, by omega, rfl, S.out⟩
              case measure => simp [intOf]
            · obtain ⟨a0, a1, a2, a3, a4, a5⟩ := (KG.out.keep S.out.ext).sixC
              go_wp2_with (first | (refine bxiY (L := []) S.out ?_; clear S; intro bl w9 S) | (refine ldI S.out ?_) | (refine ldMs S.out ?_) | (refine ldiY S.out ?_) | (refine bxiY S.out ?_; clear S; intro b9 w9 S) | (refine wpList_want rfl rfl ?_; dsimp only) | fail)
              (with_reducible refine (MB.out _ S.out.ext).mono ?_)
              rintro e u9 ⟨rfl, x9⟩
              replace S := Kept.mk (S.out.quiet x9)
              clear x9
              go_wp2_with (first | (refine bxiY (L := []) S.out ?_; clear S; intro bl w9 S) | (refine ldI S.out ?_) | (refine ldMs S.out ?_) | (refine ldiY S.out ?_) | (refine bxiY S.out ?_; clear S; intro b9 w9 S) | (refine wpList_want rfl rfl ?_; dsimp only) | fail)
              go_roundw
              case rel => exact ⟨2, by omega, rfl, S.out⟩
              case measure => simp [intOf]
            · obtain ⟨a0, a1, a2, a3, a4, a5⟩ := (KG.out.keep S.out.ext).sixC
              obtain ⟨y0, y1⟩ := (S.out.box _ (List.Mem.head _)).1.two
              go_wp2_with (first | (refine bxiY (L := []) S.out ?_; clear S; intro bl w9 S) | (refine ldI S.out ?_) | (refine ldMs S.out ?_) | (refine ldiY S.out ?_) | (refine bxiY S.out ?_; clear S; intro b9 w9 S) | (refine wpList_want rfl rfl ?_; dsimp only) | fail)
              go_quiet (fail)
              go_wp2
              go_ret
              exact ⟨rfl, S.out.ext.drewN _⟩
      · have hb : b = false := by rw [← h, g1, g2]; simp [g3]
        subst hb
        clear h
        have e1 : (q == 1) = false := by simpa using g3
        obtain ⟨s1, n1, rfl, hm1, hc1⟩ := id h1
        obtain ⟨s2, n2, rfl, hm2, hc2⟩ := id h2
        clear hm1 hc1 hm2 hc2
        have HV := Kept.mk h1
        have HU := Kept.mk h2
        have KG := Kept.mk hg
        clear h1 h2 hg
        have MA : Kept (∀ w', Ext w w' → Calls Try.prog 31 #[.agg #[.int .i64 r, .int .i64 c, .slice s1 xs.length n1]] w' fun e w'' => e = .returned (.bool true) ∧ Ext w' w'') := ⟨fun w' hx => g1 ▸ spec_MatrixValid _ _ _ xs w' (HV.out.keep hx)⟩
        have MB : Kept (∀ w', Ext w w' → Calls Try.prog 31 #[.agg #[.int .i64 p, .int .i64 q, .slice s2 ys.length n2]] w' fun e w'' => e = .returned (.bool true) ∧ Ext w' w'') := ⟨fun w' hx => g2 ▸ spec_MatrixValid _ _ _ ys w' (HU.out.keep hx)⟩
        clear g1 g2 g3
        have S := Kept.mk (St.start w)
        go_enter Try.func15, Try.ntmps15
        go_wp2_with (first | (refine bxiY (L := []) S.out ?_; clear S; intro bl w9 S) | (refine ldI S.out ?_) | (refine ldMs S.out ?_) | (refine ldiY S.out ?_) | (refine bxiY S.out ?_; clear S; intro b9 w9 S) | (refine wpList_want rfl rfl ?_; dsimp only) | fail)
        go_loopw [3] (fun i wr => ∃ k : Nat, k ≤ 2 ∧ i = .int .i64 k ∧  St none w wr [⟨bl, 42, [.int .i64 1, .slice (some ⟨g, 0, none⟩) 2 2]⟩] [] []) (fun i _ => 2 - (intOf i).toNat)
        case atStart => exact ⟨0, by omega, rfl, S.out⟩
        case round =>
          clear S
          obtain ⟨k, hk, rfl, S⟩ := hrel
          have S := Kept.mk S
          obtain rfl | rfl | rfl : k = 0 ∨ k = 1 ∨ k = 2 := by omega
          · obtain ⟨a0, a1, a2, a3, a4, a5⟩ := (KG.out.keep S.out.ext).sixC
            go_wp2_with (first | (refine bxiY (L := []) S.out ?_; clear S; intro bl w9 S) | (refine ldI S.out ?_) | (refine ldMs S.out ?_) | (refine ldiY S.out ?_) | (refine bxiY S.out ?_; clear S; intro b9 w9 S) | (refine wpList_want rfl rfl ?_; dsimp only) | fail)
            (with_reducible refine (MA.out _ S.out.ext).mono ?_)
            rintro e u9 ⟨rfl, x9⟩
            replace S := Kept.mk (S.out.quiet x9)
            clear x9
            go_wp2_with (first | (refine bxiY (L := []) S.out ?_; clear S; intro bl w9 S) | (refine ldI S.out ?_) | (refine ldMs S.out ?_) | (refine ldiY S.out ?_) | (refine bxiY S.out ?_; clear S; intro b9 w9 S) | (refine wpList_want rfl rfl ?_; dsimp only) | fail)
            go_roundw
            case rel => exact ⟨1, by omega, rfl, S.out⟩
            case measure => simp [intOf]
          · obtain ⟨a0, a1, a2, a3, a4, a5⟩ := (KG.out.keep S.out.ext).sixC
            go_wp2_with (first | (refine bxiY (L := []) S.out ?_; clear S; intro bl w9 S) | (refine ldI S.out ?_) | (refine ldMs S.out ?_) | (refine ldiY S.out ?_) | (refine bxiY S.out ?_; clear S; intro b9 w9 S) | (refine wpList_want rfl rfl ?_; dsimp only) | fail)
            (with_reducible refine (MB.out _ S.out.ext).mono ?_)
            rintro e u9 ⟨rfl, x9⟩
            replace S := Kept.mk (S.out.quiet x9)
            clear x9
            go_wp2_with (first | (refine bxiY (L := []) S.out ?_; clear S; intro bl w9 S) | (refine ldI S.out ?_) | (refine ldMs S.out ?_) | (refine ldiY S.out ?_) | (refine bxiY S.out ?_; clear S; intro b9 w9 S) | (refine wpList_want rfl rfl ?_; dsimp only) | fail)
            go_roundw
            case rel => exact ⟨2, by omega, rfl, S.out⟩
            case measure => simp [intOf]
          · obtain ⟨a0, a1, a2, a3, a4, a5⟩ := (KG.out.keep S.out.ext).sixC
            obtain ⟨y0, y1⟩ := (S.out.box _ (List.Mem.head _)).1.two
            go_wp2_with (first | (refine bxiY (L := []) S.out ?_; clear S; intro bl w9 S) | (refine ldI S.out ?_) | (refine ldMs S.out ?_) | (refine ldiY S.out ?_) | (refine bxiY S.out ?_; clear S; intro b9 w9 S) | (refine wpList_want rfl rfl ?_; dsimp only) | fail)
            go_quiet (fail)
            go_wp2
            go_ret
            exact ⟨rfl, S.out.ext.drewN _⟩
end Go.Proofs.Ytpbnbhiffnnliaa
