import Derived.Test.YtkkdikoknegpjaaGreatKL
import Derived.Test.YtkkdikoknegpjaaGreatQC
import Derived.Test.YtkkdikoknegpjaaGreatMapT
namespace Go.Proofs.YtkkdikoknegpjaaGreat
set_option linter.unusedSimpArgs false
set_option linter.unusedVariables false
open Go.RowKit
theorem msd_seed {V : List Int} {s : Int} (hg : goodL V = true) (hs : Seed s) : ∀ n, Seed (msd V s n)
 | 0 => hs
 | n + 1 => by
  have h := msd_seed hg hs n
  have e : mtN V (msd V s n) = strm (strm (msd V s n) 2) 4096 := by simp [mtN, mkOk, hg, h.ok]
  show Seed (mtN V (msd V s n))
  rw [e]
  exact (h.strm 2).strm 4096
theorem look_law {V : List Int} {x y q : Int} (hg : goodL V = true) (hq : Seed q) (h : (rv x && rv y) = true) : useOk x y (mtA V q) (mtB V q) (mtF V q) (mtS V q) = true ∧ rv (useF x y (mtA V q) (mtB V q) (mtF V q) (mtS V q)) = true ∧ rv (useL x y (mtA V q) (mtB V q) (mtF V q) (mtS V q)) = true ∧
 addR (useF x y (mtA V q) (mtB V q) (mtF V q) (mtS V q)) (useL x y (mtA V q) (mtB V q) (mtF V q) (mtS V q)) = V.getD (addR x y).toNat 0 := by
 have mk : mkOk V q = true := by simp [mkOk, hg, hq.ok]
 have tv := made_tab mk
 have uo : useOk x y (mtA V q) (mtB V q) (mtF V q) (mtS V q) = true := by
  simp only [Bool.and_eq_true] at h
  simp [useOk, h, tv]
 obtain ⟨n, m, en, ln, em, el⟩ := made_look mk h
 obtain ⟨k, ek, lk1, lk2⟩ := useC_nat uo
 have hmk : k = m := by rw [en, em] at ek; omega
 subst hmk
 have eF : useF x y (mtA V q) (mtB V q) (mtF V q) (mtS V q) = (mtF V q).getD k 0 := by simp only [useF, uo, if_true, ek]; rfl
 have eL : useL x y (mtA V q) (mtB V q) (mtF V q) (mtS V q) = (mtS V q).getD k 0 := by simp only [useL, uo, if_true, ek]; rfl
 have gl : goodL (mtF V q) = true ∧ goodL (mtS V q) = true := by simp only [tabV, Bool.and_eq_true] at tv; exact tv.2
 refine ⟨uo, ?_, ?_, ?_⟩
 ·rw [eF]; exact good_rv gl.1 k lk1
 ·rw [eL]; exact good_rv gl.2 k lk2
 rw [eF, eL, el, en]; rfl
theorem fVals_at {k : Int} (hk : fKnown k = true) {z : Int} (hz : rv z = true) : (fVals k).getD z.toNat 0 = fAt k z := by
 have e : fVals k = valsTo k 4096 := by rw [fVals, if_pos hk]
 have hz' := hz
 rw [rv_iff] at hz'
 rw [e, valsTo_get _ _ _ (by omega)]
 congr 1
 omega
theorem Fm_mk (R C : Nat) (f : Nat → Int) (L : Nat) (h : L = R * C) : (⟨R, C, mapTo f L⟩ : Mat) = Fm R C f := by subst h; rfl
theorem join_map {k : Int} {m : ShM} {s : Int} (h : mpOk k m s = true) : joinM (mpSh k m s) = mapM k (joinM m).r (joinM m).c (joinM m).xs ∧ (mpSh k m s).ok = true ∧ (mpSh k m s).f.r = m.f.r ∧ (mpSh k m s).f.c = m.f.c ∧ 1 ≤ mpS k m s ∧ (mpO k m s).length = m.f.xs.length := by
 obtain ⟨z1, z2, z3⟩ := mpSh_ok h
 simp only [mpOk, Bool.and_eq_true] at h
 obtain ⟨⟨hk, hm⟩, hs⟩ := h
 obtain ⟨R, C, f, g, rfl, hR, hC, hf, hg⟩ := ShM.ok_form hm
 have gv := good_fVals hk
 have hsd := msd_seed (V := fVals k) gv (seed_of hs)
 have hl : ∀ i, i < R * C → (rv (f i) && rv (g i)) = true := fun i hi => by rw [hf i hi, hg i hi]; rfl
 have LK : ∀ i, i < R * C → rv (mpF (fVals k) (Fm R C f).xs (Fm R C g).xs s i) = true ∧ rv (mpL (fVals k) (Fm R C f).xs (Fm R C g).xs s i) = true ∧ addR (mpF (fVals k) (Fm R C f).xs (Fm R C g).xs s i) (mpL (fVals k) (Fm R C f).xs (Fm R C g).xs s i) = fAt k (ring (f i + g i)) := by
  intro i hi
  obtain ⟨_, a, b, c⟩ := look_law (x := f i) (y := g i) gv (hsd i) (hl i hi)
  unfold mpF mpL lkF lkL
  rw [Fm_get f hi, Fm_get g hi]
  refine ⟨a, b, c.trans ?_⟩
  rw [addR_ok (hf i hi) (hg i hi)]
  exact fVals_at hk (rv_ring _)
 rw [z1, z2, z3]
 simp only
 rw [show (Fm R C f).r = (R : Int) from rfl, show (Fm R C f).c = (C : Int) from rfl, Fm_len, Fm_mk R C _ _ rfl, Fm_mk R C _ _ rfl]
 generalize mpF (fVals k) (Fm R C f).xs (Fm R C g).xs s = p1 at *
 generalize mpL (fVals k) (Fm R C f).xs (Fm R C g).xs s = p2 at *
 have a1 := fun i hi => (LK i hi).1
 have a2 := fun i hi => (LK i hi).2.1
 refine ⟨?_, ?_, by first | rfl | trivial, by first | rfl | trivial, (hsd _).lo, mapTo_len _ _⟩
 ·have j1 : joinM ⟨Fm R C f, Fm R C g⟩ = Fm R C (fun i => ring (f i + g i)) := addM_Fm hR hC hf hg
  rw [j1]
  have hok : mOk (Fm R C (fun i => ring (f i + g i))).r (Fm R C (fun i => ring (f i + g i))).c (Fm R C (fun i => ring (f i + g i))).xs = true := Fm_ok hR hC fun i _ => rv_ring _
  rw [mapM_ok hk hok]
  have j2 := addM_Fm hR hC a1 a2
  show addM _ _ = _
  rw [j2, Fm_len]
  unfold Fm
  simp only
  congr 1
  apply mapTo_congr
  intro i hi
  rw [mapTo_get _ _ _ hi, ← (LK i hi).2.2, addR_ok (a1 i hi) (a2 i hi)]
 simp only [ShM.ok, Fm_ok hR hC a1, Fm_ok hR hC a2, sameS, Fm_r, Fm_c, decide_true, Bool.and_self]
theorem mp_lens (k : Int) (m : ShM) (s : Int) : (mpSh k m s).f.xs.length ≤ 25 ∧ (mpSh k m s).s.xs.length ≤ 25 ∧ (mpO k m s).length ≤ 25 := by
 cases h : mpOk k m s
 ·obtain ⟨a, b, _⟩ := mpSh_bad h
  rw [a, b]
  exact ⟨Nat.zero_le _, Nat.zero_le _, Nat.zero_le _⟩
 obtain ⟨a, b, _⟩ := mpSh_ok h
 simp only [mpOk, ShM.ok, Bool.and_eq_true] at h
 obtain ⟨R, C, _, _, _, _, _, _, hl, l25, _⟩ := mOk_nat h.1.2.1.1
 rw [a, b]
 simp only [mapTo_len]
 omega
end Go.Proofs.YtkkdikoknegpjaaGreat
