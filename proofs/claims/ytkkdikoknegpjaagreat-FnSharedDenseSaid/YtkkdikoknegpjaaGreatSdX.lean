import Derived.Test.YtkkdikoknegpjaaGreatKX
import Derived.Test.YtkkdikoknegpjaaGreatKL
import Derived.Test.YtkkdikoknegpjaaGreatMapP
import Derived.Test.YtkkdikoknegpjaaGreatKP
import Derived.Test.YtkkdikoknegpjaaGreatKS
import Derived.Test.YtkkdikoknegpjaaGreatDenT
namespace Go.Proofs.YtkkdikoknegpjaaGreat
set_option linter.unusedSimpArgs false
set_option linter.unusedVariables false
open Go.RowKit
def sdOk (w b x : ShM) (s : Int) : Bool := w.ok && b.ok && x.ok && seedOk s && (decide (b.f.c = 1) && decide (b.f.r = w.f.r)) && decide (w.f.c = x.f.r)
def sdM (w x : ShM) (s : Int) : ShM := mpSh 1 (pdSh w x s) (pdS w x s)
def sdO (w b x : ShM) : ShM := ⟨wideM w.f.r.toNat x.f.c.toNat b.f.xs, wideM w.f.r.toNat x.f.c.toNat b.s.xs⟩
def sdSh (w b x : ShM) (s : Int) : ShM := if sdOk w b x s = true then addSh (sdM w x s) (sdO w b x) else shZ
def sdL (w b x : ShM) (s : Int) : List Int := if sdOk w b x s = true then pdL w x s ++ mpO 1 (pdSh w x s) (pdS w x s) else []
def sdS (w b x : ShM) (s : Int) : Int := if sdOk w b x s = true then mpS 1 (pdSh w x s) (pdS w x s) else 0
theorem sdSh_bad {w b x : ShM} {s : Int} (h : sdOk w b x s = false) : sdSh w b x s = shZ ∧ sdL w b x s = [] ∧ sdS w b x s = 0 := by
 refine ⟨?_, ?_, ?_⟩
 ·unfold sdSh; rw [h]; rfl
 ·unfold sdL; rw [h]; rfl
 unfold sdS; rw [h]; rfl
theorem sdSh_ok {w b x : ShM} {s : Int} (h : sdOk w b x s = true) : sdSh w b x s = addSh (sdM w x s) (sdO w b x) ∧ sdL w b x s = pdL w x s ++ mpO 1 (pdSh w x s) (pdS w x s) ∧ sdS w b x s = mpS 1 (pdSh w x s) (pdS w x s) := by
 refine ⟨?_, ?_, ?_⟩
 ·unfold sdSh; rw [h]; rfl
 ·unfold sdL; rw [h]; rfl
 unfold sdS; rw [h]; rfl
theorem pd_len (x y : ShM) (s : Int) : (pdL x y s).length ≤ 2097152 := by
 cases h : pdOk x y s
 ·obtain ⟨_, b, _⟩ := pdSh_bad h
  rw [b]; exact Nat.zero_le _
 obtain ⟨_, b, _⟩ := pdSh_ok h
 rw [b, List.length_append]
 have := mulShD_len x y (pdT x y s)
 have := mulShE_len x y (pdT x y s)
 omega
theorem pd_lenS (x y : ShM) (s : Int) : (pdSh x y s).f.xs.length ≤ 1048576 ∧ (pdSh x y s).s.xs.length ≤ 1048576 := by
 cases h : pdOk x y s
 ·obtain ⟨b, _, _⟩ := pdSh_bad h
  rw [b]; exact ⟨Nat.zero_le _, Nat.zero_le _⟩
 obtain ⟨b, _, _⟩ := pdSh_ok h
 rw [b]
 unfold mulSh mulShF mulShS
 split
 ·exact ⟨pairM_len _ _ _, pairM_len _ _ _⟩
 exact ⟨Nat.zero_le _, Nat.zero_le _⟩
theorem sd_parts {w b x : ShM} {s : Int} (h : sdOk w b x s = true) : pdOk w x s = true ∧ mpOk 1 (pdSh w x s) (pdS w x s) = true := by
 simp only [sdOk, Bool.and_eq_true, decide_eq_true_eq] at h
 obtain ⟨⟨⟨⟨⟨hw, hb⟩, hx⟩, hs⟩, h1, h2⟩, h3⟩ := h
 have hp : pdOk w x s = true := by simp only [pdOk, hw, hx, hs, h3, decide_true, Bool.and_self]
 refine ⟨hp, ?_⟩
 obtain ⟨m1, m2, _⟩ := pd_mul hp
 obtain ⟨a1, a2, a3⟩ := pdSh_ok hp
 have ok1 : (pdSh w x s).ok = true := by rw [a1]; exact (join_mulSh m1).1
 have hsd : seedOk (pdS w x s) = true := by
  rw [a3]
  have hp' := hp
  simp only [pdOk, Bool.and_eq_true, decide_eq_true_eq] at hp'
  obtain ⟨⟨⟨hw', hx'⟩, hc'⟩, hs'⟩ := hp'
  obtain ⟨R, K, _, _, rfl, hR, hK, _, _⟩ := ShM.ok_form hw'
  obtain ⟨K', C, _, _, rfl, hK', hC, _, _⟩ := ShM.ok_form hx'
  have hm : mkOkM (R : Int) (K : Int) (C : Int) s = true := by unfold mkOkM; rw [hR.ok, hK.ok, hC.ok, hs']; rfl
  show seedOk (tripS (R : Int) (K : Int) (C : Int) s) = true
  unfold tripS
  rw [if_pos hm]
  exact (pd_seed (seed_of hs') R K C).ok
 simp only [mpOk, ok1, hsd]
 rfl
theorem join_dense {w b x : ShM} {s : Int} (h : sdOk w b x s = true) : joinM (sdSh w b x s) = denseM (joinM w) (joinM b) (joinM x) ∧ 1 ≤ sdS w b x s := by
 obtain ⟨z1, _, z3⟩ := sdSh_ok h
 obtain ⟨hp, hm⟩ := sd_parts h
 simp only [sdOk, Bool.and_eq_true, decide_eq_true_eq] at h
 obtain ⟨⟨⟨⟨⟨hw, hb⟩, hx⟩, hs⟩, h1, h2⟩, h3⟩ := h
 obtain ⟨j1, j2, j3, j4, j5, _⟩ := join_map hm
 rw [z1, z3]
 refine ⟨?_, j5⟩
 obtain ⟨m1, _, _⟩ := pd_mul hp
 obtain ⟨a1, _, _⟩ := pdSh_ok hp
 obtain ⟨c1, c2⟩ := join_mulSh m1
 rw [← a1] at c1 c2
 obtain ⟨jw, jw1, jw2⟩ := join_ok hw
 obtain ⟨jx, jx1, jx2⟩ := join_ok hx
 obtain ⟨jb, jb1, jb2⟩ := join_ok hb
 have hs9 : (joinM w).c = (joinM x).r := by rw [jw2, jx1]; exact h3
 obtain ⟨q1, q2, q3⟩ := mul_ok jw jx hs9
 obtain ⟨R, K, f1, f2, ew, hR, hK, _, _⟩ := ShM.ok_form hw
 obtain ⟨K', C, g1, g2, ex, _, hC, _, _⟩ := ShM.ok_form hx
 obtain ⟨B, D, k1, k2, eb, hB, hD, hk1, hk2⟩ := ShM.ok_form hb
 have wr : w.f.r = (R : Int) := by rw [ew]; rfl
 have xc : x.f.c = (C : Int) := by rw [ex]; rfl
 have br : b.f.r = (B : Int) := by rw [eb]; rfl
 have bc : b.f.c = (D : Int) := by rw [eb]; rfl
 have eBR : B = R := by rw [br, wr] at h2; omega
 have eD : D = 1 := by rw [bc] at h1; omega
 subst eBR
 subst eD
 have eO : sdO w b x = ⟨Fm B C (fun p => (Fm B 1 k1).xs.getD (p / C) 0), Fm B C (fun p => (Fm B 1 k2).xs.getD (p / C) 0)⟩ := by
  unfold sdO
  rw [wr, xc, eb]
  rfl
 have dl : ∀ p, p < B * C → p / C < B * 1 := fun p hp => by rw [Nat.mul_one]; exact (Nat.div_lt_iff_lt_mul hC.lo).2 hp
 have r1 : ∀ p, p < B * C → rv ((Fm B 1 k1).xs.getD (p / C) 0) = true := fun p hp => by rw [Fm_get k1 (dl p hp)]; exact hk1 _ (dl p hp)
 have r2 : ∀ p, p < B * C → rv ((Fm B 1 k2).xs.getD (p / C) 0) = true := fun p hp => by rw [Fm_get k2 (dl p hp)]; exact hk2 _ (dl p hp)
 have okO : (sdO w b x).ok = true := by
  rw [eO]
  simp only [ShM.ok, Fm_ok hR hC r1, Fm_ok hR hC r2, sameS, Fm_r, Fm_c, decide_true, Bool.and_self]
 have okM : (sdM w x s).ok = true := j2
 have mr : (sdM w x s).f.r = (B : Int) := by
  show (mpSh 1 (pdSh w x s) (pdS w x s)).f.r = _
  rw [j3, ← wr]
  obtain ⟨_, e1, _⟩ := join_ok c1
  rw [← e1, c2, q2, jw1]
 have mc : (sdM w x s).f.c = (C : Int) := by
  show (mpSh 1 (pdSh w x s) (pdS w x s)).f.c = _
  rw [j4, ← xc]
  obtain ⟨_, _, e1⟩ := join_ok c1
  rw [← e1, c2, q3, jx2]
 have ad : shAddOk (sdM w x s) (sdO w b x) = true := by
  simp only [shAddOk, okM, okO, sameS, mr, mc]
  rw [eO]
  simp [Fm_r, Fm_c]
 rw [(join_addSh ad).2]
 unfold denseM
 have fb : fitsB (joinM w) (joinM b) = true := by
  unfold fitsB
  rw [jw, jb, jb1, jb2, jw1, h1, h2]
  simp
 rw [if_pos (by rw [jx, fb]; simp [hs9])]
 congr 1
 ·show joinM (mpSh 1 (pdSh w x s) (pdS w x s)) = _
  rw [j1, c2]
  rfl
 rw [eO, jw1, jx2, wr, xc]
 have j9 := addM_Fm hR hC r1 r2
 show addM _ _ = _
 rw [j9]
 show _ = Fm B C _
 apply Fm_congr
 intro p hp
 have jb9 : joinM b = Fm B 1 (fun i => ring (k1 i + k2 i)) := by
  rw [eb]
  exact addM_Fm hB ⟨by omega, by omega⟩ hk1 hk2
 rw [jb9, Fm_get k1 (dl p hp), Fm_get k2 (dl p hp)]
 exact (Fm_get (fun i => ring (k1 i + k2 i)) (dl p hp)).symm
end Go.Proofs.YtkkdikoknegpjaaGreat
