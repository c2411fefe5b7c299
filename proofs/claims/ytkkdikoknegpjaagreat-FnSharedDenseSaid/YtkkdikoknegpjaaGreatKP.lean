import Derived.Test.YtkkdikoknegpjaaGreatQE
import Derived.Test.YtkkdikoknegpjaaGreatKX
namespace Go.Proofs.YtkkdikoknegpjaaGreat
set_option linter.unusedSimpArgs false
set_option linter.unusedVariables false
open Go.RowKit
theorem tripN_ok {R K C : Nat} (hR : Side R) (hK : Side K) (hC : Side C) (s : Int) : (tripN R K C s).ok = true := by
 have e1 : tripA R K s = ⟨Fm R K (rnd s), Fm R K (rnd (sd1 R K s))⟩ := rfl
 have e2 : tripB R K C s = ⟨Fm K C (rnd (sd2 R K s)), Fm K C (rnd (sd3 R K C s))⟩ := rfl
 have e3 : tripC R K C s = Fm R C (rnd (sd4 R K C s)) := rfl
 have hr : ∀ (t : Int) (n : Nat) i, i < n → rv (rnd t i) = true := fun t n i _ => rnd_rv t i
 have hP : mulM (joinM (tripA R K s)) (joinM (tripB R K C s)) = Fm R C (fun p => ring (sumTo (fun k => ring (rnd s (p / C * K + k) + rnd (sd1 R K s) (p / C * K + k)) * ring (rnd (sd2 R K s) (k * C + p % C) + rnd (sd3 R K C s) (k * C + p % C))) K)) := by
  rw [e1, e2]
  unfold joinM
  simp only
  rw [addM_Fm hR hK (hr _ _) (hr _ _), addM_Fm hK hC (hr _ _) (hr _ _), mulM_Fm hR hK hC (rr _) (rr _)]
 have hS : subM (mulM (joinM (tripA R K s)) (joinM (tripB R K C s))) (tripC R K C s) = Fm R C (fun p => ring (ring (sumTo (fun k => ring (rnd s (p / C * K + k) + rnd (sd1 R K s) (p / C * K + k)) * ring (rnd (sd2 R K s) (k * C + p % C) + rnd (sd3 R K C s) (k * C + p % C))) K) - rnd (sd4 R K C s) p)) := by
  rw [hP, e3, subM_Fm hR hC (rr _) (hr _ _)]
 unfold TrM.ok tripN prodM
 simp only
 rw [hS, hP, e3]
 have a1 : (tripA R K s).ok = true := by rw [e1]; exact ShM.mk_ok hR hK (hr _ _) (hr _ _)
 have a2 : (tripB R K C s).ok = true := by rw [e2]; exact ShM.mk_ok hK hC (hr _ _) (hr _ _)
 have a3 : ShM.ok ⟨Fm R C (rnd (sd4 R K C s)), Fm R C (fun p => ring (ring (sumTo (fun k => ring (rnd s (p / C * K + k) + rnd (sd1 R K s) (p / C * K + k)) * ring (rnd (sd2 R K s) (k * C + p % C) + rnd (sd3 R K C s) (k * C + p % C))) K) - rnd (sd4 R K C s) p))⟩ = true := ShM.mk_ok hR hC (hr _ _) (rr _)
 rw [a1, a2, a3]
 simp only [Bool.true_and, decide_eq_true_eq]
 unfold joinM
 simp only
 rw [addM_Fm hR hC (hr _ _) (rr _)]
 refine Fm_congr fun p _ => ?_
 rw [ring_add_r]
 generalize sumTo _ K = S
 unfold ring; omega
theorem pd_seed {s : Int} (h : Seed s) (R K C : Nat) : Seed (sd5 R K C s) := ((((h.strm _).strm _).strm _).strm _).strm _
theorem joinM_Fm {R C : Nat} {f g : Nat → Int} (hR : Side R) (hC : Side C) (hf : ∀ i, i < R * C → rv (f i) = true) (hg : ∀ i, i < R * C → rv (g i) = true) : joinM ⟨Fm R C f, Fm R C g⟩ = Fm R C (fun i => ring (f i + g i)) := by
 unfold joinM
 exact addM_Fm hR hC hf hg
theorem pd_mul {x y : ShM} {s : Int} (h : pdOk x y s = true) : mulShOk x y (pdT x y s) = true ∧ 1 ≤ pdS x y s ∧ (pdL x y s).length = x.f.xs.length + y.f.xs.length := by
 have h0 := h
 simp only [pdOk, Bool.and_eq_true, decide_eq_true_eq] at h
 obtain ⟨⟨⟨hx, hy⟩, hc⟩, hs⟩ := h
 obtain ⟨R, K, x1, x2, rfl, hR, hK, hx1, hx2⟩ := ShM.ok_form hx
 obtain ⟨K', C, y1, y2, rfl, hK', hC, hy1, hy2⟩ := ShM.ok_form hy
 have e : K' = K := by
  have : (K : Int) = (K' : Int) := hc
  omega
 subst e
 have hm : mkOkM (R : Int) (K' : Int) (C : Int) s = true := by unfold mkOkM; rw [hR.ok, hK'.ok, hC.ok, hs]; rfl
 have ht : pdT ⟨Fm R K' x1, Fm R K' x2⟩ ⟨Fm K' C y1, Fm K' C y2⟩ s = tripN R K' C s := by
  unfold pdT
  show tripM (R : Int) (K' : Int) (C : Int) s = _
  unfold tripM
  rw [if_pos hm]
  rfl
 have hok := tripN_ok hR hK' hC s
 have hmul : mulShOk ⟨Fm R K' x1, Fm R K' x2⟩ ⟨Fm K' C y1, Fm K' C y2⟩ (tripN R K' C s) = true := by
  unfold mulShOk
  rw [hx, hy, hok]
  simp [sameS, tripN, tripA, tripB, Fm_r, Fm_c]
 refine ⟨by rw [ht]; exact hmul, ?_, ?_⟩
 ·rw [(pdSh_ok h0).2.2]
  show 1 ≤ tripS (R : Int) (K' : Int) (C : Int) s
  unfold tripS
  rw [if_pos hm]
  exact (pd_seed (seed_of hs) R K' C).lo
 rw [(pdSh_ok h0).2.1, ht, List.length_append]
 have hok' := hok
 simp only [TrM.ok, Bool.and_eq_true] at hok'
 obtain ⟨⟨⟨ha, hb⟩, _⟩, _⟩ := hok'
 obtain ⟨Ra, Ka, a1, a2, ea, _, _, ha1, ha2⟩ := ShM.ok_form ha
 obtain ⟨Kb, Cb, b1, b2, eb, _, _, hb1, hb2⟩ := ShM.ok_form hb
 have sa : R = Ra ∧ K' = Ka := by
  have q1 : ((tripN R K' C s).a.f.r) = (R : Int) := rfl
  have q2 : ((tripN R K' C s).a.f.c) = (K' : Int) := rfl
  rw [ea] at q1 q2
  have p1 : (Ra : Int) = R := q1
  have p2 : (Ka : Int) = K' := q2
  omega
 have sb : K' = Kb ∧ C = Cb := by
  have q1 : ((tripN R K' C s).b.f.r) = (K' : Int) := rfl
  have q2 : ((tripN R K' C s).b.f.c) = (C : Int) := rfl
  rw [eb] at q1 q2
  have p1 : (Kb : Int) = K' := q1
  have p2 : (Cb : Int) = C := q2
  omega
 obtain ⟨rfl, rfl⟩ := sa
 obtain ⟨_, rfl⟩ := sb
 have sb' : K' = Kb := by omega
 subst sb'
 unfold mulShD mulShE
 rw [if_pos hmul, if_pos hmul]
 unfold opD
 rw [ea, eb, joinM_Fm hR hK' hx1 hx2, joinM_Fm hR hK' ha1 ha2, joinM_Fm hK' hC hy1 hy2, joinM_Fm hK' hC hb1 hb2, subM_Fm hR hK' (rr _) (rr _), subM_Fm hK' hC (rr _) (rr _)]
 simp only [Fm_len]
end Go.Proofs.YtkkdikoknegpjaaGreat
