/- Plain laws of matrices of ring numbers: sums, products. No program in sight. -/
import Derived.Test.YtpbnbhiffnnliaaKD
import Derived.Test.YtpbnbhiffnnliaaKC
namespace Go.Proofs.Ytpbnbhiffnnliaa
set_option linter.unusedSimpArgs false
set_option linter.unusedVariables false
open Go.RowKit
def Mat.ok (m : Mat) : Bool := mOk m.r m.c m.xs
def sameS (a b : Mat) : Bool := decide (a.r = b.r) && decide (a.c = b.c)
/-- What a step makes of two matrices, value by value. -/
def pairM (f : Int → Int → Int) (a b : Mat) : Mat :=
  if (a.ok && b.ok && sameS a b) = true then ⟨a.r, a.c, mapTo (fun i => f (a.xs.getD i 0) (b.xs.getD i 0)) a.xs.length⟩ else matZ
def addM (a b : Mat) : Mat := pairM addR a b
def subM (a b : Mat) : Mat := pairM subR a b
def sumTo (f : Nat → Int) : Nat → Int
  | 0 => 0
  | n + 1 => sumTo f n + f n
/-- A value of a product. -/
def mulE (xs ys : List Int) (K C p : Nat) : Int := ring (sumTo (fun k => xs.getD (p / C * K + k) 0 * ys.getD (k * C + p % C) 0) K)
def mulM (a b : Mat) : Mat :=
  if (a.ok && b.ok && decide (a.c = b.r)) = true then ⟨a.r, b.c, mapTo (mulE a.xs b.xs a.c.toNat b.c.toNat) (a.r.toNat * b.c.toNat)⟩ else matZ
/-- A matrix by its values. -/
def Fm (R C : Nat) (f : Nat → Int) : Mat := ⟨R, C, mapTo f (R * C)⟩
structure Side (n : Nat) : Prop where
  lo : 1 ≤ n
  hi : n ≤ 5
theorem Side.ok {n : Nat} (h : Side n) : sideB (n : Int) = true := by rw [side_iff]; have := h.lo; have := h.hi; omega
theorem Side.of {n : Nat} (h : sideB (n : Int) = true) : Side n := by rw [side_iff] at h; exact ⟨by omega, by omega⟩
theorem Fm_ok {R C : Nat} {f : Nat → Int} (hR : Side R) (hC : Side C) (hf : ∀ i, i < R * C → rv (f i) = true) : (Fm R C f).ok = true :=
  mOk_mk hR.ok hC.ok (by simp [Fm, mapTo_len]) (mapTo_all _ _ hf)
theorem Mat.ok_form {m : Mat} (h : m.ok = true) : ∃ (R C : Nat) (f : Nat → Int), m = Fm R C f ∧ Side R ∧ Side C ∧ ∀ i, i < R * C → rv (f i) = true := by
  obtain ⟨r, c, xs⟩ := m
  obtain ⟨R, C, e1, e2, R1, R5, C1, C5, hl, _, hv⟩ := mOk_nat h
  simp only at e1 e2 hl hv
  subst e1 e2
  refine ⟨R, C, fun i => xs.getD i 0, ?_, ⟨R1, R5⟩, ⟨C1, C5⟩, fun i hi => hv i (by omega)⟩
  unfold Fm
  congr 1
  apply list_ext'
  · rw [mapTo_len, hl]
  · intro i hi
    rw [mapTo_get _ _ _ (by omega)]
theorem Fm_congr {R C : Nat} {f g : Nat → Int} (h : ∀ i, i < R * C → f i = g i) : Fm R C f = Fm R C g := by unfold Fm; rw [mapTo_congr f g _ h]
theorem Fm_r (R C : Nat) (f : Nat → Int) : (Fm R C f).r = R := rfl
theorem Fm_c (R C : Nat) (f : Nat → Int) : (Fm R C f).c = C := rfl
theorem Fm_len (R C : Nat) (f : Nat → Int) : (Fm R C f).xs.length = R * C := mapTo_len _ _
theorem Fm_get {R C : Nat} (f : Nat → Int) {i : Nat} (h : i < R * C) : (Fm R C f).xs.getD i 0 = f i := mapTo_get _ _ _ h
theorem pairM_Fm (op : Int → Int → Int) {R C : Nat} {f g : Nat → Int} (hR : Side R) (hC : Side C) (hf : ∀ i, i < R * C → rv (f i) = true) (hg : ∀ i, i < R * C → rv (g i) = true) :
    pairM op (Fm R C f) (Fm R C g) = Fm R C (fun i => op (f i) (g i)) := by
  unfold pairM
  rw [if_pos (by simp [Fm_ok hR hC hf, Fm_ok hR hC hg, sameS, Fm_r, Fm_c]), Fm_len]
  unfold Fm
  congr 1
  apply mapTo_congr
  intro i hi
  rw [mapTo_get _ _ _ hi, mapTo_get _ _ _ hi]
theorem addR_ring {a b : Int} (h1 : rv a = true) (h2 : rv b = true) : addR a b = ring (a + b) := by simp [addR, h1, h2]
theorem subR_ring {a b : Int} (h1 : rv a = true) (h2 : rv b = true) : subR a b = ring (a - b) := by simp [subR, h1, h2]
theorem addM_Fm {R C : Nat} {f g : Nat → Int} (hR : Side R) (hC : Side C) (hf : ∀ i, i < R * C → rv (f i) = true) (hg : ∀ i, i < R * C → rv (g i) = true) :
    addM (Fm R C f) (Fm R C g) = Fm R C (fun i => ring (f i + g i)) := by
  unfold addM
  rw [pairM_Fm _ hR hC hf hg]
  exact Fm_congr fun i hi => addR_ring (hf i hi) (hg i hi)
theorem subM_Fm {R C : Nat} {f g : Nat → Int} (hR : Side R) (hC : Side C) (hf : ∀ i, i < R * C → rv (f i) = true) (hg : ∀ i, i < R * C → rv (g i) = true) :
    subM (Fm R C f) (Fm R C g) = Fm R C (fun i => ring (f i - g i)) := by
  unfold subM
  rw [pairM_Fm _ hR hC hf hg]
  exact Fm_congr fun i hi => subR_ring (hf i hi) (hg i hi)
theorem sumTo_congr {f g : Nat → Int} : ∀ {n : Nat}, (∀ k, k < n → f k = g k) → sumTo f n = sumTo g n
  | 0, _ => rfl
  | n + 1, h => by simp only [sumTo]; rw [sumTo_congr (fun k hk => h k (by omega)), h n (by omega)]
/-- The place of row i, column j of a product's row in the first matrix, and in the second one. -/
theorem row_lt {p R K C k : Nat} (hp : p < R * C) (hk : k < K) : p / C * K + k < R * K := by
  have hC : 0 < C := by rcases Nat.eq_zero_or_pos C with h | h; (subst h; simp at hp); exact h
  exact place_lt ((Nat.div_lt_iff_lt_mul hC).2 hp) hk
theorem col_lt {p R K C k : Nat} (hp : p < R * C) (hk : k < K) : k * C + p % C < K * C := by
  have hC : 0 < C := by rcases Nat.eq_zero_or_pos C with h | h; (subst h; simp at hp); exact h
  exact place_lt hk (Nat.mod_lt _ hC)
theorem mulM_Fm {R K C : Nat} {f g : Nat → Int} (hR : Side R) (hK : Side K) (hC : Side C) (hf : ∀ i, i < R * K → rv (f i) = true) (hg : ∀ i, i < K * C → rv (g i) = true) :
    mulM (Fm R K f) (Fm K C g) = Fm R C (fun p => ring (sumTo (fun k => f (p / C * K + k) * g (k * C + p % C)) K)) := by
  unfold mulM
  rw [if_pos (by simp [Fm_ok hR hK hf, Fm_ok hK hC hg, Fm_r, Fm_c])]
  show Mat.mk _ _ (mapTo (mulE (Fm R K f).xs (Fm K C g).xs K C) (R * C)) = _
  unfold Fm
  congr 1
  apply mapTo_congr
  intro p hp
  unfold mulE
  rw [sumTo_congr]
  intro k hk
  rw [mapTo_get _ _ _ (row_lt hp hk), mapTo_get _ _ _ (col_lt hp hk)]
theorem ring_add (x y : Int) : ring (ring x + ring y) = ring (x + y) := by unfold ring; omega
theorem ring_add_l (x y : Int) : ring (ring x + y) = ring (x + y) := by unfold ring; omega
theorem ring_add_r (x y : Int) : ring (x + ring y) = ring (x + y) := by unfold ring; omega
theorem ring_sub' (x y : Int) : ring (ring x - ring y) = ring (x - y) := by unfold ring; omega
theorem ring_mul' (x y : Int) : ring (ring x * ring y) = ring (x * y) := by unfold ring; rw [← Int.mul_emod]
theorem ring_mul_congr {a b c d : Int} (h1 : ring a = ring b) (h2 : ring c = ring d) : ring (a * c) = ring (b * d) := by rw [← ring_mul' a c, h1, h2, ring_mul']
theorem ring_add_congr {a b c d : Int} (h1 : ring a = ring b) (h2 : ring c = ring d) : ring (a + c) = ring (b + d) := by rw [← ring_add a c, h1, h2, ring_add]
theorem ring_id (x : Int) : ring (ring x) = ring x := by unfold ring; omega
theorem ring_sum {f g : Nat → Int} : ∀ {n : Nat}, (∀ k, k < n → ring (f k) = ring (g k)) → ring (sumTo f n) = ring (sumTo g n)
  | 0, _ => rfl
  | n + 1, h => by simp only [sumTo]; exact ring_add_congr (ring_sum fun k hk => h k (by omega)) (h n (by omega))
theorem sum_add (f g : Nat → Int) : ∀ n, sumTo (fun k => f k + g k) n = sumTo f n + sumTo g n
  | 0 => rfl
  | n + 1 => by simp only [sumTo]; rw [sum_add f g n]; omega
/-- A product of sums, four sums of products. -/
theorem sum_four (a d b e : Nat → Int) (n : Nat) : sumTo (fun k => (a k + d k) * (b k + e k)) n = sumTo (fun k => a k * b k) n + sumTo (fun k => d k * b k) n + sumTo (fun k => a k * e k) n + sumTo (fun k => d k * e k) n := by
  rw [← sum_add, ← sum_add, ← sum_add]
  apply sumTo_congr
  intro k _
  rw [Int.add_mul, Int.mul_add, Int.mul_add]; omega
theorem sum_times_add (a b c : Nat → Int) (n : Nat) : sumTo (fun k => a k * (b k + c k)) n = sumTo (fun k => a k * b k) n + sumTo (fun k => a k * c k) n := by
  rw [← sum_add]
  exact sumTo_congr fun k _ => Int.mul_add _ _ _
/-- A shared matrix. -/
structure ShM where
  f : Mat
  s : Mat
def shZ : ShM := ⟨matZ, matZ⟩
def ShM.ok (a : ShM) : Bool := a.f.ok && a.s.ok && sameS a.f a.s
def joinM (a : ShM) : Mat := addM a.f a.s
def shAddOk (a b : ShM) : Bool := a.ok && b.ok && sameS a.f b.f
def addSh (a b : ShM) : ShM := if shAddOk a b = true then ⟨addM a.f b.f, addM a.s b.s⟩ else shZ
/-- A triple of shared matrices. -/
structure TrM where
  a : ShM
  b : ShM
  c : ShM
def trZ : TrM := ⟨shZ, shZ, shZ⟩
instance : DecidableEq Mat := fun a b => decidable_of_iff (a.r = b.r ∧ a.c = b.c ∧ a.xs = b.xs) (by cases a; cases b; simp)
def prodM (t : TrM) : Mat := mulM (joinM t.a) (joinM t.b)
def TrM.ok (t : TrM) : Bool := t.a.ok && t.b.ok && t.c.ok && decide (joinM t.c = prodM t)
def mulShOk (x y : ShM) (t : TrM) : Bool := x.ok && y.ok && t.ok && sameS x.f t.a.f && sameS y.f t.b.f
def opD (x a : ShM) : Mat := subM (joinM x) (joinM a)
def mulShF (x y : ShM) (t : TrM) : Mat := addM (addM (addM t.c.f (mulM (opD x t.a) t.b.f)) (mulM t.a.f (opD y t.b))) (mulM (opD x t.a) (opD y t.b))
def mulShS (x y : ShM) (t : TrM) : Mat := addM (addM t.c.s (mulM (opD x t.a) t.b.s)) (mulM t.a.s (opD y t.b))
def mulSh (x y : ShM) (t : TrM) : ShM := if mulShOk x y t = true then ⟨mulShF x y t, mulShS x y t⟩ else shZ
def mulShD (x y : ShM) (t : TrM) : Mat := if mulShOk x y t = true then opD x t.a else matZ
def mulShE (x y : ShM) (t : TrM) : Mat := if mulShOk x y t = true then opD y t.b else matZ
theorem sameS_Fm {R C R' C' : Nat} {f g : Nat → Int} (h : sameS (Fm R C f) (Fm R' C' g) = true) : R = R' ∧ C = C' := by
  simp only [sameS, Bool.and_eq_true, decide_eq_true_eq] at h
  have h1 : (R : Int) = R' := h.1
  have h2 : (C : Int) = C' := h.2
  omega
theorem Fm_sides {R C R' C' : Nat} {f g : Nat → Int} (h : Fm R C f = Fm R' C' g) : R = R' ∧ C = C' := by
  have h1 : (R : Int) = R' := congrArg Mat.r h
  have h2 : (C : Int) = C' := congrArg Mat.c h
  omega
theorem ShM.ok_form {a : ShM} (h : a.ok = true) : ∃ (R C : Nat) (f g : Nat → Int), a = ⟨Fm R C f, Fm R C g⟩ ∧ Side R ∧ Side C ∧ (∀ i, i < R * C → rv (f i) = true) ∧ (∀ i, i < R * C → rv (g i) = true) := by
  obtain ⟨p, q⟩ := a
  simp only [ShM.ok, Bool.and_eq_true] at h
  obtain ⟨R, C, f, rfl, hR, hC, hf⟩ := Mat.ok_form h.1.1
  obtain ⟨R', C', g, rfl, _, _, hg⟩ := Mat.ok_form h.1.2
  obtain ⟨rfl, rfl⟩ := sameS_Fm h.2
  exact ⟨R, C, f, g, rfl, hR, hC, hf, hg⟩
theorem ShM.mk_ok {R C : Nat} {f g : Nat → Int} (hR : Side R) (hC : Side C) (hf : ∀ i, i < R * C → rv (f i) = true) (hg : ∀ i, i < R * C → rv (g i) = true) : (ShM.mk (Fm R C f) (Fm R C g)).ok = true := by
  simp [ShM.ok, Fm_ok hR hC hf, Fm_ok hR hC hg, sameS, Fm_r, Fm_c]
theorem rr (f : Nat → Int) {n : Nat} : ∀ i, i < n → rv (ring (f i)) = true := fun i _ => rv_ring _
/-- Sums of shares are shares of sums. -/
theorem join_addSh {a b : ShM} (h : shAddOk a b = true) : (addSh a b).ok = true ∧ joinM (addSh a b) = addM (joinM a) (joinM b) := by
  have h0 := h
  simp only [shAddOk, Bool.and_eq_true] at h
  obtain ⟨R, C, f, g, rfl, hR, hC, hf, hg⟩ := ShM.ok_form h.1.1
  obtain ⟨R', C', f', g', rfl, _, _, hf', hg'⟩ := ShM.ok_form h.1.2
  obtain ⟨rfl, rfl⟩ := sameS_Fm h.2
  simp only [addSh, h0, if_true, joinM]
  rw [addM_Fm hR hC hf hf', addM_Fm hR hC hg hg', addM_Fm hR hC hf hg, addM_Fm hR hC hf' hg', addM_Fm hR hC (rr _) (rr _), addM_Fm hR hC (rr _) (rr _)]
  refine ⟨ShM.mk_ok hR hC (rr _) (rr _), Fm_congr fun i _ => ?_⟩
  rw [ring_add, ring_add]; congr 1; omega
/-- What a product by a right triple is. -/
theorem join_mulSh {x y : ShM} {t : TrM} (h : mulShOk x y t = true) : (mulSh x y t).ok = true ∧ joinM (mulSh x y t) = mulM (joinM x) (joinM y) := by
  have h0 := h
  obtain ⟨ta, tb, tc⟩ := t
  simp only [mulShOk, TrM.ok, Bool.and_eq_true, decide_eq_true_eq] at h
  obtain ⟨⟨⟨⟨hx, hy⟩, ⟨⟨ha, hb⟩, hc⟩, he⟩, sx⟩, sy⟩ := h
  obtain ⟨R, K, x1, x2, rfl, hR, hK, hx1, hx2⟩ := ShM.ok_form hx
  obtain ⟨K', C, y1, y2, rfl, hK', hC, hy1, hy2⟩ := ShM.ok_form hy
  obtain ⟨_, _, a1, a2, rfl, _, _, ha1, ha2⟩ := ShM.ok_form ha
  obtain ⟨_, _, b1, b2, rfl, _, _, hb1, hb2⟩ := ShM.ok_form hb
  obtain ⟨rfl, rfl⟩ := sameS_Fm sx
  obtain ⟨rfl, rfl⟩ := sameS_Fm sy
  obtain ⟨R', C', c1, c2, rfl, hR', hC', hc1, hc2⟩ := ShM.ok_form hc
  -- the inner sides fit: else the product would be the zero matrix
  simp only [joinM, prodM] at he
  rw [addM_Fm hR' hC' hc1 hc2, addM_Fm hR hK ha1 ha2, addM_Fm hK' hC hb1 hb2] at he
  have hkk : K = K' := by
    apply Classical.byContradiction
    intro hne
    have : mulM (Fm R K fun i => ring (a1 i + a2 i)) (Fm K' C fun i => ring (b1 i + b2 i)) = matZ := by
      unfold mulM
      rw [if_neg]
      intro h9
      simp only [Bool.and_eq_true, decide_eq_true_eq] at h9
      have h8 : (K : Int) = K' := h9.2
      omega
    rw [this] at he
    have h1 : (R' : Int) = 0 := congrArg Mat.r he
    have := hR'.lo
    omega
  subst hkk
  rw [mulM_Fm hR hK hC (rr _) (rr _)] at he
  obtain ⟨rfl, rfl⟩ := Fm_sides he
  have hev : ∀ p, p < R' * C' → ring (c1 p + c2 p) = ring (sumTo (fun k => (a1 (p / C' * K + k) + a2 (p / C' * K + k)) * (b1 (k * C' + p % C') + b2 (k * C' + p % C'))) K) := by
    intro p hp
    have := congrArg (fun m => m.xs.getD p 0) he
    rw [Fm_get _ hp, Fm_get _ hp] at this
    rw [this]
    exact ring_sum fun k _ => ring_mul' _ _
  simp only [mulSh, h0, if_true, mulShF, mulShS, opD, joinM]
  rw [addM_Fm hR hK hx1 hx2, addM_Fm hR hK ha1 ha2, addM_Fm hK hC hy1 hy2, addM_Fm hK hC hb1 hb2, subM_Fm hR hK (rr _) (rr _), subM_Fm hK hC (rr _) (rr _)]
  rw [mulM_Fm hR hK hC (rr _) hb1, mulM_Fm hR hK hC (rr _) hb2, mulM_Fm hR hK hC ha1 (rr _), mulM_Fm hR hK hC ha2 (rr _), mulM_Fm hR hK hC (rr _) (rr _), mulM_Fm hR hK hC (rr _) (rr _)]
  rw [addM_Fm hR hC hc1 (rr _), addM_Fm hR hC hc2 (rr _), addM_Fm hR hC (rr _) (rr _), addM_Fm hR hC (rr _) (rr _), addM_Fm hR hC (rr _) (rr _), addM_Fm hR hC (rr _) (rr _)]
  refine ⟨ShM.mk_ok hR hC (rr _) (rr _), Fm_congr fun p hp => ?_⟩
  have e := hev p hp
  generalize p / C' = i at *
  generalize p % C' = j at *
  -- all inner rings away
  have hR1 : ∀ u v : Nat → Int, ring (sumTo (fun k => ring (ring (x1 (i * K + k) + x2 (i * K + k)) - ring (a1 (i * K + k) + a2 (i * K + k))) * v k) K) = ring (sumTo (fun k => ((x1 (i * K + k) + x2 (i * K + k)) - (a1 (i * K + k) + a2 (i * K + k))) * v k) K) := fun _ v =>
    ring_sum fun k _ => ring_mul_congr (by rw [ring_id, ring_sub']) rfl
  have hE1 : ∀ u : Nat → Int, ring (sumTo (fun k => u k * ring (ring (y1 (k * C' + j) + y2 (k * C' + j)) - ring (b1 (k * C' + j) + b2 (k * C' + j)))) K) = ring (sumTo (fun k => u k * ((y1 (k * C' + j) + y2 (k * C' + j)) - (b1 (k * C' + j) + b2 (k * C' + j)))) K) := fun u =>
    ring_sum fun k _ => ring_mul_congr rfl (by rw [ring_id, ring_sub'])
  have hX : ring (sumTo (fun k => ring (x1 (i * K + k) + x2 (i * K + k)) * ring (y1 (k * C' + j) + y2 (k * C' + j))) K) = ring (sumTo (fun k => ((a1 (i * K + k) + a2 (i * K + k)) + ((x1 (i * K + k) + x2 (i * K + k)) - (a1 (i * K + k) + a2 (i * K + k)))) * ((b1 (k * C' + j) + b2 (k * C' + j)) + ((y1 (k * C' + j) + y2 (k * C' + j)) - (b1 (k * C' + j) + b2 (k * C' + j))))) K) :=
    ring_sum fun k _ => by rw [ring_mul']; congr 2 <;> omega
  rw [hR1 b1 fun k => b1 (k * C' + j), hR1 b1 fun k => b2 (k * C' + j), hE1 fun k => a1 (i * K + k), hE1 fun k => a2 (i * K + k), hX, sum_four]
  rw [hR1 b1 fun k => ring (ring (y1 (k * C' + j) + y2 (k * C' + j)) - ring (b1 (k * C' + j) + b2 (k * C' + j))), hE1]
  have s1 := sum_add (fun k => a1 (i * K + k) * ((y1 (k * C' + j) + y2 (k * C' + j)) - (b1 (k * C' + j) + b2 (k * C' + j)))) (fun k => a2 (i * K + k) * ((y1 (k * C' + j) + y2 (k * C' + j)) - (b1 (k * C' + j) + b2 (k * C' + j)))) K
  have s2 := sum_add (fun k => ((x1 (i * K + k) + x2 (i * K + k)) - (a1 (i * K + k) + a2 (i * K + k))) * b1 (k * C' + j)) (fun k => ((x1 (i * K + k) + x2 (i * K + k)) - (a1 (i * K + k) + a2 (i * K + k))) * b2 (k * C' + j)) K
  rw [show (fun k => a1 (i * K + k) * ((y1 (k * C' + j) + y2 (k * C' + j)) - (b1 (k * C' + j) + b2 (k * C' + j))) + a2 (i * K + k) * ((y1 (k * C' + j) + y2 (k * C' + j)) - (b1 (k * C' + j) + b2 (k * C' + j)))) = fun k => (a1 (i * K + k) + a2 (i * K + k)) * ((y1 (k * C' + j) + y2 (k * C' + j)) - (b1 (k * C' + j) + b2 (k * C' + j))) from funext fun k => (Int.add_mul _ _ _).symm] at s1
  rw [show (fun k => ((x1 (i * K + k) + x2 (i * K + k)) - (a1 (i * K + k) + a2 (i * K + k))) * b1 (k * C' + j) + ((x1 (i * K + k) + x2 (i * K + k)) - (a1 (i * K + k) + a2 (i * K + k))) * b2 (k * C' + j)) = fun k => ((x1 (i * K + k) + x2 (i * K + k)) - (a1 (i * K + k) + a2 (i * K + k))) * (b1 (k * C' + j) + b2 (k * C' + j)) from funext fun k => (Int.mul_add _ _ _).symm] at s2
  rw [s1, s2]
  generalize sumTo (fun k => (a1 (i * K + k) + a2 (i * K + k)) * (b1 (k * C' + j) + b2 (k * C' + j))) K = S at *
  clear s1 s2 hX hR1 hE1 hev he
  generalize sumTo _ K = P1 at *
  generalize sumTo _ K = P2 at *
  generalize sumTo _ K = P3 at *
  generalize sumTo _ K = P4 at *
  generalize sumTo _ K = P5 at *
  unfold ring at *
  omega
end Go.Proofs.Ytpbnbhiffnnliaa
namespace Go.Proofs.Ytpbnbhiffnnliaa
set_option linter.unusedSimpArgs false
set_option linter.unusedVariables false
open Go.RowKit
theorem mul_twice {a b : Mat} (ha : a.ok = true) (hb : b.ok = true) (hs : a.c = b.r) : (mulM a b).ok = true ∧ mulM a (addM b b) = addM (mulM a b) (mulM a b) := by
  obtain ⟨R, K, f, rfl, hR, hK, hf⟩ := Mat.ok_form ha
  obtain ⟨K', C, g, rfl, hK', hC, hg⟩ := Mat.ok_form hb
  obtain rfl : K = K' := by have h : (K : Int) = K' := hs; omega
  rw [addM_Fm hK hC hg hg, mulM_Fm hR hK hC hf hg, mulM_Fm hR hK hC hf (rr _), addM_Fm hR hC (rr _) (rr _)]
  refine ⟨Fm_ok hR hC (rr _), Fm_congr fun p _ => ?_⟩
  rw [ring_add, ← sum_times_add]
  exact ring_sum fun k _ => ring_mul_congr rfl (ring_id _)
/-- Adding zeros changes nothing. -/
theorem add_zero_Fm {R C : Nat} {f : Nat → Int} (hR : Side R) (hC : Side C) (hf : ∀ i, i < R * C → rv (f i) = true) : addM (Fm R C f) (Fm R C fun _ => 0) = Fm R C f := by
  rw [addM_Fm hR hC hf (fun _ _ => (by decide : rv 0 = true))]
  exact Fm_congr fun i hi => by rw [Int.add_zero, ring_of (hf i hi)]
theorem join_ok {a : ShM} (h : a.ok = true) : (joinM a).ok = true ∧ (joinM a).r = a.f.r ∧ (joinM a).c = a.f.c := by
  obtain ⟨R, C, f, g, rfl, hR, hC, hf, hg⟩ := ShM.ok_form h
  unfold joinM
  simp only
  rw [addM_Fm hR hC hf hg]
  exact ⟨Fm_ok hR hC (rr _), rfl, rfl⟩
theorem mul_ok {a b : Mat} (ha : a.ok = true) (hb : b.ok = true) (hs : a.c = b.r) : (mulM a b).ok = true ∧ (mulM a b).r = a.r ∧ (mulM a b).c = b.c := by
  obtain ⟨R, K, f, rfl, hR, hK, hf⟩ := Mat.ok_form ha
  obtain ⟨K', C, g, rfl, hK', hC, hg⟩ := Mat.ok_form hb
  obtain rfl : K = K' := by have h : (K : Int) = K' := hs; omega
  rw [mulM_Fm hR hK hC hf hg]
  exact ⟨Fm_ok hR hC (rr _), rfl, rfl⟩
end Go.Proofs.Ytpbnbhiffnnliaa
namespace Go.Proofs.Ytpbnbhiffnnliaa
set_option linter.unusedSimpArgs false
set_option linter.unusedVariables false
open Go.RowKit
theorem apart {B : Nat} {w w' : World} {v u : Value} {xs ys : List Int} (h : Own B w v xs) (k : Own w.heap.size w' u ys) : (∀ q, u.ownBlock = some q → v.ownBlock ≠ some q) ∧ (∀ q, v.ownBlock = some q → u.ownBlock ≠ some q) := by
  refine ⟨fun q h1 h2 => ?_, fun q h2 h1 => ?_⟩ <;>
  · have a := (k.block q h1).1
    have b := (h.block q h2).2
    omega
/-- A matrix with these values. -/
def MatIs (r c : Int) (xs : List Int) (u : Value) (w : World) : Prop := ∃ v, u = .agg #[.int .i64 r, .int .i64 c, v] ∧ Own 0 w v xs
def matS {n0 : Nat} (r c : Int) (xs : List Int) : OpSpec Ext n0 :=
  ⟨[], fun _ u _ _ w => MatIs r c xs u w, fun _ _ _ _ _ _ _ _ _ hx ⟨v, h1, h2⟩ => ⟨v, h1, h2.keep hx⟩⟩
/-- A call that leaves a matrix with these sides and values. -/
def MkPost (r c : Int) (xs : List Int) (w : World) (e : Ending) (w' : World) : Prop := ∃ v, e = .returned (.agg #[.int .i64 r, .int .i64 c, v]) ∧ Own w.heap.size w' v xs ∧ Ext w w'
theorem MatPost.mk' {m : Mat} {w : World} {e : Ending} {w' : World} (h : MatPost m w e w') : MkPost m.r m.c m.xs w e w' := h
end Go.Proofs.Ytpbnbhiffnnliaa
