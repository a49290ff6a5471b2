import Derived.Test.YtdhmjhoaegdfjaaGreatP8
import Derived.Test.YtdhmjhoaegdfjaaGreatG5
namespace Go.Proofs.YtdhmjhoaegdfjaaGreat.Pl
/-! ### sums -/
def sm : Nat → (Nat → Int) → Int
  | 0, _ => 0
  | n + 1, f => sm n f + f n
theorem sm_succ (n : Nat) (f : Nat → Int) : sm (n + 1) f = sm n f + f n := rfl
theorem sm_congr {n : Nat} {f g : Nat → Int} (h : ∀ i, i < n → f i = g i) : sm n f = sm n g := by
  induction n with
  | zero => rfl
  | succ n ih => rw [sm_succ, sm_succ, ih (fun i hi => h i (by omega)), h n (by omega)]
theorem sm_add (n : Nat) (f g : Nat → Int) : sm n (fun i => f i + g i) = sm n f + sm n g := by
  induction n with
  | zero => rfl
  | succ n ih => simp only [sm_succ, ih]; omega
theorem sm_sub (n : Nat) (f g : Nat → Int) : sm n (fun i => f i - g i) = sm n f - sm n g := by
  induction n with
  | zero => rfl
  | succ n ih => simp only [sm_succ, ih]; omega
theorem sm_neg (n : Nat) (f : Nat → Int) : sm n (fun i => - f i) = - sm n f := by
  induction n with
  | zero => rfl
  | succ n ih => simp only [sm_succ, ih]; omega
theorem sm_mul (n : Nat) (c : Int) (f : Nat → Int) : sm n (fun i => c * f i) = c * sm n f := by
  induction n with
  | zero => simp [sm]
  | succ n ih => simp only [sm_succ, ih, Int.mul_add]
theorem sm_zero {n : Nat} {f : Nat → Int} (h : ∀ i, i < n → f i = 0) : sm n f = 0 := by
  induction n with
  | zero => rfl
  | succ n ih => rw [sm_succ, ih (fun i hi => h i (by omega)), h n (by omega)]; rfl
theorem sm_swap (n m : Nat) (f : Nat → Nat → Int) : sm n (fun i => sm m (fun j => f i j)) = sm m (fun j => sm n (fun i => f i j)) := by
  induction n with
  | zero => exact (sm_zero (fun _ _ => rfl)).symm
  | succ n ih =>
    rw [sm_succ, ih, ← sm_add]
    exact sm_congr fun j _ => rfl
theorem sm_one {n p : Nat} (hp : p < n) {f : Nat → Int} (h : ∀ i, i < n → i ≠ p → f i = 0) : sm n f = f p := by
  induction n with
  | zero => omega
  | succ n ih =>
    rw [sm_succ]
    rcases Nat.lt_succ_iff_lt_or_eq.1 hp with h' | h'
    · rw [ih h' (fun i hi => h i (by omega)), h n (by omega) (by omega), Int.add_zero]
    · subst h'
      rw [sm_zero (fun i hi => h i (by omega) (by omega)), Int.zero_add]
theorem sm_nonneg {n : Nat} {f : Nat → Int} (h : ∀ i, i < n → 0 ≤ f i) : 0 ≤ sm n f := by
  induction n with
  | zero => exact Int.le_refl _
  | succ n ih => rw [sm_succ]; have := ih (fun i hi => h i (by omega)); have := h n (by omega); omega
theorem sm_le {n : Nat} {f g : Nat → Int} (h : ∀ i, i < n → f i ≤ g i) : sm n f ≤ sm n g := by
  induction n with
  | zero => exact Int.le_refl _
  | succ n ih => rw [sm_succ, sm_succ]; have := ih (fun i hi => h i (by omega)); have := h n (by omega); omega
theorem sm_const (n : Nat) (c : Int) : sm n (fun _ => c) = n * c := by
  induction n with
  | zero => simp [sm]
  | succ n ih => rw [sm_succ, ih]; rw [show ((n + 1 : Nat) : Int) = (n : Int) + 1 by omega, Int.add_mul]; omega
theorem sm_two (n : Nat) (f : Nat → Int) : sm (2 * n) f = sm n (fun k => f (2 * k) + f (2 * k + 1)) := by
  induction n with
  | zero => rfl
  | succ n ih => rw [show 2 * (n + 1) = 2 * n + 1 + 1 by omega, sm_succ, sm_succ, sm_succ, ih]; omega

/-! ### signs -/
theorem pos_of {a b : Int} (ha : 0 < a) (h : 0 < a * b) : 0 < b := by
  rcases Int.lt_or_le 0 b with hb | hb
  · exact hb
  · have := Int.mul_nonneg (Int.le_of_lt ha) (show 0 ≤ -b by omega)
    rw [Int.mul_neg] at this; omega
theorem nonneg_of {a b : Int} (ha : 0 < a) (h : 0 ≤ a * b) : 0 ≤ b := by
  rcases Int.lt_or_le b 0 with hb | hb
  · have := Int.mul_pos ha (show 0 < -b by omega)
    rw [Int.mul_neg] at this; omega
  · exact hb
theorem neg_of {a b : Int} (ha : 0 < a) (h : a * b < 0) : b < 0 := by
  rcases Int.lt_or_le b 0 with hb | hb
  · exact hb
  · have := Int.mul_nonneg (Int.le_of_lt ha) hb; omega
theorem nonpos_of {a b : Int} (ha : 0 < a) (h : a * b ≤ 0) : b ≤ 0 := by
  rcases Int.lt_or_le 0 b with hb | hb
  · have := Int.mul_pos ha hb; omega
  · exact hb
theorem zero_of {a b : Int} (ha : 0 < a) (h : a * b = 0) : b = 0 := by
  have := nonneg_of ha (Int.le_of_eq h.symm)
  have := nonpos_of ha (Int.le_of_eq h)
  omega
theorem mul_pn {a b : Int} (ha : 0 < a) (hb : b < 0) : a * b < 0 := by
  have := Int.mul_pos ha (show 0 < -b by omega); rw [Int.mul_neg] at this; omega
theorem mul_p0 {a b : Int} (ha : 0 ≤ a) (hb : b ≤ 0) : a * b ≤ 0 := by
  have := Int.mul_nonneg ha (show 0 ≤ -b by omega); rw [Int.mul_neg] at this; omega
theorem mul_nn {a b : Int} (ha : a ≤ 0) (hb : b ≤ 0) : 0 ≤ a * b := by
  have := Int.mul_nonneg (show 0 ≤ -a by omega) (show 0 ≤ -b by omega); rw [Int.neg_mul_neg] at this; exact this
theorem mul_np {a b : Int} (ha : a < 0) (hb : 0 < b) : a * b < 0 := by rw [Int.mul_comm]; exact mul_pn hb ha
theorem mul_pos_iff {a b : Int} (ha : 0 < a) : 0 < a * b ↔ 0 < b := ⟨pos_of ha, fun h => Int.mul_pos ha h⟩

/-! ### straight leads in a plane, their ends from left to right -/
structure Drw where
  m : Nat
  xa : Nat → Int
  ya : Nat → Int
  xb : Nat → Int
  yb : Nat → Int
namespace Drw
variable (G : Drw)
def den (k : Nat) : Int := G.xb k - G.xa k
def num (k : Nat) (t : Int) : Int := G.ya k * (G.xb k - t) + G.yb k * (t - G.xa k)
/-- lead l is above lead k at t -/
def D (k l : Nat) (t : Int) : Int := G.num l t * G.den k - G.num k t * G.den l
/-- the side of a point -/
def K (k : Nat) (x y : Int) : Int := (G.xb k - G.xa k) * (y - G.ya k) - (G.yb k - G.ya k) * (x - G.xa k)
def sp (k : Nat) (t : Int) : Prop := G.xa k < t ∧ t < G.xb k
instance (k : Nat) (t : Int) : Decidable (G.sp k t) := inferInstanceAs (Decidable (_ ∧ _))
structure Ok (G : Drw) : Prop where
  ev : ∀ k, k < G.m → G.xa k % 2 = 0 ∧ G.xb k % 2 = 0
  lt : ∀ k, k < G.m → G.xa k < G.xb k
  aa : ∀ k l, k < G.m → l < G.m → G.xa k = G.xa l → G.ya k = G.ya l
  ab : ∀ k l, k < G.m → l < G.m → G.xa k = G.xb l → G.ya k = G.yb l
  bb : ∀ k l, k < G.m → l < G.m → G.xb k = G.xb l → G.yb k = G.yb l
  na : ∀ k l, k < G.m → l < G.m → G.xa k < G.xa l → G.xa l < G.xb k → G.K k (G.xa l) (G.ya l) ≠ 0
  nb : ∀ k l, k < G.m → l < G.m → G.xa k < G.xb l → G.xb l < G.xb k → G.K k (G.xb l) (G.yb l) ≠ 0
  nx : ∀ k l, k < G.m → l < G.m → k ≠ l → G.K k (G.xa l) (G.ya l) * G.K k (G.xb l) (G.yb l) < 0 → G.K l (G.xa k) (G.ya k) * G.K l (G.xb k) (G.yb k) < 0 → False
  ne : ∀ k l, k < G.m → l < G.m → k ≠ l → G.xa k = G.xa l → G.xb k = G.xb l → False
variable {G : Drw}
theorem D_al (k l : Nat) : G.D k l (G.xa l) = G.den l * G.K k (G.xa l) (G.ya l) := by unfold D K num den; grind
theorem D_bl (k l : Nat) : G.D k l (G.xb l) = G.den l * G.K k (G.xb l) (G.yb l) := by unfold D K num den; grind
theorem D_ak (k l : Nat) : G.D k l (G.xa k) = -(G.den k * G.K l (G.xa k) (G.ya k)) := by unfold D K num den; grind
theorem D_bk (k l : Nat) : G.D k l (G.xb k) = -(G.den k * G.K l (G.xb k) (G.yb k)) := by unfold D K num den; grind
theorem D_lin (k l : Nat) (p q t : Int) : (q - p) * G.D k l t = (q - t) * G.D k l p + (t - p) * G.D k l q := by unfold D num den; grind
theorem D_swap (k l : Nat) (t : Int) : G.D l k t = -(G.D k l t) := by unfold D; grind
theorem D_self (k : Nat) (t : Int) : G.D k k t = 0 := by unfold D; grind
theorem D_tri (i j k : Nat) (t : Int) : G.den j * G.D i k t = G.den k * G.D i j t + G.den i * G.D j k t := by unfold D; grind
theorem D_right (k l : Nat) (t : Int) (h : G.xa k = G.xa l) (h2 : G.ya k = G.ya l) : G.D k l t = (t - G.xa k) * G.K k (G.xb l) (G.yb l) := by unfold D K num den; grind
theorem D_left (k l : Nat) (t : Int) (h : G.xb k = G.xb l) (h2 : G.yb k = G.yb l) : G.D k l t = -((t - G.xb k) * G.K k (G.xa l) (G.ya l)) := by unfold D K num den; grind
theorem den_pos (h : G.Ok) {k : Nat} (hk : k < G.m) : 0 < G.den k := by have := h.lt k hk; unfold den; omega

/-- the sign of D on what two leads share -/
def Up (G : Drw) (k l : Nat) : Prop := ∀ t, G.xa k ≤ t → G.xa l ≤ t → t ≤ G.xb k → t ≤ G.xb l → 0 ≤ G.D k l t ∧ (G.xa k < t → G.xa l < t → t < G.xb k → t < G.xb l → 0 < G.D k l t)
theorem up_of {k l : Nat} {p q : Int} (hp : p < q) (ha : ∀ t, G.xa k ≤ t → G.xa l ≤ t → p ≤ t) (hb : ∀ t, t ≤ G.xb k → t ≤ G.xb l → t ≤ q)
    (ha' : ∀ t, G.xa k < t → G.xa l < t → p < t) (hb' : ∀ t, t < G.xb k → t < G.xb l → t < q)
    (h1 : 0 ≤ G.D k l p) (h2 : 0 ≤ G.D k l q) (h3 : 0 < G.D k l p + G.D k l q) : G.Up k l := by
  intro t t1 t2 t3 t4
  have hl := G.D_lin k l p q t
  have m1 := Int.mul_nonneg (show 0 ≤ q - t by have := hb t t3 t4; omega) h1
  have m2 := Int.mul_nonneg (show 0 ≤ t - p by have := ha t t1 t2; omega) h2
  refine ⟨nonneg_of (show 0 < q - p by omega) (by omega), fun s1 s2 s3 s4 => ?_⟩
  have l1 := ha' t s1 s2
  have l2 := hb' t s3 s4
  rcases Int.lt_or_le 0 (G.D k l p) with h | h
  · have := Int.mul_pos (show 0 < q - t by omega) h
    exact pos_of (show 0 < q - p by omega) (by omega)
  · have := Int.mul_pos (show 0 < t - p by omega) (show 0 < G.D k l q by omega)
    exact pos_of (show 0 < q - p by omega) (by omega)
/-- two leads do not change sides: the start p and the end q of what they share -/
theorem no_flip (h : G.Ok) {k l : Nat} (hk : k < G.m) (hl : l < G.m) (hne : k ≠ l) {p q : Int} (hp : p < q) (p1 : G.xa k ≤ p) (p2 : G.xa l ≤ p) (q1 : q ≤ G.xb k) (q2 : q ≤ G.xb l)
    (h1 : 0 < G.D k l p) (h2 : G.D k l q < 0) : False := by
  have lo : ∀ t, t ≤ p → 0 < G.D k l t := by
    intro t ht
    have hl := G.D_lin k l p q t
    have m1 := Int.mul_pos (show 0 < q - t by omega) h1
    have m2 := mul_nn (show t - p ≤ 0 by omega) (Int.le_of_lt h2)
    exact pos_of (show 0 < q - p by omega) (by omega)
  have hi : ∀ t, q ≤ t → G.D k l t < 0 := by
    intro t ht
    have hl := G.D_lin k l p q t
    have m1 := mul_pn (show 0 < t - p by omega) h2
    have m2 := mul_p0 (Int.le_of_lt h1) (show q - t ≤ 0 by omega)
    rw [Int.mul_comm] at m2
    exact neg_of (show 0 < q - p by omega) (by omega)
  have dk := den_pos h hk
  have dl := den_pos h hl
  have e1 := lo _ p1
  have e2 := lo _ p2
  have e3 := hi _ q1
  have e4 := hi _ q2
  rw [D_ak] at e1
  rw [D_al] at e2
  rw [D_bk] at e3
  rw [D_bl] at e4
  refine h.nx k l hk hl hne ?_ ?_
  · exact mul_pn (pos_of dl e2) (neg_of dl e4)
  · exact mul_np (neg_of dk (by omega)) (pos_of dk (by omega))
theorem sgn (h : G.Ok) {k l : Nat} (hk : k < G.m) (hl : l < G.m) (hne : k ≠ l) (o1 : G.xa k < G.xb l) (o2 : G.xa l < G.xb k) : G.Up k l ∨ G.Up l k := by
  have lk := h.lt k hk
  have ll := h.lt l hl
  have dk := den_pos h hk
  have dl := den_pos h hl
  obtain ⟨p, p1, p2, pe⟩ : ∃ p, G.xa k ≤ p ∧ G.xa l ≤ p ∧ (p = G.xa k ∨ p = G.xa l) := by
    rcases Int.le_total (G.xa k) (G.xa l) with c | c
    · exact ⟨_, c, Int.le_refl _, .inr rfl⟩
    · exact ⟨_, Int.le_refl _, c, .inl rfl⟩
  obtain ⟨q, q1, q2, qe⟩ : ∃ q, q ≤ G.xb k ∧ q ≤ G.xb l ∧ (q = G.xb k ∨ q = G.xb l) := by
    rcases Int.le_total (G.xb k) (G.xb l) with c | c
    · exact ⟨_, Int.le_refl _, c, .inl rfl⟩
    · exact ⟨_, c, Int.le_refl _, .inr rfl⟩
  have hp : p < q := by omega
  have z1 : G.D k l p = 0 → G.xa k = G.xa l := by
    intro e
    rcases Int.lt_trichotomy (G.xa k) (G.xa l) with c | c | c
    · have : p = G.xa l := by omega
      rw [this, D_al] at e
      exact absurd (zero_of dl e) (h.na k l hk hl c o2)
    · exact c
    · have : p = G.xa k := by omega
      rw [this, D_ak] at e
      exact absurd (zero_of dk (by omega)) (h.na l k hl hk c o1)
  have z2 : G.D k l q = 0 → G.xb k = G.xb l := by
    intro e
    rcases Int.lt_trichotomy (G.xb k) (G.xb l) with c | c | c
    · have : q = G.xb k := by omega
      rw [this, D_bk] at e
      exact absurd (zero_of dk (by omega)) (h.nb l k hl hk o2 c)
    · exact c
    · have : q = G.xb l := by omega
      rw [this, D_bl] at e
      exact absurd (zero_of dl e) (h.nb k l hk hl o1 c)
  have z3 : ¬ (G.D k l p = 0 ∧ G.D k l q = 0) := fun e => h.ne k l hk hl hne (z1 e.1) (z2 e.2)
  have f1 : ¬ (0 < G.D k l p ∧ G.D k l q < 0) := fun e => no_flip h hk hl hne hp p1 p2 q1 q2 e.1 e.2
  have f2 : ¬ (G.D k l p < 0 ∧ 0 < G.D k l q) := fun e => no_flip h hl hk (Ne.symm hne) hp p2 p1 q2 q1 (by rw [D_swap]; omega) (by rw [D_swap]; omega)
  have hh : (0 ≤ G.D k l p ∧ 0 ≤ G.D k l q) ∨ (G.D k l p ≤ 0 ∧ G.D k l q ≤ 0) := by omega
  rcases hh with hh | hh
  · exact .inl (up_of hp (fun t _ _ => by omega) (fun t _ _ => by omega) (fun t _ _ => by omega) (fun t _ _ => by omega) hh.1 hh.2 (by omega))
  · exact .inr (up_of hp (fun t _ _ => by omega) (fun t _ _ => by omega) (fun t _ _ => by omega) (fun t _ _ => by omega) (by rw [D_swap]; omega) (by rw [D_swap]; omega) (by rw [D_swap k l p, D_swap k l q]; omega))
/-- strictly inside: the sign is told by any place where it is not 0 -/
theorem sgn_iff (h : G.Ok) {k l : Nat} (hk : k < G.m) (hl : l < G.m) (hne : k ≠ l) {s t : Int} (t1 : G.sp k t) (t2 : G.sp l t)
    (s1 : G.xa k ≤ s) (s2 : G.xa l ≤ s) (s3 : s ≤ G.xb k) (s4 : s ≤ G.xb l) (hs : G.D k l s ≠ 0) : 0 < G.D k l t ↔ 0 < G.D k l s := by
  have hh := sgn h hk hl hne (by unfold sp at t1 t2; omega) (by unfold sp at t1 t2; omega)
  unfold sp at t1 t2
  rcases hh with hh | hh
  · have a := (hh t (by omega) (by omega) (by omega) (by omega)).2 t1.1 t2.1 t1.2 t2.2
    have b := (hh s s1 s2 s3 s4).1
    omega
  · have a := (hh t (by omega) (by omega) (by omega) (by omega)).2 t2.1 t1.1 t2.2 t1.2
    have b := (hh s s2 s1 s4 s3).1
    rw [D_swap] at a b
    omega
theorem D_ne (h : G.Ok) {k l : Nat} (hk : k < G.m) (hl : l < G.m) (hne : k ≠ l) {t : Int} (t1 : G.sp k t) (t2 : G.sp l t) : G.D k l t ≠ 0 := by
  have hh := sgn h hk hl hne (by unfold sp at t1 t2; omega) (by unfold sp at t1 t2; omega)
  unfold sp at t1 t2
  rcases hh with hh | hh
  · have a := (hh t (by omega) (by omega) (by omega) (by omega)).2 t1.1 t2.1 t1.2 t2.2
    omega
  · have a := (hh t (by omega) (by omega) (by omega) (by omega)).2 t2.1 t1.1 t2.2 t1.2
    rw [D_swap] at a
    omega
end Drw
end Go.Proofs.YtdhmjhoaegdfjaaGreat.Pl

namespace Go.Proofs.YtdhmjhoaegdfjaaGreat.Pl
namespace Drw
variable {G : Drw}
/-- what flows in at a place flows out there -/
def Cons (G : Drw) (z : Nat → Int) : Prop := ∀ s : Int, sm G.m (fun l => if G.xb l = s then z l else 0) = sm G.m (fun l => if G.xa l = s then z l else 0)
/-- the flow above lead k at t -/
def N (G : Drw) (z : Nat → Int) (k : Nat) (t : Int) : Int := sm G.m (fun l => if G.sp l t ∧ 0 < G.D k l t then z l else 0)
def F (G : Drw) (z : Nat → Int) (t : Int) : Int := sm G.m (fun l => if G.sp l t then z l else 0)
theorem sp_step (h : G.Ok) {l : Nat} (hl : l < G.m) {t : Int} (ht : t % 2 = 1) : (G.sp l (t + 2) ↔ G.xa l = t + 1 ∨ (G.sp l t ∧ G.xb l ≠ t + 1)) ∧ (G.sp l t ↔ G.xb l = t + 1 ∨ (G.sp l (t + 2) ∧ G.xa l ≠ t + 1)) := by
  have := h.ev l hl
  have := h.lt l hl
  unfold sp
  omega
theorem F_step (h : G.Ok) {z : Nat → Int} (hc : G.Cons z) {t : Int} (ht : t % 2 = 1) : G.F z (t + 2) = G.F z t := by
  have e : sm G.m (fun l => (if G.sp l (t + 2) then z l else 0) - (if G.sp l t then z l else 0)) = sm G.m (fun l => (if G.xa l = t + 1 then z l else 0) - (if G.xb l = t + 1 then z l else 0)) := by
    refine sm_congr fun l hl => ?_
    have h1 := sp_step h hl ht
    have h2 := h.ev l hl
    have h3 := h.lt l hl
    by_cases c1 : G.xa l = t + 1
    · rw [if_pos c1, if_neg (show ¬ G.xb l = t + 1 by omega), if_pos (show G.sp l (t + 2) by unfold sp; omega), if_neg (show ¬ G.sp l t by unfold sp; omega)]
    · by_cases c2 : G.xb l = t + 1
      · rw [if_neg c1, if_pos c2, if_neg (show ¬ G.sp l (t + 2) by unfold sp; omega), if_pos (show G.sp l t by unfold sp; omega)]
      · rw [if_neg c1, if_neg c2]
        by_cases c3 : G.sp l t
        · rw [if_pos c3, if_pos (show G.sp l (t + 2) by unfold sp at *; omega)]; omega
        · rw [if_neg c3, if_neg (show ¬ G.sp l (t + 2) by unfold sp at *; omega)]
  rw [sm_sub, sm_sub] at e
  have := hc (t + 1)
  unfold F
  omega
theorem F_low (G : Drw) : ∀ n, ∃ t0 : Int, t0 % 2 = 1 ∧ ∀ l, l < n → t0 ≤ G.xa l
  | 0 => ⟨1, rfl, fun l hl => by omega⟩
  | n + 1 => by
    obtain ⟨t0, h1, h2⟩ := F_low G n
    rcases Int.le_total t0 (G.xa n) with c | c
    · exact ⟨t0, h1, fun l hl => by rcases Nat.lt_succ_iff_lt_or_eq.1 hl with h | h; exact h2 l h; subst h; exact c⟩
    · refine ⟨2 * (G.xa n / 2) - 1, by omega, fun l hl => ?_⟩
      rcases Nat.lt_succ_iff_lt_or_eq.1 hl with h | h
      · have := h2 l h; omega
      · subst h; omega
theorem F_zero (h : G.Ok) {z : Nat → Int} (hc : G.Cons z) {t : Int} (ht : t % 2 = 1) : G.F z t = 0 := by
  obtain ⟨t0, h1, h2⟩ := F_low G G.m
  have hlow : ∀ t, t ≤ t0 → G.F z t = 0 := fun t htt => sm_zero fun l hl => if_neg (by have := h2 l hl; unfold sp; omega)
  have key : ∀ n : Nat, G.F z (t0 + 2 * (n : Int)) = 0 := by
    intro n
    induction n with
    | zero => exact hlow _ (by omega)
    | succ n ih =>
      rw [show t0 + 2 * ((n + 1 : Nat) : Int) = (t0 + 2 * (n : Int)) + 2 by omega, F_step h hc (by omega)]
      exact ih
  rcases Int.le_total t t0 with c | c
  · exact hlow t c
  · have := key ((t - t0) / 2).toNat
    rw [show t0 + 2 * (((t - t0) / 2).toNat : Int) = t by omega] at this
    exact this
theorem N_step (h : G.Ok) {z : Nat → Int} (hc : G.Cons z) {k : Nat} (hk : k < G.m) {t : Int} (ht : t % 2 = 1) (s1 : G.sp k t) (s2 : G.sp k (t + 2)) : G.N z k (t + 2) = G.N z k t := by
  have hne0 : ∀ l, l < G.m → (G.xa l = t + 1 → G.K k (G.xa l) (G.ya l) ≠ 0) ∧ (G.xb l = t + 1 → G.K k (G.xb l) (G.yb l) ≠ 0) := fun l hl =>
    ⟨fun e => h.na k l hk hl (by unfold sp at s1; omega) (by unfold sp at s2; omega), fun e => h.nb k l hk hl (by unfold sp at s1; omega) (by unfold sp at s2; omega)⟩
  have key : ∀ l, l < G.m → (if G.sp l (t + 2) ∧ 0 < G.D k l (t + 2) then z l else 0) - (if G.sp l t ∧ 0 < G.D k l t then z l else 0) =
      (if G.xa l = t + 1 ∧ 0 < G.K k (G.xa l) (G.ya l) then z l else 0) - (if G.xb l = t + 1 ∧ 0 < G.K k (G.xb l) (G.yb l) then z l else 0) := by
    intro l hl
    have h1 := sp_step h hl ht
    have h2 := h.ev l hl
    have h3 := h.lt l hl
    have hdl := den_pos h hl
    by_cases hkl : k = l
    · subst hkl
      rw [if_neg (by rw [D_self]; omega), if_neg (by rw [D_self]; omega), if_neg (by unfold sp at s1 s2; omega), if_neg (by unfold sp at s1 s2; omega)]
    · by_cases c1 : G.xa l = t + 1
      · have a1 : G.sp l (t + 2) := by unfold sp; omega
        have a2 : ¬ G.sp l t := by unfold sp; omega
        have i1 := sgn_iff h hk hl hkl s2 a1 (s := G.xa l) (by unfold sp at s1; omega) (Int.le_refl _) (by unfold sp at s2; omega) (by omega) (by rw [D_al]; exact fun e => (hne0 l hl).1 c1 (zero_of hdl e))
        rw [D_al, mul_pos_iff hdl] at i1
        rw [if_neg (show ¬ (G.sp l t ∧ _) from fun e => a2 e.1), if_neg (show ¬ (G.xb l = t + 1 ∧ _) from fun e => by omega)]
        congr 1
        by_cases c3 : 0 < G.D k l (t + 2)
        · rw [if_pos ⟨a1, c3⟩, if_pos ⟨c1, i1.1 c3⟩]
        · rw [if_neg (fun e => c3 e.2), if_neg (fun e => c3 (i1.2 e.2))]
      · by_cases c2 : G.xb l = t + 1
        · have a1 : ¬ G.sp l (t + 2) := by unfold sp; omega
          have a2 : G.sp l t := by unfold sp; omega
          have i1 := sgn_iff h hk hl hkl s1 a2 (s := G.xb l) (by unfold sp at s1; omega) (by omega) (by unfold sp at s2; omega) (Int.le_refl _) (by rw [D_bl]; exact fun e => (hne0 l hl).2 c2 (zero_of hdl e))
          rw [D_bl, mul_pos_iff hdl] at i1
          rw [if_neg (show ¬ (G.sp l (t + 2) ∧ _) from fun e => a1 e.1), if_neg (show ¬ (G.xa l = t + 1 ∧ _) from fun e => c1 e.1)]
          congr 1
          by_cases c3 : 0 < G.D k l t
          · rw [if_pos ⟨a2, c3⟩, if_pos ⟨c2, i1.1 c3⟩]
          · rw [if_neg (fun e => c3 e.2), if_neg (fun e => c3 (i1.2 e.2))]
        · rw [if_neg (show ¬ (G.xa l = t + 1 ∧ _) from fun e => c1 e.1), if_neg (show ¬ (G.xb l = t + 1 ∧ _) from fun e => c2 e.1)]
          by_cases c3 : G.sp l t
          · have c4 : G.sp l (t + 2) := by unfold sp at *; omega
            have i1 := sgn_iff h hk hl hkl s2 c4 (s := t) (by unfold sp at s1; omega) (by unfold sp at c3; omega) (by unfold sp at s1; omega) (by unfold sp at c3; omega) (D_ne h hk hl hkl s1 c3)
            by_cases c5 : 0 < G.D k l t
            · rw [if_pos (show G.sp l t ∧ _ from ⟨c3, c5⟩), if_pos ⟨c4, i1.2 c5⟩]; omega
            · rw [if_neg (show ¬ (G.sp l t ∧ _) from fun e => c5 e.2), if_neg (fun e => c5 (i1.1 e.2))]
          · have c4 : ¬ G.sp l (t + 2) := by unfold sp at *; omega
            rw [if_neg (show ¬ (G.sp l t ∧ _) from fun e => c3 e.1), if_neg (fun e => c4 e.1)]
  have e := sm_congr key
  rw [sm_sub, sm_sub] at e
  -- all ends at t + 1 are one node
  have hz : sm G.m (fun l => if G.xa l = t + 1 ∧ 0 < G.K k (G.xa l) (G.ya l) then z l else 0) = sm G.m (fun l => if G.xb l = t + 1 ∧ 0 < G.K k (G.xb l) (G.yb l) then z l else 0) := by
    have hcc := hc (t + 1)
    by_cases hE : ∃ y, (∀ l, l < G.m → G.xa l = t + 1 → G.ya l = y) ∧ (∀ l, l < G.m → G.xb l = t + 1 → G.yb l = y)
    · obtain ⟨y, y1, y2⟩ := hE
      by_cases hK : 0 < G.K k (t + 1) y
      · have e1 : sm G.m (fun l => if G.xa l = t + 1 ∧ 0 < G.K k (G.xa l) (G.ya l) then z l else 0) = sm G.m (fun l => if G.xa l = t + 1 then z l else 0) := by
          refine sm_congr fun l hl => ?_
          by_cases c : G.xa l = t + 1
          · rw [if_pos c, if_pos ⟨c, by rw [c, y1 l hl c]; exact hK⟩]
          · rw [if_neg c, if_neg (fun e => c e.1)]
        have e2 : sm G.m (fun l => if G.xb l = t + 1 ∧ 0 < G.K k (G.xb l) (G.yb l) then z l else 0) = sm G.m (fun l => if G.xb l = t + 1 then z l else 0) := by
          refine sm_congr fun l hl => ?_
          by_cases c : G.xb l = t + 1
          · rw [if_pos c, if_pos ⟨c, by rw [c, y2 l hl c]; exact hK⟩]
          · rw [if_neg c, if_neg (fun e => c e.1)]
        rw [e1, e2, hcc]
      · rw [sm_zero, sm_zero]
        · intro l hl
          refine if_neg fun e => hK ?_
          have := e.2
          rw [e.1, y2 l hl e.1] at this
          exact this
        · intro l hl
          refine if_neg fun e => hK ?_
          have := e.2
          rw [e.1, y1 l hl e.1] at this
          exact this
    · exfalso
      apply hE
      by_cases hA : ∃ l, l < G.m ∧ G.xa l = t + 1
      · obtain ⟨l, hl, el⟩ := hA
        exact ⟨G.ya l, fun j hj ej => h.aa j l hj hl (by omega), fun j hj ej => (h.ab l j hl hj (by omega)).symm⟩
      · by_cases hB : ∃ l, l < G.m ∧ G.xb l = t + 1
        · obtain ⟨l, hl, el⟩ := hB
          exact ⟨G.yb l, fun j hj ej => absurd ⟨j, hj, ej⟩ hA, fun j hj ej => h.bb j l hj hl (by omega)⟩
        · exact ⟨0, fun j hj ej => absurd ⟨j, hj, ej⟩ hA, fun j hj ej => absurd ⟨j, hj, ej⟩ hB⟩
  unfold N
  omega
/-- the flow above lead k -/
def W (G : Drw) (z : Nat → Int) (k : Nat) : Int := G.N z k (G.xa k + 1)
theorem N_eq (h : G.Ok) {z : Nat → Int} (hc : G.Cons z) {k : Nat} (hk : k < G.m) {t : Int} (ht : t % 2 = 1) (s1 : G.sp k t) : G.N z k t = G.W z k := by
  have hev := h.ev k hk
  have key : ∀ n : Nat, G.sp k (G.xa k + 1 + 2 * (n : Int)) → G.N z k (G.xa k + 1 + 2 * (n : Int)) = G.W z k := by
    intro n
    induction n with
    | zero => intro _; show G.N z k (G.xa k + 1 + 2 * 0) = G.N z k (G.xa k + 1); rw [show G.xa k + 1 + 2 * 0 = G.xa k + 1 by omega]
    | succ n ih =>
      intro hs
      rw [show G.xa k + 1 + 2 * ((n + 1 : Nat) : Int) = (G.xa k + 1 + 2 * (n : Int)) + 2 by omega] at hs ⊢
      have hs' : G.sp k (G.xa k + 1 + 2 * (n : Int)) := by unfold sp at *; omega
      rw [N_step h hc hk (by omega) hs' hs, ih hs']
  have := key ((t - G.xa k - 1) / 2).toNat
  rw [show G.xa k + 1 + 2 * (((t - G.xa k - 1) / 2).toNat : Int) = t by unfold sp at s1; omega] at this
  exact this s1
/-- the flow that passes above a place -/
def U (G : Drw) (z : Nat → Int) (s y : Int) : Int := sm G.m (fun l => if (G.xa l < s ∧ s < G.xb l) ∧ G.K l s y < 0 then z l else 0)
theorem W_right (h : G.Ok) {z : Nat → Int} {k : Nat} (hk : k < G.m) :
    G.W z k = G.U z (G.xa k) (G.ya k) + sm G.m (fun l => if G.xa l = G.xa k ∧ 0 < G.K k (G.xb l) (G.yb l) then z l else 0) := by
  unfold W N U
  rw [← sm_add]
  refine sm_congr fun l hl => ?_
  have hev := h.ev k hk
  have h2 := h.ev l hl
  have h3 := h.lt l hl
  have hlk := h.lt k hk
  have hsk : G.sp k (G.xa k + 1) := by unfold sp; omega
  by_cases hkl : k = l
  · subst hkl
    rw [if_neg (by rw [D_self]; omega), if_neg (by omega), if_neg (by unfold K; grind)]; rfl
  · by_cases c1 : G.xa l = G.xa k
    · rw [if_neg (show ¬ ((G.xa l < G.xa k ∧ _) ∧ _) by omega), D_right k l _ c1.symm (h.aa k l hk hl c1.symm), show G.xa k + 1 - G.xa k = 1 by omega, Int.one_mul, Int.zero_add]
      by_cases c2 : 0 < G.K k (G.xb l) (G.yb l)
      · rw [if_pos ⟨by unfold sp; omega, c2⟩, if_pos ⟨c1, c2⟩]
      · rw [if_neg (fun e => c2 e.2), if_neg (fun e => c2 e.2)]
    · rw [if_neg (show ¬ (G.xa l = G.xa k ∧ _) from fun e => c1 e.1), Int.add_zero]
      by_cases c2 : G.xa l < G.xa k ∧ G.xa k < G.xb l
      · have hsl : G.sp l (G.xa k + 1) := by unfold sp; omega
        have hK := h.na l k hl hk c2.1 c2.2
        have hd := den_pos h hk
        have i1 := sgn_iff h hk hl hkl hsk hsl (s := G.xa k) (Int.le_refl _) (by omega) (by omega) (by omega) (by rw [D_ak]; exact fun e => hK (zero_of hd (by omega)))
        rw [D_ak] at i1
        have i2 : 0 < -(G.den k * G.K l (G.xa k) (G.ya k)) ↔ G.K l (G.xa k) (G.ya k) < 0 := by
          constructor
          · intro e; exact neg_of hd (by omega)
          · intro e; have := mul_pn hd e; omega
        rw [i2] at i1
        by_cases c3 : G.K l (G.xa k) (G.ya k) < 0
        · rw [if_pos ⟨hsl, i1.2 c3⟩, if_pos ⟨c2, c3⟩]
        · rw [if_neg (fun e => c3 (i1.1 e.2)), if_neg (fun e => c3 e.2)]
      · rw [if_neg (fun e => c2 (by have := e.1; unfold sp at this; omega)), if_neg (fun e => c2 e.1)]
theorem W_left (h : G.Ok) {z : Nat → Int} (hc : G.Cons z) {k : Nat} (hk : k < G.m) :
    G.W z k = G.U z (G.xb k) (G.yb k) + sm G.m (fun l => if G.xb l = G.xb k ∧ 0 < G.K k (G.xa l) (G.ya l) then z l else 0) := by
  have hev := h.ev k hk
  have hlk := h.lt k hk
  have hsk : G.sp k (G.xb k - 1) := by unfold sp; omega
  rw [← N_eq h hc hk (t := G.xb k - 1) (by omega) hsk]
  unfold N U
  rw [← sm_add]
  refine sm_congr fun l hl => ?_
  have h2 := h.ev l hl
  have h3 := h.lt l hl
  by_cases hkl : k = l
  · subst hkl
    rw [if_neg (by rw [D_self]; omega), if_neg (by omega), if_neg (by unfold K; grind)]; rfl
  · by_cases c1 : G.xb l = G.xb k
    · rw [if_neg (show ¬ ((_ ∧ G.xb k < G.xb l) ∧ _) by omega), D_left k l _ c1.symm (h.bb k l hk hl c1.symm), show G.xb k - 1 - G.xb k = -1 by omega, show -(-1 * G.K k (G.xa l) (G.ya l)) = G.K k (G.xa l) (G.ya l) by omega, Int.zero_add]
      by_cases c2 : 0 < G.K k (G.xa l) (G.ya l)
      · rw [if_pos ⟨by unfold sp; omega, c2⟩, if_pos ⟨c1, c2⟩]
      · rw [if_neg (fun e => c2 e.2), if_neg (fun e => c2 e.2)]
    · rw [if_neg (show ¬ (G.xb l = G.xb k ∧ _) from fun e => c1 e.1), Int.add_zero]
      by_cases c2 : G.xa l < G.xb k ∧ G.xb k < G.xb l
      · have hsl : G.sp l (G.xb k - 1) := by unfold sp; omega
        have hK := h.nb l k hl hk c2.1 c2.2
        have hd := den_pos h hk
        have i1 := sgn_iff h hk hl hkl hsk hsl (s := G.xb k) (by omega) (by omega) (Int.le_refl _) (by omega) (by rw [D_bk]; exact fun e => hK (zero_of hd (by omega)))
        rw [D_bk] at i1
        have i2 : 0 < -(G.den k * G.K l (G.xb k) (G.yb k)) ↔ G.K l (G.xb k) (G.yb k) < 0 := by
          constructor
          · intro e; exact neg_of hd (by omega)
          · intro e; have := mul_pn hd e; omega
        rw [i2] at i1
        by_cases c3 : G.K l (G.xb k) (G.yb k) < 0
        · rw [if_pos ⟨hsl, i1.2 c3⟩, if_pos ⟨c2, c3⟩]
        · rw [if_neg (fun e => c3 (i1.1 e.2)), if_neg (fun e => c3 e.2)]
      · rw [if_neg (fun e => c2 (by have := e.1; unfold sp at this; omega)), if_neg (fun e => c2 e.1)]
end Drw
end Go.Proofs.YtdhmjhoaegdfjaaGreat.Pl

namespace Go.Proofs.YtdhmjhoaegdfjaaGreat.Pl
open Go.Proofs.YtdhmjhoaegdfjaaGreat
/-! A window as straight leads in a plane: swept from below. -/
def kx (p : P2) : Int := 2 * (1000 * p.2 + p.1)
def ky (p : P2) : Int := -p.1
theorem kx_inj {p q : P2} (hp : nok p = true) (hq : nok q = true) (h : kx p = kx q) : p = q := by
  have := nok_bd hp
  have := nok_bd hq
  unfold kx at h
  exact Prod.ext (by omega) (by omega)
def la (ns ls : List P2) (k : Nat) : P2 := gp ns (gp ls (k : Nat)).1
def lb (ns ls : List P2) (k : Nat) : P2 := gp ns (gp ls (k : Nat)).2
def lft (ns ls : List P2) (k : Nat) : P2 := if kx (la ns ls k) < kx (lb ns ls k) then la ns ls k else lb ns ls k
def rgt (ns ls : List P2) (k : Nat) : P2 := if kx (la ns ls k) < kx (lb ns ls k) then lb ns ls k else la ns ls k
def drw (ns ls : List P2) : Drw := ⟨ls.length, fun k => kx (lft ns ls k), fun k => ky (lft ns ls k), fun k => kx (rgt ns ls k), fun k => ky (rgt ns ls k)⟩
theorem turn_hat (a b c : P2) : (kx b - kx a) * (ky c - ky a) - (ky b - ky a) * (kx c - kx a) = 2000 * turn0 a b c := by unfold kx ky turn0; grind
theorem turn_swap (a b c : P2) : turn0 b a c = - turn0 a b c := by unfold turn0; grind
theorem turn_rot (a b c : P2) : turn0 b c a = turn0 a b c := by unfold turn0; grind
theorem K_eq (ns ls : List P2) (k : Nat) (p : P2) : (drw ns ls).K k (kx p) (ky p) = 2000 * turn0 (lft ns ls k) (rgt ns ls k) p := by
  rw [← turn_hat]; rfl
section
variable {ns ls : List P2}
structure LeadF (ns ls : List P2) (k : Nat) : Prop where
  ua : ∃ i : Nat, i < ns.length ∧ (gp ls (k : Nat)).1 = (i : Int)
  ub : ∃ i : Nat, i < ns.length ∧ (gp ls (k : Nat)).2 = (i : Int)
  na : nok (la ns ls k) = true
  nb : nok (lb ns ls k) = true
  ne : la ns ls k ≠ lb ns ls k
  lt : (gp ls (k : Nat)).1 < (gp ls (k : Nat)).2
theorem leadF (h : WOk ns ls) {k : Nat} (hk : k < ls.length) : LeadF ns ls k := by
  obtain ⟨i, j, e1, e2, hij, hi, hj, n1, n2, hne⟩ := lok_spec (p := (gp ls (k : Nat)).1) (q := (gp ls (k : Nat)).2) (h.ld k hk).1
  exact ⟨⟨i, hi, e1⟩, ⟨j, hj, e2⟩, n1, n2, hne, by omega⟩
theorem nodes_ne (h : WOk ns ls) {i j : Nat} (hi : i < ns.length) (hj : j < ns.length) (e : gp ns (i : Nat) = gp ns (j : Nat)) : i = j := by
  rcases Nat.lt_trichotomy i j with c | c | c
  · exact absurd e.symm (peq_no.1 (h.ne j hj i c))
  · exact c
  · exact absurd e (peq_no.1 (h.ne i hi j c))
theorem lr_cases (h : WOk ns ls) {k : Nat} (hk : k < ls.length) :
    (kx (la ns ls k) < kx (lb ns ls k) ∧ lft ns ls k = la ns ls k ∧ rgt ns ls k = lb ns ls k) ∨ (kx (lb ns ls k) < kx (la ns ls k) ∧ lft ns ls k = lb ns ls k ∧ rgt ns ls k = la ns ls k) := by
  have f := leadF h hk
  by_cases c : kx (la ns ls k) < kx (lb ns ls k)
  · left; unfold lft rgt; rw [if_pos c, if_pos c]; exact ⟨c, rfl, rfl⟩
  · right
    have : kx (la ns ls k) ≠ kx (lb ns ls k) := fun e => f.ne (kx_inj f.na f.nb e)
    unfold lft rgt; rw [if_neg c, if_neg c]; exact ⟨by omega, rfl, rfl⟩
theorem nok_l (h : WOk ns ls) {k : Nat} (hk : k < ls.length) : nok (lft ns ls k) = true := by
  have f := leadF h hk
  rcases lr_cases h hk with ⟨_, e, _⟩ | ⟨_, e, _⟩ <;> rw [e]
  · exact f.na
  · exact f.nb
theorem nok_r (h : WOk ns ls) {k : Nat} (hk : k < ls.length) : nok (rgt ns ls k) = true := by
  have f := leadF h hk
  rcases lr_cases h hk with ⟨_, _, e⟩ | ⟨_, _, e⟩ <;> rw [e]
  · exact f.nb
  · exact f.na
theorem node_l (h : WOk ns ls) {k : Nat} (hk : k < ls.length) : ∃ i : Nat, i < ns.length ∧ gp ns (i : Nat) = lft ns ls k := by
  have f := leadF h hk
  obtain ⟨i, hi, ei⟩ := f.ua
  obtain ⟨j, hj, ej⟩ := f.ub
  rcases lr_cases h hk with ⟨_, e, _⟩ | ⟨_, e, _⟩ <;> rw [e]
  · exact ⟨i, hi, by unfold la; rw [ei]⟩
  · exact ⟨j, hj, by unfold lb; rw [ej]⟩
theorem node_r (h : WOk ns ls) {k : Nat} (hk : k < ls.length) : ∃ i : Nat, i < ns.length ∧ gp ns (i : Nat) = rgt ns ls k := by
  have f := leadF h hk
  obtain ⟨i, hi, ei⟩ := f.ua
  obtain ⟨j, hj, ej⟩ := f.ub
  rcases lr_cases h hk with ⟨_, _, e⟩ | ⟨_, _, e⟩ <;> rw [e]
  · exact ⟨j, hj, by unfold lb; rw [ej]⟩
  · exact ⟨i, hi, by unfold la; rw [ei]⟩
/-- on the line and between the keys: on the lead -/
theorem btw_of {a b p : P2} (na : nok a = true) (nb : nok b = true) (np : nok p = true) (h1 : kx a < kx p) (h2 : kx p < kx b) (h3 : turn0 a b p = 0) : btw a b p = true := by
  have ba := nok_bd na
  have bb := nok_bd nb
  have bp := nok_bd np
  have e1 : peq a b = false := peq_no.2 fun e => by rw [e] at h1; omega
  have e2 : peq a p = false := peq_no.2 fun e => by rw [e] at h1; omega
  have e3 : peq b p = false := peq_no.2 fun e => by rw [e] at h2; omega
  have hy : a.2 ≤ p.2 ∧ p.2 ≤ b.2 := by unfold kx at h1 h2; omega
  have hx : min a.1 b.1 ≤ p.1 ∧ p.1 ≤ max a.1 b.1 := by
    unfold turn0 at h3
    rcases Int.lt_or_le a.2 b.2 with c | c
    · have hd : 0 < b.2 - a.2 := by omega
      have hl : (b.2 - a.2) * (p.1 - a.1) = (b.1 - a.1) * (p.2 - a.2) := by omega
      have hr : (b.2 - a.2) * (b.1 - p.1) = (b.1 - a.1) * (b.2 - p.2) := by
        have : (b.2 - a.2) * (b.1 - p.1) + (b.2 - a.2) * (p.1 - a.1) = (b.1 - a.1) * (b.2 - p.2) + (b.1 - a.1) * (p.2 - a.2) := by grind
        omega
      rcases Int.le_total a.1 b.1 with d | d
      · have m1 := Int.mul_nonneg (show 0 ≤ b.1 - a.1 by omega) (show 0 ≤ p.2 - a.2 by omega)
        have m2 := Int.mul_nonneg (show 0 ≤ b.1 - a.1 by omega) (show 0 ≤ b.2 - p.2 by omega)
        have r1 := nonneg_of hd (b := p.1 - a.1) (by omega)
        have r2 := nonneg_of hd (b := b.1 - p.1) (by omega)
        omega
      · have m1 := mul_p0 (show 0 ≤ p.2 - a.2 by omega) (show b.1 - a.1 ≤ 0 by omega)
        have m2 := mul_p0 (show 0 ≤ b.2 - p.2 by omega) (show b.1 - a.1 ≤ 0 by omega)
        rw [Int.mul_comm] at m1 m2
        have r1 := nonpos_of hd (b := p.1 - a.1) (by omega)
        have r2 := nonpos_of hd (b := b.1 - p.1) (by omega)
        omega
    · unfold kx at h1 h2; omega
  unfold btw wi imin imax
  rw [na, nb, np, e1, e2, e3, h3]
  simp only [Bool.not_false, Bool.and_true, bne_self_eq_false, Bool.true_and, Bool.and_eq_true, decide_eq_true_eq]
  exact ⟨⟨hx.1, hx.2⟩, by omega, by omega⟩
theorem btw_swap (a b p : P2) : btw a b p = btw b a p := by
  have e1 : turn0 b a p = - turn0 a b p := turn_swap a b p
  have e2 : (turn0 b a p != 0) = (turn0 a b p != 0) := by
    rw [e1, Bool.eq_iff_iff]; simp only [bne_iff_ne, ne_eq]; omega
  unfold btw
  rw [e2]
  have e3 : peq a b = peq b a := peq_comm a b
  have e4 : imin a.1 b.1 = imin b.1 a.1 := Int.min_comm _ _
  have e5 : imax a.1 b.1 = imax b.1 a.1 := Int.max_comm _ _
  have e6 : imin a.2 b.2 = imin b.2 a.2 := Int.min_comm _ _
  have e7 : imax a.2 b.2 = imax b.2 a.2 := Int.max_comm _ _
  rw [e3, e4, e5, e6, e7]
  cases nok a <;> cases nok b <;> cases nok p <;> cases peq b a <;> cases peq a p <;> cases peq b p <;> rfl
/-- a node in the inside of a lead is not on its line -/
theorem off_line (h : WOk ns ls) {k : Nat} (hk : k < ls.length) {i : Nat} (hi : i < ns.length) (h1 : kx (lft ns ls k) < kx (gp ns (i : Nat))) (h2 : kx (gp ns (i : Nat)) < kx (rgt ns ls k)) : turn0 (lft ns ls k) (rgt ns ls k) (gp ns (i : Nat)) ≠ 0 := by
  intro e
  have hb := btw_of (nok_l h hk) (nok_r h hk) (h.ok i hi) h1 h2 e
  have hb' : btw (la ns ls k) (lb ns ls k) (gp ns (i : Nat)) = true := by
    rcases lr_cases h hk with ⟨_, e1, e2⟩ | ⟨_, e1, e2⟩
    · rw [e1, e2] at hb; exact hb
    · rw [e1, e2, btw_swap] at hb; exact hb
  have hld := (h.ld k hk).2.2 i hi
  have f := leadF h hk
  have n1 : (i : Int) ≠ (gp ls (k : Nat)).1 := by
    intro e'
    have : gp ns (i : Nat) = la ns ls k := by unfold la; rw [← e']
    rcases lr_cases h hk with ⟨_, e1, e2⟩ | ⟨_, e1, e2⟩ <;> rw [e1, this] at h1 <;> rw [e2, this] at h2 <;> omega
  have n2 : (i : Int) ≠ (gp ls (k : Nat)).2 := by
    intro e'
    have : gp ns (i : Nat) = lb ns ls k := by unfold lb; rw [← e']
    rcases lr_cases h hk with ⟨_, e1, e2⟩ | ⟨_, e1, e2⟩ <;> rw [e1, this] at h1 <;> rw [e2, this] at h2 <;> omega
  have := hld n1 n2
  unfold onl at this
  rw [(h.ld k hk).1] at this
  simp only [la, lb] at hb'
  rw [hb'] at this
  simp at this
theorem dox_no (h : WOk ns ls) {k l : Nat} (hk : k < ls.length) (hl : l < ls.length) (hne : k ≠ l) : dox4 (la ns ls k) (lb ns ls k) (la ns ls l) (lb ns ls l) = false := by
  have key : ∀ i j : Nat, i < ls.length → j < i → dox4 (la ns ls i) (lb ns ls i) (la ns ls j) (lb ns ls j) = false := by
    intro i j hi hj
    have := (h.ld i hi).2.1 j hj
    unfold dox at this
    rw [(h.ld i hi).1, (h.ld j (by omega)).1] at this
    simpa [la, lb] using this
  rcases Nat.lt_or_gt_of_ne hne with c | c
  · rw [dox4_comm]; exact key l k hl c
  · exact key k l hk c
theorem sgn_swap1 (a b c d : P2) : sgn b a c d = sgn a b c d := by
  unfold sgn
  rw [turn_swap a b c, turn_swap a b d, Int.neg_mul_neg, Int.mul_comm (turn0 c d b)]
theorem sgn_swap2 (a b c d : P2) : sgn a b d c = sgn a b c d := by
  unfold sgn
  rw [turn_swap c d a, turn_swap c d b, Int.neg_mul_neg, Int.mul_comm (turn0 a b d)]
theorem mul_2000 (x y : Int) : 2000 * x * (2000 * y) = 4000000 * (x * y) := by grind
theorem drw_ok (h : WOk ns ls) : (drw ns ls).Ok where
  ev k _ := ⟨by show kx (lft ns ls k) % 2 = 0; unfold kx; omega, by show kx (rgt ns ls k) % 2 = 0; unfold kx; omega⟩
  lt k hk := by
    rcases lr_cases h hk with ⟨c, e1, e2⟩ | ⟨c, e1, e2⟩ <;> simp only [drw] <;> rw [e1, e2] <;> exact c
  aa k l hk hl e := congrArg ky (kx_inj (nok_l h hk) (nok_l h hl) e)
  ab k l hk hl e := congrArg ky (kx_inj (nok_l h hk) (nok_r h hl) e)
  bb k l hk hl e := congrArg ky (kx_inj (nok_r h hk) (nok_r h hl) e)
  na k l hk hl h1 h2 := by
    obtain ⟨i, hi, e⟩ := node_l h hl
    have := off_line h hk hi (by rw [e]; exact h1) (by rw [e]; exact h2)
    rw [e] at this
    have e2 := K_eq ns ls k (lft ns ls l)
    show (drw ns ls).K k (kx (lft ns ls l)) (ky (lft ns ls l)) ≠ 0
    omega
  nb k l hk hl h1 h2 := by
    obtain ⟨i, hi, e⟩ := node_r h hl
    have := off_line h hk hi (by rw [e]; exact h1) (by rw [e]; exact h2)
    rw [e] at this
    have e2 := K_eq ns ls k (rgt ns ls l)
    show (drw ns ls).K k (kx (rgt ns ls l)) (ky (rgt ns ls l)) ≠ 0
    omega
  nx k l hk hl hne h1 h2 := by
    have hd := dox_no h hk hl hne
    have hs : sgn (la ns ls k) (lb ns ls k) (la ns ls l) (lb ns ls l) = false := by
      unfold dox4 at hd
      simp only [Bool.or_eq_false_iff] at hd
      exact hd.2
    have hs2 : sgn (lft ns ls k) (rgt ns ls k) (lft ns ls l) (rgt ns ls l) = false := by
      rcases lr_cases h hk with ⟨_, e1, e2⟩ | ⟨_, e1, e2⟩ <;> rcases lr_cases h hl with ⟨_, e3, e4⟩ | ⟨_, e3, e4⟩ <;> rw [e1, e2, e3, e4]
      · exact hs
      · rw [sgn_swap2]; exact hs
      · rw [sgn_swap1]; exact hs
      · rw [sgn_swap1, sgn_swap2]; exact hs
    have a1 : (drw ns ls).K k (kx (lft ns ls l)) (ky (lft ns ls l)) * (drw ns ls).K k (kx (rgt ns ls l)) (ky (rgt ns ls l)) < 0 := h1
    have a2 : (drw ns ls).K l (kx (lft ns ls k)) (ky (lft ns ls k)) * (drw ns ls).K l (kx (rgt ns ls k)) (ky (rgt ns ls k)) < 0 := h2
    rw [K_eq, K_eq, mul_2000] at a1 a2
    unfold sgn at hs2
    simp only [Bool.and_eq_false_iff, decide_eq_false_iff_not] at hs2
    omega
  ne k l hk hl hne h1 h2 := by
    have e1 : lft ns ls k = lft ns ls l := kx_inj (nok_l h hk) (nok_l h hl) h1
    have e2 : rgt ns ls k = rgt ns ls l := kx_inj (nok_r h hk) (nok_r h hl) h2
    have hd := dox_no h hk hl hne
    unfold dox4 at hd
    simp only [Bool.or_eq_false_iff] at hd
    obtain ⟨⟨⟨d1, d2⟩, _⟩, _⟩ := hd
    rcases lr_cases h hk with ⟨_, f1, f2⟩ | ⟨_, f1, f2⟩ <;> rcases lr_cases h hl with ⟨_, f3, f4⟩ | ⟨_, f3, f4⟩ <;> rw [f1, f3] at e1 <;> rw [f2, f4] at e2
    · rw [peq_iff.2 e1, peq_iff.2 e2] at d1; cases d1
    · rw [peq_iff.2 e1, peq_iff.2 e2] at d2; cases d2
    · rw [peq_iff.2 e1, peq_iff.2 e2] at d2; cases d2
    · rw [peq_iff.2 e1, peq_iff.2 e2] at d1; cases d1
end
end Go.Proofs.YtdhmjhoaegdfjaaGreat.Pl

namespace Go.Proofs.YtdhmjhoaegdfjaaGreat.Pl
open Go.Proofs.YtdhmjhoaegdfjaaGreat
/-! ### sums over lists -/
def lsm (f : Nat → Int) : List Nat → Int
  | [] => 0
  | a :: t => f a + lsm f t
theorem lsm_append (f : Nat → Int) (l k : List Nat) : lsm f (l ++ k) = lsm f l + lsm f k := by
  induction l with
  | nil => simp [lsm]
  | cons a t ih => simp only [List.cons_append, lsm, ih]; omega
theorem lsm_perm {f : Nat → Int} {l k : List Nat} (h : l.Perm k) : lsm f l = lsm f k := by
  induction h with
  | nil => rfl
  | cons a _ ih => simp only [lsm, ih]
  | swap a b t => simp only [lsm]; omega
  | trans _ _ i1 i2 => exact i1.trans i2
theorem lsm_congr {f g : Nat → Int} {l : List Nat} (h : ∀ a ∈ l, f a = g a) : lsm f l = lsm g l := by
  induction l with
  | nil => rfl
  | cons a t ih => simp only [lsm, h a (List.mem_cons_self ..), ih fun b hb => h b (List.mem_cons_of_mem _ hb)]
theorem lsm_add (f g : Nat → Int) (l : List Nat) : lsm (fun a => f a + g a) l = lsm f l + lsm g l := by
  induction l with
  | nil => rfl
  | cons a t ih => simp only [lsm, ih]; omega
theorem lsm_sub (f g : Nat → Int) (l : List Nat) : lsm (fun a => f a - g a) l = lsm f l - lsm g l := by
  induction l with
  | nil => rfl
  | cons a t ih => simp only [lsm, ih]; omega
theorem lsm_filter (f : Nat → Int) (p : Nat → Bool) (l : List Nat) : lsm f (l.filter p) = lsm (fun a => if p a = true then f a else 0) l := by
  induction l with
  | nil => rfl
  | cons a t ih =>
    by_cases h : p a = true
    · rw [List.filter_cons_of_pos h]; simp only [lsm, ih, if_pos h]
    · rw [List.filter_cons_of_neg h]; simp only [lsm, ih, if_neg h]; omega
theorem lsm_zero {f : Nat → Int} {l : List Nat} (h : ∀ a ∈ l, f a = 0) : lsm f l = 0 := by
  induction l with
  | nil => rfl
  | cons a t ih => simp only [lsm, h a (List.mem_cons_self ..), ih fun b hb => h b (List.mem_cons_of_mem _ hb)]; rfl
theorem lsm_range (f : Nat → Int) (n : Nat) : lsm f (List.range n) = sm n f := by
  induction n with
  | zero => rfl
  | succ n ih => rw [List.range_succ, lsm_append, ih]; simp only [lsm, sm_succ]; omega
theorem lsm_one {l : List Nat} (hn : l.Nodup) {d : Nat} (hd : d ∈ l) (c : Int) : lsm (fun e => if e = d then c else 0) l = c := by
  induction l with
  | nil => cases hd
  | cons a t ih =>
    rw [List.nodup_cons] at hn
    rcases List.mem_cons.1 hd with e | hd
    · simp only [lsm]
      rw [if_pos e.symm, lsm_zero fun b hb => if_neg (fun (e' : b = d) => hn.1 (by rw [← e, ← e']; exact hb))]
      omega
    · simp only [lsm]
      rw [ih hn.2 hd, if_neg (fun (e : a = d) => hn.1 (by rw [e]; exact hd))]
      omega
theorem lsm_take (f : Nat → Int) (l : List Nat) {i : Nat} (hi : i < l.length) : lsm f (l.take (i + 1)) = lsm f (l.take i) + f l[i] := by
  rw [List.take_succ_eq_append_getElem hi, lsm_append]
  simp only [lsm]; omega

/-! ### insertion keeps the order -/
theorem insPos_hi {lt : Nat → Nat → Bool} {d : Nat} {l : List Nat} : ∀ {A j : Nat}, insPos lt d l A ≤ j → j < A → lt d (l.getD j 0) = true
  | 0, j, _, h => by omega
  | A + 1, j, h1, h2 => by
    unfold insPos at h1
    by_cases c : lt d (l.getD A 0) = true
    · rw [if_pos c] at h1
      rcases Nat.lt_succ_iff_lt_or_eq.1 h2 with e | e
      · exact insPos_hi h1 e
      · subst e; exact c
    · rw [if_neg c] at h1; omega
theorem insPos_lo {lt : Nat → Nat → Bool} {d : Nat} {l : List Nat} : ∀ {A p : Nat}, insPos lt d l A = p + 1 → lt d (l.getD p 0) = false
  | 0, p, h => by unfold insPos at h; omega
  | A + 1, p, h => by
    unfold insPos at h
    by_cases c : lt d (l.getD A 0) = true
    · rw [if_pos c] at h; exact insPos_lo h
    · rw [if_neg c] at h
      obtain rfl : p = A := by omega
      exact eq_false_of_ne_true c
theorem ins_sorted {lt : Nat → Nat → Bool} {S : Nat → Prop} (tot : ∀ a b, S a → S b → a ≠ b → lt a b = true ∨ lt b a = true) (tr : ∀ a b c, S a → S b → S c → lt a b = true → lt b c = true → lt a c = true)
    {d : Nat} {l : List Nat} (hd : S d) (hl : ∀ x ∈ l, S x) (hn : d ∉ l) (hs : l.Pairwise (fun a b => lt a b = true)) : (ins lt d l).Pairwise (fun a b => lt a b = true) := by
  have hp := insPos_le lt d l l.length
  have hs' := List.pairwise_iff_getElem.1 hs
  unfold ins
  rw [List.pairwise_append]
  refine ⟨hs.sublist (List.take_sublist _ _), List.pairwise_cons.2 ⟨fun y hy => ?_, hs.sublist (List.drop_sublist _ _)⟩, fun x hx y hy => ?_⟩
  · obtain ⟨j, hj, rfl⟩ := List.getElem_of_mem hy
    rw [List.getElem_drop]
    rw [List.length_drop] at hj
    have := insPos_hi (lt := lt) (d := d) (l := l) (A := l.length) (j := insPos lt d l l.length + j) (by omega) (by omega)
    rw [getD_at l (by omega)] at this
    exact this
  · obtain ⟨j, hj, rfl⟩ := List.getElem_of_mem hx
    rw [List.length_take] at hj
    rw [List.getElem_take]
    have hjl : j < l.length := by omega
    have hlast : lt l[j] d = true := by
      obtain ⟨p, hpp⟩ : ∃ p, insPos lt d l l.length = p + 1 := ⟨insPos lt d l l.length - 1, by omega⟩
      have h1 := insPos_lo hpp
      have hpl : p < l.length := by omega
      rw [getD_at l hpl] at h1
      have hm : l[p] ∈ l := List.getElem_mem hpl
      have h2 : lt l[p] d = true := (tot d l[p] hd (hl _ hm) fun e => hn (e ▸ hm)).resolve_left (by rw [h1]; simp)
      rcases Nat.lt_or_ge j p with c | c
      · exact tr _ _ _ (hl _ (List.getElem_mem hjl)) (hl _ hm) hd (hs' j p hjl hpl c) h2
      · obtain rfl : j = p := by omega
        exact h2
    rcases List.mem_cons.1 hy with e | hy
    · rw [e]; exact hlast
    · obtain ⟨i, hi, rfl⟩ := List.getElem_of_mem hy
      rw [List.length_drop] at hi
      rw [List.getElem_drop]
      exact hs' j _ hjl (by omega) (by omega)
/-- a sum over what does not come behind place i -/
theorem lsm_upto {lt : Nat → Nat → Bool} {l : List Nat} (hs : l.Pairwise (fun a b => lt a b = true)) (irr : ∀ a ∈ l, lt a a = false) (asy : ∀ a ∈ l, ∀ b ∈ l, lt a b = true → lt b a = false)
    (f : Nat → Int) {i : Nat} (hi : i < l.length) : lsm (fun e => if lt l[i] e = true then 0 else f e) l = lsm f (l.take (i + 1)) := by
  have hs' := List.pairwise_iff_getElem.1 hs
  have e := lsm_append (fun e => if lt l[i] e = true then 0 else f e) (l.take (i + 1)) (l.drop (i + 1))
  rw [List.take_append_drop] at e
  rw [e, lsm_zero (l := l.drop (i + 1)), Int.add_zero]
  · refine lsm_congr fun a ha => if_neg ?_
    obtain ⟨j, hj, rfl⟩ := List.getElem_of_mem ha
    rw [List.length_take] at hj
    rw [List.getElem_take]
    rcases Nat.lt_or_ge j i with c | c
    · rw [asy _ (List.getElem_mem (by omega)) _ (List.getElem_mem hi) (hs' j i (by omega) hi c)]; simp
    · obtain rfl : j = i := by omega
      rw [irr _ (List.getElem_mem hi)]; simp
  · intro a ha
    obtain ⟨j, hj, rfl⟩ := List.getElem_of_mem ha
    rw [List.length_drop] at hj
    rw [List.getElem_drop]
    exact if_pos (hs' i _ hi (by omega) (by omega))
end Go.Proofs.YtdhmjhoaegdfjaaGreat.Pl

namespace Go.Proofs.YtdhmjhoaegdfjaaGreat.Pl
open Go.Proofs.YtdhmjhoaegdfjaaGreat
/-! Winding numbers of the darts. -/
section
variable {ns ls : List P2}
def pf (ns ls : List P2) (d : Nat) : P2 := gp ns (dEnds ls d).1
def pt (ns ls : List P2) (d : Nat) : P2 := gp ns (dEnds ls d).2
/-- the dart goes to the right (in the sweep's order) -/
def rg (ns ls : List P2) (d : Nat) : Bool := decide (kx (pf ns ls d) < kx (pt ns ls d))
theorem dart_even (ls : List P2) (k : Nat) : dEnds ls (2 * k) = gp ls (k : Nat) := by
  unfold dEnds; rw [if_neg (by omega), show 2 * k / 2 = k by omega]
theorem dart_odd (ls : List P2) (k : Nat) : dEnds ls (2 * k + 1) = ((gp ls (k : Nat)).2, (gp ls (k : Nat)).1) := by
  unfold dEnds; rw [if_pos (by omega), show (2 * k + 1) / 2 = k by omega]
theorem dart_cases (d : Nat) : d = 2 * (d / 2) ∨ d = 2 * (d / 2) + 1 := by omega
theorem xor_even (k : Nat) : (2 * k) ^^^ 1 = 2 * k + 1 := by
  apply Nat.eq_of_testBit_eq; intro i
  rw [Nat.testBit_xor]
  cases i with
  | zero => simp
  | succ i => simp [Nat.testBit_succ, show 2 * k / 2 = k by omega, show (2 * k + 1) / 2 = k by omega]
theorem xor_odd (k : Nat) : (2 * k + 1) ^^^ 1 = 2 * k := by
  rw [← xor_even, Nat.xor_assoc, Nat.xor_self, Nat.xor_zero]
theorem dart_lr (h : WOk ns ls) {d : Nat} (hd : d < 2 * ls.length) :
    (rg ns ls d = true ∧ pf ns ls d = lft ns ls (d / 2) ∧ pt ns ls d = rgt ns ls (d / 2)) ∨ (rg ns ls d = false ∧ pf ns ls d = rgt ns ls (d / 2) ∧ pt ns ls d = lft ns ls (d / 2)) := by
  have hk : d / 2 < ls.length := by omega
  have e : (pf ns ls d = la ns ls (d / 2) ∧ pt ns ls d = lb ns ls (d / 2)) ∨ (pf ns ls d = lb ns ls (d / 2) ∧ pt ns ls d = la ns ls (d / 2)) := by
    unfold pf pt
    rcases dart_cases d with e | e
    · left; rw [e, dart_even, show 2 * (d / 2) / 2 = d / 2 by omega]; exact ⟨rfl, rfl⟩
    · right; rw [e, dart_odd, show (2 * (d / 2) + 1) / 2 = d / 2 by omega]; exact ⟨rfl, rfl⟩
  unfold rg
  rcases lr_cases h hk with ⟨c, e1, e2⟩ | ⟨c, e1, e2⟩ <;> rcases e with ⟨f1, f2⟩ | ⟨f1, f2⟩ <;> rw [f1, f2, e1, e2]
  · exact .inl ⟨decide_eq_true c, rfl, rfl⟩
  · exact .inr ⟨decide_eq_false (by omega), rfl, rfl⟩
  · exact .inr ⟨decide_eq_false (by omega), rfl, rfl⟩
  · exact .inl ⟨decide_eq_true c, rfl, rfl⟩
theorem rg_twin (h : WOk ns ls) {k : Nat} (hk : k < ls.length) : rg ns ls (2 * k + 1) = !rg ns ls (2 * k) := by
  have f := leadF h hk
  unfold rg pf pt
  rw [dart_even, dart_odd]
  have := lr_cases h hk
  simp only [la, lb] at this
  show decide (kx (gp ns (gp ls (k : Nat)).2) < kx (gp ns (gp ls (k : Nat)).1)) = !decide (kx (gp ns (gp ls (k : Nat)).1) < kx (gp ns (gp ls (k : Nat)).2))
  by_cases c : kx (gp ns (gp ls (k : Nat)).1) < kx (gp ns (gp ls (k : Nat)).2)
  · rw [decide_eq_true c, decide_eq_false (by omega)]; rfl
  · rw [decide_eq_false c, decide_eq_true (by omega)]; rfl
theorem node_f (h : WOk ns ls) {d : Nat} (hd : d < 2 * ls.length) : ∃ i : Nat, i < ns.length ∧ (dEnds ls d).1 = (i : Int) := by
  have f := leadF h (k := d / 2) (by omega)
  rcases dart_cases d with e | e <;> rw [e]
  · rw [dart_even]; exact f.ua
  · rw [dart_odd]; exact f.ub
theorem node_t (h : WOk ns ls) {d : Nat} (hd : d < 2 * ls.length) : ∃ i : Nat, i < ns.length ∧ (dEnds ls d).2 = (i : Int) := by
  have f := leadF h (k := d / 2) (by omega)
  rcases dart_cases d with e | e <;> rw [e]
  · rw [dart_even]; exact f.ub
  · rw [dart_odd]; exact f.ua
theorem nok_f (h : WOk ns ls) {d : Nat} (hd : d < 2 * ls.length) : nok (pf ns ls d) = true := by
  obtain ⟨i, hi, e⟩ := node_f h hd; unfold pf; rw [e]; exact h.ok i hi
theorem nok_t (h : WOk ns ls) {d : Nat} (hd : d < 2 * ls.length) : nok (pt ns ls d) = true := by
  obtain ⟨i, hi, e⟩ := node_t h hd; unfold pt; rw [e]; exact h.ok i hi
theorem ends_twin (ls : List P2) (d : Nat) : dEnds ls (d ^^^ 1) = ((dEnds ls d).2, (dEnds ls d).1) := by
  rcases dart_cases d with e | e <;> rw [e]
  · rw [xor_even, dart_even, dart_odd]
  · rw [xor_odd, dart_even, dart_odd]
/-- two darts from one node are of two leads -/
theorem lead_ne (h : WOk ns ls) {d e : Nat} (hd : d < 2 * ls.length) (hde : d ≠ e) (hv : (dEnds ls d).1 = (dEnds ls e).1) : d / 2 ≠ e / 2 := by
  intro c
  have f := leadF h (k := d / 2) (by omega)
  have hl := f.lt
  rcases dart_cases d with e1 | e1 <;> rcases dart_cases e with e2 | e2
  · omega
  · rw [e1, e2, dart_even, dart_odd, ← c] at hv
    simp only at hv; omega
  · rw [e1, e2, dart_even, dart_odd, ← c] at hv
    simp only at hv; omega
  · omega
theorem half_rg (h : WOk ns ls) {d : Nat} (hd : d < 2 * ls.length) : halfp (pf ns ls d) (pt ns ls d) = if rg ns ls d = true then 0 else 1 := by
  have b1 := nok_bd (nok_f h hd)
  have b2 := nok_bd (nok_t h hd)
  unfold halfp rg kx
  by_cases c : 2 * (1000 * (pf ns ls d).2 + (pf ns ls d).1) < 2 * (1000 * (pt ns ls d).2 + (pt ns ls d).1)
  · rw [if_pos (by omega), if_pos (decide_eq_true c)]
  · rw [if_neg (by omega), if_neg (by simpa using c)]
/-- d comes before e around their node -/
theorem dlt_iff (h : WOk ns ls) {v : Int} {d e : Nat} (hd : d < 2 * ls.length) (he : e < 2 * ls.length) (dv : (dEnds ls d).1 = v) (ev : (dEnds ls e).1 = v) :
    dlt ns ls v d e = true ↔ (rg ns ls d = true ∧ rg ns ls e = false) ∨ (rg ns ls d = rg ns ls e ∧ 0 < turn0 (gp ns v) (pt ns ls d) (pt ns ls e)) := by
  have h1 := half_rg h hd
  have h2 := half_rg h he
  unfold pf at h1 h2
  rw [dv] at h1
  rw [ev] at h2
  unfold dlt bfa
  change (if halfp (gp ns v) (pt ns ls d) = halfp (gp ns v) (pt ns ls e) then decide (0 < turn0 (gp ns v) (pt ns ls d) (pt ns ls e)) else decide (halfp (gp ns v) (pt ns ls d) < halfp (gp ns v) (pt ns ls e))) = true ↔ _
  rw [h1, h2]
  cases rg ns ls d <;> cases rg ns ls e <;> simp
theorem right_iff (h : WOk ns ls) {v : Int} {d e : Nat} (hd : d < 2 * ls.length) (he : e < 2 * ls.length) (dv : (dEnds ls d).1 = v) (ev : (dEnds ls e).1 = v) (rd : rg ns ls d = true) (re : rg ns ls e = true) :
    (drw ns ls).D (d / 2) (e / 2) (kx (gp ns v) + 1) = 2000 * turn0 (gp ns v) (pt ns ls d) (pt ns ls e) := by
  rcases dart_lr h hd with ⟨_, f1, f2⟩ | ⟨f0, _, _⟩
  · rcases dart_lr h he with ⟨_, g1, g2⟩ | ⟨g0, _, _⟩
    · unfold pf at f1 g1
      rw [dv] at f1
      rw [ev] at g1
      have a1 : (drw ns ls).xa (d / 2) = kx (gp ns v) := by show kx (lft ns ls (d / 2)) = _; rw [f1]
      have a2 : (drw ns ls).xa (e / 2) = kx (gp ns v) := by show kx (lft ns ls (e / 2)) = _; rw [g1]
      have a3 : (drw ns ls).ya (d / 2) = (drw ns ls).ya (e / 2) := by show ky (lft ns ls (d / 2)) = ky (lft ns ls (e / 2)); rw [← f1, ← g1]
      rw [Drw.D_right _ _ _ (a1.trans a2.symm) a3, a1, show kx (gp ns v) + 1 - kx (gp ns v) = 1 by omega, Int.one_mul]
      have := K_eq ns ls (d / 2) (rgt ns ls (e / 2))
      rw [← f1, ← f2, ← g2] at this
      rw [← this]
      show (drw ns ls).K (d / 2) (kx (rgt ns ls (e / 2))) (ky (rgt ns ls (e / 2))) = _
      rw [← g2]
    · rw [re] at g0; cases g0
  · rw [rd] at f0; cases f0
theorem left_iff (h : WOk ns ls) {v : Int} {d e : Nat} (hd : d < 2 * ls.length) (he : e < 2 * ls.length) (dv : (dEnds ls d).1 = v) (ev : (dEnds ls e).1 = v) (rd : rg ns ls d = false) (re : rg ns ls e = false) :
    (drw ns ls).D (d / 2) (e / 2) (kx (gp ns v) - 1) = -(2000 * turn0 (gp ns v) (pt ns ls d) (pt ns ls e)) := by
  rcases dart_lr h hd with ⟨f0, _, _⟩ | ⟨_, f1, f2⟩
  · rw [rd] at f0; cases f0
  · rcases dart_lr h he with ⟨g0, _, _⟩ | ⟨_, g1, g2⟩
    · rw [re] at g0; cases g0
    · unfold pf at f1 g1
      rw [dv] at f1
      rw [ev] at g1
      have a1 : (drw ns ls).xb (d / 2) = kx (gp ns v) := by show kx (rgt ns ls (d / 2)) = _; rw [f1]
      have a2 : (drw ns ls).xb (e / 2) = kx (gp ns v) := by show kx (rgt ns ls (e / 2)) = _; rw [g1]
      have a3 : (drw ns ls).yb (d / 2) = (drw ns ls).yb (e / 2) := by show ky (rgt ns ls (d / 2)) = ky (rgt ns ls (e / 2)); rw [← f1, ← g1]
      rw [Drw.D_left _ _ _ (a1.trans a2.symm) a3, a1, show kx (gp ns v) - 1 - kx (gp ns v) = -1 by omega]
      have := K_eq ns ls (d / 2) (lft ns ls (e / 2))
      rw [← f1, ← f2, ← g2, turn_swap (gp ns v)] at this
      have e2 : (drw ns ls).K (d / 2) ((drw ns ls).xa (e / 2)) ((drw ns ls).ya (e / 2)) = (drw ns ls).K (d / 2) (kx (pt ns ls e)) (ky (pt ns ls e)) := by
        show (drw ns ls).K (d / 2) (kx (lft ns ls (e / 2))) (ky (lft ns ls (e / 2))) = _
        rw [← g2]
      rw [e2, this]; omega
theorem spR (h : WOk ns ls) {v : Int} {d : Nat} (hd : d < 2 * ls.length) (dv : (dEnds ls d).1 = v) (rd : rg ns ls d = true) : (drw ns ls).sp (d / 2) (kx (gp ns v) + 1) := by
  rcases dart_lr h hd with ⟨_, f1, f2⟩ | ⟨f0, _, _⟩
  · have h1 := (drw_ok h).lt (d / 2) (show d / 2 < ls.length by omega)
    have h2 := (drw_ok h).ev (d / 2) (show d / 2 < ls.length by omega)
    have a1 : (drw ns ls).xa (d / 2) = kx (gp ns v) := by
      unfold pf at f1; rw [dv] at f1
      show kx (lft ns ls (d / 2)) = _; rw [f1]
    unfold Drw.sp; omega
  · rw [rd] at f0; cases f0
theorem spL (h : WOk ns ls) {v : Int} {d : Nat} (hd : d < 2 * ls.length) (dv : (dEnds ls d).1 = v) (rd : rg ns ls d = false) : (drw ns ls).sp (d / 2) (kx (gp ns v) - 1) := by
  rcases dart_lr h hd with ⟨f0, _, _⟩ | ⟨_, f1, f2⟩
  · rw [rd] at f0; cases f0
  · have h1 := (drw_ok h).lt (d / 2) (show d / 2 < ls.length by omega)
    have h2 := (drw_ok h).ev (d / 2) (show d / 2 < ls.length by omega)
    have a1 : (drw ns ls).xb (d / 2) = kx (gp ns v) := by
      unfold pf at f1; rw [dv] at f1
      show kx (rgt ns ls (d / 2)) = _; rw [f1]
    unfold Drw.sp; omega
theorem turn_self (a b : P2) : turn0 a b b = 0 := by unfold turn0; grind
theorem turn_flip (a b c : P2) : turn0 a c b = - turn0 a b c := by unfold turn0; grind
theorem turn_ne (h : WOk ns ls) {v : Int} {d e : Nat} (hd : d < 2 * ls.length) (he : e < 2 * ls.length) (dv : (dEnds ls d).1 = v) (ev : (dEnds ls e).1 = v) (hde : d ≠ e) (hr : rg ns ls d = rg ns ls e) :
    turn0 (gp ns v) (pt ns ls d) (pt ns ls e) ≠ 0 := by
  have hne := lead_ne h hd hde (dv.trans ev.symm)
  cases rd : rg ns ls d with
  | true =>
    have re : rg ns ls e = true := by rw [← hr, rd]
    have := Drw.D_ne (drw_ok h) (show d / 2 < ls.length by omega) (show e / 2 < ls.length by omega) hne (spR h hd dv rd) (spR h he ev re)
    rw [right_iff h hd he dv ev rd re] at this
    omega
  | false =>
    have re : rg ns ls e = false := by rw [← hr, rd]
    have := Drw.D_ne (drw_ok h) (show d / 2 < ls.length by omega) (show e / 2 < ls.length by omega) hne (spL h hd dv rd) (spL h he ev re)
    rw [left_iff h hd he dv ev rd re] at this
    omega
def Atv (ls : List P2) (v : Int) (d : Nat) : Prop := d < 2 * ls.length ∧ (dEnds ls d).1 = v
theorem dlt_irr (h : WOk ns ls) {v : Int} {a : Nat} (ha : Atv ls v a) : dlt ns ls v a a = false := by
  rw [Bool.eq_false_iff]
  intro e
  rcases (dlt_iff h ha.1 ha.1 ha.2 ha.2).1 e with ⟨c1, c2⟩ | ⟨_, c⟩
  · rw [c1] at c2; cases c2
  · rw [turn_self] at c; omega
theorem dlt_as (h : WOk ns ls) {v : Int} {a b : Nat} (ha : Atv ls v a) (hb : Atv ls v b) (e : dlt ns ls v a b = true) : dlt ns ls v b a = false := by
  rw [Bool.eq_false_iff]
  intro e2
  rcases (dlt_iff h ha.1 hb.1 ha.2 hb.2).1 e with ⟨c1, c2⟩ | ⟨c0, c⟩ <;> rcases (dlt_iff h hb.1 ha.1 hb.2 ha.2).1 e2 with ⟨c3, c4⟩ | ⟨c3, c4⟩
  · rw [c1] at c4; cases c4
  · rw [c1, c2] at c3; cases c3
  · rw [c3, c4] at c0; cases c0
  · rw [turn_flip] at c4; omega
theorem dlt_tot (h : WOk ns ls) {v : Int} {a b : Nat} (ha : Atv ls v a) (hb : Atv ls v b) (hab : a ≠ b) : dlt ns ls v a b = true ∨ dlt ns ls v b a = true := by
  rw [dlt_iff h ha.1 hb.1 ha.2 hb.2, dlt_iff h hb.1 ha.1 hb.2 ha.2]
  have ht := fun hr => turn_ne h ha.1 hb.1 ha.2 hb.2 hab hr
  rw [turn_flip (gp ns v) (pt ns ls a) (pt ns ls b)]
  cases c1 : rg ns ls a <;> cases c2 : rg ns ls b
  · have := ht (by rw [c1, c2])
    rcases Int.lt_or_gt_of_ne this with c | c
    · exact .inr (.inr ⟨rfl, by omega⟩)
    · exact .inl (.inr ⟨rfl, by omega⟩)
  · exact .inr (.inl ⟨rfl, rfl⟩)
  · exact .inl (.inl ⟨rfl, rfl⟩)
  · have := ht (by rw [c1, c2])
    rcases Int.lt_or_gt_of_ne this with c | c
    · exact .inr (.inr ⟨rfl, by omega⟩)
    · exact .inl (.inr ⟨rfl, by omega⟩)
theorem turn_tr (h : WOk ns ls) {v : Int} {a b c : Nat} (ha : Atv ls v a) (hb : Atv ls v b) (hc : Atv ls v c) (r1 : rg ns ls a = rg ns ls b) (r2 : rg ns ls b = rg ns ls c)
    (t1 : 0 < turn0 (gp ns v) (pt ns ls a) (pt ns ls b)) (t2 : 0 < turn0 (gp ns v) (pt ns ls b) (pt ns ls c)) : 0 < turn0 (gp ns v) (pt ns ls a) (pt ns ls c) := by
  have p1 := Drw.den_pos (drw_ok h) (show a / 2 < ls.length by have := ha.1; omega)
  have p2 := Drw.den_pos (drw_ok h) (show b / 2 < ls.length by have := hb.1; omega)
  have p3 := Drw.den_pos (drw_ok h) (show c / 2 < ls.length by have := hc.1; omega)
  cases ra : rg ns ls a with
  | true =>
    have rb : rg ns ls b = true := by rw [← r1, ra]
    have rc : rg ns ls c = true := by rw [← r2, rb]
    have tri := Drw.D_tri (G := drw ns ls) (a / 2) (b / 2) (c / 2) (kx (gp ns v) + 1)
    rw [right_iff h ha.1 hc.1 ha.2 hc.2 ra rc, right_iff h ha.1 hb.1 ha.2 hb.2 ra rb, right_iff h hb.1 hc.1 hb.2 hc.2 rb rc] at tri
    have m1 := Int.mul_pos p3 (show 0 < 2000 * turn0 (gp ns v) (pt ns ls a) (pt ns ls b) by omega)
    have m2 := Int.mul_pos p1 (show 0 < 2000 * turn0 (gp ns v) (pt ns ls b) (pt ns ls c) by omega)
    have := pos_of p2 (b := 2000 * turn0 (gp ns v) (pt ns ls a) (pt ns ls c)) (by omega)
    omega
  | false =>
    have rb : rg ns ls b = false := by rw [← r1, ra]
    have rc : rg ns ls c = false := by rw [← r2, rb]
    have tri := Drw.D_tri (G := drw ns ls) (a / 2) (b / 2) (c / 2) (kx (gp ns v) - 1)
    rw [left_iff h ha.1 hc.1 ha.2 hc.2 ra rc, left_iff h ha.1 hb.1 ha.2 hb.2 ra rb, left_iff h hb.1 hc.1 hb.2 hc.2 rb rc] at tri
    have m1 := mul_pn p3 (show -(2000 * turn0 (gp ns v) (pt ns ls a) (pt ns ls b)) < 0 by omega)
    have m2 := mul_pn p1 (show -(2000 * turn0 (gp ns v) (pt ns ls b) (pt ns ls c)) < 0 by omega)
    have := neg_of p2 (b := -(2000 * turn0 (gp ns v) (pt ns ls a) (pt ns ls c))) (by omega)
    omega
theorem dlt_tr (h : WOk ns ls) {v : Int} {a b c : Nat} (ha : Atv ls v a) (hb : Atv ls v b) (hc : Atv ls v c) (e1 : dlt ns ls v a b = true) (e2 : dlt ns ls v b c = true) : dlt ns ls v a c = true := by
  rw [dlt_iff h ha.1 hc.1 ha.2 hc.2]
  rcases (dlt_iff h ha.1 hb.1 ha.2 hb.2).1 e1 with ⟨c1, c2⟩ | ⟨c1, c2⟩ <;> rcases (dlt_iff h hb.1 hc.1 hb.2 hc.2).1 e2 with ⟨c3, c4⟩ | ⟨c3, c4⟩
  · exact .inl ⟨c1, c4⟩
  · exact .inl ⟨c1, by rw [← c3]; exact c2⟩
  · exact .inl ⟨by rw [c1]; exact c3, c4⟩
  · exact .inr ⟨c1.trans c3, turn_tr h ha hb hc c1 c3 c2 c4⟩
theorem arnN_sorted (h : WOk ns ls) (v : Int) : ∀ j, j ≤ 2 * ls.length → (arnN ns ls v j).Pairwise (fun a b => dlt ns ls v a b = true)
  | 0, _ => List.Pairwise.nil
  | j + 1, hj => by
    unfold arnN
    by_cases c : (dEnds ls j).1 = v
    · rw [if_pos c]
      exact ins_sorted (S := Atv ls v) (fun a b ha hb hab => dlt_tot h ha hb hab) (fun a b d ha hb hd e1 e2 => dlt_tr h ha hb hd e1 e2) ⟨by omega, c⟩
        (fun x hx => by have := arnN_mem.1 hx; exact ⟨by omega, this.2⟩) (fun hx => by have := arnN_mem.1 hx; omega) (arnN_sorted h v j (by omega))
    · rw [if_neg c]; exact arnN_sorted h v j (by omega)
theorem arnd_sorted (h : WOk ns ls) (v : Int) : (arnd ns ls v).Pairwise (fun a b => dlt ns ls v a b = true) := arnN_sorted h v _ (Nat.le_refl _)
end
end Go.Proofs.YtdhmjhoaegdfjaaGreat.Pl

namespace Go.Proofs.YtdhmjhoaegdfjaaGreat.Pl
open Go.Proofs.YtdhmjhoaegdfjaaGreat
section
variable {ns ls : List P2}
/-- a flow on the leads that neither starts nor ends at a node -/
def Circ (n : Nat) (ls : List P2) (z : Nat → Int) : Prop := ∀ r : Nat, r < n → sm ls.length (fun k => (if (gp ls (k : Nat)).1 = (r : Int) then z k else 0) - (if (gp ls (k : Nat)).2 = (r : Int) then z k else 0)) = 0
/-- the flow of a dart -/
def zc (z : Nat → Int) (d : Nat) : Int := if d % 2 = 0 then z (d / 2) else - z (d / 2)
/-- the flow from left to right -/
def zl (ns ls : List P2) (z : Nat → Int) (k : Nat) : Int := if rg ns ls (2 * k) = true then z k else - z k
theorem zc_even (z : Nat → Int) (k : Nat) : zc z (2 * k) = z k := by unfold zc; rw [if_pos (by omega), show 2 * k / 2 = k by omega]
theorem zc_odd (z : Nat → Int) (k : Nat) : zc z (2 * k + 1) = - z k := by unfold zc; rw [if_neg (by omega), show (2 * k + 1) / 2 = k by omega]
theorem zc_rg (h : WOk ns ls) (z : Nat → Int) {d : Nat} (hd : d < 2 * ls.length) : zc z d = if rg ns ls d = true then zl ns ls z (d / 2) else - zl ns ls z (d / 2) := by
  have ht := rg_twin h (k := d / 2) (by omega)
  unfold zl
  rcases dart_cases d with e | e
  · rw [e, zc_even, show 2 * (d / 2) / 2 = d / 2 by omega]
    cases rg ns ls (2 * (d / 2)) <;> simp
  · rw [e, zc_odd, show (2 * (d / 2) + 1) / 2 = d / 2 by omega, ht]
    cases rg ns ls (2 * (d / 2)) <;> simp
theorem lsm_arnd (ns ls : List P2) (v : Int) (g : Nat → Int) : lsm g (arnd ns ls v) = sm ls.length (fun k => (if (gp ls (k : Nat)).1 = v then g (2 * k) else 0) + (if (gp ls (k : Nat)).2 = v then g (2 * k + 1) else 0)) := by
  unfold arnd
  rw [lsm_perm (arnN_perm ns ls v _)]
  unfold dAt
  rw [lsm_filter, lsm_range, sm_two]
  refine sm_congr fun k _ => ?_
  rw [dart_even, dart_odd]
  simp only [decide_eq_true_eq]
theorem key_iff (h : WOk ns ls) {i v : Nat} (hi : i < ns.length) (hv : v < ns.length) : kx (gp ns (i : Nat)) = kx (gp ns (v : Nat)) ↔ (i : Int) = (v : Int) := by
  constructor
  · intro e; have := nodes_ne h hi hv (kx_inj (h.ok i hi) (h.ok v hv) e); omega
  · intro e; rw [e]
theorem la_iff (h : WOk ns ls) {k v : Nat} (hk : k < ls.length) (hv : v < ns.length) : kx (la ns ls k) = kx (gp ns (v : Nat)) ↔ (gp ls (k : Nat)).1 = (v : Int) := by
  obtain ⟨i, hi, e⟩ := (leadF h hk).ua
  unfold la; rw [e]; exact key_iff h hi hv
theorem lb_iff (h : WOk ns ls) {k v : Nat} (hk : k < ls.length) (hv : v < ns.length) : kx (lb ns ls k) = kx (gp ns (v : Nat)) ↔ (gp ls (k : Nat)).2 = (v : Int) := by
  obtain ⟨i, hi, e⟩ := (leadF h hk).ub
  unfold lb; rw [e]; exact key_iff h hi hv
theorem rg_even (ns ls : List P2) (k : Nat) : rg ns ls (2 * k) = decide (kx (la ns ls k) < kx (lb ns ls k)) := by
  unfold rg pf pt; rw [dart_even]; rfl
/-- the leads to the right of a node, as darts -/
theorem sum_right (h : WOk ns ls) (z : Nat → Int) {v : Nat} (hv : v < ns.length) (P : Nat → Prop) [DecidablePred P] :
    sm ls.length (fun l => if (drw ns ls).xa l = kx (gp ns (v : Nat)) ∧ P l then zl ns ls z l else 0) = lsm (fun e => if rg ns ls e = true ∧ P (e / 2) then zc z e else 0) (arnd ns ls (v : Nat)) := by
  rw [lsm_arnd]
  refine sm_congr fun k hk => ?_
  have ht := rg_twin h hk
  have hr := rg_even ns ls k
  have i1 := la_iff h hk hv
  have i2 := lb_iff h hk hv
  rw [show (2 * k + 1) / 2 = k by omega, show 2 * k / 2 = k by omega, zc_even, zc_odd, ht]
  unfold zl
  rcases lr_cases h hk with ⟨c, e1, _⟩ | ⟨c, e1, _⟩
  · rw [decide_eq_true c] at hr
    have hi : (drw ns ls).xa k = kx (gp ns (v : Nat)) ↔ (gp ls (k : Nat)).1 = (v : Int) := by show kx (lft ns ls k) = _ ↔ _; rw [e1]; exact i1
    simp only [hi, hr]
    by_cases c1 : (gp ls (k : Nat)).1 = (v : Int) <;> by_cases c2 : P k <;> simp [c1, c2]
  · rw [decide_eq_false (by omega)] at hr
    have hi : (drw ns ls).xa k = kx (gp ns (v : Nat)) ↔ (gp ls (k : Nat)).2 = (v : Int) := by show kx (lft ns ls k) = _ ↔ _; rw [e1]; exact i2
    simp only [hi, hr]
    by_cases c1 : (gp ls (k : Nat)).2 = (v : Int) <;> by_cases c2 : P k <;> simp [c1, c2]
theorem sum_left (h : WOk ns ls) (z : Nat → Int) {v : Nat} (hv : v < ns.length) (P : Nat → Prop) [DecidablePred P] :
    sm ls.length (fun l => if (drw ns ls).xb l = kx (gp ns (v : Nat)) ∧ P l then zl ns ls z l else 0) = lsm (fun e => if rg ns ls e = false ∧ P (e / 2) then - zc z e else 0) (arnd ns ls (v : Nat)) := by
  rw [lsm_arnd]
  refine sm_congr fun k hk => ?_
  have ht := rg_twin h hk
  have hr := rg_even ns ls k
  have i1 := la_iff h hk hv
  have i2 := lb_iff h hk hv
  rw [show (2 * k + 1) / 2 = k by omega, show 2 * k / 2 = k by omega, zc_even, zc_odd, ht]
  unfold zl
  rcases lr_cases h hk with ⟨c, _, e1⟩ | ⟨c, _, e1⟩
  · rw [decide_eq_true c] at hr
    have hi : (drw ns ls).xb k = kx (gp ns (v : Nat)) ↔ (gp ls (k : Nat)).2 = (v : Int) := by show kx (rgt ns ls k) = _ ↔ _; rw [e1]; exact i2
    simp only [hi, hr]
    by_cases c1 : (gp ls (k : Nat)).2 = (v : Int) <;> by_cases c2 : P k <;> simp [c1, c2]
  · rw [decide_eq_false (by omega)] at hr
    have hi : (drw ns ls).xb k = kx (gp ns (v : Nat)) ↔ (gp ls (k : Nat)).1 = (v : Int) := by show kx (rgt ns ls k) = _ ↔ _; rw [e1]; exact i1
    simp only [hi, hr]
    by_cases c1 : (gp ls (k : Nat)).1 = (v : Int) <;> by_cases c2 : P k <;> simp [c1, c2]
theorem circ_arnd (ns : List P2) {n : Nat} {z : Nat → Int} (hz : Circ n ls z) {v : Nat} (hv : v < n) : lsm (zc z) (arnd ns ls (v : Nat)) = 0 := by
  refine (lsm_arnd ns ls _ _).trans (Eq.trans (sm_congr fun k _ => ?_) (hz v hv))
  rw [zc_even, zc_odd]
  by_cases c : (gp ls (k : Nat)).2 = (v : Int)
  · rw [if_pos c, if_pos c]; omega
  · rw [if_neg c, if_neg c]; omega
theorem circ_cons (h : WOk ns ls) {z : Nat → Int} (hz : Circ ns.length ls z) : (drw ns ls).Cons (zl ns ls z) := by
  intro s
  by_cases hs : ∃ v, v < ns.length ∧ kx (gp ns (v : Nat)) = s
  · obtain ⟨v, hv, rfl⟩ := hs
    have h1 := sum_right h z hv (fun _ => True)
    have h2 := sum_left h z hv (fun _ => True)
    simp only [and_true] at h1 h2
    show sm ls.length _ = sm ls.length _
    rw [h1, h2]
    have h3 := circ_arnd ns hz hv
    have h4 := lsm_sub (fun e => if rg ns ls e = true then zc z e else 0) (fun e => if rg ns ls e = false then - zc z e else 0) (arnd ns ls (v : Nat))
    have h5 : lsm (fun e => (if rg ns ls e = true then zc z e else 0) - (if rg ns ls e = false then - zc z e else 0)) (arnd ns ls (v : Nat)) = lsm (zc z) (arnd ns ls (v : Nat)) := by
      refine lsm_congr fun e _ => ?_
      cases rg ns ls e <;> simp
    omega
  · have n1 : ∀ l, l < ls.length → ¬ (drw ns ls).xb l = s := by
      intro l hl e
      obtain ⟨i, hi, ei⟩ := node_r h hl
      exact hs ⟨i, hi, by rw [ei]; exact e⟩
    have n2 : ∀ l, l < ls.length → ¬ (drw ns ls).xa l = s := by
      intro l hl e
      obtain ⟨i, hi, ei⟩ := node_l h hl
      exact hs ⟨i, hi, by rw [ei]; exact e⟩
    exact (sm_zero fun l hl => if_neg (n1 l hl)).trans (sm_zero fun l hl => if_neg (n2 l hl)).symm
/-- the winding number of a flow on the left of a dart -/
def wd (ns ls : List P2) (z : Nat → Int) (d : Nat) : Int := if rg ns ls d = true then - (drw ns ls).W (zl ns ls z) (d / 2) else -((drw ns ls).W (zl ns ls z) (d / 2) + zl ns ls z (d / 2))
theorem wd_twin (h : WOk ns ls) (z : Nat → Int) {k : Nat} (hk : k < ls.length) : wd ns ls z (2 * k) - wd ns ls z (2 * k + 1) = z k := by
  have ht := rg_twin h hk
  unfold wd
  rw [ht, show (2 * k + 1) / 2 = k by omega, show 2 * k / 2 = k by omega]
  unfold zl
  cases rg ns ls (2 * k) <;> simp <;> omega
theorem wd_twin' (h : WOk ns ls) (z : Nat → Int) {d : Nat} (hd : d < 2 * ls.length) : wd ns ls z (d ^^^ 1) = wd ns ls z d - zc z d := by
  have := wd_twin h z (k := d / 2) (by omega)
  rcases dart_cases d with e | e
  · rw [e, xor_even, zc_even]; omega
  · rw [e, xor_odd, zc_odd]; omega
theorem wd_corner (h : WOk ns ls) {z : Nat → Int} (hz : Circ ns.length ls z) {v : Nat} (hv : v < ns.length) {d : Nat} (hd : d ∈ arnd ns ls (v : Nat)) :
    wd ns ls z d = (-(drw ns ls).U (zl ns ls z) (kx (gp ns (v : Nat))) (ky (gp ns (v : Nat))) - lsm (fun e => if rg ns ls e = true then zc z e else 0) (arnd ns ls (v : Nat))) + lsm (fun e => if dlt ns ls (v : Nat) d e = true then 0 else zc z e) (arnd ns ls (v : Nat)) := by
  obtain ⟨hdm, dv⟩ := arnd_mem.1 hd
  have hkm : d / 2 < ls.length := by omega
  rcases dart_lr h hdm with ⟨rd, f1, f2⟩ | ⟨rd, f1, f2⟩
  · have fv : lft ns ls (d / 2) = gp ns (v : Nat) := by rw [← f1]; unfold pf; rw [dv]
    have hw := Drw.W_right (drw_ok h) (z := zl ns ls z) (k := d / 2) hkm
    rw [show (drw ns ls).xa (d / 2) = kx (gp ns (v : Nat)) from by rw [← fv]; rfl, show (drw ns ls).ya (d / 2) = ky (gp ns (v : Nat)) from by rw [← fv]; rfl] at hw
    have hs := sum_right h z hv (fun l => 0 < (drw ns ls).K (d / 2) ((drw ns ls).xb l) ((drw ns ls).yb l))
    have hw' := hw.trans (congrArg ((drw ns ls).U (zl ns ls z) (kx (gp ns (v : Nat))) (ky (gp ns (v : Nat))) + ·) hs)
    unfold wd
    rw [if_pos rd, hw']
    have e1 := lsm_add (fun e => if rg ns ls e = true ∧ 0 < (drw ns ls).K (d / 2) ((drw ns ls).xb (e / 2)) ((drw ns ls).yb (e / 2)) then zc z e else 0) (fun e => if dlt ns ls (v : Nat) d e = true then 0 else zc z e) (arnd ns ls (v : Nat))
    have e2 : lsm (fun e => (if rg ns ls e = true ∧ 0 < (drw ns ls).K (d / 2) ((drw ns ls).xb (e / 2)) ((drw ns ls).yb (e / 2)) then zc z e else 0) + (if dlt ns ls (v : Nat) d e = true then 0 else zc z e)) (arnd ns ls (v : Nat)) = lsm (fun e => if rg ns ls e = true then zc z e else 0) (arnd ns ls (v : Nat)) := by
      refine lsm_congr fun e he => ?_
      obtain ⟨hem, ev⟩ := arnd_mem.1 he
      have hi := dlt_iff h hdm hem dv ev
      rw [rd] at hi
      cases re : rg ns ls e with
      | false =>
        rw [if_pos (hi.2 (.inl ⟨rfl, re⟩))]; simp
      | true =>
        rw [re] at hi
        have hK : (drw ns ls).K (d / 2) ((drw ns ls).xb (e / 2)) ((drw ns ls).yb (e / 2)) = 2000 * turn0 (gp ns (v : Nat)) (pt ns ls d) (pt ns ls e) := by
          rcases dart_lr h hem with ⟨_, g1, g2⟩ | ⟨g0, _, _⟩
          · rw [g2, f2, ← fv, ← K_eq]; rfl
          · rw [re] at g0; cases g0
        rw [hK]
        by_cases c : 0 < turn0 (gp ns (v : Nat)) (pt ns ls d) (pt ns ls e)
        · rw [if_pos ⟨rfl, by omega⟩, if_pos (hi.2 (.inr ⟨rfl, c⟩))]; simp
        · rw [if_neg (fun x => c (by omega)), if_neg (fun x => by
            rcases hi.1 x with ⟨_, y⟩ | ⟨_, y⟩
            · cases y
            · exact c y)]; simp
    omega
  · have fv : rgt ns ls (d / 2) = gp ns (v : Nat) := by rw [← f1]; unfold pf; rw [dv]
    have hw := Drw.W_left (drw_ok h) (circ_cons h hz) (k := d / 2) hkm
    rw [show (drw ns ls).xb (d / 2) = kx (gp ns (v : Nat)) from by rw [← fv]; rfl, show (drw ns ls).yb (d / 2) = ky (gp ns (v : Nat)) from by rw [← fv]; rfl] at hw
    have hs := sum_left h z hv (fun l => 0 < (drw ns ls).K (d / 2) ((drw ns ls).xa l) ((drw ns ls).ya l))
    have hw' := hw.trans (congrArg ((drw ns ls).U (zl ns ls z) (kx (gp ns (v : Nat))) (ky (gp ns (v : Nat))) + ·) hs)
    have hzd := zc_rg h z hdm
    rw [if_neg (by rw [rd]; simp)] at hzd
    unfold wd
    rw [if_neg (by rw [rd]; simp), hw']
    have e1 := lsm_add (fun e => if rg ns ls e = false ∧ 0 < (drw ns ls).K (d / 2) ((drw ns ls).xa (e / 2)) ((drw ns ls).ya (e / 2)) then - zc z e else 0) (fun e => if dlt ns ls (v : Nat) d e = true then 0 else zc z e) (arnd ns ls (v : Nat))
    have e3 := lsm_add (fun e => if rg ns ls e = true then zc z e else 0) (fun e => if e = d then zc z d else 0) (arnd ns ls (v : Nat))
    have e4 : lsm (fun e => if e = d then zc z d else 0) (arnd ns ls (v : Nat)) = zc z d := lsm_one (arnN_nodup ns ls (v : Nat) _) hd (zc z d)
    have e2 : lsm (fun e => (if rg ns ls e = false ∧ 0 < (drw ns ls).K (d / 2) ((drw ns ls).xa (e / 2)) ((drw ns ls).ya (e / 2)) then - zc z e else 0) + (if dlt ns ls (v : Nat) d e = true then 0 else zc z e)) (arnd ns ls (v : Nat)) = lsm (fun e => (if rg ns ls e = true then zc z e else 0) + (if e = d then zc z d else 0)) (arnd ns ls (v : Nat)) := by
      refine lsm_congr fun e he => ?_
      obtain ⟨hem, ev⟩ := arnd_mem.1 he
      have hi := dlt_iff h hdm hem dv ev
      rw [rd] at hi
      cases re : rg ns ls e with
      | true =>
        rw [if_neg (fun x => by cases x.1), if_neg (fun x => by
          rw [re] at hi
          rcases hi.1 x with ⟨y, _⟩ | ⟨y, _⟩ <;> cases y), if_pos rfl, if_neg (fun x => by rw [x, rd] at re; cases re)]
        omega
      | false =>
        rw [re] at hi
        have hK : (drw ns ls).K (d / 2) ((drw ns ls).xa (e / 2)) ((drw ns ls).ya (e / 2)) = -(2000 * turn0 (gp ns (v : Nat)) (pt ns ls d) (pt ns ls e)) := by
          rcases dart_lr h hem with ⟨g0, _, _⟩ | ⟨_, g1, g2⟩
          · rw [re] at g0; cases g0
          · have := K_eq ns ls (d / 2) (lft ns ls (e / 2))
            rw [fv, ← f2, ← g2, turn_swap (gp ns (v : Nat))] at this
            have e2 : (drw ns ls).K (d / 2) ((drw ns ls).xa (e / 2)) ((drw ns ls).ya (e / 2)) = (drw ns ls).K (d / 2) (kx (pt ns ls e)) (ky (pt ns ls e)) := by
              show (drw ns ls).K (d / 2) (kx (lft ns ls (e / 2))) (ky (lft ns ls (e / 2))) = _
              rw [← g2]
            omega
        rw [hK]
        by_cases ced : e = d
        · rw [ced, turn_self, if_neg (fun x => by omega), if_neg (fun x => by
            rw [dlt_irr h ⟨hdm, dv⟩] at x; cases x), if_neg (by simp), if_pos rfl]
        · have hne := turn_ne h hdm hem dv ev (fun x => ced x.symm) (by rw [rd, re])
          rw [if_neg ced]
          by_cases c : 0 < turn0 (gp ns (v : Nat)) (pt ns ls d) (pt ns ls e)
          · rw [if_neg (fun x => by omega), if_pos (hi.2 (.inr ⟨rfl, c⟩))]; simp
          · rw [if_pos ⟨rfl, by omega⟩, if_neg (fun x => by
              rcases hi.1 x with ⟨y, _⟩ | ⟨_, y⟩
              · cases y
              · exact c y)]; simp; omega
    omega
/-- the winding number does not change along a walk -/
theorem wd_nxt (h : WOk ns ls) {z : Nat → Int} (hz : Circ ns.length ls z) {d : Nat} (hd : d < 2 * ls.length) : wd ns ls z (nxt ns ls d) = wd ns ls z d := by
  obtain ⟨v, hv, ev⟩ := node_t h hd
  have hx := xor1_lt hd
  have hxv : (dEnds ls (d ^^^ 1)).1 = (v : Int) := by rw [ends_twin, ← ev]
  have hmem : d ^^^ 1 ∈ arnd ns ls (v : Nat) := arnd_mem.2 ⟨hx, hxv⟩
  have hpos := List.length_pos_of_mem hmem
  have hii := List.idxOf_lt_length_of_mem hmem
  have hge := List.getElem_idxOf hii
  have htot := circ_arnd ns hz hv
  have key : ∀ i (hi : i < (arnd ns ls (v : Nat)).length), wd ns ls z (arnd ns ls (v : Nat))[i] = (-(drw ns ls).U (zl ns ls z) (kx (gp ns (v : Nat))) (ky (gp ns (v : Nat))) - lsm (fun e => if rg ns ls e = true then zc z e else 0) (arnd ns ls (v : Nat))) + lsm (zc z) ((arnd ns ls (v : Nat)).take (i + 1)) := by
    intro i hi
    rw [wd_corner h hz hv (List.getElem_mem hi), lsm_upto (arnd_sorted h (v : Nat)) (fun a ha => dlt_irr h (arnd_mem.1 ha)) (fun a ha b hb e => dlt_as h (arnd_mem.1 ha) (arnd_mem.1 hb) e) (zc z) hi]
  have h1 := wd_twin' h z hx
  rw [xor1_xor1] at h1
  have h2 := key _ hii
  rw [hge] at h2
  rw [lsm_take _ _ hii, hge] at h2
  unfold nxt prevD besN stepL
  rw [hxv]
  generalize (arnd ns ls (v : Nat)).idxOf (d ^^^ 1) = i at *
  have hm : (i + ((arnd ns ls (v : Nat)).length - 1)) % (arnd ns ls (v : Nat)).length < (arnd ns ls (v : Nat)).length := Nat.mod_lt _ hpos
  rw [getD_at _ hm, key _ hm, h1, h2]
  rcases Nat.eq_zero_or_pos i with c | c
  · subst c
    rw [Nat.zero_add, Nat.mod_eq_of_lt (by omega), show (arnd ns ls (v : Nat)).length - 1 + 1 = (arnd ns ls (v : Nat)).length by omega, List.take_length, htot]
    simp [lsm]
  · rw [show i + ((arnd ns ls (v : Nat)).length - 1) = (i - 1) + (arnd ns ls (v : Nat)).length by omega, Nat.add_mod_right, Nat.mod_eq_of_lt (by omega), show i - 1 + 1 = i by omega]
    omega
end
end Go.Proofs.YtdhmjhoaegdfjaaGreat.Pl

namespace Go.Proofs.YtdhmjhoaegdfjaaGreat.Pl
open Go.Proofs.YtdhmjhoaegdfjaaGreat
/-! The faces are the walks: each dart is in one. -/
section
variable {ns ls : List P2}
theorem itr_add (f : Nat → Nat) (d : Nat) : ∀ r s, itr f (r + s) d = itr f r (itr f s d)
  | 0, s => by rw [Nat.zero_add]; rfl
  | r + 1, s => by rw [show r + 1 + s = (r + s) + 1 by omega]; show f (itr f (r + s) d) = _; rw [itr_add f d r s]; rfl
theorem itr_mul {f : Nat → Nat} {p d : Nat} (h : itr f p d = d) : ∀ n, itr f (p * n) d = d
  | 0 => rfl
  | n + 1 => by rw [show p * (n + 1) = p * n + p by rw [Nat.mul_succ], itr_add, h, itr_mul h n]
theorem orb_back {d : Nat} (hd : d < 2 * ls.length) (s : Nat) : ∃ t, itr (nxt ns ls) t (itr (nxt ns ls) s d) = d := by
  obtain ⟨h1, _, h3, _⟩ := per_ok (ns := ns) hd
  refine ⟨perd (nxt ns ls) (2 * ls.length) d * (s + 1) - s, ?_⟩
  rw [← itr_add, Nat.sub_add_cancel, itr_mul h3]
  have := Nat.le_mul_of_pos_left (s + 1) h1
  omega
theorem mem_wlk {d : Nat} (hd : d < 2 * ls.length) {e : Nat} : e ∈ wlk ns ls d ↔ ∃ s, itr (nxt ns ls) s d = e := by
  obtain ⟨h1, _, h3, _⟩ := per_ok (ns := ns) hd
  unfold wlk wlkR
  rw [List.mem_map]
  constructor
  · rintro ⟨s, _, e⟩; exact ⟨s, e⟩
  · rintro ⟨s, rfl⟩
    refine ⟨s % perd (nxt ns ls) (2 * ls.length) d, List.mem_range.2 (Nat.mod_lt _ h1), ?_⟩
    have := itr_add (nxt ns ls) d (s % perd (nxt ns ls) (2 * ls.length) d) (perd (nxt ns ls) (2 * ls.length) d * (s / perd (nxt ns ls) (2 * ls.length) d))
    rw [Nat.mod_add_div, itr_mul h3] at this
    exact this.symm
theorem wlk_self {d : Nat} (hd : d < 2 * ls.length) : d ∈ wlk ns ls d := (mem_wlk hd).2 ⟨0, rfl⟩
theorem hasL_iff {L : List (List Nat)} {d : Nat} : hasL L d = true ↔ ∃ f, f < L.length ∧ d ∈ L.getD f [] := by
  unfold hasL
  rw [List.any_eq_true]
  constructor
  · rintro ⟨l, hl, hd⟩
    obtain ⟨f, hf, rfl⟩ := List.getElem_of_mem hl
    exact ⟨f, hf, by simpa [hf] using hd⟩
  · rintro ⟨f, hf, hd⟩
    exact ⟨L[f], List.getElem_mem hf, by simpa [hf] using hd⟩
theorem fcsN_walk {j f : Nat} (hj : j ≤ 2 * ls.length) (hf : f < (fcsN ns ls j).length) : ∃ d, d < 2 * ls.length ∧ (fcsN ns ls j).getD f [] = wlk ns ls d := by
  obtain ⟨d, hd, e⟩ := fcsN_mem (fcsN ns ls j)[f] (List.getElem_mem hf)
  exact ⟨d, by omega, by simpa [hf] using e⟩
theorem fcsN_has : ∀ {j : Nat}, j ≤ 2 * ls.length → ∀ d, d < j → hasL (fcsN ns ls j) d = true
  | 0, _, d, hd => by omega
  | j + 1, hj, d, hd => by
    by_cases c : hasL (fcsN ns ls j) j = true
    · rw [fcsN_yes c]
      rcases Nat.lt_succ_iff_lt_or_eq.1 hd with e | e
      · exact fcsN_has (by omega) d e
      · subst e; exact c
    · rw [fcsN_no c, hasL_snoc]
      rcases Nat.lt_succ_iff_lt_or_eq.1 hd with e | e
      · rw [fcsN_has (by omega) d e]; rfl
      · subst e
        have := wlk_self (ns := ns) (ls := ls) (d := d) (by omega)
        simp [this]
theorem getD_snoc_lt {L : List (List Nat)} {l : List Nat} {f : Nat} (h : f < L.length) : (L ++ [l]).getD f [] = L.getD f [] := by
  simp [List.getElem?_append_left h]
theorem getD_snoc_eq (L : List (List Nat)) (l : List Nat) : (L ++ [l]).getD L.length [] = l := by simp
theorem fcsN_disj : ∀ {j : Nat}, j ≤ 2 * ls.length → ∀ a b d, a < b → b < (fcsN ns ls j).length → d ∈ (fcsN ns ls j).getD a [] → d ∈ (fcsN ns ls j).getD b [] → False
  | 0, _, a, b, d, _, hb, _, _ => by simp [fcsN] at hb
  | j + 1, hj, a, b, d, hab, hb, h1, h2 => by
    by_cases c : hasL (fcsN ns ls j) j = true
    · rw [fcsN_yes c] at hb h1 h2
      exact fcsN_disj (by omega) a b d hab hb h1 h2
    · rw [fcsN_no c] at hb h1 h2
      rw [List.length_append, List.length_singleton] at hb
      rcases Nat.lt_succ_iff_lt_or_eq.1 hb with e | e
      · rw [getD_snoc_lt (by omega)] at h1
        rw [getD_snoc_lt e] at h2
        exact fcsN_disj (by omega) a b d hab e h1 h2
      · rw [getD_snoc_lt (by omega)] at h1
        rw [e, getD_snoc_eq] at h2
        apply c
        rw [hasL_iff]
        refine ⟨a, by omega, ?_⟩
        obtain ⟨x, hx, ex⟩ := fcsN_walk (ns := ns) (show j ≤ 2 * ls.length by omega) (show a < (fcsN ns ls j).length by omega)
        rw [ex] at h1 ⊢
        rw [mem_wlk hx] at h1 ⊢
        rw [mem_wlk (by omega)] at h2
        obtain ⟨s, hs⟩ := h1
        obtain ⟨t, ht⟩ := h2
        obtain ⟨r, hr⟩ := orb_back (ns := ns) (ls := ls) (d := j) (by omega) t
        exact ⟨r + s, by rw [itr_add, hs, ← ht, hr]⟩
theorem sdN_spec {L : List (List Nat)} {d : Nat} : ∀ {k : Nat}, (∃ f, f < k ∧ d ∈ L.getD f []) → sdN L d k < k ∧ d ∈ L.getD (sdN L d k) []
  | 0, h => by obtain ⟨f, hf, _⟩ := h; omega
  | k + 1, h => by
    unfold sdN
    by_cases c : (L.getD k []).contains d = true
    · rw [if_pos c]; exact ⟨by omega, by simpa using c⟩
    · rw [if_neg c]
      obtain ⟨f, hf, hd⟩ := h
      have : f ≠ k := fun e => c (by subst e; simpa using hd)
      obtain ⟨h1, h2⟩ := sdN_spec (L := L) (d := d) (k := k) ⟨f, by omega, hd⟩
      exact ⟨by omega, h2⟩
theorem sd_spec {d : Nat} (hd : d < 2 * ls.length) : sd (fcs ns ls) d < (fcs ns ls).length ∧ d ∈ (fcs ns ls).getD (sd (fcs ns ls) d) [] := sdN_spec (hasL_iff.1 (fcsN_has (Nat.le_refl _) d hd))
theorem sd_uniq {d f : Nat} (hd : d < 2 * ls.length) (hf : f < (fcs ns ls).length) (h : d ∈ (fcs ns ls).getD f []) : sd (fcs ns ls) d = f := by
  obtain ⟨h1, h2⟩ := sd_spec (ns := ns) hd
  rcases Nat.lt_trichotomy (sd (fcs ns ls) d) f with c | c | c
  · exact (fcsN_disj (Nat.le_refl _) _ _ d c hf h2 h).elim
  · exact c
  · exact (fcsN_disj (Nat.le_refl _) _ _ d c h1 h h2).elim
theorem fcs_walk {f : Nat} (hf : f < (fcs ns ls).length) : ∃ d, d < 2 * ls.length ∧ (fcs ns ls).getD f [] = wlk ns ls d := fcsN_walk (Nat.le_refl _) hf
theorem sd_orb {d e : Nat} (hd : d < 2 * ls.length) (he : e < 2 * ls.length) : sd (fcs ns ls) d = sd (fcs ns ls) e ↔ ∃ s, itr (nxt ns ls) s d = e := by
  obtain ⟨h1, h2⟩ := sd_spec (ns := ns) hd
  obtain ⟨x, hx, ex⟩ := fcs_walk h1
  constructor
  · intro c
    obtain ⟨_, h4⟩ := sd_spec (ns := ns) he
    rw [← c, ex, mem_wlk hx] at h4
    rw [ex, mem_wlk hx] at h2
    obtain ⟨s, hs⟩ := h2
    obtain ⟨t, ht⟩ := h4
    obtain ⟨r, hr⟩ := orb_back (ns := ns) hx s
    exact ⟨t + r, by rw [itr_add, ← hs, hr, ht]⟩
  · rintro ⟨s, hs⟩
    symm
    refine sd_uniq he h1 ?_
    rw [ex, mem_wlk hx] at h2 ⊢
    obtain ⟨t, ht⟩ := h2
    exact ⟨s + t, by rw [itr_add, ht, hs]⟩
theorem sd_nxt {d : Nat} (hd : d < 2 * ls.length) : sd (fcs ns ls) (nxt ns ls d) = sd (fcs ns ls) d := ((sd_orb hd (nxt_lt hd)).2 ⟨1, rfl⟩).symm
/-- what does not change along walks is told by the face -/
theorem orb_const {g : Nat → Int} (hg : ∀ d, d < 2 * ls.length → g (nxt ns ls d) = g d) {d : Nat} (hd : d < 2 * ls.length) : ∀ s, g (itr (nxt ns ls) s d) = g d
  | 0 => rfl
  | s + 1 => (hg _ (itr_nxt_lt hd s)).trans (orb_const hg hd s)
theorem sd_const {g : Nat → Int} (hg : ∀ d, d < 2 * ls.length → g (nxt ns ls d) = g d) {d e : Nat} (hd : d < 2 * ls.length) (he : e < 2 * ls.length) (h : sd (fcs ns ls) d = sd (fcs ns ls) e) : g d = g e := by
  obtain ⟨s, hs⟩ := (sd_orb hd he).1 h
  rw [← hs, orb_const hg hd]
/-- the value of such a thing at a face -/
def fv (ns ls : List P2) (g : Nat → Int) (f : Nat) : Int := g (((fcs ns ls).getD f []).getD 0 0)
theorem fv_sd {g : Nat → Int} (hg : ∀ d, d < 2 * ls.length → g (nxt ns ls d) = g d) {d : Nat} (hd : d < 2 * ls.length) : fv ns ls g (sd (fcs ns ls) d) = g d := by
  obtain ⟨h1, h2⟩ := sd_spec (ns := ns) hd
  obtain ⟨x, hx, ex⟩ := fcs_walk h1
  have h0 : ((fcs ns ls).getD (sd (fcs ns ls) d) []).getD 0 0 = x := by
    rw [ex]
    have := (wlk_len (ns := ns) hx).1
    rw [getD_at _ (by omega)]
    unfold wlk wlkR
    simp [itr]
  unfold fv
  rw [h0]
  exact sd_const hg hx hd ((sd_uniq hx h1 (by rw [ex]; exact wlk_self hx)))

/-! ### the boundary of faces is a flow -/
theorem lsm_getD (f : Nat → Int) (l : List Nat) : lsm f l = sm l.length (fun i => f (l.getD i 0)) := by
  have key : ∀ n, n ≤ l.length → lsm f (l.take n) = sm n (fun i => f (l.getD i 0)) := by
    intro n
    induction n with
    | zero => intro _; rfl
    | succ n ih =>
      intro hn
      rw [lsm_take f l (by omega), ih (by omega), sm_succ, getD_at l (by omega)]
  have := key l.length (Nat.le_refl _)
  rwa [List.take_length] at this
theorem sm_shift (n : Nat) (f : Nat → Int) : sm (n + 1) f = f 0 + sm n (fun i => f (i + 1)) := by
  induction n with
  | zero => simp [sm]
  | succ n ih => rw [sm_succ, ih, sm_succ]; omega
theorem sm_rot (n : Nat) (f : Nat → Int) : sm n (fun i => f ((i + (n - 1)) % n)) = sm n f := by
  cases n with
  | zero => rfl
  | succ n =>
    rw [sm_shift, sm_succ]
    have e1 : (0 + (n + 1 - 1)) % (n + 1) = n := by rw [Nat.zero_add]; exact Nat.mod_eq_of_lt (by omega)
    have e2 : sm n (fun i => f ((i + 1 + (n + 1 - 1)) % (n + 1))) = sm n f := by
      refine sm_congr fun i hi => ?_
      rw [show i + 1 + (n + 1 - 1) = i + (n + 1) by omega, Nat.add_mod_right, Nat.mod_eq_of_lt (by omega)]
    rw [e1, e2]; omega
theorem idxOf_getD {l : List Nat} (hn : l.Nodup) {i : Nat} (hi : i < l.length) : l.idxOf (l.getD i 0) = i := by
  have hm : l.getD i 0 ∈ l := by rw [getD_at l hi]; exact List.getElem_mem hi
  have h1 := List.idxOf_lt_length_of_mem hm
  have h2 := List.getElem_idxOf h1
  refine nodup_getD_inj hn h1 hi ?_
  rw [getD_at l h1, h2]
theorem lsm_prev (ns ls : List P2) (v : Int) (g : Nat → Int) : lsm (fun e => g (prevD ns ls e)) (arnd ns ls v) = lsm g (arnd ns ls v) := by
  rw [lsm_getD, lsm_getD]
  refine Eq.trans (sm_congr fun i hi => ?_) (sm_rot (arnd ns ls v).length (fun i => g ((arnd ns ls v).getD i 0)))
  have hm : (arnd ns ls v).getD i 0 ∈ arnd ns ls v := by rw [getD_at _ hi]; exact List.getElem_mem hi
  have hv := (arnd_mem.1 hm).2
  unfold prevD besN stepL
  rw [hv, idxOf_getD (l := arnd ns ls v) (arnN_nodup ns ls v _) hi]
theorem face_circ {g : Nat → Int} (n : Nat) (hg : ∀ d, d < 2 * ls.length → g (nxt ns ls d) = g d) : Circ n ls (fun k => g (2 * k) - g (2 * k + 1)) := by
  intro r _
  have h1 := lsm_arnd ns ls (r : Int) (fun e => g e - g (e ^^^ 1))
  have h2 := lsm_sub g (fun e => g (e ^^^ 1)) (arnd ns ls (r : Int))
  have h3 : lsm (fun e => g (e ^^^ 1)) (arnd ns ls (r : Int)) = lsm (fun e => g (prevD ns ls e)) (arnd ns ls (r : Int)) := by
    refine lsm_congr fun e he => ?_
    have hem := (arnd_mem.1 he).1
    have := hg (e ^^^ 1) (xor1_lt hem)
    unfold nxt at this
    rw [xor1_xor1] at this
    exact this.symm
  rw [lsm_prev] at h3
  have h4 : lsm (fun e => g e - g (e ^^^ 1)) (arnd ns ls (r : Int)) = 0 := by omega
  rw [← h4, h1]
  refine sm_congr fun k _ => ?_
  dsimp only
  rw [xor_even, xor_odd]
  by_cases c : (gp ls (k : Nat)).2 = (r : Int)
  · rw [if_pos c, if_pos c]; omega
  · rw [if_neg c, if_neg c]; omega
/-- A FLOW IS A SUM OF BOUNDARIES: planarity -/
theorem flow_faces (h : WOk ns ls) {z : Nat → Int} (hz : Circ ns.length ls z) : ∃ w : Nat → Int, ∀ k, k < ls.length → w (sd (fcs ns ls) (2 * k)) - w (sd (fcs ns ls) (2 * k + 1)) = z k := by
  refine ⟨fv ns ls (wd ns ls z), fun k hk => ?_⟩
  rw [fv_sd (fun d hd => wd_nxt h hz hd) (by omega), fv_sd (fun d hd => wd_nxt h hz hd) (by omega)]
  exact wd_twin h z hk
theorem faces_flow (w : Nat → Int) (n : Nat) : Circ n ls (fun k => w (sd (fcs ns ls) (2 * k)) - w (sd (fcs ns ls) (2 * k + 1))) :=
  face_circ (ns := ns) (g := fun d => w (sd (fcs ns ls) d)) n fun d hd => by rw [sd_nxt hd]
end
end Go.Proofs.YtdhmjhoaegdfjaaGreat.Pl

namespace Go.Proofs.YtdhmjhoaegdfjaaGreat
/-! Plain words: how many parts there are. -/
theorem labs_fix_iff {n : Nat} {ls : List P2} (hv : Vd n ls) {i : Nat} (hi : i < n) : gi (labs n ls) i = (i : Int) ↔ ∀ j : Nat, j < i → ¬ Cn ls j i := by
  obtain ⟨a, ha, hai, hc⟩ := (linv hv).lab i hi
  constructor
  · intro e j hj hcj
    have h1 := (linv hv).of_cn hcj
    obtain ⟨b, hb, hbj, -⟩ := (linv hv).lab j (by omega)
    omega
  · intro h
    rcases Nat.lt_or_ge a i with c | c
    · exact absurd hc.symm (h a c)
    · rw [ha]; omega
theorem np_le_of {n : Nat} {ls ms : List P2} (hv : Vd n ls) (hw : Vd n ms) (h : ∀ i j, i < n → j < n → Cn ls i j → Cn ms i j) : nparts n ms n ≤ nparts n ls n := by
  unfold nparts
  refine List.countP_mono_left fun i hi => ?_
  have hi := List.mem_range.1 hi
  simp only [decide_eq_true_eq]
  rw [labs_fix_iff hv hi, labs_fix_iff hw hi]
  exact fun hh j hj hc => hh j hj (h j i (by omega) hi hc)
theorem np_same {n : Nat} {ls ms : List P2} (hv : Vd n ls) (hw : Vd n ms) (h : ∀ i j, i < n → j < n → (Cn ls i j ↔ Cn ms i j)) : nparts n ms n = nparts n ls n :=
  Nat.le_antisymm (np_le_of hv hw fun i j hi hj => (h i j hi hj).1) (np_le_of hw hv fun i j hi hj => (h i j hi hj).2)
theorem np_join' {n : Nat} {ls ms : List P2} (hv : Vd n ls) (hw : Vd n ms) {p q : Nat} (hp : p < n) (hq : q < n)
    (h : ∀ i j, i < n → j < n → (Cn ms i j ↔ Cn ls i j ∨ (Cn ls i p ∧ Cn ls q j) ∨ (Cn ls i q ∧ Cn ls p j)))
    {a b : Nat} (ha : gi (labs n ls) p = (a : Int)) (hb : gi (labs n ls) q = (b : Int)) (hab : a < b) : nparts n ms n + 1 = nparts n ls n := by
  obtain ⟨a', ha', _, hca⟩ := (linv hv).lab p hp
  obtain rfl : a' = a := by omega
  obtain ⟨b', hb', hbq, hcb⟩ := (linv hv).lab q hq
  obtain rfl : b' = b := by omega
  have fb : gi (labs n ls) b' = (b' : Int) := by rw [← (linv hv).of_cn hcb]; exact hb
  have fa : gi (labs n ls) a' = (a' : Int) := by rw [← (linv hv).of_cn hca]; exact ha
  unfold nparts
  refine countP_less (v := b') (by omega) (by simpa using fb) fun i => ?_
  rw [Bool.eq_iff_iff, Bool.and_eq_true]
  simp only [decide_eq_true_eq, Bool.not_eq_true', beq_eq_false_iff_ne]
  by_cases hi : i < n
  · rw [labs_fix_iff hw hi, labs_fix_iff hv hi]
    constructor
    · intro hh
      refine ⟨fun j hj hc => hh j hj ((h j i (by omega) hi).2 (.inl hc)), fun e => ?_⟩
      subst e
      exact hh a' hab ((h a' i (by omega) hi).2 (.inr (.inl ⟨hca.symm, hcb⟩)))
    · rintro ⟨hh, hne⟩ j hj hc
      have hfi := (labs_fix_iff hv hi).2 hh
      rcases (h j i (by omega) hi).1 hc with c | ⟨c1, c2⟩ | ⟨c1, c2⟩
      · exact hh j hj c
      · have := (linv hv).of_cn (c2.symm.trans hcb)
        omega
      · have h1 := (linv hv).of_cn (c2.symm.trans hca)
        have h2 := (linv hv).of_cn (c1.trans hcb)
        obtain ⟨x, hx, hxj, -⟩ := (linv hv).lab j (by omega)
        omega
  · have e1 : ∀ xs : List P2, gi (labs n xs) i = 0 := by
      intro xs
      have : (labs n xs).length = n := by
        unfold labs
        have key : ∀ (t : List P2) (L : List Int), (t.foldl mrg L).length = L.length := by
          intro t
          induction t with
          | nil => intro L; rfl
          | cons x t ih => intro L; rw [List.foldl_cons, ih, mrg_length]
        rw [key, ids_length]
      unfold gi
      rw [List.getD_eq_getElem?_getD, List.getElem?_eq_none (by rw [this]; simpa using Nat.le_of_not_lt hi)]
      rfl
    rw [e1, e1]
    constructor
    · intro e; exact ⟨e, by omega⟩
    · exact fun e => e.1
theorem np_join {n : Nat} {ls ms : List P2} (hv : Vd n ls) (hw : Vd n ms) {p q : Nat} (hp : p < n) (hq : q < n) (hne : ¬ Cn ls p q)
    (h : ∀ i j, i < n → j < n → (Cn ms i j ↔ Cn ls i j ∨ (Cn ls i p ∧ Cn ls q j) ∨ (Cn ls i q ∧ Cn ls p j))) : nparts n ms n + 1 = nparts n ls n := by
  obtain ⟨a, ha, _, hca⟩ := (linv hv).lab p hp
  obtain ⟨b, hb, _, hcb⟩ := (linv hv).lab q hq
  rcases Nat.lt_trichotomy a b with c | c | c
  · exact np_join' hv hw hp hq h ha hb c
  · subst c; exact absurd (hca.trans hcb.symm) hne
  · exact np_join' hv hw hq hp (fun i j hi hj => by rw [h i j hi hj]; exact or_congr_right Or.comm) hb ha c
theorem Cn.add {ls ms : List P2} {p q : Nat} (h : ∀ l ∈ ms, l ∈ ls ∨ l = ((p : Int), (q : Int))) {i j : Nat} (c : Cn ms i j) : Cn ls i j ∨ (Cn ls i p ∧ Cn ls q j) ∨ (Cn ls i q ∧ Cn ls p j) := by
  induction c with
  | refl => exact .inl .refl
  | @fwd a b _ e ih =>
    rcases h _ e with m | m
    · exact ih.imp (·.fwd m) (Or.imp (fun x => ⟨x.1, x.2.fwd m⟩) (fun x => ⟨x.1, x.2.fwd m⟩))
    · injection m with m1 m2
      obtain rfl : a = p := by omega
      obtain rfl : b = q := by omega
      rcases ih with c | ⟨c1, _⟩ | ⟨c1, _⟩
      · exact .inr (.inl ⟨c, .refl⟩)
      · exact .inr (.inl ⟨c1, .refl⟩)
      · exact .inl c1
  | @bwd a b _ e ih =>
    rcases h _ e with m | m
    · exact ih.imp (·.bwd m) (Or.imp (fun x => ⟨x.1, x.2.bwd m⟩) (fun x => ⟨x.1, x.2.bwd m⟩))
    · injection m with m1 m2
      obtain rfl : b = p := by omega
      obtain rfl : a = q := by omega
      rcases ih with c | ⟨c1, _⟩ | ⟨c1, _⟩
      · exact .inr (.inr ⟨c, .refl⟩)
      · exact .inl c1
      · exact .inr (.inr ⟨c1, .refl⟩)
theorem cn_add_iff {ls ms : List P2} {p q : Nat} (h1 : ∀ l ∈ ls, l ∈ ms) (h2 : ((p : Int), (q : Int)) ∈ ms) (h3 : ∀ l ∈ ms, l ∈ ls ∨ l = ((p : Int), (q : Int))) (i j : Nat) :
    Cn ms i j ↔ Cn ls i j ∨ (Cn ls i p ∧ Cn ls q j) ∨ (Cn ls i q ∧ Cn ls p j) := by
  refine ⟨Cn.add h3, ?_⟩
  rintro (c | ⟨c1, c2⟩ | ⟨c1, c2⟩)
  · exact c.mono h1
  · exact ((c1.mono h1).fwd h2).trans (c2.mono h1)
  · exact ((c1.mono h1).bwd h2).trans (c2.mono h1)
/-- one pair more: the parts are as many, or one less -/
theorem np_add {n : Nat} {ls ms : List P2} (hv : Vd n ls) (hw : Vd n ms) {p q : Nat} (h1 : ∀ l ∈ ls, l ∈ ms) (h2 : ((p : Int), (q : Int)) ∈ ms) (h3 : ∀ l ∈ ms, l ∈ ls ∨ l = ((p : Int), (q : Int))) :
    (Cn ls p q → nparts n ms n = nparts n ls n) ∧ (¬ Cn ls p q → nparts n ms n + 1 = nparts n ls n) := by
  have hpq : p < n ∧ q < n := by obtain ⟨i, j, e, hi, hj⟩ := hw _ h2; injection e with e1 e2; omega
  refine ⟨fun c => np_same hv hw fun i j _ _ => ?_, fun c => np_join hv hw hpq.1 hpq.2 c fun i j _ _ => cn_add_iff h1 h2 h3 i j⟩
  rw [cn_add_iff h1 h2 h3]
  refine ⟨.inl, ?_⟩
  rintro (c' | ⟨c1, c2⟩ | ⟨c1, c2⟩)
  · exact c'
  · exact (c1.trans c).trans c2
  · exact (c1.trans c.symm).trans c2
theorem np_none (n : Nat) : nparts n [] n = n := by
  have hv : Vd n [] := fun l hl => by cases hl
  unfold nparts
  rw [List.countP_eq_length.2, List.length_range]
  intro i hi
  have hi := List.mem_range.1 hi
  simp only [decide_eq_true_eq]
  rw [labs_fix_iff hv hi]
  intro j hj hc
  cases hc with
  | refl => omega
  | fwd _ e => cases e
  | bwd _ e => cases e
theorem np_one {n : Nat} {ls : List P2} (hv : Vd n ls) (hn : 0 < n) : nparts n ls n = 1 ↔ ∀ i, i < n → Cn ls 0 i := by
  have h0 : gi (labs n ls) (0 : Nat) = ((0 : Nat) : Int) := (labs_fix_iff hv hn).2 (fun j hj => by omega)
  have hless := countP_less (p := fun i : Nat => decide (gi (labs n ls) (i : Nat) = (i : Int))) (q := fun i : Nat => decide (gi (labs n ls) (i : Nat) = (i : Int)) && !(i == 0)) hn (by simpa using h0) (fun _ => rfl)
  have hz : nparts n ls n = 1 ↔ (List.range n).countP (fun i : Nat => decide (gi (labs n ls) (i : Nat) = (i : Int)) && !(i == 0)) = 0 := by
    unfold nparts; omega
  rw [hz, List.countP_eq_zero]
  constructor
  · intro h i hi
    obtain ⟨a, ha, hai, hc⟩ := (linv hv).lab i hi
    have fa : gi (labs n ls) a = (a : Int) := by rw [← (linv hv).of_cn hc]; exact ha
    have := h a (List.mem_range.2 (by omega))
    simp only [fa, decide_true, Bool.true_and, Bool.not_eq_true', beq_eq_false_iff_ne, ne_eq, Decidable.not_not] at this
    subst this
    exact hc.symm
  · intro h i hi
    have hi := List.mem_range.1 hi
    simp only [Bool.and_eq_true, decide_eq_true_eq, Bool.not_eq_true', beq_eq_false_iff_ne, not_and]
    intro e hne
    exact (labs_fix_iff hv hi).1 e 0 (by omega) (h i hi)
theorem np_pos {n : Nat} {ls : List P2} (hv : Vd n ls) (hn : 0 < n) : 0 < nparts n ls n := by
  unfold nparts
  rw [List.countP_pos_iff]
  exact ⟨0, List.mem_range.2 hn, by simpa using (labs_fix_iff hv hn).2 (fun j hj => by omega)⟩
end Go.Proofs.YtdhmjhoaegdfjaaGreat

namespace Go.Proofs.YtdhmjhoaegdfjaaGreat.Pl
open Go.Proofs.YtdhmjhoaegdfjaaGreat
/-! Drawings and their duals. -/
/-- nodes n, faces F, leads m; the ends u, v of a lead, and its sides L, R -/
structure Plan where
  n : Nat
  F : Nat
  m : Nat
  u : Nat → Nat
  v : Nat → Nat
  L : Nat → Nat
  R : Nat → Nat
def Plan.circ (P : Plan) (z : Nat → Int) : Prop := ∀ r, r < P.n → sm P.m (fun k => (if P.u k = r then z k else 0) - (if P.v k = r then z k else 0)) = 0
structure Plan.Ok (P : Plan) : Prop where
  un : ∀ k, k < P.m → P.u k < P.n
  vn : ∀ k, k < P.m → P.v k < P.n
  lf : ∀ k, k < P.m → P.L k < P.F
  rf : ∀ k, k < P.m → P.R k < P.F
  flow : ∀ z, P.circ z → ∃ w : Nat → Int, ∀ k, k < P.m → w (P.L k) - w (P.R k) = z k
  bdry : ∀ w : Nat → Int, P.circ (fun k => w (P.L k) - w (P.R k))
def prs (m : Nat) (B : Nat → Bool) (u v : Nat → Nat) : List P2 := ((List.range m).filter B).map (fun k => ((u k : Int), (v k : Int)))
theorem mem_prs {m : Nat} {B : Nat → Bool} {u v : Nat → Nat} {l : P2} : l ∈ prs m B u v ↔ ∃ k, k < m ∧ B k = true ∧ l = ((u k : Int), (v k : Int)) := by
  unfold prs
  rw [List.mem_map]
  constructor
  · rintro ⟨k, hk, e⟩
    rw [List.mem_filter, List.mem_range] at hk
    exact ⟨k, hk.1, hk.2, e.symm⟩
  · rintro ⟨k, hk, hb, e⟩
    exact ⟨k, List.mem_filter.2 ⟨List.mem_range.2 hk, hb⟩, e.symm⟩
theorem prs_in {m : Nat} {B : Nat → Bool} {u v : Nat → Nat} {k : Nat} (hk : k < m) (hb : B k = true) : ((u k : Int), (v k : Int)) ∈ prs m B u v := mem_prs.2 ⟨k, hk, hb, rfl⟩
theorem vd_prs {n m : Nat} {B : Nat → Bool} {u v : Nat → Nat} (hu : ∀ k, k < m → u k < n) (hv : ∀ k, k < m → v k < n) : Vd n (prs m B u v) := by
  intro l hl
  obtain ⟨k, hk, _, e⟩ := mem_prs.1 hl
  exact ⟨u k, v k, e, hu k hk, hv k hk⟩
theorem prs_sub {m : Nat} {B C : Nat → Bool} {u v : Nat → Nat} (h : ∀ k, k < m → B k = true → C k = true) : ∀ l ∈ prs m B u v, l ∈ prs m C u v := by
  intro l hl
  obtain ⟨k, hk, hb, e⟩ := mem_prs.1 hl
  exact mem_prs.2 ⟨k, hk, h k hk hb, e⟩
theorem prs_congr {m : Nat} {B C : Nat → Bool} {u v : Nat → Nat} (h : ∀ k, k < m → B k = C k) : prs m B u v = prs m C u v := by
  unfold prs
  rw [List.filter_congr fun k hk => h k (List.mem_range.1 hk)]
/-- what is the same at both ends of each pair is the same on a part -/
theorem cn_const {α : Type} {ls : List P2} {g : Nat → α} (h : ∀ i j : Nat, ((i : Int), (j : Int)) ∈ ls → g i = g j) {a b : Nat} (c : Cn ls a b) : g a = g b := by
  induction c with
  | refl => rfl
  | fwd _ e ih => exact ih.trans (h _ _ e)
  | bwd _ e ih => exact ih.trans (h _ _ e).symm
theorem prs_const {α : Type} {m : Nat} {B : Nat → Bool} {u v : Nat → Nat} {g : Nat → α} (h : ∀ k, k < m → B k = true → g (u k) = g (v k)) {a b : Nat} (c : Cn (prs m B u v) a b) : g a = g b := by
  refine cn_const (fun i j e => ?_) c
  obtain ⟨k, hk, hb, e⟩ := mem_prs.1 e
  injection e with e1 e2
  obtain rfl : i = u k := by omega
  obtain rfl : j = v k := by omega
  exact h k hk hb
/-- a flow along a path -/
theorem path_flow {m : Nat} {S : Nat → Bool} {u v : Nat → Nat} {p q : Nat} (c : Cn (prs m S u v) p q) :
    ∃ z : Nat → Int, (∀ k, S k = false → z k = 0) ∧ ∀ r, sm m (fun k => (if u k = r then z k else 0) - (if v k = r then z k else 0)) = (if r = p then 1 else 0) - (if r = q then 1 else 0) := by
  have add : ∀ (z : Nat → Int) (k : Nat) (s : Int), k < m → ∀ r, sm m (fun l => (if u l = r then z l + (if l = k then s else 0) else 0) - (if v l = r then z l + (if l = k then s else 0) else 0)) =
      sm m (fun l => (if u l = r then z l else 0) - (if v l = r then z l else 0)) + ((if u k = r then s else 0) - (if v k = r then s else 0)) := by
    intro z k s hk r
    have e1 : sm m (fun l => (if u l = r then (if l = k then s else 0) else 0) - (if v l = r then (if l = k then s else 0) else 0)) = (if u k = r then s else 0) - (if v k = r then s else 0) := by
      rw [sm_one hk]
      · rw [if_pos rfl]
      · intro i _ hne
        rw [if_neg hne]; simp
    rw [← e1, ← sm_add]
    refine sm_congr fun l _ => ?_
    by_cases c1 : u l = r <;> by_cases c2 : v l = r <;> simp [c1, c2]; omega
  induction c with
  | refl => exact ⟨fun _ => 0, fun _ _ => rfl, fun r => by rw [sm_zero fun k _ => by simp]; omega⟩
  | @fwd i j _ e ih =>
    obtain ⟨z, hz, hr⟩ := ih
    obtain ⟨k, hk, hb, e⟩ := mem_prs.1 e
    injection e with e1 e2
    obtain rfl : i = u k := by omega
    obtain rfl : j = v k := by omega
    refine ⟨fun l => z l + (if l = k then 1 else 0), fun l hl => ?_, fun r => ?_⟩
    · show z l + _ = 0
      rw [hz l hl, if_neg (fun e => by rw [e, hb] at hl; cases hl)]; rfl
    · rw [add z k 1 hk r, hr r]
      simp only [eq_comm (a := r)]
      omega
  | @bwd i j _ e ih =>
    obtain ⟨z, hz, hr⟩ := ih
    obtain ⟨k, hk, hb, e⟩ := mem_prs.1 e
    injection e with e1 e2
    obtain rfl : i = v k := by omega
    obtain rfl : j = u k := by omega
    refine ⟨fun l => z l + (if l = k then -1 else 0), fun l hl => ?_, fun r => ?_⟩
    · show z l + _ = 0
      rw [hz l hl, if_neg (fun e => by rw [e, hb] at hl; cases hl)]; rfl
    · rw [add z k (-1) hk r, hr r]
      simp only [eq_comm (a := r)]
      by_cases c1 : u k = r <;> by_cases c2 : v k = r <;> by_cases c3 : p = r <;> simp [c1, c2, c3]
/-- a flow crosses no boundary in sum -/
theorem circ_pair {P : Plan} (hP : P.Ok) {z : Nat → Int} (hz : P.circ z) (p : Nat → Int) : sm P.m (fun k => z k * (p (P.u k) - p (P.v k))) = 0 := by
  have h1 : sm P.n (fun r => p r * sm P.m (fun k => (if P.u k = r then z k else 0) - (if P.v k = r then z k else 0))) = 0 := sm_zero fun r hr => by rw [hz r hr, Int.mul_zero]
  rw [← h1]
  have h2 : sm P.n (fun r => p r * sm P.m (fun k => (if P.u k = r then z k else 0) - (if P.v k = r then z k else 0))) = sm P.n (fun r => sm P.m (fun k => p r * ((if P.u k = r then z k else 0) - (if P.v k = r then z k else 0)))) :=
    sm_congr fun r _ => (sm_mul P.m (p r) _).symm
  rw [h2, sm_swap]
  refine sm_congr fun k hk => ?_
  have e1 : sm P.n (fun r => if P.u k = r then z k * p r else 0) = z k * p (P.u k) := by
    rw [sm_one (hP.un k hk) (fun i _ hne => if_neg (fun e => hne e.symm)), if_pos rfl]
  have e2 : sm P.n (fun r => if P.v k = r then z k * p r else 0) = z k * p (P.v k) := by
    rw [sm_one (hP.vn k hk) (fun i _ hne => if_neg (fun e => hne e.symm)), if_pos rfl]
  rw [Int.mul_sub, ← e1, ← e2, ← sm_sub]
  refine sm_congr fun r _ => ?_
  rw [Int.mul_comm (z k) (p r)]
  by_cases c1 : P.u k = r <;> by_cases c2 : P.v k = r <;> simp [c1, c2, Int.mul_neg]
theorem bool_of (p : Nat → Prop) : ∃ g : Nat → Bool, ∀ i, g i = true ↔ p i := ⟨fun i => @decide (p i) (Classical.propDecidable _), fun i => @decide_eq_true_iff (p i) (Classical.propDecidable _)⟩
theorem not_both {P : Plan} (hP : P.Ok) {x : Nat} (hx : x < P.m) {S B : Nat → Bool} (hSx : S x = false) (hd : ∀ k, k < P.m → B k = true → S k = false ∧ k ≠ x)
    (c1 : Cn (prs P.m S P.u P.v) (P.u x) (P.v x)) (c2 : Cn (prs P.m B P.L P.R) (P.L x) (P.R x)) : False := by
  obtain ⟨z, hz, hr⟩ := path_flow c1.symm
  have hc : P.circ (fun k => z k + if k = x then 1 else 0) := by
    intro r _
    have e1 : sm P.m (fun l => (if P.u l = r then (if l = x then (1 : Int) else 0) else 0) - (if P.v l = r then (if l = x then 1 else 0) else 0)) = (if P.u x = r then 1 else 0) - (if P.v x = r then 1 else 0) := by
      rw [sm_one hx]
      · rw [if_pos rfl]
      · intro i _ hne
        rw [if_neg hne]; simp
    have e2 : sm P.m (fun k => (if P.u k = r then z k + (if k = x then 1 else 0) else 0) - (if P.v k = r then z k + (if k = x then 1 else 0) else 0)) = sm P.m (fun k => (if P.u k = r then z k else 0) - (if P.v k = r then z k else 0)) + sm P.m (fun l => (if P.u l = r then (if l = x then (1 : Int) else 0) else 0) - (if P.v l = r then (if l = x then 1 else 0) else 0)) := by
      rw [← sm_add]
      refine sm_congr fun l _ => ?_
      by_cases c1 : P.u l = r <;> by_cases c2 : P.v l = r <;> simp [c1, c2]; omega
    rw [e2, hr r, e1]
    simp only [eq_comm (a := r)]
    omega
  obtain ⟨w, hw⟩ := hP.flow _ hc
  have h1 := hw x hx
  rw [if_pos rfl, hz x hSx] at h1
  have h2 := prs_const (g := w) (fun k hk hb => by
    have := hw k hk
    rw [hz k (hd k hk hb).1, if_neg (hd k hk hb).2] at this
    omega) c2
  omega
theorem not_none {P : Plan} (hP : P.Ok) {x : Nat} (hx : x < P.m) {S B : Nat → Bool} (hd : ∀ k, k < P.m → S k = true ∨ B k = true ∨ k = x)
    (c1 : ¬ Cn (prs P.m S P.u P.v) (P.u x) (P.v x)) (c2 : ¬ Cn (prs P.m B P.L P.R) (P.L x) (P.R x)) : False := by
  obtain ⟨g, hg⟩ := bool_of (fun f => Cn (prs P.m B P.L P.R) (P.L x) f)
  obtain ⟨p, hp⟩ := bool_of (fun r => Cn (prs P.m S P.u P.v) (P.u x) r)
  have hz := circ_pair hP (hP.bdry (fun f => if g f = true then 1 else 0)) (fun r => if p r = true then 1 else 0)
  rw [sm_one hx] at hz
  · rw [if_pos ((hg _).2 .refl), if_neg (fun e => c2 ((hg _).1 e)), if_pos ((hp _).2 .refl), if_neg (fun e => c1 ((hp _).1 e))] at hz
    omega
  · intro k hk hne
    rcases hd k hk with e | e | e
    · have : p (P.u k) = p (P.v k) := by
        rw [Bool.eq_iff_iff, hp, hp]
        exact ⟨fun c => c.fwd (prs_in hk e), fun c => c.bwd (prs_in hk e)⟩
      rw [this, Int.sub_self, Int.mul_zero]
    · have : g (P.L k) = g (P.R k) := by
        rw [Bool.eq_iff_iff, hg, hg]
        exact ⟨fun c => c.fwd (prs_in hk e), fun c => c.bwd (prs_in hk e)⟩
      rw [this, Int.sub_self, Int.zero_mul]
    · exact absurd e hne
/-- how many parts by the leads S -/
def Plan.c (P : Plan) (S : Nat → Bool) : Nat := nparts P.n (prs P.m S P.u P.v) P.n
/-- how many parts the faces have by the leads B -/
def Plan.d (P : Plan) (B : Nat → Bool) : Nat := nparts P.F (prs P.m B P.L P.R) P.F
theorem dual_upto {P : Plan} (hP : P.Ok) (B : Nat → Bool) : ∀ j, j ≤ P.m → P.F + P.c (fun k => !(B k && decide (k < j))) = cnp B j + P.c (fun _ => true) + P.d (fun k => B k && decide (k < j))
  | 0, _ => by
    have e1 : P.c (fun k => !(B k && decide (k < 0))) = P.c (fun _ => true) := by
      unfold Plan.c; rw [prs_congr (C := fun _ => true) fun k _ => by simp]
    have e2 : P.d (fun k => B k && decide (k < 0)) = P.F := by
      unfold Plan.d
      have : prs P.m (fun k => B k && decide (k < 0)) P.L P.R = [] := by
        unfold prs; simp
      rw [this, np_none]
    rw [e1, e2]
    show _ = 0 + _ + _
    omega
  | j + 1, hj => by
    have ih := dual_upto hP B j (by omega)
    cases hb : B j with
    | false =>
      have e : ∀ k, (B k && decide (k < j + 1)) = (B k && decide (k < j)) := by
        intro k
        by_cases c : k = j
        · subst c; rw [hb]; rfl
        · have : (k < j + 1) ↔ k < j := by omega
          simp [this]
      have e' : (fun k => B k && decide (k < j + 1)) = (fun k => B k && decide (k < j)) := funext e
      have e'' : (fun k => !(B k && decide (k < j + 1))) = (fun k => !(B k && decide (k < j))) := funext fun k => by rw [e k]
      rw [e', e'', cnp_no hb]
      exact ih
    | true =>
      have hjm : j < P.m := by omega
      rw [cnp_yes hb]
      have vd1 : ∀ B, Vd P.n (prs P.m B P.u P.v) := fun B => vd_prs hP.un hP.vn
      have vd2 : ∀ B, Vd P.F (prs P.m B P.L P.R) := fun B => vd_prs hP.lf hP.rf
      have hd := np_add (vd2 (fun k => B k && decide (k < j))) (vd2 (fun k => B k && decide (k < j + 1))) (p := P.L j) (q := P.R j)
        (prs_sub fun k _ h => by simp only [Bool.and_eq_true, decide_eq_true_eq] at h ⊢; exact ⟨h.1, by omega⟩)
        (prs_in hjm (by simp [hb]))
        (fun l hl => by
          obtain ⟨k, hk, h, rfl⟩ := mem_prs.1 hl
          simp only [Bool.and_eq_true, decide_eq_true_eq] at h
          by_cases c : k = j
          · subst c; exact .inr rfl
          · exact .inl (prs_in hk (by simp only [Bool.and_eq_true, decide_eq_true_eq]; exact ⟨h.1, by omega⟩)))
      have hc := np_add (vd1 (fun k => !(B k && decide (k < j + 1)))) (vd1 (fun k => !(B k && decide (k < j)))) (p := P.u j) (q := P.v j)
        (prs_sub fun k _ h => by
          simp only [Bool.not_eq_true', Bool.and_eq_false_iff, decide_eq_false_iff_not] at h ⊢
          rcases h with h | h
          · exact .inl h
          · exact .inr (by omega))
        (prs_in hjm (by simp))
        (fun l hl => by
          obtain ⟨k, hk, h, rfl⟩ := mem_prs.1 hl
          by_cases c : k = j
          · subst c; exact .inr rfl
          · refine .inl (prs_in hk ?_)
            simp only [Bool.not_eq_true', Bool.and_eq_false_iff, decide_eq_false_iff_not] at h ⊢
            rcases h with h | h
            · exact .inl h
            · exact .inr (by omega))
      have nb := not_both hP hjm (S := fun k => !(B k && decide (k < j + 1))) (B := fun k => B k && decide (k < j)) (by simp [hb]) (fun k _ h => by
        simp only [Bool.and_eq_true, decide_eq_true_eq] at h
        exact ⟨by simp [h.1]; omega, by omega⟩)
      have nn := not_none hP hjm (S := fun k => !(B k && decide (k < j + 1))) (B := fun k => B k && decide (k < j)) (fun k _ => by
        by_cases c : k = j
        · exact .inr (.inr c)
        · have : (k < j + 1) ↔ k < j := by omega
          cases hbk : B k <;> simp [this]
          omega)
      unfold Plan.c Plan.d at *
      by_cases c1 : Cn (prs P.m (fun k => !(B k && decide (k < j + 1))) P.u P.v) (P.u j) (P.v j)
      · by_cases c2 : Cn (prs P.m (fun k => B k && decide (k < j)) P.L P.R) (P.L j) (P.R j)
        · exact (nb c1 c2).elim
        · have := hd.2 c2
          have := hc.1 c1
          omega
      · by_cases c2 : Cn (prs P.m (fun k => B k && decide (k < j)) P.L P.R) (P.L j) (P.R j)
        · have := hd.1 c2
          have := hc.2 c1
          omega
        · exact (nn c1 c2).elim
/-- DUALITY: what the leads B join of the faces, they part of the nodes -/
theorem dual {P : Plan} (hP : P.Ok) (B : Nat → Bool) : P.F + P.c (fun k => !B k) = cnp B P.m + P.c (fun _ => true) + P.d B := by
  have := dual_upto hP B P.m (Nat.le_refl _)
  have e1 : P.c (fun k => !(B k && decide (k < P.m))) = P.c (fun k => !B k) := by unfold Plan.c; rw [prs_congr (C := fun k => !B k) fun k hk => by simp [hk]]
  have e2 : P.d (fun k => B k && decide (k < P.m)) = P.d B := by unfold Plan.d; rw [prs_congr (C := B) fun k hk => by simp [hk]]
  rw [e1, e2] at this
  exact this
end Go.Proofs.YtdhmjhoaegdfjaaGreat.Pl

namespace Go.Proofs.YtdhmjhoaegdfjaaGreat.Pl
open Go.Proofs.YtdhmjhoaegdfjaaGreat
/-! Few adjacencies: a map that is drawn has at most 3 k - 6 of them, where k is the number of its lands. -/
def lab (n : Nat) (ls : List P2) (i : Nat) : Nat := (gi (labs n ls) (i : Nat)).toNat
theorem lab_gi {n : Nat} {ls : List P2} (hv : Vd n ls) {i : Nat} (hi : i < n) : gi (labs n ls) (i : Nat) = (lab n ls i : Int) := by
  obtain ⟨a, ha, _, _⟩ := (linv hv).lab i hi
  unfold lab; rw [ha]; rfl
theorem lab_iff {n : Nat} {ls : List P2} (hv : Vd n ls) {i j : Nat} (hi : i < n) (hj : j < n) : lab n ls i = lab n ls j ↔ Cn ls i j := by
  rw [← labs_iff hv hi hj, lab_gi hv hi, lab_gi hv hj]; omega
theorem lab_cn {n : Nat} {ls : List P2} (hv : Vd n ls) {i : Nat} (hi : i < n) : lab n ls i ≤ i ∧ Cn ls i (lab n ls i) := by
  obtain ⟨a, ha, h1, h2⟩ := (linv hv).lab i hi
  have : lab n ls i = a := by unfold lab; rw [ha]; rfl
  rw [this]; exact ⟨h1, h2⟩
theorem lab_lt {n : Nat} {ls : List P2} (hv : Vd n ls) {i : Nat} (hi : i < n) : lab n ls i < n := by have := (lab_cn hv hi).1; omega
theorem lab_lab {n : Nat} {ls : List P2} (hv : Vd n ls) {i : Nat} (hi : i < n) : lab n ls (lab n ls i) = lab n ls i :=
  (lab_iff hv (lab_lt hv hi) hi).2 (lab_cn hv hi).2.symm
theorem cnp_countP (p : Nat → Bool) (n : Nat) : (List.range n).countP p = cnp p n := by
  induction n with
  | zero => rfl
  | succ n ih => rw [List.range_succ, List.countP_append, ih, List.countP_singleton]; rfl
theorem np_lab {n : Nat} {ls : List P2} (hv : Vd n ls) : nparts n ls n = cnp (fun i => decide (lab n ls i = i)) n := by
  rw [← cnp_countP]
  unfold nparts
  refine List.countP_congr fun i hi => ?_
  have hi := List.mem_range.1 hi
  rw [decide_eq_true_eq, decide_eq_true_eq, lab_gi hv hi]
  omega
theorem cnp_sm (p : Nat → Bool) (n : Nat) : (cnp p n : Int) = sm n (fun i => if p i = true then 1 else 0) := by
  induction n with
  | zero => rfl
  | succ n ih =>
    rw [sm_succ, ← ih]
    show ((cnp p n + (if p n = true then 1 else 0) : Nat) : Int) = _
    split <;> simp
theorem cnp_congr {p q : Nat → Bool} {n : Nat} (h : ∀ i, i < n → p i = q i) : cnp p n = cnp q n := by
  induction n with
  | zero => rfl
  | succ n ih =>
    show cnp p n + _ = cnp q n + _
    rw [ih fun i hi => h i (by omega), h n (by omega)]
theorem cnp_or {p q : Nat → Bool} {n : Nat} (h : ∀ i, i < n → p i = true → q i = false) : cnp (fun i => p i || q i) n = cnp p n + cnp q n := by
  induction n with
  | zero => rfl
  | succ n ih =>
    show cnp (fun i => p i || q i) n + _ = (cnp p n + _) + (cnp q n + _)
    rw [ih fun i hi => h i (by omega)]
    have := h n (by omega)
    cases hp : p n <;> cases hq : q n <;> simp [hp, hq] at * <;> omega
/-- how often r is an end of a chosen lead -/
def degr (m : Nat) (S : Nat → Bool) (a b : Nat → Nat) (r : Nat) : Int := sm m (fun k => if S k = true then (if a k = r then 1 else 0) + (if b k = r then 1 else 0) else 0)
theorem degr_sum {n m : Nat} {S : Nat → Bool} {a b : Nat → Nat} (ha : ∀ k, k < m → a k < n) (hb : ∀ k, k < m → b k < n) : sm n (degr m S a b) = 2 * (cnp S m : Int) := by
  unfold degr
  rw [sm_swap, cnp_sm, ← sm_mul]
  refine sm_congr fun k hk => ?_
  by_cases c : S k = true
  · have e : sm n (fun i => (if a k = i then (1 : Int) else 0) + (if b k = i then 1 else 0)) = 1 + 1 := by
      rw [sm_add, sm_one (ha k hk) (fun i _ hne => if_neg fun e => hne e.symm), sm_one (hb k hk) (fun i _ hne => if_neg fun e => hne e.symm), if_pos rfl, if_pos rfl]
    rw [if_pos c, ← sm_congr (f := fun i => (if a k = i then (1 : Int) else 0) + (if b k = i then 1 else 0)) (fun i _ => (if_pos c).symm), e]; rfl
  · rw [if_neg c, sm_zero fun i _ => if_neg c]; rfl
theorem degr_nonneg (m : Nat) (S : Nat → Bool) (a b : Nat → Nat) (r : Nat) : 0 ≤ degr m S a b r := sm_nonneg fun k _ => by
  by_cases c : S k = true <;> by_cases c1 : a k = r <;> by_cases c2 : b k = r <;> simp [c, c1, c2]
theorem degr_bound {n m : Nat} {S : Nat → Bool} {a b : Nat → Nat} (ha : ∀ k, k < m → a k < n) (hb : ∀ k, k < m → b k < n) {p : Nat → Bool} {D : Nat} (h : ∀ r, r < n → p r = true → (D : Int) ≤ degr m S a b r) :
    D * cnp p n ≤ 2 * cnp S m := by
  have h1 := degr_sum (S := S) ha hb
  have h2 : sm n (fun r => (D : Int) * (if p r = true then 1 else 0)) ≤ sm n (degr m S a b) := sm_le fun r hr => by
    by_cases c : p r = true
    · rw [if_pos c, Int.mul_one]; exact h r hr c
    · rw [if_neg c, Int.mul_zero]; exact degr_nonneg m S a b r
  rw [sm_mul, ← cnp_sm, h1] at h2
  have h3 : ((D * cnp p n : Nat) : Int) = (D : Int) * (cnp p n : Int) := Int.natCast_mul _ _
  omega
theorem sm_pick {m : Nat} {f : Nat → Int} (h : sm m f = 0) {a : Nat} (ha : a < m) (hne : f a ≠ 0) : ∃ b, b < m ∧ b ≠ a ∧ f b ≠ 0 := by
  apply Classical.byContradiction
  intro hc
  rw [sm_one ha fun i hi hia => Classical.byContradiction fun hf => hc ⟨i, hi, hia, hf⟩] at h
  exact hne h
theorem sm_ge1 {m : Nat} {f : Nat → Int} (h : ∀ i, i < m → 0 ≤ f i) {a : Nat} (ha : a < m) : f a ≤ sm m f := by
  induction m with
  | zero => omega
  | succ m ih =>
    rw [sm_succ]
    have h0 := sm_nonneg (n := m) (f := f) fun i hi => h i (by omega)
    rcases Nat.lt_succ_iff_lt_or_eq.1 ha with c | c
    · have := ih (fun i hi => h i (by omega)) c
      have := h m (by omega)
      omega
    · subst c; omega
theorem sm_ge2 {m : Nat} {f : Nat → Int} (h : ∀ i, i < m → 0 ≤ f i) {a b : Nat} (ha : a < m) (hb : b < m) (hab : a ≠ b) : f a + f b ≤ sm m f := by
  have := sm_ge1 (f := fun i => if i = a then 0 else f i) (m := m) (fun i hi => by
    by_cases c : i = a
    · simp [c]
    · simp only [if_neg c]; exact h i hi) hb
  have e : sm m (fun i => (if i = a then 0 else f i) + (if i = a then f a else 0)) = sm m f := sm_congr fun i _ => by
    by_cases c : i = a
    · simp [c]
    · simp [c]
  rw [sm_add, sm_one (f := fun i => if i = a then f a else 0) ha (fun i _ hne => if_neg hne), if_pos rfl] at e
  rw [if_neg (fun e => hab e.symm)] at this
  omega
theorem sm_ge3 {m : Nat} {f : Nat → Int} (h : ∀ i, i < m → 0 ≤ f i) {a b c : Nat} (ha : a < m) (hb : b < m) (hc : c < m) (hab : a ≠ b) (hac : a ≠ c) (hbc : b ≠ c) : f a + f b + f c ≤ sm m f := by
  have := sm_ge2 (f := fun i => if i = a then 0 else f i) (m := m) (fun i hi => by
    by_cases c : i = a
    · simp [c]
    · simp only [if_neg c]; exact h i hi) hb hc hbc
  have e : sm m (fun i => (if i = a then 0 else f i) + (if i = a then f a else 0)) = sm m f := sm_congr fun i _ => by
    by_cases c : i = a
    · simp [c]
    · simp [c]
  rw [sm_add, sm_one (f := fun i => if i = a then f a else 0) ha (fun i _ hne => if_neg hne), if_pos rfl] at e
  rw [if_neg (fun e => hab e.symm), if_neg (fun e => hac e.symm)] at this
  omega

/-! ### lands: faces, put together by the leads T -/
section
variable {P : Plan}
/-- f and g are in one land -/
def Plan.sam (P : Plan) (T : Nat → Bool) (f g : Nat) : Prop := Cn (prs P.m T P.L P.R) f g
/-- leads j and k part the same two lands -/
def Plan.sp2 (P : Plan) (T : Nat → Bool) (j k : Nat) : Prop := (P.sam T (P.L j) (P.L k) ∧ P.sam T (P.R j) (P.R k)) ∨ (P.sam T (P.L j) (P.R k) ∧ P.sam T (P.R j) (P.L k))
theorem sp2_symm {T : Nat → Bool} {j k : Nat} (h : P.sp2 T j k) : P.sp2 T k j := by
  rcases h with ⟨a, b⟩ | ⟨a, b⟩
  · exact .inl ⟨a.symm, b.symm⟩
  · exact .inr ⟨b.symm, a.symm⟩
theorem sp2_trans {T : Nat → Bool} {i j k : Nat} (h : P.sp2 T i j) (h' : P.sp2 T j k) : P.sp2 T i k := by
  rcases h with ⟨a, b⟩ | ⟨a, b⟩ <;> rcases h' with ⟨c, d⟩ | ⟨c, d⟩
  · exact .inl ⟨a.trans c, b.trans d⟩
  · exact .inr ⟨a.trans c, b.trans d⟩
  · exact .inr ⟨a.trans d, b.trans c⟩
  · exact .inl ⟨a.trans d, b.trans c⟩
/-- one lead for each two lands that are beside each other -/
structure Reps (P : Plan) (T S : Nat → Bool) : Prop where
  ne : ∀ k, k < P.m → S k = true → ¬ P.sam T (P.L k) (P.R k)
  un : ∀ j k, j < P.m → k < P.m → S j = true → S k = true → P.sp2 T j k → j = k
  ex : ∀ k, k < P.m → ¬ P.sam T (P.L k) (P.R k) → ∃ j, j < P.m ∧ S j = true ∧ P.sp2 T j k
theorem reps_exist (P : Plan) (T : Nat → Bool) : ∃ S, Reps P T S := by
  obtain ⟨S, hS⟩ := bool_of (fun k => ¬ P.sam T (P.L k) (P.R k) ∧ ∀ j, j < k → ¬ P.sp2 T j k)
  refine ⟨S, fun k _ h => ((hS k).1 h).1, fun j k _ _ hj hk h => ?_, fun k hk h => ?_⟩
  · rcases Nat.lt_trichotomy j k with c | c | c
    · exact absurd h (((hS k).1 hk).2 j c)
    · exact c
    · exact absurd (sp2_symm h) (((hS j).1 hj).2 k c)
  · have key : ∀ N k, k ≤ N → ¬ P.sam T (P.L k) (P.R k) → ∃ j, j ≤ k ∧ S j = true ∧ P.sp2 T j k := by
      intro N
      induction N with
      | zero =>
        intro k hk h
        obtain rfl : k = 0 := by omega
        exact ⟨0, Nat.le_refl _, (hS 0).2 ⟨h, fun j hj => by omega⟩, .inl ⟨.refl, .refl⟩⟩
      | succ N ih =>
        intro k hk h
        by_cases c : ∃ j, j < k ∧ P.sp2 T j k
        · obtain ⟨j, hj, hjk⟩ := c
          have hj' : ¬ P.sam T (P.L j) (P.R j) := by
            intro e
            rcases hjk with ⟨a, b⟩ | ⟨a, b⟩
            · exact h (a.symm.trans (e.trans b))
            · exact h (b.symm.trans (e.symm.trans a))
          obtain ⟨i, hi, hSi, hij⟩ := ih j (by omega) hj'
          exact ⟨i, by omega, hSi, sp2_trans hij hjk⟩
        · exact ⟨k, Nat.le_refl _, (hS k).2 ⟨h, fun j hj e => c ⟨j, hj, e⟩⟩, .inl ⟨.refl, .refl⟩⟩
    obtain ⟨j, hj, h1, h2⟩ := key k k (Nat.le_refl _) h
    exact ⟨j, by omega, h1, h2⟩
structure Conn (P : Plan) : Prop extends P.Ok where
  c1 : P.c (fun _ => true) = 1
  d1 : P.d (fun _ => true) = 1
  fp : 0 < P.F
  np : 0 < P.n
theorem vdF (h : P.Ok) (T : Nat → Bool) : Vd P.F (prs P.m T P.L P.R) := vd_prs h.lf h.rf
theorem vdN (h : P.Ok) (T : Nat → Bool) : Vd P.n (prs P.m T P.u P.v) := vd_prs h.un h.vn
/-- the leads T form no circle of faces -/
def Forest (P : Plan) (T : Nat → Bool) : Prop := cnp T P.m + P.d T = P.F
theorem cn_all (h : Conn P) {f g : Nat} (hf : f < P.F) (hg : g < P.F) : Cn (prs P.m (fun _ => true) P.L P.R) f g := by
  have := (np_one (vdF h.toOk (fun _ => true)) h.fp).1 h.d1
  exact (this f hf).symm.trans (this g hg)
theorem cn_TS (h : Conn P) {T S : Nat → Bool} (hS : Reps P T S) {f g : Nat} (hf : f < P.F) (hg : g < P.F) : Cn (prs P.m (fun k => T k || S k) P.L P.R) f g := by
  have hT : ∀ {a b}, P.sam T a b → Cn (prs P.m (fun k => T k || S k) P.L P.R) a b := fun c => c.mono (prs_sub fun k _ e => by simp [e])
  have step : ∀ k, k < P.m → Cn (prs P.m (fun k => T k || S k) P.L P.R) (P.L k) (P.R k) := by
    intro k hk
    by_cases c : P.sam T (P.L k) (P.R k)
    · exact hT c
    · obtain ⟨j, hj, hSj, e⟩ := hS.ex k hk c
      have hj' : Cn (prs P.m (fun k => T k || S k) P.L P.R) (P.L j) (P.R j) := Cn.refl.fwd (prs_in hj (by simp [hSj]))
      rcases e with ⟨a, b⟩ | ⟨a, b⟩
      · exact (hT a).symm.trans (hj'.trans (hT b))
      · exact (hT b).symm.trans (hj'.symm.trans (hT a))
  have := cn_all h hf hg
  clear hf hg
  induction this with
  | refl => exact .refl
  | fwd _ e ih =>
    obtain ⟨k, hk, _, e⟩ := mem_prs.1 e
    injection e with e1 e2
    rw [Int.ofNat_inj] at e1 e2
    subst e1; subst e2
    exact ih.trans (step k hk)
  | bwd _ e ih =>
    obtain ⟨k, hk, _, e⟩ := mem_prs.1 e
    injection e with e1 e2
    rw [Int.ofNat_inj] at e1 e2
    subst e1; subst e2
    exact ih.trans (step k hk).symm
theorem TS_one (h : Conn P) {T S : Nat → Bool} (hS : Reps P T S) : P.d (fun k => T k || S k) = 1 :=
  (np_one (vdF h.toOk _) h.fp).2 fun _ hi => cn_TS h hS h.fp hi
theorem T_S {T S : Nat → Bool} (hS : Reps P T S) {k : Nat} (hk : k < P.m) (hT : T k = true) : S k = false := by
  rw [Bool.eq_false_iff]
  exact fun e => hS.ne k hk e (Cn.refl.fwd (prs_in hk hT))
/-- with the leads T and S taken off, so many parts are left -/
theorem rest_parts (h : Conn P) {T S : Nat → Bool} (hF : Forest P T) (hS : Reps P T S) : P.c (fun k => !(T k || S k)) + P.d T = cnp S P.m + 2 := by
  have h1 := dual h.toOk (fun k => T k || S k)
  rw [TS_one h hS, h.c1, cnp_or (p := T) (q := S) fun k hk e => T_S hS hk e] at h1
  unfold Forest at hF
  omega
theorem T_conn (h : Conn P) {T : Nat → Bool} (hF : Forest P T) : P.c (fun k => !T k) = 1 := by
  have h1 := dual h.toOk T
  rw [h.c1] at h1
  unfold Forest at hF
  omega
/-- three lead ends at least at each part of what is left -/
theorem three_ends (h : Conn P) {T S : Nat → Bool} (hF : Forest P T) (hS : Reps P T S) (hk : 3 ≤ P.d T) {r : Nat} (hr : r < P.n) (hfix : lab P.n (prs P.m (fun k => !(T k || S k)) P.u P.v) r = r) :
    3 ≤ degr P.m S (fun k => lab P.n (prs P.m (fun k => !(T k || S k)) P.u P.v) (P.u k)) (fun k => lab P.n (prs P.m (fun k => !(T k || S k)) P.u P.v) (P.v k)) r := by
  have hvN := vdN h.toOk (fun k => !(T k || S k))
  have hQ : ∀ k, k < P.m → T k = false → S k = false → lab P.n (prs P.m (fun k => !(T k || S k)) P.u P.v) (P.u k) = lab P.n (prs P.m (fun k => !(T k || S k)) P.u P.v) (P.v k) := by
    intro k hk h1 h2
    exact (lab_iff hvN (h.un k hk) (h.vn k hk)).2 (Cn.refl.fwd (prs_in hk (by simp [h1, h2])))
  have hrp := rest_parts h hF hS
  have hcp : 0 < P.c (fun k => !(T k || S k)) := np_pos hvN h.np
  generalize hlb : lab P.n (prs P.m (fun k => !(T k || S k)) P.u P.v) = lb at *
  apply Classical.byContradiction
  intro hlt
  have tnn : ∀ k, k < P.m → 0 ≤ (if S k = true then (if lb (P.u k) = r then (1 : Int) else 0) + (if lb (P.v k) = r then 1 else 0) else 0) := by
    intro k _
    by_cases c : S k = true <;> by_cases c1 : lb (P.u k) = r <;> by_cases c2 : lb (P.v k) = r <;> simp [c, c1, c2]
  -- what the boundary of a set of lands crosses
  have hpair : ∀ g : Nat → Int, (∀ k, k < P.m → T k = true → g (P.L k) = g (P.R k)) → ∀ a, a < P.m → S a = true → (lb (P.u a) = r ↔ ¬ lb (P.v a) = r) → g (P.L a) ≠ g (P.R a) → ∃ b, b < P.m ∧ b ≠ a ∧ S b = true ∧ (lb (P.u b) = r ↔ ¬ lb (P.v b) = r) ∧ g (P.L b) ≠ g (P.R b) := by
    intro g hg a ha hSa hXa hga
    have hz := circ_pair h.toOk (h.bdry g) (fun i => if lb i = r then 1 else 0)
    obtain ⟨b, hb, hba, hfb⟩ := sm_pick hz ha (by
      by_cases c : lb (P.u a) = r
      · rw [if_pos c, if_neg (hXa.1 c)]; omega
      · rw [if_neg c, if_pos (Classical.byContradiction fun e => c (hXa.2 e))]; omega)
    have hgb : g (P.L b) ≠ g (P.R b) := fun e => hfb (by rw [e, Int.sub_self, Int.zero_mul])
    have hXb : (lb (P.u b) = r ↔ ¬ lb (P.v b) = r) := by
      by_cases c1 : lb (P.u b) = r <;> by_cases c2 : lb (P.v b) = r <;> simp [c1, c2] at hfb ⊢
    have hTb : T b = false := by
      rw [Bool.eq_false_iff]; exact fun e => hgb (hg b hb e)
    refine ⟨b, hb, hba, ?_, hXb, hgb⟩
    apply Classical.byContradiction
    intro hSb
    have := hQ b hb hTb (eq_false_of_ne_true hSb)
    rw [this] at hXb
    by_cases c : lb (P.v b) = r <;> simp [c] at hXb
  by_cases hA : ∃ a, a < P.m ∧ S a = true ∧ (lb (P.u a) = r ↔ ¬ lb (P.v a) = r)
  · obtain ⟨a, ha, hSa, hXa⟩ := hA
    have hsd := hS.ne a ha hSa
    obtain ⟨g1, hg1⟩ := bool_of (P.sam T (P.L a))
    obtain ⟨g2, hg2⟩ := bool_of (P.sam T (P.R a))
    have cst : ∀ (g : Nat → Bool) (f0 : Nat), (∀ f, g f = true ↔ P.sam T f0 f) → ∀ k, k < P.m → T k = true → (if g (P.L k) = true then (1 : Int) else 0) = if g (P.R k) = true then 1 else 0 := by
      intro g f0 hg k hk hT
      have : g (P.L k) = g (P.R k) := by
        rw [Bool.eq_iff_iff, hg, hg]
        exact ⟨fun c => Cn.fwd c (prs_in hk hT), fun c => Cn.bwd c (prs_in hk hT)⟩
      rw [this]
    obtain ⟨b, hb, hba, hSb, hXb, hgb⟩ := hpair (fun f => if g1 f = true then 1 else 0) (cst g1 _ hg1) a ha hSa hXa (by
      rw [if_pos ((hg1 _).2 .refl), if_neg fun e => hsd ((hg1 _).1 e)]; omega)
    obtain ⟨b', hb', hba', hSb', hXb', hgb'⟩ := hpair (fun f => if g2 f = true then 1 else 0) (cst g2 _ hg2) a ha hSa hXa (by
      rw [if_neg fun e => hsd (Cn.symm ((hg2 _).1 e)), if_pos ((hg2 _).2 .refl)]; omega)
    have tone : ∀ k, S k = true → (lb (P.u k) = r ↔ ¬ lb (P.v k) = r) → (if S k = true then (if lb (P.u k) = r then (1 : Int) else 0) + (if lb (P.v k) = r then 1 else 0) else 0) = 1 := by
      intro k h1 h2
      rw [if_pos h1]
      by_cases c1 : lb (P.u k) = r <;> by_cases c2 : lb (P.v k) = r <;> simp [c1, c2] at h2 ⊢
    have hbb : b' = b := by
      apply Classical.byContradiction
      intro hne
      have := sm_ge3 tnn ha hb hb' (Ne.symm hba) (Ne.symm hba') (Ne.symm hne)
      rw [tone a hSa hXa, tone b hSb hXb, tone b' hSb' hXb'] at this
      unfold degr at hlt
      dsimp only at hlt
      omega
    subst hbb
    refine hba (hS.un b' a hb ha hSb hSa ?_)
    -- b' parts the lands that a parts
    have q1 : (P.sam T (P.L a) (P.L b') ∧ ¬ P.sam T (P.L a) (P.R b')) ∨ (¬ P.sam T (P.L a) (P.L b') ∧ P.sam T (P.L a) (P.R b')) := by
      rw [← hg1, ← hg1]
      cases e1 : g1 (P.L b') <;> cases e2 : g1 (P.R b') <;> simp [e1, e2] at hgb ⊢
    have q2 : (P.sam T (P.R a) (P.L b') ∧ ¬ P.sam T (P.R a) (P.R b')) ∨ (¬ P.sam T (P.R a) (P.L b') ∧ P.sam T (P.R a) (P.R b')) := by
      rw [← hg2, ← hg2]
      cases e1 : g2 (P.L b') <;> cases e2 : g2 (P.R b') <;> simp [e1, e2] at hgb' ⊢
    rcases q1 with ⟨a1, a2⟩ | ⟨a1, a2⟩ <;> rcases q2 with ⟨b1, b2⟩ | ⟨b1, b2⟩
    · exact absurd (a1.trans (Cn.symm b1)) hsd
    · exact .inl ⟨Cn.symm a1, Cn.symm b2⟩
    · exact .inr ⟨Cn.symm b1, Cn.symm a2⟩
    · exact absurd (a2.trans (Cn.symm b2)) hsd
  · -- then r's part is all
    have hall : ∀ i, i < P.n → lb i = r := by
      intro i hi
      have hc := (np_one (vdN h.toOk (fun k => !T k)) h.np).1 (T_conn h hF)
      have hri : Cn (prs P.m (fun k => !T k) P.u P.v) r i := (hc r hr).symm.trans (hc i hi)
      have := prs_const (g := fun i => decide (lb i = r)) (fun k hk hT => by
        have hT : T k = false := by simpa using hT
        by_cases c : S k = true
        · have hno : ¬ (lb (P.u k) = r ↔ ¬ lb (P.v k) = r) := fun e => hA ⟨k, hk, c, e⟩
          by_cases c1 : lb (P.u k) = r <;> by_cases c2 : lb (P.v k) = r <;> simp [c1, c2] at hno ⊢
        · rw [hQ k hk hT (eq_false_of_ne_true c)]) hri
      rw [hfix] at this
      simpa using this.symm
    have e : degr P.m S (fun k => lb (P.u k)) (fun k => lb (P.v k)) r = 2 * (cnp S P.m : Int) := by
      unfold degr
      rw [cnp_sm, ← sm_mul]
      refine sm_congr fun k hk => ?_
      by_cases c : S k = true
      · rw [if_pos c, if_pos c, if_pos (hall _ (h.un k hk)), if_pos (hall _ (h.vn k hk))]; rfl
      · rw [if_neg c, if_neg c]; rfl
    rw [e] at hlt
    omega
/-- FEW ADJACENCIES -/
theorem few_edges (h : Conn P) {T S : Nat → Bool} (hF : Forest P T) (hS : Reps P T S) (hk : 3 ≤ P.d T) : cnp S P.m + 6 ≤ 3 * P.d T := by
  have h1 := rest_parts h hF hS
  have hvN := vdN h.toOk (fun k => !(T k || S k))
  have h2 := degr_bound (n := P.n) (m := P.m) (S := S) (a := fun k => lab P.n (prs P.m (fun k => !(T k || S k)) P.u P.v) (P.u k)) (b := fun k => lab P.n (prs P.m (fun k => !(T k || S k)) P.u P.v) (P.v k))
    (fun k hk => lab_lt hvN (h.un k hk)) (fun k hk => lab_lt hvN (h.vn k hk)) (p := fun i => decide (lab P.n (prs P.m (fun k => !(T k || S k)) P.u P.v) i = i)) (D := 3)
    (fun r hr e => three_ends h hF hS hk hr (by simpa using e))
  rw [← np_lab hvN] at h2
  unfold Plan.c at h1
  omega
end
end Go.Proofs.YtdhmjhoaegdfjaaGreat.Pl
