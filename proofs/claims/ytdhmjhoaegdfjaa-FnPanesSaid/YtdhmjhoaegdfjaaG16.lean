import Derived.Test.YtdhmjhoaegdfjaaG12
import Derived.Test.YtdhmjhoaegdfjaaG14
namespace Go.Proofs.Ytdhmjhoaegdfjaa.Pl
open Go.Proofs.Ytdhmjhoaegdfjaa
/-! Areas by slabs. -/
/-- sums in a descending order: the parts are 0 or s all along -/
theorem abel {z g : Nat → Int} {s lo : Int} (hs : s = 1 ∨ s = -1) : ∀ (l : List Nat), l.Pairwise (fun a b => g b < g a) →
    (∀ hi, (∀ k ∈ l, z k ≠ 0 → lo ≤ g k ∧ g k ≤ hi) → (∀ i, i ≤ l.length → lsm z (l.take i) = 0 ∨ lsm z (l.take i) = s) → lsm z l = 0 →
      0 ≤ s * lsm (fun k => z k * g k) l ∧ (lo ≤ hi → s * lsm (fun k => z k * g k) l ≤ hi - lo) ∧ ((∃ k, k ∈ l ∧ z k ≠ 0) → 0 < s * lsm (fun k => z k * g k) l)) ∧
    (∀ hi, (∀ k ∈ l, z k ≠ 0 → lo ≤ g k ∧ g k ≤ hi) → (∀ i, i ≤ l.length → s + lsm z (l.take i) = 0 ∨ s + lsm z (l.take i) = s) → s + lsm z l = 0 →
      -hi ≤ s * lsm (fun k => z k * g k) l ∧ s * lsm (fun k => z k * g k) l ≤ -lo ∧ ∀ top, (∀ k ∈ l, g k < top) → -top < s * lsm (fun k => z k * g k) l)
  | [], _ => by
    refine ⟨fun hi _ _ _ => ⟨by simp [lsm], fun h => by simp only [lsm]; omega, fun ⟨k, hk, _⟩ => by cases hk⟩, fun hi _ _ ht => ?_⟩
    simp only [lsm] at ht
    omega
  | a :: t, hp => by
    obtain ⟨hp1, hp2⟩ := List.pairwise_cons.1 hp
    obtain ⟨i0, i1⟩ := abel (z := z) (lo := lo) hs t hp2
    have pre : ∀ i, lsm z ((a :: t).take (i + 1)) = z a + lsm z (t.take i) := fun i => by rw [List.take_succ_cons]; rfl
    have ex : s * lsm (fun k => z k * g k) (a :: t) = s * (z a * g a) + s * lsm (fun k => z k * g k) t := by simp only [lsm, Int.mul_add]
    have tl : lsm z (a :: t) = z a + lsm z t := rfl
    refine ⟨fun hi hb hpre ht => ?_, fun hi hb hpre ht => ?_⟩
    · have h1 := hpre 1 (by simp)
      rw [pre 0] at h1
      simp only [List.take_zero, lsm, Int.add_zero] at h1
      rw [tl] at ht
      by_cases c : z a = 0
      · obtain ⟨r1, r2, r3⟩ := i0 hi (fun k hk => hb k (List.mem_cons_of_mem _ hk)) (fun i hi' => by
          have := hpre (i + 1) (by simpa using hi')
          rw [pre, c, Int.zero_add] at this; exact this) (by omega)
        rw [ex, c, Int.zero_mul, Int.mul_zero, Int.zero_add]
        refine ⟨r1, r2, fun ⟨k, hk, hz⟩ => r3 ?_⟩
        rcases List.mem_cons.1 hk with e | hk
        · rw [e] at hz; exact absurd c hz
        · exact ⟨k, hk, hz⟩
      · have hza : z a = s := by omega
        obtain ⟨b1, b2⟩ := hb a (List.mem_cons_self ..) c
        obtain ⟨r1, r2, r3⟩ := i1 (g a) (fun k hk hz => ⟨(hb k (List.mem_cons_of_mem _ hk) hz).1, Int.le_of_lt (hp1 k hk)⟩) (fun i hi' => by
          have := hpre (i + 1) (by simpa using hi')
          rw [pre, hza] at this; exact this) (by omega)
        have r4 := r3 (g a) (fun k hk => hp1 k hk)
        have e2 : s * (z a * g a) = g a := by
          rw [hza]
          rcases hs with e | e <;> rw [e] <;> omega
        rw [ex, e2]
        exact ⟨by omega, fun _ => by omega, fun _ => by omega⟩
    · have h1 := hpre 1 (by simp)
      rw [pre 0] at h1
      simp only [List.take_zero, lsm, Int.add_zero] at h1
      rw [tl] at ht
      by_cases c : z a = 0
      · obtain ⟨r1, r2, r3⟩ := i1 hi (fun k hk => hb k (List.mem_cons_of_mem _ hk)) (fun i hi' => by
          have := hpre (i + 1) (by simpa using hi')
          rw [pre, c, Int.zero_add] at this; exact this) (by omega)
        rw [ex, c, Int.zero_mul, Int.mul_zero, Int.zero_add]
        exact ⟨r1, r2, fun top ht => r3 top fun k hk => ht k (List.mem_cons_of_mem _ hk)⟩
      · have hza : z a = -s := by omega
        obtain ⟨b1, b2⟩ := hb a (List.mem_cons_self ..) c
        obtain ⟨r1, r2, r3⟩ := i0 (g a) (fun k hk hz => ⟨(hb k (List.mem_cons_of_mem _ hk) hz).1, Int.le_of_lt (hp1 k hk)⟩) (fun i hi' => by
          have := hpre (i + 1) (by simpa using hi')
          rw [pre, hza] at this; omega) (by omega)
        have r4 := r2 b1
        have e2 : s * (z a * g a) = -g a := by
          rw [hza]
          rcases hs with e | e <;> rw [e] <;> omega
        rw [ex, e2]
        exact ⟨by omega, by omega, fun top ht => by have := ht a (List.mem_cons_self ..); omega⟩

/-! ### sorting -/
def srtL (lt : Nat → Nat → Bool) : List Nat → List Nat
  | [] => []
  | a :: t => ins lt a (srtL lt t)
theorem srtL_perm (lt : Nat → Nat → Bool) : ∀ l, (srtL lt l).Perm l
  | [] => .refl _
  | a :: t => (ins_perm lt a (srtL lt t)).trans ((srtL_perm lt t).cons a)
theorem srtL_sorted {lt : Nat → Nat → Bool} {S : Nat → Prop} (tot : ∀ a b, S a → S b → a ≠ b → lt a b = true ∨ lt b a = true) (tr : ∀ a b c, S a → S b → S c → lt a b = true → lt b c = true → lt a c = true) :
    ∀ l : List Nat, l.Nodup → (∀ x ∈ l, S x) → (srtL lt l).Pairwise (fun a b => lt a b = true)
  | [], _, _ => List.Pairwise.nil
  | a :: t, hn, hS => by
    rw [List.nodup_cons] at hn
    exact ins_sorted tot tr (hS a (List.mem_cons_self ..)) (fun x hx => hS x (List.mem_cons_of_mem _ ((srtL_perm lt t).mem_iff.1 hx))) (fun hx => hn.1 ((srtL_perm lt t).mem_iff.1 hx))
      (srtL_sorted tot tr t hn.2 fun x hx => hS x (List.mem_cons_of_mem _ hx))

namespace Drw
variable {G : Drw}
/-- k is above l at t -/
def abv (G : Drw) (t : Int) (k l : Nat) : Bool := decide (0 < G.D l k t)
/-- the leads over t, from above to below -/
def slab (G : Drw) (t : Int) : List Nat := srtL (G.abv t) ((List.range G.m).filter (fun k => decide (G.sp k t)))
theorem slab_mem {t : Int} {k : Nat} : k ∈ G.slab t ↔ k < G.m ∧ G.sp k t := by
  unfold slab
  rw [(srtL_perm _ _).mem_iff, List.mem_filter, List.mem_range, decide_eq_true_eq]
theorem abv_tot (h : G.Ok) {t : Int} {a b : Nat} (ha : a < G.m ∧ G.sp a t) (hb : b < G.m ∧ G.sp b t) (hab : a ≠ b) : G.abv t a b = true ∨ G.abv t b a = true := by
  have hd := D_ne h ha.1 hb.1 hab ha.2 hb.2
  have hs := D_swap (G := G) a b t
  unfold abv
  rw [decide_eq_true_eq, decide_eq_true_eq]
  omega
theorem abv_irr (t : Int) (a : Nat) : G.abv t a a = false := by
  unfold abv; rw [D_self]; rfl
theorem abv_as {t : Int} {a b : Nat} (h : G.abv t a b = true) : G.abv t b a = false := by
  have hs := D_swap (G := G) a b t
  unfold abv at *
  rw [decide_eq_true_eq] at h
  rw [decide_eq_false_iff_not]
  omega
theorem abv_tr (h : G.Ok) {t : Int} {a b c : Nat} (ha : a < G.m) (hb : b < G.m) (hc : c < G.m) (e1 : G.abv t a b = true) (e2 : G.abv t b c = true) : G.abv t a c = true := by
  have p1 := den_pos h ha
  have p2 := den_pos h hb
  have p3 := den_pos h hc
  have tri := D_tri (G := G) c b a t
  unfold abv at *
  rw [decide_eq_true_eq] at *
  have m1 := Int.mul_pos p1 e2
  have m2 := Int.mul_pos p3 e1
  exact pos_of p2 (by omega)
theorem slab_sorted (h : G.Ok) (t : Int) : (G.slab t).Pairwise (fun a b => G.abv t a b = true) :=
  srtL_sorted (S := fun k => k < G.m ∧ G.sp k t) (fun _ _ ha hb hab => abv_tot h ha hb hab) (fun _ _ _ ha hb hc e1 e2 => abv_tr h ha.1 hb.1 hc.1 e1 e2) _ (List.Pairwise.filter _ List.nodup_range)
    fun x hx => by rw [List.mem_filter, List.mem_range, decide_eq_true_eq] at hx; exact hx
theorem slab_sum (G : Drw) (t : Int) (f : Nat → Int) : lsm f (G.slab t) = sm G.m (fun k => if G.sp k t then f k else 0) := by
  unfold slab
  rw [lsm_perm (srtL_perm _ _), lsm_filter, lsm_range]
  exact sm_congr fun k _ => by simp only [decide_eq_true_eq]
/-- what flows above a lead, and above and in it -/
theorem slab_pre (h : G.Ok) {z : Nat → Int} (hc : G.Cons z) {t : Int} (ht : t % 2 = 1) {i : Nat} (hi : i < (G.slab t).length) :
    lsm z ((G.slab t).take i) = G.W z (G.slab t)[i] := by
  obtain ⟨hkm, hks⟩ := slab_mem.1 (List.getElem_mem hi)
  have h1 := lsm_upto (slab_sorted h t) (fun a _ => abv_irr t a) (fun a _ b _ e => abv_as e) z hi
  rw [lsm_take _ _ hi] at h1
  rw [← N_eq h hc hkm ht hks]
  unfold N
  have h2 : sm G.m (fun l => if G.sp l t ∧ 0 < G.D (G.slab t)[i] l t then z l else 0) = lsm (fun e => if 0 < G.D (G.slab t)[i] e t then z e else 0) (G.slab t) := by
    rw [slab_sum]
    refine sm_congr fun l _ => ?_
    by_cases c1 : G.sp l t <;> by_cases c2 : 0 < G.D (G.slab t)[i] l t <;> simp [c1, c2]
  rw [h2]
  have h3 := lsm_add (fun e => if 0 < G.D (G.slab t)[i] e t then z e else 0) (fun e => if e = (G.slab t)[i] then z (G.slab t)[i] else 0) (G.slab t)
  have hnd : (G.slab t).Nodup := (srtL_perm _ _).nodup_iff.2 (List.Pairwise.filter _ List.nodup_range)
  rw [lsm_one hnd (List.getElem_mem hi)] at h3
  have h4 : lsm (fun e => (if 0 < G.D (G.slab t)[i] e t then z e else 0) + (if e = (G.slab t)[i] then z (G.slab t)[i] else 0)) (G.slab t) = lsm (fun e => if G.abv t (G.slab t)[i] e = true then 0 else z e) (G.slab t) := by
    refine lsm_congr fun e he => ?_
    have hes := slab_mem.1 he
    by_cases c : e = (G.slab t)[i]
    · rw [if_pos c, if_neg (by rw [c, D_self]; omega), if_neg (by rw [c, abv_irr]; simp), c]; omega
    · rw [if_neg c]
      have hd := D_ne h hkm hes.1 (Ne.symm c) hks hes.2
      have hs := D_swap (G := G) (G.slab t)[i] e t
      unfold abv
      by_cases c2 : 0 < G.D (G.slab t)[i] e t
      · rw [if_pos c2, if_neg (by rw [decide_eq_true_eq]; omega)]; omega
      · rw [if_neg c2, if_pos (by rw [decide_eq_true_eq]; omega)]; omega
  omega
/-! heights over one denominator -/
def prd : Nat → (Nat → Int) → Int
  | 0, _ => 1
  | n + 1, f => prd n f * f n
theorem prd_pos {n : Nat} {f : Nat → Int} (h : ∀ i, i < n → 0 < f i) : 0 < prd n f := by
  induction n with
  | zero => show (0 : Int) < 1; omega
  | succ n ih => exact Int.mul_pos (ih fun i hi => h i (by omega)) (h n (by omega))
theorem prd_congr {n : Nat} {f g : Nat → Int} (h : ∀ i, i < n → f i = g i) : prd n f = prd n g := by
  induction n with
  | zero => rfl
  | succ n ih => show prd n f * f n = prd n g * g n; rw [ih fun i hi => h i (by omega), h n (by omega)]
theorem prd_out {n k : Nat} {f : Nat → Int} (hk : k < n) : f k * prd n (fun i => if i = k then 1 else f i) = prd n f := by
  induction n with
  | zero => omega
  | succ n ih =>
    show f k * (prd n _ * (if n = k then 1 else f n)) = prd n f * f n
    rcases Nat.lt_succ_iff_lt_or_eq.1 hk with c | c
    · rw [if_neg (by omega), ← ih c, Int.mul_assoc]
    · subst c
      rw [if_pos rfl, Int.mul_one, Int.mul_comm]
      congr 1
      exact prd_congr fun i hi => if_neg (by omega)
def Nn (G : Drw) : Int := prd G.m G.den
def hn (G : Drw) (k : Nat) : Int := prd G.m (fun i => if i = k then 1 else G.den i)
def H (G : Drw) (t : Int) (k : Nat) : Int := G.num k t * G.hn k
theorem Nn_pos (h : G.Ok) : 0 < G.Nn := prd_pos fun _ hi => den_pos h hi
theorem hn_pos (h : G.Ok) (k : Nat) : 0 < G.hn k := prd_pos fun i hi => by
  split
  · omega
  · exact den_pos h hi
theorem den_hn {k : Nat} (hk : k < G.m) : G.den k * G.hn k = G.Nn := prd_out hk
theorem H_lt (h : G.Ok) {t : Int} {k l : Nat} (hk : k < G.m) (hl : l < G.m) (e : G.abv t k l = true) : G.H t l < G.H t k := by
  unfold abv D at e
  rw [decide_eq_true_eq] at e
  have p1 := den_pos h hk
  have p2 := den_pos h hl
  have e1 := den_hn hk
  have e2 := den_hn hl
  have hN := Nn_pos h
  have key : G.den k * (G.den l * (G.H t k - G.H t l)) = G.Nn * (G.num k t * G.den l - G.num l t * G.den k) := by
    unfold H
    grind
  have m1 := Int.mul_pos hN e
  rw [← key] at m1
  have := pos_of p2 (pos_of p1 m1)
  omega
theorem H_bd (h : G.Ok) {t : Int} {k : Nat} (hk : k < G.m) (hs : G.sp k t) {lo hi : Int} (h1 : lo ≤ G.ya k) (h2 : lo ≤ G.yb k) (h3 : G.ya k ≤ hi) (h4 : G.yb k ≤ hi) : G.Nn * lo ≤ G.H t k ∧ G.H t k ≤ G.Nn * hi := by
  have p := hn_pos h k
  have e := den_hn hk
  unfold sp at hs
  have a1 := Int.mul_nonneg (show 0 ≤ G.ya k - lo by omega) (show 0 ≤ G.xb k - t by omega)
  have a2 := Int.mul_nonneg (show 0 ≤ G.yb k - lo by omega) (show 0 ≤ t - G.xa k by omega)
  have a3 := Int.mul_nonneg (show 0 ≤ hi - G.ya k by omega) (show 0 ≤ G.xb k - t by omega)
  have a4 := Int.mul_nonneg (show 0 ≤ hi - G.yb k by omega) (show 0 ≤ t - G.xa k by omega)
  have b1 : 0 ≤ G.num k t - lo * G.den k := by
    have : G.num k t - lo * G.den k = (G.ya k - lo) * (G.xb k - t) + (G.yb k - lo) * (t - G.xa k) := by unfold num den; grind
    omega
  have b2 : 0 ≤ hi * G.den k - G.num k t := by
    have : hi * G.den k - G.num k t = (hi - G.ya k) * (G.xb k - t) + (hi - G.yb k) * (t - G.xa k) := by unfold num den; grind
    omega
  have c1 := Int.mul_nonneg b1 (Int.le_of_lt p)
  have c2 := Int.mul_nonneg b2 (Int.le_of_lt p)
  have d1 : (G.num k t - lo * G.den k) * G.hn k = G.H t k - G.Nn * lo := by unfold H; grind
  have d2 : (hi * G.den k - G.num k t) * G.hn k = G.Nn * hi - G.H t k := by unfold H; grind
  omega
/-- one slab -/
theorem slab_bd (h : G.Ok) {z : Nat → Int} (hc : G.Cons z) {s : Int} (hs : s = 1 ∨ s = -1) (hw : ∀ k, k < G.m → (G.W z k = 0 ∨ G.W z k = s)) {lo hi : Int} (hlh : lo ≤ hi)
    (hb : ∀ k, k < G.m → z k ≠ 0 → (lo ≤ G.ya k ∧ lo ≤ G.yb k) ∧ (G.ya k ≤ hi ∧ G.yb k ≤ hi)) {t : Int} (ht : t % 2 = 1) :
    0 ≤ s * sm G.m (fun k => if G.sp k t then z k * G.H t k else 0) ∧ s * sm G.m (fun k => if G.sp k t then z k * G.H t k else 0) ≤ G.Nn * hi - G.Nn * lo ∧
    ((∃ k, k < G.m ∧ G.sp k t ∧ z k ≠ 0) → 0 < s * sm G.m (fun k => if G.sp k t then z k * G.H t k else 0)) := by
  rw [← slab_sum G t (fun k => z k * G.H t k)]
  have hN := Nn_pos h
  have hsort : (G.slab t).Pairwise (fun a b => G.H t b < G.H t a) := by
    refine List.Pairwise.imp_of_mem (fun {a b} ha hb e => H_lt h (slab_mem.1 ha).1 (slab_mem.1 hb).1 e) (slab_sorted h t)
  have tot : lsm z (G.slab t) = 0 := by
    rw [slab_sum]; exact F_zero h hc ht
  obtain ⟨r1, r2, r3⟩ := (abel (z := z) (g := G.H t) (lo := G.Nn * lo) hs (G.slab t) hsort).1 (G.Nn * hi) (fun k hk hz => by
      obtain ⟨hkm, hks⟩ := slab_mem.1 hk
      obtain ⟨⟨b1, b2⟩, b3, b4⟩ := hb k hkm hz
      exact H_bd h hkm hks b1 b2 b3 b4) (fun i hi' => by
      rcases Nat.lt_or_ge i (G.slab t).length with c | c
      · rw [slab_pre h hc ht c]
        exact hw _ (slab_mem.1 (List.getElem_mem c)).1
      · rw [List.take_of_length_le c]; exact .inl tot) tot
  refine ⟨r1, r2 (Int.mul_le_mul_of_nonneg_left hlh (Int.le_of_lt hN)), fun ⟨k, h1, h2, h3⟩ => r3 ⟨k, slab_mem.2 ⟨h1, h2⟩, h3⟩⟩
/-! the whole area -/
def phi (G : Drw) (k : Nat) (x : Int) : Int := G.yb k * ((x - G.xa k) * (x - G.xa k)) - G.ya k * ((G.xb k - x) * (G.xb k - x))
theorem phi_step (k : Nat) (t : Int) : G.phi k (t + 1) - G.phi k (t - 1) = 4 * G.num k t := by unfold phi num; grind
theorem phi_ends (k : Nat) : G.phi k (G.xb k) - G.phi k (G.xa k) = G.den k * G.den k * (G.ya k + G.yb k) := by unfold phi den; grind
theorem trap (h : G.Ok) {k : Nat} (hk : k < G.m) {t0 : Int} (ht0 : t0 % 2 = 0) (h1 : t0 ≤ G.xa k) : ∀ J : Nat, G.xb k ≤ t0 + 2 * (J : Int) →
    4 * sm J (fun j => if G.sp k (t0 + 2 * (j : Int) + 1) then G.num k (t0 + 2 * (j : Int) + 1) else 0) = G.den k * G.den k * (G.ya k + G.yb k) := by
  have hev := h.ev k hk
  have hlt := h.lt k hk
  have key : ∀ J : Nat, 4 * sm J (fun j => if G.sp k (t0 + 2 * (j : Int) + 1) then G.num k (t0 + 2 * (j : Int) + 1) else 0) = G.phi k (max (G.xa k) (min (G.xb k) (t0 + 2 * (J : Int)))) - G.phi k (G.xa k) := by
    intro J
    induction J with
    | zero =>
      rw [show max (G.xa k) (min (G.xb k) (t0 + 2 * ((0 : Nat) : Int))) = G.xa k by omega, Int.sub_self]; rfl
    | succ J ih =>
      rw [sm_succ, Int.mul_add, ih]
      by_cases c : G.sp k (t0 + 2 * (J : Int) + 1)
      · rw [if_pos c]
        have := phi_step (G := G) k (t0 + 2 * (J : Int) + 1)
        unfold sp at c
        rw [show max (G.xa k) (min (G.xb k) (t0 + 2 * (J : Int))) = t0 + 2 * (J : Int) + 1 - 1 by omega, show max (G.xa k) (min (G.xb k) (t0 + 2 * ((J + 1 : Nat) : Int))) = t0 + 2 * (J : Int) + 1 + 1 by omega]
        omega
      · rw [if_neg c]
        unfold sp at c
        rw [show max (G.xa k) (min (G.xb k) (t0 + 2 * ((J + 1 : Nat) : Int))) = max (G.xa k) (min (G.xb k) (t0 + 2 * (J : Int))) by omega]
        omega
  intro J h2
  rw [key J, show max (G.xa k) (min (G.xb k) (t0 + 2 * (J : Int))) = G.xb k by omega, phi_ends]
/-- twice the area under the flow -/
def Ar (G : Drw) (z : Nat → Int) : Int := sm G.m (fun k => z k * (G.den k * (G.ya k + G.yb k)))
theorem area_slabs (h : G.Ok) {z : Nat → Int} {t0 : Int} (ht0 : t0 % 2 = 0) {J : Nat} (hb : ∀ k, k < G.m → z k ≠ 0 → t0 ≤ G.xa k ∧ G.xb k ≤ t0 + 2 * (J : Int)) :
    4 * sm J (fun j => sm G.m (fun k => if G.sp k (t0 + 2 * (j : Int) + 1) then z k * G.H (t0 + 2 * (j : Int) + 1) k else 0)) = G.Nn * G.Ar z := by
  unfold Ar
  rw [sm_swap, ← sm_mul, ← sm_mul]
  refine sm_congr fun k hk => ?_
  by_cases c : z k = 0
  · rw [c, Int.zero_mul, Int.mul_zero, sm_zero fun j _ => by split <;> simp]; rfl
  · obtain ⟨b1, b2⟩ := hb k hk c
    have ht := trap h hk ht0 b1 J b2
    have e := den_hn hk
    have e1 : sm J (fun j => if G.sp k (t0 + 2 * (j : Int) + 1) then z k * G.H (t0 + 2 * (j : Int) + 1) k else 0) = (z k * G.hn k) * sm J (fun j => if G.sp k (t0 + 2 * (j : Int) + 1) then G.num k (t0 + 2 * (j : Int) + 1) else 0) := by
      rw [← sm_mul]
      refine sm_congr fun j _ => ?_
      split
      · unfold H; grind
      · simp
    rw [e1]
    grind
/-- AREAS: of one sign, and not more than twice the box -/
theorem area_bd (h : G.Ok) {z : Nat → Int} (hc : G.Cons z) {s : Int} (hs : s = 1 ∨ s = -1) (hw : ∀ k, k < G.m → (G.W z k = 0 ∨ G.W z k = s)) {lo hi x0 x1 : Int} (hlh : lo ≤ hi) (hx0 : x0 % 2 = 0) (hx1 : x1 % 2 = 0) (hx : x0 ≤ x1)
    (hb : ∀ k, k < G.m → z k ≠ 0 → (lo ≤ G.ya k ∧ lo ≤ G.yb k) ∧ (G.ya k ≤ hi ∧ G.yb k ≤ hi) ∧ x0 ≤ G.xa k ∧ G.xb k ≤ x1) :
    0 ≤ s * G.Ar z ∧ s * G.Ar z ≤ 2 * ((x1 - x0) * (hi - lo)) ∧ ((∃ k, k < G.m ∧ z k ≠ 0) → 0 < s * G.Ar z) := by
  obtain ⟨J, hJ⟩ : ∃ J : Nat, x1 = x0 + 2 * (J : Int) := ⟨((x1 - x0) / 2).toNat, by omega⟩
  have hN := Nn_pos h
  have ha := area_slabs h (z := z) hx0 (J := J) (fun k hk hz => by have := hb k hk hz; omega)
  have hsl := fun (j : Nat) => slab_bd h hc hs hw hlh (fun k hk hz => ⟨(hb k hk hz).1, (hb k hk hz).2.1⟩) (t := x0 + 2 * (j : Int) + 1) (by omega)
  have hsum : s * (4 * sm J (fun j => sm G.m (fun k => if G.sp k (x0 + 2 * (j : Int) + 1) then z k * G.H (x0 + 2 * (j : Int) + 1) k else 0))) = 4 * sm J (fun j => s * sm G.m (fun k => if G.sp k (x0 + 2 * (j : Int) + 1) then z k * G.H (x0 + 2 * (j : Int) + 1) k else 0)) := by
    rw [sm_mul]; grind
  rw [ha] at hsum
  have hcomm : s * (G.Nn * G.Ar z) = G.Nn * (s * G.Ar z) := by grind
  rw [hcomm] at hsum
  have h0 : 0 ≤ sm J (fun j => s * sm G.m (fun k => if G.sp k (x0 + 2 * (j : Int) + 1) then z k * G.H (x0 + 2 * (j : Int) + 1) k else 0)) := sm_nonneg fun j _ => (hsl j).1
  have h1 : sm J (fun j => s * sm G.m (fun k => if G.sp k (x0 + 2 * (j : Int) + 1) then z k * G.H (x0 + 2 * (j : Int) + 1) k else 0)) ≤ sm J (fun _ => G.Nn * hi - G.Nn * lo) := sm_le fun j _ => (hsl j).2.1
  rw [sm_const] at h1
  refine ⟨nonneg_of hN (by omega), ?_, fun ⟨k, hk, hz⟩ => ?_⟩
  · have e1 : 4 * ((J : Int) * (G.Nn * hi - G.Nn * lo)) = G.Nn * (2 * ((x1 - x0) * (hi - lo))) := by rw [hJ]; grind
    have : 0 ≤ G.Nn * (2 * ((x1 - x0) * (hi - lo)) - s * G.Ar z) := by rw [Int.mul_sub]; omega
    have := nonneg_of hN this
    omega
  · obtain ⟨_, _, b1, b2⟩ := hb k hk hz
    have hev := h.ev k hk
    have hlt := h.lt k hk
    have hj : ((G.xa k - x0) / 2).toNat < J := by omega
    have hsp : G.sp k (x0 + 2 * (((G.xa k - x0) / 2).toNat : Int) + 1) := by unfold sp; omega
    have hpos := (hsl ((G.xa k - x0) / 2).toNat).2.2 ⟨k, hk, hsp, hz⟩
    have hge : ∀ n, n ≤ J → ((G.xa k - x0) / 2).toNat < n → 0 < sm n (fun j => s * sm G.m (fun k => if G.sp k (x0 + 2 * (j : Int) + 1) then z k * G.H (x0 + 2 * (j : Int) + 1) k else 0)) := by
      intro n
      induction n with
      | zero => intro _ h; omega
      | succ n ih =>
        intro hn hlt
        rw [sm_succ]
        have hnn := (hsl n).1
        rcases Nat.lt_succ_iff_lt_or_eq.1 hlt with c | c
        · have := ih (by omega) c
          omega
        · have h0 : 0 ≤ sm n (fun j => s * sm G.m (fun k => if G.sp k (x0 + 2 * (j : Int) + 1) then z k * G.H (x0 + 2 * (j : Int) + 1) k else 0)) := sm_nonneg fun j _ => (hsl j).1
          rw [c] at hpos
          omega
    have := hge J (Nat.le_refl _) hj
    exact pos_of hN (by omega)
end Drw
end Go.Proofs.Ytdhmjhoaegdfjaa.Pl

namespace Go.Proofs.Ytdhmjhoaegdfjaa.Pl
open Go.Proofs.Ytdhmjhoaegdfjaa
/-! The areas of the faces of a whole window. -/
section
variable {ns ls : List P2}
theorem top_exists (hw : whole ns ls = true) : ∃ d, d < 2 * ls.length ∧ ∀ z, Circ ns.length ls z → wd ns ls z d = 0 := by
  obtain ⟨h, hm⟩ := whole_ok hw
  have hG := drw_ok h
  have hev := hG.ev 0 hm
  have hlt := hG.lt 0 hm
  have hmem : 0 ∈ (drw ns ls).slab ((drw ns ls).xa 0 + 1) := Drw.slab_mem.2 ⟨hm, by unfold Drw.sp; omega⟩
  have hl := List.length_pos_of_mem hmem
  obtain ⟨hkm, _⟩ := Drw.slab_mem.1 (List.getElem_mem hl)
  have hkm' : ((drw ns ls).slab ((drw ns ls).xa 0 + 1))[0] < ls.length := hkm
  have ht := rg_twin h hkm'
  obtain ⟨d, hd, hr, hk⟩ : ∃ d, d < 2 * ls.length ∧ rg ns ls d = true ∧ d / 2 = ((drw ns ls).slab ((drw ns ls).xa 0 + 1))[0] := by
    generalize ((drw ns ls).slab ((drw ns ls).xa 0 + 1))[0] = k at *
    cases c : rg ns ls (2 * k) with
    | true => exact ⟨2 * k, by omega, c, by omega⟩
    | false => exact ⟨2 * k + 1, by omega, by rw [ht, c]; rfl, by omega⟩
  refine ⟨d, hd, fun z hz => ?_⟩
  have := Drw.slab_pre hG (circ_cons h hz) (t := (drw ns ls).xa 0 + 1) (by omega) hl
  unfold wd
  rw [if_pos hr, hk, ← this]
  simp [lsm]
/-- the boundary of a face -/
def zf (ns ls : List P2) (f k : Nat) : Int := (if sd (fcs ns ls) (2 * k) = f then 1 else 0) - (if sd (fcs ns ls) (2 * k + 1) = f then 1 else 0)
theorem zf_circ (f : Nat) : Circ ns.length ls (zf ns ls f) := faces_flow (ns := ns) (ls := ls) (fun g => if g = f then 1 else 0) ns.length
theorem zc_zf (f : Nat) (d : Nat) : zc (zf ns ls f) d = (if sd (fcs ns ls) d = f then 1 else 0) - (if sd (fcs ns ls) (d ^^^ 1) = f then 1 else 0) := by
  rcases dart_cases d with e | e <;> rw [e]
  · rw [zc_even, xor_even]; rfl
  · rw [zc_odd, xor_odd]; unfold zf; omega
/-- what is the same along walks and across leads is the same all over -/
theorem all_same (hw : whole ns ls = true) {g : Nat → Int} (h1 : ∀ d, d < 2 * ls.length → g (nxt ns ls d) = g d) (h2 : ∀ d, d < 2 * ls.length → g (d ^^^ 1) = g d) {d e : Nat} (hd : d < 2 * ls.length) (he : e < 2 * ls.length) : g d = g e := by
  have hc := planW_conn hw
  have key := prs_const (g := fv ns ls g) (fun k hk _ => by
    have hk : k < ls.length := hk
    show fv ns ls g (sd (fcs ns ls) (2 * k)) = fv ns ls g (sd (fcs ns ls) (2 * k + 1))
    rw [fv_sd h1 (by omega), fv_sd h1 (by omega), ← xor_even, h2 _ (by omega)]) (cn_all hc (sd_spec (ns := ns) hd).1 (sd_spec (ns := ns) he).1)
  rw [fv_sd h1 hd, fv_sd h1 he] at key
  exact key
theorem wd_face (hw : whole ns ls = true) : ∃ o, o < (fcs ns ls).length ∧ (∀ f d, d < 2 * ls.length → wd ns ls (zf ns ls f) d = (if sd (fcs ns ls) d = f then 1 else 0) - (if o = f then 1 else 0)) ∧
    ∃ d0, d0 < 2 * ls.length ∧ sd (fcs ns ls) d0 = o ∧ ∀ z, Circ ns.length ls z → wd ns ls z d0 = 0 := by
  obtain ⟨h, _⟩ := whole_ok hw
  obtain ⟨d0, hd0, hz0⟩ := top_exists hw
  refine ⟨sd (fcs ns ls) d0, (sd_spec (ns := ns) hd0).1, fun f d hd => ?_, d0, hd0, rfl, hz0⟩
  have hc := zf_circ (ns := ns) (ls := ls) f
  have key := all_same hw (g := fun d => wd ns ls (zf ns ls f) d - (if sd (fcs ns ls) d = f then 1 else 0)) (fun d hd => by
    show wd ns ls (zf ns ls f) (nxt ns ls d) - (if sd (fcs ns ls) (nxt ns ls d) = f then 1 else 0) = _
    rw [wd_nxt h hc hd, sd_nxt hd]) (fun d hd => by
    show wd ns ls (zf ns ls f) (d ^^^ 1) - (if sd (fcs ns ls) (d ^^^ 1) = f then 1 else 0) = _
    rw [wd_twin' h _ hd, zc_zf]; omega) hd hd0
  have h0 := hz0 _ hc
  omega
theorem wlk_nodup {d : Nat} (hd : d < 2 * ls.length) : (wlk ns ls d).Nodup := by
  obtain ⟨h1, _, _, h4⟩ := per_ok (ns := ns) hd
  unfold wlk wlkR
  rw [List.Nodup, List.pairwise_iff_getElem]
  intro i j hi hj hij
  rw [List.length_map, List.length_range] at hi hj
  rw [List.getElem_map, List.getElem_map, List.getElem_range, List.getElem_range]
  intro e
  have := itr_back (fun _ h => nxt_lt h) (fun _ _ h k e => nxt_inj h k e) hd (j - i) i (by rw [show i + (j - i) = j by omega]; exact e)
  exact h4 (j - i) (by omega) (by omega) this.symm
theorem face_mem {f d : Nat} (hf : f < (fcs ns ls).length) : d ∈ (fcs ns ls).getD f [] ↔ d < 2 * ls.length ∧ sd (fcs ns ls) d = f := by
  obtain ⟨x, hx, ex⟩ := fcs_walk (ns := ns) hf
  constructor
  · intro hd
    have hlt : d < 2 * ls.length := wlk_lt hx d (by rw [← ex]; exact hd)
    exact ⟨hlt, sd_uniq hlt hf hd⟩
  · rintro ⟨h1, h2⟩
    have := (sd_spec (ns := ns) h1).2
    rw [h2] at this
    exact this
/-- a sum over a face -/
theorem lsm_face (g : Nat → Int) {f : Nat} (hf : f < (fcs ns ls).length) : lsm g ((fcs ns ls).getD f []) = sm ls.length (fun k => (if sd (fcs ns ls) (2 * k) = f then g (2 * k) else 0) + (if sd (fcs ns ls) (2 * k + 1) = f then g (2 * k + 1) else 0)) := by
  obtain ⟨x, hx, ex⟩ := fcs_walk (ns := ns) hf
  have hp : ((fcs ns ls).getD f []).Perm ((List.range (2 * ls.length)).filter (fun d => decide (sd (fcs ns ls) d = f))) := by
    refine (List.perm_ext_iff_of_nodup (by rw [ex]; exact wlk_nodup hx) (List.Pairwise.filter _ List.nodup_range)).2 fun d => ?_
    rw [face_mem hf, List.mem_filter, List.mem_range, decide_eq_true_eq]
  rw [lsm_perm hp, lsm_filter, lsm_range, sm_two]
  refine sm_congr fun k _ => ?_
  simp only [decide_eq_true_eq]
theorem areaR_lsm (ns ls : List P2) (l : List Nat) : area ns ls l = lsm (crs ns ls) l := by
  rw [lsm_getD]
  unfold area
  have : ∀ n, areaR ns ls l n = sm n (fun i => crs ns ls (l.getD i 0)) := by
    intro n
    induction n with
    | zero => rfl
    | succ n ih => rw [sm_succ, ← ih]; rfl
  exact this _
theorem crs_odd (ns ls : List P2) (k : Nat) : crs ns ls (2 * k + 1) = - crs ns ls (2 * k) := by
  unfold crs; rw [dart_even, dart_odd]; grind
/-- the area that a flow goes around, twice -/
def areaZ (ns ls : List P2) (z : Nat → Int) : Int := sm ls.length (fun k => z k * crs ns ls (2 * k))
theorem area_face {f : Nat} (hf : f < (fcs ns ls).length) : area ns ls ((fcs ns ls).getD f []) = areaZ ns ls (zf ns ls f) := by
  rw [areaR_lsm, lsm_face _ hf]
  refine sm_congr fun k _ => ?_
  rw [crs_odd]
  unfold zf
  by_cases c1 : sd (fcs ns ls) (2 * k) = f <;> by_cases c2 : sd (fcs ns ls) (2 * k + 1) = f <;> simp [c1, c2]; omega
theorem hat_area (a b : P2) : (kx b - kx a) * (ky a + ky b) = (kx b * ky b - kx a * ky a) - 2000 * (a.1 * b.2 - a.2 * b.1) := by unfold kx ky; grind
theorem area_hat (h : WOk ns ls) {z : Nat → Int} (hz : Circ ns.length ls z) : 2000 * areaZ ns ls z = -(drw ns ls).Ar (zl ns ls z) := by
  have hp := circ_pair (planW_ok h) ((circ_iff h z).2 hz) (fun i => kx (gp ns (i : Nat)) * ky (gp ns (i : Nat)))
  have key : (drw ns ls).Ar (zl ns ls z) = sm ls.length (fun k => -(z k * (kx (la ns ls k) * ky (la ns ls k) - kx (lb ns ls k) * ky (lb ns ls k))) - 2000 * (z k * crs ns ls (2 * k))) := by
    refine sm_congr fun k hk => ?_
    have hr := rg_even ns ls k
    have hcr : crs ns ls (2 * k) = (la ns ls k).1 * (lb ns ls k).2 - (la ns ls k).2 * (lb ns ls k).1 := by unfold crs; rw [dart_even]; rfl
    show zl ns ls z k * ((kx (rgt ns ls k) - kx (lft ns ls k)) * (ky (lft ns ls k) + ky (rgt ns ls k))) = _
    rw [hat_area, hcr]
    unfold zl
    rcases lr_cases h hk with ⟨c, e1, e2⟩ | ⟨c, e1, e2⟩ <;> rw [e1, e2, hr]
    · rw [decide_eq_true c, if_pos rfl]; grind
    · rw [decide_eq_false (by omega), if_neg (by simp)]; grind
  rw [sm_sub, sm_neg, sm_mul] at key
  have e : sm ls.length (fun k => z k * (kx (la ns ls k) * ky (la ns ls k) - kx (lb ns ls k) * ky (lb ns ls k))) = 0 := by
    rw [← hp]
    refine sm_congr fun k hk => ?_
    have := end_nat h hk
    have e1 : la ns ls k = gp ns ((planW ns ls).u k : Nat) := by unfold la; rw [this]
    have e2 : lb ns ls k = gp ns ((planW ns ls).v k : Nat) := by unfold lb; rw [this]
    rw [e1, e2]
  unfold areaZ
  omega
theorem zl_ne {z : Nat → Int} {k : Nat} : zl ns ls z k ≠ 0 ↔ z k ≠ 0 := by
  unfold zl; split <;> omega
/-- THE FACES: one has an area below or at 0, and none is greater than its box -/
theorem face_area (hw : whole ns ls = true) {o : Nat} (ho : ∀ f d, d < 2 * ls.length → wd ns ls (zf ns ls f) d = (if sd (fcs ns ls) d = f then 1 else 0) - (if o = f then 1 else 0)) {f : Nat} (hf : f < (fcs ns ls).length)
    {lx ly hx hy : Int} (hb : ∀ d, d < 2 * ls.length → sd (fcs ns ls) d = f → lx ≤ (pf ns ls d).1 ∧ ly ≤ (pf ns ls d).2 ∧ (pf ns ls d).1 ≤ hx ∧ (pf ns ls d).2 ≤ hy) (bx : lx ≤ hx ∧ hx ≤ lx + 20) (by' : ly ≤ hy) :
    -(2 * ((hx - lx) * (hy - ly))) ≤ area ns ls ((fcs ns ls).getD f []) ∧ area ns ls ((fcs ns ls).getD f []) ≤ 2 * ((hx - lx) * (hy - ly)) ∧ (o = f → area ns ls ((fcs ns ls).getD f []) ≤ 0) ∧ (o ≠ f → 0 ≤ area ns ls ((fcs ns ls).getD f []) ∧ ((∃ k, k < ls.length ∧ zf ns ls f k ≠ 0) → 0 < area ns ls ((fcs ns ls).getD f []))) := by
  obtain ⟨h, _⟩ := whole_ok hw
  have hc := zf_circ (ns := ns) (ls := ls) f
  have hcons := circ_cons h hc
  -- the nodes of a dart of f
  have hdart : ∀ d, d < 2 * ls.length → sd (fcs ns ls) d = f → (lx ≤ (pf ns ls d).1 ∧ ly ≤ (pf ns ls d).2 ∧ (pf ns ls d).1 ≤ hx ∧ (pf ns ls d).2 ≤ hy) ∧ (lx ≤ (pt ns ls d).1 ∧ ly ≤ (pt ns ls d).2 ∧ (pt ns ls d).1 ≤ hx ∧ (pt ns ls d).2 ≤ hy) := by
    intro d hd e
    refine ⟨hb d hd e, ?_⟩
    have e1 : pf ns ls (nxt ns ls d) = pt ns ls d := by
      have := (prevD_ok (ns := ns) (xor1_lt hd)).2
      unfold pf pt nxt
      rw [this, ends_twin]
    rw [← e1]
    exact hb _ (nxt_lt hd) (by rw [sd_nxt hd]; exact e)
  have hW : ∀ k, k < ls.length → (drw ns ls).W (zl ns ls (zf ns ls f)) k = 0 ∨ (drw ns ls).W (zl ns ls (zf ns ls f)) k = if o = f then 1 else -1 := by
    intro k hk
    have ht := rg_twin h hk
    obtain ⟨d, hd, hr, hdk⟩ : ∃ d, d < 2 * ls.length ∧ rg ns ls d = true ∧ d / 2 = k := by
      cases c : rg ns ls (2 * k) with
      | true => exact ⟨2 * k, by omega, c, by omega⟩
      | false => exact ⟨2 * k + 1, by omega, by rw [ht, c]; rfl, by omega⟩
    have := ho f d hd
    unfold wd at this
    rw [if_pos hr, hdk] at this
    by_cases c1 : sd (fcs ns ls) d = f <;> by_cases c2 : o = f
    · rw [if_pos c1, if_pos c2] at this; left; omega
    · rw [if_pos c1, if_neg c2] at this; right; rw [if_neg c2]; omega
    · rw [if_neg c1, if_pos c2] at this; right; rw [if_pos c2]; omega
    · rw [if_neg c1, if_neg c2] at this; left; omega
  have hbox : ∀ k, k < ls.length → zl ns ls (zf ns ls f) k ≠ 0 → ((-hx ≤ (drw ns ls).ya k ∧ -hx ≤ (drw ns ls).yb k) ∧ ((drw ns ls).ya k ≤ -lx ∧ (drw ns ls).yb k ≤ -lx) ∧ 2 * (1000 * ly + lx) ≤ (drw ns ls).xa k ∧ (drw ns ls).xb k ≤ 2 * (1000 * hy + hx)) := by
    intro k hk hz
    rw [zl_ne] at hz
    have hd : ∃ d, d < 2 * ls.length ∧ d / 2 = k ∧ sd (fcs ns ls) d = f := by
      unfold zf at hz
      by_cases c1 : sd (fcs ns ls) (2 * k) = f
      · exact ⟨2 * k, by omega, by omega, c1⟩
      · by_cases c2 : sd (fcs ns ls) (2 * k + 1) = f
        · exact ⟨2 * k + 1, by omega, by omega, c2⟩
        · rw [if_neg c1, if_neg c2] at hz; omega
    obtain ⟨d, hdm, hdk, hds⟩ := hd
    obtain ⟨a, b⟩ := hdart d hdm hds
    have hlr : (lx ≤ (lft ns ls k).1 ∧ ly ≤ (lft ns ls k).2 ∧ (lft ns ls k).1 ≤ hx ∧ (lft ns ls k).2 ≤ hy) ∧ (lx ≤ (rgt ns ls k).1 ∧ ly ≤ (rgt ns ls k).2 ∧ (rgt ns ls k).1 ≤ hx ∧ (rgt ns ls k).2 ≤ hy) := by
      rcases dart_lr h hdm with ⟨_, f1, f2⟩ | ⟨_, f1, f2⟩ <;> rw [hdk] at f1 f2 <;> rw [← f1, ← f2]
      · exact ⟨a, b⟩
      · exact ⟨b, a⟩
    show (-hx ≤ ky (lft ns ls k) ∧ -hx ≤ ky (rgt ns ls k)) ∧ (ky (lft ns ls k) ≤ -lx ∧ ky (rgt ns ls k) ≤ -lx) ∧ 2 * (1000 * ly + lx) ≤ kx (lft ns ls k) ∧ kx (rgt ns ls k) ≤ 2 * (1000 * hy + hx)
    unfold kx ky
    omega
  have hbd := Drw.area_bd (drw_ok h) hcons (s := if o = f then 1 else -1) (by split <;> simp) hW (lo := -hx) (hi := -lx) (x0 := 2 * (1000 * ly + lx)) (x1 := 2 * (1000 * hy + hx)) (by omega) (by omega) (by omega) (by omega) hbox
  have hah := area_hat h hc
  rw [← area_face hf] at hah
  have e1 : (2 * (1000 * hy + hx) - 2 * (1000 * ly + lx)) * (-lx - -hx) = 2000 * ((hx - lx) * (hy - ly)) + 2 * ((hx - lx) * (hx - lx)) := by grind
  rw [e1] at hbd
  have q1 := Int.mul_nonneg (show 0 ≤ 20 - (hx - lx) by omega) (show 0 ≤ 20 + (hx - lx) by omega)
  have q2 : (20 - (hx - lx)) * (20 + (hx - lx)) = 400 - (hx - lx) * (hx - lx) := by grind
  have q3 := Int.mul_nonneg (show 0 ≤ hx - lx by omega) (show 0 ≤ hy - ly by omega)
  generalize (hx - lx) * (hy - ly) = P at *
  generalize (hx - lx) * (hx - lx) = Q at *
  generalize area ns ls ((fcs ns ls).getD f []) = A at *
  obtain ⟨b1, b2, b3⟩ := hbd
  by_cases c : o = f
  · rw [if_pos c] at b1 b2 b3
    exact ⟨by omega, by omega, fun _ => by omega, fun e => absurd c e⟩
  · rw [if_neg c] at b1 b2 b3
    refine ⟨by omega, by omega, fun e => absurd e c, fun _ => ⟨by omega, fun ⟨k, hk, hz⟩ => ?_⟩⟩
    have := b3 ⟨k, hk, (zl_ne).2 hz⟩
    omega
/-- all faces but one have areas above 0 -/
theorem face_signs (hw : whole ns ls = true) : ∃ o, o < (fcs ns ls).length ∧ area ns ls ((fcs ns ls).getD o []) ≤ 0 ∧ (∀ f, f < (fcs ns ls).length → f ≠ o → 0 < area ns ls ((fcs ns ls).getD f [])) ∧
    (∀ f d, d < 2 * ls.length → wd ns ls (zf ns ls f) d = (if sd (fcs ns ls) d = f then 1 else 0) - (if o = f then 1 else 0)) ∧ ∃ d0, d0 < 2 * ls.length ∧ sd (fcs ns ls) d0 = o ∧ ∀ z, Circ ns.length ls z → wd ns ls z d0 = 0 := by
  obtain ⟨h, _⟩ := whole_ok hw
  obtain ⟨o, ho, hof, htop⟩ := wd_face hw
  have hbox : ∀ f d, d < 2 * ls.length → sd (fcs ns ls) d = f → (0 : Int) ≤ (pf ns ls d).1 ∧ 0 ≤ (pf ns ls d).2 ∧ (pf ns ls d).1 ≤ 20 ∧ (pf ns ls d).2 ≤ 20 := by
    intro f d hd _
    have := nok_bd (nok_f h hd)
    omega
  refine ⟨o, ho, (face_area hw hof ho (hbox o) (by omega) (by omega)).2.2.1 rfl, fun f hf hne => ?_, hof, htop⟩
  refine ((face_area hw hof hf (hbox f) (by omega) (by omega)).2.2.2 (Ne.symm hne)).2 ?_
  apply Classical.byContradiction
  intro hcon
  have hz : ∀ k, k < ls.length → zf ns ls f k = 0 := fun k hk => Classical.byContradiction fun e => hcon ⟨k, hk, e⟩
  have hc := planW_conn hw
  have := prs_const (g := fun g : Nat => if g = f then (1 : Int) else 0) (fun k hk _ => by
    have := hz k hk
    unfold zf at this
    show (if sd (fcs ns ls) (2 * k) = f then (1 : Int) else 0) = if sd (fcs ns ls) (2 * k + 1) = f then 1 else 0
    omega) (cn_all hc hf ho)
  rw [if_pos rfl, if_neg (Ne.symm hne)] at this
  omega
/-- the outer face's area is the least that a flow of winding 0 or -1 goes around -/
theorem area_least (hw : whole ns ls = true) {o : Nat} (ho : o < (fcs ns ls).length) (hs : ∀ f, f < (fcs ns ls).length → f ≠ o → 0 < area ns ls ((fcs ns ls).getD f []))
    (htop : ∃ d0, d0 < 2 * ls.length ∧ sd (fcs ns ls) d0 = o ∧ ∀ z, Circ ns.length ls z → wd ns ls z d0 = 0) {z : Nat → Int} (hz : Circ ns.length ls z) (hwd : ∀ d, d < 2 * ls.length → wd ns ls z d = 0 ∨ wd ns ls z d = -1) :
    area ns ls ((fcs ns ls).getD o []) ≤ areaZ ns ls z := by
  obtain ⟨h, _⟩ := whole_ok hw
  have hnx : ∀ d, d < 2 * ls.length → wd ns ls z (nxt ns ls d) = wd ns ls z d := fun d hd => wd_nxt h hz hd
  -- the sum over faces
  have key : ∀ w : Nat → Int, sm (fcs ns ls).length (fun f => w f * area ns ls ((fcs ns ls).getD f [])) = sm ls.length (fun k => (w (sd (fcs ns ls) (2 * k)) - w (sd (fcs ns ls) (2 * k + 1))) * crs ns ls (2 * k)) := by
    intro w
    have e1 : sm (fcs ns ls).length (fun f => w f * area ns ls ((fcs ns ls).getD f [])) = sm (fcs ns ls).length (fun f => sm ls.length (fun k => w f * (zf ns ls f k * crs ns ls (2 * k)))) := sm_congr fun f hf => by
      rw [area_face hf]; unfold areaZ; rw [sm_mul]
    rw [e1, sm_swap]
    refine sm_congr fun k hk => ?_
    have s1 := (sd_spec (ns := ns) (show 2 * k < 2 * ls.length by omega)).1
    have s2 := (sd_spec (ns := ns) (show 2 * k + 1 < 2 * ls.length by omega)).1
    have a1 : sm (fcs ns ls).length (fun f => if sd (fcs ns ls) (2 * k) = f then w f * crs ns ls (2 * k) else 0) = w (sd (fcs ns ls) (2 * k)) * crs ns ls (2 * k) := by
      rw [sm_one s1 (fun i _ hne => if_neg fun e => hne e.symm), if_pos rfl]
    have a2 : sm (fcs ns ls).length (fun f => if sd (fcs ns ls) (2 * k + 1) = f then w f * crs ns ls (2 * k) else 0) = w (sd (fcs ns ls) (2 * k + 1)) * crs ns ls (2 * k) := by
      rw [sm_one s2 (fun i _ hne => if_neg fun e => hne e.symm), if_pos rfl]
    rw [Int.sub_mul, ← a1, ← a2, ← sm_sub]
    refine sm_congr fun f _ => ?_
    unfold zf
    by_cases c1 : sd (fcs ns ls) (2 * k) = f <;> by_cases c2 : sd (fcs ns ls) (2 * k + 1) = f <;> simp [c1, c2, Int.mul_neg]
  have k1 := key (fv ns ls (wd ns ls z))
  have k2 := key (fun _ => 1)
  have e2 : sm ls.length (fun k => ((1 : Int) - 1) * crs ns ls (2 * k)) = 0 := sm_zero fun k _ => by rw [Int.sub_self, Int.zero_mul]
  rw [e2] at k2
  have e1 : sm ls.length (fun k => (fv ns ls (wd ns ls z) (sd (fcs ns ls) (2 * k)) - fv ns ls (wd ns ls z) (sd (fcs ns ls) (2 * k + 1))) * crs ns ls (2 * k)) = areaZ ns ls z := by
    refine sm_congr fun k hk => ?_
    rw [fv_sd hnx (by omega), fv_sd hnx (by omega), wd_twin h z hk]
  rw [e1] at k1
  rw [← k1]
  -- each face's part
  have hface : ∀ f, f < (fcs ns ls).length → ∃ d, d < 2 * ls.length ∧ sd (fcs ns ls) d = f := by
    intro f hf
    obtain ⟨d, hd, ed⟩ := fcs_walk (ns := ns) hf
    exact ⟨d, hd, sd_uniq hd hf (by rw [ed]; exact wlk_self hd)⟩
  obtain ⟨d0, hd0, e0, hz0⟩ := htop
  have hle : sm (fcs ns ls).length (fun f => (if f = o then area ns ls ((fcs ns ls).getD o []) else 0) - 1 * area ns ls ((fcs ns ls).getD f [])) ≤ sm (fcs ns ls).length (fun f => fv ns ls (wd ns ls z) f * area ns ls ((fcs ns ls).getD f [])) := sm_le fun f hf => by
    by_cases c : f = o
    · subst c
      rw [if_pos rfl, ← e0, fv_sd hnx hd0, hz0 z hz]
      omega
    · rw [if_neg c]
      obtain ⟨d, hd, ed⟩ := hface f hf
      have hp := hs f hf c
      rw [← ed, fv_sd hnx hd, ed]
      rcases hwd d hd with e | e <;> rw [e] <;> omega
  rw [sm_sub, k2, sm_one ho (fun i _ hne => if_neg hne), if_pos rfl] at hle
  omega
end
end Go.Proofs.Ytdhmjhoaegdfjaa.Pl
