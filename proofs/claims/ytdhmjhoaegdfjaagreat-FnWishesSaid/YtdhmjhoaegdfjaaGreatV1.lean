import Derived.Test.YtdhmjhoaegdfjaaGreatB20
import Derived.Test.YtdhmjhoaegdfjaaGreatG7
import Derived.Test.YtdhmjhoaegdfjaaGreatG9
namespace Go.Proofs.YtdhmjhoaegdfjaaGreat
open Go.RowKit Go.Sort Go.BigFrame

theorem ret_wb {v1 v2 : Value} {a b : Bool} (h : a = b) : Ending.returned (.tuple #[.agg #[v1, v2], .bool a]) = .returned (.tuple #[.agg #[v1, v2], .bool b]) := by rw [h]
theorem wi_iffV {n lo hi : Int} : wi n lo hi = true ↔ lo ≤ n ∧ n ≤ hi := by simp [wi]
theorem OwP.dj {w : World} {B B' : Nat} {t t' : TypeId} {v v' : Value} {l l' : List P2} (h : OwP w B t v l) (h' : OwP w B' t' v' l') (hne : t ≠ t') : ∀ q, v.ownBlock = some q → v'.ownBlock ≠ some q := fun q h1 h2 => by
  rcases h.2 with ⟨e, _⟩ | ⟨g, cap, cur, e, _, hg, _⟩
  · rw [e] at h1; cases h1
  · rcases h'.2 with ⟨e', _⟩ | ⟨g', cap', cur', e', _, hg', _⟩
    · rw [e'] at h2; cases h2
    · rw [e] at h1
      rw [e'] at h2
      have a1 : g = q := by simpa [Value.ownBlock] using h1
      have a2 : g' = q := by simpa [Value.ownBlock] using h2
      subst a1
      subst a2
      rw [hg] at hg'
      injection hg' with hg'
      injection hg' with _ hg' _
      exact hne hg'
def hsLd (ns ls : List P2) (k : Int) : Bool := wok ns ls && wi k 0 (ls.length - 1)
def spLs (ns ls : List P2) (k : Nat) : List P2 := (ls ++ [((gp ls k).2, (ns.length : Int))]).set k ((gp ls k).1, (ns.length : Int))
def spOk (ns ls : List P2) (k : Int) (p : P2) : Bool := hsLd ns ls k && (btw (gp ns (gp ls k).1) (gp ns (gp ls k).2) p && wok (ns ++ [p]) (spLs ns ls k.toNat))
def vSplitLead (ns ls : List P2) (k : Int) (p : P2) : (List P2 × List P2) × Bool := if spOk ns ls k p = true then ((ns ++ [p], spLs ns ls k.toNat), true) else ((ns, ls), false)
theorem wok_lead {ns ls : List P2} {k : Nat} (h : wok ns ls = true) (hk : k < ls.length) : ∃ a b : Nat, gp ls k = ((a : Int), (b : Int)) ∧ a < ns.length ∧ b < ns.length := by
  obtain ⟨i, j, e, hi, hj⟩ := vd_of_ok (wok_iff.1 h) (gp ls k) (by rw [gp_nat ls k hk]; exact List.getElem_mem _)
  exact ⟨i, j, e, hi, hj⟩
theorem OwP.far {w : World} {B g : Nat} {t T' : TypeId} {v : Value} {l : List P2} {cs : List Value} (h : OwP w B t v l) (bk : Bk w g T' cs) (hne : T' ≠ t) (i : Nat) (u : Value) : OwP (w.setCell ⟨g, i, none⟩ u) B t v l :=
  gb_own h (gb_set (gb_refl _ (some g)) i u) fun q hq e => by
    have e' : g = q := by injection e
    subst e'
    rcases h.2 with ⟨e1, _⟩ | ⟨g', cap, cur, e1, _, hg, _⟩
    · rw [e1] at hq; cases hq
    · rw [e1] at hq
      have a1 : g' = g := by simpa [Value.ownBlock] using hq
      subst a1
      unfold Bk at bk
      rw [bk] at hg
      injection hg with hg
      injection hg with _ hg _
      exact hne hg
theorem OwP.nebk {w : World} {B g : Nat} {t T' : TypeId} {v : Value} {l : List P2} {cs : List Value} (h : OwP w B t v l) (bk : Bk w g T' cs) (hne : T' ≠ t) : v.ownBlock ≠ some g := fun hq => by
  rcases h.2 with ⟨e1, _⟩ | ⟨g', cap, cur, e1, _, hg, _⟩
  · rw [e1] at hq; cases hq
  · rw [e1] at hq
    have a1 : g' = g := by simpa [Value.ownBlock] using hq
    subst a1
    unfold Bk at bk
    rw [bk] at hg
    injection hg with hg
    injection hg with _ hg _
    exact hne hg
theorem wn_own {w : World} {B B' : Nat} {t t' : TypeId} {A A' : Option Addr} {n m c d : Nat} {ns ls : List P2} (h : OwP w B t (.slice A n c) ns) (g : OwP w B' t' (.slice A' m d) ls) (hl : ns.length ≤ 2000000) (hm : ls.length ≤ 2000000) : Wn w A c A' d ns ls := by
  obtain ⟨A1, c1, e1, a1, a2, a3⟩ := h.shape
  obtain ⟨A2, c2, e2, b1, b2, b3⟩ := g.shape
  injection e1 with e1 e1' e1''
  injection e2 with e2 e2' e2''
  subst e1
  subst e1''
  subst e2
  subst e2''
  unfold maxLen at a2 b2
  exact ⟨hl, hm, a1, b1, by omega, by omega, a3, b3⟩
theorem gp_app {ls : List P2} {x : P2} {j : Nat} (h : j < ls.length) : gp (ls ++ [x]) (j : Nat) = gp ls (j : Nat) := by
  unfold gp
  simp [List.getD_eq_getElem?_getD, List.getElem?_append_left h]
theorem OwP.set2 {w : World} {B g c n : Nat} {t : TypeId} {l : List P2} (h : OwP w B t (.slice (some ⟨g, 0, none⟩) n c) l) (hn : n = l.length) {j : Nat} (hj : j < l.length) (y : Int) :
    OwP (w.setCell ⟨g, j * 2 + 1, none⟩ (.int .i64 y)) B t (.slice (some ⟨g, 0, none⟩) n c) (l.set j ((gp l j).1, y)) := by
  subst hn
  have h2 := (World.ownsRow.stored h (j * 2 + 1) (.int .i64 y)).1
  unfold OwP
  rw [List.length_set, ← pcs_set l j hj]
  have e : (l.flatMap pc).set (j * 2) (.int .i64 (gp l j).1) = l.flatMap pc := by
    have hl : j * 2 < (l.flatMap pc).length := by rw [pcs_length]; omega
    have h3 := (pcs_get l j hj).1
    rw [List.getElem?_eq_getElem hl] at h3
    have h4 : (l.flatMap pc)[j * 2] = .int .i64 (gp l j).1 := by
      rw [gp_nat l j hj]
      exact Option.some.inj h3
    rw [← h4]
    exact List.set_getElem_self hl
  rw [e]
  exact h2
theorem pr_one {w : World} {t : TypeId} (x y : Int) : Pr (w.alloc (.cells #[.int .i64 x, .int .i64 y] t)) (w.alloc (.cells #[.int .i64 x, .int .i64 y] t)).heap.size (some ⟨w.heap.size, 0, none⟩) [(x, y)] := (Bk.new (w := w) t ([(x, y)].flatMap pc) rfl).sl (n := 1) rfl
theorem pr_oneg {w : World} {g : Nat} {t : TypeId} (hg : g = w.heap.size) (x y : Int) : Pr (w.alloc (.cells #[.int .i64 x, .int .i64 y] t)) (w.alloc (.cells #[.int .i64 x, .int .i64 y] t)).heap.size (some ⟨g, 0, none⟩) [(x, y)] := by
  subst hg
  exact pr_one x y
theorem pr_cells {w : World} {B g : Nat} {x y : Int} (hB : g < B) (h0 : w.cell? ⟨g, 0, none⟩ = some (.int .i64 x)) (h1 : w.cell? ⟨g, 1, none⟩ = some (.int .i64 y)) : Pr w B (some ⟨g, 0, none⟩) [(x, y)] :=
  ⟨rfl, fun _ => ⟨g, 0, rfl, hB, fun j u hj => by
    match j, hj with
    | 0, hj => simp [pc] at hj; subst hj; exact h0
    | 1, hj => simp [pc] at hj; subst hj; exact h1⟩⟩
theorem WindowOk_iL {A B : Option Addr} {c d n m : Nat} {ns ls : List P2} {w : World} (h : Wn w A c B d ns ls) (hn : n = ns.length) (hm : m = ls.length) : Calls Tryz.prog 57 #[.agg #[.slice A n c, .slice B m d]] w fun e w' => e = .returned (.bool (wok ns ls)) ∧ Ext w w' := by
  subst hn; subst hm; exact WindowOk_i' h
theorem WindowOk_sL {A B : Option Addr} {c d n m : Nat} {ns ls : List P2} {w : World} (h : Wn w A c B d ns ls) (hn : n = ns.length) (hm : m = ls.length) : Calls Tryz.prog 52 #[.agg #[.slice A n c, .slice B m d]] w fun e w' => e = .returned (.bool (wok ns ls)) ∧ Ext w w' := by
  subst hn; subst hm; exact WindowOk_s' h
theorem pr_drop {w : World} {B b off : Nat} {l : List P2} {k : Nat} (h : Pr w B (some ⟨b, off, none⟩) l) (hk : k ≤ l.length) : Pr w B (some ⟨b, off + k * 2, none⟩) (l.drop k) := by
  refine ⟨pcs_length _, fun hp => ?_⟩
  obtain ⟨b', off', e, hb, hc⟩ := h.2 (by simp at hp; omega)
  have e := Option.some.inj e
  injection e with e1 e2 _
  subst e1
  subst e2
  refine ⟨b, off + k * 2, rfl, hb, fun j u hj => ?_⟩
  have hap : l.flatMap pc = (l.take k).flatMap pc ++ (l.drop k).flatMap pc := by rw [← List.flatMap_append, List.take_append_drop]
  have hl1 : ((l.take k).flatMap pc).length = k * 2 := by rw [pcs_length]; simp; omega
  have := hc (k * 2 + j) u (by rw [hap, List.getElem?_append_right (by omega), hl1, Nat.add_sub_cancel_left]; exact hj)
  rw [Nat.add_assoc]
  exact this
end Go.Proofs.YtdhmjhoaegdfjaaGreat
