import Derived.Test.YtdhmjhoaegdfjaaG5
import Derived.Test.YtdhmjhoaegdfjaaG1
import Derived.Test.YtdhmjhoaegdfjaaG9
namespace Go.Proofs.Ytdhmjhoaegdfjaa
open Go.RowKit Go.Sort Go.BigFrame

theorem infoR : (Try.prog.info? 29).map (fun i => (i.zero, i.size, i.bytes)) = some (some (.slice none 0 0), 1, 24) := by kernel_rfl

/-- append of one element: what is written lies in the row of v -/
theorem az_gen2 {P : Program} (t e : TypeId) (z : Value) (sz bytes : Nat) (hu : P.underlying t = some (.slice e)) (hif : (P.info? e).map (fun i => (i.zero, i.size, i.bytes)) = some (some z, sz, bytes))
    (hzs : z.cells.size = sz) (hsz : 0 < sz) (hby : bytes ≤ 1000)
    {ops : Array Oper} {rest : List Oper} {o : Oper} {a : Act} {Q : Exit → Act → World → Prop} {w : World} (s x : Operand) (hgd : o.guard = none)
    (ho : o.op = .call { callee := .builtin .append, args := #[s, x], argTypes := #[t, t] })
    {B0 B : Nat} {v : Value} {n : Nat} {cs : List Value} (hs : a.eval s = v) (hown : OwZ w B0 B e sz v n cs) {g : Nat} {news : List Value} (hx : a.eval x = .slice (some ⟨g, 0, none⟩) 1 1)
    (hl : news.length = sz) (hc : ∀ j u, news[j]? = some u → w.cell? ⟨g, j, none⟩ = some u) (h1 : ∀ u ∈ news, u.oneCell' = true)
    (hn : n ≤ 4000000) (hB : B ≤ w.heap.size)
    (h : ∀ v' w' r, w'.ownsRow B e sz v' (n + 1) (cs ++ news) → (∀ W, Ext W w → W.heap.size ≤ B → Ext W w') → w.grownBy w' r → (∀ q, r = some q → v.ownBlock = some q ∧ B ≤ q ∧ w.ownsRow B e sz v n cs) → wpList P ops Q rest (a.put o.dst v') w') : wpList P ops Q (o :: rest) a w := by
  obtain ⟨i0, hi, hz0, hz1, hz2⟩ := info_parts hif
  have hnews : ∀ j u, news[j]? = some u → w.cell? ((⟨g, 0, none⟩ : Addr).add j) = some u := fun j u hj => by
    have e : (⟨g, 0, none⟩ : Addr).add j = ⟨g, j, none⟩ := by unfold Addr.add; split <;> simp_all
    rw [e]; exact hc j u hj
  have hbb : (n + 1) * bytes ≤ 140737488355328 := by
    have : (n + 1) * bytes ≤ 4000001 * 1000 := Nat.mul_le_mul (by omega) hby
    omega
  have key : ∃ v' w' r, (Builtin.append_ #[t, t] o.type #[v, .slice (some ⟨g, 0, none⟩) 1 1]).run P w = .ok v' w' ∧ w'.ownsRow B e sz v' (n + 1) (cs ++ news) ∧ (∀ W, Ext W w → W.heap.size ≤ B → Ext W w') ∧
      w.grownBy w' r ∧ (∀ q, r = some q → v.ownBlock = some q ∧ B ≤ q ∧ w.ownsRow B e sz v n cs) := by
    rcases hown with hown | ⟨rfl, -, rfl, b, rfl⟩
    · obtain ⟨v', w', hr, h2, h3, _⟩ := run_append_own (P := P) w B t o.type e i0 z sz bytes hu hi hz0 hz1 hz2 hzs hsz v n cs hown ⟨g, 0, none⟩ 1 1 news (by omega) hnews h1 (by unfold maxLen; omega) hbb hB
      exact ⟨v', w', v.ownBlock, hr, h2, fun W hW hWB => ow_grow hown hW hWB h3, h3, fun q hq => ⟨hq, (hown.lt q hq).1, hown⟩⟩
    · obtain ⟨v', w', hr, h2, h3, _⟩ := run_append_own (P := P) w B t o.type e i0 z sz bytes hu hi hz0 hz1 hz2 hzs hsz (.slice none 0 0) 0 [] (World.ownsRow_nil w B _ _) ⟨g, 0, none⟩ 1 1 news (by omega) hnews h1 (by unfold maxLen; omega) hbb hB
      rw [← run_append_zero (P := P) w t o.type e i0 z hu hi hz0 b ⟨g, 0, none⟩ 1 1 news (by omega) hnews (by omega) (by omega) (by omega)] at hr
      exact ⟨v', w', none, hr, h2, fun W hW hWB => ow_grow (World.ownsRow_nil w B e sz) hW hWB h3, h3, fun q hq => by cases hq⟩
  obtain ⟨v', w', r, hr, h2, h3, h4, h5⟩ := key
  refine wpList_plain hgd fun _ hK => ?_
  unfold Oper.wp execOp
  simp only [ho, resolve, invoke, builtin, Sem.run_bind, Sem.run_pure, Result.andThen_ok, List.map_toArray, List.map_cons, List.map_nil, hs, hx, hr]
  exact hK _ _ (h v' w' r h2 h3 h4 h5)

theorem row_ne {w : World} {B B' sz sz' n n' : Nat} {T T' : TypeId} {v v' : Value} {cs cs' : List Value} (h : w.ownsRow B T sz v n cs) (h' : w.ownsRow B' T' sz' v' n' cs') (hT : T ≠ T') : ∀ q, v.ownBlock = some q → v'.ownBlock ≠ some q := by
  intro q hq hq'
  rcases h.2 with ⟨rfl, _⟩ | ⟨g, cap, cur, rfl, _, hg, _⟩
  · simp [Value.ownBlock] at hq
  · rcases h'.2 with ⟨rfl, _⟩ | ⟨g', cap', cur', rfl, _, hg', _⟩
    · simp [Value.ownBlock] at hq'
    · simp [Value.ownBlock] at hq hq'
      subst hq
      subst hq'
      rw [hg] at hg'
      simp at hg'
      exact hT hg'.2

/-- v holds the lists L, of the call's own -/
def OwF (w : World) (B : Nat) (v : Value) (L : List (List Nat)) : Prop :=
  ∃ vs : List Value, w.ownsRow B 29 1 v L.length vs ∧ ∀ i u, vs[i]? = some u → OwI w B u (nl (L.getD i []))
def OzF (w : World) (B0 B : Nat) (v : Value) (L : List (List Nat)) : Prop :=
  ∃ vs : List Value, OwZ w B0 B 29 1 v L.length vs ∧ ∀ i u, vs[i]? = some u → OwI w B u (nl (L.getD i []))
theorem OwF.ext {w w' : World} {B : Nat} {v : Value} {L : List (List Nat)} (h : OwF w B v L) (hx : Ext w w') : OwF w' B v L := by
  obtain ⟨vs, h1, h2⟩ := h
  exact ⟨vs, ow_ext h1 hx, fun i u hu => (h2 i u hu).ext hx⟩
theorem OzF.ext {w w' : World} {B0 B : Nat} {v : Value} {L : List (List Nat)} (h : OzF w B0 B v L) (hx : Ext w w') : OzF w' B0 B v L := by
  obtain ⟨vs, h1, h2⟩ := h
  exact ⟨vs, OwZ.ext h1 hx, fun i u hu => (h2 i u hu).ext hx⟩
theorem OwF.more {w : World} {B B' : Nat} {v : Value} {L : List (List Nat)} (h : OwF w B v L) (hB : B' ≤ B) : OwF w B' v L := by
  obtain ⟨vs, h1, h2⟩ := h
  exact ⟨vs, ow_more h1 hB, fun i u hu => (h2 i u hu).more hB⟩
theorem OzF.own {w : World} {B0 B : Nat} {v : Value} {L : List (List Nat)} (h : OzF w B0 B v L) (hB : B0 ≤ B) : OwF w B0 v L := by
  obtain ⟨vs, h1, h2⟩ := h
  exact ⟨vs, OwZ.own h1 hB, fun i u hu => (h2 i u hu).more hB⟩
theorem OzF.nil (w : World) (B0 B : Nat) : OzF w B0 B (.slice none 0 0) [] := ⟨[], .inl (World.ownsRow_nil w B _ _), fun i u hu => by simp at hu⟩
theorem OzF.zero {w : World} {B0 B : Nat} (g : Nat) (hB : B0 ≤ g) (hg : g = w.heap.size) : OzF (w.alloc (.cells #[] 29)) B0 B (.slice (some ⟨g, 0, none⟩) 0 0) [] := ⟨[], OwZ.zero g hB hg, fun i u hu => by simp at hu⟩
theorem OzF.up {w : World} {B0 B B' : Nat} {v : Value} {L : List (List Nat)} (h : OzF w B0 B v L) (h0 : L = []) (hv : ∃ a, v = .slice (some a) 0 0) (hB : B0 ≤ B) : OzF w B0 B' v L := by
  subst h0
  obtain ⟨vs, h1, h2⟩ := h
  have hvs : vs = [] := by rcases h1 with h1 | ⟨_, _, h1, _⟩; · simpa using h1.1
                           · exact h1
  subst hvs
  exact ⟨[], OwZ.up h1 rfl hv hB, fun i u hu => by simp at hu⟩
theorem OwF.shape {w : World} {B : Nat} {v : Value} {L : List (List Nat)} (h : OwF w B v L) : ∃ A c, v = .slice A L.length c ∧ L.length ≤ c := by
  obtain ⟨vs, h1, _⟩ := h
  obtain ⟨A, c, e, hc, _⟩ := ow_shape h1
  exact ⟨A, c, e, hc⟩
theorem OzF.shape {w : World} {B0 B : Nat} {v : Value} {L : List (List Nat)} (h : OzF w B0 B v L) : ∃ A c, v = .slice A L.length c := by
  obtain ⟨vs, h1, _⟩ := h
  rcases h1 with h1 | ⟨h0, _, _, a, h1⟩
  · obtain ⟨A, c, e, _⟩ := ow_shape h1
    exact ⟨A, c, e⟩
  · exact ⟨some a, 0, by rw [h1, h0]⟩
theorem OwF.at_ {w : World} {B : Nat} {v : Value} {L : List (List Nat)} (h : OwF w B v L) {j : Nat} (hj : j < L.length) :
    ∃ g c A' c', v = .slice (some ⟨g, 0, none⟩) L.length c ∧ w.cell? ⟨g, j, none⟩ = some (.slice A' (L.getD j []).length c') ∧ OwI w B (.slice A' (L.getD j []).length c') (nl (L.getD j [])) := by
  obtain ⟨vs, h1, h2⟩ := h
  have hlen : vs.length = L.length := by have := h1.1; omega
  have hu : vs[j]? = some vs[j] := List.getElem?_eq_getElem (by omega)
  have hi := h2 j _ hu
  obtain ⟨A', c', e, _, _, _⟩ := hi.shape
  rw [nl_len] at e
  rcases h1.2 with ⟨rfl, h0⟩ | ⟨g, cap, cur, rfl, hb, hg, hnc, _⟩
  · omega
  · refine ⟨g, cap, A', c', rfl, ?_, by rw [e] at hi; exact hi⟩
    rw [World.ownsRow.cellAt h1 j (by omega), hu, e]
theorem az_row {ops : Array Oper} {rest : List Oper} {o : Oper} {a : Act} {Q : Exit → Act → World → Prop} {w : World} (s x : Operand) (hgd : o.guard = none)
    (ho : o.op = .call { callee := .builtin .append, args := #[s, x], argTypes := #[34, 34] })
    {B0 B : Nat} {v u : Value} {L : List (List Nat)} {l : List Nat} (hs : a.eval s = v) (hown : OzF w B0 B v L) {g : Nat} (hx : a.eval x = .slice (some ⟨g, 0, none⟩) 1 1) (hc : w.cell? ⟨g, 0, none⟩ = some u) (hu : OwI w B u (nl l))
    (hl : L.length ≤ 4000000) (hB : B ≤ w.heap.size)
    (h : ∀ v' w' r, OzF w' B0 B v' (L ++ [l]) → (∀ W, Ext W w → W.heap.size ≤ B → Ext W w') → w.grownBy w' r → (∀ q, r = some q → B ≤ q ∧ ∀ u2 B2 sz2 n2 T2 cs2, T2 ≠ 29 → w.ownsRow B2 T2 sz2 u2 n2 cs2 → u2.ownBlock ≠ some q) → wpList Try.prog ops Q rest (a.put o.dst v') w') : wpList Try.prog ops Q (o :: rest) a w := by
  obtain ⟨vs, h1, h2⟩ := hown
  have hlen : vs.length = L.length := by
    rcases h1 with h1 | ⟨h0, _, hc0, _⟩
    · have := h1.1; omega
    · rw [hc0]; simp at h0; rw [h0]; rfl
  obtain ⟨Au, cu, eu, _, _, _⟩ := hu.shape
  refine az_gen2 34 29 (.slice none 0 0) 1 24 Try.underlying34 infoR rfl (by omega) (by omega) s x hgd ho hs h1 (news := [u]) hx rfl ?_ ?_ hl hB ?_
  · intro j u' hj
    match j, hj with
    | 0, hj => simp at hj; subst hj; exact hc
  · intro u' hu'; simp at hu'; subst hu'; rw [eu]; rfl
  · intro v' w' r h3 h4 h5 h6
    have hne : ∀ q, r = some q → B ≤ q ∧ ∀ u2 B2 sz2 n2 T2 cs2, T2 ≠ 29 → w.ownsRow B2 T2 sz2 u2 n2 cs2 → u2.ownBlock ≠ some q := fun q hq => by
      obtain ⟨hv, hBq, hrow⟩ := h6 q hq
      exact ⟨hBq, fun u2 B2 sz2 n2 T2 cs2 hT h' e => row_ne hrow h' (Ne.symm hT) q hv e⟩
    have keep : ∀ u2 l2, OwI w B u2 l2 → OwI w' B u2 l2 := fun u2 l2 h' => h'.gb h5 (fun q hq e => (hne q e).2 u2 _ _ _ _ _ (by decide) h' hq)
    refine h v' w' r ⟨vs ++ [u], .inl (by simpa using h3), fun i u' hu' => ?_⟩ h4 h5 hne
    rcases Nat.lt_or_ge i vs.length with hi | hi
    · rw [List.getElem?_append_left hi] at hu'
      have := keep _ _ (h2 i u' hu')
      rwa [show (L ++ [l]).getD i [] = L.getD i [] by rw [List.getD_eq_getElem?_getD, List.getElem?_append_left (by omega), ← List.getD_eq_getElem?_getD]]
    · rw [List.getElem?_append_right hi] at hu'
      have hi0 : i - vs.length = 0 := by
        rcases Nat.eq_zero_or_pos (i - vs.length) with h0 | h0
        · exact h0
        · rw [List.getElem?_eq_none (by simp; omega)] at hu'; cases hu'
      rw [hi0] at hu'
      simp at hu'
      subst hu'
      have : (L ++ [l]).getD i [] = l := by
        rw [List.getD_eq_getElem?_getD, List.getElem?_append_right (by omega)]
        rw [show i - L.length = 0 by omega]
        rfl
      rw [this]
      exact keep _ _ hu
end Go.Proofs.Ytdhmjhoaegdfjaa
