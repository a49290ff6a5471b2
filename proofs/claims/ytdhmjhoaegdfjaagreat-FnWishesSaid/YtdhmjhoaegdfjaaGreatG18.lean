import Derived.Test.YtdhmjhoaegdfjaaGreatG5
import Derived.Test.YtdhmjhoaegdfjaaGreatG1
import Derived.Test.YtdhmjhoaegdfjaaGreatG9
import Derived.Test.YtdhmjhoaegdfjaaGreatG17
import Derived.Test.YtdhmjhoaegdfjaaGreatP8
import Derived.Test.YtdhmjhoaegdfjaaGreatG8
namespace Go.Proofs.YtdhmjhoaegdfjaaGreat
open Go.RowKit Go.Sort Go.BigFrame

theorem infoR : (Tryz.prog.info? 28).map (fun i => (i.zero, i.size, i.bytes)) = some (some (.slice none 0 0), 1, 24) := by kernel_rfl

/-- append of one element: what is written lies in the row of v -/
theorem az_gen2 {P : Program} (t e : TypeId) (z : Value) (sz bytes : Nat) (hu : P.underlying t = some (.slice e)) (hif : (P.info? e).map (fun i => (i.zero, i.size, i.bytes)) = some (some z, sz, bytes))
    (hzs : z.cells.size = sz) (hsz : 0 < sz) (hby : bytes ≤ 1000)
    {ops : Array Oper} {rest : List Oper} {o : Oper} {a : Act} {Q : Exit → Act → World → Prop} {w : World} (s x : Operand) (hgd : o.guard = none)
    (ho : o.op = .call { callee := .builtin .append, args := #[s, x], argTypes := #[t, t] })
    {B0 B : Nat} {v : Value} {n : Nat} {cs : List Value} (hs : a.eval s = v) (hown : OwZ w B0 B e sz v n cs) {g : Nat} {news : List Value} (hx : a.eval x = .slice (some ⟨g, 0, none⟩) 1 1)
    (hl : news.length = sz) (hc : ∀ j u, news[j]? = some u → w.cell? ⟨g, j, none⟩ = some u) (h1 : ∀ u ∈ news, u.oneCell' = true)
    (hn : n ≤ 4000000) (hB : B ≤ w.heap.size)
    (h : ∀ v' w' r, w'.ownsRow B e sz v' (n + 1) (cs ++ news) → (∀ W, Ext W w → W.heap.size ≤ B → Ext W w') → w.grownBy w' r → (∀ q, r = some q → v.ownBlock = some q ∧ B ≤ q ∧ w.ownsRow B e sz v n cs) → wpList P ops Q rest (a.put o.dst v') w') : wpList P ops Q (o :: rest) a w := by
  obtain ⟨i0, hi, hz0, hz1, hz2⟩ := info_parts hif
  have hnews : ∀ j u, news[j]? = some u → w.cell? ((⟨g, 0, none⟩ : Addr).add j) = some u := fun j u hj => by
    have e : (⟨g, 0, none⟩ : Addr).add j = ⟨g, j, none⟩ := by unfold Addr.add; split <;> simp_all
    rw [e]; exact hc j u hj
  have hbb : (n + 1) * bytes ≤ 140737488355328 := by
    have : (n + 1) * bytes ≤ 4000001 * 1000 := Nat.mul_le_mul (by omega) hby
    omega
  have key : ∃ v' w' r, (Builtin.append_ #[t, t] o.type #[v, .slice (some ⟨g, 0, none⟩) 1 1]).run P w = .ok v' w' ∧ w'.ownsRow B e sz v' (n + 1) (cs ++ news) ∧ (∀ W, Ext W w → W.heap.size ≤ B → Ext W w') ∧
      w.grownBy w' r ∧ (∀ q, r = some q → v.ownBlock = some q ∧ B ≤ q ∧ w.ownsRow B e sz v n cs) := by
    rcases hown with hown | ⟨rfl, -, rfl, b, rfl⟩
    · obtain ⟨v', w', hr, h2, h3, _⟩ := run_append_own (P := P) w B t o.type e i0 z sz bytes hu hi hz0 hz1 hz2 hzs hsz v n cs hown ⟨g, 0, none⟩ 1 1 news (by omega) hnews h1 (by unfold maxLen; omega) hbb hB
      exact ⟨v', w', v.ownBlock, hr, h2, fun W hW hWB => ow_grow hown hW hWB h3, h3, fun q hq => ⟨hq, (hown.lt q hq).1, hown⟩⟩
    · obtain ⟨v', w', hr, h2, h3, _⟩ := run_append_own (P := P) w B t o.type e i0 z sz bytes hu hi hz0 hz1 hz2 hzs hsz (.slice none 0 0) 0 [] (World.ownsRow_nil w B _ _) ⟨g, 0, none⟩ 1 1 news (by omega) hnews h1 (by unfold maxLen; omega) hbb hB
      rw [← run_append_zero (P := P) w t o.type e i0 z hu hi hz0 b ⟨g, 0, none⟩ 1 1 news (by omega) hnews (by omega) (by omega) (by omega)] at hr
      exact ⟨v', w', none, hr, h2, fun W hW hWB => ow_grow (World.ownsRow_nil w B e sz) hW hWB h3, h3, fun q hq => by cases hq⟩
  obtain ⟨v', w', r, hr, h2, h3, h4, h5⟩ := key
  refine wpList_plain hgd fun _ hK => ?_
  unfold Oper.wp execOp
  simp only [ho, resolve, invoke, builtin, Sem.run_bind, Sem.run_pure, Result.andThen_ok, List.map_toArray, List.map_cons, List.map_nil, hs, hx, hr]
  exact hK _ _ (h v' w' r h2 h3 h4 h5)

theorem row_ne {w : World} {B B' sz sz' n n' : Nat} {T T' : TypeId} {v v' : Value} {cs cs' : List Value} (h : w.ownsRow B T sz v n cs) (h' : w.ownsRow B' T' sz' v' n' cs') (hT : T ≠ T') : ∀ q, v.ownBlock = some q → v'.ownBlock ≠ some q := by
  intro q hq hq'
  rcases h.2 with ⟨rfl, _⟩ | ⟨g, cap, cur, rfl, _, hg, _⟩
  · simp [Value.ownBlock] at hq
  · rcases h'.2 with ⟨rfl, _⟩ | ⟨g', cap', cur', rfl, _, hg', _⟩
    · simp [Value.ownBlock] at hq'
    · simp [Value.ownBlock] at hq hq'
      subst hq
      subst hq'
      rw [hg] at hg'
      simp at hg'
      exact hT hg'.2

/-- v holds the lists L, of the call's own -/
def OwF (w : World) (B : Nat) (v : Value) (L : List (List Nat)) : Prop :=
  ∃ vs : List Value, w.ownsRow B 28 1 v L.length vs ∧ ∀ i u, vs[i]? = some u → OwI w B u (nl (L.getD i []))
def OzF (w : World) (B0 B : Nat) (v : Value) (L : List (List Nat)) : Prop :=
  ∃ vs : List Value, OwZ w B0 B 28 1 v L.length vs ∧ ∀ i u, vs[i]? = some u → OwI w B u (nl (L.getD i []))
theorem OwF.ext {w w' : World} {B : Nat} {v : Value} {L : List (List Nat)} (h : OwF w B v L) (hx : Ext w w') : OwF w' B v L := by
  obtain ⟨vs, h1, h2⟩ := h
  exact ⟨vs, ow_ext h1 hx, fun i u hu => (h2 i u hu).ext hx⟩
theorem OzF.ext {w w' : World} {B0 B : Nat} {v : Value} {L : List (List Nat)} (h : OzF w B0 B v L) (hx : Ext w w') : OzF w' B0 B v L := by
  obtain ⟨vs, h1, h2⟩ := h
  exact ⟨vs, OwZ.ext h1 hx, fun i u hu => (h2 i u hu).ext hx⟩
theorem OwF.more {w : World} {B B' : Nat} {v : Value} {L : List (List Nat)} (h : OwF w B v L) (hB : B' ≤ B) : OwF w B' v L := by
  obtain ⟨vs, h1, h2⟩ := h
  exact ⟨vs, ow_more h1 hB, fun i u hu => (h2 i u hu).more hB⟩
theorem OzF.own {w : World} {B0 B : Nat} {v : Value} {L : List (List Nat)} (h : OzF w B0 B v L) (hB : B0 ≤ B) : OwF w B0 v L := by
  obtain ⟨vs, h1, h2⟩ := h
  exact ⟨vs, OwZ.own h1 hB, fun i u hu => (h2 i u hu).more hB⟩
theorem OzF.nil (w : World) (B0 B : Nat) : OzF w B0 B (.slice none 0 0) [] := ⟨[], .inl (World.ownsRow_nil w B _ _), fun i u hu => by simp at hu⟩
theorem OzF.zero {w : World} {B0 B : Nat} (g : Nat) (hB : B0 ≤ g) (hg : g = w.heap.size) : OzF (w.alloc (.cells #[] 28)) B0 B (.slice (some ⟨g, 0, none⟩) 0 0) [] := ⟨[], OwZ.zero g hB hg, fun i u hu => by simp at hu⟩
theorem OzF.up {w : World} {B0 B B' : Nat} {v : Value} {L : List (List Nat)} (h : OzF w B0 B v L) (h0 : L = []) (hv : ∃ a, v = .slice (some a) 0 0) (hB : B0 ≤ B) : OzF w B0 B' v L := by
  subst h0
  obtain ⟨vs, h1, h2⟩ := h
  have hvs : vs = [] := by rcases h1 with h1 | ⟨_, _, h1, _⟩; · simpa using h1.1
                           · exact h1
  subst hvs
  exact ⟨[], OwZ.up h1 rfl hv hB, fun i u hu => by simp at hu⟩
theorem OwF.shape {w : World} {B : Nat} {v : Value} {L : List (List Nat)} (h : OwF w B v L) : ∃ A c, v = .slice A L.length c ∧ L.length ≤ c := by
  obtain ⟨vs, h1, _⟩ := h
  obtain ⟨A, c, e, hc, _⟩ := ow_shape h1
  exact ⟨A, c, e, hc⟩
theorem OzF.shape {w : World} {B0 B : Nat} {v : Value} {L : List (List Nat)} (h : OzF w B0 B v L) : ∃ A c, v = .slice A L.length c := by
  obtain ⟨vs, h1, _⟩ := h
  rcases h1 with h1 | ⟨h0, _, _, a, h1⟩
  · obtain ⟨A, c, e, _⟩ := ow_shape h1
    exact ⟨A, c, e⟩
  · exact ⟨some a, 0, by rw [h1, h0]⟩
theorem OwF.at_ {w : World} {B : Nat} {v : Value} {L : List (List Nat)} (h : OwF w B v L) {j : Nat} (hj : j < L.length) :
    ∃ g c A' c', v = .slice (some ⟨g, 0, none⟩) L.length c ∧ w.cell? ⟨g, j, none⟩ = some (.slice A' (L.getD j []).length c') ∧ OwI w B (.slice A' (L.getD j []).length c') (nl (L.getD j [])) := by
  obtain ⟨vs, h1, h2⟩ := h
  have hlen : vs.length = L.length := by have := h1.1; omega
  have hu : vs[j]? = some vs[j] := List.getElem?_eq_getElem (by omega)
  have hi := h2 j _ hu
  obtain ⟨A', c', e, _, _, _⟩ := hi.shape
  rw [nl_len] at e
  rcases h1.2 with ⟨rfl, h0⟩ | ⟨g, cap, cur, rfl, hb, hg, hnc, _⟩
  · omega
  · refine ⟨g, cap, A', c', rfl, ?_, by rw [e] at hi; exact hi⟩
    rw [World.ownsRow.cellAt h1 j (by omega), hu, e]
theorem az_row {ops : Array Oper} {rest : List Oper} {o : Oper} {a : Act} {Q : Exit → Act → World → Prop} {w : World} (s x : Operand) (hgd : o.guard = none)
    (ho : o.op = .call { callee := .builtin .append, args := #[s, x], argTypes := #[52, 52] })
    {B0 B : Nat} {v u : Value} {L : List (List Nat)} {l : List Nat} (hs : a.eval s = v) (hown : OzF w B0 B v L) {g : Nat} (hx : a.eval x = .slice (some ⟨g, 0, none⟩) 1 1) (hc : w.cell? ⟨g, 0, none⟩ = some u) (hu : OwI w B u (nl l))
    (hl : L.length ≤ 4000000) (hB : B ≤ w.heap.size)
    (h : ∀ v' w' r, OzF w' B0 B v' (L ++ [l]) → (∀ W, Ext W w → W.heap.size ≤ B → Ext W w') → w.grownBy w' r → (∀ q, r = some q → B ≤ q ∧ ∀ u2 B2 sz2 n2 T2 cs2, T2 ≠ 28 → w.ownsRow B2 T2 sz2 u2 n2 cs2 → u2.ownBlock ≠ some q) → wpList Tryz.prog ops Q rest (a.put o.dst v') w') : wpList Tryz.prog ops Q (o :: rest) a w := by
  obtain ⟨vs, h1, h2⟩ := hown
  have hlen : vs.length = L.length := by
    rcases h1 with h1 | ⟨h0, _, hc0, _⟩
    · have := h1.1; omega
    · rw [hc0]; simp at h0; rw [h0]; rfl
  obtain ⟨Au, cu, eu, _, _, _⟩ := hu.shape
  refine az_gen2 52 28 (.slice none 0 0) 1 24 Tryz.underlying52 infoR rfl (by omega) (by omega) s x hgd ho hs h1 (news := [u]) hx rfl ?_ ?_ hl hB ?_
  · intro j u' hj
    match j, hj with
    | 0, hj => simp at hj; subst hj; exact hc
  · intro u' hu'; simp at hu'; subst hu'; rw [eu]; rfl
  · intro v' w' r h3 h4 h5 h6
    have hne : ∀ q, r = some q → B ≤ q ∧ ∀ u2 B2 sz2 n2 T2 cs2, T2 ≠ 28 → w.ownsRow B2 T2 sz2 u2 n2 cs2 → u2.ownBlock ≠ some q := fun q hq => by
      obtain ⟨hv, hBq, hrow⟩ := h6 q hq
      exact ⟨hBq, fun u2 B2 sz2 n2 T2 cs2 hT h' e => row_ne hrow h' (Ne.symm hT) q hv e⟩
    have keep : ∀ u2 l2, OwI w B u2 l2 → OwI w' B u2 l2 := fun u2 l2 h' => h'.gb h5 (fun q hq e => (hne q e).2 u2 _ _ _ _ _ (by decide) h' hq)
    refine h v' w' r ⟨vs ++ [u], .inl (by simpa using h3), fun i u' hu' => ?_⟩ h4 h5 hne
    rcases Nat.lt_or_ge i vs.length with hi | hi
    · rw [List.getElem?_append_left hi] at hu'
      have := keep _ _ (h2 i u' hu')
      rwa [show (L ++ [l]).getD i [] = L.getD i [] by rw [List.getD_eq_getElem?_getD, List.getElem?_append_left (by omega), ← List.getD_eq_getElem?_getD]]
    · rw [List.getElem?_append_right hi] at hu'
      have hi0 : i - vs.length = 0 := by
        rcases Nat.eq_zero_or_pos (i - vs.length) with h0 | h0
        · exact h0
        · rw [List.getElem?_eq_none (by simp; omega)] at hu'; cases hu'
      rw [hi0] at hu'
      simp at hu'
      subst hu'
      have : (L ++ [l]).getD i [] = l := by
        rw [List.getD_eq_getElem?_getD, List.getElem?_append_right (by omega)]
        rw [show i - L.length = 0 by omega]
        rfl
      rw [this]
      exact keep _ _ hu
end Go.Proofs.YtdhmjhoaegdfjaaGreat

namespace Go.Proofs.YtdhmjhoaegdfjaaGreat
open Go.RowKit Go.Sort Go.BigFrame

def slen : Value → Nat
  | .slice _ n _ => n
  | _ => 0

set_option maxRecDepth 100000 in
set_option maxHeartbeats 4000000 in
theorem l05Step_c (A B : Option Addr) (c d : Nat) (ns ls : List P2) (x : Nat) (w : World) (h : Wn w A c B d ns ls) (hW : WOk ns ls) (hxd : x < 2 * ls.length) :
    Calls Tryz.prog 91 #[.agg #[.slice A ns.length c, .slice B ls.length d], .int .i64 (x : Int), .int .i64 (-1)] w fun e w' => e = .returned (.int .i64 ((prevD ns ls x : Nat) : Int)) ∧ Ext w w' := by
  have hm := hW.le
  have HW := Lib.hid hW
  obtain ⟨f, t, hft, hf, ht⟩ := dEnds_ok hW hxd
  have HFT := Lib.hid hft
  have HF : Hid ((dEnds ls x).1 = (f : Int)) := Lib.hid (by rw [hft])
  have hxm := arnd_self (ns := ns) hxd
  have HE := Lib.hid (prevD_eq ns ls x)
  rw [HF.out] at HE hxm
  have hl := arnd_len40 ns ls f hm
  clear hW hft
  generalize hLL : arnd ns ls f = l at *
  have HLL := Lib.hid hLL
  clear hLL
  have hil := List.idxOf_lt_length_of_mem hxm
  have HNL := Lib.hid (nl_len l)
  have HPI : Hid (((l.idxOf x : Int) + -1) % (l.length : Int) = (((l.idxOf x + (l.length - 1)) % l.length : Nat) : Int)) := Lib.hid (by rw [← prev_idx hil, Int.add_emod_right])
  have hpl : (l.idxOf x + (l.length - 1)) % l.length < l.length := Nat.mod_lt _ (by omega)
  have HIX : Hid (l.getD (l.idxOf x) 0 = x) := Lib.hid (by rw [getD_at l hil]; exact List.getElem_idxOf hil)
  go_enter Tryz.func91, Tryz.ntmps91
  go_wp2_with fail
  have k0 : (w.alloc (.cells #[.slice A ns.length c, .slice B ls.length d] 27)).cell? ⟨w.heap.size, 0, none⟩ = some (.slice A ns.length c) := by go_simp
  have k1 : (w.alloc (.cells #[.slice A ns.length c, .slice B ls.length d] 27)).cell? ⟨w.heap.size, 1, none⟩ = some (.slice B ls.length d) := by go_simp
  have hx : Ext w (w.alloc (.cells #[.slice A ns.length c, .slice B ls.length d] 27)) := (by repeat first | exact Ext.refl _ | assumption | refine Ext.drew ?_ | refine Ext.alloc ?_ _ | refine Ext.setCell ?_ (by simp) | refine Ext.setCell ?_ (by simp; omega) | refine Ext.trans ?_ (by assumption))
  have hsz1 : w.heap.size + 1 = (w.alloc (.cells #[.slice A ns.length c, .slice B ls.length d] 27)).heap.size := by simp
  generalize (w.alloc (.cells #[.slice A ns.length c, .slice B ls.length d] 27)) = w1 at *
  (try rw [hsz1])
  refine (l05Ends_s A B c d ns ls x _ (h.ext hx) hxd).mono ?_
  rw [HFT.out]
  rintro e w2 ⟨rfl, hb⟩
  have k0 := hb.lit k0
  have k1 := hb.lit k1
  have hx := hx.trans hb
  clear hb
  go_wp2_with fail
  refine (l05Around_s A B c d ns ls f _ (h.ext hx) HW.out hf).mono ?_
  rw [HLL.out]
  rintro e w3 ⟨v, rfl, hv, hb⟩
  have hx := hx.trans hb
  obtain ⟨A5, c5, rfl, -, -, hin⟩ := hv.shape
  rw [HNL.out]
  have HIN := Lib.hid hin
  clear k0 k1 hb hin hv
  go_wp2_with fail
  go_loop [10] (fun i => ∃ j : Nat, j ≤ l.length ∧ i = .int .i64 j ∧ Hid (∀ i, i < j → l.getD i 0 ≠ x)) (fun i => l.length - (intOf i).toNat)
  case atStart => exact ⟨0, by omega, rfl, Lib.hid (fun i hi => by omega)⟩
  case round =>
    obtain ⟨j, hj, rfl, ha⟩ := hrel
    by_cases hlt : j < l.length
    · obtain ⟨b, off, rfl, hbb, c1⟩ := HIN.out.gi_ (k := j) (by rw [HNL.out]; exact hlt)
      rw [nl_gi l hlt] at c1
      by_cases he : l.getD j 0 = x
      · have hje : l.idxOf x = j := idxOf_at hlt he ha.out
        obtain ⟨b', off', e2, hbb2, c2⟩ := HIN.out.gi_ (k := (l.idxOf x + (l.length - 1)) % l.length) (by rw [HNL.out]; exact hpl)
        obtain ⟨rfl, rfl⟩ : b = b' ∧ off = off' := by simpa using e2
        rw [nl_gi l hpl, ← HE.out] at c2
        rw [he] at c1
        have hpi := HPI.out
        rw [hje] at hpi c2 hpl
        have hq : ((x : Int) == (x : Int)) = true := by simp
        clear HPI HIX hil he hje e2
        generalize (j + (l.length - 1)) % l.length = p at *
        generalize hy : prevD ns ls x = y at *
        have hpl2 : (p : Int) < l.length := by omega
        go_wp2
        go_ret
        exact ⟨by first | rfl | (rw [hy]; rfl), hx⟩
      · have hk : Hid (∀ i, i < j + 1 → l.getD i 0 ≠ x) := Lib.hid (fun i hi => by
          rcases Nat.lt_succ_iff_lt_or_eq.1 hi with h | h
          · exact ha.out i h
          · subst h; exact he)
        have hq : (((l.getD j 0 : Nat) : Int) == (x : Int)) = false := beq_eq_false_iff_ne.2 (by omega)
        clear HPI
        generalize l.getD j 0 = y at *
        go_wp2
        go_round
        case rel => exact ⟨j + 1, by omega, by go_num, hk⟩
        case measure => simp [intOf]; omega
    · exfalso
      exact ha.out (l.idxOf x) (by omega) HIX.out

set_option maxRecDepth 100000 in
set_option maxHeartbeats 4000000 in
theorem l06Next_c (A B : Option Addr) (c d : Nat) (ns ls : List P2) (x : Nat) (w : World) (h : Wn w A c B d ns ls) (hW : WOk ns ls) (hxd : x < 2 * ls.length) :
    Calls Tryz.prog 73 #[.agg #[.slice A ns.length c, .slice B ls.length d], .int .i64 (x : Int)] w fun e w' => e = .returned (.int .i64 ((nxt ns ls x : Nat) : Int)) ∧ Ext w w' := by
  have HW := Lib.hid hW
  have hm := hW.le
  have xx := xor1_w x (by omega)
  have hx1 := xor1_lt hxd
  have HN : Hid (prevD ns ls (x ^^^ 1) = nxt ns ls x) := Lib.hid rfl
  clear hW
  go_enter Tryz.func73, Tryz.ntmps73
  go_wp2_with fail
  have k0 : (w.alloc (.cells #[.slice A ns.length c, .slice B ls.length d] 27)).cell? ⟨w.heap.size, 0, none⟩ = some (.slice A ns.length c) := by go_simp
  have k1 : (w.alloc (.cells #[.slice A ns.length c, .slice B ls.length d] 27)).cell? ⟨w.heap.size, 1, none⟩ = some (.slice B ls.length d) := by go_simp
  have hx : Ext w (w.alloc (.cells #[.slice A ns.length c, .slice B ls.length d] 27)) := (by repeat first | exact Ext.refl _ | assumption | refine Ext.drew ?_ | refine Ext.alloc ?_ _ | refine Ext.setCell ?_ (by simp) | refine Ext.setCell ?_ (by simp; omega) | refine Ext.trans ?_ (by assumption))
  have hsz1 : w.heap.size + 1 = (w.alloc (.cells #[.slice A ns.length c, .slice B ls.length d] 27)).heap.size := by simp
  generalize (w.alloc (.cells #[.slice A ns.length c, .slice B ls.length d] 27)) = w1 at *
  (try rw [hsz1])
  refine (l05Step_c A B c d ns ls (x ^^^ 1) _ (h.ext hx) HW.out hx1).mono ?_
  rw [HN.out]
  rintro e w2 ⟨rfl, hb⟩
  go_wp2
  go_ret
  exact ⟨rfl, hx.trans hb⟩

set_option maxRecDepth 100000 in
set_option maxHeartbeats 4000000 in
theorem l06Walk_c (A B : Option Addr) (c d : Nat) (ns ls : List P2) (x : Nat) (w : World) (h : Wn w A c B d ns ls) (hW : WOk ns ls) (hxd : x < 2 * ls.length) :
    Calls Tryz.prog 54 #[.agg #[.slice A ns.length c, .slice B ls.length d], .int .i64 (x : Int)] w fun e w' => ∃ v, e = .returned v ∧ OwI w' w.heap.size v (nl (wlk ns ls x)) ∧ Ext w w' := by
  have hm := hW.le
  have HW := Lib.hid hW
  obtain ⟨p1, p2, p3, p4⟩ := per_ok (ns := ns) hxd
  have HL : Hid (wlk ns ls x = wlkR ns ls x (perd (nxt ns ls) (2 * ls.length) x)) := Lib.hid rfl
  have HR := Lib.hid (wlkR_succ ns ls x)
  have HT := Lib.hid (itr_nxt_lt (ns := ns) hxd)
  have HP3 := Lib.hid p3
  have HP4 := Lib.hid p4
  clear hW p3 p4
  generalize perd (nxt ns ls) (2 * ls.length) x = p at *
  go_enter Tryz.func54, Tryz.ntmps54
  go_wp2_with fail
  have k0 : (w.alloc (.cells #[.slice A ns.length c, .slice B ls.length d] 27)).cell? ⟨w.heap.size, 0, none⟩ = some (.slice A ns.length c) := by go_simp
  have k1 : (w.alloc (.cells #[.slice A ns.length c, .slice B ls.length d] 27)).cell? ⟨w.heap.size, 1, none⟩ = some (.slice B ls.length d) := by go_simp
  have hx : Ext w (w.alloc (.cells #[.slice A ns.length c, .slice B ls.length d] 27)) := (by repeat first | exact Ext.refl _ | assumption | refine Ext.drew ?_ | refine Ext.alloc ?_ _ | refine Ext.setCell ?_ (by simp) | refine Ext.setCell ?_ (by simp; omega) | refine Ext.trans ?_ (by assumption))
  have hsz1 : w.heap.size + 1 = (w.alloc (.cells #[.slice A ns.length c, .slice B ls.length d] 27)).heap.size := by simp
  generalize (w.alloc (.cells #[.slice A ns.length c, .slice B ls.length d] 27)) = w1 at *
  (try rw [hsz1])
  have kk0 := k0
  have kk1 := k1
  have hv0 : OwI (w1.alloc (.cells #[.int .i64 (x : Int)] 3)) w1.heap.size (.slice (some ⟨w1.heap.size, 0, none⟩) 1 1) (nl (wlkR ns ls x 1)) := OwI.new (xs := [(x : Int)]) (Bk.new _ _ rfl) (Nat.le_refl _) (by simp; unfold maxLen; omega)
  have hb0 : Ext w1 (w1.alloc (.cells #[.int .i64 (x : Int)] 3)) := (by repeat first | exact Ext.refl _ | assumption | refine Ext.drew ?_ | refine Ext.alloc ?_ _ | refine Ext.setCell ?_ (by simp) | refine Ext.setCell ?_ (by simp; omega) | refine Ext.trans ?_ (by assumption))
  generalize (w1.alloc (.cells #[.int .i64 (x : Int)] 3)) = w2 at *
  have k0 := hb0.lit k0
  have k1 := hb0.lit k1
  refine (l06Next_c A B c d ns ls x _ (h.ext (hx.trans (by repeat first | exact Ext.refl _ | assumption | refine Ext.drew ?_ | refine Ext.alloc ?_ _ | refine Ext.setCell ?_ (by simp) | refine Ext.setCell ?_ (by simp; omega) | refine Ext.trans ?_ (by assumption)))) HW.out hxd).mono ?_
  rintro e w3 ⟨rfl, hb3⟩
  have hv0 := hv0.ext hb3
  have hb0 := hb0.trans hb3
  have k0 := hb3.lit k0
  have k1 := hb3.lit k1
  have HN : Hid (nxt ns ls x = itr (nxt ns ls) 1 x) := Lib.hid rfl
  rw [HN.out]
  clear hb3 k0 k1
  go_wp2_with fail
  go_loopw [5, 6] (fun v e wr => ∃ r : Nat, 1 ≤ r ∧ r ≤ p ∧ e = .int .i64 (itr (nxt ns ls) r x : Nat) ∧ OwI wr w1.heap.size v (nl (wlkR ns ls x r)) ∧ Ext w1 wr) (fun v _ _ => p - slen v)
  case atStart => exact ⟨1, Nat.le_refl _, p1, rfl, hv0, hb0⟩
  case round =>
    clear hv0 hb0
    obtain ⟨r, hr1, hr, rfl, hv, hxr⟩ := hrel
    obtain ⟨wo, rfl⟩ : ∃ x : World, x = wr := ⟨_, rfl⟩
    have k0 := hxr.lit kk0
    have k1 := hxr.lit kk1
    have hx0 := hx.trans hxr
    have hsz := hxr.size
    have HLN : Hid ((nl (wlkR ns ls x r)).length = r) := Lib.hid (by rw [nl_len, wlkR_len])
    obtain ⟨A5, c5, rfl, -⟩ := hv.shape
    rw [HLN.out] at hv
    rw [HLN.out]
    by_cases hlt : r < p
    · have hne := HP4.out r hr1 hlt
      have hq : (((itr (nxt ns ls) r x : Nat) : Int) != (x : Int)) = true := bne_iff_ne.2 (by omega)
      have HS := Lib.hid (HR.out r)
      have hel := HT.out r
      have HN : Hid (nxt ns ls (itr (nxt ns ls) r x) = itr (nxt ns ls) (r + 1) x) := Lib.hid rfl
      generalize he : itr (nxt ns ls) r x = e at *
      go_wp2_with (at_builtin; refine az_int2 (B0 := 0) _ _ rfl rfl rfl (.of (hv.ext ((Ext.refl wo).alloc _))) (g := wo.heap.size) (y := e) (by first | rfl | simp) (by go_simp) (by rw [HLN.out]; omega) (by simp; omega) ?_)
      intro v' w4 h1 h3
      obtain ⟨A6, c6, he6, -⟩ := h1.shape
      rw [List.length_append, HLN.out, List.length_singleton] at he6
      subst he6
      have hx4 : Ext w1 w4 := h3 _ (hxr.trans (by repeat first | exact Ext.refl _ | assumption | refine Ext.drew ?_ | refine Ext.alloc ?_ _ | refine Ext.setCell ?_ (by simp) | refine Ext.setCell ?_ (by simp; omega) | refine Ext.trans ?_ (by assumption))) (Nat.le_refl _)
      have k0 := hx4.lit kk0
      have k1 := hx4.lit kk1
      go_wp2_with fail
      refine (l06Next_c A B c d ns ls e _ (h.ext (hx.trans hx4)) HW.out hel).mono ?_
      rintro e' w5 ⟨rfl, hb5⟩
      rw [HN.out]
      go_wp2
      go_roundw
      case rel => exact ⟨r + 1, by omega, by omega, rfl, by rw [HS.out, nl_snoc]; exact h1.ext hb5, hx4.trans hb5⟩
      case measure => simp [slen]; omega
    · obtain rfl : r = p := by omega
      have hq : (((itr (nxt ns ls) r x : Nat) : Int) != (x : Int)) = false := by rw [HP3.out]; simp
      go_wp2
      go_ret
      exact ⟨_, rfl, by rw [HL.out]; exact hv.more hx.size, hx0⟩
end Go.Proofs.YtdhmjhoaegdfjaaGreat

namespace Go.Proofs.YtdhmjhoaegdfjaaGreat
open Go.RowKit Go.Sort Go.BigFrame

set_option maxRecDepth 100000 in
set_option maxHeartbeats 4000000 in
theorem walk_c (A B : Option Addr) (c d : Nat) (ns ls : List P2) (x : Nat) (w : World) (h : Wn w A c B d ns ls) (hW : WOk ns ls) (hxd : x < 2 * ls.length) :
    Calls Tryz.prog 59 #[.agg #[.slice A ns.length c, .slice B ls.length d], .int .i64 (x : Int)] w fun e w' => ∃ v, e = .returned v ∧ OwI w' w.heap.size v (nl (wlk ns ls x)) ∧ Ext w w' := by
  have hm := hW.le
  have HW := Lib.hid hW
  obtain ⟨p1, p2, p3, p4⟩ := per_ok (ns := ns) hxd
  have HL : Hid (wlk ns ls x = wlkR ns ls x (perd (nxt ns ls) (2 * ls.length) x)) := Lib.hid rfl
  have HR := Lib.hid (wlkR_succ ns ls x)
  have HT := Lib.hid (itr_nxt_lt (ns := ns) hxd)
  have HP3 := Lib.hid p3
  have HP4 := Lib.hid p4
  clear hW p3 p4
  generalize perd (nxt ns ls) (2 * ls.length) x = p at *
  have xx := xor1_w x (by omega)
  have hx1 := xor1_lt hxd
  go_enter Tryz.func59, Tryz.ntmps59
  go_wp2_with fail
  have k0 : (w.alloc (.cells #[.slice A ns.length c, .slice B ls.length d] 27)).cell? ⟨w.heap.size, 0, none⟩ = some (.slice A ns.length c) := by go_simp
  have k1 : (w.alloc (.cells #[.slice A ns.length c, .slice B ls.length d] 27)).cell? ⟨w.heap.size, 1, none⟩ = some (.slice B ls.length d) := by go_simp
  have hx : Ext w (w.alloc (.cells #[.slice A ns.length c, .slice B ls.length d] 27)) := (by repeat first | exact Ext.refl _ | assumption | refine Ext.drew ?_ | refine Ext.alloc ?_ _ | refine Ext.setCell ?_ (by simp) | refine Ext.setCell ?_ (by simp; omega) | refine Ext.trans ?_ (by assumption))
  have hsz1 : w.heap.size + 1 = (w.alloc (.cells #[.slice A ns.length c, .slice B ls.length d] 27)).heap.size := by simp
  generalize (w.alloc (.cells #[.slice A ns.length c, .slice B ls.length d] 27)) = w1 at *
  (try rw [hsz1])
  have kk0 := k0
  have kk1 := k1
  have hv0 : OwI (w1.alloc (.cells #[.int .i64 (x : Int)] 3)) w1.heap.size (.slice (some ⟨w1.heap.size, 0, none⟩) 1 1) (nl (wlkR ns ls x 1)) := OwI.new (xs := [(x : Int)]) (Bk.new _ _ rfl) (Nat.le_refl _) (by simp; unfold maxLen; omega)
  have hb0 : Ext w1 (w1.alloc (.cells #[.int .i64 (x : Int)] 3)) := (by repeat first | exact Ext.refl _ | assumption | refine Ext.drew ?_ | refine Ext.alloc ?_ _ | refine Ext.setCell ?_ (by simp) | refine Ext.setCell ?_ (by simp; omega) | refine Ext.trans ?_ (by assumption))
  generalize (w1.alloc (.cells #[.int .i64 (x : Int)] 3)) = w2 at *
  have k0 := hb0.lit k0
  have k1 := hb0.lit k1
  refine (beside_c A B c d ns ls (x ^^^ 1) _ (h.ext (hx.trans (by repeat first | exact Ext.refl _ | assumption | refine Ext.drew ?_ | refine Ext.alloc ?_ _ | refine Ext.setCell ?_ (by simp) | refine Ext.setCell ?_ (by simp; omega) | refine Ext.trans ?_ (by assumption)))) HW.out hx1).mono ?_
  rintro e w3 ⟨rfl, hb3⟩
  have hv0 := hv0.ext hb3
  have hb0 := hb0.trans hb3
  have k0 := hb3.lit k0
  have k1 := hb3.lit k1
  have HN : Hid (prevD ns ls (x ^^^ 1) = itr (nxt ns ls) 1 x) := Lib.hid rfl
  rw [HN.out]
  clear hb3 k0 k1
  go_wp2_with fail
  go_loopw [5, 6] (fun v e wr => ∃ r : Nat, 1 ≤ r ∧ r ≤ p ∧ e = .int .i64 (itr (nxt ns ls) r x : Nat) ∧ OwI wr w1.heap.size v (nl (wlkR ns ls x r)) ∧ Ext w1 wr) (fun v _ _ => p - slen v)
  case atStart => exact ⟨1, Nat.le_refl _, p1, rfl, hv0, hb0⟩
  case round =>
    clear hv0 hb0
    obtain ⟨r, hr1, hr, rfl, hv, hxr⟩ := hrel
    obtain ⟨wo, rfl⟩ : ∃ x : World, x = wr := ⟨_, rfl⟩
    have k0 := hxr.lit kk0
    have k1 := hxr.lit kk1
    have hx0 := hx.trans hxr
    have hsz := hxr.size
    have HLN : Hid ((nl (wlkR ns ls x r)).length = r) := Lib.hid (by rw [nl_len, wlkR_len])
    obtain ⟨A5, c5, rfl, -⟩ := hv.shape
    rw [HLN.out] at hv
    rw [HLN.out]
    by_cases hlt : r < p
    · have hne := HP4.out r hr1 hlt
      have hq : (((itr (nxt ns ls) r x : Nat) : Int) != (x : Int)) = true := bne_iff_ne.2 (by omega)
      have HS := Lib.hid (HR.out r)
      have hel := HT.out r
      have HN : Hid (prevD ns ls (itr (nxt ns ls) r x ^^^ 1) = itr (nxt ns ls) (r + 1) x) := Lib.hid rfl
      generalize he : itr (nxt ns ls) r x = e at *
      have xx2 := xor1_w e (by omega)
      have hx2 := xor1_lt hel
      go_wp2_with (at_builtin; refine az_int2 (B0 := 0) _ _ rfl rfl rfl (.of (hv.ext ((Ext.refl wo).alloc _))) (g := wo.heap.size) (y := e) (by first | rfl | simp) (by go_simp) (by rw [HLN.out]; omega) (by simp; omega) ?_)
      intro v' w4 h1 h3
      obtain ⟨A6, c6, he6, -⟩ := h1.shape
      rw [List.length_append, HLN.out, List.length_singleton] at he6
      subst he6
      have hx4 : Ext w1 w4 := h3 _ (hxr.trans (by repeat first | exact Ext.refl _ | assumption | refine Ext.drew ?_ | refine Ext.alloc ?_ _ | refine Ext.setCell ?_ (by simp) | refine Ext.setCell ?_ (by simp; omega) | refine Ext.trans ?_ (by assumption))) (Nat.le_refl _)
      have k0 := hx4.lit kk0
      have k1 := hx4.lit kk1
      go_wp2_with fail
      refine (beside_c A B c d ns ls (e ^^^ 1) _ (h.ext (hx.trans hx4)) HW.out hx2).mono ?_
      rintro e' w5 ⟨rfl, hb5⟩
      rw [HN.out]
      go_wp2
      go_roundw
      case rel => exact ⟨r + 1, by omega, by omega, rfl, by rw [HS.out, nl_snoc]; exact h1.ext hb5, hx4.trans hb5⟩
      case measure => simp [slen]; omega
    · obtain rfl : r = p := by omega
      have hq : (((itr (nxt ns ls) r x : Nat) : Int) != (x : Int)) = false := by rw [HP3.out]; simp
      go_wp2
      go_ret
      exact ⟨_, rfl, by rw [HL.out]; exact hv.more hx.size, hx0⟩
end Go.Proofs.YtdhmjhoaegdfjaaGreat

namespace Go.Proofs.YtdhmjhoaegdfjaaGreat
open Go.RowKit Go.Sort Go.BigFrame

theorem infoB : (Tryz.prog.info? 4).map (fun i => (i.zero, i.size, i.bytes)) = some (some (.bool false), 1, 1) := by kernel_rfl

/-- v is a slice of bools of the call's own -/
def OwB (w : World) (B : Nat) (v : Value) (bs : List Bool) : Prop := w.ownsRow B 4 1 v bs.length (bs.map Value.bool)
theorem OwB.ext {w w' : World} {B : Nat} {v : Value} {bs : List Bool} (h : OwB w B v bs) (hx : Ext w w') : OwB w' B v bs := ow_ext h hx
theorem OwB.set_ {w : World} {B g c n : Nat} {bs : List Bool} (h : OwB w B (.slice (some ⟨g, 0, none⟩) n c) bs) (hn : n = bs.length) (j : Nat) (y : Bool) : OwB (w.setCell ⟨g, j, none⟩ (.bool y)) B (.slice (some ⟨g, 0, none⟩) n c) (bs.set j y) := by
  subst hn
  have := (World.ownsRow.stored h j (.bool y)).1
  unfold OwB
  rw [List.length_set, List.map_set]
  exact this
theorem OwB.new {w : World} {B g : Nat} {bs : List Bool} (h : Bk w g 4 (bs.map Value.bool)) (hB : B ≤ g) (hl : bs.length ≤ maxLen) : OwB w B (.slice (some ⟨g, 0, none⟩) bs.length bs.length) bs :=
  ⟨by simp, .inr ⟨g, bs.length, _, rfl, hB, h, Nat.le_refl _, hl, by simp, List.take_of_length_le (by simp)⟩⟩
theorem OwB.cel {w : World} {B g n c : Nat} {bs : List Bool} (h : OwB w B (.slice (some ⟨g, 0, none⟩) n c) bs) {j : Nat} {b : Bool} (hj : bs[j]? = some b) : w.cell? ⟨g, j, none⟩ = some (.bool b) ∧ w.frozen? ⟨g, j, none⟩ = false := by
  have hl : j < bs.length := by
    rcases Nat.lt_or_ge j bs.length with h' | h'
    · exact h'
    · rw [List.getElem?_eq_none h'] at hj; cases hj
  rcases h.2 with ⟨_, h0⟩ | ⟨g', cap, cur, e, _⟩
  · omega
  · injection e with e1 e2 e3
    injection e1 with e1
    injection e1 with e1
    subst e1
    subst e2
    subst e3
    refine ⟨?_, World.ownsRow.frozenAt h j⟩
    rw [World.ownsRow.cellAt h j (by omega), List.getElem?_map, hj]; rfl
theorem OwB.gb {w w' : World} {B : Nat} {v : Value} {bs : List Bool} {r : Option Nat} (h : OwB w B v bs) (k : w.grownBy w' r) (hr : ∀ g, v.ownBlock = some g → r ≠ some g) : OwB w' B v bs := gb_own h k hr

/-- at block q stand cells of type T -/
def BlkT (w : World) (q : Nat) (T : TypeId) : Prop := ∃ cur fr, w.heap[q]? = some (.cells cur T fr)
theorem own_blkT {w : World} {B : Nat} {e : TypeId} {sz n : Nat} {v : Value} {cs : List Value} (h : w.ownsRow B e sz v n cs) : ∀ q, v.ownBlock = some q → BlkT w q e := by
  intro q hq
  rcases h.2 with ⟨rfl, _⟩ | ⟨g, cap, cur, rfl, _, hg, _⟩
  · simp [Value.ownBlock] at hq
  · simp [Value.ownBlock] at hq
    subst hq
    exact ⟨_, _, hg⟩
theorem own_kept {w w' : World} {B : Nat} {e : TypeId} {sz n : Nat} {v : Value} {cs : List Value} {r : Option Nat} (h : w.ownsRow B e sz v n cs) (k : w.grownBy w' r) (hr : ∀ q, r = some q → ∃ T, T ≠ e ∧ BlkT w q T) : w'.ownsRow B e sz v n cs :=
  gb_own h k (fun g hv hr' => by
    obtain ⟨T, hT, c, f, hb⟩ := hr g hr'
    obtain ⟨c', f', hb'⟩ := own_blkT h g hv
    rw [hb] at hb'
    injection hb' with hb'
    injection hb' with _ hb'
    exact hT hb')
theorem ozf_kept {w w' : World} {B0 B : Nat} {v : Value} {L : List (List Nat)} {r : Option Nat} (h : OzF w B0 B v L) (k : w.grownBy w' r) (hr : ∀ q, r = some q → BlkT w q 4) : OzF w' B0 B v L := by
  obtain ⟨vs, h1, h2⟩ := h
  refine ⟨vs, h1.imp (fun h => own_kept h k fun q hq => ⟨_, by decide, hr q hq⟩) (fun ⟨e1, e2, e3, e4⟩ => ⟨e1, own_kept e2 k fun q hq => ⟨_, by decide, hr q hq⟩, e3, e4⟩), fun i u hu => own_kept (h2 i u hu) k fun q hq => ⟨_, by decide, hr q hq⟩⟩
theorem owi_kept {w w' : World} {B : Nat} {v : Value} {xs : List Int} {r : Option Nat} (h : OwI w B v xs) (k : w.grownBy w' r) (hr : ∀ q, r = some q → BlkT w q 4) : OwI w' B v xs := own_kept h k fun q hq => ⟨_, by decide, hr q hq⟩

def vFaces (ns ls : List P2) : List (List Nat) := if whole ns ls = true then fcs ns ls else []
theorem vFaces_len (ns ls : List P2) : (vFaces ns ls).length ≤ 40 := by
  unfold vFaces
  split
  · rename_i h
    have := (whole_ok h).1.le
    have := fcsN_len ns ls (2 * ls.length)
    unfold fcs; omega
  · simp


set_option maxRecDepth 100000 in
set_option maxHeartbeats 4000000 in
theorem FacesOf_i (A B : Option Addr) (c d : Nat) (ns ls : List P2) (w : World) (h : Wn w A c B d ns ls) :
    Calls Tryz.prog 36 #[.agg #[.slice A ns.length c, .slice B ls.length d]] w fun e w' => ∃ v, e = .returned v ∧ OwF w' w.heap.size v (vFaces ns ls) ∧ (whole ns ls = false → v = .slice none 0 0) ∧ Ext w w' := by
  have HV : Hid (vFaces ns ls = if whole ns ls = true then fcs ns ls else []) := Lib.hid rfl
  by_cases hw : whole ns ls = true
  · skip
    rw [if_pos hw] at HV
    obtain ⟨hW, hm0⟩ := whole_ok hw
    have hn := hW.hi
    have hm := hW.le
    have HW := Lib.hid hW
    clear hW
    obtain ⟨i0, hi, hz0, hz1, hz2⟩ := info_parts infoB
    have hmk := fun W => run_mk1 (P := Tryz.prog) 71 4 i0 (.bool false) Tryz.underlying71 hi hz0 hz1 rfl (2 * ls.length) (by rw [hz2]; omega) (by omega) W
    clear hi hz0 hz1 hz2
    have hcast : ((2 * ls.length : Nat) : Int) = 2 * (ls.length : Int) := by omega
    rw [hcast] at hmk
    clear hcast
    go_enter Tryz.func36, Tryz.ntmps36
    go_wp2_with fail
    have k0 : (w.alloc (.cells #[.slice A ns.length c, .slice B ls.length d] 27)).cell? ⟨w.heap.size, 0, none⟩ = some (.slice A ns.length c) := by go_simp
    have k1 : (w.alloc (.cells #[.slice A ns.length c, .slice B ls.length d] 27)).cell? ⟨w.heap.size, 1, none⟩ = some (.slice B ls.length d) := by go_simp
    have hx : Ext w (w.alloc (.cells #[.slice A ns.length c, .slice B ls.length d] 27)) := (by repeat first | exact Ext.refl _ | assumption | refine Ext.drew ?_ | refine Ext.alloc ?_ _ | refine Ext.setCell ?_ (by simp) | refine Ext.setCell ?_ (by simp; omega) | refine Ext.trans ?_ (by assumption))
    have hsz1 : w.heap.size + 1 = (w.alloc (.cells #[.slice A ns.length c, .slice B ls.length d] 27)).heap.size := by simp
    generalize (w.alloc (.cells #[.slice A ns.length c, .slice B ls.length d] 27)) = w0 at *
    (try rw [hsz1])
    refine (IsWhole_i _ _ _ _ ns ls _ (h.ext hx)).mono ?_
    rintro e w1 ⟨rfl, hb⟩
    have k0 := hb.lit k0
    have k1 := hb.lit k1
    have hx := hx.trans hb
    clear hb
    rw [hw]
    go_wp2_with fail
    clear hmk
    have hb0 : OwB (w1.alloc (.cells (List.replicate (2 * ls.length) (Value.bool false)).toArray 4)) w1.heap.size (.slice (some ⟨w1.heap.size, 0, none⟩) (List.replicate (2 * ls.length) false).length (List.replicate (2 * ls.length) false).length) (List.replicate (2 * ls.length) false) :=
      OwB.new (by rw [List.map_replicate]; exact Bk.new _ _ rfl) (Nat.le_refl _) (by simp; unfold maxLen; omega)
    rw [List.length_replicate] at hb0
    have hre : (List.replicate (2 * ls.length) (Value.bool false)).toArray = Array.replicate (2 * ls.length) (Value.bool false) := by simp
    rw [hre] at hb0
    clear hre
    have HS0 : Hid (List.replicate (2 * ls.length) false = btab (2 * ls.length) (fun x => hasL (fcsN ns ls 0) x)) := Lib.hid (by rw [← btab_rep]; exact btab_congr (fun _ _ => rfl))
    rw [HS0.out] at hb0
    have hx2 : Ext w1 (w1.alloc (.cells (Array.replicate (2 * ls.length) (Value.bool false)) 4)) := (by repeat first | exact Ext.refl _ | assumption | refine Ext.drew ?_ | refine Ext.alloc ?_ _ | refine Ext.setCell ?_ (by simp) | refine Ext.setCell ?_ (by simp; omega) | refine Ext.trans ?_ (by assumption))
    have hsz2 : w1.heap.size < (w1.alloc (.cells (Array.replicate (2 * ls.length) (Value.bool false)) 4)).heap.size := by simp
    generalize (w1.alloc (.cells (Array.replicate (2 * ls.length) (Value.bool false)) 4)) = w2 at *
    have hsz02 : w1.heap.size ≤ w2.heap.size := hx2.size
    generalize hg0 : w1.heap.size = g0 at *
    have HG0 := Lib.hid hg0
    clear hg0 HS0
    have HBL := Lib.hid (btab_len (2 * ls.length))
    go_loopw [4, 5, 6, 8, 19] (fun q _ _ _ i wr => ∃ j : Nat, j ≤ 2 * ls.length ∧ i = .int .i64 j ∧ OzF wr w1.heap.size w2.heap.size q (fcsN ns ls j) ∧ w2.heap.size ≤ wr.heap.size ∧ OwB wr g0 (.slice (some ⟨g0, 0, none⟩) (2 * ls.length) (2 * ls.length)) (btab (2 * ls.length) (fun x => hasL (fcsN ns ls j) x)) ∧ Ext w1 wr) (fun _ _ _ _ i _ => 2 * ls.length - (intOf i).toNat)
    case atStart => exact ⟨0, by omega, rfl, OzF.nil _ _ _, Nat.le_refl _, hb0, hx2⟩
    case round =>
      clear hb0 hx2
      obtain ⟨j, hj, rfl, hq, hsz, hv, hxr⟩ := hrel
      obtain ⟨wo, rfl⟩ : ∃ x : World, x = wr := ⟨_, rfl⟩
      have hx0 := hx.trans hxr
      have kk0 := hxr.lit k0
      have kk1 := hxr.lit k1
      have HFL := Lib.hid (fcsN_len ns ls j)
      obtain ⟨A4, c4, rfl⟩ := hq.shape
      by_cases hlt : j < 2 * ls.length
      · have c1 := (hv.cel (btab_at _ hlt)).1
        have hji : (j : Int) < 2 * (ls.length : Int) := by omega
        by_cases hs : hasL (fcsN ns ls j) j = true
        · have HF := Lib.hid (fcsN_yes hs)
          rw [hs] at c1
          go_wp2
          go_roundw
          case rel => exact ⟨j + 1, by omega, by go_num, by rw [HF.out]; exact hq, hsz, by rw [HF.out]; exact hv, hxr⟩
          case measure => first | (simp [intOf]; done) | (simp [intOf]; omega)
        · have HF := Lib.hid (fcsN_no hs)
          have HSA : Hid (∀ x, snS ns ls j (wlk ns ls j).length x = hasL (fcsN ns ls (j + 1)) x) := Lib.hid (fun x => snS_all hs)
          rw [eq_false_of_ne_true hs] at c1
          go_wp2_with fail
          refine (walk_c A B c d ns ls j _ (h.ext hx0) HW.out hlt).mono ?_
          rintro e w3 ⟨v, rfl, hw3, hb⟩
          have HWL : Hid ((nl (wlk ns ls j)).length = (wlk ns ls j).length) := Lib.hid (nl_len _)
          have HWB := Lib.hid (wlk_lt (ns := ns) hlt)
          have hwl := wlk_len (ns := ns) hlt
          have HSZ : Hid ((fun x => hasL (fcsN ns ls j) x) = fun x => snS ns ls j 0 x) := Lib.hid (funext fun x => (snS_zero ns ls j x).symm)
          have HSS := Lib.hid (fun a x (ha : a < (wlk ns ls j).length) => snS_succ (ns := ns) (ls := ls) (j := j) (i := a) (d := x) ha)
          rw [HSZ.out] at hv
          obtain ⟨Av, cv, rfl, -⟩ := hw3.shape
          rw [HWL.out] at hw3
          rw [HWL.out]
          have hbo := hb.size
          have hq := hq.ext hb
          have hv := hv.ext hb
          have hxr := hxr.trans hb
          have hsz := Nat.le_trans hsz hb.size
          clear hb hx0 c1
          generalize hwk : wlk ns ls j = wk at *
          have HWK := Lib.hid hwk
          clear hwk
          go_wp2_with fail
          go_loopw [8, 31] (fun _ i wr => ∃ a : Nat, a ≤ wk.length ∧ i = .int .i64 a ∧ OzF wr w1.heap.size w2.heap.size (.slice A4 (fcsN ns ls j).length c4) (fcsN ns ls j) ∧ OwI wr wo.heap.size (.slice Av wk.length cv) (nl wk) ∧ w2.heap.size ≤ wr.heap.size ∧ OwB wr g0 (.slice (some ⟨g0, 0, none⟩) (2 * ls.length) (2 * ls.length)) (btab (2 * ls.length) (fun x => snS ns ls j a x)) ∧ Ext w1 wr) (fun _ i _ => wk.length - (intOf i).toNat)
          case atStart => exact ⟨0, by omega, rfl, hq, hw3, hsz, hv, hxr⟩
          case round =>
            clear hq hw3 hv hxr hsz
            obtain ⟨a, ha, rfl, hq, hw3, hsz, hv, hxr⟩ := hrel
            obtain ⟨w4, rfl⟩ : ∃ x : World, x = wr := ⟨_, rfl⟩
            by_cases hat : a < wk.length
            · obtain ⟨gv, cv', e, -, -, -, c1, -⟩ := hw3.gi_ (j := a) (by rw [HWL.out]; exact hat)
              obtain ⟨rfl, rfl⟩ : Av = some ⟨gv, 0, none⟩ ∧ cv = cv' := by
                rw [HWL.out] at e
                simpa using e
              clear e
              rw [nl_gi _ hat] at c1
              have hxm : wk.getD a 0 < 2 * ls.length := HWB.out _ (by rw [getD_at _ hat]; exact List.getElem_mem hat)
              have HS1 : Hid ((btab (2 * ls.length) (fun x => snS ns ls j a x)).set (wk.getD a 0) true = btab (2 * ls.length) (fun x => snS ns ls j (a + 1) x)) := Lib.hid (by
                rw [btab_set]
                refine btab_congr fun x _ => ?_
                rw [HSS.out a x hat])
              generalize wk.getD a 0 = x at *
              obtain ⟨c3, c2⟩ := hv.cel (btab_at _ hxm)
              have hset := hv.set_ (HBL.out _).symm x true
              rw [HS1.out] at hset
              have Hset := Lib.hid hset
              have hbt : BlkT w4 g0 4 := own_blkT hv g0 rfl
              have hgs : w4.grownBy (w4.setCell ⟨g0, x, none⟩ (.bool true)) (some g0) := gb_set (gb_refl _ _) x _
              have hq := ozf_kept hq hgs (fun q hq => by injection hq with hq; rw [← hq]; exact hbt)
              have hw3 := owi_kept hw3 hgs (fun q hq => by injection hq with hq; rw [← hq]; exact hbt)
              clear hset hv hgs hbt HS1
              have hxi : (x : Int) < 2 * (ls.length : Int) := by omega
              go_wp2
              go_roundw
              case rel => exact ⟨a + 1, by omega, by go_num, hq, hw3, by simpa using hsz, Hset.out, hxr.setCell (by rw [HG0.out]; exact Nat.le_refl _)⟩
              case measure => first | (simp [intOf]; done) | (simp [intOf]; omega)
            · obtain rfl : a = wk.length := by omega
              have HSE : Hid ((fun x => snS ns ls j wk.length x) = fun x => hasL (fcsN ns ls (j + 1)) x) := Lib.hid (funext HSA.out)
              rw [HSE.out] at hv
              have hbo2 : w2.heap.size ≤ wo.heap.size := by omega
              go_wp2_with (at_builtin; refine az_row _ _ rfl rfl rfl (hq.ext ((Ext.refl w4).alloc _)) (g := w4.heap.size) (u := .slice Av wk.length cv) (l := wk) (by first | rfl | simp) (by go_simp) ((hw3.more hbo2).ext ((Ext.refl w4).alloc _)) (by have := HFL.out; omega) (by simp; omega) ?_)
              intro v' w' r h1 h3 h4 h5
              have hv := (hv.ext ((Ext.refl w4).alloc (.cells #[.slice Av wk.length cv] 28))).gb h4 (fun g hg hr => by
                have h6 := (h5 g hr).1
                simp [Value.ownBlock] at hg
                omega)
              have hs4 := h4.size
              go_wp2
              go_roundw
              case rel => exact ⟨j + 1, by omega, by go_num, by rw [HF.out]; exact h1, by simp at hs4; omega, hv, h3 _ (hxr.trans (by repeat first | exact Ext.refl _ | assumption | refine Ext.drew ?_ | refine Ext.alloc ?_ _ | refine Ext.setCell ?_ (by simp) | refine Ext.setCell ?_ (by simp; omega) | refine Ext.trans ?_ (by assumption))) (by have := HG0.out; omega)⟩
              case measure => first | (simp [intOf]; done) | (simp [intOf]; omega)
      · obtain rfl : j = 2 * ls.length := by omega
        have HFE : Hid (fcsN ns ls (2 * ls.length) = fcs ns ls) := Lib.hid rfl
        go_wp2
        go_ret
        exact ⟨_, rfl, by rw [HV.out, ← HFE.out]; exact (hq.own (by have := HG0.out; omega)).more hx.size, fun e => (by rw [hw] at e; cases e), hx0⟩
  · have hw' := eq_false_of_ne_true hw
    rw [if_neg hw] at HV
    go_enter Tryz.func36, Tryz.ntmps36
    go_wp2_with fail
    have k0 : (w.alloc (.cells #[.slice A ns.length c, .slice B ls.length d] 27)).cell? ⟨w.heap.size, 0, none⟩ = some (.slice A ns.length c) := by go_simp
    have k1 : (w.alloc (.cells #[.slice A ns.length c, .slice B ls.length d] 27)).cell? ⟨w.heap.size, 1, none⟩ = some (.slice B ls.length d) := by go_simp
    have hx : Ext w (w.alloc (.cells #[.slice A ns.length c, .slice B ls.length d] 27)) := (by repeat first | exact Ext.refl _ | assumption | refine Ext.drew ?_ | refine Ext.alloc ?_ _ | refine Ext.setCell ?_ (by simp) | refine Ext.setCell ?_ (by simp; omega) | refine Ext.trans ?_ (by assumption))
    have hsz1 : w.heap.size + 1 = (w.alloc (.cells #[.slice A ns.length c, .slice B ls.length d] 27)).heap.size := by simp
    generalize (w.alloc (.cells #[.slice A ns.length c, .slice B ls.length d] 27)) = w0 at *
    (try rw [hsz1])
    refine (IsWhole_i _ _ _ _ ns ls _ (h.ext hx)).mono ?_
    rintro e w1 ⟨rfl, hb⟩
    have k0 := hb.lit k0
    have k1 := hb.lit k1
    have hx := hx.trans hb
    clear hb
    rw [hw']
    go_wp2
    go_ret
    exact ⟨_, rfl, by rw [HV.out]; exact (OzF.nil _ w.heap.size w.heap.size).own (Nat.le_refl _), fun _ => rfl, hx⟩
end Go.Proofs.YtdhmjhoaegdfjaaGreat

namespace Go.Proofs.YtdhmjhoaegdfjaaGreat
open Go.RowKit Go.Sort Go.BigFrame


set_option maxRecDepth 100000 in
set_option maxHeartbeats 4000000 in
theorem FacesOf_s (A B : Option Addr) (c d : Nat) (ns ls : List P2) (w : World) (h : Wn w A c B d ns ls) :
    Calls Tryz.prog 30 #[.agg #[.slice A ns.length c, .slice B ls.length d]] w fun e w' => ∃ v, e = .returned v ∧ OwF w' w.heap.size v (vFaces ns ls) ∧ Ext w w' := by
  have HV : Hid (vFaces ns ls = if whole ns ls = true then fcs ns ls else []) := Lib.hid rfl
  by_cases hw : whole ns ls = true
  · skip
    rw [if_pos hw] at HV
    obtain ⟨hW, hm0⟩ := whole_ok hw
    have hn := hW.hi
    have hm := hW.le
    have HW := Lib.hid hW
    clear hW
    obtain ⟨i0, hi, hz0, hz1, hz2⟩ := info_parts infoB
    have hmk := fun W => run_mk1 (P := Tryz.prog) 71 4 i0 (.bool false) Tryz.underlying71 hi hz0 hz1 rfl (2 * ls.length) (by rw [hz2]; omega) (by omega) W
    clear hi hz0 hz1 hz2
    have hcast : ((2 * ls.length : Nat) : Int) = 2 * (ls.length : Int) := by omega
    rw [hcast] at hmk
    clear hcast
    go_enter Tryz.func30, Tryz.ntmps30
    go_wp2_with fail
    have hz0 : OzF ((w.alloc (.cells #[.slice A ns.length c, .slice B ls.length d] 27)).alloc (.cells #[] 28)) w.heap.size w.heap.size (.slice (some ⟨w.heap.size + 1, 0, none⟩) 0 0) [] := OzF.zero _ (by omega) (by simp)
    refine (IsWhole_s _ _ _ _ ns ls _ (h.ext (by repeat first | exact Ext.refl _ | assumption | refine Ext.drew ?_ | refine Ext.alloc ?_ _ | refine Ext.setCell ?_ (by simp) | refine Ext.setCell ?_ (by simp; omega) | refine Ext.trans ?_ (by assumption)))).mono ?_
    rintro e w1 ⟨rfl, hb⟩
    have k0 := hb.lit (b := w.heap.size) (o := 0) (v := .slice A ns.length c) (by go_simp)
    have k1 := hb.lit (b := w.heap.size) (o := 1) (v := .slice B ls.length d) (by go_simp)
    have hx : Ext w w1 := (by repeat first | exact Ext.refl _ | assumption | refine Ext.drew ?_ | refine Ext.alloc ?_ _ | refine Ext.setCell ?_ (by simp) | refine Ext.setCell ?_ (by simp; omega) | refine Ext.trans ?_ (by assumption))
    have hz0 := hz0.ext hb
    clear hb
    rw [hw]
    go_wp2_with fail
    clear hmk
    have hb0 : OwB (w1.alloc (.cells (List.replicate (2 * ls.length) (Value.bool false)).toArray 4)) w1.heap.size (.slice (some ⟨w1.heap.size, 0, none⟩) (List.replicate (2 * ls.length) false).length (List.replicate (2 * ls.length) false).length) (List.replicate (2 * ls.length) false) :=
      OwB.new (by rw [List.map_replicate]; exact Bk.new _ _ rfl) (Nat.le_refl _) (by simp; unfold maxLen; omega)
    rw [List.length_replicate] at hb0
    have hre : (List.replicate (2 * ls.length) (Value.bool false)).toArray = Array.replicate (2 * ls.length) (Value.bool false) := by simp
    rw [hre] at hb0
    clear hre
    have HS0 : Hid (List.replicate (2 * ls.length) false = btab (2 * ls.length) (fun x => hasL (fcsN ns ls 0) x)) := Lib.hid (by rw [← btab_rep]; exact btab_congr (fun _ _ => rfl))
    rw [HS0.out] at hb0
    have hx2 : Ext w1 (w1.alloc (.cells (Array.replicate (2 * ls.length) (Value.bool false)) 4)) := (by repeat first | exact Ext.refl _ | assumption | refine Ext.drew ?_ | refine Ext.alloc ?_ _ | refine Ext.setCell ?_ (by simp) | refine Ext.setCell ?_ (by simp; omega) | refine Ext.trans ?_ (by assumption))
    have hsz2 : w1.heap.size < (w1.alloc (.cells (Array.replicate (2 * ls.length) (Value.bool false)) 4)).heap.size := by simp
    generalize (w1.alloc (.cells (Array.replicate (2 * ls.length) (Value.bool false)) 4)) = w2 at *
    have hsz02 : w1.heap.size ≤ w2.heap.size := hx2.size
    have hz0 := (hz0.ext hx2).up (B' := w2.heap.size) rfl ⟨_, rfl⟩ (Nat.le_refl _)
    have hww := hx.size
    generalize hzz : w.heap.size + 1 = gz at *
    generalize hg0 : w1.heap.size = g0 at *
    have HG0 := Lib.hid hg0
    clear hg0 HS0
    have HBL := Lib.hid (btab_len (2 * ls.length))
    go_loopw [3, 5, 6, 7] (fun q i _ _ wr => ∃ j : Nat, j ≤ 2 * ls.length ∧ i = .int .i64 j ∧ OzF wr w.heap.size w2.heap.size q (fcsN ns ls j) ∧ w2.heap.size ≤ wr.heap.size ∧ OwB wr g0 (.slice (some ⟨g0, 0, none⟩) (2 * ls.length) (2 * ls.length)) (btab (2 * ls.length) (fun x => hasL (fcsN ns ls j) x)) ∧ Ext w1 wr) (fun _ i _ _ _ => 2 * ls.length - (intOf i).toNat)
    case atStart => exact ⟨0, by omega, rfl, hz0, Nat.le_refl _, hb0, hx2⟩
    case round =>
      clear hb0 hx2 hz0
      obtain ⟨j, hj, rfl, hq, hsz, hv, hxr⟩ := hrel
      obtain ⟨wo, rfl⟩ : ∃ x : World, x = wr := ⟨_, rfl⟩
      have hx0 := hx.trans hxr
      have kk0 := hxr.lit k0
      have kk1 := hxr.lit k1
      have HFL := Lib.hid (fcsN_len ns ls j)
      obtain ⟨A4, c4, rfl⟩ := hq.shape
      by_cases hlt : j < 2 * ls.length
      · have c1 := (hv.cel (btab_at _ hlt)).1
        have hji : (j : Int) < 2 * (ls.length : Int) := by omega
        by_cases hs : hasL (fcsN ns ls j) j = true
        · have HF := Lib.hid (fcsN_yes hs)
          rw [hs] at c1
          go_wp2
          go_roundw
          case rel => exact ⟨j + 1, by omega, by go_num, by rw [HF.out]; exact hq, hsz, by rw [HF.out]; exact hv, hxr⟩
          case measure => first | (simp [intOf]; done) | (simp [intOf]; omega)
        · have HF := Lib.hid (fcsN_no hs)
          have HSA : Hid (∀ x, snS ns ls j (wlk ns ls j).length x = hasL (fcsN ns ls (j + 1)) x) := Lib.hid (fun x => snS_all hs)
          rw [eq_false_of_ne_true hs] at c1
          go_wp2_with fail
          refine (l06Walk_c A B c d ns ls j _ (h.ext hx0) HW.out hlt).mono ?_
          rintro e w3 ⟨v, rfl, hw3, hb⟩
          have HWL : Hid ((nl (wlk ns ls j)).length = (wlk ns ls j).length) := Lib.hid (nl_len _)
          have HWB := Lib.hid (wlk_lt (ns := ns) hlt)
          have hwl := wlk_len (ns := ns) hlt
          have HSZ : Hid ((fun x => hasL (fcsN ns ls j) x) = fun x => snS ns ls j 0 x) := Lib.hid (funext fun x => (snS_zero ns ls j x).symm)
          have HSS := Lib.hid (fun a x (ha : a < (wlk ns ls j).length) => snS_succ (ns := ns) (ls := ls) (j := j) (i := a) (d := x) ha)
          rw [HSZ.out] at hv
          obtain ⟨Av, cv, rfl, -⟩ := hw3.shape
          rw [HWL.out] at hw3
          rw [HWL.out]
          have hbo := hb.size
          have hq := hq.ext hb
          have hv := hv.ext hb
          have hxr := hxr.trans hb
          have hsz := Nat.le_trans hsz hb.size
          clear hb hx0 c1
          generalize hwk : wlk ns ls j = wk at *
          have HWK := Lib.hid hwk
          clear hwk
          go_wp2_with fail
          go_loopw [7] (fun i wr => ∃ a : Nat, a ≤ wk.length ∧ i = .int .i64 a ∧ OzF wr w.heap.size w2.heap.size (.slice A4 (fcsN ns ls j).length c4) (fcsN ns ls j) ∧ OwI wr wo.heap.size (.slice Av wk.length cv) (nl wk) ∧ w2.heap.size ≤ wr.heap.size ∧ OwB wr g0 (.slice (some ⟨g0, 0, none⟩) (2 * ls.length) (2 * ls.length)) (btab (2 * ls.length) (fun x => snS ns ls j a x)) ∧ Ext w1 wr) (fun i _ => wk.length - (intOf i).toNat)
          case atStart => exact ⟨0, by omega, rfl, hq, hw3, hsz, hv, hxr⟩
          case round =>
            clear hq hw3 hv hxr hsz
            obtain ⟨a, ha, rfl, hq, hw3, hsz, hv, hxr⟩ := hrel
            obtain ⟨w4, rfl⟩ : ∃ x : World, x = wr := ⟨_, rfl⟩
            by_cases hat : a < wk.length
            · obtain ⟨gv, cv', e, -, -, -, c1, -⟩ := hw3.gi_ (j := a) (by rw [HWL.out]; exact hat)
              obtain ⟨rfl, rfl⟩ : Av = some ⟨gv, 0, none⟩ ∧ cv = cv' := by
                rw [HWL.out] at e
                simpa using e
              clear e
              rw [nl_gi _ hat] at c1
              have hxm : wk.getD a 0 < 2 * ls.length := HWB.out _ (by rw [getD_at _ hat]; exact List.getElem_mem hat)
              have HS1 : Hid ((btab (2 * ls.length) (fun x => snS ns ls j a x)).set (wk.getD a 0) true = btab (2 * ls.length) (fun x => snS ns ls j (a + 1) x)) := Lib.hid (by
                rw [btab_set]
                refine btab_congr fun x _ => ?_
                rw [HSS.out a x hat])
              generalize wk.getD a 0 = x at *
              obtain ⟨c3, c2⟩ := hv.cel (btab_at _ hxm)
              have hset := hv.set_ (HBL.out _).symm x true
              rw [HS1.out] at hset
              have Hset := Lib.hid hset
              have hbt : BlkT w4 g0 4 := own_blkT hv g0 rfl
              have hgs : w4.grownBy (w4.setCell ⟨g0, x, none⟩ (.bool true)) (some g0) := gb_set (gb_refl _ _) x _
              have hq := ozf_kept hq hgs (fun q hq => by injection hq with hq; rw [← hq]; exact hbt)
              have hw3 := owi_kept hw3 hgs (fun q hq => by injection hq with hq; rw [← hq]; exact hbt)
              clear hset hv hgs hbt HS1
              have hxi : (x : Int) < 2 * (ls.length : Int) := by omega
              go_wp2
              go_roundw
              case rel => exact ⟨a + 1, by omega, by go_num, hq, hw3, by simpa using hsz, Hset.out, hxr.setCell (by rw [HG0.out]; exact Nat.le_refl _)⟩
              case measure => first | (simp [intOf]; done) | (simp [intOf]; omega)
            · obtain rfl : a = wk.length := by omega
              have HSE : Hid ((fun x => snS ns ls j wk.length x) = fun x => hasL (fcsN ns ls (j + 1)) x) := Lib.hid (funext HSA.out)
              rw [HSE.out] at hv
              have hbo2 : w2.heap.size ≤ wo.heap.size := by omega
              go_wp2_with (at_builtin; refine az_row _ _ rfl rfl rfl (hq.ext ((Ext.refl w4).alloc _)) (g := w4.heap.size) (u := .slice Av wk.length cv) (l := wk) (by first | rfl | simp) (by go_simp) ((hw3.more hbo2).ext ((Ext.refl w4).alloc _)) (by have := HFL.out; omega) (by simp; omega) ?_)
              intro v' w' r h1 h3 h4 h5
              have hv := (hv.ext ((Ext.refl w4).alloc (.cells #[.slice Av wk.length cv] 28))).gb h4 (fun g hg hr => by
                have h6 := (h5 g hr).1
                simp [Value.ownBlock] at hg
                omega)
              have hs4 := h4.size
              go_wp2
              go_roundw
              case rel => exact ⟨j + 1, by omega, by go_num, by rw [HF.out]; exact h1, by simp at hs4; omega, hv, h3 _ (hxr.trans (by repeat first | exact Ext.refl _ | assumption | refine Ext.drew ?_ | refine Ext.alloc ?_ _ | refine Ext.setCell ?_ (by simp) | refine Ext.setCell ?_ (by simp; omega) | refine Ext.trans ?_ (by assumption))) (by have := HG0.out; omega)⟩
              case measure => first | (simp [intOf]; done) | (simp [intOf]; omega)
      · obtain rfl : j = 2 * ls.length := by omega
        have HFE : Hid (fcsN ns ls (2 * ls.length) = fcs ns ls) := Lib.hid rfl
        go_wp2
        go_ret
        exact ⟨_, rfl, by rw [HV.out, ← HFE.out]; exact hq.own (by have := HG0.out; omega), hx0⟩
  · have hw' := eq_false_of_ne_true hw
    rw [if_neg hw] at HV
    go_enter Tryz.func30, Tryz.ntmps30
    go_wp2_with fail
    have hz0 : OzF ((w.alloc (.cells #[.slice A ns.length c, .slice B ls.length d] 27)).alloc (.cells #[] 28)) w.heap.size w.heap.size (.slice (some ⟨w.heap.size + 1, 0, none⟩) 0 0) [] := OzF.zero _ (by omega) (by simp)
    refine (IsWhole_s _ _ _ _ ns ls _ (h.ext (by repeat first | exact Ext.refl _ | assumption | refine Ext.drew ?_ | refine Ext.alloc ?_ _ | refine Ext.setCell ?_ (by simp) | refine Ext.setCell ?_ (by simp; omega) | refine Ext.trans ?_ (by assumption)))).mono ?_
    rintro e w1 ⟨rfl, hb⟩
    have k0 := hb.lit (b := w.heap.size) (o := 0) (v := .slice A ns.length c) (by go_simp)
    have k1 := hb.lit (b := w.heap.size) (o := 1) (v := .slice B ls.length d) (by go_simp)
    have hx : Ext w w1 := (by repeat first | exact Ext.refl _ | assumption | refine Ext.drew ?_ | refine Ext.alloc ?_ _ | refine Ext.setCell ?_ (by simp) | refine Ext.setCell ?_ (by simp; omega) | refine Ext.trans ?_ (by assumption))
    have hz0 := hz0.ext hb
    clear hb
    rw [hw']
    go_wp2
    go_ret
    exact ⟨_, rfl, by rw [HV.out]; exact hz0.own (Nat.le_refl _), hx⟩
end Go.Proofs.YtdhmjhoaegdfjaaGreat

namespace Go.Proofs.YtdhmjhoaegdfjaaGreat
open Go.RowKit Go.Sort Go.BigFrame

@[go_sem ↓] theorem eqnF (A : Option Addr) (n c : Nat) (w : World) : (binOp .eql 52 (.slice A n c) (.slice none 0 0)).run Tryz.prog w = .ok (.bool A.isNone) w := Lib.run_eql_slice_nil w _ _ A n c 0 0 Tryz.underlying52
@[go_sem ↓] theorem eqnI (A : Option Addr) (n c : Nat) (w : World) : (binOp .eql 28 (.slice A n c) (.slice none 0 0)).run Tryz.prog w = .ok (.bool A.isNone) w := Lib.run_eql_slice_nil w _ _ A n c 0 0 Tryz.underlying28
theorem OwF.row {w : World} {B g n c : Nat} {L : List (List Nat)} (h : OwF w B (.slice (some ⟨g, 0, none⟩) n c) L) {j : Nat} (hj : j < L.length) :
    ∃ A' c', w.cell? ⟨g, j, none⟩ = some (.slice A' (L.getD j []).length c') ∧ In w w.heap.size A' (nl (L.getD j [])) := by
  obtain ⟨g', c0, A', c', e, h1, h2⟩ := h.at_ hj
  injection e with e1 e2 e3
  injection e1 with e1
  injection e1 with e1
  subst e1
  have := h2.in'
  exact ⟨A', c', h1, this⟩
theorem OwF.far {w w' : World} {B g : Nat} {v : Value} {L : List (List Nat)} (h : OwF w B v L) (k : w.grownBy w' (some g)) (hg : g < B) : OwF w' B v L := by
  obtain ⟨vs, h1, h2⟩ := h
  refine ⟨vs, gb_own h1 k fun q hq e => ?_, fun i u hu => gb_own (h2 i u hu) k fun q hq e => ?_⟩
  · have := (World.ownsRow.lt h1 q hq).1
    injection e with e
    omega
  · have := (World.ownsRow.lt (h2 i u hu) q hq).1
    injection e with e
    omega
theorem OwF.blk {w : World} {B : Nat} {v : Value} {L : List (List Nat)} (h : OwF w B v L) (hl : 0 < L.length) : ∃ g c, v = .slice (some ⟨g, 0, none⟩) L.length c := by
  obtain ⟨g, c, _, _, e, _⟩ := h.at_ hl
  exact ⟨g, c, e⟩

def vSides (ns ls : List P2) : List Int := if whole ns ls = true then sds (fcs ns ls) (2 * ls.length) else []
theorem vSides_len {ns ls : List P2} (h : whole ns ls = true) : (vSides ns ls).length = 2 * ls.length := by unfold vSides; rw [if_pos h, sds_len]
theorem vSides_gi {ns ls : List P2} (h : whole ns ls = true) {d : Nat} (hd : d < 2 * ls.length) : gi (vSides ns ls) d = (sd (fcs ns ls) d : Nat) := by unfold vSides; rw [if_pos h, sds_gi _ hd]


set_option maxRecDepth 100000 in
set_option maxHeartbeats 4000000 in
theorem facesAt_i (A B : Option Addr) (c d : Nat) (ns ls : List P2) (w : World) (h : Wn w A c B d ns ls) :
    Calls Tryz.prog 74 #[.agg #[.slice A ns.length c, .slice B ls.length d]] w fun e w' => ∃ v, e = .returned v ∧ OwI w' w.heap.size v (vSides ns ls) ∧ (whole ns ls = false → v = .slice none 0 0) ∧ Ext w w' := by
  have HV : Hid (vFaces ns ls = if whole ns ls = true then fcs ns ls else []) := Lib.hid rfl
  have HS : Hid (vSides ns ls = if whole ns ls = true then sds (fcs ns ls) (2 * ls.length) else []) := Lib.hid rfl
  by_cases hw : whole ns ls = true
  · rw [if_pos hw] at HV HS
    obtain ⟨hW, hm0⟩ := whole_ok hw
    have hn := hW.hi
    have hm := hW.le
    have hFl : (fcs ns ls).length ≤ 40 := by have := vFaces_len ns ls; rwa [HV.out] at this
    have hFp := fcs_pos (ns := ns) hm0
    clear hW
    obtain ⟨i0, hi, hz0, hz1, hz2⟩ := info_parts infoI4
    have hmk := fun W => run_mk1 (P := Tryz.prog) 28 3 i0 (.int .i64 0) Tryz.underlying28 hi hz0 hz1 rfl (2 * ls.length) (by rw [hz2]; omega) (by omega) W
    clear hi hz0 hz1 hz2
    have hcast : ((2 * ls.length : Nat) : Int) = 2 * (ls.length : Int) := by omega
    rw [hcast] at hmk
    clear hcast
    go_enter Tryz.func74, Tryz.ntmps74
    go_wp2_with fail
    have k0 : (w.alloc (.cells #[.slice A ns.length c, .slice B ls.length d] 27)).cell? ⟨w.heap.size, 0, none⟩ = some (.slice A ns.length c) := by go_simp
    have k1 : (w.alloc (.cells #[.slice A ns.length c, .slice B ls.length d] 27)).cell? ⟨w.heap.size, 1, none⟩ = some (.slice B ls.length d) := by go_simp
    have hx : Ext w (w.alloc (.cells #[.slice A ns.length c, .slice B ls.length d] 27)) := (by repeat first | exact Ext.refl _ | assumption | refine Ext.drew ?_ | refine Ext.alloc ?_ _ | refine Ext.setCell ?_ (by simp) | refine Ext.setCell ?_ (by simp; omega) | refine Ext.trans ?_ (by assumption))
    have hsz1 : w.heap.size + 1 = (w.alloc (.cells #[.slice A ns.length c, .slice B ls.length d] 27)).heap.size := by simp
    generalize (w.alloc (.cells #[.slice A ns.length c, .slice B ls.length d] 27)) = w0 at *
    (try rw [hsz1])
    refine (FacesOf_i _ _ _ _ ns ls _ (h.ext hx)).mono ?_
    rintro e w1 ⟨v, rfl, hF, -, hb⟩
    have k0 := hb.lit k0
    have k1 := hb.lit k1
    have hx := hx.trans hb
    clear hb
    rw [HV.out] at hF
    obtain ⟨gF, cF, rfl⟩ := hF.blk hFp
    go_wp2_with fail
    clear hmk
    have hb0 : OwI (w1.alloc (.cells (List.replicate (2 * ls.length) (Value.int .i64 0)).toArray 3)) w1.heap.size (.slice (some ⟨w1.heap.size, 0, none⟩) (List.replicate (2 * ls.length) (0 : Int)).length (List.replicate (2 * ls.length) (0 : Int)).length) (List.replicate (2 * ls.length) 0) :=
      OwI.new (by rw [List.map_replicate]; exact Bk.new _ _ rfl) (Nat.le_refl _) (by simp; unfold maxLen; omega)
    rw [List.length_replicate] at hb0
    have hre : (List.replicate (2 * ls.length) (Value.int .i64 0)).toArray = Array.replicate (2 * ls.length) (Value.int .i64 0) := by simp
    rw [hre] at hb0
    clear hre
    have HS0 := Lib.hid (sdT_zero (fcs ns ls) (2 * ls.length))
    rw [← HS0.out] at hb0
    have hx2 : Ext w1 (w1.alloc (.cells (Array.replicate (2 * ls.length) (Value.int .i64 0)) 3)) := (by repeat first | exact Ext.refl _ | assumption | refine Ext.drew ?_ | refine Ext.alloc ?_ _ | refine Ext.setCell ?_ (by simp) | refine Ext.setCell ?_ (by simp; omega) | refine Ext.trans ?_ (by assumption))
    have hsz2 : w1.heap.size < (w1.alloc (.cells (Array.replicate (2 * ls.length) (Value.int .i64 0)) 3)).heap.size := by simp
    generalize (w1.alloc (.cells (Array.replicate (2 * ls.length) (Value.int .i64 0)) 3)) = w2 at *
    generalize hL : fcs ns ls = L at *
    have HLM : Hid (∀ f a, f < L.length → a < (L.getD f []).length → (L.getD f []).getD a 0 < 2 * ls.length) := Lib.hid (fun f a hf ha => by
      have hmem : L.getD f [] ∈ fcs ns ls := by
        rw [hL, List.getD_eq_getElem?_getD, List.getElem?_eq_getElem hf]
        exact List.getElem_mem hf
      exact (fcs_mem hmem).2.2 _ (by rw [getD_at _ ha]; exact List.getElem_mem ha))
    have HLL : Hid (∀ f, f < L.length → (L.getD f []).length ≤ 2 * ls.length) := Lib.hid (fun f hf => by
      have hmem : L.getD f [] ∈ fcs ns ls := by
        rw [hL, List.getD_eq_getElem?_getD, List.getElem?_eq_getElem hf]
        exact List.getElem_mem hf
      exact (fcs_mem hmem).2.1)
    clear hL
    generalize hg0 : w1.heap.size = g0 at *
    have HG0 := Lib.hid hg0
    clear hg0 HS0
    go_loopw [5, 6, 8, 20] (fun _ _ _ i wr => ∃ f : Nat, f ≤ L.length ∧ i = .int .i64 f ∧ OwI wr g0 (.slice (some ⟨g0, 0, none⟩) (2 * ls.length) (2 * ls.length)) (sdT L (2 * ls.length) f 0) ∧ Ext w1 wr) (fun _ _ _ i _ => L.length - (intOf i).toNat)
    case atStart => exact ⟨0, by omega, rfl, hb0, hx2⟩
    case round =>
      clear hb0 hx2
      obtain ⟨f, hf, rfl, hv, hxr⟩ := hrel
      obtain ⟨wo, rfl⟩ : ∃ x : World, x = wr := ⟨_, rfl⟩
      by_cases hlt : f < L.length
      · obtain ⟨A', c', e0, e2⟩ := hF.row hlt
        have e1 := hxr.lit e0
        clear e0
        have hrl := HLL.out f hlt
        have HRW := Lib.hid (fun a (ha : a < (L.getD f []).length) => HLM.out f a hlt ha)
        have HST := Lib.hid (fun a (ha : a < (L.getD f []).length) => sdT_set (L := L) (m := 2 * ls.length) (f := f) (i := a) ha)
        have HSA := Lib.hid (sdT_all L (2 * ls.length) f)
        generalize hwk : L.getD f [] = wk at *
        have HWK := Lib.hid hwk
        clear hwk
        have HNL := Lib.hid (nl_len wk)
        have hfi : (f : Int) < L.length := by omega
        go_wp2_with fail
        go_loopw [8, 27] (fun _ i wr => ∃ a : Nat, a ≤ wk.length ∧ i = .int .i64 a ∧ OwI wr g0 (.slice (some ⟨g0, 0, none⟩) (2 * ls.length) (2 * ls.length)) (sdT L (2 * ls.length) f a) ∧ Ext w1 wr) (fun _ i _ => wk.length - (intOf i).toNat)
        case atStart => exact ⟨0, by omega, rfl, hv, hxr⟩
        case round =>
          clear hv hxr e1
          obtain ⟨a, ha, rfl, hv, hxr⟩ := hrel
          obtain ⟨w4, rfl⟩ : ∃ x : World, x = wr := ⟨_, rfl⟩
          by_cases hat : a < wk.length
          · obtain ⟨gb, off, rfl, hbb, c1⟩ := (e2.ext hxr).gi_ (k := a) (by rw [HNL.out]; exact hat)
            rw [nl_gi wk hat] at c1
            have hxm := HRW.out a hat
            have HT := Lib.hid (HST.out a hat)
            generalize wk.getD a 0 = x at *
            obtain ⟨c3, c2⟩ := hv.cel (j := x) (by rw [sdT_len]; exact hxm)
            have hset := hv.set_ (sdT_len _ _ _ _).symm x (f : Int)
            rw [HT.out] at hset
            have Hset := Lib.hid hset
            clear hset hv
            have hxi : (x : Int) < 2 * (ls.length : Int) := by omega
            go_wp2
            go_roundw
            case rel => exact ⟨a + 1, by omega, by go_num, Hset.out, hxr.setCell (by rw [HG0.out]; exact Nat.le_refl _)⟩
            case measure => first | (simp [intOf]; done) | (simp [intOf]; omega)
          · obtain rfl : a = wk.length := by omega
            rw [HSA.out] at hv
            go_wp2
            go_roundw
            case rel => exact ⟨f + 1, by omega, by go_num, hv, hxr⟩
            case measure => first | (simp [intOf]; done) | (simp [intOf]; omega)
      · obtain rfl : f = L.length := by omega
        rw [sdT_end] at hv
        go_wp2
        go_ret
        exact ⟨_, rfl, by rw [HS.out]; exact hv.more (by have := HG0.out; have := hx.size; omega), fun e => (by rw [hw] at e; cases e), hx.trans hxr⟩
  · have hw' := eq_false_of_ne_true hw
    rw [if_neg hw] at HS
    go_enter Tryz.func74, Tryz.ntmps74
    go_wp2_with fail
    have k0 : (w.alloc (.cells #[.slice A ns.length c, .slice B ls.length d] 27)).cell? ⟨w.heap.size, 0, none⟩ = some (.slice A ns.length c) := by go_simp
    have k1 : (w.alloc (.cells #[.slice A ns.length c, .slice B ls.length d] 27)).cell? ⟨w.heap.size, 1, none⟩ = some (.slice B ls.length d) := by go_simp
    have hx : Ext w (w.alloc (.cells #[.slice A ns.length c, .slice B ls.length d] 27)) := (by repeat first | exact Ext.refl _ | assumption | refine Ext.drew ?_ | refine Ext.alloc ?_ _ | refine Ext.setCell ?_ (by simp) | refine Ext.setCell ?_ (by simp; omega) | refine Ext.trans ?_ (by assumption))
    have hsz1 : w.heap.size + 1 = (w.alloc (.cells #[.slice A ns.length c, .slice B ls.length d] 27)).heap.size := by simp
    generalize (w.alloc (.cells #[.slice A ns.length c, .slice B ls.length d] 27)) = w0 at *
    (try rw [hsz1])
    refine (FacesOf_i _ _ _ _ ns ls _ (h.ext hx)).mono ?_
    rintro e w1 ⟨v, rfl, -, hv, hb⟩
    have k0 := hb.lit k0
    have k1 := hb.lit k1
    have hx := hx.trans hb
    clear hb
    obtain rfl := hv hw'
    go_wp2
    go_ret
    exact ⟨_, rfl, by rw [HS.out]; exact OwI.nil _ _, fun _ => rfl, hx⟩

set_option maxRecDepth 100000 in
set_option maxHeartbeats 4000000 in
theorem l09Sides_s (A B : Option Addr) (c d : Nat) (ns ls : List P2) (w : World) (h : Wn w A c B d ns ls) (hw : whole ns ls = true) :
    Calls Tryz.prog 60 #[.agg #[.slice A ns.length c, .slice B ls.length d]] w fun e w' => ∃ v, e = .returned v ∧ OwI w' w.heap.size v (vSides ns ls) ∧ Ext w w' := by
    have HV : Hid (vFaces ns ls = if whole ns ls = true then fcs ns ls else []) := Lib.hid rfl
    have HS : Hid (vSides ns ls = if whole ns ls = true then sds (fcs ns ls) (2 * ls.length) else []) := Lib.hid rfl
    rw [if_pos hw] at HV HS
    obtain ⟨hW, hm0⟩ := whole_ok hw
    have hn := hW.hi
    have hm := hW.le
    have hFl : (fcs ns ls).length ≤ 40 := by have := vFaces_len ns ls; rwa [HV.out] at this
    have hFp := fcs_pos (ns := ns) hm0
    clear hW
    obtain ⟨i0, hi, hz0, hz1, hz2⟩ := info_parts infoI4
    have hmk := fun W => run_mk1 (P := Tryz.prog) 28 3 i0 (.int .i64 0) Tryz.underlying28 hi hz0 hz1 rfl (2 * ls.length) (by rw [hz2]; omega) (by omega) W
    clear hi hz0 hz1 hz2
    have hcast : ((2 * ls.length : Nat) : Int) = 2 * (ls.length : Int) := by omega
    rw [hcast] at hmk
    clear hcast
    go_enter Tryz.func60, Tryz.ntmps60
    go_wp2_with fail
    have k0 : (w.alloc (.cells #[.slice A ns.length c, .slice B ls.length d] 27)).cell? ⟨w.heap.size, 0, none⟩ = some (.slice A ns.length c) := by go_simp
    have k1 : (w.alloc (.cells #[.slice A ns.length c, .slice B ls.length d] 27)).cell? ⟨w.heap.size, 1, none⟩ = some (.slice B ls.length d) := by go_simp
    have hx : Ext w (w.alloc (.cells #[.slice A ns.length c, .slice B ls.length d] 27)) := (by repeat first | exact Ext.refl _ | assumption | refine Ext.drew ?_ | refine Ext.alloc ?_ _ | refine Ext.setCell ?_ (by simp) | refine Ext.setCell ?_ (by simp; omega) | refine Ext.trans ?_ (by assumption))
    have hsz1 : w.heap.size + 1 = (w.alloc (.cells #[.slice A ns.length c, .slice B ls.length d] 27)).heap.size := by simp
    generalize (w.alloc (.cells #[.slice A ns.length c, .slice B ls.length d] 27)) = w1 at *
    (try rw [hsz1])
    clear hmk
    have hb0 : OwI (w1.alloc (.cells (List.replicate (2 * ls.length) (Value.int .i64 0)).toArray 3)) w1.heap.size (.slice (some ⟨w1.heap.size, 0, none⟩) (List.replicate (2 * ls.length) (0 : Int)).length (List.replicate (2 * ls.length) (0 : Int)).length) (List.replicate (2 * ls.length) 0) :=
      OwI.new (by rw [List.map_replicate]; exact Bk.new _ _ rfl) (Nat.le_refl _) (by simp; unfold maxLen; omega)
    rw [List.length_replicate] at hb0
    have hre : (List.replicate (2 * ls.length) (Value.int .i64 0)).toArray = Array.replicate (2 * ls.length) (Value.int .i64 0) := by simp
    rw [hre] at hb0
    clear hre
    have HS0 := Lib.hid (sdT_zero (fcs ns ls) (2 * ls.length))
    rw [← HS0.out] at hb0
    have hx2 : Ext w1 (w1.alloc (.cells (Array.replicate (2 * ls.length) (Value.int .i64 0)) 3)) := (by repeat first | exact Ext.refl _ | assumption | refine Ext.drew ?_ | refine Ext.alloc ?_ _ | refine Ext.setCell ?_ (by simp) | refine Ext.setCell ?_ (by simp; omega) | refine Ext.trans ?_ (by assumption))
    have hsz2 : w1.heap.size < (w1.alloc (.cells (Array.replicate (2 * ls.length) (Value.int .i64 0)) 3)).heap.size := by simp
    generalize (w1.alloc (.cells (Array.replicate (2 * ls.length) (Value.int .i64 0)) 3)) = w2 at *
    have k0 := hx2.lit k0
    have k1 := hx2.lit k1
    refine (FacesOf_s _ _ _ _ ns ls _ (h.ext (hx.trans hx2))).mono ?_
    rintro e w3 ⟨v, rfl, hF, hb⟩
    have hb0 := hb0.ext hb
    have hx2 := hx2.trans hb
    clear hb k0 k1
    rw [HV.out] at hF
    obtain ⟨gF, cF, rfl⟩ := hF.blk hFp
    go_wp2_with fail
    generalize hL : fcs ns ls = L at *
    have HLM : Hid (∀ f a, f < L.length → a < (L.getD f []).length → (L.getD f []).getD a 0 < 2 * ls.length) := Lib.hid (fun f a hf ha => by
      have hmem : L.getD f [] ∈ fcs ns ls := by
        rw [hL, List.getD_eq_getElem?_getD, List.getElem?_eq_getElem hf]
        exact List.getElem_mem hf
      exact (fcs_mem hmem).2.2 _ (by rw [getD_at _ ha]; exact List.getElem_mem ha))
    have HLL : Hid (∀ f, f < L.length → (L.getD f []).length ≤ 2 * ls.length) := Lib.hid (fun f hf => by
      have hmem : L.getD f [] ∈ fcs ns ls := by
        rw [hL, List.getD_eq_getElem?_getD, List.getElem?_eq_getElem hf]
        exact List.getElem_mem hf
      exact (fcs_mem hmem).2.1)
    clear hL
    generalize hg0 : w1.heap.size = g0 at *
    have HG0 := Lib.hid hg0
    clear hg0 HS0
    go_loopw [5, 6] (fun i _ wr => ∃ f : Nat, f ≤ L.length ∧ i = .int .i64 f ∧ OwI wr g0 (.slice (some ⟨g0, 0, none⟩) (2 * ls.length) (2 * ls.length)) (sdT L (2 * ls.length) f 0) ∧ OwF wr w2.heap.size (.slice (some ⟨gF, 0, none⟩) L.length cF) L ∧ Ext w1 wr) (fun i _ _ => L.length - (intOf i).toNat)
    case atStart => exact ⟨0, by omega, rfl, hb0, hF, hx2⟩
    case round =>
      clear hb0 hx2 hF
      obtain ⟨f, hf, rfl, hv, hF, hxr⟩ := hrel
      obtain ⟨wo, rfl⟩ : ∃ x : World, x = wr := ⟨_, rfl⟩
      by_cases hlt : f < L.length
      · have hrl := HLL.out f hlt
        have HRW := Lib.hid (fun a (ha : a < (L.getD f []).length) => HLM.out f a hlt ha)
        have HST := Lib.hid (fun a (ha : a < (L.getD f []).length) => sdT_set (L := L) (m := 2 * ls.length) (f := f) (i := a) ha)
        have HSA := Lib.hid (sdT_all L (2 * ls.length) f)
        have HRR : Hid (∀ w', OwF w' w2.heap.size (.slice (some ⟨gF, 0, none⟩) L.length cF) L → ∃ A' c', w'.cell? ⟨gF, f, none⟩ = some (.slice A' (L.getD f []).length c') ∧ In w' w'.heap.size A' (nl (L.getD f []))) := Lib.hid (fun w' h' => h'.row hlt)
        generalize hwk : L.getD f [] = wk at *
        have HWK := Lib.hid hwk
        clear hwk
        have HNL := Lib.hid (nl_len wk)
        have hfi : (f : Int) < L.length := by omega
        go_wp2_with fail
        go_loopw [6] (fun i wr => ∃ a : Nat, a ≤ wk.length ∧ i = .int .i64 a ∧ OwI wr g0 (.slice (some ⟨g0, 0, none⟩) (2 * ls.length) (2 * ls.length)) (sdT L (2 * ls.length) f a) ∧ OwF wr w2.heap.size (.slice (some ⟨gF, 0, none⟩) L.length cF) L ∧ Ext w1 wr) (fun i _ => wk.length - (intOf i).toNat)
        case atStart => exact ⟨0, by omega, rfl, hv, hF, hxr⟩
        case round =>
          clear hv hxr hF
          obtain ⟨a, ha, rfl, hv, hF, hxr⟩ := hrel
          obtain ⟨w4, rfl⟩ : ∃ x : World, x = wr := ⟨_, rfl⟩
          obtain ⟨A', c', e1, e2⟩ := HRR.out _ hF
          by_cases hat : a < wk.length
          · obtain ⟨gb, off, rfl, hbb, c1⟩ := e2.gi_ (k := a) (by rw [HNL.out]; exact hat)
            rw [nl_gi wk hat] at c1
            have hxm := HRW.out a hat
            have HT := Lib.hid (HST.out a hat)
            generalize wk.getD a 0 = x at *
            obtain ⟨c3, c2⟩ := hv.cel (j := x) (by rw [sdT_len]; exact hxm)
            have hset := hv.set_ (sdT_len _ _ _ _).symm x (f : Int)
            rw [HT.out] at hset
            have Hset := Lib.hid hset
            have hF := hF.far (gb_set (gb_refl w4 (some g0)) x (.int .i64 (f : Int))) hsz2
            clear hset hv
            have hxi : (x : Int) < 2 * (ls.length : Int) := by omega
            have hai : (a : Int) < wk.length := by omega
            go_wp2
            go_roundw
            case rel => exact ⟨a + 1, by omega, by go_num, Hset.out, hF, hxr.setCell (by rw [HG0.out]; exact Nat.le_refl _)⟩
            case measure => first | (simp [intOf]; done) | (simp [intOf]; omega)
          · obtain rfl : a = wk.length := by omega
            rw [HSA.out] at hv
            go_wp2
            go_roundw
            case rel => exact ⟨f + 1, by omega, by go_num, hv, hF, hxr⟩
            case measure => first | (simp [intOf]; done) | (simp [intOf]; omega)
      · obtain rfl : f = L.length := by omega
        rw [sdT_end] at hv
        go_wp2
        go_ret
        exact ⟨_, rfl, by rw [HS.out]; exact hv.more (by have := HG0.out; have := hx.size; omega), hx.trans hxr⟩
end Go.Proofs.YtdhmjhoaegdfjaaGreat

namespace Go.Proofs.YtdhmjhoaegdfjaaGreat
open Go.RowKit Go.Sort Go.BigFrame

theorem wi_iff {n lo hi : Int} : wi n lo hi = true ↔ lo ≤ n ∧ n ≤ hi := by simp [wi]
def hasF (ns ls : List P2) (f : Int) : Bool := wi f 0 ((vFaces ns ls).length - 1)
theorem hasF_iff {ns ls : List P2} {f : Int} : hasF ns ls f = true ↔ 0 ≤ f ∧ f < (vFaces ns ls).length := by
  unfold hasF
  rw [wi_iff]
  omega
theorem hasF_whole {ns ls : List P2} {f : Int} (h : hasF ns ls f = true) : whole ns ls = true := by
  rw [hasF_iff] at h
  unfold vFaces at h
  split at h
  · assumption
  · simp at h; omega

set_option maxHeartbeats 1000000 in
theorem hasFace_i (A B : Option Addr) (c d : Nat) (ns ls : List P2) (f : Int) (w : World) (h : Wn w A c B d ns ls) :
    Calls Tryz.prog 65 #[.agg #[.slice A ns.length c, .slice B ls.length d], .int .i64 f] w fun e w' => e = .returned (.bool (hasF ns ls f)) ∧ Ext w w' := by
  have HF : Hid (hasF ns ls f = wi f 0 ((vFaces ns ls).length - 1)) := Lib.hid rfl
  have hl := vFaces_len ns ls
  go_enter Tryz.func65, Tryz.ntmps65
  go_wp2_with fail
  have k0 : (w.alloc (.cells #[.slice A ns.length c, .slice B ls.length d] 27)).cell? ⟨w.heap.size, 0, none⟩ = some (.slice A ns.length c) := by go_simp
  have k1 : (w.alloc (.cells #[.slice A ns.length c, .slice B ls.length d] 27)).cell? ⟨w.heap.size, 1, none⟩ = some (.slice B ls.length d) := by go_simp
  have hx : Ext w (w.alloc (.cells #[.slice A ns.length c, .slice B ls.length d] 27)) := (by repeat first | exact Ext.refl _ | assumption | refine Ext.drew ?_ | refine Ext.alloc ?_ _ | refine Ext.setCell ?_ (by simp) | refine Ext.setCell ?_ (by simp; omega) | refine Ext.trans ?_ (by assumption))
  have hsz1 : w.heap.size + 1 = (w.alloc (.cells #[.slice A ns.length c, .slice B ls.length d] 27)).heap.size := by simp
  generalize (w.alloc (.cells #[.slice A ns.length c, .slice B ls.length d] 27)) = w0 at *
  (try rw [hsz1])
  refine (FacesOf_i _ _ _ _ ns ls _ (h.ext hx)).mono ?_
  rintro e w1 ⟨v, rfl, hF, -, hb⟩
  obtain ⟨A1, c1, rfl, -⟩ := hF.shape
  have hx := hx.trans hb
  clear hb k0 k1 hF
  generalize (vFaces ns ls).length = n at *
  go_wp2_with fail
  refine (within_c _ _ _ _).mono ?_
  rintro e w2 ⟨rfl, rfl⟩
  go_wp2
  go_ret
  exact ⟨ret_b (by rw [HF.out]), hx⟩

def vSidesOf (ns ls : List P2) (k : Int) : P2 := if whole ns ls = true ∧ wi k 0 (ls.length - 1) = true then (gi (vSides ns ls) (2 * k), gi (vSides ns ls) (2 * k + 1)) else (-1, -1)


def vIsLoose (ns ls : List P2) (k : Int) : Bool := decide (0 ≤ (vSidesOf ns ls k).1) && decide ((vSidesOf ns ls k).1 = (vSidesOf ns ls k).2)
theorem faces_pos {ns ls : List P2} (hw : whole ns ls = true) : 0 < (vFaces ns ls).length := by
  unfold vFaces; rw [if_pos hw]; exact fcs_pos (whole_ok hw).2
end Go.Proofs.YtdhmjhoaegdfjaaGreat

namespace Go.Proofs.YtdhmjhoaegdfjaaGreat
open Go.RowKit Go.Sort Go.BigFrame
/-! Words on lists of ints. -/
theorem In.take {w : World} {B : Nat} {A : Option Addr} {xs : List Int} (h : In w B A xs) (k : Nat) : In w B A (xs.take k) := by
  refine ⟨by simp, fun hn => ?_⟩
  rw [List.length_take] at hn
  obtain ⟨b, off, e, hlt, hc⟩ := h.2 (by omega)
  refine ⟨b, off, e, hlt, fun j u hu => hc j u ?_⟩
  rw [List.getElem?_map] at hu ⊢
  rw [List.getElem?_take] at hu
  split at hu
  · exact hu
  · cases hu
theorem gi_take {l : List Int} {i k : Nat} (hi : i < k) (hk : i < l.length) : gi (l.take k) (i : Nat) = gi l (i : Nat) := by
  rw [gi_nat _ _ (by rw [List.length_take]; omega), gi_nat _ _ hk, List.getElem_take]
theorem tk_yes {l : List Int} {i k : Nat} (hi : i < k) (hk : k < l.length) (h : gi l (i : Nat) = gi l (k : Nat)) : (l.take k).contains (gi l (k : Nat)) = true := by
  rw [contains_iff_gi]
  exact ⟨i, by rw [List.length_take]; omega, by rw [gi_take hi (by omega), h]⟩
theorem tk_no {l : List Int} {k : Nat} (hk : k < l.length) (h : ∀ i, i < k → gi l (i : Nat) ≠ gi l (k : Nat)) : (l.take k).contains (gi l (k : Nat)) = false := by
  rw [Bool.eq_false_iff]
  intro e
  rw [contains_iff_gi] at e
  obtain ⟨i, hi, e⟩ := e
  rw [List.length_take] at hi
  rw [gi_take (by omega) (by omega)] at e
  exact h i (by omega) e
def hsI (xs : List Int) (n : Int) : Bool := xs.contains n
end Go.Proofs.YtdhmjhoaegdfjaaGreat
