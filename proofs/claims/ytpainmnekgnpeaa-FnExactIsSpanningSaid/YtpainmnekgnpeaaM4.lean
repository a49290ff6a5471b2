import Derived.Test.YtpainmnekgnpeaaM3
import Derived.Laws.Append
import Derived.Test.YtpainmnekgnpeaaChecked
import Derived.KernelRfl
namespace Go.Proofs.Ytpainmnekgnpeaa
open Go.RowKit

theorem infoI4 : (Try.prog.info? 3).map (fun i => (i.zero, i.size, i.bytes)) = some (some (.int .i64 0), 1, 8) := by kernel_rfl

/-- v holds rows cs of type e of the call's own: from block B on, or (no room at all) from block B0 on. -/
def OwZ (w : World) (B0 B : Nat) (e : TypeId) (sz : Nat) (v : Value) (n : Nat) (cs : List Value) : Prop :=
  w.ownsRow B e sz v n cs ∨ (n = 0 ∧ w.ownsRow B0 e sz v 0 [] ∧ cs = [] ∧ ∃ a, v = .slice (some a) 0 0)
section
variable {w w' : World} {B0 B : Nat} {e : TypeId} {sz n : Nat} {v : Value} {cs : List Value}
theorem OwZ.ext (h : OwZ w B0 B e sz v n cs) (hx : Ext w w') : OwZ w' B0 B e sz v n cs := h.imp (fun h => ow_ext h hx) (fun ⟨h1, h2, h3, h4⟩ => ⟨h1, ow_ext h2 hx, h3, h4⟩)
theorem ow_more {B' : Nat} (h : w.ownsRow B e sz v n cs) (hB : B' ≤ B) : w.ownsRow B' e sz v n cs := by
  refine ⟨h.1, ?_⟩
  rcases h.2 with hn | ⟨g, cap, cur, hv, hb, rest⟩
  · exact .inl hn
  · exact .inr ⟨g, cap, cur, hv, by omega, rest⟩
theorem OwZ.own (h : OwZ w B0 B e sz v n cs) (hB : B0 ≤ B) : w.ownsRow B0 e sz v n cs := by
  rcases h with h | ⟨rfl, h, rfl, _⟩
  · exact ow_more h hB
  · exact h
theorem OwZ.zero (g : Nat) (hB : B0 ≤ g) (hg : g = w.heap.size) : OwZ (w.alloc (.cells #[] e)) B0 B e sz (.slice (some ⟨g, 0, none⟩) 0 0) 0 [] :=
  .inr ⟨rfl, ⟨by simp, .inr ⟨g, 0, _, rfl, hB, heap_new _ hg, Nat.le_refl _, by simp, by simp, by simp⟩⟩, rfl, _, rfl⟩
theorem OwZ.of (h : w.ownsRow B e sz v n cs) : OwZ w B0 B e sz v n cs := .inl h
theorem OwZ.up {B' : Nat} (h : OwZ w B0 B e sz v n cs) (h0 : n = 0) (hv : ∃ a, v = .slice (some a) 0 0) (hB : B0 ≤ B) : OwZ w B0 B' e sz v n cs := by
  have hc := h.own hB
  subst h0
  have : cs = [] := by have := hc.1; simpa using this
  subst this
  exact .inr ⟨rfl, hc, rfl, hv⟩
end

theorem run_append_zero {P : Program} (w : World) (t ty e : TypeId) (i : TypeInfo) (z : Value) (ht : P.underlying t = some (.slice e)) (hi : P.info? e = some i) (hz : i.zero = some z)
    (b a : Addr) (n c : Nat) (news : List Value) (hl : news.length = n * i.size) (hnews : ∀ j v, news[j]? = some v → w.cell? (a.add j) = some v)
    (h0 : 0 < n) (h63 : (n : Int) ≤ 9223372036854775807) (h48 : n * i.bytes ≤ 281474976710656) :
    (Builtin.append_ #[t, t] ty #[.slice (some b) 0 0, .slice (some a) n c]).run P w = (Builtin.append_ #[t, t] ty #[.slice none 0 0, .slice (some a) n c]).run P w := by
  rw [run_append_nil (P := P) w t ty e i z ht hi hz a n c news hl hnews h0 h63 h48,
    run_append_grow (P := P) w t ty e i z ht hi hz b 0 0 [] (by simp) (fun j v h => by simp at h) a n c news hl hnews (by omega) (by simpa using h63) (by rw [Nat.zero_add, nextslicecap_zero h0]; exact h48)]
  simp

/-- append of one element of sz cells -/
theorem az_gen {P : Program} (t e : TypeId) (z : Value) (sz bytes : Nat) (hu : P.underlying t = some (.slice e)) (hif : (P.info? e).map (fun i => (i.zero, i.size, i.bytes)) = some (some z, sz, bytes))
    (hzs : z.cells.size = sz) (hsz : 0 < sz) (hby : bytes ≤ 1000)
    {ops : Array Oper} {rest : List Oper} {o : Oper} {a : Act} {Q : Exit → Act → World → Prop} {w : World} (s x : Operand) (hgd : o.guard = none)
    (ho : o.op = .call { callee := .builtin .append, args := #[s, x], argTypes := #[t, t] })
    {B0 B : Nat} {v : Value} {n : Nat} {cs : List Value} (hs : a.eval s = v) (hown : OwZ w B0 B e sz v n cs) {g : Nat} {news : List Value} (hx : a.eval x = .slice (some ⟨g, 0, none⟩) 1 1)
    (hl : news.length = sz) (hc : ∀ j u, news[j]? = some u → w.cell? ⟨g, j, none⟩ = some u) (h1 : ∀ u ∈ news, u.oneCell' = true)
    (hn : n ≤ 4000000) (hB : B ≤ w.heap.size)
    (h : ∀ v' w', w'.ownsRow B e sz v' (n + 1) (cs ++ news) → (∀ W, Ext W w → W.heap.size ≤ B → Ext W w') → (∀ g c, v = .slice (some g) n c → n < c → v' = .slice (some g) (n + 1) c) → (∃ r, w.grownBy w' r ∧ ∀ q, r = some q → B ≤ q) → wpList P ops Q rest (a.put o.dst v') w') : wpList P ops Q (o :: rest) a w := by
  obtain ⟨i0, hi, hz0, hz1, hz2⟩ := info_parts hif
  have hnews : ∀ j u, news[j]? = some u → w.cell? ((⟨g, 0, none⟩ : Addr).add j) = some u := fun j u hj => by
    have e : (⟨g, 0, none⟩ : Addr).add j = ⟨g, j, none⟩ := by unfold Addr.add; split <;> simp_all
    rw [e]; exact hc j u hj
  have hbb : (n + 1) * bytes ≤ 140737488355328 := by
    have : (n + 1) * bytes ≤ 4000001 * 1000 := Nat.mul_le_mul (by omega) hby
    omega
  have key : ∃ v' w', (Builtin.append_ #[t, t] o.type #[v, .slice (some ⟨g, 0, none⟩) 1 1]).run P w = .ok v' w' ∧ w'.ownsRow B e sz v' (n + 1) (cs ++ news) ∧ (∀ W, Ext W w → W.heap.size ≤ B → Ext W w') ∧
      (∀ g c, v = .slice (some g) n c → n < c → v' = .slice (some g) (n + 1) c) ∧ (∃ r, w.grownBy w' r ∧ ∀ q, r = some q → B ≤ q) := by
    rcases hown with hown | ⟨rfl, -, rfl, b, rfl⟩
    · obtain ⟨v', w', hr, h2, h3, _⟩ := run_append_own (P := P) w B t o.type e i0 z sz bytes hu hi hz0 hz1 hz2 hzs hsz v n cs hown ⟨g, 0, none⟩ 1 1 news (by omega) hnews h1 (by unfold maxLen; omega) hbb hB
      refine ⟨v', w', hr, h2, fun W hW hWB => ow_grow hown hW hWB h3, ?_, v.ownBlock, h3, fun q hq => (hown.lt q hq).1⟩
      rintro b c rfl hlt
      rcases hown.2 with ⟨h', _⟩ | ⟨g', cap, cur, hv, hbg, hg, hnc, hcm, hcs, htake⟩
      · simp at h'
      · injection hv with hv1 hv2 hv3
        injection hv1 with hv1
        subst hv1
        subst hv3
        have hrm := run_append_room (P := P) w t o.type e i0 hu hi g' n c cur hg ⟨g, 0, none⟩ 1 1 news (by omega) hnews h1 hlt
          (by rw [hl, hcs, hz1, ← Nat.succ_mul]; exact Nat.mul_le_mul_right _ hlt)
        rw [hrm] at hr
        injection hr with hr1 _
        exact hr1.symm
    · obtain ⟨v', w', hr, h2, h3, _⟩ := run_append_own (P := P) w B t o.type e i0 z sz bytes hu hi hz0 hz1 hz2 hzs hsz (.slice none 0 0) 0 [] (World.ownsRow_nil w B _ _) ⟨g, 0, none⟩ 1 1 news (by omega) hnews h1 (by unfold maxLen; omega) hbb hB
      rw [← run_append_zero (P := P) w t o.type e i0 z hu hi hz0 b ⟨g, 0, none⟩ 1 1 news (by omega) hnews (by omega) (by omega) (by omega)] at hr
      exact ⟨v', w', hr, h2, fun W hW hWB => ow_grow (World.ownsRow_nil w B e sz) hW hWB h3, fun g c hg hc => by injection hg with _ _ h3; omega, _, h3, fun q hq => by simp [Value.ownBlock] at hq⟩
  obtain ⟨v', w', hr, h2, h3, h4, h5⟩ := key
  refine wpList_plain hgd fun _ hK => ?_
  unfold Oper.wp execOp
  simp only [ho, resolve, invoke, builtin, Sem.run_bind, Sem.run_pure, Result.andThen_ok, List.map_toArray, List.map_cons, List.map_nil, hs, hx, hr]
  exact hK _ _ (h v' w' h2 h3 h4 h5)

/-- v holds the ints xs -/
def OzI (w : World) (B0 B : Nat) (v : Value) (xs : List Int) : Prop := OwZ w B0 B 3 1 v xs.length (xs.map (Value.int .i64))
theorem OzI.ext {w w' : World} {B0 B : Nat} {v : Value} {xs : List Int} (h : OzI w B0 B v xs) (hx : Ext w w') : OzI w' B0 B v xs := OwZ.ext h hx
theorem OzI.own {w : World} {B0 B : Nat} {v : Value} {xs : List Int} (h : OzI w B0 B v xs) (hB : B0 ≤ B) : OwI w B0 v xs := OwZ.own h hB
theorem OzI.up {w : World} {B0 B B' : Nat} {v : Value} {xs : List Int} (h : OzI w B0 B v xs) (h0 : xs = []) (hv : ∃ a, v = .slice (some a) 0 0) (hB : B0 ≤ B) : OzI w B0 B' v xs := OwZ.up h (by rw [h0]; rfl) hv hB
theorem OzI.of {w : World} {B0 B : Nat} {v : Value} {xs : List Int} (h : OwI w B v xs) : OzI w B0 B v xs := OwZ.of h
theorem OzI.zero {w : World} {B0 B : Nat} (g : Nat) (hB : B0 ≤ g) (hg : g = w.heap.size) : OzI (w.alloc (.cells #[] 3)) B0 B (.slice (some ⟨g, 0, none⟩) 0 0) [] := OwZ.zero g hB hg
theorem OzI.shape {w : World} {B0 B n : Nat} {v : Value} {xs : List Int} (h : OzI w B0 B v xs) (hn : xs.length = n) : ∃ A c, v = .slice A n c := by
  subst hn
  rcases h with h | ⟨h0, _, _, a, h⟩
  · obtain ⟨A, c, e, _⟩ := ow_shape h
    exact ⟨A, c, e⟩
  · exact ⟨some a, 0, by rw [h, h0]⟩
theorem az_int {ops : Array Oper} {rest : List Oper} {o : Oper} {a : Act} {Q : Exit → Act → World → Prop} {w : World} (s x : Operand) (hgd : o.guard = none)
    (ho : o.op = .call { callee := .builtin .append, args := #[s, x], argTypes := #[22, 22] })
    {B0 B : Nat} {v : Value} {xs : List Int} (hs : a.eval s = v) (hown : OzI w B0 B v xs) {g : Nat} {y : Int} (hx : a.eval x = .slice (some ⟨g, 0, none⟩) 1 1) (hc : w.cell? ⟨g, 0, none⟩ = some (.int .i64 y))
    (hl : xs.length ≤ 4000000) (hB : B ≤ w.heap.size)
    (h : ∀ v' w', OzI w' B0 B v' (xs ++ [y]) → (∀ W, Ext W w → W.heap.size ≤ B → Ext W w') → wpList Try.prog ops Q rest (a.put o.dst v') w') : wpList Try.prog ops Q (o :: rest) a w := by
  refine az_gen 22 3 (.int .i64 0) 1 8 Try.underlying22 infoI4 rfl (by omega) (by omega) s x hgd ho hs hown (news := [.int .i64 y]) hx rfl ?_ ?_ hl hB ?_
  · intro j u hj
    match j, hj with
    | 0, hj => simp at hj; subst hj; exact hc
  · intro u hu; simp at hu; subst hu; rfl
  · intro v' w' h2 h3 _ _
    refine h v' w' (.inl ?_) h3
    simpa using h2
theorem az_int2 {ops : Array Oper} {rest : List Oper} {o : Oper} {a : Act} {Q : Exit → Act → World → Prop} {w : World} (s x : Operand) (hgd : o.guard = none)
    (ho : o.op = .call { callee := .builtin .append, args := #[s, x], argTypes := #[22, 22] })
    {B0 B : Nat} {v : Value} {xs : List Int} (hs : a.eval s = v) (hown : OzI w B0 B v xs) {g : Nat} {y : Int} (hx : a.eval x = .slice (some ⟨g, 0, none⟩) 1 1) (hc : w.cell? ⟨g, 0, none⟩ = some (.int .i64 y))
    (hl : xs.length ≤ 4000000) (hB : B ≤ w.heap.size)
    (h : ∀ v' w', OwI w' B v' (xs ++ [y]) → (∀ W, Ext W w → W.heap.size ≤ B → Ext W w') → wpList Try.prog ops Q rest (a.put o.dst v') w') : wpList Try.prog ops Q (o :: rest) a w := by
  refine az_gen 22 3 (.int .i64 0) 1 8 Try.underlying22 infoI4 rfl (by omega) (by omega) s x hgd ho hs hown (news := [.int .i64 y]) hx rfl ?_ ?_ hl hB ?_
  · intro j u hj
    match j, hj with
    | 0, hj => simp at hj; subst hj; exact hc
  · intro u hu; simp at hu; subst hu; rfl
  · intro v' w' h2 h3 _ _
    refine h v' w' ?_ h3
    unfold OwI
    simpa using h2
theorem az_int3 {ops : Array Oper} {rest : List Oper} {o : Oper} {a : Act} {Q : Exit → Act → World → Prop} {w : World} (s x : Operand) (hgd : o.guard = none)
    (ho : o.op = .call { callee := .builtin .append, args := #[s, x], argTypes := #[22, 22] })
    {B0 B : Nat} {v : Value} {xs : List Int} (hs : a.eval s = v) (hown : OzI w B0 B v xs) {g : Nat} {y : Int} (hx : a.eval x = .slice (some ⟨g, 0, none⟩) 1 1) (hc : w.cell? ⟨g, 0, none⟩ = some (.int .i64 y))
    (hl : xs.length ≤ 4000000) (hB : B ≤ w.heap.size)
    (h : ∀ v' w' r, OwI w' B v' (xs ++ [y]) → (∀ W, Ext W w → W.heap.size ≤ B → Ext W w') → w.grownBy w' r → (∀ q, r = some q → B ≤ q) → wpList Try.prog ops Q rest (a.put o.dst v') w') : wpList Try.prog ops Q (o :: rest) a w := by
  refine az_gen 22 3 (.int .i64 0) 1 8 Try.underlying22 infoI4 rfl (by omega) (by omega) s x hgd ho hs hown (news := [.int .i64 y]) hx rfl ?_ ?_ hl hB ?_
  · intro j u hj
    match j, hj with
    | 0, hj => simp at hj; subst hj; exact hc
  · intro u hu; simp at hu; subst hu; rfl
  · rintro v' w' h2 h3 _ ⟨r, h4, h5⟩
    refine h v' w' r ?_ h3 h4 h5
    unfold OwI
    simpa using h2
/-- the numbers below j with p -/
def flt (p : Nat → Bool) (j : Nat) : List Int := ((List.range j).filter p).map (fun i : Nat => (i : Int))
theorem flt_zero (p : Nat → Bool) : flt p 0 = [] := rfl
theorem flt_yes {p : Nat → Bool} {j : Nat} (h : p j = true) : flt p (j + 1) = flt p j ++ [(j : Int)] := by
  unfold flt
  rw [List.range_succ, List.filter_append]
  simp [h]
theorem flt_no {p : Nat → Bool} {j : Nat} (h : p j = false) : flt p (j + 1) = flt p j := by
  unfold flt
  rw [List.range_succ, List.filter_append]
  simp [h]
theorem flt_len (p : Nat → Bool) (j : Nat) : (flt p j).length ≤ j := by
  unfold flt
  rw [List.length_map]
  have := List.length_filter_le p (List.range j)
  rwa [List.length_range] at this
theorem flt_none {p : Nat → Bool} {j : Nat} (h : ∀ i, i < j → p i = false) : flt p j = [] := by
  unfold flt
  rw [List.map_eq_nil_iff, List.filter_eq_nil_iff]
  intro i hi
  rw [h i (List.mem_range.1 hi)]
  simp
theorem flt_congr {p q : Nat → Bool} {j : Nat} (h : ∀ i, i < j → p i = q i) : flt p j = flt q j := by
  unfold flt
  rw [List.filter_congr (fun i hi => h i (List.mem_range.1 hi))]
theorem flt_mem {p : Nat → Bool} {j : Nat} {x : Int} : x ∈ flt p j ↔ ∃ i : Nat, x = i ∧ i < j ∧ p i = true := by
  unfold flt
  simp only [List.mem_map, List.mem_filter, List.mem_range]
  exact ⟨fun ⟨i, ⟨h1, h2⟩, h3⟩ => ⟨i, h3.symm, h1, h2⟩, fun ⟨i, h3, h1, h2⟩ => ⟨i, ⟨h1, h2⟩, h3.symm⟩⟩
end Go.Proofs.Ytpainmnekgnpeaa
