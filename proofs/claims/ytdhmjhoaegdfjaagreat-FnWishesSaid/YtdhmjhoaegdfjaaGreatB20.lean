import Derived.Test.YtdhmjhoaegdfjaaGreatG10
import Derived.Test.YtdhmjhoaegdfjaaGreatG9
import Derived.Test.YtdhmjhoaegdfjaaGreatG7
namespace Go.Proofs.YtdhmjhoaegdfjaaGreat
open Go.RowKit Go.Sort Go.BigFrame

theorem infoN : (Tryz.prog.info? 79).map (fun i => (i.zero, i.size, i.bytes)) = some (some (.agg #[.int .i64 0, .int .i64 0]), 2, 16) := by kernel_rfl
theorem infoL : (Tryz.prog.info? 81).map (fun i => (i.zero, i.size, i.bytes)) = some (some (.agg #[.int .i64 0, .int .i64 0]), 2, 16) := by kernel_rfl

theorem run_app_nil {P : Program} (w : World) (t ty e : TypeId) (i : TypeInfo) (ht : P.underlying t = some (.slice e)) (hi : P.info? e = some i) (sz : Nat)
    {B : Nat} {v : Value} {n : Nat} {cs : List Value} (hown : w.ownsRow B e sz v n cs) (c : Nat) : (Builtin.append_ #[t, t] ty #[v, .slice none 0 c]).run P w = .ok v w := by
  rcases hown.2 with ⟨rfl, rfl⟩ | ⟨g, cap, cur, rfl, _, _, hnc, _⟩
  · simp [Builtin.append_, run_underlying ht, sizeOf, typeInfo, hi, Builtin.lenOf, Builtin.firstCells]
  · simp [Builtin.append_, run_underlying ht, sizeOf, typeInfo, hi, Builtin.lenOf, Builtin.firstCells, hnc, storeCells]

/-- append of a slice of pairs onto a row of the call's own -/
theorem az_src {P : Program} (tS T : TypeId) (hu : P.underlying tS = some (.slice T)) (hif : (P.info? T).map (fun i => (i.zero, i.size, i.bytes)) = some (some (.agg #[.int .i64 0, .int .i64 0]), 2, 16))
    {ops : Array Oper} {rest : List Oper} {o : Oper} {a : Act} {Q : Exit → Act → World → Prop} {w : World} (s x : Operand) (hgd : o.guard = none)
    (ho : o.op = .call { callee := .builtin .append, args := #[s, x], argTypes := #[tS, tS] })
    {B : Nat} {v : Value} {l0 : List P2} (hs : a.eval s = v) (hown : OwP w B T v l0) {A : Option Addr} {n c B1 : Nat} {l : List P2} (hx : a.eval x = .slice A n c) (hn : n = l.length) (hP : Pr w B1 A l)
    (hl0 : l0.length ≤ 2000000) (hl : l.length ≤ 2000000) (hB : B ≤ w.heap.size)
    (h : ∀ v' w' r, OwP w' B T v' (l0 ++ l) → (∀ W, Ext W w → W.heap.size ≤ B → Ext W w') → w.grownBy w' r → (∀ q, r = some q → v.ownBlock = some q) → wpList P ops Q rest (a.put o.dst v') w') : wpList P ops Q (o :: rest) a w := by
  subst hn
  obtain ⟨i0, hi, hz0, hz1, hz2⟩ := info_parts hif
  have key : ∃ v' w', (Builtin.append_ #[tS, tS] o.type #[v, .slice A l.length c]).run P w = .ok v' w' ∧ OwP w' B T v' (l0 ++ l) ∧ w.grownBy w' v.ownBlock := by
    cases A with
    | none =>
      have hl0' : l.length = 0 := by
        rcases Nat.eq_zero_or_pos l.length with h0 | h0
        · exact h0
        · obtain ⟨b, off, e, _⟩ := hP.2 h0; cases e
      have : l = [] := by simpa using hl0'
      subst this
      exact ⟨v, w, run_app_nil w tS o.type T i0 hu hi 2 hown c, by simpa using hown, ⟨rfl, rfl, rfl, Nat.le_refl _, fun _ _ _ => rfl⟩⟩
    | some ad =>
      have hcells : ∀ j u, (l.flatMap pc)[j]? = some u → w.cell? (ad.add j) = some u := by
        intro j u hj
        rcases Nat.eq_zero_or_pos l.length with h0 | h0
        · have : l = [] := by simpa using h0
          subst this
          simp at hj
        · obtain ⟨b, off, e, _, hc⟩ := hP.2 h0
          injection e with e
          subst e
          have e2 : (⟨b, off, none⟩ : Addr).add j = ⟨b, off + j, none⟩ := by unfold Addr.add; split <;> simp_all
          rw [e2]
          exact hc j u hj
      obtain ⟨v', w', hr, h2, h3, _⟩ := run_append_own (P := P) w B tS o.type T i0 _ 2 16 hu hi hz0 hz1 hz2 rfl (by omega) v l0.length (l0.flatMap pc) hown ad l.length c (l.flatMap pc) (pcs_length l) hcells
        (fun u hu => by
          obtain ⟨q, _, hq⟩ := List.mem_flatMap.1 hu
          simp [pc] at hq
          rcases hq with rfl | rfl <;> rfl) (by unfold maxLen; omega) (by omega) hB
      refine ⟨v', w', hr, ?_, h3⟩
      unfold OwP
      rw [List.length_append, List.flatMap_append]
      exact h2
  obtain ⟨v', w', hr, h2, h3⟩ := key
  refine wpList_plain hgd fun _ hK => ?_
  unfold Oper.wp execOp
  simp only [ho, resolve, invoke, builtin, Sem.run_bind, Sem.run_pure, Result.andThen_ok, List.map_toArray, List.map_cons, List.map_nil, hs, hx, hr]
  exact hK _ _ (h v' w' v.ownBlock h2 (fun W hW hWB => ow_grow hown hW hWB h3) h3 (fun q hq => hq))

/-- append of a slice of pairs onto a slice with no room -/
theorem az_fresh {P : Program} (tS T : TypeId) (hu : P.underlying tS = some (.slice T)) (hif : (P.info? T).map (fun i => (i.zero, i.size, i.bytes)) = some (some (.agg #[.int .i64 0, .int .i64 0]), 2, 16))
    {ops : Array Oper} {rest : List Oper} {o : Oper} {a : Act} {Q : Exit → Act → World → Prop} {w : World} (s x : Operand) (hgd : o.guard = none)
    (ho : o.op = .call { callee := .builtin .append, args := #[s, x], argTypes := #[tS, tS] })
    {B : Nat} {v : Value} (hs : a.eval s = v) (hown : OwP w B T v []) (hv : ∃ A0, v = .slice A0 0 0) {A : Option Addr} {n c B1 : Nat} {l : List P2} (hx : a.eval x = .slice A n c) (hn : n = l.length) (hP : Pr w B1 A l)
    (hl : l.length ≤ 2000000) (hB : B ≤ w.heap.size)
    (h : ∀ v' w', OwP w' B T v' l → Ext w w' → (∀ q, v'.ownBlock = some q → w.heap.size ≤ q ∨ v.ownBlock = some q) → wpList P ops Q rest (a.put o.dst v') w') : wpList P ops Q (o :: rest) a w := by
  subst hn
  obtain ⟨A0, rfl⟩ := hv
  obtain ⟨i0, hi, hz0, hz1, hz2⟩ := info_parts hif
  have key : ∃ v' w', (Builtin.append_ #[tS, tS] o.type #[.slice A0 0 0, .slice A l.length c]).run P w = .ok v' w' ∧ OwP w' B T v' l ∧ Ext w w' ∧ (∀ q, v'.ownBlock = some q → w.heap.size ≤ q ∨ (Value.slice A0 0 0).ownBlock = some q) := by
    cases A with
    | none =>
      have hl0' : l.length = 0 := by
        rcases Nat.eq_zero_or_pos l.length with h0 | h0
        · exact h0
        · obtain ⟨b, off, e, _⟩ := hP.2 h0; cases e
      have : l = [] := by simpa using hl0'
      subst this
      exact ⟨_, w, run_app_nil w tS o.type T i0 hu hi 2 hown c, hown, Ext.refl _, fun q hq => .inr hq⟩
    | some ad =>
      have hcells : ∀ j u, (l.flatMap pc)[j]? = some u → w.cell? (ad.add j) = some u := by
        intro j u hj
        rcases Nat.eq_zero_or_pos l.length with h0 | h0
        · have : l = [] := by simpa using h0
          subst this
          simp at hj
        · obtain ⟨b, off, e, _, hc⟩ := hP.2 h0
          injection e with e
          subst e
          have e2 : (⟨b, off, none⟩ : Addr).add j = ⟨b, off + j, none⟩ := by unfold Addr.add; split <;> simp_all
          rw [e2]
          exact hc j u hj
      have h1 : ∀ u ∈ l.flatMap pc, u.oneCell' = true := fun u hu => by
        obtain ⟨q, _, hq⟩ := List.mem_flatMap.1 hu
        simp [pc] at hq
        rcases hq with rfl | rfl <;> rfl
      obtain ⟨v', w', hr, h2, h3, _⟩ := run_append_own (P := P) w w.heap.size tS o.type T i0 _ 2 16 hu hi hz0 hz1 hz2 rfl (by omega) (.slice none 0 0) 0 [] (World.ownsRow_nil w w.heap.size _ _) ad l.length c (l.flatMap pc) (pcs_length l) hcells h1 (by unfold maxLen; omega) (by omega) (Nat.le_refl _)
      have hxx : Ext w w' := gb_ext2 (Ext.refl w) h3 (fun q e => by simp [Value.ownBlock] at e)
      have hP0 : OwP w' w.heap.size T v' l := by unfold OwP; simpa using h2
      have hP' : OwP w' B T v' l := ow_more hP0 hB
      have hnew : ∀ q, v'.ownBlock = some q → w.heap.size ≤ q ∨ (Value.slice A0 0 0).ownBlock = some q := fun q hq => .inl (World.ownsRow.lt hP0 q hq).1
      rcases Nat.eq_zero_or_pos l.length with h0 | h0
      · have : l = [] := by simpa using h0
        subst this
        cases A0 with
        | none => exact ⟨v', w', hr, hP', hxx, hnew⟩
        | some b0 =>
          rcases hown.2 with ⟨e, _⟩ | ⟨g, cap, cur, e, hbg, hg, hnc, hcm, hcs, htake⟩
          · simp at e
          · injection e with e1 e2 e3
            injection e1 with e1
            subst e1
            subst e3
            have hcur : cur = #[] := by
              apply Array.eq_empty_of_size_eq_zero
              simpa using hcs
            subst hcur
            have hrm := run_append_room (P := P) w tS o.type T i0 hu hi g 0 0 #[] hg ad 0 c [] (by simp) (fun j u hj => by simp at hj) (fun u hu => by cases hu) (by omega) (by simp)
            refine ⟨_, _, hrm, ?_, ?_, fun q hq => .inr hq⟩
            · have hs := setRow_heap w g #[] ([] : List Value).toArray T (0, 0) hg
              exact ⟨by simp, .inr ⟨g, 0, #[], rfl, hbg, by simpa using hs, by simp, by simp, by simp, by simp⟩⟩
            · refine ⟨rfl, rfl, rfl, by simp [World.setRow], fun i hi => ?_⟩
              by_cases hig : i = g
              · subst hig
                have hs := setRow_heap w i #[] ([] : List Value).toArray T (0, 0) hg
                rw [hg]
                simpa using hs
              · exact setRow_other w g i _ hig
      · cases A0 with
        | none => exact ⟨v', w', hr, hP', hxx, hnew⟩
        | some b0 =>
          rw [← run_append_zero (P := P) w tS o.type T i0 _ hu hi hz0 b0 ad l.length c (l.flatMap pc) (by rw [hz1]; exact pcs_length l) hcells h0 (by omega) (by rw [hz2]; omega)] at hr
          exact ⟨v', w', hr, hP', hxx, hnew⟩
  obtain ⟨v', w', hr, h2, h3, h4⟩ := key
  refine wpList_plain hgd fun _ hK => ?_
  unfold Oper.wp execOp
  simp only [ho, resolve, invoke, builtin, Sem.run_bind, Sem.run_pure, Result.andThen_ok, List.map_toArray, List.map_cons, List.map_nil, hs, hx, hr]
  exact hK _ _ (h v' w' h2 h3 h4)

theorem OwP.zero {w : World} {B0 : Nat} (T : TypeId) (g : Nat) (hB : B0 ≤ g) (hg : g = w.heap.size) : OwP (w.alloc (.cells #[] T)) B0 T (.slice (some ⟨g, 0, none⟩) 0 0) [] :=
  ⟨by simp, .inr ⟨g, 0, _, rfl, hB, heap_new _ hg, Nat.le_refl _, by simp, by simp, by simp⟩⟩

theorem OwP.gb2 {w w' : World} {B : Nat} {T : TypeId} {v : Value} {l : List P2} {r : Nat} (h : OwP w B T v l) (k : w.grownBy w' (some r)) (hr : r < B) : OwP w' B T v l :=
  gb_own h k fun q hq e => by
    have := (World.ownsRow.lt h q hq).1
    injection e with e
    omega
theorem OwP.ext2 {w w' : World} {B : Nat} {T : TypeId} {v : Value} {l : List P2} (h : OwP w B T v l) (hx : Ext w w') : OwP w' B T v l := gb_own h (gb_ext (r := none) hx) fun q hq e => by cases e

section
variable {P : Program} {Q : Exit → Act → World → Prop} {W w : World} {l : List Oper} {a : Act}
/-- a slice of no room that a region makes -/
theorem rx_genz {SL : List Sm} {L k m : Nat} {T : TypeId}
    (h : ∀ w', Ext w w' → OwP w' w.heap.size T (.slice (some ⟨w.heap.size, 0, none⟩) 0 0) [] → w.heap.size < w'.heap.size → Rx P Q W l SL L k m a w') : Rx P Q W l SL L k m a (w.alloc (.cells #[] T)).drew :=
  h _ (((Ext.refl w).alloc _).drew) (OwP.ext2 (OwP.zero T _ (Nat.le_refl _) rfl) ((Ext.refl _).drew)) (by show w.heap.size < (w.alloc _).heap.size; simp)
theorem rx_genz' {SL : List Sm} {L k m : Nat} {T : TypeId}
    (h : ∀ w', Ext w w' → OwP w' w.heap.size T (.slice (some ⟨w.heap.size, 0, none⟩) 0 0) [] → w.heap.size < w'.heap.size → Rx P Q W l SL L k m a w') : Rx P Q W l SL L k m a (w.alloc (.cells #[] T)) :=
  h _ ((Ext.refl w).alloc _) (OwP.zero T _ (Nat.le_refl _) rfl) (by simp)
end

set_option maxRecDepth 100000 in
set_option maxHeartbeats 4000000 in
theorem copy_s_l04Copy (A B : Option Addr) (c d : Nat) (ns ls : List P2) (w : World) (h : Wn w A c B d ns ls) :
    Calls Tryz.prog 83 #[.agg #[.slice A ns.length c, .slice B ls.length d]] w fun e w' => ∃ v1 v2, e = .returned (.agg #[v1, v2]) ∧ OwP w' w.heap.size 79 v1 ns ∧ OwP w' w.heap.size 81 v2 ls ∧ (∀ q, v1.ownBlock = some q → v2.ownBlock ≠ some q) ∧ Ext w w' := by
  have hnl := h.hl
  have hml := h.hm
  go_enter Tryz.func83, Tryz.ntmps83
  go_wp2_with fail
  have k0 : (w.alloc (.cells #[.slice A ns.length c, .slice B ls.length d] 27)).cell? ⟨w.heap.size, 0, none⟩ = some (.slice A ns.length c) := by go_simp
  have k1 : (w.alloc (.cells #[.slice A ns.length c, .slice B ls.length d] 27)).cell? ⟨w.heap.size, 1, none⟩ = some (.slice B ls.length d) := by go_simp
  have hx : Ext w (w.alloc (.cells #[.slice A ns.length c, .slice B ls.length d] 27)) := (by repeat first | exact Ext.refl _ | assumption | refine Ext.drew ?_ | refine Ext.alloc ?_ _ | refine Ext.setCell ?_ (by simp) | refine Ext.setCell ?_ (by simp; omega) | refine Ext.trans ?_ (by assumption))
  have hsz1 : w.heap.size + 1 = (w.alloc (.cells #[.slice A ns.length c, .slice B ls.length d] 27)).heap.size := by simp
  generalize (w.alloc (.cells #[.slice A ns.length c, .slice B ls.length d] 27)) = w1 at *
  (try rw [hsz1])
  have rb0 : (w1.alloc (.cells #[.slice none 0 0, .slice none 0 0] 27)).cell? ⟨w1.heap.size, 0, none⟩ = some (.slice none 0 0) := by go_simp
  have rb1 : (w1.alloc (.cells #[.slice none 0 0, .slice none 0 0] 27)).cell? ⟨w1.heap.size, 1, none⟩ = some (.slice none 0 0) := by go_simp
  have fb0 : (w1.alloc (.cells #[.slice none 0 0, .slice none 0 0] 27)).frozen? ⟨w1.heap.size, 0, none⟩ = false := by go_simp
  have fb1 : (w1.alloc (.cells #[.slice none 0 0, .slice none 0 0] 27)).frozen? ⟨w1.heap.size, 1, none⟩ = false := by go_simp
  have hx2 : Ext w1 (w1.alloc (.cells #[.slice none 0 0, .slice none 0 0] 27)) := (by repeat first | exact Ext.refl _ | assumption | refine Ext.drew ?_ | refine Ext.alloc ?_ _ | refine Ext.setCell ?_ (by simp) | refine Ext.setCell ?_ (by simp; omega) | refine Ext.trans ?_ (by assumption))
  have hsz2 : w1.heap.size < (w1.alloc (.cells #[.slice none 0 0, .slice none 0 0] 27)).heap.size := by simp
  generalize (w1.alloc (.cells #[.slice none 0 0, .slice none 0 0] 27)) = w2 at *
  generalize hg0 : w1.heap.size = g0 at *
  have k0 := hx2.lit k0
  have k1 := hx2.lit k1
  have hx := hx.trans hx2
  have d0 := cell_regrown k0
  have d1 := cell_regrown k1
  refine rx_open [(false, 0, some 3, 0), (true, 0, some 4, 2), (true, 2, some 5, 16), (false, 5, some 6, 40), (false, 0, some 7, 0), (true, 0, some 8, 2), (true, 32, some 9, 256), (false, 88, some 10, 640), (false, 136, some 11, 1088), (false, 511, none, 2052)] 896 10 mixd rfl (by kernel_rfl) (by kernel_rfl) (by kernel_rfl) ?_
  refine rx_run (run := [1, 2, 5, 6]) (k := 6) (m' := 102) rfl (by kernel_rfl) (by kernel_rfl) (by kernel_rfl) (fm_cons rfl <| fm_cons rfl <| fm_cons rfl <| fm_cons rfl <| List.filterMap_nil) (by repeat first | exact Ext.refl _ | assumption | refine Ext.drew ?_ | refine Ext.alloc ?_ _ | refine Ext.setCell ?_ (by simp) | refine Ext.setCell ?_ (by simp; omega) | refine Ext.trans ?_ (by assumption)) ?_
  repeat (go_big_quiet_step ((fail)))
  refine wpQuiet_nil ?_
  refine rx_two 0 4 (k := 5) (mi := 103) (mj := 118) rfl rfl rfl (by kernel_rfl) (by kernel_rfl) (by kernel_rfl) ?_ ?_
  · skip
    go_wp2
    refine rx_on (by repeat first | exact Ext.refl _ | assumption | refine Ext.drew ?_ | refine Ext.alloc ?_ _ | refine Ext.setCell ?_ (by simp) | refine Ext.setCell ?_ (by simp; omega) | refine Ext.trans ?_ (by assumption)) ?_
    first | refine rx_genz ?_ | refine rx_genz' ?_
    intro wz1 hbz1 hz1 sz1
    refine rx_two 3 4 (k := 4) (mi := 111) (mj := 119) rfl rfl rfl (by kernel_rfl) (by kernel_rfl) (by kernel_rfl) ?_ ?_
    · skip
      go_wp2_with (first | (at_builtin; refine az_fresh (v := .slice _ 0 0) (B := w2.heap.size) 24 79 Tryz.underlying24 infoN _ _ rfl rfl rfl (by first | exact OwP.nil _ _ _ | exact ow_more (hz1.ext2 (by repeat first | exact Ext.refl _ | assumption | refine Ext.drew ?_ | refine Ext.alloc ?_ _ | refine Ext.setCell ?_ (by simp) | refine Ext.setCell ?_ (by simp; omega) | refine Ext.trans ?_ (by assumption))) (by first | exact Nat.le_refl _ | omega | (show w2.heap.size ≤ _; omega))) ⟨_, rfl⟩ rfl rfl (h.ext (hx.trans (by repeat first | exact Ext.refl _ | assumption | refine Ext.drew ?_ | refine Ext.alloc ?_ _ | refine Ext.setCell ?_ (by simp) | refine Ext.setCell ?_ (by simp; omega) | refine Ext.trans ?_ (by assumption)))).h (by omega) (by first | (simp; done) | (simp; omega) | omega) ?_; intro v1 w3 hv1 hb3 hd1; obtain ⟨A1, c1, rfl, -, -, -⟩ := hv1.shape; have r0 : w3.cell? ⟨g0, 0, none⟩ = some (.slice none 0 0) := Ext.lit (by repeat first | exact Ext.refl _ | assumption | refine Ext.drew ?_ | refine Ext.alloc ?_ _ | refine Ext.setCell ?_ (by simp) | refine Ext.setCell ?_ (by simp; omega) | refine Ext.trans ?_ (by assumption)) rb0; have hsz3 : w2.heap.size ≤ w3.heap.size := (show Ext w2 w3 from (by repeat first | exact Ext.refl _ | assumption | refine Ext.drew ?_ | refine Ext.alloc ?_ _ | refine Ext.setCell ?_ (by simp) | refine Ext.setCell ?_ (by simp; omega) | refine Ext.trans ?_ (by assumption))).size) | (at_builtin; refine az_fresh (v := .slice _ 0 0) (B := w2.heap.size) 25 81 Tryz.underlying25 infoL _ _ rfl rfl rfl (by first | exact OwP.nil _ _ _ | exact ow_more (hz2.ext2 (by repeat first | exact Ext.refl _ | assumption | refine Ext.drew ?_ | refine Ext.alloc ?_ _ | refine Ext.setCell ?_ (by simp) | refine Ext.setCell ?_ (by simp; omega) | refine Ext.trans ?_ (by assumption))) (by first | exact Nat.le_refl _ | omega | (show w2.heap.size ≤ _; omega))) ⟨_, rfl⟩ rfl rfl (h.ext (hx.trans (by repeat first | exact Ext.refl _ | assumption | refine Ext.drew ?_ | refine Ext.alloc ?_ _ | refine Ext.setCell ?_ (by simp) | refine Ext.setCell ?_ (by simp; omega) | refine Ext.trans ?_ (by assumption)))).g (by omega) (by first | (simp; done) | (simp; omega) | omega) ?_; intro v2 w4 hv2 hb4 hd2; obtain ⟨A2, c2, rfl, -, -, -⟩ := hv2.shape; have r0 : w4.cell? ⟨g0, 0, none⟩ = some (.slice none 0 0) := Ext.lit (by repeat first | exact Ext.refl _ | assumption | refine Ext.drew ?_ | refine Ext.alloc ?_ _ | refine Ext.setCell ?_ (by simp) | refine Ext.setCell ?_ (by simp; omega) | refine Ext.trans ?_ (by assumption)) rb0; have r1 : w4.cell? ⟨g0, 1, none⟩ = some (.slice none 0 0) := Ext.lit (by repeat first | exact Ext.refl _ | assumption | refine Ext.drew ?_ | refine Ext.alloc ?_ _ | refine Ext.setCell ?_ (by simp) | refine Ext.setCell ?_ (by simp; omega) | refine Ext.trans ?_ (by assumption)) rb1; have f0 : w4.frozen? ⟨g0, 0, none⟩ = false := Ext.frz (by repeat first | exact Ext.refl _ | assumption | refine Ext.drew ?_ | refine Ext.alloc ?_ _ | refine Ext.setCell ?_ (by simp) | refine Ext.setCell ?_ (by simp; omega) | refine Ext.trans ?_ (by assumption)) hsz2 fb0; have f1 : w4.frozen? ⟨g0, 1, none⟩ = false := Ext.frz (by repeat first | exact Ext.refl _ | assumption | refine Ext.drew ?_ | refine Ext.alloc ?_ _ | refine Ext.setCell ?_ (by simp) | refine Ext.setCell ?_ (by simp; omega) | refine Ext.trans ?_ (by assumption)) hsz2 fb1; have hx34 : Ext w3 w4 := (by repeat first | exact Ext.refl _ | assumption | refine Ext.drew ?_ | refine Ext.alloc ?_ _ | refine Ext.setCell ?_ (by simp) | refine Ext.setCell ?_ (by simp; omega) | refine Ext.trans ?_ (by assumption)); have hx24 : Ext w2 w4 := (by repeat first | exact Ext.refl _ | assumption | refine Ext.drew ?_ | refine Ext.alloc ?_ _ | refine Ext.setCell ?_ (by simp) | refine Ext.setCell ?_ (by simp; omega) | refine Ext.trans ?_ (by assumption))))
      refine rx_on (by repeat first | exact Ext.refl _ | assumption | refine Ext.drew ?_ | refine Ext.alloc ?_ _ | refine Ext.setCell ?_ (by simp) | refine Ext.setCell ?_ (by simp; omega) | refine Ext.trans ?_ (by assumption)) ?_
      refine rx_op 4 (k := 3) (m' := 127) rfl rfl (by kernel_rfl) (by kernel_rfl) ?_
      go_wp2
      refine rx_on (by repeat first | exact Ext.refl _ | assumption | refine Ext.drew ?_ | refine Ext.alloc ?_ _ | refine Ext.setCell ?_ (by simp) | refine Ext.setCell ?_ (by simp; omega) | refine Ext.trans ?_ (by assumption)) ?_
      first | refine rx_genz ?_ | refine rx_genz' ?_
      intro wz2 hbz2 hz2 sz2
      refine rx_op 7 (k := 2) (m' := 255) rfl rfl (by kernel_rfl) (by kernel_rfl) ?_
      go_wp2_with (first | (at_builtin; refine az_fresh (v := .slice _ 0 0) (B := w2.heap.size) 24 79 Tryz.underlying24 infoN _ _ rfl rfl rfl (by first | exact OwP.nil _ _ _ | exact ow_more (hz1.ext2 (by repeat first | exact Ext.refl _ | assumption | refine Ext.drew ?_ | refine Ext.alloc ?_ _ | refine Ext.setCell ?_ (by simp) | refine Ext.setCell ?_ (by simp; omega) | refine Ext.trans ?_ (by assumption))) (by first | exact Nat.le_refl _ | omega | (show w2.heap.size ≤ _; omega))) ⟨_, rfl⟩ rfl rfl (h.ext (hx.trans (by repeat first | exact Ext.refl _ | assumption | refine Ext.drew ?_ | refine Ext.alloc ?_ _ | refine Ext.setCell ?_ (by simp) | refine Ext.setCell ?_ (by simp; omega) | refine Ext.trans ?_ (by assumption)))).h (by omega) (by first | (simp; done) | (simp; omega) | omega) ?_; intro v1 w3 hv1 hb3 hd1; obtain ⟨A1, c1, rfl, -, -, -⟩ := hv1.shape; have r0 : w3.cell? ⟨g0, 0, none⟩ = some (.slice none 0 0) := Ext.lit (by repeat first | exact Ext.refl _ | assumption | refine Ext.drew ?_ | refine Ext.alloc ?_ _ | refine Ext.setCell ?_ (by simp) | refine Ext.setCell ?_ (by simp; omega) | refine Ext.trans ?_ (by assumption)) rb0; have hsz3 : w2.heap.size ≤ w3.heap.size := (show Ext w2 w3 from (by repeat first | exact Ext.refl _ | assumption | refine Ext.drew ?_ | refine Ext.alloc ?_ _ | refine Ext.setCell ?_ (by simp) | refine Ext.setCell ?_ (by simp; omega) | refine Ext.trans ?_ (by assumption))).size) | (at_builtin; refine az_fresh (v := .slice _ 0 0) (B := w2.heap.size) 25 81 Tryz.underlying25 infoL _ _ rfl rfl rfl (by first | exact OwP.nil _ _ _ | exact ow_more (hz2.ext2 (by repeat first | exact Ext.refl _ | assumption | refine Ext.drew ?_ | refine Ext.alloc ?_ _ | refine Ext.setCell ?_ (by simp) | refine Ext.setCell ?_ (by simp; omega) | refine Ext.trans ?_ (by assumption))) (by first | exact Nat.le_refl _ | omega | (show w2.heap.size ≤ _; omega))) ⟨_, rfl⟩ rfl rfl (h.ext (hx.trans (by repeat first | exact Ext.refl _ | assumption | refine Ext.drew ?_ | refine Ext.alloc ?_ _ | refine Ext.setCell ?_ (by simp) | refine Ext.setCell ?_ (by simp; omega) | refine Ext.trans ?_ (by assumption)))).g (by omega) (by first | (simp; done) | (simp; omega) | omega) ?_; intro v2 w4 hv2 hb4 hd2; obtain ⟨A2, c2, rfl, -, -, -⟩ := hv2.shape; have r0 : w4.cell? ⟨g0, 0, none⟩ = some (.slice none 0 0) := Ext.lit (by repeat first | exact Ext.refl _ | assumption | refine Ext.drew ?_ | refine Ext.alloc ?_ _ | refine Ext.setCell ?_ (by simp) | refine Ext.setCell ?_ (by simp; omega) | refine Ext.trans ?_ (by assumption)) rb0; have r1 : w4.cell? ⟨g0, 1, none⟩ = some (.slice none 0 0) := Ext.lit (by repeat first | exact Ext.refl _ | assumption | refine Ext.drew ?_ | refine Ext.alloc ?_ _ | refine Ext.setCell ?_ (by simp) | refine Ext.setCell ?_ (by simp; omega) | refine Ext.trans ?_ (by assumption)) rb1; have f0 : w4.frozen? ⟨g0, 0, none⟩ = false := Ext.frz (by repeat first | exact Ext.refl _ | assumption | refine Ext.drew ?_ | refine Ext.alloc ?_ _ | refine Ext.setCell ?_ (by simp) | refine Ext.setCell ?_ (by simp; omega) | refine Ext.trans ?_ (by assumption)) hsz2 fb0; have f1 : w4.frozen? ⟨g0, 1, none⟩ = false := Ext.frz (by repeat first | exact Ext.refl _ | assumption | refine Ext.drew ?_ | refine Ext.alloc ?_ _ | refine Ext.setCell ?_ (by simp) | refine Ext.setCell ?_ (by simp; omega) | refine Ext.trans ?_ (by assumption)) hsz2 fb1; have hx34 : Ext w3 w4 := (by repeat first | exact Ext.refl _ | assumption | refine Ext.drew ?_ | refine Ext.alloc ?_ _ | refine Ext.setCell ?_ (by simp) | refine Ext.setCell ?_ (by simp; omega) | refine Ext.trans ?_ (by assumption)); have hx24 : Ext w2 w4 := (by repeat first | exact Ext.refl _ | assumption | refine Ext.drew ?_ | refine Ext.alloc ?_ _ | refine Ext.setCell ?_ (by simp) | refine Ext.setCell ?_ (by simp; omega) | refine Ext.trans ?_ (by assumption))))
      refine rx_lst (by decide) ?_
      refine rx_op 8 (k := 1) (m' := 511) rfl rfl (by kernel_rfl) (by kernel_rfl) ?_
      go_wp2
      refine rx_lst (by decide) ?_
      refine rx_op 9 (k := 0) (m' := 1023) rfl rfl (by kernel_rfl) (by kernel_rfl) ?_
      go_wp2
      refine rx_lst (by decide) ?_
      refine rx_end (by kernel_rfl) ?_
      ((try go_wp2); (try simp only [Exit.inBlock, Exit.then]); refine bodyPost_ret (by simp [results, Tryz.results83, go_sem, r0, r1]; try rfl) rfl ?_; exact ⟨_, _, rfl, ow_more ((hv1.ext2 hx34).gb2 (gb_set (gb_set (gb_refl _ (some g0)) 0 _) 1 _) hsz2) (by omega), ow_more (hv2.gb2 (gb_set (gb_set (gb_refl _ (some g0)) 0 _) 1 _) hsz2) (by omega), fun q h1 h2 => by have a1 := (World.ownsRow.lt hv1 q h1).2; have a2 := hd2 q h2; have a3 := hd1 q h1; have hs34 := hb4.size; simp [Value.ownBlock] at a2 a3 hs34; omega, Ext.setCell (p := ⟨g0, 1, none⟩) (Ext.setCell (p := ⟨g0, 0, none⟩) (hx.trans hx24) (by show w.heap.size ≤ g0; omega)) (by show w.heap.size ≤ g0; omega)⟩)
    · skip
      go_wp2
      refine rx_on (by repeat first | exact Ext.refl _ | assumption | refine Ext.drew ?_ | refine Ext.alloc ?_ _ | refine Ext.setCell ?_ (by simp) | refine Ext.setCell ?_ (by simp; omega) | refine Ext.trans ?_ (by assumption)) ?_
      first | refine rx_genz ?_ | refine rx_genz' ?_
      intro wz2 hbz2 hz2 sz2
      refine rx_op 3 (k := 3) (m' := 127) rfl rfl (by kernel_rfl) (by kernel_rfl) ?_
      go_wp2_with (first | (at_builtin; refine az_fresh (v := .slice _ 0 0) (B := w2.heap.size) 24 79 Tryz.underlying24 infoN _ _ rfl rfl rfl (by first | exact OwP.nil _ _ _ | exact ow_more (hz1.ext2 (by repeat first | exact Ext.refl _ | assumption | refine Ext.drew ?_ | refine Ext.alloc ?_ _ | refine Ext.setCell ?_ (by simp) | refine Ext.setCell ?_ (by simp; omega) | refine Ext.trans ?_ (by assumption))) (by first | exact Nat.le_refl _ | omega | (show w2.heap.size ≤ _; omega))) ⟨_, rfl⟩ rfl rfl (h.ext (hx.trans (by repeat first | exact Ext.refl _ | assumption | refine Ext.drew ?_ | refine Ext.alloc ?_ _ | refine Ext.setCell ?_ (by simp) | refine Ext.setCell ?_ (by simp; omega) | refine Ext.trans ?_ (by assumption)))).h (by omega) (by first | (simp; done) | (simp; omega) | omega) ?_; intro v1 w3 hv1 hb3 hd1; obtain ⟨A1, c1, rfl, -, -, -⟩ := hv1.shape; have r0 : w3.cell? ⟨g0, 0, none⟩ = some (.slice none 0 0) := Ext.lit (by repeat first | exact Ext.refl _ | assumption | refine Ext.drew ?_ | refine Ext.alloc ?_ _ | refine Ext.setCell ?_ (by simp) | refine Ext.setCell ?_ (by simp; omega) | refine Ext.trans ?_ (by assumption)) rb0; have hsz3 : w2.heap.size ≤ w3.heap.size := (show Ext w2 w3 from (by repeat first | exact Ext.refl _ | assumption | refine Ext.drew ?_ | refine Ext.alloc ?_ _ | refine Ext.setCell ?_ (by simp) | refine Ext.setCell ?_ (by simp; omega) | refine Ext.trans ?_ (by assumption))).size) | (at_builtin; refine az_fresh (v := .slice _ 0 0) (B := w2.heap.size) 25 81 Tryz.underlying25 infoL _ _ rfl rfl rfl (by first | exact OwP.nil _ _ _ | exact ow_more (hz2.ext2 (by repeat first | exact Ext.refl _ | assumption | refine Ext.drew ?_ | refine Ext.alloc ?_ _ | refine Ext.setCell ?_ (by simp) | refine Ext.setCell ?_ (by simp; omega) | refine Ext.trans ?_ (by assumption))) (by first | exact Nat.le_refl _ | omega | (show w2.heap.size ≤ _; omega))) ⟨_, rfl⟩ rfl rfl (h.ext (hx.trans (by repeat first | exact Ext.refl _ | assumption | refine Ext.drew ?_ | refine Ext.alloc ?_ _ | refine Ext.setCell ?_ (by simp) | refine Ext.setCell ?_ (by simp; omega) | refine Ext.trans ?_ (by assumption)))).g (by omega) (by first | (simp; done) | (simp; omega) | omega) ?_; intro v2 w4 hv2 hb4 hd2; obtain ⟨A2, c2, rfl, -, -, -⟩ := hv2.shape; have r0 : w4.cell? ⟨g0, 0, none⟩ = some (.slice none 0 0) := Ext.lit (by repeat first | exact Ext.refl _ | assumption | refine Ext.drew ?_ | refine Ext.alloc ?_ _ | refine Ext.setCell ?_ (by simp) | refine Ext.setCell ?_ (by simp; omega) | refine Ext.trans ?_ (by assumption)) rb0; have r1 : w4.cell? ⟨g0, 1, none⟩ = some (.slice none 0 0) := Ext.lit (by repeat first | exact Ext.refl _ | assumption | refine Ext.drew ?_ | refine Ext.alloc ?_ _ | refine Ext.setCell ?_ (by simp) | refine Ext.setCell ?_ (by simp; omega) | refine Ext.trans ?_ (by assumption)) rb1; have f0 : w4.frozen? ⟨g0, 0, none⟩ = false := Ext.frz (by repeat first | exact Ext.refl _ | assumption | refine Ext.drew ?_ | refine Ext.alloc ?_ _ | refine Ext.setCell ?_ (by simp) | refine Ext.setCell ?_ (by simp; omega) | refine Ext.trans ?_ (by assumption)) hsz2 fb0; have f1 : w4.frozen? ⟨g0, 1, none⟩ = false := Ext.frz (by repeat first | exact Ext.refl _ | assumption | refine Ext.drew ?_ | refine Ext.alloc ?_ _ | refine Ext.setCell ?_ (by simp) | refine Ext.setCell ?_ (by simp; omega) | refine Ext.trans ?_ (by assumption)) hsz2 fb1; have hx34 : Ext w3 w4 := (by repeat first | exact Ext.refl _ | assumption | refine Ext.drew ?_ | refine Ext.alloc ?_ _ | refine Ext.setCell ?_ (by simp) | refine Ext.setCell ?_ (by simp; omega) | refine Ext.trans ?_ (by assumption)); have hx24 : Ext w2 w4 := (by repeat first | exact Ext.refl _ | assumption | refine Ext.drew ?_ | refine Ext.alloc ?_ _ | refine Ext.setCell ?_ (by simp) | refine Ext.setCell ?_ (by simp; omega) | refine Ext.trans ?_ (by assumption))))
      refine rx_on (by repeat first | exact Ext.refl _ | assumption | refine Ext.drew ?_ | refine Ext.alloc ?_ _ | refine Ext.setCell ?_ (by simp) | refine Ext.setCell ?_ (by simp; omega) | refine Ext.trans ?_ (by assumption)) ?_
      refine rx_op 7 (k := 2) (m' := 255) rfl rfl (by kernel_rfl) (by kernel_rfl) ?_
      go_wp2_with (first | (at_builtin; refine az_fresh (v := .slice _ 0 0) (B := w2.heap.size) 24 79 Tryz.underlying24 infoN _ _ rfl rfl rfl (by first | exact OwP.nil _ _ _ | exact ow_more (hz1.ext2 (by repeat first | exact Ext.refl _ | assumption | refine Ext.drew ?_ | refine Ext.alloc ?_ _ | refine Ext.setCell ?_ (by simp) | refine Ext.setCell ?_ (by simp; omega) | refine Ext.trans ?_ (by assumption))) (by first | exact Nat.le_refl _ | omega | (show w2.heap.size ≤ _; omega))) ⟨_, rfl⟩ rfl rfl (h.ext (hx.trans (by repeat first | exact Ext.refl _ | assumption | refine Ext.drew ?_ | refine Ext.alloc ?_ _ | refine Ext.setCell ?_ (by simp) | refine Ext.setCell ?_ (by simp; omega) | refine Ext.trans ?_ (by assumption)))).h (by omega) (by first | (simp; done) | (simp; omega) | omega) ?_; intro v1 w3 hv1 hb3 hd1; obtain ⟨A1, c1, rfl, -, -, -⟩ := hv1.shape; have r0 : w3.cell? ⟨g0, 0, none⟩ = some (.slice none 0 0) := Ext.lit (by repeat first | exact Ext.refl _ | assumption | refine Ext.drew ?_ | refine Ext.alloc ?_ _ | refine Ext.setCell ?_ (by simp) | refine Ext.setCell ?_ (by simp; omega) | refine Ext.trans ?_ (by assumption)) rb0; have hsz3 : w2.heap.size ≤ w3.heap.size := (show Ext w2 w3 from (by repeat first | exact Ext.refl _ | assumption | refine Ext.drew ?_ | refine Ext.alloc ?_ _ | refine Ext.setCell ?_ (by simp) | refine Ext.setCell ?_ (by simp; omega) | refine Ext.trans ?_ (by assumption))).size) | (at_builtin; refine az_fresh (v := .slice _ 0 0) (B := w2.heap.size) 25 81 Tryz.underlying25 infoL _ _ rfl rfl rfl (by first | exact OwP.nil _ _ _ | exact ow_more (hz2.ext2 (by repeat first | exact Ext.refl _ | assumption | refine Ext.drew ?_ | refine Ext.alloc ?_ _ | refine Ext.setCell ?_ (by simp) | refine Ext.setCell ?_ (by simp; omega) | refine Ext.trans ?_ (by assumption))) (by first | exact Nat.le_refl _ | omega | (show w2.heap.size ≤ _; omega))) ⟨_, rfl⟩ rfl rfl (h.ext (hx.trans (by repeat first | exact Ext.refl _ | assumption | refine Ext.drew ?_ | refine Ext.alloc ?_ _ | refine Ext.setCell ?_ (by simp) | refine Ext.setCell ?_ (by simp; omega) | refine Ext.trans ?_ (by assumption)))).g (by omega) (by first | (simp; done) | (simp; omega) | omega) ?_; intro v2 w4 hv2 hb4 hd2; obtain ⟨A2, c2, rfl, -, -, -⟩ := hv2.shape; have r0 : w4.cell? ⟨g0, 0, none⟩ = some (.slice none 0 0) := Ext.lit (by repeat first | exact Ext.refl _ | assumption | refine Ext.drew ?_ | refine Ext.alloc ?_ _ | refine Ext.setCell ?_ (by simp) | refine Ext.setCell ?_ (by simp; omega) | refine Ext.trans ?_ (by assumption)) rb0; have r1 : w4.cell? ⟨g0, 1, none⟩ = some (.slice none 0 0) := Ext.lit (by repeat first | exact Ext.refl _ | assumption | refine Ext.drew ?_ | refine Ext.alloc ?_ _ | refine Ext.setCell ?_ (by simp) | refine Ext.setCell ?_ (by simp; omega) | refine Ext.trans ?_ (by assumption)) rb1; have f0 : w4.frozen? ⟨g0, 0, none⟩ = false := Ext.frz (by repeat first | exact Ext.refl _ | assumption | refine Ext.drew ?_ | refine Ext.alloc ?_ _ | refine Ext.setCell ?_ (by simp) | refine Ext.setCell ?_ (by simp; omega) | refine Ext.trans ?_ (by assumption)) hsz2 fb0; have f1 : w4.frozen? ⟨g0, 1, none⟩ = false := Ext.frz (by repeat first | exact Ext.refl _ | assumption | refine Ext.drew ?_ | refine Ext.alloc ?_ _ | refine Ext.setCell ?_ (by simp) | refine Ext.setCell ?_ (by simp; omega) | refine Ext.trans ?_ (by assumption)) hsz2 fb1; have hx34 : Ext w3 w4 := (by repeat first | exact Ext.refl _ | assumption | refine Ext.drew ?_ | refine Ext.alloc ?_ _ | refine Ext.setCell ?_ (by simp) | refine Ext.setCell ?_ (by simp; omega) | refine Ext.trans ?_ (by assumption)); have hx24 : Ext w2 w4 := (by repeat first | exact Ext.refl _ | assumption | refine Ext.drew ?_ | refine Ext.alloc ?_ _ | refine Ext.setCell ?_ (by simp) | refine Ext.setCell ?_ (by simp; omega) | refine Ext.trans ?_ (by assumption))))
      refine rx_lst (by decide) ?_
      refine rx_op 8 (k := 1) (m' := 511) rfl rfl (by kernel_rfl) (by kernel_rfl) ?_
      go_wp2
      refine rx_lst (by decide) ?_
      refine rx_op 9 (k := 0) (m' := 1023) rfl rfl (by kernel_rfl) (by kernel_rfl) ?_
      go_wp2
      refine rx_lst (by decide) ?_
      refine rx_end (by kernel_rfl) ?_
      ((try go_wp2); (try simp only [Exit.inBlock, Exit.then]); refine bodyPost_ret (by simp [results, Tryz.results83, go_sem, r0, r1]; try rfl) rfl ?_; exact ⟨_, _, rfl, ow_more ((hv1.ext2 hx34).gb2 (gb_set (gb_set (gb_refl _ (some g0)) 0 _) 1 _) hsz2) (by omega), ow_more (hv2.gb2 (gb_set (gb_set (gb_refl _ (some g0)) 0 _) 1 _) hsz2) (by omega), fun q h1 h2 => by have a1 := (World.ownsRow.lt hv1 q h1).2; have a2 := hd2 q h2; have a3 := hd1 q h1; have hs34 := hb4.size; simp [Value.ownBlock] at a2 a3 hs34; omega, Ext.setCell (p := ⟨g0, 1, none⟩) (Ext.setCell (p := ⟨g0, 0, none⟩) (hx.trans hx24) (by show w.heap.size ≤ g0; omega)) (by show w.heap.size ≤ g0; omega)⟩)
  · skip
    go_wp2
    refine rx_on (by repeat first | exact Ext.refl _ | assumption | refine Ext.drew ?_ | refine Ext.alloc ?_ _ | refine Ext.setCell ?_ (by simp) | refine Ext.setCell ?_ (by simp; omega) | refine Ext.trans ?_ (by assumption)) ?_
    first | refine rx_genz ?_ | refine rx_genz' ?_
    intro wz2 hbz2 hz2 sz2
    refine rx_op 0 (k := 4) (m' := 119) rfl rfl (by kernel_rfl) (by kernel_rfl) ?_
    go_wp2
    refine rx_on (by repeat first | exact Ext.refl _ | assumption | refine Ext.drew ?_ | refine Ext.alloc ?_ _ | refine Ext.setCell ?_ (by simp) | refine Ext.setCell ?_ (by simp; omega) | refine Ext.trans ?_ (by assumption)) ?_
    first | refine rx_genz ?_ | refine rx_genz' ?_
    intro wz1 hbz1 hz1 sz1
    refine rx_op 3 (k := 3) (m' := 127) rfl rfl (by kernel_rfl) (by kernel_rfl) ?_
    go_wp2_with (first | (at_builtin; refine az_fresh (v := .slice _ 0 0) (B := w2.heap.size) 24 79 Tryz.underlying24 infoN _ _ rfl rfl rfl (by first | exact OwP.nil _ _ _ | exact ow_more (hz1.ext2 (by repeat first | exact Ext.refl _ | assumption | refine Ext.drew ?_ | refine Ext.alloc ?_ _ | refine Ext.setCell ?_ (by simp) | refine Ext.setCell ?_ (by simp; omega) | refine Ext.trans ?_ (by assumption))) (by first | exact Nat.le_refl _ | omega | (show w2.heap.size ≤ _; omega))) ⟨_, rfl⟩ rfl rfl (h.ext (hx.trans (by repeat first | exact Ext.refl _ | assumption | refine Ext.drew ?_ | refine Ext.alloc ?_ _ | refine Ext.setCell ?_ (by simp) | refine Ext.setCell ?_ (by simp; omega) | refine Ext.trans ?_ (by assumption)))).h (by omega) (by first | (simp; done) | (simp; omega) | omega) ?_; intro v1 w3 hv1 hb3 hd1; obtain ⟨A1, c1, rfl, -, -, -⟩ := hv1.shape; have r0 : w3.cell? ⟨g0, 0, none⟩ = some (.slice none 0 0) := Ext.lit (by repeat first | exact Ext.refl _ | assumption | refine Ext.drew ?_ | refine Ext.alloc ?_ _ | refine Ext.setCell ?_ (by simp) | refine Ext.setCell ?_ (by simp; omega) | refine Ext.trans ?_ (by assumption)) rb0; have hsz3 : w2.heap.size ≤ w3.heap.size := (show Ext w2 w3 from (by repeat first | exact Ext.refl _ | assumption | refine Ext.drew ?_ | refine Ext.alloc ?_ _ | refine Ext.setCell ?_ (by simp) | refine Ext.setCell ?_ (by simp; omega) | refine Ext.trans ?_ (by assumption))).size) | (at_builtin; refine az_fresh (v := .slice _ 0 0) (B := w2.heap.size) 25 81 Tryz.underlying25 infoL _ _ rfl rfl rfl (by first | exact OwP.nil _ _ _ | exact ow_more (hz2.ext2 (by repeat first | exact Ext.refl _ | assumption | refine Ext.drew ?_ | refine Ext.alloc ?_ _ | refine Ext.setCell ?_ (by simp) | refine Ext.setCell ?_ (by simp; omega) | refine Ext.trans ?_ (by assumption))) (by first | exact Nat.le_refl _ | omega | (show w2.heap.size ≤ _; omega))) ⟨_, rfl⟩ rfl rfl (h.ext (hx.trans (by repeat first | exact Ext.refl _ | assumption | refine Ext.drew ?_ | refine Ext.alloc ?_ _ | refine Ext.setCell ?_ (by simp) | refine Ext.setCell ?_ (by simp; omega) | refine Ext.trans ?_ (by assumption)))).g (by omega) (by first | (simp; done) | (simp; omega) | omega) ?_; intro v2 w4 hv2 hb4 hd2; obtain ⟨A2, c2, rfl, -, -, -⟩ := hv2.shape; have r0 : w4.cell? ⟨g0, 0, none⟩ = some (.slice none 0 0) := Ext.lit (by repeat first | exact Ext.refl _ | assumption | refine Ext.drew ?_ | refine Ext.alloc ?_ _ | refine Ext.setCell ?_ (by simp) | refine Ext.setCell ?_ (by simp; omega) | refine Ext.trans ?_ (by assumption)) rb0; have r1 : w4.cell? ⟨g0, 1, none⟩ = some (.slice none 0 0) := Ext.lit (by repeat first | exact Ext.refl _ | assumption | refine Ext.drew ?_ | refine Ext.alloc ?_ _ | refine Ext.setCell ?_ (by simp) | refine Ext.setCell ?_ (by simp; omega) | refine Ext.trans ?_ (by assumption)) rb1; have f0 : w4.frozen? ⟨g0, 0, none⟩ = false := Ext.frz (by repeat first | exact Ext.refl _ | assumption | refine Ext.drew ?_ | refine Ext.alloc ?_ _ | refine Ext.setCell ?_ (by simp) | refine Ext.setCell ?_ (by simp; omega) | refine Ext.trans ?_ (by assumption)) hsz2 fb0; have f1 : w4.frozen? ⟨g0, 1, none⟩ = false := Ext.frz (by repeat first | exact Ext.refl _ | assumption | refine Ext.drew ?_ | refine Ext.alloc ?_ _ | refine Ext.setCell ?_ (by simp) | refine Ext.setCell ?_ (by simp; omega) | refine Ext.trans ?_ (by assumption)) hsz2 fb1; have hx34 : Ext w3 w4 := (by repeat first | exact Ext.refl _ | assumption | refine Ext.drew ?_ | refine Ext.alloc ?_ _ | refine Ext.setCell ?_ (by simp) | refine Ext.setCell ?_ (by simp; omega) | refine Ext.trans ?_ (by assumption)); have hx24 : Ext w2 w4 := (by repeat first | exact Ext.refl _ | assumption | refine Ext.drew ?_ | refine Ext.alloc ?_ _ | refine Ext.setCell ?_ (by simp) | refine Ext.setCell ?_ (by simp; omega) | refine Ext.trans ?_ (by assumption))))
    refine rx_on (by repeat first | exact Ext.refl _ | assumption | refine Ext.drew ?_ | refine Ext.alloc ?_ _ | refine Ext.setCell ?_ (by simp) | refine Ext.setCell ?_ (by simp; omega) | refine Ext.trans ?_ (by assumption)) ?_
    refine rx_op 7 (k := 2) (m' := 255) rfl rfl (by kernel_rfl) (by kernel_rfl) ?_
    go_wp2_with (first | (at_builtin; refine az_fresh (v := .slice _ 0 0) (B := w2.heap.size) 24 79 Tryz.underlying24 infoN _ _ rfl rfl rfl (by first | exact OwP.nil _ _ _ | exact ow_more (hz1.ext2 (by repeat first | exact Ext.refl _ | assumption | refine Ext.drew ?_ | refine Ext.alloc ?_ _ | refine Ext.setCell ?_ (by simp) | refine Ext.setCell ?_ (by simp; omega) | refine Ext.trans ?_ (by assumption))) (by first | exact Nat.le_refl _ | omega | (show w2.heap.size ≤ _; omega))) ⟨_, rfl⟩ rfl rfl (h.ext (hx.trans (by repeat first | exact Ext.refl _ | assumption | refine Ext.drew ?_ | refine Ext.alloc ?_ _ | refine Ext.setCell ?_ (by simp) | refine Ext.setCell ?_ (by simp; omega) | refine Ext.trans ?_ (by assumption)))).h (by omega) (by first | (simp; done) | (simp; omega) | omega) ?_; intro v1 w3 hv1 hb3 hd1; obtain ⟨A1, c1, rfl, -, -, -⟩ := hv1.shape; have r0 : w3.cell? ⟨g0, 0, none⟩ = some (.slice none 0 0) := Ext.lit (by repeat first | exact Ext.refl _ | assumption | refine Ext.drew ?_ | refine Ext.alloc ?_ _ | refine Ext.setCell ?_ (by simp) | refine Ext.setCell ?_ (by simp; omega) | refine Ext.trans ?_ (by assumption)) rb0; have hsz3 : w2.heap.size ≤ w3.heap.size := (show Ext w2 w3 from (by repeat first | exact Ext.refl _ | assumption | refine Ext.drew ?_ | refine Ext.alloc ?_ _ | refine Ext.setCell ?_ (by simp) | refine Ext.setCell ?_ (by simp; omega) | refine Ext.trans ?_ (by assumption))).size) | (at_builtin; refine az_fresh (v := .slice _ 0 0) (B := w2.heap.size) 25 81 Tryz.underlying25 infoL _ _ rfl rfl rfl (by first | exact OwP.nil _ _ _ | exact ow_more (hz2.ext2 (by repeat first | exact Ext.refl _ | assumption | refine Ext.drew ?_ | refine Ext.alloc ?_ _ | refine Ext.setCell ?_ (by simp) | refine Ext.setCell ?_ (by simp; omega) | refine Ext.trans ?_ (by assumption))) (by first | exact Nat.le_refl _ | omega | (show w2.heap.size ≤ _; omega))) ⟨_, rfl⟩ rfl rfl (h.ext (hx.trans (by repeat first | exact Ext.refl _ | assumption | refine Ext.drew ?_ | refine Ext.alloc ?_ _ | refine Ext.setCell ?_ (by simp) | refine Ext.setCell ?_ (by simp; omega) | refine Ext.trans ?_ (by assumption)))).g (by omega) (by first | (simp; done) | (simp; omega) | omega) ?_; intro v2 w4 hv2 hb4 hd2; obtain ⟨A2, c2, rfl, -, -, -⟩ := hv2.shape; have r0 : w4.cell? ⟨g0, 0, none⟩ = some (.slice none 0 0) := Ext.lit (by repeat first | exact Ext.refl _ | assumption | refine Ext.drew ?_ | refine Ext.alloc ?_ _ | refine Ext.setCell ?_ (by simp) | refine Ext.setCell ?_ (by simp; omega) | refine Ext.trans ?_ (by assumption)) rb0; have r1 : w4.cell? ⟨g0, 1, none⟩ = some (.slice none 0 0) := Ext.lit (by repeat first | exact Ext.refl _ | assumption | refine Ext.drew ?_ | refine Ext.alloc ?_ _ | refine Ext.setCell ?_ (by simp) | refine Ext.setCell ?_ (by simp; omega) | refine Ext.trans ?_ (by assumption)) rb1; have f0 : w4.frozen? ⟨g0, 0, none⟩ = false := Ext.frz (by repeat first | exact Ext.refl _ | assumption | refine Ext.drew ?_ | refine Ext.alloc ?_ _ | refine Ext.setCell ?_ (by simp) | refine Ext.setCell ?_ (by simp; omega) | refine Ext.trans ?_ (by assumption)) hsz2 fb0; have f1 : w4.frozen? ⟨g0, 1, none⟩ = false := Ext.frz (by repeat first | exact Ext.refl _ | assumption | refine Ext.drew ?_ | refine Ext.alloc ?_ _ | refine Ext.setCell ?_ (by simp) | refine Ext.setCell ?_ (by simp; omega) | refine Ext.trans ?_ (by assumption)) hsz2 fb1; have hx34 : Ext w3 w4 := (by repeat first | exact Ext.refl _ | assumption | refine Ext.drew ?_ | refine Ext.alloc ?_ _ | refine Ext.setCell ?_ (by simp) | refine Ext.setCell ?_ (by simp; omega) | refine Ext.trans ?_ (by assumption)); have hx24 : Ext w2 w4 := (by repeat first | exact Ext.refl _ | assumption | refine Ext.drew ?_ | refine Ext.alloc ?_ _ | refine Ext.setCell ?_ (by simp) | refine Ext.setCell ?_ (by simp; omega) | refine Ext.trans ?_ (by assumption))))
    refine rx_lst (by decide) ?_
    refine rx_op 8 (k := 1) (m' := 511) rfl rfl (by kernel_rfl) (by kernel_rfl) ?_
    go_wp2
    refine rx_lst (by decide) ?_
    refine rx_op 9 (k := 0) (m' := 1023) rfl rfl (by kernel_rfl) (by kernel_rfl) ?_
    go_wp2
    refine rx_lst (by decide) ?_
    refine rx_end (by kernel_rfl) ?_
    ((try go_wp2); (try simp only [Exit.inBlock, Exit.then]); refine bodyPost_ret (by simp [results, Tryz.results83, go_sem, r0, r1]; try rfl) rfl ?_; exact ⟨_, _, rfl, ow_more ((hv1.ext2 hx34).gb2 (gb_set (gb_set (gb_refl _ (some g0)) 0 _) 1 _) hsz2) (by omega), ow_more (hv2.gb2 (gb_set (gb_set (gb_refl _ (some g0)) 0 _) 1 _) hsz2) (by omega), fun q h1 h2 => by have a1 := (World.ownsRow.lt hv1 q h1).2; have a2 := hd2 q h2; have a3 := hd1 q h1; have hs34 := hb4.size; simp [Value.ownBlock] at a2 a3 hs34; omega, Ext.setCell (p := ⟨g0, 1, none⟩) (Ext.setCell (p := ⟨g0, 0, none⟩) (hx.trans hx24) (by show w.heap.size ≤ g0; omega)) (by show w.heap.size ≤ g0; omega)⟩)
end Go.Proofs.YtdhmjhoaegdfjaaGreat
