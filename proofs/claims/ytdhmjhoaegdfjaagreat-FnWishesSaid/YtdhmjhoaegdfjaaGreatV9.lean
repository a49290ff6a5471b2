import Derived.Test.YtdhmjhoaegdfjaaGreatV1
import Derived.Test.YtdhmjhoaegdfjaaGreatR2
import Derived.Test.YtdhmjhoaegdfjaaGreatR3
namespace Go.Proofs.YtdhmjhoaegdfjaaGreat
open Go.RowKit Go.Sort Go.BigFrame

theorem run_slHi {P : Program} (w : World) {t T : TypeId} {i : TypeInfo} (ht : P.underlying t = some (.slice T)) (hi : P.info? T = some i) (A : Option Addr) {n c k : Nat} {x : Int} (hx : x = k) (hk : k ≤ c) :
    (Instr.sliceAt t (.slice A n c) none (some (.int .i64 x)) none).run P w = .ok (.slice A k c) w := by
  subst hx
  have h0 : (A.map fun a => a.add 0) = A := by cases A <;> rfl
  simp [Instr.sliceAt, Instr.slice, Instr.sliceBounds, Instr.sliceBound, run_underlying ht, asIntOf, sizeOf, typeInfo, hi, h0, hk]
theorem run_slLo {P : Program} (w : World) {t T : TypeId} {i : TypeInfo} (ht : P.underlying t = some (.slice T)) (hi : P.info? T = some i) (A : Option Addr) {n c k : Nat} {x : Int} (hx : x = k) (hk : k ≤ n) :
    (Instr.sliceAt t (.slice A n c) (some (.int .i64 x)) none none).run P w = .ok (.slice (if c = k then A else A.map (·.add (k * i.size))) (n - k) (c - k)) w := by
  subst hx
  simp [Instr.sliceAt, Instr.slice, Instr.sliceBounds, Instr.sliceBound, run_underlying ht, asIntOf, sizeOf, typeInfo, hi, hk]
theorem pr_tail {w : World} {B sz : Nat} {A : Option Addr} {l : List P2} {c k : Nat} (hP : Pr w B A l) (hsz : sz = 2) (hk : k ≤ l.length) (hc : l.length ≤ c) : Pr w B (if c = k then A else A.map (·.add (k * sz))) (l.drop k) := by
  subst hsz
  split
  · have : l.drop k = [] := by apply List.drop_eq_nil_of_le; omega
    rw [this]
    exact ⟨rfl, fun h => absurd h (by simp)⟩
  · rcases Nat.eq_zero_or_pos l.length with h0 | h0
    · have : l = [] := by simpa using h0
      subst this
      simp
      exact ⟨rfl, fun h => absurd h (by simp)⟩
    · obtain ⟨b, off, rfl, _, _⟩ := hP.2 h0
      have e : ((some (⟨b, off, none⟩ : Addr)).map (·.add (k * 2))) = some ⟨b, off + k * 2, none⟩ := by
        show some (Addr.add _ _) = _
        unfold Addr.add
        split
        · rename_i h; simp [h]
        · rfl
      rw [e]
      exact pr_drop hP hk

section
variable {P : Program} {Q : Exit → Act → World → Prop} {W w : World} {l : List Oper} {a : Act}
/-- may operation i be taken by itself (it need not be of the kinds that R1 runs) -/
def tkV (SL : List Sm) (i m : Nat) : Bool := match SL[i]? with | some x => frM m i x SL 0 && !m.testBit i && (x.2.1 &&& m == x.2.1) | none => false
theorem rx_val {SL : List Sm} (i : Nat) {o : Oper} {L n k m m' : Nat} {v : Value} (hn : n = k + 1) (ho : l[i]? = some o) (hLi : L.testBit i = false) (hc : tkV SL i m = true) (hl : m ||| 2 ^ i = m') (hgd : o.guard = none) (hw : Ext W w)
    (hy : ∀ w, (execOp a.eval o).run P w = .ok (.value v) w) (h : Rx P Q W l SL L k m' (a.put o.dst v) w) : Rx P Q W l SL L n m a w := by
  intro hSL hs hL hm hcl
  subst hn hl hSL
  have hi : i < l.length := (List.getElem?_eq_some_iff.1 ho).1
  unfold tkV at hc
  simp only [smAll, List.getElem?_map, ho, Option.map_some, Bool.and_eq_true, Bool.not_eq_true', beq_iff_eq] at hc
  obtain ⟨⟨h4, h5⟩, h6⟩ := hc
  have hrd : i ∈ Region.ready .any l.toArray (arrOf l.length m) := (ready_iff hm i).2 ⟨h5, o, ho, h6⟩
  have hcl' := clo_set hcl hrd
  rw [arrOf_set _ _ _ hi] at hcl'
  have h' := h rfl hs hL (bit_lt hm hi) hcl'
  rw [← arrOf_set _ _ _ hi] at h'
  exact wpAnyL_take (by simpa using ho) hs (fun c a w hp => absurd hp (noPanic_no Q c _ w)) (waitsAll_spec rfl hL i (by simpa using hi) hLi) hLi _ _ _ _ hcl (Region.free_spec (by simpa using ho) (free_of ho h4)) hrd
    (.inl ⟨by unfold Region.wanted; rw [hgd], fun w _ => hy w⟩) (regrown_of_below hw) h'
theorem rx_slHi {SL : List Sm} (i : Nat) {o : Oper} {L n k m m' : Nat} (hn : n = k + 1) (ho : l[i]? = some o) (hLi : L.testBit i = false) (hc : tkV SL i m = true) (hl : m ||| 2 ^ i = m') (hgd : o.guard = none) (hw : Ext W w)
    {t T : TypeId} {y z : Operand} (hop : o.op = .slice t y none (some z) none) {A : Option Addr} {nn c q : Nat} {x : Int} (hy : a.eval y = .slice A nn c) (hz : a.eval z = .int .i64 x) (hx : x = q) (hq : q ≤ c) (ht : P.underlying t = some (.slice T)) {i0 : TypeInfo} (hi : P.info? T = some i0)
    (h : Rx P Q W l SL L k m' (a.put o.dst (.slice A q c)) w) : Rx P Q W l SL L n m a w := by
  refine rx_val i hn ho hLi hc hl hgd hw (fun w => ?_) h
  unfold execOp
  simp only [hop, Option.map_some, Option.map_none, hy, hz, Sem.run_bind, run_slHi w ht hi A hx hq, Result.andThen_ok, Sem.run_pure]
theorem rx_slLo {SL : List Sm} (i : Nat) {o : Oper} {L n k m m' : Nat} (hn : n = k + 1) (ho : l[i]? = some o) (hLi : L.testBit i = false) (hc : tkV SL i m = true) (hl : m ||| 2 ^ i = m') (hgd : o.guard = none) (hw : Ext W w)
    {t T : TypeId} {y z : Operand} (hop : o.op = .slice t y (some z) none none) {A : Option Addr} {nn c q : Nat} {x : Int} (hy : a.eval y = .slice A nn c) (hz : a.eval z = .int .i64 x) (hx : x = q) (hq : q ≤ nn) (ht : P.underlying t = some (.slice T)) (hi : (P.info? T).map (fun i => (i.zero, i.size, i.bytes)) = some (some (.agg #[.int .i64 0, .int .i64 0]), 2, 16))
    (h : ∀ A', (∀ w B ll, Pr w B A ll → ll.length = nn → nn ≤ c → Pr w B A' (ll.drop q)) → Rx P Q W l SL L k m' (a.put o.dst (.slice A' (nn - q) (c - q))) w) : Rx P Q W l SL L n m a w := by
  obtain ⟨i0, hi, hz0, hz1, hz2⟩ := info_parts hi
  refine rx_val (v := .slice (if c = q then A else A.map (·.add (q * i0.size))) (nn - q) (c - q)) i hn ho hLi hc hl hgd hw (fun w => ?_) (h _ fun w B ll hP hl hnc => pr_tail hP hz1 (by omega) (by omega))
  unfold execOp
  simp only [hop, Option.map_some, Option.map_none, hy, hz, Sem.run_bind, run_slLo w ht hi A hx hq, Result.andThen_ok, Sem.run_pure]
/-- a variable of two cells that a region makes: its block -/
theorem rx_genB {SL : List Sm} {L k m : Nat} {u0 u1 : Value} {T : TypeId} {g : Nat} (hg : w.heap.size = g)
    (h : ∀ w', Ext w w' → Bk w' g T [u0, u1] → Rx P Q W l SL L k m a w') : Rx P Q W l SL L k m a (w.alloc (.cells #[u0, u1] T)) :=
  h _ ((Ext.refl w).alloc _) (Bk.new T [u0, u1] hg.symm)
theorem rx_genE {SL : List Sm} {L k m : Nat} {T : TypeId} {g : Nat} (hg : w.heap.size = g)
    (h : ∀ w', Ext w w' → OwP w' g T (.slice (some ⟨g, 0, none⟩) 0 0) [] → Rx P Q W l SL L k m a w') : Rx P Q W l SL L k m a (w.alloc (.cells #[] T)) := by
  subst hg
  exact rx_genz' fun w' h1 h2 _ => h w' h1 h2
end
/-- the reference's window in the making: its box g6, its two rows, and the box gl of the lead at hand -/
structure WSt (w w2 : World) (tN tL tW : TypeId) (g6 gl : Nat) (v5 v2 : Value) (lN lL : List P2) (x y : Int) : Prop where
  b6 : Bk w g6 tW [v5, v2]
  oN : OwP w w2.heap.size tN v5 lN
  oL : OwP w w2.heap.size tL v2 lL
  bl : Bk w gl tL [.int .i64 x, .int .i64 y]
  fl : ∀ q, v2.ownBlock = some q → q < gl
  f6 : g6 < gl
  hx : Ext w2 w
  hl : w2.heap.size ≤ gl
section
variable {w w2 : World} {tN tL tW : TypeId} {g6 gl : Nat} {v5 v2 : Value} {lN lL : List P2} {x y : Int}
theorem WSt.new {g : Nat} (hg : w.heap.size = g) (h : Bk w g6 tW [v5, v2]) (oN : OwP w w2.heap.size tN v5 lN) (oL : OwP w w2.heap.size tL v2 lL) (hx : Ext w2 w) : WSt (w.alloc (.cells #[.int .i64 x, .int .i64 y] tL)) w2 tN tL tW g6 g v5 v2 lN lL x y := by
  subst hg
  have hb : Ext w (w.alloc (.cells #[.int .i64 x, .int .i64 y] tL)) := (Ext.refl _).alloc _
  exact ⟨h.ext hb, oN.ext hb, oL.ext hb, Bk.new tL [.int .i64 x, .int .i64 y] rfl, fun q hq => (oL.blk q hq).2, h.lt, hx.trans hb, hx.size⟩
theorem WSt.put (h : WSt w w2 tN tL tW g6 gl v5 v2 lN lL x y) (hne : tL ≠ tN) (i : Nat) (u : Value) {x' y' : Int} (hc : [Value.int .i64 x, .int .i64 y].set i u = [.int .i64 x', .int .i64 y']) : WSt (w.setCell ⟨gl, i, none⟩ u) w2 tN tL tW g6 gl v5 v2 lN lL x' y' := by
  have h6 := h.f6
  refine ⟨h.b6.far (by show g6 ≠ gl; omega) u, h.oN.far h.bl hne i u, h.oL.gb (gb_set (gb_refl _ (some gl)) i u) (fun q hq e => by injection e with e; have := h.fl q hq; omega), hc ▸ h.bl.set_ i u, h.fl, h.f6, Ext.setCell (p := ⟨gl, i, none⟩) h.hx h.hl, h.hl⟩
theorem WSt.cx (h : WSt w w2 tN tL tW g6 gl v5 v2 lN lL x y) : w.cell? ⟨gl, 0, none⟩ = some (.int .i64 x) := h.bl.cell 0
theorem WSt.cy (h : WSt w w2 tN tL tW g6 gl v5 v2 lN lL x y) : w.cell? ⟨gl, 1, none⟩ = some (.int .i64 y) := h.bl.cell 1
theorem WSt.cv (h : WSt w w2 tN tL tW g6 gl v5 v2 lN lL x y) : w.cell? ⟨g6, 1, none⟩ = some v2 := h.b6.cell 1
theorem WSt.app (h : WSt w w2 tN tL tW g6 gl v5 v2 lN lL x y) (h1 : tW ≠ tL) (h2 : tN ≠ tL) (h3 : tW ≠ tN) {u : World} {r : Option Nat} {T : TypeId} {v6 : Value} {l6 : List P2} {p0 p1 : Value}
    (h6 : OwP u w2.heap.size tL v6 l6) (h6e : ∀ W, Ext W (w.alloc (.cells #[p0, p1] T)) → W.heap.size ≤ w2.heap.size → Ext W u) (h6g : (w.alloc (.cells #[p0, p1] T)).grownBy u r) (h6r : ∀ q, r = some q → v2.ownBlock = some q) (hg : w2.heap.size ≤ g6) :
    u.cell? ⟨g6, 1, none⟩ = some v2 ∧ u.frozen? ⟨g6, 1, none⟩ = false ∧ Bk (u.setCell ⟨g6, 1, none⟩ v6) g6 tW [v5, v6] ∧ OwP (u.setCell ⟨g6, 1, none⟩ v6) w2.heap.size tN v5 lN ∧ OwP (u.setCell ⟨g6, 1, none⟩ v6) w2.heap.size tL v6 l6 ∧ Ext w2 (u.setCell ⟨g6, 1, none⟩ v6) := by
  have hb : Ext w (w.alloc (.cells #[p0, p1] T)) := (Ext.refl _).alloc _
  have hx := h6e w2 (h.hx.trans hb) (Nat.le_refl _)
  have b := gb_bk (h.b6.ext hb) h6g (fun e => OwP.nebk h.oL h.b6 h1 (h6r g6 e))
  have oN := (h.oN.ext hb).gb h6g (fun q hq e => OwP.dj h.oN h.oL h2 q hq (h6r q e))
  exact ⟨b.cell 1, b.froz 1, b.set_ 1 v6, oN.far b h3 1 v6, h6.far b h1 1 v6, Ext.setCell (p := ⟨g6, 1, none⟩) hx hg⟩
end
end Go.Proofs.YtdhmjhoaegdfjaaGreat
