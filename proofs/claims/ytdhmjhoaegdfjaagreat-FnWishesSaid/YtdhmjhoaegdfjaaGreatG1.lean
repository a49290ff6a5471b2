import Derived.WalkKit
import Derived.Below
import Derived.Laws.OwnMore
import Derived.Deep.AppendLies
import Derived.Deep.Draws
import Derived.Test.YtdhmjhoaegdfjaaGreatChecked
import Derived.KernelRfl
import Derived.Lib.QuietBelow
import Derived.Deep.RegionHeld3
import Derived.Laws.MakeOwn
import Derived.Laws.BitsLemmas
import Derived.Lib.Hide
import Derived.Laws.Append
namespace Go.Proofs.YtdhmjhoaegdfjaaGreat
open Go.RowKit

theorem ret_b {a b : Bool} (h : a = b) : Ending.returned (.bool a) = .returned (.bool b) := by rw [h]
theorem ret_i {a b : Int} (h : a = b) : Ending.returned (.int .i64 a) = .returned (.int .i64 b) := by rw [h]

/-- Slice words: the slice (A, n, c) holds the cells cs (sz cells an element), below block B. -/
def Sl (w : World) (B sz : Nat) (A : Option Addr) (n : Nat) (cs : List Value) : Prop :=
  cs.length = n * sz ∧ (0 < n → ∃ b off, A = some ⟨b, off, none⟩ ∧ b < B ∧ ∀ j u, cs[j]? = some u → w.cell? ⟨b, off + j, none⟩ = some u)

def ic (x : Int) : Value := .int .i64 x
def pc (p : Int × Int) : List Value := [.int .i64 p.1, .int .i64 p.2]
def pv (p : Int × Int) : Value := .agg #[.int .i64 p.1, .int .i64 p.2]

theorem pcs_length (l : List (Int × Int)) : (l.flatMap pc).length = l.length * 2 := by
  induction l with
  | nil => rfl
  | cons a t ih => simp [List.flatMap_cons, ih, pc]; omega

theorem pcs_get (l : List (Int × Int)) (k : Nat) (h : k < l.length) :
    (l.flatMap pc)[k * 2]? = some (.int .i64 l[k].1) ∧ (l.flatMap pc)[k * 2 + 1]? = some (.int .i64 l[k].2) := by
  induction l generalizing k with
  | nil => simp at h
  | cons a t ih =>
    cases k with
    | zero => simp [List.flatMap_cons, pc]
    | succ k =>
      have := ih k (by simpa using h)
      have e : (k + 1) * 2 = k * 2 + 2 := by omega
      simpa [List.flatMap_cons, pc, e] using this

section
variable {w w' : World} {B B' sz n : Nat} {A : Option Addr} {cs : List Value}
theorem Sl.below (h : Sl w B sz A n cs) (hb : Below B w w') : Sl w' B sz A n cs :=
  ⟨h.1, fun hn => by
    obtain ⟨b, off, e, hlt, hc⟩ := h.2 hn
    exact ⟨b, off, e, hlt, fun j u hu => (hb.cell (p := ⟨b, off + j, none⟩) hlt).trans (hc j u hu)⟩⟩
theorem Sl.more (h : Sl w B sz A n cs) (hB : B ≤ B') : Sl w B' sz A n cs :=
  ⟨h.1, fun hn => by
    obtain ⟨b, off, e, hlt, hc⟩ := h.2 hn
    exact ⟨b, off, e, by omega, hc⟩⟩
end

/-- Pairs (nodes, leads): the slice holds the pairs l. -/
def Pr (w : World) (B : Nat) (A : Option Addr) (l : List (Int × Int)) : Prop := Sl w B 2 A l.length (l.flatMap pc)

theorem Pr.at_ {w : World} {B : Nat} {A : Option Addr} {l : List (Int × Int)} (h : Pr w B A l) {k : Nat} (hk : k < l.length) :
    ∃ b off, A = some ⟨b, off, none⟩ ∧ b < B ∧ w.cell? ⟨b, off + k * 2, none⟩ = some (.int .i64 l[k].1) ∧ w.cell? ⟨b, off + k * 2 + 1, none⟩ = some (.int .i64 l[k].2) := by
  obtain ⟨b, off, e, hlt, hc⟩ := h.2 (by omega)
  obtain ⟨h1, h2⟩ := pcs_get l k hk
  exact ⟨b, off, e, hlt, hc _ _ h1, by rw [Nat.add_assoc]; exact hc _ _ h2⟩
theorem Pr.below {w w' : World} {B : Nat} {A : Option Addr} {l : List (Int × Int)} (h : Pr w B A l) (hb : Below B w w') : Pr w' B A l := Sl.below h hb

theorem bcell {B : Nat} {w w1 : World} (hb : Below B w w1) : ∀ b o, b < B → w1.cell? ⟨b, o, none⟩ = w.cell? ⟨b, o, none⟩ := fun b o h => hb.cell (p := ⟨b, o, none⟩) h
theorem bfroz {B : Nat} {w w1 : World} (hb : Below B w w1) : ∀ b o, b < B → w1.frozen? ⟨b, o, none⟩ = w.frozen? ⟨b, o, none⟩ := fun b o h => hb.frozen (p := ⟨b, o, none⟩) h

theorem heap_new {w : World} {g : Nat} (o : Obj) (h : g = w.heap.size) : (w.alloc o).heap[g]? = some o := by subst h; exact heap_alloc_new w o
theorem heap_new_d {w : World} {g : Nat} (o : Obj) (h : g = w.heap.size) : (w.alloc o).drew.heap[g]? = some o := heap_new o h
/-- Ext: nothing that was there has turned. -/
def Ext (w w' : World) : Prop := Below w.heap.size w w'
theorem Ext.refl (w : World) : Ext w w := Below.refl _ _
theorem Ext.trans {a b c : World} (h : Ext a b) (k : Ext b c) : Ext a c := Below.trans h (Below.mono k h.size)
theorem Ext.alloc {a w : World} (h : Ext a w) (o : Obj) : Ext a (w.alloc o) := Below.alloc h h.size o
theorem Ext.setCell {a w : World} (h : Ext a w) {p : Addr} {v : Value} (hp : a.heap.size ≤ p.block) : Ext a (w.setCell p v) := Below.setCell h hp v
theorem Ext.drew {a w : World} (h : Ext a w) : Ext a w.drew := Below.drew h
theorem Ext.drewN {a w : World} (h : Ext a w) (n : Nat) : Ext a (w.drewN n) := ⟨h.os, h.tape, h.output, h.size, h.block⟩
theorem Ext.cell {w w1 : World} (hb : Ext w w1) : ∀ b o, b < w.heap.size → w1.cell? ⟨b, o, none⟩ = w.cell? ⟨b, o, none⟩ := bcell hb
theorem Ext.lit {w w1 : World} (hb : Ext w w1) {b o : Nat} {v : Value} (h : w.cell? ⟨b, o, none⟩ = some v) : w1.cell? ⟨b, o, none⟩ = some v := by
  rw [hb.cell _ _ (block_lt_of_cell h)]; exact h

theorem Sl.ext {w w' : World} {sz n : Nat} {A : Option Addr} {cs : List Value} (h : Sl w w.heap.size sz A n cs) (hx : Ext w w') : Sl w' w'.heap.size sz A n cs := (h.below hx).more hx.size
theorem Pr.ext {w w' : World} {A : Option Addr} {l : List (Int × Int)} (h : Pr w w.heap.size A l) (hx : Ext w w') : Pr w' w'.heap.size A l := Sl.ext h hx
/-! The standing condition of a region that draws: cells of old blocks are as they were. -/
theorem sb_start (W : World) : (∀ b o, b < W.heap.size → W.drew.cell? ⟨b, o, none⟩ = W.cell? ⟨b, o, none⟩) ∧ Ext W W.drew := ⟨fun _ _ _ => rfl, (Ext.refl _).drew⟩
theorem sb_ext {W w w2 : World} (h : (∀ b o, b < W.heap.size → w.cell? ⟨b, o, none⟩ = W.cell? ⟨b, o, none⟩) ∧ Ext W w) (k : Ext w w2) :
    (∀ b o, b < W.heap.size → w2.cell? ⟨b, o, none⟩ = W.cell? ⟨b, o, none⟩) ∧ Ext W w2 := ⟨(h.2.trans k).cell, h.2.trans k⟩
theorem sb_alloc {W w : World} {x : Obj} (h : (∀ b o, b < W.heap.size → w.cell? ⟨b, o, none⟩ = W.cell? ⟨b, o, none⟩) ∧ Ext W w) :
    (∀ b o, b < W.heap.size → (w.alloc x).cell? ⟨b, o, none⟩ = W.cell? ⟨b, o, none⟩) ∧ Ext W (w.alloc x) := sb_ext h ((Ext.refl _).alloc _)
end Go.Proofs.YtdhmjhoaegdfjaaGreat

namespace Go.Proofs.YtdhmjhoaegdfjaaGreat
theorem mixd : Tryz.prog.follows .mixedOrders = true := by kernel_rfl
theorem own0 : ownKnob Tryz.prog.godebug = none := by kernel_rfl
end Go.Proofs.YtdhmjhoaegdfjaaGreat

namespace Go.Proofs.YtdhmjhoaegdfjaaGreat
open Go.RowKit Go.Sort

theorem fm_cons {α β : Type} {f : α → Option β} {a : α} {b : β} {l : List α} {r : List β} (h : f a = some b) (h2 : l.filterMap f = r) : (a :: l).filterMap f = b :: r := by simp [h, h2]
/-! A region that draws its order: operations that only yield a value are taken first, a run of them at once (one walk by wpQuiet, in the class of the worlds that extend W); the others one by one, where they alone may come up. -/
section
variable {P : Program} {ops : Array Oper} {md : Region.Mode} {Q : Exit → Act → World → Prop} {S : World → Prop}

/-- an operation that yields a value, and enters no function -/
def vkind : Op → Bool
  | .move _ | .assign _ | .pick .. | .load .. | .fieldAddr .. | .field .. | .indexAddr .. | .index .. | .binOp .. | .unOp .. | .extract .. => true
  | .call { callee := .builtin b, .. } => match b with | .len | .cap | .min | .max => true | _ => false
  | _ => false

theorem andThen_value {s : Sem Value} {w w' : World} {x : Next} (h : ((do pure (Next.value (← s)) : Sem Next)).run P w = .ok x w') : ∃ u, x = .value u := by
  simp only [Sem.run_bind] at h
  cases hr : s.run P w with
  | ok v w1 => rw [hr] at h; simp only [Result.andThen_ok, Sem.run_pure] at h; injection h with h1 _; exact ⟨v, h1.symm⟩
  | halt a w1 => rw [hr] at h; simp [Result.andThen] at h

theorem vkind_value {o : Oper} (hk : vkind o.op = true) {ρ : Operand → Value} {w w' : World} {x : Next} (h : (execOp ρ o).run P w = .ok x w') : ∃ u, x = .value u := by
  obtain ⟨dst, op, type, pos, after, guard⟩ := o
  cases op
  case move y => simp only [execOp, Sem.run_pure] at h; injection h with h1 _; exact ⟨_, h1.symm⟩
  case assign y => simp only [execOp, Sem.run_pure] at h; injection h with h1 _; exact ⟨_, h1.symm⟩
  case pick c a b =>
    simp only [execOp, Sem.run_bind] at h
    cases hr : (asBool (ρ c)).run P w with
    | ok v w1 => rw [hr] at h; simp only [Result.andThen_ok, Sem.run_pure] at h; injection h with h1 _; exact ⟨_, h1.symm⟩
    | halt a w1 => rw [hr] at h; simp [Result.andThen] at h
  case load => exact andThen_value h
  case fieldAddr => exact andThen_value h
  case field => exact andThen_value h
  case indexAddr => exact andThen_value h
  case index => exact andThen_value h
  case binOp => exact andThen_value h
  case unOp => exact andThen_value h
  case extract => exact andThen_value h
  case call c =>
    obtain ⟨callee, args, ats⟩ := c
    cases callee with
    | builtin b =>
      cases b <;> first | (simp [vkind] at hk; done) | skip
      all_goals (rw [BigFrame.execOp_builtin] at h)
      case cap => rw [BigFrame.builtin_cap] at h; exact andThen_value h
      case len => rw [BigFrame.builtin_len] at h; exact andThen_value h
      case max => rw [BigFrame.builtin_max] at h; exact andThen_value h
      case min => rw [BigFrame.builtin_min] at h; exact andThen_value h
    | _ => simp [vkind] at hk
  all_goals (simp [vkind] at hk)

theorem yieldsIf_of_in {o : Oper} {v : Value} {a : Act} (hk : vkind o.op = true) (h : YieldsIn P ops S o v a) : YieldsIf P ops S o v a := by
  rcases h with ⟨hw, h⟩ | h
  · refine .inl ⟨hw, fun w hS => ?_⟩
    have h1 := h w hS
    unfold Oper.quietAt at h1
    cases hr : (execOp a.eval o).run P w with
    | ok x w' =>
      obtain ⟨u, rfl⟩ := vkind_value hk hr
      rw [hr] at h1
      obtain ⟨rfl, rfl⟩ := h1
      rfl
    | halt x w' => rw [hr] at h1; exact h1.elim
  · exact .inr h

/-- Whatever order is picked from here on; S holds behind every operation that is carried out, but for the late ones (bit mask L). -/
def wpAnyL (P : Program) (md : Region.Mode) (ops : Array Oper) (Q : Exit → Act → World → Prop) (S : World → Prop) (L : Nat) : Nat → Array Bool → Act → World → Prop
  | 0, listed, a, w => Region.ready md ops listed = [] ∧ Q .normal a w
  | fuel + 1, listed, a, w =>
    (Region.ready md ops listed = [] → Q .normal a w) ∧
    ∀ i ∈ Region.ready md ops listed, wpOp P ops Q i (fun a' w' => (L.testBit i = true ∨ S w') ∧ wpAnyL P md ops Q S L fuel (listed.setIfInBounds i true) a' w') a w
theorem wpAny_of_L {L : Nat} : ∀ (fuel : Nat) (listed : Array Bool) (a : Act) (w : World), wpAnyL P md ops Q S L fuel listed a w → wpAny P md ops Q fuel listed a w
  | 0, _, _, _, h => h
  | fuel + 1, _, _, _, h => ⟨h.1, fun i hi => wpOp_mono (fun a' w' h' => wpAny_of_L fuel _ a' w' h'.2) (h.2 i hi)⟩
theorem wpAnyL_done {L : Nat} {listed : Array Bool} {a : Act} {w : World} (hr : Region.ready md ops listed = []) (h : Q .normal a w) :
    ∀ fuel, wpAnyL P md ops Q S L fuel listed a w
  | 0 => ⟨hr, h⟩
  | _ + 1 => ⟨fun _ => h, by rw [hr]; simp⟩
theorem wpAnyL_all {L : Nat} {rs : List Nat} {fuel : Nat} {listed : Array Bool} {a : Act} {w : World} (hr : Region.ready md ops listed = rs) (hne : rs ≠ [])
    (h : ∀ i ∈ rs, wpOp P ops Q i (fun a' w' => (L.testBit i = true ∨ S w') ∧ wpAnyL P md ops Q S L fuel (listed.setIfInBounds i true) a' w') a w) : wpAnyL P md ops Q S L (fuel + 1) listed a w :=
  ⟨fun h0 => absurd (hr ▸ h0) hne, hr ▸ h⟩
/-- what has come up is closed: with an operation all that it waits for -/
def Clo (md : Region.Mode) (ops : Array Oper) (listed : Array Bool) : Prop :=
  ∀ j oj, ops[j]? = some oj → listed.getD j false = true → ∀ e ∈ oj.after, Region.binds md e = true → listed.getD e.on false = true
theorem clo_set {listed : Array Bool} (h : Clo md ops listed) {j : Nat} (hj : j ∈ Region.ready md ops listed) : Clo md ops (listed.setIfInBounds j true) := by
  intro k ok hk hl e he hb
  by_cases hjk : j = k
  · subst hjk
    obtain ⟨_, o, ho, hall⟩ := mem_ready.1 hj
    rw [hk] at ho
    injection ho with ho
    subst ho
    exact getD_set_true (hall e he hb)
  · rw [getD_set_ne false hjk] at hl
    exact getD_set_true (h k ok hk hl e he hb)
theorem wpAnyL_take {L i : Nat} {oi : Oper} {v : Value} (hi : ops[i]? = some oi) (hs : Region.noSelect ops = true) (hQ : ∀ c a w, Q (.panic c) (a.put oi.dst v) w → Q (.panic c) a w)
    (hw : ∀ j, L.testBit j = true → ∀ listed, Clo md ops listed → j ∈ Region.ready md ops listed → listed.getD i true = true) (hnl : L.testBit i = false) :
    ∀ (fuel : Nat) (listed : Array Bool) (a : Act) (w : World), Clo md ops listed →
      (∀ j oj, ops[j]? = some oj → j ≠ i → listed.getD j true = false → (∀ e ∈ oj.after, Region.binds md e = true → e.on ≠ i) → oi.apart ops oj = true) →
      i ∈ Region.ready md ops listed → YieldsIf P ops S oi v a → S w →
      wpAnyL P md ops Q S L fuel (listed.setIfInBounds i true) (a.put oi.dst v) w → wpAnyL P md ops Q S L (fuel + 1) listed a w := by
  intro fuel
  induction fuel with
  | zero =>
    intro listed a w _ _ hr hy hS H
    refine ⟨fun h => (by rw [h] at hr; cases hr), fun j hj => ?_⟩
    by_cases hji : j = i
    · subst hji; exact hy.wpOp hi hS ⟨.inr hS, H⟩
    · have := ready_mono hj hji
      rw [H.1] at this
      cases this
  | succ fuel ih =>
    intro listed a w hcl hfree hr hy hS H
    refine ⟨fun h => (by rw [h] at hr; cases hr), fun j hj => ?_⟩
    by_cases hji : j = i
    · subst hji; exact hy.wpOp hi hS ⟨.inr hS, H⟩
    · have h1 := H.2 j (ready_mono hj hji)
      obtain ⟨hjun, oj, hoj, hall⟩ := mem_ready.1 hj
      have hun0 := (mem_ready.1 hr).1
      have hnot : ∀ e ∈ oj.after, Region.binds md e = true → e.on ≠ i := fun e he hb heq => by
        have h3 := hall e he hb
        rw [heq] at h3
        rcases Nat.lt_or_ge i listed.size with h' | h'
        · simp [h'] at hun0 h3; rw [hun0] at h3; cases h3
        · simp [Array.getElem?_eq_none h'] at h3
      have hjL : ¬ L.testBit j = true := fun e => by
        have := hw j e listed hcl hj
        rw [hun0] at this
        cases this
      have h2 := wpOp_putIf hoj (hfree j oj hoj hji hjun hnot) (fun cs b => Region.noSelect_spec hs i oi cs b hi) (fun cs b => Region.noSelect_spec hs j oj cs b hoj) hQ hy h1
      have hfree' : ∀ k ok, ops[k]? = some ok → k ≠ i → (listed.setIfInBounds j true).getD k true = false →
          (∀ e ∈ ok.after, Region.binds md e = true → e.on ≠ i) → oi.apart ops ok = true := fun k ok hk hki hun hno => by
        refine hfree k ok hk hki ?_ hno
        by_cases hjk : j = k
        · subst hjk; exact hjun
        · rw [getD_set_ne true hjk] at hun; exact hun
      refine wpOp_mono (fun a' w' h3 => ?_) h2
      obtain ⟨h4, h5, h6⟩ := h3
      have hS' : S w' := h5.resolve_left hjL
      refine ⟨.inr hS', ih (listed.setIfInBounds j true) a' w' (clo_set hcl hj) hfree' (ready_mono hr (Ne.symm hji)) h4 hS' ?_⟩
      rw [Array.setIfInBounds_comm _ _ hji]
      exact h6

/-- A run of takes. -/
def takeChk (md : Region.Mode) (ops : Array Oper) : List Nat → Array Bool → Bool
  | [], _ => true
  | i :: r, listed => (match ops[i]? with | some o => vkind o.op | none => false) && Region.free md ops listed i && (Region.ready md ops listed).contains i && takeChk md ops r (listed.setIfInBounds i true)
def takeList : List Nat → Array Bool → Array Bool
  | [], l => l
  | i :: r, l => takeList r (l.setIfInBounds i true)

theorem rx_take {L : Nat} (hs : Region.noSelect ops = true) (hQ : ∀ c a w, ¬ Q (.panic c) a w) (hw : ∀ i, i < ops.size → L.testBit i = false → ∀ j, L.testBit j = true → ∀ listed, Clo md ops listed → j ∈ Region.ready md ops listed → listed.getD i true = true) {fuel : Nat} {N : Act → Prop} :
    ∀ (run : List Nat) (listed : Array Bool) (a : Act) (w : World), Clo md ops listed → S w → (∀ i ∈ run, L.testBit i = false) → takeChk md ops run listed = true → wpQuiet P ops S N (run.filterMap (ops[·]?)) a →
      (∀ a', N a' → wpAnyL P md ops Q S L fuel (takeList run listed) a' w) → wpAnyL P md ops Q S L (fuel + run.length) listed a w
  | [], _, a, _, _, _, _, _, h, hN => hN a h
  | i :: r, listed, a, w, hcl, hS, hne, hc, h, hN => by
    simp only [takeChk, Bool.and_eq_true] at hc
    obtain ⟨⟨⟨hk, hf⟩, hr⟩, hc'⟩ := hc
    cases ho : ops[i]? with
    | none => rw [ho] at hk; simp at hk
    | some o =>
      rw [ho] at hk
      simp only [List.filterMap_cons, ho] at h
      have hq : qOp P ops S i (wpQuiet P ops S N (r.filterMap (ops[·]?))) a := by unfold qOp; simp only [ho]; exact h
      obtain ⟨v, hy, hK⟩ := yieldsIn_of_qOp ho hq
      exact wpAnyL_take ho hs (fun c a w hp => absurd hp (hQ c _ w)) (hw i (Array.getElem?_eq_some_iff.1 ho).1 (hne i (by simp))) (hne i (by simp)) _ _ _ _ hcl (Region.free_spec ho hf) (by simpa using hr) (yieldsIf_of_in hk hy) hS
        (rx_take hs hQ hw r _ _ w (clo_set hcl (by simpa using hr)) hS (fun j hj => hne j (List.mem_cons_of_mem _ hj)) hc' hK hN)

/-- what is behind one operation -/
def RxOn (P : Program) (md : Region.Mode) (ops : Array Oper) (Q : Exit → Act → World → Prop) (S : World → Prop) (L i : Nat) (fuel : Nat) (listed : Array Bool) : Exit → Act → World → Prop
  | .normal, a, w => (L.testBit i = true ∨ S w) ∧ wpAnyL P md ops Q S L fuel listed a w
  | e, a, w => Q e a w

theorem rx_one' {L i : Nat} {o : Oper} {fuel : Nat} {listed : Array Bool} {a : Act} {w : World} (ho : ops[i]? = some o)
    (h : wpList P ops (RxOn P md ops Q S L i fuel (listed.setIfInBounds i true)) [o] a w) : wpOp P ops Q i (fun a' w' => (L.testBit i = true ∨ S w') ∧ wpAnyL P md ops Q S L fuel (listed.setIfInBounds i true) a' w') a w := by
  unfold wpOp
  simp only [ho]
  unfold wpList at h
  split
  · rename_i hw
    rw [if_pos hw] at h
    rcases h with h | ⟨h1, a', w', h2⟩
    · left
      unfold Oper.wp at *
      generalize (execOp a.eval o).run P w = r at *
      cases r with
      | ok n w' =>
        cases n <;> simp only [Oper.upon] at h ⊢ <;>
          first
            | exact h
            | exact Calls.mono h (fun e w'' he => by cases e <;> first | exact he | exact (let ⟨a', w', h⟩ := he; ⟨a', w', h⟩))
            | exact Rows.mono h (fun _ _ he => he)
      | halt x w' => cases x <;> simp only [Oper.upon] at h ⊢ <;> exact h
    · exact .inr ⟨h1, a', w', h2⟩
  · rename_i hw
    rw [if_neg hw] at h
    exact h

theorem rx_one {L i : Nat} {o : Oper} {fuel : Nat} {listed : Array Bool} {a : Act} {w : World} (ho : ops[i]? = some o) (hr : Region.ready md ops listed = [i])
    (h : wpList P ops (RxOn P md ops Q S L i fuel (listed.setIfInBounds i true)) [o] a w) : wpAnyL P md ops Q S L (fuel + 1) listed a w := by
  exact wpAnyL_all hr (by simp) fun j hj => by
    obtain rfl : j = i := by simpa using hj
    exact rx_one' ho h

theorem noPanic_no (Q : Exit → Act → World → Prop) : ∀ c a w, ¬ NoPanic Q (.panic c) a w := fun _ _ _ h => h

/-- The class of the worlds that extend W. -/
abbrev Cl (W : World) : World → Prop := fun w' => ∃ p : Regrown, w' = grow (redrawn W p.d) p.os
theorem cl_of_ext {W w : World} (h : Ext W w) : ∃ p : Regrown, w = grow (redrawn W p.d) p.os := regrown_of_below h
theorem ext_of_cl {W w : World} (h : ∃ p : Regrown, w = grow (redrawn W p.d) p.os) : Ext W w := by obtain ⟨p, rfl⟩ := h; exact below_regrown _ _ _
end

/-! ### The checks over bit masks -/
/-- of an operation: does it only yield a value; what it waits for; its slot; the slots that it looks at -/
abbrev Sm := Bool × Nat × Option Nat × Nat
def mk (l : List Nat) : Nat := l.foldr (fun t s => 2 ^ t ||| s) 0
theorem mk_test (l : List Nat) (d : Nat) : (mk l).testBit d = l.contains d := by
  induction l with
  | nil => simp [mk]
  | cons t l ih =>
    show (2 ^ t ||| mk l).testBit d = _
    rw [Nat.testBit_or, ih, Nat.testBit_two_pow, List.contains_cons]
    congr 1
    by_cases h : t = d
    · simp [h]
    · simp [h, Ne.symm h]
def smOf (ops : Array Oper) (o : Oper) : Sm := (vkind o.op, mk ((o.after.toList.filter (Region.binds .any)).map (·.on)), o.dst, mk (o.looksAt ops))
def smAll (l : List Oper) : List Sm := l.map (smOf l.toArray)
def arrOf (n m : Nat) : Array Bool := ((List.range n).map (m.testBit ·)).toArray
theorem arrOf_size (n m : Nat) : (arrOf n m).size = n := by simp [arrOf]
theorem arrOf_getD (n m i : Nat) (d : Bool) : (arrOf n m).getD i d = if i < n then m.testBit i else d := by
  by_cases h : i < n
  · simp [arrOf, h]
  · simp [arrOf, h]
theorem arrOf_set (n m i : Nat) (_ : i < n) : (arrOf n m).setIfInBounds i true = arrOf n (m ||| 2 ^ i) := by
  apply Array.ext
  · simp [arrOf]
  · intro j h1 h2
    have hj : j < n := by simpa [arrOf] using h2
    simp only [arrOf, List.getElem_toArray, List.getElem_map, List.getElem_range, Nat.testBit_or, Nat.testBit_two_pow]
    by_cases e : i = j
    · simp [e]
    · simp [e]
theorem arrOf_zero (n : Nat) : Array.replicate n false = arrOf n 0 := by
  apply Array.ext
  · simp [arrOf]
  · intro j h1 h2
    simp [arrOf]
def apM (x y : Sm) : Bool :=
  (match x.2.2.1 with | some d => !y.2.2.2.testBit d && y.2.2.1 != some d | none => true) && (match y.2.2.1 with | some d => !x.2.2.2.testBit d | none => true)
def frM (m i : Nat) (x : Sm) : List Sm → Nat → Bool
  | [], _ => true
  | y :: r, j => (j == i || m.testBit j || y.2.1.testBit i || apM x y) && frM m i x r (j + 1)
def tkM (SL : List Sm) : List Nat → Nat → Bool
  | [], _ => true
  | i :: r, m => (match SL[i]? with | some x => x.1 && frM m i x SL 0 && !m.testBit i && (x.2.1 &&& m == x.2.1) | none => false) && tkM SL r (m ||| 2 ^ i)
def tkL : List Nat → Nat → Nat
  | [], m => m
  | i :: r, m => tkL r (m ||| 2 ^ i)
def rdM (m : Nat) : List Sm → Nat → List Nat
  | [], _ => []
  | x :: r, i => if !m.testBit i && (x.2.1 &&& m == x.2.1) then i :: rdM m r (i + 1) else rdM m r (i + 1)

theorem rdM_cons (m : Nat) (x : Sm) (r : List Sm) (i : Nat) : rdM m (x :: r) i = if !m.testBit i && (x.2.1 &&& m == x.2.1) then i :: rdM m r (i + 1) else rdM m r (i + 1) := rfl
theorem apM_spec (ops : Array Oper) (x y : Oper) (h : apM (smOf ops x) (smOf ops y) = true) : x.apart ops y = true := by
  unfold apM smOf at h
  unfold Oper.apart
  simp only [mk_test] at h
  exact h

theorem frM_spec (m i : Nat) (x : Sm) : ∀ (L : List Sm) (k : Nat), frM m i x L k = true → ∀ j y, L[j]? = some y → (k + j = i ∨ m.testBit (k + j) = true ∨ y.2.1.testBit i = true ∨ apM x y = true)
  | [], _, _, j, y, hj => by simp at hj
  | z :: r, k, h, j, y, hj => by
    simp only [frM, Bool.and_eq_true, Bool.or_eq_true, beq_iff_eq] at h
    cases j with
    | zero =>
      simp at hj; subst hj
      rcases h.1 with ((h1 | h1) | h1) | h1
      · exact .inl (by omega)
      · exact .inr (.inl (by simpa using h1))
      · exact .inr (.inr (.inl h1))
      · exact .inr (.inr (.inr h1))
    | succ j =>
      have := frM_spec m i x r (k + 1) h.2 j y (by simpa using hj)
      rwa [show k + 1 + j = k + (j + 1) by omega] at this

theorem and_mask {a m : Nat} : (a &&& m = a) ↔ ∀ i, a.testBit i = true → m.testBit i = true := by
  constructor
  · intro h i hi
    have := congrArg (fun n => n.testBit i) h
    simp only [Nat.testBit_and, hi, Bool.true_and] at this
    exact this
  · intro h
    apply Nat.eq_of_testBit_eq
    intro i
    rw [Nat.testBit_and]
    cases ha : a.testBit i
    · rfl
    · simp [h i ha]

theorem all_after {ops : Array Oper} {o : Oper} {n m : Nat} (hm : m < 2 ^ n) (h : (smOf ops o).2.1 &&& m = (smOf ops o).2.1) : o.after.all (fun e => !Region.binds .any e || (arrOf n m).getD e.on false) = true := by
  rw [Array.all_eq_true_iff_forall_mem]
  intro e he
  cases hb : Region.binds .any e
  · rfl
  · simp only [Bool.not_true, Bool.false_or]
    have h1 := and_mask.1 h e.on (by
      show (mk _).testBit _ = true
      rw [mk_test, List.contains_iff_mem]
      exact List.mem_map.2 ⟨e, List.mem_filter.2 ⟨by simpa using he, hb⟩, rfl⟩)
    rw [arrOf_getD]
    split
    · exact h1
    · rename_i hlt
      exact absurd h1 (by rw [Nat.testBit_lt_two_pow (Nat.lt_of_lt_of_le hm (Nat.pow_le_pow_right (by omega) (by omega)))]; simp)

theorem after_all {ops : Array Oper} {o : Oper} {n m : Nat} (h : o.after.all (fun e => !Region.binds .any e || (arrOf n m).getD e.on false) = true) : (smOf ops o).2.1 &&& m = (smOf ops o).2.1 := by
  rw [and_mask]
  intro i hi
  have hi' : (mk ((o.after.toList.filter (Region.binds .any)).map (·.on))).testBit i = true := hi
  rw [mk_test, List.contains_iff_mem] at hi'
  obtain ⟨e, he, rfl⟩ := List.mem_map.1 hi'
  obtain ⟨h1, h2⟩ := List.mem_filter.1 he
  rw [Array.all_eq_true_iff_forall_mem] at h
  have := h e (by simpa using h1)
  rw [h2, arrOf_getD] at this
  simp only [Bool.not_true, Bool.false_or] at this
  split at this
  · exact this
  · cases this

section
variable {l : List Oper}
theorem ready_iff {m : Nat} (hm : m < 2 ^ l.length) (i : Nat) : i ∈ Region.ready .any l.toArray (arrOf l.length m) ↔ (m.testBit i = false ∧ ∃ o, l[i]? = some o ∧ (smOf l.toArray o).2.1 &&& m = (smOf l.toArray o).2.1) := by
  unfold Region.ready
  simp only [List.mem_filter, List.mem_range, List.size_toArray, Bool.and_eq_true, Bool.not_eq_true', arrOf_getD, List.getElem?_toArray]
  constructor
  · rintro ⟨h1, h2, h3⟩
    rw [if_pos h1] at h2
    refine ⟨h2, l[i], List.getElem?_eq_getElem h1, ?_⟩
    rw [List.getElem?_eq_getElem h1] at h3
    simp only [Option.map_some, Option.getD_some] at h3
    apply after_all (n := l.length)
    simpa only [arrOf_getD] using h3
  · rintro ⟨h1, o, ho, h2⟩
    have hi : i < l.length := (List.getElem?_eq_some_iff.1 ho).1
    refine ⟨hi, by rw [if_pos hi]; exact h1, ?_⟩
    rw [ho]
    simp only [Option.map_some, Option.getD_some]
    have := all_after (ops := l.toArray) (n := l.length) hm h2
    simpa only [arrOf_getD] using this

theorem free_of {m i : Nat} {x : Oper} (hi : l[i]? = some x) (h : frM m i (smOf l.toArray x) (smAll l) 0 = true) : Region.free .any l.toArray (arrOf l.length m) i = true := by
  unfold Region.free
  simp only [List.getElem?_toArray, hi, List.size_toArray]
  rw [List.all_eq_true]
  intro j hj
  rw [List.mem_range] at hj
  have h1 := frM_spec m i _ _ 0 h j (smOf l.toArray l[j]) (by simp [smAll, hj])
  simp only [Nat.zero_add] at h1
  rw [List.getElem?_eq_getElem hj, arrOf_getD, if_pos hj]
  rcases h1 with h1 | h1 | h1 | h1
  · simp [h1]
  · simp [h1]
  · have h2 : (mk ((l[j].after.toList.filter (Region.binds .any)).map (·.on))).testBit i = true := h1
    rw [mk_test, List.contains_iff_mem] at h2
    obtain ⟨e, he, rfl⟩ := List.mem_map.1 h2
    obtain ⟨h3, h4⟩ := List.mem_filter.1 he
    have : l[j].after.any (fun e' => Region.binds .any e' && e'.on == e.on) = true := by
      rw [← Array.any_toList, List.any_eq_true]
      exact ⟨e, h3, by simp [h4]⟩
    simp [this]
  · simp [apM_spec _ _ _ h1]

theorem bit_lt {n m i : Nat} (hm : m < 2 ^ n) (hi : i < n) : m ||| 2 ^ i < 2 ^ n := Nat.or_lt_two_pow hm (Nat.pow_lt_pow_right (by omega) hi)

theorem takeChk_of : ∀ (run : List Nat) (m : Nat), m < 2 ^ l.length → tkM (smAll l) run m = true → takeChk .any l.toArray run (arrOf l.length m) = true ∧ takeList run (arrOf l.length m) = arrOf l.length (tkL run m) ∧ tkL run m < 2 ^ l.length
  | [], _, hm, _ => ⟨rfl, rfl, hm⟩
  | i :: r, m, hm, h => by
    simp only [tkM, Bool.and_eq_true] at h
    obtain ⟨h1, h2⟩ := h
    cases ho : l[i]? with
    | none => simp [smAll, ho] at h1
    | some o =>
      have hi : i < l.length := (List.getElem?_eq_some_iff.1 ho).1
      simp only [smAll, List.getElem?_map, ho, Option.map_some, Bool.and_eq_true, Bool.not_eq_true', beq_iff_eq] at h1
      obtain ⟨⟨⟨h3, h4⟩, h5⟩, h6⟩ := h1
      have ih := takeChk_of r (m ||| 2 ^ i) (bit_lt hm hi) h2
      rw [← arrOf_set _ _ _ hi] at ih
      refine ⟨?_, ih.2.1, ih.2.2⟩
      simp only [takeChk, List.getElem?_toArray, ho, Bool.and_eq_true]
      refine ⟨⟨⟨h3, free_of ho h4⟩, ?_⟩, ih.1⟩
      rw [List.contains_iff_mem, ready_iff hm]
      exact ⟨h5, o, ho, h6⟩

theorem rdM_mem {m : Nat} : ∀ (L : List Sm) (k i : Nat), i ∈ rdM m L k ↔ ∃ j x, i = k + j ∧ L[j]? = some x ∧ m.testBit i = false ∧ x.2.1 &&& m = x.2.1
  | [], _, _ => by simp [rdM]
  | y :: r, k, i => by
    have ih := rdM_mem (m := m) r (k + 1) i
    have key : (∃ j x, i = k + j ∧ (y :: r)[j]? = some x ∧ m.testBit i = false ∧ x.2.1 &&& m = x.2.1) ↔ ((i = k ∧ m.testBit i = false ∧ y.2.1 &&& m = y.2.1) ∨ ∃ j x, i = k + 1 + j ∧ r[j]? = some x ∧ m.testBit i = false ∧ x.2.1 &&& m = x.2.1) := by
      constructor
      · rintro ⟨j, x, h1, h2, h3, h4⟩
        cases j with
        | zero => simp at h2; subst h2; exact .inl ⟨h1, h3, h4⟩
        | succ j => exact .inr ⟨j, x, by omega, by simpa using h2, h3, h4⟩
      · rintro (⟨h1, h3, h4⟩ | ⟨j, x, h1, h2, h3, h4⟩)
        · exact ⟨0, y, h1, rfl, h3, h4⟩
        · exact ⟨j + 1, x, by omega, by simpa using h2, h3, h4⟩
    rw [key, ← ih, rdM_cons]
    split
    · rename_i hc
      simp only [Bool.and_eq_true, Bool.not_eq_true', beq_iff_eq] at hc
      rw [List.mem_cons]
      constructor
      · rintro (h | h)
        · exact .inl ⟨h, by rw [h]; exact hc.1, hc.2⟩
        · exact .inr h
      · rintro (⟨h, _⟩ | h)
        · exact .inl h
        · exact .inr h
    · rename_i hc
      simp only [Bool.and_eq_true, Bool.not_eq_true', beq_iff_eq] at hc
      constructor
      · exact .inr
      · rintro (⟨h, h1, h2⟩ | h)
        · exact absurd ⟨by rw [← h]; exact h1, h2⟩ hc
        · exact h
theorem rdM_sorted {m : Nat} : ∀ (L : List Sm) (k : Nat), (rdM m L k).Pairwise (· < ·) ∧ ∀ i ∈ rdM m L k, k ≤ i
  | [], _ => by simp [rdM]
  | y :: r, k => by
    have ih := rdM_sorted (m := m) r (k + 1)
    rw [rdM_cons]
    split
    · exact ⟨List.pairwise_cons.2 ⟨fun i hi => by have := ih.2 i hi; omega, ih.1⟩, fun i hi => by
        rcases List.mem_cons.1 hi with h | h
        · omega
        · have := ih.2 i h; omega⟩
    · exact ⟨ih.1, fun i hi => by have := ih.2 i hi; omega⟩
theorem sorted_ext : ∀ {a b : List Nat}, a.Pairwise (· < ·) → b.Pairwise (· < ·) → (∀ i, i ∈ a ↔ i ∈ b) → a = b
  | [], [], _, _, _ => rfl
  | [], y :: b, _, _, h => by have := (h y).2 (by simp); simp at this
  | x :: a, [], _, _, h => by have := (h x).1 (by simp); simp at this
  | x :: a, y :: b, ha, hb, h => by
    rw [List.pairwise_cons] at ha hb
    have hxy : x = y := by
      have h1 := (h x).1 (by simp)
      have h2 := (h y).2 (by simp)
      rcases List.mem_cons.1 h1 with e | e
      · exact e
      · rcases List.mem_cons.1 h2 with e' | e'
        · exact e'.symm
        · have := hb.1 x e; have := ha.1 y e'; omega
    subst hxy
    rw [sorted_ext ha.2 hb.2 fun i => by
      constructor
      · intro hi
        rcases List.mem_cons.1 ((h i).1 (List.mem_cons_of_mem _ hi)) with e | e
        · subst e; have := ha.1 i hi; omega
        · exact e
      · intro hi
        rcases List.mem_cons.1 ((h i).2 (List.mem_cons_of_mem _ hi)) with e | e
        · subst e; have := hb.1 i hi; omega
        · exact e]
theorem ready_eq {m : Nat} (hm : m < 2 ^ l.length) : Region.ready .any l.toArray (arrOf l.length m) = rdM m (smAll l) 0 := by
  apply sorted_ext
  · unfold Region.ready
    exact List.Pairwise.filter _ List.pairwise_lt_range
  · exact (rdM_sorted _ _).1
  · intro i
    rw [ready_iff hm, rdM_mem]
    constructor
    · rintro ⟨h1, o, ho, h2⟩
      exact ⟨i, smOf l.toArray o, by omega, by simp [smAll, ho], h1, h2⟩
    · rintro ⟨j, x, h0, hx, h1, h2⟩
      obtain rfl : i = j := by omega
      simp only [smAll, List.getElem?_map, Option.map_eq_some_iff] at hx
      obtain ⟨o, ho, rfl⟩ := hx
      exact ⟨h1, o, ho, h2⟩
end

/-! ### The rules -/
section
variable {P : Program} {Q : Exit → Act → World → Prop} {l : List Oper} {W w : World} {a : Act}
def cls : List Sm → Nat → Nat → Nat
  | [], _, m => m
  | x :: r, i, m => cls r (i + 1) (if m.testBit i then m ||| x.2.1 else m)
def clN (SL : List Sm) : Nat → Nat → Nat
  | 0, m => m
  | k + 1, m => clN SL k (cls SL 0 m)
/-- the late operations wait for all others -/
def waitsAll (SL : List Sm) (L n : Nat) : Bool := (List.range n).all (fun j => !L.testBit j || (match SL[j]? with
  | some x => (clN SL n x.2.1 ||| L) &&& (2 ^ n - 1) == 2 ^ n - 1
  | none => true))
def subL (m : Nat) (listed : Array Bool) : Prop := ∀ i, m.testBit i = true → listed.getD i false = true
theorem sm_listed {listed : Array Bool} {o : Oper} (h : ∀ e ∈ o.after, Region.binds .any e = true → listed.getD e.on false = true) : subL (smOf l.toArray o).2.1 listed := by
  intro i hi
  have h2 : (mk ((o.after.toList.filter (Region.binds .any)).map (·.on))).testBit i = true := hi
  rw [mk_test, List.contains_iff_mem] at h2
  obtain ⟨e, he, rfl⟩ := List.mem_map.1 h2
  obtain ⟨h3, h4⟩ := List.mem_filter.1 he
  exact h e (by simpa using h3) h4
theorem cls_sub {listed : Array Bool} (hc : Clo .any l.toArray listed) : ∀ (r : List Oper) (k m : Nat), (∀ j o, r[j]? = some o → l[k + j]? = some o) → subL m listed → subL (cls (r.map (smOf l.toArray)) k m) listed
  | [], _, _, _, h => h
  | x :: r, k, m, hr, h => by
    refine cls_sub hc r (k + 1) _ (fun j o hj => by have := hr (j + 1) o (by simpa using hj); rwa [show k + 1 + j = k + (j + 1) by omega]) ?_
    split
    · rename_i hb
      intro i hi
      rw [Nat.testBit_or, Bool.or_eq_true] at hi
      rcases hi with hi | hi
      · exact h i hi
      · exact sm_listed (l := l) (hc k x (by have := hr 0 x (by simp); simpa using this) (h k hb)) i hi
    · exact h
theorem clN_sub {listed : Array Bool} (hc : Clo .any l.toArray listed) : ∀ (k m : Nat), subL m listed → subL (clN (smAll l) k m) listed
  | 0, _, h => h
  | k + 1, m, h => clN_sub hc k _ (cls_sub hc l 0 m (fun j o hj => by rwa [Nat.zero_add]) h)
theorem waitsAll_spec {L n : Nat} (hn : n = l.length) (h : waitsAll (smAll l) L n = true) : ∀ i, i < l.toArray.size → L.testBit i = false → ∀ j, L.testBit j = true → ∀ listed, Clo .any l.toArray listed → j ∈ Region.ready .any l.toArray listed → listed.getD i true = true := by
  intro i hi hne j hjL listed hc hL
  subst hn
  obtain ⟨_, oL, hoL, hall⟩ := mem_ready.1 hL
  have hL' : l[j]? = some oL := by simpa using hoL
  have hj : j < l.length := (List.getElem?_eq_some_iff.1 hL').1
  unfold waitsAll at h
  rw [List.all_eq_true] at h
  have h := h j (List.mem_range.2 hj)
  rw [hjL] at h
  simp only [smAll, List.getElem?_map, hL', Option.map_some, Bool.not_true, Bool.false_or, beq_iff_eq] at h
  have h1 := congrArg (fun x => x.testBit i) h
  have hi' : i < l.length := by simpa using hi
  simp only [Nat.testBit_or, Nat.testBit_and, Nat.testBit_two_pow_sub_one, hi', decide_true, hne, Bool.or_false, Bool.and_true] at h1
  have h2 := clN_sub hc l.length _ (sm_listed (l := l) hall) i h1
  rcases Nat.lt_or_ge i listed.size with h' | h'
  · simp [h'] at h2 ⊢; exact h2
  · simp [Array.getElem?_eq_none h'] at h2
theorem clo_zero : Clo .any l.toArray (arrOf l.length 0) := by
  intro j oj _ hl
  rw [arrOf_getD] at hl
  split at hl <;> simp at hl
theorem clo_take : ∀ (run : List Nat) (listed : Array Bool), Clo .any l.toArray listed → takeChk .any l.toArray run listed = true → Clo .any l.toArray (takeList run listed)
  | [], _, h, _ => h
  | i :: r, listed, h, hc => by
    simp only [takeChk, Bool.and_eq_true] at hc
    exact clo_take r _ (clo_set h (by simpa using hc.1.2)) hc.2

/-- A region that draws, in the midst: m says which operations have come up; L: the late operations (bit mask), which may write what was there; they wait for all others. -/
def Rx (P : Program) (Q : Exit → Act → World → Prop) (W : World) (l : List Oper) (SL : List Sm) (L k m : Nat) (a : Act) (w : World) : Prop :=
  smAll l = SL → Region.noSelect l.toArray = true → waitsAll SL L l.length = true → m < 2 ^ l.length → Clo .any l.toArray (arrOf l.length m) → wpAnyL P .any l.toArray (NoPanic Q) (fun w' => ∃ p : Regrown, w' = grow (redrawn W p.d) p.os) L k (arrOf l.length m) a w

theorem rx_open {id : Nat} (SL : List Sm) (L n : Nat) (hm : P.follows .mixedOrders = true) (hn : l.length = n) (hSL : smAll l = SL) (hs : Region.noSelect l.toArray = true) (hL : waitsAll SL L n = true)
    (h : Rx P Q w l SL L n 0 a w.drew) : (Code.region id l.toArray true).wp P Q a w := by
  subst hn
  refine wp_region_noPanic (wp_region_any hm (wpAny_of_L (S := fun w' => ∃ p : Regrown, w' = grow (redrawn w p.d) p.os) (L := L) _ _ _ _ ?_))
  have := h hSL hs hL (Nat.two_pow_pos _) clo_zero
  rw [← arrOf_zero] at this
  simpa using this

theorem rx_run {SL : List Sm} {run : List Nat} {L n k m m' : Nat} {rops : List Oper} (hn : n = k + run.length) (hrl : run.all (fun i => !L.testBit i) = true)
    (hc : tkM SL run m = true) (hl : tkL run m = m') (hr : run.filterMap (fun i => l[i]?) = rops) (hw : Ext W w)
    (h : wpQuiet P l.toArray (fun w' => ∃ p : Regrown, w' = grow (redrawn W p.d) p.os) (fun a' => Rx P Q W l SL L k m' a' w) rops a) :
    Rx P Q W l SL L n m a w := by
  intro hSL hs hL hm hcl
  subst hn hl hr hSL
  obtain ⟨h1, h2, h3⟩ := takeChk_of run m hm hc
  refine rx_take hs (noPanic_no Q) (waitsAll_spec rfl hL) (fuel := k) run _ a w hcl (regrown_of_below hw) (fun i hi => ?_) h1 (N := fun a' => Rx P Q W l (smAll l) L k (tkL run m) a' w) (by simpa using h) (fun a' h' => ?_)
  · have := List.all_eq_true.1 hrl i hi; simpa using this
  · rw [h2]
    exact h' rfl hs hL h3 (by rw [← h2]; exact clo_take run _ hcl h1)

/-- what is behind one operation -/
def RxOp (P : Program) (Q : Exit → Act → World → Prop) (W : World) (l : List Oper) (SL : List Sm) (L i k m : Nat) : Exit → Act → World → Prop
  | .normal, a, w => (L.testBit i = true ∨ Ext W w) ∧ Rx P Q W l SL L k m a w
  | e, a, w => NoPanic Q e a w

theorem rxOp_on {SL : List Sm} {L k m i : Nat} {o : Oper} (hSL : smAll l = SL) (hs : Region.noSelect l.toArray = true) (hL : waitsAll SL L l.length = true) (hm : m < 2 ^ l.length) (hi : i < l.length) (hcl : Clo .any l.toArray (arrOf l.length (m ||| 2 ^ i)))
    (h : wpList P l.toArray (RxOp P Q W l SL L i k (m ||| 2 ^ i)) [o] a w) :
    wpList P l.toArray (RxOn P .any l.toArray (NoPanic Q) (fun w' => ∃ p : Regrown, w' = grow (redrawn W p.d) p.os) L i k ((arrOf l.length m).setIfInBounds i true)) [o] a w := by
  have key : ∀ e a' w', RxOp P Q W l SL L i k (m ||| 2 ^ i) e a' w' → RxOn P .any l.toArray (NoPanic Q) (fun w' => ∃ p : Regrown, w' = grow (redrawn W p.d) p.os) L i k ((arrOf l.length m).setIfInBounds i true) e a' w' := by
    intro e a' w' he
    cases e with
    | normal => exact ⟨he.1.imp id regrown_of_below, by rw [arrOf_set _ _ _ hi]; exact he.2 hSL hs hL (bit_lt hm hi) hcl⟩
    | _ => exact he
  unfold wpList at *
  split
  · rename_i hw
    rw [if_pos hw] at h
    rcases h with h | ⟨h1, a', w', h2⟩
    · left
      unfold Oper.wp at *
      generalize (execOp a.eval o).run P w = r at *
      cases r with
      | ok n w' =>
        cases n <;> simp only [Oper.upon] at h ⊢ <;>
          first
            | exact key _ _ _ h
            | exact Calls.mono h (fun e w'' he => by cases e <;> first | exact key _ _ _ he | exact (let ⟨a', w', h⟩ := he; ⟨a', w', key _ _ _ h⟩))
            | exact Rows.mono h (fun _ _ he => key _ _ _ he)
            | exact h
      | halt x w' => cases x <;> simp only [Oper.upon] at h ⊢ <;> first | exact key _ _ _ h | exact h
    · exact .inr ⟨h1, a', w', key _ _ _ h2⟩
  · rename_i hw
    rw [if_neg hw] at h
    exact key _ _ _ h

theorem rx_op {SL : List Sm} (i : Nat) {o : Oper} {L n k m m' : Nat} (hn : n = k + 1) (ho : l[i]? = some o) (hr : rdM m SL 0 = [i]) (hl : m ||| 2 ^ i = m')
    (h : wpList P l.toArray (RxOp P Q W l SL L i k m') [o] a w) : Rx P Q W l SL L n m a w := by
  intro hSL hs hL hm hcl
  subst hn hl
  have hi : i < l.length := (List.getElem?_eq_some_iff.1 ho).1
  exact rx_one (by simpa using ho) (by rw [ready_eq hm, hSL]; exact hr) (rxOp_on hSL hs hL hm hi (by rw [← arrOf_set _ _ _ hi]; exact clo_set hcl (by rw [ready_eq hm, hSL, hr]; simp)) h)

/-- two operations may come up -/
theorem rx_two {SL : List Sm} (i j : Nat) {o o' : Oper} {L n k m mi mj : Nat} (hn : n = k + 1) (ho : l[i]? = some o) (ho' : l[j]? = some o') (hr : rdM m SL 0 = [i, j]) (hl : m ||| 2 ^ i = mi) (hl' : m ||| 2 ^ j = mj)
    (h : wpList P l.toArray (RxOp P Q W l SL L i k mi) [o] a w) (h' : wpList P l.toArray (RxOp P Q W l SL L j k mj) [o'] a w) : Rx P Q W l SL L n m a w := by
  intro hSL hs hL hm hcl
  subst hn hl hl'
  have hi : i < l.length := (List.getElem?_eq_some_iff.1 ho).1
  have hj : j < l.length := (List.getElem?_eq_some_iff.1 ho').1
  refine wpAnyL_all (rs := [i, j]) (by rw [ready_eq hm, hSL]; exact hr) (by simp) fun x hx => ?_
  rcases List.mem_cons.1 hx with rfl | hx
  · exact rx_one' (by simpa using ho) (rxOp_on hSL hs hL hm hi (by rw [← arrOf_set _ _ _ hi]; exact clo_set hcl (by rw [ready_eq hm, hSL, hr]; simp)) h)
  · obtain rfl : x = j := by simpa using hx
    exact rx_one' (by simpa using ho') (rxOp_on hSL hs hL hm hj (by rw [← arrOf_set _ _ _ hj]; exact clo_set hcl (by rw [ready_eq hm, hSL, hr]; simp)) h')

theorem rx_on {SL : List Sm} {L i k m : Nat} (hw : Ext W w) (h : Rx P Q W l SL L k m a w) : RxOp P Q W l SL L i k m .normal a w := ⟨.inr hw, h⟩
theorem rx_lst {SL : List Sm} {L i k m : Nat} (hi : L.testBit i = true) (h : Rx P Q W l SL L k m a w) : RxOp P Q W l SL L i k m .normal a w := ⟨.inl hi, h⟩

theorem rx_end {SL : List Sm} {L n m : Nat} (hr : rdM m SL 0 = []) (h : Q .normal a w) : Rx P Q W l SL L n m a w := by
  intro hSL _ _ hm _
  exact wpAnyL_done (by rw [ready_eq hm, hSL]; exact hr) (NoPanic.normal h) n
end
end Go.Proofs.YtdhmjhoaegdfjaaGreat

namespace Go.Proofs.YtdhmjhoaegdfjaaGreat
open Go.RowKit

/-- Block g is just the cells cs of type t, none frozen. -/
def Bk (w : World) (g : Nat) (t : TypeId) (cs : List Value) : Prop := w.heap[g]? = some (.cells cs.toArray t (0, 0))
section
variable {w w' : World} {g : Nat} {t : TypeId} {cs : List Value}
theorem Bk.lt (h : Bk w g t cs) : g < w.heap.size := by
  rcases Nat.lt_or_ge g w.heap.size with h' | h'
  · exact h'
  · unfold Bk at h; rw [Array.getElem?_eq_none h'] at h; cases h
theorem Bk.cell (h : Bk w g t cs) (i : Nat) : w.cell? ⟨g, i, none⟩ = cs[i]? := by
  rw [cell_of_row w g i _ t (0, 0) h]; simp
theorem Bk.froz (h : Bk w g t cs) (i : Nat) : w.frozen? ⟨g, i, none⟩ = false := by
  unfold Bk at h
  simp [World.frozen?, h]
theorem Bk.new {w : World} {g : Nat} (t : TypeId) (cs : List Value) (hg : g = w.heap.size) : Bk (w.alloc (.cells cs.toArray t)) g t cs := heap_new _ hg
theorem Bk.set_ (h : Bk w g t cs) (i : Nat) (u : Value) : Bk (w.setCell ⟨g, i, none⟩ u) g t (cs.set i u) := by
  unfold Bk at h ⊢
  simp [World.setCell, Array.getElem?_modify, h]
theorem Bk.far (h : Bk w g t cs) {p : Addr} (hp : g ≠ p.block) (u : Value) : Bk (w.setCell p u) g t cs := (Below.heap_setCell w p u g hp).trans h
theorem Bk.ext (h : Bk w g t cs) (hx : Ext w w') : Bk w' g t cs := (hx.block g h.lt).trans h
theorem Bk.drew (h : Bk w g t cs) : Bk w.drew g t cs := h
theorem Bk.sl (h : Bk w g t cs) {sz n : Nat} (hn : cs.length = n * sz) : Sl w w.heap.size sz (some ⟨g, 0, none⟩) n cs :=
  ⟨hn, fun _ => ⟨g, 0, rfl, h.lt, fun j u hu => by rw [h.cell, Nat.zero_add]; exact hu⟩⟩
end

theorem list_toArray (a : Array Value) : a = a.toList.toArray := by simp
/-- make of a slice of one-cell elements -/
theorem run_mk1 {P : Program} (t e : TypeId) (i : TypeInfo) (z : Value) (ht : P.underlying t = some (.slice e)) (hi : P.info? e = some i) (hz : i.zero = some z) (hs : i.size = 1) (hzc : z.cells = #[z])
    (n : Nat) (hb : i.bytes * n ≤ 281474976710656) (h63 : n ≤ 9223372036854775807) (w : World) :
    (Instr.makeSlice t (.int .i64 (n : Int)) (.int .i64 (n : Int))).run P w = .ok (.slice (some ⟨w.heap.size, 0, none⟩) n n) (w.alloc (.cells (List.replicate n z).toArray e)) := by
  have hb' : (i.bytes : Int) * (n : Int) ≤ 281474976710656 := by
    have h : ((i.bytes * n : Nat) : Int) ≤ 281474976710656 := by omega
    rwa [Int.natCast_mul] at h
  have hr := run_make (P := P) w t e i z ht hi hz .i64 .i64 n n (by omega) (by omega) hb' (by omega)
  simp only [Int.toNat_natCast, hs, Nat.mul_one, hzc] at hr
  rw [hr]
  have : madeCells #[z] n = (List.replicate n z).toArray := by rw [list_toArray (madeCells #[z] n), toList_madeCells_one]
  rw [this]

/-- Ints: the slice holds xs. -/
def In (w : World) (B : Nat) (A : Option Addr) (xs : List Int) : Prop := Sl w B 1 A xs.length (xs.map (Value.int .i64))
theorem In.at_ {w : World} {B : Nat} {A : Option Addr} {xs : List Int} (h : In w B A xs) {k : Nat} (hk : k < xs.length) :
    ∃ b off, A = some ⟨b, off, none⟩ ∧ b < B ∧ w.cell? ⟨b, off + k, none⟩ = some (.int .i64 xs[k]) := by
  obtain ⟨b, off, e, hlt, hc⟩ := h.2 (by omega)
  exact ⟨b, off, e, hlt, hc k _ (by simp [hk])⟩
theorem In.ext {w w' : World} {A : Option Addr} {xs : List Int} (h : In w w.heap.size A xs) (hx : Ext w w') : In w' w'.heap.size A xs := Sl.ext h hx
theorem Bk.in_ {w : World} {g : Nat} {t : TypeId} {xs : List Int} (h : Bk w g t (xs.map (Value.int .i64))) : In w w.heap.size (some ⟨g, 0, none⟩) xs := h.sl (by simp)

/-- filled up to k -/
def fil (xs : List Value) (z : Value) (k : Nat) : List Value := xs.take k ++ List.replicate (xs.length - k) z
theorem fil_zero (xs : List Value) (z : Value) : fil xs z 0 = List.replicate xs.length z := by simp [fil]
theorem fil_all (xs : List Value) (z : Value) : fil xs z xs.length = xs := by simp [fil]
theorem fil_get (xs : List Value) (z : Value) (k : Nat) (h : k < xs.length) : (fil xs z k)[k]? = some z := by
  unfold fil
  rw [List.getElem?_append_right (by rw [List.length_take]; omega), List.getElem?_replicate, if_pos (by rw [List.length_take]; omega)]
theorem fil_set (xs : List Value) (z : Value) (k : Nat) (h : k < xs.length) : (fil xs z k).set k xs[k] = fil xs z (k + 1) := by
  unfold fil
  rw [List.set_append_right _ _ (by rw [List.length_take]; omega)]
  have e1 : xs.length - k = (xs.length - (k + 1)) + 1 := by omega
  have e2 : k - (List.take k xs).length = 0 := by rw [List.length_take]; omega
  rw [e2, e1, List.replicate_succ, List.set_cons_zero, List.take_succ_eq_append_getElem h, List.append_assoc]
  rfl
end Go.Proofs.YtdhmjhoaegdfjaaGreat

namespace Go.Proofs.YtdhmjhoaegdfjaaGreat
open Go.RowKit

theorem ow_ext {w w' : World} {B : Nat} {e : TypeId} {sz : Nat} {v : Value} {n : Nat} {cs : List Value} (h : w.ownsRow B e sz v n cs) (hx : Ext w w') : w'.ownsRow B e sz v n cs := by
  refine ⟨h.1, ?_⟩
  rcases h.2 with hn | ⟨g, cap, cur, hv, hb, hg, rest⟩
  · exact .inl hn
  · have hlt : g < w.heap.size := by
      rcases Nat.lt_or_ge g w.heap.size with h' | h'
      · exact h'
      · rw [Array.getElem?_eq_none h'] at hg; cases hg
    exact .inr ⟨g, cap, cur, hv, hb, (hx.block g hlt).trans hg, rest⟩
theorem ow_shape {w : World} {B : Nat} {e : TypeId} {sz : Nat} {v : Value} {n : Nat} {cs : List Value} (h : w.ownsRow B e sz v n cs) :
    ∃ A c, v = .slice A n c ∧ n ≤ c ∧ c ≤ maxLen ∧ Sl w w.heap.size sz A n cs := by
  rcases h.2 with ⟨rfl, rfl⟩ | ⟨g, cap, cur, rfl, hb, hg, hnc, hcm, hcs, ht⟩
  · exact ⟨none, 0, rfl, by omega, by unfold maxLen; omega, h.1, fun h => absurd h (by omega)⟩
  · have hlt : g < w.heap.size := by
      rcases Nat.lt_or_ge g w.heap.size with h' | h'
      · exact h'
      · rw [Array.getElem?_eq_none h'] at hg; cases hg
    refine ⟨_, _, rfl, hnc, hcm, h.1, fun hn => ⟨g, 0, rfl, hlt, fun j u hu => ?_⟩⟩
    rw [Nat.zero_add]
    have hj : j < n * sz := by
      rcases Nat.lt_or_ge j cs.length with h' | h'
      · rw [← h.1]; exact h'
      · rw [List.getElem?_eq_none h'] at hu; cases hu
    rw [h.cellAt j hj]; exact hu
theorem ow_grow {W w w' : World} {v : Value} {B : Nat} {e : TypeId} {sz n : Nat} {cs : List Value} (h : w.ownsRow B e sz v n cs) (hx : Ext W w) (hB : W.heap.size ≤ B) (hg : w.grownBy w' v.ownBlock) : Ext W w' :=
  Below.grown hx hg hx.size (fun k hk => Nat.le_trans hB (h.lt k hk).1)

/-- v is a slice of ints of the call's own (blocks from B on), it holds xs -/
def OwI (w : World) (B : Nat) (v : Value) (xs : List Int) : Prop := w.ownsRow B 3 1 v xs.length (xs.map (Value.int .i64))
theorem OwI.ext {w w' : World} {B : Nat} {v : Value} {xs : List Int} (h : OwI w B v xs) (hx : Ext w w') : OwI w' B v xs := ow_ext h hx
theorem OwI.shape {w : World} {B : Nat} {v : Value} {xs : List Int} (h : OwI w B v xs) : ∃ A c, v = .slice A xs.length c ∧ xs.length ≤ c ∧ c ≤ maxLen ∧ In w w.heap.size A xs := ow_shape h
theorem OwI.nil (w : World) (B : Nat) : OwI w B (.slice none 0 0) [] := World.ownsRow_nil w B _ _
theorem OwI.more {w : World} {B B' : Nat} {v : Value} {xs : List Int} (h : OwI w B v xs) (hB : B' ≤ B) : OwI w B' v xs := by
  refine ⟨h.1, ?_⟩
  rcases h.2 with hn | ⟨g, cap, cur, hv, hb, rest⟩
  · exact .inl hn
  · exact .inr ⟨g, cap, cur, hv, by omega, rest⟩
theorem OwI.at_ {w : World} {B : Nat} {v : Value} {xs : List Int} (h : OwI w B v xs) {j : Nat} (hj : j < xs.length) :
    ∃ g c, v = .slice (some ⟨g, 0, none⟩) xs.length c ∧ xs.length ≤ c ∧ B ≤ g ∧ g < w.heap.size ∧ w.cell? ⟨g, j, none⟩ = some (.int .i64 xs[j]) ∧ w.frozen? ⟨g, j, none⟩ = false := by
  rcases h.2 with ⟨_, h0⟩ | ⟨g, cap, cur, rfl, hb, hg, hnc, _⟩
  · omega
  · refine ⟨g, cap, rfl, hnc, hb, ?_, ?_, World.ownsRow.frozenAt h j⟩
    · rcases Nat.lt_or_ge g w.heap.size with h' | h'
      · exact h'
      · rw [Array.getElem?_eq_none h'] at hg; cases hg
    · rw [World.ownsRow.cellAt h j (by omega)]; simp [hj]
theorem OwI.set_ {w : World} {B g c n : Nat} {xs : List Int} (h : OwI w B (.slice (some ⟨g, 0, none⟩) n c) xs) (hn : n = xs.length) (j : Nat) (y : Int) : OwI (w.setCell ⟨g, j, none⟩ (.int .i64 y)) B (.slice (some ⟨g, 0, none⟩) n c) (xs.set j y) := by
  subst hn
  have := (World.ownsRow.stored h j (.int .i64 y)).1
  unfold OwI
  rw [List.length_set, List.map_set]
  exact this
theorem OwI.new {w : World} {B g : Nat} {xs : List Int} (h : Bk w g 3 (xs.map (Value.int .i64))) (hB : B ≤ g) (hl : xs.length ≤ maxLen) : OwI w B (.slice (some ⟨g, 0, none⟩) xs.length xs.length) xs :=
  ⟨by simp, .inr ⟨g, xs.length, _, rfl, hB, h, Nat.le_refl _, hl, by simp, List.take_of_length_le (by simp)⟩⟩

/-- append of one int -/
theorem ap_int {P : Program} (hu : P.underlying 28 = some (.slice 3)) (hif : (P.info? 3).map (fun i => (i.zero, i.size, i.bytes)) = some (some (.int .i64 0), 1, 8))
    {ops : Array Oper} {rest : List Oper} {o : Oper} {a : Act} {Q : Exit → Act → World → Prop} {w : World} (s x : Operand) (hgd : o.guard = none)
    (ho : o.op = .call { callee := .builtin .append, args := #[s, x], argTypes := #[28, 28] })
    {B : Nat} {v : Value} {xs : List Int} (hs : a.eval s = v) (hown : OwI w B v xs) {g : Nat} {y : Int} (hx : a.eval x = .slice (some ⟨g, 0, none⟩) 1 1) (hc : w.cell? ⟨g, 0, none⟩ = some (.int .i64 y))
    (hl : xs.length ≤ 4000000) (hB : B ≤ w.heap.size)
    (h : ∀ v' w', OwI w' B v' (xs ++ [y]) → w.grownBy w' v.ownBlock → (∀ W, Ext W w → W.heap.size ≤ B → Ext W w') → wpList P ops Q rest (a.put o.dst v') w') : wpList P ops Q (o :: rest) a w := by
  obtain ⟨i0, hi, hz0, hz1, hz2⟩ := info_parts hif
  refine wpList_append_own (P := P) w hgd s x 28 ho B 3 i0 (.int .i64 0) 1 8 hu hi hz0 hz1 hz2 rfl (by decide) v xs.length (xs.map (Value.int .i64)) hs hown ⟨g, 0, none⟩ 1 1 [.int .i64 y] hx rfl ?_ ?_ ?_ ?_ hB ?_
  · intro j u hj
    match j, hj with
    | 0, hj => simp at hj; subst hj; simpa [Addr.add] using hc
  · intro u hu; simp at hu; subst hu; rfl
  · unfold maxLen; omega
  · omega
  · intro v' w' h1 h2 _
    refine h v' w' ?_ h2 (fun W hW hWB => ow_grow hown hW hWB h2)
    unfold OwI
    simpa using h1

/-! ### bits -/
def shr' (x : Int) (k : Nat) : Int := x.fdiv (2 ^ min k 64)
def shl' (x : Int) (k : Nat) : Int := IntKind.i64.wrap (x * 2 ^ min k 64)
def and' (x y : Int) : Int := bits .and .i64 x y
def or' (x y : Int) : Int := bits .or .i64 x y
theorem shr_run (P : Program) (t : TypeId) (x : Int) (k : Nat) (w : World) : (binOp .shr t (.int .i64 x) (.int .i64 (k : Int))).run P w = .ok (.int .i64 (shr' x k)) w := by
  have : ¬ (k : Int) < 0 := by omega
  show (Op.shift .shr .i64 x .i64 (k : Int)).run P w = _
  unfold Op.shift
  rw [if_neg this]
  rfl
theorem shl_run (P : Program) (t : TypeId) (x : Int) (k : Nat) (w : World) : (binOp .shl t (.int .i64 x) (.int .i64 (k : Int))).run P w = .ok (.int .i64 (shl' x k)) w := by
  have : ¬ (k : Int) < 0 := by omega
  show (Op.shift .shl .i64 x .i64 (k : Int)).run P w = _
  unfold Op.shift
  rw [if_neg this]
  rfl
theorem and_run (P : Program) (t : TypeId) (x y : Int) (w : World) : (binOp .and t (.int .i64 x) (.int .i64 y)).run P w = .ok (.int .i64 (and' x y)) w := rfl
theorem or_run (P : Program) (t : TypeId) (x y : Int) (w : World) : (binOp .or t (.int .i64 x) (.int .i64 y)).run P w = .ok (.int .i64 (or' x y)) w := rfl
theorem ofInt_64 (a : Nat) (ha : a < 2 ^ 63) : (BitVec.ofInt 64 (a : Int)).toNat = a := by
  rw [BitVec.ofInt_natCast, BitVec.toNat_ofNat]; exact Nat.mod_eq_of_lt (by omega)
theorem and_nat (a b : Nat) (ha : a < 2 ^ 63) (hb : b < 2 ^ 63) : and' (a : Int) (b : Int) = ((a &&& b : Nat) : Int) := by
  have hx : a &&& b < 2 ^ 63 := Nat.and_lt_two_pow _ hb
  show IntKind.i64.wrap ((BitVec.ofInt 64 (a : Int) &&& BitVec.ofInt 64 (b : Int)).toNat : Int) = _
  rw [BitVec.toNat_and, ofInt_64 a ha, ofInt_64 b hb, IntKind.wrap_i64]
  omega
theorem or_nat (a b : Nat) (ha : a < 2 ^ 63) (hb : b < 2 ^ 63) : or' (a : Int) (b : Int) = ((a ||| b : Nat) : Int) := by
  have hx : a ||| b < 2 ^ 63 := Nat.or_lt_two_pow ha hb
  show IntKind.i64.wrap ((BitVec.ofInt 64 (a : Int) ||| BitVec.ofInt 64 (b : Int)).toNat : Int) = _
  rw [BitVec.toNat_or, ofInt_64 a ha, ofInt_64 b hb, IntKind.wrap_i64]
  omega
theorem shr_nat (S k : Nat) (hk : k ≤ 64) : shr' (S : Int) k = ((S >>> k : Nat) : Int) := by
  unfold shr'
  rw [Nat.min_eq_left hk, Nat.shiftRight_eq_div_pow, Int.fdiv_eq_ediv_of_nonneg _ (by exact_mod_cast Nat.zero_le _)]
  norm_cast
theorem shl_nat (k : Nat) (hk : k ≤ 62) : shl' 1 k = ((2 ^ k : Nat) : Int) := by
  unfold shl'
  rw [Nat.min_eq_left (by omega), IntKind.wrap_i64]
  have h : 2 ^ k ≤ 2 ^ 62 := Nat.pow_le_pow_right (by omega) hk
  have e : (1 : Int) * 2 ^ k = ((2 ^ k : Nat) : Int) := by norm_cast; omega
  rw [e]
  generalize 2 ^ k = m at *
  omega
/-- a bit that stands | does not stand -/
theorem bit_is (S k : Nat) (hS : S < 2 ^ 63) (hk : k ≤ 64) : and' (shr' (S : Int) k) 1 = if S.testBit k = true then 1 else 0 := by
  have h1 : S >>> k < 2 ^ 63 := Nat.lt_of_le_of_lt (Nat.shiftRight_le S k) hS
  rw [shr_nat S k hk]
  have := and_nat (S >>> k) 1 h1 (by omega)
  rw [show (1 : Int) = ((1 : Nat) : Int) from rfl, this]
  rw [Nat.and_one_is_mod]
  have hb : S.testBit k = decide ((S >>> k) % 2 = 1) := by
    rw [Nat.testBit_eq_decide_div_mod_eq, Nat.shiftRight_eq_div_pow]
  rw [hb]
  by_cases h : (S >>> k) % 2 = 1
  · simp [h]
  · have : (S >>> k) % 2 = 0 := by omega
    simp [this]
theorem or3_nat (S f t : Nat) (hS : S < 2 ^ 62) (hf : f < 62) (ht : t < 62) : or' (S : Int) (or' (shl' 1 f) (shl' 1 t)) = ((S ||| (2 ^ f ||| 2 ^ t) : Nat) : Int) := by
  have h1 : 2 ^ f < 2 ^ 63 := Nat.pow_lt_pow_right (by omega) (by omega)
  have h2 : 2 ^ t < 2 ^ 63 := Nat.pow_lt_pow_right (by omega) (by omega)
  rw [shl_nat f (by omega), shl_nat t (by omega), or_nat _ _ h1 h2, or_nat _ _ (by omega) (Nat.or_lt_two_pow h1 h2)]
end Go.Proofs.YtdhmjhoaegdfjaaGreat

namespace Go.Proofs.YtdhmjhoaegdfjaaGreat
open Go.RowKit

theorem infoI4 : (Tryz.prog.info? 3).map (fun i => (i.zero, i.size, i.bytes)) = some (some (.int .i64 0), 1, 8) := by kernel_rfl

/-- v holds rows cs of type e of the call's own: from block B on, or (no room at all) from block B0 on. -/
def OwZ (w : World) (B0 B : Nat) (e : TypeId) (sz : Nat) (v : Value) (n : Nat) (cs : List Value) : Prop :=
  w.ownsRow B e sz v n cs ∨ (n = 0 ∧ w.ownsRow B0 e sz v 0 [] ∧ cs = [] ∧ ∃ a, v = .slice (some a) 0 0)
section
variable {w w' : World} {B0 B : Nat} {e : TypeId} {sz n : Nat} {v : Value} {cs : List Value}
theorem OwZ.ext (h : OwZ w B0 B e sz v n cs) (hx : Ext w w') : OwZ w' B0 B e sz v n cs := h.imp (fun h => ow_ext h hx) (fun ⟨h1, h2, h3, h4⟩ => ⟨h1, ow_ext h2 hx, h3, h4⟩)
theorem ow_more {B' : Nat} (h : w.ownsRow B e sz v n cs) (hB : B' ≤ B) : w.ownsRow B' e sz v n cs := by
  refine ⟨h.1, ?_⟩
  rcases h.2 with hn | ⟨g, cap, cur, hv, hb, rest⟩
  · exact .inl hn
  · exact .inr ⟨g, cap, cur, hv, by omega, rest⟩
theorem OwZ.own (h : OwZ w B0 B e sz v n cs) (hB : B0 ≤ B) : w.ownsRow B0 e sz v n cs := by
  rcases h with h | ⟨rfl, h, rfl, _⟩
  · exact ow_more h hB
  · exact h
theorem OwZ.zero (g : Nat) (hB : B0 ≤ g) (hg : g = w.heap.size) : OwZ (w.alloc (.cells #[] e)) B0 B e sz (.slice (some ⟨g, 0, none⟩) 0 0) 0 [] :=
  .inr ⟨rfl, ⟨by simp, .inr ⟨g, 0, _, rfl, hB, heap_new _ hg, Nat.le_refl _, by simp, by simp, by simp⟩⟩, rfl, _, rfl⟩
theorem OwZ.of (h : w.ownsRow B e sz v n cs) : OwZ w B0 B e sz v n cs := .inl h
theorem OwZ.up {B' : Nat} (h : OwZ w B0 B e sz v n cs) (h0 : n = 0) (hv : ∃ a, v = .slice (some a) 0 0) (hB : B0 ≤ B) : OwZ w B0 B' e sz v n cs := by
  have hc := h.own hB
  subst h0
  have : cs = [] := by have := hc.1; simpa using this
  subst this
  exact .inr ⟨rfl, hc, rfl, hv⟩
end

theorem run_append_zero {P : Program} (w : World) (t ty e : TypeId) (i : TypeInfo) (z : Value) (ht : P.underlying t = some (.slice e)) (hi : P.info? e = some i) (hz : i.zero = some z)
    (b a : Addr) (n c : Nat) (news : List Value) (hl : news.length = n * i.size) (hnews : ∀ j v, news[j]? = some v → w.cell? (a.add j) = some v)
    (h0 : 0 < n) (h63 : (n : Int) ≤ 9223372036854775807) (h48 : n * i.bytes ≤ 281474976710656) :
    (Builtin.append_ #[t, t] ty #[.slice (some b) 0 0, .slice (some a) n c]).run P w = (Builtin.append_ #[t, t] ty #[.slice none 0 0, .slice (some a) n c]).run P w := by
  rw [run_append_nil (P := P) w t ty e i z ht hi hz a n c news hl hnews h0 h63 h48,
    run_append_grow (P := P) w t ty e i z ht hi hz b 0 0 [] (by simp) (fun j v h => by simp at h) a n c news hl hnews (by omega) (by simpa using h63) (by rw [Nat.zero_add, nextslicecap_zero h0]; exact h48)]
  simp

/-- append of one element of sz cells -/
theorem az_gen {P : Program} (t e : TypeId) (z : Value) (sz bytes : Nat) (hu : P.underlying t = some (.slice e)) (hif : (P.info? e).map (fun i => (i.zero, i.size, i.bytes)) = some (some z, sz, bytes))
    (hzs : z.cells.size = sz) (hsz : 0 < sz) (hby : bytes ≤ 1000)
    {ops : Array Oper} {rest : List Oper} {o : Oper} {a : Act} {Q : Exit → Act → World → Prop} {w : World} (s x : Operand) (hgd : o.guard = none)
    (ho : o.op = .call { callee := .builtin .append, args := #[s, x], argTypes := #[t, t] })
    {B0 B : Nat} {v : Value} {n : Nat} {cs : List Value} (hs : a.eval s = v) (hown : OwZ w B0 B e sz v n cs) {g : Nat} {news : List Value} (hx : a.eval x = .slice (some ⟨g, 0, none⟩) 1 1)
    (hl : news.length = sz) (hc : ∀ j u, news[j]? = some u → w.cell? ⟨g, j, none⟩ = some u) (h1 : ∀ u ∈ news, u.oneCell' = true)
    (hn : n ≤ 4000000) (hB : B ≤ w.heap.size)
    (h : ∀ v' w', w'.ownsRow B e sz v' (n + 1) (cs ++ news) → (∀ W, Ext W w → W.heap.size ≤ B → Ext W w') → (∀ g c, v = .slice (some g) n c → n < c → v' = .slice (some g) (n + 1) c) → (∃ r, w.grownBy w' r ∧ ∀ q, r = some q → B ≤ q) → wpList P ops Q rest (a.put o.dst v') w') : wpList P ops Q (o :: rest) a w := by
  obtain ⟨i0, hi, hz0, hz1, hz2⟩ := info_parts hif
  have hnews : ∀ j u, news[j]? = some u → w.cell? ((⟨g, 0, none⟩ : Addr).add j) = some u := fun j u hj => by
    have e : (⟨g, 0, none⟩ : Addr).add j = ⟨g, j, none⟩ := by unfold Addr.add; split <;> simp_all
    rw [e]; exact hc j u hj
  have hbb : (n + 1) * bytes ≤ 140737488355328 := by
    have : (n + 1) * bytes ≤ 4000001 * 1000 := Nat.mul_le_mul (by omega) hby
    omega
  have key : ∃ v' w', (Builtin.append_ #[t, t] o.type #[v, .slice (some ⟨g, 0, none⟩) 1 1]).run P w = .ok v' w' ∧ w'.ownsRow B e sz v' (n + 1) (cs ++ news) ∧ (∀ W, Ext W w → W.heap.size ≤ B → Ext W w') ∧
      (∀ g c, v = .slice (some g) n c → n < c → v' = .slice (some g) (n + 1) c) ∧ (∃ r, w.grownBy w' r ∧ ∀ q, r = some q → B ≤ q) := by
    rcases hown with hown | ⟨rfl, -, rfl, b, rfl⟩
    · obtain ⟨v', w', hr, h2, h3, _⟩ := run_append_own (P := P) w B t o.type e i0 z sz bytes hu hi hz0 hz1 hz2 hzs hsz v n cs hown ⟨g, 0, none⟩ 1 1 news (by omega) hnews h1 (by unfold maxLen; omega) hbb hB
      refine ⟨v', w', hr, h2, fun W hW hWB => ow_grow hown hW hWB h3, ?_, v.ownBlock, h3, fun q hq => (hown.lt q hq).1⟩
      rintro b c rfl hlt
      rcases hown.2 with ⟨h', _⟩ | ⟨g', cap, cur, hv, hbg, hg, hnc, hcm, hcs, htake⟩
      · simp at h'
      · injection hv with hv1 hv2 hv3
        injection hv1 with hv1
        subst hv1
        subst hv3
        have hrm := run_append_room (P := P) w t o.type e i0 hu hi g' n c cur hg ⟨g, 0, none⟩ 1 1 news (by omega) hnews h1 hlt
          (by rw [hl, hcs, hz1, ← Nat.succ_mul]; exact Nat.mul_le_mul_right _ hlt)
        rw [hrm] at hr
        injection hr with hr1 _
        exact hr1.symm
    · obtain ⟨v', w', hr, h2, h3, _⟩ := run_append_own (P := P) w B t o.type e i0 z sz bytes hu hi hz0 hz1 hz2 hzs hsz (.slice none 0 0) 0 [] (World.ownsRow_nil w B _ _) ⟨g, 0, none⟩ 1 1 news (by omega) hnews h1 (by unfold maxLen; omega) hbb hB
      rw [← run_append_zero (P := P) w t o.type e i0 z hu hi hz0 b ⟨g, 0, none⟩ 1 1 news (by omega) hnews (by omega) (by omega) (by omega)] at hr
      exact ⟨v', w', hr, h2, fun W hW hWB => ow_grow (World.ownsRow_nil w B e sz) hW hWB h3, fun g c hg hc => by injection hg with _ _ h3; omega, _, h3, fun q hq => by simp [Value.ownBlock] at hq⟩
  obtain ⟨v', w', hr, h2, h3, h4, h5⟩ := key
  refine wpList_plain hgd fun _ hK => ?_
  unfold Oper.wp execOp
  simp only [ho, resolve, invoke, builtin, Sem.run_bind, Sem.run_pure, Result.andThen_ok, List.map_toArray, List.map_cons, List.map_nil, hs, hx, hr]
  exact hK _ _ (h v' w' h2 h3 h4 h5)

/-- v holds the ints xs -/
def OzI (w : World) (B0 B : Nat) (v : Value) (xs : List Int) : Prop := OwZ w B0 B 3 1 v xs.length (xs.map (Value.int .i64))
theorem OzI.ext {w w' : World} {B0 B : Nat} {v : Value} {xs : List Int} (h : OzI w B0 B v xs) (hx : Ext w w') : OzI w' B0 B v xs := OwZ.ext h hx
theorem OzI.own {w : World} {B0 B : Nat} {v : Value} {xs : List Int} (h : OzI w B0 B v xs) (hB : B0 ≤ B) : OwI w B0 v xs := OwZ.own h hB
theorem OzI.up {w : World} {B0 B B' : Nat} {v : Value} {xs : List Int} (h : OzI w B0 B v xs) (h0 : xs = []) (hv : ∃ a, v = .slice (some a) 0 0) (hB : B0 ≤ B) : OzI w B0 B' v xs := OwZ.up h (by rw [h0]; rfl) hv hB
theorem OzI.of {w : World} {B0 B : Nat} {v : Value} {xs : List Int} (h : OwI w B v xs) : OzI w B0 B v xs := OwZ.of h
theorem OzI.zero {w : World} {B0 B : Nat} (g : Nat) (hB : B0 ≤ g) (hg : g = w.heap.size) : OzI (w.alloc (.cells #[] 3)) B0 B (.slice (some ⟨g, 0, none⟩) 0 0) [] := OwZ.zero g hB hg
theorem OzI.shape {w : World} {B0 B n : Nat} {v : Value} {xs : List Int} (h : OzI w B0 B v xs) (hn : xs.length = n) : ∃ A c, v = .slice A n c := by
  subst hn
  rcases h with h | ⟨h0, _, _, a, h⟩
  · obtain ⟨A, c, e, _⟩ := ow_shape h
    exact ⟨A, c, e⟩
  · exact ⟨some a, 0, by rw [h, h0]⟩
theorem az_int {ops : Array Oper} {rest : List Oper} {o : Oper} {a : Act} {Q : Exit → Act → World → Prop} {w : World} (s x : Operand) (hgd : o.guard = none)
    (ho : o.op = .call { callee := .builtin .append, args := #[s, x], argTypes := #[28, 28] })
    {B0 B : Nat} {v : Value} {xs : List Int} (hs : a.eval s = v) (hown : OzI w B0 B v xs) {g : Nat} {y : Int} (hx : a.eval x = .slice (some ⟨g, 0, none⟩) 1 1) (hc : w.cell? ⟨g, 0, none⟩ = some (.int .i64 y))
    (hl : xs.length ≤ 4000000) (hB : B ≤ w.heap.size)
    (h : ∀ v' w', OzI w' B0 B v' (xs ++ [y]) → (∀ W, Ext W w → W.heap.size ≤ B → Ext W w') → wpList Tryz.prog ops Q rest (a.put o.dst v') w') : wpList Tryz.prog ops Q (o :: rest) a w := by
  refine az_gen 28 3 (.int .i64 0) 1 8 Tryz.underlying28 infoI4 rfl (by omega) (by omega) s x hgd ho hs hown (news := [.int .i64 y]) hx rfl ?_ ?_ hl hB ?_
  · intro j u hj
    match j, hj with
    | 0, hj => simp at hj; subst hj; exact hc
  · intro u hu; simp at hu; subst hu; rfl
  · intro v' w' h2 h3 _ _
    refine h v' w' (.inl ?_) h3
    simpa using h2
theorem az_int2 {ops : Array Oper} {rest : List Oper} {o : Oper} {a : Act} {Q : Exit → Act → World → Prop} {w : World} (s x : Operand) (hgd : o.guard = none)
    (ho : o.op = .call { callee := .builtin .append, args := #[s, x], argTypes := #[28, 28] })
    {B0 B : Nat} {v : Value} {xs : List Int} (hs : a.eval s = v) (hown : OzI w B0 B v xs) {g : Nat} {y : Int} (hx : a.eval x = .slice (some ⟨g, 0, none⟩) 1 1) (hc : w.cell? ⟨g, 0, none⟩ = some (.int .i64 y))
    (hl : xs.length ≤ 4000000) (hB : B ≤ w.heap.size)
    (h : ∀ v' w', OwI w' B v' (xs ++ [y]) → (∀ W, Ext W w → W.heap.size ≤ B → Ext W w') → wpList Tryz.prog ops Q rest (a.put o.dst v') w') : wpList Tryz.prog ops Q (o :: rest) a w := by
  refine az_gen 28 3 (.int .i64 0) 1 8 Tryz.underlying28 infoI4 rfl (by omega) (by omega) s x hgd ho hs hown (news := [.int .i64 y]) hx rfl ?_ ?_ hl hB ?_
  · intro j u hj
    match j, hj with
    | 0, hj => simp at hj; subst hj; exact hc
  · intro u hu; simp at hu; subst hu; rfl
  · intro v' w' h2 h3 _ _
    refine h v' w' ?_ h3
    unfold OwI
    simpa using h2
theorem az_int3 {ops : Array Oper} {rest : List Oper} {o : Oper} {a : Act} {Q : Exit → Act → World → Prop} {w : World} (s x : Operand) (hgd : o.guard = none)
    (ho : o.op = .call { callee := .builtin .append, args := #[s, x], argTypes := #[28, 28] })
    {B0 B : Nat} {v : Value} {xs : List Int} (hs : a.eval s = v) (hown : OzI w B0 B v xs) {g : Nat} {y : Int} (hx : a.eval x = .slice (some ⟨g, 0, none⟩) 1 1) (hc : w.cell? ⟨g, 0, none⟩ = some (.int .i64 y))
    (hl : xs.length ≤ 4000000) (hB : B ≤ w.heap.size)
    (h : ∀ v' w' r, OwI w' B v' (xs ++ [y]) → (∀ W, Ext W w → W.heap.size ≤ B → Ext W w') → w.grownBy w' r → (∀ q, r = some q → B ≤ q) → wpList Tryz.prog ops Q rest (a.put o.dst v') w') : wpList Tryz.prog ops Q (o :: rest) a w := by
  refine az_gen 28 3 (.int .i64 0) 1 8 Tryz.underlying28 infoI4 rfl (by omega) (by omega) s x hgd ho hs hown (news := [.int .i64 y]) hx rfl ?_ ?_ hl hB ?_
  · intro j u hj
    match j, hj with
    | 0, hj => simp at hj; subst hj; exact hc
  · intro u hu; simp at hu; subst hu; rfl
  · rintro v' w' h2 h3 _ ⟨r, h4, h5⟩
    refine h v' w' r ?_ h3 h4 h5
    unfold OwI
    simpa using h2
/-- the numbers below j with p -/
def flt (p : Nat → Bool) (j : Nat) : List Int := ((List.range j).filter p).map (fun i : Nat => (i : Int))
theorem flt_zero (p : Nat → Bool) : flt p 0 = [] := rfl
theorem flt_yes {p : Nat → Bool} {j : Nat} (h : p j = true) : flt p (j + 1) = flt p j ++ [(j : Int)] := by
  unfold flt
  rw [List.range_succ, List.filter_append]
  simp [h]
theorem flt_no {p : Nat → Bool} {j : Nat} (h : p j = false) : flt p (j + 1) = flt p j := by
  unfold flt
  rw [List.range_succ, List.filter_append]
  simp [h]
theorem flt_len (p : Nat → Bool) (j : Nat) : (flt p j).length ≤ j := by
  unfold flt
  rw [List.length_map]
  have := List.length_filter_le p (List.range j)
  rwa [List.length_range] at this
theorem flt_none {p : Nat → Bool} {j : Nat} (h : ∀ i, i < j → p i = false) : flt p j = [] := by
  unfold flt
  rw [List.map_eq_nil_iff, List.filter_eq_nil_iff]
  intro i hi
  rw [h i (List.mem_range.1 hi)]
  simp
theorem flt_congr {p q : Nat → Bool} {j : Nat} (h : ∀ i, i < j → p i = q i) : flt p j = flt q j := by
  unfold flt
  rw [List.filter_congr (fun i hi => h i (List.mem_range.1 hi))]
theorem flt_mem {p : Nat → Bool} {j : Nat} {x : Int} : x ∈ flt p j ↔ ∃ i : Nat, x = i ∧ i < j ∧ p i = true := by
  unfold flt
  simp only [List.mem_map, List.mem_filter, List.mem_range]
  exact ⟨fun ⟨i, ⟨h1, h2⟩, h3⟩ => ⟨i, h3.symm, h1, h2⟩, fun ⟨i, h3, h1, h2⟩ => ⟨i, ⟨h1, h2⟩, h3.symm⟩⟩
end Go.Proofs.YtdhmjhoaegdfjaaGreat
