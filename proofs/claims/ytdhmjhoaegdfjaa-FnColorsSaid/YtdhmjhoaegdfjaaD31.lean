import Derived.Test.YtdhmjhoaegdfjaaD30
import Derived.Test.YtdhmjhoaegdfjaaD18
namespace Go.Proofs.Ytdhmjhoaegdfjaa
open Go.RowKit Go.Sort Go.BigFrame

theorem run_nil_int (w : World) (ty : TypeId) {B : Nat} {v : Value} {n : Nat} {cs : List Value} (hown : w.ownsRow B 3 1 v n cs) (c : Nat) : (Builtin.append_ #[29, 29] ty #[v, .slice none 0 c]).run Try.prog w = .ok v w := by
  obtain ⟨i0, hi, hz0, hz1, hz2⟩ := info_parts infoI4
  rcases hown.2 with ⟨rfl, rfl⟩ | ⟨g, cap, cur, rfl, _, _, hnc, _⟩
  · simp [Builtin.append_, run_underlying Try.underlying29, sizeOf, typeInfo, hi, Builtin.lenOf, Builtin.firstCells]
  · simp [Builtin.append_, run_underlying Try.underlying29, sizeOf, typeInfo, hi, Builtin.lenOf, Builtin.firstCells, hnc, storeCells]

/-- append of a slice of ints onto a slice with no room -/
theorem az_ints {ops : Array Oper} {rest : List Oper} {o : Oper} {a : Act} {Q : Exit → Act → World → Prop} {w : World} (s x : Operand) (hgd : o.guard = none)
    (ho : o.op = .call { callee := .builtin .append, args := #[s, x], argTypes := #[29, 29] })
    {B : Nat} {v : Value} (hs : a.eval s = v) (hown : OwI w B v []) (hv : ∃ A0, v = .slice A0 0 0) {A : Option Addr} {n c B1 : Nat} {l : List Int} (hx : a.eval x = .slice A n c) (hn : n = l.length) (hP : In w B1 A l)
    (hl : l.length ≤ 2000000) (hB : B ≤ w.heap.size)
    (h : ∀ v' w', OwI w' B v' l → Ext w w' → wpList Try.prog ops Q rest (a.put o.dst v') w') : wpList Try.prog ops Q (o :: rest) a w := by
  subst hn
  obtain ⟨A0, rfl⟩ := hv
  obtain ⟨i0, hi, hz0, hz1, hz2⟩ := info_parts infoI4
  have hu := Try.underlying29
  have key : ∃ v' w', (Builtin.append_ #[29, 29] o.type #[.slice A0 0 0, .slice A l.length c]).run Try.prog w = .ok v' w' ∧ OwI w' B v' l ∧ Ext w w' := by
    cases A with
    | none =>
      have hl0' : l.length = 0 := by
        rcases Nat.eq_zero_or_pos l.length with h0 | h0
        · exact h0
        · obtain ⟨b, off, e, _⟩ := hP.2 h0; cases e
      have : l = [] := by simpa using hl0'
      subst this
      exact ⟨_, w, run_nil_int w o.type hown c, hown, Ext.refl _⟩
    | some ad =>
      have hcells : ∀ j u, (l.map (Value.int .i64))[j]? = some u → w.cell? (ad.add j) = some u := by
        intro j u hj
        rcases Nat.eq_zero_or_pos l.length with h0 | h0
        · have : l = [] := by simpa using h0
          subst this
          simp at hj
        · obtain ⟨b, off, e, _, hc⟩ := hP.2 h0
          have e := Option.some.inj e
          subst e
          have e2 : (⟨b, off, none⟩ : Addr).add j = ⟨b, off + j, none⟩ := by unfold Addr.add; split <;> simp_all
          rw [e2]
          exact hc j u hj
      have h1 : ∀ u ∈ l.map (Value.int .i64), u.oneCell' = true := fun u hu => by
        obtain ⟨q, _, hq⟩ := List.mem_map.1 hu
        subst hq
        rfl
      obtain ⟨v', w', hr, h2, h3, _⟩ := run_append_own (P := Try.prog) w B 29 o.type 3 i0 _ 1 8 hu hi hz0 hz1 hz2 rfl (by omega) (.slice none 0 0) 0 [] (World.ownsRow_nil w B _ _) ad l.length c (l.map (Value.int .i64)) (by simp) hcells h1 (by unfold maxLen; omega) (by omega) hB
      have hxx : Ext w w' := gb_ext2 (Ext.refl w) h3 (fun q e => by simp [Value.ownBlock] at e)
      have hP' : OwI w' B v' l := by unfold OwI; simpa using h2
      rcases Nat.eq_zero_or_pos l.length with h0 | h0
      · have : l = [] := by simpa using h0
        subst this
        cases A0 with
        | none => exact ⟨v', w', hr, hP', hxx⟩
        | some b0 =>
          rcases hown.2 with ⟨e, _⟩ | ⟨g, cap, cur, e, hbg, hg, hnc, hcm, hcs, htake⟩
          · simp at e
          · injection e with e1 e2 e3
            injection e1 with e1
            subst e1
            subst e3
            have hcur : cur = #[] := by
              apply Array.eq_empty_of_size_eq_zero
              simpa using hcs
            subst hcur
            have hrm := run_append_room (P := Try.prog) w 29 o.type 3 i0 hu hi g 0 0 #[] hg ad 0 c [] (by simp) (fun j u hj => by simp at hj) (fun u hu => by cases hu) (by omega) (by simp)
            refine ⟨_, _, hrm, ?_, ?_⟩
            · have hs := setRow_heap w g #[] ([] : List Value).toArray 3 (0, 0) hg
              exact ⟨by simp, .inr ⟨g, 0, #[], rfl, hbg, by simpa using hs, by simp, by simp, by simp, by simp⟩⟩
            · refine ⟨rfl, rfl, rfl, by simp [World.setRow], fun i hi => ?_⟩
              by_cases hig : i = g
              · subst hig
                have hs := setRow_heap w i #[] ([] : List Value).toArray 3 (0, 0) hg
                rw [hg]
                simpa using hs
              · exact setRow_other w g i _ hig
      · cases A0 with
        | none => exact ⟨v', w', hr, hP', hxx⟩
        | some b0 =>
          rw [← run_append_zero (P := Try.prog) w 29 o.type 3 i0 _ hu hi hz0 b0 ad l.length c (l.map (Value.int .i64)) (by rw [hz1]; simp) hcells h0 (by omega) (by rw [hz2]; omega)] at hr
          exact ⟨v', w', hr, hP', hxx⟩
  obtain ⟨v', w', hr, h2, h3⟩ := key
  refine wpList_plain hgd fun _ hK => ?_
  unfold Oper.wp execOp
  simp only [ho, resolve, invoke, builtin, Sem.run_bind, Sem.run_pure, Result.andThen_ok, List.map_toArray, List.map_cons, List.map_nil, hs, hx, hr]
  exact hK _ _ (h v' w' h2 h3)

set_option maxHeartbeats 1000000 in
theorem copyInts_c (X : Option Addr) (xc : Nat) (xs : List Int) (w : World) (hl : xs.length ≤ 2000000) (h : In w w.heap.size X xs) :
    Calls Try.prog 99 #[.slice X xs.length xc] w fun e w' => ∃ v, e = .returned v ∧ OwI w' w.heap.size v xs ∧ Ext w w' := by
  go_enter Try.func99, Try.ntmps99
  go_wp2_with (at_builtin; refine az_ints _ _ rfl rfl (B := w.heap.size) rfl (OwI.nil _ _) ⟨_, rfl⟩ rfl rfl h hl (Nat.le_refl _) ?_)
  intro v' w' h1 h3
  go_wp2
  go_ret
  exact ⟨_, rfl, h1, h3⟩

/-! ### the chain, as a set -/
def alw (xs : List Int) (f x : Int) (g : Nat) : Bool := gi xs (g : Nat) == gi xs f || gi xs (g : Nat) == x
def chS (ns ls : List P2) (xs : List Int) (f : Nat) (x : Int) : Nat := itC (nbN ns ls) (alw xs f x) xs.length f xs.length
theorem pasC_yes {N : Nat → Nat} {al : Nat → Bool} {S g : Nat} (h : al g = true) (h2 : N g &&& pasC N al S g ≠ 0) : pasC N al S (g + 1) = pasC N al S g ||| 2 ^ g := if_pos ⟨h, h2⟩
theorem pasC_no1 {N : Nat → Nat} {al : Nat → Bool} {S g : Nat} (h : al g = false) : pasC N al S (g + 1) = pasC N al S g := if_neg (fun e => by rw [h] at e; exact absurd e.1 (by decide))
theorem pasC_no2 {N : Nat → Nat} {al : Nat → Bool} {S g : Nat} (h2 : N g &&& pasC N al S g = 0) : pasC N al S (g + 1) = pasC N al S g := if_neg (fun e => e.2 h2)

def vChainOf (ns ls : List P2) (xs : List Int) (f x : Int) : List Int := if vAreProper ns ls xs = true ∧ wi f 0 (xs.length - 1) = true ∧ wi x 0 5 = true then bitsL (chS ns ls xs f.toNat x) xs.length else []
theorem proper_ok {ns ls : List P2} {xs : List Int} (h : vAreProper ns ls xs = true) : whole ns ls = true ∧ xs.length = (vFaces ns ls).length := by
  simp only [vAreProper, Bool.and_eq_true] at h
  exact colors_ok h.1
theorem vChainOf_len (ns ls : List P2) (xs : List Int) (f x : Int) : (vChainOf ns ls xs f x).length ≤ 1000 := by
  unfold vChainOf
  split
  · rename_i h
    have h1 := (proper_ok h.1).2
    have h2 := vFaces_len ns ls
    have := bitsL_len (chS ns ls xs f.toNat x) xs.length
    omega
  · simp
theorem bitsL_mem {S n i : Nat} (hi : i < n) (h : S.testBit i = true) : (i : Int) ∈ bitsL S n := by
  unfold bitsL
  exact List.mem_map.2 ⟨i, List.mem_filter.2 ⟨List.mem_range.2 hi, h⟩, rfl⟩
theorem chS_pos {ns ls : List P2} {xs : List Int} {f : Nat} {x : Int} (hf : f < xs.length) : 0 < (bitsL (chS ns ls xs f x) xs.length).length := List.length_pos_of_mem (bitsL_mem hf (itC_self _))
theorem chS_lt {ns ls : List P2} {xs : List Int} {f : Nat} {x : Int} (hf : f < xs.length) : chS ns ls xs f x < 2 ^ xs.length := itC_lt hf _

end Go.Proofs.Ytdhmjhoaegdfjaa
