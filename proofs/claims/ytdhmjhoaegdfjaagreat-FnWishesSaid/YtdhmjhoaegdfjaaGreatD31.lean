import Derived.Test.YtdhmjhoaegdfjaaGreatD30
import Derived.Test.YtdhmjhoaegdfjaaGreatD18
namespace Go.Proofs.YtdhmjhoaegdfjaaGreat
open Go.RowKit Go.Sort Go.BigFrame

theorem run_nil_int (w : World) (ty : TypeId) {B : Nat} {v : Value} {n : Nat} {cs : List Value} (hown : w.ownsRow B 3 1 v n cs) (c : Nat) : (Builtin.append_ #[28, 28] ty #[v, .slice none 0 c]).run Tryz.prog w = .ok v w := by
  obtain ⟨i0, hi, hz0, hz1, hz2⟩ := info_parts infoI4
  rcases hown.2 with ⟨rfl, rfl⟩ | ⟨g, cap, cur, rfl, _, _, hnc, _⟩
  · simp [Builtin.append_, run_underlying Tryz.underlying28, sizeOf, typeInfo, hi, Builtin.lenOf, Builtin.firstCells]
  · simp [Builtin.append_, run_underlying Tryz.underlying28, sizeOf, typeInfo, hi, Builtin.lenOf, Builtin.firstCells, hnc, storeCells]

/-- append of a slice of ints onto a slice with no room -/
theorem az_ints {ops : Array Oper} {rest : List Oper} {o : Oper} {a : Act} {Q : Exit → Act → World → Prop} {w : World} (s x : Operand) (hgd : o.guard = none)
    (ho : o.op = .call { callee := .builtin .append, args := #[s, x], argTypes := #[28, 28] })
    {B : Nat} {v : Value} (hs : a.eval s = v) (hown : OwI w B v []) (hv : ∃ A0, v = .slice A0 0 0) {A : Option Addr} {n c B1 : Nat} {l : List Int} (hx : a.eval x = .slice A n c) (hn : n = l.length) (hP : In w B1 A l)
    (hl : l.length ≤ 2000000) (hB : B ≤ w.heap.size)
    (h : ∀ v' w', OwI w' B v' l → Ext w w' → wpList Tryz.prog ops Q rest (a.put o.dst v') w') : wpList Tryz.prog ops Q (o :: rest) a w := by
  subst hn
  obtain ⟨A0, rfl⟩ := hv
  obtain ⟨i0, hi, hz0, hz1, hz2⟩ := info_parts infoI4
  have hu := Tryz.underlying28
  have key : ∃ v' w', (Builtin.append_ #[28, 28] o.type #[.slice A0 0 0, .slice A l.length c]).run Tryz.prog w = .ok v' w' ∧ OwI w' B v' l ∧ Ext w w' := by
    cases A with
    | none =>
      have hl0' : l.length = 0 := by
        rcases Nat.eq_zero_or_pos l.length with h0 | h0
        · exact h0
        · obtain ⟨b, off, e, _⟩ := hP.2 h0; cases e
      have : l = [] := by simpa using hl0'
      subst this
      exact ⟨_, w, run_nil_int w o.type hown c, hown, Ext.refl _⟩
    | some ad =>
      have hcells : ∀ j u, (l.map (Value.int .i64))[j]? = some u → w.cell? (ad.add j) = some u := by
        intro j u hj
        rcases Nat.eq_zero_or_pos l.length with h0 | h0
        · have : l = [] := by simpa using h0
          subst this
          simp at hj
        · obtain ⟨b, off, e, _, hc⟩ := hP.2 h0
          have e := Option.some.inj e
          subst e
          have e2 : (⟨b, off, none⟩ : Addr).add j = ⟨b, off + j, none⟩ := by unfold Addr.add; split <;> simp_all
          rw [e2]
          exact hc j u hj
      have h1 : ∀ u ∈ l.map (Value.int .i64), u.oneCell' = true := fun u hu => by
        obtain ⟨q, _, hq⟩ := List.mem_map.1 hu
        subst hq
        rfl
      obtain ⟨v', w', hr, h2, h3, _⟩ := run_append_own (P := Tryz.prog) w B 28 o.type 3 i0 _ 1 8 hu hi hz0 hz1 hz2 rfl (by omega) (.slice none 0 0) 0 [] (World.ownsRow_nil w B _ _) ad l.length c (l.map (Value.int .i64)) (by simp) hcells h1 (by unfold maxLen; omega) (by omega) hB
      have hxx : Ext w w' := gb_ext2 (Ext.refl w) h3 (fun q e => by simp [Value.ownBlock] at e)
      have hP' : OwI w' B v' l := by unfold OwI; simpa using h2
      rcases Nat.eq_zero_or_pos l.length with h0 | h0
      · have : l = [] := by simpa using h0
        subst this
        cases A0 with
        | none => exact ⟨v', w', hr, hP', hxx⟩
        | some b0 =>
          rcases hown.2 with ⟨e, _⟩ | ⟨g, cap, cur, e, hbg, hg, hnc, hcm, hcs, htake⟩
          · simp at e
          · injection e with e1 e2 e3
            injection e1 with e1
            subst e1
            subst e3
            have hcur : cur = #[] := by
              apply Array.eq_empty_of_size_eq_zero
              simpa using hcs
            subst hcur
            have hrm := run_append_room (P := Tryz.prog) w 28 o.type 3 i0 hu hi g 0 0 #[] hg ad 0 c [] (by simp) (fun j u hj => by simp at hj) (fun u hu => by cases hu) (by omega) (by simp)
            refine ⟨_, _, hrm, ?_, ?_⟩
            · have hs := setRow_heap w g #[] ([] : List Value).toArray 3 (0, 0) hg
              exact ⟨by simp, .inr ⟨g, 0, #[], rfl, hbg, by simpa using hs, by simp, by simp, by simp, by simp⟩⟩
            · refine ⟨rfl, rfl, rfl, by simp [World.setRow], fun i hi => ?_⟩
              by_cases hig : i = g
              · subst hig
                have hs := setRow_heap w i #[] ([] : List Value).toArray 3 (0, 0) hg
                rw [hg]
                simpa using hs
              · exact setRow_other w g i _ hig
      · cases A0 with
        | none => exact ⟨v', w', hr, hP', hxx⟩
        | some b0 =>
          rw [← run_append_zero (P := Tryz.prog) w 28 o.type 3 i0 _ hu hi hz0 b0 ad l.length c (l.map (Value.int .i64)) (by rw [hz1]; simp) hcells h0 (by omega) (by rw [hz2]; omega)] at hr
          exact ⟨v', w', hr, hP', hxx⟩
  obtain ⟨v', w', hr, h2, h3⟩ := key
  refine wpList_plain hgd fun _ hK => ?_
  unfold Oper.wp execOp
  simp only [ho, resolve, invoke, builtin, Sem.run_bind, Sem.run_pure, Result.andThen_ok, List.map_toArray, List.map_cons, List.map_nil, hs, hx, hr]
  exact hK _ _ (h v' w' h2 h3)

set_option maxHeartbeats 1000000 in
theorem copyInts_c (X : Option Addr) (xc : Nat) (xs : List Int) (w : World) (hl : xs.length ≤ 2000000) (h : In w w.heap.size X xs) :
    Calls Tryz.prog 34 #[.slice X xs.length xc] w fun e w' => ∃ v, e = .returned v ∧ OwI w' w.heap.size v xs ∧ Ext w w' := by
  go_enter Tryz.func34, Tryz.ntmps34
  go_wp2_with (at_builtin; refine az_ints _ _ rfl rfl (B := w.heap.size) rfl (OwI.nil _ _) ⟨_, rfl⟩ rfl rfl h hl (Nat.le_refl _) ?_)
  intro v' w' h1 h3
  go_wp2
  go_ret
  exact ⟨_, rfl, h1, h3⟩

/-! ### the chain, as a set -/
def alw (xs : List Int) (f x : Int) (g : Nat) : Bool := gi xs (g : Nat) == gi xs f || gi xs (g : Nat) == x
def chS (ns ls : List P2) (xs : List Int) (f : Nat) (x : Int) : Nat := itC (nbN ns ls) (alw xs f x) xs.length f xs.length
theorem pasC_yes {N : Nat → Nat} {al : Nat → Bool} {S g : Nat} (h : al g = true) (h2 : N g &&& pasC N al S g ≠ 0) : pasC N al S (g + 1) = pasC N al S g ||| 2 ^ g := if_pos ⟨h, h2⟩
theorem pasC_no1 {N : Nat → Nat} {al : Nat → Bool} {S g : Nat} (h : al g = false) : pasC N al S (g + 1) = pasC N al S g := if_neg (fun e => by rw [h] at e; exact absurd e.1 (by decide))
theorem pasC_no2 {N : Nat → Nat} {al : Nat → Bool} {S g : Nat} (h2 : N g &&& pasC N al S g = 0) : pasC N al S (g + 1) = pasC N al S g := if_neg (fun e => e.2 h2)

set_option maxRecDepth 100000 in
set_option maxHeartbeats 4000000 in
theorem chain_i (A B : Option Addr) (c d : Nat) (ns ls : List P2) (X : Option Addr) (xc : Nat) (xs : List Int) (f : Nat) (x : Int) (w : World) (h : Wn w A c B d ns ls) (hX : In w w.heap.size X xs) (hw : whole ns ls = true) (hxl : xs.length = (vFaces ns ls).length) (hf : f < xs.length) :
    Calls Tryz.prog 46 #[.agg #[.slice A ns.length c, .slice B ls.length d], .slice X xs.length xc, .int .i64 (f : Int), .int .i64 x] w fun e w' => e = .returned (.int .i64 (chS ns ls xs f x : Nat)) ∧ Ext w w' := by
  have HV : Hid (chS ns ls xs f x = itC (nbN ns ls) (alw xs f x) xs.length f xs.length) := Lib.hid rfl
  have hFl := vFaces_len ns ls
  have HNB := Lib.hid (nbN_lt hw)
  have HZL := Lib.hid (vNb_len ns ls)
  have HZA : Hid (∀ f, f < (vFaces ns ls).length → gi (vNb ns ls) (f : Nat) = (nbN ns ls f : Nat)) := Lib.hid (fun f hf => vNb_at hf)
  have HWW := Lib.hid hw
  clear hw
  go_enter Tryz.func46, Tryz.ntmps46
  go_wp2_with fail
  have k0 : (w.alloc (.cells #[.slice A ns.length c, .slice B ls.length d] 27)).cell? ⟨w.heap.size, 0, none⟩ = some (.slice A ns.length c) := by go_simp
  have k1 : (w.alloc (.cells #[.slice A ns.length c, .slice B ls.length d] 27)).cell? ⟨w.heap.size, 1, none⟩ = some (.slice B ls.length d) := by go_simp
  have hx : Ext w (w.alloc (.cells #[.slice A ns.length c, .slice B ls.length d] 27)) := (by repeat first | exact Ext.refl _ | assumption | refine Ext.drew ?_ | refine Ext.alloc ?_ _ | refine Ext.setCell ?_ (by simp) | refine Ext.setCell ?_ (by simp; omega) | refine Ext.trans ?_ (by assumption))
  have hsz1 : w.heap.size + 1 = (w.alloc (.cells #[.slice A ns.length c, .slice B ls.length d] 27)).heap.size := by simp
  generalize (w.alloc (.cells #[.slice A ns.length c, .slice B ls.length d] 27)) = w0 at *
  (try rw [hsz1])
  refine (neighbors_c _ _ _ _ ns ls _ (h.ext hx) HWW.out).mono ?_
  rintro e w2 ⟨v, rfl, hS, hb⟩
  have k0 := hb.lit k0
  have k1 := hb.lit k1
  have hx := hx.trans hb
  clear hb
  obtain ⟨gS, cS, rfl, -, -, -, -, -⟩ := hS.gi_ (j := 0) (by rw [HZL.out]; omega)
  rw [HZL.out, ← hxl] at hS
  rw [HZL.out, ← hxl]
  rw [← hxl] at HNB HZA HZL hFl
  clear k0 k1 hxl
  have hX := hX.ext hx
  obtain ⟨b, off, rfl, hbb, x1⟩ := hX.gi_ (k := f) hf
  have hfi : (f : Int) < xs.length := by omega
  have HAL : Hid (∀ g : Nat, alw xs f x g = (gi xs (g : Nat) == gi xs f || gi xs (g : Nat) == x)) := Lib.hid (fun _ => rfl)
  have hpw := pow_w f (by omega)
  have HI0 : Hid (itC (nbN ns ls) (alw xs f x) xs.length f 0 = 2 ^ f) := Lib.hid rfl
  have HIT := Lib.hid (fun r => itC_lt (N := nbN ns ls) (al := alw xs f x) hf r)
  generalize vNb ns ls = Z at *
  generalize nbN ns ls = N at *
  generalize alw xs f x = al at *
  go_wp2_with fail
  go_loopw [10, 11, 12, 19] (fun s _ _ i wr => ∃ r : Nat, r ≤ xs.length ∧ i = .int .i64 r ∧ s = .int .i64 (itC N al xs.length f r : Nat) ∧ wr = w2) (fun _ _ _ i _ => xs.length - (intOf i).toNat)
  case atStart => exact ⟨0, by omega, rfl, by rw [HI0.out, hpw], rfl⟩
  case round =>
    obtain ⟨r, hr, rfl, rfl, rfl⟩ := hrel
    by_cases hlt : r < xs.length
    · have HI1 : Hid (itC N al xs.length f (r + 1) = pasC N al (itC N al xs.length f r) xs.length) := Lib.hid rfl
      have HPL := Lib.hid (fun g hg => pasC_lt (N := N) (al := al) (HIT.out r) g hg)
      have HP0 : Hid (pasC N al (itC N al xs.length f r) 0 = itC N al xs.length f r) := Lib.hid rfl
      have HY := Lib.hid (fun g ha hb => pasC_yes (N := N) (al := al) (S := itC N al xs.length f r) (g := g) ha hb)
      have HN1 := Lib.hid (fun g ha => pasC_no1 (N := N) (al := al) (S := itC N al xs.length f r) (g := g) ha)
      have HN2 := Lib.hid (fun g hb => pasC_no2 (N := N) (al := al) (S := itC N al xs.length f r) (g := g) hb)
      generalize pasC N al (itC N al xs.length f r) = P at *
      go_wp2_with fail
      go_loop [10, 11, 12, 23] (fun s _ _ i => ∃ g : Nat, g ≤ xs.length ∧ i = .int .i64 g ∧ s = .int .i64 (P g : Nat)) (fun _ _ _ i => xs.length - (intOf i).toNat)
      case atStart => exact ⟨0, by omega, rfl, by rw [HP0.out]⟩
      case round =>
        obtain ⟨g, hg, rfl, rfl⟩ := hrel
        by_cases hgt : g < xs.length
        · have hgi : (g : Int) < xs.length := by omega
          have c1 := (hS.cel (j := g) (by rw [HZL.out]; exact hgt)).1
          rw [HZA.out g hgt] at c1
          obtain ⟨b', off', e', hbb', x2⟩ := hX.gi_ (k := g) hgt
          obtain ⟨rfl, rfl⟩ : b' = b ∧ off' = off := by simpa [eq_comm] using e'
          have hPg := HPL.out g hg
          have hNg := HNB.out g
          have h40 : 2 ^ xs.length ≤ 2 ^ 40 := Nat.pow_le_pow_right (by omega) hFl
          have hand : bits .and .i64 ((N g : Nat) : Int) ((P g : Nat) : Int) = ((N g &&& P g : Nat) : Int) := and_nat _ _ (by omega) (by omega)
          have hor := or2_w (P g) g (by omega) (by omega)
          have HALg := Lib.hid (HAL.out g)
          have HYg := Lib.hid (HY.out g)
          have HN1g := Lib.hid (HN1.out g)
          have HN2g := Lib.hid (HN2.out g)
          clear e' hbb' hPg hNg h40
          by_cases q1 : gi xs (g : Nat) = gi xs f
          · have h1 : (gi xs (g : Nat) == gi xs f) = true := by simp [q1]
            have Ha : Hid (al g = true) := Lib.hid (by rw [HALg.out, h1]; rfl)
            rw [q1] at x2 h1
            clear q1
            generalize gi xs (g : Nat) = cg at *
            generalize gi xs (f : Nat) = cf at *
            by_cases hz : N g &&& P g = 0
            · have hz1 : (((N g &&& P g : Nat) : Int) != 0) = false := by simp [hz]
              have Hs := Lib.hid (HN2g.out hz)
              clear hz
              generalize N g &&& P g = y at *
              generalize N g = Ng at *
              go_wp2
              go_round
              case rel => exact ⟨g + 1, by omega, by go_num, by rw [Hs.out]⟩
              case measure => simp [intOf]; omega
            · have hz1 : (((N g &&& P g : Nat) : Int) != 0) = true := by simp; omega
              have Hs := Lib.hid (HYg.out Ha.out hz)
              clear hz
              generalize N g &&& P g = y at *
              generalize N g = Ng at *
              go_wp2
              go_round
              case rel => exact ⟨g + 1, by omega, by go_num, by rw [Hs.out]⟩
              case measure => simp [intOf]; omega
          · have h1 : (gi xs (g : Nat) == gi xs f) = false := by simp [q1]
            by_cases q2 : gi xs (g : Nat) = x
            · have h2 : (gi xs (g : Nat) == x) = true := by simp [q2]
              have Ha : Hid (al g = true) := Lib.hid (by rw [HALg.out, h1, h2]; rfl)
              clear q1 q2
              generalize gi xs (g : Nat) = cg at *
              generalize gi xs (f : Nat) = cf at *
              by_cases hz : N g &&& P g = 0
              · have hz1 : (((N g &&& P g : Nat) : Int) != 0) = false := by simp [hz]
                have Hs := Lib.hid (HN2g.out hz)
                clear hz
                generalize N g &&& P g = y at *
                generalize N g = Ng at *
                go_wp2
                go_round
                case rel => exact ⟨g + 1, by omega, by go_num, by rw [Hs.out]⟩
                case measure => simp [intOf]; omega
              · have hz1 : (((N g &&& P g : Nat) : Int) != 0) = true := by simp; omega
                have Hs := Lib.hid (HYg.out Ha.out hz)
                clear hz
                generalize N g &&& P g = y at *
                generalize N g = Ng at *
                go_wp2
                go_round
                case rel => exact ⟨g + 1, by omega, by go_num, by rw [Hs.out]⟩
                case measure => simp [intOf]; omega
            · have h2 : (gi xs (g : Nat) == x) = false := by simp [q2]
              have Hs := Lib.hid (HN1g.out (by rw [HALg.out, h1, h2]; rfl))
              clear q1 q2
              generalize gi xs (g : Nat) = cg at *
              generalize gi xs (f : Nat) = cf at *
              go_wp2
              go_round
              case rel => exact ⟨g + 1, by omega, by go_num, by rw [Hs.out]⟩
              case measure => simp [intOf]; omega
        · obtain rfl : g = xs.length := by omega
          go_wp2
          go_roundw
          case rel => exact ⟨r + 1, by omega, by go_num, by rw [HI1.out], by first | trivial | rfl⟩
          case measure => first | (simp [intOf]; done) | (simp [intOf]; omega)
    · obtain rfl : r = xs.length := by omega
      go_wp2
      go_ret
      exact ⟨ret_i (by rw [HV.out]), hx⟩

def vChainOf (ns ls : List P2) (xs : List Int) (f x : Int) : List Int := if vAreProper ns ls xs = true ∧ wi f 0 (xs.length - 1) = true ∧ wi x 0 5 = true then bitsL (chS ns ls xs f.toNat x) xs.length else []
theorem proper_ok {ns ls : List P2} {xs : List Int} (h : vAreProper ns ls xs = true) : whole ns ls = true ∧ xs.length = (vFaces ns ls).length := by
  simp only [vAreProper, Bool.and_eq_true] at h
  exact colors_ok h.1
theorem vChainOf_len (ns ls : List P2) (xs : List Int) (f x : Int) : (vChainOf ns ls xs f x).length ≤ 1000 := by
  unfold vChainOf
  split
  · rename_i h
    have h1 := (proper_ok h.1).2
    have h2 := vFaces_len ns ls
    have := bitsL_len (chS ns ls xs f.toNat x) xs.length
    omega
  · simp
theorem bitsL_mem {S n i : Nat} (hi : i < n) (h : S.testBit i = true) : (i : Int) ∈ bitsL S n := by
  unfold bitsL
  exact List.mem_map.2 ⟨i, List.mem_filter.2 ⟨List.mem_range.2 hi, h⟩, rfl⟩
theorem chS_pos {ns ls : List P2} {xs : List Int} {f : Nat} {x : Int} (hf : f < xs.length) : 0 < (bitsL (chS ns ls xs f x) xs.length).length := List.length_pos_of_mem (bitsL_mem hf (itC_self _))
theorem chS_lt {ns ls : List P2} {xs : List Int} {f : Nat} {x : Int} (hf : f < xs.length) : chS ns ls xs f x < 2 ^ xs.length := itC_lt hf _

set_option maxRecDepth 100000 in
set_option maxHeartbeats 4000000 in
theorem ChainOf_i0 (A B : Option Addr) (c d : Nat) (ns ls : List P2) (X : Option Addr) (xc : Nat) (xs : List Int) (f x : Int) (w : World) (h : Wn w A c B d ns ls) (hX : In w w.heap.size X xs) (hxl : xs.length ≤ 2000000) :
    Calls Tryz.prog 18 #[.agg #[.slice A ns.length c, .slice B ls.length d], .slice X xs.length xc, .int .i64 f, .int .i64 x] w fun e w' => ∃ v, e = .returned v ∧ OwI w' w.heap.size v (vChainOf ns ls xs f x) ∧ ((vChainOf ns ls xs f x).length = 0 → v = .slice none 0 0) ∧ Ext w w' := by
  have HV : Hid (vChainOf ns ls xs f x = if vAreProper ns ls xs = true ∧ wi f 0 (xs.length - 1) = true ∧ wi x 0 5 = true then bitsL (chS ns ls xs f.toNat x) xs.length else []) := Lib.hid rfl
  by_cases hp : vAreProper ns ls xs = true
  · by_cases hq : wi f 0 (xs.length - 1) = true
    · by_cases hr : wi x 0 5 = true
      · rw [if_pos ⟨hp, hq, hr⟩] at HV
        obtain ⟨hw, hlen⟩ := proper_ok hp
        have hFl := vFaces_len ns ls
        have HWW := Lib.hid hw
        have HLL := Lib.hid hlen
        obtain ⟨q1, q2⟩ := wi_iff.1 hq
        obtain ⟨k, rfl⟩ := Int.eq_ofNat_of_zero_le q1
        have hk : k < xs.length := by omega
        rw [Int.toNat_natCast] at HV
        have hx40 : xs.length ≤ 40 := by omega
        clear hw hlen q1 q2
        go_enter Tryz.func18, Tryz.ntmps18
        go_wp2_with fail
        have k0 : (w.alloc (.cells #[.slice A ns.length c, .slice B ls.length d] 27)).cell? ⟨w.heap.size, 0, none⟩ = some (.slice A ns.length c) := by go_simp
        have k1 : (w.alloc (.cells #[.slice A ns.length c, .slice B ls.length d] 27)).cell? ⟨w.heap.size, 1, none⟩ = some (.slice B ls.length d) := by go_simp
        have hx : Ext w (w.alloc (.cells #[.slice A ns.length c, .slice B ls.length d] 27)) := (by repeat first | exact Ext.refl _ | assumption | refine Ext.drew ?_ | refine Ext.alloc ?_ _ | refine Ext.setCell ?_ (by simp) | refine Ext.setCell ?_ (by simp; omega) | refine Ext.trans ?_ (by assumption))
        have hsz1 : w.heap.size + 1 = (w.alloc (.cells #[.slice A ns.length c, .slice B ls.length d] 27)).heap.size := by simp
        generalize (w.alloc (.cells #[.slice A ns.length c, .slice B ls.length d] 27)) = w0 at *
        (try rw [hsz1])
        refine (AreProper_i _ _ _ _ ns ls X xc xs _ (h.ext hx) (hX.ext hx) hxl).mono ?_
        rintro e w1 ⟨rfl, hb⟩
        have k0 := hb.lit k0
        have k1 := hb.lit k1
        have hx := hx.trans hb
        clear hb
        rw [hp]
        go_wp2_with fail
        refine (within_c _ _ _ _).mono ?_
        rintro e w2 ⟨rfl, rfl⟩
        rw [hq]
        go_wp2_with fail
        refine (within_c _ _ _ _).mono ?_
        rintro e w2 ⟨rfl, rfl⟩
        rw [hr]
        clear hp hq hr
        go_wp2_with fail
        refine (chain_i _ _ _ _ ns ls X xc xs k x _ (h.ext hx) (hX.ext hx) HWW.out HLL.out hk).mono ?_
        rintro e w3 ⟨rfl, hb⟩
        have k0 := hb.lit k0
        have k1 := hb.lit k1
        have hx := hx.trans hb
        clear hb
        have hlt := chS_lt (ns := ns) (ls := ls) (x := x) hk
        have hps := chS_pos (ns := ns) (ls := ls) (x := x) hk
        generalize chS ns ls xs k x = S at *
        go_wp2_with fail
        refine (membersOf_c S xs.length (by omega) hlt _).mono ?_
        rintro e w4 ⟨v, rfl, hv, hb⟩
        go_wp2
        go_ret
        exact ⟨_, rfl, by rw [HV.out]; exact hv.more hx.size, fun e => by rw [HV.out] at e; omega, hx.trans hb⟩
      · rw [if_neg (fun e => hr e.2.2)] at HV
        have hr' := eq_false_of_ne_true hr
        go_enter Tryz.func18, Tryz.ntmps18
        go_wp2_with fail
        have k0 : (w.alloc (.cells #[.slice A ns.length c, .slice B ls.length d] 27)).cell? ⟨w.heap.size, 0, none⟩ = some (.slice A ns.length c) := by go_simp
        have k1 : (w.alloc (.cells #[.slice A ns.length c, .slice B ls.length d] 27)).cell? ⟨w.heap.size, 1, none⟩ = some (.slice B ls.length d) := by go_simp
        have hx : Ext w (w.alloc (.cells #[.slice A ns.length c, .slice B ls.length d] 27)) := (by repeat first | exact Ext.refl _ | assumption | refine Ext.drew ?_ | refine Ext.alloc ?_ _ | refine Ext.setCell ?_ (by simp) | refine Ext.setCell ?_ (by simp; omega) | refine Ext.trans ?_ (by assumption))
        have hsz1 : w.heap.size + 1 = (w.alloc (.cells #[.slice A ns.length c, .slice B ls.length d] 27)).heap.size := by simp
        generalize (w.alloc (.cells #[.slice A ns.length c, .slice B ls.length d] 27)) = w0 at *
        (try rw [hsz1])
        refine (AreProper_i _ _ _ _ ns ls X xc xs _ (h.ext hx) (hX.ext hx) hxl).mono ?_
        rintro e w1 ⟨rfl, hb⟩
        have k0 := hb.lit k0
        have k1 := hb.lit k1
        have hx := hx.trans hb
        clear hb
        rw [hp]
        go_wp2_with fail
        refine (within_c _ _ _ _).mono ?_
        rintro e w2 ⟨rfl, rfl⟩
        rw [hq]
        go_wp2_with fail
        refine (within_c _ _ _ _).mono ?_
        rintro e w2 ⟨rfl, rfl⟩
        rw [hr']
        go_wp2
        go_ret
        exact ⟨_, rfl, by rw [HV.out]; exact OwI.nil _ _, fun _ => rfl, hx⟩
    · rw [if_neg (fun e => hq e.2.1)] at HV
      have hq' := eq_false_of_ne_true hq
      go_enter Tryz.func18, Tryz.ntmps18
      go_wp2_with fail
      have k0 : (w.alloc (.cells #[.slice A ns.length c, .slice B ls.length d] 27)).cell? ⟨w.heap.size, 0, none⟩ = some (.slice A ns.length c) := by go_simp
      have k1 : (w.alloc (.cells #[.slice A ns.length c, .slice B ls.length d] 27)).cell? ⟨w.heap.size, 1, none⟩ = some (.slice B ls.length d) := by go_simp
      have hx : Ext w (w.alloc (.cells #[.slice A ns.length c, .slice B ls.length d] 27)) := (by repeat first | exact Ext.refl _ | assumption | refine Ext.drew ?_ | refine Ext.alloc ?_ _ | refine Ext.setCell ?_ (by simp) | refine Ext.setCell ?_ (by simp; omega) | refine Ext.trans ?_ (by assumption))
      have hsz1 : w.heap.size + 1 = (w.alloc (.cells #[.slice A ns.length c, .slice B ls.length d] 27)).heap.size := by simp
      generalize (w.alloc (.cells #[.slice A ns.length c, .slice B ls.length d] 27)) = w0 at *
      (try rw [hsz1])
      refine (AreProper_i _ _ _ _ ns ls X xc xs _ (h.ext hx) (hX.ext hx) hxl).mono ?_
      rintro e w1 ⟨rfl, hb⟩
      have k0 := hb.lit k0
      have k1 := hb.lit k1
      have hx := hx.trans hb
      clear hb
      rw [hp]
      go_wp2_with fail
      refine (within_c _ _ _ _).mono ?_
      rintro e w2 ⟨rfl, rfl⟩
      rw [hq']
      go_wp2
      go_ret
      exact ⟨_, rfl, by rw [HV.out]; exact OwI.nil _ _, fun _ => rfl, hx⟩
  · rw [if_neg (fun e => hp e.1)] at HV
    have hp' := eq_false_of_ne_true hp
    go_enter Tryz.func18, Tryz.ntmps18
    go_wp2_with fail
    have k0 : (w.alloc (.cells #[.slice A ns.length c, .slice B ls.length d] 27)).cell? ⟨w.heap.size, 0, none⟩ = some (.slice A ns.length c) := by go_simp
    have k1 : (w.alloc (.cells #[.slice A ns.length c, .slice B ls.length d] 27)).cell? ⟨w.heap.size, 1, none⟩ = some (.slice B ls.length d) := by go_simp
    have hx : Ext w (w.alloc (.cells #[.slice A ns.length c, .slice B ls.length d] 27)) := (by repeat first | exact Ext.refl _ | assumption | refine Ext.drew ?_ | refine Ext.alloc ?_ _ | refine Ext.setCell ?_ (by simp) | refine Ext.setCell ?_ (by simp; omega) | refine Ext.trans ?_ (by assumption))
    have hsz1 : w.heap.size + 1 = (w.alloc (.cells #[.slice A ns.length c, .slice B ls.length d] 27)).heap.size := by simp
    generalize (w.alloc (.cells #[.slice A ns.length c, .slice B ls.length d] 27)) = w0 at *
    (try rw [hsz1])
    refine (AreProper_i _ _ _ _ ns ls X xc xs _ (h.ext hx) (hX.ext hx) hxl).mono ?_
    rintro e w1 ⟨rfl, hb⟩
    have k0 := hb.lit k0
    have k1 := hb.lit k1
    have hx := hx.trans hb
    clear hb
    rw [hp']
    go_wp2
    go_ret
    exact ⟨_, rfl, by rw [HV.out]; exact OwI.nil _ _, fun _ => rfl, hx⟩
theorem ChainOf_i (A B : Option Addr) (c d : Nat) (ns ls : List P2) (X : Option Addr) (xc : Nat) (xs : List Int) (f x : Int) (w : World) (h : Wn w A c B d ns ls) (hX : In w w.heap.size X xs) (hxl : xs.length ≤ 2000000) :
    Calls Tryz.prog 18 #[.agg #[.slice A ns.length c, .slice B ls.length d], .slice X xs.length xc, .int .i64 f, .int .i64 x] w fun e w' => ∃ v, e = .returned v ∧ OwI w' w.heap.size v (vChainOf ns ls xs f x) ∧ Ext w w' :=
  (ChainOf_i0 A B c d ns ls X xc xs f x w h hX hxl).mono fun _ _ ⟨v, h1, h2, _, h3⟩ => ⟨v, h1, h2, h3⟩
end Go.Proofs.YtdhmjhoaegdfjaaGreat
