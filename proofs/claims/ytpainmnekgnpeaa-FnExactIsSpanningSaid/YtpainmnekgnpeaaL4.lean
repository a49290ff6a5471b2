import Derived.Test.YtpainmnekgnpeaaL2
import Derived.Test.YtpainmnekgnpeaaB3
import Derived.Test.YtpainmnekgnpeaaC2
namespace Go.Proofs.Ytpainmnekgnpeaa
open Go.RowKit Go.Sort Go.BigFrame

theorem gb_refl (w : World) (r : Option Nat) : w.grownBy w r := ⟨rfl, rfl, rfl, Nat.le_refl _, fun _ _ _ => rfl⟩
theorem gb_trans {a b c : World} {r : Option Nat} (h : a.grownBy b r) (k : b.grownBy c r) : a.grownBy c r :=
  ⟨k.os.trans h.os, k.tape.trans h.tape, k.output.trans h.output, Nat.le_trans h.size k.size, fun i hi hr => (k.block i (Nat.lt_of_lt_of_le hi h.size) hr).trans (h.block i hi hr)⟩
theorem gb_ext {a b : World} {r : Option Nat} (h : Ext a b) : a.grownBy b r := ⟨h.os, h.tape, h.output, h.size, fun i hi _ => h.block i hi⟩
theorem gb_set {w w1 : World} {g : Nat} (h : w.grownBy w1 (some g)) (o : Nat) (v : Value) : w.grownBy (w1.setCell ⟨g, o, none⟩ v) (some g) := by
  refine gb_trans h ⟨rfl, rfl, rfl, by simp, fun i hi hr => ?_⟩
  exact Below.heap_setCell w1 _ _ i (fun e => hr (by rw [e]))
theorem gb_ext2 {a b c : World} {r : Option Nat} (h : Ext a b) (k : b.grownBy c r) (hr : ∀ g, r = some g → a.heap.size ≤ g) : Ext a c := Below.grown h k h.size hr
theorem gb_bk {w w' : World} {r : Option Nat} {g : Nat} {t : TypeId} {cs : List Value} (h : Bk w g t cs) (k : w.grownBy w' r) (hr : r ≠ some g) : Bk w' g t cs := by
  exact (k.block g h.lt (Ne.symm hr)).trans h
theorem gb_own {w w' : World} {r : Option Nat} {B : Nat} {e : TypeId} {sz n : Nat} {v : Value} {cs : List Value} (h : w.ownsRow B e sz v n cs) (k : w.grownBy w' r) (hr : ∀ g, v.ownBlock = some g → r ≠ some g) : w'.ownsRow B e sz v n cs := by
  refine h.kept k ?_
  cases hv : v.ownBlock with
  | none => exact .inl rfl
  | some g => exact .inr (fun e => hr g hv e.symm)
theorem gb_lit {w w' : World} {r : Option Nat} (k : w.grownBy w' r) {b o : Nat} {v : Value} (h : w.cell? ⟨b, o, none⟩ = some v) (hr : r ≠ some b) : w'.cell? ⟨b, o, none⟩ = some v := k.cell h (Ne.symm hr)
theorem own_at {w : World} {B g c n : Nat} {T : TypeId} {sz : Nat} {cs : List Value} (h : w.ownsRow B T sz (.slice (some ⟨g, 0, none⟩) n c) n cs) : B ≤ g := (h.lt g rfl).1

/-- the numbers k, k + 1, .. -/
def mks (k : Int) (n : Nat) : List Int := (List.range n).map (fun i : Nat => k + (i : Int))
theorem mks_len (k : Int) (n : Nat) : (mks k n).length = n := by simp [mks]
theorem mks_gi (k : Int) {n j : Nat} (h : j < n) : gi (mks k n) j = k + j := by rw [gi_nat _ _ (by rw [mks_len]; exact h)]; simp [mks]
/-- half marked -/
def hmk (k : Int) (xs : List Int) (j : Nat) : List Int := mks k j ++ xs.drop j
theorem hmk_len (k : Int) (xs : List Int) {j : Nat} (h : j ≤ xs.length) : (hmk k xs j).length = xs.length := by simp [hmk, mks_len]; omega
theorem hmk_zero (k : Int) (xs : List Int) : hmk k xs 0 = xs := by simp [hmk, mks]
theorem hmk_all (k : Int) (xs : List Int) : hmk k xs xs.length = mks k xs.length := by simp [hmk]
theorem hmk_set (k : Int) (xs : List Int) {j : Nat} (h : j < xs.length) : (hmk k xs j).set j (k + j) = hmk k xs (j + 1) := by
  unfold hmk
  rw [List.set_append_right _ _ (by rw [mks_len]; exact Nat.le_refl _), mks_len, Nat.sub_self, List.drop_eq_getElem_cons h, List.set_cons_zero]
  simp [mks, List.range_succ]

set_option maxHeartbeats 1000000 in
theorem markIntS_c (v : Value) (xs : List Int) (k : Int) (w : World) {B : Nat} (h : OwI w B v xs) (hl : xs.length ≤ 2000000) (k0 : 0 ≤ k) (k1 : k ≤ 100000000) :
    Calls Try.prog 35 #[v, .int .i64 k] w fun e w' => e = .returned (.int .i64 (k + xs.length)) ∧ OwI w' B v (mks k xs.length) ∧ w.grownBy w' v.ownBlock := by
  obtain ⟨A, c, rfl, -, -, -⟩ := h.shape
  go_enter Try.func35, Try.ntmps35
  go_wp2
  go_loopw [1, 5] (fun q i wr => ∃ j : Nat, j ≤ xs.length ∧ i = .int .i64 j ∧ q = .int .i64 (k + j) ∧ OwI wr B (.slice A xs.length c) (hmk k xs j) ∧ w.grownBy wr (Value.slice A xs.length c).ownBlock) (fun _ i _ => xs.length - (intOf i).toNat)
  case atStart => exact ⟨0, by omega, rfl, by simp, by rw [hmk_zero]; exact h, gb_refl _ _⟩
  case round =>
    clear h
    obtain ⟨j, hj, rfl, rfl, hv, hg⟩ := hrel
    obtain ⟨wo, rfl⟩ : ∃ x : World, x = wr := ⟨_, rfl⟩
    have hln := hmk_len k xs hj
    by_cases hlt : j < xs.length
    · obtain ⟨g, c', e, -, -, -, c1, c2⟩ := hv.gi_ (j := j) (by omega)
      obtain rfl : A = some ⟨g, 0, none⟩ := by injection e
      have hs := hv.set_ hln.symm j (k + j)
      rw [hmk_set k xs hlt] at hs
      have hgs := gb_set hg j (.int .i64 (k + j))
      clear hv hg e
      have HL := Lib.hid hln
      clear hln
      go_wp2
      go_roundw
      case rel => exact ⟨j + 1, by omega, by go_num, by simp only [Value.int.injEq, true_and]; omega, hs, hgs⟩
      case measure => simp [intOf]; omega
    · obtain rfl : j = xs.length := by omega
      rw [hmk_all] at hv
      clear hln
      go_wp2
      go_ret
      exact ⟨rfl, hv, hg⟩

set_option maxHeartbeats 1000000 in
theorem heldIntS_c (v : Value) (n : Nat) (k : Int) (w : World) {B : Nat} (h : OwI w B v (mks k n)) (hl : n ≤ 2000000) (k0 : 0 ≤ k) (k1 : k ≤ 100000000) :
    Calls Try.prog 36 #[v, .int .i64 k] w fun e w' => e = .returned (.int .i64 (k + n)) ∧ w = w' := by
  obtain ⟨A, c, rfl, -, -, -⟩ := h.shape
  have hln := mks_len k n
  rw [hln]
  have HL := Lib.hid hln
  clear hln
  go_enter Try.func36, Try.ntmps36
  go_wp2
  go_loop [1, 5] (fun q i => ∃ j : Nat, j ≤ n ∧ i = .int .i64 j ∧ q = .int .i64 (k + j)) (fun _ i => n - (intOf i).toNat)
  case atStart => exact ⟨0, by omega, rfl, by simp⟩
  case round =>
    obtain ⟨j, hj, rfl, rfl⟩ := hrel
    by_cases hlt : j < n
    · obtain ⟨g, c', e, -, -, -, c1, c2⟩ := h.gi_ (j := j) (by rw [HL.out]; exact hlt)
      obtain rfl : A = some ⟨g, 0, none⟩ := by injection e
      rw [mks_gi k hlt] at c1
      clear e
      have hne : (k + (j : Int) != k + (j : Int)) = false := by simp
      go_wp2
      go_round
      case rel => exact ⟨j + 1, by omega, by go_num, by simp only [Value.int.injEq, true_and]; omega⟩
      case measure => simp [intOf]; omega
    · obtain rfl : j = n := by omega
      go_wp2
      go_ret
      exact ⟨rfl, rfl⟩

/-! ### pairs of the call's own -/
/-- v is a slice of pairs (type t) of the call's own -/
def OwP (w : World) (B : Nat) (t : TypeId) (v : Value) (l : List P2) : Prop := w.ownsRow B t 2 v l.length (l.flatMap pc)
theorem OwP.ext {w w' : World} {B : Nat} {t : TypeId} {v : Value} {l : List P2} (h : OwP w B t v l) (hx : Ext w w') : OwP w' B t v l := ow_ext h hx
theorem OwP.shape {w : World} {B : Nat} {t : TypeId} {v : Value} {l : List P2} (h : OwP w B t v l) : ∃ A c, v = .slice A l.length c ∧ l.length ≤ c ∧ c ≤ maxLen ∧ Pr w w.heap.size A l := ow_shape h
theorem OwP.nil (w : World) (B : Nat) (t : TypeId) : OwP w B t (.slice none 0 0) [] := World.ownsRow_nil w B _ _
theorem OwP.more {w : World} {B B' : Nat} {t : TypeId} {v : Value} {l : List P2} (h : OwP w B t v l) (hB : B' ≤ B) : OwP w B' t v l := by
  refine ⟨h.1, ?_⟩
  rcases h.2 with hn | ⟨g, cap, cur, hv, hb, rest⟩
  · exact .inl hn
  · exact .inr ⟨g, cap, cur, hv, by omega, rest⟩
theorem OwP.new {w : World} {B g : Nat} {t : TypeId} {l : List P2} (h : Bk w g t (l.flatMap pc)) (hB : B ≤ g) (hl : l.length ≤ maxLen) : OwP w B t (.slice (some ⟨g, 0, none⟩) l.length l.length) l :=
  ⟨pcs_length l, .inr ⟨g, l.length, _, rfl, hB, h, Nat.le_refl _, hl, by rw [List.size_toArray, pcs_length], List.take_of_length_le (by show (l.flatMap pc).length ≤ _; rw [pcs_length]; exact Nat.le_refl _)⟩⟩
theorem OwP.at_ {w : World} {B : Nat} {t : TypeId} {v : Value} {l : List P2} (h : OwP w B t v l) {j : Nat} (hj : j < l.length) :
    ∃ g c, v = .slice (some ⟨g, 0, none⟩) l.length c ∧ l.length ≤ c ∧ B ≤ g ∧ g < w.heap.size ∧ w.cell? ⟨g, j * 2, none⟩ = some (.int .i64 (gp l j).1) ∧ w.cell? ⟨g, j * 2 + 1, none⟩ = some (.int .i64 (gp l j).2) ∧
      w.frozen? ⟨g, j * 2, none⟩ = false ∧ w.frozen? ⟨g, j * 2 + 1, none⟩ = false := by
  rcases h.2 with ⟨_, h0⟩ | ⟨g, cap, cur, rfl, hb, hg, hnc, _⟩
  · omega
  · obtain ⟨c1, c2⟩ := pcs_get l j hj
    rw [gp_nat l j hj]
    refine ⟨g, cap, rfl, hnc, hb, ?_, ?_, ?_, World.ownsRow.frozenAt h _, World.ownsRow.frozenAt h _⟩
    · rcases Nat.lt_or_ge g w.heap.size with h' | h'
      · exact h'
      · rw [Array.getElem?_eq_none h'] at hg; cases hg
    · rw [World.ownsRow.cellAt h _ (by omega)]; exact c1
    · rw [World.ownsRow.cellAt h _ (by omega)]; exact c2
theorem pcs_set (l : List P2) (j : Nat) (hj : j < l.length) (x y : Int) : ((l.flatMap pc).set (j * 2) (.int .i64 x)).set (j * 2 + 1) (.int .i64 y) = (l.set j (x, y)).flatMap pc := by
  induction l generalizing j with
  | nil => simp at hj
  | cons a t ih =>
    cases j with
    | zero => simp [List.flatMap_cons, pc]
    | succ j =>
      have := ih j (by simpa using hj)
      have e : (j + 1) * 2 = j * 2 + 2 := by omega
      simp only [List.flatMap_cons, pc, List.set_cons_succ, e]
      simpa [pc] using this
theorem OwP.set_ {w : World} {B g c n : Nat} {t : TypeId} {l : List P2} (h : OwP w B t (.slice (some ⟨g, 0, none⟩) n c) l) (hn : n = l.length) {j : Nat} (hj : j < l.length) (x y : Int) :
    OwP ((w.setCell ⟨g, j * 2, none⟩ (.int .i64 x)).setCell ⟨g, j * 2 + 1, none⟩ (.int .i64 y)) B t (.slice (some ⟨g, 0, none⟩) n c) (l.set j (x, y)) := by
  subst hn
  have h1 := (World.ownsRow.stored h (j * 2) (.int .i64 x)).1
  have h2 := (World.ownsRow.stored h1 (j * 2 + 1) (.int .i64 y)).1
  unfold OwP
  rw [List.length_set, ← pcs_set l j hj]
  exact h2
def mkp (k : Int) (n : Nat) : List P2 := (List.range n).map (fun i : Nat => (k + 2 * (i : Int), k + 2 * (i : Int) + 1))
theorem mkp_len (k : Int) (n : Nat) : (mkp k n).length = n := by simp [mkp]
theorem mkp_gp (k : Int) {n j : Nat} (h : j < n) : gp (mkp k n) j = (k + 2 * j, k + 2 * j + 1) := by rw [gp_nat _ _ (by rw [mkp_len]; exact h)]; simp [mkp]
def hmp (k : Int) (l : List P2) (j : Nat) : List P2 := mkp k j ++ l.drop j
theorem hmp_len (k : Int) (l : List P2) {j : Nat} (h : j ≤ l.length) : (hmp k l j).length = l.length := by simp [hmp, mkp_len]; omega
theorem hmp_zero (k : Int) (l : List P2) : hmp k l 0 = l := by simp [hmp, mkp]
theorem hmp_all (k : Int) (l : List P2) : hmp k l l.length = mkp k l.length := by simp [hmp]
theorem hmp_set (k : Int) (l : List P2) {j : Nat} (h : j < l.length) : (hmp k l j).set j (k + 2 * j, k + 2 * j + 1) = hmp k l (j + 1) := by
  unfold hmp
  rw [List.set_append_right _ _ (by rw [mkp_len]; exact Nat.le_refl _), mkp_len, Nat.sub_self, List.drop_eq_getElem_cons h, List.set_cons_zero]
  simp [mkp, List.range_succ]

set_option maxHeartbeats 1000000 in
theorem markNodeS_c (v : Value) (l : List P2) (k : Int) (w : World) {B : Nat} (h : OwP w B 47 v l) (hl : l.length ≤ 2000000) (k0 : 0 ≤ k) (k1 : k ≤ 100000000) :
    Calls Try.prog 70 #[v, .int .i64 k] w fun e w' => e = .returned (.int .i64 (k + 2 * l.length)) ∧ OwP w' B 47 v (mkp k l.length) ∧ w.grownBy w' v.ownBlock := by
  obtain ⟨A, c, rfl, -, -, -⟩ := h.shape
  go_enter Try.func70, Try.ntmps70
  go_wp2
  go_loopw [1, 5] (fun q i wr => ∃ j : Nat, j ≤ l.length ∧ i = .int .i64 j ∧ q = .int .i64 (k + 2 * j) ∧ OwP wr B 47 (.slice A l.length c) (hmp k l j) ∧ w.grownBy wr (Value.slice A l.length c).ownBlock) (fun _ i _ => l.length - (intOf i).toNat)
  case atStart => exact ⟨0, by omega, rfl, by simp, by rw [hmp_zero]; exact h, gb_refl _ _⟩
  case round =>
    clear h
    obtain ⟨j, hj, rfl, rfl, hv, hg⟩ := hrel
    obtain ⟨wo, rfl⟩ : ∃ x : World, x = wr := ⟨_, rfl⟩
    have hln := hmp_len k l hj
    by_cases hlt : j < l.length
    · obtain ⟨g, c', e, -, -, -, c1, c2, f1, f2⟩ := hv.at_ (j := j) (by omega)
      obtain rfl : A = some ⟨g, 0, none⟩ := by injection e
      have hs := hv.set_ hln.symm (j := j) (by omega) (k + 2 * j) (k + 2 * j + 1)
      rw [hmp_set k l hlt] at hs
      have hgs := gb_set (gb_set hg (j * 2) (.int .i64 (k + 2 * j))) (j * 2 + 1) (.int .i64 (k + 2 * j + 1))
      clear hv hg e
      have HL := Lib.hid hln
      clear hln
      go_wp2
      go_roundw
      case rel => exact ⟨j + 1, by omega, by go_num, by simp only [Value.int.injEq, true_and]; omega, hs, hgs⟩
      case measure => simp [intOf]; omega
    · obtain rfl : j = l.length := by omega
      rw [hmp_all] at hv
      clear hln
      go_wp2
      go_ret
      exact ⟨rfl, hv, hg⟩

set_option maxHeartbeats 1000000 in
theorem heldNodeS_c (v : Value) (n : Nat) (k : Int) (w : World) {B : Nat} (h : OwP w B 47 v (mkp k n)) (hl : n ≤ 2000000) (k0 : 0 ≤ k) (k1 : k ≤ 100000000) :
    Calls Try.prog 72 #[v, .int .i64 k] w fun e w' => e = .returned (.int .i64 (k + 2 * n)) ∧ w = w' := by
  obtain ⟨A, c, rfl, -, -, -⟩ := h.shape
  have hln := mkp_len k n
  rw [hln]
  have HL := Lib.hid hln
  clear hln
  go_enter Try.func72, Try.ntmps72
  go_wp2
  go_loop [1, 5] (fun q i => ∃ j : Nat, j ≤ n ∧ i = .int .i64 j ∧ q = .int .i64 (k + 2 * j)) (fun _ i => n - (intOf i).toNat)
  case atStart => exact ⟨0, by omega, rfl, by simp⟩
  case round =>
    obtain ⟨j, hj, rfl, rfl⟩ := hrel
    by_cases hlt : j < n
    · obtain ⟨g, c', e, -, -, -, c1, c2, -, -⟩ := h.at_ (j := j) (by rw [HL.out]; exact hlt)
      obtain rfl : A = some ⟨g, 0, none⟩ := by injection e
      rw [mkp_gp k hlt] at c1 c2
      clear e
      have hne : (k + 2 * (j : Int) != k + 2 * (j : Int)) = false := by simp
      have hne2 : (k + 2 * (j : Int) + 1 != k + 2 * (j : Int) + 1) = false := by simp
      go_wp2
      go_round
      case rel => exact ⟨j + 1, by omega, by go_num, by simp only [Value.int.injEq, true_and]; omega⟩
      case measure => simp [intOf]; omega
    · obtain rfl : j = n := by omega
      go_wp2
      go_ret
      exact ⟨rfl, rfl⟩
set_option maxHeartbeats 1000000 in
theorem markLeadS_c (v : Value) (l : List P2) (k : Int) (w : World) {B : Nat} (h : OwP w B 65 v l) (hl : l.length ≤ 2000000) (k0 : 0 ≤ k) (k1 : k ≤ 100000000) :
    Calls Try.prog 71 #[v, .int .i64 k] w fun e w' => e = .returned (.int .i64 (k + 2 * l.length)) ∧ OwP w' B 65 v (mkp k l.length) ∧ w.grownBy w' v.ownBlock := by
  obtain ⟨A, c, rfl, -, -, -⟩ := h.shape
  go_enter Try.func71, Try.ntmps71
  go_wp2
  go_loopw [1, 5] (fun q i wr => ∃ j : Nat, j ≤ l.length ∧ i = .int .i64 j ∧ q = .int .i64 (k + 2 * j) ∧ OwP wr B 65 (.slice A l.length c) (hmp k l j) ∧ w.grownBy wr (Value.slice A l.length c).ownBlock) (fun _ i _ => l.length - (intOf i).toNat)
  case atStart => exact ⟨0, by omega, rfl, by simp, by rw [hmp_zero]; exact h, gb_refl _ _⟩
  case round =>
    clear h
    obtain ⟨j, hj, rfl, rfl, hv, hg⟩ := hrel
    obtain ⟨wo, rfl⟩ : ∃ x : World, x = wr := ⟨_, rfl⟩
    have hln := hmp_len k l hj
    by_cases hlt : j < l.length
    · obtain ⟨g, c', e, -, -, -, c1, c2, f1, f2⟩ := hv.at_ (j := j) (by omega)
      obtain rfl : A = some ⟨g, 0, none⟩ := by injection e
      have hs := hv.set_ hln.symm (j := j) (by omega) (k + 2 * j) (k + 2 * j + 1)
      rw [hmp_set k l hlt] at hs
      have hgs := gb_set (gb_set hg (j * 2) (.int .i64 (k + 2 * j))) (j * 2 + 1) (.int .i64 (k + 2 * j + 1))
      clear hv hg e
      have HL := Lib.hid hln
      clear hln
      go_wp2
      go_roundw
      case rel => exact ⟨j + 1, by omega, by go_num, by simp only [Value.int.injEq, true_and]; omega, hs, hgs⟩
      case measure => simp [intOf]; omega
    · obtain rfl : j = l.length := by omega
      rw [hmp_all] at hv
      clear hln
      go_wp2
      go_ret
      exact ⟨rfl, hv, hg⟩

set_option maxHeartbeats 1000000 in
theorem heldLeadS_c (v : Value) (n : Nat) (k : Int) (w : World) {B : Nat} (h : OwP w B 65 v (mkp k n)) (hl : n ≤ 2000000) (k0 : 0 ≤ k) (k1 : k ≤ 100000000) :
    Calls Try.prog 73 #[v, .int .i64 k] w fun e w' => e = .returned (.int .i64 (k + 2 * n)) ∧ w = w' := by
  obtain ⟨A, c, rfl, -, -, -⟩ := h.shape
  have hln := mkp_len k n
  rw [hln]
  have HL := Lib.hid hln
  clear hln
  go_enter Try.func73, Try.ntmps73
  go_wp2
  go_loop [1, 5] (fun q i => ∃ j : Nat, j ≤ n ∧ i = .int .i64 j ∧ q = .int .i64 (k + 2 * j)) (fun _ i => n - (intOf i).toNat)
  case atStart => exact ⟨0, by omega, rfl, by simp⟩
  case round =>
    obtain ⟨j, hj, rfl, rfl⟩ := hrel
    by_cases hlt : j < n
    · obtain ⟨g, c', e, -, -, -, c1, c2, -, -⟩ := h.at_ (j := j) (by rw [HL.out]; exact hlt)
      obtain rfl : A = some ⟨g, 0, none⟩ := by injection e
      rw [mkp_gp k hlt] at c1 c2
      clear e
      have hne : (k + 2 * (j : Int) != k + 2 * (j : Int)) = false := by simp
      have hne2 : (k + 2 * (j : Int) + 1 != k + 2 * (j : Int) + 1) = false := by simp
      go_wp2
      go_round
      case rel => exact ⟨j + 1, by omega, by go_num, by simp only [Value.int.injEq, true_and]; omega⟩
      case measure => simp [intOf]; omega
    · obtain rfl : j = n := by omega
      go_wp2
      go_ret
      exact ⟨rfl, rfl⟩
end Go.Proofs.Ytpainmnekgnpeaa
