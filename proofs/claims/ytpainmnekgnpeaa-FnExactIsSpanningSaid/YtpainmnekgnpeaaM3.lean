import Derived.Test.YtpainmnekgnpeaaM2
import Derived.Laws.BitsLemmas
import Derived.Lib.Hide
namespace Go.Proofs.Ytpainmnekgnpeaa
open Go.RowKit

theorem ow_ext {w w' : World} {B : Nat} {e : TypeId} {sz : Nat} {v : Value} {n : Nat} {cs : List Value} (h : w.ownsRow B e sz v n cs) (hx : Ext w w') : w'.ownsRow B e sz v n cs := by
  refine ⟨h.1, ?_⟩
  rcases h.2 with hn | ⟨g, cap, cur, hv, hb, hg, rest⟩
  · exact .inl hn
  · have hlt : g < w.heap.size := by
      rcases Nat.lt_or_ge g w.heap.size with h' | h'
      · exact h'
      · rw [Array.getElem?_eq_none h'] at hg; cases hg
    exact .inr ⟨g, cap, cur, hv, hb, (hx.block g hlt).trans hg, rest⟩
theorem ow_shape {w : World} {B : Nat} {e : TypeId} {sz : Nat} {v : Value} {n : Nat} {cs : List Value} (h : w.ownsRow B e sz v n cs) :
    ∃ A c, v = .slice A n c ∧ n ≤ c ∧ c ≤ maxLen ∧ Sl w w.heap.size sz A n cs := by
  rcases h.2 with ⟨rfl, rfl⟩ | ⟨g, cap, cur, rfl, hb, hg, hnc, hcm, hcs, ht⟩
  · exact ⟨none, 0, rfl, by omega, by unfold maxLen; omega, h.1, fun h => absurd h (by omega)⟩
  · have hlt : g < w.heap.size := by
      rcases Nat.lt_or_ge g w.heap.size with h' | h'
      · exact h'
      · rw [Array.getElem?_eq_none h'] at hg; cases hg
    refine ⟨_, _, rfl, hnc, hcm, h.1, fun hn => ⟨g, 0, rfl, hlt, fun j u hu => ?_⟩⟩
    rw [Nat.zero_add]
    have hj : j < n * sz := by
      rcases Nat.lt_or_ge j cs.length with h' | h'
      · rw [← h.1]; exact h'
      · rw [List.getElem?_eq_none h'] at hu; cases hu
    rw [h.cellAt j hj]; exact hu
theorem ow_grow {W w w' : World} {v : Value} {B : Nat} {e : TypeId} {sz n : Nat} {cs : List Value} (h : w.ownsRow B e sz v n cs) (hx : Ext W w) (hB : W.heap.size ≤ B) (hg : w.grownBy w' v.ownBlock) : Ext W w' :=
  Below.grown hx hg hx.size (fun k hk => Nat.le_trans hB (h.lt k hk).1)

/-- v is a slice of ints of the call's own (blocks from B on), it holds xs -/
def OwI (w : World) (B : Nat) (v : Value) (xs : List Int) : Prop := w.ownsRow B 3 1 v xs.length (xs.map (Value.int .i64))
theorem OwI.ext {w w' : World} {B : Nat} {v : Value} {xs : List Int} (h : OwI w B v xs) (hx : Ext w w') : OwI w' B v xs := ow_ext h hx
theorem OwI.shape {w : World} {B : Nat} {v : Value} {xs : List Int} (h : OwI w B v xs) : ∃ A c, v = .slice A xs.length c ∧ xs.length ≤ c ∧ c ≤ maxLen ∧ In w w.heap.size A xs := ow_shape h
theorem OwI.nil (w : World) (B : Nat) : OwI w B (.slice none 0 0) [] := World.ownsRow_nil w B _ _
theorem OwI.more {w : World} {B B' : Nat} {v : Value} {xs : List Int} (h : OwI w B v xs) (hB : B' ≤ B) : OwI w B' v xs := by
  refine ⟨h.1, ?_⟩
  rcases h.2 with hn | ⟨g, cap, cur, hv, hb, rest⟩
  · exact .inl hn
  · exact .inr ⟨g, cap, cur, hv, by omega, rest⟩
theorem OwI.at_ {w : World} {B : Nat} {v : Value} {xs : List Int} (h : OwI w B v xs) {j : Nat} (hj : j < xs.length) :
    ∃ g c, v = .slice (some ⟨g, 0, none⟩) xs.length c ∧ xs.length ≤ c ∧ B ≤ g ∧ g < w.heap.size ∧ w.cell? ⟨g, j, none⟩ = some (.int .i64 xs[j]) ∧ w.frozen? ⟨g, j, none⟩ = false := by
  rcases h.2 with ⟨_, h0⟩ | ⟨g, cap, cur, rfl, hb, hg, hnc, _⟩
  · omega
  · refine ⟨g, cap, rfl, hnc, hb, ?_, ?_, World.ownsRow.frozenAt h j⟩
    · rcases Nat.lt_or_ge g w.heap.size with h' | h'
      · exact h'
      · rw [Array.getElem?_eq_none h'] at hg; cases hg
    · rw [World.ownsRow.cellAt h j (by omega)]; simp [hj]
theorem OwI.set_ {w : World} {B g c n : Nat} {xs : List Int} (h : OwI w B (.slice (some ⟨g, 0, none⟩) n c) xs) (hn : n = xs.length) (j : Nat) (y : Int) : OwI (w.setCell ⟨g, j, none⟩ (.int .i64 y)) B (.slice (some ⟨g, 0, none⟩) n c) (xs.set j y) := by
  subst hn
  have := (World.ownsRow.stored h j (.int .i64 y)).1
  unfold OwI
  rw [List.length_set, List.map_set]
  exact this
theorem OwI.new {w : World} {B g : Nat} {xs : List Int} (h : Bk w g 3 (xs.map (Value.int .i64))) (hB : B ≤ g) (hl : xs.length ≤ maxLen) : OwI w B (.slice (some ⟨g, 0, none⟩) xs.length xs.length) xs :=
  ⟨by simp, .inr ⟨g, xs.length, _, rfl, hB, h, Nat.le_refl _, hl, by simp, List.take_of_length_le (by simp)⟩⟩

/-- append of one int -/
theorem ap_int {P : Program} (hu : P.underlying 22 = some (.slice 3)) (hif : (P.info? 3).map (fun i => (i.zero, i.size, i.bytes)) = some (some (.int .i64 0), 1, 8))
    {ops : Array Oper} {rest : List Oper} {o : Oper} {a : Act} {Q : Exit → Act → World → Prop} {w : World} (s x : Operand) (hgd : o.guard = none)
    (ho : o.op = .call { callee := .builtin .append, args := #[s, x], argTypes := #[22, 22] })
    {B : Nat} {v : Value} {xs : List Int} (hs : a.eval s = v) (hown : OwI w B v xs) {g : Nat} {y : Int} (hx : a.eval x = .slice (some ⟨g, 0, none⟩) 1 1) (hc : w.cell? ⟨g, 0, none⟩ = some (.int .i64 y))
    (hl : xs.length ≤ 4000000) (hB : B ≤ w.heap.size)
    (h : ∀ v' w', OwI w' B v' (xs ++ [y]) → w.grownBy w' v.ownBlock → (∀ W, Ext W w → W.heap.size ≤ B → Ext W w') → wpList P ops Q rest (a.put o.dst v') w') : wpList P ops Q (o :: rest) a w := by
  obtain ⟨i0, hi, hz0, hz1, hz2⟩ := info_parts hif
  refine wpList_append_own (P := P) w hgd s x 22 ho B 3 i0 (.int .i64 0) 1 8 hu hi hz0 hz1 hz2 rfl (by decide) v xs.length (xs.map (Value.int .i64)) hs hown ⟨g, 0, none⟩ 1 1 [.int .i64 y] hx rfl ?_ ?_ ?_ ?_ hB ?_
  · intro j u hj
    match j, hj with
    | 0, hj => simp at hj; subst hj; simpa [Addr.add] using hc
  · intro u hu; simp at hu; subst hu; rfl
  · unfold maxLen; omega
  · omega
  · intro v' w' h1 h2 _
    refine h v' w' ?_ h2 (fun W hW hWB => ow_grow hown hW hWB h2)
    unfold OwI
    simpa using h1

/-! ### bits -/
def shr' (x : Int) (k : Nat) : Int := x.fdiv (2 ^ min k 64)
def shl' (x : Int) (k : Nat) : Int := IntKind.i64.wrap (x * 2 ^ min k 64)
def and' (x y : Int) : Int := bits .and .i64 x y
def or' (x y : Int) : Int := bits .or .i64 x y
theorem shr_run (P : Program) (t : TypeId) (x : Int) (k : Nat) (w : World) : (binOp .shr t (.int .i64 x) (.int .i64 (k : Int))).run P w = .ok (.int .i64 (shr' x k)) w := by
  have : ¬ (k : Int) < 0 := by omega
  show (Op.shift .shr .i64 x .i64 (k : Int)).run P w = _
  unfold Op.shift
  rw [if_neg this]
  rfl
theorem shl_run (P : Program) (t : TypeId) (x : Int) (k : Nat) (w : World) : (binOp .shl t (.int .i64 x) (.int .i64 (k : Int))).run P w = .ok (.int .i64 (shl' x k)) w := by
  have : ¬ (k : Int) < 0 := by omega
  show (Op.shift .shl .i64 x .i64 (k : Int)).run P w = _
  unfold Op.shift
  rw [if_neg this]
  rfl
theorem and_run (P : Program) (t : TypeId) (x y : Int) (w : World) : (binOp .and t (.int .i64 x) (.int .i64 y)).run P w = .ok (.int .i64 (and' x y)) w := rfl
theorem or_run (P : Program) (t : TypeId) (x y : Int) (w : World) : (binOp .or t (.int .i64 x) (.int .i64 y)).run P w = .ok (.int .i64 (or' x y)) w := rfl
theorem ofInt_64 (a : Nat) (ha : a < 2 ^ 63) : (BitVec.ofInt 64 (a : Int)).toNat = a := by
  rw [BitVec.ofInt_natCast, BitVec.toNat_ofNat]; exact Nat.mod_eq_of_lt (by omega)
theorem and_nat (a b : Nat) (ha : a < 2 ^ 63) (hb : b < 2 ^ 63) : and' (a : Int) (b : Int) = ((a &&& b : Nat) : Int) := by
  have hx : a &&& b < 2 ^ 63 := Nat.and_lt_two_pow _ hb
  show IntKind.i64.wrap ((BitVec.ofInt 64 (a : Int) &&& BitVec.ofInt 64 (b : Int)).toNat : Int) = _
  rw [BitVec.toNat_and, ofInt_64 a ha, ofInt_64 b hb, IntKind.wrap_i64]
  omega
theorem or_nat (a b : Nat) (ha : a < 2 ^ 63) (hb : b < 2 ^ 63) : or' (a : Int) (b : Int) = ((a ||| b : Nat) : Int) := by
  have hx : a ||| b < 2 ^ 63 := Nat.or_lt_two_pow ha hb
  show IntKind.i64.wrap ((BitVec.ofInt 64 (a : Int) ||| BitVec.ofInt 64 (b : Int)).toNat : Int) = _
  rw [BitVec.toNat_or, ofInt_64 a ha, ofInt_64 b hb, IntKind.wrap_i64]
  omega
theorem shr_nat (S k : Nat) (hk : k ≤ 64) : shr' (S : Int) k = ((S >>> k : Nat) : Int) := by
  unfold shr'
  rw [Nat.min_eq_left hk, Nat.shiftRight_eq_div_pow, Int.fdiv_eq_ediv_of_nonneg _ (by exact_mod_cast Nat.zero_le _)]
  norm_cast
theorem shl_nat (k : Nat) (hk : k ≤ 62) : shl' 1 k = ((2 ^ k : Nat) : Int) := by
  unfold shl'
  rw [Nat.min_eq_left (by omega), IntKind.wrap_i64]
  have h : 2 ^ k ≤ 2 ^ 62 := Nat.pow_le_pow_right (by omega) hk
  have e : (1 : Int) * 2 ^ k = ((2 ^ k : Nat) : Int) := by norm_cast; omega
  rw [e]
  generalize 2 ^ k = m at *
  omega
/-- a bit that stands | does not stand -/
theorem bit_is (S k : Nat) (hS : S < 2 ^ 63) (hk : k ≤ 64) : and' (shr' (S : Int) k) 1 = if S.testBit k = true then 1 else 0 := by
  have h1 : S >>> k < 2 ^ 63 := Nat.lt_of_le_of_lt (Nat.shiftRight_le S k) hS
  rw [shr_nat S k hk]
  have := and_nat (S >>> k) 1 h1 (by omega)
  rw [show (1 : Int) = ((1 : Nat) : Int) from rfl, this]
  rw [Nat.and_one_is_mod]
  have hb : S.testBit k = decide ((S >>> k) % 2 = 1) := by
    rw [Nat.testBit_eq_decide_div_mod_eq, Nat.shiftRight_eq_div_pow]
  rw [hb]
  by_cases h : (S >>> k) % 2 = 1
  · simp [h]
  · have : (S >>> k) % 2 = 0 := by omega
    simp [this]
theorem or3_nat (S f t : Nat) (hS : S < 2 ^ 62) (hf : f < 62) (ht : t < 62) : or' (S : Int) (or' (shl' 1 f) (shl' 1 t)) = ((S ||| (2 ^ f ||| 2 ^ t) : Nat) : Int) := by
  have h1 : 2 ^ f < 2 ^ 63 := Nat.pow_lt_pow_right (by omega) (by omega)
  have h2 : 2 ^ t < 2 ^ 63 := Nat.pow_lt_pow_right (by omega) (by omega)
  rw [shl_nat f (by omega), shl_nat t (by omega), or_nat _ _ h1 h2, or_nat _ _ (by omega) (Nat.or_lt_two_pow h1 h2)]
end Go.Proofs.Ytpainmnekgnpeaa
