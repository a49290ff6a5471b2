import Derived.Test.YtdhmjhoaegdfjaaGreatG8
import Derived.Test.YtdhmjhoaegdfjaaGreatG5
import Derived.Test.YtdhmjhoaegdfjaaGreatG9
import Derived.Test.YtdhmjhoaegdfjaaGreatG1
import Derived.Deep.DeepCutAuto
import Derived.Test.YtdhmjhoaegdfjaaGreatG6
namespace Go.Proofs.YtdhmjhoaegdfjaaGreat
open Go.RowKit Go.Sort Go.BigFrame

theorem OzI.gb {w w' : World} {B0 B : Nat} {v : Value} {xs : List Int} {r : Option Nat} (h : OzI w B0 B v xs) (k : w.grownBy w' r) (hr : ∀ g, v.ownBlock = some g → r ≠ some g) : OzI w' B0 B v xs :=
  h.imp (fun h => gb_own h k hr) (fun ⟨h1, h2, h3, h4⟩ => ⟨h1, gb_own h2 k hr, h3, h4⟩)
def vFirstSpanning (ns ls : List P2) : List Int := if whole ns ls = true then flt (joins ns.length ls) ls.length else []
theorem vFirstSpanning_len (ns ls : List P2) : (vFirstSpanning ns ls).length ≤ 1000 := by
  unfold vFirstSpanning
  split
  · rename_i h
    have := (whole_ok h).1.le
    have := flt_len (joins ns.length ls) ls.length
    omega
  · simp

end Go.Proofs.YtdhmjhoaegdfjaaGreat

namespace Go.Proofs.YtdhmjhoaegdfjaaGreat
open Go.RowKit Go.Sort Go.BigFrame

/-- the numbers rise, and are in a range -/
def ris (l : List Int) (lo hi : Int) : Bool := (List.range l.length).all (fun i => wi (gi l (i : Nat)) lo hi && (i == 0 || decide (gi l ((i - 1 : Nat) : Int) < gi l (i : Nat))))
def risK (l : List Int) (lo hi : Int) (i : Nat) : Bool := wi (gi l (i : Nat)) lo hi && (i == 0 || decide (gi l ((i - 1 : Nat) : Int) < gi l (i : Nat)))
theorem ris_iff {l : List Int} {lo hi : Int} : ris l lo hi = true ↔ ∀ i, i < l.length → risK l lo hi i = true := by
  unfold ris risK
  rw [List.all_eq_true]
  simp only [List.mem_range]
theorem ris_no {l : List Int} {lo hi : Int} {i : Nat} (hi' : i < l.length) (h : risK l lo hi i = false) : ris l lo hi = false := by
  rw [Bool.eq_false_iff]
  intro e
  rw [ris_iff.1 e i hi'] at h
  cases h
theorem ris_bd {l : List Int} {lo hi : Int} (h : ris l lo hi = true) {i : Nat} (hi' : i < l.length) : lo ≤ gi l i ∧ gi l i ≤ hi := by
  have := ris_iff.1 h i hi'
  simp only [risK, wi, Bool.and_eq_true, decide_eq_true_eq] at this
  exact this.1

end Go.Proofs.YtdhmjhoaegdfjaaGreat

namespace Go.Proofs.YtdhmjhoaegdfjaaGreat
open Go.RowKit Go.Sort Go.BigFrame

/-- the pairs that a list of leads names -/
def spairs (ls : List P2) (xs : List Int) : List P2 := xs.map (fun k => gp ls k)
theorem spairs_len (ls : List P2) (xs : List Int) : (spairs ls xs).length = xs.length := by simp [spairs]
theorem spairs_gp {ls : List P2} {xs : List Int} {j : Nat} (h : j < xs.length) : gp (spairs ls xs) j = gp ls (gi xs j) := by
  rw [gp_nat _ j (by rw [spairs_len]; exact h), gi_nat xs j h]; simp [spairs]
theorem spairs_vd {ns ls : List P2} {xs : List Int} (hW : WOk ns ls) (h : ris xs 0 (ls.length - 1) = true) : Vd ns.length (spairs ls xs) := by
  intro l hl
  obtain ⟨k, hk, rfl⟩ := List.mem_map.1 hl
  obtain ⟨i, hi, rfl⟩ := List.getElem_of_mem hk
  have hb := ris_bd h hi
  rw [gi_nat xs i hi] at hb
  generalize xs[i] = x at *
  obtain ⟨y, rfl⟩ := Int.eq_ofNat_of_zero_le hb.1
  exact vd_of_ok hW _ (by rw [gp_nat ls y (by omega)]; exact List.getElem_mem _)
def vIsSpanning (ns ls : List P2) (xs : List Int) : Bool :=
  whole ns ls && ris xs 0 (ls.length - 1) && decide ((xs.length : Int) = (ns.length : Int) - 1) && (List.range xs.length).all (fun j => joins ns.length (spairs ls xs) j)
theorem vIs_yes {ns ls : List P2} {xs : List Int} (h1 : whole ns ls = true) (h2 : ris xs 0 (ls.length - 1) = true) (h3 : (xs.length : Int) = (ns.length : Int) - 1) :
    (vIsSpanning ns ls xs = true ↔ ∀ j, j < xs.length → joins ns.length (spairs ls xs) j = true) ∧ (vIsSpanning ns ls xs = true ↔ itB (spairs ls xs) (spairs ls xs).length (2 ^ 0) = 2 ^ ns.length - 1) := by
  obtain ⟨hW, -⟩ := whole_ok h1
  have hlo := hW.lo
  have e : vIsSpanning ns ls xs = true ↔ ∀ j, j < xs.length → joins ns.length (spairs ls xs) j = true := by
    unfold vIsSpanning
    simp [h1, h2, h3]
  refine ⟨e, ?_⟩
  have hv := spairs_vd hW h2
  have hl := spairs_len ls xs
  have ht := tree_iff hv (by omega) (by rw [hl]; omega)
  rw [hl] at ht
  rw [e, ht, hl, show xs.length = ns.length - 1 by omega]
  exact (itB_all hv (by omega)).symm
end Go.Proofs.YtdhmjhoaegdfjaaGreat

namespace Go.Proofs.YtdhmjhoaegdfjaaGreat
open Go.RowKit Go.Sort Go.BigFrame

/-- append of one pair -/
theorem az_pair {P : Program} (tS T : TypeId) (hu : P.underlying tS = some (.slice T)) (hif : (P.info? T).map (fun i => (i.zero, i.size, i.bytes)) = some (some (.agg #[.int .i64 0, .int .i64 0]), 2, 16))
    {ops : Array Oper} {rest : List Oper} {o : Oper} {a : Act} {Q : Exit → Act → World → Prop} {w : World} (s x : Operand) (hgd : o.guard = none)
    (ho : o.op = .call { callee := .builtin .append, args := #[s, x], argTypes := #[tS, tS] })
    {B0 B : Nat} {v : Value} {l : List P2} (hs : a.eval s = v) (hown : OwZ w B0 B T 2 v l.length (l.flatMap pc)) {g : Nat} {p q : Int} (hx : a.eval x = .slice (some ⟨g, 0, none⟩) 1 1)
    (h0 : w.cell? ⟨g, 0, none⟩ = some (.int .i64 p)) (h1 : w.cell? ⟨g, 1, none⟩ = some (.int .i64 q)) (hl : l.length ≤ 2000000) (hB : B ≤ w.heap.size)
    (h : ∀ v' w' r, OwP w' B T v' (l ++ [(p, q)]) → (∀ W, Ext W w → W.heap.size ≤ B → Ext W w') → w.grownBy w' r → (∀ q, r = some q → B ≤ q) → (∀ g c, v = .slice (some g) l.length c → l.length < c → v' = .slice (some g) (l.length + 1) c) →
      wpList P ops Q rest (a.put o.dst v') w') : wpList P ops Q (o :: rest) a w := by
  refine az_gen tS T _ 2 16 hu hif rfl (by omega) (by omega) s x hgd ho hs hown (news := [.int .i64 p, .int .i64 q]) hx rfl ?_ ?_ (by omega) hB ?_
  · intro j u hj
    match j, hj with
    | 0, hj => simp at hj; subst hj; exact h0
    | 1, hj => simp at hj; subst hj; exact h1
  · intro u hu
    simp at hu
    rcases hu with rfl | rfl <;> rfl
  · rintro v' w' h2 h3 h4 ⟨r, h5, h6⟩
    refine h v' w' r ?_ h3 h5 h6 h4
    unfold OwP
    simpa [List.flatMap_append, pc] using h2

theorem full_bits (a n : Nat) (hn : n ≤ 60) : ((a : Int) == wrap64 (wrap64 (2 ^ n) - 1)) = decide (a = 2 ^ n - 1) := by
  rw [pow_w n (by omega)]
  have h1 : 1 ≤ 2 ^ n := Nat.one_le_two_pow
  have h2 : 2 ^ n ≤ 2 ^ 60 := Nat.pow_le_pow_right (by omega) hn
  generalize 2 ^ n = m at *
  have : wrap64 ((m : Int) - 1) = ((m - 1 : Nat) : Int) := by unfold wrap64; omega
  rw [this, Bool.eq_iff_iff, beq_iff_eq, decide_eq_true_eq]
  omega
end Go.Proofs.YtdhmjhoaegdfjaaGreat
