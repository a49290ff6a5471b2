import Derived.Test.YtdhmjhoaegdfjaaGreatRows
import Derived.Test.YtdhmjhoaegdfjaaGreatG1
import Derived.Outline
import Derived.Lib.Hide
import Derived.BigQuiet
import Derived.WalkLawsBesides
import Derived.Test.YtdhmjhoaegdfjaaGreatG2
import Derived.Test.YtdhmjhoaegdfjaaGreatG6
namespace Go.Proofs.YtdhmjhoaegdfjaaGreat
open Go.RowKit

theorem infoI : (Tryz.prog.info? 3).map (fun i => (i.zero, i.size, i.bytes)) = some (some (.int .i64 0), 1, 8) := by kernel_rfl

def cntW (xs : List Int) : Int := (xs.filter (fun x => x != -1)).length
theorem cntW_bd (xs : List Int) : 0 ≤ cntW xs ∧ cntW xs ≤ xs.length := by
  unfold cntW; have := List.length_filter_le (fun x : Int => x != -1) xs; omega
theorem cntW_snoc (xs : List Int) (x : Int) : cntW (xs ++ [x]) = cntW xs + if (x != -1) = true then 1 else 0 := by
  unfold cntW
  rw [List.filter_append]
  by_cases h : (x != -1) = true <;> simp [h]

set_option maxHeartbeats 1000000 in
theorem CountWishes_i (A : Option Addr) (c : Nat) (xs : List Int) (w : World) (hl : xs.length ≤ 1048576) (h : In w w.heap.size A xs) :
    Calls Tryz.prog 11 #[.slice A xs.length c] w fun e w' => e = .returned (.int .i64 (cntW xs)) ∧ w = w' := by
  go_enter Tryz.func11, Tryz.ntmps11
  go_wp2
  go_loop [3, 5, 8] (fun n _ i => ∃ k : Nat, k ≤ xs.length ∧ i = .int .i64 k ∧ n = .int .i64 (cntW (xs.take k))) (fun _ _ i => xs.length - (intOf i).toNat)
  case atStart => exact ⟨0, by omega, rfl, rfl⟩
  case round =>
    obtain ⟨k, hk, rfl, rfl⟩ := hrel
    have hb := cntW_bd (xs.take k)
    have hl2 : (xs.take k).length ≤ k := List.length_take_le _ _
    by_cases hlt : k < xs.length
    · obtain ⟨b, off, rfl, hbb, c1⟩ := h.at_ hlt
      have H : Hid (cntW (xs.take (k + 1)) = cntW (xs.take k) + if (xs[k] != -1) = true then 1 else 0) := Lib.hid (by rw [List.take_succ_eq_append_getElem hlt, cntW_snoc])
      go_wp2
      all_goals
        go_round
        case rel => exact ⟨k + 1, by omega, by go_num, by rw [H.out]; first | rw [if_pos (by assumption)] | (rw [if_neg (by simp_all)]; go_num)⟩
        case measure => simp [intOf]; omega
    · go_wp2
      go_ret
      exact ⟨ret_i (by rw [List.take_of_length_le (by omega)]), rfl⟩
end Go.Proofs.YtdhmjhoaegdfjaaGreat

namespace Go.Proofs.YtdhmjhoaegdfjaaGreat
open Go.RowKit Go.Sort Go.BigFrame

end Go.Proofs.YtdhmjhoaegdfjaaGreat

namespace Go.Proofs.YtdhmjhoaegdfjaaGreat
open Go.RowKit Go.Sort Go.BigFrame

theorem madeCells_two (z : Value) (n : Nat) : madeCells #[z, z] n = (List.replicate n z).toArray := by
  apply Array.ext
  · simp [madeCells]
  · intro i h1 h2
    have hi : i < n := by simpa [madeCells] using h1
    rcases Nat.mod_two_eq_zero_or_one i with h | h <;> simp [madeCells, h]
/-- make of a slice of two-cell elements -/
theorem run_mk2 {P : Program} (t e : TypeId) (i : TypeInfo) (a z : Value) (ht : P.underlying t = some (.slice e)) (hi : P.info? e = some i) (hz : i.zero = some a) (hs : i.size = 2) (hzc : a.cells = #[z, z])
    (n : Nat) (hb : i.bytes * n ≤ 281474976710656) (h63 : n ≤ 9223372036854775807) (w : World) :
    (Instr.makeSlice t (.int .i64 (n : Int)) (.int .i64 (n : Int))).run P w = .ok (.slice (some ⟨w.heap.size, 0, none⟩) n n) (w.alloc (.cells (List.replicate (n * 2) z).toArray e)) := by
  have hb' : (i.bytes : Int) * (n : Int) ≤ 281474976710656 := by
    have h : ((i.bytes * n : Nat) : Int) ≤ 281474976710656 := by omega
    rwa [Int.natCast_mul] at h
  have hr := run_make (P := P) w t e i a ht hi hz .i64 .i64 n n (by omega) (by omega) hb' (by omega)
  simp only [Int.toNat_natCast, hs, hzc] at hr
  rw [hr, madeCells_two]
theorem Ext.froz {w w1 : World} (hb : Ext w w1) {b o : Nat} (hlt : b < w.heap.size) (h : w.frozen? ⟨b, o, none⟩ = false) : w1.frozen? ⟨b, o, none⟩ = false := by
  rw [Below.frozen hb (p := ⟨b, o, none⟩) hlt]; exact h
theorem fil_get' (xs : List Value) (z : Value) (k : Nat) (h : k < xs.length) : (fil xs z k)[k]? = some z := fil_get xs z k h
theorem fil_set2 (l : List P2) (z : Value) (k : Nat) (hk : k < l.length) :
    ((fil (l.flatMap pc) z (k * 2)).set (k * 2) (.int .i64 (gp l k).1)).set (k * 2 + 1) (.int .i64 (gp l k).2) = fil (l.flatMap pc) z ((k + 1) * 2) := by
  have hl := pcs_length l
  obtain ⟨h1, h2⟩ := pcs_get l k hk
  rw [gp_nat l k hk]
  have g1 : (l.flatMap pc)[k * 2]'(by omega) = .int .i64 l[k].1 := by rw [List.getElem?_eq_getElem (by omega)] at h1; injection h1
  have g2 : (l.flatMap pc)[k * 2 + 1]'(by omega) = .int .i64 l[k].2 := by rw [List.getElem?_eq_getElem (by omega)] at h2; injection h2
  rw [← g1, fil_set _ _ _ (by omega), ← g2, fil_set _ _ _ (by omega)]
  congr 1
  omega
theorem Bk.pr {w : World} {g : Nat} {t : TypeId} {l : List P2} (h : Bk w g t (l.flatMap pc)) : Pr w w.heap.size (some ⟨g, 0, none⟩) l := h.sl (pcs_length l)

theorem infoNode : (Tryz.prog.info? 79).map (fun i => (i.zero, i.size, i.bytes)) = some (some (.agg #[.int .i64 0, .int .i64 0]), 2, 16) := by kernel_rfl
theorem infoLead : (Tryz.prog.info? 81).map (fun i => (i.zero, i.size, i.bytes)) = some (some (.agg #[.int .i64 0, .int .i64 0]), 2, 16) := by kernel_rfl
end Go.Proofs.YtdhmjhoaegdfjaaGreat

namespace Go.Proofs.YtdhmjhoaegdfjaaGreat
open Go.RowKit Go.Sort Go.BigFrame

end Go.Proofs.YtdhmjhoaegdfjaaGreat

namespace Go.Proofs.YtdhmjhoaegdfjaaGreat
open Go.RowKit Go.Sort Go.BigFrame

theorem Wn.of {w : World} {g1 g2 : Nat} {t u : TypeId} {ns ls : List P2} (hl : ns.length ≤ 1048576) (hm : ls.length ≤ 1048576) (h1 : Bk w g1 t (ns.flatMap pc)) (h2 : Bk w g2 u (ls.flatMap pc)) :
    Wn w (some ⟨g1, 0, none⟩) ns.length (some ⟨g2, 0, none⟩) ls.length ns ls :=
  ⟨by omega, by omega, Nat.le_refl _, Nat.le_refl _, by omega, by omega, h1.pr, h2.pr⟩

end Go.Proofs.YtdhmjhoaegdfjaaGreat

namespace Go.Proofs.YtdhmjhoaegdfjaaGreat
open Go.RowKit Go.Sort Go.BigFrame

theorem gb_refl (w : World) (r : Option Nat) : w.grownBy w r := ⟨rfl, rfl, rfl, Nat.le_refl _, fun _ _ _ => rfl⟩
theorem gb_trans {a b c : World} {r : Option Nat} (h : a.grownBy b r) (k : b.grownBy c r) : a.grownBy c r :=
  ⟨k.os.trans h.os, k.tape.trans h.tape, k.output.trans h.output, Nat.le_trans h.size k.size, fun i hi hr => (k.block i (Nat.lt_of_lt_of_le hi h.size) hr).trans (h.block i hi hr)⟩
theorem gb_ext {a b : World} {r : Option Nat} (h : Ext a b) : a.grownBy b r := ⟨h.os, h.tape, h.output, h.size, fun i hi _ => h.block i hi⟩
theorem gb_set {w w1 : World} {g : Nat} (h : w.grownBy w1 (some g)) (o : Nat) (v : Value) : w.grownBy (w1.setCell ⟨g, o, none⟩ v) (some g) := by
  refine gb_trans h ⟨rfl, rfl, rfl, by simp, fun i hi hr => ?_⟩
  exact Below.heap_setCell w1 _ _ i (fun e => hr (by rw [e]))
theorem gb_ext2 {a b c : World} {r : Option Nat} (h : Ext a b) (k : b.grownBy c r) (hr : ∀ g, r = some g → a.heap.size ≤ g) : Ext a c := Below.grown h k h.size hr
theorem gb_bk {w w' : World} {r : Option Nat} {g : Nat} {t : TypeId} {cs : List Value} (h : Bk w g t cs) (k : w.grownBy w' r) (hr : r ≠ some g) : Bk w' g t cs := by
  exact (k.block g h.lt (Ne.symm hr)).trans h
theorem gb_own {w w' : World} {r : Option Nat} {B : Nat} {e : TypeId} {sz n : Nat} {v : Value} {cs : List Value} (h : w.ownsRow B e sz v n cs) (k : w.grownBy w' r) (hr : ∀ g, v.ownBlock = some g → r ≠ some g) : w'.ownsRow B e sz v n cs := by
  refine h.kept k ?_
  cases hv : v.ownBlock with
  | none => exact .inl rfl
  | some g => exact .inr (fun e => hr g hv e.symm)
theorem gb_lit {w w' : World} {r : Option Nat} (k : w.grownBy w' r) {b o : Nat} {v : Value} (h : w.cell? ⟨b, o, none⟩ = some v) (hr : r ≠ some b) : w'.cell? ⟨b, o, none⟩ = some v := k.cell h (Ne.symm hr)
theorem own_at {w : World} {B g c n : Nat} {T : TypeId} {sz : Nat} {cs : List Value} (h : w.ownsRow B T sz (.slice (some ⟨g, 0, none⟩) n c) n cs) : B ≤ g := (h.lt g rfl).1

/-- the numbers k, k + 1, .. -/
def mks (k : Int) (n : Nat) : List Int := (List.range n).map (fun i : Nat => k + (i : Int))
theorem mks_len (k : Int) (n : Nat) : (mks k n).length = n := by simp [mks]
theorem mks_gi (k : Int) {n j : Nat} (h : j < n) : gi (mks k n) j = k + j := by rw [gi_nat _ _ (by rw [mks_len]; exact h)]; simp [mks]
/-- half marked -/
def hmk (k : Int) (xs : List Int) (j : Nat) : List Int := mks k j ++ xs.drop j
theorem hmk_len (k : Int) (xs : List Int) {j : Nat} (h : j ≤ xs.length) : (hmk k xs j).length = xs.length := by simp [hmk, mks_len]; omega
theorem hmk_zero (k : Int) (xs : List Int) : hmk k xs 0 = xs := by simp [hmk, mks]
theorem hmk_all (k : Int) (xs : List Int) : hmk k xs xs.length = mks k xs.length := by simp [hmk]
theorem hmk_set (k : Int) (xs : List Int) {j : Nat} (h : j < xs.length) : (hmk k xs j).set j (k + j) = hmk k xs (j + 1) := by
  unfold hmk
  rw [List.set_append_right _ _ (by rw [mks_len]; exact Nat.le_refl _), mks_len, Nat.sub_self, List.drop_eq_getElem_cons h, List.set_cons_zero]
  simp [mks, List.range_succ]

/-! ### pairs of the call's own -/
/-- v is a slice of pairs (type t) of the call's own -/
def OwP (w : World) (B : Nat) (t : TypeId) (v : Value) (l : List P2) : Prop := w.ownsRow B t 2 v l.length (l.flatMap pc)
theorem OwP.ext {w w' : World} {B : Nat} {t : TypeId} {v : Value} {l : List P2} (h : OwP w B t v l) (hx : Ext w w') : OwP w' B t v l := ow_ext h hx
theorem OwP.shape {w : World} {B : Nat} {t : TypeId} {v : Value} {l : List P2} (h : OwP w B t v l) : ∃ A c, v = .slice A l.length c ∧ l.length ≤ c ∧ c ≤ maxLen ∧ Pr w w.heap.size A l := ow_shape h
theorem OwP.nil (w : World) (B : Nat) (t : TypeId) : OwP w B t (.slice none 0 0) [] := World.ownsRow_nil w B _ _
theorem OwP.more {w : World} {B B' : Nat} {t : TypeId} {v : Value} {l : List P2} (h : OwP w B t v l) (hB : B' ≤ B) : OwP w B' t v l := by
  refine ⟨h.1, ?_⟩
  rcases h.2 with hn | ⟨g, cap, cur, hv, hb, rest⟩
  · exact .inl hn
  · exact .inr ⟨g, cap, cur, hv, by omega, rest⟩
theorem OwP.new {w : World} {B g : Nat} {t : TypeId} {l : List P2} (h : Bk w g t (l.flatMap pc)) (hB : B ≤ g) (hl : l.length ≤ maxLen) : OwP w B t (.slice (some ⟨g, 0, none⟩) l.length l.length) l :=
  ⟨pcs_length l, .inr ⟨g, l.length, _, rfl, hB, h, Nat.le_refl _, hl, by rw [List.size_toArray, pcs_length], List.take_of_length_le (by show (l.flatMap pc).length ≤ _; rw [pcs_length]; exact Nat.le_refl _)⟩⟩
theorem OwP.at_ {w : World} {B : Nat} {t : TypeId} {v : Value} {l : List P2} (h : OwP w B t v l) {j : Nat} (hj : j < l.length) :
    ∃ g c, v = .slice (some ⟨g, 0, none⟩) l.length c ∧ l.length ≤ c ∧ B ≤ g ∧ g < w.heap.size ∧ w.cell? ⟨g, j * 2, none⟩ = some (.int .i64 (gp l j).1) ∧ w.cell? ⟨g, j * 2 + 1, none⟩ = some (.int .i64 (gp l j).2) ∧
      w.frozen? ⟨g, j * 2, none⟩ = false ∧ w.frozen? ⟨g, j * 2 + 1, none⟩ = false := by
  rcases h.2 with ⟨_, h0⟩ | ⟨g, cap, cur, rfl, hb, hg, hnc, _⟩
  · omega
  · obtain ⟨c1, c2⟩ := pcs_get l j hj
    rw [gp_nat l j hj]
    refine ⟨g, cap, rfl, hnc, hb, ?_, ?_, ?_, World.ownsRow.frozenAt h _, World.ownsRow.frozenAt h _⟩
    · rcases Nat.lt_or_ge g w.heap.size with h' | h'
      · exact h'
      · rw [Array.getElem?_eq_none h'] at hg; cases hg
    · rw [World.ownsRow.cellAt h _ (by omega)]; exact c1
    · rw [World.ownsRow.cellAt h _ (by omega)]; exact c2
theorem pcs_set (l : List P2) (j : Nat) (hj : j < l.length) (x y : Int) : ((l.flatMap pc).set (j * 2) (.int .i64 x)).set (j * 2 + 1) (.int .i64 y) = (l.set j (x, y)).flatMap pc := by
  induction l generalizing j with
  | nil => simp at hj
  | cons a t ih =>
    cases j with
    | zero => simp [List.flatMap_cons, pc]
    | succ j =>
      have := ih j (by simpa using hj)
      have e : (j + 1) * 2 = j * 2 + 2 := by omega
      simp only [List.flatMap_cons, pc, List.set_cons_succ, e]
      simpa [pc] using this
theorem OwP.set_ {w : World} {B g c n : Nat} {t : TypeId} {l : List P2} (h : OwP w B t (.slice (some ⟨g, 0, none⟩) n c) l) (hn : n = l.length) {j : Nat} (hj : j < l.length) (x y : Int) :
    OwP ((w.setCell ⟨g, j * 2, none⟩ (.int .i64 x)).setCell ⟨g, j * 2 + 1, none⟩ (.int .i64 y)) B t (.slice (some ⟨g, 0, none⟩) n c) (l.set j (x, y)) := by
  subst hn
  have h1 := (World.ownsRow.stored h (j * 2) (.int .i64 x)).1
  have h2 := (World.ownsRow.stored h1 (j * 2 + 1) (.int .i64 y)).1
  unfold OwP
  rw [List.length_set, ← pcs_set l j hj]
  exact h2
def mkp (k : Int) (n : Nat) : List P2 := (List.range n).map (fun i : Nat => (k + 2 * (i : Int), k + 2 * (i : Int) + 1))
theorem mkp_len (k : Int) (n : Nat) : (mkp k n).length = n := by simp [mkp]
theorem mkp_gp (k : Int) {n j : Nat} (h : j < n) : gp (mkp k n) j = (k + 2 * j, k + 2 * j + 1) := by rw [gp_nat _ _ (by rw [mkp_len]; exact h)]; simp [mkp]
def hmp (k : Int) (l : List P2) (j : Nat) : List P2 := mkp k j ++ l.drop j
theorem hmp_len (k : Int) (l : List P2) {j : Nat} (h : j ≤ l.length) : (hmp k l j).length = l.length := by simp [hmp, mkp_len]; omega
theorem hmp_zero (k : Int) (l : List P2) : hmp k l 0 = l := by simp [hmp, mkp]
theorem hmp_all (k : Int) (l : List P2) : hmp k l l.length = mkp k l.length := by simp [hmp]
theorem hmp_set (k : Int) (l : List P2) {j : Nat} (h : j < l.length) : (hmp k l j).set j (k + 2 * j, k + 2 * j + 1) = hmp k l (j + 1) := by
  unfold hmp
  rw [List.set_append_right _ _ (by rw [mkp_len]; exact Nat.le_refl _), mkp_len, Nat.sub_self, List.drop_eq_getElem_cons h, List.set_cons_zero]
  simp [mkp, List.range_succ]

end Go.Proofs.YtdhmjhoaegdfjaaGreat

namespace Go.Proofs.YtdhmjhoaegdfjaaGreat
open Go.RowKit Go.Sort Go.BigFrame

theorem OwI.blk {w : World} {B : Nat} {v : Value} {xs : List Int} (h : OwI w B v xs) : ∀ q, v.ownBlock = some q → B ≤ q ∧ q < w.heap.size := World.ownsRow.lt h
theorem OwP.blk {w : World} {B : Nat} {t : TypeId} {v : Value} {xs : List P2} (h : OwP w B t v xs) : ∀ q, v.ownBlock = some q → B ≤ q ∧ q < w.heap.size := World.ownsRow.lt h
theorem OwI.gb {w w' : World} {B : Nat} {v : Value} {xs : List Int} {r : Option Nat} (h : OwI w B v xs) (k : w.grownBy w' r) (hr : ∀ g, v.ownBlock = some g → r ≠ some g) : OwI w' B v xs := gb_own h k hr
theorem OwP.gb {w w' : World} {B : Nat} {t : TypeId} {v : Value} {xs : List P2} {r : Option Nat} (h : OwP w B t v xs) (k : w.grownBy w' r) (hr : ∀ g, v.ownBlock = some g → r ≠ some g) : OwP w' B t v xs := gb_own h k hr
theorem OwI.in' {w : World} {B n c : Nat} {A : Option Addr} {xs : List Int} (h : OwI w B (.slice A n c) xs) : In w w.heap.size A xs := by
  obtain ⟨A', c', e, _, _, hi⟩ := h.shape
  injection e with e1 e2 e3
  subst e1
  exact hi
theorem OwI.len {w : World} {B n c : Nat} {A : Option Addr} {xs : List Int} (h : OwI w B (.slice A n c) xs) : n = xs.length := by
  obtain ⟨A', c', e, _, _, hi⟩ := h.shape
  injection e

end Go.Proofs.YtdhmjhoaegdfjaaGreat
