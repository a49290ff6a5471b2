import Derived.Test.YtdhmjhoaegdfjaaD31
namespace Go.Proofs.Ytdhmjhoaegdfjaa
open Go.RowKit Go.Sort Go.BigFrame

theorem ret_vb2 {v : Value} {a b : Bool} (h : a = b) : Ending.returned (.tuple #[v, .bool a]) = .returned (.tuple #[v, .bool b]) := by rw [h]
/-- what the search finds -/
def srL (N : Nat → Nat) (wish : List Int) (nn d : Nat) (h : List Int) : List Int := (sr tell1 N wish nn d none h).1.getD []
def srB (N : Nat → Nat) (wish : List Int) (nn d : Nat) (h : List Int) : Bool := (sr tell1 N wish nn d none h).2
theorem admB_neg {N : Nat → Nat} {wish h : List Int} {c : Nat} (hw : gi wish (h.length : Nat) < 0) : admB N wish h c = fitB N h h.length c h.length := by
  unfold admB
  rw [decide_eq_false (by omega)]
  rfl
theorem gi_rep {n j : Nat} (h : j < n) : gi (List.replicate n (-1 : Int)) (j : Nat) = -1 := by
  rw [gi_nat _ _ (by simpa using h)]
  simp

/-- the number of the proper lists that begin with h, in a machine word -/
def cnW (N : Nat → Nat) (n nn d : Nat) (h : List Int) : Int := wrap64 (cn N (List.replicate n (-1)) nn d h)
end Go.Proofs.Ytdhmjhoaegdfjaa
