import Derived.Test.YtdhmjhoaegdfjaaGreatE1
import Derived.Test.YtdhmjhoaegdfjaaGreatD33
namespace Go.Proofs.YtdhmjhoaegdfjaaGreat
open Go.RowKit Go.Sort Go.BigFrame

def oi (o : Option Nat) : Int := match o with
  | some g => (g : Int)
  | none => -1
theorem ret_has {a : Int} {b : Bool} {o : Option Nat} (h1 : a = oi o) (h2 : b = o.isSome) : Ending.returned (.tuple #[.int .i64 a, .bool b]) = .returned (.tuple #[.int .i64 (oi o), .bool o.isSome]) := by rw [h1, h2]

set_option maxRecDepth 100000 in
set_option maxHeartbeats 4000000 in
theorem hasBeside_i (A B : Option Addr) (c d : Nat) (ns ls : List P2) (X : Option Addr) (xc : Nat) (cs : List Int) (n f : Nat) (x : Int) (w : World) (h : Wn w A c B d ns ls) (hX : In w w.heap.size X cs) (hw : whole ns ls = true) (hn : n = (vFaces ns ls).length) (hxl : cs.length = n) (hf : f < n) :
    Calls Tryz.prog 47 #[.agg #[.slice A ns.length c, .slice B ls.length d], .slice X n xc, .int .i64 (f : Int), .int .i64 x] w fun e w' => e = .returned (.bool (fstP (hasC (nbN ns ls f) cs x) n).isSome) ∧ Ext w w' := by
  have HE : Hid (vBesideOf ns ls f = bitsL (nbN ns ls f) n) := Lib.hid (by rw [hn]; exact (beside_bits hw (by omega)).symm)
  have HFB := Lib.hid (fndL_bits (nbN ns ls f) cs x n)
  have HGI : Hid (∀ j : Nat, j < (bitsL (nbN ns ls f) n).length → ∃ a : Nat, gi (bitsL (nbN ns ls f) n) j = a ∧ a < n) := Lib.hid (fun j hj => bitsL_gi hj)
  have HXL := Lib.hid hxl
  have hln := bitsL_len (nbN ns ls f) n
  have hFl := vFaces_len ns ls
  have hn40 : n ≤ 40 := by omega
  obtain ⟨b, off, rfl, hbb, -⟩ := hX.gi_ (k := 0) (by omega)
  clear hw hn hxl hFl
  go_enter Tryz.func47, Tryz.ntmps47
  go_wp2_with fail
  have k0 : (w.alloc (.cells #[.slice A ns.length c, .slice B ls.length d] 27)).cell? ⟨w.heap.size, 0, none⟩ = some (.slice A ns.length c) := by go_simp
  have k1 : (w.alloc (.cells #[.slice A ns.length c, .slice B ls.length d] 27)).cell? ⟨w.heap.size, 1, none⟩ = some (.slice B ls.length d) := by go_simp
  have hx : Ext w (w.alloc (.cells #[.slice A ns.length c, .slice B ls.length d] 27)) := (by repeat first | exact Ext.refl _ | assumption | refine Ext.drew ?_ | refine Ext.alloc ?_ _ | refine Ext.setCell ?_ (by simp) | refine Ext.setCell ?_ (by simp; omega) | refine Ext.trans ?_ (by assumption))
  have hsz1 : w.heap.size + 1 = (w.alloc (.cells #[.slice A ns.length c, .slice B ls.length d] 27)).heap.size := by simp
  generalize (w.alloc (.cells #[.slice A ns.length c, .slice B ls.length d] 27)) = w0 at *
  (try rw [hsz1])
  refine (BesideOf_i _ _ _ _ ns ls f _ (h.ext hx)).mono ?_
  rintro e w1 ⟨v, rfl, hl, hb⟩
  rw [HE.out] at hl
  have k0 := hb.lit k0
  have k1 := hb.lit k1
  have hx := hx.trans hb
  clear hb
  generalize hSS : nbN ns ls f = S at *
  have HSS := Lib.hid hSS
  clear hSS
  generalize bitsL S n = l at *
  obtain ⟨Al, cl, rfl, -, -, hin⟩ := hl.shape
  have hX := hX.ext hx
  clear k0 k1 hl
  go_wp2_with fail
  go_loop [10, 15] (fun _ i => ∃ j : Nat, j ≤ l.length ∧ i = .int .i64 j ∧ Hid (fndL l cs x j = none)) (fun _ i => l.length - (intOf i).toNat)
  case atStart => exact ⟨0, by omega, rfl, Lib.hid rfl⟩
  case round =>
    obtain ⟨j, hj, rfl, HO⟩ := hrel
    by_cases hlt : j < l.length
    · have hji : (j : Int) < l.length := by omega
      obtain ⟨a, ea, ha⟩ := HGI.out j hlt
      obtain ⟨bl, ol, rfl, -, y1⟩ := hin.gi_ hlt
      obtain ⟨b', off', e', -, x1⟩ := hX.gi_ (k := a) (by rw [HXL.out]; exact ha)
      obtain ⟨rfl, rfl⟩ : b' = b ∧ off' = off := by simpa [eq_comm] using e'
      have hai : (a : Int) < n := by omega
      rw [ea] at y1
      clear e'
      by_cases hy : gi cs (a : Nat) = x
      · have q : (gi cs (a : Nat) == x) = true := by simp [hy]
        have h1 := fndL_at HO.out (by rw [ea]; exact hy) hlt
        have Hs : Hid ((fstP (hasC S cs x) n).isSome = true) := Lib.hid (by
          have h2 := HFB.out
          rw [h1] at h2
          cases hq : fstP (hasC S cs x) n with
          | some g => rfl
          | none => rw [hq] at h2; cases h2)
        clear hy h1
        generalize gi cs (a : Nat) = z at *
        go_wp2
        go_ret
        exact ⟨ret_b (by rw [HSS.out, Hs.out]), hx⟩
      · have q : (gi cs (a : Nat) == x) = false := by simp [hy]
        have Hs := Lib.hid (fndL_none HO.out (by rw [ea]; exact hy))
        clear hy
        generalize gi cs (a : Nat) = z at *
        go_wp2
        go_round
        case rel => exact ⟨j + 1, by omega, by go_num, Hs⟩
        case measure => simp [intOf]; omega
    · obtain rfl : j = l.length := by omega
      have Hs : Hid ((fstP (hasC S cs x) n).isSome = false) := Lib.hid (by
        have h2 := HFB.out
        rw [HO.out] at h2
        cases hq : fstP (hasC S cs x) n with
        | some g => rw [hq] at h2; cases h2
        | none => rfl)
      go_wp2
      go_ret
      exact ⟨ret_b (by rw [HSS.out, Hs.out]), hx⟩

/-! ### the values -/
def ffG (ns ls : List P2) (xs : List Int) (f : Nat) (x : Int) : Nat := (fstP (hasC (nbN ns ls f) xs x) xs.length).getD 0
def ffL (ns ls : List P2) (xs : List Int) (f : Nat) (x y : Int) : List Int := bitsL (chS ns ls xs (ffG ns ls xs f x) y) xs.length
def ffT (ns ls : List P2) (xs : List Int) (f : Nat) (x y : Int) : List Int := swpL xs (ffG ns ls xs f x : Nat) y (ffL ns ls xs f x y) (ffL ns ls xs f x y).length
def ff1 (ns ls : List P2) (xs : List Int) (f : Nat) (x : Nat) : Bool := ((x : Int) != gi xs (f : Nat)) && !(fstP (hasC (nbN ns ls f) xs (x : Int)) xs.length).isSome
def ff2x (ns ls : List P2) (xs : List Int) (f x y : Nat) : Bool := !((x : Int) == (y : Int)) && (!((x : Int) == gi xs (f : Nat)) && (!((y : Int) == gi xs (f : Nat)) && !(fstP (hasC (nbN ns ls f) (ffT ns ls xs f x y) (x : Int)) xs.length).isSome))
def ff2 (ns ls : List P2) (xs : List Int) (f m p : Nat) : Bool := ff2x ns ls xs f (p / m) (p % m)
theorem ff2_at {ns ls : List P2} {xs : List Int} {f m a c : Nat} (hc : c < m) : ff2 ns ls xs f m (a * m + c) = ff2x ns ls xs f a c := by
  unfold ff2
  rw [show (a * m + c) / m = a by rw [Nat.mul_comm, Nat.mul_add_div (by omega), Nat.div_eq_of_lt hc, Nat.add_zero], show (a * m + c) % m = c by rw [Nat.mul_comm, Nat.mul_add_mod, Nat.mod_eq_of_lt hc]]
def ffV (ns ls : List P2) (xs : List Int) (f m : Nat) (o1 o2 : Option Nat) : List Int × Bool := match o1 with
  | some x => (xs.set f (x : Int), true)
  | none => match o2 with
    | some p => ((ffT ns ls xs f ((p / m : Nat) : Int) ((p % m : Nat) : Int)).set f ((p / m : Nat) : Int), true)
    | none => (xs, false)
def vFreeFace (ns ls : List P2) (xs : List Int) (f n : Int) : List Int × Bool :=
  if vAreProper ns ls xs = true ∧ wi f 0 (xs.length - 1) = true ∧ wi n 2 6 = true then ffV ns ls xs f.toNat n.toNat (fstP (ff1 ns ls xs f.toNat) n.toNat) (fstP (ff2 ns ls xs f.toNat n.toNat) (n.toNat * n.toNat)) else (xs, false)
theorem ffT_len (ns ls : List P2) (xs : List Int) (f : Nat) (x y : Int) : (ffT ns ls xs f x y).length = xs.length := swpL_len _ _ _ _ _
theorem vFreeFace_len (ns ls : List P2) (xs : List Int) (f n : Int) (h : xs.length ≤ 1048576) : (vFreeFace ns ls xs f n).1.length ≤ 1048576 := by
  unfold vFreeFace
  split
  · unfold ffV
    split
    · show (xs.set _ _).length ≤ _
      rw [List.length_set]; exact h
    · split
      · show ((ffT _ _ _ _ _ _).set _ _).length ≤ _
        rw [List.length_set, ffT_len]; exact h
      · exact h
  · exact h
theorem ffG_is {ns ls : List P2} {xs : List Int} {f : Nat} {x : Int} (h : (fstP (hasC (nbN ns ls f) xs x) xs.length).isSome = true) : fstP (hasC (nbN ns ls f) xs x) xs.length = some (ffG ns ls xs f x) ∧ ffG ns ls xs f x < xs.length ∧ gi xs (ffG ns ls xs f x : Nat) = x := by
  unfold ffG
  cases hq : fstP (hasC (nbN ns ls f) xs x) xs.length with
  | none => rw [hq] at h; cases h
  | some g =>
    obtain ⟨h1, h2⟩ := fstP_some hq
    unfold hasC at h2
    simp only [Bool.and_eq_true, beq_iff_eq] at h2
    exact ⟨rfl, h1, h2.2⟩
theorem ff_beside {ns ls : List P2} {xs : List Int} {f m : Nat} (h : fstP (ff1 ns ls xs f) m = none) {x : Nat} (hx : x < m) (hne : (x : Int) ≠ gi xs (f : Nat)) : (fstP (hasC (nbN ns ls f) xs (x : Int)) xs.length).isSome = true := by
  have := fstP_none h x hx
  unfold ff1 at this
  rw [show ((x : Int) != gi xs (f : Nat)) = true by simp [hne]] at this
  simpa using this
theorem swap_val {ns ls : List P2} {xs : List Int} {f : Nat} {x y : Int} (hp : vAreProper ns ls xs = true) (hy : wi y 0 5 = true) (hxy : x ≠ y) (h : (fstP (hasC (nbN ns ls f) xs x) xs.length).isSome = true) : vSwapChain ns ls xs (ffG ns ls xs f x : Nat) y = (ffT ns ls xs f x y, true) := by
  obtain ⟨h1, h2, h3⟩ := ffG_is h
  have e := vChainOf_in hp h2 hy
  have hpos := chS_pos (ns := ns) (ls := ls) (x := y) h2
  unfold vSwapChain
  rw [e, if_neg (by rw [h3]; exact fun e => e.elim (by omega) hxy)]
  rfl
end Go.Proofs.YtdhmjhoaegdfjaaGreat
