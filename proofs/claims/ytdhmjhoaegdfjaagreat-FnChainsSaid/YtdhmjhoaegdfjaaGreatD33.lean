import Derived.Test.YtdhmjhoaegdfjaaGreatD32
namespace Go.Proofs.YtdhmjhoaegdfjaaGreat
open Go.RowKit Go.Sort Go.BigFrame

theorem ret_vb {v : Value} {a b : Bool} (h : a = b) : Ending.returned (.tuple #[v, .bool a]) = .returned (.tuple #[v, .bool b]) := by rw [h]
theorem bitsL_gi {S n j : Nat} (h : j < (bitsL S n).length) : ∃ a : Nat, gi (bitsL S n) j = a ∧ a < n := by
  have hm := gi_mem h
  unfold bitsL at hm
  obtain ⟨a, ha, e⟩ := List.mem_map.1 hm
  exact ⟨a, e.symm, List.mem_range.1 (List.mem_filter.1 ha).1⟩
theorem vChainOf_le (ns ls : List P2) (xs : List Int) (f x : Int) : (vChainOf ns ls xs f x).length ≤ xs.length := by
  unfold vChainOf
  split
  · exact bitsL_len _ _
  · simp
theorem vChainOf_gi {ns ls : List P2} {xs : List Int} {f x : Int} {j : Nat} (h : j < (vChainOf ns ls xs f x).length) : ∃ a : Nat, gi (vChainOf ns ls xs f x) j = a ∧ a < xs.length := by
  unfold vChainOf at h ⊢
  split at h
  · rename_i hc
    rw [if_pos hc]
    exact bitsL_gi h
  · simp at h
theorem vChainOf_f {ns ls : List P2} {xs : List Int} {f x : Int} (h : 0 < (vChainOf ns ls xs f x).length) : ∃ k : Nat, f = k ∧ k < xs.length := by
  unfold vChainOf at h
  split at h
  · rename_i hc
    obtain ⟨q1, q2⟩ := wi_iff.1 hc.2.1
    obtain ⟨k, rfl⟩ := Int.eq_ofNat_of_zero_le q1
    exact ⟨k, rfl, by omega⟩
  · simp at h
theorem vChainOf_in {ns ls : List P2} {xs : List Int} {k : Nat} {x : Int} (hp : vAreProper ns ls xs = true) (hk : k < xs.length) (hx : wi x 0 5 = true) : vChainOf ns ls xs k x = bitsL (chS ns ls xs k x) xs.length := by
  unfold vChainOf
  rw [if_pos ⟨hp, wi_iff.2 ⟨by omega, by omega⟩, hx⟩, Int.toNat_natCast]
def vSwapChain (ns ls : List P2) (xs : List Int) (f x : Int) : List Int × Bool :=
  if (vChainOf ns ls xs f x).length = 0 ∨ gi xs f = x then (xs, false) else (swpL xs f x (vChainOf ns ls xs f x) (vChainOf ns ls xs f x).length, true)
theorem swpL_step (cs : List Int) (f x : Int) (l : List Int) {j a : Nat} (e : gi l j = a) : swpL cs f x l (j + 1) = (swpL cs f x l j).set a (if gi cs (a : Nat) = x then gi cs f else x) := by
  show (swpL cs f x l j).set (gi l j).toNat (if gi cs (gi l j) = x then gi cs f else x) = _
  rw [e, Int.toNat_natCast]

set_option maxRecDepth 100000 in
set_option maxHeartbeats 8000000 in
theorem SwapChain_i (A B : Option Addr) (c d : Nat) (ns ls : List P2) (X : Option Addr) (xc : Nat) (xs : List Int) (f x : Int) (w : World) (h : Wn w A c B d ns ls) (hX : In w w.heap.size X xs) (hxl : xs.length ≤ 2000000) :
    Calls Tryz.prog 19 #[.agg #[.slice A ns.length c, .slice B ls.length d], .slice X xs.length xc, .int .i64 f, .int .i64 x] w fun e w' => ∃ v, e = .returned (.tuple #[v, .bool (vSwapChain ns ls xs f x).2]) ∧ OwI w' w.heap.size v (vSwapChain ns ls xs f x).1 ∧ Ext w w' := by
  have HV : Hid (vSwapChain ns ls xs f x = if (vChainOf ns ls xs f x).length = 0 ∨ gi xs f = x then (xs, false) else (swpL xs f x (vChainOf ns ls xs f x) (vChainOf ns ls xs f x).length, true)) := Lib.hid rfl
  have HG : Hid (∀ j : Nat, j < (vChainOf ns ls xs f x).length → ∃ a : Nat, gi (vChainOf ns ls xs f x) j = a ∧ a < xs.length) := Lib.hid (fun j hj => vChainOf_gi hj)
  have HF : Hid (0 < (vChainOf ns ls xs f x).length → ∃ k : Nat, f = k ∧ k < xs.length) := Lib.hid vChainOf_f
  have hle := vChainOf_le ns ls xs f x
  go_enter Tryz.func19, Tryz.ntmps19
  go_wp2_with fail
  have k0 : (w.alloc (.cells #[.slice A ns.length c, .slice B ls.length d] 27)).cell? ⟨w.heap.size, 0, none⟩ = some (.slice A ns.length c) := by go_simp
  have k1 : (w.alloc (.cells #[.slice A ns.length c, .slice B ls.length d] 27)).cell? ⟨w.heap.size, 1, none⟩ = some (.slice B ls.length d) := by go_simp
  have hx : Ext w (w.alloc (.cells #[.slice A ns.length c, .slice B ls.length d] 27)) := (by repeat first | exact Ext.refl _ | assumption | refine Ext.drew ?_ | refine Ext.alloc ?_ _ | refine Ext.setCell ?_ (by simp) | refine Ext.setCell ?_ (by simp; omega) | refine Ext.trans ?_ (by assumption))
  have hsz1 : w.heap.size + 1 = (w.alloc (.cells #[.slice A ns.length c, .slice B ls.length d] 27)).heap.size := by simp
  generalize (w.alloc (.cells #[.slice A ns.length c, .slice B ls.length d] 27)) = w0 at *
  (try rw [hsz1])
  have hs0 := hx.size
  refine (copyInts_c X xc xs _ hxl (hX.ext hx)).mono ?_
  rintro e w1 ⟨vo, rfl, ho, hb⟩
  have ho := ho.more hs0
  have hob := ho.blk
  have k0 := hb.lit k0
  have k1 := hb.lit k1
  have hx := hx.trans hb
  clear hb
  have hs1 := hx.size
  go_wp2_with fail
  refine (ChainOf_i0 _ _ _ _ ns ls X xc xs f x _ (h.ext hx) (hX.ext hx) hxl).mono ?_
  rintro e w2 ⟨vl, rfl, hl, hn, hb⟩
  have ho := ho.ext hb
  have k0 := hb.lit k0
  have k1 := hb.lit k1
  have hx := hx.trans hb
  clear hb
  generalize vChainOf ns ls xs f x = l at *
  by_cases hl0 : l.length = 0
  · rw [if_pos (.inl hl0)] at HV
    obtain rfl := hn hl0
    clear hl HG HF hle hl0 hn
    go_wp2
    go_ret2
    exact ⟨_, ret_vb (by rw [HV.out]), by rw [HV.out]; exact ho, hx⟩
  · obtain ⟨k, rfl, hk⟩ := HF.out (by omega)
    obtain ⟨gl, cl, rfl, -, hgl, -, -, -⟩ := hl.gi_ (j := 0) (by omega)
    obtain ⟨go, co, rfl, -, hgo, -, -, -⟩ := ho.gi_ (j := 0) (by omega)
    have hgo1 : go < w1.heap.size := (hob go rfl).2
    have hki : (k : Int) < xs.length := by omega
    obtain ⟨b, off, rfl, hbb, x1⟩ := hX.gi_ hk
    clear hn HF hob
    by_cases hfx : gi xs (k : Nat) = x
    · rw [if_pos (.inr hfx)] at HV
      have hq : (gi xs (k : Nat) == x) = true := by simp [hfx]
      have x1' := hx.lit x1
      clear hfx
      go_wp2
      go_ret2
      exact ⟨_, ret_vb (by rw [HV.out]), by rw [HV.out]; exact ho, hx⟩
    · rw [if_neg (fun e => e.elim hl0 hfx)] at HV
      have hq : (gi xs (k : Nat) == x) = false := by simp [hfx]
      have hi0 : OwI w2 w.heap.size (.slice (some ⟨go, 0, none⟩) xs.length co) (swpL xs k x l 0) := ho
      have x1' := hx.lit x1
      clear hfx ho
      go_wp2_with fail
      go_loopw [13, 34] (fun _ i wr => ∃ j : Nat, j ≤ l.length ∧ i = .int .i64 j ∧ OwI wr w.heap.size (.slice (some ⟨go, 0, none⟩) xs.length co) (swpL xs k x l j) ∧ OwI wr w1.heap.size (.slice (some ⟨gl, 0, none⟩) l.length cl) l ∧ Ext w wr) (fun _ i _ => l.length - (intOf i).toNat)
      case atStart => exact ⟨0, by omega, rfl, hi0, hl, hx⟩
      case round =>
        clear hi0 hl hx k0 k1 hq x1'
        obtain ⟨j, hj, rfl, hv, hl, hx⟩ := hrel
        obtain ⟨w4, rfl⟩ : ∃ x : World, x = wr := ⟨_, rfl⟩
        by_cases hlt : j < l.length
        · skip
          obtain ⟨a, ea, ha⟩ := HG.out j hlt
          have hji : (j : Int) < l.length := by omega
          have hai : (a : Int) < xs.length := by omega
          have HS := Lib.hid (swpL_step xs k x l ea)
          have hXr := hX.ext hx
          obtain ⟨b', off', e', hbb', x2⟩ := hXr.gi_ ha
          obtain ⟨rfl, rfl⟩ : b' = b ∧ off' = off := by simpa [eq_comm] using e'
          have x1 := hx.lit x1
          obtain ⟨s1, s2⟩ := hv.cel (j := a) (by rw [swpL_len]; exact ha)
          clear e' hbb' hXr
          have y1 := (hl.cel hlt).1
          rw [ea] at y1
          have hyg : gl ≠ go := by omega
          by_cases hax : gi xs (a : Nat) = x
          · have hq : (gi xs (a : Nat) == x) = true := by simp [hax]
            have Hset := Lib.hid (hv.set_ (swpL_len xs k x l j).symm a (gi xs (k : Nat)))
            have Hl := Lib.hid (hl.gb (gb_set (gb_refl _ (some go)) a (.int .i64 (gi xs (k : Nat)))) (fun q hq e => by simp [Value.ownBlock] at hq; injection e with e; omega))
            rw [if_pos hax] at HS
            clear hax
            go_wp2
            go_roundw
            case rel => exact ⟨j + 1, by omega, by go_num, by rw [HS.out]; exact Hset.out, Hl.out, Ext.setCell (p := ⟨go, a, none⟩) hx hgo⟩
            case measure => first | (simp [intOf]; done) | (simp [intOf]; omega)
          · have hq : (gi xs (a : Nat) == x) = false := by simp [hax]
            have Hset := Lib.hid (hv.set_ (swpL_len xs k x l j).symm a x)
            have Hl := Lib.hid (hl.gb (gb_set (gb_refl _ (some go)) a (.int .i64 x)) (fun q hq e => by simp [Value.ownBlock] at hq; injection e with e; omega))
            rw [if_neg hax] at HS
            clear hax
            go_wp2
            go_roundw
            case rel => exact ⟨j + 1, by omega, by go_num, by rw [HS.out]; exact Hset.out, Hl.out, Ext.setCell (p := ⟨go, a, none⟩) hx hgo⟩
            case measure => first | (simp [intOf]; done) | (simp [intOf]; omega)
        · obtain rfl : j = l.length := by omega
          go_wp2
          go_ret2
          exact ⟨_, ret_vb (by rw [HV.out]), by rw [HV.out]; exact hv, hx⟩

end Go.Proofs.YtdhmjhoaegdfjaaGreat
