import Derived.Test.YtdhmjhoaegdfjaaG15
import Derived.Test.YtdhmjhoaegdfjaaG13
import Derived.Test.YtdhmjhoaegdfjaaX1
namespace Go.Proofs.Ytdhmjhoaegdfjaa
open Go.RowKit Go.Sort Go.BigFrame Pl
set_option maxRecDepth 100000 in
set_option maxHeartbeats 4000000 in
theorem TotalArea_s (A B : Option Addr) (c d : Nat) (ns ls : List P2) (w : World) (h : Wn w A c B d ns ls) :
    Calls Try.prog 55 #[.agg #[.slice A ns.length c, .slice B ls.length d]] w fun e w' => e = .returned (.int .i64 (vTotal ns ls)) ∧ Ext w w' := by
  go_enter Try.func55, Try.ntmps55
  go_upto_region 1 with fail
  have k0 : (w.alloc (.cells #[.slice A ns.length c, .slice B ls.length d] 27)).cell? ⟨w.heap.size, 0, none⟩ = some (.slice A ns.length c) := by go_simp
  have k1 : (w.alloc (.cells #[.slice A ns.length c, .slice B ls.length d] 27)).cell? ⟨w.heap.size, 1, none⟩ = some (.slice B ls.length d) := by go_simp
  have hx : Ext w (w.alloc (.cells #[.slice A ns.length c, .slice B ls.length d] 27)) := (by repeat first | exact Ext.refl _ | assumption | refine Ext.drew ?_ | refine Ext.alloc ?_ _ | refine Ext.setCell ?_ (by simp) | refine Ext.setCell ?_ (by simp; omega) | refine Ext.trans ?_ (by assumption))
  have hsz1 : w.heap.size + 1 = (w.alloc (.cells #[.slice A ns.length c, .slice B ls.length d] 27)).heap.size := by simp
  generalize (w.alloc (.cells #[.slice A ns.length c, .slice B ls.length d] 27)) = w0 at *
  (try rw [hsz1])
  have d0 := cell_regrown k0
  have d1 := cell_regrown k1
  refine rx_open [(true, 0, some 3, 2), (true, 0, some 4, 2), (false, 2, some 5, 16), (false, 5, some 6, 40), (true, 15, some 2, 64)] 0 5 mixd rfl (by kernel_rfl) (by kernel_rfl) (by kernel_rfl) ?_
  refine rx_run (run := [0, 1]) (k := 3) (m' := 3) rfl (by kernel_rfl) (by kernel_rfl) (by kernel_rfl) (fm_cons rfl <| fm_cons rfl <| List.filterMap_nil) (by repeat first | exact Ext.refl _ | assumption | refine Ext.drew ?_ | refine Ext.alloc ?_ _ | refine Ext.setCell ?_ (by simp) | refine Ext.setCell ?_ (by simp; omega) | refine Ext.trans ?_ (by assumption)) ?_
  repeat (go_big_quiet_step ((fail)))
  refine wpQuiet_nil ?_
  refine rx_op 2 (k := 2) (m' := 7) rfl rfl (by kernel_rfl) (by kernel_rfl) ?_
  go_wp2_with ((go_at_call 45; refine (OuterFace_s _ _ _ _ ns ls _ (h.ext (hx.trans (by repeat first | exact Ext.refl _ | assumption | refine Ext.drew ?_ | refine Ext.alloc ?_ _ | refine Ext.setCell ?_ (by simp) | refine Ext.setCell ?_ (by simp; omega) | refine Ext.trans ?_ (by assumption))))).mono ?_; rintro e w5 ⟨rfl, hb5⟩))
  refine rx_on (by repeat first | exact Ext.refl _ | assumption | refine Ext.drew ?_ | refine Ext.alloc ?_ _ | refine Ext.setCell ?_ (by simp) | refine Ext.setCell ?_ (by simp; omega) | refine Ext.trans ?_ (by assumption)) ?_
  refine rx_op 3 (k := 1) (m' := 15) rfl rfl (by kernel_rfl) (by kernel_rfl) ?_
  go_wp2_with ((go_at_call 44; refine (AreaOf_s _ _ _ _ ns ls _ _ (h.ext (hx.trans (by repeat first | exact Ext.refl _ | assumption | refine Ext.drew ?_ | refine Ext.alloc ?_ _ | refine Ext.setCell ?_ (by simp) | refine Ext.setCell ?_ (by simp; omega) | refine Ext.trans ?_ (by assumption))))).mono ?_; rintro e w6 ⟨rfl, hb6⟩))
  refine rx_on (by repeat first | exact Ext.refl _ | assumption | refine Ext.drew ?_ | refine Ext.alloc ?_ _ | refine Ext.setCell ?_ (by simp) | refine Ext.setCell ?_ (by simp; omega) | refine Ext.trans ?_ (by assumption)) ?_
  refine rx_run (run := [4]) (k := 0) (m' := 31) rfl (by kernel_rfl) (by kernel_rfl) (by kernel_rfl) (fm_cons rfl <| List.filterMap_nil) (by repeat first | exact Ext.refl _ | assumption | refine Ext.drew ?_ | refine Ext.alloc ?_ _ | refine Ext.setCell ?_ (by simp) | refine Ext.setCell ?_ (by simp; omega) | refine Ext.trans ?_ (by assumption)) ?_
  repeat (go_big_quiet_step ((fail)))
  refine wpQuiet_nil ?_
  refine rx_end (by kernel_rfl) ?_
  go_wp2
  go_ret
  exact ⟨rfl, hx.trans (by repeat first | exact Ext.refl _ | assumption | refine Ext.drew ?_ | refine Ext.alloc ?_ _ | refine Ext.setCell ?_ (by simp) | refine Ext.setCell ?_ (by simp; omega) | refine Ext.trans ?_ (by assumption))⟩
end Go.Proofs.Ytdhmjhoaegdfjaa
