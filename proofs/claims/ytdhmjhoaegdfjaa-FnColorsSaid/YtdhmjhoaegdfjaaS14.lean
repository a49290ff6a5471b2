import Derived.Test.YtdhmjhoaegdfjaaG13
namespace Go.Proofs.Ytdhmjhoaegdfjaa
open Go.RowKit Go.Sort Go.BigFrame
set_option maxRecDepth 100000 in
set_option maxHeartbeats 8000000 in
theorem SampleWindow_i (w : World) :
    Calls Try.prog 19 #[] w fun e w' => ∃ v1 v2, e = .returned (.agg #[v1, v2]) ∧ OwP w' w.heap.size 52 v1 shN0 ∧ OwP w' w.heap.size 67 v2 shL0 ∧ Ext w w' := by
  go_enter Try.func19, Try.ntmps19
  go_upto_region 1 with fail
  have HR := Lib.hid (Bk.new (w := w) (g := w.heap.size) 27 [.slice none 0 0, .slice none 0 0] rfl)
  have hx := (Ext.refl w).alloc (.cells #[.slice none 0 0, .slice none 0 0] 27)
  change Hid (Bk (w.alloc (.cells #[.slice none 0 0, .slice none 0 0] 27)) w.heap.size 27 [.slice none 0 0, .slice none 0 0]) at HR
  generalize (w.alloc (.cells #[.slice none 0 0, .slice none 0 0] 27)) = w0 at *
  have HX := Lib.hid hx
  clear hx
  generalize hg0 : w.heap.size = g0 at *
  have HG := Lib.hid hg0
  clear hg0
  have hlt := HR.out.lt
  have r0 := HR.out.cell 0
  have r1 := HR.out.cell 1
  have f0 := HR.out.froz 0
  have f1 := HR.out.froz 1
  simp only [List.getElem?_cons_zero, List.getElem?_cons_succ] at r0 r1
  have q0 : ∀ X Y : Obj, ((w0.alloc X).alloc Y).cell? ⟨g0, 0, none⟩ = some (.slice none 0 0) := fun X Y => (((Ext.refl w0).alloc X).alloc Y).lit (HR.out.cell 0)
  have q1 : ∀ X Y : Obj, ((w0.alloc X).alloc Y).cell? ⟨g0, 1, none⟩ = some (.slice none 0 0) := fun X Y => (((Ext.refl w0).alloc X).alloc Y).lit (HR.out.cell 1)
  have p0 : ∀ X Y : Obj, ((w0.alloc X).alloc Y).frozen? ⟨g0, 0, none⟩ = false := fun X Y => (((Ext.refl w0).alloc X).alloc Y).frz hlt (HR.out.froz 0)
  have p1 : ∀ X Y : Obj, ((w0.alloc X).alloc Y).frozen? ⟨g0, 1, none⟩ = false := fun X Y => (((Ext.refl w0).alloc X).alloc Y).frz hlt (HR.out.froz 1)
  go_wp2
  (try simp only [Exit.inBlock, Exit.then])
  have sc := fun (v1 v2 : Value) (X Y : Obj) => (shape_cells HR.out v1 v2 X Y).1
  have sd' := fun (v1 v2 : Value) (X Y : Obj) => (shape_cells HR.out v1 v2 X Y).2
  refine bodyPost_ret (by simp [results, Try.results19, go_sem, sc, sd']; try rfl) rfl ?_
  have hE := shape_end HX.out HG.out (.slice (some ⟨w0.heap.size, 0, none⟩) 5 5) (.slice (some ⟨w0.heap.size + 1, 0, none⟩) 8 8) shN0 shL0 (by decide) (by decide) 52 67
  exact ⟨_, _, rfl, hE⟩
end Go.Proofs.Ytdhmjhoaegdfjaa
