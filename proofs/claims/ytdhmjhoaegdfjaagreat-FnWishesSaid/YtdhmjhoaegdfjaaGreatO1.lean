import Derived.Test.YtdhmjhoaegdfjaaGreatChecked
import Derived.KernelRfl
import Derived.JoinedOf
namespace Go.Proofs.YtdhmjhoaegdfjaaGreat
/-! The dump's first line, letter by letter. -/
set_option maxRecDepth 100000 in
def initC : List Char := [Char.ofNat 104, Char.ofNat 97, Char.ofNat 114, Char.ofNat 110, Char.ofNat 101, Char.ofNat 115, Char.ofNat 115, Char.ofNat 32, Char.ofNat 56, Char.ofNat 101, Char.ofNat 57, Char.ofNat 101, Char.ofNat 57, Char.ofNat 50, Char.ofNat 100, Char.ofNat 54, Char.ofNat 100, Char.ofNat 100, Char.ofNat 100, Char.ofNat 50, Char.ofNat 100, Char.ofNat 102, Char.ofNat 50, Char.ofNat 50, Char.ofNat 98, Char.ofNat 51, Char.ofNat 48, Char.ofNat 97, Char.ofNat 102, Char.ofNat 53, Char.ofNat 51, Char.ofNat 55, Char.ofNat 97, Char.ofNat 100, Char.ofNat 53, Char.ofNat 56, Char.ofNat 52, Char.ofNat 53, Char.ofNat 48, Char.ofNat 55, Char.ofNat 102, Char.ofNat 56, Char.ofNat 102, Char.ofNat 55, Char.ofNat 101, Char.ofNat 54, Char.ofNat 57, Char.ofNat 98, Char.ofNat 52, Char.ofNat 101, Char.ofNat 102, Char.ofNat 100, Char.ofNat 97, Char.ofNat 102, Char.ofNat 100, Char.ofNat 99, Char.ofNat 99, Char.ofNat 100, Char.ofNat 50, Char.ofNat 102, Char.ofNat 50, Char.ofNat 56, Char.ofNat 54, Char.ofNat 99, Char.ofNat 48, Char.ofNat 100, Char.ofNat 48, Char.ofNat 51, Char.ofNat 53, Char.ofNat 52, Char.ofNat 48, Char.ofNat 48, Char.ofNat 32, Char.ofNat 99, Char.ofNat 117, Char.ofNat 116, Char.ofNat 32, Char.ofNat 97, Char.ofNat 116, Char.ofNat 32, Char.ofNat 108, Char.ofNat 111, Char.ofNat 111, Char.ofNat 112, Char.ofNat 46, Char.ofNat 101, Char.ofNat 120, Char.ofNat 97, Char.ofNat 109, Char.ofNat 112, Char.ofNat 108, Char.ofNat 101, Char.ofNat 47, Char.ofNat 103, Char.ofNat 48, Char.ofNat 51, Char.ofNat 51, Char.ofNat 48, Char.ofNat 51, Char.ofNat 47, Char.ofNat 108, Char.ofNat 97, Char.ofNat 119, Char.ofNat 115, Char.ofNat 46, Char.ofNat 70, Char.ofNat 110, Char.ofNat 87, Char.ofNat 105, Char.ofNat 115, Char.ofNat 104, Char.ofNat 101, Char.ofNat 115, Char.ofNat 32, Char.ofNat 108, Char.ofNat 111, Char.ofNat 111, Char.ofNat 112, Char.ofNat 46, Char.ofNat 101, Char.ofNat 120, Char.ofNat 97, Char.ofNat 109, Char.ofNat 112, Char.ofNat 108, Char.ofNat 101, Char.ofNat 47, Char.ofNat 103, Char.ofNat 48, Char.ofNat 51, Char.ofNat 51, Char.ofNat 48, Char.ofNat 51, Char.ofNat 47, Char.ofNat 108, Char.ofNat 97, Char.ofNat 119, Char.ofNat 115, Char.ofNat 46, Char.ofNat 70, Char.ofNat 110, Char.ofNat 67, Char.ofNat 104, Char.ofNat 97, Char.ofNat 105, Char.ofNat 110, Char.ofNat 115]
set_option maxRecDepth 100000 in
theorem initL : Tryz.prog.initOrder = String.ofList [Char.ofNat 104, Char.ofNat 97, Char.ofNat 114, Char.ofNat 110, Char.ofNat 101, Char.ofNat 115, Char.ofNat 115, Char.ofNat 32, Char.ofNat 56, Char.ofNat 101, Char.ofNat 57, Char.ofNat 101, Char.ofNat 57, Char.ofNat 50, Char.ofNat 100, Char.ofNat 54, Char.ofNat 100, Char.ofNat 100, Char.ofNat 100, Char.ofNat 50, Char.ofNat 100, Char.ofNat 102, Char.ofNat 50, Char.ofNat 50, Char.ofNat 98, Char.ofNat 51, Char.ofNat 48, Char.ofNat 97, Char.ofNat 102, Char.ofNat 53, Char.ofNat 51, Char.ofNat 55, Char.ofNat 97, Char.ofNat 100, Char.ofNat 53, Char.ofNat 56, Char.ofNat 52, Char.ofNat 53, Char.ofNat 48, Char.ofNat 55, Char.ofNat 102, Char.ofNat 56, Char.ofNat 102, Char.ofNat 55, Char.ofNat 101, Char.ofNat 54, Char.ofNat 57, Char.ofNat 98, Char.ofNat 52, Char.ofNat 101, Char.ofNat 102, Char.ofNat 100, Char.ofNat 97, Char.ofNat 102, Char.ofNat 100, Char.ofNat 99, Char.ofNat 99, Char.ofNat 100, Char.ofNat 50, Char.ofNat 102, Char.ofNat 50, Char.ofNat 56, Char.ofNat 54, Char.ofNat 99, Char.ofNat 48, Char.ofNat 100, Char.ofNat 48, Char.ofNat 51, Char.ofNat 53, Char.ofNat 52, Char.ofNat 48, Char.ofNat 48, Char.ofNat 32, Char.ofNat 99, Char.ofNat 117, Char.ofNat 116, Char.ofNat 32, Char.ofNat 97, Char.ofNat 116, Char.ofNat 32, Char.ofNat 108, Char.ofNat 111, Char.ofNat 111, Char.ofNat 112, Char.ofNat 46, Char.ofNat 101, Char.ofNat 120, Char.ofNat 97, Char.ofNat 109, Char.ofNat 112, Char.ofNat 108, Char.ofNat 101, Char.ofNat 47, Char.ofNat 103, Char.ofNat 48, Char.ofNat 51, Char.ofNat 51, Char.ofNat 48, Char.ofNat 51, Char.ofNat 47, Char.ofNat 108, Char.ofNat 97, Char.ofNat 119, Char.ofNat 115, Char.ofNat 46, Char.ofNat 70, Char.ofNat 110, Char.ofNat 87, Char.ofNat 105, Char.ofNat 115, Char.ofNat 104, Char.ofNat 101, Char.ofNat 115, Char.ofNat 32, Char.ofNat 108, Char.ofNat 111, Char.ofNat 111, Char.ofNat 112, Char.ofNat 46, Char.ofNat 101, Char.ofNat 120, Char.ofNat 97, Char.ofNat 109, Char.ofNat 112, Char.ofNat 108, Char.ofNat 101, Char.ofNat 47, Char.ofNat 103, Char.ofNat 48, Char.ofNat 51, Char.ofNat 51, Char.ofNat 48, Char.ofNat 51, Char.ofNat 47, Char.ofNat 108, Char.ofNat 97, Char.ofNat 119, Char.ofNat 115, Char.ofNat 46, Char.ofNat 70, Char.ofNat 110, Char.ofNat 67, Char.ofNat 104, Char.ofNat 97, Char.ofNat 105, Char.ofNat 110, Char.ofNat 115] := by kernel_rfl
set_option maxRecDepth 100000 in
theorem initW : Tryz.prog.initOrder.toList = initC := (congrArg String.toList initL).trans String.toList_ofList
def initR : List (List Char) := (behindMainWord (wordsSigns initC)).tail
theorem initD : behindMainWord (wordsSigns initC) = "cut".toList :: initR := by kernel_rfl
theorem initB : behindMainWord (wordsSigns Tryz.prog.initOrder.toList) = "cut".toList :: initR := (congrArg (fun x => behindMainWord (wordsSigns x)) initW).trans initD
theorem strip_cut (r : List (List Char)) : stripLifts liftWords ("cut".toList :: r) = ([], "cut".toList :: r) := by kernel_rfl
theorem make_cut {P : Program} {r : List (List Char)} (h : behindMainWord (wordsSigns P.initOrder.toList) = "cut".toList :: r) : P.make = some .cut := by
  unfold Program.make
  rw [h]
  show (if ("cut".toList == "gc".toList || "cut".toList == "spec".toList) = true then _ else _) = _
  rw [if_neg (by decide +kernel)]
  show (if (true || ("cut".toList == "finals".toList && r.head? == some "cut".toList)) = true then _ else _) = _
  rw [if_pos (by rfl)]
theorem final_cut {P : Program} {r : List (List Char)} (h : behindMainWord (wordsSigns P.initOrder.toList) = "cut".toList :: r) : P.liftsFinal = false := by
  unfold Program.liftsFinal Program.headLifts
  rw [h, strip_cut]
  kernel_rfl
theorem enter_cut {P : Program} {r : List (List Char)} (h : behindMainWord (wordsSigns P.initOrder.toList) = "cut".toList :: r) (h1 : P.laysLater = false) (h2 : P.bearsReflect = false) (h3 : P.doorFits [] = true) : P.mayEnter = true := by
  unfold Program.mayEnter
  rw [h]
  simp only [strip_cut, h1, h2, h3]
  kernel_rfl
theorem initM : Tryz.prog.mayEnter = true := enter_cut initB (by kernel_rfl) (by kernel_rfl) (by kernel_rfl)
theorem initF : Tryz.prog.liftsFinal = false := final_cut initB
theorem initK : Tryz.prog.make = some .cut := make_cut initB
end Go.Proofs.YtdhmjhoaegdfjaaGreat
