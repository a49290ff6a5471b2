import Derived.Test.YtpainmnekgnpeaaChecked
import Derived.KernelRfl
namespace Go.Proofs.Ytpainmnekgnpeaa
theorem mixd : Try.prog.follows .mixedOrders = true := by kernel_rfl
theorem own0 : ownKnob Try.prog.godebug = none := by kernel_rfl
end Go.Proofs.Ytpainmnekgnpeaa
