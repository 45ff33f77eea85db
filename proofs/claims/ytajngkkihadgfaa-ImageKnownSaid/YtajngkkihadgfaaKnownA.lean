/-
  The program's own check of its small table, run by the kernel: it returns true.
-/
import Derived.Test.YtajngkkihadgfaaDa
import Derived.Test.YtajngkkihadgfaaProg
import Derived.KernelRfl
namespace Go.Proofs.Ytajngkkihadgfaa
open Go.Abs
theorem runWorks : dval Go.Proofs.Try.prog [] 5000 8 [] (.bool true) = true := by kernel_rfl
end Go.Proofs.Ytajngkkihadgfaa
