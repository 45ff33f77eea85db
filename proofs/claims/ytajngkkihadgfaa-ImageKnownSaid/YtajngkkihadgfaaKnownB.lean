/-
  The law without arguments, run by the kernel on what the program's own check returns.
-/
import Derived.Test.YtajngkkihadgfaaDa
import Derived.Test.YtajngkkihadgfaaProg
import Derived.KernelRfl
namespace Go.Proofs.Ytajngkkihadgfaa
open Go.Abs
theorem runKnown : dval Go.Proofs.Try.prog [(8, [], .bool true)] 5000 7 [] (.bool true) = true := by kernel_rfl
end Go.Proofs.Ytajngkkihadgfaa
