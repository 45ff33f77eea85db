/-
  The program's own check of its small table, run by the kernel: it returns true.
-/
import Derived.Test.YtajngkkihadgfaaGreatUa
import Derived.Test.YtajngkkihadgfaaGreatProg
import Derived.KernelRfl
set_option linter.unusedVariables false
set_option linter.unusedSimpArgs false
namespace Go.Proofs.YtajngkkihadgfaaGreat
open Go.Abs
theorem aGf:aNn Go.Proofs.Tryz.prog (tab []) 5000 8 [] (.bool true)=true:=by kernel_rfl
end Go.Proofs.YtajngkkihadgfaaGreat
