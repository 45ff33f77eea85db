/-
  The program's own check of its small table, run by the kernel: it returns true.
-/
import Derived.Test.YtajngkkihadgfaaUa
import Derived.Test.YtajngkkihadgfaaProg
import Derived.KernelRfl
set_option linter.unusedVariables false
set_option linter.unusedSimpArgs false
namespace Go.Proofs.Ytajngkkihadgfaa
open Go.Abs
theorem aFd:aMg Go.Proofs.Try.prog (tab []) 5000 8 [] (.bool true)=true:=by kernel_rfl
end Go.Proofs.Ytajngkkihadgfaa
