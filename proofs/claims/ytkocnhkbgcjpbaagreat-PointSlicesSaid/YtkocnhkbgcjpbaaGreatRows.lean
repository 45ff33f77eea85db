/-
  NARROWER THAN 'FOR EVERY INPUT', by the rows' own cells (each row's printed sentence says how): PointSlices: loops · PointForms: loops · PointBegins: loops.
  DERIVED. THE GIVEN ROWS OF THIS SEAT. 3 by the template 'for every input the law returns true; each argument reads behind the call as it read before'; 0 by the template 'total and deterministic' (their statements: YtkocnhkbgcjpbaaGreatTotals.lean).
  GIVEN WITH THE SEED: the statements are not yours to turn. If you find one false, say at which input.
  Laid BY PROGRAM, IN A SANDBOX (cutbox-rows.mjs): the forced cells as the released guide's own fill.sh prints them over the translation de405467740ea3e1… (all of the seat's roots in one cut). By AI agents, Wed Nov 11 2026. No macro, syntax, notation, axiom, sorry.
-/
import Derived.Test.YtkocnhkbgcjpbaaGreatChecked
import GoSem.Claim
import GoSem.ClaimJoined
import GoSem.ClaimMapViews
import Derived.JoinedTies
import Derived.KernelRfl
namespace Go.Proofs.YtkocnhkbgcjpbaaGreat
/- THE CELL 'sum', in the pinned program and in every row, IS THE sha256 OF THE DUMP (.gsa) THAT YtkocnhkbgcjpbaaGreatProg.lean LOADS. Nothing in Lean hashes anything: it is a label: what it is worth is what the hold of that sum in a sandbox is worth. -/
noncomputable def Tryz.pinned : Pinned := { name := "ytkocnhkbgcjpbaagreat", sum := "de405467740ea3e13e7ab978d3eeca82690e88e7b667c615db49ca1c68d57904", checked := Tryz.checked }
namespace Rows
def none {H : Type} : Left H := { results := [], args := [] }

/-- 'hearthlaw17.PointSlices': WHATEVER THE INPUT: true; the input reads as it did. -/
def pointSlicesSpec : ChangeSpec := { name := "pointSlices", fn := fun _ => fun
  | [d1, d2, d3] => { results := [.lit (.bool true)], args := [d1, d2, d3] }
  | _ => none }
def pointSlicesRow : OpenClaim := { program := "ytkocnhkbgcjpbaagreat", sum := "de405467740ea3e13e7ab978d3eeca82690e88e7b667c615db49ca1c68d57904", func := "hearth/hearthlaw17.PointSlices", spec := "pointSlices", unfollowed := true, recurses := true, loops := true, apart := false }
def PointSlicesSaid : Prop := pointSlicesRow.holds Tryz.pinned (OpenSpec.ofChange pointSlicesSpec)

/-- ITS FALSE NEIGHBOUR: 'it returns false'. Refute it at one input. -/
def pointSlicesWrong : ChangeSpec := { name := "pointSlices", fn := fun _ => fun
  | [d1, d2, d3] => { results := [.lit (.bool false)], args := [d1, d2, d3] }
  | _ => none }
def PointSlicesWrongFalsely : Prop := pointSlicesRow.holds Tryz.pinned (OpenSpec.ofChange pointSlicesWrong)

/-- 'hearthlaw17.PointForms': WHATEVER THE INPUT: true; the input reads as it did. -/
def pointFormsSpec : ChangeSpec := { name := "pointForms", fn := fun _ => fun
  | [d1, d2] => { results := [.lit (.bool true)], args := [d1, d2] }
  | _ => none }
def pointFormsRow : OpenClaim := { program := "ytkocnhkbgcjpbaagreat", sum := "de405467740ea3e13e7ab978d3eeca82690e88e7b667c615db49ca1c68d57904", func := "hearth/hearthlaw17.PointForms", spec := "pointForms", unfollowed := true, recurses := true, loops := true, apart := false }
def PointFormsSaid : Prop := pointFormsRow.holds Tryz.pinned (OpenSpec.ofChange pointFormsSpec)

/-- ITS FALSE NEIGHBOUR: 'it returns false'. Refute it at one input. -/
def pointFormsWrong : ChangeSpec := { name := "pointForms", fn := fun _ => fun
  | [d1, d2] => { results := [.lit (.bool false)], args := [d1, d2] }
  | _ => none }
def PointFormsWrongFalsely : Prop := pointFormsRow.holds Tryz.pinned (OpenSpec.ofChange pointFormsWrong)

/-- 'hearthlaw17.PointBegins': WHATEVER THE INPUT: true; the input reads as it did. -/
def pointBeginsSpec : ChangeSpec := { name := "pointBegins", fn := fun _ => fun
  | [d1, d2, d3] => { results := [.lit (.bool true)], args := [d1, d2, d3] }
  | _ => none }
def pointBeginsRow : OpenClaim := { program := "ytkocnhkbgcjpbaagreat", sum := "de405467740ea3e13e7ab978d3eeca82690e88e7b667c615db49ca1c68d57904", func := "hearth/hearthlaw17.PointBegins", spec := "pointBegins", unfollowed := true, recurses := true, loops := true, apart := false }
def PointBeginsSaid : Prop := pointBeginsRow.holds Tryz.pinned (OpenSpec.ofChange pointBeginsSpec)

/-- ITS FALSE NEIGHBOUR: 'it returns false'. Refute it at one input. -/
def pointBeginsWrong : ChangeSpec := { name := "pointBegins", fn := fun _ => fun
  | [d1, d2, d3] => { results := [.lit (.bool false)], args := [d1, d2, d3] }
  | _ => none }
def PointBeginsWrongFalsely : Prop := pointBeginsRow.holds Tryz.pinned (OpenSpec.ofChange pointBeginsWrong)

/- THE SECOND FORM. 'bulk': how many values and letters a reading holds, each counted each time it is reached (what is shared counts as often as it is met; a slice's spare places count too). A statement '..UptoSaid' is the law's where the arguments, and the package variables that the reading takes, are together of bulk at most 1048576: NARROWER than '..Said'. Prove '..Said' where nothing that the law and all that it calls make is longer than what came in: it says more and counts as full. Else prove '..UptoSaid'. A law counts once. -/
mutual
def uptoBulk {H : Type} : DataW H → Nat
  | .lit (.string bytes) => bytes.length + 1
  | .lit _ => 1
  | .nil => 1
  | .ptr d => uptoBulk d + 1
  | .slice elems spare => uptoBulkAll elems + uptoBulkAll spare + 1
  | .agg parts => uptoBulkAll parts + 1
  | .iface _ d => uptoBulk d + 1
  | .map entries => uptoBulkEntries entries + 1
  | .held _ => 1
def uptoBulkAll {H : Type} : List (DataW H) → Nat
  | [] => 0
  | d :: r => uptoBulk d + uptoBulkAll r
def uptoBulkEntries {H : Type} : List (Lit × DataW H) → Nat
  | [] => 0
  | x :: r => uptoBulkEntry x + uptoBulkEntries r
def uptoBulkEntry {H : Type} : Lit × DataW H → Nat
  | (.string bytes, d) => bytes.length + uptoBulk d + 1
  | (_, d) => uptoBulk d + 1
 end
def uptoSmall : (H : Type) → List (DataW H) → Bool := fun _ ds => decide (uptoBulkAll ds ≤ 1048576)
def OpenSpec.upto (s : _root_.Go.ChangeSpec) : _root_.Go.OpenSpec := { _root_.Go.OpenSpec.ofChange s with cond := some uptoSmall }

/-- 'hearthlaw17.PointSlices', WHERE WHAT IT READS IS OF BULK AT MOST 1048576: true; the input reads as it did. -/
def pointSlicesUptoRow : OpenClaim := { program := "ytkocnhkbgcjpbaagreat", sum := "de405467740ea3e13e7ab978d3eeca82690e88e7b667c615db49ca1c68d57904", func := "hearth/hearthlaw17.PointSlices", spec := "pointSlices", unfollowed := true, recurses := true, loops := true, apart := false, narrowed := true }
def PointSlicesUptoSaid : Prop := pointSlicesUptoRow.holds Tryz.pinned (OpenSpec.upto pointSlicesSpec)

/-- 'hearthlaw17.PointForms', WHERE WHAT IT READS IS OF BULK AT MOST 1048576: true; the input reads as it did. -/
def pointFormsUptoRow : OpenClaim := { program := "ytkocnhkbgcjpbaagreat", sum := "de405467740ea3e13e7ab978d3eeca82690e88e7b667c615db49ca1c68d57904", func := "hearth/hearthlaw17.PointForms", spec := "pointForms", unfollowed := true, recurses := true, loops := true, apart := false, narrowed := true }
def PointFormsUptoSaid : Prop := pointFormsUptoRow.holds Tryz.pinned (OpenSpec.upto pointFormsSpec)

/-- 'hearthlaw17.PointBegins', WHERE WHAT IT READS IS OF BULK AT MOST 1048576: true; the input reads as it did. -/
def pointBeginsUptoRow : OpenClaim := { program := "ytkocnhkbgcjpbaagreat", sum := "de405467740ea3e13e7ab978d3eeca82690e88e7b667c615db49ca1c68d57904", func := "hearth/hearthlaw17.PointBegins", spec := "pointBegins", unfollowed := true, recurses := true, loops := true, apart := false, narrowed := true }
def PointBeginsUptoSaid : Prop := pointBeginsUptoRow.holds Tryz.pinned (OpenSpec.upto pointBeginsSpec)

end Rows
end Go.Proofs.YtkocnhkbgcjpbaaGreat
