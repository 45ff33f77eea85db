/-
  No cell of these rows narrows 'for every input' (looked for: loops, veiled, ifaces, maps, wideKeys, modest, calm, conditions, laid).
  DERIVED. THE GIVEN ROWS OF THIS SEAT. 2 by the template 'for every input the law returns true; each argument reads behind the call as it read before'; 0 by the template 'total and deterministic' (their statements: YtglnkngifepmhaaGreatTotals.lean).
  GIVEN WITH THE SEED: the statements are not yours to turn. If you find one false, say at which input.
  Laid BY PROGRAM, IN A SANDBOX (cutbox-rows.mjs): the forced cells as the released guide's own fill.sh prints them over the translation d596d8eb1edd7ec1… (all of the seat's roots in one cut). By AI agents, Wed Nov 11 2026. No macro, syntax, notation, axiom, sorry.
-/
import Derived.Test.YtglnkngifepmhaaGreatChecked
import GoSem.Claim
import GoSem.ClaimJoined
import GoSem.ClaimMapViews
import Derived.JoinedTies
import Derived.KernelRfl
namespace Go.Proofs.YtglnkngifepmhaaGreat
/- THE CELL 'sum', in the pinned program and in every row, IS THE sha256 OF THE DUMP (.gsa) THAT YtglnkngifepmhaaGreatProg.lean LOADS. Nothing in Lean hashes anything: it is a label: what it is worth is what the hold of that sum in a sandbox is worth. -/
noncomputable def Tryz.pinned : Pinned := { name := "ytglnkngifepmhaagreat", sum := "d596d8eb1edd7ec1199f1c3456ee99111bd9ab9e932533c8598516cfbcb5a434", checked := Tryz.checked }
namespace Rows
def none {H : Type} : Left H := { results := [], args := [] }

/-- 'hearthlaw24.RightKnown': WHATEVER THE INPUT: true; the input reads as it did. -/
def rightKnownSpec : ChangeSpec := { name := "rightKnown", fn := fun _ => fun
  | [] => { results := [.lit (.bool true)], args := [] }
  | _ => none }
def rightKnownRow : OpenClaim := { program := "ytglnkngifepmhaagreat", sum := "d596d8eb1edd7ec1199f1c3456ee99111bd9ab9e932533c8598516cfbcb5a434", func := "hearth/hearthlaw24.RightKnown", spec := "rightKnown", unfollowed := true, recurses := true, apart := false }
def RightKnownSaid : Prop := rightKnownRow.holds Tryz.pinned (OpenSpec.ofChange rightKnownSpec)

/-- ITS FALSE NEIGHBOUR: 'it returns false'. Refute it at one input. -/
def rightKnownWrong : ChangeSpec := { name := "rightKnown", fn := fun _ => fun
  | [] => { results := [.lit (.bool false)], args := [] }
  | _ => none }
def RightKnownWrongFalsely : Prop := rightKnownRow.holds Tryz.pinned (OpenSpec.ofChange rightKnownWrong)

/-- 'hearthlaw21.MoveKnown': WHATEVER THE INPUT: true; the input reads as it did. -/
def moveKnownSpec : ChangeSpec := { name := "moveKnown", fn := fun _ => fun
  | [] => { results := [.lit (.bool true)], args := [] }
  | _ => none }
def moveKnownRow : OpenClaim := { program := "ytglnkngifepmhaagreat", sum := "d596d8eb1edd7ec1199f1c3456ee99111bd9ab9e932533c8598516cfbcb5a434", func := "hearth/hearthlaw21.MoveKnown", spec := "moveKnown", unfollowed := true, recurses := true, apart := false }
def MoveKnownSaid : Prop := moveKnownRow.holds Tryz.pinned (OpenSpec.ofChange moveKnownSpec)

/-- ITS FALSE NEIGHBOUR: 'it returns false'. Refute it at one input. -/
def moveKnownWrong : ChangeSpec := { name := "moveKnown", fn := fun _ => fun
  | [] => { results := [.lit (.bool false)], args := [] }
  | _ => none }
def MoveKnownWrongFalsely : Prop := moveKnownRow.holds Tryz.pinned (OpenSpec.ofChange moveKnownWrong)

/- THE SECOND FORM. 'bulk': how many values and letters a reading holds, each counted each time it is reached (what is shared counts as often as it is met; a slice's spare places count too). A statement '..UptoSaid' is the law's where the arguments, and the package variables that the reading takes, are together of bulk at most 1048576: NARROWER than '..Said'. Prove '..Said' where nothing that the law and all that it calls make is longer than what came in: it says more and counts as full. Else prove '..UptoSaid'. A law counts once. -/
mutual
def uptoBulk {H : Type} : DataW H → Nat
  | .lit (.string bytes) => bytes.length + 1
  | .lit _ => 1
  | .nil => 1
  | .ptr d => uptoBulk d + 1
  | .slice elems spare => uptoBulkAll elems + uptoBulkAll spare + 1
  | .agg parts => uptoBulkAll parts + 1
  | .iface _ d => uptoBulk d + 1
  | .map entries => uptoBulkEntries entries + 1
  | .held _ => 1
def uptoBulkAll {H : Type} : List (DataW H) → Nat
  | [] => 0
  | d :: r => uptoBulk d + uptoBulkAll r
def uptoBulkEntries {H : Type} : List (Lit × DataW H) → Nat
  | [] => 0
  | x :: r => uptoBulkEntry x + uptoBulkEntries r
def uptoBulkEntry {H : Type} : Lit × DataW H → Nat
  | (.string bytes, d) => bytes.length + uptoBulk d + 1
  | (_, d) => uptoBulk d + 1
 end
def uptoSmall : (H : Type) → List (DataW H) → Bool := fun _ ds => decide (uptoBulkAll ds ≤ 1048576)
def OpenSpec.upto (s : _root_.Go.ChangeSpec) : _root_.Go.OpenSpec := { _root_.Go.OpenSpec.ofChange s with cond := some uptoSmall }

/-- 'hearthlaw24.RightKnown', WHERE WHAT IT READS IS OF BULK AT MOST 1048576: true; the input reads as it did. -/
def rightKnownUptoRow : OpenClaim := { program := "ytglnkngifepmhaagreat", sum := "d596d8eb1edd7ec1199f1c3456ee99111bd9ab9e932533c8598516cfbcb5a434", func := "hearth/hearthlaw24.RightKnown", spec := "rightKnown", unfollowed := true, recurses := true, apart := false, narrowed := true }
def RightKnownUptoSaid : Prop := rightKnownUptoRow.holds Tryz.pinned (OpenSpec.upto rightKnownSpec)

/-- 'hearthlaw21.MoveKnown', WHERE WHAT IT READS IS OF BULK AT MOST 1048576: true; the input reads as it did. -/
def moveKnownUptoRow : OpenClaim := { program := "ytglnkngifepmhaagreat", sum := "d596d8eb1edd7ec1199f1c3456ee99111bd9ab9e932533c8598516cfbcb5a434", func := "hearth/hearthlaw21.MoveKnown", spec := "moveKnown", unfollowed := true, recurses := true, apart := false, narrowed := true }
def MoveKnownUptoSaid : Prop := moveKnownUptoRow.holds Tryz.pinned (OpenSpec.upto moveKnownSpec)

end Rows
end Go.Proofs.YtglnkngifepmhaaGreat
