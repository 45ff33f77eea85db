/-
  NARROWER THAN 'FOR EVERY INPUT', by the rows' own cells (each row's printed sentence says how): RightReaches: loops · RightOnly: loops · RightCodes: loops.
  DERIVED. THE GIVEN ROWS OF THIS SEAT. 3 by the template 'for every input the law returns true; each argument reads behind the call as it read before'; 0 by the template 'total and deterministic' (their statements: YtdipddlhenoglaaGreatTotals.lean).
  GIVEN WITH THE SEED: the statements are not yours to turn. If you find one false, say at which input.
  Laid BY PROGRAM, IN A SANDBOX (cutbox-rows.mjs): the forced cells as the released guide's own fill.sh prints them over the translation e5b83325a3d5b583… (all of the seat's roots in one cut). By AI agents, Wed Nov 11 2026. No macro, syntax, notation, axiom, sorry.
-/
import Derived.Test.YtdipddlhenoglaaGreatChecked
import GoSem.Claim
import GoSem.ClaimJoined
import GoSem.ClaimMapViews
import Derived.JoinedTies
import Derived.KernelRfl
namespace Go.Proofs.YtdipddlhenoglaaGreat
/- THE CELL 'sum', in the pinned program and in every row, IS THE sha256 OF THE DUMP (.gsa) THAT YtdipddlhenoglaaGreatProg.lean LOADS. Nothing in Lean hashes anything: it is a label: what it is worth is what the hold of that sum in a sandbox is worth. -/
noncomputable def Tryz.pinned : Pinned := { name := "ytdipddlhenoglaagreat", sum := "e5b83325a3d5b583a27bb1be129c76e08f415dcfcc9e7c16805a624c41dc01b8", checked := Tryz.checked }
namespace Rows
def none {H : Type} : Left H := { results := [], args := [] }

/-- 'hearthlaw24.RightReaches': WHATEVER THE INPUT: true; the input reads as it did. -/
def rightReachesSpec : ChangeSpec := { name := "rightReaches", fn := fun _ => fun
  | [d1, d2, d3] => { results := [.lit (.bool true)], args := [d1, d2, d3] }
  | _ => none }
def rightReachesRow : OpenClaim := { program := "ytdipddlhenoglaagreat", sum := "e5b83325a3d5b583a27bb1be129c76e08f415dcfcc9e7c16805a624c41dc01b8", func := "hearth/hearthlaw24.RightReaches", spec := "rightReaches", unfollowed := true, recurses := true, loops := true, apart := false }
def RightReachesSaid : Prop := rightReachesRow.holds Tryz.pinned (OpenSpec.ofChange rightReachesSpec)

/-- ITS FALSE NEIGHBOUR: 'it returns false'. Refute it at one input. -/
def rightReachesWrong : ChangeSpec := { name := "rightReaches", fn := fun _ => fun
  | [d1, d2, d3] => { results := [.lit (.bool false)], args := [d1, d2, d3] }
  | _ => none }
def RightReachesWrongFalsely : Prop := rightReachesRow.holds Tryz.pinned (OpenSpec.ofChange rightReachesWrong)

/-- 'hearthlaw24.RightOnly': WHATEVER THE INPUT: true; the input reads as it did. -/
def rightOnlySpec : ChangeSpec := { name := "rightOnly", fn := fun _ => fun
  | [d1, d2, d3] => { results := [.lit (.bool true)], args := [d1, d2, d3] }
  | _ => none }
def rightOnlyRow : OpenClaim := { program := "ytdipddlhenoglaagreat", sum := "e5b83325a3d5b583a27bb1be129c76e08f415dcfcc9e7c16805a624c41dc01b8", func := "hearth/hearthlaw24.RightOnly", spec := "rightOnly", unfollowed := true, recurses := true, loops := true, apart := false }
def RightOnlySaid : Prop := rightOnlyRow.holds Tryz.pinned (OpenSpec.ofChange rightOnlySpec)

/-- ITS FALSE NEIGHBOUR: 'it returns false'. Refute it at one input. -/
def rightOnlyWrong : ChangeSpec := { name := "rightOnly", fn := fun _ => fun
  | [d1, d2, d3] => { results := [.lit (.bool false)], args := [d1, d2, d3] }
  | _ => none }
def RightOnlyWrongFalsely : Prop := rightOnlyRow.holds Tryz.pinned (OpenSpec.ofChange rightOnlyWrong)

/-- 'hearthlaw24.RightCodes': WHATEVER THE INPUT: true; the input reads as it did. -/
def rightCodesSpec : ChangeSpec := { name := "rightCodes", fn := fun _ => fun
  | [d1, d2, d3] => { results := [.lit (.bool true)], args := [d1, d2, d3] }
  | _ => none }
def rightCodesRow : OpenClaim := { program := "ytdipddlhenoglaagreat", sum := "e5b83325a3d5b583a27bb1be129c76e08f415dcfcc9e7c16805a624c41dc01b8", func := "hearth/hearthlaw24.RightCodes", spec := "rightCodes", unfollowed := true, recurses := true, loops := true, apart := false }
def RightCodesSaid : Prop := rightCodesRow.holds Tryz.pinned (OpenSpec.ofChange rightCodesSpec)

/-- ITS FALSE NEIGHBOUR: 'it returns false'. Refute it at one input. -/
def rightCodesWrong : ChangeSpec := { name := "rightCodes", fn := fun _ => fun
  | [d1, d2, d3] => { results := [.lit (.bool false)], args := [d1, d2, d3] }
  | _ => none }
def RightCodesWrongFalsely : Prop := rightCodesRow.holds Tryz.pinned (OpenSpec.ofChange rightCodesWrong)

/- THE SECOND FORM. 'bulk': how many values and letters a reading holds, each counted each time it is reached (what is shared counts as often as it is met; a slice's spare places count too). A statement '..UptoSaid' is the law's where the arguments, and the package variables that the reading takes, are together of bulk at most 1048576: NARROWER than '..Said'. Prove '..Said' where nothing that the law and all that it calls make is longer than what came in: it says more and counts as full. Else prove '..UptoSaid'. A law counts once. -/
mutual
def uptoBulk {H : Type} : DataW H → Nat
  | .lit (.string bytes) => bytes.length + 1
  | .lit _ => 1
  | .nil => 1
  | .ptr d => uptoBulk d + 1
  | .slice elems spare => uptoBulkAll elems + uptoBulkAll spare + 1
  | .agg parts => uptoBulkAll parts + 1
  | .iface _ d => uptoBulk d + 1
  | .map entries => uptoBulkEntries entries + 1
  | .held _ => 1
def uptoBulkAll {H : Type} : List (DataW H) → Nat
  | [] => 0
  | d :: r => uptoBulk d + uptoBulkAll r
def uptoBulkEntries {H : Type} : List (Lit × DataW H) → Nat
  | [] => 0
  | x :: r => uptoBulkEntry x + uptoBulkEntries r
def uptoBulkEntry {H : Type} : Lit × DataW H → Nat
  | (.string bytes, d) => bytes.length + uptoBulk d + 1
  | (_, d) => uptoBulk d + 1
 end
def uptoSmall : (H : Type) → List (DataW H) → Bool := fun _ ds => decide (uptoBulkAll ds ≤ 1048576)
def OpenSpec.upto (s : _root_.Go.ChangeSpec) : _root_.Go.OpenSpec := { _root_.Go.OpenSpec.ofChange s with cond := some uptoSmall }

/-- 'hearthlaw24.RightReaches', WHERE WHAT IT READS IS OF BULK AT MOST 1048576: true; the input reads as it did. -/
def rightReachesUptoRow : OpenClaim := { program := "ytdipddlhenoglaagreat", sum := "e5b83325a3d5b583a27bb1be129c76e08f415dcfcc9e7c16805a624c41dc01b8", func := "hearth/hearthlaw24.RightReaches", spec := "rightReaches", unfollowed := true, recurses := true, loops := true, apart := false, narrowed := true }
def RightReachesUptoSaid : Prop := rightReachesUptoRow.holds Tryz.pinned (OpenSpec.upto rightReachesSpec)

/-- 'hearthlaw24.RightOnly', WHERE WHAT IT READS IS OF BULK AT MOST 1048576: true; the input reads as it did. -/
def rightOnlyUptoRow : OpenClaim := { program := "ytdipddlhenoglaagreat", sum := "e5b83325a3d5b583a27bb1be129c76e08f415dcfcc9e7c16805a624c41dc01b8", func := "hearth/hearthlaw24.RightOnly", spec := "rightOnly", unfollowed := true, recurses := true, loops := true, apart := false, narrowed := true }
def RightOnlyUptoSaid : Prop := rightOnlyUptoRow.holds Tryz.pinned (OpenSpec.upto rightOnlySpec)

/-- 'hearthlaw24.RightCodes', WHERE WHAT IT READS IS OF BULK AT MOST 1048576: true; the input reads as it did. -/
def rightCodesUptoRow : OpenClaim := { program := "ytdipddlhenoglaagreat", sum := "e5b83325a3d5b583a27bb1be129c76e08f415dcfcc9e7c16805a624c41dc01b8", func := "hearth/hearthlaw24.RightCodes", spec := "rightCodes", unfollowed := true, recurses := true, loops := true, apart := false, narrowed := true }
def RightCodesUptoSaid : Prop := rightCodesUptoRow.holds Tryz.pinned (OpenSpec.upto rightCodesSpec)

end Rows
end Go.Proofs.YtdipddlhenoglaaGreat
