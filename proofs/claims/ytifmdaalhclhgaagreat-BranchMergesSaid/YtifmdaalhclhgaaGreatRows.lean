/-
  NARROWER THAN 'FOR EVERY INPUT', by the rows' own cells (each row's printed sentence says how): BranchDiffs: loops · BranchApplies: loops · BranchMerges: loops.
  DERIVED. THE GIVEN ROWS OF THIS SEAT. 3 by the template 'for every input the law returns true; each argument reads behind the call as it read before'; 0 by the template 'total and deterministic' (their statements: YtifmdaalhclhgaaGreatTotals.lean).
  GIVEN WITH THE SEED: the statements are not yours to turn. If you find one false, say at which input.
  Laid BY PROGRAM, IN A SANDBOX (cutbox-rows.mjs): the forced cells as the released guide's own fill.sh prints them over the translation 5943a37ef7483386… (all of the seat's roots in one cut). By AI agents, Wed Nov 11 2026. No macro, syntax, notation, axiom, sorry.
-/
import Derived.Test.YtifmdaalhclhgaaGreatChecked
import GoSem.Claim
import GoSem.ClaimJoined
import GoSem.ClaimMapViews
import Derived.JoinedTies
import Derived.KernelRfl
namespace Go.Proofs.YtifmdaalhclhgaaGreat
/- THE CELL 'sum', in the pinned program and in every row, IS THE sha256 OF THE DUMP (.gsa) THAT YtifmdaalhclhgaaGreatProg.lean LOADS. Nothing in Lean hashes anything: it is a label: what it is worth is what the hold of that sum in a sandbox is worth. -/
noncomputable def Tryz.pinned : Pinned := { name := "ytifmdaalhclhgaagreat", sum := "5943a37ef7483386c91654025af904a50a8a10efb70bd046b406369d226b4371", checked := Tryz.checked }
namespace Rows
def none {H : Type} : Left H := { results := [], args := [] }

/-- 'hearthlaw22.BranchDiffs': WHATEVER THE INPUT: true; the input reads as it did. -/
def branchDiffsSpec : ChangeSpec := { name := "branchDiffs", fn := fun _ => fun
  | [d1, d2, d3] => { results := [.lit (.bool true)], args := [d1, d2, d3] }
  | _ => none }
def branchDiffsRow : OpenClaim := { program := "ytifmdaalhclhgaagreat", sum := "5943a37ef7483386c91654025af904a50a8a10efb70bd046b406369d226b4371", func := "hearth/hearthlaw22.BranchDiffs", spec := "branchDiffs", unfollowed := true, recurses := true, loops := true, apart := false }
def BranchDiffsSaid : Prop := branchDiffsRow.holds Tryz.pinned (OpenSpec.ofChange branchDiffsSpec)

/-- ITS FALSE NEIGHBOUR: 'it returns false'. Refute it at one input. -/
def branchDiffsWrong : ChangeSpec := { name := "branchDiffs", fn := fun _ => fun
  | [d1, d2, d3] => { results := [.lit (.bool false)], args := [d1, d2, d3] }
  | _ => none }
def BranchDiffsWrongFalsely : Prop := branchDiffsRow.holds Tryz.pinned (OpenSpec.ofChange branchDiffsWrong)

/-- 'hearthlaw22.BranchApplies': WHATEVER THE INPUT: true; the input reads as it did. -/
def branchAppliesSpec : ChangeSpec := { name := "branchApplies", fn := fun _ => fun
  | [d1, d2, d3] => { results := [.lit (.bool true)], args := [d1, d2, d3] }
  | _ => none }
def branchAppliesRow : OpenClaim := { program := "ytifmdaalhclhgaagreat", sum := "5943a37ef7483386c91654025af904a50a8a10efb70bd046b406369d226b4371", func := "hearth/hearthlaw22.BranchApplies", spec := "branchApplies", unfollowed := true, recurses := true, loops := true, apart := false }
def BranchAppliesSaid : Prop := branchAppliesRow.holds Tryz.pinned (OpenSpec.ofChange branchAppliesSpec)

/-- ITS FALSE NEIGHBOUR: 'it returns false'. Refute it at one input. -/
def branchAppliesWrong : ChangeSpec := { name := "branchApplies", fn := fun _ => fun
  | [d1, d2, d3] => { results := [.lit (.bool false)], args := [d1, d2, d3] }
  | _ => none }
def BranchAppliesWrongFalsely : Prop := branchAppliesRow.holds Tryz.pinned (OpenSpec.ofChange branchAppliesWrong)

/-- 'hearthlaw22.BranchMerges': WHATEVER THE INPUT: true; the input reads as it did. -/
def branchMergesSpec : ChangeSpec := { name := "branchMerges", fn := fun _ => fun
  | [d1, d2, d3, d4] => { results := [.lit (.bool true)], args := [d1, d2, d3, d4] }
  | _ => none }
def branchMergesRow : OpenClaim := { program := "ytifmdaalhclhgaagreat", sum := "5943a37ef7483386c91654025af904a50a8a10efb70bd046b406369d226b4371", func := "hearth/hearthlaw22.BranchMerges", spec := "branchMerges", unfollowed := true, recurses := true, loops := true, apart := false }
def BranchMergesSaid : Prop := branchMergesRow.holds Tryz.pinned (OpenSpec.ofChange branchMergesSpec)

/-- ITS FALSE NEIGHBOUR: 'it returns false'. Refute it at one input. -/
def branchMergesWrong : ChangeSpec := { name := "branchMerges", fn := fun _ => fun
  | [d1, d2, d3, d4] => { results := [.lit (.bool false)], args := [d1, d2, d3, d4] }
  | _ => none }
def BranchMergesWrongFalsely : Prop := branchMergesRow.holds Tryz.pinned (OpenSpec.ofChange branchMergesWrong)

/- THE SECOND FORM. 'bulk': how many values and letters a reading holds, each counted each time it is reached (what is shared counts as often as it is met; a slice's spare places count too). A statement '..UptoSaid' is the law's where the arguments, and the package variables that the reading takes, are together of bulk at most 1048576: NARROWER than '..Said'. Prove '..Said' where nothing that the law and all that it calls make is longer than what came in: it says more and counts as full. Else prove '..UptoSaid'. A law counts once. -/
mutual
def uptoBulk {H : Type} : DataW H → Nat
  | .lit (.string bytes) => bytes.length + 1
  | .lit _ => 1
  | .nil => 1
  | .ptr d => uptoBulk d + 1
  | .slice elems spare => uptoBulkAll elems + uptoBulkAll spare + 1
  | .agg parts => uptoBulkAll parts + 1
  | .iface _ d => uptoBulk d + 1
  | .map entries => uptoBulkEntries entries + 1
  | .held _ => 1
def uptoBulkAll {H : Type} : List (DataW H) → Nat
  | [] => 0
  | d :: r => uptoBulk d + uptoBulkAll r
def uptoBulkEntries {H : Type} : List (Lit × DataW H) → Nat
  | [] => 0
  | x :: r => uptoBulkEntry x + uptoBulkEntries r
def uptoBulkEntry {H : Type} : Lit × DataW H → Nat
  | (.string bytes, d) => bytes.length + uptoBulk d + 1
  | (_, d) => uptoBulk d + 1
 end
def uptoSmall : (H : Type) → List (DataW H) → Bool := fun _ ds => decide (uptoBulkAll ds ≤ 1048576)
def OpenSpec.upto (s : _root_.Go.ChangeSpec) : _root_.Go.OpenSpec := { _root_.Go.OpenSpec.ofChange s with cond := some uptoSmall }

/-- 'hearthlaw22.BranchDiffs', WHERE WHAT IT READS IS OF BULK AT MOST 1048576: true; the input reads as it did. -/
def branchDiffsUptoRow : OpenClaim := { program := "ytifmdaalhclhgaagreat", sum := "5943a37ef7483386c91654025af904a50a8a10efb70bd046b406369d226b4371", func := "hearth/hearthlaw22.BranchDiffs", spec := "branchDiffs", unfollowed := true, recurses := true, loops := true, apart := false, narrowed := true }
def BranchDiffsUptoSaid : Prop := branchDiffsUptoRow.holds Tryz.pinned (OpenSpec.upto branchDiffsSpec)

/-- 'hearthlaw22.BranchApplies', WHERE WHAT IT READS IS OF BULK AT MOST 1048576: true; the input reads as it did. -/
def branchAppliesUptoRow : OpenClaim := { program := "ytifmdaalhclhgaagreat", sum := "5943a37ef7483386c91654025af904a50a8a10efb70bd046b406369d226b4371", func := "hearth/hearthlaw22.BranchApplies", spec := "branchApplies", unfollowed := true, recurses := true, loops := true, apart := false, narrowed := true }
def BranchAppliesUptoSaid : Prop := branchAppliesUptoRow.holds Tryz.pinned (OpenSpec.upto branchAppliesSpec)

/-- 'hearthlaw22.BranchMerges', WHERE WHAT IT READS IS OF BULK AT MOST 1048576: true; the input reads as it did. -/
def branchMergesUptoRow : OpenClaim := { program := "ytifmdaalhclhgaagreat", sum := "5943a37ef7483386c91654025af904a50a8a10efb70bd046b406369d226b4371", func := "hearth/hearthlaw22.BranchMerges", spec := "branchMerges", unfollowed := true, recurses := true, loops := true, apart := false, narrowed := true }
def BranchMergesUptoSaid : Prop := branchMergesUptoRow.holds Tryz.pinned (OpenSpec.upto branchMergesSpec)

end Rows
end Go.Proofs.YtifmdaalhclhgaaGreat
