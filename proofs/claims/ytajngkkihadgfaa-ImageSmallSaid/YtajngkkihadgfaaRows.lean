/-
  No cell of these rows narrows 'for every input' (looked for: loops, veiled, ifaces, maps, wideKeys, modest, calm, conditions, laid).
  DERIVED. THE GIVEN ROWS OF THIS SEAT. 5 by the template 'for every input the law returns true; each argument reads behind the call as it read before'; 0 by the template 'total and deterministic' (their statements: YtajngkkihadgfaaTotals.lean).
  GIVEN WITH THE SEED: the statements are not yours to turn. If you find one false, say at which input.
  Laid BY PROGRAM, IN A SANDBOX (cutbox-rows.mjs): the forced cells as the released guide's own fill.sh prints them over the translation c1cd9cc25f896c32… (all of the seat's roots in one cut). By AI agents, Wed Nov 11 2026. No macro, syntax, notation, axiom, sorry.
-/
import Derived.Test.YtajngkkihadgfaaChecked
import GoSem.Claim
import GoSem.ClaimJoined
import GoSem.ClaimMapViews
import Derived.JoinedTies
import Derived.KernelRfl
namespace Go.Proofs.Ytajngkkihadgfaa
/- THE CELL 'sum', in the pinned program and in every row, IS THE sha256 OF THE DUMP (.gsa) THAT YtajngkkihadgfaaProg.lean LOADS. Nothing in Lean hashes anything: it is a label: what it is worth is what the hold of that sum in a sandbox is worth. -/
noncomputable def Try.pinned : Pinned := { name := "ytajngkkihadgfaa", sum := "c1cd9cc25f896c32bc2c0133f3c85817c17c7ffc55803355e9216def1a20ae9b", checked := Try.checked }
namespace Rows
def none {H : Type} : Left H := { results := [], args := [] }

/-- 'hearthlaw15.ImagePatches': WHATEVER THE INPUT: true; the input reads as it did. -/
def imagePatchesSpec : ChangeSpec := { name := "imagePatches", fn := fun _ => fun
  | [d1, d2, d3, d4] => { results := [.lit (.bool true)], args := [d1, d2, d3, d4] }
  | _ => none }
def imagePatchesRow : OpenClaim := { program := "ytajngkkihadgfaa", sum := "c1cd9cc25f896c32bc2c0133f3c85817c17c7ffc55803355e9216def1a20ae9b", func := "hearth/hearthlaw15.ImagePatches", spec := "imagePatches", unfollowed := true, recurses := true, apart := false }
def ImagePatchesSaid : Prop := imagePatchesRow.holds Try.pinned (OpenSpec.ofChange imagePatchesSpec)

/-- ITS FALSE NEIGHBOUR: 'it returns false'. Refute it at one input. -/
def imagePatchesWrong : ChangeSpec := { name := "imagePatches", fn := fun _ => fun
  | [d1, d2, d3, d4] => { results := [.lit (.bool false)], args := [d1, d2, d3, d4] }
  | _ => none }
def ImagePatchesWrongFalsely : Prop := imagePatchesRow.holds Try.pinned (OpenSpec.ofChange imagePatchesWrong)

/-- 'hearthlaw15.ImageChecks': WHATEVER THE INPUT: true; the input reads as it did. -/
def imageChecksSpec : ChangeSpec := { name := "imageChecks", fn := fun _ => fun
  | [d1, d2, d3] => { results := [.lit (.bool true)], args := [d1, d2, d3] }
  | _ => none }
def imageChecksRow : OpenClaim := { program := "ytajngkkihadgfaa", sum := "c1cd9cc25f896c32bc2c0133f3c85817c17c7ffc55803355e9216def1a20ae9b", func := "hearth/hearthlaw15.ImageChecks", spec := "imageChecks", unfollowed := true, recurses := true, apart := false }
def ImageChecksSaid : Prop := imageChecksRow.holds Try.pinned (OpenSpec.ofChange imageChecksSpec)

/-- ITS FALSE NEIGHBOUR: 'it returns false'. Refute it at one input. -/
def imageChecksWrong : ChangeSpec := { name := "imageChecks", fn := fun _ => fun
  | [d1, d2, d3] => { results := [.lit (.bool false)], args := [d1, d2, d3] }
  | _ => none }
def ImageChecksWrongFalsely : Prop := imageChecksRow.holds Try.pinned (OpenSpec.ofChange imageChecksWrong)

/-- 'hearthlaw15.ImageSmall': WHATEVER THE INPUT: true; the input reads as it did. -/
def imageSmallSpec : ChangeSpec := { name := "imageSmall", fn := fun _ => fun
  | [d1, d2, d3] => { results := [.lit (.bool true)], args := [d1, d2, d3] }
  | _ => none }
def imageSmallRow : OpenClaim := { program := "ytajngkkihadgfaa", sum := "c1cd9cc25f896c32bc2c0133f3c85817c17c7ffc55803355e9216def1a20ae9b", func := "hearth/hearthlaw15.ImageSmall", spec := "imageSmall", unfollowed := true, recurses := true, apart := false }
def ImageSmallSaid : Prop := imageSmallRow.holds Try.pinned (OpenSpec.ofChange imageSmallSpec)

/-- ITS FALSE NEIGHBOUR: 'it returns false'. Refute it at one input. -/
def imageSmallWrong : ChangeSpec := { name := "imageSmall", fn := fun _ => fun
  | [d1, d2, d3] => { results := [.lit (.bool false)], args := [d1, d2, d3] }
  | _ => none }
def ImageSmallWrongFalsely : Prop := imageSmallRow.holds Try.pinned (OpenSpec.ofChange imageSmallWrong)

/-- 'hearthlaw15.ImageRound': WHATEVER THE INPUT: true; the input reads as it did. -/
def imageRoundSpec : ChangeSpec := { name := "imageRound", fn := fun _ => fun
  | [d1, d2] => { results := [.lit (.bool true)], args := [d1, d2] }
  | _ => none }
def imageRoundRow : OpenClaim := { program := "ytajngkkihadgfaa", sum := "c1cd9cc25f896c32bc2c0133f3c85817c17c7ffc55803355e9216def1a20ae9b", func := "hearth/hearthlaw15.ImageRound", spec := "imageRound", unfollowed := true, recurses := true, apart := false }
def ImageRoundSaid : Prop := imageRoundRow.holds Try.pinned (OpenSpec.ofChange imageRoundSpec)

/-- ITS FALSE NEIGHBOUR: 'it returns false'. Refute it at one input. -/
def imageRoundWrong : ChangeSpec := { name := "imageRound", fn := fun _ => fun
  | [d1, d2] => { results := [.lit (.bool false)], args := [d1, d2] }
  | _ => none }
def ImageRoundWrongFalsely : Prop := imageRoundRow.holds Try.pinned (OpenSpec.ofChange imageRoundWrong)

/-- 'hearthlaw15.ImageKnown': WHATEVER THE INPUT: true; the input reads as it did. -/
def imageKnownSpec : ChangeSpec := { name := "imageKnown", fn := fun _ => fun
  | [] => { results := [.lit (.bool true)], args := [] }
  | _ => none }
def imageKnownRow : OpenClaim := { program := "ytajngkkihadgfaa", sum := "c1cd9cc25f896c32bc2c0133f3c85817c17c7ffc55803355e9216def1a20ae9b", func := "hearth/hearthlaw15.ImageKnown", spec := "imageKnown", unfollowed := true, recurses := true, apart := false }
def ImageKnownSaid : Prop := imageKnownRow.holds Try.pinned (OpenSpec.ofChange imageKnownSpec)

/-- ITS FALSE NEIGHBOUR: 'it returns false'. Refute it at one input. -/
def imageKnownWrong : ChangeSpec := { name := "imageKnown", fn := fun _ => fun
  | [] => { results := [.lit (.bool false)], args := [] }
  | _ => none }
def ImageKnownWrongFalsely : Prop := imageKnownRow.holds Try.pinned (OpenSpec.ofChange imageKnownWrong)

/- THE SECOND FORM. 'bulk': how many values and letters a reading holds, each counted each time it is reached (what is shared counts as often as it is met; a slice's spare places count too). A statement '..UptoSaid' is the law's where the arguments, and the package variables that the reading takes, are together of bulk at most 1048576: NARROWER than '..Said'. Prove '..Said' where nothing that the law and all that it calls make is longer than what came in: it says more and counts as full. Else prove '..UptoSaid'. A law counts once. -/
mutual
def uptoBulk {H : Type} : DataW H → Nat
  | .lit (.string bytes) => bytes.length + 1
  | .lit _ => 1
  | .nil => 1
  | .ptr d => uptoBulk d + 1
  | .slice elems spare => uptoBulkAll elems + uptoBulkAll spare + 1
  | .agg parts => uptoBulkAll parts + 1
  | .iface _ d => uptoBulk d + 1
  | .map entries => uptoBulkEntries entries + 1
  | .held _ => 1
def uptoBulkAll {H : Type} : List (DataW H) → Nat
  | [] => 0
  | d :: r => uptoBulk d + uptoBulkAll r
def uptoBulkEntries {H : Type} : List (Lit × DataW H) → Nat
  | [] => 0
  | x :: r => uptoBulkEntry x + uptoBulkEntries r
def uptoBulkEntry {H : Type} : Lit × DataW H → Nat
  | (.string bytes, d) => bytes.length + uptoBulk d + 1
  | (_, d) => uptoBulk d + 1
 end
def uptoSmall : (H : Type) → List (DataW H) → Bool := fun _ ds => decide (uptoBulkAll ds ≤ 1048576)
def OpenSpec.upto (s : _root_.Go.ChangeSpec) : _root_.Go.OpenSpec := { _root_.Go.OpenSpec.ofChange s with cond := some uptoSmall }

/-- 'hearthlaw15.ImagePatches', WHERE WHAT IT READS IS OF BULK AT MOST 1048576: true; the input reads as it did. -/
def imagePatchesUptoRow : OpenClaim := { program := "ytajngkkihadgfaa", sum := "c1cd9cc25f896c32bc2c0133f3c85817c17c7ffc55803355e9216def1a20ae9b", func := "hearth/hearthlaw15.ImagePatches", spec := "imagePatches", unfollowed := true, recurses := true, apart := false, narrowed := true }
def ImagePatchesUptoSaid : Prop := imagePatchesUptoRow.holds Try.pinned (OpenSpec.upto imagePatchesSpec)

/-- 'hearthlaw15.ImageChecks', WHERE WHAT IT READS IS OF BULK AT MOST 1048576: true; the input reads as it did. -/
def imageChecksUptoRow : OpenClaim := { program := "ytajngkkihadgfaa", sum := "c1cd9cc25f896c32bc2c0133f3c85817c17c7ffc55803355e9216def1a20ae9b", func := "hearth/hearthlaw15.ImageChecks", spec := "imageChecks", unfollowed := true, recurses := true, apart := false, narrowed := true }
def ImageChecksUptoSaid : Prop := imageChecksUptoRow.holds Try.pinned (OpenSpec.upto imageChecksSpec)

/-- 'hearthlaw15.ImageSmall', WHERE WHAT IT READS IS OF BULK AT MOST 1048576: true; the input reads as it did. -/
def imageSmallUptoRow : OpenClaim := { program := "ytajngkkihadgfaa", sum := "c1cd9cc25f896c32bc2c0133f3c85817c17c7ffc55803355e9216def1a20ae9b", func := "hearth/hearthlaw15.ImageSmall", spec := "imageSmall", unfollowed := true, recurses := true, apart := false, narrowed := true }
def ImageSmallUptoSaid : Prop := imageSmallUptoRow.holds Try.pinned (OpenSpec.upto imageSmallSpec)

/-- 'hearthlaw15.ImageRound', WHERE WHAT IT READS IS OF BULK AT MOST 1048576: true; the input reads as it did. -/
def imageRoundUptoRow : OpenClaim := { program := "ytajngkkihadgfaa", sum := "c1cd9cc25f896c32bc2c0133f3c85817c17c7ffc55803355e9216def1a20ae9b", func := "hearth/hearthlaw15.ImageRound", spec := "imageRound", unfollowed := true, recurses := true, apart := false, narrowed := true }
def ImageRoundUptoSaid : Prop := imageRoundUptoRow.holds Try.pinned (OpenSpec.upto imageRoundSpec)

/-- 'hearthlaw15.ImageKnown', WHERE WHAT IT READS IS OF BULK AT MOST 1048576: true; the input reads as it did. -/
def imageKnownUptoRow : OpenClaim := { program := "ytajngkkihadgfaa", sum := "c1cd9cc25f896c32bc2c0133f3c85817c17c7ffc55803355e9216def1a20ae9b", func := "hearth/hearthlaw15.ImageKnown", spec := "imageKnown", unfollowed := true, recurses := true, apart := false, narrowed := true }
def ImageKnownUptoSaid : Prop := imageKnownUptoRow.holds Try.pinned (OpenSpec.upto imageKnownSpec)

end Rows
end Go.Proofs.Ytajngkkihadgfaa
