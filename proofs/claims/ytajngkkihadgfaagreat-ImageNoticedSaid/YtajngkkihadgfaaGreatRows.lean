/-
  No cell of these rows narrows 'for every input' (looked for: loops, veiled, ifaces, maps, wideKeys, modest, calm, conditions, laid).
  DERIVED. THE GIVEN ROWS OF THIS SEAT. 4 by the template 'for every input the law returns true; each argument reads behind the call as it read before'; 0 by the template 'total and deterministic' (their statements: YtajngkkihadgfaaGreatTotals.lean).
  GIVEN WITH THE SEED: the statements are not yours to turn. If you find one false, say at which input.
  Laid BY PROGRAM, IN A SANDBOX (cutbox-rows.mjs): the forced cells as the released guide's own fill.sh prints them over the translation 4bb1758d7ae6533d… (all of the seat's roots in one cut). By AI agents, Wed Nov 11 2026. No macro, syntax, notation, axiom, sorry.
-/
import Derived.Test.YtajngkkihadgfaaGreatChecked
import GoSem.Claim
import GoSem.ClaimJoined
import GoSem.ClaimMapViews
import Derived.JoinedTies
import Derived.KernelRfl
namespace Go.Proofs.YtajngkkihadgfaaGreat
/- THE CELL 'sum', in the pinned program and in every row, IS THE sha256 OF THE DUMP (.gsa) THAT YtajngkkihadgfaaGreatProg.lean LOADS. Nothing in Lean hashes anything: it is a label: what it is worth is what the hold of that sum in a sandbox is worth. -/
noncomputable def Tryz.pinned : Pinned := { name := "ytajngkkihadgfaagreat", sum := "4bb1758d7ae6533d79adc671ef4626aaed2d210f305a10eda0d69d619910d8db", checked := Tryz.checked }
namespace Rows
def none {H : Type} : Left H := { results := [], args := [] }

/-- 'hearthlaw15.ImageObjects': WHATEVER THE INPUT: true; the input reads as it did. -/
def imageObjectsSpec : ChangeSpec := { name := "imageObjects", fn := fun _ => fun
  | [d1, d2] => { results := [.lit (.bool true)], args := [d1, d2] }
  | _ => none }
def imageObjectsRow : OpenClaim := { program := "ytajngkkihadgfaagreat", sum := "4bb1758d7ae6533d79adc671ef4626aaed2d210f305a10eda0d69d619910d8db", func := "hearth/hearthlaw15.ImageObjects", spec := "imageObjects", unfollowed := true, recurses := true, apart := false }
def ImageObjectsSaid : Prop := imageObjectsRow.holds Tryz.pinned (OpenSpec.ofChange imageObjectsSpec)

/-- ITS FALSE NEIGHBOUR: 'it returns false'. Refute it at one input. -/
def imageObjectsWrong : ChangeSpec := { name := "imageObjects", fn := fun _ => fun
  | [d1, d2] => { results := [.lit (.bool false)], args := [d1, d2] }
  | _ => none }
def ImageObjectsWrongFalsely : Prop := imageObjectsRow.holds Tryz.pinned (OpenSpec.ofChange imageObjectsWrong)

/-- 'hearthlaw15.ImageSaves': WHATEVER THE INPUT: true; the input reads as it did. -/
def imageSavesSpec : ChangeSpec := { name := "imageSaves", fn := fun _ => fun
  | [d] => { results := [.lit (.bool true)], args := [d] }
  | _ => none }
def imageSavesRow : OpenClaim := { program := "ytajngkkihadgfaagreat", sum := "4bb1758d7ae6533d79adc671ef4626aaed2d210f305a10eda0d69d619910d8db", func := "hearth/hearthlaw15.ImageSaves", spec := "imageSaves", unfollowed := true, recurses := true, apart := false }
def ImageSavesSaid : Prop := imageSavesRow.holds Tryz.pinned (OpenSpec.ofChange imageSavesSpec)

/-- ITS FALSE NEIGHBOUR: 'it returns false'. Refute it at one input. -/
def imageSavesWrong : ChangeSpec := { name := "imageSaves", fn := fun _ => fun
  | [d] => { results := [.lit (.bool false)], args := [d] }
  | _ => none }
def ImageSavesWrongFalsely : Prop := imageSavesRow.holds Tryz.pinned (OpenSpec.ofChange imageSavesWrong)

/-- 'hearthlaw15.ImageLoads': WHATEVER THE INPUT: true; the input reads as it did. -/
def imageLoadsSpec : ChangeSpec := { name := "imageLoads", fn := fun _ => fun
  | [d1, d2] => { results := [.lit (.bool true)], args := [d1, d2] }
  | _ => none }
def imageLoadsRow : OpenClaim := { program := "ytajngkkihadgfaagreat", sum := "4bb1758d7ae6533d79adc671ef4626aaed2d210f305a10eda0d69d619910d8db", func := "hearth/hearthlaw15.ImageLoads", spec := "imageLoads", unfollowed := true, recurses := true, apart := false }
def ImageLoadsSaid : Prop := imageLoadsRow.holds Tryz.pinned (OpenSpec.ofChange imageLoadsSpec)

/-- ITS FALSE NEIGHBOUR: 'it returns false'. Refute it at one input. -/
def imageLoadsWrong : ChangeSpec := { name := "imageLoads", fn := fun _ => fun
  | [d1, d2] => { results := [.lit (.bool false)], args := [d1, d2] }
  | _ => none }
def ImageLoadsWrongFalsely : Prop := imageLoadsRow.holds Tryz.pinned (OpenSpec.ofChange imageLoadsWrong)

/-- 'hearthlaw15.ImageNoticed': WHATEVER THE INPUT: true; the input reads as it did. -/
def imageNoticedSpec : ChangeSpec := { name := "imageNoticed", fn := fun _ => fun
  | [d1, d2, d3, d4] => { results := [.lit (.bool true)], args := [d1, d2, d3, d4] }
  | _ => none }
def imageNoticedRow : OpenClaim := { program := "ytajngkkihadgfaagreat", sum := "4bb1758d7ae6533d79adc671ef4626aaed2d210f305a10eda0d69d619910d8db", func := "hearth/hearthlaw15.ImageNoticed", spec := "imageNoticed", unfollowed := true, recurses := true, apart := false }
def ImageNoticedSaid : Prop := imageNoticedRow.holds Tryz.pinned (OpenSpec.ofChange imageNoticedSpec)

/-- ITS FALSE NEIGHBOUR: 'it returns false'. Refute it at one input. -/
def imageNoticedWrong : ChangeSpec := { name := "imageNoticed", fn := fun _ => fun
  | [d1, d2, d3, d4] => { results := [.lit (.bool false)], args := [d1, d2, d3, d4] }
  | _ => none }
def ImageNoticedWrongFalsely : Prop := imageNoticedRow.holds Tryz.pinned (OpenSpec.ofChange imageNoticedWrong)

/- THE SECOND FORM. 'bulk': how many values and letters a reading holds, each counted each time it is reached (what is shared counts as often as it is met; a slice's spare places count too). A statement '..UptoSaid' is the law's where the arguments, and the package variables that the reading takes, are together of bulk at most 1048576: NARROWER than '..Said'. Prove '..Said' where nothing that the law and all that it calls make is longer than what came in: it says more and counts as full. Else prove '..UptoSaid'. A law counts once. -/
mutual
def uptoBulk {H : Type} : DataW H → Nat
  | .lit (.string bytes) => bytes.length + 1
  | .lit _ => 1
  | .nil => 1
  | .ptr d => uptoBulk d + 1
  | .slice elems spare => uptoBulkAll elems + uptoBulkAll spare + 1
  | .agg parts => uptoBulkAll parts + 1
  | .iface _ d => uptoBulk d + 1
  | .map entries => uptoBulkEntries entries + 1
  | .held _ => 1
def uptoBulkAll {H : Type} : List (DataW H) → Nat
  | [] => 0
  | d :: r => uptoBulk d + uptoBulkAll r
def uptoBulkEntries {H : Type} : List (Lit × DataW H) → Nat
  | [] => 0
  | x :: r => uptoBulkEntry x + uptoBulkEntries r
def uptoBulkEntry {H : Type} : Lit × DataW H → Nat
  | (.string bytes, d) => bytes.length + uptoBulk d + 1
  | (_, d) => uptoBulk d + 1
 end
def uptoSmall : (H : Type) → List (DataW H) → Bool := fun _ ds => decide (uptoBulkAll ds ≤ 1048576)
def OpenSpec.upto (s : _root_.Go.ChangeSpec) : _root_.Go.OpenSpec := { _root_.Go.OpenSpec.ofChange s with cond := some uptoSmall }

/-- 'hearthlaw15.ImageObjects', WHERE WHAT IT READS IS OF BULK AT MOST 1048576: true; the input reads as it did. -/
def imageObjectsUptoRow : OpenClaim := { program := "ytajngkkihadgfaagreat", sum := "4bb1758d7ae6533d79adc671ef4626aaed2d210f305a10eda0d69d619910d8db", func := "hearth/hearthlaw15.ImageObjects", spec := "imageObjects", unfollowed := true, recurses := true, apart := false, narrowed := true }
def ImageObjectsUptoSaid : Prop := imageObjectsUptoRow.holds Tryz.pinned (OpenSpec.upto imageObjectsSpec)

/-- 'hearthlaw15.ImageSaves', WHERE WHAT IT READS IS OF BULK AT MOST 1048576: true; the input reads as it did. -/
def imageSavesUptoRow : OpenClaim := { program := "ytajngkkihadgfaagreat", sum := "4bb1758d7ae6533d79adc671ef4626aaed2d210f305a10eda0d69d619910d8db", func := "hearth/hearthlaw15.ImageSaves", spec := "imageSaves", unfollowed := true, recurses := true, apart := false, narrowed := true }
def ImageSavesUptoSaid : Prop := imageSavesUptoRow.holds Tryz.pinned (OpenSpec.upto imageSavesSpec)

/-- 'hearthlaw15.ImageLoads', WHERE WHAT IT READS IS OF BULK AT MOST 1048576: true; the input reads as it did. -/
def imageLoadsUptoRow : OpenClaim := { program := "ytajngkkihadgfaagreat", sum := "4bb1758d7ae6533d79adc671ef4626aaed2d210f305a10eda0d69d619910d8db", func := "hearth/hearthlaw15.ImageLoads", spec := "imageLoads", unfollowed := true, recurses := true, apart := false, narrowed := true }
def ImageLoadsUptoSaid : Prop := imageLoadsUptoRow.holds Tryz.pinned (OpenSpec.upto imageLoadsSpec)

/-- 'hearthlaw15.ImageNoticed', WHERE WHAT IT READS IS OF BULK AT MOST 1048576: true; the input reads as it did. -/
def imageNoticedUptoRow : OpenClaim := { program := "ytajngkkihadgfaagreat", sum := "4bb1758d7ae6533d79adc671ef4626aaed2d210f305a10eda0d69d619910d8db", func := "hearth/hearthlaw15.ImageNoticed", spec := "imageNoticed", unfollowed := true, recurses := true, apart := false, narrowed := true }
def ImageNoticedUptoSaid : Prop := imageNoticedUptoRow.holds Tryz.pinned (OpenSpec.upto imageNoticedSpec)

end Rows
end Go.Proofs.YtajngkkihadgfaaGreat
