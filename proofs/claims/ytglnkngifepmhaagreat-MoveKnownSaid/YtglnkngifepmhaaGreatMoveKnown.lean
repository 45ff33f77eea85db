/-
  The law 'MoveKnown' holds: it returns true, and what was there reads as it did. No condition.
-/
import Derived.Test.YtglnkngifepmhaaGreatRows
import Derived.Test.YtglnkngifepmhaaGreatUy
import Derived.Test.YtglnkngifepmhaaGreatMke
import Derived.WalkKit
import Derived.ProofKit
import Derived.OpenShut
set_option linter.unusedVariables false
set_option linter.unusedSimpArgs false

namespace Go.Proofs.YtglnkngifepmhaaGreat.moveKnown
open Go.ChangeShapes Go.WideShapes Go.ChangeAt Go.RowKit
set_option linter.unusedVariables false      

theorem own : ownKnob Tryz.prog.godebug = none := by kernel_rfl

/-- the law returns true -/
theorem returns : Abs.Returns Tryz.prog 4 [] (.bool true) := root_ok

set_option maxRecDepth 100000 in
theorem lifted (os : Os) (started : os.Started) (H : Type) (enc : TypeId × Value → H) :
    ReturnsInHanded {} Tryz.checked os 4 .any (Rows.moveKnownSpec.pre6 enc Tryz.prog Tryz.f4 Rows.moveKnownRow.domain false) (Rows.moveKnownSpec.post enc Tryz.prog Tryz.f4 false true false false) := by
  refine returnsInHanded_of_change (C := Tryz.checked) own started (by kernel_rfl) Tryz.func4
    (ChangeSpec.witness6 (enc := enc) (C := Tryz.checked) false ⟨#[], #[], []⟩ 8 (by kernel_rfl) (by kernel_rfl) (by kernel_rfl) (by kernel_rfl)) ?_
  intro W base args ds gs before hval0 hW hcnd _
  have hval : ∀ (j : Nat) t v, Tryz.f4.params[j]? = some t → args[j]? = some v → Value.okWide Tryz.prog W .any base t v := hval0
  have hW' := hW
  obtain ⟨p, q, hA0, hV, rfl, hfz, hnd⟩ := hW
  have hA : DataW.TrodAll enc Tryz.prog W 0 (fun _ => true) true Tryz.f4.params.toList args.toList ds p := hA0
  rw [Tryz.params4] at hA hval
  obtain ⟨rfl, rfl, rfl⟩ := trodAll_none hA
  obtain ⟨rfl, rfl⟩ := trodVars_none hV
  clear hA0 hval0
  simp only [List.append_nil] at hW'
  refine (Abs.law_of (returns .empty) (A := #[]) (w := W) (σ := ⟨fun b off => W.cell? ⟨b, off, none⟩, fun _ _ => none⟩) (fun _ _ _ h => h) (fun _ _ => rfl) ⟨rfl, fun i x X hx hX => by simp at hx⟩).mono fun e W' ⟨he, hg⟩ => ?_
  subst he
  exact ⟨_, rfl, Abs.post_quiet (pa := []) (pv := []) hW' (fun _ _ _ => (trodAll_cons_mk (shut_bool Tryz.underlying4 _) trodAll_mk0)) (fun sp _ => rfl) (fun _ _ => rfl) rfl
    hg (ok_one (by kernel_rfl) rfl (okWide_bool_mk Tryz.underlying4 _))⟩

/-! what the row says of the program, each fact by itself (one fact alone fits the kernel's memory) -/
theorem laid : laidOutB Tryz.prog = true := by kernel_rfl
theorem rowed : mapsRowed Tryz.prog = true := by kernel_rfl
theorem plain : Tryz.prog.plainKeys = true := by kernel_rfl
theorem heard : Tryz.prog.stopsHeard = true := by kernel_rfl
theorem enters : Tryz.prog.mayEnter = true := by kernel_rfl
theorem follows : Tryz.prog.unfollowed 4 = true := by kernel_rfl
theorem recs : Tryz.prog.recurses 4 = true := by unfold Program.recurses; rw [follows]; rfl
theorem inPl : Tryz.prog.inPlace 4 = Rows.moveKnownRow.inPlace := by kernel_rfl
theorem vars : Tryz.prog.varsNamed 4 = Rows.moveKnownRow.named := by kernel_rfl
theorem closed : joinedFacts Tryz.prog 4 Tryz.f4 Rows.moveKnownSpec Rows.moveKnownRow = true := by
  unfold joinedFacts
  rw [laid, rowed, plain, heard, enters, follows, recs, inPl, vars]
  kernel_rfl

theorem over : Rows.moveKnownRow.holds Tryz.pinned (OpenSpec.ofChange Rows.moveKnownSpec) :=
  OpenClaim.holds_of_wide 4 Tryz.f4 rfl rfl rfl rfl rfl rfl rfl ⟨rfl, rfl, rfl, rfl, rfl⟩ rfl rfl rfl rfl rfl (by kernel_rfl) Tryz.func4 closed
    (of_decide_eq_true (by kernel_rfl)) (by unfold Func.isWrapper; first | (rw [if_pos (by decide +kernel)]; kernel_rfl) | (rw [if_neg (by decide +kernel)]; exact ⟨rfl, rfl⟩))
    (fun os started H enc _ => lifted os started H enc)

/-- THE STATEMENT. -/
theorem proved : Rows.MoveKnownSaid :=
  over
#print axioms proved
end Go.Proofs.YtglnkngifepmhaaGreat.moveKnown
