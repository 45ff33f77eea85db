/-
  The law 'ImagePatches' holds: it returns true, and what was there reads as it did. No condition.
-/
import Derived.Test.YtajngkkihadgfaaRows
import Derived.Test.YtajngkkihadgfaaGd
import Derived.Test.YtajngkkihadgfaaEk
import Derived.Test.YtajngkkihadgfaaKnownA
import Derived.WalkKit
import Derived.ProofKit
import Derived.OpenShut
set_option linter.unusedVariables false
set_option linter.unusedSimpArgs false

namespace Go.Proofs.Ytajngkkihadgfaa.imagePatches
open Go.ChangeShapes Go.WideShapes Go.ChangeAt Go.RowKit
open Go.Abs (Sl By Und Shape encB)
noncomputable section
set_option maxRecDepth 100000

theorem own : ownKnob Try.prog.godebug = none := by kernel_rfl
theorem worksOk : Abs.Returns Try.prog 8 [] (.bool true) := Abs.returns_of (O := Abs.tab []) (Abs.tab_ok fun _ h => nomatch h) runWorks

theorem ty3 : Abs.tyK Try.prog 3 = some none := by kernel_rfl
theorem ty9 : Abs.tyK Try.prog 9 = some none := by kernel_rfl
theorem ty22 : Abs.tyK Try.prog 22 = some none := by kernel_rfl
theorem ty25 : Abs.tyK Try.prog 25 = some (some 2) := by kernel_rfl
theorem un3 : Try.prog.underlying 3 = some (.int .i64) := by kernel_rfl
theorem un9 : Try.prog.underlying 9 = some .string := by kernel_rfl
theorem un22 : Try.prog.underlying 22 = some (.slice 25) := by kernel_rfl
theorem fl25 : Abs.fldsK Try.prog 25 = some [(3, some none, 0), (9, some none, 1)] := by kernel_rfl
theorem part_of {x : List Abs.AV} (h : Shape Try.prog 2 25 x) (hl : x.length = 2) : ∃ y : Int × List Nat, Abs.wrapV (some 2) x = partI y ∧ y.2.length < 9223372036854775808 := by
  have hs := Abs.shape_struct (d := 1) fl25 h
  obtain ⟨k1, e1, h1⟩ := hs _ (List.mem_cons_self ..)
  obtain ⟨k2, e2, h2⟩ := hs _ (List.mem_cons_of_mem _ (List.mem_cons_self ..))
  cases e1
  cases e2
  match x, hl with
  | [a, b], _ =>
    obtain ⟨n, en, _⟩ := Abs.shape_int (d := 0) un3 (show Shape Try.prog 1 3 [a] from h1)
    obtain ⟨l, el, hl, _⟩ := Abs.shape_str (d := 0) un9 (show Shape Try.prog 1 9 [b] from h2)
    simp only [List.cons.injEq, and_true] at en el
    subst en; subst el
    exact ⟨(n, l), rfl, hl⟩

set_option maxRecDepth 100000 in
theorem lifted (os : Os) (started : os.Started) (H : Type) (enc : TypeId × Value → H) :
    ReturnsInHanded {} Try.checked os 3 .any (Rows.imagePatchesSpec.pre6 enc Try.prog Try.f3 Rows.imagePatchesRow.domain false) (Rows.imagePatchesSpec.post enc Try.prog Try.f3 false true false false) := by
  refine returnsInHanded_of_change (C := Try.checked) own started (by kernel_rfl) Try.func3
    (ChangeSpec.witness6 (enc := enc) (C := Try.checked) false ⟨#[], #[.string ⟨#[]⟩, .string ⟨#[]⟩, .slice none 0 0, .int .i64 0], []⟩ 8 (by kernel_rfl) (by kernel_rfl) (by kernel_rfl) (by kernel_rfl)) ?_
  intro W base args ds gs before hval0 hW hcnd _
  have hval : ∀ (j : Nat) t v, Try.f3.params[j]? = some t → args[j]? = some v → Value.okWide Try.prog W .any base t v := hval0
  have hW' := hW
  obtain ⟨p, q, hA0, hV, rfl, hfz, hnd⟩ := hW
  have hA : DataW.TrodAll enc Try.prog W 0 (fun _ => true) true Try.f3.params.toList args.toList ds p := hA0
  rw [Try.params3] at hA hval
  obtain ⟨v1, vs1, d1, ds1, p1, q1, ea1, rfl, rfl, t1, hA⟩ := trodAll_cons hA
  obtain ⟨v2, vs2, d2, ds2, p2, q2, ea2, rfl, rfl, t2, hA⟩ := trodAll_cons hA
  obtain ⟨v3, vs3, d3, ds3, p3, q3, ea3, rfl, rfl, t3, hA⟩ := trodAll_cons hA
  obtain ⟨v4, vs4, d4, ds4, p4, q4, ea4, rfl, rfl, t4, hA⟩ := trodAll_cons hA
  obtain ⟨rfl, rfl, rfl⟩ := trodAll_nil hA
  subst ea4
  subst ea3
  subst ea2
  obtain ⟨args⟩ := args
  simp only at ea1
  subst ea1
  obtain ⟨rfl, rfl⟩ := trodVars_none hV
  clear hA0 hval0
  simp only [List.append_nil] at hW'
  have P1 : Abs.plainT Try.prog 1 9 = true := by kernel_rfl
  have P2 : Abs.plainT Try.prog 3 22 = true := by kernel_rfl
  have P3 : Abs.plainT Try.prog 1 3 = true := by kernel_rfl
  obtain ⟨as1, g1, _, _, g1'⟩ := Abs.arg_of P1 ty9 (hval 0 9 v1 rfl rfl) t1
  obtain ⟨as2, g2, _, _, g2'⟩ := Abs.arg_of P1 ty9 (hval 1 9 v2 rfl rfl) t2
  obtain ⟨as3, g3, _, _, g3'⟩ := Abs.arg_of P2 ty22 (hval 2 22 v3 rfl rfl) t3
  obtain ⟨as4, g4, _, _, g4'⟩ := Abs.arg_of P3 ty3 (hval 3 3 v4 rfl rfl) t4
  obtain ⟨a, rfl, ha, ba⟩ := Abs.shape_str (d := 0) un9 g1'
  obtain ⟨b, rfl, hb, bb⟩ := Abs.shape_str (d := 0) un9 g2'
  obtain ⟨m, rfl, _⟩ := Abs.shape_int (d := 0) un3 g4'
  obtain ⟨lv, l, rfl, hl, hx⟩ := Abs.shape_slice (f := partI) (p := fun y => y.2.length < 9223372036854775808) (d := 2) un22 ty25 (fun x h1 h2 _ => part_of h1 h2) g3'
  have hR := patches_ok worksOk a b lv l m ha hb ba bb hl hx .empty
  refine (Abs.law_of hR (A := #[v1, v2, v3, v4]) (w := W) (σ := Abs.sigW W) (fun _ _ _ h => h) (fun _ _ => rfl) ⟨rfl, fun i x X hx hX => ?_⟩).mono fun e W' ⟨he, hg⟩ => ?_
  · match i with
    | 0 => simp at hx hX; subst hx; subst hX; exact g1
    | 1 => simp at hx hX; subst hx; subst hX; exact g2
    | 2 => simp at hx hX; subst hx; subst hX; exact g3
    | 3 => simp at hx hX; subst hx; subst hX; exact g4
    | i + 4 => simp at hx
  subst he
  exact ⟨_, rfl, Abs.post_quiet (pa := p1 ++ (p2 ++ (p3 ++ (p4 ++ [])))) (pv := []) hW' (fun _ _ _ => (trodAll_cons_mk (shut_bool Try.underlying4 _) trodAll_mk0))
    (fun sp hsp => by
      rw [Try.params3]
      refine trodAll_cons_mk (Abs.trod_quiet ⟨1, P1⟩ t1 hg fun p hp => hsp p ?_) (trodAll_cons_mk (Abs.trod_quiet ⟨1, P1⟩ t2 hg fun p hp => hsp p ?_) (trodAll_cons_mk (Abs.trod_quiet ⟨3, P2⟩ t3 hg fun p hp => hsp p ?_) (trodAll_cons_mk (Abs.trod_quiet ⟨1, P3⟩ t4 hg fun p hp => hsp p ?_) trodAll_mk0)))
      · simp [hp]
      · simp [hp]
      · simp [hp]
      · simp [hp]) (fun _ _ => rfl) (by simp)
    hg (ok_one (by kernel_rfl) rfl (okWide_bool_mk Try.underlying4 _))⟩

theorem over : Rows.imagePatchesRow.holds Try.pinned (OpenSpec.ofChange Rows.imagePatchesSpec) :=
  OpenClaim.holds_of_wide 3 Try.f3 rfl rfl rfl rfl rfl rfl rfl ⟨rfl, rfl, rfl, rfl, rfl⟩ rfl rfl rfl rfl rfl (by kernel_rfl) Try.func3 (by kernel_rfl)
    (of_decide_eq_true (by kernel_rfl)) (by unfold Func.isWrapper; first | (rw [if_pos (by decide +kernel)]; kernel_rfl) | (rw [if_neg (by decide +kernel)]; exact ⟨rfl, rfl⟩))
    (fun os started H enc _ => lifted os started H enc)

/-- THE STATEMENT. -/
theorem proved : Rows.ImagePatchesSaid :=
  over
#print axioms proved

end
end Go.Proofs.Ytajngkkihadgfaa.imagePatches
