/-
  The law 'ImageChecks' holds: it returns true, and what was there reads as it did. No condition.
-/
import Derived.Test.YtajngkkihadgfaaRows
import Derived.Test.YtajngkkihadgfaaFd
import Derived.Test.YtajngkkihadgfaaEk
import Derived.Test.YtajngkkihadgfaaKnownA
import Derived.WalkKit
import Derived.ProofKit
import Derived.OpenShut
set_option linter.unusedVariables false
set_option linter.unusedSimpArgs false
namespace Go.Proofs.Ytajngkkihadgfaa.imageChecks
open Go.ChangeShapes Go.WideShapes Go.ChangeAt Go.RowKit
open Go.Abs (Sl By Und Shape encB)
noncomputable section
set_option maxRecDepth 100000

theorem own : ownKnob Try.prog.godebug = none := by kernel_rfl
theorem worksOk : Abs.Returns Try.prog 8 [] (.bool true) := Abs.returns_of (O := Abs.tab []) (Abs.tab_ok fun _ h => nomatch h) runWorks

theorem ty5 : Abs.tyK Try.prog 5 = some none := by kernel_rfl
theorem ty33 : Abs.tyK Try.prog 33 = some none := by kernel_rfl
theorem un5 : Try.prog.underlying 5 = some (.int .u8) := by kernel_rfl
theorem un33 : Try.prog.underlying 33 = some (.slice 5) := by kernel_rfl

theorem byte_of {cs : List Abs.AV} {d : Nat} (h : Shape Try.prog (d + 1) 5 cs) : ∃ b : Nat, cs = [encB b] ∧ b < 256 := by
  simp only [Shape, un5] at h
  obtain ⟨n, rfl, hn⟩ := h
  simp only [Lit.wf, IntKind.min, IntKind.max, IntKind.signed, IntKind.bits, Bool.and_eq_true, decide_eq_true_eq] at hn
  simp at hn
  refine ⟨n.toNat, ?_, by omega⟩
  have : ((n.toNat : Nat) : Int) = n := by omega
  simp only [encB, this]
theorem bytes_of {cs : List Abs.AV} (h : Shape Try.prog 2 33 cs) : ∃ a bs, cs = [a] ∧ Sl a (bs.map encB) ∧ By bs := by
  simp only [Shape, un33] at h
  obtain ⟨k, hk, h⟩ := h
  rw [ty5] at hk
  cases hk
  rcases h with rfl | ⟨xs, c, rfl, hl, hx⟩
  · exact ⟨_, [], rfl, ⟨.inl ⟨rfl, rfl⟩, Nat.zero_le _⟩, fun b hb => nomatch hb⟩
  · have hall : ∀ x ∈ xs, ∃ b : Nat, x = [encB b] ∧ b < 256 := fun x hx' => byte_of (d := 0) (by
      have := (hx x hx').1
      simp only [Shape]
      exact this)
    have key : ∀ ys : List (List Abs.AV), (∀ x ∈ ys, ∃ b : Nat, x = [encB b] ∧ b < 256) → ∃ bs : List Nat, ys.map (Abs.wrapV none) = bs.map encB ∧ By bs := by
      intro ys
      induction ys with
      | nil => intro _; exact ⟨[], rfl, fun b hb => nomatch hb⟩
      | cons y ys ih =>
        intro hy
        obtain ⟨bs, e1, e2⟩ := ih fun x hx => hy x (List.mem_cons_of_mem _ hx)
        obtain ⟨b, rfl, hb⟩ := hy y (List.mem_cons_self ..)
        refine ⟨b :: bs, by rw [List.map_cons, e1]; rfl, fun x hx => ?_⟩
        rcases List.mem_cons.1 hx with rfl | hx
        · exact hb
        · exact e2 x hx
    obtain ⟨bs, e1, e2⟩ := key xs hall
    exact ⟨_, bs, by rw [e1], ⟨.inr ⟨c, rfl⟩, by rw [← e1]; simpa using hl⟩, e2⟩

theorem und_bytes {a : Abs.AV} {bs : List Nat} (h : Sl a (bs.map encB)) : Und 0 a :=
  (Abs.und_sl (n := 0) h fun x hx => by obtain ⟨b, _, rfl⟩ := List.mem_map.1 hx; exact ⟨1, rfl⟩).und

set_option maxRecDepth 100000 in
theorem lifted (os : Os) (started : os.Started) (H : Type) (enc : TypeId × Value → H) :
    ReturnsInHanded {} Try.checked os 4 .any (Rows.imageChecksSpec.pre6 enc Try.prog Try.f4 Rows.imageChecksRow.domain false) (Rows.imageChecksSpec.post enc Try.prog Try.f4 false true false false) := by
  refine returnsInHanded_of_change (C := Try.checked) own started (by kernel_rfl) Try.func4
    (ChangeSpec.witness6 (enc := enc) (C := Try.checked) false ⟨#[], #[.slice none 0 0, .int .u8 0, .slice none 0 0], []⟩ 8 (by kernel_rfl) (by kernel_rfl) (by kernel_rfl) (by kernel_rfl)) ?_
  intro W base args ds gs before hval0 hW hcnd _
  have hval : ∀ (j : Nat) t v, Try.f4.params[j]? = some t → args[j]? = some v → Value.okWide Try.prog W .any base t v := hval0
  have hW' := hW
  obtain ⟨p, q, hA0, hV, rfl, hfz, hnd⟩ := hW
  have hA : DataW.TrodAll enc Try.prog W 0 (fun _ => true) true Try.f4.params.toList args.toList ds p := hA0
  rw [Try.params4] at hA hval
  obtain ⟨v1, vs1, d1, ds1, p1, q1, ea1, rfl, rfl, t1, hA⟩ := trodAll_cons hA
  obtain ⟨v2, vs2, d2, ds2, p2, q2, ea2, rfl, rfl, t2, hA⟩ := trodAll_cons hA
  obtain ⟨v3, vs3, d3, ds3, p3, q3, ea3, rfl, rfl, t3, hA⟩ := trodAll_cons hA
  obtain ⟨rfl, rfl, rfl⟩ := trodAll_nil hA
  subst ea3
  subst ea2
  obtain ⟨args⟩ := args
  simp only at ea1
  subst ea1
  obtain ⟨rfl, rfl⟩ := trodVars_none hV
  clear hA0 hval0
  simp only [List.append_nil] at hW'
  have P2 : Abs.plainT Try.prog 2 33 = true := by kernel_rfl
  have P1 : Abs.plainT Try.prog 1 5 = true := by kernel_rfl
  obtain ⟨as1, g1, _, _, g1'⟩ := Abs.arg_of P2 ty33 (hval 0 33 v1 rfl rfl) t1
  obtain ⟨as2, g2, _, _, g2'⟩ := Abs.arg_of P1 ty5 (hval 1 5 v2 rfl rfl) t2
  obtain ⟨as3, g3, _, _, g3'⟩ := Abs.arg_of P2 ty33 (hval 2 33 v3 rfl rfl) t3
  obtain ⟨a1, bs, rfl, s1, b1⟩ := bytes_of g1'
  obtain ⟨pg, rfl, b2⟩ := byte_of (d := 0) g2'
  obtain ⟨a3, rs, rfl, s3, b3⟩ := bytes_of g3'
  have hR := checks_ok worksOk a1 a3 bs rs pg s1 s3 b1 b3 b2 (und_bytes s1) (und_bytes s3) .empty
  refine (Abs.law_of hR (A := #[v1, v2, v3]) (w := W) (σ := Abs.sigW W) (fun _ _ _ h => h) (fun _ _ => rfl) ⟨rfl, fun i x X hx hX => ?_⟩).mono fun e W' ⟨he, hg⟩ => ?_
  · match i with
    | 0 => simp at hx hX; subst hx; subst hX; exact g1
    | 1 => simp at hx hX; subst hx; subst hX; exact g2
    | 2 => simp at hx hX; subst hx; subst hX; exact g3
    | i + 3 => simp at hx
  subst he
  exact ⟨_, rfl, Abs.post_quiet (pa := p1 ++ (p2 ++ (p3 ++ []))) (pv := []) hW' (fun _ _ _ => (trodAll_cons_mk (shut_bool Try.underlying4 _) trodAll_mk0))
    (fun sp hsp => by
      rw [Try.params4]
      refine trodAll_cons_mk (Abs.trod_quiet ⟨2, P2⟩ t1 hg fun p hp => hsp p ?_) (trodAll_cons_mk (Abs.trod_quiet ⟨1, P1⟩ t2 hg fun p hp => hsp p ?_) (trodAll_cons_mk (Abs.trod_quiet ⟨2, P2⟩ t3 hg fun p hp => hsp p ?_) trodAll_mk0))
      · simp [hp]
      · simp [hp]
      · simp [hp]) (fun _ _ => rfl) (by simp)
    hg (ok_one (by kernel_rfl) rfl (okWide_bool_mk Try.underlying4 _))⟩

theorem over : Rows.imageChecksRow.holds Try.pinned (OpenSpec.ofChange Rows.imageChecksSpec) :=
  OpenClaim.holds_of_wide 4 Try.f4 rfl rfl rfl rfl rfl rfl rfl ⟨rfl, rfl, rfl, rfl, rfl⟩ rfl rfl rfl rfl rfl (by kernel_rfl) Try.func4 (by kernel_rfl)
    (of_decide_eq_true (by kernel_rfl)) (by unfold Func.isWrapper; first | (rw [if_pos (by decide +kernel)]; kernel_rfl) | (rw [if_neg (by decide +kernel)]; exact ⟨rfl, rfl⟩))
    (fun os started H enc _ => lifted os started H enc)

/-- THE STATEMENT. -/
theorem proved : Rows.ImageChecksSaid :=
  over
#print axioms proved

end
end Go.Proofs.Ytajngkkihadgfaa.imageChecks
