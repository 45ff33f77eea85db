/-
  The law 'ImageSaves' holds: it returns true, and what was there reads as it did. No condition.
-/
import Derived.Test.YtajngkkihadgfaaGreatRows
import Derived.Test.YtajngkkihadgfaaGreatIk
import Derived.Test.YtajngkkihadgfaaGreatEk
import Derived.Test.YtajngkkihadgfaaGreatKnownZ
import Derived.WalkKit
import Derived.ProofKit
import Derived.OpenShut
set_option linter.unusedVariables false
set_option linter.unusedSimpArgs false
namespace Go.Proofs.YtajngkkihadgfaaGreat.imageSaves
open Go.ChangeShapes Go.WideShapes Go.ChangeAt Go.RowKit Go.Proofs.YtajngkkihadgfaaGreat
open Go.Abs (Sl By Und Shape encB)
noncomputable section
set_option maxRecDepth 100000
theorem own : ownKnob Tryz.prog.godebug = none := by kernel_rfl
theorem worksOk : Abs.Returns Tryz.prog 8 [] (.bool true) := Abs.returns_of (O := Abs.tab []) (Abs.tab_ok fun _ h => nomatch h) runWorks
theorem ty26 : Abs.tyK Tryz.prog 26 = some (some 4) := by kernel_rfl
theorem ty40 : Abs.tyK Tryz.prog 40 = some (some 5) := by kernel_rfl
theorem ty3 : Abs.tyK Tryz.prog 3 = some none := by kernel_rfl
theorem ty99 : Abs.tyK Tryz.prog 99 = some (some 2) := by kernel_rfl
theorem ty118 : Abs.tyK Tryz.prog 118 = some (some 2) := by kernel_rfl
theorem ty65 : Abs.tyK Tryz.prog 65 = some (some 3) := by kernel_rfl
theorem un3 : Tryz.prog.underlying 3 = some (.int .i64) := by kernel_rfl
theorem un36 : Tryz.prog.underlying 36 = some (.slice 26) := by kernel_rfl
theorem un37 : Tryz.prog.underlying 37 = some (.slice 3) := by kernel_rfl
theorem un38 : Tryz.prog.underlying 38 = some (.slice 99) := by kernel_rfl
theorem fl99 : Abs.fldsK Tryz.prog 99 = some [(3, some none, 0), (3, some none, 1)] := by kernel_rfl
theorem fl40 : Abs.fldsK Tryz.prog 40 = some [(36, some none, 0), (37, some none, 1), (38, some none, 2), (37, some none, 3), (3, some none, 4)] := by kernel_rfl
theorem un23 : Tryz.prog.underlying 23 = some (.slice 118) := by kernel_rfl
theorem un24 : Tryz.prog.underlying 24 = some (.slice 65) := by kernel_rfl
theorem int118 : Abs.fldsK Tryz.prog 118 = some [(116, some none, 0), (3, some none, 1)] := by kernel_rfl
theorem fl65 : Abs.fldsK Tryz.prog 65 = some [(3, some none, 0), (23, some none, 1), (23, some none, 2)] := by kernel_rfl
theorem fl26 : Abs.fldsK Tryz.prog 26 = some [(22, some none, 0), (3, some none, 1), (23, some none, 2), (24, some none, 3)] := by kernel_rfl
theorem un22 : Tryz.prog.underlying 22 = some (.int .i64) := by kernel_rfl
theorem un116 : Tryz.prog.underlying 116 = some (.int .i64) := by kernel_rfl
theorem val_of {d : Nat} {x : List Abs.AV} (h : Shape Tryz.prog (d + 2) 118 x) (hl : x.length = 2) : ∃ y : Val, Abs.wrapV (some 2) x = valI y ∧ True := by
  have hs := Abs.shape_struct (d := d + 1) int118 h
  obtain ⟨k1, e1, h1⟩ := hs _ (List.mem_cons_self ..)
  obtain ⟨k2, e2, h2⟩ := hs _ (List.mem_cons_of_mem _ (List.mem_cons_self ..))
  cases e1
  cases e2
  match x, hl with
  | [a, b], _ =>
    obtain ⟨n, en, _⟩ := Abs.shape_int (d := d) un116 (show Shape Tryz.prog (d + 1) 116 [a] from h1)
    obtain ⟨m, em, _⟩ := Abs.shape_int (d := d) un3 (show Shape Tryz.prog (d + 1) 3 [b] from h2)
    simp only [List.cons.injEq, and_true] at en em
    subst en; subst em
    exact ⟨(n, m), rfl, trivial⟩
theorem vals_of {d : Nat} {a : Abs.AV} (h : Shape Tryz.prog (d + 3) 23 [a]) : ∃ l, decVals a = some l := by
  obtain ⟨lv, l, e, hl, _⟩ := Abs.shape_slice (f := valI) (p := fun _ => True) (d := d + 2) un23 ty118 (fun x h1 h2 _ => val_of h1 h2) h
  cases e
  exact ⟨l, decVals_of hl⟩
theorem fr_of {x : List Abs.AV} (h : Shape Tryz.prog 4 65 x) (hl : x.length = 3) : ∃ y : Abs.AV, Abs.wrapV (some 3) x = id y ∧ ∃ f, decFr y = some f := by
  have hs := Abs.shape_struct (d := 3) fl65 h
  obtain ⟨k1, e1, h1⟩ := hs _ (List.mem_cons_self ..)
  obtain ⟨k2, e2, h2⟩ := hs _ (List.mem_cons_of_mem _ (List.mem_cons_self ..))
  obtain ⟨k3, e3, h3⟩ := hs _ (List.mem_cons_of_mem _ (List.mem_cons_of_mem _ (List.mem_cons_self ..)))
  cases e1
  cases e2
  cases e3
  match x, hl with
  | [a, b, c], _ =>
    obtain ⟨n, en, _⟩ := Abs.shape_int (d := 2) un3 (show Shape Tryz.prog 3 3 [a] from h1)
    obtain ⟨e, he⟩ := vals_of (d := 0) (show Shape Tryz.prog 3 23 [b] from h2)
    obtain ⟨v, hv⟩ := vals_of (d := 0) (show Shape Tryz.prog 3 23 [c] from h3)
    simp only [List.cons.injEq, and_true] at en
    subst en
    refine ⟨.agg [.int .i64 n, b, c], rfl, ⟨n, e, v⟩, ?_⟩
    show (match decVals b, decVals c with
      | some e, some v => some (Fr.mk n e v)
      | _, _ => none) = _
    rw [he, hv]
theorem decL_all {α : Type} {f : Abs.AV → Option α} : ∀ l : List Abs.AV, (∀ x ∈ l, ∃ y, f x = some y) → ∃ m, decL f l = some m
  | [], _ => ⟨[], rfl⟩
  | x :: l, h => by
    obtain ⟨y, hy⟩ := h x (List.mem_cons_self ..)
    obtain ⟨m, hm⟩ := decL_all l fun z hz => h z (List.mem_cons_of_mem _ hz)
    exact ⟨y :: m, by simp only [decL, hy, hm]⟩
theorem frs_of {a : Abs.AV} (h : Shape Tryz.prog 5 24 [a]) : ∃ l, decFrs a = some l := by
  obtain ⟨lv, l, e, hl, hx⟩ := Abs.shape_slice (f := id) (p := fun y => ∃ f, decFr y = some f) (d := 4) un24 ty65 (fun x h1 h2 _ => fr_of h1 h2) h
  cases e
  obtain ⟨m, hm⟩ := decL_all l hx
  rcases hl.1 with ⟨rfl, e⟩ | ⟨c, rfl⟩
  · exact ⟨[], rfl⟩
  · refine ⟨m, ?_⟩
    show (if _ then _ else _) = _
    rw [if_pos hl.2, List.map_id]
    exact hm
theorem ob_of {x : List Abs.AV} (h : Shape Tryz.prog 6 26 x) (hl : x.length = 4) : ∃ o, decOb (.agg x) = some o := by
  have hs := Abs.shape_struct (d := 5) fl26 h
  obtain ⟨k1, e1, h1⟩ := hs _ (List.mem_cons_self ..)
  obtain ⟨k2, e2, h2⟩ := hs _ (List.mem_cons_of_mem _ (List.mem_cons_self ..))
  obtain ⟨k3, e3, h3⟩ := hs _ (List.mem_cons_of_mem _ (List.mem_cons_of_mem _ (List.mem_cons_self ..)))
  obtain ⟨k4, e4, h4⟩ := hs _ (List.mem_cons_of_mem _ (List.mem_cons_of_mem _ (List.mem_cons_of_mem _ (List.mem_cons_self ..))))
  cases e1
  cases e2
  cases e3
  cases e4
  match x, hl with
  | [a, b, c, d], _ =>
    obtain ⟨n, en, _⟩ := Abs.shape_int (d := 4) un22 (show Shape Tryz.prog 5 22 [a] from h1)
    obtain ⟨m, em, _⟩ := Abs.shape_int (d := 4) un3 (show Shape Tryz.prog 5 3 [b] from h2)
    simp only [List.cons.injEq, and_true] at en em
    subst en; subst em
    obtain ⟨v, hv⟩ := vals_of (d := 2) (show Shape Tryz.prog 5 23 [c] from h3)
    obtain ⟨f, hf⟩ := frs_of (show Shape Tryz.prog 5 24 [d] from h4)
    refine ⟨⟨n, m, v, f⟩, ?_⟩
    show (match decVals c, decFrs d with
      | some v, some f => some (Ob.mk n m v f)
      | _, _ => none) = _
    rw [hv, hf]
theorem out_of {d : Nat} {x : List Abs.AV} (h : Shape Tryz.prog (d + 2) 99 x) (hl : x.length = 2) : ∃ y : Val, Abs.wrapV (some 2) x = valI y ∧ True := by
  have hs := Abs.shape_struct (d := d + 1) fl99 h
  obtain ⟨k1, e1, h1⟩ := hs _ (List.mem_cons_self ..)
  obtain ⟨k2, e2, h2⟩ := hs _ (List.mem_cons_of_mem _ (List.mem_cons_self ..))
  cases e1
  cases e2
  match x, hl with
  | [a, b], _ =>
    obtain ⟨n, en, _⟩ := Abs.shape_int (d := d) un3 (show Shape Tryz.prog (d + 1) 3 [a] from h1)
    obtain ⟨m, em, _⟩ := Abs.shape_int (d := d) un3 (show Shape Tryz.prog (d + 1) 3 [b] from h2)
    simp only [List.cons.injEq, and_true] at en em
    subst en; subst em
    exact ⟨(n, m), rfl, trivial⟩
theorem outs_of {d : Nat} {a : Abs.AV} (h : Shape Tryz.prog (d + 3) 38 [a]) : ∃ l, decVals a = some l := by
  obtain ⟨lv, l, e, hl, _⟩ := Abs.shape_slice (f := valI) (p := fun _ => True) (d := d + 2) un38 ty99 (fun x h1 h2 _ => out_of h1 h2) h
  cases e
  exact ⟨l, decVals_of hl⟩
theorem ints_of {d : Nat} {a : Abs.AV} (h : Shape Tryz.prog (d + 2) 37 [a]) : ∃ l, decInts a = some l := by
  obtain ⟨lv, l, e, hl, _⟩ := Abs.shape_slice (f := Abs.encI) (p := fun _ => True) (d := d + 1) un37 ty3 (fun x h1 h2 _ => by
    obtain ⟨n, rfl, _⟩ := Abs.shape_int (d := d) un3 h1
    exact ⟨n, rfl, trivial⟩) h
  cases e
  exact ⟨l, decInts_of hl⟩
theorem obs_of {a : Abs.AV} (h : Shape Tryz.prog 7 36 [a]) : ∃ l, decObs a = some l := by
  obtain ⟨lv, l, e, hl, hx⟩ := Abs.shape_slice (f := id) (p := fun y => ∃ f, decOb y = some f) (d := 6) un36 ty26 (fun x h1 h2 _ => ⟨.agg x, rfl, ob_of h1 h2⟩) h
  cases e
  obtain ⟨m, hm⟩ := decL_all l hx
  rcases hl.1 with ⟨rfl, e⟩ | ⟨c, rfl⟩
  · exact ⟨[], rfl⟩
  · refine ⟨m, ?_⟩
    show (if _ then _ else _) = _
    rw [if_pos hl.2, List.map_id]
    exact hm
theorem wd_of {x : List Abs.AV} (h : Shape Tryz.prog 8 40 x) (hl : x.length = 5) : ∃ w, decWd (.agg x) = some w := by
  have hs := Abs.shape_struct (d := 7) fl40 h
  obtain ⟨k1, e1, h1⟩ := hs _ (List.mem_cons_self ..)
  obtain ⟨k2, e2, h2⟩ := hs _ (List.mem_cons_of_mem _ (List.mem_cons_self ..))
  obtain ⟨k3, e3, h3⟩ := hs _ (List.mem_cons_of_mem _ (List.mem_cons_of_mem _ (List.mem_cons_self ..)))
  obtain ⟨k4, e4, h4⟩ := hs _ (List.mem_cons_of_mem _ (List.mem_cons_of_mem _ (List.mem_cons_of_mem _ (List.mem_cons_self ..))))
  obtain ⟨k5, e5, h5⟩ := hs _ (List.mem_cons_of_mem _ (List.mem_cons_of_mem _ (List.mem_cons_of_mem _ (List.mem_cons_of_mem _ (List.mem_cons_self ..)))))
  cases e1
  cases e2
  cases e3
  cases e4
  cases e5
  match x, hl with
  | [a, b, c, d, e], _ =>
    obtain ⟨os, ho⟩ := obs_of (show Shape Tryz.prog 7 36 [a] from h1)
    obtain ⟨ts, ht⟩ := ints_of (d := 5) (show Shape Tryz.prog 7 37 [b] from h2)
    obtain ⟨us, hu⟩ := outs_of (d := 4) (show Shape Tryz.prog 7 38 [c] from h3)
    obtain ⟨is, hi⟩ := ints_of (d := 5) (show Shape Tryz.prog 7 37 [d] from h4)
    obtain ⟨n, en, _⟩ := Abs.shape_int (d := 6) un3 (show Shape Tryz.prog 7 3 [e] from h5)
    simp only [List.cons.injEq, and_true] at en
    subst en
    refine ⟨⟨os, ts, us, is, n⟩, ?_⟩
    show (match decObs a, decInts b, decVals c, decInts d with
      | some p, some q, some r, some s => some (Wd.mk p q r s n)
      | _, _, _, _ => none) = _
    rw [ho, ht, hu, hi]
set_option maxRecDepth 100000 in
theorem lifted (os : Os) (started : os.Started) (H : Type) (enc : TypeId × Value → H) :
    ReturnsInHanded {} Tryz.checked os 4 .any (Rows.imageSavesSpec.pre6 enc Tryz.prog Tryz.f4 Rows.imageSavesRow.domain false) (Rows.imageSavesSpec.post enc Tryz.prog Tryz.f4 false true false false) := by
  refine returnsInHanded_of_change (C := Tryz.checked) own started (by kernel_rfl) Tryz.func4
    (ChangeSpec.witness6 (enc := enc) (C := Tryz.checked) false ⟨#[], #[.agg #[.slice none 0 0, .slice none 0 0, .slice none 0 0, .slice none 0 0, .int .i64 0]], []⟩ 10 (by kernel_rfl) (by kernel_rfl) (by kernel_rfl) (by kernel_rfl)) ?_
  intro W base args ds gs before hval0 hW hcnd _
  have hval : ∀ (j : Nat) t v, Tryz.f4.params[j]? = some t → args[j]? = some v → Value.okWide Tryz.prog W .any base t v := hval0
  have hW' := hW
  obtain ⟨p, q, hA0, hV, rfl, hfz, hnd⟩ := hW
  have hA : DataW.TrodAll enc Tryz.prog W 0 (fun _ => true) true Tryz.f4.params.toList args.toList ds p := hA0
  rw [Tryz.params4] at hA hval
  obtain ⟨v1, vs1, d1, ds1, p1, q1, ea1, rfl, rfl, t1, hA⟩ := trodAll_cons hA
  obtain ⟨rfl, rfl, rfl⟩ := trodAll_nil hA
  obtain ⟨args⟩ := args
  simp only at ea1
  subst ea1
  obtain ⟨rfl, rfl⟩ := trodVars_none hV
  clear hA0 hval0
  simp only [List.append_nil] at hW'
  have P1 : Abs.plainT Tryz.prog 8 40 = true := by kernel_rfl
  obtain ⟨as1, g1, l1, _, g1'⟩ := Abs.arg_of P1 ty40 (hval 0 40 v1 rfl rfl) t1
  obtain ⟨w, hw⟩ := wd_of g1' l1
  have hR := saves_ok worksOk (.agg as1) w hw .empty
  refine (Abs.law_of hR (A := #[v1]) (w := W) (σ := Abs.sigW W) (fun _ _ _ h => h) (fun _ _ => rfl) ⟨rfl, fun i x X hx hX => ?_⟩).mono fun e W' ⟨he, hg⟩ => ?_
  · match i with
    | 0 => simp at hx hX; subst hx; subst hX; exact g1
    | i + 1 => simp at hx
  subst he
  exact ⟨_, rfl, Abs.post_quiet (pa := p1 ++ []) (pv := []) hW' (fun _ _ _ => (trodAll_cons_mk (shut_bool Tryz.underlying4 _) trodAll_mk0))
    (fun sp hsp => by
      rw [Tryz.params4]
      refine trodAll_cons_mk (Abs.trod_quiet ⟨8, P1⟩ t1 hg fun p hp => hsp p ?_) trodAll_mk0
      simp [hp]) (fun _ _ => rfl) (by simp)
    hg (ok_one (by kernel_rfl) rfl (okWide_bool_mk Tryz.underlying4 _))⟩
theorem over : Rows.imageSavesRow.holds Tryz.pinned (OpenSpec.ofChange Rows.imageSavesSpec) :=
  OpenClaim.holds_of_wide 4 Tryz.f4 rfl rfl rfl rfl rfl rfl rfl ⟨rfl, rfl, rfl, rfl, rfl⟩ rfl rfl rfl rfl rfl (by kernel_rfl) Tryz.func4 (by kernel_rfl)
    (of_decide_eq_true (by kernel_rfl)) (by unfold Func.isWrapper; first | (rw [if_pos (by decide +kernel)]; kernel_rfl) | (rw [if_neg (by decide +kernel)]; exact ⟨rfl, rfl⟩))
    (fun os started H enc _ => lifted os started H enc)
theorem proved : Rows.ImageSavesSaid :=
  over
#print axioms proved
end
end Go.Proofs.YtajngkkihadgfaaGreat.imageSaves
