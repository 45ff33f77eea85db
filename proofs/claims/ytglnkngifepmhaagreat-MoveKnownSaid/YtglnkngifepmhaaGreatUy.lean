/-
  The abstract machine: a law without arguments.
-/
import Derived.Test.YtglnkngifepmhaaGreatUx
import Derived.ChangeSame
import Derived.RowKit3
set_option linter.unusedVariables false
set_option linter.unusedSimpArgs false

namespace Go.Abs
open Go.ChangeShapes

/-- memory is as it was, but for new blocks: so is what is read -/
theorem post_quiet {H : Type} {enc : TypeId × Value → H} {P : Program} {f : Func} {s : ChangeSpec} {apart fresh handsOn again : Bool} {W W' : World} {args : Array Value} {v : Value} {ds gs : List (DataW H)} {before pa pv : List MemPlace}
    (hW : DataW.Whole enc P f.params.toList s.vars apart W args.toList ds gs before)
    (hres : ∀ (b : Nat) (sp : Nat → Bool) (hd : Bool), DataW.TrodAll enc P W' b sp hd f.resultTypes.toList (v.resultList f.resultTypes.size) (s.fn H (ds ++ gs)).results [])
    (hargs : ∀ sp : Nat → Bool, (∀ p ∈ before, sp p.block = true) → DataW.TrodAll enc P W' 0 sp true f.params.toList args.toList (s.fn H (ds ++ gs)).args pa)
    (hvars : ∀ sp : Nat → Bool, (∀ p ∈ before, sp p.block = true) → DataW.TrodVars enc P W' sp s.vars (s.fn H (ds ++ gs)).vars pv)
    (hps : before = pa ++ pv) (q : Quiet W W')
    (hok : ∀ (j : Nat) (t : TypeId) (r : Value), f.resultTypes[j]? = some t → (v.resultList f.resultTypes.size)[j]? = some r → Value.okWide P W' .any 0 t r) :
    s.post enc P f apart fresh handsOn again W args v W' := by
  have hold : ∀ p ∈ before, (fun b => decide (b < W.heap.size)) p.block = true := fun p hp => by simpa using hW.lt p hp
  have hk : W.keptBut W' (fun _ => False) := ⟨q.os, q.out, fun i hi => by rw [q.heap i hi]; exact (World.keptBut_refl W (fun _ => False)).2.2 i hi⟩
  refine ⟨ds, gs, before, [], pa, pv, hW, hres _ _ _, hargs _ hold, hvars _ hold, World.keptBut_mono (fun p hp => hp.elim) hk, fun _ => ?_⟩
  have hlt := hW.lt
  obtain ⟨_, _, _, _, _, hz, hn⟩ := hW
  refine ⟨hok, _, _, ([] ++ pa) ++ pv, ⟨[] ++ pa, pv, trodAll_append (hargs _ (fun _ _ => rfl)) (hres _ _ _), hvars _ (fun _ _ => rfl), rfl, ?_, ?_⟩, ?_⟩
  · intro b off hp
    have hm : MemPlace.cell b off ∈ before := by rw [hps]; simpa using hp
    have hb : b < W.heap.size := hlt _ hm
    have := hz b off hm
    simp only [World.frozen?] at this ⊢
    rw [q.heap b hb]
    exact this
  · intro ha
    have := hn ha
    rw [hps] at this
    simpa using this
  · intro p hp _
    rw [hps]
    simpa using hp

theorem law_of {P : Program} {f : FuncId} {args : List AV} (h : Sound P f args .empty (.ret (.bool true) none)) {A : Array Value} {w : World} {σ : Sg} (hm : ∀ b off V, σ.m b off = some V → w.cell? ⟨b, off, none⟩ = some V) (hs : ∀ id g, σ id g = none) (ha : VRs σ args A.toList) :
    Calls P f A w fun e w' => e = .returned (.bool true) ∧ Quiet w w' := by
  refine (calls_of h hm hs ha).mono fun e w' he => ?_
  cases e with
  | returned V => obtain ⟨⟨τ, h1, _⟩, h2⟩ := he; exact ⟨by rw [vr_bool h1], h2⟩
  | _ => exact he.elim

end Go.Abs
