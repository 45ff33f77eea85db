/-
  The abstract machine: calls.
-/
import Derived.Test.YtglnkngifepmhaaGreatUv
import Derived.Defers
import Derived.Laws.Sem
set_option linter.unusedVariables false
set_option linter.unusedSimpArgs false

namespace Go.Abs

section
variable {P : Program} 

/-! ### results -/
def resOf (T : Array Value) (x : ResultVar) : Sem Value := match x with
  | .tmp t => pure (T.getD t undef)
  | .cell a t => do loadVar t (← asAddr (T.getD a undef))
theorem results_eq (fn : Func) (T : Array Value) : results fn T = (do let vs ← fn.results.mapM (resOf T); pure (if h : vs.size = 1 then vs[0] else .tuple vs)) := rfl

theorem dresults_ok {σ : Sg} {w : World} {e : Env} {T : Array Value} (h : Rel σ e.s w) (ht : TmR σ e.nt e.t T) : ∀ (l : List ResultVar) (r : List AV), dresults P e l = some r → ∃ R : List Value, VRs σ r R ∧ (l.mapM (resOf T)).run P w = .ok R w := by
  have hget : ∀ t, VR σ (match e.t.get t with | some v => v | none => .top) (T.getD t undef) := by
    intro t
    cases hg : e.t.get t with
    | none => exact .top _
    | some v => exact (ht.2 t v hg).2
  intro l
  induction l with
  | nil => intro r hr; simp [dresults] at hr; subst hr; exact ⟨[], VRs.nil _, by simp⟩
  | cons x l ih =>
    intro r hr
    cases x with
    | tmp t =>
      simp only [dresults] at hr
      split at hr
      · rename_i r' hr'
        simp only [Option.some.injEq] at hr; subst hr
        obtain ⟨R, h1, h2⟩ := ih r' hr'
        refine ⟨T.getD t undef :: R, VRs.cons (hget t) h1, ?_⟩
        rw [List.mapM_cons]
        simp [resOf, Sem.run_bind, h2]
      · cases hr
    | cell a t =>
      simp only [dresults] at hr
      split at hr
      · rename_i v hv
        split at hr
        · rename_i r' hr'
          simp only [Option.some.injEq] at hr; subst hr
          obtain ⟨R, h1, h2⟩ := ih r' hr'
          obtain ⟨ad, V, e1, e2, e3⟩ := aload_ok h hv (hget a)
          refine ⟨V :: R, VRs.cons e3 h1, ?_⟩
          rw [List.mapM_cons]
          have e1' : (T[a]?).getD undef = .pointer (some ad) := by rw [← e1, Array.getD_eq_getD_getElem?]
          simp [resOf, Sem.run_bind, e1', asAddr, e2, h2]
        · cases hr
      · cases hr

def packR : List AV → AV
  | [v] => v
  | l => .tuple l
theorem results_ok {σ : Sg} {w : World} {e : Env} {T : Array Value} (h : Rel σ e.s w) (ht : TmR σ e.nt e.t T) {fn : Func} {r : List AV} (hr : dresults P e fn.results.toList = some r) : ∃ V, (results fn T).run P w = .ok V w ∧ VR σ (packR r) V := by
  obtain ⟨R, h1, h2⟩ := dresults_ok h ht _ _ hr
  have hres : (results fn T).run P w = .ok (if h : R.toArray.size = 1 then R.toArray[0] else .tuple R.toArray) w := by
    rw [results_eq, Sem.run_bind, Array.mapM_eq_mapM_toList, map_eq_pure_bind, Sem.run_bind, h2]
    rfl
  refine ⟨_, hres, ?_⟩
  have hl := h1.1
  unfold packR
  split
  · rename_i v
    have hR : R.length = 1 := by simpa using hl.symm
    obtain ⟨V, rfl⟩ := List.length_eq_one_iff.1 hR
    simp
    exact h1.2 0 v V rfl rfl
  · rename_i hne
    rw [dif_neg]
    · exact VR.tuple_iff.2 ⟨_, rfl, by simpa using h1⟩
    · intro hsz
      have : r.length = 1 := by rw [hl]; simpa using hsz
      obtain ⟨v, hv⟩ := List.length_eq_one_iff.1 this
      exact hne v hv

/-! ### leaving -/
theorem step_collected {fr : Frame} {cs : List Frame} {w w' : World} {B : Nat} {as : Array Value} {ds calls : List Deferred} (hm : fr.mode ≠ .run) (hd : fr.defers = { target := .collected B, args := as } :: ds)
    (hr : (Instr.takeDeferred B).run P w = .ok calls w') : step P (lone fr cs w) = .next (lone { fr with defers := calls ++ ds } cs w') := by
  refine step_lone_go ?_
  cases hmode : fr.mode with
  | run => exact absurd hmode hm
  | returning => simp [stepG, unwind, hmode, hd, Sem.runT_eq, hr, GStep.bare_after]
  | panicking chain => simp [stepG, unwind, hmode, hd, Sem.runT_eq, hr, GStep.bare_after]

/-- the mode of a frame that is being left -/
inductive UM (σ : Sg) : Option AV → FrameMode → Prop
  | ret : UM σ none .returning
  | pan (v : AV) (V : Value) : VR σ v V → UM σ (some v) (.panicking [{ v := V, recovered := false }])
theorem UM.mono {σ τ : Sg} (h : σ.le τ) {o : Option AV} {u : FrameMode} (hu : UM σ o u) : UM τ o u := by
  cases hu with
  | ret => exact .ret
  | pan v V hv => exact .pan v V (hv.mono h)
theorem UM.ne {σ : Sg} {o : Option AV} {u : FrameMode} (hu : UM σ o u) : u ≠ .run := by cases hu <;> simp

def Left (P : Program) (σ : Sg) (S : Sto) (w : World) (M : Machine) (b : Frame) (stk : FrameMode → List Frame) (fn : Func) (s : Sto) (res : CRes) (rr : ARec) : Prop :=
  ∃ τ a' m' w' e' todo, ER τ b e' a' m' ∧ Stp σ S w τ e'.s w' ∧ rr = e'.r ∧ a'.defers = [] ∧ match res with
    | .ret v so => so = dclose s v e' ∧ ∃ V, VR τ v V ∧ (results fn a'.tmps).run P w' = .ok V w' ∧ Steps P M (lone { b.atR a' todo with mode := .returning } (stk m') w')
    | .pan v so => so = dclose s v e' ∧ ∃ V, VR τ v V ∧ Steps P M (lone { b.atR a' todo with mode := .panicking [{ v := V, recovered := false }] } (stk m') w')
theorem Left.of {σ τ : Sg} {S S' : Sto} {w w' : World} {M M' : Machine} {b : Frame} {stk : FrameMode → List Frame} {fn : Func} {s : Sto} {res : CRes} {rr : ARec} (h : Steps P M M') (hs : Stp σ S w τ S' w') (hl : Left P τ S' w' M' b stk fn s res rr) : Left P σ S w M b stk fn s res rr := by
  obtain ⟨ρ, a', m', w'', e', todo, h1, h2, h3, h4, h5⟩ := hl
  refine ⟨ρ, a', m', w'', e', todo, h1, hs.trans h2, h3, h4, ?_⟩
  cases res with
  | ret v so => obtain ⟨g1, V, g2, g3, g4⟩ := h5; exact ⟨g1, V, g2, g3, h.trans g4⟩
  | pan v so => obtain ⟨g1, V, g2, g3⟩ := h5; exact ⟨g1, V, g2, h.trans g3⟩

/-- what a body that is left comes to, with the last environment -/
def LeftE (P : Program) (σ : Sg) (S : Sto) (w : World) (M : Machine) (b : Frame) (stk : FrameMode → List Frame) (fn : Func) (res : LRes) (e' : Env) : Prop :=
  ∃ τ a' m' w' todo, ER τ b e' a' m' ∧ Stp σ S w τ e'.s w' ∧ a'.defers = [] ∧ match res with
    | .ret v => ∃ V, VR τ v V ∧ (results fn a'.tmps).run P w' = .ok V w' ∧ Steps P M (lone { b.atR a' todo with mode := .returning } (stk m') w')
    | .pan v => ∃ V, VR τ v V ∧ Steps P M (lone { b.atR a' todo with mode := .panicking [{ v := V, recovered := false }] } (stk m') w')
theorem LeftE.of {σ τ : Sg} {S S' : Sto} {w w' : World} {M M' : Machine} {b : Frame} {stk : FrameMode → List Frame} {fn : Func} {res : LRes} {e' : Env} (h : Steps P M M') (hs : Stp σ S w τ S' w') (hl : LeftE P τ S' w' M' b stk fn res e') : LeftE P σ S w M b stk fn res e' := by
  obtain ⟨ρ, a', m', w'', todo, h1, h2, h4, h5⟩ := hl
  refine ⟨ρ, a', m', w'', todo, h1, hs.trans h2, h4, ?_⟩
  cases res with
  | ret v => obtain ⟨V, g2, g3, g4⟩ := h5; exact ⟨V, g2, g3, h.trans g4⟩
  | pan v => obtain ⟨V, g2, g3⟩ := h5; exact ⟨V, g2, h.trans g3⟩
theorem LeftE.left {σ : Sg} {S : Sto} {w : World} {M : Machine} {b : Frame} {stk : FrameMode → List Frame} {fn : Func} {lr : LRes} {e' : Env} {s : Sto} {res : CRes} {rr : ARec} (hf : dfin s (some (lr, e')) = some (res, rr)) (hl : LeftE P σ S w M b stk fn lr e') : Left P σ S w M b stk fn s res rr := by
  obtain ⟨ρ, a', m', w'', todo, h1, h2, h4, h5⟩ := hl
  cases lr with
  | ret v =>
    simp only [dfin, Option.some.injEq, Prod.mk.injEq] at hf
    obtain ⟨rfl, rfl⟩ := hf
    obtain ⟨V, g2, g3, g4⟩ := h5
    exact ⟨ρ, a', m', w'', e', todo, h1, h2, rfl, h4, rfl, V, g2, g3, g4⟩
  | pan v =>
    simp only [dfin, Option.some.injEq, Prod.mk.injEq] at hf
    obtain ⟨rfl, rfl⟩ := hf
    obtain ⟨V, g2, g3⟩ := h5
    exact ⟨ρ, a', m', w'', e', todo, h1, h2, rfl, h4, rfl, V, g2, g3⟩

theorem dleave_ok {call : CallT} (hD : CallD P call) {fn : Func} {b : Frame} {stk : FrameMode → List Frame} {todo : List Item} : ∀ (n : Nat) (mode : Option AV) (e : Env) (res : LRes) (rr : Env) (σ : Sg) (w : World) (a : Act) (m u : FrameMode),
    dleave P call fn n mode e = some (res, rr) → Rel σ e.s w → ER σ b e a m → UM σ mode u → LeftE P σ e.s w (lone { b.atR a todo with mode := u } (stk m) w) b stk fn res rr := by
  intro n
  induction n with
  | zero => intro mode e res rr σ w a m u h; simp [dleave] at h
  | succ n ih =>
    intro mode e res rr σ w a m u h hr he hu
    have hdf := he.df
    simp only [dleave] at h
    generalize hds : e.ds = D at h hdf
    generalize hAd : a.defers = AD at hdf
    cases hdf with
    | nil =>
      simp only at h
      cases hu with
      | ret =>
        simp only at h
        split at h
        · rename_i v hv
          simp at h; obtain ⟨rfl, rfl⟩ := h
          obtain ⟨V, e1, e2⟩ := results_ok hr he.tm hv
          exact ⟨σ, a, m, w, todo, he, Stp.refl hr, hAd, V, e2, e1, .refl _ _⟩
        · rename_i l hne hl
          simp at h; obtain ⟨rfl, rfl⟩ := h
          obtain ⟨V, e1, e2⟩ := results_ok hr he.tm hl
          refine ⟨σ, a, m, w, todo, he, Stp.refl hr, hAd, V, ?_, e1, .refl _ _⟩
          unfold packR at e2
          split at e2
          · rename_i v; exact absurd rfl (hne v)
          · exact e2
        · cases h
      | pan v V hv =>
        simp at h; obtain ⟨rfl, rfl⟩ := h
        exact ⟨σ, a, m, w, todo, he, Stp.refl hr, hAd, V, hv, .refl _ _⟩
    | cons d Dd ds Ds h1 h2 =>
      cases h1 with
      | collected id B base sz hs =>
        simp only at h
        split at h
        · rename_i l hg
          obtain ⟨B', base', sz', o, g1, g2, g3⟩ := hr.obj id _ hg
          have g1' : σ id 0 = some (B', base', sz') := g1
          rw [hs] at g1'
          obtain ⟨rfl, rfl, rfl⟩ : B = B' ∧ base = base' ∧ sz = sz' := by simpa using g1'
          cases g3 with
          | defsS _ Ls hl =>
            have hput := stp_put (w' := w.putObj B (.deferred none)) hr hg g1 (y := .defs none) rfl (World.putObj_heap_same (Array.getElem?_eq_some_iff.1 g2).1) .defsN (by simp) (fun b' hb' => put_world b' hb') rfl rfl rfl
            have he' : ER σ b { e with ds := l ++ ds, s := e.s.put id (.defs none) } { a with defers := Ls ++ Ds } m := ⟨he.tm, hl.append h2, he.rc, he.fn, he.ro⟩
            have := ih mode _ res rr σ _ _ m u h hput.rel he' hu
            refine this.of ?_ hput
            exact .one (step_collected (fr := { b.atR a todo with mode := u }) hu.ne hAd (run_takeDeferred g2))
        · cases h
      | call f F first cap args A C k1 k2 k3 =>
        simp only at h
        cases hy : isYield (.func f first cap) with
        | true => rw [hy] at h; cases h
        | false =>
          rw [hy] at h
          simp only [cond_false] at h
          have hcalled : ∀ {g : FuncId} {A' : Array Value} {M : Machine}, (invoke (.fn F C) A).run P w = .ok (.enter g A') w → Steps P (lone (Frame.enter P g A' .deferred) ({ { b.atR a todo with defers := Ds } with mode := u } :: stk m) w) M → Steps P (lone { b.atR a todo with mode := u } (stk m) w) M := fun hi hs =>
            .head (step_defer (fr := { b.atR a todo with mode := u }) (d := { target := .fn F C, args := A }) hu.ne hAd rfl hi) hs
          cases hu with
          | ret =>
            simp only at h
            split at h
            · rename_i v so hc
              obtain ⟨g, A', hi, hs⟩ := hD σ e.s w f F first cap args C A _ _ _ _ hc hy hr k1 k2 k3 .quiet
              obtain ⟨τ, w', m', q1, q2, q3⟩ := hs { b.atR a todo with defers := Ds } (stk m)
              have hst := q2.stp hr
              have he' : ER τ b { e with ds := ds, s := so.getD e.s } { a with defers := Ds } m := by
                have := he.mono hst.ext
                exact ⟨this.tm, h2.mono hst.ext, this.rc, this.fn, this.ro⟩
              have hm' : settle m' = .returning := by cases q1; rfl
              rw [hm'] at q3
              exact (ih none { e with ds := ds, s := so.getD e.s } res rr τ w' _ m .returning (by cases so <;> exact h) hst.rel he' .ret).of (hcalled hi q3) hst
            · rename_i v so hc
              obtain ⟨g, A', hi, hs⟩ := hD σ e.s w f F first cap args C A _ _ _ _ hc hy hr k1 k2 k3 .quiet
              obtain ⟨τ, V, w', m', q0, q1, q2, q3⟩ := hs { b.atR a todo with defers := Ds } (stk m)
              have hst := q2.stp hr
              have he' : ER τ b { e with ds := ds, s := so.getD e.s } { a with defers := Ds } m := by
                have := he.mono hst.ext
                exact ⟨this.tm, h2.mono hst.ext, this.rc, this.fn, this.ro⟩
              have hm' : raised m' [{ v := V, recovered := false }] = .panicking [{ v := V, recovered := false }] := by cases q1; rfl
              rw [hm'] at q3
              exact (ih (some v) { e with ds := ds, s := so.getD e.s } res rr τ w' _ m _ (by cases so <;> exact h) hst.rel he' (.pan v V q0)).of (hcalled hi q3) hst
            · cases h
          | pan p V hV =>
            simp only at h
            split at h
            · rename_i v so v' hc
              obtain ⟨g, A', hi, hs⟩ := hD σ e.s w f F first cap args C A _ _ _ _ hc hy hr k1 k2 k3 (.pan p V hV)
              obtain ⟨τ, w', m', q1, q2, q3⟩ := hs { b.atR a todo with defers := Ds } (stk m)
              have hst := q2.stp hr
              have he' : ER τ b { e with ds := ds, s := so.getD e.s } { a with defers := Ds } m := by
                have := he.mono hst.ext
                exact ⟨this.tm, h2.mono hst.ext, this.rc, this.fn, this.ro⟩
              have hm' : settle m' = .returning := by cases q1; rfl
              rw [hm'] at q3
              exact (ih none { e with ds := ds, s := so.getD e.s } res rr τ w' _ m .returning (by cases so <;> exact h) hst.rel he' .ret).of (hcalled hi q3) hst
            · rename_i v so p' hc
              obtain ⟨g, A', hi, hs⟩ := hD σ e.s w f F first cap args C A _ _ _ _ hc hy hr k1 k2 k3 (.pan p V hV)
              obtain ⟨τ, w', m', q1, q2, q3⟩ := hs { b.atR a todo with defers := Ds } (stk m)
              have hst := q2.stp hr
              have he' : ER τ b { e with ds := ds, s := so.getD e.s } { a with defers := Ds } m := by
                have := he.mono hst.ext
                exact ⟨this.tm, h2.mono hst.ext, this.rc, this.fn, this.ro⟩
              cases q1 with
              | pan _ V' hV' =>
                exact (ih (some p') { e with ds := ds, s := so.getD e.s } res rr τ w' _ m _ (by cases so <;> exact h) hst.rel he' (.pan p' V' hV')).of (hcalled hi q3) hst
            · cases h

theorem dfin_some {s : Sto} {x : Option (LRes × Env)} {y : CRes × ARec} (h : dfin s x = some y) : ∃ lr e', x = some (lr, e') ∧ dfin s (some (lr, e')) = some y := by
  cases x with
  | none => cases h
  | some x => exact ⟨x.1, x.2, rfl, h⟩

/-! ### a function -/
theorem tmR_args {σ : Sg} {as : List AV} {A : Array Value} (h : VRs σ as A.toList) (n : Nat) : TmR σ (Nat.max as.length n) (Tr.leaf.lay 0 as) (A ++ Array.replicate (n - A.size) undef) := by
  have hl : as.length = A.size := by simpa using h.1
  refine ⟨by simp; rw [hl]; show _ = max A.size n; omega, fun i v hv => ?_⟩
  rw [Tr.get_lay] at hv
  split at hv
  · rename_i hi
    have hi' : i < A.size := by omega
    refine ⟨by show i < max as.length n; omega, ?_⟩
    have := h.2 i v A[i] (by simpa using hv) (by simp [hi'])
    simpa [Array.getD_eq_getD_getElem?, Array.getElem?_append, hi'] using this
  · simp [Tr.get] at hv

/-- what a called function comes to, in its own frame -/
theorem dfunc_ok {call : CallT} (hN : CallN P call) (hD : CallD P call) (hfun : ∀ v args s r x, call v args s r = some x → ∃ f a c, v = .func f a c) {n : Nat} {f : FuncId} {args : List AV} {s : Sto} {r rr : ARec} {res : CRes} (hd : dfunc P call n f args s r = some (res, rr)) :
    okFn P f = true ∧ ∃ fn, P.funcs[f]? = some fn ∧ ∀ {σ : Sg} {w : World} {A : Array Value} {kd : CallKind} {stk : FrameMode → List Frame} {m : FrameMode}, Rel σ s w → VRs σ args A.toList → StkOk kd stk → RM σ kd r m →
      Left P σ { s with low := s.n } w (lone (Frame.enter P f A kd) (stk m) w) { (default : Frame) with fn := f, kind := kd } stk fn s res rr := by
  unfold dfunc at hd
  cases hok : okFn P f with
  | false => rw [hok] at hd; cases hd
  | true =>
    rw [hok] at hd
    simp only [cond_true] at hd
    refine ⟨rfl, ?_⟩
    split at hd
    · rename_i fn hf
      split at hd
      · rename_i c hb
        refine ⟨fn, hf, fun {σ w A kd stk m} h ha hstk hrm => ?_⟩
        have hrel : Rel σ { s with low := s.n } w := h.low rfl rfl
        have he : ER σ { (default : Frame) with fn := f, kind := kd } { nt := Nat.max args.length fn.ntmps, ro := none, fn := f, t := Tr.leaf.lay 0 args, ds := [], s := { s with low := s.n }, r := r } { tmps := A ++ Array.replicate (fn.ntmps - A.size) undef, defers := [] } m :=
          ⟨tmR_args ha _, .nil, hrm, rfl, rfl⟩
        have henter : Frame.enter P f A kd = ({ (default : Frame) with fn := f, kind := kd } : Frame).atR { tmps := A ++ Array.replicate (fn.ntmps - A.size) undef, defers := [] } [.code c] := by
          simp [Frame.enter, Frame.atR, hf, hb]
          rfl
        rw [henter]
        split at hd
        · rename_i e hc
          obtain ⟨τ, a', m', w', h1, h2, h3⟩ := dcode_ok hN hfun n c σ w _ stk [] _ _ m _ _ hstk hc hrel he
          obtain ⟨lr, e', hl, hf⟩ := dfin_some hd
          exact ((dleave_ok hD (todo := []) n none e lr e' τ w' a' m' .returning hl h2.rel h1 .ret).of (Steps.trans h3 (.one (stepR_end rfl))) h2).left hf
        · rename_i e hc
          obtain ⟨τ, a', m', w', h1, h2, k₁, h3⟩ := dcode_ok hN hfun n c σ w _ stk [] _ _ m _ _ hstk hc hrel he
          obtain ⟨lr, e', hl, hf⟩ := dfin_some hd
          exact ((dleave_ok hD n none e lr e' τ w' a' m' .returning hl h2.rel h1 .ret).of (Steps.trans h3 (.one (stepR_ret rfl))) h2).left hf
        · rename_i v e hc
          obtain ⟨τ, a', m', w', h1, h2, V, todo, hV, h3⟩ := dcode_ok hN hfun n c σ w _ stk [] _ _ m _ _ hstk hc hrel he
          obtain ⟨lr, e', hl, hf⟩ := dfin_some hd
          exact ((dleave_ok hD n (some v) e lr e' τ w' a' m' _ hl h2.rel h1 (.pan v V hV)).of h3 h2).left hf
        · cases hd
      · cases hd
    · cases hd

/-- a call's store is closed -/
theorem close_ok {σ τ : Sg} {s : Sto} {w w' : World} {e' : Env} {v : AV} (h : Rel σ s w) (hs : Stp σ { s with low := s.n } w τ e'.s w') :
    ∃ ρ, CStp σ s w ρ (dclose s v e') w' ∧ (∀ V, VR τ v V → VR ρ v V) ∧ (∀ k m, RM τ k e'.r m → RM ρ k e'.r m) := by
  unfold dclose
  cases hc : Nat.ble s.n e'.s.low && (v.under s.n 100 && runder s.n e'.r) with
  | true =>
    simp only [Bool.and_eq_true, Nat.ble_eq] at hc
    obtain ⟨hlow, hv, hr⟩ := hc
    have hcut : (τ.cut s.n).s = σ.s := by
      funext id g
      simp only [Sg.cut]
      split
      · rename_i hid
        exact (hs.keep id hid (by omega)).2.1 g
      · rename_i hid
        cases hg : σ id g with
        | none => rfl
        | some y => exact absurd (h.bnd id g y hg) hid
    refine ⟨τ.cut s.n, ⟨⟨hs.size, fun b hb => ?_, hs.os, hs.out, hs.tape⟩, ⟨fun id g x hx => by rw [hcut]; exact hx, hs.ext.m⟩, hcut, fun b off V hV => ?_⟩, fun V hV => VR.cut _ _ _ hv hV, fun k m hm => ?_⟩
    · by_cases hh : Has σ s b
      · obtain ⟨id, x, base, sz, h1, h2⟩ := hh
        have hid := Sto.get_lt h1
        exact (hs.keep id hid (by omega)).2.2 x b base sz h1 h2
      · exact hs.frame b hb hh
    · have hmu := hs.rel.mu b off V hV
      rcases hs.mnew b off V hV with h1 | ⟨id, x, base, sz, h1, h2⟩ | h1
      · exact .inl h1
      · exfalso
        have hid : id < s.n := Sto.get_lt h1
        obtain ⟨k1, k2, _⟩ := hs.keep id hid (by omega)
        exact hmu.2 ⟨id, x, base, sz, by rw [k1]; exact h1, by rw [k2]; exact h2⟩
      · exact .inr ⟨h1, hmu.1⟩
    · generalize e'.r = r at hm hr
      cases hm with
      | normal m => exact .normal m
      | quiet => exact .quiet
      | pan p V hV => exact .pan p V (VR.cut _ _ _ hr hV)
      | recd p V hV => exact .recd p V (VR.cut _ _ _ hr hV)
  | false =>
    refine ⟨τ, ?_, fun V h => h, fun k m h => h⟩
    show Stp σ s w τ { e'.s with low := Nat.min s.low e'.s.low } w'
    exact ⟨hs.rel.low rfl rfl, hs.ext, hs.size, hs.frame, hs.own, hs.sn, Nat.min_le_left _ _, fun id h1 h2 => hs.keep id h1 (Nat.lt_of_lt_of_le h2 (Nat.min_le_right _ _)), hs.os, hs.out, hs.tape, hs.hole, hs.mnew⟩

end
end Go.Abs
