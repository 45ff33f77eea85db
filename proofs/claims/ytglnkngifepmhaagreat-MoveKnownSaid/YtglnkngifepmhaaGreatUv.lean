/-
  The abstract machine: ranges over functions, code.
-/
import Derived.Test.YtglnkngifepmhaaGreatUu
import Derived.RangeFuncRecord
import Derived.RangeFuncIn
set_option linter.unusedVariables false
set_option linter.unusedSimpArgs false

namespace Go.Abs

section
variable {P : Program} 

/-- the one call of a range over a function, whatever it lays -/
theorem step_range {b : Frame} {a : Act} {k : List Item} {cs : List Frame} {w w₁ : World} {g : Operand} {ps : Array Tmp} {assign body : Code} {l : Nat} {mark : List Deferred} {d : Deferred} {nx : Next} {fr : Frame}
    (he : (Instr.enterLoop b.fn a.tmps ps assign body b.roundOf).run P w = .ok (l, mark) w₁)
    (hres : (resolve a.eval (rangeCall g l) 0).run P w₁ = .ok d w₁) (hinv : (invoke d.target d.args).run P w₁ = .ok nx w₁) (hp : IsPush P nx fr) :
    step P (lone (b.atR a (.code (.rangeFunc g ps assign body) :: k)) cs w) = .next (lone fr (b.atR { a with defers := mark ++ a.defers } (.inRangeFunc l :: k) :: cs) w₁) :=
  step_lone_go (by
    have hev := Frame.eval_atR b { a with defers := mark ++ a.defers } (.inRangeFunc l :: k)
    simp only [Frame.atR] at hev
    have hres' : Sem.run P (resolve ({ tmps := a.tmps, defers := mark ++ a.defers } : Act).eval { callee := .value g, args := #[.const (.func (.yield l) #[] #[])], argTypes := #[] } 0) w₁ = .ok d w₁ := hres
    rcases hp with ⟨g', A, rfl, rfl⟩ | ⟨l', f', t', a', b', rfl, rfl⟩
    · simp [stepG, stepG.exec, Frame.atR, Sem.runT_eq, he, GStep.bare_after, stepG.apply, hev, Sem.run_bind, hres', hinv, Result.andThen]
    · simp [stepG, stepG.exec, Frame.atR, Sem.runT_eq, he, GStep.bare_after, stepG.apply, hev, Sem.run_bind, hres', hinv, Result.andThen])

theorem upd_other {σ : Sg} {id g id' g' : Nat} {x : Nat × Nat × Nat} (h : id' ≠ id) : σ.upd id g x id' g' = σ id' g' := by
  simp only [Sg.upd]; rw [if_neg (fun h' => h h'.1)]

theorem put_world {w : World} {L : Nat} {o : Obj} (b : Nat) (h : b ≠ L) : (w.putObj L o).heap[b]? = w.heap[b]? := World.putObj_heap_other h

theorem rangeEnd_ok {b : Frame} {stk : FrameMode → List Frame} {k : List Item} {σ τ : Sg} {S s : Sto} {w w' : World} {e : Env} {ds : List ADef} {lid L : Nat} {base sz : Nat} {a : Act} {m : FrameMode} {ex : Ex} {e' : Env} {M : Machine}
    (hd : drangeEnd e ds lid s = some (ex, e')) (hst : Stp σ S w τ s w') (he : ER τ b { e with ds := ds, s := s } a m) (hL : τ lid 0 = some (L, base, sz)) (hs : Steps P M (lone (b.atR a (.endRangeFunc L :: k)) (stk m) w')) :
    COut P σ S w M b stk k ex e' := by
  unfold drangeEnd at hd
  split at hd
  · rename_i st pend fn nt t ps ca cb d hg
    obtain ⟨B, base', sz', o, h1, h2, h3⟩ := hst.rel.obj lid _ hg
    have h1' : τ lid 0 = some (B, base', sz') := h1
    rw [hL] at h1'
    obtain ⟨rfl, rfl, rfl⟩ : L = B ∧ base = base' ∧ sz = sz' := by simpa using h1'
    cases h3 with
    | loop _ _ _ _ _ _ _ _ _ T PS db dbase dsz g1 g2 g3 =>
      have hnb : st ≠ .busy := by rintro rfl; simp at hd
      have hrun := run_endLoop (P := P) h2 hnb
      have hput := stp_put (w' := w'.putObj L (.loop { state := .exhausted, pending := pend, fn := fn, tmps := T, params := PS, assign := ca, body := cb, defers := db })) hst.rel hg h1 (y := .loop .exhausted pend fn nt t ps ca cb d) rfl
        (World.putObj_heap_same (Array.getElem?_eq_some_iff.1 h2).1) (.loop _ _ _ _ _ _ _ _ _ _ _ _ _ _ g1 g2 g3) (by simp) (fun b' hb' => put_world b' hb') rfl rfl rfl
      have hst' := hst.trans hput
      have hs' := hs.trans (.one (stepR_endRangeFunc (k := k) hrun))
      have he' := he.sto (s.put lid (.loop .exhausted pend fn nt t ps ca cb d))
      cases st with
      | busy => exact absurd rfl hnb
      | _ =>
        simp only at hd
        cases pend with
        | none =>
          simp at hd
          obtain ⟨rfl, rfl⟩ := hd
          exact ⟨τ, a, m, _, he', hst', hs'⟩
        | some j =>
          cases j <;> simp at hd
          · rename_i id
            obtain ⟨rfl, rfl⟩ := hd
            refine ⟨τ, a, m, _, he', hst', fun k' hk' => hs'.trans (.one (stepR_exit hk')), fun hk => ⟨k, hk, hs'⟩⟩
          · obtain ⟨rfl, rfl⟩ := hd
            exact ⟨τ, a, m, _, he', hst', k, hs'⟩
  · cases hd

/-- the record is laid, the function is called, and the range ends -/
theorem range_core {call : CallT} (hcall : CallN P call) (hfun : ∀ v args s r x, call v args s r = some x → ∃ f a c, v = .func f a c) {b : Frame} {stk : FrameMode → List Frame} {k : List Item} {σ σ1 : Sg} {w w1 : World} {s1 : Sto} {e : Env} {a : Act} {m : FrameMode} {ex : Ex} {e' : Env}
    {f : Operand} {ps : Array Tmp} {asg body : Code} {d db dbase dsz : Nat} {ds : List ADef} {mark : List Deferred} (h1 : Stp σ e.s w σ1 s1 w1) (he : ER σ b e a m) (hdb : σ1 d 0 = some (db, dbase, dsz)) (hds : DefsR σ1 ds (mark ++ a.defers))
    (hen : (Instr.enterLoop b.fn a.tmps ps asg body b.roundOf).run P w = .ok (w1.heap.size, mark) (w1.alloc (.loop { state := .ready, pending := none, fn := b.fn, tmps := a.tmps, params := ps, assign := asg, body := body, defers := db })))
    (hd : (match call (e.eval f) [.func (.yield s1.n) [] []] (s1.push (.loop .ready none e.fn e.nt e.t ps.toList asg body d)) .no with
      | some (.ret _ so, _) => drangeEnd e ds s1.n (match so with | some s => s | none => s1.push (.loop .ready none e.fn e.nt e.t ps.toList asg body d))
      | some (.pan v so, _) => some (.panic v, { e with s := (match so with | some s => s | none => s1.push (.loop .ready none e.fn e.nt e.t ps.toList asg body d)), ds := ds })
      | none => none) = some (ex, e')) :
    COut P σ e.s w (lone (b.atR a (.code (.rangeFunc f ps asg body) :: k)) (stk m) w) b stk k ex e' := by
  have hdn : d < s1.n := h1.rel.bnd _ _ _ hdb
  have h2 := stp_push (x := .loop .ready none e.fn e.nt e.t ps.toList asg body d) (o := .loop { state := .ready, pending := none, fn := b.fn, tmps := a.tmps, params := ps, assign := asg, body := body, defers := db }) (base := 0) (sz := 0) h1.rel rfl
    (by
      rw [he.fn]
      refine .loop _ _ _ _ _ _ _ _ _ _ _ db dbase dsz ?_ rfl ?_
      · refine he.tm.mono (Sg.le_trans h1.ext (Sg.le_upd _ ?_))
        cases hs : σ1 s1.n 0 with
        | none => rfl
        | some y => exact absurd (h1.rel.bnd _ _ _ hs) (Nat.lt_irrefl _)
      · rw [upd_other (by omega)]; exact hdb)
  generalize hs2 : s1.push (.loop .ready none e.fn e.nt e.t ps.toList asg body d) = s2 at hd h2
  generalize hw2 : w1.alloc (.loop { state := .ready, pending := none, fn := b.fn, tmps := a.tmps, params := ps, assign := asg, body := body, defers := db }) = w2 at hen h2
  generalize hσ2 : σ1.upd s1.n 0 (w1.heap.size, 0, 0) = σ2 at h2
  have hL : σ2 s1.n 0 = some (w1.heap.size, 0, 0) := by rw [← hσ2]; exact Sg.upd_same _ _ _ _
  have h12 := h1.trans h2
  have hfv := eval_ok he.tm f
  have hfn : ∃ g x y, e.eval f = .func g x y := by
    split at hd
    · rename_i hc; exact hfun _ _ _ _ _ hc
    · rename_i hc; exact hfun _ _ _ _ _ hc
    · cases hd
  obtain ⟨g, x, y, hg⟩ := hfn
  rw [hg] at hfv hd
  generalize hq : a.eval f = FV at hfv
  cases hfv with
  | func _ F _ _ X Y hF k1 k2 k3 k4 =>
    have hle := h12.ext
    have hcap : VRs σ2 y Y.toList := ⟨by simpa using k2, fun i x X e1 e2 => (k4 i x X e1 (by simpa using e2)).mono hle⟩
    have hargs : VRs σ2 (x ++ [AV.func (.yield s1.n) [] []]) (X ++ #[Value.func (.yield w1.heap.size) #[] #[]]).toList := by
      rw [Array.toList_append]
      exact VRs.append ⟨by simpa using k1, fun i x X e1 e2 => (k3 i x X e1 (by simpa using e2)).mono hle⟩ (VRs.cons (VR.func _ _ _ _ _ _ (.yield _ _ _ _ hL) rfl rfl (by simp) (by simp)) (VRs.nil _))
    have hFn : FnR σ2 g F := hF.mono hle
    have main : ∀ (res : CRes) (rr : ARec), call (.func g x y) [.func (.yield s1.n) [] []] s2 .no = some (res, rr) → ∃ fr, Steps P (lone (b.atR a (.code (.rangeFunc f ps asg body) :: k)) (stk m) w) (lone fr (b.atR { a with defers := mark ++ a.defers } (.inRangeFunc w1.heap.size :: k) :: stk m) w2) ∧ match res with
        | .ret v so => ∃ τ V w', VR τ v V ∧ CStp σ2 s2 w2 τ so w' ∧ Steps P (lone fr (b.atR { a with defers := mark ++ a.defers } (.inRangeFunc w1.heap.size :: k) :: stk m) w2) (lone (b.atR { a with defers := mark ++ a.defers } (.endRangeFunc w1.heap.size :: k)) (stk m) w')
        | .pan v so => ∃ τ V w', VR τ v V ∧ CStp σ2 s2 w2 τ so w' ∧ Steps P (lone fr (b.atR { a with defers := mark ++ a.defers } (.inRangeFunc w1.heap.size :: k) :: stk m) w2) (lone { b.atR { a with defers := mark ++ a.defers } (.inRangeFunc w1.heap.size :: k) with mode := .panicking [{ v := V, recovered := false }] } (stk m) w') := by
      intro res rr hc
      obtain ⟨nx, fr, p1, p2, p3⟩ := hcall σ2 s2 w2 g F x y [.func (.yield s1.n) [] []] Y _ res rr hc h2.rel hFn hcap hargs
      refine ⟨fr, .one (step_range hen (d := { target := .fn F Y, args := X ++ #[.func (.yield w1.heap.size) #[] #[]] }) ?_ p1 p2), ?_⟩
      · have hc' : a.eval (.const (.func (.yield w1.heap.size) #[] #[])) = .func (.yield w1.heap.size) #[] #[] := rfl
        simp [resolve, rangeCall, hq, Deferred.ofValue, hc']
      · have := p3 (b.atR { a with defers := mark ++ a.defers } (.inRangeFunc w1.heap.size :: k)) (stk m)
        cases res with
        | ret v so =>
          obtain ⟨τ, V, w', q1, q2, q3⟩ := this
          exact ⟨τ, V, w', q1, q2, by rw [← finish_atR_inRangeFunc _ V]; exact q3⟩
        | pan v so =>
          obtain ⟨τ, V, w', q1, q2, q3⟩ := this
          exact ⟨τ, V, w', q1, q2, by rw [← Frame.raise_atR]; exact q3⟩
    have hso : ∀ (so : Option Sto), (match so with | some s => s | none => s2) = so.getD s2 := fun so => by cases so <;> rfl
    split at hd
    · rename_i v so rr hc
      obtain ⟨fr, q0, τ, V, w', q1, q2, q3⟩ := main _ _ hc
      have hst := h12.trans (q2.stp h2.rel)
      rw [hso] at hd
      have hτ := (q2.stp h2.rel).ext
      have heE : ER τ b { e with ds := ds, s := so.getD s2 } { a with defers := mark ++ a.defers } m := by
        have h3 := he.mono hst.ext
        exact ⟨h3.tm, hds.mono (Sg.le_trans h2.ext hτ), h3.rc, h3.fn, h3.ro⟩
      exact rangeEnd_ok hd hst heE (hτ _ _ _ hL) (q0.trans q3)
    · rename_i v so rr hc
      obtain ⟨fr, q0, τ, V, w', q1, q2, q3⟩ := main _ _ hc
      have hst := h12.trans (q2.stp h2.rel)
      rw [hso] at hd
      simp at hd
      obtain ⟨rfl, rfl⟩ := hd
      have hτ := (q2.stp h2.rel).ext
      have heE : ER τ b { e with s := so.getD s2, ds := ds } { a with defers := mark ++ a.defers } m := by
        have h3 := he.mono hst.ext
        exact ⟨h3.tm, hds.mono (Sg.le_trans h2.ext hτ), h3.rc, h3.fn, h3.ro⟩
      exact ⟨τ, _, m, w', heE, hst, V, _, q1, q0.trans q3⟩
    · cases hd

theorem drange_ok {call : CallT} (hcall : CallN P call) (hfun : ∀ v args s r x, call v args s r = some x → ∃ f a c, v = .func f a c) {f : Operand} {ps : Array Tmp} {asg body : Code} : CodeOk P (drange call f ps asg body) (.rangeFunc f ps asg body) := by
  intro σ w b stk k e a m ex e' hstk hd h he
  unfold drange at hd
  cases hro : e.ro with
  | none =>
    have hbro : b.roundOf = none := by have := he.ro; rw [hro] at this; exact this
    rw [hro] at hd
    simp only at hd
    rw [← hro] at hd
    have h1 := stp_push (x := .defs (some [])) (o := .deferred (some [])) (base := 0) (sz := 0) h rfl (.defsS _ _ .nil)
    have hd1 : (σ.upd e.s.n 0 (w.heap.size, 0, 0)) e.s.n 0 = some (w.heap.size, 0, 0) := Sg.upd_same _ _ _ _
    refine range_core hcall hfun (mark := [{ target := .collected w.heap.size, args := #[] }]) (d := e.s.n) (db := w.heap.size) h1 he hd1 (.cons _ _ _ _ (.collected _ _ _ _ hd1) (he.df.mono h1.ext)) ?_ hd
    rw [hbro, run_enterLoop_outer]
    simp [World.size_alloc]
  | some l =>
    have hr := he.ro
    rw [hro] at hr hd
    simp only at hr hd
    obtain ⟨L, base, sz, hb, hs, hk⟩ := hr
    split at hd
    · cases hd
    · rename_i x s1 d ds hm
      split at hm
      · rename_i st pe fn nt t ps' a' b' d' hg
        simp at hm
        obtain ⟨rfl, rfl, rfl⟩ := hm
        obtain ⟨B, base', sz', o, g1, g2, g3⟩ := h.obj l _ hg
        have g1' : σ l 0 = some (B, base', sz') := g1
        rw [hs] at g1'
        obtain ⟨rfl, rfl, rfl⟩ : L = B ∧ base = base' ∧ sz = sz' := by simpa using g1'
        cases g3 with
        | loop _ _ _ _ _ _ _ _ _ T PS db dbase dsz u1 u2 u3 =>
          rw [← hro] at hd
          refine range_core hcall hfun (mark := []) (d := d') (db := db) (Stp.refl h) he u3 (by simpa using he.df) ?_ hd
          rw [hb]
          unfold Instr.enterLoop
          simp [Sem.run_bind, run_getLoop g2, run_newObj_alloc, Result.andThen, Sem.run_pure]
      · cases hm

/-! ### code -/
theorem stepR_scope {b : Frame} {a : Act} {k : List Item} {cs : List Frame} {w : World} {c : Code} : step P (lone (b.atR a (.code (.scope c) :: k)) cs w) = .next (lone (b.atR a (.code c :: .inScope c :: k)) cs w) :=
  step_lone_go (by simp [stepG, stepG.exec, Frame.atR])
theorem stepR_inScope {b : Frame} {a : Act} {k : List Item} {cs : List Frame} {w : World} {c : Code} : step P (lone (b.atR a (.inScope c :: k)) cs w) = .next (lone (b.atR a k) cs w) :=
  step_lone_go (by simp [stepG, stepG.exec, Frame.atR])

theorem dcode_ok {call : CallT} (hcall : CallN P call) (hfun : ∀ v args s r x, call v args s r = some x → ∃ f a c, v = .func f a c) (n : Nat) : ∀ c : Code, CodeOk P (dcode P call n c) c := by
  intro c
  induction c with
  | skip =>
    intro σ w b stk k e a m ex e' hstk hd h he
    simp [dcode] at hd; obtain ⟨rfl, rfl⟩ := hd
    exact ⟨σ, a, m, w, he, Stp.refl h, .one stepR_skip⟩
  | label l =>
    intro σ w b stk k e a m ex e' hstk hd h he
    simp [dcode] at hd; obtain ⟨rfl, rfl⟩ := hd
    exact ⟨σ, a, m, w, he, Stp.refl h, .one stepR_label⟩
  | region id ops draw =>
    intro σ w b stk k e a m ex e' hstk hd h he
    simp only [dcode, dregion] at hd
    cases draw with
    | true => exact ddraw_ok hcall hfun hd h he
    | false =>
      have := dops_ok hcall hfun hstk (OPS := ops) (k := k) ops.toList 0 σ w e a m ex e' (fun j => by simp) hd h he
      refine COut.of_steps (.one stepR_region) ?_
      rw [List.range_eq_range']
      simpa using this
  | seq x y ihx ihy =>
    intro σ w b stk k e a m ex e' hstk hd h he
    simp only [dcode] at hd
    split at hd
    · rename_i e1 hx
      obtain ⟨τ, a', m', w', h1, h2, h3⟩ := ihx σ w b stk (.code y :: k) e a m _ _ hstk hx h he
      have := ihy τ w' b stk k e1 a' m' ex e' hstk hd h2.rel h1
      exact (this.of_steps (Steps.trans (.one stepR_seq) h3)).after h2
    · rename_i hx
      obtain ⟨τ, a', m', w', h1, h2, h3⟩ := ihx σ w b stk (.code y :: k) e a m ex e' hstk hd h he
      have hn : ex ≠ .normal := by rintro rfl; exact hx e' hd
      exact ⟨τ, a', m', w', h1, h2, (Gone.pass (x := .code y) (.inl rfl) hn h3).of_steps (.one stepR_seq)⟩
  | cond c x y ihx ihy =>
    intro σ w b stk k e a m ex e' hstk hd h he
    simp only [dcode] at hd
    have hv := eval_ok he.tm c
    split at hd
    · rename_i hc
      rw [hc] at hv
      have := stepR_cond (P := P) (b := b) (k := k) (cs := stk m) (w := w) (x := x) (y := y) (vr_bool hv)
      simp only [if_true] at this
      exact (ihx σ w b stk k e a m ex e' hstk hd h he).of_steps (.one this)
    · rename_i hc
      rw [hc] at hv
      have := stepR_cond (P := P) (b := b) (k := k) (cs := stk m) (w := w) (x := x) (y := y) (vr_bool hv)
      simp only [Bool.false_eq_true, if_false] at this
      exact (ihy σ w b stk k e a m ex e' hstk hd h he).of_steps (.one this)
    · cases hd
  | block id c ih =>
    intro σ w b stk k e a m ex e' hstk hd h he
    simp only [dcode] at hd
    split at hd
    · rename_i i e1 hc
      obtain ⟨τ, a', m', w', h1, h2, h3⟩ := ih σ w b stk (.inBlock id :: k) e a m _ _ hstk hc h he
      cases hi : Nat.beq i id with
      | true =>
        rw [hi] at hd
        simp at hd; obtain ⟨rfl, rfl⟩ := hd
        have hid : i = id := by simpa using hi
        subst hid
        exact ⟨τ, a', m', w', h1, h2, Steps.trans (.one stepR_block) (h3.1 k (by simp [exitTo]))⟩
      | false =>
        rw [hi] at hd
        simp at hd; obtain ⟨rfl, rfl⟩ := hd
        have hid : i ≠ id := by
          intro he'; subst he'
          rw [Nat.beq_refl] at hi; cases hi
        have hex : exitTo i (.inBlock id :: k) = exitTo i k := by
          simp [exitTo, Ne.symm hid]
        refine ⟨τ, a', m', w', h1, h2, Gone.of_steps (x := .exit i) (.one stepR_block) ⟨fun k' hk' => h3.1 k' (by rw [hex]; exact hk'), fun hk => h3.2 (by rw [hex]; exact hk)⟩⟩
    · rename_i hx
      obtain ⟨τ, a', m', w', h1, h2, h3⟩ := ih σ w b stk (.inBlock id :: k) e a m ex e' hstk hd h he
      refine ⟨τ, a', m', w', h1, h2, Gone.of_steps (.one stepR_block) ?_⟩
      cases ex with
      | normal => exact Steps.trans h3 (.one stepR_inBlock)
      | exit i => exact absurd hd (hx i e')
      | goto l => trivial
      | ret => exact h3
      | panic v => exact h3
  | loop c ih =>
    intro σ w b stk k e a m ex e' hstk hd h he
    simp only [dcode] at hd
    exact (loopGo_ok ih n σ w b stk k e a m ex e' hstk hd h he).of_steps (.one stepR_loop)
  | scope c ih =>
    intro σ w b stk k e a m ex e' hstk hd h he
    simp only [dcode] at hd
    have hd' : dcode P call n c e = some (ex, e') := by
      split at hd
      · cases hd
      · exact hd
    obtain ⟨τ, a', m', w', h1, h2, h3⟩ := ih σ w b stk (.inScope c :: k) e a m ex e' hstk hd' h he
    refine ⟨τ, a', m', w', h1, h2, Gone.of_steps (.one stepR_scope) ?_⟩
    by_cases hn : ex = .normal
    · subst hn; exact Steps.trans h3 (.one stepR_inScope)
    · exact Gone.pass (.inr ⟨_, rfl⟩) hn h3
  | exit id =>
    intro σ w b stk k e a m ex e' hstk hd h he
    simp [dcode] at hd; obtain ⟨rfl, rfl⟩ := hd
    exact ⟨σ, a, m, w, he, Stp.refl h, fun k' hk' => .one (stepR_exit hk'), fun hk => ⟨k, hk, .refl _ _⟩⟩
  | goto l =>
    intro σ w b stk k e a m ex e' hstk hd h he
    simp [dcode] at hd
  | ret =>
    intro σ w b stk k e a m ex e' hstk hd h he
    simp [dcode] at hd; obtain ⟨rfl, rfl⟩ := hd
    exact ⟨σ, a, m, w, he, Stp.refl h, k, .refl _ _⟩
  | rangeFunc f ps asg body _ _ =>
    intro σ w b stk k e a m ex e' hstk hd h he
    simp only [dcode] at hd
    exact drange_ok hcall hfun σ w b stk k e a m ex e' hstk hd h he
  | refuse s =>
    intro σ w b stk k e a m ex e' hstk hd h he
    simp [dcode] at hd

end
end Go.Abs
