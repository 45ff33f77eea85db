/-
  The abstract machine: one operation in its region.
-/
import Derived.Test.YtglnkngifepmhaaGreatUm
import Derived.Recover
set_option linter.unusedVariables false
set_option linter.unusedSimpArgs false

namespace Go.Abs

section
variable {P : Program} {σ : Sg} {S : Sto} {w : World}

/-- what may be recovered, and the mode of the caller's frame -/
inductive RM (σ : Sg) : CallKind → ARec → FrameMode → Prop
  | normal (m : FrameMode) : RM σ .normal .no m
  | quiet : RM σ .deferred .no .returning
  | pan (v : AV) (V : Value) : VR σ v V → RM σ .deferred (.pan v) (.panicking [{ v := V, recovered := false }])
  | recd (v : AV) (V : Value) : VR σ v V → RM σ .deferred (.recd v) (.panicking [{ v := V, recovered := true }])
theorem RM.mono {τ : Sg} (h : σ.le τ) {k : CallKind} {r : ARec} {m : FrameMode} (hr : RM σ k r m) : RM τ k r m := by
  cases hr with
  | normal m => exact .normal m
  | quiet => exact .quiet
  | pan v V hv => exact .pan v V (hv.mono h)
  | recd v V hv => exact .recd v V (hv.mono h)

/-- the callers of a frame, by the mode of the one that called it -/
def StkOk (k : CallKind) (stk : FrameMode → List Frame) : Prop := k = .normal ∨ (k = .deferred ∧ ∃ (c : Frame) (t : List Frame), stk = fun m => { c with mode := m } :: t)

structure ER (σ : Sg) (b : Frame) (e : Env) (a : Act) (m : FrameMode) : Prop where
  tm : TmR σ e.nt e.t a.tmps
  df : DefsR σ e.ds a.defers
  rc : RM σ b.kind e.r m
  fn : b.fn = e.fn
  ro : match e.ro with
    | none => b.roundOf = none
    | some l => ∃ L base sz, b.roundOf = some L ∧ σ l 0 = some (L, base, sz) ∧ b.kind = .normal

theorem ER.mono {τ : Sg} (h : σ.le τ) {b : Frame} {e : Env} {a : Act} {m : FrameMode} (he : ER σ b e a m) : ER τ b e a m := by
  refine ⟨he.tm.mono h, he.df.mono h, he.rc.mono h, he.fn, ?_⟩
  have := he.ro
  split
  · rename_i h1; rw [h1] at this; exact this
  · rename_i l h1; rw [h1] at this; obtain ⟨L, b1, s1, h2, h3, h4⟩ := this; exact ⟨L, b1, s1, h2, h _ _ _ h3, h4⟩
theorem ER.sto {b : Frame} {e : Env} {a : Act} {m : FrameMode} (he : ER σ b e a m) (s : Sto) : ER σ b { e with s := s } a m := ⟨he.tm, he.df, he.rc, he.fn, he.ro⟩

theorem put_ok {e e' : Env} {a : Act} {b : Frame} {m : FrameMode} {dst : Option Tmp} {v : AV} {V : Value} (h : ER σ b e a m) (hp : e.put dst v = some e') (hv : VR σ v V) : ER σ b e' (a.put dst V) m ∧ e'.s = e.s := by
  unfold Env.put at hp
  cases dst with
  | none => simp at hp; subst hp; exact ⟨h, rfl⟩
  | some d =>
    simp only at hp
    rw [bif_blt] at hp
    split at hp
    · rename_i hlt
      simp at hp; subst hp
      refine ⟨⟨⟨by simp [Act.put, h.tm.1], fun i x hx => ?_⟩, h.df, h.rc, h.fn, h.ro⟩, rfl⟩
      rw [Tr.get_set] at hx
      have hsz := h.tm.1
      split at hx
      · rename_i he; subst he
        simp at hx; subst hx
        refine ⟨hlt, ?_⟩
        simp [Act.put, Array.getD_eq_getD_getElem?, Array.getElem?_setIfInBounds, hsz, hlt, hv]
      · rename_i he
        obtain ⟨h1, h2⟩ := h.tm.2 i x hx
        refine ⟨h1, ?_⟩
        simp only [Act.put, Array.getD_eq_getD_getElem?, Array.getElem?_setIfInBounds]
        rw [if_neg (fun e => he e.symm)]
        rw [Array.getD_eq_getD_getElem?] at h2
        exact h2
    · simp at hp

theorem vr_bool {b : Bool} {V : Value} (h : VR σ (.bool b) V) : V = .bool b := by cases h; rfl

theorem awanted_ok {ops : List Oper} {o : Oper} {e : Env} {a : Act} {b : Frame} {m : FrameMode} {r : Bool} (h : ER σ b e a m) (hw : awanted ops o e = some r) (OPS : Array Oper) (hO : OPS.toList = ops) : Region.wanted o (yielded OPS a.tmps) = r := by
  unfold awanted at hw
  unfold Region.wanted
  split at hw
  · rename_i hg; simp at hw; subst hw; rw [hg]
  · rename_i j want hg
    rw [hg]
    have hops : OPS[j]? = ops[j]? := by rw [← hO]; simp
    split at hw
    · rename_i hd
      simp at hw; subst hw
      have : (OPS[j]?).bind (·.dst) = none := by
        rw [hops]
        split at hd
        · rename_i g hg'; rw [hg']; exact hd
        · rename_i hg'; rw [hg']; rfl
      simp [yielded, this]
    · rename_i d hd
      have hb : (OPS[j]?).bind (·.dst) = some d := by
        rw [hops]
        split at hd
        · rename_i g hg'; rw [hg']; exact hd
        · simp at hd
      split at hw
      · rename_i b' hb'
        simp at hw; subst hw
        obtain ⟨h1, h2⟩ := h.tm.2 d _ hb'
        have hV := vr_bool h2
        have hsz := h.tm.1
        have hlt : @LT.lt Nat instLTNat d a.tmps.size := by rw [hsz]; exact h1
        rw [Array.getD_eq_getD_getElem?, Array.getElem?_eq_getElem hlt] at hV
        simp only [Option.getD_some] at hV
        simp only [yielded, hb, Option.bind_some, Array.getElem?_eq_getElem hlt, hV]
        rfl
      · rename_i vs hb'
        simp at hw; subst hw
        obtain ⟨h1, h2⟩ := h.tm.2 d _ hb'
        obtain ⟨ys, hV, _⟩ := VR.tuple_iff.1 h2
        have hsz := h.tm.1
        have hlt : @LT.lt Nat instLTNat d a.tmps.size := by rw [hsz]; exact h1
        rw [Array.getD_eq_getD_getElem?, Array.getElem?_eq_getElem hlt] at hV
        simp only [Option.getD_some] at hV
        simp only [yielded, hb, Option.bind_some, Array.getElem?_eq_getElem hlt, hV]
        rfl
      · simp at hw

/-! ### calls -/
/-- a frame that a call lays -/
def IsPush (P : Program) (nx : Next) (fr : Frame) : Prop :=
  (∃ g A, nx = .enter g A ∧ fr = Frame.enter P g A .normal) ∨ (∃ l f t a b, nx = .round l f t a b ∧ fr = Frame.round l f t a b .normal)

/-- how a call has left the store -/
def CStp (σ : Sg) (S : Sto) (w : World) (τ : Sg) : Option Sto → World → Prop
  | none, w' => QStp σ w τ w'
  | some S', w' => Stp σ S w τ S' w'
theorem CStp.stp {τ : Sg} {so : Option Sto} {w' : World} (h : Rel σ S w) (hc : CStp σ S w τ so w') : Stp σ S w τ (so.getD S) w' := by
  cases so with
  | none => exact QStp.stp hc h
  | some S' => exact hc

/-- CALLS THAT ARE NOT DEFERRED. -/
def CallN (P : Program) (call : CallT) : Prop :=
  ∀ (σ : Sg) (S : Sto) (w : World) (f F : Fn) (first cap args : List AV) (C A : Array Value) (res : CRes) (rr : ARec), call (.func f first cap) args S .no = some (res, rr) → Rel σ S w → FnR σ f F →
    VRs σ cap C.toList → VRs σ (first ++ args) A.toList →
    ∃ nx fr, (invoke (.fn F C) A).run P w = .ok nx w ∧ IsPush P nx fr ∧ ∀ (c : Frame) (cs : List Frame), match res with
      | .ret v so => ∃ τ V w', VR τ v V ∧ CStp σ S w τ so w' ∧ Steps P (lone fr (c :: cs) w) (lone (c.finish V) cs w')
      | .pan v so => ∃ τ V w', VR τ v V ∧ CStp σ S w τ so w' ∧ Steps P (lone fr (c :: cs) w) (lone (c.raise [{ v := V, recovered := false }]) cs w')

/-- CALLS THAT ARE DEFERRED. -/
def CallD (P : Program) (call : CallT) : Prop :=
  ∀ (σ : Sg) (S : Sto) (w : World) (f F : Fn) (first cap args : List AV) (C A : Array Value) (r r' : ARec) (m : FrameMode) (res : CRes), call (.func f first cap) args S r = some (res, r') → isYield (.func f first cap) = false →
    Rel σ S w → FnR σ f F → VRs σ cap C.toList → VRs σ (first ++ args) A.toList → RM σ .deferred r m →
    ∃ g A', (invoke (.fn F C) A).run P w = .ok (.enter g A') w ∧ ∀ (c : Frame) (cs : List Frame), match res with
      | .ret _ so => ∃ τ w' m', RM τ .deferred r' m' ∧ CStp σ S w τ so w' ∧ Steps P (lone (Frame.enter P g A' .deferred) ({ c with mode := m } :: cs) w) (lone { c with mode := settle m' } cs w')
      | .pan v so => ∃ τ V w' m', VR τ v V ∧ RM τ .deferred r' m' ∧ CStp σ S w τ so w' ∧ Steps P (lone (Frame.enter P g A' .deferred) ({ c with mode := m } :: cs) w) (lone { c with mode := raised m' [{ v := V, recovered := false }] } cs w')

/-! ### one operation -/
/-- what one operation of a region does -/
def OpStep (P : Program) (σ : Sg) (S : Sto) (w : World) (b : Frame) (a : Act) (OPS : Array Oper) (i : Nat) (rest : List Nat) (k : List Item) (o : Oper) (cs : List Frame) : ORes → Prop
  | .val v => ∃ τ V w', VR τ v V ∧ QStp σ w τ w' ∧ Steps P (lone (b.atR a (.inRegion OPS (i :: rest) :: k)) cs w) (lone (b.atR (a.put o.dst V) (.inRegion OPS rest :: k)) cs w')
  | .val' v S' => ∃ τ V w', VR τ v V ∧ Stp σ S w τ S' w' ∧ Steps P (lone (b.atR a (.inRegion OPS (i :: rest) :: k)) cs w) (lone (b.atR (a.put o.dst V) (.inRegion OPS rest :: k)) cs w')
  | .pan v S' => ∃ τ V w', VR τ v V ∧ Stp σ S w τ S' w' ∧
      Steps P (lone (b.atR a (.inRegion OPS (i :: rest) :: k)) cs w) (lone { b.atR a (.inRegion OPS (i :: rest) :: k) with mode := .panicking [{ v := V, recovered := false }] } cs w')
  | .defer d => ∃ D, DefR σ d D ∧ Steps P (lone (b.atR a (.inRegion OPS (i :: rest) :: k)) cs w) (lone (b.atR ({ a with defers := D :: a.defers }.put o.dst undef) (.inRegion OPS rest :: k)) cs w)
  | .recov => b.roundOf = none → ∀ (V : Value) (cs' : List Frame), (tryRecover (b.atR a (.inRegion OPS (i :: rest) :: k)) cs = some (V, cs') ∨ (tryRecover (b.atR a (.inRegion OPS (i :: rest) :: k)) cs = none ∧ V = .nilIface ∧ cs' = cs)) →
      Steps P (lone (b.atR a (.inRegion OPS (i :: rest) :: k)) cs w) (lone (b.atR (a.put o.dst V) (.inRegion OPS rest :: k)) cs' w)

theorem semAt_of {b : Frame} {e : Env} {a : Act} {m : FrameMode} {o : Oper} {call : CallT} {r : ORes} (he : ER σ b e a m) (hd : dop P call o e = some r) : o.semAt b.roundOf a.eval = execOp a.eval o := by
  cases hro : b.roundOf with
  | none => rfl
  | some L =>
    refine Oper.semAt_eq _ _ _ fun c hc => ?_
    have hr := he.ro
    cases hero : e.ro with
    | none => rw [hero] at hr; rw [hro] at hr; cases hr
    | some l =>
      unfold dop at hd
      rw [hc] at hd
      simp only [hero] at hd
      split at hd
      · rename_i h1; simp at h1
      · cases hd

theorem dop_call {call : CallT} {o : Oper} {e : Env} (hc : isCall o.op = true) : ∃ c, o.op = .call c ∧ ((∃ f, c.callee = .value f ∧ dop P call o e = ofCall e.s (call (e.eval f) (evals e c.args) e.s .no)) ∨
    (∃ f n, c.callee = .invoke f n ∧ dop P call o e = ofCall e.s (call (.func (.method n) [e.eval f] []) (evals e c.args) e.s .no))) := by
  unfold dop
  cases ho : o.op <;> rw [ho] at hc <;> simp [isCall] at hc
  rename_i c
  obtain ⟨callee, args, argTypes⟩ := c
  cases callee with
  | value f => exact ⟨_, rfl, .inl ⟨f, rfl, rfl⟩⟩
  | invoke f n => exact ⟨_, rfl, .inr ⟨f, n, rfl, rfl⟩⟩
  | builtin b => simp at hc

theorem opstep {call : CallT} (hcall : CallN P call) (hfun : ∀ v args s r x, call v args s r = some x → ∃ f a c, v = .func f a c) {o : Oper} {e : Env} {a : Act} {b : Frame} {r : ORes} {OPS : Array Oper} {i : Nat} {rest : List Nat} {k : List Item} {cs : List Frame}
    (h : Rel σ e.s w) (htm : TmR σ e.nt e.t a.tmps) (hsem : o.semAt b.roundOf a.eval = execOp a.eval o) (ho : OPS[i]? = some o) (hw : Region.wanted o (yielded OPS a.tmps) = true) (hd : dop P call o e = some r) : OpStep P σ e.s w b a OPS i rest k o cs r := by
  have hg := stepGR_op (P := P) (b := b) (k := k) (cs := cs) (w := w) (rest := rest) ho hw
  rw [hsem] at hg
  have hfin : ∀ v, (b.atR a (.inRegion OPS (i :: rest) :: k)).finish v = b.atR (a.put o.dst v) (.inRegion OPS rest :: k) := by
    intro v; rw [Frame.finish_atR, ho]; rfl
  cases hc : isCall o.op with
  | false =>
    have hr := dop_ok (σ := σ) h htm hc hd
    have hval : ∀ V w', Yld ((execOp a.eval o).run P w) V w' → Steps P (lone (b.atR a (.inRegion OPS (i :: rest) :: k)) cs w) (lone (b.atR (a.put o.dst V) (.inRegion OPS rest :: k)) cs w') := by
      intro V w' hy
      refine .one (step_lone_go ?_)
      rw [hg, ← hfin]
      rcases hy with h1 | ⟨h1, rfl⟩
      · simp [stepG.apply, h1]
      · simp [stepG.apply, h1]
    cases r with
    | val v => obtain ⟨V, w', h1, h2, h3⟩ := hr; exact ⟨σ, V, w', h2, .refl h3, hval V w' h1⟩
    | val' v S' => obtain ⟨τ, V, w', h1, h2, h3⟩ := hr; exact ⟨τ, V, w', h2, h3, hval V w' h1⟩
    | pan v S' =>
      obtain ⟨V, h1, h2, rfl⟩ := hr
      refine ⟨σ, V, w, h2, Stp.refl h, .one (step_lone_go ?_)⟩
      rw [hg, ← Frame.raise_atR]; simp [stepG.apply, h1]
    | defer d =>
      obtain ⟨D, h1, h2⟩ := hr
      refine ⟨D, h2, .one (step_lone_go ?_)⟩
      have : ({ b.atR a (.inRegion OPS (i :: rest) :: k) with defers := D :: a.defers } : Frame).finish undef =
          b.atR ({ a with defers := D :: a.defers }.put o.dst undef) (.inRegion OPS rest :: k) := by
        have := Frame.finish_atR b { a with defers := D :: a.defers } OPS i rest k undef
        rw [ho] at this; exact this
      rw [hg]
      simp only [stepG.apply, Sem.runT_eq, h1, GStep.bare_after]
      exact congrArg (fun fr => GStep.go { frame := fr, callers := cs, status := .running, dying := none } w) this
    | recov =>
      have h1 : (execOp a.eval o).run P w = .ok .recover w := hr
      intro hro V cs' htr
      refine .one (step_lone_go ?_)
      rw [hg, ← hfin]
      simp only [stepG.apply, Sem.runT_eq, h1, GStep.bare_after, if_true]
      rcases htr with htr | ⟨htr, rfl, rfl⟩
      · simp only [Frame.atR, hro] at htr ⊢
        simp [htr]
      · simp only [Frame.atR, hro] at htr ⊢
        simp [htr]
  | true =>
    obtain ⟨c, hop, hcc⟩ := dop_call (P := P) (call := call) (e := e) hc
    have hpush : ∀ (nx : Next) (fr : Frame) (w0 : World), (execOp a.eval o).run P w0 = .ok nx w0 → w0 = w → IsPush P nx fr → Steps P (lone (b.atR a (.inRegion OPS (i :: rest) :: k)) cs w) (lone fr (b.atR a (.inRegion OPS (i :: rest) :: k) :: cs) w) := by
      rintro nx fr w0 h1 rfl (⟨g, A, rfl, rfl⟩ | ⟨l, f, t, a', b', rfl, rfl⟩)
      · exact .one (step_lone_go (by rw [hg]; simp [stepG.apply, h1, Frame.atR]))
      · exact .one (step_lone_go (by rw [hg]; simp [stepG.apply, h1, Frame.atR]))
    have hmain : ∀ (f F : Fn) (first cap args : List AV) (C A : Array Value), ofCall e.s (call (.func f first cap) args e.s .no) = some r → FnR σ f F → VRs σ cap C.toList → VRs σ (first ++ args) A.toList →
        (execOp a.eval o).run P w = (invoke (.fn F C) A).run P w → OpStep P σ e.s w b a OPS i rest k o cs r := by
      intro f F first cap args C A hof hF hcap hargs hex
      unfold ofCall at hof
      split at hof
      · rename_i v rr hcl
        simp at hof; subst hof
        obtain ⟨nx, fr, h1, h2, h3⟩ := hcall σ e.s w f F first cap args C A _ _ hcl h hF hcap hargs
        obtain ⟨τ, V, w', q1, q2, q3⟩ := h3 (b.atR a (.inRegion OPS (i :: rest) :: k)) cs
        exact ⟨τ, V, w', q1, q2, by rw [← hfin]; exact (hpush nx fr w (by rw [hex]; exact h1) rfl h2).trans q3⟩
      · rename_i v s' rr hcl
        simp at hof; subst hof
        obtain ⟨nx, fr, h1, h2, h3⟩ := hcall σ e.s w f F first cap args C A _ _ hcl h hF hcap hargs
        obtain ⟨τ, V, w', q1, q2, q3⟩ := h3 (b.atR a (.inRegion OPS (i :: rest) :: k)) cs
        exact ⟨τ, V, w', q1, q2, by rw [← hfin]; exact (hpush nx fr w (by rw [hex]; exact h1) rfl h2).trans q3⟩
      · rename_i v rr hcl
        simp at hof; subst hof
        obtain ⟨nx, fr, h1, h2, h3⟩ := hcall σ e.s w f F first cap args C A _ _ hcl h hF hcap hargs
        obtain ⟨τ, V, w', q1, q2, q3⟩ := h3 (b.atR a (.inRegion OPS (i :: rest) :: k)) cs
        exact ⟨τ, V, w', q1, CStp.stp h q2, by rw [← Frame.raise_atR]; exact (hpush nx fr w (by rw [hex]; exact h1) rfl h2).trans q3⟩
      · rename_i v s' rr hcl
        simp at hof; subst hof
        obtain ⟨nx, fr, h1, h2, h3⟩ := hcall σ e.s w f F first cap args C A _ _ hcl h hF hcap hargs
        obtain ⟨τ, V, w', q1, q2, q3⟩ := h3 (b.atR a (.inRegion OPS (i :: rest) :: k)) cs
        exact ⟨τ, V, w', q1, CStp.stp h q2, by rw [← Frame.raise_atR]; exact (hpush nx fr w (by rw [hex]; exact h1) rfl h2).trans q3⟩
      · simp at hof
    have hargs := evals_ok (σ := σ) htm c.args
    rcases hcc with ⟨f, hcal, hdd⟩ | ⟨f, n, hcal, hdd⟩
    · rw [hdd] at hd
      have hfv := eval_ok (σ := σ) htm f
      have hfn : ∃ g x y, e.eval f = .func g x y := by
        unfold ofCall at hd
        split at hd <;> first | (rename_i hcl; exact hfun _ _ _ _ _ hcl) | simp at hd
      obtain ⟨g, x, y, hg'⟩ := hfn
      rw [hg'] at hfv hd
      generalize hq : a.eval f = FV at hfv
      cases hfv with
      | func _ F _ _ X Y hF h1 h2 h3 h4 =>
        refine hmain g F x y _ Y (X ++ c.args.map a.eval) hd hF ⟨by simpa using h2, fun i x X e1 e2 => h4 i x X e1 (by simpa using e2)⟩ ?_ ?_
        · rw [Array.toList_append]
          exact VRs.append ⟨by simpa using h1, fun i x X e1 e2 => h3 i x X e1 (by simpa using e2)⟩ hargs
        · simp [execOp, hop, resolve, hcal, hq, Deferred.ofValue]
    · rw [hdd] at hd
      refine hmain (.method n) (.method n) [e.eval f] [] _ #[] (#[a.eval f] ++ c.args.map a.eval) hd (.method n) (VRs.nil _) ?_ ?_
      · rw [Array.toList_append]
        exact VRs.cons (eval_ok htm f) hargs
      · simp [execOp, hop, resolve, hcal]

end
end Go.Abs
