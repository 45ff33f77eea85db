/-
  The abstract machine: all calls; runs.
-/
import Derived.Test.YtajngkkihadgfaaDw
namespace Go.Abs

section
variable {P : Program} {μ : Mu}

/-! ### a round -/
theorem layPs_ok {σ : Sg} {nt : Nat} : ∀ (ps : List Nat) (as : List AV) (t t' : Tr AV) (T A : Array Value) (i : Nat), layPs nt t ps as = some t' → VRs μ σ as A.toList → TmR μ σ nt t T →
    ps.length = A.size ∧ TmR μ σ nt t' ((ps.zip A.toList).foldl (fun tmps x => tmps.setIfInBounds x.1 x.2) T) := by
  intro ps
  induction ps with
  | nil =>
    intro as t t' T A i h ha ht
    cases as with
    | nil =>
      simp [layPs] at h; subst h
      have := ha.1
      simp at this
      exact ⟨by simpa using this, by simpa using ht⟩
    | cons a as => simp [layPs] at h
  | cons p ps ih =>
    intro as t t' T A i h ha ht
    cases as with
    | nil => simp [layPs] at h
    | cons a as =>
      simp only [layPs] at h
      rw [bif_blt] at h
      split at h
      · rename_i hp
        obtain ⟨V, zs, hz, hV, hzs⟩ := ha.head
        have hA : A = (V :: zs).toArray := Array.toList_inj.1 (by simpa using hz)
        subst hA
        have ht' : TmR μ σ nt (t.set p a) (T.setIfInBounds p V) := by
          refine ⟨by simp [ht.1], fun i v hv => ?_⟩
          rw [Tr.get_set] at hv
          split at hv
          · rename_i he; subst he
            simp at hv; subst hv
            exact ⟨hp, by simp [Array.getD_eq_getD_getElem?, Array.getElem?_setIfInBounds, ht.1, hp, hV]⟩
          · rename_i he
            obtain ⟨h1, h2⟩ := ht.2 i v hv
            refine ⟨h1, ?_⟩
            simp only [Array.getD_eq_getD_getElem?, Array.getElem?_setIfInBounds]
            rw [if_neg (fun e => he e.symm)]
            rw [Array.getD_eq_getD_getElem?] at h2
            exact h2
        obtain ⟨h1, h2⟩ := ih as _ t' _ zs.toArray i h (by simpa using hzs) ht'
        exact ⟨by simpa using h1, by simpa using h2⟩
      · cases h

/-- how a round has ended -/
def ROut (P : Program) (μ : Mu) (σ : Sg) (s : Sto) (w : World) (M : Machine) (c : Frame) (cs : List Frame) : CRes → Prop
  | .ret v so => ∃ τ V w', VR μ τ v V ∧ CStp μ σ s w τ so w' ∧ Steps P M (lone (c.finish V) cs w')
  | .pan v so => ∃ τ V w', VR μ τ v V ∧ CStp μ σ s w τ so w' ∧ Steps P M (lone (c.raise [{ v := V, recovered := false }]) cs w')

theorem loopObj {σ : Sg} {s : Sto} {w : World} {l : Nat} {L base sz : Nat} {st : LoopState} {pe : Option Code} {fn : FuncId} {nt : Nat} {t : Tr AV} {ps : List Nat} {ca cb : Code} {d : Nat} (h : Rel μ σ s w) (hg : s.get l = some (.loop st pe fn nt t ps ca cb d)) (hL : σ l 0 = some (L, base, sz)) :
    ∃ T PS db dbase dsz, w.heap[L]? = some (.loop { state := st, pending := pe, fn := fn, tmps := T, params := PS, assign := ca, body := cb, defers := db }) ∧ TmR μ σ nt t T ∧ PS.toList = ps ∧ σ d 0 = some (db, dbase, dsz) := by
  obtain ⟨B, base', sz', o, h1, h2, h3⟩ := h.obj l _ hg
  have h1' : σ l 0 = some (B, base', sz') := h1
  rw [hL] at h1'
  obtain ⟨rfl, rfl, rfl⟩ : L = B ∧ base = base' ∧ sz = sz' := by simpa using h1'
  cases h3 with
  | loop _ _ _ _ _ _ _ _ _ T PS db dbase dsz g1 g2 g3 => exact ⟨T, PS, db, dbase, dsz, h2, g1, g2, g3⟩

theorem putLoop {σ : Sg} {s : Sto} {w : World} {l : Nat} {L base sz : Nat} {st st' : LoopState} {pe pe' : Option Code} {fn : FuncId} {nt : Nat} {t : Tr AV} {ps : List Nat} {ca cb : Code} {d : Nat} {T : Array Value} {PS : Array Nat} {db dbase dsz : Nat} (h : Rel μ σ s w)
    (hg : s.get l = some (.loop st pe fn nt t ps ca cb d)) (hL : σ l 0 = some (L, base, sz)) (h2 : w.heap[L]? = some (.loop { state := st, pending := pe, fn := fn, tmps := T, params := PS, assign := ca, body := cb, defers := db })) (g1 : TmR μ σ nt t T) (g2 : PS.toList = ps) (g3 : σ d 0 = some (db, dbase, dsz)) :
    Stp μ σ s w σ (s.put l (.loop st' pe' fn nt t ps ca cb d)) (w.putObj L (.loop { state := st', pending := pe', fn := fn, tmps := T, params := PS, assign := ca, body := cb, defers := db })) :=
  stp_put h hg hL rfl (World.putObj_heap_same (Array.getElem?_eq_some_iff.1 h2).1) (.loop _ _ _ _ _ _ _ _ _ _ _ _ _ _ g1 g2 g3) (by simp) (fun b' hb' => put_world b' hb') rfl rfl rfl

theorem low_stp {σ τ : Sg} {s S' : Sto} {w w' : World} {n : Nat} (hs : Stp μ σ { s with low := n } w τ S' w') : Stp μ σ s w τ { S' with low := Nat.min s.low S'.low } w' :=
  ⟨hs.rel.low rfl rfl, hs.ext, hs.size, hs.frame, hs.own, hs.sn, Nat.min_le_left _ _, fun id h1 h2 => hs.keep id h1 (Nat.lt_of_lt_of_le h2 (Nat.min_le_right _ _)), hs.os, hs.out, hs.tape, hs.hole⟩

/-- how a round ends -/
theorem dround_ok {call : CallT} (hN : CallN P call) (hfun : ∀ v args s r x, call v args s r = some x → ∃ f a c, v = .func f a c) {n l : Nat} {args : List AV} {s : Sto} {res : CRes} {rr : ARec} (hd : dround P call n l args s = some (res, rr)) {σ : Sg} {w : World} {L base sz : Nat} {A : Array Value}
    (h : Rel μ σ s w) (hL : σ l 0 = some (L, base, sz)) (ha : VRs μ σ args A.toList) :
    ∃ nx fr, (Instr.yield L A).run P w = .ok nx w ∧ IsPush P nx fr ∧ ∀ (c : Frame) (cs : List Frame), ROut P μ σ s w (lone fr (c :: cs) w) c cs res := by
  unfold dround at hd
  split at hd
  · rename_i st pend fn nt t ps ca cb d hg
    split at hd
    · rename_i t' hlay
      obtain ⟨T, PS, db, dbase, dsz, h2, g1, g2, g3⟩ := loopObj h hg hL
      obtain ⟨k1, k2⟩ := layPs_ok ps args t t' T A 0 hlay ha g1
      have hy := run_yield (P := P) h2 (args := A) (by show A.size = PS.size; rw [← Array.length_toList (xs := PS), g2, k1])
      have htm : (PS.zip A).foldl (fun tmps (t, a) => tmps.setIfInBounds t a) T = (ps.zip A.toList).foldl (fun tmps x => tmps.setIfInBounds x.1 x.2) T := by
        rw [← Array.foldl_toList, Array.toList_zip, g2]
      simp only at hy
      rw [htm] at hy
      generalize hT' : (ps.zip A.toList).foldl (fun tmps x => tmps.setIfInBounds x.1 x.2) T = T' at hy k2
      refine ⟨_, _, hy, .inr ⟨_, _, _, _, _, rfl, rfl⟩, fun c cs => ?_⟩
      let b : Frame := { (default : Frame) with fn := fn, kind := .normal, roundOf := some L }
      have hb0 : Frame.round L fn T' ca cb .normal = b.atR { tmps := T', defers := [] } [.code ca, .beginRound, .code cb] := by
        simp [Frame.round, Frame.atR, b]
      have hrel : Rel μ σ { s with low := s.n } w := h.low rfl rfl
      have he : ER μ σ b { nt := nt, ro := some l, fn := fn, t := t', ds := [], s := { s with low := s.n }, r := .no } { tmps := T', defers := [] } c.mode :=
        ⟨k2, .nil, .normal _, rfl, L, base, sz, rfl, hL, rfl⟩
      have hstk : StkOk b.kind (fun _ => c :: cs) := .inl rfl
      rw [hb0]
      split at hd
      · rename_i e hc
        obtain ⟨τ, a', m', w', q1, q2, q3⟩ := dcode_ok hN hfun n ca μ σ w b (fun _ => c :: cs) [.beginRound, .code cb] _ _ _ _ _ hstk hc hrel he
        split at hd
        · rename_i pend' fn' nt' t'' ps' a1 b1 d' hg'
          have hL' := q2.ext _ _ _ hL
          obtain ⟨T2, PS2, db2, dbase2, dsz2, u2, u3, u4, u5⟩ := loopObj q2.rel hg' hL'
          have hbr := run_beginRound (P := P) u2 rfl
          have hput := putLoop (st' := .busy) (pe' := pend') q2.rel hg' hL' u2 u3 u4 u5
          have hs1 : Steps P (lone (b.atR { tmps := T', defers := [] } [.code ca, .beginRound, .code cb]) (c :: cs) w) (lone (b.atR a' [.code cb]) (c :: cs) (w'.putObj L (.loop { state := .busy, pending := pend', fn := fn', tmps := T2, params := PS2, assign := a1, body := b1, defers := db2 }))) :=
            Steps.trans q3 (.one (stepR_beginRound rfl hbr))
          have hst1 := q2.trans hput
          have he1 : ER μ τ b { e with s := e.s.put l (.loop .busy pend' fn' nt' t'' ps' a1 b1 d') } a' m' := q1.sto _
          -- the end of a round
          have fin : ∀ (jump : Option Code) (e2 : Env) (τ2 : Sg) (w2 : World) (a2 : Act) (m2 : FrameMode), droundEnd s l jump e2 = some (res, rr) → ER μ τ2 b e2 a2 m2 → Stp μ σ { s with low := s.n } w τ2 e2.s w2 →
              (∀ (V : Value) (w3 : World), (Instr.endRound L jump).run P w2 = .ok V w3 → Steps P (lone (b.atR { tmps := T', defers := [] } [.code ca, .beginRound, .code cb]) (c :: cs) w) (lone (c.finish V) cs w3)) →
              ROut P μ σ s w (lone (b.atR { tmps := T', defers := [] } [.code ca, .beginRound, .code cb]) (c :: cs) w) c cs res := by
            intro jump e2 τ2 w2 a2 m2 hend he2 hst2 hsteps
            unfold droundEnd at hend
            split at hend
            · rename_i st3 pe3 fn3 nt3 t3 ps3 a3 b3 d3 hg3 hds3
              simp only [Option.some.injEq, Prod.mk.injEq] at hend
              obtain ⟨rfl, rfl⟩ := hend
              have hL2 := hst2.ext _ _ _ hL
              obtain ⟨T3, PS3, db3, dbase3, dsz3, v2, v3, v4, v5⟩ := loopObj hst2.rel hg3 hL2
              have her := run_endRound (P := P) jump v2
              have hput3 := putLoop (st' := if jump.isNone then .ready else .done) (pe' := jump) hst2.rel hg3 hL2 v2 v3 v4 v5
              refine ⟨τ2, .bool jump.isNone, _, .bool _, ?_, hsteps _ _ her⟩
              have h4 := low_stp (hst2.trans hput3)
              have hcond : (bif jump.isNone then LoopState.ready else .done) = if jump.isNone then LoopState.ready else .done := by cases jump <;> rfl
              rw [hcond]
              exact h4
            · cases hend
          split at hd
          · rename_i e2 hc2
            obtain ⟨τ2, a2, m2, w2, r1, r2, r3⟩ := dcode_ok hN hfun n cb μ τ _ b (fun _ => c :: cs) [] _ _ _ _ _ hstk hc2 hput.rel he1
            exact fin none e2 τ2 w2 a2 m2 hd r1 (hst1.trans r2) fun V w3 hV => (hs1.trans r3).trans (.one (stepR_round_end rfl rfl hV))
          · rename_i e2 hc2
            obtain ⟨τ2, a2, m2, w2, r1, r2, k₁, r3⟩ := dcode_ok hN hfun n cb μ τ _ b (fun _ => c :: cs) [] _ _ _ _ _ hstk hc2 hput.rel he1
            exact fin (some .ret) e2 τ2 w2 a2 m2 hd r1 (hst1.trans r2) fun V w3 hV => (hs1.trans r3).trans (.one (stepR_round_ret rfl rfl hV))
          · rename_i id e2 hc2
            obtain ⟨τ2, a2, m2, w2, r1, r2, r3⟩ := dcode_ok hN hfun n cb μ τ _ b (fun _ => c :: cs) [] _ _ _ _ _ hstk hc2 hput.rel he1
            obtain ⟨k₁, hk, r4⟩ := r3.2 (by simp [exitTo])
            exact fin (some (.exit id)) e2 τ2 w2 a2 m2 hd r1 (hst1.trans r2) fun V w3 hV => (hs1.trans r4).trans (.one (stepR_round_exit rfl rfl hk hV))
          · rename_i v e2 hc2
            obtain ⟨τ2, a2, m2, w2, r1, r2, V, todo, r3, r4⟩ := dcode_ok hN hfun n cb μ τ _ b (fun _ => c :: cs) [] _ _ _ _ _ hstk hc2 hput.rel he1
            split at hd
            · rename_i hds
              cases hok : okFn P e2.fn with
              | false => rw [hok] at hd; cases hd
              | true =>
                rw [hok] at hd
                simp only [cond_true, Option.some.injEq, Prod.mk.injEq] at hd
                obtain ⟨rfl, rfl⟩ := hd
                have hfn : ∃ g, P.funcs[fn]? = some g := by
                  have hf1 : fn = e2.fn := r1.fn
                  rw [hf1]
                  unfold okFn at hok
                  split at hok
                  · rename_i g hg4; exact ⟨g, hg4⟩
                  · cases hok
                have hdf : a2.defers = [] := by
                  have := r1.df
                  rw [hds] at this
                  cases hh : a2.defers with
                  | nil => rfl
                  | cons x y => rw [hh] at this; cases this
                refine ⟨τ2, V, w2, r3, low_stp (hst1.trans r2), (hs1.trans r4).trans (.one ?_)⟩
                exact step_leave_panicked (fr := { b.atR a2 todo with mode := .panicking [{ v := V, recovered := false }] }) ⟨rfl, hdf, hfn⟩
            · cases hd
          · cases hd
        · cases hd
      · cases hd
    · cases hd
  · cases hd

/-! ### all calls -/
theorem dcall_fun {T : Tab} : ∀ (n : Nat) (v : AV) (args : List AV) (s : Sto) (r : ARec) (x : CRes × ARec), dcall P T n v args s r = some x → ∃ f a c, v = .func f a c := by
  intro n v args s r x h
  cases n with
  | zero => simp [dcall] at h
  | succ n =>
    simp only [dcall] at h
    cases v with
    | func f a c => exact ⟨_, _, _, rfl⟩
    | _ =>
      exfalso
      have ht : ∀ (T : Tab) (v : AV), (∀ f a c, v ≠ .func f a c) → tfind T v args = none := by
        intro T v hv
        induction T with
        | nil => rfl
        | cons x T ih =>
          have : thit x v args = false := by
            unfold thit
            split
            · exact absurd rfl (hv _ _ _)
            · rfl
          simp only [tfind, this, cond_false, ih]
      have ht' : ∀ (v : AV), (∀ f a c, v ≠ .func f a c) → tget T v args r = none := by
        intro v hv
        unfold tget
        split
        · exact ht T v hv
        · rfl
      rw [ht' _ (by simp)] at h
      simp [atarget] at h

/-- A FUNCTION RETURNS A VALUE, WHATEVER THE STORE IS, AND LEAVES MEMORY AS IT WAS. -/
def Returns (P : Program) (f : FuncId) (args : List AV) (v : AV) : Prop :=
  okFn P f = true ∧ ∃ fn, P.funcs[f]? = some fn ∧ ∀ (μ : Mu) (σ : Sg) (S : Sto) (w : World) (A : Array Value) (kd : CallKind) (stk : FrameMode → List Frame) (m : FrameMode), Rel μ σ S w → VRs μ σ args A.toList → StkOk kd stk → RM μ σ kd .no m →
    ∃ V w' fr m', VR μ σ v V ∧ Quiet w w' ∧ RM μ σ kd .no m' ∧ Steps P (lone (Frame.enter P f A kd) (stk m) w) (lone fr (stk m') w') ∧ fr.mode = .returning ∧ fr.defers = [] ∧ fr.kind = kd ∧ fr.fn = f ∧ (results fn fr.tmps).run P w' = .ok V w'

theorem tfind_ok {T : Tab} {fv : AV} {args : List AV} {v : AV} (h : tfind T fv args = some v) : ∃ g first cap, fv = .func (.func g) first cap ∧ (g, first ++ args ++ cap, v) ∈ T := by
  induction T with
  | nil => simp [tfind] at h
  | cons x T ih =>
    unfold tfind at h
    cases hx : thit x fv args with
    | true =>
      rw [hx] at h
      simp at h; subst h
      unfold thit at hx
      split at hx
      · rename_i g first cap
        simp only [Bool.and_eq_true] at hx
        refine ⟨g, first, cap, rfl, ?_⟩
        rw [← lbeq_eq (AV.beq_eq 1000) _ _ hx.2, ← nbeq_eq _ _ hx.1]
        simp
      · cases hx
    | false =>
      rw [hx] at h
      obtain ⟨g, first, cap, h1, h2⟩ := ih h
      exact ⟨g, first, cap, h1, List.mem_cons_of_mem _ h2⟩

theorem dcall_ok {T : Tab} (hT : ∀ x ∈ T, Returns P x.1 x.2.1 x.2.2) : ∀ n : Nat, CallN P (dcall P T n) ∧ CallD P (dcall P T n) := by
  intro n
  induction n with
  | zero => exact ⟨fun μ σ S w f F first cap args C A res rr h => by simp [dcall] at h, fun μ σ S w f F first cap args C A r r' m res h => by simp [dcall] at h⟩
  | succ n ih =>
    obtain ⟨hN, hD⟩ := ih
    have hfun := dcall_fun (P := P) (T := T) n
    constructor
    · intro μ σ S w f F first cap args C A res rr h hrel hF hcap hargs
      simp only [dcall] at h
      split at h
      · rename_i v htv
        simp only [Option.some.injEq, Prod.mk.injEq] at h
        obtain ⟨rfl, rfl⟩ := h
        obtain ⟨g, first', cap', hfv, hmem⟩ := tfind_ok (show tfind T _ _ = some v from htv)
        cases hfv
        cases hF
        obtain ⟨hok, fn, hfn, hret⟩ := hT _ hmem
        have ht := atarget_ok (P := P) (w := w) (tgt := .fn g (first ++ args ++ cap)) hrel rfl (.func g) hcap hargs
        obtain ⟨A', h1, h2⟩ := ht hok
        refine ⟨_, _, h2, .inl ⟨g, A', rfl, rfl⟩, fun c cs => ?_⟩
        obtain ⟨V, w', fr, m', q1, q2, _, q3, q4, q5, q6, q7, q8⟩ := hret μ σ S w A' .normal (fun _ => c :: cs) c.mode hrel h1 (.inl rfl) (.normal _)
        exact ⟨σ, V, w', q1, ⟨rfl, q2⟩, q3.trans (.one (step_leave_returned ⟨q4, q5, q6, fn, by rw [q7]; exact hfn, q8⟩))⟩
      split at h
      · rename_i g as htg
        have ht := atarget_ok (P := P) hrel htg hF hcap hargs
        obtain ⟨hok, fn, hfn, hdf⟩ := dfunc_ok hN hD hfun (μ := μ) h
        obtain ⟨A', h1, h2⟩ := ht hok
        refine ⟨_, _, h2, .inl ⟨g, A', rfl, rfl⟩, fun c cs => ?_⟩
        obtain ⟨τ, a', m', w', e', todo, q1, q2, q3, q4, q5⟩ := hdf (kd := .normal) (stk := fun _ => c :: cs) (m := c.mode) hrel h1 (.inl rfl) (by
          -- what may be recovered: nothing
          exact .normal _)
        cases res with
        | ret v so =>
          obtain ⟨rfl, V, hV, hres, hs⟩ := q5
          obtain ⟨ρ, c1, c2, _⟩ := close_ok (v := v) hrel q2
          exact ⟨ρ, V, w', c2 V hV, c1, hs.trans (.one (step_leave_returned (fr := { ({ (default : Frame) with fn := g, kind := .normal } : Frame).atR a' todo with mode := .returning }) ⟨rfl, q4, rfl, fn, hfn, hres⟩))⟩
        | pan v so =>
          obtain ⟨rfl, V, hV, hs⟩ := q5
          obtain ⟨ρ, c1, c2, _⟩ := close_ok (v := v) hrel q2
          exact ⟨ρ, V, w', c2 V hV, c1, hs.trans (.one (step_leave_panicked (fr := { ({ (default : Frame) with fn := g, kind := .normal } : Frame).atR a' todo with mode := .panicking [{ v := V, recovered := false }] }) ⟨rfl, q4, fn, hfn⟩))⟩
      · rename_i l as htg
        obtain ⟨L, b, sz, rfl, hL, hA⟩ := atarget_ok (P := P) hrel htg hF hcap hargs
        obtain ⟨nx, fr, h1, h2, h3⟩ := dround_ok hN hfun h hrel hL hA
        refine ⟨nx, fr, by simpa [invoke] using h1, h2, fun c cs => ?_⟩
        have := h3 c cs
        cases res <;> exact this
      · cases h
    · intro μ σ S w f F first cap args C A r r' m res h hy hrel hF hcap hargs hrm
      simp only [dcall] at h
      split at h
      · rename_i v htv
        simp only [Option.some.injEq, Prod.mk.injEq] at h
        obtain ⟨rfl, rfl⟩ := h
        have hr : r = .no ∧ tfind T (.func f first cap) args = some v := by
          unfold tget at htv
          split at htv
          · exact ⟨rfl, htv⟩
          · cases htv
        obtain ⟨rfl, htv⟩ := hr
        obtain ⟨g, first', cap', hfv, hmem⟩ := tfind_ok htv
        cases hfv
        cases hF
        obtain ⟨hok, fn, hfn, hret⟩ := hT _ hmem
        have ht := atarget_ok (P := P) (w := w) (tgt := .fn g (first ++ args ++ cap)) hrel rfl (.func g) hcap hargs
        obtain ⟨A', h1, h2⟩ := ht hok
        refine ⟨g, A', h2, fun c cs => ?_⟩
        obtain ⟨V, w', fr, m', q1, q2, q9, q3, q4, q5, q6, q7, q8⟩ := hret μ σ S w A' .deferred (fun m => { c with mode := m } :: cs) m hrel h1 (.inr ⟨rfl, c, cs, rfl⟩) hrm
        refine ⟨σ, w', m', q9, ⟨rfl, q2⟩, q3.trans (.one ?_)⟩
        have := step_going_returned (P := P) (fr := fr) (c := { c with mode := m' }) (cs := cs) (w := w') (v := V) q6 ⟨q4, q5, fn, by rw [q7]; exact hfn, q8⟩
        exact this
      split at h
      · rename_i g as htg
        have ht := atarget_ok (P := P) hrel htg hF hcap hargs
        obtain ⟨hok, fn, hfn, hdf⟩ := dfunc_ok hN hD hfun (μ := μ) h
        obtain ⟨A', h1, h2⟩ := ht hok
        refine ⟨g, A', h2, fun c cs => ?_⟩
        obtain ⟨τ, a', m', w', e', todo, q1, q2, q3, q4, q5⟩ := hdf (kd := .deferred) (stk := fun m => { c with mode := m } :: cs) (m := m) hrel h1 (.inr ⟨rfl, c, cs, rfl⟩) hrm
        have hrc : RM μ τ .deferred e'.r m' := q1.rc
        subst q3
        cases res with
        | ret v so =>
          obtain ⟨rfl, V, hV, hres, hs⟩ := q5
          obtain ⟨ρ, c1, c2, c3⟩ := close_ok (v := v) hrel q2
          refine ⟨ρ, w', m', c3 _ _ hrc, c1, hs.trans (.one ?_)⟩
          have := step_going_returned (P := P) (fr := { ({ (default : Frame) with fn := g, kind := .deferred } : Frame).atR a' todo with mode := .returning }) (c := { c with mode := m' }) (cs := cs) (w := w') (v := V) rfl ⟨rfl, q4, fn, hfn, hres⟩
          exact this
        | pan v so =>
          obtain ⟨rfl, V, hV, hs⟩ := q5
          obtain ⟨ρ, c1, c2, c3⟩ := close_ok (v := v) hrel q2
          refine ⟨ρ, V, w', m', c2 V hV, c3 _ _ hrc, c1, hs.trans (.one ?_)⟩
          have := step_going_panicked (P := P) (fr := { ({ (default : Frame) with fn := g, kind := .deferred } : Frame).atR a' todo with mode := .panicking [{ v := V, recovered := false }] }) (c := { c with mode := m' }) (cs := cs) (w := w') (chain := [{ v := V, recovered := false }]) ⟨rfl, q4, fn, hfn⟩
          exact this
      · rename_i l as htg
        obtain ⟨L, b, sz, rfl, hL, hA⟩ := atarget_ok (P := P) hrel htg hF hcap hargs
        cases hF
        simp [isYield] at hy
      · cases h

/-! ### a closed run -/
/-- a run from nothing returns a value -/
theorem returns_of {T : Tab} (hT : ∀ x ∈ T, Returns P x.1 x.2.1 x.2.2) {n : Nat} {f : FuncId} {args : List AV} {v : AV} (h : dval P T n f args v = true) : Returns P f args v := by
  simp only [dval, Bool.and_eq_true] at h
  obtain ⟨hu, h⟩ := h
  split at h
  · rename_i v' hrun
    have hv := AV.beq_eq _ _ _ h
    subst hv
    unfold drun at hrun
    obtain ⟨hN, hD⟩ := dcall_ok hT n
    have hok := (dfunc_ok hN hD (dcall_fun n) (μ := fun _ _ => none) hrun).1
    obtain ⟨fn, hfn, _⟩ := (dfunc_ok hN hD (dcall_fun n) (μ := fun _ _ => none) hrun).2
    refine ⟨hok, fn, hfn, fun μ σ S w A kd stk m hrel0 ha hstk hrm => ?_⟩
    obtain ⟨_, fn', hfn', hdf⟩ := dfunc_ok hN hD (dcall_fun n) (μ := μ) hrun
    rw [hfn] at hfn'
    cases hfn'
    have hg : ∀ id, Sto.empty.get id = none := fun id => by rw [Sto.get_eq]; simp [Sto.empty]
    have hcut : ∀ id g, (σ.cut 0) id g = none := fun id g => by unfold Sg.cut; rw [if_neg (by omega)]
    have hrel : Rel μ (σ.cut 0) Sto.empty w :=
      { obj := fun id x hx => (by rw [hg] at hx; cases hx), inj := fun id x id' x' b base sz base' sz' hx => (by rw [hg] at hx; cases hx),
        mu := fun b off V hV => ⟨(hrel0.mu b off V hV).1, fun ⟨id, x, base, sz, hx, _⟩ => (by rw [hg] at hx; cases hx)⟩,
        bnd := fun id g x hx => (by rw [hcut] at hx; cases hx), gen := fun id x g y hx => (by rw [hg] at hx; cases hx), top := fun id _ => rfl }
    have ha' : VRs μ (σ.cut 0) args A.toList := ⟨ha.1, fun i x X h1 h2 => VR.cut _ _ _ (List.all_eq_true.1 hu x (List.mem_of_getElem? h1)) (ha.2 i x X h1 h2)⟩
    have hrm' : RM μ (σ.cut 0) kd .no m := by cases hrm with
      | normal m => exact .normal m
      | quiet => exact .quiet
    obtain ⟨τ, a', m', w', e', todo, q1, q2, q3, q4, rfl', V, hV, hres, hs⟩ := hdf (kd := kd) (stk := stk) (m := m) hrel ha' hstk hrm'
    obtain ⟨ρ, c1, c2, c3⟩ := close_ok (v := v) hrel q2
    rw [← rfl'] at c1
    obtain ⟨rfl, hq⟩ := c1
    have hle := Sg.cut_le σ 0
    have hrc : RM μ τ kd e'.r m' := q1.rc
    have hrc' := (c3 _ _ hrc).mono hle
    rw [← q3] at hrc'
    exact ⟨V, w', _, m', (c2 V hV).mono hle, hq, hrc', hs, rfl, q4, rfl, rfl, hres⟩
  · cases h

/-- what it comes to, in the kit's words -/
theorem calls_of {f : FuncId} {args : List AV} {v : AV} (h : Returns P f args v) {A : Array Value} {w : World} (ha : VRs (fun _ _ => none) (fun _ _ => none) args A.toList) :
    Calls P f A w fun
      | .returned V, w' => VR (fun _ _ => none) (fun _ _ => none) v V ∧ Quiet w w'
      | _, _ => False := by
  obtain ⟨hok, fn, hfn, hr⟩ := h
  have hg : ∀ id, Sto.empty.get id = none := fun id => by rw [Sto.get_eq]; simp [Sto.empty]
  have hrel : Rel (fun _ _ => none) (fun _ _ => none) Sto.empty w :=
    { obj := fun id x hx => (by rw [hg] at hx; cases hx), inj := fun id x id' x' b base sz base' sz' hx => (by rw [hg] at hx; cases hx), mu := fun b off V hV => (by cases hV),
      bnd := fun id g x hx => (by cases hx), gen := fun id x g y hx => (by rw [hg] at hx; cases hx), top := fun id _ => rfl }
  intro cs
  obtain ⟨V, w', fr, m', q1, q2, _, q3, q4, q5, q6, q7, q8⟩ := hr _ _ _ w A .normal (fun _ => cs) .run hrel ha (.inl rfl) (.normal _)
  exact ⟨.returned V, w', fr, ⟨q1, q2⟩, q3, q7, q4, q5, q6, fn, by rw [q7]; exact hfn, q8⟩

end
end Go.Abs
