/-
  The abstract machine: regions in the text's order, code, ranges over functions.
-/
import Derived.Test.YtglnkngifepmhaaGreatUn
set_option linter.unusedVariables false
set_option linter.unusedSimpArgs false

namespace Go.Abs

/-- how code is left -/
def Gone (P : Program) (τ : Sg) (M : Machine) (b : Frame) (stk : FrameMode → List Frame) (k : List Item) (a : Act) (m : FrameMode) (w : World) : Ex → Prop
  | .normal => Steps P M (lone (b.atR a k) (stk m) w)
  | .exit id => (∀ k', exitTo id k = some k' → Steps P M (lone (b.atR a k') (stk m) w)) ∧ (exitTo id k = none → ∃ k₁, exitTo id k₁ = none ∧ Steps P M (lone (b.atR a (.code (.exit id) :: k₁)) (stk m) w))
  | .goto _ => True
  | .ret => ∃ k₁, Steps P M (lone (b.atR a (.code .ret :: k₁)) (stk m) w)
  | .panic v => ∃ V todo, VR τ v V ∧ Steps P M (lone { b.atR a todo with mode := .panicking [{ v := V, recovered := false }] } (stk m) w)

theorem Gone.of_steps {P : Program} {τ : Sg} {M M' : Machine} {b : Frame} {stk : FrameMode → List Frame} {k : List Item} {a : Act} {m : FrameMode} {w : World} {x : Ex} (h : Steps P M M') (hg : Gone P τ M' b stk k a m w x) : Gone P τ M b stk k a m w x := by
  cases x with
  | normal => exact h.trans hg
  | exit id => exact ⟨fun k' hk => h.trans (hg.1 k' hk), fun hk => let ⟨k₁, h1, h2⟩ := hg.2 hk; ⟨k₁, h1, h.trans h2⟩⟩
  | goto l => trivial
  | ret => obtain ⟨k₁, hs⟩ := hg; exact ⟨k₁, h.trans hs⟩
  | panic v => obtain ⟨V, todo, hv, hs⟩ := hg; exact ⟨V, todo, hv, h.trans hs⟩

/-- what lies on the frame's list is plain: exits go through it -/
theorem Gone.pass {P : Program} {τ : Sg} {M : Machine} {b : Frame} {stk : FrameMode → List Frame} {x : Item} {k : List Item} {a : Act} {m : FrameMode} {w : World} {e : Ex} (hx : x.plain = true ∨ (∃ c, x = .inScope c)) (hn : e ≠ .normal)
    (hg : Gone P τ M b stk (x :: k) a m w e) : Gone P τ M b stk k a m w e := by
  have hex : ∀ id, exitTo id (x :: k) = exitTo id k := by
    intro id
    rcases hx with hx | ⟨c, rfl⟩
    · exact exitTo_plain hx id k
    · simp [exitTo]
  cases e with
  | normal => exact absurd rfl hn
  | exit id => exact ⟨fun k' hk => hg.1 k' (by rw [hex]; exact hk), fun hk => hg.2 (by rw [hex]; exact hk)⟩
  | goto l => trivial
  | ret => exact hg
  | panic v => exact hg

def COut (P : Program) (σ : Sg) (S : Sto) (w : World) (M : Machine) (b : Frame) (stk : FrameMode → List Frame) (k : List Item) (ex : Ex) (e' : Env) : Prop :=
  ∃ τ a' m' w', ER τ b e' a' m' ∧ Stp σ S w τ e'.s w' ∧ Gone P τ M b stk k a' m' w' ex

theorem COut.of_steps {P : Program} {σ : Sg} {S : Sto} {w : World} {M M' : Machine} {b : Frame} {stk : FrameMode → List Frame} {k : List Item} {ex : Ex} {e' : Env} (h : Steps P M M') (hg : COut P σ S w M' b stk k ex e') : COut P σ S w M b stk k ex e' := by
  obtain ⟨τ, a', m', w', h1, h2, h3⟩ := hg
  exact ⟨τ, a', m', w', h1, h2, h3.of_steps h⟩
theorem COut.after {P : Program} {σ τ : Sg} {S S' : Sto} {w w' : World} {M : Machine} {b : Frame} {stk : FrameMode → List Frame} {k : List Item} {ex : Ex} {e' : Env} (h : Stp σ S w τ S' w') (hg : COut P τ S' w' M b stk k ex e') : COut P σ S w M b stk k ex e' := by
  obtain ⟨ρ, a', m', w'', h1, h2, h3⟩ := hg
  exact ⟨ρ, a', m', w'', h1, h.trans h2, h3⟩

section
variable {P : Program} 

theorem dops_ok {call : CallT} (hcall : CallN P call) (hfun : ∀ v args s r x, call v args s r = some x → ∃ f a c, v = .func f a c) {OPS : Array Oper} {b : Frame} {stk : FrameMode → List Frame} (hstk : StkOk b.kind stk) {k : List Item} :
    ∀ (l : List Oper) (i : Nat) (σ : Sg) (w : World) (e : Env) (a : Act) (m : FrameMode) (ex : Ex) (e' : Env), (∀ j, l[j]? = OPS[i + j]?) → dops P call OPS.toList l e = some (ex, e') → Rel σ e.s w → ER σ b e a m →
      COut P σ e.s w (lone (b.atR a (.inRegion OPS (List.range' i l.length) :: k)) (stk m) w) b stk k ex e' := by
  intro l
  induction l with
  | nil =>
    intro i σ w e a m ex e' hl hd h he
    simp [dops] at hd
    obtain ⟨rfl, rfl⟩ := hd
    exact ⟨σ, a, m, w, he, Stp.refl h, .one stepR_region_end⟩
  | cons o l ih =>
    intro i σ w e a m ex e' hl hd h he
    have ho : OPS[i]? = some o := by have := hl 0; simpa using this.symm
    have hl' : ∀ j, l[j]? = OPS[i + 1 + j]? := fun j => by
      have := hl (j + 1)
      rw [show i + 1 + j = i + (j + 1) by omega, ← this]; simp
    simp only [List.length_cons, List.range'_succ]
    simp only [dops] at hd
    split at hd
    · simp at hd
    · rename_i hw
      have hw' := awanted_ok he hw OPS rfl
      split at hd
      · rename_i e1 hp
        obtain ⟨he1, hs1⟩ := put_ok (V := undef) he hp (VR.tuple_iff.2 ⟨_, rfl, VRs.nil _⟩)
        have hst : Steps P (lone (b.atR a (.inRegion OPS (i :: List.range' (i + 1) l.length) :: k)) (stk m) w) (lone (b.atR (a.put o.dst undef) (.inRegion OPS (List.range' (i + 1) l.length) :: k)) (stk m) w) := by
          have := stepR_op_skip (P := P) (b := b) (a := a) (k := k) (cs := stk m) (w := w) (ops := OPS) (i := i) (rest := List.range' (i + 1) l.length) (by simp [ho, hw'])
          simp only [ho, Option.bind_some] at this
          exact .one this
        have := ih (i + 1) σ w e1 _ m ex e' hl' hd (by rw [hs1]; exact h) he1
        rw [hs1] at this
        exact this.of_steps hst
      · simp at hd
    · rename_i hw
      have hw' := awanted_ok he hw OPS rfl
      split at hd
      · simp at hd
      · rename_i v hop
        obtain ⟨τ, V, w', h1, h2, h3⟩ := opstep (rest := List.range' (i + 1) l.length) (k := k) (cs := stk m) hcall hfun h he.tm (semAt_of he hop) ho hw' hop
        split at hd
        · rename_i e1 hp
          obtain ⟨he1, hs1⟩ := put_ok (he.mono h2.le) hp h1
          have := ih (i + 1) τ w' e1 _ m ex e' hl' hd (by rw [hs1]; exact h2.rel h) he1
          rw [hs1] at this
          exact (this.of_steps h3).after (h2.stp h)
        · simp at hd
      · rename_i v s hop
        obtain ⟨τ, V, w', h1, h2, h3⟩ := opstep (rest := List.range' (i + 1) l.length) (k := k) (cs := stk m) hcall hfun h he.tm (semAt_of he hop) ho hw' hop
        split at hd
        · rename_i e1 hp
          obtain ⟨he1, hs1⟩ := put_ok ((he.mono h2.ext).sto s) hp h1
          have := ih (i + 1) τ w' e1 _ m ex e' hl' hd (by rw [hs1]; exact h2.rel) he1
          rw [hs1] at this
          exact (this.of_steps h3).after h2
        · simp at hd
      · rename_i v s hop
        obtain ⟨τ, V, w', h1, h2, h3⟩ := opstep (rest := List.range' (i + 1) l.length) (k := k) (cs := stk m) hcall hfun h he.tm (semAt_of he hop) ho hw' hop
        simp at hd
        obtain ⟨rfl, rfl⟩ := hd
        exact ⟨τ, a, m, w', (he.mono h2.ext).sto s, h2, V, _, h1, h3⟩
      · rename_i d hop
        obtain ⟨D, h1, h3⟩ := opstep (rest := List.range' (i + 1) l.length) (k := k) (cs := stk m) hcall hfun h he.tm (semAt_of he hop) ho hw' hop
        split at hd
        · rename_i e1 hp
          have he0 : ER σ b { e with ds := d :: e.ds } { a with defers := D :: a.defers } m := ⟨he.tm, .cons _ _ _ _ h1 he.df, he.rc, he.fn, he.ro⟩
          obtain ⟨he1, hs1⟩ := put_ok (V := undef) he0 hp (VR.tuple_iff.2 ⟨_, rfl, VRs.nil _⟩)
          have := ih (i + 1) σ w e1 _ m ex e' hl' hd (by rw [hs1]; exact h) he1
          rw [hs1] at this
          exact this.of_steps h3
        · simp at hd
      · rename_i hop
        have hre := opstep (rest := List.range' (i + 1) l.length) (k := k) (cs := stk m) hcall hfun h he.tm (semAt_of he hop) ho hw' hop
        split at hd
        · -- something is recovered
          rename_i v hro hr
          have hbro : b.roundOf = none := by have := he.ro; rw [hro] at this; exact this
          have hrc := he.rc
          rw [hr] at hrc
          generalize hkind : b.kind = kd at hrc
          cases hrc with
          | pan _ V hV =>
            rcases hstk with hs | ⟨_, c, t, rfl⟩
            · rw [hs] at hkind; cases hkind
            · split at hd
              · rename_i e1 hp
                have he0 : ER σ b { e with r := .recd v } a (.panicking [{ v := V, recovered := true }]) := ⟨he.tm, he.df, by rw [hkind]; exact .recd v V hV, he.fn, he.ro⟩
                obtain ⟨he1, hs1⟩ := put_ok he0 hp hV
                have hst := hre hbro V (({ c with mode := .panicking [{ v := V, recovered := true }] } : Frame) :: t) (.inl (by
                  rw [tryRecover_deferred (by exact hkind)]
                  rfl))
                have := ih (i + 1) σ w e1 _ _ ex e' hl' hd (by rw [hs1]; exact h) he1
                rw [hs1] at this
                exact this.of_steps hst
              · simp at hd
        · rename_i hro hnp
          have hbro : b.roundOf = none := by have := he.ro; rw [hro] at this; exact this
          have htr : tryRecover (b.atR a (.inRegion OPS (i :: List.range' (i + 1) l.length) :: k)) (stk m) = none := by
            have hrc := he.rc
            rcases hstk with hs | ⟨hs, c, t, rfl⟩
            · unfold tryRecover
              simp [Frame.atR, hs]
            · rw [tryRecover_deferred (by exact hs)]
              rw [hs] at hrc
              generalize hrr : e.r = rr at hrc
              cases hrc with
              | quiet => rfl
              | pan v V hv => exact absurd hrr (hnp v)
              | recd v V hv => rfl
          split at hd
          · rename_i e1 hp
            obtain ⟨he1, hs1⟩ := put_ok he hp .nili
            have hst := hre hbro .nilIface (stk m) (.inr ⟨htr, rfl, rfl⟩)
            have := ih (i + 1) σ w e1 _ m ex e' hl' hd (by rw [hs1]; exact h) he1
            rw [hs1] at this
            exact this.of_steps hst
          · simp at hd
        · simp at hd

/-- CODE IS SOUND. -/
def CodeOk (P : Program) (f : Env → Option (Ex × Env)) (c : Code) : Prop :=
  ∀ (σ : Sg) (w : World) (b : Frame) (stk : FrameMode → List Frame) (k : List Item) (e : Env) (a : Act) (m : FrameMode) (ex : Ex) (e' : Env), StkOk b.kind stk → f e = some (ex, e') → Rel σ e.s w → ER σ b e a m →
    COut P σ e.s w (lone (b.atR a (.code c :: k)) (stk m) w) b stk k ex e'

theorem loopGo_ok {f : Env → Option (Ex × Env)} {c : Code} (hf : CodeOk P f c) : ∀ (n : Nat) (σ : Sg) (w : World) (b : Frame) (stk : FrameMode → List Frame) (k : List Item) (e : Env) (a : Act) (m : FrameMode) (ex : Ex) (e' : Env), StkOk b.kind stk →
    loopGo f n e = some (ex, e') → Rel σ e.s w → ER σ b e a m → COut P σ e.s w (lone (b.atR a (.code c :: .inLoop c :: k)) (stk m) w) b stk k ex e' := by
  intro n
  induction n with
  | zero => intro σ w b stk k e a m ex e' _ h; simp [loopGo] at h
  | succ n ih =>
    intro σ w b stk k e a m ex e' hstk h hr he
    simp only [loopGo] at h
    split at h
    · rename_i e1 hf1
      obtain ⟨τ, a', m', w', h1, h2, h3⟩ := hf σ w b stk (.inLoop c :: k) e a m _ _ hstk hf1 hr he
      have := ih τ w' b stk k e1 a' m' ex e' hstk h h2.rel h1
      exact (this.of_steps (Steps.trans h3 (.one stepR_inLoop))).after h2
    · rename_i hf1
      obtain ⟨τ, a', m', w', h1, h2, h3⟩ := hf σ w b stk (.inLoop c :: k) e a m ex e' hstk h hr he
      have hn : ex ≠ .normal := by
        rintro rfl
        exact hf1 e' h
      exact ⟨τ, a', m', w', h1, h2, Gone.pass (x := .inLoop c) (.inl rfl) hn h3⟩

end
end Go.Abs
