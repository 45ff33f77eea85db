/-
  The abstract machine: regions in the text's order, code, ranges over functions.
-/
import Derived.Test.YtglnkngifepmhaaGreatUn
set_option linter.unusedVariables false
set_option linter.unusedSimpArgs false

namespace Go.Abs

/-- how code is left -/
def Gone (P : Program) (τ : Sg) (M : Machine) (b : Frame) (stk : FrameMode → List Frame) (k : List Item) (a : Act) (m : FrameMode) (w : World) : Ex → Prop
  | .normal => Steps P M (lone (b.atR a k) (stk m) w)
  | .exit id => (∀ k', exitTo id k = some k' → Steps P M (lone (b.atR a k') (stk m) w)) ∧ (exitTo id k = none → ∃ k₁, exitTo id k₁ = none ∧ Steps P M (lone (b.atR a (.code (.exit id) :: k₁)) (stk m) w))
  | .goto _ => True
  | .ret => ∃ k₁, Steps P M (lone (b.atR a (.code .ret :: k₁)) (stk m) w)
  | .panic v => ∃ V todo, VR τ v V ∧ Steps P M (lone { b.atR a todo with mode := .panicking [{ v := V, recovered := false }] } (stk m) w)

theorem Gone.of_steps {P : Program} {τ : Sg} {M M' : Machine} {b : Frame} {stk : FrameMode → List Frame} {k : List Item} {a : Act} {m : FrameMode} {w : World} {x : Ex} (h : Steps P M M') (hg : Gone P τ M' b stk k a m w x) : Gone P τ M b stk k a m w x := by
  cases x with
  | normal => exact h.trans hg
  | exit id => exact ⟨fun k' hk => h.trans (hg.1 k' hk), fun hk => let ⟨k₁, h1, h2⟩ := hg.2 hk; ⟨k₁, h1, h.trans h2⟩⟩
  | goto l => trivial
  | ret => obtain ⟨k₁, hs⟩ := hg; exact ⟨k₁, h.trans hs⟩
  | panic v => obtain ⟨V, todo, hv, hs⟩ := hg; exact ⟨V, todo, hv, h.trans hs⟩

/-- what lies on the frame's list is plain: exits go through it -/
theorem Gone.pass {P : Program} {τ : Sg} {M : Machine} {b : Frame} {stk : FrameMode → List Frame} {x : Item} {k : List Item} {a : Act} {m : FrameMode} {w : World} {e : Ex} (hx : x.plain = true ∨ (∃ c, x = .inScope c)) (hn : e ≠ .normal)
    (hg : Gone P τ M b stk (x :: k) a m w e) : Gone P τ M b stk k a m w e := by
  have hex : ∀ id, exitTo id (x :: k) = exitTo id k := by
    intro id
    rcases hx with hx | ⟨c, rfl⟩
    · exact exitTo_plain hx id k
    · simp [exitTo]
  cases e with
  | normal => exact absurd rfl hn
  | exit id => exact ⟨fun k' hk => hg.1 k' (by rw [hex]; exact hk), fun hk => hg.2 (by rw [hex]; exact hk)⟩
  | goto l => trivial
  | ret => exact hg
  | panic v => exact hg

def COut (P : Program) (σ : Sg) (S : Sto) (w : World) (M : Machine) (b : Frame) (stk : FrameMode → List Frame) (k : List Item) (ex : Ex) (e' : Env) : Prop :=
  ∃ τ a' m' w', ER τ b e' a' m' ∧ Stp σ S w τ e'.s w' ∧ Gone P τ M b stk k a' m' w' ex

theorem COut.of_steps {P : Program} {σ : Sg} {S : Sto} {w : World} {M M' : Machine} {b : Frame} {stk : FrameMode → List Frame} {k : List Item} {ex : Ex} {e' : Env} (h : Steps P M M') (hg : COut P σ S w M' b stk k ex e') : COut P σ S w M b stk k ex e' := by
  obtain ⟨τ, a', m', w', h1, h2, h3⟩ := hg
  exact ⟨τ, a', m', w', h1, h2, h3.of_steps h⟩
theorem COut.after {P : Program} {σ τ : Sg} {S S' : Sto} {w w' : World} {M : Machine} {b : Frame} {stk : FrameMode → List Frame} {k : List Item} {ex : Ex} {e' : Env} (h : Stp σ S w τ S' w') (hg : COut P τ S' w' M b stk k ex e') : COut P σ S w M b stk k ex e' := by
  obtain ⟨ρ, a', m', w'', h1, h2, h3⟩ := hg
  exact ⟨ρ, a', m', w'', h1, h.trans h2, h3⟩

section
variable {P : Program} 

theorem dops_ok {call : CallT} (hcall : CallN P call) (hfun : ∀ v args s r x, call v args s r = some x → ∃ f a c, v = .func f a c) {OPS : Array Oper} {b : Frame} {stk : FrameMode → List Frame} (hstk : StkOk b.kind stk) {k : List Item} :
    ∀ (l : List Oper) (i : Nat) (σ : Sg) (w : World) (e : Env) (a : Act) (m : FrameMode) (ex : Ex) (e' : Env), (∀ j, l[j]? = OPS[i + j]?) → dops P call OPS.toList l e = some (ex, e') → Rel σ e.s w → ER σ b e a m →
      COut P σ e.s w (lone (b.atR a (.inRegion OPS (List.range' i l.length) :: k)) (stk m) w) b stk k ex e' := by
  intro l
  induction l with
  | nil =>
    intro i σ w e a m ex e' hl hd h he
    simp [dops] at hd
    obtain ⟨rfl, rfl⟩ := hd
    exact ⟨σ, a, m, w, he, Stp.refl h, .one stepR_region_end⟩
  | cons o l ih =>
    intro i σ w e a m ex e' hl hd h he
    have ho : OPS[i]? = some o := by have := hl 0; simpa using this.symm
    have hl' : ∀ j, l[j]? = OPS[i + 1 + j]? := fun j => by
      have := hl (j + 1)
      rw [show i + 1 + j = i + (j + 1) by omega, ← this]; simp
    simp only [List.length_cons, List.range'_succ]
    simp only [dops] at hd
    split at hd
    · simp at hd
    · rename_i hw
      have hw' := awanted_ok he hw OPS rfl
      split at hd
      · rename_i e1 hp
        obtain ⟨he1, hs1⟩ := put_ok (V := undef) he hp (VR.tuple_iff.2 ⟨_, rfl, VRs.nil _⟩)
        have hst : Steps P (lone (b.atR a (.inRegion OPS (i :: List.range' (i + 1) l.length) :: k)) (stk m) w) (lone (b.atR (a.put o.dst undef) (.inRegion OPS (List.range' (i + 1) l.length) :: k)) (stk m) w) := by
          have := stepR_op_skip (P := P) (b := b) (a := a) (k := k) (cs := stk m) (w := w) (ops := OPS) (i := i) (rest := List.range' (i + 1) l.length) (by simp [ho, hw'])
          simp only [ho, Option.bind_some] at this
          exact .one this
        have := ih (i + 1) σ w e1 _ m ex e' hl' hd (by rw [hs1]; exact h) he1
        rw [hs1] at this
        exact this.of_steps hst
      · simp at hd
    · rename_i hw
      have hw' := awanted_ok he hw OPS rfl
      split at hd
      · simp at hd
      · rename_i v hop
        obtain ⟨τ, V, w', h1, h2, h3⟩ := opstep (rest := List.range' (i + 1) l.length) (k := k) (cs := stk m) hcall hfun h he.tm (semAt_of he hop) ho hw' hop
        split at hd
        · rename_i e1 hp
          obtain ⟨he1, hs1⟩ := put_ok (he.mono h2.le) hp h1
          have := ih (i + 1) τ w' e1 _ m ex e' hl' hd (by rw [hs1]; exact h2.rel h) he1
          rw [hs1] at this
          exact (this.of_steps h3).after (h2.stp h)
        · simp at hd
      · rename_i v s hop
        obtain ⟨τ, V, w', h1, h2, h3⟩ := opstep (rest := List.range' (i + 1) l.length) (k := k) (cs := stk m) hcall hfun h he.tm (semAt_of he hop) ho hw' hop
        split at hd
        · rename_i e1 hp
          obtain ⟨he1, hs1⟩ := put_ok ((he.mono h2.ext).sto s) hp h1
          have := ih (i + 1) τ w' e1 _ m ex e' hl' hd (by rw [hs1]; exact h2.rel) he1
          rw [hs1] at this
          exact (this.of_steps h3).after h2
        · simp at hd
      · rename_i v s hop
        obtain ⟨τ, V, w', h1, h2, h3⟩ := opstep (rest := List.range' (i + 1) l.length) (k := k) (cs := stk m) hcall hfun h he.tm (semAt_of he hop) ho hw' hop
        simp at hd
        obtain ⟨rfl, rfl⟩ := hd
        exact ⟨τ, a, m, w', (he.mono h2.ext).sto s, h2, V, _, h1, h3⟩
      · rename_i d hop
        obtain ⟨D, h1, h3⟩ := opstep (rest := List.range' (i + 1) l.length) (k := k) (cs := stk m) hcall hfun h he.tm (semAt_of he hop) ho hw' hop
        split at hd
        · rename_i e1 hp
          have he0 : ER σ b { e with ds := d :: e.ds } { a with defers := D :: a.defers } m := ⟨he.tm, .cons _ _ _ _ h1 he.df, he.rc, he.fn, he.ro⟩
          obtain ⟨he1, hs1⟩ := put_ok (V := undef) he0 hp (VR.tuple_iff.2 ⟨_, rfl, VRs.nil _⟩)
          have := ih (i + 1) σ w e1 _ m ex e' hl' hd (by rw [hs1]; exact h) he1
          rw [hs1] at this
          exact this.of_steps h3
        · simp at hd
      · rename_i hop
        have hre := opstep (rest := List.range' (i + 1) l.length) (k := k) (cs := stk m) hcall hfun h he.tm (semAt_of he hop) ho hw' hop
        split at hd
        · -- something is recovered
          rename_i v hro hr
          have hbro : b.roundOf = none := by have := he.ro; rw [hro] at this; exact this
          have hrc := he.rc
          rw [hr] at hrc
          generalize hkind : b.kind = kd at hrc
          cases hrc with
          | pan _ V hV =>
            rcases hstk with hs | ⟨_, c, t, rfl⟩
            · rw [hs] at hkind; cases hkind
            · split at hd
              · rename_i e1 hp
                have he0 : ER σ b { e with r := .recd v } a (.panicking [{ v := V, recovered := true }]) := ⟨he.tm, he.df, by rw [hkind]; exact .recd v V hV, he.fn, he.ro⟩
                obtain ⟨he1, hs1⟩ := put_ok he0 hp hV
                have hst := hre hbro V (({ c with mode := .panicking [{ v := V, recovered := true }] } : Frame) :: t) (.inl (by
                  rw [tryRecover_deferred (by exact hkind)]
                  rfl))
                have := ih (i + 1) σ w e1 _ _ ex e' hl' hd (by rw [hs1]; exact h) he1
                rw [hs1] at this
                exact this.of_steps hst
              · simp at hd
        · rename_i hro hnp
          have hbro : b.roundOf = none := by have := he.ro; rw [hro] at this; exact this
          have htr : tryRecover (b.atR a (.inRegion OPS (i :: List.range' (i + 1) l.length) :: k)) (stk m) = none := by
            have hrc := he.rc
            rcases hstk with hs | ⟨hs, c, t, rfl⟩
            · unfold tryRecover
              simp [Frame.atR, hs]
            · rw [tryRecover_deferred (by exact hs)]
              rw [hs] at hrc
              generalize hrr : e.r = rr at hrc
              cases hrc with
              | quiet => rfl
              | pan v V hv => exact absurd hrr (hnp v)
              | recd v V hv => rfl
          split at hd
          · rename_i e1 hp
            obtain ⟨he1, hs1⟩ := put_ok he hp .nili
            have hst := hre hbro .nilIface (stk m) (.inr ⟨htr, rfl, rfl⟩)
            have := ih (i + 1) σ w e1 _ m ex e' hl' hd (by rw [hs1]; exact h) he1
            rw [hs1] at this
            exact this.of_steps hst
          · simp at hd
        · simp at hd

/-- CODE IS SOUND. -/
def CodeOk (P : Program) (f : Env → Option (Ex × Env)) (c : Code) : Prop :=
  ∀ (σ : Sg) (w : World) (b : Frame) (stk : FrameMode → List Frame) (k : List Item) (e : Env) (a : Act) (m : FrameMode) (ex : Ex) (e' : Env), StkOk b.kind stk → f e = some (ex, e') → Rel σ e.s w → ER σ b e a m →
    COut P σ e.s w (lone (b.atR a (.code c :: k)) (stk m) w) b stk k ex e'

theorem loopGo_ok {f : Env → Option (Ex × Env)} {c : Code} (hf : CodeOk P f c) : ∀ (n : Nat) (σ : Sg) (w : World) (b : Frame) (stk : FrameMode → List Frame) (k : List Item) (e : Env) (a : Act) (m : FrameMode) (ex : Ex) (e' : Env), StkOk b.kind stk →
    loopGo f n e = some (ex, e') → Rel σ e.s w → ER σ b e a m → COut P σ e.s w (lone (b.atR a (.code c :: .inLoop c :: k)) (stk m) w) b stk k ex e' := by
  intro n
  induction n with
  | zero => intro σ w b stk k e a m ex e' _ h; simp [loopGo] at h
  | succ n ih =>
    intro σ w b stk k e a m ex e' hstk h hr he
    simp only [loopGo] at h
    split at h
    · rename_i e1 hf1
      obtain ⟨τ, a', m', w', h1, h2, h3⟩ := hf σ w b stk (.inLoop c :: k) e a m _ _ hstk hf1 hr he
      have := ih τ w' b stk k e1 a' m' ex e' hstk h h2.rel h1
      exact (this.of_steps (Steps.trans h3 (.one stepR_inLoop))).after h2
    · rename_i hf1
      obtain ⟨τ, a', m', w', h1, h2, h3⟩ := hf σ w b stk (.inLoop c :: k) e a m ex e' hstk h hr he
      have hn : ex ≠ .normal := by
        rintro rfl
        exact hf1 e' h
      exact ⟨τ, a', m', w', h1, h2, Gone.pass (x := .inLoop c) (.inl rfl) hn h3⟩

end
end Go.Abs

/-
  The abstract machine: a step in a part of the store; what one operation asks; the laws of a drawn region's order.
-/

namespace Go.Abs

/-! ### a step in a part of the store -/
def Sg.join (τ σ : Sg) : Sg := ⟨τ.m, fun id g => match τ id g with
  | some y => some y
  | none => σ id g⟩
theorem Sg.le_join (τ σ : Sg) : τ.le (τ.join σ) := by
  refine ⟨fun id g x h => ?_, fun _ _ _ h => h⟩; simp only [Sg.join]; rw [h]

structure Framed (σ : Sg) (X : Sto) (w : World) (τ : Sg) (X' : Sto) (w' : World) : Prop where
  rel : Rel τ X' w'
  ext : σ.le τ
  size : w.heap.size ≤ w'.heap.size
  frame : ∀ b, b < w.heap.size → ¬ Has σ X b → w'.heap[b]? = w.heap[b]?
  own : ∀ b, Has τ X' b → Has σ X b ∨ w.heap.size ≤ b
  mnew : ∀ b off V, τ.m b off = some V → σ.m b off = some V ∨ Has σ X b ∨ w.heap.size ≤ b

theorem framed {σ ρ τ : Sg} {X X' R R' : Sto} {w w' : World} (hX : Rel σ X w) (hm : ρ.m = σ.m) (hρ : ∀ id g, id < R.n → ρ id g = σ id g) (hR : ∀ id x, R.get id = some x → X.get id = some x)
    (h : Stp ρ R w τ R' w') (hc : ∀ id g, R.n ≤ id → id < R'.n → σ id g = none) (hn : X.n ≤ X'.n) (hn' : R'.n ≤ X'.n)
    (hX' : ∀ id x, X'.get id = some x → R'.get id = some x ∨ (X.get id = some x ∧ R.get id = none)) (ht : ∀ id, X'.n ≤ id → X'.o.get id = none) :
    Framed σ X w (τ.join σ) X' w' := by
  have hle : σ.le (τ.join σ) := by
    refine ⟨fun id g x hx => ?_, fun b o V hV => h.ext.m b o V (by rw [hm]; exact hV)⟩
    simp only [Sg.join]
    by_cases hi : id < R.n
    · rw [h.ext id g x (by rw [hρ id g hi]; exact hx)]
    · cases hτ : τ id g with
      | none => exact hx
      | some y =>
        have := h.rel.bnd id g y hτ
        rw [hc id g (by omega) this] at hx
        cases hx
  have hτle := Sg.le_join τ σ
  have hρle : ρ.le (τ.join σ) := Sg.le_trans h.ext hτle
  have hHas : ∀ b, Has ρ R b → Has σ X b := by
    rintro b ⟨id, x, base, sz, h1, h2⟩
    exact ⟨id, x, base, sz, hR id x h1, by rw [← hρ id _ (Sto.get_lt h1)]; exact h2⟩
  -- an object that is not of the part
  have hout : ∀ id x b base sz, X.get id = some x → R.get id = none → σ id (genOf x) = some (b, base, sz) → ¬ Has ρ R b := by
    rintro id x b base sz h1 h2 h3 ⟨id', x', base', sz', h4, h5⟩
    have := hX.inj id x id' x' b base sz base' sz' h1 (hR _ _ h4) h3 (by rw [← hρ id' _ (Sto.get_lt h4)]; exact h5)
    subst this
    rw [h2] at h4; cases h4
  have hsame : ∀ id x g, X.get id = some x → R.get id = none → (τ.join σ) id g = σ id g := by
    intro id x g h1 h2
    simp only [Sg.join]
    by_cases hi : id < R.n
    · rw [(h.hole id hi h2).2 g, hρ id g hi]
      cases σ id g <;> rfl
    · cases hτ : τ id g with
      | none => rfl
      | some y =>
        obtain ⟨b, base, sz, o, h3, _⟩ := hX.obj id x h1
        rw [hc id _ (by omega) (h.rel.bnd id g y hτ)] at h3
        cases h3
  have hown : ∀ b, Has (τ.join σ) X' b → (∃ id x base sz, R'.get id = some x ∧ τ id (genOf x) = some (b, base, sz)) ∨ (∃ id x base sz, X.get id = some x ∧ R.get id = none ∧ σ id (genOf x) = some (b, base, sz)) := by
    rintro b ⟨id, x, base, sz, h1, h2⟩
    rcases hX' id x h1 with h3 | ⟨h3, h4⟩
    · obtain ⟨b', base', sz', o, h5, _⟩ := h.rel.obj id x h3
      have := hτle _ _ _ h5
      rw [h2] at this
      obtain ⟨rfl, rfl, rfl⟩ : b = b' ∧ base = base' ∧ sz = sz' := by simpa using this
      exact .inl ⟨id, x, base, sz, h3, h5⟩
    · rw [hsame id x _ h3 h4] at h2
      exact .inr ⟨id, x, base, sz, h3, h4, h2⟩
  have hown' : ∀ b, Has (τ.join σ) X' b → Has σ X b ∨ w.heap.size ≤ b := by
    intro b hb
    rcases hown b hb with ⟨id, x, base, sz, h1, h2⟩ | ⟨id, x, base, sz, h1, _, h2⟩
    · exact (h.own b ⟨id, x, base, sz, h1, h2⟩).imp (hHas b) (fun h => h)
    · exact .inl ⟨id, x, base, sz, h1, h2⟩
  refine ⟨⟨?_, ?_, ?_, ?_, ?_, ht⟩, hle, h.size, fun b hb hn => h.frame b hb fun hh => hn (hHas b hh), hown', fun b off V hV => ?_⟩
  · intro id x hx
    rcases hX' id x hx with h3 | ⟨h3, h4⟩
    · obtain ⟨b, base, sz, o, h5, h6, h7⟩ := h.rel.obj id x h3
      exact ⟨b, base, sz, o, hτle _ _ _ h5, h6, h7.mono hτle⟩
    · obtain ⟨b, base, sz, o, h5, h6, h7⟩ := hX.obj id x h3
      refine ⟨b, base, sz, o, by rw [hsame id x _ h3 h4]; exact h5, ?_, h7.mono hle⟩
      rw [h.frame b (Array.getElem?_eq_some_iff.1 h6).1 (hout id x b base sz h3 h4 h5)]
      exact h6
  · intro id x id' x' b base sz base' sz' h1 h2 h3 h4
    have key : ∀ id x id' x' base sz base' sz', R'.get id = some x → (X.get id' = some x' ∧ R.get id' = none) → (τ.join σ) id (genOf x) = some (b, base, sz) → (τ.join σ) id' (genOf x') = some (b, base', sz') → False := by
      intro id x id' x' base sz base' sz' h1 h2 h3 h4
      obtain ⟨b1, base1, sz1, o1, g1, _⟩ := h.rel.obj id x h1
      have := hτle _ _ _ g1
      rw [h3] at this
      obtain ⟨rfl, rfl, rfl⟩ : b = b1 ∧ base = base1 ∧ sz = sz1 := by simpa using this
      rw [hsame id' x' _ h2.1 h2.2] at h4
      rcases h.own b ⟨id, x, base, sz, h1, g1⟩ with h5 | h5
      · exact hout id' x' b base' sz' h2.1 h2.2 h4 h5
      · have := hX.lt ⟨id', x', base', sz', h2.1, h4⟩
        omega
    rcases hX' id x h1 with g1 | g1 <;> rcases hX' id' x' h2 with g2 | g2
    · obtain ⟨b1, base1, sz1, o1, k1, _⟩ := h.rel.obj id x g1
      have e1 := hτle _ _ _ k1
      rw [h3] at e1
      obtain ⟨rfl, rfl, rfl⟩ : b = b1 ∧ base = base1 ∧ sz = sz1 := by simpa using e1
      obtain ⟨b2, base2, sz2, o2, k2, _⟩ := h.rel.obj id' x' g2
      have e2 := hτle _ _ _ k2
      rw [h4] at e2
      obtain ⟨rfl, rfl, rfl⟩ : b = b2 ∧ base' = base2 ∧ sz' = sz2 := by simpa using e2
      exact h.rel.inj id x id' x' b base sz base' sz' g1 g2 k1 k2
    · exact (key _ _ _ _ _ _ _ _ g1 g2 h3 h4).elim
    · exact (key _ _ _ _ _ _ _ _ g2 g1 h4 h3).elim
    · rw [hsame id x _ g1.1 g1.2] at h3
      rw [hsame id' x' _ g2.1 g2.2] at h4
      exact hX.inj id x id' x' b base sz base' sz' g1.1 g2.1 h3 h4
  · intro b off V hV
    obtain ⟨h1, h2⟩ := h.rel.mu b off V hV
    refine ⟨h1, fun hh => ?_⟩
    rcases hown b hh with ⟨id, x, base, sz, h3, h4⟩ | ⟨id, x, base, sz, h3, h4, h5⟩
    · exact h2 ⟨id, x, base, sz, h3, h4⟩
    · rcases h.mnew b off V hV with h6 | h6 | h6
      · exact (hX.mu b off V (by rw [← hm]; exact h6)).2 ⟨id, x, base, sz, h3, h5⟩
      · exact hout id x b base sz h3 h4 h5 h6
      · have := hX.lt ⟨id, x, base, sz, h3, h5⟩; omega
  · intro id g y hy
    simp only [Sg.join] at hy
    split at hy
    · rename_i z hz
      exact Nat.lt_of_lt_of_le (h.rel.bnd id g z hz) hn'
    · exact Nat.lt_of_lt_of_le (hX.bnd id g y hy) hn
  · intro id x g y hx hy
    rcases hX' id x hx with h3 | ⟨h3, h4⟩
    · simp only [Sg.join] at hy
      split at hy
      · rename_i z hz
        exact h.rel.gen id x g z h3 hz
      · rename_i hz
        by_cases hi : id < R.n
        · have := h.ext id g y (by rw [hρ id g hi]; exact hy)
          rw [hz] at this; cases this
        · rw [hc id g (by omega) (Sto.get_lt h3)] at hy; cases hy
    · rw [hsame id x g h3 h4] at hy
      exact hX.gen id x g y h3 hy
  · rcases h.mnew b off V hV with h6 | h6 | h6
    · exact .inl (by rw [← hm]; exact h6)
    · exact .inr (.inl (hHas b h6))
    · exact .inr (.inr h6)

/-- a store with the same objects -/
theorem Rel.same {σ : Sg} {S S' : Sto} {w : World} (h : Rel σ S w) (hg : ∀ id, S'.get id = S.get id) (hn : S'.n = S.n) (ht : ∀ id, S'.n ≤ id → S'.o.get id = none) : Rel σ S' w where
  obj := fun id x hx => h.obj id x (by rw [← hg]; exact hx)
  inj := fun id x id' x' b base sz base' sz' h1 h2 => h.inj id x id' x' b base sz base' sz' (by rw [← hg]; exact h1) (by rw [← hg]; exact h2)
  mu := fun b off V hm => ⟨(h.mu b off V hm).1, fun ⟨id, x, base, sz, h1, h2⟩ => (h.mu b off V hm).2 ⟨id, x, base, sz, by rw [← hg]; exact h1, h2⟩⟩
  bnd := fun id g x hx => by rw [hn]; exact h.bnd id g x hx
  gen := fun id x g y h1 h2 => h.gen id x g y (by rw [← hg]; exact h1) h2
  top := ht

/-- a part of a store, with a part of σ -/
theorem Rel.part {σ ρ : Sg} {X R : Sto} {w : World} (h : Rel σ X w) (hm : ρ.m = σ.m) (hρ : ∀ id g, id < R.n → ρ id g = σ id g) (hρ' : ∀ id g x, ρ id g = some x → id < R.n) (hR : ∀ id x, R.get id = some x → X.get id = some x)
    (hv : ∀ id x, R.get id = some x → ∀ b base sz o, ObjR σ base sz x o → σ id (genOf x) = some (b, base, sz) → w.heap[b]? = some o → ObjR ρ base sz x o) (ht : ∀ id, R.n ≤ id → R.o.get id = none) : Rel ρ R w where
  obj := fun id x hx => by
    obtain ⟨b, base, sz, o, h1, h2, h3⟩ := h.obj id x (hR id x hx)
    exact ⟨b, base, sz, o, by rw [hρ id _ (Sto.get_lt hx)]; exact h1, h2, hv id x hx b base sz o h3 h1 h2⟩
  inj := fun id x id' x' b base sz base' sz' h1 h2 h3 h4 => h.inj id x id' x' b base sz base' sz' (hR _ _ h1) (hR _ _ h2) (by rw [← hρ id _ (Sto.get_lt h1)]; exact h3) (by rw [← hρ id' _ (Sto.get_lt h2)]; exact h4)
  mu := fun b off V hV =>
    have hV' : σ.m b off = some V := by rw [← hm]; exact hV
    ⟨(h.mu b off V hV').1, fun ⟨id, x, base, sz, h1, h2⟩ => (h.mu b off V hV').2 ⟨id, x, base, sz, hR _ _ h1, by rw [← hρ id _ (Sto.get_lt h1)]; exact h2⟩⟩
  bnd := hρ'
  gen := fun id x g y h1 h2 => h.gen id x g y (hR _ _ h1) (by rw [← hρ id _ (Sto.get_lt h1)]; exact h2)
  top := ht

end Go.Abs

/-
  The abstract machine: what one operation asks.
-/

namespace Go.Abs

/-! ### equal values are the same -/
theorem lbeq_eq {α : Type} {f : α → α → Bool} (hf : ∀ a b, f a b = true → a = b) : ∀ (l m : List α), lbeq f l m = true → l = m := by
  intro l
  induction l with
  | nil => intro m h; cases m <;> simp_all [lbeq]
  | cons a l ih =>
    intro m h
    cases m with
    | nil => simp [lbeq] at h
    | cons b m =>
      simp only [lbeq, Bool.and_eq_true] at h
      rw [hf a b h.1, ih m h.2]
theorem intBeq_true {a b : Int} (h : intBeq a b = true) : a = b := by
  cases a <;> cases b <;> simp_all [intBeq]
theorem capBeq_eq {a b : ACap} (h : capBeq a b = true) : a = b := by
  cases a <;> cases b <;> simp_all [capBeq]
theorem fnBeq_eq {a b : Fn} (h : fnBeq a b = true) : a = b := of_decide_eq_true h
theorem nbeq_eq : ∀ a b : Nat, Nat.beq a b = true → a = b := fun a b h => by simpa using h
theorem AV.beq_eq : ∀ (d : Nat) (a b : AV), AV.beq d a b = true → a = b := by
  intro d
  induction d with
  | zero => intro a b h; simp [AV.beq] at h
  | succ d ih =>
    intro a b h
    cases a <;> cases b <;> simp only [AV.beq, Bool.and_eq_true, Bool.false_eq_true] at h <;> try rfl
    · rw [eq_of_beq h]
    · rw [of_decide_eq_true h.1, intBeq_true h.2]
    · rw [lbeq_eq nbeq_eq _ _ h]
    · rw [nbeq_eq _ _ h.1.1, nbeq_eq _ _ h.1.2, nbeq_eq _ _ h.2]
    · rw [ih _ _ h]
    · rw [nbeq_eq _ _ h.1.1.1.1, nbeq_eq _ _ h.1.1.1.2, nbeq_eq _ _ h.1.1.2, nbeq_eq _ _ h.1.2, capBeq_eq h.2]
    · rw [lbeq_eq ih _ _ h.1, eq_of_beq h.2]
    · rw [nbeq_eq _ _ h]
    · rw [fnBeq_eq h.1.1, lbeq_eq ih _ _ h.1.2, lbeq_eq ih _ _ h.2]
    · rw [nbeq_eq _ _ h.1, ih _ _ h.2]
    · rw [lbeq_eq ih _ _ h]
    · rw [lbeq_eq ih _ _ h]
theorem isVal_eq {v : AV} {r : Option ORes} (h : isVal v r = true) : r = some (.val v) := by
  unfold isVal at h
  split at h
  · rw [AV.beq_eq _ _ _ h]
  · simp at h

section
variable {P : Program} {call : CallT}

theorem evals_congr {e e' : Env} {xs : Array Operand} (h : ∀ y ∈ xs, e'.eval y = e.eval y) : evals e' xs = evals e xs :=
  List.map_congr_left fun y hy => h y (by simpa using hy)
theorem eparts_congr {e e' : Env} {ps : Array (Nat × Operand)} (h : ∀ y ∈ ps.map (·.2), e'.eval y = e.eval y) : ps.toList.map (fun p => (p.1, e'.eval p.2)) = ps.toList.map (fun p => (p.1, e.eval p.2)) :=
  List.map_congr_left fun p hp => by rw [h p.2 (Array.mem_map.2 ⟨p, by simpa using hp, rfl⟩)]

/-- an operation asks for its operands, the store, and whether it is in a round -/
theorem dop_congr {o : Oper} {e e' : Env} (h : ∀ y ∈ o.op.operands, e'.eval y = e.eval y) (hs : e'.s = e.s) (hro : e'.ro = e.ro) : dop P call o e' = dop P call o e := by
  obtain ⟨dst, op, type, pos, after, guard⟩ := o
  cases op <;> simp only [Op.operands] at h <;> simp only [dop]
  case build t ps => rw [eparts_congr fun y hy => h y (by simpa using hy)]
  case buildSlice t n ps => rw [eparts_congr fun y hy => h y (by simpa using hy), hs]
  case makeFunc fn first captured =>
    rw [evals_congr (xs := first) fun x hx => h x (by simp [hx]), evals_congr (xs := captured) fun x hx => h x (by simp [hx])]
  case makeMap t r => cases r <;> simp_all
  case slice t x lo hi mx => cases lo <;> cases hi <;> cases mx <;> simp_all
  case call c =>
    have hargs : evals e' c.args = evals e c.args := evals_congr fun x hx => h x (by simp [Call.operands, hx])
    rw [hargs, hs]
    cases hc : c.callee with
    | value f =>
      have hf := h f (by simp [Call.operands, hc])
      simp only [hf]
    | invoke r m =>
      have hf := h r (by simp [Call.operands, hc])
      simp only [hf]
    | builtin b => rfl
  case defer c =>
    have hargs : evals e' c.args = evals e c.args := evals_congr fun x hx => h x (by simp [Call.operands, hx])
    rw [hargs, hro]
    cases hc : c.callee with
    | value f =>
      have hf := h f (by simp [Call.operands, hc])
      cases e.ro <;> simp only [hf]
    | invoke r m => rfl
    | builtin b => rfl
  all_goals (first | rfl | (simp_all; done))

/-- the names that an operation asks for -/
def onames' (o : Oper) : List Nat := o.op.operands.toList.filterMap fun | .tmp t => some t | _ => none
theorem eval_names {o : Oper} {e e' : Env} (h : ∀ d, d ∈ onames' o → e'.t.get d = e.t.get d) : ∀ y ∈ o.op.operands, e'.eval y = e.eval y := by
  intro y hy
  cases y with
  | tmp t =>
    simp only [Env.eval]
    rw [h t (List.mem_filterMap.2 ⟨.tmp t, by simpa using hy, rfl⟩)]
  | _ => rfl

def gname (ops : List Oper) (o : Oper) : List Nat := match o.guard with | some (j, _) => (match ops[j]? with | some g => g.dst.toList | none => []) | none => []
theorem awanted_congr {ops : List Oper} {o : Oper} {e e' : Env} (h : ∀ d, d ∈ gname ops o → e'.t.get d = e.t.get d) : awanted ops o e' = awanted ops o e := by
  unfold awanted
  unfold gname at h
  split
  · rfl
  · rename_i j want hg
    rw [hg] at h
    simp only at h
    split
    · rfl
    · rename_i d hd
      have hd' : d ∈ (match ops[j]? with | some g => g.dst.toList | none => []) := by
        split at hd
        · rename_i g hg'; rw [hg']; simp [hd]
        · simp at hd
      rw [h d hd']

/-- a table of these names alone -/
noncomputable def only (t : Tr AV) : List Nat → Tr AV
  | [] => .leaf
  | d :: l => match t.get d with
    | some v => (only t l).set d v
    | none => only t l
theorem only_get (t : Tr AV) : ∀ (l : List Nat) (d : Nat), (only t l).get d = if d ∈ l then t.get d else none := by
  intro l
  induction l with
  | nil => intro d; simp [only, Tr.get]
  | cons a l ih =>
    intro d
    unfold only
    split
    · rename_i v hv
      rw [Tr.get_set, ih]
      by_cases hd : d = a
      · subst hd; simp [hv]
      · simp [hd]
    · rename_i hv
      rw [ih]
      by_cases hd : d = a
      · subst hd; simp [hv]
      · simp [hd]

/-- operations that ask nothing of the store -/
theorem dop_pure {o : Oper} {e : Env} {r : ORes} (hp : pureOp o.op = true) (h : dop P call o e = some r) : (∃ v, r = .val v) ∧ ∀ s, dop P call o { e with s := s } = some r := by
  have hE : ∀ s, ({ e with s := s } : Env).eval = e.eval := fun s => by funext x; cases x <;> rfl
  have hEs : ∀ s xs, evals { e with s := s } xs = evals e xs := fun s xs => by unfold evals; rw [hE]
  have hV : ∀ {x : Option AV} {r : ORes}, valO x = some r → ∃ v, r = .val v := by
    intro x r h; cases x with
    | none => simp [valO] at h
    | some v => simp [valO] at h; exact ⟨v, h.symm⟩
  obtain ⟨dst, op, type, pos, after, guard⟩ := o
  cases op <;> simp only [pureOp, Bool.false_eq_true] at hp <;> simp only [dop, hE, hEs] at h ⊢
  all_goals refine ⟨?_, fun s => h⟩
  all_goals first
    | exact hV h
    | (cases h; exact ⟨_, rfl⟩)
    | skip
  all_goals (repeat' split at h)
  all_goals first
    | exact hV h
    | (cases h; exact ⟨_, rfl⟩)
    | cases h
    | skip
  all_goals first
    | (simp only [cond] at h; (repeat' split at h) <;> first | exact hV h | (cases h; exact ⟨_, rfl⟩) | cases h)

theorem anew_push {s : Sto} {cs : List AV} {id : Nat} {s' : Sto} (h : anew s cs = some (id, s')) : id = s.n ∧ ∃ x, s' = s.push x ∧ ∀ t : Sto, anew t cs = some (t.n, t.push x) := by
  unfold anew at h ⊢
  cases hc : cs.all AV.isCell with
  | false => rw [hc] at h; simp at h
  | true =>
    rw [hc] at h
    simp only [cond_true, Option.some.injEq, Prod.mk.injEq] at h
    exact ⟨h.1.symm, _, h.2.symm, fun t => by simp⟩

/-- operations that lay one new object -/
theorem dop_new {o : Oper} {e : Env} {r : ORes} (hp : newOp o.op = true) (h : dop P call o e = some r) : ∃ v x, r = .val' v (e.s.push x) ∧ ∀ s : Sto, s.n = e.s.n → dop P call o { e with s := s } = some (.val' v (s.push x)) := by
  have hE : ∀ s, ({ e with s := s } : Env).eval = e.eval := fun s => by funext x; cases x <;> rfl
  have key : ∀ {cs : List AV} {f : Nat → AV} {r : ORes}, (match anew e.s cs with | some (id, s) => some (ORes.val' (f id) s) | none => none) = some r →
      ∃ v x, r = .val' v (e.s.push x) ∧ ∀ s : Sto, s.n = e.s.n → (match anew s cs with | some (id, s) => some (ORes.val' (f id) s) | none => none) = some (.val' v (s.push x)) := by
    intro cs f r h
    split at h
    · rename_i id s' ha
      obtain ⟨rfl, x, rfl, hx⟩ := anew_push ha
      cases h
      exact ⟨_, x, rfl, fun s hs => by rw [hx s, hs]⟩
    · cases h
  obtain ⟨dst, op, type, pos, after, guard⟩ := o
  cases op <;> simp only [newOp, Bool.false_eq_true] at hp <;> simp only [dop, hE] at h ⊢
  case alloc t =>
    split at h
    · rename_i z hz
      exact key h
    · cases h
  case box t x =>
    split at h
    · cases h
    · rename_i v hv
      exact key h
  case buildSlice t len parts =>
    split at h
    · rename_i el hu
      split at h
      · rename_i k hk
        cases hb : Nat.ble (len * k) (2 ^ 24) with
        | false => rw [hb] at h; simp at h
        | true =>
          rw [hb] at h
          simp only [cond_true] at h ⊢
          split at h
          · rename_i zs hz
            cases hq : Nat.beq zs.length (len * k) with
            | false => rw [hq] at h; simp at h
            | true =>
              rw [hq] at h
              simp only [cond_true] at h ⊢
              split at h
              · rename_i cs hcs
                exact key h
              · cases h
          · cases h
      · cases h
    · cases h
  case makeMap t r =>
    split at h
    · rename_i b hb
      cases h
      exact ⟨_, _, rfl, fun s hs => by rw [hs]⟩
    · cases h
  case makeSlice t l c =>
    split at h
    · rename_i el k1 l' k2 c' h1 h2 h3
      split at h
      · rename_i k by_ z g1 g2 g3
        cases hq : (Nat.ble l' c' && Nat.ble (by_ * c') (2 ^ 47) && Nat.ble c' (2 ^ 62) && Nat.beq z.cells.length k) with
        | false => rw [hq] at h; simp at h
        | true =>
          rw [hq] at h
          simp only [cond_true] at h ⊢
          exact key h
      · cases h
    · cases h

end
end Go.Abs

/-
  The abstract machine: the trace of a drawn region.
-/

namespace Go.Abs

theorem put_spec {e e' : Env} {dst : Option Tmp} {v : AV} (h : e.put dst v = some e') : e'.nt = e.nt ∧ e'.ro = e.ro ∧ e'.fn = e.fn ∧ e'.ds = e.ds ∧ e'.s = e.s ∧ e'.r = e.r ∧
    (∀ d, e'.t.get d = if dst = some d then some v else e.t.get d) ∧ ∀ d, dst = some d → d < e.nt := by
  unfold Env.put at h
  cases dst with
  | none => simp at h; subst h; simp
  | some d =>
    simp only at h
    rw [bif_blt] at h
    split at h
    · rename_i hlt
      simp at h; subst h
      refine ⟨rfl, rfl, rfl, rfl, rfl, rfl, fun d' => ?_, fun d' h => by cases h; exact hlt⟩
      rw [Tr.get_set]
      by_cases hd : d' = d
      · subst hd; simp
      · rw [if_neg hd, if_neg (fun h => hd (by simpa using h.symm))]
    · simp at h

/-- the store before each operation, and the last one -/
def stAt (l : List TrE) (f : Env) (i : Nat) : Sto := match l[i]? with
  | some x => x.e.s
  | none => f.s
@[simp] theorem stAt_succ (x : TrE) (l : List TrE) (f : Env) (i : Nat) : stAt (x :: l) f (i + 1) = stAt l f i := by simp [stAt]
@[simp] theorem stAt_nil (f : Env) (i : Nat) : stAt [] f i = f.s := by simp [stAt]
@[simp] theorem stAt_zero (x : TrE) (l : List TrE) (f : Env) : stAt (x :: l) f 0 = x.e.s := by simp [stAt]
theorem stAt_of {l : List TrE} {f : Env} {i : Nat} {x : TrE} (h : l[i]? = some x) : stAt l f i = x.e.s := by simp [stAt, h]

/-- what a name holds behind these operations -/
def tabT (d : Nat) (l : List TrE) (v : Option AV) : Option AV := l.foldl (fun v x => if x.o.dst = some d then some x.v else v) v

structure RowOk (P : Program) (call : CallT) (ops : List Oper) (nt0 : Nat) (ro0 : Option Nat) (x : TrE) (s s' : Sto) (last : Prop) (p : Option (AV × Sto)) : Prop where
  want : awanted ops x.o x.e = some x.run
  nt : x.e.nt = nt0
  ro : x.e.ro = ro0
  st : x.e.s = s
  out : (x.run = false ∧ x.chg = false ∧ x.v = .undef ∧ s' = s) ∨ (x.run = true ∧ x.chg = false ∧ dop P call x.o x.e = some (.val x.v) ∧ s' = s) ∨
    (x.run = true ∧ x.chg = true ∧ dop P call x.o x.e = some (.val' x.v s') ∧ (last → p = none)) ∨ (x.run = true ∧ x.chg = true ∧ last ∧ p = some (x.v, s') ∧ dop P call x.o x.e = some (.pan x.v s'))
  dst : ∀ d, x.o.dst = some d → d < nt0 ∨ (last ∧ ∃ q, p = some q)

structure Traced (P : Program) (call : CallT) (ops rest : List Oper) (i : Nat) (e : Env) (l : List TrE) (f : Env) (p : Option (AV × Sto)) : Prop where
  i : ∀ (q : Nat) x, l[q]? = some x → x.i = i + q
  o : ∀ (q : Nat) x, l[q]? = some x → rest[q]? = some x.o
  t : ∀ (q : Nat) x, l[q]? = some x → ∀ d, x.e.t.get d = tabT d (l.take q) (e.t.get d)
  row : ∀ (q : Nat) x, l[q]? = some x → RowOk P call ops e.nt e.ro x (stAt l f q) (stAt l f (q + 1)) (q + 1 = l.length) p
  first : stAt l f 0 = e.s
  fin : p = none → l.length = rest.length ∧ f.nt = e.nt ∧ f.ro = e.ro ∧ f.fn = e.fn ∧ f.ds = e.ds ∧ f.r = e.r ∧ ∀ d, f.t.get d = tabT d l (e.t.get d)
  pan : ∀ v s, p = some (v, s) → s = f.s ∧ 0 < l.length ∧ ∀ x, l[l.length - 1]? = some x → x.chg = true

theorem traced {P : Program} {call : CallT} {ops : List Oper} : ∀ (rest : List Oper) (i : Nat) (e : Env) (l : List TrE) (f : Env) (p : Option (AV × Sto)), dtr P call ops rest i e = some (l, f, p) → Traced P call ops rest i e l f p := by
  intro rest
  induction rest with
  | nil =>
    intro i e l f p h
    simp [dtr] at h
    obtain ⟨rfl, rfl, rfl⟩ := h
    exact ⟨by simp, by simp, by simp, by simp, by simp, fun _ => by simp [tabT], fun v s h => by cases h⟩
  | cons o rest ih =>
    intro i e l f p h
    -- one row, and the rest
    have cons : ∀ (x : TrE) (e' : Env), trCons x (dtr P call ops rest (i + 1) e') = some (l, f, p) → x.i = i → x.o = o → x.e = e → e'.nt = e.nt → e'.ro = e.ro → e'.fn = e.fn → e'.ds = e.ds → e'.r = e.r →
        (∀ d, e'.t.get d = if o.dst = some d then some x.v else e.t.get d) → (∀ d, o.dst = some d → d < e.nt) → awanted ops o e = some x.run →
        ((x.run = false ∧ x.chg = false ∧ x.v = .undef ∧ e'.s = e.s) ∨ (x.run = true ∧ x.chg = false ∧ dop P call o e = some (.val x.v) ∧ e'.s = e.s) ∨ (x.run = true ∧ x.chg = true ∧ dop P call o e = some (.val' x.v e'.s))) →
        Traced P call ops (o :: rest) i e l f p := by
      intro x e' hc hi ho he hnt hro hfn hds hr ht hd hw hout
      unfold trCons at hc
      split at hc
      · rename_i l' f' p' hrest
        simp at hc
        obtain ⟨rfl, rfl, rfl⟩ := hc
        have T := ih (i + 1) e' l' f' p' hrest
        have hs1 : stAt (x :: l') f' 1 = e'.s := by rw [stAt_succ]; exact T.first
        refine ⟨?_, ?_, ?_, ?_, by simp [he], ?_, ?_⟩
        · intro q y hy
          cases q with
          | zero => simp at hy; subst hy; simpa using hi
          | succ q => simp at hy; rw [T.i q y hy]; omega
        · intro q y hy
          cases q with
          | zero => simp at hy; subst hy; simp [ho]
          | succ q => simp at hy; simpa using T.o q y hy
        · intro q y hy d
          cases q with
          | zero => simp at hy; subst hy; simp [tabT, he]
          | succ q =>
            simp at hy
            rw [T.t q y hy d, ht d]
            simp [tabT, ho]
        · intro q y hy
          cases q with
          | zero =>
            simp at hy; subst hy
            simp only [Nat.zero_add, stAt_zero, hs1]
            refine ⟨by rw [ho, he]; exact hw, by rw [he], by rw [he], rfl, ?_, fun d hd' => .inl (hd d (by rw [← ho]; exact hd'))⟩
            rw [ho, he]
            rcases hout with h1 | h1 | h1
            · exact .inl h1
            · exact .inr (.inl h1)
            · refine .inr (.inr (.inl ⟨h1.1, h1.2.1, h1.2.2, fun hl => ?_⟩))
              cases hp : p' with
              | none => rfl
              | some vs =>
                have := (T.pan vs.1 vs.2 hp).2.1
                simp at hl
                simp [hl] at this
          | succ q =>
            simp at hy
            have R := T.row q y hy
            simp only [stAt_succ]
            rw [hnt, hro] at R
            refine ⟨R.want, R.nt, R.ro, R.st, ?_, ?_⟩
            · rcases R.out with h1 | h1 | h1 | h1
              · exact .inl h1
              · exact .inr (.inl h1)
              · exact .inr (.inr (.inl ⟨h1.1, h1.2.1, h1.2.2.1, fun hl => h1.2.2.2 (by simpa using hl)⟩))
              · exact .inr (.inr (.inr ⟨h1.1, h1.2.1, by simpa using h1.2.2.1, h1.2.2.2⟩))
            · intro d hd'
              rcases R.dst d hd' with h1 | h1
              · exact .inl h1
              · exact .inr ⟨by simpa using h1.1, h1.2⟩
        · intro hp
          obtain ⟨h1, h2, h3, h4, h5, h6, h7⟩ := T.fin hp
          refine ⟨by simp [h1], by rw [h2, hnt], by rw [h3, hro], by rw [h4, hfn], by rw [h5, hds], by rw [h6, hr], fun d => ?_⟩
          rw [h7 d, ht d]; simp [tabT, ho]
        · intro v s hp
          obtain ⟨g1, g2, g3⟩ := T.pan v s hp
          refine ⟨g1, by simp, fun y hy => g3 y ?_⟩
          rw [← hy]
          have : (x :: l').length - 1 = (l'.length - 1) + 1 := by simp; omega
          rw [this]; simp
      · cases hc
    simp only [dtr] at h
    split at h
    · cases h
    · rename_i hw
      split at h
      · rename_i e' hp
        obtain ⟨a1, a2, a3, a4, a5, a6, a7, a8⟩ := put_spec hp
        exact cons _ e' h rfl rfl rfl a1 a2 a3 a4 a6 a7 a8 hw (.inl ⟨rfl, rfl, rfl, a5⟩)
      · cases h
    · rename_i hw
      split at h
      · rename_i v hop
        split at h
        · rename_i e' hp
          obtain ⟨a1, a2, a3, a4, a5, a6, a7, a8⟩ := put_spec hp
          exact cons _ e' h rfl rfl rfl a1 a2 a3 a4 a6 a7 a8 hw (.inr (.inl ⟨rfl, rfl, hop, a5⟩))
        · cases h
      · rename_i v s hop
        split at h
        · rename_i e' hp
          obtain ⟨a1, a2, a3, a4, a5, a6, a7, a8⟩ := put_spec hp
          exact cons _ e' h rfl rfl rfl a1 a2 a3 a4 a6 a7 a8 hw (.inr (.inr ⟨rfl, rfl, by rw [a5]; exact hop⟩))
        · cases h
      · rename_i v s hop
        simp at h
        obtain ⟨rfl, rfl, rfl⟩ := h
        refine ⟨?_, ?_, ?_, ?_, by simp, fun hp => (by cases hp), fun v' s' hp => (by cases hp; simp)⟩
        · intro q x hx; cases q with
          | zero => simp at hx; subst hx; rfl
          | succ q => simp at hx
        · intro q x hx; cases q with
          | zero => simp at hx; subst hx; rfl
          | succ q => simp at hx
        · intro q x hx; cases q with
          | zero => simp at hx; subst hx; simp [tabT]
          | succ q => simp at hx
        · intro q x hx
          cases q with
          | zero =>
            simp at hx; subst hx
            refine ⟨hw, rfl, rfl, by simp, .inr (.inr (.inr ⟨rfl, rfl, rfl, rfl, hop⟩)), fun d _ => .inr ⟨rfl, _, rfl⟩⟩
          | succ q => simp at hx
      · cases h

/-! ### what comes before what -/
theorem ancOf_bit (acc : List Nat) (o : Oper) (i : Nat) (h : (ancOf acc o).testBit i = true) : ∃ e ∈ o.after, Region.binds .any e = true ∧ (e.on = i ∨ (acc.getD e.on 0).testBit i = true) := by
  unfold ancOf at h
  have : ∀ (l : List Edge) (m : Nat), (l.foldl (fun m e => bif Region.binds .any e then m ||| (2 ^ e.on ||| acc.getD e.on 0) else m) m).testBit i = true →
      m.testBit i = true ∨ ∃ e ∈ l, Region.binds .any e = true ∧ (e.on = i ∨ (acc.getD e.on 0).testBit i = true) := by
    intro l
    induction l with
    | nil => intro m h; exact .inl h
    | cons e l ih =>
      intro m h
      rw [List.foldl_cons] at h
      rcases ih _ h with h1 | ⟨e', h1, h2⟩
      · cases hb : Region.binds .any e with
        | false => rw [hb] at h1; exact .inl h1
        | true =>
          rw [hb] at h1
          simp only [cond_true, Nat.testBit_or, Bool.or_eq_true, Nat.testBit_two_pow, decide_eq_true_eq] at h1
          rcases h1 with h1 | h1
          · exact .inl h1
          · exact .inr ⟨e, by simp, hb, h1⟩
      · exact .inr ⟨e', by simp [h1], h2⟩
  rcases this _ 0 h with h1 | ⟨e, h1, h2⟩
  · simp at h1
  · exact ⟨e, by simpa using h1, h2⟩

theorem ancsGo_old : ∀ (l : List Oper) (acc : List Nat) (j : Nat), j < acc.length → (ancsGo l acc).getD j 0 = acc.getD j 0 := by
  intro l
  induction l with
  | nil => intro acc j h; rfl
  | cons o l ih =>
    intro acc j h
    rw [ancsGo, ih _ _ (by simp; omega)]
    simp [List.getD_eq_getElem?_getD, List.getElem?_append, h]
theorem ancsGo_new : ∀ (l : List Oper) (acc : List Nat) (q : Nat) (o : Oper), l[q]? = some o → ∃ pre : List Nat, (∀ j i, (pre.getD j 0).testBit i = true → ((ancsGo l acc).getD j 0).testBit i = true) ∧ (ancsGo l acc).getD (acc.length + q) 0 = ancOf pre o := by
  intro l
  induction l with
  | nil => intro acc q o h; simp at h
  | cons a l ih =>
    intro acc q o h
    cases q with
    | zero =>
      simp at h; subst h
      refine ⟨acc, fun j i hb => ?_, ?_⟩
      · by_cases hj : j < acc.length
        · rw [ancsGo, ancsGo_old _ _ _ (by simp; omega)]
          simp only [List.getD_eq_getElem?_getD, List.getElem?_append, hj, if_true] at hb ⊢
          exact hb
        · simp [List.getD_eq_getElem?_getD, List.getElem?_eq_none (Nat.le_of_not_lt hj)] at hb
      · rw [ancsGo, ancsGo_old _ _ _ (by simp)]
        simp
    | succ q =>
      simp at h
      obtain ⟨pre, h1, h2⟩ := ih (acc ++ [ancOf acc a]) q o h
      refine ⟨pre, h1, ?_⟩
      rw [ancsGo]
      rw [← h2]
      congr 1
      simp; omega
theorem ancs_bit {ops : List Oper} {j i : Nat} {o : Oper} (ho : ops[j]? = some o) (h : ((ancs ops).getD j 0).testBit i = true) : ∃ e ∈ o.after, Region.binds .any e = true ∧ (e.on = i ∨ ((ancs ops).getD e.on 0).testBit i = true) := by
  obtain ⟨pre, h1, h2⟩ := ancsGo_new ops [] j o ho
  simp only [List.length_nil, Nat.zero_add] at h2
  unfold ancs at h ⊢
  rw [h2] at h
  obtain ⟨e, e1, e2, e3⟩ := ancOf_bit _ _ _ h
  exact ⟨e, e1, e2, e3.imp id (h1 _ _)⟩

theorem pairsOk_spec {ops : List Oper} {as : List Nat} : ∀ (l : List Oper) (i : Nat), pairsOk ops as l i = true → ∀ (q q' : Nat) oi oj, q < q' → l[q]? = some oi → l[q']? = some oj → pairOk ops as (i + q) oi (i + q') oj = true := by
  intro l
  induction l with
  | nil => intro i h q q' oi oj _ h1; simp at h1
  | cons o l ih =>
    intro i h q q' oi oj hq h1 h2
    simp only [pairsOk, Bool.and_eq_true, List.all_eq_true] at h
    obtain ⟨q', rfl⟩ : ∃ z, q' = z + 1 := ⟨q' - 1, by omega⟩
    simp at h2
    cases q with
    | zero =>
      simp at h1; subst h1
      have := h.1 (oj, i + 1 + q') (List.mk_mem_zipIdx_iff_le_and_getElem?_sub.2 ⟨by omega, by rw [show i + 1 + q' - (i + 1) = q' by omega]; exact h2⟩)
      simpa [Nat.add_assoc, Nat.add_comm 1] using this
    | succ q =>
      simp at h1
      have := ih (i + 1) h.2 q q' oi oj (by omega) h1 h2
      rw [show i + (q + 1) = i + 1 + q by omega, show i + (q' + 1) = i + 1 + q' by omega]
      exact this

theorem pair_bit {ops : List Oper} {i j d : Nat} {oi oj : Oper} (h : drawOk ops = true) (hij : i < j) (h1 : ops[i]? = some oi) (h2 : ops[j]? = some oj) (hd : (oi.dst = some d ∧ d ∈ onames ops oj) ∨ (oj.dst = some d ∧ d ∈ onames ops oi)) :
    ((ancs ops).getD j 0).testBit i = true := by
  simp only [drawOk, Bool.and_eq_true] at h
  have hp := pairsOk_spec ops 0 h.2 i j oi oj hij h1 h2
  simp only [Nat.zero_add, pairOk, Bool.or_eq_true, Bool.not_eq_true'] at hp
  rcases hp with hp | hp
  · simp only [Bool.or_eq_false_iff] at hp
    exfalso
    rcases hd with ⟨hd1, hd2⟩ | ⟨hd1, hd2⟩
    · have := hp.1
      simp [writes, hd1] at this
      exact this hd2
    · have := hp.2
      simp [writes, hd1] at this
      exact this hd2
  · exact hp

theorem edge_lt {ops : List Oper} {j : Nat} {o : Oper} {e : Edge} (h : drawOk ops = true) (ho : ops[j]? = some o) (he : e ∈ o.after) (hb : Region.binds .any e = true) : e.on < j := by
  simp only [drawOk, Bool.and_eq_true] at h
  have := h.1.2
  simp only [edgesOk, List.all_eq_true] at this
  have := this (o, j) (List.mk_mem_zipIdx_iff_getElem?.2 ho) e (by simpa using he)
  simp [hb, Nat.blt_eq] at this
  exact this
theorem no_select {ops : List Oper} {j : Nat} {o : Oper} (h : drawOk ops = true) (ho : ops[j]? = some o) (cs : Array SelectCase) (b : Bool) : o.op ≠ .select cs b := by
  simp only [drawOk, Bool.and_eq_true] at h
  have := h.1.1
  simp only [noSelect, List.all_eq_true] at this
  have := this o (List.mem_of_getElem? ho)
  intro he
  rw [he] at this
  simp at this

theorem chainOk_tail {as : List Nat} : ∀ (pre : List Nat) (c : Nat) (rest : List Nat), chainOk as (pre ++ c :: rest) = true → chainOk as (c :: rest) = true := by
  intro pre
  induction pre with
  | nil => intro c rest h; exact h
  | cons a pre ih =>
    intro c rest h
    apply ih c rest
    cases pre with
    | nil => simp only [List.nil_append, List.cons_append, chainOk, Bool.and_eq_true] at h ⊢; exact h.2
    | cons b pre => simp only [List.cons_append, chainOk, Bool.and_eq_true] at h ⊢; exact h.2
theorem chain_done {as : List Nat} {done : Nat → Prop} (hC : ∀ j, done j → ∀ i, (as.getD j 0).testBit i = true → done i) : ∀ (rest : List Nat) (c : Nat), chainOk as (c :: rest) = true → ∀ j ∈ rest, (∀ i, (as.getD j 0).testBit i = true → done i) → done c := by
  intro rest
  induction rest with
  | nil => intro c _ j hj; simp at hj
  | cons d rest ih =>
    intro c h j hj hr
    simp only [chainOk, Bool.and_eq_true] at h
    rcases List.mem_cons.1 hj with rfl | hj
    · exact hr c h.1
    · exact hC d (ih d h.2 j hj hr) c h.1

end Go.Abs

/-
  The abstract machine: the store of a drawn region.
-/

namespace Go.Abs

/-- what is looked at before a drawn region is let -/
structure Drawn (P : Program) (call : CallT) (ops : List Oper) (e0 : Env) (l : List TrE) (f : Env) (p : Option (AV × Sto)) : Prop where
  T : Traced P call ops ops 0 e0 l f p
  dr : drawOk ops = true
  ch : chainOk (ancs ops) (chgs l) = true
  nw : newsOk (ancs ops) (news l) (chgs l) = true
  gr : growOk l f.s.n = true
  un : chgsUnder l = true

section
variable {P : Program} {call : CallT} {ops : List Oper} {e0 : Env} {l : List TrE} {f : Env} {p : Option (AV × Sto)}

theorem Drawn.ix (D : Drawn P call ops e0 l f p) {j : Nat} {x : TrE} (h : l[j]? = some x) : x.i = j := by simpa using D.T.i j x h

theorem growOk_spec : ∀ (l : List TrE) (f : Env), growOk l f.s.n = true → ∀ i, i < l.length → (stAt l f i).n ≤ (stAt l f (i + 1)).n := by
  intro l
  induction l with
  | nil => intro f _ i h; simp at h
  | cons x l ih =>
    intro f h i hi
    cases l with
    | nil =>
      simp only [growOk] at h
      simp at hi; subst hi
      simp [Nat.ble_eq] at h
      simpa using h
    | cons y l =>
      simp only [growOk, Bool.and_eq_true, Nat.ble_eq] at h
      cases i with
      | zero => simpa using h.1
      | succ i => simpa using ih f h.2 i (by simpa using hi)
theorem Drawn.mono (D : Drawn P call ops e0 l f p) {i q : Nat} (h : i ≤ q) (hq : q ≤ l.length) : (stAt l f i).n ≤ (stAt l f q).n := by
  obtain ⟨d, rfl⟩ := Nat.exists_eq_add_of_le h
  clear h
  induction d with
  | zero => exact Nat.le_refl _
  | succ d ih => exact Nat.le_trans (ih (by omega)) (growOk_spec l f D.gr (i + d) (by omega))
theorem stAt_len (l : List TrE) (f : Env) : stAt l f l.length = f.s := by simp [stAt]

/-- a row that lays a new object -/
theorem Drawn.newRow (D : Drawn P call ops e0 l f p) {j : Nat} {x : TrE} (h : l[j]? = some x) (hn : x.isNew = true) : (x.run = true ∧ (j + 1 = l.length → p = none)) ∧ ∃ y, stAt l f (j + 1) = (stAt l f j).push y ∧
    ∀ s : Sto, s.n = (stAt l f j).n → dop P call x.o { x.e with s := s } = some (.val' x.v (s.push y)) := by
  have R := D.T.row j x h
  simp only [TrE.isNew, Bool.and_eq_true] at hn
  rcases R.out with h1 | h1 | h1 | h1
  · rw [h1.2.1] at hn; cases hn.1
  · rw [h1.2.1] at hn; cases hn.1
  · obtain ⟨v, y, h2, h3⟩ := dop_new hn.2 h1.2.2.1
    simp only [ORes.val'.injEq] at h2
    obtain ⟨rfl, h2⟩ := h2
    rw [← R.st]
    exact ⟨⟨h1.1, h1.2.2.2⟩, y, h2, h3⟩
  · obtain ⟨v, y, h2, h3⟩ := dop_new hn.2 h1.2.2.2.2
    cases h2
/-- a row that turns nothing, or lays a new object -/
theorem Drawn.step (D : Drawn P call ops e0 l f p) {j : Nat} {x : TrE} (h : l[j]? = some x) (hc : x.isChg = false) : (x.isNew = false ∧ stAt l f (j + 1) = stAt l f j) ∨ (x.isNew = true ∧ ∃ y, stAt l f (j + 1) = (stAt l f j).push y) := by
  cases hn : x.isNew with
  | true => obtain ⟨_, y, h1, _⟩ := D.newRow h hn; exact .inr ⟨rfl, y, h1⟩
  | false =>
    have hch : x.chg = false := by
      cases hc' : x.chg with
      | false => rfl
      | true =>
        simp only [TrE.isChg, TrE.isNew, hc', Bool.true_and] at hc hn
        rw [hn] at hc; cases hc
    have R := D.T.row j x h
    rcases R.out with h1 | h1 | h1 | h1
    · exact .inl ⟨rfl, h1.2.2.2⟩
    · exact .inl ⟨rfl, h1.2.2.2⟩
    · rw [h1.2.1] at hch; cases hch
    · rw [h1.2.1] at hch; cases hch

structure Seg (l : List TrE) (f : Env) (i q : Nat) : Prop where
  n : (stAt l f i).n ≤ (stAt l f q).n
  low : (stAt l f q).low = (stAt l f i).low
  get : ∀ id, id < (stAt l f i).n → (stAt l f q).get id = (stAt l f i).get id
  new : ∀ id, (stAt l f i).n ≤ id → id < (stAt l f q).n → ∃ j y, i ≤ j ∧ j < q ∧ l[j]? = some y ∧ y.isNew = true ∧ (stAt l f j).n = id ∧ (stAt l f (j + 1)).get id = (stAt l f q).get id
  top : (∀ id, (stAt l f i).n ≤ id → (stAt l f i).o.get id = none) → ∀ id, (stAt l f q).n ≤ id → (stAt l f q).o.get id = none

theorem Drawn.seg (D : Drawn P call ops e0 l f p) {i : Nat} : ∀ (d : Nat), i + d ≤ l.length → (∀ j x, i ≤ j → j < i + d → l[j]? = some x → x.isChg = false) → Seg l f i (i + d) := by
  intro d
  induction d with
  | zero => intro _ _; exact ⟨Nat.le_refl _, rfl, fun _ _ => rfl, fun id h1 h2 => (by simp at h2; omega), fun h => h⟩
  | succ d ih =>
    intro hl hc
    have S := ih (by omega) fun j x h1 h2 => hc j x h1 (by omega)
    obtain ⟨x, hx⟩ : ∃ x, l[i + d]? = some x := ⟨l[i + d], by rw [List.getElem?_eq_getElem]⟩
    rw [show i + (d + 1) = i + d + 1 by omega]
    rcases D.step hx (hc (i + d) x (by omega) (by omega) hx) with ⟨h1, h2⟩ | ⟨h1, y, h2⟩
    · refine ⟨by rw [h2]; exact S.n, by rw [h2]; exact S.low, by rw [h2]; exact S.get, ?_, by rw [h2]; exact S.top⟩
      intro id g1 g2
      rw [h2] at g2
      obtain ⟨j, z, a1, a2, a3⟩ := S.new id g1 g2
      exact ⟨j, z, a1, by omega, by rw [h2]; exact a3⟩
    · refine ⟨by rw [h2]; have := S.n; simp; omega, by rw [h2]; exact S.low, ?_, ?_, ?_⟩
      · intro id hid
        have := S.n
        rw [h2, Sto.get_push, if_neg (by omega)]
        exact S.get id hid
      · intro id g1 g2
        rw [h2] at g2
        simp only [Sto.n_push] at g2
        by_cases hid : id = (stAt l f (i + d)).n
        · exact ⟨i + d, x, by omega, by omega, hx, h1, hid.symm, rfl⟩
        · obtain ⟨j, z, a1, a2, a3, a4, a5, a6⟩ := S.new id g1 (by omega)
          refine ⟨j, z, a1, by omega, a3, a4, a5, ?_⟩
          rw [a6, h2, Sto.get_push, if_neg hid]
      · intro ht id hid
        rw [h2] at hid ⊢
        simp only [Sto.n_push] at hid
        show ((stAt l f (i + d)).o.set _ y).get id = none
        rw [Tr.get_set, if_neg (by omega)]
        exact S.top ht id (by omega)
theorem Drawn.seg' (D : Drawn P call ops e0 l f p) {i q : Nat} (hi : i ≤ q) (hq : q ≤ l.length) (hc : ∀ j x, i ≤ j → j < q → l[j]? = some x → x.isChg = false) : Seg l f i q := by
  obtain ⟨d, rfl⟩ := Nat.exists_eq_add_of_le hi
  exact D.seg d hq hc

/-- the store, when these operations have been done -/
structure InvS (e0 : Env) (l : List TrE) (f : Env) (σ0 : Sg) (w0 : World) (done : Nat → Bool) (pt : Nat) (σ : Sg) (X : Sto) (w : World) : Prop where
  ptl : pt ≤ l.length
  chg : ∀ (j : Nat) x, l[j]? = some x → x.isChg = true → (done j = true ↔ j < pt)
  nwd : ∀ (j : Nat) x, l[j]? = some x → x.isNew = true → j < pt → done j = true
  rel : Rel σ X w
  xn : X.n = f.s.n
  x1 : ∀ id x, X.get id = some x → (id < (stAt l f pt).n ∧ (stAt l f pt).get id = some x) ∨
    ((stAt l f pt).n ≤ id ∧ ∃ (j : Nat) (y : TrE), pt ≤ j ∧ l[j]? = some y ∧ y.isNew = true ∧ done j = true ∧ (stAt l f j).n = id ∧ (stAt l f (j + 1)).get id = some x)
  x2 : ∀ id, id < (stAt l f pt).n → X.get id = (stAt l f pt).get id
  x3 : ∀ (j : Nat) y, l[j]? = some y → y.isNew = true → done j = true → pt ≤ j → X.get (stAt l f j).n = (stAt l f (j + 1)).get (stAt l f j).n
  ob : ∀ id x b base sz o, X.get id = some x → σ id (genOf x) = some (b, base, sz) → w.heap[b]? = some o → ObjR (σ.cut (max (stAt l f pt).n (id + 1))) base sz x o
  dm : ∀ id g x, σ id g = some x → id < (stAt l f pt).n ∨ ∃ (j : Nat) (y : TrE), pt ≤ j ∧ l[j]? = some y ∧ y.isNew = true ∧ done j = true ∧ (stAt l f j).n = id
  ext : σ0.le σ
  size : w0.heap.size ≤ w.heap.size
  frame : ∀ b, b < w0.heap.size → ¬ Has σ0 e0.s b → w.heap[b]? = w0.heap[b]?
  own : ∀ b, Has σ X b → Has σ0 e0.s b ∨ w0.heap.size ≤ b
  low : (stAt l f pt).low ≤ e0.s.low
  keep : ∀ id, id < e0.s.n → id < (stAt l f pt).low → (stAt l f pt).get id = e0.s.get id ∧ (∀ g, σ id g = σ0 id g) ∧ ∀ x b base sz, e0.s.get id = some x → σ0 id (genOf x) = some (b, base, sz) → w.heap[b]? = w0.heap[b]?
  hole : ∀ id, id < e0.s.n → e0.s.get id = none → (stAt l f pt).get id = none ∧ ∀ g, σ id g = σ0 id g
  os : w.os = w0.os
  out : w.output = w0.output
  tape : w.tape = w0.tape
  top : ∀ id, (stAt l f pt).n ≤ id → (stAt l f pt).o.get id = none
  mnew : ∀ b off V, σ.m b off = some V → σ0.m b off = some V ∨ Has σ0 e0.s b ∨ w0.heap.size ≤ b

variable {σ0 σ : Sg} {w0 w w' : World} {done done' : Nat → Bool} {pt : Nat} {X : Sto}

theorem InvS.congr (I : InvS e0 l f σ0 w0 done pt σ X w) (h : ∀ (j : Nat) x, l[j]? = some x → x.chg = true → done' j = done j) : InvS e0 l f σ0 w0 done' pt σ X w := by
  have hn : ∀ {x : TrE}, x.isNew = true → x.chg = true := fun hx => by simp only [TrE.isNew, Bool.and_eq_true] at hx; exact hx.1
  have hc : ∀ {x : TrE}, x.isChg = true → x.chg = true := fun hx => by simp only [TrE.isChg, Bool.and_eq_true] at hx; exact hx.1
  refine { I with chg := ?_, nwd := ?_, x1 := ?_, x3 := ?_, dm := ?_ }
  · intro j x hx hch; rw [h j x hx (hc hch)]; exact I.chg j x hx hch
  · intro j x hx hne hj; rw [h j x hx (hn hne)]; exact I.nwd j x hx hne hj
  · intro id x hx
    rcases I.x1 id x hx with h1 | ⟨h1, j, y, a1, a2, a3, a4, a5⟩
    · exact .inl h1
    · exact .inr ⟨h1, j, y, a1, a2, a3, by rw [h j y a2 (hn a3)]; exact a4, a5⟩
  · intro j y hy hne hd hj; rw [h j y hy (hn hne)] at hd; exact I.x3 j y hy hne hd hj
  · intro id g x hx
    rcases I.dm id g x hx with h1 | ⟨j, y, a1, a2, a3, a4, a5⟩
    · exact .inl h1
    · exact .inr ⟨j, y, a1, a2, a3, by rw [h j y a2 (hn a3)]; exact a4, a5⟩

theorem cut_mono {σ τ : Sg} (h : σ.le τ) {n m : Nat} (hn : n ≤ m) : (σ.cut n).le (τ.cut m) := by
  refine ⟨fun id g x hx => ?_, h.m⟩
  simp only [Sg.cut] at hx ⊢
  split at hx
  · rename_i hlt
    rw [if_pos (by omega)]; exact h _ _ _ hx
  · cases hx

theorem InvS.quiet {τ : Sg} (I : InvS e0 l f σ0 w0 done pt σ X w) (Q : QStp σ w τ w') : InvS e0 l f σ0 w0 done pt τ X w' := by
  have q := Q.q
  have hlt : ∀ {b : Nat}, Has σ X b → w'.heap[b]? = w.heap[b]? := fun hb => q.heap _ (I.rel.lt hb)
  refine { I with rel := Q.rel I.rel, ob := ?_, dm := fun id g x hx => I.dm id g x (by rw [← Q.s]; exact hx), ext := Sg.le_trans I.ext Q.le, size := Nat.le_trans I.size q.size, frame := ?_, own := fun b hb => I.own b (hb.same Q.s), keep := ?_, hole := fun id h1 h2 => ⟨(I.hole id h1 h2).1, fun g => by rw [Q.s]; exact (I.hole id h1 h2).2 g⟩, os := by rw [q.os, I.os], out := by rw [q.out, I.out], tape := by rw [q.tape, I.tape], mnew := ?_ }
  · intro id x b base sz o h1 h2 h3
    rw [Q.s] at h2
    rw [hlt ⟨id, x, base, sz, h1, h2⟩] at h3
    exact (I.ob id x b base sz o h1 h2 h3).mono (cut_mono Q.le (Nat.le_refl _))
  · intro b hb hn
    rw [q.heap b (Nat.lt_of_lt_of_le hb I.size)]; exact I.frame b hb hn
  · intro id h1 h2
    obtain ⟨a1, a2, a3⟩ := I.keep id h1 h2
    refine ⟨a1, fun g => by rw [Q.s]; exact a2 g, fun x b base sz h3 h4 => ?_⟩
    have hX : X.get id = some x := by rw [I.x2 id (Sto.get_lt (by rw [a1]; exact h3)), a1]; exact h3
    rw [hlt ⟨id, x, base, sz, hX, by rw [a2]; exact h4⟩]
    exact a3 x b base sz h3 h4
  · intro b off V hV
    rcases Q.m b off V hV with h1 | h1
    · exact I.mnew b off V h1
    · exact .inr (.inr (Nat.le_trans I.size h1.1))

/-- when all that turn the store have been done, it is the last one -/
theorem InvS.fin (D : Drawn P call ops e0 l f p) (I : InvS e0 l f σ0 w0 done pt σ X w) (hc : ∀ (j : Nat) x, pt ≤ j → l[j]? = some x → x.isChg = false) (hn : ∀ (j : Nat) x, l[j]? = some x → x.isNew = true → done j = true) :
    Stp σ0 e0.s w0 σ f.s w := by
  have S := D.seg' I.ptl (Nat.le_refl _) fun j x h1 _ hx => hc j x h1 hx
  have hfs := stAt_len l f
  have hget : ∀ id, f.s.get id = X.get id := by
    intro id
    by_cases h1 : id < (stAt l f pt).n
    · rw [I.x2 id h1, ← hfs, S.get id h1]
    · by_cases h2 : id < f.s.n
      · obtain ⟨j, y, a1, a2, a3, a4, a5, a6⟩ := S.new id (by omega) (by rw [hfs]; exact h2)
        rw [hfs] at a6
        rw [← a6, ← a5, I.x3 j y a3 a4 (hn j y a3 a4) a1]
      · rw [Sto.get_eq, if_neg h2, Sto.get_eq, if_neg (by rw [I.xn]; exact h2)]
  have htop := S.top I.top
  rw [hfs] at htop
  have hn0 : e0.s.n ≤ f.s.n := by
    have := D.mono (Nat.zero_le l.length) (Nat.le_refl _)
    rw [hfs, D.T.first] at this
    exact this
  have hlt : ∀ {id}, id < e0.s.n → id < (stAt l f pt).n := fun {id} h => by
    have := D.mono (Nat.zero_le pt) I.ptl
    rw [D.T.first] at this
    omega
  refine ⟨I.rel.same hget I.xn.symm htop, I.ext, I.size, I.frame, ?_, hn0, ?_, ?_, I.os, I.out, I.tape, ?_, I.mnew⟩
  · rintro b ⟨id, x, base, sz, h1, h2⟩
    exact I.own b ⟨id, x, base, sz, by rw [← hget]; exact h1, h2⟩
  · rw [← hfs, S.low]; exact I.low
  · intro id h1 h2
    rw [← hfs, S.low] at h2
    obtain ⟨a1, a2, a3⟩ := I.keep id h1 h2
    refine ⟨?_, a2, a3⟩
    rw [hget, I.x2 id (hlt h1), a1]
  · intro id h1 h2
    obtain ⟨a1, a2⟩ := I.hole id h1 h2
    refine ⟨?_, a2⟩
    rw [hget, I.x2 id (hlt h1), a1]

theorem mnew_join {τ : Sg} (I : InvS e0 l f σ0 w0 done pt σ X w) (h : ∀ b off V, τ.m b off = some V → σ.m b off = some V ∨ Has σ X b ∨ w.heap.size ≤ b) :
    ∀ b off V, τ.m b off = some V → σ0.m b off = some V ∨ Has σ0 e0.s b ∨ w0.heap.size ≤ b := by
  intro b off V hV
  rcases h b off V hV with h1 | h1 | h1
  · exact I.mnew b off V h1
  · exact .inr (I.own b h1)
  · exact .inr (.inr (Nat.le_trans I.size h1))

/-- A NEW OBJECT. -/
theorem InvS.new (D : Drawn P call ops e0 l f p) (I : InvS e0 l f σ0 w0 done pt σ X w) {j : Nat} {x : TrE} (hx : l[j]? = some x) (hn : x.isNew = true) (hnd : done j = false) {y : AObj} (hy : stAt l f (j + 1) = (stAt l f j).push y)
    {τ : Sg} (h : Stp (σ.cut (stAt l f j).n) { n := (stAt l f j).n, low := 0, o := .leaf } w τ (({ n := (stAt l f j).n, low := 0, o := .leaf } : Sto).push y) w') :
    ∃ X', InvS e0 l f σ0 w0 (fun i => done i || i == j) pt (τ.join σ) X' w' ∧ τ.le (τ.join σ) ∧ σ.le (τ.join σ) := by
  have hjl : j < l.length := (List.getElem?_eq_some_iff.1 hx).1
  have hpj : pt ≤ j := by
    rcases Nat.lt_or_ge j pt with h1 | h1
    · rw [I.nwd j x hx hn h1] at hnd; cases hnd
    · exact h1
  have hnn : (stAt l f j).n < f.s.n := by
    have := D.mono (i := j + 1) (by omega) (Nat.le_refl l.length)
    rw [stAt_len, hy] at this
    simp at this; omega
  have hpn : (stAt l f pt).n ≤ (stAt l f j).n := D.mono hpj (by omega)
  -- the new number is free
  have hother : ∀ (i : Nat) (z : TrE), l[i]? = some z → z.isNew = true → (stAt l f i).n = (stAt l f j).n → i = j := by
    intro i z hz hzn he
    have hil := (List.getElem?_eq_some_iff.1 hz).1
    obtain ⟨_, y', hy', _⟩ := D.newRow hz hzn
    rcases Nat.lt_trichotomy i j with h1 | h1 | h1
    · have := D.mono (i := i + 1) (q := j) (by omega) (by omega)
      rw [hy'] at this; simp at this; omega
    · exact h1
    · have := D.mono (i := j + 1) (q := i) (by omega) (by omega)
      rw [hy] at this; simp at this; omega
  have hfree : ∀ g, σ (stAt l f j).n g = none := by
    intro g
    cases hs : σ (stAt l f j).n g with
    | none => rfl
    | some z =>
      rcases I.dm _ g z hs with h1 | ⟨i, z', a1, a2, a3, a4, a5⟩
      · omega
      · rw [hother i z' a2 a3 a5] at a4
        rw [a4] at hnd; cases hnd
  have hXn : X.get (stAt l f j).n = none := by
    cases hg : X.get (stAt l f j).n with
    | none => rfl
    | some z =>
      obtain ⟨b, base, sz, o, h1, _⟩ := I.rel.obj _ z hg
      rw [hfree] at h1; cases h1
  have hRg : ∀ id, ({ n := (stAt l f j).n, low := 0, o := .leaf } : Sto).get id = none := fun id => by rw [Sto.get_eq]; split <;> rfl
  let X' : Sto := { n := X.n, low := X.low, o := X.o.set (stAt l f j).n y }
  have hX'g : ∀ id, X'.get id = if id = (stAt l f j).n then some y else X.get id := by
    intro id
    show (X'.get id) = _
    rw [Sto.get_eq, Sto.get_eq]
    show (if id < X.n then (X.o.set _ y).get id else none) = _
    rw [Tr.get_set]
    by_cases h1 : id = (stAt l f j).n
    · subst h1; simp [I.xn, hnn]
    · simp [h1]
  have F := framed (X' := X') I.rel (show (σ.cut (stAt l f j).n).m = σ.m from rfl) (fun id g hi => by simp only [Sg.cut]; exact if_pos hi) (fun id z hz => by rw [hRg] at hz; cases hz) h
    (fun id g h1 h2 => by
      have : id = (stAt l f j).n := by simp at h1 h2; omega
      rw [this]; exact hfree g) (Nat.le_refl _) (by show _ ≤ X.n; rw [I.xn]; simp; omega)
    (fun id z hz => by
      rw [hX'g] at hz
      split at hz
      · rename_i he; left; rw [Sto.get_push, if_pos he]; exact hz
      · exact .inr ⟨hz, hRg id⟩)
    (fun id hid => by
      show (X.o.set _ y).get id = none
      have hid' : X.n ≤ id := hid
      rw [Tr.get_set, if_neg (by rw [I.xn] at hid'; omega)]
      exact I.rel.top id hid')
  -- all old memory is as it was
  have hheap : ∀ b, b < w.heap.size → w'.heap[b]? = w.heap[b]? := fun b hb => h.frame b hb fun ⟨id, z, _, _, hz, _⟩ => by rw [hRg] at hz; cases hz
  have hold : ∀ id g, id ≠ (stAt l f j).n → (τ.join σ) id g = σ id g := by
    intro id g hid
    simp only [Sg.join]
    split
    · rename_i z hz
      have hb := h.rel.bnd id g z hz
      simp at hb
      have : id < (stAt l f j).n := by omega
      have := (h.hole id this (hRg id)).2 g
      rw [hz] at this
      simp only [Sg.cut] at this
      rw [if_pos (by omega)] at this
      exact this
    · rfl
  have hdone : ∀ i, (done i || i == j) = true → i ≠ j → done i = true := by
    intro i h1 h2
    simpa [h2] using h1
  refine ⟨X', ⟨I.ptl, ?_, ?_, F.rel, I.xn, ?_, ?_, ?_, ?_, ?_, Sg.le_trans I.ext F.ext, Nat.le_trans I.size F.size, ?_, ?_, I.low, ?_, ?_, by rw [h.os, I.os], by rw [h.out, I.out], by rw [h.tape, I.tape], I.top, mnew_join I F.mnew⟩, Sg.le_join τ σ, F.ext⟩
  · intro i z hz hc
    rw [← I.chg i z hz hc]
    have hij : i ≠ j := by
      rintro rfl
      rw [hx] at hz; cases hz
      simp only [TrE.isNew, TrE.isChg, Bool.and_eq_true, Bool.not_eq_true'] at hn hc
      rw [hn.2] at hc; cases hc.2
    simp [hij]
  · intro i z hz hzn hi
    simp [I.nwd i z hz hzn hi]
  · intro id z hz
    rw [hX'g] at hz
    split at hz
    · rename_i he
      subst he
      refine .inr ⟨hpn, j, x, hpj, hx, hn, by simp, rfl, ?_⟩
      rw [hy, Sto.get_push, if_pos rfl]; exact hz
    · rcases I.x1 id z hz with h1 | ⟨h1, i, z', a1, a2, a3, a4, a5⟩
      · exact .inl h1
      · exact .inr ⟨h1, i, z', a1, a2, a3, by simp [a4], a5⟩
  · intro id hid
    rw [hX'g, if_neg (by omega)]
    exact I.x2 id hid
  · intro i z hz hzn hd hi
    by_cases hij : i = j
    · subst hij
      rw [hX'g, if_pos rfl, hy, Sto.get_push, if_pos rfl]
    · rw [hX'g, if_neg (fun he => hij (hother i z hz hzn he))]
      exact I.x3 i z hz hzn (hdone i hd hij) hi
  · intro id z b base sz o h1 h2 h3
    rw [hX'g] at h1
    split at h1
    · rename_i he
      subst he
      cases h1
      obtain ⟨b', base', sz', o', g1, g2, g3⟩ := h.rel.obj (stAt l f j).n y (by rw [Sto.get_push, if_pos rfl])
      have := Sg.le_join τ σ _ _ _ g1
      rw [h2] at this
      obtain ⟨rfl, rfl, rfl⟩ : b = b' ∧ base = base' ∧ sz = sz' := by simpa using this
      rw [h3] at g2; cases g2
      refine g3.mono ⟨fun id' g' z' hz' => ?_, by exact fun _ _ _ h => h⟩
      have hb := h.rel.bnd id' g' z' hz'
      simp at hb
      simp only [Sg.cut]
      rw [if_pos (by omega)]
      exact Sg.le_join τ σ _ _ _ hz'
    · rename_i he
      rw [hold id _ he] at h2
      rw [hheap b (I.rel.lt ⟨id, z, base, sz, h1, h2⟩)] at h3
      exact (I.ob id z b base sz o h1 h2 h3).mono (cut_mono F.ext (Nat.le_refl _))
  · intro id g z hz
    by_cases hid : id = (stAt l f j).n
    · exact .inr ⟨j, x, hpj, hx, hn, by simp, hid.symm⟩
    · rw [hold id g hid] at hz
      rcases I.dm id g z hz with h1 | ⟨i, z', a1, a2, a3, a4, a5⟩
      · exact .inl h1
      · exact .inr ⟨i, z', a1, a2, a3, by simp [a4], a5⟩
  · intro b hb hnb
    rw [hheap b (Nat.lt_of_lt_of_le hb I.size)]
    exact I.frame b hb hnb
  · intro b hb
    rcases F.own b hb with h1 | h1
    · exact I.own b h1
    · exact .inr (Nat.le_trans I.size h1)
  · intro id h1 h2
    obtain ⟨a1, a2, a3⟩ := I.keep id h1 h2
    have hlt : id < (stAt l f pt).n := by
      have := D.mono (Nat.zero_le pt) I.ptl
      rw [D.T.first] at this
      omega
    refine ⟨a1, fun g => by rw [hold id g (by omega), a2], fun z b base sz h3 h4 => ?_⟩
    have hX : X.get id = some z := by rw [I.x2 id hlt, a1]; exact h3
    rw [hheap b (I.rel.lt ⟨id, z, base, sz, hX, by rw [a2]; exact h4⟩)]
    exact a3 z b base sz h3 h4
  · intro id h1 h2
    obtain ⟨a1, a2⟩ := I.hole id h1 h2
    have hlt : id < (stAt l f pt).n := by
      have := D.mono (Nat.zero_le pt) I.ptl
      rw [D.T.first] at this
      omega
    exact ⟨a1, fun g => by rw [hold id g (by omega), a2]⟩

/-- WHAT TURNS THE STORE. -/
theorem InvS.turn (D : Drawn P call ops e0 l f p) (I : InvS e0 l f σ0 w0 done pt σ X w) {j : Nat} {x : TrE} (hx : l[j]? = some x) (hc : x.isChg = true) (hnd : done j = false)
    (hold' : ∀ (i : Nat) z, l[i]? = some z → z.isChg = true → i < j → done i = true) (hnews : ∀ (i : Nat) z, l[i]? = some z → z.isNew = true → i < j → done i = true) :
    Rel (σ.cut (stAt l f j).n) (stAt l f j) w ∧ ∀ {τ : Sg} {w' : World}, Stp (σ.cut (stAt l f j).n) (stAt l f j) w τ (stAt l f (j + 1)) w' →
    ∃ X', InvS e0 l f σ0 w0 (fun i => done i || i == j) (j + 1) (τ.join σ) X' w' ∧ τ.le (τ.join σ) ∧ σ.le (τ.join σ) := by
  have hjl : j < l.length := (List.getElem?_eq_some_iff.1 hx).1
  have hpj : pt ≤ j := by
    rcases Nat.lt_or_ge j pt with h1 | h1
    · rw [(I.chg j x hx hc).2 h1] at hnd; cases hnd
    · exact h1
  have S := D.seg' hpj (by omega) fun i z h1 h2 hz => by
    cases hzc : z.isChg with
    | false => rfl
    | true =>
      have := (I.chg i z hz hzc).1 (hold' i z hz hzc h2)
      omega
  have hjn : x.isNew = false := by
    cases hn : x.isNew with
    | false => rfl
    | true =>
      simp only [TrE.isNew, TrE.isChg, Bool.and_eq_true, Bool.not_eq_true'] at hn hc
      rw [hn.2] at hc; cases hc.2
  have hn1 : (stAt l f j).n ≤ (stAt l f (j + 1)).n := D.mono (by omega) (by omega)
  have hn2 : (stAt l f (j + 1)).n ≤ f.s.n := by
    have := D.mono (i := j + 1) (by omega) (Nat.le_refl l.length)
    rw [stAt_len] at this; exact this
  -- the store before it is that part of what is there
  have hget : ∀ id, id < (stAt l f j).n → X.get id = (stAt l f j).get id := by
    intro id hid
    by_cases h1 : id < (stAt l f pt).n
    · rw [I.x2 id h1, S.get id h1]
    · obtain ⟨i, y, a1, a2, a3, a4, a5, a6⟩ := S.new id (by omega) hid
      rw [← a6, ← a5, I.x3 i y a3 a4 (hnews i y a3 a4 a2) a1]
  have hR : ∀ id z, (stAt l f j).get id = some z → X.get id = some z := fun id z hz => by rw [hget id (Sto.get_lt hz)]; exact hz
  have hrel : Rel (σ.cut (stAt l f j).n) (stAt l f j) w := by
    refine I.rel.part (show (σ.cut (stAt l f j).n).m = σ.m from rfl) (fun id g hi => by simp only [Sg.cut]; exact if_pos hi) (fun id g z hz => ?_) hR ?_ (S.top I.top)
    · simp only [Sg.cut] at hz
      split at hz
      · assumption
      · cases hz
    · intro id z hz b base sz o ho hs hb
      have hlt := Sto.get_lt hz
      refine (I.ob id z b base sz o (hR id z hz) hs hb).mono (cut_mono (Sg.le_refl σ) ?_)
      have := S.n
      omega
  refine ⟨hrel, fun {τ w'} h => ?_⟩
  -- the numbers of the new objects of the step are free
  have hfree : ∀ id g, (stAt l f j).n ≤ id → id < (stAt l f (j + 1)).n → σ id g = none := by
    intro id g h1 h2
    cases hs : σ id g with
    | none => rfl
    | some z =>
      rcases I.dm _ g z hs with h3 | ⟨i, z', a1, a2, a3, a4, a5⟩
      · have := S.n; omega
      · exfalso
        have hil := (List.getElem?_eq_some_iff.1 a2).1
        obtain ⟨_, y', hy', _⟩ := D.newRow a2 a3
        rcases Nat.lt_trichotomy i j with h4 | h4 | h4
        · have := D.mono (i := i + 1) (q := j) (by omega) (by omega)
          rw [hy'] at this; simp at this; omega
        · subst h4
          rw [hx] at a2; cases a2
          rw [hjn] at a3; cases a3
        · have := D.mono (i := j + 1) (q := i) (by omega) (by omega)
          omega
  -- what is there behind it
  obtain ⟨X', hX'n, hX'g, hX't⟩ : ∃ X' : Sto, X'.n = f.s.n ∧ (∀ id, X'.get id = if id < (stAt l f (j + 1)).n then (stAt l f (j + 1)).get id else X.get id) ∧ (∀ id, X'.n ≤ id → X'.o.get id = none) := by
    have hX'top := h.rel.top
    -- lay the others' objects behind
    have key : ∀ d : Nat, ∃ X' : Sto, X'.n = (stAt l f (j + 1)).n + d ∧ (∀ id, X'.o.get id = if id < (stAt l f (j + 1)).n then (stAt l f (j + 1)).o.get id else if id < (stAt l f (j + 1)).n + d then X.o.get id else none) := by
      intro d
      induction d with
      | zero =>
        refine ⟨stAt l f (j + 1), rfl, fun id => ?_⟩
        by_cases h1 : id < (stAt l f (j + 1)).n
        · simp [h1]
        · rw [if_neg h1, if_neg (by omega)]; exact hX'top id (by omega)
      | succ d ih =>
        obtain ⟨Y, y1, y2⟩ := ih
        cases hg : X.o.get ((stAt l f (j + 1)).n + d) with
        | none =>
          refine ⟨{ Y with n := (stAt l f (j + 1)).n + (d + 1) }, rfl, fun id => ?_⟩
          show Y.o.get id = _
          rw [y2]
          by_cases h1 : id < (stAt l f (j + 1)).n
          · simp [h1]
          · rw [if_neg h1, if_neg h1]
            by_cases h2 : id < (stAt l f (j + 1)).n + d
            · rw [if_pos h2, if_pos (by omega)]
            · rw [if_neg h2]
              by_cases h3 : id = (stAt l f (j + 1)).n + d
              · subst h3; rw [if_pos (by omega), hg]
              · rw [if_neg (by omega)]
        | some z =>
          refine ⟨{ n := (stAt l f (j + 1)).n + (d + 1), low := 0, o := Y.o.set ((stAt l f (j + 1)).n + d) z }, rfl, fun id => ?_⟩
          show (Y.o.set ((stAt l f (j + 1)).n + d) z).get id = _
          rw [Tr.get_set, y2]
          by_cases h3 : id = (stAt l f (j + 1)).n + d
          · subst h3
            rw [if_pos rfl, if_neg (by omega), if_pos (by omega), hg]
          · rw [if_neg h3]
            by_cases h1 : id < (stAt l f (j + 1)).n
            · simp [h1]
            · rw [if_neg h1, if_neg h1]
              by_cases h2 : id < (stAt l f (j + 1)).n + d
              · rw [if_pos h2, if_pos (by omega)]
              · rw [if_neg h2, if_neg (by omega)]
    obtain ⟨X', a1, a2⟩ := key (f.s.n - (stAt l f (j + 1)).n)
    have hSn : (stAt l f (j + 1)).n + (f.s.n - (stAt l f (j + 1)).n) = f.s.n := by omega
    rw [hSn] at a1 a2
    refine ⟨X', a1, fun id => ?_, fun id hid => ?_⟩
    · rw [Sto.get_eq, a1, a2]
      by_cases h1 : id < (stAt l f (j + 1)).n
      · rw [if_pos h1, if_pos (by omega), if_pos h1, Sto.get_eq, if_pos h1]
      · rw [if_neg h1, if_neg h1, Sto.get_eq, I.xn]
        by_cases h2 : id < f.s.n
        · simp [h2]
        · simp [h2]
    · rw [a1] at hid
      have : (stAt l f (j + 1)).n ≤ f.s.n := hn2
      rw [a2, if_neg (by omega), if_neg (by omega)]
  have hRnone : ∀ id, ¬ id < (stAt l f (j + 1)).n → (stAt l f j).get id = none := fun id hid => by
    have : (stAt l f j).n ≤ (stAt l f (j + 1)).n := hn1
    rw [Sto.get_eq, if_neg (by omega)]
  have F := framed (X' := X') I.rel (show (σ.cut (stAt l f j).n).m = σ.m from rfl) (fun id g hi => by simp only [Sg.cut]; exact if_pos hi) hR h hfree (by rw [hX'n, I.xn]; exact Nat.le_refl _) (by rw [hX'n]; exact hn2)
    (fun id z hz => by
      rw [hX'g] at hz
      split at hz
      · exact .inl hz
      · rename_i he; exact .inr ⟨hz, hRnone id he⟩) hX't
  have hσ : ∀ id g, (stAt l f (j + 1)).n ≤ id → (τ.join σ) id g = σ id g := by
    intro id g hid
    simp only [Sg.join]
    split
    · rename_i z hz
      have := h.rel.bnd id g z hz
      exact absurd this (by show ¬ id < (stAt l f (j + 1)).n; omega)
    · rfl
  have hσ2 : ∀ id g, id < (stAt l f j).n → τ id g = σ id g → (τ.join σ) id g = σ id g := by
    intro id g _ he
    simp only [Sg.join]
    split
    · rename_i z hz; rw [← he, hz]
    · rfl
  have hcut : ∀ id g, id < (stAt l f j).n → (σ.cut (stAt l f j).n) id g = σ id g := fun id g h => by simp only [Sg.cut]; exact if_pos h
  have hout : ∀ id z b base sz, X.get id = some z → (stAt l f (j + 1)).n ≤ id → σ id (genOf z) = some (b, base, sz) → w'.heap[b]? = w.heap[b]? := by
    intro id z b base sz h1 h2 h3
    refine h.frame b (I.rel.lt ⟨id, z, base, sz, h1, h3⟩) ?_
    rintro ⟨id', z', base', sz', h4, h5⟩
    rw [hcut id' _ (Sto.get_lt h4)] at h5
    have := I.rel.inj id z id' z' b base sz base' sz' h1 (hR _ _ h4) h3 h5
    subst this
    rw [hRnone id (by omega)] at h4; cases h4
  have h0n : ∀ {id}, id < e0.s.n → id < (stAt l f pt).n := fun {id} h => by
    have := D.mono (Nat.zero_le pt) I.ptl
    rw [D.T.first] at this
    omega
  refine ⟨X', ⟨by omega, ?_, ?_, F.rel, hX'n, ?_, ?_, ?_, ?_, ?_, Sg.le_trans I.ext F.ext, Nat.le_trans I.size F.size, ?_, ?_, ?_, ?_, ?_, by rw [h.os, I.os], by rw [h.out, I.out], by rw [h.tape, I.tape], h.rel.top, mnew_join I F.mnew⟩, Sg.le_join τ σ, F.ext⟩
  · intro i z hz hzc
    by_cases hij : i = j
    · subst hij; simp
    · have := I.chg i z hz hzc
      simp only [Bool.or_eq_true, beq_iff_eq, hij, or_false]
      constructor
      · intro hd; have := this.1 hd; omega
      · intro hi; exact hold' i z hz hzc (by omega)
  · intro i z hz hzn hi
    have hij : i ≠ j := by
      rintro rfl
      rw [hx] at hz; cases hz
      rw [hjn] at hzn; cases hzn
    simp [hnews i z hz hzn (by omega)]
  · intro id z hz
    rw [hX'g] at hz
    split at hz
    · rename_i he; exact .inl ⟨he, hz⟩
    · rename_i he
      have he' : (stAt l f (j + 1)).n ≤ id := by omega
      rcases I.x1 id z hz with h1 | ⟨h1, i, z', a1, a2, a3, a4, a5, a6⟩
      · have := S.n
        have : (stAt l f j).n ≤ (stAt l f (j + 1)).n := hn1
        omega
      · refine .inr ⟨he', i, z', ?_, a2, a3, by simp [a4], a5, a6⟩
        have hil := (List.getElem?_eq_some_iff.1 a2).1
        obtain ⟨_, y', hy', _⟩ := D.newRow a2 a3
        rcases Nat.lt_or_ge j i with h4 | h4
        · omega
        · exfalso
          rcases Nat.lt_or_ge i j with h5 | h5
          · have := D.mono (i := i + 1) (q := j) (by omega) (by omega)
            rw [hy'] at this; simp at this
            have : (stAt l f j).n ≤ (stAt l f (j + 1)).n := hn1
            omega
          · have : i = j := by omega
            subst this
            rw [hx] at a2; cases a2
            rw [hjn] at a3; cases a3
  · intro id hid
    rw [hX'g, if_pos hid]
  · intro i z hz hzn hd hi
    have hij : i ≠ j := by omega
    have hil := (List.getElem?_eq_some_iff.1 hz).1
    have := D.mono (i := j + 1) (q := i) (by omega) (by omega)
    rw [hX'g, if_neg (by show ¬ _ < (stAt l f (j + 1)).n; omega)]
    exact I.x3 i z hz hzn (by simpa [hij] using hd) (by omega)
  · intro id z b base sz o h1 h2 h3
    rw [hX'g] at h1
    split at h1
    · rename_i he
      obtain ⟨b', base', sz', o', g1, g2, g3⟩ := h.rel.obj id z h1
      have := Sg.le_join τ σ _ _ _ g1
      rw [h2] at this
      obtain ⟨rfl, rfl, rfl⟩ : b = b' ∧ base = base' ∧ sz = sz' := by simpa using this
      rw [h3] at g2; cases g2
      refine g3.mono ⟨fun id' g' z' hz' => ?_, by exact fun _ _ _ h => h⟩
      have hb := h.rel.bnd id' g' z' hz'
      simp only [Sg.cut]
      rw [if_pos (by omega)]
      exact Sg.le_join τ σ _ _ _ hz'
    · rename_i he
      rw [hσ id _ (by omega)] at h2
      rw [hout id z b base sz h1 (by omega) h2] at h3
      refine (I.ob id z b base sz o h1 h2 h3).mono (cut_mono F.ext ?_)
      have := S.n
      have : (stAt l f j).n ≤ (stAt l f (j + 1)).n := hn1
      omega
  · intro id g z hz
    by_cases hid : id < (stAt l f (j + 1)).n
    · exact .inl hid
    · rw [hσ id g (by show (stAt l f (j + 1)).n ≤ id; omega)] at hz
      rcases I.dm id g z hz with h1 | ⟨i, z', a1, a2, a3, a4, a5⟩
      · have := S.n; omega
      · refine .inr ⟨i, z', ?_, a2, a3, by simp [a4], a5⟩
        have hil := (List.getElem?_eq_some_iff.1 a2).1
        rcases Nat.lt_or_ge j i with h4 | h4
        · omega
        · exfalso
          obtain ⟨_, y', hy', _⟩ := D.newRow a2 a3
          rcases Nat.lt_or_ge i j with h5 | h5
          · have := D.mono (i := i + 1) (q := j) (by omega) (by omega)
            rw [hy'] at this; simp at this
            omega
          · have : i = j := by omega
            subst this
            rw [hx] at a2; cases a2
            rw [hjn] at a3; cases a3
  · intro b hb hnb
    by_cases hh : Has (σ.cut (stAt l f j).n) (stAt l f j) b
    · exfalso
      obtain ⟨id, z, base, sz, h1, h2⟩ := hh
      rw [hcut id _ (Sto.get_lt h1)] at h2
      rcases I.own b ⟨id, z, base, sz, hR _ _ h1, h2⟩ with h3 | h3
      · exact hnb h3
      · omega
    · rw [h.frame b (Nat.lt_of_lt_of_le hb I.size) hh]
      exact I.frame b hb hnb
  · intro b hb
    rcases F.own b hb with h1 | h1
    · exact I.own b h1
    · exact .inr (Nat.le_trans I.size h1)
  · exact Nat.le_trans h.low (by rw [S.low]; exact I.low)
  · intro id h1 h2
    have hl := h0n h1
    have hlj : id < (stAt l f j).n := Nat.lt_of_lt_of_le hl S.n
    obtain ⟨c1, c2, c3⟩ := h.keep id hlj h2
    obtain ⟨a1, a2, a3⟩ := I.keep id h1 (by rw [← S.low]; exact Nat.lt_of_lt_of_le h2 h.low)
    refine ⟨by rw [c1, S.get id hl, a1], fun g => ?_, fun z b base sz h3 h4 => ?_⟩
    · rw [hσ2 id g hlj (by rw [c2, hcut id g hlj]), a2]
    · rw [c3 z b base sz (by rw [S.get id hl, a1]; exact h3) (by rw [hcut id _ hlj, a2]; exact h4)]
      exact a3 z b base sz h3 h4
  · intro id h1 h2
    have hl := h0n h1
    have hlj : id < (stAt l f j).n := Nat.lt_of_lt_of_le hl S.n
    obtain ⟨a1, a2⟩ := I.hole id h1 h2
    obtain ⟨c1, c2⟩ := h.hole id hlj (by rw [S.get id hl]; exact a1)
    refine ⟨c1, fun g => ?_⟩
    rw [hσ2 id g hlj (by rw [c2, hcut id g hlj]), a2]

end
end Go.Abs
