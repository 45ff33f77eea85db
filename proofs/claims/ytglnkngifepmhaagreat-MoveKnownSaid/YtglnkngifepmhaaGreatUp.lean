/-
  The abstract machine: a step in a part of the store; what one operation asks; the laws of a drawn region's order.
-/
import Derived.Test.YtglnkngifepmhaaGreatUo
set_option linter.unusedVariables false
set_option linter.unusedSimpArgs false

namespace Go.Abs

/-! ### a step in a part of the store -/
def Sg.join (τ σ : Sg) : Sg := ⟨τ.m, fun id g => match τ id g with
  | some y => some y
  | none => σ id g⟩
theorem Sg.le_join (τ σ : Sg) : τ.le (τ.join σ) := by
  refine ⟨fun id g x h => ?_, fun _ _ _ h => h⟩; simp only [Sg.join]; rw [h]

structure Framed (σ : Sg) (X : Sto) (w : World) (τ : Sg) (X' : Sto) (w' : World) : Prop where
  rel : Rel τ X' w'
  ext : σ.le τ
  size : w.heap.size ≤ w'.heap.size
  frame : ∀ b, b < w.heap.size → ¬ Has σ X b → w'.heap[b]? = w.heap[b]?
  own : ∀ b, Has τ X' b → Has σ X b ∨ w.heap.size ≤ b
  mnew : ∀ b off V, τ.m b off = some V → σ.m b off = some V ∨ Has σ X b ∨ w.heap.size ≤ b

theorem framed {σ ρ τ : Sg} {X X' R R' : Sto} {w w' : World} (hX : Rel σ X w) (hm : ρ.m = σ.m) (hρ : ∀ id g, id < R.n → ρ id g = σ id g) (hR : ∀ id x, R.get id = some x → X.get id = some x)
    (h : Stp ρ R w τ R' w') (hc : ∀ id g, R.n ≤ id → id < R'.n → σ id g = none) (hn : X.n ≤ X'.n) (hn' : R'.n ≤ X'.n)
    (hX' : ∀ id x, X'.get id = some x → R'.get id = some x ∨ (X.get id = some x ∧ R.get id = none)) (ht : ∀ id, X'.n ≤ id → X'.o.get id = none) :
    Framed σ X w (τ.join σ) X' w' := by
  have hle : σ.le (τ.join σ) := by
    refine ⟨fun id g x hx => ?_, fun b o V hV => h.ext.m b o V (by rw [hm]; exact hV)⟩
    simp only [Sg.join]
    by_cases hi : id < R.n
    · rw [h.ext id g x (by rw [hρ id g hi]; exact hx)]
    · cases hτ : τ id g with
      | none => exact hx
      | some y =>
        have := h.rel.bnd id g y hτ
        rw [hc id g (by omega) this] at hx
        cases hx
  have hτle := Sg.le_join τ σ
  have hρle : ρ.le (τ.join σ) := Sg.le_trans h.ext hτle
  have hHas : ∀ b, Has ρ R b → Has σ X b := by
    rintro b ⟨id, x, base, sz, h1, h2⟩
    exact ⟨id, x, base, sz, hR id x h1, by rw [← hρ id _ (Sto.get_lt h1)]; exact h2⟩
  -- an object that is not of the part
  have hout : ∀ id x b base sz, X.get id = some x → R.get id = none → σ id (genOf x) = some (b, base, sz) → ¬ Has ρ R b := by
    rintro id x b base sz h1 h2 h3 ⟨id', x', base', sz', h4, h5⟩
    have := hX.inj id x id' x' b base sz base' sz' h1 (hR _ _ h4) h3 (by rw [← hρ id' _ (Sto.get_lt h4)]; exact h5)
    subst this
    rw [h2] at h4; cases h4
  have hsame : ∀ id x g, X.get id = some x → R.get id = none → (τ.join σ) id g = σ id g := by
    intro id x g h1 h2
    simp only [Sg.join]
    by_cases hi : id < R.n
    · rw [(h.hole id hi h2).2 g, hρ id g hi]
      cases σ id g <;> rfl
    · cases hτ : τ id g with
      | none => rfl
      | some y =>
        obtain ⟨b, base, sz, o, h3, _⟩ := hX.obj id x h1
        rw [hc id _ (by omega) (h.rel.bnd id g y hτ)] at h3
        cases h3
  have hown : ∀ b, Has (τ.join σ) X' b → (∃ id x base sz, R'.get id = some x ∧ τ id (genOf x) = some (b, base, sz)) ∨ (∃ id x base sz, X.get id = some x ∧ R.get id = none ∧ σ id (genOf x) = some (b, base, sz)) := by
    rintro b ⟨id, x, base, sz, h1, h2⟩
    rcases hX' id x h1 with h3 | ⟨h3, h4⟩
    · obtain ⟨b', base', sz', o, h5, _⟩ := h.rel.obj id x h3
      have := hτle _ _ _ h5
      rw [h2] at this
      obtain ⟨rfl, rfl, rfl⟩ : b = b' ∧ base = base' ∧ sz = sz' := by simpa using this
      exact .inl ⟨id, x, base, sz, h3, h5⟩
    · rw [hsame id x _ h3 h4] at h2
      exact .inr ⟨id, x, base, sz, h3, h4, h2⟩
  have hown' : ∀ b, Has (τ.join σ) X' b → Has σ X b ∨ w.heap.size ≤ b := by
    intro b hb
    rcases hown b hb with ⟨id, x, base, sz, h1, h2⟩ | ⟨id, x, base, sz, h1, _, h2⟩
    · exact (h.own b ⟨id, x, base, sz, h1, h2⟩).imp (hHas b) (fun h => h)
    · exact .inl ⟨id, x, base, sz, h1, h2⟩
  refine ⟨⟨?_, ?_, ?_, ?_, ?_, ht⟩, hle, h.size, fun b hb hn => h.frame b hb fun hh => hn (hHas b hh), hown', fun b off V hV => ?_⟩
  · intro id x hx
    rcases hX' id x hx with h3 | ⟨h3, h4⟩
    · obtain ⟨b, base, sz, o, h5, h6, h7⟩ := h.rel.obj id x h3
      exact ⟨b, base, sz, o, hτle _ _ _ h5, h6, h7.mono hτle⟩
    · obtain ⟨b, base, sz, o, h5, h6, h7⟩ := hX.obj id x h3
      refine ⟨b, base, sz, o, by rw [hsame id x _ h3 h4]; exact h5, ?_, h7.mono hle⟩
      rw [h.frame b (Array.getElem?_eq_some_iff.1 h6).1 (hout id x b base sz h3 h4 h5)]
      exact h6
  · intro id x id' x' b base sz base' sz' h1 h2 h3 h4
    have key : ∀ id x id' x' base sz base' sz', R'.get id = some x → (X.get id' = some x' ∧ R.get id' = none) → (τ.join σ) id (genOf x) = some (b, base, sz) → (τ.join σ) id' (genOf x') = some (b, base', sz') → False := by
      intro id x id' x' base sz base' sz' h1 h2 h3 h4
      obtain ⟨b1, base1, sz1, o1, g1, _⟩ := h.rel.obj id x h1
      have := hτle _ _ _ g1
      rw [h3] at this
      obtain ⟨rfl, rfl, rfl⟩ : b = b1 ∧ base = base1 ∧ sz = sz1 := by simpa using this
      rw [hsame id' x' _ h2.1 h2.2] at h4
      rcases h.own b ⟨id, x, base, sz, h1, g1⟩ with h5 | h5
      · exact hout id' x' b base' sz' h2.1 h2.2 h4 h5
      · have := hX.lt ⟨id', x', base', sz', h2.1, h4⟩
        omega
    rcases hX' id x h1 with g1 | g1 <;> rcases hX' id' x' h2 with g2 | g2
    · obtain ⟨b1, base1, sz1, o1, k1, _⟩ := h.rel.obj id x g1
      have e1 := hτle _ _ _ k1
      rw [h3] at e1
      obtain ⟨rfl, rfl, rfl⟩ : b = b1 ∧ base = base1 ∧ sz = sz1 := by simpa using e1
      obtain ⟨b2, base2, sz2, o2, k2, _⟩ := h.rel.obj id' x' g2
      have e2 := hτle _ _ _ k2
      rw [h4] at e2
      obtain ⟨rfl, rfl, rfl⟩ : b = b2 ∧ base' = base2 ∧ sz' = sz2 := by simpa using e2
      exact h.rel.inj id x id' x' b base sz base' sz' g1 g2 k1 k2
    · exact (key _ _ _ _ _ _ _ _ g1 g2 h3 h4).elim
    · exact (key _ _ _ _ _ _ _ _ g2 g1 h4 h3).elim
    · rw [hsame id x _ g1.1 g1.2] at h3
      rw [hsame id' x' _ g2.1 g2.2] at h4
      exact hX.inj id x id' x' b base sz base' sz' g1.1 g2.1 h3 h4
  · intro b off V hV
    obtain ⟨h1, h2⟩ := h.rel.mu b off V hV
    refine ⟨h1, fun hh => ?_⟩
    rcases hown b hh with ⟨id, x, base, sz, h3, h4⟩ | ⟨id, x, base, sz, h3, h4, h5⟩
    · exact h2 ⟨id, x, base, sz, h3, h4⟩
    · rcases h.mnew b off V hV with h6 | h6 | h6
      · exact (hX.mu b off V (by rw [← hm]; exact h6)).2 ⟨id, x, base, sz, h3, h5⟩
      · exact hout id x b base sz h3 h4 h5 h6
      · have := hX.lt ⟨id, x, base, sz, h3, h5⟩; omega
  · intro id g y hy
    simp only [Sg.join] at hy
    split at hy
    · rename_i z hz
      exact Nat.lt_of_lt_of_le (h.rel.bnd id g z hz) hn'
    · exact Nat.lt_of_lt_of_le (hX.bnd id g y hy) hn
  · intro id x g y hx hy
    rcases hX' id x hx with h3 | ⟨h3, h4⟩
    · simp only [Sg.join] at hy
      split at hy
      · rename_i z hz
        exact h.rel.gen id x g z h3 hz
      · rename_i hz
        by_cases hi : id < R.n
        · have := h.ext id g y (by rw [hρ id g hi]; exact hy)
          rw [hz] at this; cases this
        · rw [hc id g (by omega) (Sto.get_lt h3)] at hy; cases hy
    · rw [hsame id x g h3 h4] at hy
      exact hX.gen id x g y h3 hy
  · rcases h.mnew b off V hV with h6 | h6 | h6
    · exact .inl (by rw [← hm]; exact h6)
    · exact .inr (.inl (hHas b h6))
    · exact .inr (.inr h6)

/-- a store with the same objects -/
theorem Rel.same {σ : Sg} {S S' : Sto} {w : World} (h : Rel σ S w) (hg : ∀ id, S'.get id = S.get id) (hn : S'.n = S.n) (ht : ∀ id, S'.n ≤ id → S'.o.get id = none) : Rel σ S' w where
  obj := fun id x hx => h.obj id x (by rw [← hg]; exact hx)
  inj := fun id x id' x' b base sz base' sz' h1 h2 => h.inj id x id' x' b base sz base' sz' (by rw [← hg]; exact h1) (by rw [← hg]; exact h2)
  mu := fun b off V hm => ⟨(h.mu b off V hm).1, fun ⟨id, x, base, sz, h1, h2⟩ => (h.mu b off V hm).2 ⟨id, x, base, sz, by rw [← hg]; exact h1, h2⟩⟩
  bnd := fun id g x hx => by rw [hn]; exact h.bnd id g x hx
  gen := fun id x g y h1 h2 => h.gen id x g y (by rw [← hg]; exact h1) h2
  top := ht

/-- a part of a store, with a part of σ -/
theorem Rel.part {σ ρ : Sg} {X R : Sto} {w : World} (h : Rel σ X w) (hm : ρ.m = σ.m) (hρ : ∀ id g, id < R.n → ρ id g = σ id g) (hρ' : ∀ id g x, ρ id g = some x → id < R.n) (hR : ∀ id x, R.get id = some x → X.get id = some x)
    (hv : ∀ id x, R.get id = some x → ∀ b base sz o, ObjR σ base sz x o → σ id (genOf x) = some (b, base, sz) → w.heap[b]? = some o → ObjR ρ base sz x o) (ht : ∀ id, R.n ≤ id → R.o.get id = none) : Rel ρ R w where
  obj := fun id x hx => by
    obtain ⟨b, base, sz, o, h1, h2, h3⟩ := h.obj id x (hR id x hx)
    exact ⟨b, base, sz, o, by rw [hρ id _ (Sto.get_lt hx)]; exact h1, h2, hv id x hx b base sz o h3 h1 h2⟩
  inj := fun id x id' x' b base sz base' sz' h1 h2 h3 h4 => h.inj id x id' x' b base sz base' sz' (hR _ _ h1) (hR _ _ h2) (by rw [← hρ id _ (Sto.get_lt h1)]; exact h3) (by rw [← hρ id' _ (Sto.get_lt h2)]; exact h4)
  mu := fun b off V hV =>
    have hV' : σ.m b off = some V := by rw [← hm]; exact hV
    ⟨(h.mu b off V hV').1, fun ⟨id, x, base, sz, h1, h2⟩ => (h.mu b off V hV').2 ⟨id, x, base, sz, hR _ _ h1, by rw [← hρ id _ (Sto.get_lt h1)]; exact h2⟩⟩
  bnd := hρ'
  gen := fun id x g y h1 h2 => h.gen id x g y (hR _ _ h1) (by rw [← hρ id _ (Sto.get_lt h1)]; exact h2)
  top := ht

end Go.Abs
