/-
  The abstract machine: a function's contract out of a walk of its body; what is left behind may be frozen.
-/
import Derived.Test.YtglnkngifepmhaaGreatEb
set_option linter.unusedVariables false
set_option linter.unusedSimpArgs false

namespace Go.Abs
noncomputable section

/-! ### how a call's store is closed -/
def Closes (s S : Sto) (v v' : AV) (so : Option Sto) : Prop :=
  ∀ (σ τ : Sg) (w w' : World), Rel σ s w → Stp σ { s with low := s.n } w τ S w' → ∃ ρ, CStp σ s w ρ so w' ∧ ∀ V, VR τ v V → VR ρ v' V

/-- a value names no object from number n on -/
def Und (n : Nat) (v : AV) : Prop := ∀ (σ : Sg) V, VR σ v V → VR (σ.cut n) v V
theorem und_top {n : Nat} : Und n .top := fun _ V _ => .top V
theorem und_bool {n : Nat} {b : Bool} : Und n (.bool b) := fun _ _ h => by cases h; exact .bool b
theorem und_int {n : Nat} {k : IntKind} {x : Int} : Und n (.int k x) := fun _ _ h => by cases h; exact .int k x
theorem und_str {n : Nat} {l : List Nat} : Und n (.str l) := fun _ _ h => by cases h; rename_i hs; exact .str _ _ hs
theorem und_nils {n : Nat} : Und n .nils := fun _ _ h => by cases h; exact .nils
theorem und_nilp {n : Nat} : Und n .nilp := fun _ _ h => by cases h; exact .nilp
theorem und_nilm {n : Nat} : Und n .nilm := fun _ _ h => by cases h; exact .nilm
theorem und_nilf {n : Nat} : Und n .nilf := fun _ _ h => by cases h; exact .nilf
theorem und_nili {n : Nat} : Und n .nili := fun _ _ h => by cases h; exact .nili
theorem und_ptr {n id g off : Nat} (h : id < n) : Und n (.ptr id g off) := fun σ _ hv => by
  cases hv with | ptr _ _ _ b base sz hs => exact .ptr _ _ _ _ _ _ (show σ.cut n id g = some (b, base, sz) by simp [Sg.cut, h, hs])
theorem und_iface {n : Nat} {t : TypeId} {v : AV} (h : Und n v) : Und n (.iface t v) := fun σ _ hv => by
  cases hv with | iface _ _ V h1 => exact .iface _ _ _ (h σ V h1)
theorem und_func {n : Nat} {f : FuncId} {a c : List AV} (ha : ∀ x ∈ a, Und n x) (hc : ∀ x ∈ c, Und n x) : Und n (.func (.func f) a c) := fun σ _ hv => by
  cases hv with | func _ F _ _ A C hF h1 h2 h3 h4 =>
    refine .func _ _ _ _ _ _ (by cases hF; exact .func f) h1 h2 (fun i x X e1 e2 => ha x (List.mem_of_getElem? e1) σ X (h3 i x X e1 e2)) (fun i x X e1 e2 => hc x (List.mem_of_getElem? e1) σ X (h4 i x X e1 e2))
theorem und_agg {n : Nat} {l : List AV} (h : ∀ x ∈ l, Und n x) : Und n (.agg l) := fun σ _ hv => by
  cases hv with | agg _ ys hl h1 => exact .agg _ _ hl fun i x X e1 e2 => h x (List.mem_of_getElem? e1) σ X (h1 i x X e1 e2)
theorem und_tuple {n : Nat} {l : List AV} (h : ∀ x ∈ l, Und n x) : Und n (.tuple l) := fun σ _ hv => by
  cases hv with | tuple _ ys hl h1 => exact .tuple _ _ hl fun i x X e1 e2 => h x (List.mem_of_getElem? e1) σ X (h1 i x X e1 e2)
theorem und_fz {n : Nat} {l : List AV} {c : Bool} (h : ∀ x ∈ l, ∀ y ∈ x.cells, Und n y) : Und n (.fz l c) := fun σ _ hv => by
  cases hv with | fz _ _ a C b off k h1 h2 h3 h4 h5 h6 =>
    exact .fz _ _ _ _ _ _ _ h1 h2 h3 h4 (fun i j x y V e1 e2 e3 => h x (List.mem_of_getElem? e1) y (List.mem_of_getElem? e2) σ V (h5 i j x y V e1 e2 e3)) h6
theorem und_pf {n : Nat} {v : AV} (h : ∀ y ∈ v.cells, Und n y) : Und n (.pf v) := fun σ _ hv => by
  cases hv with | pf _ b off h1 h2 => exact .pf _ _ _ (fun i c V e1 e2 => h c (List.mem_of_getElem? e1) σ V (h1 i c V e1 e2)) h2
theorem und_all_nil {n : Nat} : ∀ x ∈ ([] : List AV), Und n x := fun _ h => nomatch h
theorem und_all_cons {n : Nat} {a : AV} {l : List AV} (h : Und n a) (h' : ∀ x ∈ l, Und n x) : ∀ x ∈ a :: l, Und n x := fun x hx => by
  rcases List.mem_cons.1 hx with rfl | hx
  · exact h
  · exact h' x hx
theorem Und.cells {n : Nat} {v : AV} (h : ∀ y ∈ v.cells, Und n y) (ht : ∀ l, v ≠ .tuple l) : Und n v := by
  cases v with
  | agg l => exact und_agg h
  | _ => exact h _ (List.mem_singleton.2 rfl)

theorem cut_same {σ τ : Sg} {s S : Sto} {w w' : World} (h : Rel σ s w) (hs : Stp σ { s with low := s.n } w τ S w') (hlow : s.n ≤ S.low) : (τ.cut s.n).s = σ.s ∧ Quiet w w' ∧ σ.le (τ.cut s.n) ∧
    (∀ b off V, τ.m b off = some V → σ.m b off = some V ∨ (w.heap.size ≤ b ∧ w'.cell? ⟨b, off, none⟩ = some V)) ∧ (∀ id x b base sz, s.n ≤ id → S.get id = some x → τ id (genOf x) = some (b, base, sz) → w.heap.size ≤ b) := by
  have hcut : (τ.cut s.n).s = σ.s := by
    funext id g
    simp only [Sg.cut]
    split
    · rename_i hid
      exact (hs.keep id hid (by omega)).2.1 g
    · rename_i hid
      cases hg : σ id g with
      | none => rfl
      | some y => exact absurd (h.bnd id g y hg) hid
  refine ⟨hcut, ⟨hs.size, fun b hb => ?_, hs.os, hs.out, hs.tape⟩, ⟨fun id g x hx => by rw [hcut]; exact hx, hs.ext.m⟩, fun b off V hV => ?_, fun id x b base sz hid hx hb => ?_⟩
  · by_cases hh : Has σ s b
    · obtain ⟨id, x, base, sz, h1, h2⟩ := hh
      have hid := Sto.get_lt h1
      exact (hs.keep id hid (by omega)).2.2 x b base sz h1 h2
    · exact hs.frame b hb hh
  · have hmu := hs.rel.mu b off V hV
    rcases hs.mnew b off V hV with h1 | ⟨id, x, base, sz, h1, h2⟩ | h1
    · exact .inl h1
    · exfalso
      have hid : id < s.n := Sto.get_lt h1
      obtain ⟨k1, k2, _⟩ := hs.keep id hid (by omega)
      exact hmu.2 ⟨id, x, base, sz, by rw [k1]; exact h1, by rw [k2]; exact h2⟩
    · exact .inr ⟨h1, hmu.1⟩
  · rcases hs.own b ⟨id, x, base, sz, hx, hb⟩ with ⟨id', x', base', sz', h1, h2⟩ | h1
    · exfalso
      have hid' : id' < s.n := Sto.get_lt h1
      obtain ⟨k1, k2, _⟩ := hs.keep id' hid' (by omega)
      have := hs.rel.inj id x id' x' b base sz base' sz' hx (by rw [k1]; exact h1) hb (by rw [k2]; exact h2)
      omega
    · exact h1

/-- a value that names nothing new; nothing old has turned -/
theorem closes_pure {s S : Sto} {v : AV} (hlow : s.n ≤ S.low) (hu : Und s.n v) : Closes s S v v none := by
  intro σ τ w w' h hs
  obtain ⟨h1, h2, h3, h4, _⟩ := cut_same h hs hlow
  exact ⟨τ.cut s.n, ⟨h2, h3, h1, h4⟩, fun V hV => hu τ V hV⟩
/-- the store as it is -/
theorem closes_keep {s S : Sto} {v : AV} : Closes s S v v (some { S with low := Nat.min s.low S.low }) := by
  intro σ τ w w' h hs
  refine ⟨τ, ?_, fun V hV => hV⟩
  exact ⟨hs.rel.low rfl rfl, hs.ext, hs.size, hs.frame, hs.own, hs.sn, Nat.min_le_left _ _, fun id h1 h2 => hs.keep id h1 (Nat.lt_of_lt_of_le h2 (Nat.min_le_right _ _)), hs.os, hs.out, hs.tape, hs.hole, hs.mnew⟩

/-! ### what is new is frozen -/
/-- a value of one cell, or an aggregate, as it reads when all that is new stays as it is -/
inductive Frz (S : Sto) (n : Nat) : AV → AV → Prop
  | und (v : AV) : Und n v → Frz S n v v
  | agg (l l' : List AV) : l.length = l'.length → (∀ (i : Nat) x y, l[i]? = some x → l'[i]? = some y → Frz S n x y) → Frz S n (.agg l) (.agg l')
  | tuple (l l' : List AV) : l.length = l'.length → (∀ (i : Nat) x y, l[i]? = some x → l'[i]? = some y → Frz S n x y) → Frz S n (.tuple l) (.tuple l')
  | sl (id g off len : Nat) (cap : ACap) (m k : Nat) (c : Tr AV) (l : List AV) (a : Nat → Nat → AV) : n ≤ id → S.get id = some (.cells g m c) → l.length = len → off + len * k ≤ m → (∀ x ∈ l, x.cells.length = k) →
      (∀ (i j : Nat) x y, l[i]? = some x → x.cells[j]? = some y → c.get (off + i * k + j) = some (a i j)) → (∀ (i j : Nat) x y, l[i]? = some x → x.cells[j]? = some y → Frz S n (a i j) y) → Frz S n (.sl id g off len cap) (.fz l false)
  | ptr (id g off m : Nat) (c : Tr AV) (v : AV) (a : Nat → AV) : n ≤ id → S.get id = some (.cells g m c) → off + v.cells.length ≤ m → (∀ (j : Nat) y, v.cells[j]? = some y → c.get (off + j) = some (a j)) → (∀ (j : Nat) y, v.cells[j]? = some y → Frz S n (a j) y) → Frz S n (.ptr id g off) (.pf v)
  | func (f : FuncId) (a a' c c' : List AV) : a.length = a'.length → c.length = c'.length → (∀ (i : Nat) x y, a[i]? = some x → a'[i]? = some y → Frz S n x y) → (∀ (i : Nat) x y, c[i]? = some x → c'[i]? = some y → Frz S n x y) → Frz S n (.func (.func f) a c) (.func (.func f) a' c')

theorem closes_frz {s S : Sto} {v v' : AV} (hlow : s.n ≤ S.low) (hf : Frz S s.n v v') : Closes s S v v' none := by
  intro σ τ w w' h hs
  obtain ⟨h1, h2, h3, h4, h5⟩ := cut_same h hs hlow
  let M : Nat → Nat → Option Value := fun b off => match τ.m b off with
    | some V => some V
    | none => if w.heap.size ≤ b then w'.cell? ⟨b, off, none⟩ else none
  have hM : ∀ b off V, τ.m b off = some V → M b off = some V := fun b off V hV => by simp [M, hV]
  have hMn : ∀ b off, w.heap.size ≤ b → M b off = w'.cell? ⟨b, off, none⟩ := fun b off hb => by
    simp only [M]
    cases hc : τ.m b off with
    | some V => simp only; exact (hs.rel.mu b off V hc).1.symm
    | none => simp [hb]
  let ρ : Sg := ⟨M, (τ.cut s.n).s⟩
  have hle : (τ.cut s.n).le ρ := ⟨fun _ _ _ h => h, hM⟩
  refine ⟨ρ, ⟨h2, Sg.le_trans h3 hle, h1, fun b off V hV => ?_⟩, ?_⟩
  · have hV' : M b off = some V := hV
    simp only [M] at hV'
    split at hV'
    · rename_i W hW
      cases hV'
      exact h4 b off _ hW
    · split at hV'
      · rename_i hb; exact .inr ⟨hb, hV'⟩
      · cases hV'
  · induction hf with
    | und v hu => exact fun V hV => (hu τ V hV).mono hle
    | agg l l' hl _ ih =>
      intro V hV
      cases hV with
      | agg _ ys e1 e2 =>
        refine .agg _ _ (by rw [← hl]; exact e1) fun i y Y g1 g2 => ?_
        have hi : i < l.length := by rw [hl]; exact (List.getElem?_eq_some_iff.1 g1).1
        exact ih i l[i] y (List.getElem?_eq_getElem hi) g1 Y (e2 i _ Y (List.getElem?_eq_getElem hi) g2)
    | tuple l l' hl _ ih =>
      intro V hV
      cases hV with
      | tuple _ ys e1 e2 =>
        refine .tuple _ _ (by rw [← hl]; exact e1) fun i y Y g1 g2 => ?_
        have hi : i < l.length := by rw [hl]; exact (List.getElem?_eq_some_iff.1 g1).1
        exact ih i l[i] y (List.getElem?_eq_getElem hi) g1 Y (e2 i _ Y (List.getElem?_eq_getElem hi) g2)
    | func f a a' c c' hla hlc _ _ iha ihc =>
      intro V hV
      cases hV with
      | func _ F _ _ A C hF e1 e2 e3 e4 =>
        refine .func _ _ _ _ _ _ (by cases hF; exact .func f) (by rw [← hla]; exact e1) (by rw [← hlc]; exact e2) (fun i y Y g1 g2 => ?_) (fun i y Y g1 g2 => ?_)
        · have hi : i < a.length := by rw [hla]; exact (List.getElem?_eq_some_iff.1 g1).1
          exact iha i a[i] y (List.getElem?_eq_getElem hi) g1 Y (e3 i _ Y (List.getElem?_eq_getElem hi) g2)
        · have hi : i < c.length := by rw [hlc]; exact (List.getElem?_eq_some_iff.1 g1).1
          exact ihc i c[i] y (List.getElem?_eq_getElem hi) g1 Y (e4 i _ Y (List.getElem?_eq_getElem hi) g2)
    | sl id g off len cap m k c l a hid hg hl hm hk ha _ ih =>
      intro V hV
      cases hV with
      | sl _ _ _ _ _ b base sz C hsg hlen hcap =>
        obtain ⟨b', base', sz', o, g1, g2, g3⟩ := hs.rel.obj id _ hg
        have g1' : τ id g = some (b', base', sz') := g1
        rw [hsg] at g1'
        obtain ⟨rfl, rfl, rfl⟩ : b = b' ∧ base = base' ∧ sz = sz' := by simpa using g1'
        have hb := h5 id _ b base sz hid hg g1
        cases g3 with
        | cells _ _ _ arr el fr q1 q2 q3 q4 =>
          have hcell : ∀ j, j < m → w'.cell? ⟨b, base + j, none⟩ = arr[base + j]? := fun j hj => by simp [World.cell?, g2]
          have hin : ∀ i j, i < l.length → j < k → off + i * k + j < m := by
            intro i j hi hj
            have : i * k + k ≤ len * k := by
              rw [← Nat.succ_mul]; exact Nat.mul_le_mul_right k (by omega)
            omega
          subst hl
          refine .fz l false ⟨b, base + off, none⟩ C b (base + off) k (fun _ => rfl) hlen (fun hc => by cases hc) hk (fun i j x y W e1 e2 e3 => ?_) (fun i j hi hj => ?_)
          · have hi := (List.getElem?_eq_some_iff.1 e1).1
            have hj : j < k := by rw [← hk x (List.mem_of_getElem? e1)]; exact (List.getElem?_eq_some_iff.1 e2).1
            obtain ⟨W', e4, e5⟩ := q3 _ (a i j) (hin i j hi hj) (ha i j x y e1 e2)
            have e6 : M b (base + off + i * k + j) = some W := e3
            rw [hMn _ _ hb, show base + off + i * k + j = base + (off + i * k + j) by omega, hcell _ (hin i j hi hj), e4] at e6
            cases e6
            exact ih i j x y e1 e2 W e5
          · show (M b (base + off + i * k + j)).isSome = true
            rw [hMn _ _ hb, show base + off + i * k + j = base + (off + i * k + j) by omega, hcell _ (hin i j hi hj)]
            have := hin i j hi hj
            rw [Array.getElem?_eq_getElem (show base + (off + i * k + j) < arr.size by omega)]; rfl
    | ptr id g off m c v a hid hg hm ha _ ih =>
      intro V hV
      cases hV with
      | ptr _ _ _ b base sz hsg =>
        obtain ⟨b', base', sz', o, g1, g2, g3⟩ := hs.rel.obj id _ hg
        have g1' : τ id g = some (b', base', sz') := g1
        rw [hsg] at g1'
        obtain ⟨rfl, rfl, rfl⟩ : b = b' ∧ base = base' ∧ sz = sz' := by simpa using g1'
        have hb := h5 id _ b base sz hid hg g1
        cases g3 with
        | cells _ _ _ arr el fr q1 q2 q3 q4 =>
          have hcell : ∀ j, j < m → w'.cell? ⟨b, base + j, none⟩ = arr[base + j]? := fun j hj => by simp [World.cell?, g2]
          refine .pf v b (base + off) (fun j y W e2 e3 => ?_) (fun j hj => ?_)
          · have hj := (List.getElem?_eq_some_iff.1 e2).1
            obtain ⟨W', e4, e5⟩ := q3 _ (a j) (by omega) (ha j y e2)
            have e6 : M b (base + off + j) = some W := e3
            rw [hMn _ _ hb, show base + off + j = base + (off + j) by omega, hcell _ (by omega), e4] at e6
            cases e6
            exact ih j y e2 W e5
          · show (M b (base + off + j)).isSome = true
            rw [hMn _ _ hb, show base + off + j = base + (off + j) by omega, hcell _ (by omega)]
            rw [Array.getElem?_eq_getElem (show base + (off + j) < arr.size by omega)]; rfl

/-! ### a contract -/
section
variable {P : Program}
def oKe (o : Option (List AV)) (C : Sto → AV → Prop) (s : Sto) : Prop := ∃ vs, o = some vs ∧ C s (packR vs)
theorem oKe_some {l : List AV} {C : Sto → AV → Prop} {s : Sto} : oKe (some l) C s ↔ C s (packR l) := by simp [oKe]
def endK (P : Program) (rs : List ResultVar) (C D : Sto → AV → Prop) : Ex → Env → Prop
  | .normal, e => e.ds = [] ∧ e.r = .no ∧ oKe (dresults P e rs) C e.s
  | .ret, e => e.ds = [] ∧ e.r = .no ∧ oKe (dresults P e rs) C e.s
  | .panic v, e => e.ds = [] ∧ e.r = .no ∧ D e.s v
  | _, _ => False

/-- how a function is entered -/
def entry (fn : Func) (f : FuncId) (args : List AV) (s : Sto) : Env := ⟨Nat.max args.length fn.ntmps, none, f, Tr.leaf.lay 0 args, [], { s with low := s.n }, .no⟩

theorem sound_end {O : Orc} (hO : OSound P O) {f : FuncId} {fn : Func} {c : Code} {args : List AV} {s : Sto} {res : CRes} {C D : Sto → AV → Prop} (hok : okFn P f = true) (hf : P.funcs[f]? = some fn) (hb : fn.body = some c)
    (hC : ∀ S v, C S v → ∃ v' so, res = .ret v' so ∧ Closes s S v v' so) (hD : ∀ S v, D S v → ∃ v' so, res = .pan v' so ∧ Closes s S v v' so)
    (h : W P O c (entry fn f args s) (endK P fn.results.toList C D)) : Sound P f args s res := by
  obtain ⟨n, ex, e, hc, hQ⟩ := h
  refine ⟨hok, fn, hf, fun σ w A kd stk m hrel ha hstk hrm => ?_⟩
  have hrel' : Rel σ { s with low := s.n } w := hrel.low rfl rfl
  have he : ER σ { (default : Frame) with fn := f, kind := kd } (entry fn f args s) { tmps := A ++ Array.replicate (fn.ntmps - A.size) undef, defers := [] } m :=
    ⟨tmR_args ha _, .nil, hrm, rfl, rfl⟩
  have henter : Frame.enter P f A kd = ({ (default : Frame) with fn := f, kind := kd } : Frame).atR { tmps := A ++ Array.replicate (fn.ntmps - A.size) undef, defers := [] } [.code c] := by
    simp [Frame.enter, Frame.atR, hf, hb]
    rfl
  rw [henter]
  obtain ⟨τ, a', m', w', h1, h2, h3⟩ := dcode_ok (dcall_ok hO n).1 (dcall_fun n) n c σ w _ stk [] _ _ m _ _ hstk hc hrel' he
  have hret : e.ds = [] ∧ e.r = .no ∧ (∃ vs, dresults P e fn.results.toList = some vs ∧ C e.s (packR vs)) → (∃ todo, Steps P (lone (({ (default : Frame) with fn := f, kind := kd } : Frame).atR { tmps := A ++ Array.replicate (fn.ntmps - A.size) undef, defers := [] } [.code c]) (stk m) w) (lone { ({ (default : Frame) with fn := f, kind := kd } : Frame).atR a' todo with mode := .returning } (stk m') w')) →
      Done P σ s w kd f fn stk (lone (({ (default : Frame) with fn := f, kind := kd } : Frame).atR { tmps := A ++ Array.replicate (fn.ntmps - A.size) undef, defers := [] } [.code c]) (stk m) w) res := by
    rintro ⟨q1, q2, vs, q3, q4⟩ ⟨todo, hst⟩
    obtain ⟨v', so, rfl, hcl⟩ := hC _ _ q4
    obtain ⟨V, r1, r2⟩ := results_ok h2.rel h1.tm q3
    obtain ⟨ρ, c1, c2⟩ := hcl σ τ w w' hrel h2
    have hdf := h1.df
    rw [q1] at hdf
    have hrc : RM ρ kd .no m' := by
      have := h1.rc
      rw [q2] at this
      cases this with
      | normal m => exact .normal _
      | quiet => exact .quiet
    refine ⟨ρ, V, w', _, m', c2 V r2, c1, hrc, hst, rfl, ?_, rfl, rfl, r1⟩
    show a'.defers = []
    generalize a'.defers = ad at hdf
    cases hdf; rfl
  cases ex with
  | normal => exact hret hQ ⟨[], Steps.trans h3 (.one (stepR_end rfl))⟩
  | ret => obtain ⟨k₁, h3⟩ := h3; exact hret hQ ⟨_, Steps.trans h3 (.one (stepR_ret rfl))⟩
  | panic v =>
    obtain ⟨q1, q2, q4⟩ := hQ
    obtain ⟨V, todo, hV, h3⟩ := h3
    obtain ⟨v', so, rfl, hcl⟩ := hD _ _ q4
    obtain ⟨ρ, c1, c2⟩ := hcl σ τ w w' hrel h2
    have hdf := h1.df
    rw [q1] at hdf
    have hrc : RM ρ kd .no m' := by
      have := h1.rc
      rw [q2] at this
      cases this with
      | normal m => exact .normal _
      | quiet => exact .quiet
    refine ⟨ρ, V, w', _, m', c2 V hV, c1, hrc, h3, rfl, ?_, rfl, rfl⟩
    show a'.defers = []
    generalize a'.defers = ad at hdf
    cases hdf; rfl
  | _ => exact hQ.elim

/-- a contract that leaves the store as it was -/
theorem sound_pure {O : Orc} (hO : OSound P O) {f : FuncId} {fn : Func} {c : Code} {args : List AV} {s : Sto} {v : AV} (hok : okFn P f = true) (hf : P.funcs[f]? = some fn) (hb : fn.body = some c) (hu : Und s.n v)
    (h : W P O c (entry fn f args s) (endK P fn.results.toList (fun S r => s.n ≤ S.low ∧ r = v) fun _ _ => False)) : Sound P f args s (.ret v none) :=
  sound_end hO hok hf hb (fun S r hr => ⟨v, none, rfl, by rw [hr.2]; exact closes_pure hr.1 hu⟩) (fun _ _ h => h.elim) h
/-- what it returns is frozen -/
theorem sound_frz {O : Orc} (hO : OSound P O) {f : FuncId} {fn : Func} {c : Code} {args : List AV} {s : Sto} {v : AV} (hok : okFn P f = true) (hf : P.funcs[f]? = some fn) (hb : fn.body = some c)
    (h : W P O c (entry fn f args s) (endK P fn.results.toList (fun S r => s.n ≤ S.low ∧ Frz S s.n r v) fun _ _ => False)) : Sound P f args s (.ret v none) :=
  sound_end hO hok hf hb (fun S r hr => ⟨v, none, rfl, closes_frz hr.1 hr.2⟩) (fun _ _ h => h.elim) h
/-- from nothing -/
theorem sound_from_empty {f : FuncId} {args : List AV} {v : AV} (hu : ∀ x ∈ args, Und 0 x) (h : Sound P f args .empty (.ret v none)) : Returns P f args v := fun s =>
  sound_empty (fun σ A ha => ⟨ha.1, fun i x X h1 h2 => hu x (List.mem_of_getElem? h1) σ X (ha.2 i x X h1 h2)⟩) h ⟨_, .inl rfl⟩ s

theorem endK_ret {rs : List ResultVar} {C D : Sto → AV → Prop} {nt : Nat} {ro : Option Nat} {fn : FuncId} {t : Tr AV} {s : Sto} : endK P rs C D .ret ⟨nt, ro, fn, t, [], s, .no⟩ ↔ oKe (dresults P ⟨nt, ro, fn, t, [], s, .no⟩ rs) C s := by simp [endK]
theorem endK_normal {rs : List ResultVar} {C D : Sto → AV → Prop} {nt : Nat} {ro : Option Nat} {fn : FuncId} {t : Tr AV} {s : Sto} : endK P rs C D .normal ⟨nt, ro, fn, t, [], s, .no⟩ ↔ oKe (dresults P ⟨nt, ro, fn, t, [], s, .no⟩ rs) C s := by simp [endK]
theorem endK_panic {rs : List ResultVar} {C D : Sto → AV → Prop} {nt : Nat} {ro : Option Nat} {fn : FuncId} {t : Tr AV} {s : Sto} {v : AV} : endK P rs C D (.panic v) ⟨nt, ro, fn, t, [], s, .no⟩ ↔ D s v := by simp [endK]
theorem dresults_nil {e : Env} : dresults P e [] = some [] := rfl
theorem dresults_tmp {e : Env} {d : Nat} {l : List ResultVar} : dresults P e (.tmp d :: l) = (dresults P e l).map (e.t.val d :: ·) := by
  simp only [dresults, Tr.val]
  cases h : dresults P e l with
  | none => rfl
  | some r => simp only [Option.map_some]; cases e.t.get d <;> rfl
theorem dresults_cell {e : Env} {a : Nat} {ty : TypeId} {l : List ResultVar} : dresults P e (.cell a ty :: l) = (aload P e.s ty (e.t.val a)).bind fun v => (dresults P e l).map (v :: ·) := by
  simp only [dresults, Tr.val]
  cases e.t.get a with
  | none =>
    simp only [Option.getD_none]
    cases aload P e.s ty .top with
    | none => rfl
    | some v => cases dresults P e l <;> rfl
  | some x =>
    simp only [Option.getD_some]
    cases aload P e.s ty x with
    | none => rfl
    | some v => cases dresults P e l <;> rfl
theorem packR_one {v : AV} : packR [v] = v := rfl
theorem packR_nil : packR [] = .tuple [] := rfl
theorem packR_two {a b : AV} {l : List AV} : packR (a :: b :: l) = .tuple (a :: b :: l) := rfl

end
end
end Go.Abs
