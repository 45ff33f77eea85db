/-
  The abstract machine: what an abstract value, a store say of real ones; laws of tries.
-/
import Derived.Test.YtglnkngifepmhaaGreatUa
import Derived.Laws.Sem
import Derived.Laws.World
set_option linter.unusedVariables false
set_option linter.unusedSimpArgs false

namespace Go.Abs

/-! ### tries -/
theorem bif_beq {α : Type} (n m : Nat) (x y : α) : (bif Nat.beq n m then x else y) = if n = m then x else y := by
  by_cases h : n = m
  · subst h; simp
  · have : Nat.beq n m = false := by rw [Bool.eq_false_iff]; intro h'; exact h (Nat.eq_of_beq_eq_true h')
    simp [this, h]
theorem bif_blt {α : Type} (n m : Nat) (x y : α) : (bif Nat.blt n m then x else y) = if n < m then x else y := by
  by_cases h : n < m
  · have : Nat.blt n m = true := by simpa [Nat.blt_eq] using h
    simp [this, h]
  · have : Nat.blt n m = false := by rw [Bool.eq_false_iff]; simpa [Nat.blt_eq] using h
    simp [this, h]
theorem bif_ble {α : Type} (n m : Nat) (x y : α) : (bif Nat.ble n m then x else y) = if n ≤ m then x else y := by
  by_cases h : n ≤ m
  · have : Nat.ble n m = true := by rw [Nat.ble_eq]; exact h
    simp [this, h]
  · have : Nat.ble n m = false := by rw [Bool.eq_false_iff]; intro h'; rw [Nat.ble_eq] at h'; exact h h'
    simp [this, h]
theorem brec_beq {α : Type} (n m : Nat) (x y : α) : @Bool.rec (fun _ => α) x y (Nat.beq n m) = if n = m then y else x := by
  rw [← bif_beq]; cases Nat.beq n m <;> rfl
theorem Tr.get_node {α : Type} (v : Option α) (l r : Tr α) (i : Nat) : (Tr.node v l r).get i = if i = 0 then v else if i % 2 = 1 then l.get (i / 2) else r.get (i / 2 - 1) := by
  show @Bool.rec (fun _ => Option α) (@Bool.rec (fun _ => Option α) (r.get (Nat.sub (Nat.div i 2) 1)) (l.get (Nat.div i 2)) (Nat.beq (Nat.mod i 2) 1)) v (Nat.beq i 0) = _
  rw [brec_beq, brec_beq]; rfl
theorem Tr.setF_leaf {α : Type} (f i : Nat) (a : Option α) : Tr.setF (f + 1) .leaf i a = if i = 0 then .node a .leaf .leaf else if i % 2 = 1 then .node none (Tr.setF f .leaf (i / 2) a) .leaf else .node none .leaf (Tr.setF f .leaf (i / 2 - 1) a) := by
  show @Bool.rec (fun _ => Tr α) (@Bool.rec (fun _ => Tr α) (.node none .leaf (Tr.setF f .leaf (Nat.sub (Nat.div i 2) 1) a)) (.node none (Tr.setF f .leaf (Nat.div i 2) a) .leaf) (Nat.beq (Nat.mod i 2) 1)) (.node a .leaf .leaf) (Nat.beq i 0) = _
  rw [brec_beq, brec_beq]; rfl
theorem Tr.setF_node {α : Type} (f i : Nat) (v : Option α) (l r : Tr α) (a : Option α) : Tr.setF (f + 1) (.node v l r) i a = if i = 0 then .node a l r else if i % 2 = 1 then .node v (Tr.setF f l (i / 2) a) r else .node v l (Tr.setF f r (i / 2 - 1) a) := by
  show @Bool.rec (fun _ => Tr α) (@Bool.rec (fun _ => Tr α) (.node v l (Tr.setF f r (Nat.sub (Nat.div i 2) 1) a)) (.node v (Tr.setF f l (Nat.div i 2) a) r) (Nat.beq (Nat.mod i 2) 1)) (.node a l r) (Nat.beq i 0) = _
  rw [brec_beq, brec_beq]; rfl
theorem Tr.get_setF {α : Type} : ∀ (f : Nat) (t : Tr α) (i j : Nat) (a : Option α), i < f → (Tr.setF f t i a).get j = if j = i then a else t.get j := by
  intro f
  induction f with
  | zero => intro t i j a h; omega
  | succ f ih =>
    intro t i j a h
    cases t with
    | leaf =>
      rw [Tr.setF_leaf]
      split
      · rename_i hi; subst hi
        rw [Tr.get_node]; by_cases hj : j = 0
        · simp [hj]
        · simp [hj, Tr.get]
      · rename_i hi
        split
        · rename_i hp
          rw [Tr.get_node, ih .leaf (i / 2) (j / 2) a (by omega)]
          by_cases hj : j = 0
          · have : ¬ j = i := by omega
            simp [hj, Tr.get]; intro h0; omega
          · by_cases hq : j % 2 = 1
            · by_cases he : j = i
              · simp [he, hi, hp]
              · have : ¬ j / 2 = i / 2 := by omega
                simp [hj, hq, he, this, Tr.get]
            · have : ¬ j = i := by intro he; subst he; exact hq hp
              simp [hj, hq, this, Tr.get]
        · rename_i hp
          rw [Tr.get_node, ih .leaf (i / 2 - 1) (j / 2 - 1) a (by omega)]
          by_cases hj : j = 0
          · simp [hj, Tr.get]; intro h0; omega
          · by_cases hq : j % 2 = 1
            · have : ¬ j = i := by intro he; subst he; exact hp hq
              simp [hj, hq, this, Tr.get]
            · by_cases he : j = i
              · simp [he, hi, hp]
              · have : ¬ j / 2 - 1 = i / 2 - 1 := by omega
                simp [hj, hq, he, this, Tr.get]
    | node v l r =>
      rw [Tr.setF_node]
      split
      · rename_i hi; subst hi
        rw [Tr.get_node, Tr.get_node]; by_cases hj : j = 0
        · simp [hj]
        · simp [hj]
      · rename_i hi
        split
        · rename_i hp
          rw [Tr.get_node, Tr.get_node, ih l (i / 2) (j / 2) a (by omega)]
          by_cases hj : j = 0
          · simp [hj]; intro h0; omega
          · by_cases hq : j % 2 = 1
            · by_cases he : j = i
              · simp [he, hi, hp]
              · have : ¬ j / 2 = i / 2 := by omega
                simp [hj, hq, he, this]
            · have : ¬ j = i := by intro he; subst he; exact hq hp
              simp [hj, hq, this]
        · rename_i hp
          rw [Tr.get_node, Tr.get_node, ih r (i / 2 - 1) (j / 2 - 1) a (by omega)]
          by_cases hj : j = 0
          · simp [hj]; intro h0; omega
          · by_cases hq : j % 2 = 1
            · have : ¬ j = i := by intro he; subst he; exact hp hq
              simp [hj, hq, this]
            · by_cases he : j = i
              · simp [he, hi, hp]
              · have : ¬ j / 2 - 1 = i / 2 - 1 := by omega
                simp [hj, hq, he, this]

theorem Tr.get_set {α : Type} (t : Tr α) (i j : Nat) (a : α) : (t.set i a).get j = if j = i then some a else t.get j := Tr.get_setF _ _ _ _ _ (by omega)
theorem Tr.get_del {α : Type} (t : Tr α) (i j : Nat) : (t.del i).get j = if j = i then none else t.get j := Tr.get_setF _ _ _ _ _ (by omega)
theorem Tr.get_leaf {α : Type} (i : Nat) : (Tr.leaf : Tr α).get i = none := rfl

theorem Tr.get_lay {α : Type} : ∀ (l : List α) (t : Tr α) (i j : Nat), (t.lay i l).get j = if i ≤ j ∧ j < i + l.length then l[j - i]? else t.get j := by
  intro l
  induction l with
  | nil => intro t i j; simp [Tr.lay]; intro h1 h2; omega
  | cons a l ih =>
    intro t i j
    rw [Tr.lay, ih, Tr.get_set]
    by_cases h1 : j = i
    · subst h1
      have h3 : ¬ (j + 1 ≤ j ∧ j < j + 1 + l.length) := by omega
      rw [if_neg h3]
      simp
    · by_cases h2 : i ≤ j ∧ j < i + (a :: l).length
      · have h3 : i + 1 ≤ j ∧ j < i + 1 + l.length := by simp at h2; omega
        rw [if_pos h3, if_pos h2]
        have : j - i = (j - (i + 1)) + 1 := by omega
        rw [this]; simp
      · have h3 : ¬ (i + 1 ≤ j ∧ j < i + 1 + l.length) := by simp at h2; omega
        rw [if_neg h3, if_neg h1, if_neg h2]

theorem Tr.row_spec {α : Type} (t : Tr α) : ∀ (n i : Nat) (l : List α), t.row i n = some l → l.length = n ∧ ∀ k, k < n → t.get (i + k) = l[k]? := by
  intro n
  induction n with
  | zero => intro i l h; simp [Tr.row] at h; subst h; simp
  | succ n ih =>
    intro i l h
    simp only [Tr.row] at h
    cases hg : t.get i with
    | none => simp [hg] at h
    | some a =>
      simp only [hg] at h
      cases hr : t.row (i + 1) n with
      | none => simp [hr] at h
      | some r =>
        simp only [hr, Option.some.injEq] at h
        subst h
        obtain ⟨hl, hk⟩ := ih (i + 1) r hr
        refine ⟨by simp [hl], fun k hkn => ?_⟩
        cases k with
        | zero => simpa using hg
        | succ k =>
          have := hk k (by omega)
          rw [show i + (k + 1) = i + 1 + k by omega, this]
          simp

/-! ### stores -/
theorem Sto.get_eq (s : Sto) (i : Nat) : s.get i = if i < s.n then s.o.get i else none := bif_blt _ _ _ _
theorem Sto.get_lt {s : Sto} {i : Nat} {x : AObj} (h : s.get i = some x) : i < s.n := by
  rw [Sto.get_eq] at h; split at h <;> simp_all
theorem Sto.get_push (s : Sto) (x : AObj) (i : Nat) : (s.push x).get i = if i = s.n then some x else s.get i := by
  simp only [Sto.get_eq, Sto.push, Tr.get_set]
  by_cases h : i = s.n
  · simp [h]
  · by_cases h2 : i < s.n
    · simp [h, h2, Nat.lt_succ_of_lt h2]
    · have : ¬ i < s.n + 1 := by omega
      simp [h2, this]
      intro h3; omega
theorem Sto.get_put (s : Sto) (j : Nat) (x : AObj) (i : Nat) : (s.put j x).get i = if i = j ∧ i < s.n then some x else s.get i := by
  simp only [Sto.get_eq, Sto.put, Tr.get_set]
  by_cases h : i = j <;> by_cases h2 : i < s.n <;> simp [h2] <;> simp_all
@[simp] theorem Sto.n_push (s : Sto) (x : AObj) : (s.push x).n = s.n + 1 := rfl
@[simp] theorem Sto.n_put (s : Sto) (j : Nat) (x : AObj) : (s.put j x).n = s.n := rfl
@[simp] theorem Sto.low_push (s : Sto) (x : AObj) : (s.push x).low = s.low := rfl
theorem Sto.low_put (s : Sto) (j : Nat) (x : AObj) : (s.put j x).low = min j s.low := by
  simp only [Sto.put, bif_blt]
  split <;> omega

/-! ### what abstract values say -/
/-- where the rows of a store lie: of a number and a generation the block, the first cell, and how many cells the block has; and memory that stays as it is -/
structure Sg where
  m : Nat → Nat → Option Value
  s : Nat → Nat → Option (Nat × Nat × Nat)
instance : CoeFun Sg fun _ => Nat → Nat → Option (Nat × Nat × Nat) := ⟨Sg.s⟩

inductive FnR (σ : Sg) : Fn → Fn → Prop
  | func (f : FuncId) : FnR σ (.func f) (.func f)
  | method (n : String) : FnR σ (.method n) (.method n)
  | methodOf (t : TypeId) (n : String) : FnR σ (.methodOf t n) (.methodOf t n)
  | via (t : TypeId) (p : Array FieldStep) (f : FuncId) (b : Bool) : FnR σ (.via t p f b) (.via t p f b)
  | yield (l b base sz : Nat) : σ l 0 = some (b, base, sz) → FnR σ (.yield l) (.yield b)

def capOk (base off len C sz : Nat) : ACap → Prop
  | .is c => C = c
  | .room k => base + off + C * k ≤ sz
  | .least k c => c ≤ C ∧ base + off + C * k ≤ sz
theorem capOk_roomTo {base off len C sz k n c : Nat} (h1 : base + off + C * k ≤ sz) (h2 : c ≤ C) : capOk base off len C sz (roomTo k n c) := by
  unfold roomTo
  cases Nat.beq n c with
  | true => exact h1
  | false => exact ⟨h2, h1⟩

inductive VR (σ : Sg) : AV → Value → Prop
  | top (V : Value) : VR σ .top V
  | bool (b : Bool) : VR σ (.bool b) (.bool b)
  | int (k : IntKind) (n : Int) : VR σ (.int k n) (.int k n)
  | str (l : List Nat) (s : ByteArray) : s.data.toList.map (·.toNat) = l → VR σ (.str l) (.string s)
  | nilp : VR σ .nilp (.pointer none)
  | ptr (id g off b base sz : Nat) : σ id g = some (b, base, sz) → VR σ (.ptr id g off) (.pointer (some ⟨b, base + off, none⟩))
  | pf (v : AV) (b off : Nat) : (∀ i c V, v.cells[i]? = some c → σ.m b (off + i) = some V → VR σ c V) → (∀ i, i < v.cells.length → (σ.m b (off + i)).isSome = true) →
      VR σ (.pf v) (.pointer (some ⟨b, off, none⟩))
  | nils : VR σ .nils (.slice none 0 0)
  | sl (id g off len : Nat) (cap : ACap) (b base sz C : Nat) : σ id g = some (b, base, sz) → len ≤ C → capOk base off len C sz cap →
      VR σ (.sl id g off len cap) (.slice (some ⟨b, base + off, none⟩) len C)
  | fz (l : List AV) (clip : Bool) (a : Addr) (C : Nat) (b off k : Nat) : (0 < l.length → a = ⟨b, off, none⟩) → l.length ≤ C → (clip = true → C = l.length) →
      (∀ x, x ∈ l → x.cells.length = k) →
      (∀ i j x c V, l[i]? = some x → x.cells[j]? = some c → σ.m b (off + i * k + j) = some V → VR σ c V) →
      (∀ i j, i < l.length → j < k → (σ.m b (off + i * k + j)).isSome = true) →
      VR σ (.fz l clip) (.slice (some a) l.length C)
  | nilm : VR σ .nilm (.map none)
  | map (id b base sz : Nat) : σ id 0 = some (b, base, sz) → VR σ (.map id) (.map (some b))
  | func (f F : Fn) (a c : List AV) (A C : Array Value) : FnR σ f F → a.length = A.size → c.length = C.size →
      (∀ (i : Nat) x X, a[i]? = some x → A[i]? = some X → VR σ x X) → (∀ (i : Nat) x X, c[i]? = some x → C[i]? = some X → VR σ x X) →
      VR σ (.func f a c) (.func F A C)
  | nilf : VR σ .nilf .nilFunc
  | iface (t : TypeId) (v : AV) (V : Value) : VR σ v V → VR σ (.iface t v) (.iface t V)
  | nili : VR σ .nili .nilIface
  | agg (xs : List AV) (ys : Array Value) : xs.length = ys.size → (∀ (i : Nat) x X, xs[i]? = some x → ys[i]? = some X → VR σ x X) → VR σ (.agg xs) (.agg ys)
  | tuple (xs : List AV) (ys : Array Value) : xs.length = ys.size → (∀ (i : Nat) x X, xs[i]? = some x → ys[i]? = some X → VR σ x X) → VR σ (.tuple xs) (.tuple ys)

/-- rows of values -/
def VRs (σ : Sg) (xs : List AV) (ys : List Value) : Prop := xs.length = ys.length ∧ ∀ (i : Nat) x X, xs[i]? = some x → ys[i]? = some X → VR σ x X

structure Sg.le (σ τ : Sg) : Prop where
  s : ∀ id g x, σ id g = some x → τ id g = some x
  m : ∀ b o V, σ.m b o = some V → τ.m b o = some V
instance {σ τ : Sg} : CoeFun (Sg.le σ τ) fun _ => ∀ id g x, σ id g = some x → τ id g = some x := ⟨Sg.le.s⟩
theorem Sg.le_refl (σ : Sg) : σ.le σ := ⟨fun _ _ _ h => h, fun _ _ _ h => h⟩
theorem Sg.le_trans {σ τ ρ : Sg} (h : σ.le τ) (h' : τ.le ρ) : σ.le ρ := ⟨fun _ _ _ x => h' _ _ _ (h _ _ _ x), fun _ _ _ x => h'.m _ _ _ (h.m _ _ _ x)⟩
theorem Sg.le.some {σ τ : Sg} (h : σ.le τ) {b o : Nat} {V : Value} (hs : (σ.m b o).isSome = true) (hV : τ.m b o = some V) : σ.m b o = some V := by
  cases hc : σ.m b o with
  | none => rw [hc] at hs; cases hs
  | some W => rw [← hV, h.m _ _ _ hc]
theorem Sg.le.isSome {σ τ : Sg} (h : σ.le τ) {b o : Nat} (hs : (σ.m b o).isSome = true) : (τ.m b o).isSome = true := by
  cases hc : σ.m b o with
  | none => rw [hc] at hs; cases hs
  | some W => rw [h.m _ _ _ hc]; rfl
/-- nothing -/
def Sg.nil : Sg := ⟨fun _ _ => none, fun _ _ => none⟩

theorem FnR.mono {σ τ : Sg} (h : σ.le τ) {f F : Fn} (hf : FnR σ f F) : FnR τ f F := by
  cases hf with
  | func f => exact .func f
  | method n => exact .method n
  | methodOf t n => exact .methodOf t n
  | via t p f b => exact .via t p f b
  | yield l b base sz hl => exact .yield l b base sz (h _ _ _ hl)

theorem VR.mono {σ τ : Sg} (h : σ.le τ) {v : AV} {V : Value} (hv : VR σ v V) : VR τ v V := by
  induction hv with
  | top V => exact .top V
  | bool b => exact .bool b
  | int k n => exact .int k n
  | str l s hs => exact .str l s hs
  | nilp => exact .nilp
  | ptr id g off b base sz hs => exact .ptr _ _ _ _ _ _ (h _ _ _ hs)
  | pf v b off h1 h2 ih => exact .pf v b off (fun i c V hc hV => ih i c V hc (h.some (h2 i (List.getElem?_eq_some_iff.1 hc).1) hV)) fun i hi => h.isSome (h2 i hi)
  | nils => exact .nils
  | sl id g off len cap b base sz C hs hl hc => exact .sl _ _ _ _ _ _ _ _ _ (h _ _ _ hs) hl hc
  | fz l clip a C b off k h1 h2 h3 h4 h5 h6 ih =>
    refine .fz l clip a C b off k h1 h2 h3 h4 (fun i j x c V hx hc hV => ih i j x c V hx hc (h.some (h6 i j (List.getElem?_eq_some_iff.1 hx).1 ?_) hV)) fun i j hi hj => h.isSome (h6 i j hi hj)
    rw [← h4 x (List.mem_of_getElem? hx)]
    exact (List.getElem?_eq_some_iff.1 hc).1
  | nilm => exact .nilm
  | map id b base sz hs => exact .map _ _ _ _ (h _ _ _ hs)
  | func f F a c A C hf h1 h2 h3 h4 ih1 ih2 => exact .func _ _ _ _ _ _ (hf.mono h) h1 h2 ih1 ih2
  | nilf => exact .nilf
  | iface t v V hv ih => exact .iface _ _ _ ih
  | nili => exact .nili
  | agg xs ys hl h1 ih => exact .agg _ _ hl ih
  | tuple xs ys hl h1 ih => exact .tuple _ _ hl ih

theorem VRs.mono {σ τ : Sg} (h : σ.le τ) {xs : List AV} {ys : List Value} (hv : VRs σ xs ys) : VRs τ xs ys := ⟨hv.1, fun i x X h1 h2 => (hv.2 i x X h1 h2).mono h⟩
theorem VRs.nil (σ : Sg) : VRs σ [] [] := ⟨rfl, fun i x X h => by simp at h⟩
theorem VRs.cons {σ : Sg} {x : AV} {X : Value} {xs : List AV} {ys : List Value} (h : VR σ x X) (hs : VRs σ xs ys) : VRs σ (x :: xs) (X :: ys) := by
  refine ⟨by simp [hs.1], fun i y Y h1 h2 => ?_⟩
  cases i with
  | zero => simp at h1 h2; subst h1; subst h2; exact h
  | succ i => simp at h1 h2; exact hs.2 i y Y h1 h2
theorem VRs.head {σ : Sg} {x : AV} {xs : List AV} {ys : List Value} (h : VRs σ (x :: xs) ys) : ∃ X zs, ys = X :: zs ∧ VR σ x X ∧ VRs σ xs zs := by
  cases ys with
  | nil => have := h.1; simp at this
  | cons X zs =>
    refine ⟨X, zs, rfl, h.2 0 x X rfl rfl, by have := h.1; simpa using this, fun i y Y h1 h2 => h.2 (i + 1) y Y (by simpa using h1) (by simpa using h2)⟩
theorem VRs.nil_inv {σ : Sg} {ys : List Value} (h : VRs σ [] ys) : ys = [] := by
  have := h.1; cases ys <;> simp_all
theorem VRs.append {σ : Sg} {xs xs' : List AV} {ys ys' : List Value} (h : VRs σ xs ys) (h' : VRs σ xs' ys') : VRs σ (xs ++ xs') (ys ++ ys') := by
  induction xs generalizing ys with
  | nil => rw [h.nil_inv]; simpa using h'
  | cons x xs ih =>
    obtain ⟨X, zs, rfl, hx, hr⟩ := h.head
    exact VRs.cons hx (ih hr)
theorem VRs.take {σ : Sg} {xs : List AV} {ys : List Value} (h : VRs σ xs ys) (n : Nat) : VRs σ (xs.take n) (ys.take n) := by
  refine ⟨by simp [h.1], fun i x X h1 h2 => ?_⟩
  rw [List.getElem?_take] at h1 h2
  split at h1
  · rename_i hi; rw [if_pos hi] at h2; exact h.2 i x X h1 h2
  · simp at h1
theorem VRs.drop {σ : Sg} {xs : List AV} {ys : List Value} (h : VRs σ xs ys) (n : Nat) : VRs σ (xs.drop n) (ys.drop n) := by
  refine ⟨by simp [h.1], fun i x X h1 h2 => ?_⟩
  rw [List.getElem?_drop] at h1 h2
  exact h.2 _ x X h1 h2
theorem VRs.slice {σ : Sg} {xs : List AV} {ys : List Value} (h : VRs σ xs ys) (i n : Nat) : VRs σ (lslice xs i n) ((ys.drop i).take n) := (h.drop i).take n
theorem VRs.get {σ : Sg} {xs : List AV} {ys : List Value} (h : VRs σ xs ys) {i : Nat} {x : AV} (hx : xs[i]? = some x) : ∃ X, ys[i]? = some X ∧ VR σ x X := by
  have hi : i < xs.length := by
    rcases Nat.lt_or_ge i xs.length with h' | h'
    · exact h'
    · rw [List.getElem?_eq_none h'] at hx; simp at hx
  have hi' : i < ys.length := by rw [← h.1]; exact hi
  exact ⟨ys[i], List.getElem?_eq_getElem hi', h.2 i x _ hx (List.getElem?_eq_getElem hi')⟩
theorem VRs.map {σ : Sg} {α : Type} (f : α → AV) (F : α → Value) (l : List α) (h : ∀ x ∈ l, VR σ (f x) (F x)) : VRs σ (l.map f) (l.map F) := by
  induction l with
  | nil => exact VRs.nil σ
  | cons a l ih => exact VRs.cons (h a (by simp)) (ih fun x hx => h x (by simp [hx]))

theorem VR.agg_iff {σ : Sg} {xs : List AV} {V : Value} : VR σ (.agg xs) V ↔ ∃ ys, V = .agg ys ∧ VRs σ xs ys.toList := by
  constructor
  · intro h
    cases h with
    | agg _ ys hl h1 => exact ⟨ys, rfl, by simpa using hl, fun i x X hx hX => h1 i x X hx (by simpa using hX)⟩
  · rintro ⟨ys, rfl, hl, h1⟩
    exact .agg _ _ (by simpa using hl) fun i x X hx hX => h1 i x X hx (by simpa using hX)
theorem VR.tuple_iff {σ : Sg} {xs : List AV} {V : Value} : VR σ (.tuple xs) V ↔ ∃ ys, V = .tuple ys ∧ VRs σ xs ys.toList := by
  constructor
  · intro h
    cases h with
    | tuple _ ys hl h1 => exact ⟨ys, rfl, by simpa using hl, fun i x X hx hX => h1 i x X hx (by simpa using hX)⟩
  · rintro ⟨ys, rfl, hl, h1⟩
    exact .tuple _ _ (by simpa using hl) fun i x X hx hX => h1 i x X hx (by simpa using hX)

/-- a value of one cell is one -/
theorem VR.isCell {σ : Sg} {v : AV} {V : Value} (h : VR σ v V) (hc : v.isCell = true) : V.cells = #[V] ∧ V.oneCell' = true ∧ v.cells = [v] := by
  cases h <;> first | (simp [AV.isCell] at hc; done) | exact ⟨rfl, rfl, rfl⟩
theorem VR.cells {σ : Sg} {v : AV} {V : Value} (h : VR σ v V) (hv : v.isCell = true ∨ ∃ cs, v = .agg cs) : VRs σ v.cells V.cells.toList := by
  rcases hv with hc | ⟨cs, rfl⟩
  · obtain ⟨h1, _, h3⟩ := h.isCell hc
    rw [h1, h3]
    exact VRs.cons h (VRs.nil σ)
  · obtain ⟨ys, rfl, hs⟩ := VR.agg_iff.1 h
    exact hs
theorem cells_all_isCell {v : AV} (h : v.cells.all AV.isCell = true) : v.isCell = true ∨ ∃ cs, v = .agg cs := by
  cases v <;> first | exact .inr ⟨_, rfl⟩ | (left; simpa [AV.cells] using h)

/-- all numbers in a value are less than n: of a part of σ it says as much -/
def Sg.cut (σ : Sg) (n : Nat) : Sg := ⟨σ.m, fun id g => if id < n then σ id g else none⟩
theorem Sg.cut_le (σ : Sg) (n : Nat) : (σ.cut n).le σ := by
  refine ⟨fun id g x h => ?_, fun _ _ _ h => h⟩
  simp only [Sg.cut] at h; split at h <;> simp_all

theorem VR.cut {σ : Sg} {n : Nat} : ∀ (d : Nat) (v : AV) (V : Value), v.under n d = true → VR σ v V → VR (σ.cut n) v V := by
  intro d
  induction d with
  | zero => intro v V h; simp [AV.under] at h
  | succ d ih =>
    intro v V hu h
    have hall : ∀ {l : List AV}, l.all (AV.under n d) = true → ∀ (i : Nat) x, l[i]? = some x → x.under n d = true := by
      intro l hl i x hx
      exact List.all_eq_true.1 hl x (List.mem_of_getElem? hx)
    cases h with
    | top V => exact .top V
    | bool b => exact .bool b
    | int k m => exact .int k m
    | str l s hs => exact .str l s hs
    | nilp => exact .nilp
    | ptr id g off b base sz hs =>
      have : id < n := by simpa [AV.under, Nat.blt_eq] using hu
      exact .ptr _ _ _ _ _ _ (show σ.cut n id g = some (b, base, sz) by simp [Sg.cut, this, hs])
    | pf v b off h1 h2 =>
      have hv : v.under n d = true := by simpa [AV.under] using hu
      refine .pf v b off (fun i c V hc hV => ?_) h2
      have h3 := h1 i c V hc hV
      cases d with
      | zero => simp [AV.under] at hv
      | succ d =>
        by_cases hagg : ∃ cs, v = .agg cs
        · obtain ⟨cs, rfl⟩ := hagg
          have hcs : cs.all (AV.under n d) = true := by simpa [AV.under] using hv
          have hc' : c.under n d = true := List.all_eq_true.1 hcs c (List.mem_of_getElem? hc)
          exact ih c V (by
            have : ∀ (m : Nat) (x : AV), x.under n m = true → x.under n (m + 1) = true := by
              intro m
              induction m with
              | zero => intro x h; simp [AV.under] at h
              | succ m ihm =>
                intro x hx
                have hl : ∀ {l : List AV}, l.all (AV.under n m) = true → l.all (AV.under n (m + 1)) = true := fun h => List.all_eq_true.2 fun y hy => ihm y (List.all_eq_true.1 h y hy)
                cases x <;> simp_all [AV.under]
            exact this d c hc') h3
        · have : v.cells = [v] := by cases v <;> first | rfl | exact absurd ⟨_, rfl⟩ hagg
          rw [this] at hc
          cases i with
          | zero => simp at hc; subst hc; exact ih _ V hv h3
          | succ i => simp at hc
    | nils => exact .nils
    | sl id g off len cap b base sz C hs hl hc =>
      have : id < n := by simpa [AV.under, Nat.blt_eq] using hu
      exact .sl _ _ _ _ _ _ _ _ _ (show σ.cut n id g = some (b, base, sz) by simp [Sg.cut, this, hs]) hl hc
    | fz l clip a C b off k h1 h2 h3 h4 h5 h6 =>
      have hl : l.all (AV.under n d) = true := by simpa [AV.under] using hu
      refine .fz l clip a C b off k h1 h2 h3 h4 (fun i j x c V hx hc hV => ?_) h6
      have hxu := hall hl i x hx
      have h7 := h5 i j x c V hx hc hV
      cases d with
      | zero => simp [AV.under] at hxu
      | succ d =>
        by_cases hagg : ∃ cs, x = .agg cs
        · obtain ⟨cs, rfl⟩ := hagg
          have hcs : cs.all (AV.under n d) = true := by simpa [AV.under] using hxu
          have hc' : c.under n d = true := List.all_eq_true.1 hcs c (List.mem_of_getElem? hc)
          exact ih c V (by
            have : ∀ (m : Nat) (x : AV), x.under n m = true → x.under n (m + 1) = true := by
              intro m
              induction m with
              | zero => intro x h; simp [AV.under] at h
              | succ m ihm =>
                intro x hx
                have hl : ∀ {l : List AV}, l.all (AV.under n m) = true → l.all (AV.under n (m + 1)) = true := fun h => List.all_eq_true.2 fun y hy => ihm y (List.all_eq_true.1 h y hy)
                cases x <;> simp_all [AV.under]
            exact this d c hc') h7
        · have : x.cells = [x] := by cases x <;> first | rfl | exact absurd ⟨_, rfl⟩ hagg
          rw [this] at hc
          cases j with
          | zero => simp at hc; subst hc; exact ih _ V hxu h7
          | succ j => simp at hc
    | nilm => exact .nilm
    | map id b base sz hs =>
      have : id < n := by simpa [AV.under, Nat.blt_eq] using hu
      exact .map _ _ _ _ (show σ.cut n id 0 = some (b, base, sz) by simp [Sg.cut, this, hs])
    | func f F a c A C hf h1 h2 h3 h4 =>
      simp only [AV.under, Bool.and_eq_true] at hu
      refine .func _ _ _ _ _ _ ?_ h1 h2 (fun i x X hx hX => ih x X (hall hu.1.2 i x hx) (h3 i x X hx hX)) (fun i x X hx hX => ih x X (hall hu.2 i x hx) (h4 i x X hx hX))
      cases hf with
      | func f => exact .func f
      | method n => exact .method n
      | methodOf t n => exact .methodOf t n
      | via t p f b => exact .via t p f b
      | yield l b base sz hl =>
        have : l < n := by simpa [Nat.blt_eq] using hu.1.1
        exact .yield l b base sz (by simp [Sg.cut, this, hl])
    | nilf => exact .nilf
    | iface t v V hv => exact .iface _ _ _ (ih v V (by simpa [AV.under] using hu) hv)
    | nili => exact .nili
    | agg xs ys hl h1 =>
      have hx : xs.all (AV.under n d) = true := by simpa [AV.under] using hu
      exact .agg _ _ hl fun i x X h2 h3 => ih x X (hall hx i x h2) (h1 i x X h2 h3)
    | tuple xs ys hl h1 =>
      have hx : xs.all (AV.under n d) = true := by simpa [AV.under] using hu
      exact .tuple _ _ hl fun i x X h2 h3 => ih x X (hall hx i x h2) (h1 i x X h2 h3)

end Go.Abs
