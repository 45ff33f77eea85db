/-
  The abstract machine: what one operation asks.
-/
import Derived.Test.YtglnkngifepmhaaGreatUp
set_option linter.unusedVariables false
set_option linter.unusedSimpArgs false

namespace Go.Abs

/-! ### equal values are the same -/
theorem lbeq_eq {α : Type} {f : α → α → Bool} (hf : ∀ a b, f a b = true → a = b) : ∀ (l m : List α), lbeq f l m = true → l = m := by
  intro l
  induction l with
  | nil => intro m h; cases m <;> simp_all [lbeq]
  | cons a l ih =>
    intro m h
    cases m with
    | nil => simp [lbeq] at h
    | cons b m =>
      simp only [lbeq, Bool.and_eq_true] at h
      rw [hf a b h.1, ih m h.2]
theorem intBeq_true {a b : Int} (h : intBeq a b = true) : a = b := by
  cases a <;> cases b <;> simp_all [intBeq]
theorem capBeq_eq {a b : ACap} (h : capBeq a b = true) : a = b := by
  cases a <;> cases b <;> simp_all [capBeq]
theorem fnBeq_eq {a b : Fn} (h : fnBeq a b = true) : a = b := of_decide_eq_true h
theorem nbeq_eq : ∀ a b : Nat, Nat.beq a b = true → a = b := fun a b h => by simpa using h
theorem AV.beq_eq : ∀ (d : Nat) (a b : AV), AV.beq d a b = true → a = b := by
  intro d
  induction d with
  | zero => intro a b h; simp [AV.beq] at h
  | succ d ih =>
    intro a b h
    cases a <;> cases b <;> simp only [AV.beq, Bool.and_eq_true, Bool.false_eq_true] at h <;> try rfl
    · rw [eq_of_beq h]
    · rw [of_decide_eq_true h.1, intBeq_true h.2]
    · rw [lbeq_eq nbeq_eq _ _ h]
    · rw [nbeq_eq _ _ h.1.1, nbeq_eq _ _ h.1.2, nbeq_eq _ _ h.2]
    · rw [ih _ _ h]
    · rw [nbeq_eq _ _ h.1.1.1.1, nbeq_eq _ _ h.1.1.1.2, nbeq_eq _ _ h.1.1.2, nbeq_eq _ _ h.1.2, capBeq_eq h.2]
    · rw [lbeq_eq ih _ _ h.1, eq_of_beq h.2]
    · rw [nbeq_eq _ _ h]
    · rw [fnBeq_eq h.1.1, lbeq_eq ih _ _ h.1.2, lbeq_eq ih _ _ h.2]
    · rw [nbeq_eq _ _ h.1, ih _ _ h.2]
    · rw [lbeq_eq ih _ _ h]
    · rw [lbeq_eq ih _ _ h]
theorem isVal_eq {v : AV} {r : Option ORes} (h : isVal v r = true) : r = some (.val v) := by
  unfold isVal at h
  split at h
  · rw [AV.beq_eq _ _ _ h]
  · simp at h

section
variable {P : Program} {call : CallT}

theorem evals_congr {e e' : Env} {xs : Array Operand} (h : ∀ y ∈ xs, e'.eval y = e.eval y) : evals e' xs = evals e xs :=
  List.map_congr_left fun y hy => h y (by simpa using hy)
theorem eparts_congr {e e' : Env} {ps : Array (Nat × Operand)} (h : ∀ y ∈ ps.map (·.2), e'.eval y = e.eval y) : ps.toList.map (fun p => (p.1, e'.eval p.2)) = ps.toList.map (fun p => (p.1, e.eval p.2)) :=
  List.map_congr_left fun p hp => by rw [h p.2 (Array.mem_map.2 ⟨p, by simpa using hp, rfl⟩)]

/-- an operation asks for its operands, the store, and whether it is in a round -/
theorem dop_congr {o : Oper} {e e' : Env} (h : ∀ y ∈ o.op.operands, e'.eval y = e.eval y) (hs : e'.s = e.s) (hro : e'.ro = e.ro) : dop P call o e' = dop P call o e := by
  obtain ⟨dst, op, type, pos, after, guard⟩ := o
  cases op <;> simp only [Op.operands] at h <;> simp only [dop]
  case build t ps => rw [eparts_congr fun y hy => h y (by simpa using hy)]
  case buildSlice t n ps => rw [eparts_congr fun y hy => h y (by simpa using hy), hs]
  case makeFunc fn first captured =>
    rw [evals_congr (xs := first) fun x hx => h x (by simp [hx]), evals_congr (xs := captured) fun x hx => h x (by simp [hx])]
  case makeMap t r => cases r <;> simp_all
  case slice t x lo hi mx => cases lo <;> cases hi <;> cases mx <;> simp_all
  case call c =>
    have hargs : evals e' c.args = evals e c.args := evals_congr fun x hx => h x (by simp [Call.operands, hx])
    rw [hargs, hs]
    cases hc : c.callee with
    | value f =>
      have hf := h f (by simp [Call.operands, hc])
      simp only [hf]
    | invoke r m =>
      have hf := h r (by simp [Call.operands, hc])
      simp only [hf]
    | builtin b => rfl
  case defer c =>
    have hargs : evals e' c.args = evals e c.args := evals_congr fun x hx => h x (by simp [Call.operands, hx])
    rw [hargs, hro]
    cases hc : c.callee with
    | value f =>
      have hf := h f (by simp [Call.operands, hc])
      cases e.ro <;> simp only [hf]
    | invoke r m => rfl
    | builtin b => rfl
  all_goals (first | rfl | (simp_all; done))

/-- the names that an operation asks for -/
def onames' (o : Oper) : List Nat := o.op.operands.toList.filterMap fun | .tmp t => some t | _ => none
theorem eval_names {o : Oper} {e e' : Env} (h : ∀ d, d ∈ onames' o → e'.t.get d = e.t.get d) : ∀ y ∈ o.op.operands, e'.eval y = e.eval y := by
  intro y hy
  cases y with
  | tmp t =>
    simp only [Env.eval]
    rw [h t (List.mem_filterMap.2 ⟨.tmp t, by simpa using hy, rfl⟩)]
  | _ => rfl

def gname (ops : List Oper) (o : Oper) : List Nat := match o.guard with | some (j, _) => (match ops[j]? with | some g => g.dst.toList | none => []) | none => []
theorem awanted_congr {ops : List Oper} {o : Oper} {e e' : Env} (h : ∀ d, d ∈ gname ops o → e'.t.get d = e.t.get d) : awanted ops o e' = awanted ops o e := by
  unfold awanted
  unfold gname at h
  split
  · rfl
  · rename_i j want hg
    rw [hg] at h
    simp only at h
    split
    · rfl
    · rename_i d hd
      have hd' : d ∈ (match ops[j]? with | some g => g.dst.toList | none => []) := by
        split at hd
        · rename_i g hg'; rw [hg']; simp [hd]
        · simp at hd
      rw [h d hd']

/-- a table of these names alone -/
noncomputable def only (t : Tr AV) : List Nat → Tr AV
  | [] => .leaf
  | d :: l => match t.get d with
    | some v => (only t l).set d v
    | none => only t l
theorem only_get (t : Tr AV) : ∀ (l : List Nat) (d : Nat), (only t l).get d = if d ∈ l then t.get d else none := by
  intro l
  induction l with
  | nil => intro d; simp [only, Tr.get]
  | cons a l ih =>
    intro d
    unfold only
    split
    · rename_i v hv
      rw [Tr.get_set, ih]
      by_cases hd : d = a
      · subst hd; simp [hv]
      · simp [hd]
    · rename_i hv
      rw [ih]
      by_cases hd : d = a
      · subst hd; simp [hv]
      · simp [hd]

/-- operations that ask nothing of the store -/
theorem dop_pure {o : Oper} {e : Env} {r : ORes} (hp : pureOp o.op = true) (h : dop P call o e = some r) : (∃ v, r = .val v) ∧ ∀ s, dop P call o { e with s := s } = some r := by
  have hE : ∀ s, ({ e with s := s } : Env).eval = e.eval := fun s => by funext x; cases x <;> rfl
  have hEs : ∀ s xs, evals { e with s := s } xs = evals e xs := fun s xs => by unfold evals; rw [hE]
  have hV : ∀ {x : Option AV} {r : ORes}, valO x = some r → ∃ v, r = .val v := by
    intro x r h; cases x with
    | none => simp [valO] at h
    | some v => simp [valO] at h; exact ⟨v, h.symm⟩
  obtain ⟨dst, op, type, pos, after, guard⟩ := o
  cases op <;> simp only [pureOp, Bool.false_eq_true] at hp <;> simp only [dop, hE, hEs] at h ⊢
  all_goals refine ⟨?_, fun s => h⟩
  all_goals first
    | exact hV h
    | (cases h; exact ⟨_, rfl⟩)
    | skip
  all_goals (repeat' split at h)
  all_goals first
    | exact hV h
    | (cases h; exact ⟨_, rfl⟩)
    | cases h
    | skip
  all_goals first
    | (simp only [cond] at h; (repeat' split at h) <;> first | exact hV h | (cases h; exact ⟨_, rfl⟩) | cases h)

theorem anew_push {s : Sto} {cs : List AV} {id : Nat} {s' : Sto} (h : anew s cs = some (id, s')) : id = s.n ∧ ∃ x, s' = s.push x ∧ ∀ t : Sto, anew t cs = some (t.n, t.push x) := by
  unfold anew at h ⊢
  cases hc : cs.all AV.isCell with
  | false => rw [hc] at h; simp at h
  | true =>
    rw [hc] at h
    simp only [cond_true, Option.some.injEq, Prod.mk.injEq] at h
    exact ⟨h.1.symm, _, h.2.symm, fun t => by simp⟩

/-- operations that lay one new object -/
theorem dop_new {o : Oper} {e : Env} {r : ORes} (hp : newOp o.op = true) (h : dop P call o e = some r) : ∃ v x, r = .val' v (e.s.push x) ∧ ∀ s : Sto, s.n = e.s.n → dop P call o { e with s := s } = some (.val' v (s.push x)) := by
  have hE : ∀ s, ({ e with s := s } : Env).eval = e.eval := fun s => by funext x; cases x <;> rfl
  have key : ∀ {cs : List AV} {f : Nat → AV} {r : ORes}, (match anew e.s cs with | some (id, s) => some (ORes.val' (f id) s) | none => none) = some r →
      ∃ v x, r = .val' v (e.s.push x) ∧ ∀ s : Sto, s.n = e.s.n → (match anew s cs with | some (id, s) => some (ORes.val' (f id) s) | none => none) = some (.val' v (s.push x)) := by
    intro cs f r h
    split at h
    · rename_i id s' ha
      obtain ⟨rfl, x, rfl, hx⟩ := anew_push ha
      cases h
      exact ⟨_, x, rfl, fun s hs => by rw [hx s, hs]⟩
    · cases h
  obtain ⟨dst, op, type, pos, after, guard⟩ := o
  cases op <;> simp only [newOp, Bool.false_eq_true] at hp <;> simp only [dop, hE] at h ⊢
  case alloc t =>
    split at h
    · rename_i z hz
      exact key h
    · cases h
  case box t x =>
    split at h
    · cases h
    · rename_i v hv
      exact key h
  case buildSlice t len parts =>
    split at h
    · rename_i el hu
      split at h
      · rename_i k hk
        cases hb : Nat.ble (len * k) (2 ^ 24) with
        | false => rw [hb] at h; simp at h
        | true =>
          rw [hb] at h
          simp only [cond_true] at h ⊢
          split at h
          · rename_i zs hz
            cases hq : Nat.beq zs.length (len * k) with
            | false => rw [hq] at h; simp at h
            | true =>
              rw [hq] at h
              simp only [cond_true] at h ⊢
              split at h
              · rename_i cs hcs
                exact key h
              · cases h
          · cases h
      · cases h
    · cases h
  case makeMap t r =>
    split at h
    · rename_i b hb
      cases h
      exact ⟨_, _, rfl, fun s hs => by rw [hs]⟩
    · cases h
  case makeSlice t l c =>
    split at h
    · rename_i el k1 l' k2 c' h1 h2 h3
      split at h
      · rename_i k by_ z g1 g2 g3
        cases hq : (Nat.ble l' c' && Nat.ble (by_ * c') (2 ^ 47) && Nat.ble c' (2 ^ 62) && Nat.beq z.cells.length k) with
        | false => rw [hq] at h; simp at h
        | true =>
          rw [hq] at h
          simp only [cond_true] at h ⊢
          exact key h
      · cases h
    · cases h

end
end Go.Abs
