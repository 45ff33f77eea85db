/-
  The abstract machine: what must hold for a piece of code to end so; rules for a walk by 'simp'.
-/
import Derived.Test.YtglnkngifepmhaaGreatEa
set_option linter.unusedVariables false
set_option linter.unusedSimpArgs false

namespace Go.Abs
noncomputable section

/-- a slot's value -/
def Tr.val (t : Tr AV) (i : Nat) : AV := (t.get i).getD .top
theorem Tr.val_set_same (t : Tr AV) (i : Nat) (a : AV) : (t.set i a).val i = a := by simp [Tr.val, Tr.get_set]
theorem Tr.val_set_ne (t : Tr AV) (i j : Nat) (a : AV) (h : j ≠ i) : (t.set i a).val j = t.val j := by simp [Tr.val, Tr.get_set, h]
theorem Env.eval_tmp (e : Env) (i : Nat) : e.eval (.tmp i) = e.t.val i := by
  simp only [Env.eval, Tr.val]
  cases e.t.get i <;> rfl
theorem Env.eval_const (e : Env) (v : Value) : e.eval (.const v) = ofV v := rfl
theorem Env.eval_func (e : Env) (f : FuncId) : e.eval (.func f) = .func (.func f) [] [] := rfl

/-! there is a value, and with it it goes on (no 'fun' stands in what comes: 'simp' looks into it) -/
def oKv (o : Option AV) (K : ORes → Prop) : Prop := ∃ v, o = some v ∧ K (.val v)
def oKs (o : Option Sto) (K : ORes → Prop) : Prop := ∃ s, o = some s ∧ K (.val' .undef s)
def oKr (o : Option ORes) (K : ORes → Prop) : Prop := ∃ r, o = some r ∧ K r
theorem oKv_some {v : AV} {K : ORes → Prop} : oKv (some v) K ↔ K (.val v) := by simp [oKv]
theorem oKs_some {s : Sto} {K : ORes → Prop} : oKs (some s) K ↔ K (.val' .undef s) := by simp [oKs]
theorem oKr_some {r : ORes} {K : ORes → Prop} : oKr (some r) K ↔ K r := by simp [oKr]
@[congr] theorem oKv_congr {o o' : Option AV} {K : ORes → Prop} (h : o = o') : oKv o K = oKv o' K := by rw [h]
@[congr] theorem oKs_congr {o o' : Option Sto} {K : ORes → Prop} (h : o = o') : oKs o K = oKs o' K := by rw [h]
@[congr] theorem oKr_congr {o o' : Option ORes} {K : ORes → Prop} (h : o = o') : oKr o K = oKr o' K := by rw [h]

section
variable (P : Program) (O : Orc)

def W (c : Code) (e : Env) (Q : Ex → Env → Prop) : Prop := ∃ n ex e', dcode P (dcall P O n) n c e = some (ex, e') ∧ Q ex e'
def Wo (ops rest : List Oper) (e : Env) (Q : Ex → Env → Prop) : Prop := ∃ n ex e', dops P (dcall P O n) ops rest e = some (ex, e') ∧ Q ex e'
def dopOf (call : CallT) (op : Op) (e : Env) : Option ORes := dop P call { dst := none, op := op, type := 0, pos := "", after := #[], guard := none } e
def Wop (op : Op) (e : Env) (K : ORes → Prop) : Prop := ∃ n r, dopOf P (dcall P O n) op e = some r ∧ K r
def Wcall (fv : AV) (args : List AV) (s : Sto) (K : CRes → Prop) : Prop := ∃ n res rr, dcall P O n fv args s .no = some (res, rr) ∧ K res

theorem dop_eq (call : CallT) (o : Oper) (e : Env) : dop P call o e = dopOf P call o.op e := rfl

variable {P O}

theorem W.mono {c : Code} {e : Env} {Q Q' : Ex → Env → Prop} (h : W P O c e Q) (hQ : ∀ ex e', Q ex e' → Q' ex e') : W P O c e Q' := by
  obtain ⟨n, ex, e', h1, h2⟩ := h; exact ⟨n, ex, e', h1, hQ _ _ h2⟩

@[congr] theorem W_congr {c : Code} {e e' : Env} {Q : Ex → Env → Prop} (h : e = e') : W P O c e Q = W P O c e' Q := by rw [h]
@[congr] theorem Wo_congr {ops rest : List Oper} {e e' : Env} {Q : Ex → Env → Prop} (h : e = e') : Wo P O ops rest e Q = Wo P O ops rest e' Q := by rw [h]
@[congr] theorem Wop_congr {op : Op} {e e' : Env} {K : ORes → Prop} (h : e = e') : Wop P O op e K = Wop P O op e' K := by rw [h]
@[congr] theorem Wcall_congr {fv fv' : AV} {args args' : List AV} {s s' : Sto} {K : CRes → Prop} (h : fv = fv') (h' : args = args') (h'' : s = s') : Wcall P O fv args s K = Wcall P O fv' args' s' K := by rw [h, h', h'']

theorem code_le {n m : Nat} (h : n ≤ m) {c : Code} {e : Env} {x : Ex × Env} (hx : dcode P (dcall P O n) n c e = some x) : dcode P (dcall P O m) m c e = some x := dcode_mono (dcall_mono n m h) h c e x hx

/-! ### code -/
def seqK (P : Program) (O : Orc) (b : Code) (Q : Ex → Env → Prop) : Ex → Env → Prop
  | .normal, e => W P O b e Q
  | ex, e => Q ex e
theorem W_seq {a b : Code} {e : Env} {Q : Ex → Env → Prop} : W P O (.seq a b) e Q ↔ W P O a e (seqK P O b Q) := by
  constructor
  · rintro ⟨n, ex, e', h, hQ⟩
    simp only [dcode] at h
    cases ha : dcode P (dcall P O n) n a e with
    | none => rw [ha] at h; cases h
    | some y =>
      obtain ⟨ex1, e1⟩ := y
      rw [ha] at h
      refine ⟨n, ex1, e1, ha, ?_⟩
      cases ex1 with
      | normal => exact ⟨n, ex, e', h, hQ⟩
      | _ => simp at h; obtain ⟨rfl, rfl⟩ := h; exact hQ
  · rintro ⟨n, ex, e', h, hQ⟩
    cases ex with
    | normal =>
      obtain ⟨m, ex2, e2, h2, hQ2⟩ := hQ
      refine ⟨max n m, ex2, e2, ?_, hQ2⟩
      simp only [dcode, code_le (Nat.le_max_left n m) h, code_le (Nat.le_max_right n m) h2]
    | _ => exact ⟨n, _, e', by simp only [dcode, h], hQ⟩
theorem seqK_normal {b : Code} {Q : Ex → Env → Prop} {e : Env} : seqK P O b Q .normal e = W P O b e Q := rfl
theorem seqK_exit {b : Code} {Q : Ex → Env → Prop} {e : Env} {i : Nat} : seqK P O b Q (.exit i) e = Q (.exit i) e := rfl
theorem seqK_ret {b : Code} {Q : Ex → Env → Prop} {e : Env} : seqK P O b Q .ret e = Q .ret e := rfl
theorem seqK_panic {b : Code} {Q : Ex → Env → Prop} {e : Env} {v : AV} : seqK P O b Q (.panic v) e = Q (.panic v) e := rfl

def blockK (id : Nat) (Q : Ex → Env → Prop) : Ex → Env → Prop
  | .exit i, e => bif Nat.beq i id then Q .normal e else Q (.exit i) e
  | ex, e => Q ex e
theorem W_block {id : Nat} {c : Code} {e : Env} {Q : Ex → Env → Prop} : W P O (.block id c) e Q ↔ W P O c e (blockK id Q) := by
  constructor
  · rintro ⟨n, ex, e', h, hQ⟩
    simp only [dcode] at h
    cases ha : dcode P (dcall P O n) n c e with
    | none => rw [ha] at h; cases h
    | some y =>
      obtain ⟨ex1, e1⟩ := y
      rw [ha] at h
      refine ⟨n, ex1, e1, ha, ?_⟩
      cases ex1 with
      | exit i =>
        simp only [blockK] at h ⊢
        cases hb : Nat.beq i id <;> rw [hb] at h <;> simp at h <;> obtain ⟨rfl, rfl⟩ := h <;> exact hQ
      | _ => simp at h; obtain ⟨rfl, rfl⟩ := h; exact hQ
  · rintro ⟨n, ex, e', h, hQ⟩
    cases ex with
    | exit i =>
      simp only [blockK] at hQ
      cases hb : Nat.beq i id <;> rw [hb] at hQ
      · exact ⟨n, _, e', by simp only [dcode, h, hb, cond_false], hQ⟩
      · exact ⟨n, _, e', by simp only [dcode, h, hb, cond_true], hQ⟩
    | _ => exact ⟨n, _, e', by simp only [dcode, h], hQ⟩
theorem blockK_normal {id : Nat} {Q : Ex → Env → Prop} {e : Env} : blockK id Q .normal e = Q .normal e := rfl
theorem blockK_same {id : Nat} {Q : Ex → Env → Prop} {e : Env} : blockK id Q (.exit id) e = Q .normal e := by simp [blockK]
theorem blockK_ne {id i : Nat} {Q : Ex → Env → Prop} {e : Env} (h : i ≠ id) : blockK id Q (.exit i) e = Q (.exit i) e := by
  simp only [blockK]
  have : Nat.beq i id = false := by
    cases hb : Nat.beq i id with
    | false => rfl
    | true => exact absurd (Nat.eq_of_beq_eq_true hb) h
  rw [this]; rfl
theorem blockK_ret {id : Nat} {Q : Ex → Env → Prop} {e : Env} : blockK id Q .ret e = Q .ret e := rfl
theorem blockK_panic {id : Nat} {Q : Ex → Env → Prop} {e : Env} {v : AV} : blockK id Q (.panic v) e = Q (.panic v) e := rfl

def condK (P : Program) (O : Orc) (v : AV) (x y : Code) (e : Env) (Q : Ex → Env → Prop) : Prop := (v = .bool true ∧ W P O x e Q) ∨ (v = .bool false ∧ W P O y e Q)
@[congr] theorem condK_congr {v v' : AV} {x y : Code} {e : Env} {Q : Ex → Env → Prop} (h : v = v') : condK P O v x y e Q = condK P O v' x y e Q := by rw [h]
theorem condK_true {x y : Code} {e : Env} {Q : Ex → Env → Prop} : condK P O (.bool true) x y e Q ↔ W P O x e Q := by simp [condK]
theorem condK_false {x y : Code} {e : Env} {Q : Ex → Env → Prop} : condK P O (.bool false) x y e Q ↔ W P O y e Q := by simp [condK]
theorem condK_bool {b : Bool} {x y : Code} {e : Env} {Q : Ex → Env → Prop} : condK P O (.bool b) x y e Q ↔ (b = true → W P O x e Q) ∧ (b = false → W P O y e Q) := by cases b <;> simp [condK]
theorem W_cond {c : Operand} {x y : Code} {e : Env} {Q : Ex → Env → Prop} : W P O (.cond c x y) e Q ↔ condK P O (e.eval c) x y e Q := by
  constructor
  · rintro ⟨n, ex, e', h, hQ⟩
    simp only [dcode] at h
    split at h
    · rename_i hc; exact .inl ⟨hc, n, ex, e', h, hQ⟩
    · rename_i hc; exact .inr ⟨hc, n, ex, e', h, hQ⟩
    · cases h
  · rintro (⟨hc, n, ex, e', h, hQ⟩ | ⟨hc, n, ex, e', h, hQ⟩)
    · exact ⟨n, ex, e', by simp only [dcode, hc, h], hQ⟩
    · exact ⟨n, ex, e', by simp only [dcode, hc, h], hQ⟩

theorem W_skip {e : Env} {Q : Ex → Env → Prop} : W P O .skip e Q ↔ Q .normal e := ⟨fun ⟨n, ex, e', h, hQ⟩ => by simp [dcode] at h; obtain ⟨rfl, rfl⟩ := h; exact hQ, fun h => ⟨0, _, _, rfl, h⟩⟩
theorem W_label {l : Nat} {e : Env} {Q : Ex → Env → Prop} : W P O (.label l) e Q ↔ Q .normal e := ⟨fun ⟨n, ex, e', h, hQ⟩ => by simp [dcode] at h; obtain ⟨rfl, rfl⟩ := h; exact hQ, fun h => ⟨0, _, _, rfl, h⟩⟩
theorem W_exit {i : Nat} {e : Env} {Q : Ex → Env → Prop} : W P O (.exit i) e Q ↔ Q (.exit i) e := ⟨fun ⟨n, ex, e', h, hQ⟩ => by simp [dcode] at h; obtain ⟨rfl, rfl⟩ := h; exact hQ, fun h => ⟨0, _, _, rfl, h⟩⟩
theorem W_ret {e : Env} {Q : Ex → Env → Prop} : W P O .ret e Q ↔ Q .ret e := ⟨fun ⟨n, ex, e', h, hQ⟩ => by simp [dcode] at h; obtain ⟨rfl, rfl⟩ := h; exact hQ, fun h => ⟨0, _, _, rfl, h⟩⟩

/-- no jump leaves code -/
theorem loopGo_goto {f : Env → Option (Ex × Env)} (hf : ∀ e l e', f e ≠ some (.goto l, e')) : ∀ (n : Nat) (e : Env) (l : Nat) (e' : Env), loopGo f n e ≠ some (.goto l, e') := by
  intro n
  induction n with
  | zero => intro e l e' h; cases h
  | succ n ih =>
    intro e l e' h
    simp only [loopGo] at h
    split at h
    · exact ih _ _ _ h
    · exact hf _ _ _ h
theorem dops_goto {call : CallT} {ops : List Oper} : ∀ (rest : List Oper) (e : Env) (l : Nat) (e' : Env), dops P call ops rest e ≠ some (.goto l, e') := by
  intro rest
  induction rest with
  | nil => intro e l e' h; cases h
  | cons o rest ih =>
    intro e l e' h
    simp only [dops] at h
    split at h
    · cases h
    · split at h
      · exact ih _ _ _ h
      · cases h
    · split at h
      · cases h
      · split at h <;> first | exact ih _ _ _ h | cases h
      · split at h <;> first | exact ih _ _ _ h | cases h
      · cases h
      · split at h <;> first | exact ih _ _ _ h | cases h
      · split at h
        · split at h <;> first | exact ih _ _ _ h | cases h
        · split at h <;> first | exact ih _ _ _ h | cases h
        · cases h
theorem dcode_goto {call : CallT} {n : Nat} : ∀ (c : Code) (e : Env) (l : Nat) (e' : Env), dcode P call n c e ≠ some (.goto l, e') := by
  intro c
  induction c with
  | region id ops draw =>
    intro e l e' h
    cases draw with
    | false => exact dops_goto _ _ _ _ h
    | true =>
      simp only [dcode, dregion, cond_true, ddraw] at h
      split at h
      · cases h
      · rename_i m f p htr
        cases hcond : (P.follows .mixedOrders && drawOk ops.toList && chainOk (ancs ops.toList) (chgs m) && newsOk (ancs ops.toList) (news m) (chgs m) && growOk m f.s.n && chgsUnder m && readsAll P call f.s.n e.s.n (ancs ops.toList) m f.s) with
        | false => rw [hcond] at h; cases h
        | true =>
          rw [hcond] at h
          simp only [cond_true] at h
          split at h
          · cases h
          · cases hl : lastOk (ancs ops.toList) (m.length - 1) ops.toList 0 <;> rw [hl] at h <;> cases h
  | seq a b iha ihb =>
    intro e l e' h
    simp only [dcode] at h
    split at h
    · exact ihb _ _ _ h
    · exact iha _ _ _ h
  | cond q a b iha ihb =>
    intro e l e' h
    simp only [dcode] at h
    split at h
    · exact iha _ _ _ h
    · exact ihb _ _ _ h
    · cases h
  | block id a iha =>
    intro e l e' h
    simp only [dcode] at h
    split at h
    · simp only [Bool.cond_eq_ite] at h
      split at h <;> cases h
    · exact iha _ _ _ h
  | loop a iha => intro e l e' h; exact loopGo_goto iha _ _ _ _ h
  | scope a iha =>
    intro e l e' h
    simp only [dcode] at h
    split at h
    · cases h
    · exact iha _ _ _ h
  | rangeFunc f ps a b =>
    intro e l e' h
    simp only [dcode, drange] at h
    split at h
    · cases h
    · try simp only at h
      split at h
      · simp only [drangeEnd] at h
        split at h
        · split at h
          · cases h
          · try simp only at h
            split at h <;> cases h
        · cases h
      · cases h
      · cases h
  | _ => intro e l e' h; cases h
theorem W_scope {c : Code} {e : Env} {Q : Ex → Env → Prop} : W P O (.scope c) e Q ↔ W P O c e Q := by
  constructor
  · rintro ⟨n, ex, e', h, hQ⟩
    simp only [dcode] at h
    split at h
    · cases h
    · exact ⟨n, ex, e', h, hQ⟩
  · rintro ⟨n, ex, e', h, hQ⟩
    refine ⟨n, ex, e', ?_, hQ⟩
    simp only [dcode, h]
    split
    · rename_i h1; simp at h1; obtain ⟨rfl, _⟩ := h1; exact absurd h (dcode_goto _ _ _ _)
    · rfl

/-- A LOOP: a ghost value of what is behind, that grows less in some number -/
theorem W_loop {α : Type} (I : α → Env → Prop) (m : α → Nat) (a : α) {c : Code} {e : Env} {Q : Ex → Env → Prop} (h0 : I a e)
    (hs : ∀ a e, I a e → W P O c e fun ex e' => match ex with | .normal => ∃ a', m a' < m a ∧ I a' e' | ex => Q ex e') : W P O (.loop c) e Q := by
  generalize hk : m a = k
  induction k using Nat.strongRecOn generalizing a e with
  | _ k ih =>
    obtain ⟨n, ex, e', h, hQ⟩ := hs a e h0
    have key : ∀ ex, ex ≠ .normal → dcode P (dcall P O n) n c e = some (ex, e') → Q ex e' → W P O (.loop c) e Q := by
      intro ex hne h hQ
      refine ⟨n + 1, ex, e', ?_, hQ⟩
      simp only [dcode, loopGo]
      rw [code_le (Nat.le_succ n) h]
      cases ex <;> first | rfl | exact absurd rfl hne
    cases ex with
    | normal =>
      obtain ⟨a', hlt, hI⟩ := hQ
      obtain ⟨n2, ex2, e2, h2, hQ2⟩ := ih (m a') (by omega) a' hI rfl
      refine ⟨max n n2 + 1, ex2, e2, ?_, hQ2⟩
      simp only [dcode, loopGo]
      rw [code_le (by omega) h]
      simp only [dcode] at h2
      exact loopGo_mono (fun e x hx => code_le (by omega) hx) _ _ _ _ (by omega) h2
    | _ => exact key _ (by simp) h hQ

/-! ### regions -/
theorem W_region {i : Nat} {l : List Oper} {e : Env} {Q : Ex → Env → Prop} : W P O (.region i l.toArray false) e Q ↔ Wo P O l l e Q := by
  simp only [W, Wo, dcode, dregion, cond_false]

/-- what becomes of an operation's result -/
def putK (P : Program) (O : Orc) (ops : List Oper) (dst : Option Tmp) (rest : List Oper) (e : Env) (Q : Ex → Env → Prop) : ORes → Prop
  | .val v => ∃ e', e.put dst v = some e' ∧ Wo P O ops rest e' Q
  | .val' v s => ∃ e', (e.setS s).put dst v = some e' ∧ Wo P O ops rest e' Q
  | .pan v s => Q (.panic v) { e with s := s }
  | .defer d => ∃ e', (e.setDs (d :: e.ds)).put dst .undef = some e' ∧ Wo P O ops rest e' Q
  | .recov => match e.ro, e.r with
    | none, .pan v => ∃ e', (e.setR (.recd v)).put dst v = some e' ∧ Wo P O ops rest e' Q
    | none, _ => ∃ e', e.put dst .nili = some e' ∧ Wo P O ops rest e' Q
    | some _, _ => False

@[congr] theorem putK_congr {ops : List Oper} {dst : Option Tmp} {rest : List Oper} {e : Env} {Q : Ex → Env → Prop} {r r' : ORes} (h' : r = r') : putK P O ops dst rest e Q r = putK P O ops dst rest e Q r' := by rw [h']
@[congr] theorem seqK_congr {b : Code} {Q : Ex → Env → Prop} {x x' : Ex} {e e' : Env} (h : x = x') (h' : e = e') : seqK P O b Q x e = seqK P O b Q x' e' := by rw [h, h']
@[congr] theorem blockK_congr {i : Nat} {Q : Ex → Env → Prop} {x x' : Ex} {e e' : Env} (h : x = x') (h' : e = e') : blockK i Q x e = blockK i Q x' e' := by rw [h, h']
theorem Wo_nil {ops : List Oper} {e : Env} {Q : Ex → Env → Prop} : Wo P O ops [] e Q ↔ Q .normal e := ⟨fun ⟨n, ex, e', h, hQ⟩ => by simp [dops] at h; obtain ⟨rfl, rfl⟩ := h; exact hQ, fun h => ⟨0, _, _, rfl, h⟩⟩

theorem Wo_run {ops : List Oper} {o : Oper} {rest : List Oper} {e : Env} {Q : Ex → Env → Prop} (hw : awanted ops o e = some true) : Wo P O ops (o :: rest) e Q ↔ Wop P O o.op e (putK P O ops o.dst rest e Q) := by
  have hle : ∀ {n m : Nat}, n ≤ m → ∀ {l : List Oper} {e : Env} {x : Ex × Env}, dops P (dcall P O n) ops l e = some x → dops P (dcall P O m) ops l e = some x := fun h _ _ _ hx => dops_mono (dcall_mono _ _ h) _ _ _ hx
  have hop : ∀ {n m : Nat}, n ≤ m → ∀ {r : ORes}, dop P (dcall P O n) o e = some r → dop P (dcall P O m) o e = some r := fun h _ hx => dop_mono (dcall_mono _ _ h) hx
  constructor
  · rintro ⟨n, ex, e', h, hQ⟩
    simp only [dops, hw] at h
    cases hd : dop P (dcall P O n) o e with
    | none => rw [hd] at h; cases h
    | some r =>
      rw [hd] at h
      refine ⟨n, r, hd, ?_⟩
      cases r with
      | val v => simp only at h; split at h <;> first | exact ⟨_, by assumption, n, ex, e', h, hQ⟩ | cases h
      | val' v s => simp only at h; split at h <;> first | exact ⟨_, by assumption, n, ex, e', h, hQ⟩ | cases h
      | pan v s => simp at h; obtain ⟨rfl, rfl⟩ := h; exact hQ
      | defer q => simp only at h; split at h <;> first | exact ⟨_, by assumption, n, ex, e', h, hQ⟩ | cases h
      | recov =>
        simp only at h
        simp only [putK]
        split at h
        · rename_i h1 h2; simp only [h1, h2]
          split at h <;> first | exact ⟨_, by assumption, n, ex, e', h, hQ⟩ | cases h
        · rename_i h1 h2
          have : ∃ e', e.put o.dst .nili = some e' ∧ Wo P O ops rest e' Q := by
            split at h <;> first | exact ⟨_, by assumption, n, ex, e', h, hQ⟩ | cases h
          rw [h1]
          cases hr : e.r with
          | pan v => exact absurd hr (h2 v)
          | _ => exact this
        · cases h
  · rintro ⟨n, r, hd, hK⟩
    have hd' : dop P (dcall P O n) o e = some r := hd
    have key : ∀ {m : Nat} {ex : Ex} {e1 e' : Env}, dops P (dcall P O m) ops rest e1 = some (ex, e') → Q ex e' → (∀ k, max n m = k → dop P (dcall P O k) o e = some r → dops P (dcall P O k) ops rest e1 = some (ex, e') → dops P (dcall P O k) ops (o :: rest) e = some (ex, e')) → Wo P O ops (o :: rest) e Q :=
      fun h1 h2 h3 => ⟨_, _, _, h3 _ rfl (hop (Nat.le_max_left _ _) hd') (hle (Nat.le_max_right _ _) h1), h2⟩
    cases r with
    | val v => obtain ⟨e1, hp, m, ex, e', h1, h2⟩ := hK; exact key h1 h2 fun k _ g1 g2 => by simp only [dops, hw, g1, hp, g2]
    | val' v s => obtain ⟨e1, hp, m, ex, e', h1, h2⟩ := hK; exact key h1 h2 fun k _ g1 g2 => by simp only [dops, hw, g1, hp, g2]
    | pan v s => exact ⟨n, _, _, by simp only [dops, hw, hd'], hK⟩
    | defer q => obtain ⟨e1, hp, m, ex, e', h1, h2⟩ := hK; exact key h1 h2 fun k _ g1 g2 => by simp only [dops, hw, g1, hp, g2]
    | recov =>
      simp only [putK] at hK
      split at hK
      · rename_i q1 q2
        obtain ⟨e1, hp, m, ex, e', h1, h2⟩ := hK; exact key h1 h2 fun k _ g1 g2 => by simp only [dops, hw, g1, q1, q2, hp, g2]
      · rename_i q1 q2
        obtain ⟨e1, hp, m, ex, e', h1, h2⟩ := hK
        refine key h1 h2 fun k _ g1 g2 => ?_
        simp only [dops, hw, g1, q1]
        cases hr : e.r with
        | pan v => exact absurd hr (q2 v)
        | _ => simp only [hp, g2]
      · exact hK.elim

theorem Wo_skip {ops : List Oper} {o : Oper} {rest : List Oper} {e : Env} {Q : Ex → Env → Prop} (hw : awanted ops o e = some false) : Wo P O ops (o :: rest) e Q ↔ ∃ e', e.put o.dst .undef = some e' ∧ Wo P O ops rest e' Q := by
  constructor
  · rintro ⟨n, ex, e', h, hQ⟩
    simp only [dops, hw] at h
    split at h
    · rename_i hp; exact ⟨_, hp, n, ex, e', h, hQ⟩
    · cases h
  · rintro ⟨e1, hp, n, ex, e', h, hQ⟩
    exact ⟨n, ex, e', by simp only [dops, hw, hp, h], hQ⟩

theorem Wo_cons {ops : List Oper} {dst : Option Tmp} {op : Op} {ty : TypeId} {pos : String} {after : Array Edge} {rest : List Oper} {e : Env} {Q : Ex → Env → Prop} :
    Wo P O ops ({ dst := dst, op := op, type := ty, pos := pos, after := after, guard := none } :: rest) e Q ↔ Wop P O op e (putK P O ops dst rest e Q) := Wo_run rfl

/-- a guard's value: as wanted, not so, or of an operation that was not run -/
def guardK (P : Program) (O : Orc) (v : AV) (want : Bool) (op : Op) (ops : List Oper) (dst : Option Tmp) (rest : List Oper) (e : Env) (Q : Ex → Env → Prop) : Prop := match v with
  | .bool b => (b = want → Wop P O op e (putK P O ops dst rest e Q)) ∧ (b = !want → putK P O ops dst rest e Q (.val .undef))
  | .tuple _ => putK P O ops dst rest e Q (.val .undef)
  | _ => False
section
variable {want : Bool} {op : Op} {ops : List Oper} {dst : Option Tmp} {rest : List Oper} {e : Env} {Q : Ex → Env → Prop}
@[congr] theorem guardK_congr {v v' : AV} (h : v = v') : guardK P O v want op ops dst rest e Q = guardK P O v' want op ops dst rest e Q := by rw [h]
theorem guardK_tt : guardK P O (.bool true) true op ops dst rest e Q ↔ Wop P O op e (putK P O ops dst rest e Q) := by simp [guardK]
theorem guardK_tf : guardK P O (.bool true) false op ops dst rest e Q ↔ putK P O ops dst rest e Q (.val .undef) := by simp [guardK]
theorem guardK_ft : guardK P O (.bool false) true op ops dst rest e Q ↔ putK P O ops dst rest e Q (.val .undef) := by simp [guardK]
theorem guardK_ff : guardK P O (.bool false) false op ops dst rest e Q ↔ Wop P O op e (putK P O ops dst rest e Q) := by simp [guardK]
theorem guardK_b1 {b : Bool} : guardK P O (.bool b) true op ops dst rest e Q ↔ (b = true → Wop P O op e (putK P O ops dst rest e Q)) ∧ (b = false → putK P O ops dst rest e Q (.val .undef)) := .rfl
theorem guardK_b0 {b : Bool} : guardK P O (.bool b) false op ops dst rest e Q ↔ (b = false → Wop P O op e (putK P O ops dst rest e Q)) ∧ (b = true → putK P O ops dst rest e Q (.val .undef)) := .rfl
theorem guardK_tuple {l : List AV} : guardK P O (.tuple l) want op ops dst rest e Q ↔ putK P O ops dst rest e Q (.val .undef) := .rfl
end
def gdst : List Oper → Nat → Option Nat
  | [], _ => none
  | o :: _, 0 => o.dst
  | _ :: l, n + 1 => gdst l n
theorem gdst_eq : ∀ (ops : List Oper) (j : Nat), gdst ops j = ops[j]?.bind (·.dst)
  | [], _ => rfl
  | o :: _, 0 => rfl
  | _ :: l, n + 1 => by simp only [gdst, List.getElem?_cons_succ]; exact gdst_eq l n
theorem gdst_zero {dst : Option Tmp} {op : Op} {ty : TypeId} {pos : String} {after : Array Edge} {g : Option (Nat × Bool)} {l : List Oper} : gdst ({ dst := dst, op := op, type := ty, pos := pos, after := after, guard := g } :: l) 0 = dst := rfl
theorem gdst_succ {o : Oper} {l : List Oper} {n : Nat} : gdst (o :: l) (n + 1) = gdst l n := rfl
def gval (t : Tr AV) : Option Nat → AV
  | some d => t.val d
  | none => .tuple []
theorem gval_some {t : Tr AV} {d : Nat} : gval t (some d) = t.val d := rfl

theorem Wo_guard {ops : List Oper} {dst : Option Tmp} {op : Op} {ty : TypeId} {pos : String} {after : Array Edge} {j : Nat} {want : Bool} {rest : List Oper} {e : Env} {Q : Ex → Env → Prop}   :
    Wo P O ops ({ dst := dst, op := op, type := ty, pos := pos, after := after, guard := some (j, want) } :: rest) e Q ↔
      guardK P O (gval e.t (gdst ops j)) want op ops dst rest e Q := by
  rw [gdst_eq]
  cases hd : ops[j]?.bind (·.dst) with
  | none =>
    have haw : awanted ops { dst := dst, op := op, type := ty, pos := pos, after := after, guard := some (j, want) } e = some false := by
      simp only [awanted]
      cases hj : ops[j]? with
      | none => rfl
      | some g => rw [hj] at hd; simp only [Option.bind_some] at hd; simp only [hd]
    rw [Wo_skip haw]; rfl
  | some d =>
  show _ ↔ guardK P O (e.t.val d) want op ops dst rest e Q
  have haw : awanted ops { dst := dst, op := op, type := ty, pos := pos, after := after, guard := some (j, want) } e = match e.t.get d with | some (.bool b) => some (b == want) | some (.tuple _) => some false | _ => none := by
    simp only [awanted]
    cases hj : ops[j]? with
    | none => rw [hj] at hd; cases hd
    | some g => rw [hj] at hd; simp only [Option.bind_some] at hd; simp only [hd]; cases e.t.get d with | none => rfl | some v => cases v <;> rfl
  cases ht : e.t.get d with
  | none =>
    have hv : e.t.val d = .top := by simp [Tr.val, ht]
    rw [hv]
    rw [ht] at haw
    refine ⟨fun ⟨n, ex, e', h, hQ⟩ => ?_, fun h => h.elim⟩
    simp only [dops, haw] at h
    cases h
  | some v =>
    have hv : e.t.val d = v := by simp [Tr.val, ht]
    rw [hv]
    rw [ht] at haw
    clear hv ht
    cases v with
    | bool b =>
      simp only at haw
      cases hb : (b == want) with
      | true =>
        rw [hb] at haw
        have : b = want := by simpa using hb
        subst this
        rw [Wo_run haw]
        simp [guardK]
      | false =>
        rw [hb] at haw
        rw [Wo_skip haw]
        have : b ≠ want := by simpa using hb
        have h2 : b = !want := by cases b <;> cases want <;> simp_all
        simp [guardK, this, h2]
        rfl
    | tuple l => rw [Wo_skip haw]; rfl
    | _ => exact ⟨fun ⟨n, ex, e', h, hQ⟩ => by (simp only [dops, haw] at h; cases h), fun h => h.elim⟩

theorem put_some {nt : Nat} {ro : Option Nat} {fn : FuncId} {t : Tr AV} {ds : List ADef} {s : Sto} {r : ARec} {d : Nat} {v : AV} {R : Env → Prop} (h : d < nt) :
    (∃ e', (Env.mk nt ro fn t ds s r).put (some d) v = some e' ∧ R e') ↔ R ⟨nt, ro, fn, t.set d v, ds, s, r⟩ := by
  have : (Env.mk nt ro fn t ds s r).put (some d) v = some ⟨nt, ro, fn, t.set d v, ds, s, r⟩ := by
    simp only [Env.put]
    have : Nat.blt d nt = true := by simpa using h
    rw [this]; rfl
  rw [this]; simp
theorem put_none {e : Env} {v : AV} {R : Env → Prop} : (∃ e', e.put none v = some e' ∧ R e') ↔ R e := by simp [Env.put]

variable {nt : Nat} {ro : Option Nat} {fn : FuncId} {t : Tr AV} {ds : List ADef} {s : Sto} {r : ARec} {ops rest : List Oper} {Q : Ex → Env → Prop}
theorem putK_val {d : Nat} {v : AV} (h : d < nt) : putK P O ops (some d) rest ⟨nt, ro, fn, t, ds, s, r⟩ Q (.val v) ↔ Wo P O ops rest ⟨nt, ro, fn, t.set d v, ds, s, r⟩ Q := put_some h
theorem putK_val0 {e : Env} {v : AV} : putK P O ops none rest e Q (.val v) ↔ Wo P O ops rest e Q := put_none
theorem putK_val' {d : Nat} {v : AV} {s' : Sto} (h : d < nt) : putK P O ops (some d) rest ⟨nt, ro, fn, t, ds, s, r⟩ Q (.val' v s') ↔ Wo P O ops rest ⟨nt, ro, fn, t.set d v, ds, s', r⟩ Q := put_some h
theorem putK_val'0 {v : AV} {s' : Sto} : putK P O ops none rest ⟨nt, ro, fn, t, ds, s, r⟩ Q (.val' v s') ↔ Wo P O ops rest ⟨nt, ro, fn, t, ds, s', r⟩ Q := put_none
theorem putK_pan {dst : Option Tmp} {v : AV} {s' : Sto} : putK P O ops dst rest ⟨nt, ro, fn, t, ds, s, r⟩ Q (.pan v s') ↔ Q (.panic v) ⟨nt, ro, fn, t, ds, s', r⟩ := .rfl
theorem skip_some {d : Nat} {v : AV} (h : d < nt) : (∃ e', (Env.mk nt ro fn t ds s r).put (some d) v = some e' ∧ Wo P O ops rest e' Q) ↔ Wo P O ops rest ⟨nt, ro, fn, t.set d v, ds, s, r⟩ Q := put_some h

/-! ### operations -/
theorem Wop_of {op : Op} {e : Env} {K : ORes → Prop} {r : Option ORes} (h : ∀ call, dopOf P call op e = r) : Wop P O op e K ↔ oKr r K := by
  constructor
  · rintro ⟨n, x, h1, h2⟩; exact ⟨x, by rw [← h1, h], h2⟩
  · rintro ⟨x, h1, h2⟩; exact ⟨0, x, by rw [h, h1], h2⟩
theorem Wop_valO {op : Op} {e : Env} {K : ORes → Prop} {x : Option AV} (h : ∀ call, dopOf P call op e = valO x) : Wop P O op e K ↔ oKv (x) K := by
  rw [Wop_of h]
  cases x <;> simp [valO, oKv, oKr]
theorem Wop_skipO {op : Op} {e : Env} {K : ORes → Prop} {x : Option Sto} (h : ∀ call, dopOf P call op e = skipO x) : Wop P O op e K ↔ oKs (x) K := by
  rw [Wop_of h]
  cases x <;> simp [skipO, oKs, oKr]

variable {e : Env} {K : ORes → Prop}
theorem Wop_move {x : Operand} : Wop P O (.move x) e K ↔ K (.val (e.eval x)) := by rw [Wop_of (r := some (.val (e.eval x))) fun _ => rfl]; simp [oKr]
theorem Wop_assign {x : Operand} : Wop P O (.assign x) e K ↔ K (.val (e.eval x)) := by rw [Wop_of (r := some (.val (e.eval x))) fun _ => rfl]; simp [oKr]
def pickV (c a b : AV) : Option AV := match c with
  | .bool true => some a
  | .bool false => some b
  | _ => none
theorem Wop_pick {c a b : Operand} : Wop P O (.pick c a b) e K ↔ oKv (pickV (e.eval c) (e.eval a) (e.eval b)) K := by
  refine Wop_valO fun call => ?_
  show dopOf P call (.pick c a b) e = _
  simp only [dopOf, dop]
  cases h : e.eval c with
  | bool b => cases b <;> rfl
  | _ => rfl
theorem pickV_true {a b : AV} : pickV (.bool true) a b = some a := rfl
theorem pickV_false {a b : AV} : pickV (.bool false) a b = some b := rfl
theorem Wop_binOp {op : BinOp} {ty uy : TypeId} {x y : Operand} : Wop P O (.binOp op ty x y uy) e K ↔ oKv (abin P op ty x y (e.eval x) (e.eval y)) K := Wop_valO fun _ => rfl
theorem Wop_unOp {op : UnOp} {ty : TypeId} {x : Operand} : Wop P O (.unOp op ty x) e K ↔ oKv (aun op (e.eval x)) K := Wop_valO fun _ => rfl
theorem Wop_load {ty : TypeId} {a : Operand} : Wop P O (.load ty a) e K ↔ oKv (aload P e.s ty (e.eval a)) K := Wop_valO fun _ => rfl
theorem Wop_store {ty : TypeId} {a x : Operand} : Wop P O (.store ty a x) e K ↔ oKs (astore P e.s ty (e.eval a) (e.eval x)) K := Wop_skipO fun _ => rfl
theorem Wop_slice {ty : TypeId} {x : Operand} {lo hi mx : Option Operand} : Wop P O (.slice ty x lo hi mx) e K ↔ oKv (aslice P ty (e.eval x) (lo.map e.eval) (hi.map e.eval) (mx.map e.eval)) K := Wop_valO fun _ => rfl
theorem Wop_fieldAddr {ty : TypeId} {x : Operand} {f : Nat} : Wop P O (.fieldAddr ty x f) e K ↔ oKv (afieldAddr P ty (e.eval x) f) K := Wop_valO fun _ => rfl
theorem Wop_field {ty : TypeId} {x : Operand} {f : Nat} : Wop P O (.field ty x f) e K ↔ oKv (afield P ty (e.eval x) f) K := Wop_valO fun _ => rfl
theorem Wop_indexAddr {ty : TypeId} {x i : Operand} : Wop P O (.indexAddr ty x i) e K ↔ oKv (aindexAddr P ty (e.eval x) (e.eval i)) K := Wop_valO fun _ => rfl
theorem Wop_index {ty : TypeId} {x i : Operand} : Wop P O (.index ty x i) e K ↔ oKv (aindex P ty (e.eval x) (e.eval i)) K := Wop_valO fun _ => rfl
theorem Wop_lookup {ty : TypeId} {m k : Operand} {ok : Bool} : Wop P O (.lookup ty m k ok) e K ↔ oKv (alookup P e.s ty (e.eval m) (e.eval k) ok) K := Wop_valO fun _ => rfl
theorem Wop_mapUpdate {ty : TypeId} {m k x : Operand} : Wop P O (.mapUpdate ty m k x) e K ↔ oKs (amapUpdate P e.s ty (e.eval m) (e.eval k) (e.eval x)) K := Wop_skipO fun _ => rfl
theorem Wop_build {ty : TypeId} {parts : Array (Nat × Operand)} : Wop P O (.build ty parts) e K ↔ oKv (abuild P ty (parts.toList.map fun p => (p.1, e.eval p.2))) K := Wop_valO fun _ => rfl
theorem Wop_convert {src dst : TypeId} {x : Operand} : Wop P O (.convert src dst x) e K ↔ oKr (aconv P e.s src dst (e.eval x)) K := Wop_of fun _ => rfl
def anilCheck : AV → Option AV
  | .ptr i g o => some (.ptr i g o)
  | .pf v => some (.pf v)
  | .func (.func f) a c => some (.func (.func f) a c)
  | .iface t v => some (.iface t v)
  | _ => none
theorem Wop_nilCheck {x : Operand} : Wop P O (.nilCheck x) e K ↔ oKv (anilCheck (e.eval x)) K := by
  refine Wop_valO fun call => ?_
  show dopOf P call (.nilCheck x) e = _
  simp only [dopOf, dop]
  cases h : e.eval x with
  | func f a c => cases f <;> rfl
  | _ => rfl
theorem Wop_makeFunc {f : FuncId} {first cap : Array Operand} : Wop P O (.makeFunc (.func f) first cap) e K ↔ K (.val (.func (.func f) (first.toList.map e.eval) (cap.toList.map e.eval))) := by
  rw [Wop_of (r := some (.val (.func (.func f) (first.toList.map e.eval) (cap.toList.map e.eval)))) fun _ => rfl]; simp [oKr]
theorem Wop_extract {x : Operand} {i : Nat} : Wop P O (.extract x i) e K ↔ oKv ((match e.eval x with | .tuple vs => vs[i]? | _ => none)) K := by
  refine Wop_valO fun call => ?_
  show dopOf P call (.extract x i) e = _
  simp only [dopOf, dop]
  cases h : e.eval x <;> rfl
theorem Wop_builtin {b : Builtin} {args : Array Operand} {ts : Array TypeId} : Wop P O (.call { callee := .builtin b, args := args, argTypes := ts }) e K ↔ oKr (abuiltin P e.s b ts (args.toList.map e.eval)) K := Wop_of fun _ => rfl
/-- a new object of known cells -/
def ob (cs : List AV) : AObj := .cells 0 cs.length (Tr.leaf.lay 0 cs)
theorem anew_ok {s : Sto} {cs : List AV} : anew s cs = if cs.all AV.isCell = true then some (s.n, s.push (ob cs)) else none := by
  unfold anew
  cases cs.all AV.isCell <;> rfl
def AV.isTop : AV → Bool
  | .top => true
  | _ => false
/-- it is so, and -/
def aK (b : Bool) (A : Prop) : Prop := b = true ∧ A
theorem aK_true {A : Prop} : aK true A ↔ A := by simp [aK]
@[congr] theorem aK_congr {b b' : Bool} {A : Prop} (h : b = b') : aK b A = aK b' A := by rw [h]
def boxK (v : AV) (s : Sto) (K : ORes → Prop) : Prop := v.isTop = false ∧ v.cells.all AV.isCell = true ∧ K (.val' (.ptr s.n 0 0) (s.push (ob v.cells)))
@[congr] theorem boxK_congr {v v' : AV} {s s' : Sto} {K : ORes → Prop} (h : v = v') (h' : s = s') : boxK v s K = boxK v' s' K := by rw [h, h']
theorem boxK_agg {l : List AV} {s : Sto} {K : ORes → Prop} : boxK (.agg l) s K ↔ aK (l.all AV.isCell) (K (.val' (.ptr s.n 0 0) (s.push (ob l)))) := by simp [boxK, AV.isTop, AV.cells, aK]
theorem boxK_cell {v : AV} {s : Sto} {K : ORes → Prop} (h : v.isCell = true) : boxK v s K ↔ K (.val' (.ptr s.n 0 0) (s.push (ob [v]))) := by
  have h1 : v.isTop = false := by cases v <;> first | rfl | cases h
  have h2 : v.cells = [v] := by cases v <;> first | rfl | cases h
  simp [boxK, h1, h2, h]
def allocK (z : Option AV) (s : Sto) (K : ORes → Prop) : Prop := ∃ v, z = some v ∧ v.cells.all AV.isCell = true ∧ K (.val' (.ptr s.n 0 0) (s.push (ob v.cells)))
@[congr] theorem allocK_congr {z z' : Option AV} {s s' : Sto} {K : ORes → Prop} (h : z = z') (h' : s = s') : allocK z s K = allocK z' s' K := by rw [h, h']
theorem allocK_agg {l : List AV} {s : Sto} {K : ORes → Prop} : allocK (some (.agg l)) s K ↔ aK (l.all AV.isCell) (K (.val' (.ptr s.n 0 0) (s.push (ob l)))) := by simp [allocK, AV.cells, aK]
theorem allocK_cell {v : AV} {s : Sto} {K : ORes → Prop} (h : v.isCell = true) : allocK (some v) s K ↔ K (.val' (.ptr s.n 0 0) (s.push (ob [v]))) := by
  have h2 : v.cells = [v] := by cases v <;> first | rfl | cases h
  simp [allocK, h2, h]
theorem Wop_alloc {ty : TypeId} : Wop P O (.alloc ty) e K ↔ allocK (tzero P ty) e.s K := by
  rw [Wop_of (r := match tzero P ty with | some z => (match anew e.s z.cells with | some (id, s) => some (.val' (.ptr id 0 0) s) | none => none) | none => none) fun _ => rfl]
  cases h : tzero P ty with
  | none => simp [oKr, allocK]
  | some z =>
    simp only [oKr, allocK, Option.some.injEq, exists_eq_left', anew_ok]
    by_cases hc : z.cells.all AV.isCell = true <;> simp [hc]
theorem Wop_box {ty : TypeId} {x : Operand} : Wop P O (.box ty x) e K ↔ boxK (e.eval x) e.s K := by
  have : ∀ call, dopOf P call (.box ty x) e = match e.eval x with | .top => none | v => (match anew e.s v.cells with | some (id, s) => some (.val' (.ptr id 0 0) s) | none => none) := fun _ => rfl
  rw [Wop_of this]
  generalize e.eval x = v
  by_cases hv : v = .top
  · subst hv; simp [AV.isTop, boxK, oKr]
  · have h1 : v.isTop = false := by cases v <;> first | rfl | exact absurd rfl hv
    have : (match v with | .top => none | v => (match anew e.s v.cells with | some (id, s) => some (ORes.val' (.ptr id 0 0) s) | none => none)) = (match anew e.s v.cells with | some (id, s) => some (ORes.val' (.ptr id 0 0) s) | none => none) := by
      cases v <;> first | rfl | exact absurd rfl hv
    rw [this, anew_ok]
    by_cases hc : v.cells.all AV.isCell = true <;> simp [hc, boxK, oKr, h1]

/-! ### calls -/
def callK (s : Sto) (K : ORes → Prop) : CRes → Prop
  | .ret v none => K (.val v)
  | .ret v (some s') => K (.val' v s')
  | .pan v none => K (.pan v s)
  | .pan v (some s') => K (.pan v s')
theorem callK_ret {s : Sto} {v : AV} : callK s K (.ret v none) = K (.val v) := rfl
theorem callK_ret' {s s' : Sto} {v : AV} : callK s K (.ret v (some s')) = K (.val' v s') := rfl
theorem callK_pan {s : Sto} {v : AV} : callK s K (.pan v none) = K (.pan v s) := rfl
theorem callK_pan' {s s' : Sto} {v : AV} : callK s K (.pan v (some s')) = K (.pan v s') := rfl
theorem Wop_call {f : Operand} {args : Array Operand} {ts : Array TypeId} : Wop P O (.call { callee := .value f, args := args, argTypes := ts }) e K ↔ Wcall P O (e.eval f) (args.toList.map e.eval) e.s (callK e.s K) := by
  have hd : ∀ n, dopOf P (dcall P O n) (.call { callee := .value f, args := args, argTypes := ts }) e = ofCall e.s (dcall P O n (e.eval f) (args.toList.map e.eval) e.s .no) := fun _ => rfl
  constructor
  · rintro ⟨n, r, h1, h2⟩
    rw [hd] at h1
    cases hc : dcall P O n (e.eval f) (args.toList.map e.eval) e.s .no with
    | none => rw [hc] at h1; cases h1
    | some y =>
      obtain ⟨res, rr⟩ := y
      rw [hc] at h1
      refine ⟨n, res, rr, hc, ?_⟩
      cases res with
      | ret v so => cases so <;> simp [ofCall] at h1 <;> subst h1 <;> exact h2
      | pan v so => cases so <;> simp [ofCall] at h1 <;> subst h1 <;> exact h2
  · rintro ⟨n, res, rr, h1, h2⟩
    cases res with
    | ret v so => cases so with
      | none => exact ⟨n, _, by rw [hd, h1]; rfl, h2⟩
      | some s' => exact ⟨n, _, by rw [hd, h1]; rfl, h2⟩
    | pan v so => cases so with
      | none => exact ⟨n, _, by rw [hd, h1]; rfl, h2⟩
      | some s' => exact ⟨n, _, by rw [hd, h1]; rfl, h2⟩

/-- a known call -/
def orcK (o : Option CRes) (K : CRes → Prop) (R : Prop) : Prop := match o with
  | some r => K r
  | none => R
theorem orcK_some {c : CRes} {K : CRes → Prop} {R : Prop} : orcK (some c) K R = K c := rfl
@[congr] theorem orcK_congr {o o' : Option CRes} {K : CRes → Prop} {R : Prop} (h : o = o') : orcK o K R = orcK o' K R := by rw [h]
/-- a call that is not known is run -/
def Wrun (P : Program) (O : Orc) (fv : AV) (args : List AV) (s : Sto) (K : CRes → Prop) : Prop := ∃ n res rr, (match atarget P s fv args with
    | some (.fn f args) => dfunc P (dcall P O n) n f args s .no
    | some (.round l args) => dround P (dcall P O n) n l args s
    | none => none) = some (res, rr) ∧ K res
theorem Wcall_func {g : FuncId} {first cap args : List AV} {s : Sto} {K : CRes → Prop} :
    Wcall P O (.func (.func g) first cap) args s K ↔ orcK (O g (first ++ args ++ cap) s) K (Wrun P O (.func (.func g) first cap) args s K) := by
  have hg : oget O (.func (.func g) first cap) args s .no = O g (first ++ args ++ cap) s := rfl
  cases ho : O g (first ++ args ++ cap) s with
  | some c =>
    simp only [orcK]
    constructor
    · rintro ⟨n, res, rr, h1, h2⟩
      cases n with
      | zero => cases h1
      | succ n =>
        simp only [dcall, hg, ho] at h1
        simp at h1; obtain ⟨rfl, rfl⟩ := h1; exact h2
    · intro h
      exact ⟨1, c, .no, by simp only [dcall, hg, ho], h⟩
  | none =>
    simp only [orcK]
    constructor
    · rintro ⟨n, res, rr, h1, h2⟩
      cases n with
      | zero => cases h1
      | succ n =>
        simp only [dcall, hg, ho] at h1
        exact ⟨n, res, rr, h1, h2⟩
    · rintro ⟨n, res, rr, h1, h2⟩
      exact ⟨n + 1, res, rr, by simp only [dcall, hg, ho]; exact h1, h2⟩

end

/-- what is known, function by function -/
abbrev Ent := FuncId × (List AV → Sto → Option CRes)
def orcL : List Ent → Orc
  | [], _, _, _ => none
  | x :: L, f, args, s => bif Nat.beq x.1 f then x.2 args s else orcL L f args s
theorem orcL_same {f : FuncId} {F : List AV → Sto → Option CRes} {L : List Ent} {args : List AV} {s : Sto} : orcL ((f, F) :: L) f args s = F args s := by simp [orcL]
theorem orcL_ne {f g : FuncId} {F : List AV → Sto → Option CRes} {L : List Ent} {args : List AV} {s : Sto} (h : g ≠ f) : orcL ((g, F) :: L) f args s = orcL L f args s := by
  have : Nat.beq g f = false := by
    cases hb : Nat.beq g f with
    | false => rfl
    | true => exact absurd (Nat.eq_of_beq_eq_true hb) h
  simp [orcL, this]
def ESound (P : Program) (x : Ent) : Prop := ∀ args s res, x.2 args s = some res → Sound P x.1 args s res
theorem orcL_ok {P : Program} {L : List Ent} (h : ∀ x ∈ L, ESound P x) : OSound P (orcL L) := by
  intro f args s res ho
  induction L with
  | nil => cases ho
  | cons x L ih =>
    unfold orcL at ho
    cases hb : Nat.beq x.1 f with
    | true =>
      rw [hb] at ho
      have := h x (List.mem_cons_self ..) args s res ho
      rw [Nat.eq_of_beq_eq_true hb] at this
      exact this
    | false => rw [hb] at ho; exact ih (fun x hx => h x (List.mem_cons_of_mem _ hx)) ho
theorem elist_nil {P : Program} : ∀ x ∈ ([] : List Ent), ESound P x := fun _ h => nomatch h
theorem elist_cons {P : Program} {x : Ent} {L : List Ent} (h : ESound P x) (h' : ∀ x ∈ L, ESound P x) : ∀ y ∈ x :: L, ESound P y := fun y hy => by
  rcases List.mem_cons.1 hy with rfl | hy
  · exact h
  · exact h' y hy

end
end Go.Abs
