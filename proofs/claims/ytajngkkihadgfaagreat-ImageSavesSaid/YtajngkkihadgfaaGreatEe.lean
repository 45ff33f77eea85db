/-
  The abstract machine: a walk through a region that draws its order.
-/
import Derived.Test.YtajngkkihadgfaaGreatEd
set_option linter.unusedVariables false
set_option linter.unusedSimpArgs false
namespace Go.Abs
noncomputable section
def UnderE (n : Nat) (v : AV) : Prop := ∃ d, v.under n d = true
theorem under_mono {n m : Nat} (h : n ≤ m) : ∀ (d k : Nat) (v : AV), d ≤ k → v.under n d = true → v.under m k = true := by
  intro d
  induction d with
  | zero => intro k v _ hv; simp [AV.under] at hv
  | succ d ih =>
    intro k v hk hv
    obtain ⟨k, rfl⟩ : ∃ j, k = j + 1 := ⟨k - 1, by omega⟩
    have hl : ∀ {l : List AV}, l.all (AV.under n d) = true → l.all (AV.under m k) = true := fun hl => List.all_eq_true.2 fun x hx => ih k x (by omega) (List.all_eq_true.1 hl x hx)
    cases v with
    | ptr i g o => simp only [AV.under, Nat.blt_eq] at hv ⊢; omega
    | sl i g o l c => simp only [AV.under, Nat.blt_eq] at hv ⊢; omega
    | map i => simp only [AV.under, Nat.blt_eq] at hv ⊢; omega
    | pf v => simp only [AV.under] at hv ⊢; exact ih k v (by omega) hv
    | iface t v => simp only [AV.under] at hv ⊢; exact ih k v (by omega) hv
    | fz l c => simp only [AV.under] at hv ⊢; exact hl hv
    | agg l => simp only [AV.under] at hv ⊢; exact hl hv
    | tuple l => simp only [AV.under] at hv ⊢; exact hl hv
    | func f a c =>
      simp only [AV.under, Bool.and_eq_true] at hv ⊢
      refine ⟨⟨?_, hl hv.1.2⟩, hl hv.2⟩
      have := hv.1.1
      cases f <;> first | rfl | (simp only [Nat.blt_eq] at this ⊢; omega)
    | _ => rfl
theorem UnderE.mono {n m : Nat} {v : AV} (h : UnderE n v) (hn : n ≤ m) : UnderE m v := let ⟨d, hd⟩ := h; ⟨d, under_mono hn d d v (Nat.le_refl _) hd⟩
theorem UnderE.und {n : Nat} {v : AV} (h : UnderE n v) : Und n v := fun σ V hV => let ⟨d, hd⟩ := h; VR.cut d v V hd hV
theorem underE_list {n : Nat} {l : List AV} (h : ∀ x ∈ l, UnderE n x) : ∃ d, l.all (AV.under n d) = true := by
  induction l with
  | nil => exact ⟨0, rfl⟩
  | cons a l ih =>
    obtain ⟨d, hd⟩ := ih fun x hx => h x (List.mem_cons_of_mem _ hx)
    obtain ⟨k, hk⟩ := h a (List.mem_cons_self ..)
    refine ⟨max d k, List.all_eq_true.2 fun x hx => ?_⟩
    rcases List.mem_cons.1 hx with rfl | hx
    · exact under_mono (Nat.le_refl n) k _ _ (Nat.le_max_right _ _) hk
    · exact under_mono (Nat.le_refl n) d _ _ (Nat.le_max_left _ _) (List.all_eq_true.1 hd x hx)
theorem underE_agg {n : Nat} {l : List AV} (h : ∀ x ∈ l, UnderE n x) : UnderE n (.agg l) := let ⟨d, hd⟩ := underE_list h; ⟨d + 1, hd⟩
theorem underE_tuple {n : Nat} {l : List AV} (h : ∀ x ∈ l, UnderE n x) : UnderE n (.tuple l) := let ⟨d, hd⟩ := underE_list h; ⟨d + 1, hd⟩
theorem underE_fz {n : Nat} {l : List AV} {c : Bool} (h : ∀ x ∈ l, UnderE n x) : UnderE n (.fz l c) := let ⟨d, hd⟩ := underE_list h; ⟨d + 1, hd⟩
theorem underE_pf {n : Nat} {v : AV} (h : UnderE n v) : UnderE n (.pf v) := let ⟨d, hd⟩ := h; ⟨d + 1, hd⟩
theorem underE_iface {n : Nat} {t : TypeId} {v : AV} (h : UnderE n v) : UnderE n (.iface t v) := let ⟨d, hd⟩ := h; ⟨d + 1, hd⟩
theorem underE_func {n : Nat} {f : FuncId} {a c : List AV} (h : ∀ x ∈ a, UnderE n x) (h' : ∀ x ∈ c, UnderE n x) : UnderE n (.func (.func f) a c) := by
  obtain ⟨d, hd⟩ := underE_list h
  obtain ⟨k, hk⟩ := underE_list h'
  refine ⟨max d k + 1, ?_⟩
  simp only [AV.under, Bool.and_eq_true]
  exact ⟨⟨by first | rfl | trivial, List.all_eq_true.2 fun x hx => under_mono (Nat.le_refl n) d _ _ (Nat.le_max_left _ _) (List.all_eq_true.1 hd x hx)⟩, List.all_eq_true.2 fun x hx => under_mono (Nat.le_refl n) k _ _ (Nat.le_max_right _ _) (List.all_eq_true.1 hk x hx)⟩
def undL (n : Nat) : List AV → Prop
  | [] => True
  | v :: l => UnderE n v ∧ undL n l
theorem undL_all {n : Nat} : ∀ {l : List AV}, undL n l ↔ ∀ x ∈ l, UnderE n x
  | [] => by simp [undL]
  | v :: l => by simp only [undL, undL_all (l := l), List.forall_mem_cons]
def stabV (Y : Nat → Prop) : AV → Prop
  | .ptr id _ _ | .map id | .sl id _ _ _ _ => Y id
  | _ => True
def stabL (Y : Nat → Prop) : List AV → Prop
  | [] => True
  | v :: l => stabV Y v ∧ stabL Y l
def kindD (qs ps : List Nat) (i : Nat) (op : Op) : Nat := bif pureOp op then 0 else bif newOp op then 1 else bif ps.elem i then 3 else bif qs.elem i then 2 else match op with
  | .load _ _ | .lookup _ _ _ _ | .convert _ _ _ => 2
  | .call c => (match c.callee with
    | .builtin .len | .builtin .min | .builtin .max => 2
    | _ => 3)
  | _ => 3
def modeD : List Nat → Bool
  | 1000 :: _ => true
  | _ => false
def pairK (md : Bool) (as : List Nat) (i ki j kj : Nat) : Bool := bif Nat.beq kj 3 then Nat.beq ki 0 || (md && Nat.beq ki 2) || (as.getD j 0).testBit i else bif Nat.beq ki 3 then md || !Nat.beq kj 2 || (as.getD j 0).testBit i else true
def pairsK (qs ps as : List Nat) : List Oper → Nat → Bool
  | [], _ => true
  | o :: rest, i => (rest.zipIdx (i + 1)).all (fun q => pairK (modeD ps) as i (kindD qs ps i o.op) q.2 (kindD qs ps q.2 q.1.op)) && pairsK qs ps as rest (i + 1)
def sOk (qs ps : List Nat) (ops : List Oper) : Bool := drawOk ops && pairsK qs ps (ancs ops) ops 0
def keepsS (n0 : Nat) (s s' : Sto) : Prop := ∀ id, id < n0 → s'.get id = s.get id
theorem pairsK_spec {qs ps as : List Nat} : ∀ (l : List Oper) (i : Nat), pairsK qs ps as l i = true → ∀ (a b : Nat) (x y : Oper), a < b → l[a]? = some x → l[b]? = some y → pairK (modeD ps) as (i + a) (kindD qs ps (i + a) x.op) (i + b) (kindD qs ps (i + b) y.op) = true := by
  intro l
  induction l with
  | nil => intro i _ a b x y _ h; simp at h
  | cons o l ih =>
    intro i h a b x y hab hx hy
    simp only [pairsK, Bool.and_eq_true] at h
    cases a with
    | zero =>
      obtain ⟨b, rfl⟩ : ∃ c, b = c + 1 := ⟨b - 1, by omega⟩
      simp at hx hy
      subst hx
      have := List.all_eq_true.1 h.1 (y, i + 1 + b) (by rw [List.mem_iff_getElem?]; exact ⟨b, by simp [List.getElem?_zipIdx, hy]⟩)
      simpa [show i + 1 + b = i + (b + 1) by omega] using this
    | succ a =>
      obtain ⟨b, rfl⟩ : ∃ c, b = c + 1 := ⟨b - 1, by omega⟩
      simp at hx hy
      have := ih (i + 1) h.2 a b x y (by omega) hx hy
      simpa [show i + 1 + a = i + (a + 1) by omega, show i + 1 + b = i + (b + 1) by omega] using this
section
variable (P : Program) (O : Orc)
def vK (K : ORes → Prop) : ORes → Prop
  | .val v => K (.val v)
  | _ => False
def cK (n : Nat) (K : ORes → Prop) : ORes → Prop
  | .val' v s => n ≤ s.n ∧ K (.val' v s)
  | .pan v s => n ≤ s.n ∧ K (.pan v s)
  | _ => False
def orcD (F : Sto → Option CRes) (r : Option CRes) (turns : Prop) (s : Sto) (K : ORes → Prop) : Prop := match r with
  | some (.ret v none) => (∀ s', F s' = some (.ret v none)) ∧ K (.val v)
  | some (.ret v (some s')) => turns ∧ s.n ≤ s'.n ∧ K (.val' v s')
  | some (.pan v none) => turns ∧ K (.pan v s)
  | some (.pan v (some s')) => turns ∧ s.n ≤ s'.n ∧ K (.pan v s')
  | none => False
def callD (kd : Nat) (fv : AV) (args : List AV) (s : Sto) (K : ORes → Prop) : Prop := match fv with
  | .func (.func g) first cap => orcD (O g (first ++ args ++ cap)) (O g (first ++ args ++ cap) s) (kd = 3 ∧ undL s.n (.func (.func g) first cap :: args)) s K
  | _ => False
def sD (kd : Nat) (Y : Nat → Prop) (op : Op) (e : Env) (K : ORes → Prop) : Prop := match op with
  | .load ty a => stabV Y (e.eval a) ∧ oKv (aload P e.s ty (e.eval a)) K
  | .lookup ty m k ok => stabV Y (e.eval m) ∧ oKv (alookup P e.s ty (e.eval m) (e.eval k) ok) K
  | .convert src dst x => stabV Y (e.eval x) ∧ oKr (aconv P e.s src dst (e.eval x)) (vK K)
  | .store ty a x => (kd = 3 ∧ undL e.s.n [e.eval a, e.eval x]) ∧ oKs (astore P e.s ty (e.eval a) (e.eval x)) (cK e.s.n K)
  | .mapUpdate ty m k x => (kd = 3 ∧ undL e.s.n [e.eval m, e.eval k, e.eval x]) ∧ oKs (amapUpdate P e.s ty (e.eval m) (e.eval k) (e.eval x)) (cK e.s.n K)
  | .alloc ty => allocK (tzero P ty) e.s K
  | .box _ x => undL e.s.n [e.eval x] ∧ boxK (e.eval x) e.s K
  | .buildSlice ty len parts => undL e.s.n (parts.toList.map fun p => e.eval p.2) ∧ Wop P O (.buildSlice ty len parts) e K
  | .makeSlice ty l c => undL e.s.n [e.eval l, e.eval c] ∧ Wop P O (.makeSlice ty l c) e K
  | .call c => (match c.callee with
    | .builtin .len => stabL Y (c.args.toList.map e.eval) ∧ oKr (abuiltin P e.s .len c.argTypes (c.args.toList.map e.eval)) (vK K)
    | .builtin .min => oKr (abuiltin P e.s .min c.argTypes (c.args.toList.map e.eval)) (vK K)
    | .builtin .max => oKr (abuiltin P e.s .max c.argTypes (c.args.toList.map e.eval)) (vK K)
    | .builtin b => (kd = 3 ∧ undL e.s.n (c.args.toList.map e.eval)) ∧ oKr (abuiltin P e.s b c.argTypes (c.args.toList.map e.eval)) (cK e.s.n K)
    | .value f => callD O kd (e.eval f) (c.args.toList.map e.eval) e.s K
    | .invoke _ _ => False)
  | op => pureOp op = true ∧ Wop P O op e K
def putD (dst : Option Tmp) (e : Env) (md : Bool) (n0 : Nat) (nw : Bool) (i : Nat) (N : List (Nat × Nat)) (next : List (Nat × Nat) → Env → Prop) (pn : AV → Sto → Prop) : ORes → Prop
  | .val v => ∃ e', e.put dst v = some e' ∧ next N e'
  | .val' v s => (md = true → keepsS n0 e.s s) ∧ ∃ e', (e.setS s).put dst v = some e' ∧ next (bif nw then (i, e.s.n) :: N else N) e'
  | .pan v s => (md = true → keepsS n0 e.s s) ∧ pn v s
  | _ => False
def panD (ops : List Oper) (e0 : Env) (Q : Ex → Env → Prop) (i : Nat) (v : AV) (s : Sto) : Prop := lastOk (ancs ops) i ops 0 = true ∧ Q (.panic v) (forget { e0 with s := s } ops)
def guardD (v : AV) (want : Bool) (kd : Nat) (Y : Nat → Prop) (op : Op) (e : Env) (K : ORes → Prop) : Prop := match v with
  | .bool b => (b = want → sD P O kd Y op e K) ∧ (b = !want → K (.val .undef))
  | .tuple _ => K (.val .undef)
  | _ => False
def Wd (qs ps : List Nat) (ops : List Oper) (e0 : Env) (Q : Ex → Env → Prop) : List Oper → Nat → List (Nat × Nat) → Env → Prop
  | [], _, _, e => Q .normal e
  | o :: rest, i, N, e => match o.guard with
    | none => sD P O (kindD qs ps i o.op) (keptY e0.s.n (ancs ops) (bif modeD ps then [] else N) i) o.op e (putD o.dst e (modeD ps) e0.s.n (newOp o.op) i N (fun N e => Wd qs ps ops e0 Q rest (i + 1) N e) (panD ops e0 Q i))
    | some (j, want) => guardD P O (gval e.t (gdst ops j)) want (kindD qs ps i o.op) (keptY e0.s.n (ancs ops) (bif modeD ps then [] else N) i) o.op e (putD o.dst e (modeD ps) e0.s.n (newOp o.op) i N (fun N e => Wd qs ps ops e0 Q rest (i + 1) N e) (panD ops e0 Q i))
variable {P O}
def RowD (P : Program) (call : CallT) (qs ps : List Nat) (Y : Nat → Prop) (i : Nat) (o : Oper) (e : Env) : ORes → Prop
  | .val v => pureOp o.op = true ∨ (newOp o.op = false ∧ ∀ s', (∀ id, Y id → s'.get id = e.s.get id) → dop P call o { e with s := s' } = some (.val v))
  | .val' _ s' => (newOp o.op = true ∨ kindD qs ps i o.op = 3) ∧ (∀ y ∈ o.op.operands.toList, UnderE e.s.n (e.eval y)) ∧ e.s.n ≤ s'.n ∧ pureOp o.op = false
  | .pan _ s' => (newOp o.op = false ∧ kindD qs ps i o.op = 3) ∧ (∀ y ∈ o.op.operands.toList, UnderE e.s.n (e.eval y)) ∧ e.s.n ≤ s'.n ∧ pureOp o.op = false
  | _ => False
theorem RowD.mono {c d : CallT} (h : CLe c d) {qs ps : List Nat} {Y : Nat → Prop} {i : Nat} {o : Oper} {e : Env} {r : ORes} (hr : RowD P c qs ps Y i o e r) : RowD P d qs ps Y i o e r := by
  cases r with
  | val v =>
    rcases hr with h1 | ⟨h1, h2⟩
    · exact .inl h1
    · exact .inr ⟨h1, fun s' hs => dop_mono h (h2 s' hs)⟩
  | _ => exact hr
theorem eval_setS (e : Env) (s : Sto) (x : Operand) : ({ e with s := s } : Env).eval x = e.eval x := by cases x <;> rfl
theorem aload_stab {s s' : Sto} {ty : TypeId} {a : AV} {n : Nat → Prop} (hs : stabV n a) (h : ∀ id, n id → s'.get id = s.get id) : aload P s' ty a = aload P s ty a := by
  cases a with
  | ptr id g off => simp only [stabV] at hs; simp only [aload, h id hs]
  | _ => rfl
theorem alookup_stab {s s' : Sto} {ty : TypeId} {m k : AV} {ok : Bool} {n : Nat → Prop} (hs : stabV n m) (h : ∀ id, n id → s'.get id = s.get id) : alookup P s' ty m k ok = alookup P s ty m k ok := by
  cases m with
  | map id => simp only [stabV] at hs; simp only [alookup, h id hs]
  | _ => rfl
theorem afirst_stab {s s' : Sto} {k m : Nat} {a : AV} {n : Nat → Prop} (hs : stabV n a) (h : ∀ id, n id → s'.get id = s.get id) : afirst s' k m a = afirst s k m a := by
  cases a with
  | sl id g off len c => simp only [stabV] at hs; simp only [afirst, h id hs]
  | _ => rfl
theorem aconv_stab {s s' : Sto} {src dst : TypeId} {a v : AV} {n : Nat → Prop} (hs : stabV n a) (h : ∀ id, n id → s'.get id = s.get id) (hr : aconv P s src dst a = some (.val v)) : aconv P s' src dst a = some (.val v) := by
  unfold aconv at hr ⊢
  split at hr
  · exact hr
  · exact hr
  · exfalso
    split at hr
    · split at hr <;> cases hr
    · cases hr
  · rename_i h1 h2 h3
    split at hr
    · rename_i q1 q2
      rw [afirst_stab hs h]
      exact hr
    · cases hr
  · cases hr
theorem alen_builtin_stab {s s' : Sto} {ts : Array TypeId} {l : List AV} {n : Nat → Prop} (hs : stabL n l) (h : ∀ id, n id → s'.get id = s.get id) : abuiltin P s' .len ts l = abuiltin P s .len ts l := by
  simp only [abuiltin]
  cases ts[0]? with
  | none => rcases l with _ | ⟨x, _ | ⟨y, l⟩⟩ <;> first | rfl | (cases x <;> rfl)
  | some t =>
    simp only
    cases P.underlying t with
    | none => rcases l with _ | ⟨x, _ | ⟨y, l⟩⟩ <;> first | rfl | (cases x <;> rfl)
    | some d =>
      rcases l with _ | ⟨x, _ | ⟨y, l⟩⟩
      · cases d <;> rfl
      · cases x with
        | map id =>
          have := h id hs.1
          cases d <;> first | rfl | (simp only [this])
        | _ => cases d <;> rfl
      · cases d <;> first | rfl | (cases x <;> rfl)
theorem und_operands {n : Nat} {e : Env} {l : List Operand} (h : undL n (l.map e.eval)) : ∀ y ∈ l, UnderE n (e.eval y) := fun y hy => undL_all.1 h _ (List.mem_map.2 ⟨y, hy, rfl⟩)
theorem sD_spec {qs ps : List Nat} {Y : Nat → Prop} {i : Nat} {o : Oper} {e : Env} {K : ORes → Prop} (h : sD P O (kindD qs ps i o.op) Y o.op e K) :
    ∃ N r, dop P (dcall P O N) o e = some r ∧ K r ∧ RowD P (dcall P O N) qs ps Y i o e r := by
  have hop : ∀ N, dop P (dcall P O N) o e = dopOf P (dcall P O N) o.op e := fun _ => rfl
  have hopS : ∀ N s', dop P (dcall P O N) o { e with s := s' } = dopOf P (dcall P O N) o.op { e with s := s' } := fun _ _ => rfl
  obtain ⟨dst, op, ty0, pos, after, guard⟩ := o
  simp only at h hop hopS
  have hpure : pureOp op = true → Wop P O op e K → ∃ N r, dop P (dcall P O N) { dst := dst, op := op, type := ty0, pos := pos, after := after, guard := guard } e = some r ∧ K r ∧ RowD P (dcall P O N) qs ps Y i { dst := dst, op := op, type := ty0, pos := pos, after := after, guard := guard } e r := by
    rintro hp ⟨N, r, h1, h2⟩
    obtain ⟨⟨v, rfl⟩, _⟩ := dop_pure (P := P) (call := dcall P O N) (o := { dst := dst, op := op, type := ty0, pos := pos, after := after, guard := guard }) (e := e) hp h1
    exact ⟨N, _, h1, h2, .inl hp⟩
  have hnew : newOp op = true → (∀ y ∈ op.operands.toList, UnderE e.s.n (e.eval y)) → Wop P O op e K → ∃ N r, dop P (dcall P O N) { dst := dst, op := op, type := ty0, pos := pos, after := after, guard := guard } e = some r ∧ K r ∧ RowD P (dcall P O N) qs ps Y i { dst := dst, op := op, type := ty0, pos := pos, after := after, guard := guard } e r := by
    rintro hp hu ⟨N, r, h1, h2⟩
    obtain ⟨v, x, rfl, _⟩ := dop_new (P := P) (call := dcall P O N) (o := { dst := dst, op := op, type := ty0, pos := pos, after := after, guard := guard }) (e := e) hp h1
    refine ⟨N, _, h1, h2, .inl hp, hu, by simp, ?_⟩
    show pureOp op = false
    cases op <;> first | rfl | cases hp
  cases op with
  | load ty a =>
    obtain ⟨hs, v, h1, h2⟩ := h
    exact ⟨0, .val v, by show valO _ = _; rw [h1]; rfl, h2, .inr ⟨rfl, fun s' hs' => by show valO (aload P s' ty (({ e with s := s' } : Env).eval a)) = _; rw [eval_setS, aload_stab hs hs', h1]; rfl⟩⟩
  | lookup ty m k ok =>
    obtain ⟨hs, v, h1, h2⟩ := h
    exact ⟨0, .val v, by show valO _ = _; rw [h1]; rfl, h2, .inr ⟨rfl, fun s' hs' => by show valO (alookup P s' ty (({ e with s := s' } : Env).eval m) (({ e with s := s' } : Env).eval k) ok) = _; rw [eval_setS e s' m, eval_setS e s' k, alookup_stab hs hs', h1]; rfl⟩⟩
  | convert src dst' x =>
    obtain ⟨hs, r, h1, h2⟩ := h
    cases r with
    | val v => exact ⟨0, .val v, h1, h2, .inr ⟨rfl, fun s' hs' => by show aconv P s' src dst' (({ e with s := s' } : Env).eval x) = _; rw [eval_setS]; exact aconv_stab hs hs' h1⟩⟩
    | _ => exact h2.elim
  | store ty a x =>
    obtain ⟨⟨hk, hu⟩, s', h1, h2⟩ := h
    obtain ⟨h2, h3⟩ := h2
    exact ⟨0, .val' .undef s', by show skipO _ = _; rw [h1]; rfl, h3, .inr hk, und_operands (l := [a, x]) hu, h2, rfl⟩
  | mapUpdate ty m k x =>
    obtain ⟨⟨hk, hu⟩, s', h1, h2⟩ := h
    obtain ⟨h2, h3⟩ := h2
    exact ⟨0, .val' .undef s', by show skipO _ = _; rw [h1]; rfl, h3, .inr hk, und_operands (l := [m, k, x]) hu, h2, rfl⟩
  | alloc ty => exact hnew rfl (fun y hy => nomatch hy) (Wop_alloc.2 h)
  | box ty x => exact hnew rfl (und_operands (l := [x]) h.1) (Wop_box.2 h.2)
  | buildSlice ty len parts =>
    refine hnew rfl ?_ h.2
    have := h.1
    rw [show (parts.toList.map fun p => e.eval p.2) = (parts.toList.map (·.2)).map e.eval by rw [List.map_map]; rfl] at this
    exact und_operands this
  | makeSlice ty l c => exact hnew rfl (und_operands (l := [l, c]) h.1) h.2
  | call c =>
    obtain ⟨callee, args, ts⟩ := c
    cases callee with
    | value f =>
      simp only [sD] at h
      unfold callD at h
      split at h
      · rename_i g first cap hf
        have hdop : ∀ (s : Sto) (x : CRes), O g (first ++ args.toList.map e.eval ++ cap) s = some x → ofCall s (dcall P O 1 (({ e with s := s } : Env).eval f) (evals { e with s := s } args) s .no) = ofCall s (some (x, .no)) := by
          intro s x hx
          have h1 : evals { e with s := s } args = args.toList.map e.eval := by
            simp only [evals]
            exact List.map_congr_left fun y _ => eval_setS e s y
          rw [eval_setS, h1, hf]
          simp only [dcall, oget, hx]
        generalize hr : O g (first ++ args.toList.map e.eval ++ cap) e.s = r at h
        have hund : (kindD qs ps i (.call { callee := .value f, args := args, argTypes := ts }) = 3 ∧ undL e.s.n (.func (.func g) first cap :: args.toList.map e.eval)) → ∀ y ∈ (Op.call { callee := .value f, args := args, argTypes := ts }).operands.toList, UnderE e.s.n (e.eval y) := by
          rintro ⟨_, hu⟩ y hy
          have : y = f ∨ y ∈ args.toList := by simpa [Op.operands, Call.operands] using hy
          rcases this with rfl | hy
          · rw [hf]; exact hu.1
          · exact und_operands hu.2 y hy
        cases r with
        | none => exact h.elim
        | some x =>
          have h0 := hdop e.s x hr
          cases x with
          | ret v so =>
            cases so with
            | none =>
              obtain ⟨hF, hK⟩ := h
              exact ⟨1, .val v, h0, hK, .inr ⟨rfl, fun s' _ => hdop s' _ (hF s')⟩⟩
            | some s' =>
              obtain ⟨ht, hn, hK⟩ := h
              exact ⟨1, .val' v s', h0, hK, .inr ht.1, hund ht, hn, rfl⟩
          | pan v so =>
            cases so with
            | none =>
              obtain ⟨ht, hK⟩ := h
              exact ⟨1, .pan v e.s, h0, hK, ⟨rfl, ht.1⟩, hund ht, Nat.le_refl _, rfl⟩
            | some s' =>
              obtain ⟨ht, hn, hK⟩ := h
              exact ⟨1, .pan v s', h0, hK, ⟨rfl, ht.1⟩, hund ht, hn, rfl⟩
      · exact h.elim
    | invoke f n => exact h.elim
    | builtin b =>
      have hev : ∀ s', evals { e with s := s' } args = args.toList.map e.eval := fun s' => List.map_congr_left fun y _ => eval_setS e s' y
      have hch : (kindD qs ps i (.call { callee := .builtin b, args := args, argTypes := ts }) = 3 ∧ undL e.s.n (args.toList.map e.eval)) ∧ oKr (abuiltin P e.s b ts (args.toList.map e.eval)) (cK e.s.n K) →
          ∃ N r, dop P (dcall P O N) { dst := dst, op := .call { callee := .builtin b, args := args, argTypes := ts }, type := ty0, pos := pos, after := after, guard := guard } e = some r ∧ K r ∧ RowD P (dcall P O N) qs ps Y i { dst := dst, op := .call { callee := .builtin b, args := args, argTypes := ts }, type := ty0, pos := pos, after := after, guard := guard } e r := by
        rintro ⟨⟨hk, hu⟩, r, h1, h2⟩
        have hu' : ∀ y ∈ (Op.call { callee := .builtin b, args := args, argTypes := ts }).operands.toList, UnderE e.s.n (e.eval y) := fun y hy => und_operands hu y (by simpa [Op.operands, Call.operands] using hy)
        cases r with
        | val' v s' => exact ⟨0, _, h1, h2.2, .inr hk, hu', h2.1, rfl⟩
        | pan v s' => exact ⟨0, _, h1, h2.2, ⟨rfl, hk⟩, hu', h2.1, rfl⟩
        | _ => exact h2.elim
      have hmm : ∀ {b : Builtin}, (b = .min ∨ b = .max) → oKr (abuiltin P e.s b ts (args.toList.map e.eval)) (vK K) →
          ∃ N r, dop P (dcall P O N) { dst := dst, op := .call { callee := .builtin b, args := args, argTypes := ts }, type := ty0, pos := pos, after := after, guard := guard } e = some r ∧ K r ∧ RowD P (dcall P O N) qs ps Y i { dst := dst, op := .call { callee := .builtin b, args := args, argTypes := ts }, type := ty0, pos := pos, after := after, guard := guard } e r := by
        rintro b hb ⟨r, h1, h2⟩
        cases r with
        | val v =>
          refine ⟨0, .val v, h1, h2, .inr ⟨rfl, fun s' hs' => ?_⟩⟩
          show abuiltin P s' b ts (evals { e with s := s' } args) = _
          rw [hev]
          rcases hb with rfl | rfl <;> exact h1
        | _ => exact h2.elim
      cases b with
      | len =>
        obtain ⟨hs, r, h1, h2⟩ := h
        cases r with
        | val v =>
          refine ⟨0, .val v, h1, h2, .inr ⟨rfl, fun s' hs' => ?_⟩⟩
          show abuiltin P s' .len ts (evals { e with s := s' } args) = _
          rw [hev, alen_builtin_stab hs hs']; exact h1
        | _ => exact h2.elim
      | min => exact hmm (.inl rfl) h
      | max => exact hmm (.inr rfl) h
      | _ => exact hch h
  | _ => exact hpure h.1 h.2
structure RowI (P : Program) (call : CallT) (qs ps : List Nat) (n0 : Nat) (as : List Nat) (ns : List (Nat × Nat)) (x : TrE) : Prop where
  keep : x.run = true → x.chg = false → pureOp x.o.op = true ∨ (newOp x.o.op = false ∧ Stable P call (keptY n0 as ns x.i) x)
  chg : x.chg = true → (newOp x.o.op = true ∨ kindD qs ps x.i x.o.op = 3) ∧ (∀ y ∈ x.o.op.operands.toList, UnderE x.e.s.n (x.e.eval y)) ∧ pureOp x.o.op = false ∧ x.run = true
theorem RowI.mono {c d : CallT} (h : CLe c d) {qs ps : List Nat} {n0 : Nat} {as : List Nat} {ns : List (Nat × Nat)} {x : TrE} (hr : RowI P c qs ps n0 as ns x) : RowI P d qs ps n0 as ns x :=
  ⟨fun h1 h2 => (hr.keep h1 h2).imp id fun ⟨g1, g2⟩ => ⟨g1, fun s' hs => dop_mono h (g2 s' hs)⟩, hr.chg⟩
theorem keptY.more {n0 : Nat} {as : List Nat} {ns ns' : List (Nat × Nat)} (h : ∀ n ∈ ns, n ∈ ns') {i id : Nat} (hy : keptY n0 as ns i id) : keptY n0 as ns' i id := hy.imp (fun h => h) fun ⟨k, h1, h2⟩ => ⟨k, h _ h1, h2⟩
theorem RowI.more {c : CallT} {qs ps : List Nat} {n0 : Nat} {as : List Nat} {ns ns' : List (Nat × Nat)} {x : TrE} (h : ∀ n ∈ ns, n ∈ ns') (hr : RowI P c qs ps n0 as ns x) : RowI P c qs ps n0 as ns' x :=
  ⟨fun h1 h2 => (hr.keep h1 h2).imp id fun ⟨g1, g2⟩ => ⟨g1, fun s' hs => g2 s' fun id hid => hs id (hid.more h)⟩, hr.chg⟩
def nsM (md : Bool) (ns : List (Nat × Nat)) : List (Nat × Nat) := bif md then [] else ns
theorem nsM_sub {md : Bool} {a b : List (Nat × Nat)} (h : ∀ n ∈ a, n ∈ b) : ∀ n ∈ nsM md a, n ∈ nsM md b := by cases md <;> simp [nsM]; exact fun x y hx => h _ hx
def keepT (md : Bool) (n0 : Nat) (l : List TrE) (f e : Env) : Prop := md = true → n0 ≤ e.s.n → (∀ x ∈ l, ∀ id, id < n0 → x.e.s.get id = e.s.get id) ∧ ∀ id, id < n0 → f.s.get id = e.s.get id
theorem Wd_trace {qs ps : List Nat} {ops : List Oper} {e0 : Env} {Q : Ex → Env → Prop} : ∀ (rest : List Oper) (i : Nat) (N0 : List (Nat × Nat)) (e : Env), Wd P O qs ps ops e0 Q rest i N0 e →
    ∃ N l f p, dtr P (dcall P O N) ops rest i e = some (l, f, p) ∧ (∀ x ∈ l, RowI P (dcall P O N) qs ps e0.s.n (ancs ops) (nsM (modeD ps) (N0 ++ news l)) x) ∧ growOk l f.s.n = true ∧ (∀ x, l.head? = some x → x.e.s.n = e.s.n) ∧ (l = [] → f.s.n = e.s.n) ∧
      keepT (modeD ps) e0.s.n l f e ∧ (match (p : Option (AV × Sto)) with
        | none => Q .normal f
        | some (v, s) => 0 < l.length ∧ lastOk (ancs ops) (i + l.length - 1) ops 0 = true ∧ Q (.panic v) (forget { e0 with s := s } ops)) := by
  intro rest
  induction rest with
  | nil => intro i N0 e h; exact ⟨0, [], e, none, rfl, by simp, rfl, by simp, by simp, fun _ _ => ⟨by simp, fun _ _ => rfl⟩, h⟩
  | cons o rest ih =>
    intro i N0 e h
    have row : ∀ {x : TrE} {e' : Env} {N1 : List (Nat × Nat)}, x.i = i → x.o = o → x.e = e → (∀ n ∈ N1, n ∈ N0 ∨ n ∈ news [x]) → (modeD ps = true → e0.s.n ≤ e.s.n → keepsS e0.s.n e.s e'.s) → (∃ N, RowI P (dcall P O N) qs ps e0.s.n (ancs ops) (nsM (modeD ps) N0) x ∧ ∀ M, N ≤ M → ∀ z, dtr P (dcall P O M) ops rest (i + 1) e' = some z → dtr P (dcall P O M) ops (o :: rest) i e = trCons x (some z)) → e.s.n ≤ e'.s.n →
        Wd P O qs ps ops e0 Q rest (i + 1) N1 e' → ∃ N l f p, dtr P (dcall P O N) ops (o :: rest) i e = some (l, f, p) ∧ (∀ x ∈ l, RowI P (dcall P O N) qs ps e0.s.n (ancs ops) (nsM (modeD ps) (N0 ++ news l)) x) ∧ growOk l f.s.n = true ∧ (∀ x, l.head? = some x → x.e.s.n = e.s.n) ∧ (l = [] → f.s.n = e.s.n) ∧
          keepT (modeD ps) e0.s.n l f e ∧ (match (p : Option (AV × Sto)) with
            | none => Q .normal f
            | some (v, s) => 0 < l.length ∧ lastOk (ancs ops) (i + l.length - 1) ops 0 = true ∧ Q (.panic v) (forget { e0 with s := s } ops)) := by
      rintro x e' N1 rfl rfl rfl hN1 hkp ⟨N, hrow, hd⟩ hn hw
      obtain ⟨M, l, f, p, h1, h2, h3, h4, h5, hkt, h6⟩ := ih _ _ _ hw
      have hnews : ∀ m : List TrE, news (x :: m) = news [x] ++ news m := fun m => by simp only [news, List.filter_cons]; cases x.isNew <;> simp
      have hc1 : CLe (dcall P O N) (dcall P O (max N M)) := dcall_mono _ _ (Nat.le_max_left _ _)
      have hc2 : CLe (dcall P O M) (dcall P O (max N M)) := dcall_mono _ _ (Nat.le_max_right _ _)
      refine ⟨max N M, x :: l, f, p, ?_, ?_, ?_, ?_, by simp, ?_, ?_⟩
      · rw [hd _ (Nat.le_max_left _ _) _ (dtr_mono hc2 _ _ _ _ h1)]; rfl
      · intro y hy
        rcases List.mem_cons.1 hy with rfl | hy
        · exact (hrow.mono hc1).more (nsM_sub fun n hn => List.mem_append.2 (.inl hn))
        · refine ((h2 y hy).mono hc2).more (nsM_sub fun n hn => ?_)
          rw [hnews]
          simp only [List.mem_append] at hn ⊢
          rcases hn with hn | hn
          · rcases hN1 n hn with h | h
            · exact .inl h
            · exact .inr (.inl h)
          · exact .inr (.inr hn)
      · cases l with
        | nil => simp only [growOk, Nat.ble_eq]; rw [h5 rfl]; exact hn
        | cons y l =>
          simp only [growOk, Bool.and_eq_true, Nat.ble_eq]
          exact ⟨by rw [h4 y rfl]; exact hn, h3⟩
      · intro y hy; simp at hy; subst hy; rfl
      · intro hm hle
        obtain ⟨g1, g2⟩ := hkt hm (Nat.le_trans hle hn)
        have g0 := hkp hm hle
        refine ⟨fun y hy id hid => ?_, fun id hid => (g2 id hid).trans (g0 id hid)⟩
        rcases List.mem_cons.1 hy with rfl | hy
        · rfl
        · exact (g1 y hy id hid).trans (g0 id hid)
      · cases p with
        | none => exact h6
        | some q =>
          obtain ⟨v, s⟩ := q
          obtain ⟨g1, g2, g3⟩ := h6
          refine ⟨by simp, ?_, g3⟩
          simp only [List.length_cons]
          rw [show x.i + (l.length + 1) - 1 = x.i + 1 + l.length - 1 by omega]
          exact g2
    have run : ∀ (hw : awanted ops o e = some true), sD P O (kindD qs ps i o.op) (keptY e0.s.n (ancs ops) (bif modeD ps then [] else N0) i) o.op e (putD o.dst e (modeD ps) e0.s.n (newOp o.op) i N0 (fun N e => Wd P O qs ps ops e0 Q rest (i + 1) N e) (panD ops e0 Q i)) →
        ∃ N l f p, dtr P (dcall P O N) ops (o :: rest) i e = some (l, f, p) ∧ (∀ x ∈ l, RowI P (dcall P O N) qs ps e0.s.n (ancs ops) (nsM (modeD ps) (N0 ++ news l)) x) ∧ growOk l f.s.n = true ∧ (∀ x, l.head? = some x → x.e.s.n = e.s.n) ∧ (l = [] → f.s.n = e.s.n) ∧
          keepT (modeD ps) e0.s.n l f e ∧ (match (p : Option (AV × Sto)) with
            | none => Q .normal f
            | some (v, s) => 0 < l.length ∧ lastOk (ancs ops) (i + l.length - 1) ops 0 = true ∧ Q (.panic v) (forget { e0 with s := s } ops)) := by
      intro hw hs
      obtain ⟨N, r, h1, h2, h3⟩ := sD_spec hs
      have hop : ∀ M, N ≤ M → dop P (dcall P O M) o e = some r := fun M hM => dop_mono (dcall_mono _ _ hM) h1
      cases r with
      | val v =>
        obtain ⟨e', hp, hn⟩ := h2
        refine row (x := { i, o, e, v, run := true, chg := false }) rfl rfl rfl (fun n hn => .inl hn) (fun _ _ id _ => by
          have : e'.s = e.s := by
            cases hd : o.dst with
            | none => rw [hd] at hp; simp [Env.put] at hp; subst hp; rfl
            | some d =>
              rw [hd] at hp
              simp only [Env.put] at hp
              rw [bif_blt] at hp
              split at hp
              · simp at hp; subst hp; rfl
              · cases hp
          rw [this]) ⟨N, ⟨fun _ _ => h3, fun h => (by cases h)⟩, fun M hM z hz => by simp only [dtr, hw, hop M hM, hp, hz]⟩ ?_ hn
        cases hd : o.dst with
        | none => rw [hd] at hp; simp [Env.put] at hp; subst hp; exact Nat.le_refl _
        | some d =>
          rw [hd] at hp
          simp only [Env.put] at hp
          rw [bif_blt] at hp
          split at hp
          · simp at hp; subst hp; exact Nat.le_refl _
          · cases hp
      | val' v s' =>
        obtain ⟨hkeep, e', hp, hn⟩ := h2
        obtain ⟨q1, q2, q3, q4⟩ := h3
        have hes : e'.s = s' := by
          cases hd : o.dst with
          | none => rw [hd] at hp; simp [Env.put] at hp; subst hp; rfl
          | some d =>
            rw [hd] at hp
            simp only [Env.put, Env.setS] at hp
            rw [bif_blt] at hp
            split at hp
            · simp at hp; subst hp; rfl
            · cases hp
        refine row (x := { i, o, e, v, run := true, chg := true }) rfl rfl rfl (fun n hn => by
          cases hnw : newOp o.op with
          | false => rw [hnw] at hn; exact .inl hn
          | true =>
            rw [hnw] at hn
            rcases List.mem_cons.1 hn with rfl | hn
            · right; simp [news, List.filter_cons, TrE.isNew, hnw]
            · exact .inl hn) (fun hm _ => by rw [hes]; exact hkeep hm) ⟨N, ⟨fun _ h => (by cases h), fun _ => ⟨q1, q2, q4, rfl⟩⟩, fun M hM z hz => by simp only [dtr, hw, hop M hM, hp, hz]⟩ ?_ hn
        have : e'.s = s' := by
          cases hd : o.dst with
          | none => rw [hd] at hp; simp [Env.put] at hp; subst hp; rfl
          | some d =>
            rw [hd] at hp
            simp only [Env.put, Env.setS] at hp
            rw [bif_blt] at hp
            split at hp
            · simp at hp; subst hp; rfl
            · cases hp
        rw [this]; exact q3
      | pan v s' =>
        obtain ⟨q1, q2, q3, q4⟩ := h3
        obtain ⟨hkeep, g1, g2⟩ := h2
        refine ⟨N, [{ i, o, e, v, run := true, chg := true }], { e with s := s' }, some (v, s'), by simp only [dtr, hw, h1], ?_, ?_, ?_, by simp, fun hm _ => ⟨fun x hx => by rw [List.mem_singleton] at hx; subst hx; exact fun _ _ => rfl, hkeep hm⟩, by simp, ?_, g2⟩
        · intro x hx
          rw [List.mem_singleton] at hx
          subst hx
          exact ⟨fun _ h => (by cases h), fun _ => ⟨.inr q1.2, q2, q4, rfl⟩⟩
        · simp only [growOk, Nat.ble_eq]; exact q3
        · intro x hx; simp at hx; subst hx; rfl
        · simpa using g1
      | _ => exact h3.elim
    have skip : ∀ (hw : awanted ops o e = some false), putD o.dst e (modeD ps) e0.s.n (newOp o.op) i N0 (fun N e => Wd P O qs ps ops e0 Q rest (i + 1) N e) (panD ops e0 Q i) (.val .undef) →
        ∃ N l f p, dtr P (dcall P O N) ops (o :: rest) i e = some (l, f, p) ∧ (∀ x ∈ l, RowI P (dcall P O N) qs ps e0.s.n (ancs ops) (nsM (modeD ps) (N0 ++ news l)) x) ∧ growOk l f.s.n = true ∧ (∀ x, l.head? = some x → x.e.s.n = e.s.n) ∧ (l = [] → f.s.n = e.s.n) ∧
          keepT (modeD ps) e0.s.n l f e ∧ (match (p : Option (AV × Sto)) with
            | none => Q .normal f
            | some (v, s) => 0 < l.length ∧ lastOk (ancs ops) (i + l.length - 1) ops 0 = true ∧ Q (.panic v) (forget { e0 with s := s } ops)) := by
      rintro hw ⟨e', hp, hn⟩
      refine row (x := { i, o, e, v := .undef, run := false, chg := false }) rfl rfl rfl (fun n hn => .inl hn) (fun _ _ id _ => by
          have : e'.s = e.s := by
            cases hd : o.dst with
            | none => rw [hd] at hp; simp [Env.put] at hp; subst hp; rfl
            | some d =>
              rw [hd] at hp
              simp only [Env.put] at hp
              rw [bif_blt] at hp
              split at hp
              · simp at hp; subst hp; rfl
              · cases hp
          rw [this]) ⟨0, ⟨fun h => (by cases h), fun h => (by cases h)⟩, fun M hM z hz => by simp only [dtr, hw, hp, hz]⟩ ?_ hn
      cases hd : o.dst with
      | none => rw [hd] at hp; simp [Env.put] at hp; subst hp; exact Nat.le_refl _
      | some d =>
        rw [hd] at hp
        simp only [Env.put] at hp
        rw [bif_blt] at hp
        split at hp
        · simp at hp; subst hp; exact Nat.le_refl _
        · cases hp
    simp only [Wd] at h
    cases hg : o.guard with
    | none =>
      rw [hg] at h
      exact run (by simp only [awanted, hg]) h
    | some jw =>
      obtain ⟨j, want⟩ := jw
      rw [hg] at h
      simp only at h
      rw [gdst_eq] at h
      cases hd : ops[j]?.bind (·.dst) with
      | none =>
        rw [hd] at h
        refine skip ?_ h
        simp only [awanted, hg]
        cases hj : ops[j]? with
        | none => rfl
        | some g => rw [hj] at hd; simp only [Option.bind_some] at hd; simp only [hd]
      | some d =>
        rw [hd] at h
        simp only [gval] at h
        have haw : awanted ops o e = match e.t.get d with | some (.bool b) => some (b == want) | some (.tuple _) => some false | _ => none := by
          simp only [awanted, hg]
          cases hj : ops[j]? with
          | none => rw [hj] at hd; cases hd
          | some g => rw [hj] at hd; simp only [Option.bind_some] at hd; simp only [hd]; cases e.t.get d with | none => rfl | some v => cases v <;> rfl
        cases ht : e.t.get d with
        | none =>
          have hv : e.t.val d = .top := by simp [Tr.val, ht]
          rw [hv] at h
          exact h.elim
        | some v =>
          have hv : e.t.val d = v := by simp [Tr.val, ht]
          rw [hv] at h
          rw [ht] at haw
          cases v with
          | bool b =>
            simp only at haw
            cases hb : (b == want) with
            | true =>
              rw [hb] at haw
              exact run haw (h.1 (by simpa using hb))
            | false =>
              rw [hb] at haw
              refine skip haw (h.2 ?_)
              have : b ≠ want := by simpa using hb
              cases b <;> cases want <;> simp_all
          | tuple l => exact skip haw h
          | _ => exact h.elim
theorem new_kind {qs ps : List Nat} {i : Nat} {op : Op} (h : newOp op = true) : kindD qs ps i op = 1 := by
  have : pureOp op = false := by cases op <;> first | rfl | cases h
  simp [kindD, this, h]
theorem kind_ne0 {qs ps : List Nat} {i : Nat} {op : Op} (h : pureOp op = false) : kindD qs ps i op ≠ 0 := by
  simp only [kindD, h, cond_false]
  cases newOp op with
  | true => simp
  | false =>
    simp only [cond_false]
    cases ps.elem i with
    | true => simp
    | false =>
      simp only [cond_false]
      cases qs.elem i with
      | true => simp
      | false =>
        simp only [cond_false]
        split
        · simp
        · simp
        · simp
        · split <;> simp
        · simp
theorem kind_le {qs ps : List Nat} {i : Nat} {op : Op} (h : pureOp op = false) (h' : newOp op = false) : kindD qs ps i op = 2 ∨ kindD qs ps i op = 3 := by
  simp only [kindD, h, h', cond_false]
  cases ps.elem i with
  | true => simp
  | false =>
    simp only [cond_false]
    cases qs.elem i with
    | true => simp
    | false =>
      simp only [cond_false]
      split
      · simp
      · simp
      · simp
      · split <;> simp
      · simp
theorem W_draw (qs ps : List Nat) {i : Nat} {l : List Oper} {e : Env} {Q : Ex → Env → Prop} (hm : P.follows .mixedOrders = true) (hs : sOk qs ps l = true) (h : Wd P O qs ps l e Q l 0 [] e) : W P O (.region i l.toArray true) e Q := by
  obtain ⟨N, tr, f, p, h1, h2, h3, h4, h5, hkt, h6⟩ := Wd_trace l 0 [] e h
  simp only [sOk, Bool.and_eq_true] at hs
  obtain ⟨hdr, hpr⟩ := hs
  have T := traced _ _ _ _ _ _ h1
  have hix : ∀ (q : Nat) x, tr[q]? = some x → x.i = q := fun q x hx => by simpa using T.i q x hx
  have hop : ∀ (q : Nat) x, tr[q]? = some x → l[q]? = some x.o := fun q x hx => T.o q x hx
  have hpair : ∀ (a b : Nat) x y, a < b → tr[a]? = some x → tr[b]? = some y → pairK (modeD ps) (ancs l) a (kindD qs ps a x.o.op) b (kindD qs ps b y.o.op) = true := fun a b x y hab hx hy => by
    have := pairsK_spec l 0 hpr a b x.o y.o hab (hop a x hx) (hop b y hy)
    simpa using this
  have hchg3 : ∀ (q : Nat) x, tr[q]? = some x → x.isChg = true → kindD qs ps q x.o.op = 3 ∧ newOp x.o.op = false := fun q x hx hc => by
    simp only [TrE.isChg, Bool.and_eq_true, Bool.not_eq_true'] at hc
    have := (h2 x (List.mem_of_getElem? hx)).chg hc.1
    rw [hix q x hx] at this
    rcases this.1 with g | g
    · rw [hc.2] at g; cases g
    · exact ⟨g, hc.2⟩
  have hpairC : ∀ (a b : Nat) x y, a < b → tr[a]? = some x → tr[b]? = some y → kindD qs ps b y.o.op = 3 → kindD qs ps a x.o.op ≠ 0 → (modeD ps = false ∨ kindD qs ps a x.o.op ≠ 2) → ((ancs l).getD b 0).testBit a = true := fun a b x y hab hx hy hk hk' hmd => by
    have := hpair a b x y hab hx hy
    simp only [pairK, hk, Nat.beq_refl, cond_true, Bool.or_eq_true, Bool.and_eq_true] at this
    rcases this with (g | ⟨g1, g2⟩) | g
    · exact absurd (Nat.eq_of_beq_eq_true g) hk'
    · rcases hmd with h | h
      · rw [h] at g1; cases g1
      · exact absurd (Nat.eq_of_beq_eq_true g2) h
    · exact g
  have hpairR : ∀ (a b : Nat) x y, a < b → tr[a]? = some x → tr[b]? = some y → kindD qs ps a x.o.op = 3 → kindD qs ps b y.o.op = 2 → modeD ps = false → ((ancs l).getD b 0).testBit a = true := fun a b x y hab hx hy hk hk' hmd => by
    have := hpair a b x y hab hx hy
    simp only [pairK, hk, hk', hmd] at this
    simpa using this
  have hchain : chainOk (ancs l) (chgs tr) = true := by
    have key : ∀ (m : List TrE) (k : Nat), (∀ q x, m[q]? = some x → tr[k + q]? = some x) → chainOk (ancs l) (chgs m) = true ∧ ∀ c, (chgs m).head? = some c → ∃ q x, m[q]? = some x ∧ x.isChg = true ∧ c = k + q := by
      intro m
      induction m with
      | nil => intro k _; exact ⟨rfl, by simp [chgs]⟩
      | cons x m ih =>
        intro k hm'
        obtain ⟨g1, g2⟩ := ih (k + 1) fun q y hy => by rw [show k + 1 + q = k + (q + 1) by omega]; exact hm' (q + 1) y (by simpa using hy)
        have hx0 := hm' 0 x rfl
        simp only [Nat.add_zero] at hx0
        cases hc : x.isChg with
        | false =>
          have : chgs (x :: m) = chgs m := by simp [chgs, List.filter_cons, hc]
          rw [this]
          exact ⟨g1, fun c hcc => by obtain ⟨q, y, k1, k2, k3⟩ := g2 c hcc; exact ⟨q + 1, y, by simpa using k1, k2, by omega⟩⟩
        | true =>
          have : chgs (x :: m) = k :: chgs m := by simp [chgs, List.filter_cons, hc, hix k x hx0]
          rw [this]
          refine ⟨?_, fun c hcc => ⟨0, x, rfl, hc, by simp at hcc; omega⟩⟩
          cases hcm : chgs m with
          | nil => rfl
          | cons d ds =>
            obtain ⟨q, y, k1, k2, k3⟩ := g2 d (by rw [hcm]; rfl)
            have hy := hm' (q + 1) y (by simpa using k1)
            simp only [chainOk, Bool.and_eq_true]
            rw [← hcm]
            refine ⟨?_, g1⟩
            subst k3
            rw [show k + 1 + q = k + (q + 1) by omega]
            exact hpairC k (k + (q + 1)) x y (by omega) hx0 hy (hchg3 _ y hy k2).1 (by rw [(hchg3 k x hx0 hc).1]; simp) (.inr (by rw [(hchg3 k x hx0 hc).1]; simp))
    exact (key tr 0 fun q x hx => by simpa using hx).1
  have hchgs : ∀ c ∈ chgs tr, ∃ x, tr[c]? = some x ∧ x.isChg = true := by
    intro c hc
    obtain ⟨x, hx, rfl⟩ := List.mem_map.1 hc
    obtain ⟨q, hq⟩ := List.getElem?_of_mem (List.mem_filter.1 hx).1
    exact ⟨x, by rw [hix q x hq]; exact hq, (List.mem_filter.1 hx).2⟩
  have hnews : newsOk (ancs l) (news tr) (chgs tr) = true := by
    simp only [newsOk, List.all_eq_true, Bool.or_eq_true, Nat.blt_eq]
    intro c hc n hn
    obtain ⟨x, hx, hxc⟩ := hchgs c hc
    obtain ⟨y, hy, rfl⟩ := List.mem_map.1 hn
    obtain ⟨q, hq⟩ := List.getElem?_of_mem (List.mem_filter.1 hy).1
    have hyn := (List.mem_filter.1 hy).2
    simp only [TrE.isNew, Bool.and_eq_true] at hyn
    simp only
    rw [hix q y hq]
    rcases Nat.lt_trichotomy c q with g | g | g
    · exact .inl g
    · subst g
      rw [hx] at hq; cases hq
      have := (hchg3 c x hx hxc).2
      rw [hyn.2] at this; cases this
    · exact .inr (hpairC q c y x g hq hx (hchg3 c x hx hxc).1 (by rw [new_kind hyn.2]; simp) (.inr (by rw [new_kind hyn.2]; simp)))
  have hunder : chgsUnder tr = true := by
    simp only [chgsUnder, List.all_eq_true, Bool.or_eq_true, Bool.not_eq_true']
    intro x hx
    cases hc : x.chg with
    | false => exact .inl rfl
    | true =>
      right
      intro y hy
      simp only [unb, Bool.or_eq_true, decide_eq_true_eq]
      exact .inr (((h2 x hx).chg hc).2.1 y hy)
  have hreads : readsAll P (dcall P O N) f.s.n e.s.n (ancs l) tr f.s = true := by
    have key : ∀ (m : List TrE), (∀ x ∈ m, x ∈ tr) → ∀ ss, (modeD ps = true → ∀ s ∈ ss, ∀ id, id < e.s.n → s.get id = e.s.get id) → readsOk P (dcall P O N) f.s.n e.s.n (ancs l) (news tr) (chgs tr) ss m = true := by
      intro m
      induction m with
      | nil => intro _ ss _; rfl
      | cons x m ih =>
        intro hm' ss hss
        simp only [readsOk, Bool.and_eq_true, Bool.or_eq_true]
        refine ⟨?_, ih (fun y hy => hm' y (List.mem_cons_of_mem _ hy)) ss hss⟩
        have hxt := hm' x (List.mem_cons_self ..)
        cases hc : x.chg with
        | true => simp
        | false =>
          cases hr : x.run with
          | false => simp
          | true =>
            rcases (h2 x hxt).keep hr hc with g | ⟨g, g'⟩
            · simp [g]
            · cases hpp : pureOp x.o.op with
              | true => simp
              | false =>
                cases hmd : modeD ps with
                | true =>
                  right
                  simp only [stableC, decide_eq_true_eq]
                  refine ⟨fun s hs id hid => ?_, fun s' hs => g' s' fun id hid => hs id ?_⟩
                  · rw [hss hmd s hs id hid, ((hkt hmd (Nat.le_refl _)).1 x hxt id hid)]
                  · rw [hmd] at hid
                    rcases hid with h | ⟨k, h, _⟩
                    · exact h
                    · simp [nsM] at h
                | false =>
                left; right
                simp only [stableB, Bool.and_eq_true, List.all_eq_true, Bool.or_eq_true, decide_eq_true_eq]
                rw [hmd] at g'
                refine ⟨fun c hcc => ?_, g'⟩
                obtain ⟨y, hy, hyc⟩ := hchgs c hcc
                obtain ⟨q, hq⟩ := List.getElem?_of_mem hxt
                rw [hix q x hq]
                have hk3 := (hchg3 c y hy hyc).1
                rcases Nat.lt_trichotomy c q with w | w | w
                · left
                  rcases kind_le (qs := qs) (ps := ps) (i := q) hpp g with k | k
                  · exact hpairR c q y x w hy hq hk3 k hmd
                  · exact hpairC c q y x w hy hq k (by rw [hk3]; simp) (.inl hmd)
                · subst w
                  rw [hy] at hq; cases hq
                  simp only [TrE.isChg, hc, Bool.false_and] at hyc
                  cases hyc
                · right
                  exact hpairC q c x y w hq hy hk3 (kind_ne0 hpp) (.inl hmd)
    have htrs : ∀ (m : List TrE) s, s ∈ trStores m → ∃ x ∈ m, x.e.s = s := by
      intro m
      induction m with
      | nil => intro s hs; simp [trStores] at hs
      | cons y m ih =>
        intro s hs
        simp only [trStores] at hs
        cases hy : y.isChg with
        | true =>
          rw [hy] at hs
          rcases List.mem_cons.1 hs with rfl | hs
          · exact ⟨y, List.mem_cons_self .., rfl⟩
          · obtain ⟨x, h1, h2⟩ := ih s hs; exact ⟨x, List.mem_cons_of_mem _ h1, h2⟩
        | false =>
          rw [hy] at hs
          obtain ⟨x, h1, h2⟩ := ih s hs; exact ⟨x, List.mem_cons_of_mem _ h1, h2⟩
    unfold readsAll
    split
    · rfl
    · refine key tr (fun x hx => hx) _ fun hmd s hs id hid => ?_
      obtain ⟨g1, g2⟩ := hkt hmd (Nat.le_refl _)
      rcases List.mem_append.1 hs with hs | hs
      · obtain ⟨x, hx, rfl⟩ := htrs tr s hs
        exact g1 x hx id hid
      · rw [List.mem_singleton] at hs; subst hs; exact g2 id hid
  have hall : (P.follows .mixedOrders && drawOk l && chainOk (ancs l) (chgs tr) && newsOk (ancs l) (news tr) (chgs tr) && growOk tr f.s.n && chgsUnder tr && readsAll P (dcall P O N) f.s.n e.s.n (ancs l) tr f.s) = true := by
    simp only [hm, hdr, hchain, hnews, h3, hunder, hreads, Bool.and_self]
  cases p with
  | none =>
    refine ⟨N, .normal, f, ?_, h6⟩
    simp only [dcode, dregion, cond_true, ddraw, h1, hall]
  | some q =>
    obtain ⟨v, s⟩ := q
    obtain ⟨g1, g2, g3⟩ := h6
    refine ⟨N, .panic v, forget { e with s := s } l, ?_, g3⟩
    simp only [Nat.zero_add] at g2
    simp only [dcode, dregion, cond_true, ddraw, h1, hall, g2]
end
end
end Go.Abs
