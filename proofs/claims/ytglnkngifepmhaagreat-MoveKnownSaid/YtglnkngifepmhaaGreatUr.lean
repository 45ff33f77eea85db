/-
  The abstract machine: the trace of a drawn region.
-/
import Derived.Test.YtglnkngifepmhaaGreatUq
set_option linter.unusedVariables false
set_option linter.unusedSimpArgs false

namespace Go.Abs

theorem put_spec {e e' : Env} {dst : Option Tmp} {v : AV} (h : e.put dst v = some e') : e'.nt = e.nt ∧ e'.ro = e.ro ∧ e'.fn = e.fn ∧ e'.ds = e.ds ∧ e'.s = e.s ∧ e'.r = e.r ∧
    (∀ d, e'.t.get d = if dst = some d then some v else e.t.get d) ∧ ∀ d, dst = some d → d < e.nt := by
  unfold Env.put at h
  cases dst with
  | none => simp at h; subst h; simp
  | some d =>
    simp only at h
    rw [bif_blt] at h
    split at h
    · rename_i hlt
      simp at h; subst h
      refine ⟨rfl, rfl, rfl, rfl, rfl, rfl, fun d' => ?_, fun d' h => by cases h; exact hlt⟩
      rw [Tr.get_set]
      by_cases hd : d' = d
      · subst hd; simp
      · rw [if_neg hd, if_neg (fun h => hd (by simpa using h.symm))]
    · simp at h

/-- the store before each operation, and the last one -/
def stAt (l : List TrE) (f : Env) (i : Nat) : Sto := match l[i]? with
  | some x => x.e.s
  | none => f.s
@[simp] theorem stAt_succ (x : TrE) (l : List TrE) (f : Env) (i : Nat) : stAt (x :: l) f (i + 1) = stAt l f i := by simp [stAt]
@[simp] theorem stAt_nil (f : Env) (i : Nat) : stAt [] f i = f.s := by simp [stAt]
@[simp] theorem stAt_zero (x : TrE) (l : List TrE) (f : Env) : stAt (x :: l) f 0 = x.e.s := by simp [stAt]
theorem stAt_of {l : List TrE} {f : Env} {i : Nat} {x : TrE} (h : l[i]? = some x) : stAt l f i = x.e.s := by simp [stAt, h]

/-- what a name holds behind these operations -/
def tabT (d : Nat) (l : List TrE) (v : Option AV) : Option AV := l.foldl (fun v x => if x.o.dst = some d then some x.v else v) v

structure RowOk (P : Program) (call : CallT) (ops : List Oper) (nt0 : Nat) (ro0 : Option Nat) (x : TrE) (s s' : Sto) (last : Prop) (p : Option (AV × Sto)) : Prop where
  want : awanted ops x.o x.e = some x.run
  nt : x.e.nt = nt0
  ro : x.e.ro = ro0
  st : x.e.s = s
  out : (x.run = false ∧ x.chg = false ∧ x.v = .undef ∧ s' = s) ∨ (x.run = true ∧ x.chg = false ∧ dop P call x.o x.e = some (.val x.v) ∧ s' = s) ∨
    (x.run = true ∧ x.chg = true ∧ dop P call x.o x.e = some (.val' x.v s') ∧ (last → p = none)) ∨ (x.run = true ∧ x.chg = true ∧ last ∧ p = some (x.v, s') ∧ dop P call x.o x.e = some (.pan x.v s'))
  dst : ∀ d, x.o.dst = some d → d < nt0 ∨ (last ∧ ∃ q, p = some q)

structure Traced (P : Program) (call : CallT) (ops rest : List Oper) (i : Nat) (e : Env) (l : List TrE) (f : Env) (p : Option (AV × Sto)) : Prop where
  i : ∀ (q : Nat) x, l[q]? = some x → x.i = i + q
  o : ∀ (q : Nat) x, l[q]? = some x → rest[q]? = some x.o
  t : ∀ (q : Nat) x, l[q]? = some x → ∀ d, x.e.t.get d = tabT d (l.take q) (e.t.get d)
  row : ∀ (q : Nat) x, l[q]? = some x → RowOk P call ops e.nt e.ro x (stAt l f q) (stAt l f (q + 1)) (q + 1 = l.length) p
  first : stAt l f 0 = e.s
  fin : p = none → l.length = rest.length ∧ f.nt = e.nt ∧ f.ro = e.ro ∧ f.fn = e.fn ∧ f.ds = e.ds ∧ f.r = e.r ∧ ∀ d, f.t.get d = tabT d l (e.t.get d)
  pan : ∀ v s, p = some (v, s) → s = f.s ∧ 0 < l.length ∧ ∀ x, l[l.length - 1]? = some x → x.chg = true

theorem traced {P : Program} {call : CallT} {ops : List Oper} : ∀ (rest : List Oper) (i : Nat) (e : Env) (l : List TrE) (f : Env) (p : Option (AV × Sto)), dtr P call ops rest i e = some (l, f, p) → Traced P call ops rest i e l f p := by
  intro rest
  induction rest with
  | nil =>
    intro i e l f p h
    simp [dtr] at h
    obtain ⟨rfl, rfl, rfl⟩ := h
    exact ⟨by simp, by simp, by simp, by simp, by simp, fun _ => by simp [tabT], fun v s h => by cases h⟩
  | cons o rest ih =>
    intro i e l f p h
    -- one row, and the rest
    have cons : ∀ (x : TrE) (e' : Env), trCons x (dtr P call ops rest (i + 1) e') = some (l, f, p) → x.i = i → x.o = o → x.e = e → e'.nt = e.nt → e'.ro = e.ro → e'.fn = e.fn → e'.ds = e.ds → e'.r = e.r →
        (∀ d, e'.t.get d = if o.dst = some d then some x.v else e.t.get d) → (∀ d, o.dst = some d → d < e.nt) → awanted ops o e = some x.run →
        ((x.run = false ∧ x.chg = false ∧ x.v = .undef ∧ e'.s = e.s) ∨ (x.run = true ∧ x.chg = false ∧ dop P call o e = some (.val x.v) ∧ e'.s = e.s) ∨ (x.run = true ∧ x.chg = true ∧ dop P call o e = some (.val' x.v e'.s))) →
        Traced P call ops (o :: rest) i e l f p := by
      intro x e' hc hi ho he hnt hro hfn hds hr ht hd hw hout
      unfold trCons at hc
      split at hc
      · rename_i l' f' p' hrest
        simp at hc
        obtain ⟨rfl, rfl, rfl⟩ := hc
        have T := ih (i + 1) e' l' f' p' hrest
        have hs1 : stAt (x :: l') f' 1 = e'.s := by rw [stAt_succ]; exact T.first
        refine ⟨?_, ?_, ?_, ?_, by simp [he], ?_, ?_⟩
        · intro q y hy
          cases q with
          | zero => simp at hy; subst hy; simpa using hi
          | succ q => simp at hy; rw [T.i q y hy]; omega
        · intro q y hy
          cases q with
          | zero => simp at hy; subst hy; simp [ho]
          | succ q => simp at hy; simpa using T.o q y hy
        · intro q y hy d
          cases q with
          | zero => simp at hy; subst hy; simp [tabT, he]
          | succ q =>
            simp at hy
            rw [T.t q y hy d, ht d]
            simp [tabT, ho]
        · intro q y hy
          cases q with
          | zero =>
            simp at hy; subst hy
            simp only [Nat.zero_add, stAt_zero, hs1]
            refine ⟨by rw [ho, he]; exact hw, by rw [he], by rw [he], rfl, ?_, fun d hd' => .inl (hd d (by rw [← ho]; exact hd'))⟩
            rw [ho, he]
            rcases hout with h1 | h1 | h1
            · exact .inl h1
            · exact .inr (.inl h1)
            · refine .inr (.inr (.inl ⟨h1.1, h1.2.1, h1.2.2, fun hl => ?_⟩))
              cases hp : p' with
              | none => rfl
              | some vs =>
                have := (T.pan vs.1 vs.2 hp).2.1
                simp at hl
                simp [hl] at this
          | succ q =>
            simp at hy
            have R := T.row q y hy
            simp only [stAt_succ]
            rw [hnt, hro] at R
            refine ⟨R.want, R.nt, R.ro, R.st, ?_, ?_⟩
            · rcases R.out with h1 | h1 | h1 | h1
              · exact .inl h1
              · exact .inr (.inl h1)
              · exact .inr (.inr (.inl ⟨h1.1, h1.2.1, h1.2.2.1, fun hl => h1.2.2.2 (by simpa using hl)⟩))
              · exact .inr (.inr (.inr ⟨h1.1, h1.2.1, by simpa using h1.2.2.1, h1.2.2.2⟩))
            · intro d hd'
              rcases R.dst d hd' with h1 | h1
              · exact .inl h1
              · exact .inr ⟨by simpa using h1.1, h1.2⟩
        · intro hp
          obtain ⟨h1, h2, h3, h4, h5, h6, h7⟩ := T.fin hp
          refine ⟨by simp [h1], by rw [h2, hnt], by rw [h3, hro], by rw [h4, hfn], by rw [h5, hds], by rw [h6, hr], fun d => ?_⟩
          rw [h7 d, ht d]; simp [tabT, ho]
        · intro v s hp
          obtain ⟨g1, g2, g3⟩ := T.pan v s hp
          refine ⟨g1, by simp, fun y hy => g3 y ?_⟩
          rw [← hy]
          have : (x :: l').length - 1 = (l'.length - 1) + 1 := by simp; omega
          rw [this]; simp
      · cases hc
    simp only [dtr] at h
    split at h
    · cases h
    · rename_i hw
      split at h
      · rename_i e' hp
        obtain ⟨a1, a2, a3, a4, a5, a6, a7, a8⟩ := put_spec hp
        exact cons _ e' h rfl rfl rfl a1 a2 a3 a4 a6 a7 a8 hw (.inl ⟨rfl, rfl, rfl, a5⟩)
      · cases h
    · rename_i hw
      split at h
      · rename_i v hop
        split at h
        · rename_i e' hp
          obtain ⟨a1, a2, a3, a4, a5, a6, a7, a8⟩ := put_spec hp
          exact cons _ e' h rfl rfl rfl a1 a2 a3 a4 a6 a7 a8 hw (.inr (.inl ⟨rfl, rfl, hop, a5⟩))
        · cases h
      · rename_i v s hop
        split at h
        · rename_i e' hp
          obtain ⟨a1, a2, a3, a4, a5, a6, a7, a8⟩ := put_spec hp
          exact cons _ e' h rfl rfl rfl a1 a2 a3 a4 a6 a7 a8 hw (.inr (.inr ⟨rfl, rfl, by rw [a5]; exact hop⟩))
        · cases h
      · rename_i v s hop
        simp at h
        obtain ⟨rfl, rfl, rfl⟩ := h
        refine ⟨?_, ?_, ?_, ?_, by simp, fun hp => (by cases hp), fun v' s' hp => (by cases hp; simp)⟩
        · intro q x hx; cases q with
          | zero => simp at hx; subst hx; rfl
          | succ q => simp at hx
        · intro q x hx; cases q with
          | zero => simp at hx; subst hx; rfl
          | succ q => simp at hx
        · intro q x hx; cases q with
          | zero => simp at hx; subst hx; simp [tabT]
          | succ q => simp at hx
        · intro q x hx
          cases q with
          | zero =>
            simp at hx; subst hx
            refine ⟨hw, rfl, rfl, by simp, .inr (.inr (.inr ⟨rfl, rfl, rfl, rfl, hop⟩)), fun d _ => .inr ⟨rfl, _, rfl⟩⟩
          | succ q => simp at hx
      · cases h

/-! ### what comes before what -/
theorem ancOf_bit (acc : List Nat) (o : Oper) (i : Nat) (h : (ancOf acc o).testBit i = true) : ∃ e ∈ o.after, Region.binds .any e = true ∧ (e.on = i ∨ (acc.getD e.on 0).testBit i = true) := by
  unfold ancOf at h
  have : ∀ (l : List Edge) (m : Nat), (l.foldl (fun m e => bif Region.binds .any e then m ||| (2 ^ e.on ||| acc.getD e.on 0) else m) m).testBit i = true →
      m.testBit i = true ∨ ∃ e ∈ l, Region.binds .any e = true ∧ (e.on = i ∨ (acc.getD e.on 0).testBit i = true) := by
    intro l
    induction l with
    | nil => intro m h; exact .inl h
    | cons e l ih =>
      intro m h
      rw [List.foldl_cons] at h
      rcases ih _ h with h1 | ⟨e', h1, h2⟩
      · cases hb : Region.binds .any e with
        | false => rw [hb] at h1; exact .inl h1
        | true =>
          rw [hb] at h1
          simp only [cond_true, Nat.testBit_or, Bool.or_eq_true, Nat.testBit_two_pow, decide_eq_true_eq] at h1
          rcases h1 with h1 | h1
          · exact .inl h1
          · exact .inr ⟨e, by simp, hb, h1⟩
      · exact .inr ⟨e', by simp [h1], h2⟩
  rcases this _ 0 h with h1 | ⟨e, h1, h2⟩
  · simp at h1
  · exact ⟨e, by simpa using h1, h2⟩

theorem ancsGo_old : ∀ (l : List Oper) (acc : List Nat) (j : Nat), j < acc.length → (ancsGo l acc).getD j 0 = acc.getD j 0 := by
  intro l
  induction l with
  | nil => intro acc j h; rfl
  | cons o l ih =>
    intro acc j h
    rw [ancsGo, ih _ _ (by simp; omega)]
    simp [List.getD_eq_getElem?_getD, List.getElem?_append, h]
theorem ancsGo_new : ∀ (l : List Oper) (acc : List Nat) (q : Nat) (o : Oper), l[q]? = some o → ∃ pre : List Nat, (∀ j i, (pre.getD j 0).testBit i = true → ((ancsGo l acc).getD j 0).testBit i = true) ∧ (ancsGo l acc).getD (acc.length + q) 0 = ancOf pre o := by
  intro l
  induction l with
  | nil => intro acc q o h; simp at h
  | cons a l ih =>
    intro acc q o h
    cases q with
    | zero =>
      simp at h; subst h
      refine ⟨acc, fun j i hb => ?_, ?_⟩
      · by_cases hj : j < acc.length
        · rw [ancsGo, ancsGo_old _ _ _ (by simp; omega)]
          simp only [List.getD_eq_getElem?_getD, List.getElem?_append, hj, if_true] at hb ⊢
          exact hb
        · simp [List.getD_eq_getElem?_getD, List.getElem?_eq_none (Nat.le_of_not_lt hj)] at hb
      · rw [ancsGo, ancsGo_old _ _ _ (by simp)]
        simp
    | succ q =>
      simp at h
      obtain ⟨pre, h1, h2⟩ := ih (acc ++ [ancOf acc a]) q o h
      refine ⟨pre, h1, ?_⟩
      rw [ancsGo]
      rw [← h2]
      congr 1
      simp; omega
theorem ancs_bit {ops : List Oper} {j i : Nat} {o : Oper} (ho : ops[j]? = some o) (h : ((ancs ops).getD j 0).testBit i = true) : ∃ e ∈ o.after, Region.binds .any e = true ∧ (e.on = i ∨ ((ancs ops).getD e.on 0).testBit i = true) := by
  obtain ⟨pre, h1, h2⟩ := ancsGo_new ops [] j o ho
  simp only [List.length_nil, Nat.zero_add] at h2
  unfold ancs at h ⊢
  rw [h2] at h
  obtain ⟨e, e1, e2, e3⟩ := ancOf_bit _ _ _ h
  exact ⟨e, e1, e2, e3.imp id (h1 _ _)⟩

theorem pairsOk_spec {ops : List Oper} {as : List Nat} : ∀ (l : List Oper) (i : Nat), pairsOk ops as l i = true → ∀ (q q' : Nat) oi oj, q < q' → l[q]? = some oi → l[q']? = some oj → pairOk ops as (i + q) oi (i + q') oj = true := by
  intro l
  induction l with
  | nil => intro i h q q' oi oj _ h1; simp at h1
  | cons o l ih =>
    intro i h q q' oi oj hq h1 h2
    simp only [pairsOk, Bool.and_eq_true, List.all_eq_true] at h
    obtain ⟨q', rfl⟩ : ∃ z, q' = z + 1 := ⟨q' - 1, by omega⟩
    simp at h2
    cases q with
    | zero =>
      simp at h1; subst h1
      have := h.1 (oj, i + 1 + q') (List.mk_mem_zipIdx_iff_le_and_getElem?_sub.2 ⟨by omega, by rw [show i + 1 + q' - (i + 1) = q' by omega]; exact h2⟩)
      simpa [Nat.add_assoc, Nat.add_comm 1] using this
    | succ q =>
      simp at h1
      have := ih (i + 1) h.2 q q' oi oj (by omega) h1 h2
      rw [show i + (q + 1) = i + 1 + q by omega, show i + (q' + 1) = i + 1 + q' by omega]
      exact this

theorem pair_bit {ops : List Oper} {i j d : Nat} {oi oj : Oper} (h : drawOk ops = true) (hij : i < j) (h1 : ops[i]? = some oi) (h2 : ops[j]? = some oj) (hd : (oi.dst = some d ∧ d ∈ onames ops oj) ∨ (oj.dst = some d ∧ d ∈ onames ops oi)) :
    ((ancs ops).getD j 0).testBit i = true := by
  simp only [drawOk, Bool.and_eq_true] at h
  have hp := pairsOk_spec ops 0 h.2 i j oi oj hij h1 h2
  simp only [Nat.zero_add, pairOk, Bool.or_eq_true, Bool.not_eq_true'] at hp
  rcases hp with hp | hp
  · simp only [Bool.or_eq_false_iff] at hp
    exfalso
    rcases hd with ⟨hd1, hd2⟩ | ⟨hd1, hd2⟩
    · have := hp.1
      simp [writes, hd1] at this
      exact this hd2
    · have := hp.2
      simp [writes, hd1] at this
      exact this hd2
  · exact hp

theorem edge_lt {ops : List Oper} {j : Nat} {o : Oper} {e : Edge} (h : drawOk ops = true) (ho : ops[j]? = some o) (he : e ∈ o.after) (hb : Region.binds .any e = true) : e.on < j := by
  simp only [drawOk, Bool.and_eq_true] at h
  have := h.1.2
  simp only [edgesOk, List.all_eq_true] at this
  have := this (o, j) (List.mk_mem_zipIdx_iff_getElem?.2 ho) e (by simpa using he)
  simp [hb, Nat.blt_eq] at this
  exact this
theorem no_select {ops : List Oper} {j : Nat} {o : Oper} (h : drawOk ops = true) (ho : ops[j]? = some o) (cs : Array SelectCase) (b : Bool) : o.op ≠ .select cs b := by
  simp only [drawOk, Bool.and_eq_true] at h
  have := h.1.1
  simp only [noSelect, List.all_eq_true] at this
  have := this o (List.mem_of_getElem? ho)
  intro he
  rw [he] at this
  simp at this

theorem chainOk_tail {as : List Nat} : ∀ (pre : List Nat) (c : Nat) (rest : List Nat), chainOk as (pre ++ c :: rest) = true → chainOk as (c :: rest) = true := by
  intro pre
  induction pre with
  | nil => intro c rest h; exact h
  | cons a pre ih =>
    intro c rest h
    apply ih c rest
    cases pre with
    | nil => simp only [List.nil_append, List.cons_append, chainOk, Bool.and_eq_true] at h ⊢; exact h.2
    | cons b pre => simp only [List.cons_append, chainOk, Bool.and_eq_true] at h ⊢; exact h.2
theorem chain_done {as : List Nat} {done : Nat → Prop} (hC : ∀ j, done j → ∀ i, (as.getD j 0).testBit i = true → done i) : ∀ (rest : List Nat) (c : Nat), chainOk as (c :: rest) = true → ∀ j ∈ rest, (∀ i, (as.getD j 0).testBit i = true → done i) → done c := by
  intro rest
  induction rest with
  | nil => intro c _ j hj; simp at hj
  | cons d rest ih =>
    intro c h j hj hr
    simp only [chainOk, Bool.and_eq_true] at h
    rcases List.mem_cons.1 hj with rfl | hj
    · exact hr c h.1
    · exact hC d (ih d h.2 j hj hr) c h.1

end Go.Abs
