/-
  The abstract machine: drawn regions.
-/
import Derived.Test.YtglnkngifepmhaaGreatUo
import Derived.RangeFuncRecord
import Derived.RangeFuncIn
import Derived.Defers
import Derived.Laws.Sem
import Derived.ChangeSame
import Derived.RowKit3
set_option linter.unusedVariables false
set_option linter.unusedSimpArgs false

namespace Go.Abs

/-! ### tables -/
theorem tabT_filter (d : Nat) : ∀ (l : List TrE) (v : Option AV), tabT d l v = tabT d (l.filter fun x => x.o.dst == some d) v := by
  intro l
  induction l with
  | nil => intro v; rfl
  | cons x l ih =>
    intro v
    by_cases h : x.o.dst = some d
    · simp only [List.filter_cons, h, BEq.rfl, if_true]
      simp only [tabT, List.foldl_cons, h, if_true]
      exact ih _
    · have : (x.o.dst == some d) = false := by simpa using h
      simp only [List.filter_cons, this]
      simp only [tabT, List.foldl_cons, h, if_false]
      exact ih _
theorem tabT_same {d : Nat} {l m : List TrE} {v : Option AV} (h : (l.filter fun x => x.o.dst == some d) = m.filter fun x => x.o.dst == some d) : tabT d l v = tabT d m v := by
  rw [tabT_filter d l, tabT_filter d m, h]
theorem tabT_done {d : Nat} {l : List TrE} {v : Option AV} {done : Nat → Bool} {j : Nat} (hi : ∀ (q : Nat) x, l[q]? = some x → x.i = q)
    (h1 : ∀ (i : Nat) x, i < j → l[i]? = some x → x.o.dst = some d → done i = true) (h2 : ∀ (i : Nat) x, j ≤ i → l[i]? = some x → x.o.dst = some d → done i = false) :
    tabT d (l.filter fun x => done x.i) v = tabT d (l.take j) v := by
  apply tabT_same
  rw [List.filter_filter]
  conv => lhs; rw [← List.take_append_drop j l]
  rw [List.filter_append]
  have e2 : (l.drop j).filter (fun x => (x.o.dst == some d) && done x.i) = [] := by
    rw [List.filter_eq_nil_iff]
    intro x hx
    obtain ⟨q, hq⟩ := List.getElem?_of_mem hx
    rw [List.getElem?_drop] at hq
    rw [hi _ x hq]
    by_cases hd : x.o.dst = some d
    · simp [h2 _ x (by omega) hq hd]
    · simp [hd]
  rw [e2, List.append_nil]
  apply List.filter_congr
  intro x hx
  obtain ⟨q, hq⟩ := List.getElem?_of_mem hx
  rw [List.getElem?_take] at hq
  split at hq
  · rename_i hlt
    rw [hi _ x hq]
    by_cases hd : x.o.dst = some d
    · simp [hd, h1 q x hlt hq hd]
    · simp [hd]
  · cases hq
theorem tabT_put {d : Nat} {l : List TrE} {v : Option AV} {done : Nat → Bool} {j : Nat} {x : TrE} (hi : ∀ (q : Nat) x, l[q]? = some x → x.i = q) (hx : l[j]? = some x) (hd : x.o.dst ≠ some d) :
    tabT d (l.filter fun x => done x.i || x.i == j) v = tabT d (l.filter fun x => done x.i) v := by
  apply tabT_same
  rw [List.filter_filter, List.filter_filter]
  apply List.filter_congr
  intro y hy
  obtain ⟨q, hq⟩ := List.getElem?_of_mem hy
  rw [hi _ y hq]
  by_cases hqj : q = j
  · subst hqj
    rw [hx] at hq; cases hq
    have : (x.o.dst == some d) = false := by simpa using hd
    rw [this]; rfl
  · have : (q == j) = false := by simpa using hqj
    rw [this, Bool.or_false]

section
variable {P : Program} {call : CallT} {ops : List Oper} {e0 : Env} {l : List TrE} {f : Env} {p : Option (AV × Sto)}
variable {σ0 σ : Sg} {w0 w w' : World} {done done' : Nat → Bool} {pt : Nat} {X : Sto}

/-- the names, when these operations have been done -/
structure InvT (P : Program) (ops : List Oper) (e0 : Env) (l : List TrE) (p : Option (AV × Sto)) (done : Nat → Bool) (σ : Sg) (a : Act) : Prop where
  cl : ∀ j, done j = true → ∀ i, ((ancs ops).getD j 0).testBit i = true → done i = true
  dom : ∀ j, done j = true → j < l.length ∧ (p ≠ none → j + 1 < l.length)
  sz : a.tmps.size = e0.nt
  tm : ∀ d v, tabT d (l.filter fun x => done x.i) (e0.t.get d) = some v → d < e0.nt ∧ VR σ v (a.tmps.getD d undef)

/-- an operation may come -/
structure Ready (ops : List Oper) (done : Nat → Bool) (j : Nat) : Prop where
  nd : done j = false
  anc : ∀ i, ((ancs ops).getD j 0).testBit i = true → done i = true

theorem Drawn.names (D : Drawn P call ops e0 l f p) {a : Act} (I : InvT P ops e0 l p done σ a) {j : Nat} {x : TrE} (hx : l[j]? = some x) (hr : Ready ops done j) {d : Nat} (hd : d ∈ onames ops x.o) :
    tabT d (l.filter fun x => done x.i) (e0.t.get d) = x.e.t.get d := by
  rw [D.T.t j x hx d]
  refine tabT_done (fun q x h => D.ix h) (fun i y hij hy hyd => ?_) (fun i y hij hy hyd => ?_)
  · exact hr.anc i (pair_bit D.dr hij (D.T.o i y hy) (D.T.o j x hx) (.inl ⟨hyd, hd⟩))
  · by_cases he : i = j
    · subst he; exact hr.nd
    · cases hdi : done i with
      | false => rfl
      | true =>
        have := I.cl i hdi j (pair_bit D.dr (by omega) (D.T.o j x hx) (D.T.o i y hy) (.inr ⟨hyd, hd⟩))
        rw [hr.nd] at this; cases this

theorem Drawn.tmR (D : Drawn P call ops e0 l f p) {a : Act} (I : InvT P ops e0 l p done σ a) {j : Nat} {x : TrE} (hx : l[j]? = some x) (hr : Ready ops done j) {L : List Nat} (hL : ∀ d ∈ L, d ∈ onames ops x.o) {ρ : Sg}
    (hρ : ∀ d ∈ L, ∀ v V, x.e.t.get d = some v → VR σ v V → VR ρ v V) : TmR ρ x.e.nt (only x.e.t L) a.tmps := by
  refine ⟨by rw [I.sz, (D.T.row j x hx).nt], fun d v hv => ?_⟩
  rw [only_get] at hv
  split at hv
  · rename_i hd
    obtain ⟨h1, h2⟩ := I.tm d v (by rw [D.names I hx hr (hL d hd)]; exact hv)
    exact ⟨by rw [(D.T.row j x hx).nt]; exact h1, hρ d hd v _ hv h2⟩
  · cases hv

theorem onames_sub (ops : List Oper) (o : Oper) {d : Nat} (h : d ∈ onames' o) : d ∈ onames ops o := by
  unfold onames; unfold onames' at h
  simp only [List.mem_append]
  exact .inl (.inr h)
theorem gname_sub (ops : List Oper) (o : Oper) {d : Nat} (h : d ∈ gname ops o) : d ∈ onames ops o := by
  unfold onames; unfold gname at h
  simp only [List.mem_append]
  exact .inr h
theorem dst_sub (ops : List Oper) (o : Oper) {d : Nat} (h : o.dst = some d) : d ∈ onames ops o := by
  unfold onames
  simp only [List.mem_append]
  exact .inl (.inl (by simp [h]))

theorem yieldedB {ops : List Oper} {OPS : Array Oper} (hO : OPS.toList = ops) {o : Oper} {e : Env} {T : Array Value} (h : TmR σ e.nt e.t T) {r : Bool} (hw : awanted ops o e = some r) : Region.wanted o (yielded OPS T) = r := by
  let b : Frame := { (default : Frame) with fn := e.fn }
  unfold awanted at hw
  unfold Region.wanted
  split at hw
  · rename_i hg; simp at hw; subst hw; rw [hg]
  · rename_i j want hg
    rw [hg]
    have hops : OPS[j]? = ops[j]? := by rw [← hO]; simp
    split at hw
    · rename_i hd
      simp at hw; subst hw
      have : (OPS[j]?).bind (·.dst) = none := by
        rw [hops]
        split at hd
        · rename_i g hg'; rw [hg']; exact hd
        · rename_i hg'; rw [hg']; rfl
      simp [yielded, this]
    · rename_i d hd
      have hb : (OPS[j]?).bind (·.dst) = some d := by
        rw [hops]
        split at hd
        · rename_i g hg'; rw [hg']; exact hd
        · simp at hd
      split at hw
      · rename_i b' hb'
        simp at hw; subst hw
        obtain ⟨h1, h2⟩ := h.2 d _ hb'
        have hV := vr_bool h2
        have hlt : @LT.lt Nat instLTNat d T.size := by rw [h.1]; exact h1
        rw [Array.getD_eq_getD_getElem?, Array.getElem?_eq_getElem hlt] at hV
        simp only [Option.getD_some] at hV
        simp only [yielded, hb, Option.bind_some, Array.getElem?_eq_getElem hlt, hV]
        rfl
      · rename_i vs hb'
        simp at hw; subst hw
        obtain ⟨h1, h2⟩ := h.2 d _ hb'
        obtain ⟨ys, hV, _⟩ := VR.tuple_iff.1 h2
        have hlt : @LT.lt Nat instLTNat d T.size := by rw [h.1]; exact h1
        rw [Array.getD_eq_getD_getElem?, Array.getElem?_eq_getElem hlt] at hV
        simp only [Option.getD_some] at hV
        simp only [yielded, hb, Option.bind_some, Array.getElem?_eq_getElem hlt, hV]
        rfl
      · simp at hw

/-- names behind an operation -/
theorem InvT.put (D : Drawn P call ops e0 l f p) {a : Act} (I : InvT P ops e0 l p done σ a) {j : Nat} {x : TrE} (hx : l[j]? = some x) (hr : Ready ops done j) (hnp : ¬ (j + 1 = l.length ∧ ∃ q, p = some q)) {τ : Sg} (hτ : σ.le τ) {V : Value} (hV : VR τ x.v V) :
    InvT P ops e0 l p (fun i => done i || i == j) τ (a.put x.o.dst V) := by
  have hjl : j < l.length := (List.getElem?_eq_some_iff.1 hx).1
  refine ⟨?_, ?_, ?_, ?_⟩
  · intro i hi q hq
    by_cases hij : i = j
    · subst hij; simp [hr.anc q hq]
    · simp only [Bool.or_eq_true, beq_iff_eq, hij, or_false] at hi
      simp [I.cl i hi q hq]
  · intro i hi
    by_cases hij : i = j
    · subst hij
      refine ⟨hjl, fun hp => ?_⟩
      cases hpp : p with
      | none => exact absurd hpp hp
      | some q =>
        by_cases he : i + 1 = l.length
        · exact absurd ⟨he, q, hpp⟩ hnp
        · omega
    · exact I.dom i (by simpa [hij] using hi)
  · cases x.o.dst <;> simp [Act.put, I.sz]
  · intro d v hv
    by_cases hd : x.o.dst = some d
    · have hdn : d < e0.nt := by
        rcases (D.T.row j x hx).dst d hd with h1 | h1
        · exact h1
        · exact absurd h1 hnp
      rw [tabT_done (done := fun i => done i || i == j) (j := j + 1) (fun q x h => D.ix h)] at hv
      · rw [List.take_add_one, hx] at hv
        simp only [Option.toList_some, tabT, List.foldl_append, List.foldl_cons, List.foldl_nil, hd, if_true, Option.some.injEq] at hv
        subst hv
        refine ⟨hdn, ?_⟩
        simp [Act.put, hd, Array.getD_eq_getD_getElem?, Array.getElem?_setIfInBounds, I.sz, hdn, hV]
      · intro i y hij hy hyd
        by_cases he : i = j
        · simp [he]
        · have := hr.anc i (pair_bit D.dr (by omega) (D.T.o i y hy) (D.T.o j x hx) (.inl ⟨hyd, dst_sub ops x.o hd⟩))
          simp [this]
      · intro i y hij hy hyd
        have he : i ≠ j := by omega
        cases hdi : done i with
        | false => simp [he]
        | true =>
          have := I.cl i hdi j (pair_bit D.dr (by omega) (D.T.o j x hx) (D.T.o i y hy) (.inl ⟨hd, dst_sub ops y.o hyd⟩))
          rw [hr.nd] at this; cases this
    · rw [tabT_put (fun q x h => D.ix h) hx hd] at hv
      obtain ⟨h1, h2⟩ := I.tm d v hv
      refine ⟨h1, ?_⟩
      have : (a.put x.o.dst V).tmps.getD d undef = a.tmps.getD d undef := by
        cases hdd : x.o.dst with
        | none => rfl
        | some d' =>
          have hne : d' ≠ d := fun he => hd (by rw [hdd, he])
          simp only [Act.put, Array.getD_eq_getD_getElem?, Array.getElem?_setIfInBounds, if_neg hne]
      rw [this]
      exact h2.mono hτ

/-! ### readers -/
theorem without_get (as : List Nat) (i : Nat) : ∀ (ns : List (Nat × Nat)) (s : Sto) (id : Nat) (x : AObj), (without as i ns s).o.get id = some x → s.o.get id = some x ∧ ∀ n ∈ ns, n.2 = id → (as.getD i 0).testBit n.1 = true := by
  intro ns
  induction ns with
  | nil => intro s id x h; exact ⟨h, by simp⟩
  | cons n ns ih =>
    intro s id x h
    unfold without at h
    cases hb : (as.getD i 0).testBit n.1 with
    | true =>
      rw [hb] at h
      obtain ⟨h1, h2⟩ := ih _ _ _ h
      refine ⟨h1, fun m hm he => ?_⟩
      rcases List.mem_cons.1 hm with rfl | hm
      · exact hb
      · exact h2 m hm he
    | false =>
      rw [hb] at h
      obtain ⟨h1, h2⟩ := ih _ _ _ h
      have h1' : (s.o.del n.2).get id = some x := h1
      rw [Tr.get_del] at h1'
      split at h1'
      · cases h1'
      · rename_i hne
        refine ⟨h1', fun m hm he => ?_⟩
        rcases List.mem_cons.1 hm with rfl | hm
        · exact absurd he.symm hne
        · exact h2 m hm he

theorem rereads_spec {n : Nat} {as : List Nat} {ns : List (Nat × Nat)} {x : TrE} (f : Env) (full : List TrE) (done : Nat → Bool) (hi : ∀ (q : Nat) y, full[q]? = some y → y.i = q) (hcl : ∀ j, done j = true → ∀ i, (as.getD j 0).testBit i = true → done i = true)
    (hnd : done x.i = false) (hanc : ∀ i, (as.getD x.i 0).testBit i = true → done i = true) :
    ∀ (m : List TrE) (k : Nat), m = full.drop k → k ≤ full.length → (∀ (c : Nat) y, c < k → full[c]? = some y → y.isChg = true → done c = true) → rereads P call n as ns x (chgs m) (trStores m ++ [f.s]) = true →
    ∃ q, q ≤ full.length ∧ (∀ (c : Nat) y, c < q → full[c]? = some y → y.isChg = true → done c = true) ∧ (∀ y, full[q]? = some y → y.isChg = true ∧ done q = false) ∧
      isVal x.v (dop P call x.o { x.e with s := { without as x.i ns (stAt full f q) with n := n } }) = true := by
  intro m
  induction m with
  | nil =>
    intro k hm hk hc h
    have hk' : k = full.length := by
      have := congrArg List.length hm
      simp at this; omega
    subst hk'
    simp only [chgs, trStores, List.filter_nil, List.map_nil, List.nil_append, rereads] at h
    exact ⟨full.length, Nat.le_refl _, hc, fun y hy => (by simp at hy), by rw [stAt_len]; exact h⟩
  | cons y m ih =>
    intro k hm hk hc h
    have hky : full[k]? = some y := by
      have : (full.drop k)[0]? = some y := by rw [← hm]; rfl
      rw [List.getElem?_drop] at this
      simpa using this
    have hkl : k < full.length := (List.getElem?_eq_some_iff.1 hky).1
    have hm' : m = full.drop (k + 1) := by
      have := congrArg List.tail hm
      simpa using this
    have hyi := hi k y hky
    cases hyc : y.isChg with
    | false =>
      simp only [chgs, trStores, List.filter_cons, hyc, cond_false, Bool.false_eq_true, if_false] at h
      refine ih (k + 1) hm' (by omega) (fun c z hck hz hzc => ?_) h
      by_cases he : c = k
      · subst he; rw [hky] at hz; cases hz; rw [hyc] at hzc; cases hzc
      · exact hc c z (by omega) hz hzc
    | true =>
      simp only [chgs, trStores, List.filter_cons, hyc, cond_true, if_true, List.map_cons, List.cons_append, rereads, Bool.and_eq_true] at h
      rw [hyi] at h
      cases hd : done k with
      | true =>
        have hb : (as.getD k 0).testBit x.i = false := by
          cases hb : (as.getD k 0).testBit x.i with
          | false => rfl
          | true => rw [hcl k hd _ hb] at hnd; cases hnd
        have h2 := h.2
        rw [hb] at h2
        refine ih (k + 1) hm' (by omega) (fun c z hck hz hzc => ?_) h2
        by_cases he : c = k
        · subst he; exact hd
        · exact hc c z (by omega) hz hzc
      | false =>
        have hb : (as.getD x.i 0).testBit k = false := by
          cases hb : (as.getD x.i 0).testBit k with
          | false => rfl
          | true => rw [hanc k hb] at hd; cases hd
        have h1 := h.1
        rw [hb] at h1
        refine ⟨k, by omega, hc, fun z hz => ?_, by rw [stAt_of hky]; exact h1⟩
        rw [hky] at hz; cases hz
        exact ⟨hyc, hd⟩

theorem readsOk_spec {n n0 : Nat} {as : List Nat} {ns : List (Nat × Nat)} {cs : List Nat} {ss : List Sto} : ∀ (m : List TrE), readsOk P call n n0 as ns cs ss m = true → ∀ x ∈ m, x.chg = false → x.run = true → pureOp x.o.op = false → ordB as ns cs x = true ∨ rereads P call n as ns x cs ss = true ∨ stableB P call as n0 ns cs x = true ∨ stableC P call as n0 cs ss x = true := by
  intro m
  induction m with
  | nil => intro _ x hx; simp at hx
  | cons y m ih =>
    intro h x hx h1 h2 h3
    simp only [readsOk, Bool.and_eq_true, Bool.or_eq_true] at h
    rcases List.mem_cons.1 hx with rfl | hx
    · simpa [h1, h2, h3, or_assoc] using h.1
    · exact ih h.2 x hx h1 h2 h3

theorem bit_lt {ops : List Oper} (h : drawOk ops = true) : ∀ (j i : Nat) (o : Oper), ops[j]? = some o → ((ancs ops).getD j 0).testBit i = true → i < j := by
  intro j
  induction j using Nat.strongRecOn with
  | _ j ih =>
    intro i o ho hb
    obtain ⟨e, e1, e2, e3⟩ := ancs_bit ho hb
    have hlt := edge_lt h ho e1 e2
    rcases e3 with rfl | e3
    · exact hlt
    · have hj : j < ops.length := (List.getElem?_eq_some_iff.1 ho).1
      have := ih e.on hlt i ops[e.on] (List.getElem?_eq_getElem (by omega)) e3
      omega

/-- a store in which a reader comes to what it came to: a part of what is there -/
theorem Drawn.reader (D : Drawn P call ops e0 l f p) (hrd : readsAll P call f.s.n e0.s.n (ancs ops) l f.s = true) {a : Act} (I : InvT P ops e0 l p done σ a) (J : InvS e0 l f σ0 w0 done pt σ X w)
    {j : Nat} {x : TrE} (hx : l[j]? = some x) (hr : Ready ops done j) (hrun : x.run = true) (hch : x.chg = false) :
    ∃ R : Sto, Rel σ R w ∧ dop P call x.o { x.e with s := R } = some (.val x.v) := by
  have hxi := D.ix hx
  have hrow := D.T.row j x hx
  have hval : dop P call x.o x.e = some (.val x.v) := by
    rcases hrow.out with h1 | h1 | h1 | h1
    · rw [h1.1] at hrun; cases hrun
    · exact h1.2.2.1
    · rw [h1.2.1] at hch; cases hch
    · rw [h1.2.1] at hch; cases hch
  cases hp : pureOp x.o.op with
  | true => exact ⟨X, J.rel, (dop_pure hp hval).2 X⟩
  | false =>
    by_cases hnone : chgs l = [] ∧ news l = []
    · -- nothing turns
      have hno : ∀ (i : Nat) z, l[i]? = some z → z.isChg = false ∧ z.isNew = false := by
        intro i z hz
        constructor
        · cases hc : z.isChg with
          | false => rfl
          | true =>
            have : z.i ∈ chgs l := List.mem_map.2 ⟨z, List.mem_filter.2 ⟨List.mem_of_getElem? hz, hc⟩, rfl⟩
            rw [hnone.1] at this; simp at this
        · cases hc : z.isNew with
          | false => rfl
          | true =>
            have : (z.i, z.e.s.n) ∈ news l := List.mem_map.2 ⟨z, List.mem_filter.2 ⟨List.mem_of_getElem? hz, hc⟩, rfl⟩
            rw [hnone.2] at this; simp at this
      have hsame : ∀ (d i : Nat), i + d ≤ l.length → stAt l f (i + d) = stAt l f i := by
        intro d
        induction d with
        | zero => intro i _; rfl
        | succ d ih =>
          intro i hi
          obtain ⟨z, hz⟩ : ∃ z, l[i + d]? = some z := ⟨l[i + d], by rw [List.getElem?_eq_getElem]⟩
          rcases D.step hz (hno _ z hz).1 with ⟨_, h2⟩ | ⟨h1, _⟩
          · rw [show i + (d + 1) = i + d + 1 by omega, h2, ih i (by omega)]
          · rw [(hno _ z hz).2] at h1; cases h1
      have hjl : j < l.length := (List.getElem?_eq_some_iff.1 hx).1
      have h0 : ∀ i, i ≤ l.length → stAt l f i = e0.s := fun i hi => by have := hsame i 0 (by omega); rw [Nat.zero_add] at this; rw [this, D.T.first]
      refine ⟨x.e.s, ?_, hval⟩
      have hxs : x.e.s = e0.s := by rw [hrow.st, h0 j (by omega)]
      rw [hxs]
      have hfs : f.s = e0.s := by rw [← stAt_len l f, h0 _ (Nat.le_refl _)]
      have hpt : stAt l f pt = e0.s := h0 pt J.ptl
      refine J.rel.same (fun id => ?_) (by rw [J.xn, hfs]) (by rw [← hpt]; exact J.top)
      by_cases hid : id < e0.s.n
      · rw [J.x2 id (by rw [hpt]; exact hid), hpt]
      · rw [Sto.get_eq, if_neg hid, Sto.get_eq, if_neg (by rw [J.xn, hfs]; exact hid)]
    · have hrd' : readsOk P call f.s.n e0.s.n (ancs ops) (news l) (chgs l) (trStores l ++ [f.s]) l = true := by
        unfold readsAll at hrd
        split at hrd
        · rename_i h1 h2; exact absurd ⟨h1, h2⟩ hnone
        · exact hrd
      rcases readsOk_spec l hrd' x (List.mem_of_getElem? hx) hch hrun hp with hor | hre | hst | hst
      · -- it comes to the same store in every order
        simp only [ordB, Bool.and_eq_true, List.all_eq_true, Bool.or_eq_true] at hor
        obtain ⟨hord, hnew⟩ := hor
        have hjl : j < l.length := (List.getElem?_eq_some_iff.1 hx).1
        have hopat : ∀ (i : Nat) z, l[i]? = some z → ops[i]? = some z.o := fun i z hz => by simpa using D.T.o i z hz
        have hside : ∀ (i : Nat) z, l[i]? = some z → z.isChg = true → ((i < pt ∧ i < j) ∨ (pt ≤ i ∧ j < i)) := by
          intro i z hz hzc
          have hmem : i ∈ chgs l := List.mem_map.2 ⟨z, List.mem_filter.2 ⟨List.mem_of_getElem? hz, hzc⟩, D.ix hz⟩
          rcases hord i hmem with h1 | h1
          · rw [hxi] at h1
            exact .inl ⟨(J.chg i z hz hzc).1 (hr.anc i h1), bit_lt D.dr j i _ (hopat j x hx) h1⟩
          · rw [hxi] at h1
            refine .inr ⟨?_, bit_lt D.dr i j _ (hopat i z hz) h1⟩
            rcases Nat.lt_or_ge i pt with h2 | h2
            · have := I.cl i ((J.chg i z hz hzc).2 h2) j h1
              rw [hr.nd] at this; cases this
            · exact h2
        have hnside : ∀ (i : Nat) z, l[i]? = some z → z.isNew = true → (done i = true ↔ i < j) := by
          intro i z hz hzn
          have hmem : (i, z.e.s.n) ∈ news l := List.mem_map.2 ⟨z, List.mem_filter.2 ⟨List.mem_of_getElem? hz, hzn⟩, by rw [D.ix hz]⟩
          rcases hnew _ hmem with h1 | h1
          · rw [hxi] at h1
            exact ⟨fun _ => bit_lt D.dr j i _ (hopat j x hx) h1, fun _ => hr.anc i h1⟩
          · rw [hxi] at h1
            have h2 := bit_lt D.dr i j _ (hopat i z hz) h1
            refine ⟨fun h3 => ?_, fun h3 => by omega⟩
            have := I.cl i h3 j h1
            rw [hr.nd] at this; cases this
        have hjtop : ∀ id, (stAt l f j).n ≤ id → (stAt l f j).o.get id = none := by
          rcases Nat.le_total pt j with h1 | h1
          · have S := D.seg' h1 (by omega) fun i z g1 g2 hz => by
              cases hzc : z.isChg with
              | false => rfl
              | true => rcases hside i z hz hzc with h2 | h2 <;> omega
            exact S.top J.top
          · -- new objects alone lie between
            have S := D.seg' h1 J.ptl fun i z g1 g2 hz => by
              cases hzc : z.isChg with
              | false => rfl
              | true => rcases hside i z hz hzc with h2 | h2 <;> omega
            rcases Nat.lt_or_ge j pt with h2 | h2
            · have hnn : ∀ (i : Nat) z, j ≤ i → i < pt → l[i]? = some z → z.isNew = false := by
                intro i z g1 g2 hz
                cases hzn : z.isNew with
                | false => rfl
                | true => have := (hnside i z hz hzn).1 (J.nwd i z hz hzn g2); omega
              have hsame : ∀ (d : Nat), j + d ≤ pt → stAt l f (j + d) = stAt l f j := by
                intro d
                induction d with
                | zero => intro _; rfl
                | succ d ih =>
                  intro hi
                  have := J.ptl
                  obtain ⟨z, hz⟩ : ∃ z, l[j + d]? = some z := ⟨l[j + d]'(by omega), by rw [List.getElem?_eq_getElem]⟩
                  have hzc : z.isChg = false := by
                    cases hzc : z.isChg with
                    | false => rfl
                    | true => rcases hside (j + d) z hz hzc with h2 | h2 <;> omega
                  rcases D.step hz hzc with ⟨_, h3⟩ | ⟨h3, _⟩
                  · rw [show j + (d + 1) = j + d + 1 by omega, h3, ih (by omega)]
                  · rw [hnn (j + d) z (by omega) (by omega) hz] at h3; cases h3
              have := hsame (pt - j) (by omega)
              rw [show j + (pt - j) = pt by omega] at this
              rw [← this]; exact J.top
            · have : pt = j := by omega
              subst this; exact J.top
        have hget : ∀ id, id < (stAt l f j).n → X.get id = (stAt l f j).get id := by
          intro id hid
          rcases Nat.le_total pt j with h1 | h1
          · have S := D.seg' h1 (by omega) fun i z g1 g2 hz => by
              cases hzc : z.isChg with
              | false => rfl
              | true => rcases hside i z hz hzc with h2 | h2 <;> omega
            rcases Nat.lt_or_ge id (stAt l f pt).n with h2 | h2
            · rw [J.x2 id h2, S.get id h2]
            · obtain ⟨i, y, a1, a2, a3, a4, a5, a6⟩ := S.new id h2 hid
              have := J.x3 i y a3 a4 ((hnside i y a3 a4).2 a2) a1
              rw [a5] at this
              rw [this, a6]
          · have S := D.seg' h1 J.ptl fun i z g1 g2 hz => by
              cases hzc : z.isChg with
              | false => rfl
              | true => rcases hside i z hz hzc with h2 | h2 <;> omega
            rw [J.x2 id (Nat.lt_of_lt_of_le hid S.n), S.get id hid]
        refine ⟨x.e.s, ?_, hval⟩
        rw [hrow.st]
        refine J.rel.part rfl (fun id g _ => rfl) (fun id g z hz => ?_) (fun id z hz => ?_) (fun id z _ b base sz o ho _ _ => ho) hjtop
        · rcases J.dm id g z hz with h1 | ⟨i, y, a1, a2, a3, a4, a5⟩
          · rcases Nat.le_total pt j with h2 | h2
            · have := D.mono h2 (by omega); omega
            · -- all that is there at pt was there at j
              rcases Nat.lt_or_ge id (stAt l f j).n with h3 | h3
              · exact h3
              · have S := D.seg' h2 J.ptl fun i z g1 g2 hz => by
                  cases hzc : z.isChg with
                  | false => rfl
                  | true => rcases hside i z hz hzc with h2 | h2 <;> omega
                obtain ⟨i, y, a1, a2, a3, a4, a5, a6⟩ := S.new id h3 h1
                have := (hnside i y a3 a4).1 (J.nwd i y a3 a4 a2)
                omega
          · have hij := (hnside i y a2 a3).1 a4
            obtain ⟨_, y', hy', _⟩ := D.newRow a2 a3
            have := D.mono (i := i + 1) (q := j) (by omega) (by omega)
            rw [hy'] at this
            simp only [Sto.n_push] at this
            omega
        · rw [hget id (Sto.get_lt hz)]; exact hz
      rotate_left
      · -- the same wherever the objects are as they were
        simp only [stableB, Bool.and_eq_true, List.all_eq_true, Bool.or_eq_true, decide_eq_true_eq] at hst
        obtain ⟨hord, hstab⟩ := hst
        have hjl : j < l.length := (List.getElem?_eq_some_iff.1 hx).1
        have hopat : ∀ (i : Nat) z, l[i]? = some z → ops[i]? = some z.o := fun i z hz => by simpa using D.T.o i z hz
        have hside : ∀ (i : Nat) z, l[i]? = some z → z.isChg = true → ((i < pt ∧ i < j) ∨ (pt ≤ i ∧ j < i)) := by
          intro i z hz hzc
          have hmem : i ∈ chgs l := List.mem_map.2 ⟨z, List.mem_filter.2 ⟨List.mem_of_getElem? hz, hzc⟩, D.ix hz⟩
          rcases hord i hmem with h1 | h1
          · rw [hxi] at h1
            exact .inl ⟨(J.chg i z hz hzc).1 (hr.anc i h1), bit_lt D.dr j i _ (hopat j x hx) h1⟩
          · rw [hxi] at h1
            refine .inr ⟨?_, bit_lt D.dr i j _ (hopat i z hz) h1⟩
            rcases Nat.lt_or_ge i pt with h2 | h2
            · have := I.cl i ((J.chg i z hz hzc).2 h2) j h1
              rw [hr.nd] at this; cases this
            · exact h2
        have hn0 : ∀ q, q ≤ l.length → e0.s.n ≤ (stAt l f q).n := fun q hq => by
          have := D.mono (Nat.zero_le q) hq
          rw [D.T.first] at this; exact this
        have hsame : ∀ id, id < e0.s.n → (stAt l f pt).get id = (stAt l f j).get id := by
          intro id hid
          rcases Nat.le_total pt j with h1 | h1
          · have S := D.seg' h1 (by omega) fun i z g1 g2 hz => by
              cases hzc : z.isChg with
              | false => rfl
              | true => rcases hside i z hz hzc with h2 | h2 <;> omega
            exact (S.get id (Nat.lt_of_lt_of_le hid (hn0 pt J.ptl))).symm
          · have S := D.seg' h1 J.ptl fun i z g1 g2 hz => by
              cases hzc : z.isChg with
              | false => rfl
              | true => rcases hside i z hz hzc with h2 | h2 <;> omega
            exact S.get id (Nat.lt_of_lt_of_le hid (hn0 j (by omega)))
        refine ⟨X, J.rel, hstab X fun id hid => ?_⟩
        rcases hid with hid | ⟨i, hmem, hbit⟩
        · rw [J.x2 id (Nat.lt_of_lt_of_le hid (hn0 pt J.ptl)), hsame id hid, hrow.st]
        · obtain ⟨y, hy, hye⟩ := List.mem_map.1 hmem
          obtain ⟨i', hi'⟩ := List.getElem?_of_mem (List.mem_filter.1 hy).1
          have hyn := (List.mem_filter.1 hy).2
          have hii := D.ix hi'
          simp only [Prod.mk.injEq] at hye
          obtain ⟨rfl, rfl⟩ := hye
          rw [hii] at hbit
          rw [hxi] at hbit
          have hij : i' < j := bit_lt D.dr j i' _ (hopat j x hx) hbit
          have hyc : y.isChg = false := by
            simp only [TrE.isNew, Bool.and_eq_true] at hyn
            simp [TrE.isChg, hyn.2]
          have hst : y.e.s.n = (stAt l f i').n := by rw [stAt_of (f := f) hi']
          have hlt1 : y.e.s.n < (stAt l f (i' + 1)).n := by
            rcases D.step hi' hyc with ⟨h1, _⟩ | ⟨_, z, hz⟩
            · rw [hyn] at h1; cases h1
            · rw [hz, hst]; exact Nat.lt_succ_self _
          rw [hrow.st]
          rcases Nat.lt_or_ge i' pt with h1 | h1
          · have hltp : y.e.s.n < (stAt l f pt).n := Nat.lt_of_lt_of_le hlt1 (D.mono (by omega) J.ptl)
            have hltj : y.e.s.n < (stAt l f j).n := Nat.lt_of_lt_of_le hlt1 (D.mono (by omega) (by omega))
            rw [J.x2 _ hltp]
            rcases Nat.le_total pt j with h2 | h2
            · have S := D.seg' h2 (by omega) fun i z g1 g2 hz => by
                cases hzc : z.isChg with
                | false => rfl
                | true => rcases hside i z hz hzc with h3 | h3 <;> omega
              exact (S.get _ hltp).symm
            · have S := D.seg' h2 J.ptl fun i z g1 g2 hz => by
                cases hzc : z.isChg with
                | false => rfl
                | true => rcases hside i z hz hzc with h3 | h3 <;> omega
              exact S.get _ hltj
          · have hx3 := J.x3 i' y hi' hyn (hr.anc i' hbit) h1
            rw [← hst] at hx3
            rw [hx3]
            have S := D.seg' (i := i' + 1) (q := j) (by omega) (by omega) fun i z g1 g2 hz => by
              cases hzc : z.isChg with
              | false => rfl
              | true => rcases hside i z hz hzc with h3 | h3 <;> omega
            exact (S.get _ hlt1).symm
      · simp only [stableC, decide_eq_true_eq] at hst
        obtain ⟨m0, hm0, hall, hstab⟩ := hst
        have hn0 : ∀ q, q ≤ l.length → m0 ≤ (stAt l f q).n := fun q hq => by
          have := D.mono (i := 0) (q := q) (Nat.zero_le q) hq
          rw [D.T.first] at this; omega
        have hdrop : ∀ (k : Nat) z, l[k]? = some z → l.drop k = z :: l.drop (k + 1) := fun k z hz => by
          have hk := (List.getElem?_eq_some_iff.1 hz).1
          rw [List.drop_eq_getElem_cons hk]
          rw [List.getElem?_eq_getElem hk] at hz
          rw [Option.some.inj hz]
        have hst1 : ∀ (k : Nat) z, l[k]? = some z → z.isChg = false → ∀ id, id < m0 → (stAt l f (k + 1)).get id = (stAt l f k).get id := fun k z hz hc id hid => by
          have hk := (List.getElem?_eq_some_iff.1 hz).1
          have hlt : id < (stAt l f k).n := Nat.lt_of_lt_of_le hid (hn0 k (by omega))
          rcases D.step hz hc with ⟨_, h3⟩ | ⟨_, y, h3⟩
          · rw [h3]
          · rw [h3, Sto.get_push, if_neg (by omega)]
        have hfst : ∀ (d k : Nat), k + d = l.length → keptTo (ancs ops) x.i m0 x.e.s (chgs (l.drop k)) (trStores (l.drop k) ++ [f.s]) → agreeB m0 (stAt l f k) x.e.s := by
          intro d
          induction d with
          | zero =>
            intro k hk h
            have hk' : k = l.length := by omega
            rw [hk', List.drop_length] at h
            rw [hk', stAt_len]
            exact h f.s (by simp [trStores])
          | succ d ih =>
            intro k hk h
            obtain ⟨z, hz⟩ : ∃ z, l[k]? = some z := ⟨l[k]'(by omega), by rw [List.getElem?_eq_getElem]⟩
            rw [hdrop k z hz] at h
            cases hc : z.isChg with
            | true =>
              simp only [chgs, List.filter_cons, hc, if_true, List.map_cons, trStores, cond_true, List.cons_append] at h
              rw [stAt_of (f := f) hz]
              exact h.1
            | false =>
              simp only [chgs, List.filter_cons, hc, trStores, cond_false] at h
              have := ih (k + 1) (by omega) h
              exact fun id hid => (hst1 k z hz hc id hid).symm.trans (this id hid)
        have hadv : ∀ k, k ≤ pt → keptTo (ancs ops) x.i m0 x.e.s (chgs (l.drop k)) (trStores (l.drop k) ++ [f.s]) := by
          intro k
          induction k with
          | zero => intro _; rw [List.drop_zero]; exact hall
          | succ k ih =>
            intro hk
            have h := ih (by omega)
            have hkl : k < l.length := by have := J.ptl; omega
            obtain ⟨z, hz⟩ : ∃ z, l[k]? = some z := ⟨l[k], by rw [List.getElem?_eq_getElem]⟩
            rw [hdrop k z hz] at h
            cases hc : z.isChg with
            | true =>
              simp only [chgs, List.filter_cons, hc, if_true, List.map_cons, trStores, cond_true, List.cons_append] at h
              rcases h.2 with g | g
              · have h1 := g z.i (List.mem_cons_self ..)
                rw [D.ix hz, hxi] at h1
                have := I.cl k ((J.chg k z hz hc).2 (by omega)) j h1
                rw [hr.nd] at this; cases this
              · exact g
            | false =>
              simp only [chgs, List.filter_cons, hc, trStores, cond_false] at h
              exact h
        refine ⟨X, J.rel, hstab X fun id hid => ?_⟩
        rw [J.x2 id (Nat.lt_of_lt_of_le hid (hn0 pt J.ptl))]
        exact hfst (l.length - pt) pt (by have := J.ptl; omega) (hadv pt (Nat.le_refl _)) id hid
      obtain ⟨q, hq1, hq2, hq3, hq4⟩ := rereads_spec f l done (fun q x h => D.ix h) I.cl (by rw [hxi]; exact hr.nd) (by rw [hxi]; exact hr.anc) l 0 rfl (Nat.zero_le _) (fun c y hc => by omega) hre
      refine ⟨_, ?_, isVal_eq hq4⟩
      have hpq : pt ≤ q := by
        rcases Nat.lt_or_ge q pt with h1 | h1
        · have hptl := J.ptl
          obtain ⟨y, hy⟩ : ∃ y, l[q]? = some y := ⟨l[q]'(by omega), by rw [List.getElem?_eq_getElem]⟩
          obtain ⟨g1, g2⟩ := hq3 y hy
          rw [(J.chg q y hy g1).2 h1] at g2; cases g2
        · exact h1
      have S := D.seg' hpq hq1 fun i z h1 h2 hz => by
        cases hzc : z.isChg with
        | false => rfl
        | true =>
          have := (J.chg i z hz hzc).1 (hq2 i z h2 hz hzc)
          omega
      refine J.rel.part rfl (fun id g _ => rfl) (fun id g z hz => ?_) (fun id z hz => ?_) (fun id z _ b base sz o ho _ _ => ho) (fun id hid => ?_)
      · have := J.rel.bnd id g z hz
        rw [J.xn] at this; exact this
      · rw [Sto.get_eq] at hz
        split at hz
        · rename_i hlt
          obtain ⟨h1, h2⟩ := without_get _ _ _ _ _ _ hz
          have hidq : id < (stAt l f q).n := by
            rcases Nat.lt_or_ge id (stAt l f q).n with h3 | h3
            · exact h3
            · rw [S.top J.top id h3] at h1; cases h1
          have hgq : (stAt l f q).get id = some z := by rw [Sto.get_eq, if_pos hidq]; exact h1
          by_cases hidp : id < (stAt l f pt).n
          · rw [J.x2 id hidp, ← S.get id hidp]; exact hgq
          · obtain ⟨i, y, a1, a2, a3, a4, a5, a6⟩ := S.new id (by omega) hidq
            have hyi := D.ix a3
            have hbit := h2 (y.i, y.e.s.n) (List.mem_map.2 ⟨y, List.mem_filter.2 ⟨List.mem_of_getElem? a3, a4⟩, rfl⟩) (by
              show y.e.s.n = id
              rw [← stAt_of (f := f) a3]; exact a5)
            rw [hxi, hyi] at hbit
            have := J.x3 i y a3 a4 (hr.anc i hbit) a1
            rw [a5] at this
            rw [this, a6]; exact hgq
        · cases hz
      · cases hg : (without (ancs ops) x.i (news l) (stAt l f q)).o.get id with
        | none => rfl
        | some z =>
          obtain ⟨h1, _⟩ := without_get _ _ _ _ _ _ hg
          have hid' : f.s.n ≤ id := hid
          have := D.mono (i := q) hq1 (Nat.le_refl l.length)
          rw [stAt_len] at this
          rw [S.top J.top id (by omega)] at h1
          cases h1

end
end Go.Abs

/-
  The abstract machine: drawn regions are sound.
-/

namespace Go.Abs

theorem forget_spec : ∀ (l : List Oper) (e : Env), (forget e l).nt = e.nt ∧ (forget e l).ro = e.ro ∧ (forget e l).fn = e.fn ∧ (forget e l).ds = e.ds ∧ (forget e l).s = e.s ∧ (forget e l).r = e.r ∧
    ∀ d v, (forget e l).t.get d = some v → e.t.get d = some v ∧ ∀ o ∈ l, o.dst ≠ some d := by
  intro l
  induction l with
  | nil => intro e; exact ⟨rfl, rfl, rfl, rfl, rfl, rfl, fun d v h => ⟨h, by simp⟩⟩
  | cons o l ih =>
    intro e
    unfold forget
    cases hd : o.dst with
    | none =>
      obtain ⟨h1, h2, h3, h4, h5, h6, h7⟩ := ih e
      refine ⟨h1, h2, h3, h4, h5, h6, fun d v h => ?_⟩
      obtain ⟨a1, a2⟩ := h7 d v h
      refine ⟨a1, fun o' ho' => ?_⟩
      rcases List.mem_cons.1 ho' with rfl | ho'
      · rw [hd]; simp
      · exact a2 o' ho'
    | some d0 =>
      obtain ⟨h1, h2, h3, h4, h5, h6, h7⟩ := ih { e with t := e.t.del d0 }
      refine ⟨h1, h2, h3, h4, h5, h6, fun d v h => ?_⟩
      obtain ⟨a1, a2⟩ := h7 d v h
      have a1' : (e.t.del d0).get d = some v := a1
      rw [Tr.get_del] at a1'
      split at a1'
      · cases a1'
      · rename_i hne
        refine ⟨a1', fun o' ho' => ?_⟩
        rcases List.mem_cons.1 ho' with rfl | ho'
        · rw [hd]; intro he; exact hne (by simpa using he.symm)
        · exact a2 o' ho'
theorem lastOk_spec {as : List Nat} {c : Nat} : ∀ (l : List Oper) (i : Nat), lastOk as c l i = true → ∀ q, q < l.length → c < i + q → (as.getD (i + q) 0).testBit c = true := by
  intro l
  induction l with
  | nil => intro i _ q hq; simp at hq
  | cons o l ih =>
    intro i h q hq hc
    simp only [lastOk, Bool.and_eq_true, Bool.or_eq_true] at h
    cases q with
    | zero =>
      have hc' : Nat.blt c i = true := by simpa [Nat.blt_eq] using hc
      simpa [hc'] using h.1
    | succ q =>
      have := ih (i + 1) h.2 q (by simpa using hq) (by omega)
      rw [show i + (q + 1) = i + 1 + q by omega]; exact this
theorem countP_lt {p q : Nat → Bool} : ∀ (l : List Nat) (j : Nat), (∀ i, q i = true → p i = true) → j ∈ l → p j = true → q j = false → l.countP q + 1 ≤ l.countP p := by
  intro l
  induction l with
  | nil => intro j _ h; simp at h
  | cons a l ih =>
    intro j h hj hp hq
    have hm : l.countP q ≤ l.countP p := List.countP_mono_left fun i _ hi => h i hi
    rw [List.countP_cons, List.countP_cons]
    rcases List.mem_cons.1 hj with rfl | hj
    · simp [hp, hq]; omega
    · have := ih j h hj hp hq
      by_cases ha : q a = true
      · simp [ha, h a ha]; omega
      · by_cases hpa : p a = true
        · simp [ha, hpa]; omega
        · simp [ha, hpa]; omega
theorem set_done {listed : Array Bool} {j : Nat} (h : j < listed.size) : (fun i => (listed.setIfInBounds j true).getD i false) = fun i => listed.getD i false || i == j := by
  funext i
  by_cases hij : i = j
  · subst hij; simp [h]
  · rw [getD_set_ne false (Ne.symm hij)]; simp [hij]

theorem dop_defer {P : Program} {call : CallT} {o : Oper} {e : Env} {c : Call} {r : ORes} (ho : o.op = .defer c) (h : dop P call o e = some r) : ∃ d, r = .defer d := by
  unfold dop at h
  rw [ho] at h
  simp only at h
  split at h
  · split at h
    · cases h; exact ⟨_, rfl⟩
    · cases h
  · cases h

section
variable {P : Program} {call : CallT} {ops : List Oper} {e0 : Env} {l : List TrE} {f : Env} {p : Option (AV × Sto)} {σ0 : Sg} {w0 : World}

/-- how the region ends -/
def DEnd (ops : List Oper) (e0 f : Env) (p : Option (AV × Sto)) (ex : Ex) (e' : Env) : Prop := match p with
  | none => ex = .normal ∧ e' = f
  | some (v, s) => ex = .panic v ∧ e' = forget { e0 with s := s } ops

theorem draw_loop (hcall : CallN P call) (hfun : ∀ v args s r x, call v args s r = some x → ∃ f a c, v = .func f a c) {OPS : Array Oper} (hO : OPS.toList = ops) (D : Drawn P call ops e0 l f p)
    (hrd : readsAll P call f.s.n e0.s.n (ancs ops) l f.s = true) (hlast : ∀ q, p = some q → lastOk (ancs ops) (l.length - 1) ops 0 = true)
    {b : Frame} {stk : FrameMode → List Frame} {k : List Item} {m : FrameMode} {a0 : Act} (he0 : ER σ0 b e0 a0 m) {ex : Ex} {e' : Env} (hend : DEnd ops e0 f p ex e') :
    ∀ (fuel t : Nat) (listed : Array Bool) (pt : Nat) (σ : Sg) (X : Sto) (a : Act) (w : World), InvT P ops e0 l p (fun i => listed.getD i false) σ a → InvS e0 l f σ0 w0 (fun i => listed.getD i false) pt σ X w →
      listed.size = OPS.size → (List.range OPS.size).countP (fun i => !listed.getD i false) ≤ fuel → a.defers = a0.defers →
      COut P σ0 e0.s w0 (lone (b.atR a (.inRegion OPS (Region.linearise.go .any OPS fuel t listed []) :: k)) (stk m) w) b stk k ex e' := by
  have hops : ∀ j : Nat, ops[j]? = OPS[j]? := fun j => by rw [← hO]; simp
  have hlen : ops.length = OPS.size := by rw [← hO]; simp
  -- when all have been done
  have hfin : ∀ (listed : Array Bool) (pt : Nat) (σ : Sg) (X : Sto) (a : Act) (w : World), InvT P ops e0 l p (fun i => listed.getD i false) σ a → InvS e0 l f σ0 w0 (fun i => listed.getD i false) pt σ X w →
      (∀ i, i < OPS.size → listed.getD i false = true) → a.defers = a0.defers → COut P σ0 e0.s w0 (lone (b.atR a (.inRegion OPS [] :: k)) (stk m) w) b stk k ex e' := by
    intro listed pt σ X a w I J hall hdf
    have hln : l.length ≤ ops.length := by
      rcases Nat.lt_or_ge ops.length l.length with h1 | h1
      · obtain ⟨x, hx⟩ : ∃ x, l[ops.length]? = some x := ⟨l[ops.length], by rw [List.getElem?_eq_getElem]⟩
        have := D.T.o _ x hx
        simp at this
      · exact h1
    have hp : p = none := by
      cases hp : p with
      | none => rfl
      | some q =>
        have h1 := (D.T.pan q.1 q.2 hp).2.1
        have := (I.dom (l.length - 1) (hall _ (by omega))).2 (by rw [hp]; simp)
        omega
    subst hp
    obtain ⟨rfl, rfl⟩ := hend
    obtain ⟨h1, h2, h3, h4, h5, h6, h7⟩ := D.T.fin rfl
    have hdl : ∀ i, i < l.length → listed.getD i false = true := fun i hi => hall i (by omega)
    have hst := J.fin D (fun j x hj hx => by
      cases hc : x.isChg with
      | false => rfl
      | true =>
        have hjl := (List.getElem?_eq_some_iff.1 hx).1
        have := (J.chg j x hx hc).1 (hdl j hjl)
        omega) (fun j x hx _ => hdl j (List.getElem?_eq_some_iff.1 hx).1)
    refine ⟨σ, a, m, w, ⟨?_, ?_, ?_, ?_, ?_⟩, hst, .one stepR_region_end⟩
    · refine ⟨by rw [I.sz, h2], fun d v hv => ?_⟩
      rw [h2]
      refine I.tm d v ?_
      rw [h7 d] at hv
      rw [← hv]
      apply tabT_same
      congr 1
      rw [List.filter_eq_self]
      intro x hx
      obtain ⟨q, hq⟩ := List.getElem?_of_mem hx
      rw [D.ix hq]
      exact hdl q (List.getElem?_eq_some_iff.1 hq).1
    · rw [h5, hdf]; exact he0.df.mono J.ext
    · rw [h6]; exact he0.rc.mono J.ext
    · rw [h4]; exact he0.fn
    · have := (he0.mono J.ext).ro
      rw [h3]; exact this
  intro fuel
  induction fuel with
  | zero =>
    intro t listed pt σ X a w I J hsz hcnt hdf
    refine hfin listed pt σ X a w I J (fun i hi => ?_) hdf
    have := List.countP_eq_zero.1 (Nat.le_zero.1 hcnt) i (List.mem_range.2 hi)
    simpa using this
  | succ fuel ih =>
    intro t listed pt σ X a w I J hsz hcnt hdf
    simp only [Region.linearise.go]
    change COut P σ0 e0.s w0 (lone (b.atR a (.inRegion OPS (match (Region.ready .any OPS listed)[t % (Region.ready .any OPS listed).length]? with
      | some i => Region.linearise.go .any OPS fuel (t / (Region.ready .any OPS listed).length) (listed.setIfInBounds i true) [i]
      | none => [].reverse) :: k)) (stk m) w) b stk k ex e'
    cases hi : (Region.ready .any OPS listed)[t % (Region.ready .any OPS listed).length]? with
    | none =>
      have hnil : Region.ready .any OPS listed = [] := by
        cases hr : Region.ready .any OPS listed with
        | nil => rfl
        | cons x xs =>
          rw [hr] at hi
          have hlt : t % (x :: xs).length < (x :: xs).length := Nat.mod_lt _ (by simp)
          simp at hi
          simp at hlt
          omega
      refine hfin listed pt σ X a w I J (fun i hi => ?_) hdf
      -- the least one that is not listed were ready
      have : ∀ n i, i < n → i < OPS.size → listed.getD i false = true := by
        intro n
        induction n with
        | zero => intro i h; omega
        | succ n ihn =>
          intro i hin his
          cases hd : listed.getD i false with
          | true => rfl
          | false =>
            exfalso
            have hmem : i ∈ Region.ready .any OPS listed := by
              rw [mem_ready]
              obtain ⟨o, ho⟩ : ∃ o, OPS[i]? = some o := ⟨OPS[i], by simp [his]⟩
              refine ⟨?_, o, ho, fun e he hb => ?_⟩
              · simp only [Array.getD_eq_getD_getElem?, Array.getElem?_eq_getElem (show i < listed.size by omega), Option.getD_some] at hd ⊢
                exact hd
              · have hlt := edge_lt D.dr (by rw [hops]; exact ho) he hb
                exact ihn e.on (by omega) (by omega)
            rw [hnil] at hmem; cases hmem
      exact this (i + 1) i (by omega) hi
    | some j =>
      simp only []
      rw [linearise_go_acc, List.reverse_singleton, List.singleton_append]
      generalize t / (Region.ready Region.Mode.any OPS listed).length = t'
      obtain ⟨hj0, o, ho, hall⟩ := mem_ready.1 (List.mem_of_getElem? hi)
      have hjs : j < OPS.size := (Array.getElem?_eq_some_iff.1 ho).1
      have hjl' : j < listed.size := by omega
      have hjnd : listed.getD j false = false := by
        simp only [Array.getD_eq_getD_getElem?, Array.getElem?_eq_getElem hjl', Option.getD_some] at hj0 ⊢
        exact hj0
      have hr : Ready ops (fun i => listed.getD i false) j := by
        refine ⟨hjnd, fun i hb => ?_⟩
        obtain ⟨e, e1, e2, e3⟩ := ancs_bit (by rw [hops]; exact ho) hb
        have hd := hall e e1 e2
        rcases e3 with rfl | e3
        · exact hd
        · exact I.cl e.on hd i e3
      have hcnt' : (List.range OPS.size).countP (fun i => !(listed.setIfInBounds j true).getD i false) ≤ fuel := by
        have := countP_lt (p := fun i => !listed.getD i false) (q := fun i => !(listed.setIfInBounds j true).getD i false) (List.range OPS.size) j (fun i hq => by
          have hs : (listed.setIfInBounds j true).getD i false = (listed.getD i false || i == j) := congrFun (set_done hjl') i
          rw [hs] at hq
          simp only [Bool.not_eq_true', Bool.or_eq_false_iff] at hq ⊢
          exact hq.1) (List.mem_range.2 hjs) (by simpa using hjnd) (by
          have hs : (listed.setIfInBounds j true).getD j false = (listed.getD j false || j == j) := congrFun (set_done hjl') j
          rw [hs]; simp)
        omega
      -- and then the others
      have hnext : ∀ (pt' : Nat) (σ' : Sg) (X' : Sto) (V : Value) (w' : World), InvT P ops e0 l p (fun i => listed.getD i false || i == j) σ' (a.put o.dst V) → InvS e0 l f σ0 w0 (fun i => listed.getD i false || i == j) pt' σ' X' w' →
          Steps P (lone (b.atR a (.inRegion OPS (j :: Region.linearise.go .any OPS fuel t' (listed.setIfInBounds j true) []) :: k)) (stk m) w) (lone (b.atR (a.put o.dst V) (.inRegion OPS (Region.linearise.go .any OPS fuel t' (listed.setIfInBounds j true) []) :: k)) (stk m) w') →
          COut P σ0 e0.s w0 (lone (b.atR a (.inRegion OPS (j :: Region.linearise.go .any OPS fuel t' (listed.setIfInBounds j true) []) :: k)) (stk m) w) b stk k ex e' := by
        intro pt' σ' X' V w' I' J' hs
        rw [← set_done hjl'] at I' J'
        refine COut.of_steps hs (ih t' (listed.setIfInBounds j true) pt' σ' X' (a.put o.dst V) w' I' J' (by simp [hsz]) hcnt' ?_)
        cases o.dst <;> simp [Act.put, hdf]
      rcases Nat.lt_or_ge j l.length with hjl | hjl
      · obtain ⟨x, hx⟩ : ∃ x, l[j]? = some x := ⟨l[j], by rw [List.getElem?_eq_getElem]⟩
        have hxo : x.o = o := by
          have := D.T.o j x hx
          rw [hops, ho] at this; exact (Option.some.inj this).symm
        have hrow := D.T.row j x hx
        have hwant : Region.wanted o (yielded OPS a.tmps) = x.run := by
          have htm := D.tmR (ρ := σ) I hx hr (L := gname ops x.o) (fun d hd => gname_sub ops x.o hd) (fun _ _ _ _ _ h => h)
          have hw := awanted_congr (ops := ops) (o := x.o) (e := x.e) (e' := { x.e with t := only x.e.t (gname ops x.o) }) (fun d hd => by show (only _ _).get d = _; rw [only_get, if_pos hd])
          rw [hrow.want] at hw
          rw [← hxo]
          exact yieldedB hO (e := { x.e with t := only x.e.t (gname ops x.o) }) htm hw
        -- not the one that panics
        have hnpan : x.chg = false → ¬ (j + 1 = l.length ∧ ∃ q, p = some q) := by
          rintro hch ⟨h1, q, h2⟩
          have := (D.T.pan q.1 q.2 h2).2.2 x (by rw [← h1]; simpa using hx)
          rw [hch] at this; cases this
        have hun : x.chg = true → ∀ d ∈ onames' x.o, ∀ v V, x.e.t.get d = some v → VR σ v V → VR (σ.cut (stAt l f j).n) v V := by
          intro hch d hd v V hv hV
          have h1 := D.un
          simp only [chgsUnder, List.all_eq_true] at h1
          have h2 := h1 x (List.mem_of_getElem? hx)
          simp only [hch, Bool.not_true, Bool.false_or, List.all_eq_true] at h2
          obtain ⟨y, hy, hyd⟩ := List.mem_filterMap.1 hd
          have h3 := h2 y hy
          cases y with
          | tmp t =>
            simp at hyd; subst hyd
            simp only [Env.eval, hv] at h3
            rw [hrow.st] at h3
            simp only [unb, Bool.or_eq_true, decide_eq_true_eq] at h3
            rcases h3 with h3 | ⟨d, h3⟩
            · exact VR.cut _ _ _ h3 hV
            · exact VR.cut _ _ _ h3 hV
          | _ => simp at hyd
        have hsem : ∀ {e : Env} {r : ORes}, dop P call x.o e = some r → (∀ d, r ≠ .defer d) → o.semAt b.roundOf a.eval = execOp a.eval o := by
          intro e r h1 h2
          rw [← hxo]
          refine Oper.semAt_eq _ _ _ fun c hc => ?_
          obtain ⟨d, hd⟩ := dop_defer hc h1
          exact h2 d hd
        -- the operation, at a store
        have hdop : ∀ (R : Sto) (r : ORes), dop P call x.o { x.e with s := R } = some r → dop P call o { x.e with t := only x.e.t (onames' x.o), s := R } = some r := by
          intro R r h1
          rw [← hxo, ← h1]
          exact dop_congr (eval_names fun d hd => by show (only _ _).get d = _; rw [only_get, if_pos hd]) rfl rfl
        cases hrun : x.run with
        | false =>
          rw [hrun] at hwant
          have hout : x.chg = false ∧ x.v = .undef := by
            rcases hrow.out with h1 | h1 | h1 | h1
            · exact ⟨h1.2.1, h1.2.2.1⟩
            all_goals (rw [hrun] at h1; cases h1.1)
          refine hnext pt σ X undef w ?_ (J.congr fun i y hy hyc => ?_) ?_
          · rw [← hxo]
            exact I.put D hx hr (hnpan hout.1) (Sg.le_refl σ) (by rw [hout.2]; exact VR.tuple_iff.2 ⟨_, rfl, VRs.nil _⟩)
          · by_cases hij : i = j
            · subst hij; rw [hx] at hy; cases hy; rw [hout.1] at hyc; cases hyc
            · simp [hij]
          · have := stepR_op_skip (P := P) (b := b) (a := a) (k := k) (cs := stk m) (w := w) (ops := OPS) (i := j) (rest := Region.linearise.go .any OPS fuel t' (listed.setIfInBounds j true) []) (by simp [ho, hwant])
            simp only [ho, Option.bind_some] at this
            exact .one this
        | true =>
          rw [hrun] at hwant
          cases hch : x.chg with
          | false =>
            obtain ⟨R, hR, hd⟩ := D.reader hrd I J hx hr hrun hch
            have htm := D.tmR (ρ := σ) I hx hr (L := onames' x.o) (fun d hd => onames_sub ops x.o hd) (fun _ _ _ _ _ h => h)
            obtain ⟨τ, V, w', h1, h2, h3⟩ := opstep (rest := Region.linearise.go .any OPS fuel t' (listed.setIfInBounds j true) []) (k := k) (cs := stk m) (b := b) (e := { x.e with t := only x.e.t (onames' x.o), s := R }) (w := w) hcall hfun hR htm (hsem hd fun _ => by simp) ho hwant (hdop R _ hd)
            refine hnext pt τ X V w' ?_ ((J.quiet h2).congr fun i y hy hyc => ?_) h3
            · rw [← hxo]
              exact I.put D hx hr (hnpan hch) h2.le h1
            · by_cases hij : i = j
              · subst hij; rw [hx] at hy; cases hy; rw [hch] at hyc; cases hyc
              · simp [hij]
          | true =>
            have htm := D.tmR (ρ := σ.cut (stAt l f j).n) I hx hr (L := onames' x.o) (fun d hd => onames_sub ops x.o hd) (hun hch)
            cases hn : x.isNew with
            | true =>
              obtain ⟨⟨_, hnp⟩, y, hy, hd⟩ := D.newRow hx hn
              have hd' := hd { n := (stAt l f j).n, low := 0, o := .leaf } rfl
              have hRg : ∀ id, ({ n := (stAt l f j).n, low := 0, o := .leaf } : Sto).get id = none := fun id => by rw [Sto.get_eq]; split <;> rfl
              have hR : Rel (σ.cut (stAt l f j).n) { n := (stAt l f j).n, low := 0, o := .leaf } w :=
                J.rel.part (show (σ.cut (stAt l f j).n).m = σ.m from rfl) (fun id g hi => by simp only [Sg.cut]; exact if_pos hi) (fun id g z hz => by
                  simp only [Sg.cut] at hz
                  split at hz
                  · assumption
                  · cases hz) (fun id z hz => by rw [hRg] at hz; cases hz) (fun id z hz => by rw [hRg] at hz; cases hz) (fun id _ => rfl)
              obtain ⟨τ, V, w', h1, h2, h3⟩ := opstep (rest := Region.linearise.go .any OPS fuel t' (listed.setIfInBounds j true) []) (k := k) (cs := stk m) (b := b) (e := { x.e with t := only x.e.t (onames' x.o), s := { n := (stAt l f j).n, low := 0, o := .leaf } }) (w := w) hcall hfun hR htm (hsem hd' fun _ => by simp) ho hwant (hdop _ _ hd')
              obtain ⟨X', J', g1, g2⟩ := J.new D hx hn hjnd hy h2
              refine hnext pt _ X' V w' ?_ J' h3
              rw [← hxo]
              exact I.put D hx hr (fun ⟨q1, q, q2⟩ => by rw [hnp q1] at q2; cases q2) g2 (h1.mono g1)
            | false =>
              have hc : x.isChg = true := by
                simp only [TrE.isNew, hch, Bool.true_and] at hn
                simp [TrE.isChg, hch, hn]
              have hxi := D.ix hx
              have hold' : ∀ (i : Nat) z, l[i]? = some z → z.isChg = true → i < j → listed.getD i false = true := by
                intro i z hz hzc hij
                have hsplit : l = l.take i ++ z :: l.drop (i + 1) := by
                  have hil := (List.getElem?_eq_some_iff.1 hz)
                  obtain ⟨hil, hzz⟩ := hil
                  rw [← hzz, List.getElem_cons_drop, List.take_append_drop]
                have hchs : chgs l = chgs (l.take i) ++ i :: chgs (l.drop (i + 1)) := by
                  conv => lhs; rw [hsplit]
                  simp [chgs, List.filter_append, List.filter_cons, hzc, D.ix hz]
                have hch' := D.ch
                rw [hchs] at hch'
                refine chain_done (done := fun i => listed.getD i false = true) I.cl _ i (chainOk_tail _ _ _ hch') j ?_ hr.anc
                refine List.mem_map.2 ⟨x, List.mem_filter.2 ⟨?_, hc⟩, hxi⟩
                refine List.mem_of_getElem? (i := j - (i + 1)) ?_
                rw [List.getElem?_drop, show i + 1 + (j - (i + 1)) = j by omega]; exact hx
              have hnews : ∀ (i : Nat) z, l[i]? = some z → z.isNew = true → i < j → listed.getD i false = true := by
                intro i z hz hzn hij
                have h1 := D.nw
                simp only [newsOk, List.all_eq_true] at h1
                have h2 := h1 j (List.mem_map.2 ⟨x, List.mem_filter.2 ⟨List.mem_of_getElem? hx, hc⟩, hxi⟩) (z.i, z.e.s.n) (List.mem_map.2 ⟨z, List.mem_filter.2 ⟨List.mem_of_getElem? hz, hzn⟩, rfl⟩)
                simp only [Bool.or_eq_true, Nat.blt_eq, D.ix hz] at h2
                rcases h2 with h2 | h2
                · omega
                · exact hr.anc i h2
              obtain ⟨hR, hturn⟩ := J.turn D hx hc hjnd hold' hnews
              have hxs : x.e.s = stAt l f j := hrow.st
              rcases hrow.out with h1 | h1 | h1 | h1
              · rw [h1.2.1] at hch; cases hch
              · rw [h1.2.1] at hch; cases hch
              · have hd' : dop P call x.o { x.e with s := stAt l f j } = some (.val' x.v (stAt l f (j + 1))) := by rw [← hxs]; exact h1.2.2.1
                obtain ⟨τ, V, w', q1, q2, q3⟩ := opstep (rest := Region.linearise.go .any OPS fuel t' (listed.setIfInBounds j true) []) (k := k) (cs := stk m) (b := b) (e := { x.e with t := only x.e.t (onames' x.o), s := stAt l f j }) (w := w) hcall hfun hR htm (hsem hd' fun _ => by simp) ho hwant (hdop _ _ hd')
                obtain ⟨X', J', g1, g2⟩ := hturn q2
                refine hnext (j + 1) _ X' V w' ?_ J' q3
                rw [← hxo]
                exact I.put D hx hr (fun ⟨r1, q, r2⟩ => by rw [h1.2.2.2 r1] at r2; cases r2) g2 (q1.mono g1)
              · obtain ⟨_, _, hlastj, hp, hdp⟩ := h1
                have hd' : dop P call x.o { x.e with s := stAt l f j } = some (.pan x.v (stAt l f (j + 1))) := by rw [← hxs]; exact hdp
                obtain ⟨τ, V, w', q1, q2, q3⟩ := opstep (rest := Region.linearise.go .any OPS fuel t' (listed.setIfInBounds j true) []) (k := k) (cs := stk m) (b := b) (e := { x.e with t := only x.e.t (onames' x.o), s := stAt l f j }) (w := w) hcall hfun hR htm (hsem hd' fun _ => by simp) ho hwant (hdop _ _ hd')
                obtain ⟨X', J', g1, g2⟩ := hturn q2
                have hst := J'.fin D (fun i z hi hz => by
                  have := (List.getElem?_eq_some_iff.1 hz).1
                  omega) (fun i z hz hzn => J'.nwd i z hz hzn (by
                  have := (List.getElem?_eq_some_iff.1 hz).1
                  omega))
                subst hp
                obtain ⟨rfl, rfl⟩ := hend
                obtain ⟨f1, f2, f3, f4, f5, f6, f7⟩ := forget_spec ops { e0 with s := stAt l f (j + 1) }
                have hfs : stAt l f (j + 1) = f.s := by rw [hlastj, stAt_len]
                refine ⟨τ.join σ, a, m, w', ⟨?_, ?_, ?_, ?_, ?_⟩, by rw [f5]; show Stp σ0 e0.s w0 _ (stAt l f (j + 1)) w'; rw [hfs]; exact hst, V, _, q1.mono g1, q3⟩
                · refine ⟨by rw [I.sz, f1], fun d v hv => ?_⟩
                  rw [f1]
                  obtain ⟨v1, v2⟩ := f7 d v hv
                  obtain ⟨u1, u2⟩ := I.tm d v (by
                    rw [← v1]
                    show tabT d _ (e0.t.get d) = e0.t.get d
                    rw [tabT_same (m := []) (by
                      rw [List.filter_nil, List.filter_eq_nil_iff]
                      intro y hy
                      have hy' := (List.mem_filter.1 hy).1
                      obtain ⟨q, hq⟩ := List.getElem?_of_mem hy'
                      have := v2 y.o (List.mem_of_getElem? (D.T.o q y hq))
                      simpa using this)]
                    rfl)
                  exact ⟨u1, u2.mono g2⟩
                · rw [f4, hdf]; exact he0.df.mono J'.ext
                · rw [f6]; exact he0.rc.mono J'.ext
                · rw [f3]; exact he0.fn
                · have := (he0.mono J'.ext).ro
                  rw [f2]; exact this
      · -- behind a panic nothing comes
        exfalso
        cases hp : p with
        | none =>
          have := (D.T.fin hp).1
          omega
        | some q =>
          have h1 := (D.T.pan q.1 q.2 hp).2.1
          have h2 := lastOk_spec ops 0 (hlast q hp) j (by omega) (by omega)
          rw [Nat.zero_add] at h2
          have := (I.dom (l.length - 1) (hr.anc _ h2)).2 (by rw [hp]; simp)
          omega

theorem ddraw_ok (hcall : CallN P call) (hfun : ∀ v args s r x, call v args s r = some x → ∃ f a c, v = .func f a c) {OPS : Array Oper} {id : Nat} {b : Frame} {stk : FrameMode → List Frame} {k : List Item} {σ : Sg} {w : World} {e : Env} {a : Act} {m : FrameMode} {ex : Ex} {e' : Env}
    (hd : ddraw P call OPS.toList e = some (ex, e')) (h : Rel σ e.s w) (he : ER σ b e a m) : COut P σ e.s w (lone (b.atR a (.code (.region id OPS true) :: k)) (stk m) w) b stk k ex e' := by
  unfold ddraw at hd
  split at hd
  · cases hd
  · rename_i l f p htr
    simp only at hd
    cases hcond : (P.follows .mixedOrders && drawOk OPS.toList && chainOk (ancs OPS.toList) (chgs l) && newsOk (ancs OPS.toList) (news l) (chgs l) && growOk l f.s.n && chgsUnder l && readsAll P call f.s.n e.s.n (ancs OPS.toList) l f.s) with
    | false => rw [hcond] at hd; cases hd
    | true =>
      rw [hcond] at hd
      simp only [cond_true] at hd
      simp only [Bool.and_eq_true] at hcond
      obtain ⟨⟨⟨⟨⟨⟨c1, c2⟩, c3⟩, c4⟩, c5⟩, c6⟩, c7⟩ := hcond
      have D : Drawn P call OPS.toList e l f p := ⟨traced _ _ _ _ _ _ htr, c2, c3, c4, c5, c6⟩
      have hend : DEnd OPS.toList e f p ex e' ∧ ∀ q, p = some q → lastOk (ancs OPS.toList) (l.length - 1) OPS.toList 0 = true := by
        split at hd
        · simp at hd; obtain ⟨rfl, rfl⟩ := hd; exact ⟨⟨rfl, rfl⟩, fun q hq => by cases hq⟩
        · rename_i v s
          cases hl : lastOk (ancs OPS.toList) (l.length - 1) OPS.toList 0 with
          | false => rw [hl] at hd; cases hd
          | true =>
            rw [hl] at hd
            simp at hd; obtain ⟨rfl, rfl⟩ := hd
            exact ⟨⟨rfl, rfl⟩, fun _ _ => rfl⟩
      refine COut.of_steps (.one stepR_region_draw) ?_
      simp only [Region.schedule, c1, Bool.true_or, if_true, Region.linearise]
      have hst : Stp σ e.s w σ e.s { w with drawn := w.drawn + 1 } := Stp.world h rfl rfl rfl rfl
      have hrel' := hst.rel
      have hS0 : stAt l f 0 = e.s := D.T.first
      have hn0 : e.s.n ≤ f.s.n := by
        have := D.mono (Nat.zero_le l.length) (Nat.le_refl _)
        rw [stAt_len, hS0] at this
        exact this
      have hfalse : ∀ i, (Array.replicate OPS.size false).getD i false = false := by
        intro i
        by_cases hi : i < OPS.size <;> simp [Array.getD_eq_getD_getElem?, hi]
      have hXg : ∀ id, ({ e.s with n := f.s.n } : Sto).get id = e.s.get id := by
        intro id
        rw [Sto.get_eq, Sto.get_eq]
        show (if id < f.s.n then e.s.o.get id else none) = _
        by_cases h1 : id < e.s.n
        · rw [if_pos h1, if_pos (by omega)]
        · rw [if_neg h1, h.top id (by omega)]; split <;> rfl
      refine COut.after hst (draw_loop hcall hfun rfl D c7 hend.2 (a0 := a) he hend.1 OPS.size _ (Array.replicate OPS.size false) 0 σ { e.s with n := f.s.n } a _ ?_ ?_ (by simp) ?_ rfl)
      · refine ⟨fun j hj => ?_, fun j hj => ?_, he.tm.1, fun d v hv => ?_⟩
        · rw [hfalse] at hj; cases hj
        · rw [hfalse] at hj; cases hj
        · have : l.filter (fun x => (Array.replicate OPS.size false).getD x.i false) = [] := by
            rw [List.filter_eq_nil_iff]
            intro x _
            rw [hfalse]; simp
          rw [this] at hv
          exact he.tm.2 d v hv
      · refine ⟨Nat.zero_le _, fun j x _ _ => by rw [hfalse]; simp, fun j x _ _ hj => by omega, ?_, rfl, fun id x hx => ?_, fun id hid => ?_, fun j y _ _ hd => ?_, fun id x b base sz o hx hs hb => ?_, fun id g x hx => ?_, Sg.le_refl σ, Nat.le_refl _, fun _ _ _ => rfl, ?_, ?_, ?_, ?_, rfl, rfl, rfl, ?_, ?_⟩
        · exact { obj := fun id x hx => hrel'.obj id x (by rw [← hXg]; exact hx), inj := fun id x id' x' b base sz base' sz' h1 h2 => hrel'.inj id x id' x' b base sz base' sz' (by rw [← hXg]; exact h1) (by rw [← hXg]; exact h2),
                  mu := fun b off V hm => ⟨(hrel'.mu b off V hm).1, fun ⟨id, x, base, sz, h1, h2⟩ => (hrel'.mu b off V hm).2 ⟨id, x, base, sz, by rw [← hXg]; exact h1, h2⟩⟩,
                  bnd := fun id g x hx => Nat.lt_of_lt_of_le (hrel'.bnd id g x hx) hn0, gen := fun id x g y h1 h2 => hrel'.gen id x g y (by rw [← hXg]; exact h1) h2,
                  top := fun id hid => h.top id (Nat.le_trans hn0 hid) }
        · rw [hXg] at hx
          rw [hS0]
          exact .inl ⟨Sto.get_lt hx, hx⟩
        · rw [hXg, hS0]
        · rw [hfalse] at hd; cases hd
        · rw [hXg] at hx
          obtain ⟨b', base', sz', o', g1, g2, g3⟩ := hrel'.obj id x hx
          rw [hs] at g1
          obtain ⟨rfl, rfl, rfl⟩ : b = b' ∧ base = base' ∧ sz = sz' := by simpa using g1
          rw [hb] at g2; cases g2
          refine g3.mono ⟨fun id' g' z' hz' => ?_, by exact fun _ _ _ h => h⟩
          have hb' := h.bnd id' g' z' hz'
          simp only [Sg.cut]
          rw [hS0, if_pos (by omega)]
          exact hz'
        · rw [hS0]; exact .inl (h.bnd id g x hx)
        · rintro b ⟨id, x, base, sz, h1, h2⟩
          exact .inl ⟨id, x, base, sz, by rw [← hXg]; exact h1, h2⟩
        · rw [hS0]; exact Nat.le_refl _
        · intro id h1 h2; rw [hS0]; exact ⟨rfl, fun _ => rfl, fun _ _ _ _ _ _ => rfl⟩
        · intro id h1 h2; rw [hS0]; exact ⟨h2, fun _ => rfl⟩
        · intro id hid; rw [hS0] at hid ⊢; exact h.top id hid
        · exact fun b off V hV => .inl hV
      · refine Nat.le_trans (List.countP_le_length) ?_
        simp

end
end Go.Abs

/-
  The abstract machine: ranges over functions, code.
-/

namespace Go.Abs

section
variable {P : Program} 

/-- the one call of a range over a function, whatever it lays -/
theorem step_range {b : Frame} {a : Act} {k : List Item} {cs : List Frame} {w w₁ : World} {g : Operand} {ps : Array Tmp} {assign body : Code} {l : Nat} {mark : List Deferred} {d : Deferred} {nx : Next} {fr : Frame}
    (he : (Instr.enterLoop b.fn a.tmps ps assign body b.roundOf).run P w = .ok (l, mark) w₁)
    (hres : (resolve a.eval (rangeCall g l) 0).run P w₁ = .ok d w₁) (hinv : (invoke d.target d.args).run P w₁ = .ok nx w₁) (hp : IsPush P nx fr) :
    step P (lone (b.atR a (.code (.rangeFunc g ps assign body) :: k)) cs w) = .next (lone fr (b.atR { a with defers := mark ++ a.defers } (.inRangeFunc l :: k) :: cs) w₁) :=
  step_lone_go (by
    have hev := Frame.eval_atR b { a with defers := mark ++ a.defers } (.inRangeFunc l :: k)
    simp only [Frame.atR] at hev
    have hres' : Sem.run P (resolve ({ tmps := a.tmps, defers := mark ++ a.defers } : Act).eval { callee := .value g, args := #[.const (.func (.yield l) #[] #[])], argTypes := #[] } 0) w₁ = .ok d w₁ := hres
    rcases hp with ⟨g', A, rfl, rfl⟩ | ⟨l', f', t', a', b', rfl, rfl⟩
    · simp [stepG, stepG.exec, Frame.atR, Sem.runT_eq, he, GStep.bare_after, stepG.apply, hev, Sem.run_bind, hres', hinv, Result.andThen]
    · simp [stepG, stepG.exec, Frame.atR, Sem.runT_eq, he, GStep.bare_after, stepG.apply, hev, Sem.run_bind, hres', hinv, Result.andThen])

theorem upd_other {σ : Sg} {id g id' g' : Nat} {x : Nat × Nat × Nat} (h : id' ≠ id) : σ.upd id g x id' g' = σ id' g' := by
  simp only [Sg.upd]; rw [if_neg (fun h' => h h'.1)]

theorem put_world {w : World} {L : Nat} {o : Obj} (b : Nat) (h : b ≠ L) : (w.putObj L o).heap[b]? = w.heap[b]? := World.putObj_heap_other h

theorem rangeEnd_ok {b : Frame} {stk : FrameMode → List Frame} {k : List Item} {σ τ : Sg} {S s : Sto} {w w' : World} {e : Env} {ds : List ADef} {lid L : Nat} {base sz : Nat} {a : Act} {m : FrameMode} {ex : Ex} {e' : Env} {M : Machine}
    (hd : drangeEnd e ds lid s = some (ex, e')) (hst : Stp σ S w τ s w') (he : ER τ b { e with ds := ds, s := s } a m) (hL : τ lid 0 = some (L, base, sz)) (hs : Steps P M (lone (b.atR a (.endRangeFunc L :: k)) (stk m) w')) :
    COut P σ S w M b stk k ex e' := by
  unfold drangeEnd at hd
  split at hd
  · rename_i st pend fn nt t ps ca cb d hg
    obtain ⟨B, base', sz', o, h1, h2, h3⟩ := hst.rel.obj lid _ hg
    have h1' : τ lid 0 = some (B, base', sz') := h1
    rw [hL] at h1'
    obtain ⟨rfl, rfl, rfl⟩ : L = B ∧ base = base' ∧ sz = sz' := by simpa using h1'
    cases h3 with
    | loop _ _ _ _ _ _ _ _ _ T PS db dbase dsz g1 g2 g3 =>
      have hnb : st ≠ .busy := by rintro rfl; simp at hd
      have hrun := run_endLoop (P := P) h2 hnb
      have hput := stp_put (w' := w'.putObj L (.loop { state := .exhausted, pending := pend, fn := fn, tmps := T, params := PS, assign := ca, body := cb, defers := db })) hst.rel hg h1 (y := .loop .exhausted pend fn nt t ps ca cb d) rfl
        (World.putObj_heap_same (Array.getElem?_eq_some_iff.1 h2).1) (.loop _ _ _ _ _ _ _ _ _ _ _ _ _ _ g1 g2 g3) (by simp) (fun b' hb' => put_world b' hb') rfl rfl rfl
      have hst' := hst.trans hput
      have hs' := hs.trans (.one (stepR_endRangeFunc (k := k) hrun))
      have he' := he.sto (s.put lid (.loop .exhausted pend fn nt t ps ca cb d))
      cases st with
      | busy => exact absurd rfl hnb
      | _ =>
        simp only at hd
        cases pend with
        | none =>
          simp at hd
          obtain ⟨rfl, rfl⟩ := hd
          exact ⟨τ, a, m, _, he', hst', hs'⟩
        | some j =>
          cases j <;> simp at hd
          · rename_i id
            obtain ⟨rfl, rfl⟩ := hd
            refine ⟨τ, a, m, _, he', hst', fun k' hk' => hs'.trans (.one (stepR_exit hk')), fun hk => ⟨k, hk, hs'⟩⟩
          · obtain ⟨rfl, rfl⟩ := hd
            exact ⟨τ, a, m, _, he', hst', k, hs'⟩
  · cases hd

/-- the record is laid, the function is called, and the range ends -/
theorem range_core {call : CallT} (hcall : CallN P call) (hfun : ∀ v args s r x, call v args s r = some x → ∃ f a c, v = .func f a c) {b : Frame} {stk : FrameMode → List Frame} {k : List Item} {σ σ1 : Sg} {w w1 : World} {s1 : Sto} {e : Env} {a : Act} {m : FrameMode} {ex : Ex} {e' : Env}
    {f : Operand} {ps : Array Tmp} {asg body : Code} {d db dbase dsz : Nat} {ds : List ADef} {mark : List Deferred} (h1 : Stp σ e.s w σ1 s1 w1) (he : ER σ b e a m) (hdb : σ1 d 0 = some (db, dbase, dsz)) (hds : DefsR σ1 ds (mark ++ a.defers))
    (hen : (Instr.enterLoop b.fn a.tmps ps asg body b.roundOf).run P w = .ok (w1.heap.size, mark) (w1.alloc (.loop { state := .ready, pending := none, fn := b.fn, tmps := a.tmps, params := ps, assign := asg, body := body, defers := db })))
    (hd : (match call (e.eval f) [.func (.yield s1.n) [] []] (s1.push (.loop .ready none e.fn e.nt e.t ps.toList asg body d)) .no with
      | some (.ret _ so, _) => drangeEnd e ds s1.n (match so with | some s => s | none => s1.push (.loop .ready none e.fn e.nt e.t ps.toList asg body d))
      | some (.pan v so, _) => some (.panic v, { e with s := (match so with | some s => s | none => s1.push (.loop .ready none e.fn e.nt e.t ps.toList asg body d)), ds := ds })
      | none => none) = some (ex, e')) :
    COut P σ e.s w (lone (b.atR a (.code (.rangeFunc f ps asg body) :: k)) (stk m) w) b stk k ex e' := by
  have hdn : d < s1.n := h1.rel.bnd _ _ _ hdb
  have h2 := stp_push (x := .loop .ready none e.fn e.nt e.t ps.toList asg body d) (o := .loop { state := .ready, pending := none, fn := b.fn, tmps := a.tmps, params := ps, assign := asg, body := body, defers := db }) (base := 0) (sz := 0) h1.rel rfl
    (by
      rw [he.fn]
      refine .loop _ _ _ _ _ _ _ _ _ _ _ db dbase dsz ?_ rfl ?_
      · refine he.tm.mono (Sg.le_trans h1.ext (Sg.le_upd _ ?_))
        cases hs : σ1 s1.n 0 with
        | none => rfl
        | some y => exact absurd (h1.rel.bnd _ _ _ hs) (Nat.lt_irrefl _)
      · rw [upd_other (by omega)]; exact hdb)
  generalize hs2 : s1.push (.loop .ready none e.fn e.nt e.t ps.toList asg body d) = s2 at hd h2
  generalize hw2 : w1.alloc (.loop { state := .ready, pending := none, fn := b.fn, tmps := a.tmps, params := ps, assign := asg, body := body, defers := db }) = w2 at hen h2
  generalize hσ2 : σ1.upd s1.n 0 (w1.heap.size, 0, 0) = σ2 at h2
  have hL : σ2 s1.n 0 = some (w1.heap.size, 0, 0) := by rw [← hσ2]; exact Sg.upd_same _ _ _ _
  have h12 := h1.trans h2
  have hfv := eval_ok he.tm f
  have hfn : ∃ g x y, e.eval f = .func g x y := by
    split at hd
    · rename_i hc; exact hfun _ _ _ _ _ hc
    · rename_i hc; exact hfun _ _ _ _ _ hc
    · cases hd
  obtain ⟨g, x, y, hg⟩ := hfn
  rw [hg] at hfv hd
  generalize hq : a.eval f = FV at hfv
  cases hfv with
  | func _ F _ _ X Y hF k1 k2 k3 k4 =>
    have hle := h12.ext
    have hcap : VRs σ2 y Y.toList := ⟨by simpa using k2, fun i x X e1 e2 => (k4 i x X e1 (by simpa using e2)).mono hle⟩
    have hargs : VRs σ2 (x ++ [AV.func (.yield s1.n) [] []]) (X ++ #[Value.func (.yield w1.heap.size) #[] #[]]).toList := by
      rw [Array.toList_append]
      exact VRs.append ⟨by simpa using k1, fun i x X e1 e2 => (k3 i x X e1 (by simpa using e2)).mono hle⟩ (VRs.cons (VR.func _ _ _ _ _ _ (.yield _ _ _ _ hL) rfl rfl (by simp) (by simp)) (VRs.nil _))
    have hFn : FnR σ2 g F := hF.mono hle
    have main : ∀ (res : CRes) (rr : ARec), call (.func g x y) [.func (.yield s1.n) [] []] s2 .no = some (res, rr) → ∃ fr, Steps P (lone (b.atR a (.code (.rangeFunc f ps asg body) :: k)) (stk m) w) (lone fr (b.atR { a with defers := mark ++ a.defers } (.inRangeFunc w1.heap.size :: k) :: stk m) w2) ∧ match res with
        | .ret v so => ∃ τ V w', VR τ v V ∧ CStp σ2 s2 w2 τ so w' ∧ Steps P (lone fr (b.atR { a with defers := mark ++ a.defers } (.inRangeFunc w1.heap.size :: k) :: stk m) w2) (lone (b.atR { a with defers := mark ++ a.defers } (.endRangeFunc w1.heap.size :: k)) (stk m) w')
        | .pan v so => ∃ τ V w', VR τ v V ∧ CStp σ2 s2 w2 τ so w' ∧ Steps P (lone fr (b.atR { a with defers := mark ++ a.defers } (.inRangeFunc w1.heap.size :: k) :: stk m) w2) (lone { b.atR { a with defers := mark ++ a.defers } (.inRangeFunc w1.heap.size :: k) with mode := .panicking [{ v := V, recovered := false }] } (stk m) w') := by
      intro res rr hc
      obtain ⟨nx, fr, p1, p2, p3⟩ := hcall σ2 s2 w2 g F x y [.func (.yield s1.n) [] []] Y _ res rr hc h2.rel hFn hcap hargs
      refine ⟨fr, .one (step_range hen (d := { target := .fn F Y, args := X ++ #[.func (.yield w1.heap.size) #[] #[]] }) ?_ p1 p2), ?_⟩
      · have hc' : a.eval (.const (.func (.yield w1.heap.size) #[] #[])) = .func (.yield w1.heap.size) #[] #[] := rfl
        simp [resolve, rangeCall, hq, Deferred.ofValue, hc']
      · have := p3 (b.atR { a with defers := mark ++ a.defers } (.inRangeFunc w1.heap.size :: k)) (stk m)
        cases res with
        | ret v so =>
          obtain ⟨τ, V, w', q1, q2, q3⟩ := this
          exact ⟨τ, V, w', q1, q2, by rw [← finish_atR_inRangeFunc _ V]; exact q3⟩
        | pan v so =>
          obtain ⟨τ, V, w', q1, q2, q3⟩ := this
          exact ⟨τ, V, w', q1, q2, by rw [← Frame.raise_atR]; exact q3⟩
    have hso : ∀ (so : Option Sto), (match so with | some s => s | none => s2) = so.getD s2 := fun so => by cases so <;> rfl
    split at hd
    · rename_i v so rr hc
      obtain ⟨fr, q0, τ, V, w', q1, q2, q3⟩ := main _ _ hc
      have hst := h12.trans (q2.stp h2.rel)
      rw [hso] at hd
      have hτ := (q2.stp h2.rel).ext
      have heE : ER τ b { e with ds := ds, s := so.getD s2 } { a with defers := mark ++ a.defers } m := by
        have h3 := he.mono hst.ext
        exact ⟨h3.tm, hds.mono (Sg.le_trans h2.ext hτ), h3.rc, h3.fn, h3.ro⟩
      exact rangeEnd_ok hd hst heE (hτ _ _ _ hL) (q0.trans q3)
    · rename_i v so rr hc
      obtain ⟨fr, q0, τ, V, w', q1, q2, q3⟩ := main _ _ hc
      have hst := h12.trans (q2.stp h2.rel)
      rw [hso] at hd
      simp at hd
      obtain ⟨rfl, rfl⟩ := hd
      have hτ := (q2.stp h2.rel).ext
      have heE : ER τ b { e with s := so.getD s2, ds := ds } { a with defers := mark ++ a.defers } m := by
        have h3 := he.mono hst.ext
        exact ⟨h3.tm, hds.mono (Sg.le_trans h2.ext hτ), h3.rc, h3.fn, h3.ro⟩
      exact ⟨τ, _, m, w', heE, hst, V, _, q1, q0.trans q3⟩
    · cases hd

theorem drange_ok {call : CallT} (hcall : CallN P call) (hfun : ∀ v args s r x, call v args s r = some x → ∃ f a c, v = .func f a c) {f : Operand} {ps : Array Tmp} {asg body : Code} : CodeOk P (drange call f ps asg body) (.rangeFunc f ps asg body) := by
  intro σ w b stk k e a m ex e' hstk hd h he
  unfold drange at hd
  cases hro : e.ro with
  | none =>
    have hbro : b.roundOf = none := by have := he.ro; rw [hro] at this; exact this
    rw [hro] at hd
    simp only at hd
    rw [← hro] at hd
    have h1 := stp_push (x := .defs (some [])) (o := .deferred (some [])) (base := 0) (sz := 0) h rfl (.defsS _ _ .nil)
    have hd1 : (σ.upd e.s.n 0 (w.heap.size, 0, 0)) e.s.n 0 = some (w.heap.size, 0, 0) := Sg.upd_same _ _ _ _
    refine range_core hcall hfun (mark := [{ target := .collected w.heap.size, args := #[] }]) (d := e.s.n) (db := w.heap.size) h1 he hd1 (.cons _ _ _ _ (.collected _ _ _ _ hd1) (he.df.mono h1.ext)) ?_ hd
    rw [hbro, run_enterLoop_outer]
    simp [World.size_alloc]
  | some l =>
    have hr := he.ro
    rw [hro] at hr hd
    simp only at hr hd
    obtain ⟨L, base, sz, hb, hs, hk⟩ := hr
    split at hd
    · cases hd
    · rename_i x s1 d ds hm
      split at hm
      · rename_i st pe fn nt t ps' a' b' d' hg
        simp at hm
        obtain ⟨rfl, rfl, rfl⟩ := hm
        obtain ⟨B, base', sz', o, g1, g2, g3⟩ := h.obj l _ hg
        have g1' : σ l 0 = some (B, base', sz') := g1
        rw [hs] at g1'
        obtain ⟨rfl, rfl, rfl⟩ : L = B ∧ base = base' ∧ sz = sz' := by simpa using g1'
        cases g3 with
        | loop _ _ _ _ _ _ _ _ _ T PS db dbase dsz u1 u2 u3 =>
          rw [← hro] at hd
          refine range_core hcall hfun (mark := []) (d := d') (db := db) (Stp.refl h) he u3 (by simpa using he.df) ?_ hd
          rw [hb]
          unfold Instr.enterLoop
          simp [Sem.run_bind, run_getLoop g2, run_newObj_alloc, Result.andThen, Sem.run_pure]
      · cases hm

/-! ### code -/
theorem stepR_scope {b : Frame} {a : Act} {k : List Item} {cs : List Frame} {w : World} {c : Code} : step P (lone (b.atR a (.code (.scope c) :: k)) cs w) = .next (lone (b.atR a (.code c :: .inScope c :: k)) cs w) :=
  step_lone_go (by simp [stepG, stepG.exec, Frame.atR])
theorem stepR_inScope {b : Frame} {a : Act} {k : List Item} {cs : List Frame} {w : World} {c : Code} : step P (lone (b.atR a (.inScope c :: k)) cs w) = .next (lone (b.atR a k) cs w) :=
  step_lone_go (by simp [stepG, stepG.exec, Frame.atR])

theorem dcode_ok {call : CallT} (hcall : CallN P call) (hfun : ∀ v args s r x, call v args s r = some x → ∃ f a c, v = .func f a c) (n : Nat) : ∀ c : Code, CodeOk P (dcode P call n c) c := by
  intro c
  induction c with
  | skip =>
    intro σ w b stk k e a m ex e' hstk hd h he
    simp [dcode] at hd; obtain ⟨rfl, rfl⟩ := hd
    exact ⟨σ, a, m, w, he, Stp.refl h, .one stepR_skip⟩
  | label l =>
    intro σ w b stk k e a m ex e' hstk hd h he
    simp [dcode] at hd; obtain ⟨rfl, rfl⟩ := hd
    exact ⟨σ, a, m, w, he, Stp.refl h, .one stepR_label⟩
  | region id ops draw =>
    intro σ w b stk k e a m ex e' hstk hd h he
    simp only [dcode, dregion] at hd
    cases draw with
    | true => exact ddraw_ok hcall hfun hd h he
    | false =>
      have := dops_ok hcall hfun hstk (OPS := ops) (k := k) ops.toList 0 σ w e a m ex e' (fun j => by simp) hd h he
      refine COut.of_steps (.one stepR_region) ?_
      rw [List.range_eq_range']
      simpa using this
  | seq x y ihx ihy =>
    intro σ w b stk k e a m ex e' hstk hd h he
    simp only [dcode] at hd
    split at hd
    · rename_i e1 hx
      obtain ⟨τ, a', m', w', h1, h2, h3⟩ := ihx σ w b stk (.code y :: k) e a m _ _ hstk hx h he
      have := ihy τ w' b stk k e1 a' m' ex e' hstk hd h2.rel h1
      exact (this.of_steps (Steps.trans (.one stepR_seq) h3)).after h2
    · rename_i hx
      obtain ⟨τ, a', m', w', h1, h2, h3⟩ := ihx σ w b stk (.code y :: k) e a m ex e' hstk hd h he
      have hn : ex ≠ .normal := by rintro rfl; exact hx e' hd
      exact ⟨τ, a', m', w', h1, h2, (Gone.pass (x := .code y) (.inl rfl) hn h3).of_steps (.one stepR_seq)⟩
  | cond c x y ihx ihy =>
    intro σ w b stk k e a m ex e' hstk hd h he
    simp only [dcode] at hd
    have hv := eval_ok he.tm c
    split at hd
    · rename_i hc
      rw [hc] at hv
      have := stepR_cond (P := P) (b := b) (k := k) (cs := stk m) (w := w) (x := x) (y := y) (vr_bool hv)
      simp only [if_true] at this
      exact (ihx σ w b stk k e a m ex e' hstk hd h he).of_steps (.one this)
    · rename_i hc
      rw [hc] at hv
      have := stepR_cond (P := P) (b := b) (k := k) (cs := stk m) (w := w) (x := x) (y := y) (vr_bool hv)
      simp only [Bool.false_eq_true, if_false] at this
      exact (ihy σ w b stk k e a m ex e' hstk hd h he).of_steps (.one this)
    · cases hd
  | block id c ih =>
    intro σ w b stk k e a m ex e' hstk hd h he
    simp only [dcode] at hd
    split at hd
    · rename_i i e1 hc
      obtain ⟨τ, a', m', w', h1, h2, h3⟩ := ih σ w b stk (.inBlock id :: k) e a m _ _ hstk hc h he
      cases hi : Nat.beq i id with
      | true =>
        rw [hi] at hd
        simp at hd; obtain ⟨rfl, rfl⟩ := hd
        have hid : i = id := by simpa using hi
        subst hid
        exact ⟨τ, a', m', w', h1, h2, Steps.trans (.one stepR_block) (h3.1 k (by simp [exitTo]))⟩
      | false =>
        rw [hi] at hd
        simp at hd; obtain ⟨rfl, rfl⟩ := hd
        have hid : i ≠ id := by
          intro he'; subst he'
          rw [Nat.beq_refl] at hi; cases hi
        have hex : exitTo i (.inBlock id :: k) = exitTo i k := by
          simp [exitTo, Ne.symm hid]
        refine ⟨τ, a', m', w', h1, h2, Gone.of_steps (x := .exit i) (.one stepR_block) ⟨fun k' hk' => h3.1 k' (by rw [hex]; exact hk'), fun hk => h3.2 (by rw [hex]; exact hk)⟩⟩
    · rename_i hx
      obtain ⟨τ, a', m', w', h1, h2, h3⟩ := ih σ w b stk (.inBlock id :: k) e a m ex e' hstk hd h he
      refine ⟨τ, a', m', w', h1, h2, Gone.of_steps (.one stepR_block) ?_⟩
      cases ex with
      | normal => exact Steps.trans h3 (.one stepR_inBlock)
      | exit i => exact absurd hd (hx i e')
      | goto l => trivial
      | ret => exact h3
      | panic v => exact h3
  | loop c ih =>
    intro σ w b stk k e a m ex e' hstk hd h he
    simp only [dcode] at hd
    exact (loopGo_ok ih n σ w b stk k e a m ex e' hstk hd h he).of_steps (.one stepR_loop)
  | scope c ih =>
    intro σ w b stk k e a m ex e' hstk hd h he
    simp only [dcode] at hd
    have hd' : dcode P call n c e = some (ex, e') := by
      split at hd
      · cases hd
      · exact hd
    obtain ⟨τ, a', m', w', h1, h2, h3⟩ := ih σ w b stk (.inScope c :: k) e a m ex e' hstk hd' h he
    refine ⟨τ, a', m', w', h1, h2, Gone.of_steps (.one stepR_scope) ?_⟩
    by_cases hn : ex = .normal
    · subst hn; exact Steps.trans h3 (.one stepR_inScope)
    · exact Gone.pass (.inr ⟨_, rfl⟩) hn h3
  | exit id =>
    intro σ w b stk k e a m ex e' hstk hd h he
    simp [dcode] at hd; obtain ⟨rfl, rfl⟩ := hd
    exact ⟨σ, a, m, w, he, Stp.refl h, fun k' hk' => .one (stepR_exit hk'), fun hk => ⟨k, hk, .refl _ _⟩⟩
  | goto l =>
    intro σ w b stk k e a m ex e' hstk hd h he
    simp [dcode] at hd
  | ret =>
    intro σ w b stk k e a m ex e' hstk hd h he
    simp [dcode] at hd; obtain ⟨rfl, rfl⟩ := hd
    exact ⟨σ, a, m, w, he, Stp.refl h, k, .refl _ _⟩
  | rangeFunc f ps asg body _ _ =>
    intro σ w b stk k e a m ex e' hstk hd h he
    simp only [dcode] at hd
    exact drange_ok hcall hfun σ w b stk k e a m ex e' hstk hd h he
  | refuse s =>
    intro σ w b stk k e a m ex e' hstk hd h he
    simp [dcode] at hd

end
end Go.Abs

/-
  The abstract machine: calls.
-/

namespace Go.Abs

section
variable {P : Program} 

/-! ### results -/
def resOf (T : Array Value) (x : ResultVar) : Sem Value := match x with
  | .tmp t => pure (T.getD t undef)
  | .cell a t => do loadVar t (← asAddr (T.getD a undef))
theorem results_eq (fn : Func) (T : Array Value) : results fn T = (do let vs ← fn.results.mapM (resOf T); pure (if h : vs.size = 1 then vs[0] else .tuple vs)) := rfl

theorem dresults_ok {σ : Sg} {w : World} {e : Env} {T : Array Value} (h : Rel σ e.s w) (ht : TmR σ e.nt e.t T) : ∀ (l : List ResultVar) (r : List AV), dresults P e l = some r → ∃ R : List Value, VRs σ r R ∧ (l.mapM (resOf T)).run P w = .ok R w := by
  have hget : ∀ t, VR σ (match e.t.get t with | some v => v | none => .top) (T.getD t undef) := by
    intro t
    cases hg : e.t.get t with
    | none => exact .top _
    | some v => exact (ht.2 t v hg).2
  intro l
  induction l with
  | nil => intro r hr; simp [dresults] at hr; subst hr; exact ⟨[], VRs.nil _, by simp⟩
  | cons x l ih =>
    intro r hr
    cases x with
    | tmp t =>
      simp only [dresults] at hr
      split at hr
      · rename_i r' hr'
        simp only [Option.some.injEq] at hr; subst hr
        obtain ⟨R, h1, h2⟩ := ih r' hr'
        refine ⟨T.getD t undef :: R, VRs.cons (hget t) h1, ?_⟩
        rw [List.mapM_cons]
        simp [resOf, Sem.run_bind, h2]
      · cases hr
    | cell a t =>
      simp only [dresults] at hr
      split at hr
      · rename_i v hv
        split at hr
        · rename_i r' hr'
          simp only [Option.some.injEq] at hr; subst hr
          obtain ⟨R, h1, h2⟩ := ih r' hr'
          obtain ⟨ad, V, e1, e2, e3⟩ := aload_ok h hv (hget a)
          refine ⟨V :: R, VRs.cons e3 h1, ?_⟩
          rw [List.mapM_cons]
          have e1' : (T[a]?).getD undef = .pointer (some ad) := by rw [← e1, Array.getD_eq_getD_getElem?]
          simp [resOf, Sem.run_bind, e1', asAddr, e2, h2]
        · cases hr
      · cases hr

def packR : List AV → AV
  | [v] => v
  | l => .tuple l
theorem results_ok {σ : Sg} {w : World} {e : Env} {T : Array Value} (h : Rel σ e.s w) (ht : TmR σ e.nt e.t T) {fn : Func} {r : List AV} (hr : dresults P e fn.results.toList = some r) : ∃ V, (results fn T).run P w = .ok V w ∧ VR σ (packR r) V := by
  obtain ⟨R, h1, h2⟩ := dresults_ok h ht _ _ hr
  have hres : (results fn T).run P w = .ok (if h : R.toArray.size = 1 then R.toArray[0] else .tuple R.toArray) w := by
    rw [results_eq, Sem.run_bind, Array.mapM_eq_mapM_toList, map_eq_pure_bind, Sem.run_bind, h2]
    rfl
  refine ⟨_, hres, ?_⟩
  have hl := h1.1
  unfold packR
  split
  · rename_i v
    have hR : R.length = 1 := by simpa using hl.symm
    obtain ⟨V, rfl⟩ := List.length_eq_one_iff.1 hR
    simp
    exact h1.2 0 v V rfl rfl
  · rename_i hne
    rw [dif_neg]
    · exact VR.tuple_iff.2 ⟨_, rfl, by simpa using h1⟩
    · intro hsz
      have : r.length = 1 := by rw [hl]; simpa using hsz
      obtain ⟨v, hv⟩ := List.length_eq_one_iff.1 this
      exact hne v hv

/-! ### leaving -/
theorem step_collected {fr : Frame} {cs : List Frame} {w w' : World} {B : Nat} {as : Array Value} {ds calls : List Deferred} (hm : fr.mode ≠ .run) (hd : fr.defers = { target := .collected B, args := as } :: ds)
    (hr : (Instr.takeDeferred B).run P w = .ok calls w') : step P (lone fr cs w) = .next (lone { fr with defers := calls ++ ds } cs w') := by
  refine step_lone_go ?_
  cases hmode : fr.mode with
  | run => exact absurd hmode hm
  | returning => simp [stepG, unwind, hmode, hd, Sem.runT_eq, hr, GStep.bare_after]
  | panicking chain => simp [stepG, unwind, hmode, hd, Sem.runT_eq, hr, GStep.bare_after]

/-- the mode of a frame that is being left -/
inductive UM (σ : Sg) : Option AV → FrameMode → Prop
  | ret : UM σ none .returning
  | pan (v : AV) (V : Value) : VR σ v V → UM σ (some v) (.panicking [{ v := V, recovered := false }])
theorem UM.mono {σ τ : Sg} (h : σ.le τ) {o : Option AV} {u : FrameMode} (hu : UM σ o u) : UM τ o u := by
  cases hu with
  | ret => exact .ret
  | pan v V hv => exact .pan v V (hv.mono h)
theorem UM.ne {σ : Sg} {o : Option AV} {u : FrameMode} (hu : UM σ o u) : u ≠ .run := by cases hu <;> simp

def Left (P : Program) (σ : Sg) (S : Sto) (w : World) (M : Machine) (b : Frame) (stk : FrameMode → List Frame) (fn : Func) (s : Sto) (res : CRes) (rr : ARec) : Prop :=
  ∃ τ a' m' w' e' todo, ER τ b e' a' m' ∧ Stp σ S w τ e'.s w' ∧ rr = e'.r ∧ a'.defers = [] ∧ match res with
    | .ret v so => so = dclose s v e' ∧ ∃ V, VR τ v V ∧ (results fn a'.tmps).run P w' = .ok V w' ∧ Steps P M (lone { b.atR a' todo with mode := .returning } (stk m') w')
    | .pan v so => so = dclose s v e' ∧ ∃ V, VR τ v V ∧ Steps P M (lone { b.atR a' todo with mode := .panicking [{ v := V, recovered := false }] } (stk m') w')
theorem Left.of {σ τ : Sg} {S S' : Sto} {w w' : World} {M M' : Machine} {b : Frame} {stk : FrameMode → List Frame} {fn : Func} {s : Sto} {res : CRes} {rr : ARec} (h : Steps P M M') (hs : Stp σ S w τ S' w') (hl : Left P τ S' w' M' b stk fn s res rr) : Left P σ S w M b stk fn s res rr := by
  obtain ⟨ρ, a', m', w'', e', todo, h1, h2, h3, h4, h5⟩ := hl
  refine ⟨ρ, a', m', w'', e', todo, h1, hs.trans h2, h3, h4, ?_⟩
  cases res with
  | ret v so => obtain ⟨g1, V, g2, g3, g4⟩ := h5; exact ⟨g1, V, g2, g3, h.trans g4⟩
  | pan v so => obtain ⟨g1, V, g2, g3⟩ := h5; exact ⟨g1, V, g2, h.trans g3⟩

/-- what a body that is left comes to, with the last environment -/
def LeftE (P : Program) (σ : Sg) (S : Sto) (w : World) (M : Machine) (b : Frame) (stk : FrameMode → List Frame) (fn : Func) (res : LRes) (e' : Env) : Prop :=
  ∃ τ a' m' w' todo, ER τ b e' a' m' ∧ Stp σ S w τ e'.s w' ∧ a'.defers = [] ∧ match res with
    | .ret v => ∃ V, VR τ v V ∧ (results fn a'.tmps).run P w' = .ok V w' ∧ Steps P M (lone { b.atR a' todo with mode := .returning } (stk m') w')
    | .pan v => ∃ V, VR τ v V ∧ Steps P M (lone { b.atR a' todo with mode := .panicking [{ v := V, recovered := false }] } (stk m') w')
theorem LeftE.of {σ τ : Sg} {S S' : Sto} {w w' : World} {M M' : Machine} {b : Frame} {stk : FrameMode → List Frame} {fn : Func} {res : LRes} {e' : Env} (h : Steps P M M') (hs : Stp σ S w τ S' w') (hl : LeftE P τ S' w' M' b stk fn res e') : LeftE P σ S w M b stk fn res e' := by
  obtain ⟨ρ, a', m', w'', todo, h1, h2, h4, h5⟩ := hl
  refine ⟨ρ, a', m', w'', todo, h1, hs.trans h2, h4, ?_⟩
  cases res with
  | ret v => obtain ⟨V, g2, g3, g4⟩ := h5; exact ⟨V, g2, g3, h.trans g4⟩
  | pan v => obtain ⟨V, g2, g3⟩ := h5; exact ⟨V, g2, h.trans g3⟩
theorem LeftE.left {σ : Sg} {S : Sto} {w : World} {M : Machine} {b : Frame} {stk : FrameMode → List Frame} {fn : Func} {lr : LRes} {e' : Env} {s : Sto} {res : CRes} {rr : ARec} (hf : dfin s (some (lr, e')) = some (res, rr)) (hl : LeftE P σ S w M b stk fn lr e') : Left P σ S w M b stk fn s res rr := by
  obtain ⟨ρ, a', m', w'', todo, h1, h2, h4, h5⟩ := hl
  cases lr with
  | ret v =>
    simp only [dfin, Option.some.injEq, Prod.mk.injEq] at hf
    obtain ⟨rfl, rfl⟩ := hf
    obtain ⟨V, g2, g3, g4⟩ := h5
    exact ⟨ρ, a', m', w'', e', todo, h1, h2, rfl, h4, rfl, V, g2, g3, g4⟩
  | pan v =>
    simp only [dfin, Option.some.injEq, Prod.mk.injEq] at hf
    obtain ⟨rfl, rfl⟩ := hf
    obtain ⟨V, g2, g3⟩ := h5
    exact ⟨ρ, a', m', w'', e', todo, h1, h2, rfl, h4, rfl, V, g2, g3⟩

theorem dleave_ok {call : CallT} (hD : CallD P call) {fn : Func} {b : Frame} {stk : FrameMode → List Frame} {todo : List Item} : ∀ (n : Nat) (mode : Option AV) (e : Env) (res : LRes) (rr : Env) (σ : Sg) (w : World) (a : Act) (m u : FrameMode),
    dleave P call fn n mode e = some (res, rr) → Rel σ e.s w → ER σ b e a m → UM σ mode u → LeftE P σ e.s w (lone { b.atR a todo with mode := u } (stk m) w) b stk fn res rr := by
  intro n
  induction n with
  | zero => intro mode e res rr σ w a m u h; simp [dleave] at h
  | succ n ih =>
    intro mode e res rr σ w a m u h hr he hu
    have hdf := he.df
    simp only [dleave] at h
    generalize hds : e.ds = D at h hdf
    generalize hAd : a.defers = AD at hdf
    cases hdf with
    | nil =>
      simp only at h
      cases hu with
      | ret =>
        simp only at h
        split at h
        · rename_i v hv
          simp at h; obtain ⟨rfl, rfl⟩ := h
          obtain ⟨V, e1, e2⟩ := results_ok hr he.tm hv
          exact ⟨σ, a, m, w, todo, he, Stp.refl hr, hAd, V, e2, e1, .refl _ _⟩
        · rename_i l hne hl
          simp at h; obtain ⟨rfl, rfl⟩ := h
          obtain ⟨V, e1, e2⟩ := results_ok hr he.tm hl
          refine ⟨σ, a, m, w, todo, he, Stp.refl hr, hAd, V, ?_, e1, .refl _ _⟩
          unfold packR at e2
          split at e2
          · rename_i v; exact absurd rfl (hne v)
          · exact e2
        · cases h
      | pan v V hv =>
        simp at h; obtain ⟨rfl, rfl⟩ := h
        exact ⟨σ, a, m, w, todo, he, Stp.refl hr, hAd, V, hv, .refl _ _⟩
    | cons d Dd ds Ds h1 h2 =>
      cases h1 with
      | collected id B base sz hs =>
        simp only at h
        split at h
        · rename_i l hg
          obtain ⟨B', base', sz', o, g1, g2, g3⟩ := hr.obj id _ hg
          have g1' : σ id 0 = some (B', base', sz') := g1
          rw [hs] at g1'
          obtain ⟨rfl, rfl, rfl⟩ : B = B' ∧ base = base' ∧ sz = sz' := by simpa using g1'
          cases g3 with
          | defsS _ Ls hl =>
            have hput := stp_put (w' := w.putObj B (.deferred none)) hr hg g1 (y := .defs none) rfl (World.putObj_heap_same (Array.getElem?_eq_some_iff.1 g2).1) .defsN (by simp) (fun b' hb' => put_world b' hb') rfl rfl rfl
            have he' : ER σ b { e with ds := l ++ ds, s := e.s.put id (.defs none) } { a with defers := Ls ++ Ds } m := ⟨he.tm, hl.append h2, he.rc, he.fn, he.ro⟩
            have := ih mode _ res rr σ _ _ m u h hput.rel he' hu
            refine this.of ?_ hput
            exact .one (step_collected (fr := { b.atR a todo with mode := u }) hu.ne hAd (run_takeDeferred g2))
        · cases h
      | call f F first cap args A C k1 k2 k3 =>
        simp only at h
        cases hy : isYield (.func f first cap) with
        | true => rw [hy] at h; cases h
        | false =>
          rw [hy] at h
          simp only [cond_false] at h
          have hcalled : ∀ {g : FuncId} {A' : Array Value} {M : Machine}, (invoke (.fn F C) A).run P w = .ok (.enter g A') w → Steps P (lone (Frame.enter P g A' .deferred) ({ { b.atR a todo with defers := Ds } with mode := u } :: stk m) w) M → Steps P (lone { b.atR a todo with mode := u } (stk m) w) M := fun hi hs =>
            .head (step_defer (fr := { b.atR a todo with mode := u }) (d := { target := .fn F C, args := A }) hu.ne hAd rfl hi) hs
          cases hu with
          | ret =>
            simp only at h
            split at h
            · rename_i v so hc
              obtain ⟨g, A', hi, hs⟩ := hD σ e.s w f F first cap args C A _ _ _ _ hc hy hr k1 k2 k3 .quiet
              obtain ⟨τ, w', m', q1, q2, q3⟩ := hs { b.atR a todo with defers := Ds } (stk m)
              have hst := q2.stp hr
              have he' : ER τ b { e with ds := ds, s := so.getD e.s } { a with defers := Ds } m := by
                have := he.mono hst.ext
                exact ⟨this.tm, h2.mono hst.ext, this.rc, this.fn, this.ro⟩
              have hm' : settle m' = .returning := by cases q1; rfl
              rw [hm'] at q3
              exact (ih none { e with ds := ds, s := so.getD e.s } res rr τ w' _ m .returning (by cases so <;> exact h) hst.rel he' .ret).of (hcalled hi q3) hst
            · rename_i v so hc
              obtain ⟨g, A', hi, hs⟩ := hD σ e.s w f F first cap args C A _ _ _ _ hc hy hr k1 k2 k3 .quiet
              obtain ⟨τ, V, w', m', q0, q1, q2, q3⟩ := hs { b.atR a todo with defers := Ds } (stk m)
              have hst := q2.stp hr
              have he' : ER τ b { e with ds := ds, s := so.getD e.s } { a with defers := Ds } m := by
                have := he.mono hst.ext
                exact ⟨this.tm, h2.mono hst.ext, this.rc, this.fn, this.ro⟩
              have hm' : raised m' [{ v := V, recovered := false }] = .panicking [{ v := V, recovered := false }] := by cases q1; rfl
              rw [hm'] at q3
              exact (ih (some v) { e with ds := ds, s := so.getD e.s } res rr τ w' _ m _ (by cases so <;> exact h) hst.rel he' (.pan v V q0)).of (hcalled hi q3) hst
            · cases h
          | pan p V hV =>
            simp only at h
            split at h
            · rename_i v so v' hc
              obtain ⟨g, A', hi, hs⟩ := hD σ e.s w f F first cap args C A _ _ _ _ hc hy hr k1 k2 k3 (.pan p V hV)
              obtain ⟨τ, w', m', q1, q2, q3⟩ := hs { b.atR a todo with defers := Ds } (stk m)
              have hst := q2.stp hr
              have he' : ER τ b { e with ds := ds, s := so.getD e.s } { a with defers := Ds } m := by
                have := he.mono hst.ext
                exact ⟨this.tm, h2.mono hst.ext, this.rc, this.fn, this.ro⟩
              have hm' : settle m' = .returning := by cases q1; rfl
              rw [hm'] at q3
              exact (ih none { e with ds := ds, s := so.getD e.s } res rr τ w' _ m .returning (by cases so <;> exact h) hst.rel he' .ret).of (hcalled hi q3) hst
            · rename_i v so p' hc
              obtain ⟨g, A', hi, hs⟩ := hD σ e.s w f F first cap args C A _ _ _ _ hc hy hr k1 k2 k3 (.pan p V hV)
              obtain ⟨τ, w', m', q1, q2, q3⟩ := hs { b.atR a todo with defers := Ds } (stk m)
              have hst := q2.stp hr
              have he' : ER τ b { e with ds := ds, s := so.getD e.s } { a with defers := Ds } m := by
                have := he.mono hst.ext
                exact ⟨this.tm, h2.mono hst.ext, this.rc, this.fn, this.ro⟩
              cases q1 with
              | pan _ V' hV' =>
                exact (ih (some p') { e with ds := ds, s := so.getD e.s } res rr τ w' _ m _ (by cases so <;> exact h) hst.rel he' (.pan p' V' hV')).of (hcalled hi q3) hst
            · cases h

theorem dfin_some {s : Sto} {x : Option (LRes × Env)} {y : CRes × ARec} (h : dfin s x = some y) : ∃ lr e', x = some (lr, e') ∧ dfin s (some (lr, e')) = some y := by
  cases x with
  | none => cases h
  | some x => exact ⟨x.1, x.2, rfl, h⟩

/-! ### a function -/
theorem tmR_args {σ : Sg} {as : List AV} {A : Array Value} (h : VRs σ as A.toList) (n : Nat) : TmR σ (Nat.max as.length n) (Tr.leaf.lay 0 as) (A ++ Array.replicate (n - A.size) undef) := by
  have hl : as.length = A.size := by simpa using h.1
  refine ⟨by simp; rw [hl]; show _ = max A.size n; omega, fun i v hv => ?_⟩
  rw [Tr.get_lay] at hv
  split at hv
  · rename_i hi
    have hi' : i < A.size := by omega
    refine ⟨by show i < max as.length n; omega, ?_⟩
    have := h.2 i v A[i] (by simpa using hv) (by simp [hi'])
    simpa [Array.getD_eq_getD_getElem?, Array.getElem?_append, hi'] using this
  · simp [Tr.get] at hv

/-- what a called function comes to, in its own frame -/
theorem dfunc_ok {call : CallT} (hN : CallN P call) (hD : CallD P call) (hfun : ∀ v args s r x, call v args s r = some x → ∃ f a c, v = .func f a c) {n : Nat} {f : FuncId} {args : List AV} {s : Sto} {r rr : ARec} {res : CRes} (hd : dfunc P call n f args s r = some (res, rr)) :
    okFn P f = true ∧ ∃ fn, P.funcs[f]? = some fn ∧ ∀ {σ : Sg} {w : World} {A : Array Value} {kd : CallKind} {stk : FrameMode → List Frame} {m : FrameMode}, Rel σ s w → VRs σ args A.toList → StkOk kd stk → RM σ kd r m →
      Left P σ { s with low := s.n } w (lone (Frame.enter P f A kd) (stk m) w) { (default : Frame) with fn := f, kind := kd } stk fn s res rr := by
  unfold dfunc at hd
  cases hok : okFn P f with
  | false => rw [hok] at hd; cases hd
  | true =>
    rw [hok] at hd
    simp only [cond_true] at hd
    refine ⟨rfl, ?_⟩
    split at hd
    · rename_i fn hf
      split at hd
      · rename_i c hb
        refine ⟨fn, hf, fun {σ w A kd stk m} h ha hstk hrm => ?_⟩
        have hrel : Rel σ { s with low := s.n } w := h.low rfl rfl
        have he : ER σ { (default : Frame) with fn := f, kind := kd } { nt := Nat.max args.length fn.ntmps, ro := none, fn := f, t := Tr.leaf.lay 0 args, ds := [], s := { s with low := s.n }, r := r } { tmps := A ++ Array.replicate (fn.ntmps - A.size) undef, defers := [] } m :=
          ⟨tmR_args ha _, .nil, hrm, rfl, rfl⟩
        have henter : Frame.enter P f A kd = ({ (default : Frame) with fn := f, kind := kd } : Frame).atR { tmps := A ++ Array.replicate (fn.ntmps - A.size) undef, defers := [] } [.code c] := by
          simp [Frame.enter, Frame.atR, hf, hb]
          rfl
        rw [henter]
        split at hd
        · rename_i e hc
          obtain ⟨τ, a', m', w', h1, h2, h3⟩ := dcode_ok hN hfun n c σ w _ stk [] _ _ m _ _ hstk hc hrel he
          obtain ⟨lr, e', hl, hf⟩ := dfin_some hd
          exact ((dleave_ok hD (todo := []) n none e lr e' τ w' a' m' .returning hl h2.rel h1 .ret).of (Steps.trans h3 (.one (stepR_end rfl))) h2).left hf
        · rename_i e hc
          obtain ⟨τ, a', m', w', h1, h2, k₁, h3⟩ := dcode_ok hN hfun n c σ w _ stk [] _ _ m _ _ hstk hc hrel he
          obtain ⟨lr, e', hl, hf⟩ := dfin_some hd
          exact ((dleave_ok hD n none e lr e' τ w' a' m' .returning hl h2.rel h1 .ret).of (Steps.trans h3 (.one (stepR_ret rfl))) h2).left hf
        · rename_i v e hc
          obtain ⟨τ, a', m', w', h1, h2, V, todo, hV, h3⟩ := dcode_ok hN hfun n c σ w _ stk [] _ _ m _ _ hstk hc hrel he
          obtain ⟨lr, e', hl, hf⟩ := dfin_some hd
          exact ((dleave_ok hD n (some v) e lr e' τ w' a' m' _ hl h2.rel h1 (.pan v V hV)).of h3 h2).left hf
        · cases hd
      · cases hd
    · cases hd

/-- a call's store is closed -/
theorem close_ok {σ τ : Sg} {s : Sto} {w w' : World} {e' : Env} {v : AV} (h : Rel σ s w) (hs : Stp σ { s with low := s.n } w τ e'.s w') :
    ∃ ρ, CStp σ s w ρ (dclose s v e') w' ∧ (∀ V, VR τ v V → VR ρ v V) ∧ (∀ k m, RM τ k e'.r m → RM ρ k e'.r m) := by
  unfold dclose
  cases hc : Nat.ble s.n e'.s.low && (v.under s.n 100 && runder s.n e'.r) with
  | true =>
    simp only [Bool.and_eq_true, Nat.ble_eq] at hc
    obtain ⟨hlow, hv, hr⟩ := hc
    have hcut : (τ.cut s.n).s = σ.s := by
      funext id g
      simp only [Sg.cut]
      split
      · rename_i hid
        exact (hs.keep id hid (by omega)).2.1 g
      · rename_i hid
        cases hg : σ id g with
        | none => rfl
        | some y => exact absurd (h.bnd id g y hg) hid
    refine ⟨τ.cut s.n, ⟨⟨hs.size, fun b hb => ?_, hs.os, hs.out, hs.tape⟩, ⟨fun id g x hx => by rw [hcut]; exact hx, hs.ext.m⟩, hcut, fun b off V hV => ?_⟩, fun V hV => VR.cut _ _ _ hv hV, fun k m hm => ?_⟩
    · by_cases hh : Has σ s b
      · obtain ⟨id, x, base, sz, h1, h2⟩ := hh
        have hid := Sto.get_lt h1
        exact (hs.keep id hid (by omega)).2.2 x b base sz h1 h2
      · exact hs.frame b hb hh
    · have hmu := hs.rel.mu b off V hV
      rcases hs.mnew b off V hV with h1 | ⟨id, x, base, sz, h1, h2⟩ | h1
      · exact .inl h1
      · exfalso
        have hid : id < s.n := Sto.get_lt h1
        obtain ⟨k1, k2, _⟩ := hs.keep id hid (by omega)
        exact hmu.2 ⟨id, x, base, sz, by rw [k1]; exact h1, by rw [k2]; exact h2⟩
      · exact .inr ⟨h1, hmu.1⟩
    · generalize e'.r = r at hm hr
      cases hm with
      | normal m => exact .normal m
      | quiet => exact .quiet
      | pan p V hV => exact .pan p V (VR.cut _ _ _ hr hV)
      | recd p V hV => exact .recd p V (VR.cut _ _ _ hr hV)
  | false =>
    refine ⟨τ, ?_, fun V h => h, fun k m h => h⟩
    show Stp σ s w τ { e'.s with low := Nat.min s.low e'.s.low } w'
    exact ⟨hs.rel.low rfl rfl, hs.ext, hs.size, hs.frame, hs.own, hs.sn, Nat.min_le_left _ _, fun id h1 h2 => hs.keep id h1 (Nat.lt_of_lt_of_le h2 (Nat.min_le_right _ _)), hs.os, hs.out, hs.tape, hs.hole, hs.mnew⟩

end
end Go.Abs

/-
  The abstract machine: all calls; runs.
-/

namespace Go.Abs

section
variable {P : Program} 

/-! ### a round -/
theorem layPs_ok {σ : Sg} {nt : Nat} : ∀ (ps : List Nat) (as : List AV) (t t' : Tr AV) (T A : Array Value) (i : Nat), layPs nt t ps as = some t' → VRs σ as A.toList → TmR σ nt t T →
    ps.length = A.size ∧ TmR σ nt t' ((ps.zip A.toList).foldl (fun tmps x => tmps.setIfInBounds x.1 x.2) T) := by
  intro ps
  induction ps with
  | nil =>
    intro as t t' T A i h ha ht
    cases as with
    | nil =>
      simp [layPs] at h; subst h
      have := ha.1
      simp at this
      exact ⟨by simpa using this, by simpa using ht⟩
    | cons a as => simp [layPs] at h
  | cons p ps ih =>
    intro as t t' T A i h ha ht
    cases as with
    | nil => simp [layPs] at h
    | cons a as =>
      simp only [layPs] at h
      rw [bif_blt] at h
      split at h
      · rename_i hp
        obtain ⟨V, zs, hz, hV, hzs⟩ := ha.head
        have hA : A = (V :: zs).toArray := Array.toList_inj.1 (by simpa using hz)
        subst hA
        have ht' : TmR σ nt (t.set p a) (T.setIfInBounds p V) := by
          refine ⟨by simp [ht.1], fun i v hv => ?_⟩
          rw [Tr.get_set] at hv
          split at hv
          · rename_i he; subst he
            simp at hv; subst hv
            exact ⟨hp, by simp [Array.getD_eq_getD_getElem?, Array.getElem?_setIfInBounds, ht.1, hp, hV]⟩
          · rename_i he
            obtain ⟨h1, h2⟩ := ht.2 i v hv
            refine ⟨h1, ?_⟩
            simp only [Array.getD_eq_getD_getElem?, Array.getElem?_setIfInBounds]
            rw [if_neg (fun e => he e.symm)]
            rw [Array.getD_eq_getD_getElem?] at h2
            exact h2
        obtain ⟨h1, h2⟩ := ih as _ t' _ zs.toArray i h (by simpa using hzs) ht'
        exact ⟨by simpa using h1, by simpa using h2⟩
      · cases h

/-- how a round has ended -/
def ROut (P : Program) (σ : Sg) (s : Sto) (w : World) (M : Machine) (c : Frame) (cs : List Frame) : CRes → Prop
  | .ret v so => ∃ τ V w', VR τ v V ∧ CStp σ s w τ so w' ∧ Steps P M (lone (c.finish V) cs w')
  | .pan v so => ∃ τ V w', VR τ v V ∧ CStp σ s w τ so w' ∧ Steps P M (lone (c.raise [{ v := V, recovered := false }]) cs w')

theorem loopObj {σ : Sg} {s : Sto} {w : World} {l : Nat} {L base sz : Nat} {st : LoopState} {pe : Option Code} {fn : FuncId} {nt : Nat} {t : Tr AV} {ps : List Nat} {ca cb : Code} {d : Nat} (h : Rel σ s w) (hg : s.get l = some (.loop st pe fn nt t ps ca cb d)) (hL : σ l 0 = some (L, base, sz)) :
    ∃ T PS db dbase dsz, w.heap[L]? = some (.loop { state := st, pending := pe, fn := fn, tmps := T, params := PS, assign := ca, body := cb, defers := db }) ∧ TmR σ nt t T ∧ PS.toList = ps ∧ σ d 0 = some (db, dbase, dsz) := by
  obtain ⟨B, base', sz', o, h1, h2, h3⟩ := h.obj l _ hg
  have h1' : σ l 0 = some (B, base', sz') := h1
  rw [hL] at h1'
  obtain ⟨rfl, rfl, rfl⟩ : L = B ∧ base = base' ∧ sz = sz' := by simpa using h1'
  cases h3 with
  | loop _ _ _ _ _ _ _ _ _ T PS db dbase dsz g1 g2 g3 => exact ⟨T, PS, db, dbase, dsz, h2, g1, g2, g3⟩

theorem putLoop {σ : Sg} {s : Sto} {w : World} {l : Nat} {L base sz : Nat} {st st' : LoopState} {pe pe' : Option Code} {fn : FuncId} {nt : Nat} {t : Tr AV} {ps : List Nat} {ca cb : Code} {d : Nat} {T : Array Value} {PS : Array Nat} {db dbase dsz : Nat} (h : Rel σ s w)
    (hg : s.get l = some (.loop st pe fn nt t ps ca cb d)) (hL : σ l 0 = some (L, base, sz)) (h2 : w.heap[L]? = some (.loop { state := st, pending := pe, fn := fn, tmps := T, params := PS, assign := ca, body := cb, defers := db })) (g1 : TmR σ nt t T) (g2 : PS.toList = ps) (g3 : σ d 0 = some (db, dbase, dsz)) :
    Stp σ s w σ (s.put l (.loop st' pe' fn nt t ps ca cb d)) (w.putObj L (.loop { state := st', pending := pe', fn := fn, tmps := T, params := PS, assign := ca, body := cb, defers := db })) :=
  stp_put h hg hL rfl (World.putObj_heap_same (Array.getElem?_eq_some_iff.1 h2).1) (.loop _ _ _ _ _ _ _ _ _ _ _ _ _ _ g1 g2 g3) (by simp) (fun b' hb' => put_world b' hb') rfl rfl rfl

theorem low_stp {σ τ : Sg} {s S' : Sto} {w w' : World} {n : Nat} (hs : Stp σ { s with low := n } w τ S' w') : Stp σ s w τ { S' with low := Nat.min s.low S'.low } w' :=
  ⟨hs.rel.low rfl rfl, hs.ext, hs.size, hs.frame, hs.own, hs.sn, Nat.min_le_left _ _, fun id h1 h2 => hs.keep id h1 (Nat.lt_of_lt_of_le h2 (Nat.min_le_right _ _)), hs.os, hs.out, hs.tape, hs.hole, hs.mnew⟩

/-- how a round ends -/
theorem dround_ok {call : CallT} (hN : CallN P call) (hfun : ∀ v args s r x, call v args s r = some x → ∃ f a c, v = .func f a c) {n l : Nat} {args : List AV} {s : Sto} {res : CRes} {rr : ARec} (hd : dround P call n l args s = some (res, rr)) {σ : Sg} {w : World} {L base sz : Nat} {A : Array Value}
    (h : Rel σ s w) (hL : σ l 0 = some (L, base, sz)) (ha : VRs σ args A.toList) :
    ∃ nx fr, (Instr.yield L A).run P w = .ok nx w ∧ IsPush P nx fr ∧ ∀ (c : Frame) (cs : List Frame), ROut P σ s w (lone fr (c :: cs) w) c cs res := by
  unfold dround at hd
  split at hd
  · rename_i st pend fn nt t ps ca cb d hg
    split at hd
    · rename_i t' hlay
      obtain ⟨T, PS, db, dbase, dsz, h2, g1, g2, g3⟩ := loopObj h hg hL
      obtain ⟨k1, k2⟩ := layPs_ok ps args t t' T A 0 hlay ha g1
      have hy := run_yield (P := P) h2 (args := A) (by show A.size = PS.size; rw [← Array.length_toList (xs := PS), g2, k1])
      have htm : (PS.zip A).foldl (fun tmps (t, a) => tmps.setIfInBounds t a) T = (ps.zip A.toList).foldl (fun tmps x => tmps.setIfInBounds x.1 x.2) T := by
        rw [← Array.foldl_toList, Array.toList_zip, g2]
      simp only at hy
      rw [htm] at hy
      generalize hT' : (ps.zip A.toList).foldl (fun tmps x => tmps.setIfInBounds x.1 x.2) T = T' at hy k2
      refine ⟨_, _, hy, .inr ⟨_, _, _, _, _, rfl, rfl⟩, fun c cs => ?_⟩
      let b : Frame := { (default : Frame) with fn := fn, kind := .normal, roundOf := some L }
      have hb0 : Frame.round L fn T' ca cb .normal = b.atR { tmps := T', defers := [] } [.code ca, .beginRound, .code cb] := by
        simp [Frame.round, Frame.atR, b]
      have hrel : Rel σ { s with low := s.n } w := h.low rfl rfl
      have he : ER σ b { nt := nt, ro := some l, fn := fn, t := t', ds := [], s := { s with low := s.n }, r := .no } { tmps := T', defers := [] } c.mode :=
        ⟨k2, .nil, .normal _, rfl, L, base, sz, rfl, hL, rfl⟩
      have hstk : StkOk b.kind (fun _ => c :: cs) := .inl rfl
      rw [hb0]
      split at hd
      · rename_i e hc
        obtain ⟨τ, a', m', w', q1, q2, q3⟩ := dcode_ok hN hfun n ca σ w b (fun _ => c :: cs) [.beginRound, .code cb] _ _ _ _ _ hstk hc hrel he
        split at hd
        · rename_i pend' fn' nt' t'' ps' a1 b1 d' hg'
          have hL' := q2.ext _ _ _ hL
          obtain ⟨T2, PS2, db2, dbase2, dsz2, u2, u3, u4, u5⟩ := loopObj q2.rel hg' hL'
          have hbr := run_beginRound (P := P) u2 rfl
          have hput := putLoop (st' := .busy) (pe' := pend') q2.rel hg' hL' u2 u3 u4 u5
          have hs1 : Steps P (lone (b.atR { tmps := T', defers := [] } [.code ca, .beginRound, .code cb]) (c :: cs) w) (lone (b.atR a' [.code cb]) (c :: cs) (w'.putObj L (.loop { state := .busy, pending := pend', fn := fn', tmps := T2, params := PS2, assign := a1, body := b1, defers := db2 }))) :=
            Steps.trans q3 (.one (stepR_beginRound rfl hbr))
          have hst1 := q2.trans hput
          have he1 : ER τ b { e with s := e.s.put l (.loop .busy pend' fn' nt' t'' ps' a1 b1 d') } a' m' := q1.sto _
          -- the end of a round
          have fin : ∀ (jump : Option Code) (e2 : Env) (τ2 : Sg) (w2 : World) (a2 : Act) (m2 : FrameMode), droundEnd s l jump e2 = some (res, rr) → ER τ2 b e2 a2 m2 → Stp σ { s with low := s.n } w τ2 e2.s w2 →
              (∀ (V : Value) (w3 : World), (Instr.endRound L jump).run P w2 = .ok V w3 → Steps P (lone (b.atR { tmps := T', defers := [] } [.code ca, .beginRound, .code cb]) (c :: cs) w) (lone (c.finish V) cs w3)) →
              ROut P σ s w (lone (b.atR { tmps := T', defers := [] } [.code ca, .beginRound, .code cb]) (c :: cs) w) c cs res := by
            intro jump e2 τ2 w2 a2 m2 hend he2 hst2 hsteps
            unfold droundEnd at hend
            split at hend
            · rename_i st3 pe3 fn3 nt3 t3 ps3 a3 b3 d3 hg3 hds3
              simp only [Option.some.injEq, Prod.mk.injEq] at hend
              obtain ⟨rfl, rfl⟩ := hend
              have hL2 := hst2.ext _ _ _ hL
              obtain ⟨T3, PS3, db3, dbase3, dsz3, v2, v3, v4, v5⟩ := loopObj hst2.rel hg3 hL2
              have her := run_endRound (P := P) jump v2
              have hput3 := putLoop (st' := if jump.isNone then .ready else .done) (pe' := jump) hst2.rel hg3 hL2 v2 v3 v4 v5
              refine ⟨τ2, .bool jump.isNone, _, .bool _, ?_, hsteps _ _ her⟩
              have h4 := low_stp (hst2.trans hput3)
              have hcond : (bif jump.isNone then LoopState.ready else .done) = if jump.isNone then LoopState.ready else .done := by cases jump <;> rfl
              rw [hcond]
              exact h4
            · cases hend
          split at hd
          · rename_i e2 hc2
            obtain ⟨τ2, a2, m2, w2, r1, r2, r3⟩ := dcode_ok hN hfun n cb τ _ b (fun _ => c :: cs) [] _ _ _ _ _ hstk hc2 hput.rel he1
            exact fin none e2 τ2 w2 a2 m2 hd r1 (hst1.trans r2) fun V w3 hV => (hs1.trans r3).trans (.one (stepR_round_end rfl rfl hV))
          · rename_i e2 hc2
            obtain ⟨τ2, a2, m2, w2, r1, r2, k₁, r3⟩ := dcode_ok hN hfun n cb τ _ b (fun _ => c :: cs) [] _ _ _ _ _ hstk hc2 hput.rel he1
            exact fin (some .ret) e2 τ2 w2 a2 m2 hd r1 (hst1.trans r2) fun V w3 hV => (hs1.trans r3).trans (.one (stepR_round_ret rfl rfl hV))
          · rename_i id e2 hc2
            obtain ⟨τ2, a2, m2, w2, r1, r2, r3⟩ := dcode_ok hN hfun n cb τ _ b (fun _ => c :: cs) [] _ _ _ _ _ hstk hc2 hput.rel he1
            obtain ⟨k₁, hk, r4⟩ := r3.2 (by simp [exitTo])
            exact fin (some (.exit id)) e2 τ2 w2 a2 m2 hd r1 (hst1.trans r2) fun V w3 hV => (hs1.trans r4).trans (.one (stepR_round_exit rfl rfl hk hV))
          · rename_i v e2 hc2
            obtain ⟨τ2, a2, m2, w2, r1, r2, V, todo, r3, r4⟩ := dcode_ok hN hfun n cb τ _ b (fun _ => c :: cs) [] _ _ _ _ _ hstk hc2 hput.rel he1
            split at hd
            · rename_i hds
              cases hok : okFn P e2.fn with
              | false => rw [hok] at hd; cases hd
              | true =>
                rw [hok] at hd
                simp only [cond_true, Option.some.injEq, Prod.mk.injEq] at hd
                obtain ⟨rfl, rfl⟩ := hd
                have hfn : ∃ g, P.funcs[fn]? = some g := by
                  have hf1 : fn = e2.fn := r1.fn
                  rw [hf1]
                  unfold okFn at hok
                  split at hok
                  · rename_i g hg4; exact ⟨g, hg4⟩
                  · cases hok
                have hdf : a2.defers = [] := by
                  have := r1.df
                  rw [hds] at this
                  cases hh : a2.defers with
                  | nil => rfl
                  | cons x y => rw [hh] at this; cases this
                refine ⟨τ2, V, w2, r3, low_stp (hst1.trans r2), (hs1.trans r4).trans (.one ?_)⟩
                exact step_leave_panicked (fr := { b.atR a2 todo with mode := .panicking [{ v := V, recovered := false }] }) ⟨rfl, hdf, hfn⟩
            · cases hd
          · cases hd
        · cases hd
      · cases hd
    · cases hd
  · cases hd

/-! ### all calls -/
/-- how a call has ended -/
def Done (P : Program) (σ : Sg) (s : Sto) (w : World) (kd : CallKind) (f : FuncId) (fn : Func) (stk : FrameMode → List Frame) (M : Machine) : CRes → Prop
  | .ret v so => ∃ τ V w' fr m', VR τ v V ∧ CStp σ s w τ so w' ∧ RM τ kd .no m' ∧ Steps P M (lone fr (stk m') w') ∧ fr.mode = .returning ∧ fr.defers = [] ∧ fr.kind = kd ∧ fr.fn = f ∧ (results fn fr.tmps).run P w' = .ok V w'
  | .pan v so => ∃ τ V w' fr m', VR τ v V ∧ CStp σ s w τ so w' ∧ RM τ kd .no m' ∧ Steps P M (lone fr (stk m') w') ∧ fr.mode = .panicking [{ v := V, recovered := false }] ∧ fr.defers = [] ∧ fr.kind = kd ∧ fr.fn = f

/-- A CALL OF A FUNCTION WITH ARGUMENTS IN A STORE ENDS SO. -/
def Sound (P : Program) (f : FuncId) (args : List AV) (s : Sto) (res : CRes) : Prop :=
  okFn P f = true ∧ ∃ fn, P.funcs[f]? = some fn ∧ ∀ (σ : Sg) (w : World) (A : Array Value) (kd : CallKind) (stk : FrameMode → List Frame) (m : FrameMode), Rel σ s w → VRs σ args A.toList → StkOk kd stk → RM σ kd .no m →
    Done P σ s w kd f fn stk (lone (Frame.enter P f A kd) (stk m) w) res
def OSound (P : Program) (O : Orc) : Prop := ∀ f args s res, O f args s = some res → Sound P f args s res

theorem sound_of_dfunc {call : CallT} (hN : CallN P call) (hD : CallD P call) (hfun : ∀ v args s r x, call v args s r = some x → ∃ f a c, v = .func f a c) {n : Nat} {f : FuncId} {args : List AV} {s : Sto} {res : CRes} (h : dfunc P call n f args s .no = some (res, .no)) : Sound P f args s res := by
  obtain ⟨hok, fn, hfn, hdf⟩ := dfunc_ok hN hD hfun h
  refine ⟨hok, fn, hfn, fun σ w A kd stk m hrel ha hstk hrm => ?_⟩
  obtain ⟨τ, a', m', w', e', todo, q1, q2, q3, q4, q5⟩ := hdf (kd := kd) (stk := stk) (m := m) hrel ha hstk hrm
  have hrc : RM τ kd e'.r m' := q1.rc
  cases res with
  | ret v so =>
    obtain ⟨rfl, V, hV, hres, hs⟩ := q5
    obtain ⟨ρ, c1, c2, c3⟩ := close_ok (v := v) hrel q2
    exact ⟨ρ, V, w', _, m', c2 V hV, c1, by rw [q3]; exact c3 _ _ hrc, hs, rfl, q4, rfl, rfl, hres⟩
  | pan v so =>
    obtain ⟨rfl, V, hV, hs⟩ := q5
    obtain ⟨ρ, c1, c2, c3⟩ := close_ok (v := v) hrel q2
    exact ⟨ρ, V, w', _, m', c2 V hV, c1, by rw [q3]; exact c3 _ _ hrc, hs, rfl, q4, rfl, rfl⟩

theorem oget_some {O : Orc} {fv : AV} {args : List AV} {s : Sto} {r : ARec} {res : CRes} (h : oget O fv args s r = some res) : r = .no ∧ ∃ g first cap, fv = .func (.func g) first cap ∧ O g (first ++ args ++ cap) s = some res := by
  unfold oget at h
  split at h
  · refine ⟨rfl, ?_⟩
    split at h
    · exact ⟨_, _, _, rfl, h⟩
    · cases h
  · cases h

theorem dcall_fun {O : Orc} : ∀ (n : Nat) (v : AV) (args : List AV) (s : Sto) (r : ARec) (x : CRes × ARec), dcall P O n v args s r = some x → ∃ f a c, v = .func f a c := by
  intro n v args s r x h
  cases n with
  | zero => simp [dcall] at h
  | succ n =>
    simp only [dcall] at h
    split at h
    · rename_i res ho
      obtain ⟨_, g, first, cap, h1, _⟩ := oget_some ho
      exact ⟨_, _, _, h1⟩
    · cases v with
      | func f a c => exact ⟨_, _, _, rfl⟩
      | _ => simp [atarget] at h

theorem dcall_ok {O : Orc} (hO : OSound P O) : ∀ n : Nat, CallN P (dcall P O n) ∧ CallD P (dcall P O n) := by
  intro n
  induction n with
  | zero => exact ⟨fun σ S w f F first cap args C A res rr h => by simp [dcall] at h, fun σ S w f F first cap args C A r r' m res h => by simp [dcall] at h⟩
  | succ n ih =>
    obtain ⟨hN, hD⟩ := ih
    have hfun := dcall_fun (P := P) (O := O) n
    constructor
    · intro σ S w f F first cap args C A res rr h hrel hF hcap hargs
      simp only [dcall] at h
      split at h
      · rename_i res' ho
        simp only [Option.some.injEq, Prod.mk.injEq] at h
        obtain ⟨rfl, rfl⟩ := h
        obtain ⟨_, g, first', cap', hfv, ho⟩ := oget_some ho
        cases hfv
        cases hF
        obtain ⟨hok, fn, hfn, hret⟩ := hO _ _ _ _ ho
        have ht := atarget_ok (P := P) (w := w) (tgt := .fn g (first ++ args ++ cap)) hrel rfl (.func g) hcap hargs
        obtain ⟨A', h1, h2⟩ := ht hok
        refine ⟨_, _, h2, .inl ⟨g, A', rfl, rfl⟩, fun c cs => ?_⟩
        have := hret σ w A' .normal (fun _ => c :: cs) c.mode hrel h1 (.inl rfl) (.normal _)
        cases res' with
        | ret v so =>
          obtain ⟨τ, V, w', fr, m', q1, q2, _, q3, q4, q5, q6, q7, q8⟩ := this
          exact ⟨τ, V, w', q1, q2, q3.trans (.one (step_leave_returned ⟨q4, q5, q6, fn, by rw [q7]; exact hfn, q8⟩))⟩
        | pan v so =>
          obtain ⟨τ, V, w', fr, m', q1, q2, _, q3, q4, q5, q6, q7⟩ := this
          have := step_leave_panicked (P := P) (fr := fr) (c := c) (cs := cs) (w := w') ⟨q4, q5, fn, by rw [q7]; exact hfn⟩
          exact ⟨τ, V, w', q1, q2, q3.trans (.one this)⟩
      split at h
      · rename_i g as htg
        have ht := atarget_ok (P := P) hrel htg hF hcap hargs
        obtain ⟨hok, fn, hfn, hdf⟩ := dfunc_ok hN hD hfun h
        obtain ⟨A', h1, h2⟩ := ht hok
        refine ⟨_, _, h2, .inl ⟨g, A', rfl, rfl⟩, fun c cs => ?_⟩
        obtain ⟨τ, a', m', w', e', todo, q1, q2, q3, q4, q5⟩ := hdf (kd := .normal) (stk := fun _ => c :: cs) (m := c.mode) hrel h1 (.inl rfl) (.normal _)
        cases res with
        | ret v so =>
          obtain ⟨rfl, V, hV, hres, hs⟩ := q5
          obtain ⟨ρ, c1, c2, _⟩ := close_ok (v := v) hrel q2
          exact ⟨ρ, V, w', c2 V hV, c1, hs.trans (.one (step_leave_returned (fr := { ({ (default : Frame) with fn := g, kind := .normal } : Frame).atR a' todo with mode := .returning }) ⟨rfl, q4, rfl, fn, hfn, hres⟩))⟩
        | pan v so =>
          obtain ⟨rfl, V, hV, hs⟩ := q5
          obtain ⟨ρ, c1, c2, _⟩ := close_ok (v := v) hrel q2
          exact ⟨ρ, V, w', c2 V hV, c1, hs.trans (.one (step_leave_panicked (fr := { ({ (default : Frame) with fn := g, kind := .normal } : Frame).atR a' todo with mode := .panicking [{ v := V, recovered := false }] }) ⟨rfl, q4, fn, hfn⟩))⟩
      · rename_i l as htg
        obtain ⟨L, b, sz, rfl, hL, hA⟩ := atarget_ok (P := P) hrel htg hF hcap hargs
        obtain ⟨nx, fr, h1, h2, h3⟩ := dround_ok hN hfun h hrel hL hA
        refine ⟨nx, fr, by simpa [invoke] using h1, h2, fun c cs => ?_⟩
        have := h3 c cs
        cases res <;> exact this
      · cases h
    · intro σ S w f F first cap args C A r r' m res h hy hrel hF hcap hargs hrm
      simp only [dcall] at h
      split at h
      · rename_i res' ho
        simp only [Option.some.injEq, Prod.mk.injEq] at h
        obtain ⟨rfl, rfl⟩ := h
        obtain ⟨rfl, g, first', cap', hfv, ho⟩ := oget_some ho
        cases hfv
        cases hF
        obtain ⟨hok, fn, hfn, hret⟩ := hO _ _ _ _ ho
        have ht := atarget_ok (P := P) (w := w) (tgt := .fn g (first ++ args ++ cap)) hrel rfl (.func g) hcap hargs
        obtain ⟨A', h1, h2⟩ := ht hok
        refine ⟨g, A', h2, fun c cs => ?_⟩
        have := hret σ w A' .deferred (fun m => { c with mode := m } :: cs) m hrel h1 (.inr ⟨rfl, c, cs, rfl⟩) hrm
        cases res' with
        | ret v so =>
          obtain ⟨τ, V, w', fr, m', q1, q2, q9, q3, q4, q5, q6, q7, q8⟩ := this
          refine ⟨τ, w', m', q9, q2, q3.trans (.one ?_)⟩
          exact step_going_returned (P := P) (fr := fr) (c := { c with mode := m' }) (cs := cs) (w := w') (v := V) q6 ⟨q4, q5, fn, by rw [q7]; exact hfn, q8⟩
        | pan v so =>
          obtain ⟨τ, V, w', fr, m', q1, q2, q9, q3, q4, q5, q6, q7⟩ := this
          refine ⟨τ, V, w', m', q1, q9, q2, q3.trans (.one ?_)⟩
          exact step_going_panicked (P := P) (fr := fr) (c := { c with mode := m' }) (cs := cs) (w := w') (chain := [{ v := V, recovered := false }]) ⟨q4, q5, fn, by rw [q7]; exact hfn⟩
      split at h
      · rename_i g as htg
        have ht := atarget_ok (P := P) hrel htg hF hcap hargs
        obtain ⟨hok, fn, hfn, hdf⟩ := dfunc_ok hN hD hfun h
        obtain ⟨A', h1, h2⟩ := ht hok
        refine ⟨g, A', h2, fun c cs => ?_⟩
        obtain ⟨τ, a', m', w', e', todo, q1, q2, q3, q4, q5⟩ := hdf (kd := .deferred) (stk := fun m => { c with mode := m } :: cs) (m := m) hrel h1 (.inr ⟨rfl, c, cs, rfl⟩) hrm
        have hrc : RM τ .deferred e'.r m' := q1.rc
        subst q3
        cases res with
        | ret v so =>
          obtain ⟨rfl, V, hV, hres, hs⟩ := q5
          obtain ⟨ρ, c1, c2, c3⟩ := close_ok (v := v) hrel q2
          refine ⟨ρ, w', m', c3 _ _ hrc, c1, hs.trans (.one ?_)⟩
          have := step_going_returned (P := P) (fr := { ({ (default : Frame) with fn := g, kind := .deferred } : Frame).atR a' todo with mode := .returning }) (c := { c with mode := m' }) (cs := cs) (w := w') (v := V) rfl ⟨rfl, q4, fn, hfn, hres⟩
          exact this
        | pan v so =>
          obtain ⟨rfl, V, hV, hs⟩ := q5
          obtain ⟨ρ, c1, c2, c3⟩ := close_ok (v := v) hrel q2
          refine ⟨ρ, V, w', m', c2 V hV, c3 _ _ hrc, c1, hs.trans (.one ?_)⟩
          have := step_going_panicked (P := P) (fr := { ({ (default : Frame) with fn := g, kind := .deferred } : Frame).atR a' todo with mode := .panicking [{ v := V, recovered := false }] }) (c := { c with mode := m' }) (cs := cs) (w := w') (chain := [{ v := V, recovered := false }]) ⟨rfl, q4, fn, hfn⟩
          exact this
      · rename_i l as htg
        obtain ⟨L, b, sz, rfl, hL, hA⟩ := atarget_ok (P := P) hrel htg hF hcap hargs
        cases hF
        simp [isYield] at hy
      · cases h

/-- a function, run over what is known of calls -/
theorem sound_of {O : Orc} (hO : OSound P O) {n : Nat} {f : FuncId} {args : List AV} {s : Sto} {res : CRes} (h : dfunc P (dcall P O n) n f args s .no = some (res, .no)) : Sound P f args s res :=
  sound_of_dfunc (dcall_ok hO n).1 (dcall_ok hO n).2 (dcall_fun n) h

/-! ### a closed run -/
/-- A FUNCTION RETURNS A VALUE, WHATEVER THE STORE IS, AND LEAVES IT AS IT WAS. -/
def Returns (P : Program) (f : FuncId) (args : List AV) (v : AV) : Prop := ∀ s, Sound P f args s (.ret v none)

theorem tab_ok {T : Tab} (hT : ∀ x ∈ T, Returns P x.1 x.2.1 x.2.2) : OSound P (tab T) := by
  intro f args s res h
  induction T with
  | nil => cases h
  | cons x T ih =>
    unfold tab at h
    cases hx : (Nat.beq x.1 f && lbeq (AV.beq 1000) x.2.1 args) with
    | true =>
      rw [hx] at h
      simp at h; subst h
      simp only [Bool.and_eq_true] at hx
      rw [← lbeq_eq (AV.beq_eq 1000) _ _ hx.2, ← nbeq_eq _ _ hx.1]
      exact hT x (List.mem_cons_self ..) s
    | false =>
      rw [hx] at h
      exact ih (fun x hx => hT x (List.mem_cons_of_mem _ hx)) h

theorem Sto.empty_get (id : Nat) : Sto.empty.get id = none := by rw [Sto.get_eq]; simp [Sto.empty]

/-- what holds from nothing holds in every store, where the arguments name no object -/
theorem sound_empty {f : FuncId} {args : List AV} {res : CRes} (hu : ∀ σ : Sg, ∀ A, VRs σ args A → VRs (σ.cut 0) args A) (h : Sound P f args .empty res) (hres : ∃ v, res = .ret v none ∨ res = .pan v none) (s : Sto) : Sound P f args s res := by
  obtain ⟨hok, fn, hfn, hd⟩ := h
  refine ⟨hok, fn, hfn, fun σ w A kd stk m hrel0 ha hstk hrm => ?_⟩
  have hcut : ∀ id g, (σ.cut 0) id g = none := fun id g => by simp only [Sg.cut]; rw [if_neg (by omega)]
  have hrel : Rel (σ.cut 0) Sto.empty w :=
    { obj := fun id x hx => (by rw [Sto.empty_get] at hx; cases hx), inj := fun id x id' x' b base sz base' sz' hx => (by rw [Sto.empty_get] at hx; cases hx),
      mu := fun b off V hV => ⟨(hrel0.mu b off V hV).1, fun ⟨id, x, base, sz, hx, _⟩ => (by rw [Sto.empty_get] at hx; cases hx)⟩,
      bnd := fun id g x hx => (by rw [hcut] at hx; cases hx), gen := fun id x g y hx => (by rw [Sto.empty_get] at hx; cases hx), top := fun id _ => rfl }
  have hrm' : RM (σ.cut 0) kd .no m := by cases hrm with
    | normal m => exact .normal m
    | quiet => exact .quiet
  have := hd (σ.cut 0) w A kd stk m hrel (hu σ _ ha) hstk hrm'
  have key : ∀ (τ : Sg) (w' : World), QStp (σ.cut 0) w τ w' → ∃ ρ, τ.le ρ ∧ QStp σ w ρ w' := by
    intro τ w' q
    refine ⟨⟨τ.m, σ.s⟩, ⟨fun id g x hx => ?_, fun _ _ _ h => h⟩, q.q, ⟨fun _ _ _ h => h, q.le.m⟩, rfl, q.m⟩
    have hx' : τ.s id g = some x := hx
    rw [q.s] at hx'
    exact (Sg.cut_le σ 0) _ _ _ hx'
  obtain ⟨v, rfl | rfl⟩ := hres
  · obtain ⟨τ, V, w', fr, m', q1, q2, q9, q3⟩ := this
    obtain ⟨ρ, h1, h2⟩ := key τ w' q2
    exact ⟨ρ, V, w', fr, m', q1.mono h1, h2, q9.mono h1, q3⟩
  · obtain ⟨τ, V, w', fr, m', q1, q2, q9, q3⟩ := this
    obtain ⟨ρ, h1, h2⟩ := key τ w' q2
    exact ⟨ρ, V, w', fr, m', q1.mono h1, h2, q9.mono h1, q3⟩

/-- a run from nothing returns a value -/
theorem returns_of {O : Orc} (hO : OSound P O) {n : Nat} {f : FuncId} {args : List AV} {v : AV} (h : dval P O n f args v = true) : Returns P f args v := by
  simp only [dval, Bool.and_eq_true] at h
  obtain ⟨hu, h⟩ := h
  split at h
  · rename_i v' hrun
    have hv := AV.beq_eq _ _ _ h
    subst hv
    exact sound_empty (fun σ A ha => ⟨ha.1, fun i x X h1 h2 => VR.cut _ _ _ (List.all_eq_true.1 hu x (List.mem_of_getElem? h1)) (ha.2 i x X h1 h2)⟩) (sound_of hO hrun) ⟨_, .inl rfl⟩
  · cases h

/-- what it comes to, in the kit's words: from memory that stays as it is -/
theorem calls_of {f : FuncId} {args : List AV} {v : AV} (h : Sound P f args .empty (.ret v none)) {A : Array Value} {w : World} {σ : Sg} (hm : ∀ b off V, σ.m b off = some V → w.cell? ⟨b, off, none⟩ = some V) (hs : ∀ id g, σ id g = none) (ha : VRs σ args A.toList) :
    Calls P f A w fun
      | .returned V, w' => (∃ τ, VR τ v V ∧ QStp σ w τ w') ∧ Quiet w w'
      | _, _ => False := by
  obtain ⟨hok, fn, hfn, hr⟩ := h
  have hrel : Rel σ Sto.empty w :=
    { obj := fun id x hx => (by rw [Sto.empty_get] at hx; cases hx), inj := fun id x id' x' b base sz base' sz' hx => (by rw [Sto.empty_get] at hx; cases hx), mu := fun b off V hV => ⟨hm b off V hV, fun ⟨id, x, base, sz, hx, _⟩ => (by rw [Sto.empty_get] at hx; cases hx)⟩,
      bnd := fun id g x hx => (by rw [hs] at hx; cases hx), gen := fun id x g y hx => (by rw [Sto.empty_get] at hx; cases hx), top := fun id _ => rfl }
  intro cs
  obtain ⟨τ, V, w', fr, m', q1, q2, _, q3, q4, q5, q6, q7, q8⟩ := hr _ w A .normal (fun _ => cs) .run hrel ha (.inl rfl) (.normal _)
  exact ⟨.returned V, w', fr, ⟨⟨τ, q1, q2⟩, QStp.q q2⟩, q3, q7, q4, q5, q6, fn, by rw [q7]; exact hfn, q8⟩

end
end Go.Abs

/-
  The abstract machine: a law without arguments.
-/

namespace Go.Abs
open Go.ChangeShapes

/-- memory is as it was, but for new blocks: so is what is read -/
theorem post_quiet {H : Type} {enc : TypeId × Value → H} {P : Program} {f : Func} {s : ChangeSpec} {apart fresh handsOn again : Bool} {W W' : World} {args : Array Value} {v : Value} {ds gs : List (DataW H)} {before pa pv : List MemPlace}
    (hW : DataW.Whole enc P f.params.toList s.vars apart W args.toList ds gs before)
    (hres : ∀ (b : Nat) (sp : Nat → Bool) (hd : Bool), DataW.TrodAll enc P W' b sp hd f.resultTypes.toList (v.resultList f.resultTypes.size) (s.fn H (ds ++ gs)).results [])
    (hargs : ∀ sp : Nat → Bool, (∀ p ∈ before, sp p.block = true) → DataW.TrodAll enc P W' 0 sp true f.params.toList args.toList (s.fn H (ds ++ gs)).args pa)
    (hvars : ∀ sp : Nat → Bool, (∀ p ∈ before, sp p.block = true) → DataW.TrodVars enc P W' sp s.vars (s.fn H (ds ++ gs)).vars pv)
    (hps : before = pa ++ pv) (q : Quiet W W')
    (hok : ∀ (j : Nat) (t : TypeId) (r : Value), f.resultTypes[j]? = some t → (v.resultList f.resultTypes.size)[j]? = some r → Value.okWide P W' .any 0 t r) :
    s.post enc P f apart fresh handsOn again W args v W' := by
  have hold : ∀ p ∈ before, (fun b => decide (b < W.heap.size)) p.block = true := fun p hp => by simpa using hW.lt p hp
  have hk : W.keptBut W' (fun _ => False) := ⟨q.os, q.out, fun i hi => by rw [q.heap i hi]; exact (World.keptBut_refl W (fun _ => False)).2.2 i hi⟩
  refine ⟨ds, gs, before, [], pa, pv, hW, hres _ _ _, hargs _ hold, hvars _ hold, World.keptBut_mono (fun p hp => hp.elim) hk, fun _ => ?_⟩
  have hlt := hW.lt
  obtain ⟨_, _, _, _, _, hz, hn⟩ := hW
  refine ⟨hok, _, _, ([] ++ pa) ++ pv, ⟨[] ++ pa, pv, trodAll_append (hargs _ (fun _ _ => rfl)) (hres _ _ _), hvars _ (fun _ _ => rfl), rfl, ?_, ?_⟩, ?_⟩
  · intro b off hp
    have hm : MemPlace.cell b off ∈ before := by rw [hps]; simpa using hp
    have hb : b < W.heap.size := hlt _ hm
    have := hz b off hm
    simp only [World.frozen?] at this ⊢
    rw [q.heap b hb]
    exact this
  · intro ha
    have := hn ha
    rw [hps] at this
    simpa using this
  · intro p hp _
    rw [hps]
    simpa using hp

theorem law_of {P : Program} {f : FuncId} {args : List AV} (h : Sound P f args .empty (.ret (.bool true) none)) {A : Array Value} {w : World} {σ : Sg} (hm : ∀ b off V, σ.m b off = some V → w.cell? ⟨b, off, none⟩ = some V) (hs : ∀ id g, σ id g = none) (ha : VRs σ args A.toList) :
    Calls P f A w fun e w' => e = .returned (.bool true) ∧ Quiet w w' := by
  refine (calls_of h hm hs ha).mono fun e w' he => ?_
  cases e with
  | returned V => obtain ⟨⟨τ, h1, _⟩, h2⟩ := he; exact ⟨by rw [vr_bool h1], h2⟩
  | _ => exact he.elim

end Go.Abs
