/-
  The abstract machine: drawn regions.
-/
import Derived.Test.YtglnkngifepmhaaGreatUs
set_option linter.unusedVariables false
set_option linter.unusedSimpArgs false

namespace Go.Abs

/-! ### tables -/
theorem tabT_filter (d : Nat) : ∀ (l : List TrE) (v : Option AV), tabT d l v = tabT d (l.filter fun x => x.o.dst == some d) v := by
  intro l
  induction l with
  | nil => intro v; rfl
  | cons x l ih =>
    intro v
    by_cases h : x.o.dst = some d
    · simp only [List.filter_cons, h, BEq.rfl, if_true]
      simp only [tabT, List.foldl_cons, h, if_true]
      exact ih _
    · have : (x.o.dst == some d) = false := by simpa using h
      simp only [List.filter_cons, this]
      simp only [tabT, List.foldl_cons, h, if_false]
      exact ih _
theorem tabT_same {d : Nat} {l m : List TrE} {v : Option AV} (h : (l.filter fun x => x.o.dst == some d) = m.filter fun x => x.o.dst == some d) : tabT d l v = tabT d m v := by
  rw [tabT_filter d l, tabT_filter d m, h]
theorem tabT_done {d : Nat} {l : List TrE} {v : Option AV} {done : Nat → Bool} {j : Nat} (hi : ∀ (q : Nat) x, l[q]? = some x → x.i = q)
    (h1 : ∀ (i : Nat) x, i < j → l[i]? = some x → x.o.dst = some d → done i = true) (h2 : ∀ (i : Nat) x, j ≤ i → l[i]? = some x → x.o.dst = some d → done i = false) :
    tabT d (l.filter fun x => done x.i) v = tabT d (l.take j) v := by
  apply tabT_same
  rw [List.filter_filter]
  conv => lhs; rw [← List.take_append_drop j l]
  rw [List.filter_append]
  have e2 : (l.drop j).filter (fun x => (x.o.dst == some d) && done x.i) = [] := by
    rw [List.filter_eq_nil_iff]
    intro x hx
    obtain ⟨q, hq⟩ := List.getElem?_of_mem hx
    rw [List.getElem?_drop] at hq
    rw [hi _ x hq]
    by_cases hd : x.o.dst = some d
    · simp [h2 _ x (by omega) hq hd]
    · simp [hd]
  rw [e2, List.append_nil]
  apply List.filter_congr
  intro x hx
  obtain ⟨q, hq⟩ := List.getElem?_of_mem hx
  rw [List.getElem?_take] at hq
  split at hq
  · rename_i hlt
    rw [hi _ x hq]
    by_cases hd : x.o.dst = some d
    · simp [hd, h1 q x hlt hq hd]
    · simp [hd]
  · cases hq
theorem tabT_put {d : Nat} {l : List TrE} {v : Option AV} {done : Nat → Bool} {j : Nat} {x : TrE} (hi : ∀ (q : Nat) x, l[q]? = some x → x.i = q) (hx : l[j]? = some x) (hd : x.o.dst ≠ some d) :
    tabT d (l.filter fun x => done x.i || x.i == j) v = tabT d (l.filter fun x => done x.i) v := by
  apply tabT_same
  rw [List.filter_filter, List.filter_filter]
  apply List.filter_congr
  intro y hy
  obtain ⟨q, hq⟩ := List.getElem?_of_mem hy
  rw [hi _ y hq]
  by_cases hqj : q = j
  · subst hqj
    rw [hx] at hq; cases hq
    have : (x.o.dst == some d) = false := by simpa using hd
    rw [this]; rfl
  · have : (q == j) = false := by simpa using hqj
    rw [this, Bool.or_false]

section
variable {P : Program} {call : CallT} {ops : List Oper} {e0 : Env} {l : List TrE} {f : Env} {p : Option (AV × Sto)}
variable {σ0 σ : Sg} {w0 w w' : World} {done done' : Nat → Bool} {pt : Nat} {X : Sto}

/-- the names, when these operations have been done -/
structure InvT (P : Program) (ops : List Oper) (e0 : Env) (l : List TrE) (p : Option (AV × Sto)) (done : Nat → Bool) (σ : Sg) (a : Act) : Prop where
  cl : ∀ j, done j = true → ∀ i, ((ancs ops).getD j 0).testBit i = true → done i = true
  dom : ∀ j, done j = true → j < l.length ∧ (p ≠ none → j + 1 < l.length)
  sz : a.tmps.size = e0.nt
  tm : ∀ d v, tabT d (l.filter fun x => done x.i) (e0.t.get d) = some v → d < e0.nt ∧ VR σ v (a.tmps.getD d undef)

/-- an operation may come -/
structure Ready (ops : List Oper) (done : Nat → Bool) (j : Nat) : Prop where
  nd : done j = false
  anc : ∀ i, ((ancs ops).getD j 0).testBit i = true → done i = true

theorem Drawn.names (D : Drawn P call ops e0 l f p) {a : Act} (I : InvT P ops e0 l p done σ a) {j : Nat} {x : TrE} (hx : l[j]? = some x) (hr : Ready ops done j) {d : Nat} (hd : d ∈ onames ops x.o) :
    tabT d (l.filter fun x => done x.i) (e0.t.get d) = x.e.t.get d := by
  rw [D.T.t j x hx d]
  refine tabT_done (fun q x h => D.ix h) (fun i y hij hy hyd => ?_) (fun i y hij hy hyd => ?_)
  · exact hr.anc i (pair_bit D.dr hij (D.T.o i y hy) (D.T.o j x hx) (.inl ⟨hyd, hd⟩))
  · by_cases he : i = j
    · subst he; exact hr.nd
    · cases hdi : done i with
      | false => rfl
      | true =>
        have := I.cl i hdi j (pair_bit D.dr (by omega) (D.T.o j x hx) (D.T.o i y hy) (.inr ⟨hyd, hd⟩))
        rw [hr.nd] at this; cases this

theorem Drawn.tmR (D : Drawn P call ops e0 l f p) {a : Act} (I : InvT P ops e0 l p done σ a) {j : Nat} {x : TrE} (hx : l[j]? = some x) (hr : Ready ops done j) {L : List Nat} (hL : ∀ d ∈ L, d ∈ onames ops x.o) {ρ : Sg}
    (hρ : ∀ d ∈ L, ∀ v V, x.e.t.get d = some v → VR σ v V → VR ρ v V) : TmR ρ x.e.nt (only x.e.t L) a.tmps := by
  refine ⟨by rw [I.sz, (D.T.row j x hx).nt], fun d v hv => ?_⟩
  rw [only_get] at hv
  split at hv
  · rename_i hd
    obtain ⟨h1, h2⟩ := I.tm d v (by rw [D.names I hx hr (hL d hd)]; exact hv)
    exact ⟨by rw [(D.T.row j x hx).nt]; exact h1, hρ d hd v _ hv h2⟩
  · cases hv

theorem onames_sub (ops : List Oper) (o : Oper) {d : Nat} (h : d ∈ onames' o) : d ∈ onames ops o := by
  unfold onames; unfold onames' at h
  simp only [List.mem_append]
  exact .inl (.inr h)
theorem gname_sub (ops : List Oper) (o : Oper) {d : Nat} (h : d ∈ gname ops o) : d ∈ onames ops o := by
  unfold onames; unfold gname at h
  simp only [List.mem_append]
  exact .inr h
theorem dst_sub (ops : List Oper) (o : Oper) {d : Nat} (h : o.dst = some d) : d ∈ onames ops o := by
  unfold onames
  simp only [List.mem_append]
  exact .inl (.inl (by simp [h]))

theorem yieldedB {ops : List Oper} {OPS : Array Oper} (hO : OPS.toList = ops) {o : Oper} {e : Env} {T : Array Value} (h : TmR σ e.nt e.t T) {r : Bool} (hw : awanted ops o e = some r) : Region.wanted o (yielded OPS T) = r := by
  let b : Frame := { (default : Frame) with fn := e.fn }
  unfold awanted at hw
  unfold Region.wanted
  split at hw
  · rename_i hg; simp at hw; subst hw; rw [hg]
  · rename_i j want hg
    rw [hg]
    have hops : OPS[j]? = ops[j]? := by rw [← hO]; simp
    split at hw
    · rename_i hd
      simp at hw; subst hw
      have : (OPS[j]?).bind (·.dst) = none := by
        rw [hops]
        split at hd
        · rename_i g hg'; rw [hg']; exact hd
        · rename_i hg'; rw [hg']; rfl
      simp [yielded, this]
    · rename_i d hd
      have hb : (OPS[j]?).bind (·.dst) = some d := by
        rw [hops]
        split at hd
        · rename_i g hg'; rw [hg']; exact hd
        · simp at hd
      split at hw
      · rename_i b' hb'
        simp at hw; subst hw
        obtain ⟨h1, h2⟩ := h.2 d _ hb'
        have hV := vr_bool h2
        have hlt : @LT.lt Nat instLTNat d T.size := by rw [h.1]; exact h1
        rw [Array.getD_eq_getD_getElem?, Array.getElem?_eq_getElem hlt] at hV
        simp only [Option.getD_some] at hV
        simp only [yielded, hb, Option.bind_some, Array.getElem?_eq_getElem hlt, hV]
        rfl
      · rename_i vs hb'
        simp at hw; subst hw
        obtain ⟨h1, h2⟩ := h.2 d _ hb'
        obtain ⟨ys, hV, _⟩ := VR.tuple_iff.1 h2
        have hlt : @LT.lt Nat instLTNat d T.size := by rw [h.1]; exact h1
        rw [Array.getD_eq_getD_getElem?, Array.getElem?_eq_getElem hlt] at hV
        simp only [Option.getD_some] at hV
        simp only [yielded, hb, Option.bind_some, Array.getElem?_eq_getElem hlt, hV]
        rfl
      · simp at hw

/-- names behind an operation -/
theorem InvT.put (D : Drawn P call ops e0 l f p) {a : Act} (I : InvT P ops e0 l p done σ a) {j : Nat} {x : TrE} (hx : l[j]? = some x) (hr : Ready ops done j) (hnp : ¬ (j + 1 = l.length ∧ ∃ q, p = some q)) {τ : Sg} (hτ : σ.le τ) {V : Value} (hV : VR τ x.v V) :
    InvT P ops e0 l p (fun i => done i || i == j) τ (a.put x.o.dst V) := by
  have hjl : j < l.length := (List.getElem?_eq_some_iff.1 hx).1
  refine ⟨?_, ?_, ?_, ?_⟩
  · intro i hi q hq
    by_cases hij : i = j
    · subst hij; simp [hr.anc q hq]
    · simp only [Bool.or_eq_true, beq_iff_eq, hij, or_false] at hi
      simp [I.cl i hi q hq]
  · intro i hi
    by_cases hij : i = j
    · subst hij
      refine ⟨hjl, fun hp => ?_⟩
      cases hpp : p with
      | none => exact absurd hpp hp
      | some q =>
        by_cases he : i + 1 = l.length
        · exact absurd ⟨he, q, hpp⟩ hnp
        · omega
    · exact I.dom i (by simpa [hij] using hi)
  · cases x.o.dst <;> simp [Act.put, I.sz]
  · intro d v hv
    by_cases hd : x.o.dst = some d
    · have hdn : d < e0.nt := by
        rcases (D.T.row j x hx).dst d hd with h1 | h1
        · exact h1
        · exact absurd h1 hnp
      rw [tabT_done (done := fun i => done i || i == j) (j := j + 1) (fun q x h => D.ix h)] at hv
      · rw [List.take_add_one, hx] at hv
        simp only [Option.toList_some, tabT, List.foldl_append, List.foldl_cons, List.foldl_nil, hd, if_true, Option.some.injEq] at hv
        subst hv
        refine ⟨hdn, ?_⟩
        simp [Act.put, hd, Array.getD_eq_getD_getElem?, Array.getElem?_setIfInBounds, I.sz, hdn, hV]
      · intro i y hij hy hyd
        by_cases he : i = j
        · simp [he]
        · have := hr.anc i (pair_bit D.dr (by omega) (D.T.o i y hy) (D.T.o j x hx) (.inl ⟨hyd, dst_sub ops x.o hd⟩))
          simp [this]
      · intro i y hij hy hyd
        have he : i ≠ j := by omega
        cases hdi : done i with
        | false => simp [he]
        | true =>
          have := I.cl i hdi j (pair_bit D.dr (by omega) (D.T.o j x hx) (D.T.o i y hy) (.inl ⟨hd, dst_sub ops y.o hyd⟩))
          rw [hr.nd] at this; cases this
    · rw [tabT_put (fun q x h => D.ix h) hx hd] at hv
      obtain ⟨h1, h2⟩ := I.tm d v hv
      refine ⟨h1, ?_⟩
      have : (a.put x.o.dst V).tmps.getD d undef = a.tmps.getD d undef := by
        cases hdd : x.o.dst with
        | none => rfl
        | some d' =>
          have hne : d' ≠ d := fun he => hd (by rw [hdd, he])
          simp only [Act.put, Array.getD_eq_getD_getElem?, Array.getElem?_setIfInBounds, if_neg hne]
      rw [this]
      exact h2.mono hτ

/-! ### readers -/
theorem without_get (as : List Nat) (i : Nat) : ∀ (ns : List (Nat × Nat)) (s : Sto) (id : Nat) (x : AObj), (without as i ns s).o.get id = some x → s.o.get id = some x ∧ ∀ n ∈ ns, n.2 = id → (as.getD i 0).testBit n.1 = true := by
  intro ns
  induction ns with
  | nil => intro s id x h; exact ⟨h, by simp⟩
  | cons n ns ih =>
    intro s id x h
    unfold without at h
    cases hb : (as.getD i 0).testBit n.1 with
    | true =>
      rw [hb] at h
      obtain ⟨h1, h2⟩ := ih _ _ _ h
      refine ⟨h1, fun m hm he => ?_⟩
      rcases List.mem_cons.1 hm with rfl | hm
      · exact hb
      · exact h2 m hm he
    | false =>
      rw [hb] at h
      obtain ⟨h1, h2⟩ := ih _ _ _ h
      have h1' : (s.o.del n.2).get id = some x := h1
      rw [Tr.get_del] at h1'
      split at h1'
      · cases h1'
      · rename_i hne
        refine ⟨h1', fun m hm he => ?_⟩
        rcases List.mem_cons.1 hm with rfl | hm
        · exact absurd he.symm hne
        · exact h2 m hm he

theorem rereads_spec {n : Nat} {as : List Nat} {ns : List (Nat × Nat)} {x : TrE} (f : Env) (full : List TrE) (done : Nat → Bool) (hi : ∀ (q : Nat) y, full[q]? = some y → y.i = q) (hcl : ∀ j, done j = true → ∀ i, (as.getD j 0).testBit i = true → done i = true)
    (hnd : done x.i = false) (hanc : ∀ i, (as.getD x.i 0).testBit i = true → done i = true) :
    ∀ (m : List TrE) (k : Nat), m = full.drop k → k ≤ full.length → (∀ (c : Nat) y, c < k → full[c]? = some y → y.isChg = true → done c = true) → rereads P call n as ns x (chgs m) (trStores m ++ [f.s]) = true →
    ∃ q, q ≤ full.length ∧ (∀ (c : Nat) y, c < q → full[c]? = some y → y.isChg = true → done c = true) ∧ (∀ y, full[q]? = some y → y.isChg = true ∧ done q = false) ∧
      isVal x.v (dop P call x.o { x.e with s := { without as x.i ns (stAt full f q) with n := n } }) = true := by
  intro m
  induction m with
  | nil =>
    intro k hm hk hc h
    have hk' : k = full.length := by
      have := congrArg List.length hm
      simp at this; omega
    subst hk'
    simp only [chgs, trStores, List.filter_nil, List.map_nil, List.nil_append, rereads] at h
    exact ⟨full.length, Nat.le_refl _, hc, fun y hy => (by simp at hy), by rw [stAt_len]; exact h⟩
  | cons y m ih =>
    intro k hm hk hc h
    have hky : full[k]? = some y := by
      have : (full.drop k)[0]? = some y := by rw [← hm]; rfl
      rw [List.getElem?_drop] at this
      simpa using this
    have hkl : k < full.length := (List.getElem?_eq_some_iff.1 hky).1
    have hm' : m = full.drop (k + 1) := by
      have := congrArg List.tail hm
      simpa using this
    have hyi := hi k y hky
    cases hyc : y.isChg with
    | false =>
      simp only [chgs, trStores, List.filter_cons, hyc, cond_false, Bool.false_eq_true, if_false] at h
      refine ih (k + 1) hm' (by omega) (fun c z hck hz hzc => ?_) h
      by_cases he : c = k
      · subst he; rw [hky] at hz; cases hz; rw [hyc] at hzc; cases hzc
      · exact hc c z (by omega) hz hzc
    | true =>
      simp only [chgs, trStores, List.filter_cons, hyc, cond_true, if_true, List.map_cons, List.cons_append, rereads, Bool.and_eq_true] at h
      rw [hyi] at h
      cases hd : done k with
      | true =>
        have hb : (as.getD k 0).testBit x.i = false := by
          cases hb : (as.getD k 0).testBit x.i with
          | false => rfl
          | true => rw [hcl k hd _ hb] at hnd; cases hnd
        have h2 := h.2
        rw [hb] at h2
        refine ih (k + 1) hm' (by omega) (fun c z hck hz hzc => ?_) h2
        by_cases he : c = k
        · subst he; exact hd
        · exact hc c z (by omega) hz hzc
      | false =>
        have hb : (as.getD x.i 0).testBit k = false := by
          cases hb : (as.getD x.i 0).testBit k with
          | false => rfl
          | true => rw [hanc k hb] at hd; cases hd
        have h1 := h.1
        rw [hb] at h1
        refine ⟨k, by omega, hc, fun z hz => ?_, by rw [stAt_of hky]; exact h1⟩
        rw [hky] at hz; cases hz
        exact ⟨hyc, hd⟩

theorem readsOk_spec {n n0 : Nat} {as : List Nat} {ns : List (Nat × Nat)} {cs : List Nat} {ss : List Sto} : ∀ (m : List TrE), readsOk P call n n0 as ns cs ss m = true → ∀ x ∈ m, x.chg = false → x.run = true → pureOp x.o.op = false → ordB as ns cs x = true ∨ rereads P call n as ns x cs ss = true ∨ stableB P call as n0 ns cs x = true ∨ stableC P call as n0 cs ss x = true := by
  intro m
  induction m with
  | nil => intro _ x hx; simp at hx
  | cons y m ih =>
    intro h x hx h1 h2 h3
    simp only [readsOk, Bool.and_eq_true, Bool.or_eq_true] at h
    rcases List.mem_cons.1 hx with rfl | hx
    · simpa [h1, h2, h3, or_assoc] using h.1
    · exact ih h.2 x hx h1 h2 h3

theorem bit_lt {ops : List Oper} (h : drawOk ops = true) : ∀ (j i : Nat) (o : Oper), ops[j]? = some o → ((ancs ops).getD j 0).testBit i = true → i < j := by
  intro j
  induction j using Nat.strongRecOn with
  | _ j ih =>
    intro i o ho hb
    obtain ⟨e, e1, e2, e3⟩ := ancs_bit ho hb
    have hlt := edge_lt h ho e1 e2
    rcases e3 with rfl | e3
    · exact hlt
    · have hj : j < ops.length := (List.getElem?_eq_some_iff.1 ho).1
      have := ih e.on hlt i ops[e.on] (List.getElem?_eq_getElem (by omega)) e3
      omega

/-- a store in which a reader comes to what it came to: a part of what is there -/
theorem Drawn.reader (D : Drawn P call ops e0 l f p) (hrd : readsAll P call f.s.n e0.s.n (ancs ops) l f.s = true) {a : Act} (I : InvT P ops e0 l p done σ a) (J : InvS e0 l f σ0 w0 done pt σ X w)
    {j : Nat} {x : TrE} (hx : l[j]? = some x) (hr : Ready ops done j) (hrun : x.run = true) (hch : x.chg = false) :
    ∃ R : Sto, Rel σ R w ∧ dop P call x.o { x.e with s := R } = some (.val x.v) := by
  have hxi := D.ix hx
  have hrow := D.T.row j x hx
  have hval : dop P call x.o x.e = some (.val x.v) := by
    rcases hrow.out with h1 | h1 | h1 | h1
    · rw [h1.1] at hrun; cases hrun
    · exact h1.2.2.1
    · rw [h1.2.1] at hch; cases hch
    · rw [h1.2.1] at hch; cases hch
  cases hp : pureOp x.o.op with
  | true => exact ⟨X, J.rel, (dop_pure hp hval).2 X⟩
  | false =>
    by_cases hnone : chgs l = [] ∧ news l = []
    · -- nothing turns
      have hno : ∀ (i : Nat) z, l[i]? = some z → z.isChg = false ∧ z.isNew = false := by
        intro i z hz
        constructor
        · cases hc : z.isChg with
          | false => rfl
          | true =>
            have : z.i ∈ chgs l := List.mem_map.2 ⟨z, List.mem_filter.2 ⟨List.mem_of_getElem? hz, hc⟩, rfl⟩
            rw [hnone.1] at this; simp at this
        · cases hc : z.isNew with
          | false => rfl
          | true =>
            have : (z.i, z.e.s.n) ∈ news l := List.mem_map.2 ⟨z, List.mem_filter.2 ⟨List.mem_of_getElem? hz, hc⟩, rfl⟩
            rw [hnone.2] at this; simp at this
      have hsame : ∀ (d i : Nat), i + d ≤ l.length → stAt l f (i + d) = stAt l f i := by
        intro d
        induction d with
        | zero => intro i _; rfl
        | succ d ih =>
          intro i hi
          obtain ⟨z, hz⟩ : ∃ z, l[i + d]? = some z := ⟨l[i + d], by rw [List.getElem?_eq_getElem]⟩
          rcases D.step hz (hno _ z hz).1 with ⟨_, h2⟩ | ⟨h1, _⟩
          · rw [show i + (d + 1) = i + d + 1 by omega, h2, ih i (by omega)]
          · rw [(hno _ z hz).2] at h1; cases h1
      have hjl : j < l.length := (List.getElem?_eq_some_iff.1 hx).1
      have h0 : ∀ i, i ≤ l.length → stAt l f i = e0.s := fun i hi => by have := hsame i 0 (by omega); rw [Nat.zero_add] at this; rw [this, D.T.first]
      refine ⟨x.e.s, ?_, hval⟩
      have hxs : x.e.s = e0.s := by rw [hrow.st, h0 j (by omega)]
      rw [hxs]
      have hfs : f.s = e0.s := by rw [← stAt_len l f, h0 _ (Nat.le_refl _)]
      have hpt : stAt l f pt = e0.s := h0 pt J.ptl
      refine J.rel.same (fun id => ?_) (by rw [J.xn, hfs]) (by rw [← hpt]; exact J.top)
      by_cases hid : id < e0.s.n
      · rw [J.x2 id (by rw [hpt]; exact hid), hpt]
      · rw [Sto.get_eq, if_neg hid, Sto.get_eq, if_neg (by rw [J.xn, hfs]; exact hid)]
    · have hrd' : readsOk P call f.s.n e0.s.n (ancs ops) (news l) (chgs l) (trStores l ++ [f.s]) l = true := by
        unfold readsAll at hrd
        split at hrd
        · rename_i h1 h2; exact absurd ⟨h1, h2⟩ hnone
        · exact hrd
      rcases readsOk_spec l hrd' x (List.mem_of_getElem? hx) hch hrun hp with hor | hre | hst | hst
      · -- it comes to the same store in every order
        simp only [ordB, Bool.and_eq_true, List.all_eq_true, Bool.or_eq_true] at hor
        obtain ⟨hord, hnew⟩ := hor
        have hjl : j < l.length := (List.getElem?_eq_some_iff.1 hx).1
        have hopat : ∀ (i : Nat) z, l[i]? = some z → ops[i]? = some z.o := fun i z hz => by simpa using D.T.o i z hz
        have hside : ∀ (i : Nat) z, l[i]? = some z → z.isChg = true → ((i < pt ∧ i < j) ∨ (pt ≤ i ∧ j < i)) := by
          intro i z hz hzc
          have hmem : i ∈ chgs l := List.mem_map.2 ⟨z, List.mem_filter.2 ⟨List.mem_of_getElem? hz, hzc⟩, D.ix hz⟩
          rcases hord i hmem with h1 | h1
          · rw [hxi] at h1
            exact .inl ⟨(J.chg i z hz hzc).1 (hr.anc i h1), bit_lt D.dr j i _ (hopat j x hx) h1⟩
          · rw [hxi] at h1
            refine .inr ⟨?_, bit_lt D.dr i j _ (hopat i z hz) h1⟩
            rcases Nat.lt_or_ge i pt with h2 | h2
            · have := I.cl i ((J.chg i z hz hzc).2 h2) j h1
              rw [hr.nd] at this; cases this
            · exact h2
        have hnside : ∀ (i : Nat) z, l[i]? = some z → z.isNew = true → (done i = true ↔ i < j) := by
          intro i z hz hzn
          have hmem : (i, z.e.s.n) ∈ news l := List.mem_map.2 ⟨z, List.mem_filter.2 ⟨List.mem_of_getElem? hz, hzn⟩, by rw [D.ix hz]⟩
          rcases hnew _ hmem with h1 | h1
          · rw [hxi] at h1
            exact ⟨fun _ => bit_lt D.dr j i _ (hopat j x hx) h1, fun _ => hr.anc i h1⟩
          · rw [hxi] at h1
            have h2 := bit_lt D.dr i j _ (hopat i z hz) h1
            refine ⟨fun h3 => ?_, fun h3 => by omega⟩
            have := I.cl i h3 j h1
            rw [hr.nd] at this; cases this
        have hjtop : ∀ id, (stAt l f j).n ≤ id → (stAt l f j).o.get id = none := by
          rcases Nat.le_total pt j with h1 | h1
          · have S := D.seg' h1 (by omega) fun i z g1 g2 hz => by
              cases hzc : z.isChg with
              | false => rfl
              | true => rcases hside i z hz hzc with h2 | h2 <;> omega
            exact S.top J.top
          · -- new objects alone lie between
            have S := D.seg' h1 J.ptl fun i z g1 g2 hz => by
              cases hzc : z.isChg with
              | false => rfl
              | true => rcases hside i z hz hzc with h2 | h2 <;> omega
            rcases Nat.lt_or_ge j pt with h2 | h2
            · have hnn : ∀ (i : Nat) z, j ≤ i → i < pt → l[i]? = some z → z.isNew = false := by
                intro i z g1 g2 hz
                cases hzn : z.isNew with
                | false => rfl
                | true => have := (hnside i z hz hzn).1 (J.nwd i z hz hzn g2); omega
              have hsame : ∀ (d : Nat), j + d ≤ pt → stAt l f (j + d) = stAt l f j := by
                intro d
                induction d with
                | zero => intro _; rfl
                | succ d ih =>
                  intro hi
                  have := J.ptl
                  obtain ⟨z, hz⟩ : ∃ z, l[j + d]? = some z := ⟨l[j + d]'(by omega), by rw [List.getElem?_eq_getElem]⟩
                  have hzc : z.isChg = false := by
                    cases hzc : z.isChg with
                    | false => rfl
                    | true => rcases hside (j + d) z hz hzc with h2 | h2 <;> omega
                  rcases D.step hz hzc with ⟨_, h3⟩ | ⟨h3, _⟩
                  · rw [show j + (d + 1) = j + d + 1 by omega, h3, ih (by omega)]
                  · rw [hnn (j + d) z (by omega) (by omega) hz] at h3; cases h3
              have := hsame (pt - j) (by omega)
              rw [show j + (pt - j) = pt by omega] at this
              rw [← this]; exact J.top
            · have : pt = j := by omega
              subst this; exact J.top
        have hget : ∀ id, id < (stAt l f j).n → X.get id = (stAt l f j).get id := by
          intro id hid
          rcases Nat.le_total pt j with h1 | h1
          · have S := D.seg' h1 (by omega) fun i z g1 g2 hz => by
              cases hzc : z.isChg with
              | false => rfl
              | true => rcases hside i z hz hzc with h2 | h2 <;> omega
            rcases Nat.lt_or_ge id (stAt l f pt).n with h2 | h2
            · rw [J.x2 id h2, S.get id h2]
            · obtain ⟨i, y, a1, a2, a3, a4, a5, a6⟩ := S.new id h2 hid
              have := J.x3 i y a3 a4 ((hnside i y a3 a4).2 a2) a1
              rw [a5] at this
              rw [this, a6]
          · have S := D.seg' h1 J.ptl fun i z g1 g2 hz => by
              cases hzc : z.isChg with
              | false => rfl
              | true => rcases hside i z hz hzc with h2 | h2 <;> omega
            rw [J.x2 id (Nat.lt_of_lt_of_le hid S.n), S.get id hid]
        refine ⟨x.e.s, ?_, hval⟩
        rw [hrow.st]
        refine J.rel.part rfl (fun id g _ => rfl) (fun id g z hz => ?_) (fun id z hz => ?_) (fun id z _ b base sz o ho _ _ => ho) hjtop
        · rcases J.dm id g z hz with h1 | ⟨i, y, a1, a2, a3, a4, a5⟩
          · rcases Nat.le_total pt j with h2 | h2
            · have := D.mono h2 (by omega); omega
            · -- all that is there at pt was there at j
              rcases Nat.lt_or_ge id (stAt l f j).n with h3 | h3
              · exact h3
              · have S := D.seg' h2 J.ptl fun i z g1 g2 hz => by
                  cases hzc : z.isChg with
                  | false => rfl
                  | true => rcases hside i z hz hzc with h2 | h2 <;> omega
                obtain ⟨i, y, a1, a2, a3, a4, a5, a6⟩ := S.new id h3 h1
                have := (hnside i y a3 a4).1 (J.nwd i y a3 a4 a2)
                omega
          · have hij := (hnside i y a2 a3).1 a4
            obtain ⟨_, y', hy', _⟩ := D.newRow a2 a3
            have := D.mono (i := i + 1) (q := j) (by omega) (by omega)
            rw [hy'] at this
            simp only [Sto.n_push] at this
            omega
        · rw [hget id (Sto.get_lt hz)]; exact hz
      rotate_left
      · -- the same wherever the objects are as they were
        simp only [stableB, Bool.and_eq_true, List.all_eq_true, Bool.or_eq_true, decide_eq_true_eq] at hst
        obtain ⟨hord, hstab⟩ := hst
        have hjl : j < l.length := (List.getElem?_eq_some_iff.1 hx).1
        have hopat : ∀ (i : Nat) z, l[i]? = some z → ops[i]? = some z.o := fun i z hz => by simpa using D.T.o i z hz
        have hside : ∀ (i : Nat) z, l[i]? = some z → z.isChg = true → ((i < pt ∧ i < j) ∨ (pt ≤ i ∧ j < i)) := by
          intro i z hz hzc
          have hmem : i ∈ chgs l := List.mem_map.2 ⟨z, List.mem_filter.2 ⟨List.mem_of_getElem? hz, hzc⟩, D.ix hz⟩
          rcases hord i hmem with h1 | h1
          · rw [hxi] at h1
            exact .inl ⟨(J.chg i z hz hzc).1 (hr.anc i h1), bit_lt D.dr j i _ (hopat j x hx) h1⟩
          · rw [hxi] at h1
            refine .inr ⟨?_, bit_lt D.dr i j _ (hopat i z hz) h1⟩
            rcases Nat.lt_or_ge i pt with h2 | h2
            · have := I.cl i ((J.chg i z hz hzc).2 h2) j h1
              rw [hr.nd] at this; cases this
            · exact h2
        have hn0 : ∀ q, q ≤ l.length → e0.s.n ≤ (stAt l f q).n := fun q hq => by
          have := D.mono (Nat.zero_le q) hq
          rw [D.T.first] at this; exact this
        have hsame : ∀ id, id < e0.s.n → (stAt l f pt).get id = (stAt l f j).get id := by
          intro id hid
          rcases Nat.le_total pt j with h1 | h1
          · have S := D.seg' h1 (by omega) fun i z g1 g2 hz => by
              cases hzc : z.isChg with
              | false => rfl
              | true => rcases hside i z hz hzc with h2 | h2 <;> omega
            exact (S.get id (Nat.lt_of_lt_of_le hid (hn0 pt J.ptl))).symm
          · have S := D.seg' h1 J.ptl fun i z g1 g2 hz => by
              cases hzc : z.isChg with
              | false => rfl
              | true => rcases hside i z hz hzc with h2 | h2 <;> omega
            exact S.get id (Nat.lt_of_lt_of_le hid (hn0 j (by omega)))
        refine ⟨X, J.rel, hstab X fun id hid => ?_⟩
        rcases hid with hid | ⟨i, hmem, hbit⟩
        · rw [J.x2 id (Nat.lt_of_lt_of_le hid (hn0 pt J.ptl)), hsame id hid, hrow.st]
        · obtain ⟨y, hy, hye⟩ := List.mem_map.1 hmem
          obtain ⟨i', hi'⟩ := List.getElem?_of_mem (List.mem_filter.1 hy).1
          have hyn := (List.mem_filter.1 hy).2
          have hii := D.ix hi'
          simp only [Prod.mk.injEq] at hye
          obtain ⟨rfl, rfl⟩ := hye
          rw [hii] at hbit
          rw [hxi] at hbit
          have hij : i' < j := bit_lt D.dr j i' _ (hopat j x hx) hbit
          have hyc : y.isChg = false := by
            simp only [TrE.isNew, Bool.and_eq_true] at hyn
            simp [TrE.isChg, hyn.2]
          have hst : y.e.s.n = (stAt l f i').n := by rw [stAt_of (f := f) hi']
          have hlt1 : y.e.s.n < (stAt l f (i' + 1)).n := by
            rcases D.step hi' hyc with ⟨h1, _⟩ | ⟨_, z, hz⟩
            · rw [hyn] at h1; cases h1
            · rw [hz, hst]; exact Nat.lt_succ_self _
          rw [hrow.st]
          rcases Nat.lt_or_ge i' pt with h1 | h1
          · have hltp : y.e.s.n < (stAt l f pt).n := Nat.lt_of_lt_of_le hlt1 (D.mono (by omega) J.ptl)
            have hltj : y.e.s.n < (stAt l f j).n := Nat.lt_of_lt_of_le hlt1 (D.mono (by omega) (by omega))
            rw [J.x2 _ hltp]
            rcases Nat.le_total pt j with h2 | h2
            · have S := D.seg' h2 (by omega) fun i z g1 g2 hz => by
                cases hzc : z.isChg with
                | false => rfl
                | true => rcases hside i z hz hzc with h3 | h3 <;> omega
              exact (S.get _ hltp).symm
            · have S := D.seg' h2 J.ptl fun i z g1 g2 hz => by
                cases hzc : z.isChg with
                | false => rfl
                | true => rcases hside i z hz hzc with h3 | h3 <;> omega
              exact S.get _ hltj
          · have hx3 := J.x3 i' y hi' hyn (hr.anc i' hbit) h1
            rw [← hst] at hx3
            rw [hx3]
            have S := D.seg' (i := i' + 1) (q := j) (by omega) (by omega) fun i z g1 g2 hz => by
              cases hzc : z.isChg with
              | false => rfl
              | true => rcases hside i z hz hzc with h3 | h3 <;> omega
            exact (S.get _ hlt1).symm
      · simp only [stableC, decide_eq_true_eq] at hst
        obtain ⟨m0, hm0, hall, hstab⟩ := hst
        have hn0 : ∀ q, q ≤ l.length → m0 ≤ (stAt l f q).n := fun q hq => by
          have := D.mono (i := 0) (q := q) (Nat.zero_le q) hq
          rw [D.T.first] at this; omega
        have hdrop : ∀ (k : Nat) z, l[k]? = some z → l.drop k = z :: l.drop (k + 1) := fun k z hz => by
          have hk := (List.getElem?_eq_some_iff.1 hz).1
          rw [List.drop_eq_getElem_cons hk]
          rw [List.getElem?_eq_getElem hk] at hz
          rw [Option.some.inj hz]
        have hst1 : ∀ (k : Nat) z, l[k]? = some z → z.isChg = false → ∀ id, id < m0 → (stAt l f (k + 1)).get id = (stAt l f k).get id := fun k z hz hc id hid => by
          have hk := (List.getElem?_eq_some_iff.1 hz).1
          have hlt : id < (stAt l f k).n := Nat.lt_of_lt_of_le hid (hn0 k (by omega))
          rcases D.step hz hc with ⟨_, h3⟩ | ⟨_, y, h3⟩
          · rw [h3]
          · rw [h3, Sto.get_push, if_neg (by omega)]
        have hfst : ∀ (d k : Nat), k + d = l.length → keptTo (ancs ops) x.i m0 x.e.s (chgs (l.drop k)) (trStores (l.drop k) ++ [f.s]) → agreeB m0 (stAt l f k) x.e.s := by
          intro d
          induction d with
          | zero =>
            intro k hk h
            have hk' : k = l.length := by omega
            rw [hk', List.drop_length] at h
            rw [hk', stAt_len]
            exact h f.s (by simp [trStores])
          | succ d ih =>
            intro k hk h
            obtain ⟨z, hz⟩ : ∃ z, l[k]? = some z := ⟨l[k]'(by omega), by rw [List.getElem?_eq_getElem]⟩
            rw [hdrop k z hz] at h
            cases hc : z.isChg with
            | true =>
              simp only [chgs, List.filter_cons, hc, if_true, List.map_cons, trStores, cond_true, List.cons_append] at h
              rw [stAt_of (f := f) hz]
              exact h.1
            | false =>
              simp only [chgs, List.filter_cons, hc, trStores, cond_false] at h
              have := ih (k + 1) (by omega) h
              exact fun id hid => (hst1 k z hz hc id hid).symm.trans (this id hid)
        have hadv : ∀ k, k ≤ pt → keptTo (ancs ops) x.i m0 x.e.s (chgs (l.drop k)) (trStores (l.drop k) ++ [f.s]) := by
          intro k
          induction k with
          | zero => intro _; rw [List.drop_zero]; exact hall
          | succ k ih =>
            intro hk
            have h := ih (by omega)
            have hkl : k < l.length := by have := J.ptl; omega
            obtain ⟨z, hz⟩ : ∃ z, l[k]? = some z := ⟨l[k], by rw [List.getElem?_eq_getElem]⟩
            rw [hdrop k z hz] at h
            cases hc : z.isChg with
            | true =>
              simp only [chgs, List.filter_cons, hc, if_true, List.map_cons, trStores, cond_true, List.cons_append] at h
              rcases h.2 with g | g
              · have h1 := g z.i (List.mem_cons_self ..)
                rw [D.ix hz, hxi] at h1
                have := I.cl k ((J.chg k z hz hc).2 (by omega)) j h1
                rw [hr.nd] at this; cases this
              · exact g
            | false =>
              simp only [chgs, List.filter_cons, hc, trStores, cond_false] at h
              exact h
        refine ⟨X, J.rel, hstab X fun id hid => ?_⟩
        rw [J.x2 id (Nat.lt_of_lt_of_le hid (hn0 pt J.ptl))]
        exact hfst (l.length - pt) pt (by have := J.ptl; omega) (hadv pt (Nat.le_refl _)) id hid
      obtain ⟨q, hq1, hq2, hq3, hq4⟩ := rereads_spec f l done (fun q x h => D.ix h) I.cl (by rw [hxi]; exact hr.nd) (by rw [hxi]; exact hr.anc) l 0 rfl (Nat.zero_le _) (fun c y hc => by omega) hre
      refine ⟨_, ?_, isVal_eq hq4⟩
      have hpq : pt ≤ q := by
        rcases Nat.lt_or_ge q pt with h1 | h1
        · have hptl := J.ptl
          obtain ⟨y, hy⟩ : ∃ y, l[q]? = some y := ⟨l[q]'(by omega), by rw [List.getElem?_eq_getElem]⟩
          obtain ⟨g1, g2⟩ := hq3 y hy
          rw [(J.chg q y hy g1).2 h1] at g2; cases g2
        · exact h1
      have S := D.seg' hpq hq1 fun i z h1 h2 hz => by
        cases hzc : z.isChg with
        | false => rfl
        | true =>
          have := (J.chg i z hz hzc).1 (hq2 i z h2 hz hzc)
          omega
      refine J.rel.part rfl (fun id g _ => rfl) (fun id g z hz => ?_) (fun id z hz => ?_) (fun id z _ b base sz o ho _ _ => ho) (fun id hid => ?_)
      · have := J.rel.bnd id g z hz
        rw [J.xn] at this; exact this
      · rw [Sto.get_eq] at hz
        split at hz
        · rename_i hlt
          obtain ⟨h1, h2⟩ := without_get _ _ _ _ _ _ hz
          have hidq : id < (stAt l f q).n := by
            rcases Nat.lt_or_ge id (stAt l f q).n with h3 | h3
            · exact h3
            · rw [S.top J.top id h3] at h1; cases h1
          have hgq : (stAt l f q).get id = some z := by rw [Sto.get_eq, if_pos hidq]; exact h1
          by_cases hidp : id < (stAt l f pt).n
          · rw [J.x2 id hidp, ← S.get id hidp]; exact hgq
          · obtain ⟨i, y, a1, a2, a3, a4, a5, a6⟩ := S.new id (by omega) hidq
            have hyi := D.ix a3
            have hbit := h2 (y.i, y.e.s.n) (List.mem_map.2 ⟨y, List.mem_filter.2 ⟨List.mem_of_getElem? a3, a4⟩, rfl⟩) (by
              show y.e.s.n = id
              rw [← stAt_of (f := f) a3]; exact a5)
            rw [hxi, hyi] at hbit
            have := J.x3 i y a3 a4 (hr.anc i hbit) a1
            rw [a5] at this
            rw [this, a6]; exact hgq
        · cases hz
      · cases hg : (without (ancs ops) x.i (news l) (stAt l f q)).o.get id with
        | none => rfl
        | some z =>
          obtain ⟨h1, _⟩ := without_get _ _ _ _ _ _ hg
          have hid' : f.s.n ≤ id := hid
          have := D.mono (i := q) hq1 (Nat.le_refl l.length)
          rw [stAt_len] at this
          rw [S.top J.top id (by omega)] at h1
          cases h1

end
end Go.Abs
