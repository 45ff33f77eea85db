/-
  The abstract machine: drawn regions are sound.
-/
import Derived.Test.YtglnkngifepmhaaGreatUt
set_option linter.unusedVariables false
set_option linter.unusedSimpArgs false

namespace Go.Abs

theorem forget_spec : ∀ (l : List Oper) (e : Env), (forget e l).nt = e.nt ∧ (forget e l).ro = e.ro ∧ (forget e l).fn = e.fn ∧ (forget e l).ds = e.ds ∧ (forget e l).s = e.s ∧ (forget e l).r = e.r ∧
    ∀ d v, (forget e l).t.get d = some v → e.t.get d = some v ∧ ∀ o ∈ l, o.dst ≠ some d := by
  intro l
  induction l with
  | nil => intro e; exact ⟨rfl, rfl, rfl, rfl, rfl, rfl, fun d v h => ⟨h, by simp⟩⟩
  | cons o l ih =>
    intro e
    unfold forget
    cases hd : o.dst with
    | none =>
      obtain ⟨h1, h2, h3, h4, h5, h6, h7⟩ := ih e
      refine ⟨h1, h2, h3, h4, h5, h6, fun d v h => ?_⟩
      obtain ⟨a1, a2⟩ := h7 d v h
      refine ⟨a1, fun o' ho' => ?_⟩
      rcases List.mem_cons.1 ho' with rfl | ho'
      · rw [hd]; simp
      · exact a2 o' ho'
    | some d0 =>
      obtain ⟨h1, h2, h3, h4, h5, h6, h7⟩ := ih { e with t := e.t.del d0 }
      refine ⟨h1, h2, h3, h4, h5, h6, fun d v h => ?_⟩
      obtain ⟨a1, a2⟩ := h7 d v h
      have a1' : (e.t.del d0).get d = some v := a1
      rw [Tr.get_del] at a1'
      split at a1'
      · cases a1'
      · rename_i hne
        refine ⟨a1', fun o' ho' => ?_⟩
        rcases List.mem_cons.1 ho' with rfl | ho'
        · rw [hd]; intro he; exact hne (by simpa using he.symm)
        · exact a2 o' ho'
theorem lastOk_spec {as : List Nat} {c : Nat} : ∀ (l : List Oper) (i : Nat), lastOk as c l i = true → ∀ q, q < l.length → c < i + q → (as.getD (i + q) 0).testBit c = true := by
  intro l
  induction l with
  | nil => intro i _ q hq; simp at hq
  | cons o l ih =>
    intro i h q hq hc
    simp only [lastOk, Bool.and_eq_true, Bool.or_eq_true] at h
    cases q with
    | zero =>
      have hc' : Nat.blt c i = true := by simpa [Nat.blt_eq] using hc
      simpa [hc'] using h.1
    | succ q =>
      have := ih (i + 1) h.2 q (by simpa using hq) (by omega)
      rw [show i + (q + 1) = i + 1 + q by omega]; exact this
theorem countP_lt {p q : Nat → Bool} : ∀ (l : List Nat) (j : Nat), (∀ i, q i = true → p i = true) → j ∈ l → p j = true → q j = false → l.countP q + 1 ≤ l.countP p := by
  intro l
  induction l with
  | nil => intro j _ h; simp at h
  | cons a l ih =>
    intro j h hj hp hq
    have hm : l.countP q ≤ l.countP p := List.countP_mono_left fun i _ hi => h i hi
    rw [List.countP_cons, List.countP_cons]
    rcases List.mem_cons.1 hj with rfl | hj
    · simp [hp, hq]; omega
    · have := ih j h hj hp hq
      by_cases ha : q a = true
      · simp [ha, h a ha]; omega
      · by_cases hpa : p a = true
        · simp [ha, hpa]; omega
        · simp [ha, hpa]; omega
theorem set_done {listed : Array Bool} {j : Nat} (h : j < listed.size) : (fun i => (listed.setIfInBounds j true).getD i false) = fun i => listed.getD i false || i == j := by
  funext i
  by_cases hij : i = j
  · subst hij; simp [h]
  · rw [getD_set_ne false (Ne.symm hij)]; simp [hij]

theorem dop_defer {P : Program} {call : CallT} {o : Oper} {e : Env} {c : Call} {r : ORes} (ho : o.op = .defer c) (h : dop P call o e = some r) : ∃ d, r = .defer d := by
  unfold dop at h
  rw [ho] at h
  simp only at h
  split at h
  · split at h
    · cases h; exact ⟨_, rfl⟩
    · cases h
  · cases h

section
variable {P : Program} {call : CallT} {ops : List Oper} {e0 : Env} {l : List TrE} {f : Env} {p : Option (AV × Sto)} {σ0 : Sg} {w0 : World}

/-- how the region ends -/
def DEnd (ops : List Oper) (e0 f : Env) (p : Option (AV × Sto)) (ex : Ex) (e' : Env) : Prop := match p with
  | none => ex = .normal ∧ e' = f
  | some (v, s) => ex = .panic v ∧ e' = forget { e0 with s := s } ops

theorem draw_loop (hcall : CallN P call) (hfun : ∀ v args s r x, call v args s r = some x → ∃ f a c, v = .func f a c) {OPS : Array Oper} (hO : OPS.toList = ops) (D : Drawn P call ops e0 l f p)
    (hrd : readsAll P call f.s.n e0.s.n (ancs ops) l f.s = true) (hlast : ∀ q, p = some q → lastOk (ancs ops) (l.length - 1) ops 0 = true)
    {b : Frame} {stk : FrameMode → List Frame} {k : List Item} {m : FrameMode} {a0 : Act} (he0 : ER σ0 b e0 a0 m) {ex : Ex} {e' : Env} (hend : DEnd ops e0 f p ex e') :
    ∀ (fuel t : Nat) (listed : Array Bool) (pt : Nat) (σ : Sg) (X : Sto) (a : Act) (w : World), InvT P ops e0 l p (fun i => listed.getD i false) σ a → InvS e0 l f σ0 w0 (fun i => listed.getD i false) pt σ X w →
      listed.size = OPS.size → (List.range OPS.size).countP (fun i => !listed.getD i false) ≤ fuel → a.defers = a0.defers →
      COut P σ0 e0.s w0 (lone (b.atR a (.inRegion OPS (Region.linearise.go .any OPS fuel t listed []) :: k)) (stk m) w) b stk k ex e' := by
  have hops : ∀ j : Nat, ops[j]? = OPS[j]? := fun j => by rw [← hO]; simp
  have hlen : ops.length = OPS.size := by rw [← hO]; simp
  -- when all have been done
  have hfin : ∀ (listed : Array Bool) (pt : Nat) (σ : Sg) (X : Sto) (a : Act) (w : World), InvT P ops e0 l p (fun i => listed.getD i false) σ a → InvS e0 l f σ0 w0 (fun i => listed.getD i false) pt σ X w →
      (∀ i, i < OPS.size → listed.getD i false = true) → a.defers = a0.defers → COut P σ0 e0.s w0 (lone (b.atR a (.inRegion OPS [] :: k)) (stk m) w) b stk k ex e' := by
    intro listed pt σ X a w I J hall hdf
    have hln : l.length ≤ ops.length := by
      rcases Nat.lt_or_ge ops.length l.length with h1 | h1
      · obtain ⟨x, hx⟩ : ∃ x, l[ops.length]? = some x := ⟨l[ops.length], by rw [List.getElem?_eq_getElem]⟩
        have := D.T.o _ x hx
        simp at this
      · exact h1
    have hp : p = none := by
      cases hp : p with
      | none => rfl
      | some q =>
        have h1 := (D.T.pan q.1 q.2 hp).2.1
        have := (I.dom (l.length - 1) (hall _ (by omega))).2 (by rw [hp]; simp)
        omega
    subst hp
    obtain ⟨rfl, rfl⟩ := hend
    obtain ⟨h1, h2, h3, h4, h5, h6, h7⟩ := D.T.fin rfl
    have hdl : ∀ i, i < l.length → listed.getD i false = true := fun i hi => hall i (by omega)
    have hst := J.fin D (fun j x hj hx => by
      cases hc : x.isChg with
      | false => rfl
      | true =>
        have hjl := (List.getElem?_eq_some_iff.1 hx).1
        have := (J.chg j x hx hc).1 (hdl j hjl)
        omega) (fun j x hx _ => hdl j (List.getElem?_eq_some_iff.1 hx).1)
    refine ⟨σ, a, m, w, ⟨?_, ?_, ?_, ?_, ?_⟩, hst, .one stepR_region_end⟩
    · refine ⟨by rw [I.sz, h2], fun d v hv => ?_⟩
      rw [h2]
      refine I.tm d v ?_
      rw [h7 d] at hv
      rw [← hv]
      apply tabT_same
      congr 1
      rw [List.filter_eq_self]
      intro x hx
      obtain ⟨q, hq⟩ := List.getElem?_of_mem hx
      rw [D.ix hq]
      exact hdl q (List.getElem?_eq_some_iff.1 hq).1
    · rw [h5, hdf]; exact he0.df.mono J.ext
    · rw [h6]; exact he0.rc.mono J.ext
    · rw [h4]; exact he0.fn
    · have := (he0.mono J.ext).ro
      rw [h3]; exact this
  intro fuel
  induction fuel with
  | zero =>
    intro t listed pt σ X a w I J hsz hcnt hdf
    refine hfin listed pt σ X a w I J (fun i hi => ?_) hdf
    have := List.countP_eq_zero.1 (Nat.le_zero.1 hcnt) i (List.mem_range.2 hi)
    simpa using this
  | succ fuel ih =>
    intro t listed pt σ X a w I J hsz hcnt hdf
    simp only [Region.linearise.go]
    change COut P σ0 e0.s w0 (lone (b.atR a (.inRegion OPS (match (Region.ready .any OPS listed)[t % (Region.ready .any OPS listed).length]? with
      | some i => Region.linearise.go .any OPS fuel (t / (Region.ready .any OPS listed).length) (listed.setIfInBounds i true) [i]
      | none => [].reverse) :: k)) (stk m) w) b stk k ex e'
    cases hi : (Region.ready .any OPS listed)[t % (Region.ready .any OPS listed).length]? with
    | none =>
      have hnil : Region.ready .any OPS listed = [] := by
        cases hr : Region.ready .any OPS listed with
        | nil => rfl
        | cons x xs =>
          rw [hr] at hi
          have hlt : t % (x :: xs).length < (x :: xs).length := Nat.mod_lt _ (by simp)
          simp at hi
          simp at hlt
          omega
      refine hfin listed pt σ X a w I J (fun i hi => ?_) hdf
      -- the least one that is not listed were ready
      have : ∀ n i, i < n → i < OPS.size → listed.getD i false = true := by
        intro n
        induction n with
        | zero => intro i h; omega
        | succ n ihn =>
          intro i hin his
          cases hd : listed.getD i false with
          | true => rfl
          | false =>
            exfalso
            have hmem : i ∈ Region.ready .any OPS listed := by
              rw [mem_ready]
              obtain ⟨o, ho⟩ : ∃ o, OPS[i]? = some o := ⟨OPS[i], by simp [his]⟩
              refine ⟨?_, o, ho, fun e he hb => ?_⟩
              · simp only [Array.getD_eq_getD_getElem?, Array.getElem?_eq_getElem (show i < listed.size by omega), Option.getD_some] at hd ⊢
                exact hd
              · have hlt := edge_lt D.dr (by rw [hops]; exact ho) he hb
                exact ihn e.on (by omega) (by omega)
            rw [hnil] at hmem; cases hmem
      exact this (i + 1) i (by omega) hi
    | some j =>
      simp only []
      rw [linearise_go_acc, List.reverse_singleton, List.singleton_append]
      generalize t / (Region.ready Region.Mode.any OPS listed).length = t'
      obtain ⟨hj0, o, ho, hall⟩ := mem_ready.1 (List.mem_of_getElem? hi)
      have hjs : j < OPS.size := (Array.getElem?_eq_some_iff.1 ho).1
      have hjl' : j < listed.size := by omega
      have hjnd : listed.getD j false = false := by
        simp only [Array.getD_eq_getD_getElem?, Array.getElem?_eq_getElem hjl', Option.getD_some] at hj0 ⊢
        exact hj0
      have hr : Ready ops (fun i => listed.getD i false) j := by
        refine ⟨hjnd, fun i hb => ?_⟩
        obtain ⟨e, e1, e2, e3⟩ := ancs_bit (by rw [hops]; exact ho) hb
        have hd := hall e e1 e2
        rcases e3 with rfl | e3
        · exact hd
        · exact I.cl e.on hd i e3
      have hcnt' : (List.range OPS.size).countP (fun i => !(listed.setIfInBounds j true).getD i false) ≤ fuel := by
        have := countP_lt (p := fun i => !listed.getD i false) (q := fun i => !(listed.setIfInBounds j true).getD i false) (List.range OPS.size) j (fun i hq => by
          have hs : (listed.setIfInBounds j true).getD i false = (listed.getD i false || i == j) := congrFun (set_done hjl') i
          rw [hs] at hq
          simp only [Bool.not_eq_true', Bool.or_eq_false_iff] at hq ⊢
          exact hq.1) (List.mem_range.2 hjs) (by simpa using hjnd) (by
          have hs : (listed.setIfInBounds j true).getD j false = (listed.getD j false || j == j) := congrFun (set_done hjl') j
          rw [hs]; simp)
        omega
      -- and then the others
      have hnext : ∀ (pt' : Nat) (σ' : Sg) (X' : Sto) (V : Value) (w' : World), InvT P ops e0 l p (fun i => listed.getD i false || i == j) σ' (a.put o.dst V) → InvS e0 l f σ0 w0 (fun i => listed.getD i false || i == j) pt' σ' X' w' →
          Steps P (lone (b.atR a (.inRegion OPS (j :: Region.linearise.go .any OPS fuel t' (listed.setIfInBounds j true) []) :: k)) (stk m) w) (lone (b.atR (a.put o.dst V) (.inRegion OPS (Region.linearise.go .any OPS fuel t' (listed.setIfInBounds j true) []) :: k)) (stk m) w') →
          COut P σ0 e0.s w0 (lone (b.atR a (.inRegion OPS (j :: Region.linearise.go .any OPS fuel t' (listed.setIfInBounds j true) []) :: k)) (stk m) w) b stk k ex e' := by
        intro pt' σ' X' V w' I' J' hs
        rw [← set_done hjl'] at I' J'
        refine COut.of_steps hs (ih t' (listed.setIfInBounds j true) pt' σ' X' (a.put o.dst V) w' I' J' (by simp [hsz]) hcnt' ?_)
        cases o.dst <;> simp [Act.put, hdf]
      rcases Nat.lt_or_ge j l.length with hjl | hjl
      · obtain ⟨x, hx⟩ : ∃ x, l[j]? = some x := ⟨l[j], by rw [List.getElem?_eq_getElem]⟩
        have hxo : x.o = o := by
          have := D.T.o j x hx
          rw [hops, ho] at this; exact (Option.some.inj this).symm
        have hrow := D.T.row j x hx
        have hwant : Region.wanted o (yielded OPS a.tmps) = x.run := by
          have htm := D.tmR (ρ := σ) I hx hr (L := gname ops x.o) (fun d hd => gname_sub ops x.o hd) (fun _ _ _ _ _ h => h)
          have hw := awanted_congr (ops := ops) (o := x.o) (e := x.e) (e' := { x.e with t := only x.e.t (gname ops x.o) }) (fun d hd => by show (only _ _).get d = _; rw [only_get, if_pos hd])
          rw [hrow.want] at hw
          rw [← hxo]
          exact yieldedB hO (e := { x.e with t := only x.e.t (gname ops x.o) }) htm hw
        -- not the one that panics
        have hnpan : x.chg = false → ¬ (j + 1 = l.length ∧ ∃ q, p = some q) := by
          rintro hch ⟨h1, q, h2⟩
          have := (D.T.pan q.1 q.2 h2).2.2 x (by rw [← h1]; simpa using hx)
          rw [hch] at this; cases this
        have hun : x.chg = true → ∀ d ∈ onames' x.o, ∀ v V, x.e.t.get d = some v → VR σ v V → VR (σ.cut (stAt l f j).n) v V := by
          intro hch d hd v V hv hV
          have h1 := D.un
          simp only [chgsUnder, List.all_eq_true] at h1
          have h2 := h1 x (List.mem_of_getElem? hx)
          simp only [hch, Bool.not_true, Bool.false_or, List.all_eq_true] at h2
          obtain ⟨y, hy, hyd⟩ := List.mem_filterMap.1 hd
          have h3 := h2 y hy
          cases y with
          | tmp t =>
            simp at hyd; subst hyd
            simp only [Env.eval, hv] at h3
            rw [hrow.st] at h3
            simp only [unb, Bool.or_eq_true, decide_eq_true_eq] at h3
            rcases h3 with h3 | ⟨d, h3⟩
            · exact VR.cut _ _ _ h3 hV
            · exact VR.cut _ _ _ h3 hV
          | _ => simp at hyd
        have hsem : ∀ {e : Env} {r : ORes}, dop P call x.o e = some r → (∀ d, r ≠ .defer d) → o.semAt b.roundOf a.eval = execOp a.eval o := by
          intro e r h1 h2
          rw [← hxo]
          refine Oper.semAt_eq _ _ _ fun c hc => ?_
          obtain ⟨d, hd⟩ := dop_defer hc h1
          exact h2 d hd
        -- the operation, at a store
        have hdop : ∀ (R : Sto) (r : ORes), dop P call x.o { x.e with s := R } = some r → dop P call o { x.e with t := only x.e.t (onames' x.o), s := R } = some r := by
          intro R r h1
          rw [← hxo, ← h1]
          exact dop_congr (eval_names fun d hd => by show (only _ _).get d = _; rw [only_get, if_pos hd]) rfl rfl
        cases hrun : x.run with
        | false =>
          rw [hrun] at hwant
          have hout : x.chg = false ∧ x.v = .undef := by
            rcases hrow.out with h1 | h1 | h1 | h1
            · exact ⟨h1.2.1, h1.2.2.1⟩
            all_goals (rw [hrun] at h1; cases h1.1)
          refine hnext pt σ X undef w ?_ (J.congr fun i y hy hyc => ?_) ?_
          · rw [← hxo]
            exact I.put D hx hr (hnpan hout.1) (Sg.le_refl σ) (by rw [hout.2]; exact VR.tuple_iff.2 ⟨_, rfl, VRs.nil _⟩)
          · by_cases hij : i = j
            · subst hij; rw [hx] at hy; cases hy; rw [hout.1] at hyc; cases hyc
            · simp [hij]
          · have := stepR_op_skip (P := P) (b := b) (a := a) (k := k) (cs := stk m) (w := w) (ops := OPS) (i := j) (rest := Region.linearise.go .any OPS fuel t' (listed.setIfInBounds j true) []) (by simp [ho, hwant])
            simp only [ho, Option.bind_some] at this
            exact .one this
        | true =>
          rw [hrun] at hwant
          cases hch : x.chg with
          | false =>
            obtain ⟨R, hR, hd⟩ := D.reader hrd I J hx hr hrun hch
            have htm := D.tmR (ρ := σ) I hx hr (L := onames' x.o) (fun d hd => onames_sub ops x.o hd) (fun _ _ _ _ _ h => h)
            obtain ⟨τ, V, w', h1, h2, h3⟩ := opstep (rest := Region.linearise.go .any OPS fuel t' (listed.setIfInBounds j true) []) (k := k) (cs := stk m) (b := b) (e := { x.e with t := only x.e.t (onames' x.o), s := R }) (w := w) hcall hfun hR htm (hsem hd fun _ => by simp) ho hwant (hdop R _ hd)
            refine hnext pt τ X V w' ?_ ((J.quiet h2).congr fun i y hy hyc => ?_) h3
            · rw [← hxo]
              exact I.put D hx hr (hnpan hch) h2.le h1
            · by_cases hij : i = j
              · subst hij; rw [hx] at hy; cases hy; rw [hch] at hyc; cases hyc
              · simp [hij]
          | true =>
            have htm := D.tmR (ρ := σ.cut (stAt l f j).n) I hx hr (L := onames' x.o) (fun d hd => onames_sub ops x.o hd) (hun hch)
            cases hn : x.isNew with
            | true =>
              obtain ⟨⟨_, hnp⟩, y, hy, hd⟩ := D.newRow hx hn
              have hd' := hd { n := (stAt l f j).n, low := 0, o := .leaf } rfl
              have hRg : ∀ id, ({ n := (stAt l f j).n, low := 0, o := .leaf } : Sto).get id = none := fun id => by rw [Sto.get_eq]; split <;> rfl
              have hR : Rel (σ.cut (stAt l f j).n) { n := (stAt l f j).n, low := 0, o := .leaf } w :=
                J.rel.part (show (σ.cut (stAt l f j).n).m = σ.m from rfl) (fun id g hi => by simp only [Sg.cut]; exact if_pos hi) (fun id g z hz => by
                  simp only [Sg.cut] at hz
                  split at hz
                  · assumption
                  · cases hz) (fun id z hz => by rw [hRg] at hz; cases hz) (fun id z hz => by rw [hRg] at hz; cases hz) (fun id _ => rfl)
              obtain ⟨τ, V, w', h1, h2, h3⟩ := opstep (rest := Region.linearise.go .any OPS fuel t' (listed.setIfInBounds j true) []) (k := k) (cs := stk m) (b := b) (e := { x.e with t := only x.e.t (onames' x.o), s := { n := (stAt l f j).n, low := 0, o := .leaf } }) (w := w) hcall hfun hR htm (hsem hd' fun _ => by simp) ho hwant (hdop _ _ hd')
              obtain ⟨X', J', g1, g2⟩ := J.new D hx hn hjnd hy h2
              refine hnext pt _ X' V w' ?_ J' h3
              rw [← hxo]
              exact I.put D hx hr (fun ⟨q1, q, q2⟩ => by rw [hnp q1] at q2; cases q2) g2 (h1.mono g1)
            | false =>
              have hc : x.isChg = true := by
                simp only [TrE.isNew, hch, Bool.true_and] at hn
                simp [TrE.isChg, hch, hn]
              have hxi := D.ix hx
              have hold' : ∀ (i : Nat) z, l[i]? = some z → z.isChg = true → i < j → listed.getD i false = true := by
                intro i z hz hzc hij
                have hsplit : l = l.take i ++ z :: l.drop (i + 1) := by
                  have hil := (List.getElem?_eq_some_iff.1 hz)
                  obtain ⟨hil, hzz⟩ := hil
                  rw [← hzz, List.getElem_cons_drop, List.take_append_drop]
                have hchs : chgs l = chgs (l.take i) ++ i :: chgs (l.drop (i + 1)) := by
                  conv => lhs; rw [hsplit]
                  simp [chgs, List.filter_append, List.filter_cons, hzc, D.ix hz]
                have hch' := D.ch
                rw [hchs] at hch'
                refine chain_done (done := fun i => listed.getD i false = true) I.cl _ i (chainOk_tail _ _ _ hch') j ?_ hr.anc
                refine List.mem_map.2 ⟨x, List.mem_filter.2 ⟨?_, hc⟩, hxi⟩
                refine List.mem_of_getElem? (i := j - (i + 1)) ?_
                rw [List.getElem?_drop, show i + 1 + (j - (i + 1)) = j by omega]; exact hx
              have hnews : ∀ (i : Nat) z, l[i]? = some z → z.isNew = true → i < j → listed.getD i false = true := by
                intro i z hz hzn hij
                have h1 := D.nw
                simp only [newsOk, List.all_eq_true] at h1
                have h2 := h1 j (List.mem_map.2 ⟨x, List.mem_filter.2 ⟨List.mem_of_getElem? hx, hc⟩, hxi⟩) (z.i, z.e.s.n) (List.mem_map.2 ⟨z, List.mem_filter.2 ⟨List.mem_of_getElem? hz, hzn⟩, rfl⟩)
                simp only [Bool.or_eq_true, Nat.blt_eq, D.ix hz] at h2
                rcases h2 with h2 | h2
                · omega
                · exact hr.anc i h2
              obtain ⟨hR, hturn⟩ := J.turn D hx hc hjnd hold' hnews
              have hxs : x.e.s = stAt l f j := hrow.st
              rcases hrow.out with h1 | h1 | h1 | h1
              · rw [h1.2.1] at hch; cases hch
              · rw [h1.2.1] at hch; cases hch
              · have hd' : dop P call x.o { x.e with s := stAt l f j } = some (.val' x.v (stAt l f (j + 1))) := by rw [← hxs]; exact h1.2.2.1
                obtain ⟨τ, V, w', q1, q2, q3⟩ := opstep (rest := Region.linearise.go .any OPS fuel t' (listed.setIfInBounds j true) []) (k := k) (cs := stk m) (b := b) (e := { x.e with t := only x.e.t (onames' x.o), s := stAt l f j }) (w := w) hcall hfun hR htm (hsem hd' fun _ => by simp) ho hwant (hdop _ _ hd')
                obtain ⟨X', J', g1, g2⟩ := hturn q2
                refine hnext (j + 1) _ X' V w' ?_ J' q3
                rw [← hxo]
                exact I.put D hx hr (fun ⟨r1, q, r2⟩ => by rw [h1.2.2.2 r1] at r2; cases r2) g2 (q1.mono g1)
              · obtain ⟨_, _, hlastj, hp, hdp⟩ := h1
                have hd' : dop P call x.o { x.e with s := stAt l f j } = some (.pan x.v (stAt l f (j + 1))) := by rw [← hxs]; exact hdp
                obtain ⟨τ, V, w', q1, q2, q3⟩ := opstep (rest := Region.linearise.go .any OPS fuel t' (listed.setIfInBounds j true) []) (k := k) (cs := stk m) (b := b) (e := { x.e with t := only x.e.t (onames' x.o), s := stAt l f j }) (w := w) hcall hfun hR htm (hsem hd' fun _ => by simp) ho hwant (hdop _ _ hd')
                obtain ⟨X', J', g1, g2⟩ := hturn q2
                have hst := J'.fin D (fun i z hi hz => by
                  have := (List.getElem?_eq_some_iff.1 hz).1
                  omega) (fun i z hz hzn => J'.nwd i z hz hzn (by
                  have := (List.getElem?_eq_some_iff.1 hz).1
                  omega))
                subst hp
                obtain ⟨rfl, rfl⟩ := hend
                obtain ⟨f1, f2, f3, f4, f5, f6, f7⟩ := forget_spec ops { e0 with s := stAt l f (j + 1) }
                have hfs : stAt l f (j + 1) = f.s := by rw [hlastj, stAt_len]
                refine ⟨τ.join σ, a, m, w', ⟨?_, ?_, ?_, ?_, ?_⟩, by rw [f5]; show Stp σ0 e0.s w0 _ (stAt l f (j + 1)) w'; rw [hfs]; exact hst, V, _, q1.mono g1, q3⟩
                · refine ⟨by rw [I.sz, f1], fun d v hv => ?_⟩
                  rw [f1]
                  obtain ⟨v1, v2⟩ := f7 d v hv
                  obtain ⟨u1, u2⟩ := I.tm d v (by
                    rw [← v1]
                    show tabT d _ (e0.t.get d) = e0.t.get d
                    rw [tabT_same (m := []) (by
                      rw [List.filter_nil, List.filter_eq_nil_iff]
                      intro y hy
                      have hy' := (List.mem_filter.1 hy).1
                      obtain ⟨q, hq⟩ := List.getElem?_of_mem hy'
                      have := v2 y.o (List.mem_of_getElem? (D.T.o q y hq))
                      simpa using this)]
                    rfl)
                  exact ⟨u1, u2.mono g2⟩
                · rw [f4, hdf]; exact he0.df.mono J'.ext
                · rw [f6]; exact he0.rc.mono J'.ext
                · rw [f3]; exact he0.fn
                · have := (he0.mono J'.ext).ro
                  rw [f2]; exact this
      · -- behind a panic nothing comes
        exfalso
        cases hp : p with
        | none =>
          have := (D.T.fin hp).1
          omega
        | some q =>
          have h1 := (D.T.pan q.1 q.2 hp).2.1
          have h2 := lastOk_spec ops 0 (hlast q hp) j (by omega) (by omega)
          rw [Nat.zero_add] at h2
          have := (I.dom (l.length - 1) (hr.anc _ h2)).2 (by rw [hp]; simp)
          omega

theorem ddraw_ok (hcall : CallN P call) (hfun : ∀ v args s r x, call v args s r = some x → ∃ f a c, v = .func f a c) {OPS : Array Oper} {id : Nat} {b : Frame} {stk : FrameMode → List Frame} {k : List Item} {σ : Sg} {w : World} {e : Env} {a : Act} {m : FrameMode} {ex : Ex} {e' : Env}
    (hd : ddraw P call OPS.toList e = some (ex, e')) (h : Rel σ e.s w) (he : ER σ b e a m) : COut P σ e.s w (lone (b.atR a (.code (.region id OPS true) :: k)) (stk m) w) b stk k ex e' := by
  unfold ddraw at hd
  split at hd
  · cases hd
  · rename_i l f p htr
    simp only at hd
    cases hcond : (P.follows .mixedOrders && drawOk OPS.toList && chainOk (ancs OPS.toList) (chgs l) && newsOk (ancs OPS.toList) (news l) (chgs l) && growOk l f.s.n && chgsUnder l && readsAll P call f.s.n e.s.n (ancs OPS.toList) l f.s) with
    | false => rw [hcond] at hd; cases hd
    | true =>
      rw [hcond] at hd
      simp only [cond_true] at hd
      simp only [Bool.and_eq_true] at hcond
      obtain ⟨⟨⟨⟨⟨⟨c1, c2⟩, c3⟩, c4⟩, c5⟩, c6⟩, c7⟩ := hcond
      have D : Drawn P call OPS.toList e l f p := ⟨traced _ _ _ _ _ _ htr, c2, c3, c4, c5, c6⟩
      have hend : DEnd OPS.toList e f p ex e' ∧ ∀ q, p = some q → lastOk (ancs OPS.toList) (l.length - 1) OPS.toList 0 = true := by
        split at hd
        · simp at hd; obtain ⟨rfl, rfl⟩ := hd; exact ⟨⟨rfl, rfl⟩, fun q hq => by cases hq⟩
        · rename_i v s
          cases hl : lastOk (ancs OPS.toList) (l.length - 1) OPS.toList 0 with
          | false => rw [hl] at hd; cases hd
          | true =>
            rw [hl] at hd
            simp at hd; obtain ⟨rfl, rfl⟩ := hd
            exact ⟨⟨rfl, rfl⟩, fun _ _ => rfl⟩
      refine COut.of_steps (.one stepR_region_draw) ?_
      simp only [Region.schedule, c1, Bool.true_or, if_true, Region.linearise]
      have hst : Stp σ e.s w σ e.s { w with drawn := w.drawn + 1 } := Stp.world h rfl rfl rfl rfl
      have hrel' := hst.rel
      have hS0 : stAt l f 0 = e.s := D.T.first
      have hn0 : e.s.n ≤ f.s.n := by
        have := D.mono (Nat.zero_le l.length) (Nat.le_refl _)
        rw [stAt_len, hS0] at this
        exact this
      have hfalse : ∀ i, (Array.replicate OPS.size false).getD i false = false := by
        intro i
        by_cases hi : i < OPS.size <;> simp [Array.getD_eq_getD_getElem?, hi]
      have hXg : ∀ id, ({ e.s with n := f.s.n } : Sto).get id = e.s.get id := by
        intro id
        rw [Sto.get_eq, Sto.get_eq]
        show (if id < f.s.n then e.s.o.get id else none) = _
        by_cases h1 : id < e.s.n
        · rw [if_pos h1, if_pos (by omega)]
        · rw [if_neg h1, h.top id (by omega)]; split <;> rfl
      refine COut.after hst (draw_loop hcall hfun rfl D c7 hend.2 (a0 := a) he hend.1 OPS.size _ (Array.replicate OPS.size false) 0 σ { e.s with n := f.s.n } a _ ?_ ?_ (by simp) ?_ rfl)
      · refine ⟨fun j hj => ?_, fun j hj => ?_, he.tm.1, fun d v hv => ?_⟩
        · rw [hfalse] at hj; cases hj
        · rw [hfalse] at hj; cases hj
        · have : l.filter (fun x => (Array.replicate OPS.size false).getD x.i false) = [] := by
            rw [List.filter_eq_nil_iff]
            intro x _
            rw [hfalse]; simp
          rw [this] at hv
          exact he.tm.2 d v hv
      · refine ⟨Nat.zero_le _, fun j x _ _ => by rw [hfalse]; simp, fun j x _ _ hj => by omega, ?_, rfl, fun id x hx => ?_, fun id hid => ?_, fun j y _ _ hd => ?_, fun id x b base sz o hx hs hb => ?_, fun id g x hx => ?_, Sg.le_refl σ, Nat.le_refl _, fun _ _ _ => rfl, ?_, ?_, ?_, ?_, rfl, rfl, rfl, ?_, ?_⟩
        · exact { obj := fun id x hx => hrel'.obj id x (by rw [← hXg]; exact hx), inj := fun id x id' x' b base sz base' sz' h1 h2 => hrel'.inj id x id' x' b base sz base' sz' (by rw [← hXg]; exact h1) (by rw [← hXg]; exact h2),
                  mu := fun b off V hm => ⟨(hrel'.mu b off V hm).1, fun ⟨id, x, base, sz, h1, h2⟩ => (hrel'.mu b off V hm).2 ⟨id, x, base, sz, by rw [← hXg]; exact h1, h2⟩⟩,
                  bnd := fun id g x hx => Nat.lt_of_lt_of_le (hrel'.bnd id g x hx) hn0, gen := fun id x g y h1 h2 => hrel'.gen id x g y (by rw [← hXg]; exact h1) h2,
                  top := fun id hid => h.top id (Nat.le_trans hn0 hid) }
        · rw [hXg] at hx
          rw [hS0]
          exact .inl ⟨Sto.get_lt hx, hx⟩
        · rw [hXg, hS0]
        · rw [hfalse] at hd; cases hd
        · rw [hXg] at hx
          obtain ⟨b', base', sz', o', g1, g2, g3⟩ := hrel'.obj id x hx
          rw [hs] at g1
          obtain ⟨rfl, rfl, rfl⟩ : b = b' ∧ base = base' ∧ sz = sz' := by simpa using g1
          rw [hb] at g2; cases g2
          refine g3.mono ⟨fun id' g' z' hz' => ?_, by exact fun _ _ _ h => h⟩
          have hb' := h.bnd id' g' z' hz'
          simp only [Sg.cut]
          rw [hS0, if_pos (by omega)]
          exact hz'
        · rw [hS0]; exact .inl (h.bnd id g x hx)
        · rintro b ⟨id, x, base, sz, h1, h2⟩
          exact .inl ⟨id, x, base, sz, by rw [← hXg]; exact h1, h2⟩
        · rw [hS0]; exact Nat.le_refl _
        · intro id h1 h2; rw [hS0]; exact ⟨rfl, fun _ => rfl, fun _ _ _ _ _ _ => rfl⟩
        · intro id h1 h2; rw [hS0]; exact ⟨h2, fun _ => rfl⟩
        · intro id hid; rw [hS0] at hid ⊢; exact h.top id hid
        · exact fun b off V hV => .inl hV
      · refine Nat.le_trans (List.countP_le_length) ?_
        simp

end
end Go.Abs
