/-
  The abstract machine: methods, and to what a call comes.
-/
import Derived.Test.YtglnkngifepmhaaGreatUl
set_option linter.unusedVariables false
set_option linter.unusedSimpArgs false

namespace Go.Abs

section
variable {P : Program} {σ : Sg} {S : Sto} {w : World}

inductive PlR (σ : Sg) : APl → Place → Prop
  | val (v : AV) (V : Value) : VR σ v V → PlR σ (.val v) (.val V)
  | var (a : AV) (A : Addr) : VR σ a (.pointer (some A)) → PlR σ (.var a) (.var A)

theorem aplget_ok {t : TypeId} {x : APl} {X : Place} {v : AV} (h : Rel σ S w) (hx : x.get P S t = some v) (hr : PlR σ x X) : ∃ V, (X.get t).run P w = .ok V w ∧ VR σ v V := by
  cases hr with
  | val v' V hv => simp [APl.get] at hx; subst hx; exact ⟨V, rfl, hv⟩
  | var a A ha =>
    obtain ⟨ad, V, e1, e2, e3⟩ := aload_ok (P := P) h hx ha
    simp at e1; subst e1
    exact ⟨V, e2, e3⟩

theorem fieldPlace_ok {t : TypeId} {a v : AV} {A : Value} {f : Nat} (h : afieldAddr P t a f = some v) (ha : VR σ a A) :
    ∃ ad ad' fields fd, A = .pointer (some ad) ∧ P.underlying t = some (.struct fields) ∧ fields[f]? = some fd ∧ (∀ w, (fieldPlace ad fd).run P w = .ok ad' w) ∧ VR σ v (.pointer (some ad')) := by
  obtain ⟨V, e1, e2⟩ := afieldAddr_ok (P := P) h ha
  unfold afieldAddr at h
  split at h
  · rename_i fields hu
    split at h
    · rename_i fd hfd
      have hA : ∃ ad, A = .pointer (some ad) := by
        split at h
        · cases ha; exact ⟨_, rfl⟩
        · cases ha; exact ⟨_, rfl⟩
        · simp at h
      obtain ⟨ad, rfl⟩ := hA
      have hrun : ∀ w, ∃ ad', (fieldPlace ad fd).run P w = .ok ad' w ∧ V = .pointer (some ad') := by
        intro w
        have := e1 w
        simp only [Instr.fieldAt, Sem.run_bind, run_underlying_of hu, Result.andThen_ok, hfd, Instr.sureAddr, Sem.run_pure] at this
        generalize hq : (fieldPlace ad fd).run P w = R at this
        cases R with
        | ok a' w' => simp at this; obtain ⟨h1, rfl⟩ := this; exact ⟨a', rfl, h1.symm⟩
        | halt x w' => simp at this
      obtain ⟨ad', h1, rfl⟩ := hrun default
      refine ⟨ad, ad', fields, fd, rfl, hu, hfd, fun w' => ?_, e2⟩
      obtain ⟨ad2, h2, h3⟩ := hrun w'
      simp at h3; subst h3; exact h2
    · simp at h
  · simp at h

theorem afollow_ok (h : Rel σ S w) : ∀ (l : List FieldStep) (t : TypeId) (x : APl) (X : Place) (t' : TypeId) (x' : APl), afollow P S l t x = some (t', x') → PlR σ x X → ∃ X', (follow l t X).run P w = .ok (t', X') w ∧ PlR σ x' X' := by
  intro l
  induction l with
  | nil => intro t x X t' x' he hx; simp [afollow] at he; obtain ⟨rfl, rfl⟩ := he; exact ⟨X, rfl, hx⟩
  | cons st rest ih =>
    intro t x X t' x' he hx
    simp only [afollow] at he
    split at he
    · rename_i fields hu
      split at he
      · rename_i f hf
        cases hd : st.deref with
        | true =>
          simp only [hd, cond_true] at he
          split at he
          · rename_i a ha
            split at he
            · rename_i b hb
              obtain ⟨V, e1, e2⟩ := aplget_ok h ha hx
              obtain ⟨ad, ad', fields', fd, rfl, q1, q2, q3, q4⟩ := fieldPlace_ok (P := P) hb e2
              rw [hu] at q1; cases q1
              rw [hf] at q2; cases q2
              obtain ⟨X', r1, r2⟩ := ih f.type (.var b) (.var ad') t' x' he (.var _ _ q4)
              refine ⟨X', ?_, r2⟩
              simp [follow, run_underlying_of hu, hf, hd, e1, asAddr, q3, r1]
            · simp at he
          · simp at he
        | false =>
          simp only [hd, cond_false] at he
          split at he
          · rename_i a
            split at he
            · rename_i b hb
              cases hx with
              | var _ A hA =>
                obtain ⟨ad, ad', fields', fd, q0, q1, q2, q3, q4⟩ := fieldPlace_ok (P := P) hb hA
                simp at q0; subst q0
                rw [hu] at q1; cases q1
                rw [hf] at q2; cases q2
                obtain ⟨X', r1, r2⟩ := ih f.type (.var b) (.var ad') t' x' he (.var _ _ q4)
                refine ⟨X', ?_, r2⟩
                simp [follow, run_underlying_of hu, hf, hd, q3, r1]
            · simp at he
          · rename_i cs
            split at he
            · rename_i v hv
              cases hx with
              | val _ V hV =>
                obtain ⟨Cs, rfl, hcs⟩ := VR.agg_iff.1 hV
                obtain ⟨V', e1, e2⟩ := apart_ok (P := P) hv hcs
                obtain ⟨X', r1, r2⟩ := ih f.type (.val v) (.val V') t' x' he (.val _ _ e2)
                refine ⟨X', ?_, r2⟩
                simp [follow, run_underlying_of hu, hf, hd, e1, r1]
            · simp at he
          · simp at he
      · simp at he
    · simp at he

theorem run_wrapNil (xt : TypeId) (ad : Addr) (n : String) : Builtin.ssaWrapNilChk_ #[xt] xt #[.pointer (some ad), strVal "", strVal n] = pure (.pointer (some ad)) := rfl

theorem areceiver_ok (h : Rel σ S w) {xt : TypeId} {x : APl} {X : Place} {p : Bool} {r : AV} (wr : Option String) (he : areceiver P S xt x p = some r) (hx : PlR σ x X) : ∃ R, (receiverAt xt X p wr).run P w = .ok R w ∧ VR σ r R := by
  unfold areceiver at he
  split at he
  · rename_i e hu
    obtain ⟨V, e1, e2⟩ := aplget_ok h he hx
    refine ⟨V, ?_, e2⟩
    cases hx <;> simp [receiverAt, run_underlying_of hu, e1]
  · rename_i e hu
    split at he
    · rename_i a ha
      obtain ⟨V, e1, e2⟩ := aplget_ok h ha hx
      obtain ⟨ad, V', rfl, q1, q2⟩ := aload_ok (P := P) h he e2
      refine ⟨V', ?_, q2⟩
      cases wr with
      | none => cases hx <;> simp [receiverAt, run_underlying_of hu, e1, asAddr, q1]
      | some n => cases hx <;> simp [receiverAt, run_underlying_of hu, e1, run_wrapNil, asAddr, q1]
    · simp at he
  · rename_i d a hnp hu
    cases hp : isPtr a with
    | false => simp [hp] at he
    | true =>
      simp [hp] at he; subst he
      cases hx with
      | var _ A hA =>
        refine ⟨.pointer (some A), ?_, hA⟩
        cases d <;> first | exact absurd rfl (hnp _) | (exact (hnp _ rfl).elim) | simp [receiverAt, run_underlying_of hu]
  · simp at he
  · rename_i d hnp hu
    obtain ⟨V, e1, e2⟩ := aplget_ok h he hx
    refine ⟨V, ?_, e2⟩
    cases d <;> first | (exact (hnp _ rfl).elim) | (cases hx <;> simp [receiverAt, run_underlying_of hu, e1])
  · simp at he

theorem amethod_ok (h : Rel σ S w) {t : TypeId} {v r : AV} {V : Value} {name : String} {f : FuncId} (fuel : Nat) (he : amethod P S t v name = some (f, r)) (hv : VR σ v V) : ∃ R, (method (fuel + 1) t V name).run P w = .ok (f, R) w ∧ VR σ r R := by
  unfold amethod at he
  split at he
  · rename_i i hi
    split at he
    · rename_i m hm
      split at he
      · rename_i xt x g p hfo hfn
        split at he
        · rename_i r' hr
          simp at he; obtain ⟨rfl, rfl⟩ := he
          obtain ⟨X', e1, e2⟩ := afollow_ok h _ _ _ (.val V) _ _ hfo (.val _ _ hv)
          obtain ⟨R, q1, q2⟩ := areceiver_ok h (if m.path.isEmpty then some ((name.splitOn ".").getLastD name) else none) hr e2
          refine ⟨R, ?_, q2⟩
          simp only [method, Sem.run_bind, run_typeInfo_of hi, Result.andThen_ok, hm, e1, hfn, q1, Sem.run_pure]
        · simp at he
      · simp at he
    · simp at he
  · simp at he

theorem callFunc_run {f : FuncId} (h : okFn P f = true) (A : Array Value) : (callFunc f A).run P w = .ok (.enter f A) w := by
  unfold okFn at h
  split at h
  · rename_i fn hfn
    simp only [Bool.and_eq_true, bne_iff_ne, ne_eq] at h
    obtain ⟨h1, h2⟩ := h
    have hb : ¬ fn.body = none := by cases hq : fn.body <;> simp [hq] at h2 ⊢
    simp [callFunc, hfn, h1, hb]
  · simp at h

theorem depth_succ : ∃ n, P.types.size + Made.depth = n + 1 := ⟨P.types.size + 99, rfl⟩

theorem callMethod_ok (h : Rel σ S w) {t : TypeId} {v r : AV} {V : Value} {name : String} {f : FuncId} {R : Array Value} (he : amethod P S t v name = some (f, r)) (hv : VR σ v V) (hf : okFn P f = true) :
    ∃ X, (callMethod (.iface t V) name R).run P w = .ok (.enter f (#[X] ++ R)) w ∧ VR σ r X := by
  obtain ⟨n, hn⟩ := depth_succ (P := P)
  obtain ⟨X, e1, e2⟩ := amethod_ok h n he hv
  refine ⟨X, ?_, e2⟩
  simp [callMethod, hn, e1, callFunc_run hf]

/-- what a target says -/
def TgtR (P : Program) (σ : Sg) (w : World) (F : Fn) (C A : Array Value) : ATgt → Prop
  | .fn g as => okFn P g = true → ∃ A', VRs σ as A'.toList ∧ (invoke (.fn F C) A).run P w = .ok (.enter g A') w
  | .round l as => ∃ L b s, F = .yield L ∧ σ l 0 = some (L, b, s) ∧ VRs σ as A.toList

theorem atarget_ok (h : Rel σ S w) {f F : Fn} {first cap args : List AV} {C A : Array Value} {tgt : ATgt} (he : atarget P S (.func f first cap) args = some tgt) (hF : FnR σ f F) (hc : VRs σ cap C.toList)
    (ha : VRs σ (first ++ args) A.toList) : TgtR P σ w F C A tgt := by
  unfold atarget at he
  split at he
  · rename_i g fi ca hfv
    cases hfv
    cases hF
    simp at he; subst he
    intro hok
    refine ⟨A ++ C, ?_, by simp [invoke, callFunc_run hok]⟩
    rw [Array.toList_append, ← List.append_assoc]; exact ha.append hc
  · rename_i l fi ca hfv
    cases hfv
    cases hF with
    | yield _ L b s hl =>
      simp at he; subst he
      exact ⟨L, b, s, rfl, hl, ha⟩
  · rename_i name fi ca hfv
    cases hfv
    cases hF
    split at he
    · rename_i t v rest hq
      split at he
      · rename_i g r hm
        simp at he; subst he
        intro hok
        rw [hq] at ha
        obtain ⟨X, zs, h1, h2, h3⟩ := ha.head
        cases h2 with
        | iface _ _ V hV =>
          have hA : A = #[.iface t V] ++ zs.toArray := Array.toList_inj.1 (by rw [h1]; simp)
          obtain ⟨R, e1, e2⟩ := callMethod_ok (R := zs.toArray) h hm hV hok
          refine ⟨#[R] ++ zs.toArray, by simpa using VRs.cons e2 h3, ?_⟩
          subst hA
          have hext : (#[Value.iface t V] ++ zs.toArray).extract 1 (#[Value.iface t V] ++ zs.toArray).size = zs.toArray := by
            apply Array.toList_inj.1; simp
          simp only [invoke]
          rw [hext]
          simp [e1]
      · simp at he
    · simp at he
  · rename_i t name fi ca hfv
    cases hfv
    cases hF
    split at he
    · rename_i ms t' v rest hu hq
      split at he
      · rename_i g r hm
        simp at he; subst he
        intro hok
        rw [hq] at ha
        obtain ⟨X, zs, h1, h2, h3⟩ := ha.head
        cases h2 with
        | iface _ _ V hV =>
          have hA : A = #[.iface t' V] ++ zs.toArray := Array.toList_inj.1 (by rw [h1]; simp)
          obtain ⟨R, e1, e2⟩ := callMethod_ok (R := zs.toArray) h hm hV hok
          refine ⟨#[R] ++ zs.toArray, by simpa using VRs.cons e2 h3, ?_⟩
          subst hA
          have hext : (#[Value.iface t' V] ++ zs.toArray).extract 1 (#[Value.iface t' V] ++ zs.toArray).size = zs.toArray := by
            apply Array.toList_inj.1; simp
          simp only [invoke]
          rw [hext]
          simp [run_underlying_of hu, e1]
      · simp at he
    · simp at he
    · rename_i d v rest hni hu hq
      split at he
      · rename_i g r hm
        simp at he; subst he
        intro hok
        rw [hq] at ha
        obtain ⟨X, zs, h1, h2, h3⟩ := ha.head
        have hA : A = #[X] ++ zs.toArray := Array.toList_inj.1 (by rw [h1]; simp)
        obtain ⟨R, e1, e2⟩ := callMethod_ok (R := zs.toArray) h hm h2 hok
        refine ⟨#[R] ++ zs.toArray, by simpa using VRs.cons e2 h3, ?_⟩
        subst hA
        have hext : (#[X] ++ zs.toArray).extract 1 (#[X] ++ zs.toArray).size = zs.toArray := by
          apply Array.toList_inj.1; simp
        simp only [invoke]
        rw [hext]
        cases d <;> first | (exact (hni _ rfl).elim) | simp [run_underlying_of hu, e1]
      · simp at he
    · simp at he
  · rename_i t path g p fi ca hfv
    cases hfv
    cases hF
    split at he
    · rename_i x rest hq
      split at he
      · rename_i xt x' hfo
        split at he
        · rename_i r hr
          simp at he; subst he
          intro hok
          rw [hq] at ha
          obtain ⟨X, zs, h1, h2, h3⟩ := ha.head
          have hA : A = #[X] ++ zs.toArray := Array.toList_inj.1 (by rw [h1]; simp)
          obtain ⟨X', e1, e2⟩ := afollow_ok h _ _ _ (.val X) _ _ hfo (.val _ _ h2)
          obtain ⟨R, q1, q2⟩ := areceiver_ok h none hr e2
          refine ⟨#[R] ++ zs.toArray, by simpa using VRs.cons q2 h3, ?_⟩
          subst hA
          have hext : (#[X] ++ zs.toArray).extract 1 (#[X] ++ zs.toArray).size = zs.toArray := by
            apply Array.toList_inj.1; simp
          simp only [invoke]
          rw [hext]
          simp [receiverVia, e1, q1, callFunc_run hok]
        · simp at he
      · simp at he
    · simp at he
  · simp at he

end
end Go.Abs
