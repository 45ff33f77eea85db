/-
  The abstract machine: maps, new slices, assertions, least and greatest.
-/
import Derived.Test.YtglnkngifepmhaaGreatUj
set_option linter.unusedVariables false
set_option linter.unusedSimpArgs false

namespace Go.Abs

section
variable {P : Program} {σ : Sg} {S : Sto} {w : World}

theorem run_getObj_of {r : Nat} {o : Obj} (h : w.heap[r]? = some o) (hc : ∀ c e f, o ≠ .cells c e f) : (getObj r).run P w = .ok o w := by
  simp only [getObj, Sem.run, h]
theorem run_setObj_of {r : Nat} {o o' : Obj} (h : w.heap[r]? = some o) (hc : ∀ c e f, o ≠ .cells c e f) : (setObj r o').run P w = .ok () { w with heap := w.heap.setIfInBounds r o' } := by
  simp only [setObj, Sem.run, h]
theorem upd_setObj {r : Nat} {o o' : Obj} (h : w.heap[r]? = some o) : Upd w { w with heap := w.heap.setIfInBounds r o' } r o' := by
  have hr := (Array.getElem?_eq_some_iff.1 h).1
  refine ⟨?_, by simp, fun b hb => ?_, rfl, rfl, rfl⟩
  · simp [Array.getElem?_setIfInBounds, hr]
  · simp only [Array.getElem?_setIfInBounds]
    rw [if_neg (Ne.symm hb)]

/-- entries -/
inductive EsR (σ : Sg) : List (AV × AV × Nat) → List MapEntry → Prop
  | nil : EsR σ [] []
  | cons (k v : AV) (b : Nat) (E : MapEntry) (es : List (AV × AV × Nat)) (ES : List MapEntry) : VR σ k E.key → VR σ v E.val → E.born = b → EsR σ es ES → EsR σ ((k, v, b) :: es) (E :: ES)

theorem EsR.length {es : List (AV × AV × Nat)} {ES : List MapEntry} (h : EsR σ es ES) : es.length = ES.length := by
  induction h with
  | nil => rfl
  | cons => simp [*]
theorem EsR.of_obj : ∀ (es : List (AV × AV × Nat)) (ES : List MapEntry), es.length = ES.length →
    (∀ (i : Nat) k v b E, es[i]? = some (k, v, b) → ES[i]? = some E → VR σ k E.key ∧ VR σ v E.val ∧ E.born = b) → EsR σ es ES := by
  intro es
  induction es with
  | nil => intro ES h _; cases ES with
    | nil => exact .nil
    | cons => simp at h
  | cons x es ih =>
    intro ES h hr
    cases ES with
    | nil => simp at h
    | cons E ES =>
      obtain ⟨k, v, b⟩ := x
      obtain ⟨h1, h2, h3⟩ := hr 0 k v b E rfl rfl
      exact .cons k v b E es ES h1 h2 h3 (ih ES (by simpa using h) fun i k v b E e1 e2 => hr (i + 1) k v b E (by simpa using e1) (by simpa using e2))
theorem EsR.obj {es : List (AV × AV × Nat)} {ES : List MapEntry} (h : EsR σ es ES) (ck base sz : Nat) : ObjR σ base sz (.map es ck) (.map ES.toArray ck) := by
  refine .map es ck ES.toArray (by simpa using h.length) ?_
  intro i k v b E e1 e2
  simp only [List.getElem?_toArray] at e2
  induction h generalizing i with
  | nil => simp at e1
  | cons k' v' b' E' es ES h1 h2 h3 h4 ih =>
    cases i with
    | zero => simp at e1 e2; obtain ⟨rfl, rfl, rfl⟩ := e1; subst e2; exact ⟨h1, h2, h3⟩
    | succ i => simp at e1 e2; exact ih i e1 e2
theorem EsR.mono {τ : Sg} (h : σ.le τ) {es : List (AV × AV × Nat)} {ES : List MapEntry} (he : EsR σ es ES) : EsR τ es ES := by
  induction he with
  | nil => exact .nil
  | cons k v b E es ES h1 h2 h3 h4 ih => exact .cons _ _ _ _ _ _ (h1.mono h) (h2.mono h) h3 ih

theorem Rel.map {id ck : Nat} {es : List (AV × AV × Nat)} (h : Rel σ S w) (hx : S.get id = some (.map es ck)) : ∃ b base sz ES, σ id 0 = some (b, base, sz) ∧ w.heap[b]? = some (.map ES ck) ∧ EsR σ es ES.toList := by
  obtain ⟨b, base, sz, o, h1, h2, h3⟩ := h.obj id _ hx
  cases h3 with
  | map _ _ ES e1 e2 => exact ⟨b, base, sz, ES, h1, h2, .of_obj _ _ (by simpa using e1) fun i k v b E q1 q2 => e2 i k v b E q1 (by simpa using q2)⟩

theorem keyEq_ok {d : TypeDesc} {k k' : AV} {K K' : Value} {r : Bool} (hk : keyOk d k = true) (h : keyEq k k' = some r) (h1 : VR σ k K) (h2 : VR σ k' K') : Instr.sameNow d K K' = some r ∧ (r = true → K = K' ∧ Instr.sameBits 10000 K' K = true) := by
  unfold keyEq at h
  split at h
  · cases h1; cases h2
    rw [bif_dec] at h
    split at h
    · rename_i he; subst he
      simp at h; subst h
      cases d <;> simp [keyOk] at hk
      refine ⟨by simp [Instr.sameNow, intBeq_eq], fun hr => ?_⟩
      rw [intBeq_eq] at hr
      have := eq_of_beq hr
      subst this
      exact ⟨rfl, by simp [Instr.sameBits]⟩
    · simp at h
  · obtain ⟨b1, rfl, e1⟩ := ofBytesStr h1
    obtain ⟨b2, rfl, e2⟩ := ofBytesStr h2
    simp at h; subst h
    cases d <;> simp [keyOk] at hk
    have : (lbeq Nat.beq (b1.data.toList.map (·.toNat)) (b2.data.toList.map (·.toNat))) = (b1 == b2) := by
      rw [lbeq_map, beq_toListBytes, ByteArray.toList_eq, ByteArray.toList_eq]
    rw [← e1, ← e2, this]
    refine ⟨by simp [Instr.sameNow], fun hr => ?_⟩
    have hr' := hr
    rw [beq_toListBytes, ByteArray.toList_eq, ByteArray.toList_eq] at hr'
    have hb : b1 = b2 := by
      have := eq_of_beq hr'
      cases b1; cases b2
      simp only [ByteArray.mk.injEq]
      exact Array.toList_inj.1 this
    subst hb
    exact ⟨rfl, by simp [Instr.sameBits, hr]⟩
  · cases h1; cases h2
    simp at h; subst h
    cases d <;> simp [keyOk] at hk
    refine ⟨by simp [Instr.sameNow], fun hr => ?_⟩
    have := eq_of_beq hr
    subst this
    exact ⟨rfl, by simp [Instr.sameBits]⟩
  · simp at h

theorem findE_ok {d : TypeDesc} {k : AV} {K : Value} (hk : keyOk d k = true) (hK : VR σ k K) {es : List (AV × AV × Nat)} {ES : List MapEntry} (he : EsR σ es ES) : ∀ (i : Nat) (r : Option (Nat × AV)), findE k es i = some r →
    (r = none ∧ Instr.findNow d K ES i = some none) ∨ (∃ j v V E, r = some (j, v) ∧ Instr.findNow d K ES i = some (some (j, V)) ∧ VR σ v V ∧ i ≤ j ∧ ES[j - i]? = some E ∧ Instr.sameBits 10000 E.key K = true) := by
  induction he with
  | nil => intro i r h; simp [findE] at h; subst h; exact .inl ⟨rfl, rfl⟩
  | cons k' v b E es ES h1 h2 h3 h4 ih =>
    intro i r h
    simp only [findE] at h
    split at h
    · rename_i hq
      simp at h; subst h
      obtain ⟨q1, q2⟩ := keyEq_ok hk hq hK h1
      exact .inr ⟨i, v, E.val, E, rfl, by simp [Instr.findNow, q1], h2, Nat.le_refl _, by simp, (q2 rfl).2⟩
    · rename_i hq
      obtain ⟨q1, q2⟩ := keyEq_ok hk hq hK h1
      rcases ih (i + 1) r h with ⟨rfl, e⟩ | ⟨j, v', V, E', rfl, e, e2, e3, e4, e5⟩
      · exact .inl ⟨rfl, by simp [Instr.findNow, q1, e]⟩
      · refine .inr ⟨j, v', V, E', rfl, by simp [Instr.findNow, q1, e], e2, by omega, ?_, e5⟩
        rw [show j - i = (j - (i + 1)) + 1 by omega]; simpa using e4
    · simp at h

theorem run_checkKey {b : Bool} {n : Nat} {t : TypeId} {d : TypeDesc} {k : AV} {K : Value} (hu : P.underlying t = some d) (hk : keyOk d k = true) (hK : VR σ k K) : (Instr.checkKey b (n + 1) t K).run P w = .ok () w := by
  unfold keyOk at hk
  split at hk
  · cases hK; simp [Instr.checkKey, run_underlying_of hu]
  · obtain ⟨bs, rfl, _⟩ := ofBytesStr hK; simp [Instr.checkKey, run_underlying_of hu]
  · cases hK; simp [Instr.checkKey, run_underlying_of hu]
  · simp at hk

theorem amapDesc_ok {t : TypeId} {d : TypeDesc} {e : TypeId} (h : amapDesc P t = some (d, e)) : ∃ k, P.underlying t = some (.map k e) ∧ P.underlying k = some d := by
  unfold amapDesc at h
  split at h
  · rename_i k e' hu
    split at h
    · rename_i d' hd
      simp at h; obtain ⟨rfl, rfl⟩ := h
      exact ⟨k, hu, hd⟩
    · simp at h
  · simp at h

theorem run_findKey {t : TypeId} {d : TypeDesc} {K : Value} {ES : List MapEntry} {r : Option (Nat × Value)} (hu : P.underlying t = some d) (h : Instr.findNow d K ES 0 = some r) : (Instr.findKey t K ES).run P w = .ok r w := by
  simp [Instr.findKey, run_underlying_of hu, h]

theorem checkKey_10000 {b : Bool} {t : TypeId} {d : TypeDesc} {k : AV} {K : Value} (hu : P.underlying t = some d) (hk : keyOk d k = true) (hK : VR σ k K) : (Instr.checkKey b 10000 t K).run P w = .ok () w :=
  run_checkKey (n := 9999) hu hk hK

theorem alookup_ok {t : TypeId} {m k v : AV} {M K : Value} {ok : Bool} (h : Rel σ S w) (ha : alookup P S t m k ok = some v) (hm : VR σ m M) (hk : VR σ k K) : ∃ V, (Instr.lookup t M K ok).run P w = .ok V w ∧ VR σ v V := by
  unfold alookup at ha
  split at ha
  · rename_i d e hd
    obtain ⟨kt, hu, huk⟩ := amapDesc_ok hd
    cases hkk : keyOk d k with
    | false => simp only [hkk, cond_false, reduceCtorEq] at ha
    | true =>
      simp only [hkk, cond_true] at ha
      have hck := fun b => checkKey_10000 (P := P) (w := w) (b := b) huk hkk hk
      have hfound : ∀ V v', VR σ v' V → VR σ (bif ok then .tuple [v', .bool true] else v') (if ok then .tuple #[V, .bool true] else V) := by
        intro V v' hv
        cases ok
        · exact hv
        · exact VR.tuple_iff.2 ⟨_, rfl, VRs.cons hv (VRs.cons (.bool _) (VRs.nil _))⟩
      have hmiss : ∀ V v', VR σ v' V → VR σ (bif ok then .tuple [v', .bool false] else v') (if ok then .tuple #[V, .bool false] else V) := by
        intro V v' hv
        cases ok
        · exact hv
        · exact VR.tuple_iff.2 ⟨_, rfl, VRs.cons hv (VRs.cons (.bool _) (VRs.nil _))⟩
      split at ha
      · rename_i q v' hf
        simp at ha; subst ha
        split at hf
        · simp at hf
        · rename_i id
          split at hf
          · rename_i es ck hg
            obtain ⟨b, base, sz, ES, h1, h2, h3⟩ := h.map hg
            cases hm with
            | map _ b' base' sz' hs =>
              rw [h1] at hs
              obtain ⟨rfl, rfl, rfl⟩ : b = b' ∧ base = base' ∧ sz = sz' := by simpa using hs
              rcases findE_ok hkk hk h3 0 _ hf with ⟨e1, _⟩ | ⟨j, v2, V, E, e1, e2, e3, _⟩
              · cases e1
              · simp at e1; obtain ⟨rfl, rfl⟩ := e1
                refine ⟨_, ?_, hfound V v' e3⟩
                simp [Instr.lookup, run_underlying_of hu, run_getObj_of h2 (fun _ _ _ => by simp), hck, run_findKey huk e2]
          · simp at hf
        · simp at hf
      · rename_i hf
        split at ha
        · rename_i z hz
          obtain ⟨Z, z1, z2, _⟩ := tzero_ok hz
          simp at ha; subst ha
          split at hf
          · cases hm
            refine ⟨_, ?_, hmiss Z z (z2 σ)⟩
            have : Instr.findNow d K [] 0 = some none := rfl
            simp [Instr.lookup, run_underlying_of hu, hck, run_findKey huk this, z1]
          · rename_i id
            split at hf
            · rename_i es ck hg
              obtain ⟨b, base, sz, ES, h1, h2, h3⟩ := h.map hg
              cases hm with
              | map _ b' base' sz' hs =>
                rw [h1] at hs
                obtain ⟨rfl, rfl, rfl⟩ : b = b' ∧ base = base' ∧ sz = sz' := by simpa using hs
                rcases findE_ok hkk hk h3 0 _ hf with ⟨_, e2⟩ | ⟨j, v2, V, E, e1, e2, e3, _⟩
                · refine ⟨_, ?_, hmiss Z z (z2 σ)⟩
                  simp [Instr.lookup, run_underlying_of hu, run_getObj_of h2 (fun _ _ _ => by simp), hck, run_findKey huk e2, z1]
                · cases e1
            · simp at hf
          · simp at hf
        · simp at ha
      · simp at ha
  · simp at ha

theorem EsR.set {es : List (AV × AV × Nat)} {ES : List MapEntry} (h : EsR σ es ES) (i : Nat) {k v : AV} {K V : Value} (hk : VR σ k K) (hv : VR σ v V) : EsR σ (setE es i k v) (ES.modify i fun e => { e with key := K, val := V }) := by
  induction h generalizing i with
  | nil => cases i <;> exact .nil
  | cons k' v' b E es ES h1 h2 h3 h4 ih =>
    cases i with
    | zero => exact .cons _ _ _ _ _ _ hk hv h3 h4
    | succ i => exact .cons _ _ _ _ _ _ h1 h2 h3 (ih i)
theorem EsR.del {es : List (AV × AV × Nat)} {ES : List MapEntry} (h : EsR σ es ES) (i : Nat) : EsR σ (delE es i) (ES.eraseIdx i) := by
  induction h generalizing i with
  | nil => cases i <;> exact .nil
  | cons k' v' b E es ES h1 h2 h3 h4 ih =>
    cases i with
    | zero => exact h4
    | succ i => exact .cons _ _ _ _ _ _ h1 h2 h3 (ih i)
theorem EsR.append {a b : List (AV × AV × Nat)} {A B : List MapEntry} (h : EsR σ a A) (h' : EsR σ b B) : EsR σ (a ++ b) (A ++ B) := by
  induction h with
  | nil => exact h'
  | cons k' v' b E es ES h1 h2 h3 h4 ih => exact .cons _ _ _ _ _ _ h1 h2 h3 ih

theorem amapUpdate_ok {t : TypeId} {m k v : AV} {M K V : Value} {S' : Sto} (h : Rel σ S w) (ha : amapUpdate P S t m k v = some S') (hm : VR σ m M) (hk : VR σ k K) (hv : VR σ v V) :
    ∃ w', (Instr.mapUpdate t M K V).run P w = .ok () w' ∧ Stp σ S w σ S' w' := by
  unfold amapUpdate at ha
  split at ha
  · rename_i d e id hd
    obtain ⟨kt, hu, huk⟩ := amapDesc_ok hd
    cases hkk : keyOk d k with
    | false => simp only [hkk, cond_false, reduceCtorEq] at ha
    | true =>
      simp only [hkk, cond_true] at ha
      split at ha
      · rename_i es ck hg
        obtain ⟨b, base, sz, ES, h1, h2, h3⟩ := h.map hg
        cases hm with
        | map _ b' base' sz' hs =>
          rw [h1] at hs
          obtain ⟨rfl, rfl, rfl⟩ : b = b' ∧ base = base' ∧ sz = sz' := by simpa using hs
          have hck := checkKey_10000 (P := P) (w := w) (b := false) huk hkk hk
          split at ha
          · rename_i i v' hf
            simp at ha; subst ha
            rcases findE_ok hkk hk h3 0 _ hf with ⟨e1, _⟩ | ⟨j, v2, V', E, e1, e2, e3, e4, e5, e6⟩
            · cases e1
            · simp at e1; obtain ⟨rfl, rfl⟩ := e1
              have hE : ES[i]? = some E := by simpa using e5
              have ho := upd_setObj (o' := .map (ES.modify i fun e => { e with key := K, val := V }) ck) h2
              refine ⟨_, ?_, stp_put h hg h1 rfl ho.at_ ?_ ho.size ho.rest ho.os ho.out ho.tape⟩
              · simp [Instr.mapUpdate, run_underlying_of hu, run_getObj_of h2 (fun _ _ _ => by simp), hck, run_findKey huk e2, hE, Instr.keyThatStays, e6, run_setObj_of h2 (fun _ _ _ => by simp)]
              · have := (h3.set i hk hv).obj ck base sz
                have hh : (ES.toList.modify i fun e => { e with key := K, val := V }).toArray = ES.modify i fun e => { e with key := K, val := V } := by
                  apply Array.toList_inj.1; simp
                rw [hh] at this; exact this
          · rename_i hf
            simp at ha; subst ha
            rcases findE_ok hkk hk h3 0 _ hf with ⟨_, e2⟩ | ⟨j, v2, V', E, e1, _⟩
            · have ho := upd_setObj (o' := .map (ES.push { key := K, val := V, born := ck }) (ck + 1)) h2
              refine ⟨_, ?_, stp_put h hg h1 rfl ho.at_ ?_ ho.size ho.rest ho.os ho.out ho.tape⟩
              · simp [Instr.mapUpdate, run_underlying_of hu, run_getObj_of h2 (fun _ _ _ => by simp), hck, run_findKey huk e2, run_setObj_of h2 (fun _ _ _ => by simp)]
              · have := (h3.append (.cons k v ck { key := K, val := V, born := ck } [] [] hk hv rfl .nil)).obj (ck + 1) base sz
                have hh : (ES.toList ++ [({ key := K, val := V, born := ck } : MapEntry)]).toArray = ES.push { key := K, val := V, born := ck } := by
                  apply Array.toList_inj.1; simp
                rw [hh] at this; exact this
            · cases e1
          · simp at ha
      · simp at ha
  · simp at ha

theorem adelete_ok {t u : TypeId} {m k : AV} {M K : Value} {S' : Sto} (h : Rel σ S w) (ha : adelete P S t m k = some S') (hm : VR σ m M) (hk : VR σ k K) :
    ∃ w', (∀ (ts : Array TypeId), ts[0]? = some t → (Builtin.delete_ ts u #[M, K]).run P w = .ok (.tuple #[]) w') ∧ Stp σ S w σ S' w' := by
  unfold adelete at ha
  split at ha
  · rename_i d e hd
    obtain ⟨kt, hu, huk⟩ := amapDesc_ok hd
    cases hkk : keyOk d k with
    | false => simp only [hkk, cond_false, reduceCtorEq] at ha
    | true =>
      simp only [hkk, cond_true, Option.some.injEq] at ha
      subst ha
      cases hm
      refine ⟨w, fun ts hts => ?_, Stp.refl h⟩
      simp [Builtin.delete_, hts, run_underlying_of hu, checkKey_10000 (P := P) (w := w) huk hkk hk]
  · rename_i d e id hd
    obtain ⟨kt, hu, huk⟩ := amapDesc_ok hd
    cases hkk : keyOk d k with
    | false => simp only [hkk, cond_false, reduceCtorEq] at ha
    | true =>
      simp only [hkk, cond_true] at ha
      split at ha
      · rename_i es ck hg
        obtain ⟨b, base, sz, ES, h1, h2, h3⟩ := h.map hg
        cases hm with
        | map _ b' base' sz' hs =>
          rw [h1] at hs
          obtain ⟨rfl, rfl, rfl⟩ : b = b' ∧ base = base' ∧ sz = sz' := by simpa using hs
          have hck := fun b => checkKey_10000 (P := P) (w := w) (b := b) huk hkk hk
          split at ha
          · rename_i i v' hf
            simp at ha; subst ha
            rcases findE_ok hkk hk h3 0 _ hf with ⟨e1, _⟩ | ⟨j, v2, V', E, e1, e2, e3, e4, e5, e6⟩
            · cases e1
            · simp at e1; obtain ⟨rfl, rfl⟩ := e1
              have ho := upd_setObj (o' := .map (ES.eraseIdxIfInBounds i) ck) h2
              refine ⟨_, fun ts hts => ?_, stp_put h hg h1 rfl ho.at_ ?_ ho.size ho.rest ho.os ho.out ho.tape⟩
              · simp [Builtin.delete_, hts, run_underlying_of hu, run_getObj_of h2 (fun _ _ _ => by simp), hck, run_findKey huk e2, run_setObj_of h2 (fun _ _ _ => by simp)]
              · have := (h3.del i).obj ck base sz
                have hh : (ES.toList.eraseIdx i).toArray = ES.eraseIdxIfInBounds i := by
                  apply Array.toList_inj.1; simp
                rw [hh] at this; exact this
          · rename_i hf
            simp at ha; subst ha
            rcases findE_ok hkk hk h3 0 _ hf with ⟨_, e2⟩ | ⟨j, v2, V', E, e1, _⟩
            · have ho := upd_setObj (o' := .map ES ck) h2
              refine ⟨_, fun ts hts => ?_, stp_put h hg h1 rfl ho.at_ ?_ ho.size ho.rest ho.os ho.out ho.tape⟩
              · simp [Builtin.delete_, hts, run_underlying_of hu, run_getObj_of h2 (fun _ _ _ => by simp), hck, run_findKey huk e2, run_setObj_of h2 (fun _ _ _ => by simp)]
              · have := h3.obj ck base sz
                simpa using this
            · cases e1
          · simp at ha
      · simp at ha
  · simp at ha

end
end Go.Abs
