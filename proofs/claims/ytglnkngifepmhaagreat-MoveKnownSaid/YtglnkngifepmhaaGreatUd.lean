/-
  The abstract machine: loads, stores, new rows.
-/
import Derived.Test.YtglnkngifepmhaaGreatUc
set_option linter.unusedVariables false
set_option linter.unusedSimpArgs false

namespace Go.Abs

theorem addr_add (b o n : Nat) : (⟨b, o, none⟩ : Addr).add n = ⟨b, o + n, none⟩ := by
  unfold Addr.add; split
  · rename_i h; subst h; rfl
  · rfl

section
variable {P : Program} {σ : Sg} {S : Sto} {w : World}

/-! ### types -/
theorem run_underlying_of {t : TypeId} {d : TypeDesc} (h : P.underlying t = some d) (w : World) : (underlying t).run P w = .ok d w := by simp [underlying, h]
theorem run_typeInfo_of {t : TypeId} {i : TypeInfo} (h : P.info? t = some i) (w : World) : (typeInfo t).run P w = .ok i w := by simp [typeInfo, h]
theorem run_sizeOf_of {t : TypeId} {n : Nat} (h : tsz P t = some n) (w : World) : (sizeOf t).run P w = .ok n w := by
  unfold tsz at h
  cases hi : P.info? t with
  | none => simp [hi] at h
  | some i => simp [hi] at h; simp [sizeOf, run_typeInfo_of hi, h]
theorem run_bytes_of {t : TypeId} {n : Nat} (h : tbytes P t = some n) (w : World) : ∃ i, (typeInfo t).run P w = .ok i w ∧ i.bytes = n := by
  unfold tbytes at h
  cases hi : P.info? t with
  | none => simp [hi] at h
  | some i => simp [hi] at h; exact ⟨i, run_typeInfo_of hi w, h⟩
theorem run_isAgg_of {t : TypeId} {b : Bool} (h : tagg P t = some b) (w : World) : (isAgg t).run P w = .ok b w := by
  unfold tagg at h
  cases hu : P.underlying t with
  | none => simp [hu] at h
  | some d =>
    simp [hu] at h
    subst h
    simp only [isAgg, Sem.run_bind, run_underlying_of hu, Result.andThen_ok]
    cases d <;> rfl

/-! ### constants -/
theorem ofVs_ok : ∀ (l : List Value) (r : List AV), ofVs l = some r → VRs σ r l ∧ ∀ x ∈ r, x.isCell = true := by
  intro l
  induction l with
  | nil => intro r h; simp [ofVs] at h; subst h; exact ⟨VRs.nil σ, by simp⟩
  | cons v l ih =>
    intro r h
    simp only [ofVs] at h
    split at h
    · simp at h
    · rename_i a ha
      split at h
      · simp at h
      · rename_i r' hr
        simp only [Option.some.injEq] at h
        subst h
        obtain ⟨h1, h2⟩ := ih r' hr
        have hv : VR σ a v ∧ a.isCell = true := by
          split at ha <;> simp at ha <;> subst ha
          · exact ⟨.bool _, rfl⟩
          · exact ⟨.int _ _, rfl⟩
          · exact ⟨.str _ _ rfl, rfl⟩
          · exact ⟨.nilp, rfl⟩
          · exact ⟨.nils, rfl⟩
          · exact ⟨.nilm, rfl⟩
          · exact ⟨.nilf, rfl⟩
          · exact ⟨.nili, rfl⟩
        exact ⟨VRs.cons hv.1 h1, fun x hx => by rcases List.mem_cons.1 hx with rfl | hx; exact hv.2; exact h2 x hx⟩
theorem ofV_ok (V : Value) : VR σ (ofV V) V := by
  unfold ofV
  split
  · split
    · rename_i l hl; exact VR.agg_iff.2 ⟨_, rfl, (ofVs_ok _ _ hl).1⟩
    · exact .top _
  · split
    · rename_i a ha
      obtain ⟨X, zs, h1, h2, _⟩ := (ofVs_ok (σ := σ) _ _ ha).1.head
      simp at h1
      rw [h1.1]; exact h2
    · exact .top _
theorem ofV_shape (V : Value) : ofV V = .top ∨ (ofV V).isCell = true ∨ ∃ cs, ofV V = .agg cs := by
  unfold ofV
  split
  · split
    · exact .inr (.inr ⟨_, rfl⟩)
    · exact .inl rfl
  · split
    · rename_i a ha
      exact .inr (.inl ((ofVs_ok (σ := Sg.nil) _ _ ha).2 a (by simp)))
    · exact .inl rfl
theorem ofV_agg_cells {V : Value} {cs : List AV} (h : ofV V = .agg cs) : cs.all AV.isCell = true := by
  unfold ofV at h
  split at h
  · split at h
    · rename_i l hl
      simp at h; subst h
      exact List.all_eq_true.2 fun x hx => (ofVs_ok (σ := Sg.nil) _ _ hl).2 x hx
    · cases h
  · split at h
    · rename_i a ha
      have := (ofVs_ok (σ := Sg.nil) _ _ ha).2 a (by simp)
      rw [h] at this; simp [AV.isCell] at this
    · cases h

theorem tzero_ok {t : TypeId} {z : AV} (h : tzero P t = some z) : ∃ Z, (∀ w, (zeroValue t).run P w = .ok Z w) ∧ (∀ σ, VR σ z Z) ∧ (∀ σ, VRs σ z.cells Z.cells.toList) ∧ z.cells.all AV.isCell = true ∧ (z.isCell = true ∨ ∃ cs, z = .agg cs) := by
  unfold tzero at h
  cases hi : P.info? t with
  | none => simp [hi] at h
  | some i =>
    cases hz : i.zero with
    | none => simp [hi, hz] at h
    | some v =>
      simp only [hi, hz, Option.bind_some] at h
      have hv : ofV v = z ∧ z ≠ .top := by
        cases ho : ofV v <;> simp [ho] at h <;> subst h <;> simp
      have hs : z.isCell = true ∨ ∃ cs, z = .agg cs := by
        rcases ofV_shape v with h1 | h1 | h1
        · exact absurd (hv.1 ▸ h1) hv.2
        · exact .inl (hv.1 ▸ h1)
        · exact .inr (hv.1 ▸ h1)
      refine ⟨v, fun w => by simp [zeroValue, run_typeInfo_of hi, hz], fun σ => hv.1 ▸ ofV_ok v, fun σ => VR.cells (hv.1 ▸ ofV_ok v) hs, ?_, hs⟩
      rcases hs with h1 | ⟨cs, rfl⟩
      · cases z <;> first | (simp [AV.isCell] at h1; done) | simp [AV.cells, AV.isCell]
      · exact ofV_agg_cells hv.1

/-! ### environments -/
theorem eval_ok {e : Env} {a : Act} (h : TmR σ e.nt e.t a.tmps) (x : Operand) : VR σ (e.eval x) (a.eval x) := by
  cases x with
  | tmp t =>
    simp only [Env.eval, Act.eval]
    cases hg : e.t.get t with
    | none => exact .top _
    | some v => exact (h.2 t v hg).2
  | const v => exact ofV_ok v
  | global g => exact .top _
  | func f => exact .func _ _ _ _ _ _ (.func f) rfl rfl (by simp) (by simp)
theorem evals_ok {e : Env} {a : Act} (h : TmR σ e.nt e.t a.tmps) (xs : Array Operand) : VRs σ (evals e xs) (xs.map a.eval).toList := by
  unfold evals
  rw [Array.toList_map]
  exact VRs.map _ _ _ fun x _ => eval_ok h x

/-! ### cells -/
theorem Rel.cells {id g n : Nat} {c : Tr AV} (h : Rel σ S w) (hx : S.get id = some (.cells g n c)) : ∃ b base arr el fr, σ id g = some (b, base, arr.size) ∧ w.heap[b]? = some (.cells arr el fr) ∧
    base + n ≤ arr.size ∧ (∀ i a, i < n → c.get i = some a → ∃ V, arr[base + i]? = some V ∧ VR σ a V) ∧ (∀ o, o < arr.size → ¬ (fr.1 ≤ o ∧ o < fr.2)) := by
  obtain ⟨b, base, sz, o, h1, h2, h3⟩ := h.obj id _ hx
  cases h3 with
  | cells _ _ _ arr el fr e1 e2 e3 e4 =>
    subst e1
    exact ⟨b, base, arr, el, fr, h1, h2, e2, e3, e4⟩

theorem loadCells_run (b : Nat) : ∀ (vs : List Value) (o i : Nat) (acc : Array Value), (∀ j v, vs[j]? = some v → w.cell? ⟨b, o + i + j, none⟩ = some v) →
    (loadCellsFrom ⟨b, o, none⟩ i vs.length acc).run P w = .ok (acc ++ vs.toArray) w := by
  intro vs
  induction vs with
  | nil => intro o i acc _; simp [loadCellsFrom]
  | cons v vs ih =>
    intro o i acc h
    have h0 := h 0 v rfl
    simp only [Nat.add_zero] at h0
    simp only [List.length_cons, loadCellsFrom, Sem.run_bind, addr_add, run_load, h0, Result.andThen_ok]
    rw [ih o (i + 1) (acc.push v) (fun j u hj => by
      have := h (j + 1) u (by simpa using hj)
      rw [← this]; congr 2; omega)]
    simp

/-- a row of cells is replaced in part -/
structure Upd (w w' : World) (b : Nat) (o : Obj) : Prop where
  at_ : w'.heap[b]? = some o
  size : w'.heap.size = w.heap.size
  rest : ∀ b', b' ≠ b → w'.heap[b']? = w.heap[b']?
  os : w'.os = w.os
  out : w'.output = w.output
  tape : w'.tape = w.tape

theorem setCell_heap (w : World) (b o : Nat) (v : Value) (arr : Array Value) (el : TypeId) (fr : Nat × Nat) (h : w.heap[b]? = some (.cells arr el fr)) :
    Upd w (w.setCell ⟨b, o, none⟩ v) b (.cells (arr.setIfInBounds o v) el fr) := by
  refine ⟨?_, by simp [World.setCell], fun b' hb => ?_, rfl, rfl, rfl⟩
  · simp [World.setCell, Array.getElem?_modify, h]
  · simp only [World.setCell, Array.getElem?_modify]
    rw [if_neg (Ne.symm hb)]

theorem storeCells_run (b : Nat) (el : TypeId) (fr : Nat × Nat) : ∀ (vs : List Value) (o i : Nat) (w : World) (arr : Array Value), w.heap[b]? = some (.cells arr el fr) → o + i + vs.length ≤ arr.size →
    (∀ v ∈ vs, v.oneCell' = true) → (∀ k, k < arr.size → ¬ (fr.1 ≤ k ∧ k < fr.2)) →
    ∃ w' arr', (storeCells ⟨b, o, none⟩ vs i).run P w = .ok () w' ∧ Upd w w' b (.cells arr' el fr) ∧ arr'.size = arr.size ∧
      ∀ k : Nat, arr'[k]? = if o + i ≤ k ∧ k < o + i + vs.length then vs[k - (o + i)]? else arr[k]? := by
  intro vs
  induction vs with
  | nil =>
    intro o i w arr h _ _ _
    refine ⟨w, arr, by simp [storeCells], ⟨h, rfl, fun _ _ => rfl, rfl, rfl, rfl⟩, rfl, fun k => ?_⟩
    rw [if_neg (by simp)]
  | cons v vs ih =>
    intro o i w arr h hl hc hf
    simp only [List.length_cons] at hl
    have hcell : w.cell? ⟨b, o + i, none⟩ = arr[o + i]? := by simp [World.cell?, h]
    have hlt : o + i < arr.size := by omega
    have hfz : w.frozen? ⟨b, o + i, none⟩ = false := by
      simp only [World.frozen?, h]
      have := hf (o + i) hlt
      simpa using this
    have hs := setCell_heap w b (o + i) v arr el fr h
    obtain ⟨w', arr', h1, h2, h3, h4⟩ := ih o (i + 1) (w.setCell ⟨b, o + i, none⟩ v) (arr.setIfInBounds (o + i) v) hs.at_ (by simp; omega) (fun u hu => hc u (by simp [hu])) (by simpa using hf)
    refine ⟨w', arr', ?_, ⟨h2.at_, h2.size.trans hs.size, fun b' hb => (h2.rest b' hb).trans (hs.rest b' hb), h2.os.trans hs.os, h2.out.trans hs.out, h2.tape.trans hs.tape⟩, by simpa using h3, fun k => ?_⟩
    · simp only [storeCells, Sem.run_bind, addr_add, run_store P w _ v .plain (hc v (by simp)), hcell, Array.getElem?_eq_getElem hlt, hfz, Bool.false_eq_true, if_false, Result.andThen_ok]
      exact h1
    · rw [h4 k, Array.getElem?_setIfInBounds]
      simp only [List.length_cons]
      by_cases hk : k = o + i
      · subst hk
        simp [hlt]
        intro h; omega
      · by_cases hk2 : o + (i + 1) ≤ k ∧ k < o + (i + 1) + vs.length
        · rw [if_pos hk2, if_pos (by omega)]
          rw [show k - (o + i) = (k - (o + (i + 1))) + 1 by omega]
          simp
        · rw [if_neg hk2, if_neg (fun h => hk h.symm), if_neg (by omega)]

/-! ### load, store -/
theorem aload_ok {t : TypeId} {a v : AV} {A : Value} (h : Rel σ S w) (hl : aload P S t a = some v) (ha : VR σ a A) :
    ∃ ad V, A = .pointer (some ad) ∧ (loadVar t ad).run P w = .ok V w ∧ VR σ v V := by
  unfold aload at hl
  split at hl
  · rename_i id g off
    split at hl
    · rename_i g' n c hx
      rw [bif_beq] at hl
      split at hl
      · rename_i hg; subst hg
        obtain ⟨b, base, arr, el, fr, h1, h2, h3, h4, h5⟩ := h.cells hx
        cases ha with
        | ptr _ _ _ b' base' sz' hs =>
          rw [h1] at hs
          obtain ⟨rfl, rfl, rfl⟩ : b = b' ∧ base = base' ∧ arr.size = sz' := by simpa using hs
          refine ⟨⟨b, base + off, none⟩, ?_⟩
          split at hl
          · rename_i k hagg hsz
            rw [bif_ble] at hl
            split at hl
            · rename_i hle
              split at hl
              · rename_i l hrow
                simp at hl; subst hl
                obtain ⟨hlen, hget⟩ := Tr.row_spec c k off l hrow
                have hvs : ∃ vs : List Value, vs.length = k ∧ VRs σ l vs ∧ ∀ (j : Nat) v, vs[j]? = some v → w.cell? ⟨b, base + off + j, none⟩ = some v := by
                  refine ⟨(List.range k).map fun j => arr.getD (base + off + j) undef, by simp, ⟨by simp [hlen], fun j x X hx hX => ?_⟩, fun j v hv => ?_⟩
                  · have hj : j < k := by
                      rw [← hlen]
                      rcases Nat.lt_or_ge j l.length with h' | h'
                      · exact h'
                      · rw [List.getElem?_eq_none h'] at hx; cases hx
                    rw [← hget j hj] at hx
                    obtain ⟨V, e1, e2⟩ := h4 (off + j) x (by omega) hx
                    simp [hj] at hX
                    subst hX
                    rw [← Nat.add_assoc] at e1
                    simp [Array.getD_eq_getD_getElem?, e1, e2]
                  · have hj : j < k := by
                      rcases Nat.lt_or_ge j k with h' | h'
                      · exact h'
                      · rw [List.getElem?_eq_none (by simpa using h')] at hv; cases hv
                    simp [hj] at hv
                    subst hv
                    have hb : base + off + j < arr.size := by omega
                    simp [World.cell?, h2, Array.getD_eq_getD_getElem?, Array.getElem?_eq_getElem hb]
                obtain ⟨vs, hk, hvr, hce⟩ := hvs
                refine ⟨.agg vs.toArray, rfl, ?_, VR.agg_iff.2 ⟨_, rfl, by simpa using hvr⟩⟩
                have := loadCells_run (P := P) (w := w) b vs (base + off) 0 #[] (fun j v hj => by simpa using hce j v hj)
                simp only [loadVar, Sem.run_bind, run_isAgg_of hagg, Result.andThen_ok, if_true, run_sizeOf_of hsz, loadCells]
                rw [← hk, this]
                simp
              · simp at hl
            · simp at hl
          · rename_i hagg
            rw [bif_blt] at hl
            split at hl
            · rename_i hlt
              obtain ⟨V, e1, e2⟩ := h4 off v hlt hl
              refine ⟨V, rfl, ?_, e2⟩
              simp only [loadVar, Sem.run_bind, run_isAgg_of hagg, Result.andThen_ok, Bool.false_eq_true, if_false, run_load]
              have : w.cell? ⟨b, base + off, none⟩ = some V := by simp [World.cell?, h2, e1]
              simp [this]
            · simp at hl
          · simp at hl
      · simp at hl
    · simp at hl
  · rename_i u
    cases ha with
    | pf uu b off h1 h2 =>
      refine ⟨⟨b, off, none⟩, ?_⟩
      split at hl
      · rename_i k cs hagg hsz
        rw [bif_beq] at hl
        split at hl
        · rename_i hk
          simp at hl; subst hl
          have hvs : ∃ vs : List Value, vs.length = k ∧ VRs σ cs vs ∧ ∀ (j : Nat) v, vs[j]? = some v → w.cell? ⟨b, off + j, none⟩ = some v := by
            refine ⟨(List.range k).map fun j => (σ.m b (off + j)).getD undef, by simp, ⟨by simp [hk], fun j x X hx hX => ?_⟩, fun j v hv => ?_⟩
            · have hj : j < k := by
                rw [← hk]
                rcases Nat.lt_or_ge j cs.length with h' | h'
                · exact h'
                · rw [List.getElem?_eq_none h'] at hx; cases hx
              have hs := h2 j (by simpa [AV.cells, hk] using hj)
              obtain ⟨V, hV⟩ := Option.isSome_iff_exists.1 hs
              simp [hj, hV] at hX
              subst hX
              exact h1 j x V hx hV
            · have hj : j < k := by
                rcases Nat.lt_or_ge j k with h' | h'
                · exact h'
                · rw [List.getElem?_eq_none (by simpa using h')] at hv; cases hv
              have hs := h2 j (by simpa [AV.cells, hk] using hj)
              obtain ⟨V, hV⟩ := Option.isSome_iff_exists.1 hs
              simp [hj, hV] at hv
              subst hv
              exact (h.mu b _ _ hV).1
          obtain ⟨vs, hk', hvr, hce⟩ := hvs
          refine ⟨.agg vs.toArray, rfl, ?_, VR.agg_iff.2 ⟨_, rfl, by simpa using hvr⟩⟩
          have := loadCells_run (P := P) (w := w) b vs off 0 #[] (fun j v hj => by simpa using hce j v hj)
          simp only [loadVar, Sem.run_bind, run_isAgg_of hagg, Result.andThen_ok, if_true, run_sizeOf_of hsz, loadCells]
          rw [← hk', this]
          simp
        · simp at hl
      · rename_i uu _ _ _ hagg
        cases hc : uu.isCell with
        | false => rw [hc] at hl; cases hl
        | true =>
          rw [hc] at hl
          obtain rfl : uu = v := by simpa using hl
          have hcs : uu.cells = [uu] := by cases uu <;> first | (simp [AV.isCell] at hc; done) | rfl
          have hs := h2 0 (by simp [hcs])
          obtain ⟨V, hV⟩ := Option.isSome_iff_exists.1 hs
          refine ⟨V, rfl, ?_, h1 0 uu V (by simp [hcs]) hV⟩
          have hce := (h.mu b _ _ hV).1
          simp only [Nat.add_zero] at hce
          simp only [loadVar, Sem.run_bind, run_isAgg_of hagg, Result.andThen_ok, Bool.false_eq_true, if_false, run_load, hce]
      · simp at hl
  · simp at hl

theorem oneCell_of {v : AV} {V : Value} (h : VR σ v V) (hc : v.isCell = true) : V.oneCell' = true := (h.isCell hc).2.1
theorem oneCells_of {cs : List AV} {vs : List Value} (h : VRs σ cs vs) (hc : cs.all AV.isCell = true) : ∀ v ∈ vs, v.oneCell' = true := by
  intro v hv
  obtain ⟨i, hi⟩ := List.getElem?_of_mem hv
  have hl : i < cs.length := by
    rw [h.1]
    rcases Nat.lt_or_ge i vs.length with h' | h'
    · exact h'
    · rw [List.getElem?_eq_none h'] at hi; cases hi
  exact oneCell_of (h.2 i _ v (List.getElem?_eq_getElem hl) hi) (List.all_eq_true.1 hc _ (List.getElem_mem hl))

/-- a part of a row of cells is replaced -/
theorem stp_lay {id g n : Nat} {c : Tr AV} {off : Nat} {cs : List AV} {vs : List Value} {b base o : Nat} (h : Rel σ S w) (hx : S.get id = some (.cells g n c)) (hs : ∃ sz, σ id g = some (b, base, sz)) (hle : off + cs.length ≤ n)
    (hvs : VRs σ cs vs) (hc : cs.all AV.isCell = true) (ho : o = base + off) :
    ∃ w', (storeCells ⟨b, o, none⟩ vs).run P w = .ok () w' ∧ Stp σ S w σ (S.put id (.cells g n (c.lay off cs))) w' := by
  obtain ⟨b', base', arr, el, fr, h1, h2, h3, h4, h5⟩ := h.cells hx
  obtain ⟨sz, hs⟩ := hs
  rw [h1] at hs
  obtain ⟨rfl, rfl, rfl⟩ : b' = b ∧ base' = base ∧ arr.size = sz := by simpa using hs
  subst ho
  obtain ⟨w', arr', e1, e2, e3, e4⟩ := storeCells_run (P := P) b' el fr vs (base' + off) 0 w arr h2 (by rw [← hvs.1]; omega) (oneCells_of hvs hc) h5
  refine ⟨w', e1, stp_put h hx h1 rfl e2.at_ (.cells g n _ arr' el fr e3 (by omega) (fun i a hi ha => ?_) h5) e2.size e2.rest e2.os e2.out e2.tape⟩
  rw [Tr.get_lay] at ha
  simp only [Nat.add_zero] at e4
  split at ha
  · rename_i hr
    obtain ⟨V, hV, hVR⟩ := hvs.get ha
    refine ⟨V, ?_, hVR⟩
    rw [e4, if_pos (by rw [← hvs.1]; omega), ← hV]
    congr 1; omega
  · rename_i hr
    obtain ⟨V, hV, hVR⟩ := h4 i a hi ha
    refine ⟨V, ?_, hVR⟩
    rw [e4, if_neg (by rw [← hvs.1]; omega)]; exact hV

theorem astore_ok {t : TypeId} {a x : AV} {A X : Value} {S' : Sto} (h : Rel σ S w) (hl : astore P S t a x = some S') (ha : VR σ a A) (hx : VR σ x X) :
    ∃ w', (Instr.storeAt t A X).run P w = .ok () w' ∧ Stp σ S w σ S' w' := by
  unfold astore at hl
  split at hl
  · rename_i id g off
    split at hl
    · rename_i g' n c k hget hsz
      cases hcond : (Nat.beq g g' && Nat.ble (off + k) n && Nat.beq x.cells.length k && x.cells.all AV.isCell) with
      | false => simp [hcond] at hl
      | true =>
        simp only [hcond, cond_true, Option.some.injEq] at hl
        subst hl
        simp only [Bool.and_eq_true, Nat.beq_eq, Nat.ble_eq] at hcond
        obtain ⟨⟨⟨rfl, hle⟩, hk⟩, hall⟩ := hcond
        obtain ⟨b, base, arr, el, fr, h1, _⟩ := h.cells hget
        cases ha with
        | ptr _ _ _ b' base' sz' hs =>
          have hcs := VR.cells hx (cells_all_isCell hall)
          obtain ⟨w', e1, e2⟩ := stp_lay (P := P) (o := base' + off) h hget ⟨_, hs⟩ (by omega) hcs hall rfl
          refine ⟨w', ?_, e2⟩
          have hsize : X.cells.size = k := by rw [← hk, hcs.1]; simp
          simp only [Instr.storeAt, Instr.sureAddr, storeVar, Sem.run_bind, Sem.run_pure, Result.andThen_ok, run_sizeOf_of hsz, hsize, ne_eq, not_true_eq_false, if_false]
          simpa using e1
    · simp at hl
  · simp at hl

/-! ### a new row -/
theorem anew_eq {s s' : Sto} {cs : List AV} {id : Nat} (h : anew s cs = some (id, s')) : cs.all AV.isCell = true ∧ id = s.n ∧ s' = s.push (.cells 0 cs.length (Tr.leaf.lay 0 cs)) := by
  unfold anew at h
  cases hc : cs.all AV.isCell with
  | false => simp [hc] at h
  | true => simp [hc] at h; exact ⟨rfl, h.1.symm, h.2.symm⟩

theorem stp_new {cs : List AV} {vs : List Value} {id : Nat} {S' : Sto} {arr : Array Value} (el : TypeId) (fr : Nat × Nat) (h : Rel σ S w) (hn : anew S cs = some (id, S')) (hvs : VRs σ cs vs)
    (hle : vs.length ≤ arr.size) (harr : ∀ (i : Nat) V, vs[i]? = some V → arr[i]? = some V) (hfr : ∀ o, o < arr.size → ¬ (fr.1 ≤ o ∧ o < fr.2)) :
    ∃ τ, Stp σ S w τ S' (w.alloc (.cells arr el fr)) ∧ τ id 0 = some (w.heap.size, 0, arr.size) := by
  obtain ⟨hall, rfl, rfl⟩ := anew_eq hn
  have hnone : σ S.n 0 = none := by
    cases hs : σ S.n 0 with
    | none => rfl
    | some y => exact absurd (h.bnd _ _ _ hs) (Nat.lt_irrefl _)
  refine ⟨σ.upd S.n 0 (w.heap.size, 0, arr.size), stp_push h rfl (.cells 0 _ _ arr el fr rfl (by rw [hvs.1]; omega) (fun i a hi ha => ?_) hfr), Sg.upd_same _ _ _ _⟩
  rw [Tr.get_lay] at ha
  simp only [Nat.zero_add, Nat.zero_le, hi, and_self, if_true, Nat.sub_zero] at ha
  obtain ⟨V, hV, hVR⟩ := hvs.get ha
  exact ⟨V, by rw [Nat.zero_add]; exact harr i V hV, hVR.mono (Sg.le_upd _ hnone)⟩

theorem run_newRow (el : TypeId) (arr : Array Value) : (newRow el arr).run P w = .ok ⟨w.heap.size, 0, none⟩ (w.alloc (.cells arr el)) := by
  simp [newRow]

end
end Go.Abs
