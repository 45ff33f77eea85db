/-
  The abstract machine: operators, conversions, composite values.
-/
import Derived.Test.YtglnkngifepmhaaGreatUg
import Derived.Laws.BytesString
set_option linter.unusedVariables false
set_option linter.unusedSimpArgs false

namespace Go.Abs

section
variable {P : Program} {σ : Sg} {S : Sto} {w : World}

theorem aguard_ok {d : Nat} {op : BinOp} {t : TypeId} {x y : Operand} {a b : AV} {A B : Value} {r : Bool} (ho : op = .eql ∨ op = .neq) (h : aguard P op t x y a b = true) (he : aeq P (d + 1) t a b = some r) (ha : VR σ a A) (hb : VR σ b B) (w : World) :
    (eqGuard op t x y A B).run P w = .ok () w := by
  simp only [aeq] at he
  split at he <;> first
    | (rename_i hu
       cases ha; cases hb
       rcases ho with rfl | rfl
       · simp [eqGuard]
       · simp [eqGuard])
    | skip
  · rename_i hu
    cases ha; cases hb
    rcases ho with rfl | rfl
    · simp only [aguard, Bool.or_eq_true] at h
      cases x <;> cases y <;> simp [eqGuard] at h ⊢
    · simp only [aguard, Bool.or_eq_true] at h
      cases x <;> cases y <;> simp [eqGuard] at h ⊢
  · rename_i xs ys hu
    obtain ⟨Xs, rfl, _⟩ := VR.agg_iff.1 ha
    obtain ⟨Ys, rfl, _⟩ := VR.agg_iff.1 hb
    refine run_eqGuard_agg w op t x y Xs Ys ?_
    rcases ho with rfl | rfl <;> simpa [aguard] using h
  · rename_i xs ys hu
    obtain ⟨Xs, rfl, _⟩ := VR.agg_iff.1 ha
    obtain ⟨Ys, rfl, _⟩ := VR.agg_iff.1 hb
    refine run_eqGuard_agg w op t x y Xs Ys ?_
    rcases ho with rfl | rfl <;> simpa [aguard] using h
  · obtain ⟨rfl, ⟨e, hu⟩, ⟨a, n, C, rfl, rfl⟩ | ⟨a, n, C, rfl, rfl⟩⟩ := aeqFz_inv he ha hb
    · rcases ho with rfl | rfl <;> simp [eqGuard]
    · rcases ho with rfl | rfl <;> simp [eqGuard]

theorem abinEq_ok {d : Nat} (hd : d + 1 = Op.maxDepth) {t : TypeId} {a b : AV} {A B : Value} {r : Bool} (he : aeq P (d + 1) t a b = some r) (ha : VR σ a A) (hb : VR σ b B) (w : World) :
    (binOp .eql t A B).run P w = .ok (.bool r) w ∧ (binOp .neq t A B).run P w = .ok (.bool (!r)) w := by
  have hq := aeq_ok (d + 1) t a b r A B he ha hb w
  have hq' : (Op.equal t A B).run P w = .ok r w := by rw [Op.equal, ← hd]; exact hq
  simp only [aeq] at he
  split at he <;> first
    | (cases he; done)
    | (rename_i hu; cases ha; cases hb; constructor <;> (simp [binOp, hq']; done))
    | skip
  · rename_i hu
    cases ha; cases hb
    rw [bif_dec] at he
    split at he
    · rename_i hk; subst hk
      simp at he; subst he
      simp [binOp, Op.intCmp, intBeq_eq, bne]
    · simp at he
  · rename_i hu
    obtain ⟨bx, rfl, hbx⟩ := ofBytesStr ha
    obtain ⟨bz, rfl, hby⟩ := ofBytesStr hb
    simp at he; subst he
    simp only [binOp, Op.stringOp, ← hbx, ← hby, lbeq_map, ByteArray.toList_eq]
    exact ⟨rfl, rfl⟩
  · obtain ⟨rfl, ⟨e, hu⟩, ⟨a, n, C, rfl, rfl⟩ | ⟨a, n, C, rfl, rfl⟩⟩ := aeqFz_inv he ha hb
    · constructor <;> simp [binOp, hq']
    · constructor <;> simp [binOp, hq']

theorem abin_ok {op : BinOp} {t : TypeId} {x y : Operand} {a b v : AV} {A B : Value} (h : abin P op t x y a b = some v) (ha : VR σ a A) (hb : VR σ b B) :
    ∃ V, (∀ w, (do eqGuard op t x y A B; binOp op t A B : Sem Value).run P w = .ok V w) ∧ VR σ v V := by
  unfold abin at h
  split at h
  · cases ha; cases hb
    rw [bif_dec] at h
    split at h
    · simp at h
    · rename_i hn
      rw [mkInt_eq] at h; simp at h; subst h
      exact ⟨_, fun w => by simp [eqGuard_int, binOp, Op.shift, hn], .int _ _⟩
  · cases ha; cases hb
    rw [bif_dec] at h
    split at h
    · simp at h
    · rename_i hn
      rw [mkInt_eq] at h; simp at h; subst h
      exact ⟨_, fun w => by simp [eqGuard_int, binOp, Op.shift, hn], .int _ _⟩
  · rename_i op k a k' b h1 h2
    cases ha; cases hb
    rw [bif_dec] at h
    split at h
    · rename_i hk; subst hk
      obtain ⟨V, e1, e2⟩ := aintOp_ok (P := P) (σ := σ) h h1 h2 t
      exact ⟨V, fun w => by simp [eqGuard_int, e1], e2⟩
    · simp at h
  · obtain ⟨bx, rfl, hbx⟩ := ofBytesStr ha
    obtain ⟨bz, rfl, hby⟩ := ofBytesStr hb
    obtain ⟨V, e1, e2⟩ := astrOp_ok (P := P) (σ := σ) h hbx hby t
    exact ⟨V, fun w => by simp [eqGuard_str, e1], e2⟩
  · cases hg : aguard P .eql t x y a b with
    | false => simp [hg] at h
    | true =>
      simp only [hg, cond_true] at h
      split at h
      · rename_i r he
        simp at h; subst h
        exact ⟨_, fun w => by simp [aguard_ok (d := 9999) (.inl rfl) hg he ha hb w, (abinEq_ok (d := 9999) rfl he ha hb w).1], .bool _⟩
      · simp at h
  · cases hg : aguard P .neq t x y a b with
    | false => simp [hg] at h
    | true =>
      simp only [hg, cond_true] at h
      split at h
      · rename_i r he
        simp at h; subst h
        exact ⟨_, fun w => by simp [aguard_ok (d := 9999) (.inr rfl) hg he ha hb w, (abinEq_ok (d := 9999) rfl he ha hb w).2], .bool _⟩
      · simp at h
  · simp at h

theorem aun_ok {op : UnOp} {a v : AV} {A : Value} (h : aun op a = some v) (ha : VR σ a A) : ∃ V, (∀ w, (Op.unary op A).run P w = .ok V w) ∧ VR σ v V := by
  unfold aun at h
  split at h
  · cases ha; rw [mkInt_eq] at h; simp at h; subst h; exact ⟨_, fun w => by simp [Op.unary, Op.intArith], .int _ _⟩
  · cases ha; rw [mkInt_eq] at h; simp at h; subst h; exact ⟨_, fun w => by simp [Op.unary, Op.intBits], .int _ _⟩
  · cases ha; simp at h; subst h; exact ⟨_, fun w => by simp [Op.unary], .bool _⟩
  · simp at h

/-! ### composite values -/
/-- the model's filling of parts, over lists -/
theorem fill_ok (place : Nat → Option (Nat × Nat)) : ∀ (parts : List (Nat × AV)) (PARTS : List (Nat × Value)) (cs cs' : List AV) (Cs : Array Value), fillA place cs parts = some cs' → VRs σ cs Cs.toList →
    parts.length = PARTS.length → (∀ (i : Nat) n x N X, parts[i]? = some (n, x) → PARTS[i]? = some (N, X) → n = N ∧ VR σ x X) → cs.all AV.isCell = true →
    ∃ Cs', Instr.fill place Cs PARTS = some Cs' ∧ VRs σ cs' Cs'.toList ∧ cs'.all AV.isCell = true ∧ cs'.length = cs.length := by
  intro parts
  induction parts with
  | nil =>
    intro PARTS cs cs' Cs h hcs hl _ hall
    cases PARTS with
    | cons _ _ => simp at hl
    | nil => simp [fillA] at h; subst h; exact ⟨Cs, rfl, hcs, hall, rfl⟩
  | cons p parts ih =>
    intro PARTS cs cs' Cs h hcs hl hp hall
    cases PARTS with
    | nil => simp at hl
    | cons Q PARTS =>
      obtain ⟨n, x⟩ := p
      obtain ⟨N, X⟩ := Q
      obtain ⟨rfl, hx⟩ := hp 0 n x N X rfl rfl
      simp only [fillA] at h
      cases hpl : place n with
      | none => simp [hpl] at h
      | some q =>
        obtain ⟨off, size⟩ := q
        simp only [hpl] at h
        cases hc : (Nat.beq x.cells.length size && Nat.ble (off + size) cs.length && x.cells.all AV.isCell) with
        | false => simp [hc] at h
        | true =>
          simp only [hc, cond_true] at h
          simp only [Bool.and_eq_true, Nat.beq_eq, Nat.ble_eq] at hc
          obtain ⟨⟨h1, h2⟩, h3⟩ := hc
          have hxc := VR.cells hx (cells_all_isCell h3)
          have hsz : X.cells.size = size := by rw [← h1, hxc.1]; simp
          have hlen : cs.length = Cs.size := by rw [hcs.1]; simp
          let Cs1 : Array Value := X.cells.zipIdx.foldl (fun cs (c, j) => cs.setIfInBounds (off + j) c) Cs
          have hfold : ∀ (l : List Value) (o : Nat) (A : Array Value), off + o + l.length ≤ A.size →
              ((l.zipIdx o).foldl (fun cs (c, j) => cs.setIfInBounds (off + j) c) A).size = A.size ∧
              ∀ k : Nat, ((l.zipIdx o).foldl (fun cs (c, j) => cs.setIfInBounds (off + j) c) A)[k]? = if off + o ≤ k ∧ k < off + o + l.length then l[k - (off + o)]? else A[k]? := by
            intro l
            induction l with
            | nil => intro o A _; exact ⟨rfl, fun k => by rw [if_neg (by simp)]; rfl⟩
            | cons c l ihl =>
              intro o A hA
              simp only [List.length_cons] at hA
              simp only [List.zipIdx_cons, List.foldl_cons]
              obtain ⟨e1, e2⟩ := ihl (o + 1) (A.setIfInBounds (off + o) c) (by simp; omega)
              refine ⟨by rw [e1]; simp, fun k => ?_⟩
              rw [e2, Array.getElem?_setIfInBounds]
              simp only [List.length_cons]
              by_cases hk : k = off + o
              · subst hk
                have : off + o < A.size := by omega
                simp [this]; intro h; omega
              · by_cases hk2 : off + (o + 1) ≤ k ∧ k < off + (o + 1) + l.length
                · rw [if_pos hk2, if_pos (by omega), show k - (off + o) = (k - (off + (o + 1))) + 1 by omega]; simp
                · rw [if_neg hk2, if_neg (fun e => hk e.symm), if_neg (by omega)]
          have hF := hfold X.cells.toList 0 Cs (by simp [hsz]; omega)
          have hzip : X.cells.zipIdx.foldl (fun cs (c, j) => cs.setIfInBounds (off + j) c) Cs = (X.cells.toList.zipIdx 0).foldl (fun cs (c, j) => cs.setIfInBounds (off + j) c) Cs := by
            rw [← Array.foldl_toList, Array.toList_zipIdx]
          have hCs1 : Cs1 = (X.cells.toList.zipIdx 0).foldl (fun cs (c, j) => cs.setIfInBounds (off + j) c) Cs := hzip
          have hVR1 : VRs σ (cs.take off ++ x.cells ++ cs.drop (off + size)) Cs1.toList := by
            refine ⟨by rw [hCs1]; simp [hF.1, h1]; omega, fun k y Y hy hY => ?_⟩
            rw [hCs1, Array.getElem?_toList, hF.2] at hY
            simp only [Nat.add_zero, Array.length_toList, hsz] at hY
            by_cases hk1 : k < off
            · rw [if_neg (by omega)] at hY
              rw [List.append_assoc, List.getElem?_append_left (by simp; omega), List.getElem?_take, if_pos hk1] at hy
              exact hcs.2 k y Y hy (by simpa using hY)
            · by_cases hk2 : k < off + size
              · rw [if_pos (by omega)] at hY
                rw [List.append_assoc, List.getElem?_append_right (by simp; omega)] at hy
                have hto : (cs.take off).length = off := by simp; omega
                rw [hto, List.getElem?_append_left (by omega)] at hy
                exact hxc.2 (k - off) y Y hy (by simpa using hY)
              · rw [if_neg (by omega)] at hY
                have hto : (cs.take off).length = off := by simp; omega
                rw [List.append_assoc, List.getElem?_append_right (by omega), hto, List.getElem?_append_right (by omega), List.getElem?_drop] at hy
                exact hcs.2 k y Y (by rw [← hy]; congr 1; omega) (by simpa using hY)
          have hall1 : (cs.take off ++ x.cells ++ cs.drop (off + size)).all AV.isCell = true := by
            simp only [List.all_append, Bool.and_eq_true]
            refine ⟨⟨List.all_eq_true.2 fun y hy => List.all_eq_true.1 hall y (List.mem_of_mem_take hy), h3⟩, List.all_eq_true.2 fun y hy => List.all_eq_true.1 hall y (List.mem_of_mem_drop hy)⟩
          obtain ⟨Cs', e1, e2, e3, e4⟩ := ih PARTS _ cs' Cs1 h hVR1 (by simpa using hl) (fun i n' x' N' X' e e' => hp (i + 1) n' x' N' X' (by simpa using e) (by simpa using e')) hall1
          refine ⟨Cs', ?_, e2, e3, ?_⟩
          · simp only [Instr.fill, hpl]
            have : ¬ (X.cells.size ≠ size || decide (off + X.cells.size > Cs.size)) = true := by simp [hsz]; omega
            rw [if_neg (by simpa using this)]
            exact e1
          · rw [e4]; simp [h1]; omega

end
end Go.Abs
