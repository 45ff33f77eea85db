/-
  The abstract machine: comparisons, arithmetic, strings.
-/
import Derived.Test.YtglnkngifepmhaaGreatUf
set_option linter.unusedVariables false
set_option linter.unusedSimpArgs false

namespace Go.Abs

theorem intBeq_eq (a b : Int) : intBeq a b = (a == b) := by
  cases a <;> cases b <;> simp [intBeq]
  all_goals (rw [Bool.eq_iff_iff]; simp; try omega)
theorem forceI_eq {α : Type} (n : Int) (k : Int → α) : forceI n k = k n := by
  unfold forceI
  cases n with
  | ofNat m => cases m <;> rfl
  | negSucc m => cases m <;> rfl
theorem mkInt_eq (k : IntKind) (n : Int) : mkInt k n = some (.int k n) := by unfold mkInt; rw [forceI_eq]
theorem mkBool_eq (b : Bool) : mkBool b = some (.bool b) := by cases b <;> rfl
theorem bif_dec {α : Type} (p : Prop) [Decidable p] (x y : α) : (bif decide p then x else y) = if p then x else y := by
  by_cases h : p <;> simp [h]

theorem lbeq_map : ∀ (a b : List UInt8), lbeq Nat.beq (a.map (·.toNat)) (b.map (·.toNat)) = (a == b) := by
  intro a
  induction a with
  | nil => intro b; cases b <;> simp [lbeq]
  | cons x a ih =>
    intro b
    cases b with
    | nil => simp [lbeq]
    | cons y b =>
      simp only [List.map_cons, lbeq, ih, List.cons_beq_cons]
      congr 1
      rw [Bool.eq_iff_iff]
      simp [UInt8.toNat_inj]
theorem natLess_map : ∀ (a b : List UInt8), natLess (a.map (·.toNat)) (b.map (·.toNat)) = Op.bytesLess a b := by
  intro a
  induction a with
  | nil => intro b; cases b <;> simp [natLess, Op.bytesLess]
  | cons x a ih =>
    intro b
    cases b with
    | nil => simp [natLess, Op.bytesLess]
    | cons y b =>
      simp only [List.map_cons, natLess, Op.bytesLess, ih]
      congr 1
      · rw [Bool.eq_iff_iff]; simp [Nat.blt_eq, UInt8.lt_iff_toNat_lt]
      · congr 1
        rw [Bool.eq_iff_iff]; simp [UInt8.toNat_inj]

section
variable {P : Program} {σ : Sg} {S : Sto} {w : World}

theorem aeqs_fields {f : TypeId → AV → AV → Option Bool} {d : Nat} (hf : ∀ t x y r X Y, f t x y = some r → VR σ x X → VR σ y Y → ∀ w, (Op.equalIn d t X Y).run P w = .ok r w)
    {xs ys : List AV} {Xs Ys : Array Value} (hx : VRs σ xs Xs.toList) (hy : VRs σ ys Ys.toList) (w : World) : ∀ (fs : List Field) (r : Bool),
    aeqs P f xs ys ((fs.filter fun f => f.name != "_").map fun f => (f.type, f.offset)) = some r → (Op.eqFields d Xs Ys fs).run P w = .ok r w := by
  intro fs
  induction fs with
  | nil => intro r h; simp [aeqs] at h; subst h; simp [Op.eqFields]
  | cons fd fs ih =>
    intro r h
    by_cases hn : fd.name = "_"
    · have : (fd.name != "_") = false := by simp [hn]
      rw [List.filter_cons, this] at h
      simp only [Bool.false_eq_true, if_false] at h
      simp only [Op.eqFields, ne_eq, hn, not_true_eq_false, if_false]
      exact ih r h
    · have : (fd.name != "_") = true := by simpa using hn
      rw [List.filter_cons, this] at h
      simp only [if_true, List.map_cons, aeqs] at h
      split at h
      · rename_i x y hax hay
        obtain ⟨X, hX, hXR⟩ := apart_ok hax hx
        obtain ⟨Y, hY, hYR⟩ := apart_ok hay hy
        split at h
        · rename_i hr
          have := hf _ _ _ _ X Y hr hXR hYR w
          simp only [Op.eqFields, ne_eq, hn, not_false_eq_true, if_true, Sem.run_bind, hX, hY, Result.andThen_ok, this, Bool.not_true, Bool.false_eq_true, if_false]
          exact ih r h
        · rename_i hr
          have := hf _ _ _ _ X Y hr hXR hYR w
          simp at h; subst h
          simp [Op.eqFields, hn, hX, hY, this]
        · simp at h
      · simp at h

def eqElems (d : Nat) (elem : TypeId) (n : Nat) (xs ys : Array Value) : List Nat → Sem Bool
  | [] => pure true
  | i :: l => do
    let a ← part elem xs (i * n)
    let b ← part elem ys (i * n)
    let r ← Op.equalIn d elem a b
    if (!r) = true then pure false else eqElems d elem n xs ys l

theorem run_equalIn_array (d : Nat) (t elem : TypeId) (len n : Nat) (xs ys : Array Value) (hu : P.underlying t = some (.array len elem)) (hn : tsz P elem = some n) (w : World) :
    (Op.equalIn (d + 1) t (.agg xs) (.agg ys)).run P w = (eqElems d elem n xs ys (List.range' 0 len)).run P w := by
  simp only [Op.equalIn, Sem.run_bind, run_underlying_of hu, Result.andThen_ok, run_sizeOf_of hn]
  rw [Std.Legacy.Range.forIn_eq_forIn_range']
  simp only [Std.Legacy.Range.size, Nat.sub_zero, Nat.add_sub_cancel, Nat.div_one]
  generalize List.range' 0 len = l
  clear hu
  induction l generalizing w with
  | nil => simp [eqElems]
  | cons i l ih =>
    simp only [List.forIn_cons, eqElems, Sem.run_bind, Sem.run_ite]
    generalize (part elem xs (i * n)).run P w = r1
    cases r1 with
    | ok a w1 =>
      simp only [Result.andThen_ok]
      generalize (part elem ys (i * n)).run P w1 = r2
      cases r2 with
      | ok b w2 =>
        simp only [Result.andThen_ok]
        generalize (Op.equalIn d elem a b).run P w2 = r3
        cases r3 with
        | ok r w3 =>
          cases r
          · simp only [Result.andThen_ok, Bool.not_false, if_true, Sem.run_pure]
          · simp only [Result.andThen_ok, Bool.not_true, Bool.false_eq_true, if_false, Sem.run_pure]
            exact ih w3
        | halt x w3 => simp [Result.andThen]
      | halt x w2 => simp [Result.andThen]
    | halt x w1 => simp [Result.andThen]

theorem aeqs_elems {f : TypeId → AV → AV → Option Bool} {d : Nat} (hf : ∀ t x y r X Y, f t x y = some r → VR σ x X → VR σ y Y → ∀ w, (Op.equalIn d t X Y).run P w = .ok r w)
    {xs ys : List AV} {Xs Ys : Array Value} (hx : VRs σ xs Xs.toList) (hy : VRs σ ys Ys.toList) (e k : Nat) (w : World) : ∀ (n i : Nat) (r : Bool),
    aeqs P f xs ys (aelemList e k n i) = some r → (eqElems d e k Xs Ys (List.range' i n)).run P w = .ok r w := by
  intro n
  induction n with
  | zero => intro i r h; simp [aeqs, aelemList] at h; subst h; simp [eqElems]
  | succ n ih =>
    intro i r h
    simp only [aelemList, aeqs] at h
    split at h
    · rename_i x y hax hay
      obtain ⟨X, hX, hXR⟩ := apart_ok hax hx
      obtain ⟨Y, hY, hYR⟩ := apart_ok hay hy
      split at h
      · rename_i hr
        have := hf _ _ _ _ X Y hr hXR hYR w
        simp only [List.range'_succ, eqElems, Sem.run_bind, hX, hY, Result.andThen_ok, this, Bool.not_true, Bool.false_eq_true, if_false]
        exact ih _ r h
      · rename_i hr
        have := hf _ _ _ _ X Y hr hXR hYR w
        simp at h; subst h
        simp [List.range'_succ, eqElems, hX, hY, this]
      · simp at h
    · simp at h

theorem aeqFz_inv {u : Option TypeDesc} {x y : AV} {r : Bool} {X Y : Value} (h : aeqFz u x y = some r) (hx : VR σ x X) (hy : VR σ y Y) : r = false ∧ (∃ e, u = some (.slice e)) ∧
    ((∃ a n C, X = .slice none 0 0 ∧ Y = .slice (some a) n C) ∨ ∃ a n C, Y = .slice none 0 0 ∧ X = .slice (some a) n C) := by
  unfold aeqFz at h
  split at h
  · simp at h; subst h
    cases hx
    cases hy
    exact ⟨rfl, ⟨_, rfl⟩, .inl ⟨_, _, _, rfl, rfl⟩⟩
  · simp at h; subst h
    cases hy
    cases hx
    exact ⟨rfl, ⟨_, rfl⟩, .inr ⟨_, _, _, rfl, rfl⟩⟩
  · cases h

set_option maxHeartbeats 1000000 in
theorem aeq_ok : ∀ (d : Nat) (t : TypeId) (x y : AV) (r : Bool) (X Y : Value), aeq P d t x y = some r → VR σ x X → VR σ y Y → ∀ w, (Op.equalIn d t X Y).run P w = .ok r w := by
  intro d
  induction d with
  | zero => intro t x y r X Y h; simp [aeq] at h
  | succ d ih =>
    intro t x y r X Y h hx hy w
    simp only [aeq] at h
    split at h
    · rename_i hu; cases hx; cases hy; simp at h; subst h; simp [Op.equalIn, run_underlying_of hu]
    · rename_i hu; cases hx; cases hy
      rw [bif_dec] at h
      split at h
      · rename_i hk; subst hk; simp at h; subst h; simp [Op.equalIn, run_underlying_of hu, intBeq_eq]
      · simp at h
    · rename_i hu
      obtain ⟨bx, rfl, hbx⟩ := ofBytesStr hx
      obtain ⟨bz, rfl, hby⟩ := ofBytesStr hy
      simp at h; subst h
      rw [run_equalIn_string w d t bx bz hu, ← hbx, ← hby, lbeq_map, ByteArray.toList_eq, ByteArray.toList_eq]
    · rename_i hu; cases hx; cases hy; simp at h; subst h; simp [Op.equalIn, run_underlying_of hu]
    · rename_i hu; cases hx; cases hy; simp at h; subst h; simp [Op.equalIn, run_underlying_of hu]
    · rename_i hu; cases hx; cases hy; simp at h; subst h; simp [Op.equalIn, run_underlying_of hu]
    · rename_i hu; cases hx; cases hy; simp at h; subst h; simp [Op.equalIn, run_underlying_of hu]
    · rename_i hu; cases hx; cases hy; simp at h; subst h; simp [Op.equalIn, run_underlying_of hu]
    · rename_i hu; cases hx; cases hy; simp at h; subst h; simp [Op.equalIn, run_underlying_of hu]
    · rename_i hu; cases hx; cases hy; simp at h; subst h; simp [Op.equalIn, run_underlying_of hu]
    · rename_i hu; cases hx; cases hy; simp at h; subst h; simp [Op.equalIn, run_underlying_of hu]
    · rename_i hu; cases hx; cases hy; simp at h; subst h; simp [Op.equalIn, run_underlying_of hu]
    · rename_i hu; cases hx; cases hy; simp at h; subst h; simp [Op.equalIn, run_underlying_of hu]
    · rename_i hu; cases hx; cases hy; simp at h; subst h; simp [Op.equalIn, run_underlying_of hu]
    · rename_i hu; cases hx; cases hy; simp at h; subst h; simp [Op.equalIn, run_underlying_of hu]
    · rename_i hu; cases hx; cases hy; simp at h; subst h; simp [Op.equalIn, run_underlying_of hu]
    · rename_i hu; cases hx; cases hy; simp at h; subst h; simp [Op.equalIn, run_underlying_of hu]
    · rename_i hu; cases hx; cases hy; simp at h; subst h; simp [Op.equalIn, run_underlying_of hu]
    · rename_i hu; cases hx; cases hy; simp at h; subst h; simp [Op.equalIn, run_underlying_of hu]
    · rename_i hu; cases hx; cases hy; simp at h; subst h; simp [Op.equalIn, run_underlying_of hu]
    · rename_i fields xs ys hu
      obtain ⟨Xs, rfl, hxs⟩ := VR.agg_iff.1 hx
      obtain ⟨Ys, rfl, hys⟩ := VR.agg_iff.1 hy
      cases hp : P.stoodInHeld t with
      | true => simp [hp] at h
      | false =>
        simp only [hp, cond_false] at h
        have hf : P.fieldsOf t = fields := by simp [Program.fieldsOf, hu]
        rw [run_equalIn_struct w d t Xs Ys (by rw [hf]; exact hu) hp, hf]
        exact aeqs_fields (fun t x y r X Y h1 h2 h3 => ih t x y r X Y h1 h2 h3) hxs hys w _ _ h
    · rename_i n e xs ys hu
      obtain ⟨Xs, rfl, hxs⟩ := VR.agg_iff.1 hx
      obtain ⟨Ys, rfl, hys⟩ := VR.agg_iff.1 hy
      split at h
      · rename_i k hk
        rw [run_equalIn_array d t e n k Xs Ys hu hk w]
        exact aeqs_elems (fun t x y r X Y h1 h2 h3 => ih t x y r X Y h1 h2 h3) hxs hys e k w n 0 r h
      · simp at h
    · obtain ⟨rfl, ⟨e, hu⟩, ⟨a, n, C, rfl, rfl⟩ | ⟨a, n, C, rfl, rfl⟩⟩ := aeqFz_inv h hx hy
      · simp [Op.equalIn, run_underlying_of hu]
      · simp [Op.equalIn, run_underlying_of hu]

theorem eqGuard_int (op : BinOp) (t : TypeId) (x y : Operand) (k k' : IntKind) (a b : Int) (w : World) : (eqGuard op t x y (.int k a) (.int k' b)).run P w = .ok () w := by
  cases op <;> simp [eqGuard]
theorem eqGuard_str (op : BinOp) (t : TypeId) (x y : Operand) (a b : ByteArray) (w : World) : (eqGuard op t x y (.string a) (.string b)).run P w = .ok () w := by
  cases op <;> simp [eqGuard]

theorem aintOp_ok {op : BinOp} {k : IntKind} {a b : Int} {v : AV} (h : aintOp op k a b = some v) (h1 : op ≠ .shl) (h2 : op ≠ .shr) (t : TypeId) : ∃ V, (∀ w, (binOp op t (.int k a) (.int k b)).run P w = .ok V w) ∧ VR σ v V := by
  cases op <;> simp only [aintOp, mkInt_eq, mkBool_eq, Option.some.injEq, bif_dec, reduceCtorEq] at h
  · subst h; exact ⟨_, fun w => by simp [binOp, Op.intArith], .int _ _⟩
  · subst h; exact ⟨_, fun w => by simp [binOp, Op.intArith], .int _ _⟩
  · subst h; exact ⟨_, fun w => by simp [binOp, Op.intArith], .int _ _⟩
  · split at h
    · simp at h
    · rename_i hb; simp at h; subst h; exact ⟨_, fun w => by simp [binOp, Op.intDiv, hb], .int _ _⟩
  · split at h
    · simp at h
    · rename_i hb; simp at h; subst h; exact ⟨_, fun w => by simp [binOp, Op.intDiv, hb], .int _ _⟩
  · subst h; exact ⟨_, fun w => by simp [binOp, Op.intBits], .int _ _⟩
  · subst h; exact ⟨_, fun w => by simp [binOp, Op.intBits], .int _ _⟩
  · subst h; exact ⟨_, fun w => by simp [binOp, Op.intBits], .int _ _⟩
  · subst h; exact ⟨_, fun w => by simp [binOp, Op.intBits], .int _ _⟩
  · subst h; exact ⟨_, fun w => by simp [binOp, Op.intCmp, intBeq_eq], .bool _⟩
  · subst h; exact ⟨_, fun w => by simp [binOp, Op.intCmp, intBeq_eq, bne], .bool _⟩
  · subst h; exact ⟨_, fun w => by simp [binOp, Op.intCmp], .bool _⟩
  · subst h; exact ⟨_, fun w => by simp [binOp, Op.intCmp], .bool _⟩
  · subst h; exact ⟨_, fun w => by simp [binOp, Op.intCmp], .bool _⟩
  · subst h; exact ⟨_, fun w => by simp [binOp, Op.intCmp], .bool _⟩

theorem astrOp_ok {op : BinOp} {a b : List Nat} {A B : ByteArray} {v : AV} (h : astrOp op a b = some v) (ha : A.data.toList.map (·.toNat) = a) (hb : B.data.toList.map (·.toNat) = b) (t : TypeId) :
    ∃ V, (∀ w, (binOp op t (.string A) (.string B)).run P w = .ok V w) ∧ VR σ v V := by
  have hA := ByteArray.toList_eq A
  have hB := ByteArray.toList_eq B
  cases op <;> simp only [astrOp, reduceCtorEq, Option.some.injEq] at h
  · rw [bif_blt] at h
    split at h
    · rename_i hlt
      simp at h; subst h
      refine ⟨.string (A ++ B), fun w => ?_, .str _ _ ?_⟩
      · have h1 := str_size ha
        have h2 := str_size hb
        have : ¬ (((A.size + B.size : Nat) : Int) > IntKind.i64.max) := by
          rw [h1, h2]; simp [IntKind.max, IntKind.signed, IntKind.bits]; omega
        simp only [binOp, Op.stringOp, if_neg this]
        rfl
      · rw [← ha, ← hb]; simp
    · simp at h
  all_goals (subst h; refine ⟨_, fun w => ?_, .bool _⟩; rw [← ha, ← hb]; simp only [binOp, Op.stringOp, hA, hB, lbeq_map, natLess_map]; rfl)

end
end Go.Abs
