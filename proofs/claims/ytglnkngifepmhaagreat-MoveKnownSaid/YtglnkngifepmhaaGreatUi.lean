/-
  The abstract machine: what is copied, appended, converted.
-/
import Derived.Test.YtglnkngifepmhaaGreatUh
set_option linter.unusedVariables false
set_option linter.unusedSimpArgs false

namespace Go.Abs

section
variable {P : Program} {σ : Sg} {S : Sto} {w : World}

theorem fplaces_ok : ∀ (fs : List Field) (ps : List (Nat × Nat)) (acc : Array (Nat × Nat)) (w : World), fplaces P fs = some ps →
    (fs.foldlM (fun bs a => bs.push <$> do let n ← sizeOf a.type; pure (a.offset, n)) acc : Sem (Array (Nat × Nat))).run P w = .ok (acc ++ ps.toArray) w := by
  intro fs
  induction fs with
  | nil => intro ps acc w h; simp [fplaces] at h; subst h; simp
  | cons f fs ih =>
    intro ps acc w h
    simp only [fplaces] at h
    split at h
    · simp at h
    · rename_i n hn
      split at h
      · simp at h
      · rename_i r hr
        simp at h; subst h
        simp only [List.foldlM_cons, Sem.run_bind, Sem.run_map, run_sizeOf_of hn, Result.andThen_ok, Sem.run_pure]
        rw [ih r _ w hr]
        simp

theorem abuild_ok {t : TypeId} {parts : List (Nat × AV)} {PARTS : Array (Nat × Value)} {v : AV} (h : abuild P t parts = some v) (hl : parts.length = PARTS.size)
    (hp : ∀ (i : Nat) n x N X, parts[i]? = some (n, x) → PARTS[i]? = some (N, X) → n = N ∧ VR σ x X) : ∃ V, (∀ w, (Instr.build t PARTS).run P w = .ok V w) ∧ VR σ v V := by
  unfold abuild at h
  split at h
  · rename_i z fields hz hu
    obtain ⟨Z, z1, z2, z3, z4, _⟩ := tzero_ok hz
    split at h
    · rename_i ps hps
      split at h
      · rename_i cs hf
        simp at h; subst h
        have hpl : PARTS.toList.length = parts.length := by simp [hl]
        obtain ⟨Cs', e1, e2, _, _⟩ := fill_ok (σ := σ) _ parts PARTS.toList z.cells cs Z.cells hf (z3 σ) hpl.symm (fun i n x N X h1 h2 => hp i n x N X h1 (by simpa using h2)) z4
        refine ⟨.agg Cs', fun w => ?_, VR.agg_iff.2 ⟨_, rfl, e2⟩⟩
        simp only [Instr.build, Sem.run_bind, z1, Result.andThen_ok, run_underlying_of hu]
        have hm : (fields.mapM (fun f => (do let n ← sizeOf f.type; pure (f.offset, n) : Sem (Nat × Nat)))).run P w = .ok ps.toArray w := by
          rw [Array.mapM_eq_foldlM, ← Array.foldlM_toList, fplaces_ok _ _ _ w hps]; simp
        rw [hm]
        simp only [Result.andThen_ok]
        have : Instr.fill (fun (x : Nat) => ps.toArray[x]?) Z.cells PARTS.toList = some Cs' := by
          have : (fun (x : Nat) => ps.toArray[x]?) = fun (x : Nat) => ps[x]? := by funext i; simp
          rw [this]; exact e1
        rw [this]
        rfl
      · simp at h
    · simp at h
  · rename_i z n elem hz hu
    obtain ⟨Z, z1, z2, z3, z4, _⟩ := tzero_ok hz
    split at h
    · rename_i k hk
      split at h
      · rename_i cs hf
        simp at h; subst h
        have hpl : PARTS.toList.length = parts.length := by simp [hl]
        obtain ⟨Cs', e1, e2, _, _⟩ := fill_ok (σ := σ) _ parts PARTS.toList z.cells cs Z.cells hf (z3 σ) hpl.symm (fun i n x N X h1 h2 => hp i n x N X h1 (by simpa using h2)) z4
        refine ⟨.agg Cs', fun w => ?_, VR.agg_iff.2 ⟨_, rfl, e2⟩⟩
        simp only [Instr.build, Sem.run_bind, z1, Result.andThen_ok, run_underlying_of hu, run_sizeOf_of hk]
        rw [e1]; rfl
      · simp at h
    · simp at h
  · simp at h


/-! ### what is copied -/
theorem alen_ok {y : AV} {Y : Value} {n : Nat} (h : alen y = some n) (hy : VR σ y Y) : (Builtin.lenOf Y).run P w = .ok n w ∧ (∀ a l c, Y = .slice a l c → l = n) := by
  unfold alen at h
  split at h
  · cases hy; simp at h; subst h; exact ⟨rfl, fun a l c e => by cases e; rfl⟩
  · cases hy; simp at h; subst h; exact ⟨rfl, fun a l c e => by cases e; rfl⟩
  · cases hy; simp at h; subst h; exact ⟨rfl, fun a l c e => by cases e; rfl⟩
  · obtain ⟨bs, rfl, hb⟩ := ofBytesStr hy
    simp at h; subst h
    rw [← str_size hb]
    exact ⟨rfl, fun a l c e => by cases e⟩
  · simp at h

theorem fz_rows {b k : Nat} (hmu : ∀ off V, σ.m b off = some V → w.cell? ⟨b, off, none⟩ = some V) : ∀ (xs : List AV) (o : Nat), (∀ x ∈ xs, x.cells.length = k) →
    (∀ i j x c V, xs[i]? = some x → x.cells[j]? = some c → σ.m b (o + i * k + j) = some V → VR σ c V) → (∀ i j, i < xs.length → j < k → (σ.m b (o + i * k + j)).isSome = true) →
    ∃ vs : List Value, VRs σ (xs.flatMap AV.cells) vs ∧ vs.length = xs.length * k ∧ ∀ (q : Nat) v, vs[q]? = some v → w.cell? ⟨b, o + q, none⟩ = some v := by
  intro xs
  induction xs with
  | nil => intro o _ _ _; exact ⟨[], VRs.nil σ, by simp, by simp⟩
  | cons x xs ih =>
    intro o h1 h2 h3
    obtain ⟨vs, e1, e2, e3⟩ := ih (o + k) (fun y hy => h1 y (by simp [hy]))
      (fun i j y c V hy hc hV => h2 (i + 1) j y c V (by simpa using hy) hc (by rw [← hV]; congr 1; rw [Nat.add_mul]; omega))
      (fun i j hi hj => by
        have := h3 (i + 1) j (by simp; omega) hj
        rw [← this]; congr 2; rw [Nat.add_mul]; omega)
    have hk : x.cells.length = k := h1 x (by simp)
    have hsome : ∀ j, j < k → (σ.m b (o + j)).isSome = true := fun j hj => by
      have := h3 0 j (by simp) hj
      simpa using this
    let us : List Value := (List.range k).map fun j => (σ.m b (o + j)).getD undef
    have hus : ∀ (j : Nat) v, us[j]? = some v → j < k ∧ σ.m b (o + j) = some v := by
      intro j v hv
      have hj : j < k := by
        rcases Nat.lt_or_ge j k with h' | h'
        · exact h'
        · rw [List.getElem?_eq_none (by simpa [us] using h')] at hv; cases hv
      obtain ⟨V, hV⟩ := Option.isSome_iff_exists.1 (hsome j hj)
      simp [us, hj, hV] at hv
      exact ⟨hj, by rw [hV, hv]⟩
    refine ⟨us ++ vs, ?_, by simp [us, e2, Nat.add_mul]; omega, fun q v hv => ?_⟩
    · rw [List.flatMap_cons]
      refine VRs.append ⟨by simp [us, hk], fun j c V hc hV => ?_⟩ e1
      obtain ⟨hj, hm⟩ := hus j V hV
      exact h2 0 j x c V rfl hc (by simpa using hm)
    · by_cases hq : q < k
      · rw [List.getElem?_append_left (by simpa [us] using hq)] at hv
        exact hmu _ _ (hus q v hv).2
      · rw [List.getElem?_append_right (by simp [us]; omega)] at hv
        have := e3 (q - us.length) v hv
        rw [← this]; congr 2; simp [us]; omega

theorem afirst_ok {k n : Nat} {y : AV} {Y : Value} {l : List AV} (h : Rel σ S w) (hl : afirst S k n y = some l) (hy : VR σ y Y) :
    ∃ Ls : List Value, (∀ w', w'.heap = w.heap → (Builtin.firstCells k n Y).run P w' = .ok Ls.toArray w') ∧ VRs σ l Ls ∧ l.length = n * k ∧ (∀ (c : List AV), y = .fz c true → c.length = n → l.all AV.isCell = true) := by
  unfold afirst at hl
  split at hl
  · rename_i id g off len cap
    rw [bif_ble] at hl
    split at hl
    · rename_i hn
      split at hl
      · rename_i g' m c hx
        cases hc : (Nat.beq g g' && Nat.ble (off + n * k) m) with
        | false => simp [hc] at hl
        | true =>
          simp only [hc, cond_true] at hl
          simp only [Bool.and_eq_true, Nat.beq_eq, Nat.ble_eq] at hc
          obtain ⟨rfl, hle⟩ := hc
          obtain ⟨hlen, hget⟩ := Tr.row_spec c _ _ _ hl
          obtain ⟨b, base, arr, el, fr, h1, h2, h3, h4, h5⟩ := h.cells hx
          cases hy with
          | sl _ _ _ _ _ b' base' sz' C hs hC hcap =>
            rw [h1] at hs
            obtain ⟨rfl, rfl, rfl⟩ : b = b' ∧ base = base' ∧ arr.size = sz' := by simpa using hs
            let vs : List Value := (List.range (n * k)).map fun j => arr.getD (base + off + j) undef
            have hv : ∀ (j : Nat) v, vs[j]? = some v → j < n * k ∧ arr[base + off + j]? = some v := by
              intro j v hv
              have hj : j < n * k := by
                rcases Nat.lt_or_ge j (n * k) with h' | h'
                · exact h'
                · rw [List.getElem?_eq_none (by simpa [vs] using h')] at hv; cases hv
              have hb : base + off + j < arr.size := by omega
              simp [vs, hj, Array.getD_eq_getD_getElem?, Array.getElem?_eq_getElem hb] at hv
              exact ⟨hj, by rw [Array.getElem?_eq_getElem hb, hv]⟩
            refine ⟨vs, ?_, ⟨by simp [vs, hlen], fun j x X hx' hX => ?_⟩, hlen, fun c hc => by cases hc⟩
            · intro w' hw'
              have := loadCells_run (P := P) (w := w') b vs (base + off) 0 #[] (fun j v hj => by
                have := (hv j v hj).2
                simp [World.cell?, hw', h2, this])
              simp only [Builtin.firstCells, loadCells]
              rw [show n * k = vs.length by simp [vs], this]; simp
            · obtain ⟨hj, hX'⟩ := hv j X hX
              rw [← hget j hj] at hx'
              obtain ⟨V, e1, e2⟩ := h4 (off + j) x (by omega) hx'
              rw [← Nat.add_assoc, hX'] at e1
              cases e1; exact e2
      · simp at hl
    · simp at hl
  · rw [bif_beq] at hl
    split at hl
    · rename_i hn; subst hn
      simp at hl; subst hl
      cases hy
      exact ⟨[], fun w' _ => by simp [Builtin.firstCells], VRs.nil σ, by simp, fun c hc => by cases hc⟩
    · simp at hl
  · rename_i xs clip
    rw [bif_ble] at hl
    split at hl
    · rename_i hn
      cases hc : ((xs.take n).all (fun x => Nat.beq x.cells.length k) && ((xs.take n).flatMap AV.cells).all AV.isCell) with
      | false => simp only [hc, cond_false, reduceCtorEq] at hl
      | true =>
        simp only [hc, cond_true, Option.some.injEq] at hl
        subst hl
        simp only [Bool.and_eq_true] at hc
        cases hy with
        | fz _ _ a C b o k' h1 h2 h3 h4 h5 h6 =>
          have hk : ∀ x ∈ xs.take n, x.cells.length = k := fun x hx => by
            have := List.all_eq_true.1 hc.1 x hx
            simpa using this
          by_cases hx0 : n = 0
          · subst hx0
            refine ⟨[], ?_, by simpa using VRs.nil σ, by simp, fun _ _ _ => hc.2⟩
            intro w' _
            simp [Builtin.firstCells, loadCells, loadCellsFrom]
          · have hlen : (xs.take n).length = n := by simp; omega
            have hkk : k' = k := by
              have hx : xs[0]'(by omega) ∈ xs.take n := by
                have : (xs.take n)[0]'(by omega) ∈ xs.take n := List.getElem_mem _
                simpa using this
              rw [← h4 _ (List.mem_of_mem_take hx), hk _ hx]
            subst hkk
            have ha := h1 (by omega)
            subst ha
            have hget : ∀ (i : Nat) x, (xs.take n)[i]? = some x → xs[i]? = some x := by
              intro i x hi
              rw [List.getElem?_take] at hi
              split at hi
              · exact hi
              · cases hi
            obtain ⟨vs, e1, e2, e3⟩ := fz_rows (w := w) (σ := σ) (fun off V hV => (h.mu b off V hV).1) (xs.take n) o hk
              (fun i j x c V hx hc hV => h5 i j x c V (hget i x hx) hc hV) (fun i j hi hj => h6 i j (by omega) hj)
            refine ⟨vs, ?_, e1, by rw [e1.1, e2, hlen], fun _ _ _ => hc.2⟩
            intro w' hw'
            have := loadCells_run (P := P) (w := w') b vs o 0 #[] (fun j v hj => by
              have := e3 j v hj
              rw [← this]; simp [World.cell?, hw'])
            simp only [Builtin.firstCells, loadCells]
            rw [show n * k' = vs.length by rw [e2, hlen], this]; simp
    · simp at hl
  · rename_i s
    cases hc : (Nat.ble n s.length && Nat.beq k 1) with
    | false => simp [hc] at hl
    | true =>
      simp only [hc, cond_true, Option.some.injEq] at hl
      subst hl
      simp only [Bool.and_eq_true, Nat.ble_eq, Nat.beq_eq] at hc
      obtain ⟨hn, rfl⟩ := hc
      obtain ⟨bs, rfl, hb⟩ := ofBytesStr hy
      subst hb
      have hdat : (bs.extract 0 n).data.toList = bs.data.toList.take n := by rw [Lib.extract_data]; simp
      refine ⟨(bs.data.toList.take n).map fun b => Value.int .u8 b.toNat, ?_, ?_, ?_, fun c hc => by cases hc⟩
      · intro w' _
        simp only [Builtin.firstCells, Sem.run_pure]
        congr 1
        apply Array.toList_inj.1
        rw [Array.toList_map, hdat]
      · rw [toBytes, ← List.map_take, List.map_map]
        exact VRs.map _ _ _ fun x _ => .int _ _
      · simp only [toBytes, List.length_map, List.length_take]
        simp at hn ⊢
        omega
  · simp at hl

theorem growBy_le (need : Nat) : ∀ (r c : Nat), Builtin.growBy need r c ≤ max c (need + (need + 768) / 4) := by
  intro r
  induction r with
  | zero => intro c; simp [Builtin.growBy]; omega
  | succ r ih =>
    intro c
    simp only [Builtin.growBy]
    split
    · omega
    · rename_i h
      have := ih (c + (c + 768) / 4)
      omega
theorem nextslicecap_le {need old : Nat} (h : old < need) : Builtin.nextslicecap need old ≤ 2 * need + 1024 := by
  unfold Builtin.nextslicecap
  split
  · omega
  · split
    · omega
    · have := growBy_le need 4 old
      omega

theorem zeroCells_size (z : Array Value) (n : Nat) : (Builtin.zeroCells z n).size = n * z.size := by simp [Builtin.zeroCells]

/-- AN APPEND THAT LAYS A NEW ROW. -/
theorem append_grow {t e u : TypeId} {d : TypeDesc} {k by_ n sLen sCap : Nat} {z : AV} {base : Option Addr} {Y : Value} {OLD NEW : List Value} (hu : P.underlying t = some (.slice e)) (hk : tsz P e = some k) (hby : tbytes P e = some by_)
    (hz : tzero P e = some z) (hzk : z.cells.length = k) (hd : P.underlying u = some d) (hdi : ∀ k, d ≠ .int k) (hlen : (Builtin.lenOf Y).run P w = .ok n w)
    (hnew : ∀ w', w'.heap = w.heap → (Builtin.firstCells k n Y).run P w' = .ok NEW.toArray w') (hold : ∀ w', w'.heap = w.heap → (Builtin.firstCells k sLen (.slice base sLen sCap)).run P w' = .ok OLD.toArray w') (hroom : roomOk (sLen + n) by_ = true) (hgt : sCap < sLen + n)
    (hOLD : OLD.length = sLen * k) (hNEW : NEW.length = n * k) :
    ∃ (C : Nat) (arr : Array Value), (Builtin.append_ #[t, u] t #[.slice base sLen sCap, Y]).run P w = .ok (.slice (some ⟨w.heap.size, 0, none⟩) (sLen + n) C) (w.drew.alloc (.cells arr e)) ∧ sLen + n ≤ C ∧ arr.size = C * k ∧
      ∀ (i : Nat) V, (OLD ++ NEW)[i]? = some V → arr[i]? = some V := by
  obtain ⟨Z, z1, _, z3, _, _⟩ := tzero_ok hz
  obtain ⟨i, hi1, hi2⟩ := run_bytes_of hby w
  have hZk : Z.cells.size = k := by
    have := (z3 Sg.nil).1
    rw [hzk] at this; simpa using this.symm
  simp only [roomOk, Bool.and_eq_true, Nat.ble_eq, Nat.blt_eq] at hroom
  obtain ⟨hr1, hr2⟩ := hroom
  have hneed : ¬ (sLen + n ≤ sCap) := by omega
  have hmax : ¬ (((sLen + n : Nat) : Int) > IntKind.i64.max) := by simp [IntKind.max, IntKind.signed, IntKind.bits]; omega
  have hcap := nextslicecap_le hgt
  have hbytes : ¬ (Builtin.nextslicecap (sLen + n) sCap * by_ > 2 ^ 48) := by
    have : Builtin.nextslicecap (sLen + n) sCap * by_ ≤ (2 * (sLen + n) + 1024) * by_ := Nat.mul_le_mul_right _ hcap
    omega
  have hdm : (match (generalizing := false) d with | TypeDesc.int _ => true | _ => false) = false := by cases d <;> first | rfl | exact absurd rfl (hdi _)
  let newCap := (sLen + n) + (w.tape w.drawn (.appendCap (sLen + n) sCap e)) % (2 ^ 63 - (sLen + n))
  refine ⟨newCap, OLD.toArray ++ (NEW.toArray ++ Builtin.zeroCells Z.cells (newCap - (sLen + n))), ?_, by omega, ?_, fun i V hV => ?_⟩
  · have hti : ∀ w', (typeInfo e).run P w' = .ok i w' := fun w' => by
      unfold tbytes at hby
      cases hie : P.info? e with
      | none => simp [hie] at hby
      | some j =>
        rw [run_typeInfo_of hie] at hi1 ⊢
        cases hi1; rfl
    have ho := hold w.drew rfl
    have hn := hnew w.drew rfl
    have hb2 : ¬ (281474976710656 < Builtin.nextslicecap (sLen + n) sCap * by_) := by simpa using hbytes
    have hm3 : ¬ ((9223372036854775807 : Int) < (sLen : Int) + (n : Int) ∧ by_ = 0) := by omega
    simp [Builtin.append_, run_underlying_of hu, run_sizeOf_of hk, run_underlying_of hd, hdm, hlen, hneed, hm3, hti, hi2, hb2, Question.forced, Question.cut, z1, ho, hn, run_newRow, newCap]
  · simp [zeroCells_size, hOLD, hNEW, hZk, ← Nat.add_mul]; congr 1; omega
  · have hlt : i < (OLD ++ NEW).length := by
      rcases Nat.lt_or_ge i (OLD ++ NEW).length with h' | h'
      · exact h'
      · rw [List.getElem?_eq_none h'] at hV; cases hV
    rw [← Array.append_assoc, Array.getElem?_append_left (by simpa using hlt), ← hV]
    simp


/-- what an operation comes to: a value, the store, memory -/
def ResOk (σ : Sg) (S : Sto) (w : World) (run : Value → World → Prop) : ORes → Prop
  | .val v => ∃ V w', run V w' ∧ VR σ v V ∧ Quiet w w'
  | .val' v S' => ∃ τ V w', run V w' ∧ VR τ v V ∧ Stp σ S w τ S' w'
  | _ => False

theorem afresh_ok {k by_ len : Nat} {old new : List AV} {OLD NEW : List Value} {r : ORes} {e t u : TypeId} {X Y : Value} {C : Nat} {arr : Array Value} (h : Rel σ S w) (hf : afresh S k by_ old new len = some r)
    (hold : VRs σ old OLD) (hnew : VRs σ new NEW) (hrun : (Builtin.append_ #[t, u] t #[X, Y]).run P w = .ok (.slice (some ⟨w.heap.size, 0, none⟩) len C) (w.drew.alloc (.cells arr e)))
    (hC : len ≤ C) (harr : arr.size = C * k) (hsize : OLD.length + NEW.length ≤ arr.size) (hget : ∀ (i : Nat) V, (OLD ++ NEW)[i]? = some V → arr[i]? = some V) :
    ResOk σ S w (fun V w' => (Builtin.append_ #[t, u] t #[X, Y]).run P w = .ok V w') r := by
  unfold afresh at hf
  cases hr : roomOk len by_ with
  | false => simp [hr] at hf
  | true =>
    simp only [hr, cond_true] at hf
    split at hf
    · rename_i id S' hn
      simp at hf; subst hf
      obtain ⟨τ, h1, h2⟩ := stp_new (w := w.drew) e (0, 0) (h.world rfl) hn (hold.append hnew) (by simpa using hsize) hget (fun o _ => by omega)
      refine ⟨τ, _, _, hrun, ?_, (Stp.drew h).trans h1⟩
      have := VR.sl (σ := τ) id 0 0 len (.room k) w.heap.size 0 arr.size C h2 hC (by show 0 + 0 + C * k ≤ arr.size; omega)
      exact this
    · simp at hf

theorem append_same {t e u : TypeId} {d : TypeDesc} {k n sLen sCap : Nat} {base : Option Addr} {Y : Value} {NEW : List Value} {w' : World} (hu : P.underlying t = some (.slice e)) (hk : tsz P e = some k)
    (hd : P.underlying u = some d) (hdi : ∀ k, d ≠ .int k) (hlen : (Builtin.lenOf Y).run P w = .ok n w) (hnew : (Builtin.firstCells k n Y).run P w = .ok NEW.toArray w) (hle : sLen + n ≤ sCap)
    (hst : ∀ a, base = some a → (storeCells (a.add (sLen * k)) NEW).run P w = .ok () w') (hno : base = none → w' = w) :
    (Builtin.append_ #[t, u] t #[.slice base sLen sCap, Y]).run P w = .ok (.slice base (sLen + n) sCap) w' := by
  have hdm : (match (generalizing := false) d with | TypeDesc.int _ => true | _ => false) = false := by cases d <;> first | rfl | exact absurd rfl (hdi _)
  cases base with
  | none =>
    obtain rfl := hno rfl
    simp [Builtin.append_, run_underlying_of hu, run_sizeOf_of hk, run_underlying_of hd, hdm, hlen, hle, hnew]
  | some a =>
    have := hst a rfl
    simp [Builtin.append_, run_underlying_of hu, run_sizeOf_of hk, run_underlying_of hd, hdm, hlen, hle, hnew, this]

theorem aappend_ok {t u : TypeId} {d : TypeDesc} {x y : AV} {X Y : Value} {r : ORes} (h : Rel σ S w) (ha : aappend P S t x y = some r) (hx : VR σ x X) (hy : VR σ y Y) (hd : P.underlying u = some d) (hdi : ∀ k, d ≠ .int k) :
    ResOk σ S w (fun V w' => (Builtin.append_ #[t, u] t #[X, Y]).run P w = .ok V w') r := by
  unfold aappend at ha
  split at ha
  · rename_i e hu
    split at ha
    · rename_i k by_ z n hk hby hz hlen
      obtain ⟨hlenr, _⟩ := alen_ok (P := P) (w := w) hlen hy
      split at ha
      · simp at ha
      · rename_i new hnew
        obtain ⟨NEW, n1, n2, n3, _⟩ := afirst_ok (P := P) h hnew hy
        have hN : NEW.length = n * k := by rw [← n2.1]; exact n3
        cases hc : (Nat.beq z.cells.length k && new.all AV.isCell) with
        | false => simp [hc] at ha
        | true =>
          simp only [hc, cond_true] at ha
          simp only [Bool.and_eq_true, Nat.beq_eq] at hc
          obtain ⟨hzk, hall⟩ := hc
          have hgrow := fun (base : Option Addr) (sLen sCap : Nat) (OLD : List Value) (hold : ∀ w', w'.heap = w.heap → (Builtin.firstCells k sLen (.slice base sLen sCap)).run P w' = .ok OLD.toArray w') (hroom : roomOk (sLen + n) by_ = true) (hgt : sCap < sLen + n) (hO : OLD.length = sLen * k) =>
            append_grow (P := P) (w := w) (u := u) hu hk hby hz hzk hd hdi hlenr n1 hold hroom hgt hO hN
          split at ha
          · -- nils
            cases hx with
            | nils =>
              rw [bif_beq] at ha
              split at ha
              · rename_i hn0; subst hn0
                simp at ha; subst ha
                refine ⟨_, w, append_same hu hk hd hdi hlenr (n1 w rfl) (Nat.le_refl _) (fun a e => by cases e) (fun _ => rfl), .nils, Quiet.refl w⟩
              · rename_i hn0
                have hroom : roomOk n by_ = true := by
                  unfold afresh at ha
                  cases hr : roomOk n by_ with
                  | true => rfl
                  | false => simp [hr] at ha
                obtain ⟨C, arr, g1, g2, g3, g4⟩ := hgrow none 0 0 [] (fun w' _ => by simp [Builtin.firstCells]) (by simpa using hroom) (by omega) (by simp)
                rw [Nat.zero_add] at g1 g2
                exact afresh_ok h ha (VRs.nil σ) n2 g1 g2 g3 (by simp [hN, g3]; exact Nat.mul_le_mul_right _ g2) g4
          · -- fz
            rename_i xs
            cases hx with
            | fz _ _ a C b o k' h1 h2 h3 h4 h5 h6 =>
              have hC := h3 rfl
              subst hC
              rw [bif_beq] at ha
              split at ha
              · rename_i hn0; subst hn0
                simp at ha; subst ha
                have hnil : NEW = [] := List.eq_nil_of_length_eq_zero (by omega)
                refine ⟨_, w, append_same hu hk hd hdi hlenr (n1 w rfl) (by omega) (fun a e => by subst hnil; simp [storeCells]) (fun _ => rfl), .fz _ _ a _ b o k' h1 h2 (fun _ => rfl) h4 h5 h6, Quiet.refl w⟩
              · rename_i hn0
                split at ha
                · rename_i old hold
                  have hxx : VR σ (.fz xs true) (.slice a xs.length xs.length) := .fz _ _ a _ b o k' h1 h2 (fun _ => rfl) h4 h5 h6
                  obtain ⟨OLD, o1, o2, o3, _⟩ := afirst_ok (P := P) h hold hxx
                  have hO : OLD.length = xs.length * k := by rw [← o2.1]; exact o3
                  have hroom : roomOk (xs.length + n) by_ = true := by
                    unfold afresh at ha
                    cases hr : roomOk (xs.length + n) by_ with
                    | true => rfl
                    | false => simp [hr] at ha
                  obtain ⟨C, arr, g1, g2, g3, g4⟩ := hgrow a xs.length xs.length OLD o1 hroom (by omega) hO
                  exact afresh_ok h ha o2 n2 g1 g2 g3 (by rw [g3, hO, hN, ← Nat.add_mul]; exact Nat.mul_le_mul_right _ g2) g4
                · simp at ha
          · -- sl, the capacity known
            rename_i id g off len c
            rw [bif_ble] at ha
            split at ha
            · rename_i hle
              split at ha
              · rename_i g' m cs hget
                cases hc2 : (Nat.beq g g' && Nat.ble (off + c * k) m) with
                | false => simp [hc2] at ha
                | true =>
                  simp only [hc2, cond_true, Option.some.injEq] at ha
                  subst ha
                  simp only [Bool.and_eq_true, Nat.beq_eq, Nat.ble_eq] at hc2
                  obtain ⟨rfl, hm⟩ := hc2
                  cases hx with
                  | sl _ _ _ _ _ b base sz C hs hl hcap =>
                    have hCc : C = c := hcap
                    subst hCc
                    have hmul : (len + n) * k ≤ C * k := Nat.mul_le_mul_right _ hle
                    rw [Nat.add_mul] at hmul
                    obtain ⟨w', e1, e2⟩ := stp_lay (P := P) (cs := new) (off := off + len * k) (o := base + off + len * k) h hget ⟨_, hs⟩ (by rw [n3]; omega) n2 hall (by omega)
                    refine ⟨σ, _, w', append_same hu hk hd hdi hlenr (n1 w rfl) hle (fun a e => by cases e; rw [addr_add]; exact e1) (fun e => by cases e), .sl _ _ _ _ _ b base sz C hs hle rfl, e2⟩
              · simp at ha
            · rename_i hgt
              split at ha
              · rename_i old hold
                obtain ⟨OLD, o1, o2, o3, _⟩ := afirst_ok (P := P) h hold hx
                have hO : OLD.length = len * k := by rw [← o2.1]; exact o3
                cases hx with
                | sl _ _ _ _ _ b base sz C hs hl hcap =>
                  have hCc : C = c := hcap
                  subst hCc
                  have hroom : roomOk (len + n) by_ = true := by
                    unfold afresh at ha
                    cases hr : roomOk (len + n) by_ with
                    | true => rfl
                    | false => simp [hr] at ha
                  obtain ⟨C', arr, g1, g2, g3, g4⟩ := hgrow (some ⟨b, base + off, none⟩) len C OLD o1 hroom (by omega) hO
                  exact afresh_ok h ha o2 n2 g1 g2 g3 (by rw [g3, hO, hN, ← Nat.add_mul]; exact Nat.mul_le_mul_right _ g2) g4
              · simp at ha
          · -- sl, with room
            rename_i id g off len r'
            split at ha
            · rename_i g' m cs hget
              cases hc2 : (Nat.beq g g' && Nat.beq k r' && Nat.beq (off + len * k) m && roomOk (len + n) by_) with
              | false => simp [hc2] at ha
              | true =>
                simp only [hc2, cond_true] at ha
                simp only [Bool.and_eq_true, Nat.beq_eq] at hc2
                obtain ⟨⟨⟨rfl, rfl⟩, hm⟩, hroom⟩ := hc2
                cases hx with
                | sl _ _ _ _ _ b base sz C hs hl hcap =>
                  have hroomC : base + off + C * k ≤ sz := hcap
                  obtain ⟨b', base', arr, el, fr, a1, a2, a3, a4, a5⟩ := h.cells hget
                  rw [a1] at hs
                  obtain ⟨rfl, rfl, rfl⟩ : b' = b ∧ base' = base ∧ arr.size = sz := by simpa using hs
                  -- what the new row reads as, at base o' of an array
                  have key : ∀ (c' : Tr AV) (m' : Nat), ((off = 0 ∧ c' = cs.lay m new ∧ m' = m + n * k) ∨ (∃ old, cs.row off (len * k) = some old ∧ c' = Tr.leaf.lay 0 (old ++ new) ∧ m' = (len + n) * k)) →
                      m' = (len + n) * k ∧ ∀ i a, i < m' → c'.get i = some a → (∃ V, i < len * k ∧ arr[base' + off + i]? = some V ∧ VR σ a V) ∨ (∃ V, len * k ≤ i ∧ NEW[i - len * k]? = some V ∧ VR σ a V) := by
                    intro c' m' hcm
                    rcases hcm with ⟨h0, rfl, rfl⟩ | ⟨old, hrow, rfl, rfl⟩
                    · subst h0
                      refine ⟨by rw [Nat.add_mul]; omega, fun i a hi hia => ?_⟩
                      rw [Tr.get_lay] at hia
                      split at hia
                      · rename_i hr
                        obtain ⟨V, hV, hVR⟩ := n2.get hia
                        exact .inr ⟨V, by omega, by rw [← hV]; congr 1; omega, hVR⟩
                      · rename_i hr
                        have hi' : i < m := by rw [n3] at hr; omega
                        obtain ⟨V, e1, e2⟩ := a4 i a hi' hia
                        exact .inl ⟨V, by omega, by simpa using e1, e2⟩
                    · obtain ⟨hol, hog⟩ := Tr.row_spec cs _ _ _ hrow
                      refine ⟨rfl, fun i a hi hia => ?_⟩
                      rw [Tr.get_lay] at hia
                      simp only [Nat.zero_add, Nat.zero_le, true_and, List.length_append, hol, n3, Nat.sub_zero] at hia
                      rw [Nat.add_mul] at hi
                      rw [if_pos hi] at hia
                      by_cases hik : i < len * k
                      · rw [List.getElem?_append_left (by omega), ← hog i hik] at hia
                        obtain ⟨V, e1, e2⟩ := a4 (off + i) a (by omega) hia
                        exact .inl ⟨V, hik, by rw [Nat.add_assoc]; exact e1, e2⟩
                      · rw [List.getElem?_append_right (by omega), hol] at hia
                        obtain ⟨V, hV, hVR⟩ := n2.get hia
                        exact .inr ⟨V, by omega, hV, hVR⟩
                  obtain ⟨c', m', hcm, hr⟩ : ∃ c' m', ((off = 0 ∧ c' = cs.lay m new ∧ m' = m + n * k) ∨ (∃ old, cs.row off (len * k) = some old ∧ c' = Tr.leaf.lay 0 (old ++ new) ∧ m' = (len + n) * k)) ∧ r = .val' (.sl id (g + 1) 0 (len + n) (.room k)) (S.put id (.cells (g + 1) m' c')) := by
                    rw [bif_beq] at ha
                    split at ha
                    · rename_i h0
                      simp at ha; exact ⟨_, _, .inl ⟨h0, rfl, rfl⟩, ha.symm⟩
                    · split at ha
                      · rename_i old hrow
                        simp at ha; exact ⟨_, _, .inr ⟨old, hrow, rfl, rfl⟩, ha.symm⟩
                      · simp at ha
                  subst hr
                  obtain ⟨hm', hkey⟩ := key c' m' hcm
                  have hnone : σ id (g + 1) = none := by
                    cases hcc : σ id (g + 1) with
                    | none => rfl
                    | some v => have := h.gen id _ _ v hget hcc; simp only [genOf] at this; omega
                  have hle' : m' ≤ C * k ∨ C < len + n := by
                    by_cases hcc : len + n ≤ C
                    · exact .inl (by rw [hm']; exact Nat.mul_le_mul_right _ hcc)
                    · exact .inr (by omega)
                  by_cases hin : len + n ≤ C
                  · have hmul : (len + n) * k ≤ C * k := Nat.mul_le_mul_right _ hin
                    rw [Nat.add_mul] at hmul
                    obtain ⟨w', arr', e1, e2, e3, e4⟩ := storeCells_run (P := P) b' el fr NEW (base' + off + len * k) 0 w arr a2 (by rw [hN]; omega) (oneCells_of n2 hall) a5
                    simp only [Nat.add_zero] at e4
                    have hst := stp_regen (w' := w') (y := .cells (g + 1) m' c') (b' := b') (base' := base' + off) (sz' := arr.size) h hget a1 rfl e2.at_
                      (.cells _ _ _ arr' el fr e3 (by rw [hm', Nat.add_mul]; omega) (fun i a hi hia => by
                        rcases hkey i a hi hia with ⟨V, q1, q2, q3⟩ | ⟨V, q1, q2, q3⟩
                        · refine ⟨V, ?_, q3.mono (Sg.le_upd _ hnone)⟩
                          rw [e4, if_neg (by omega)]; exact q2
                        · refine ⟨V, ?_, q3.mono (Sg.le_upd _ hnone)⟩
                          rw [e4, if_pos (by rw [hN, hm', Nat.add_mul] at *; omega), ← q2]; congr 1; omega) a5)
                      (.inl rfl) (by rw [e2.size]; exact Nat.le_refl _) (fun c _ hc => e2.rest c hc) e2.os e2.out e2.tape
                    refine ⟨_, _, w', append_same hu hk hd hdi hlenr (n1 w rfl) hin (fun a e => by cases e; rw [addr_add]; exact e1) (fun e => by cases e), ?_, hst⟩
                    have := VR.sl (σ := σ.upd id (g + 1) (b', base' + off, arr.size)) id (g + 1) 0 (len + n) (.room k) b' (base' + off) arr.size C (Sg.upd_same _ _ _ _) hin (by show base' + off + 0 + C * k ≤ arr.size; omega)
                    exact this
                  · let OLD : List Value := (List.range (len * k)).map fun j => arr.getD (base' + off + j) undef
                    have hOv : ∀ (j : Nat) v, OLD[j]? = some v → j < len * k ∧ arr[base' + off + j]? = some v := by
                      intro j v hv
                      have hj : j < len * k := by
                        rcases Nat.lt_or_ge j (len * k) with h' | h'
                        · exact h'
                        · rw [List.getElem?_eq_none (by simpa [OLD] using h')] at hv; cases hv
                      have hb : base' + off + j < arr.size := by omega
                      simp [OLD, hj, Array.getD_eq_getD_getElem?, Array.getElem?_eq_getElem hb] at hv
                      exact ⟨hj, by rw [Array.getElem?_eq_getElem hb, hv]⟩
                    have hO : OLD.length = len * k := by simp [OLD]
                    obtain ⟨C', arr', g1, g2, g3, g4⟩ := hgrow (some ⟨b', base' + off, none⟩) len C OLD (fun w' hw' => by
                      have := loadCells_run (P := P) (w := w') b' OLD (base' + off) 0 #[] (fun j v hj => by
                        have := (hOv j v hj).2
                        simp [World.cell?, hw', a2, this])
                      simp only [Builtin.firstCells, loadCells]
                      rw [show len * k = OLD.length from hO.symm, this]; simp) hroom (by omega) hO
                    have hsz : (len + n) * k ≤ arr'.size := by rw [g3]; exact Nat.mul_le_mul_right _ g2
                    have hst := stp_regen (w := w.drew) (w' := w.drew.alloc (.cells arr' e)) (y := .cells (g + 1) m' c') (b' := w.heap.size) (base' := 0) (sz' := arr'.size) (h.world rfl) hget a1 rfl (heap_push_new w.drew _)
                      (.cells _ _ _ arr' e (0, 0) rfl (by omega) (fun i a hi hia => by
                        rw [Nat.zero_add]
                        rcases hkey i a hi hia with ⟨V, q1, q2, q3⟩ | ⟨V, q1, q2, q3⟩
                        · refine ⟨V, g4 i V ?_, q3.mono (Sg.le_upd _ hnone)⟩
                          rw [List.getElem?_append_left (by omega)]
                          have : OLD[i]? = some (arr.getD (base' + off + i) undef) := by simp [OLD, q1]
                          rw [this, Array.getD_eq_getD_getElem?, q2]; rfl
                        · refine ⟨V, g4 i V ?_, q3.mono (Sg.le_upd _ hnone)⟩
                          rw [List.getElem?_append_right (by omega), hO]; exact q2) (fun o _ => by omega))
                      (.inr (Nat.le_refl _)) (by simp) (fun c hc _ => heap_push_lt w.drew _ hc) rfl rfl rfl
                    refine ⟨_, _, _, g1, ?_, (Stp.drew h).trans hst⟩
                    have := VR.sl (σ := σ.upd id (g + 1) (w.heap.size, 0, arr'.size)) id (g + 1) 0 (len + n) (.room k) w.heap.size 0 arr'.size C' (Sg.upd_same _ _ _ _) g2 (by show 0 + 0 + C' * k ≤ arr'.size; omega)
                    exact this
            · simp at ha
          · -- sl, with room for at least c
            rename_i id g off len r' c
            rw [bif_ble] at ha
            split at ha
            · rename_i hle
              split at ha
              · rename_i g' m cs hget
                cases hc2 : (Nat.beq g g' && Nat.beq k r' && Nat.ble (off + c * k) m) with
                | false => simp [hc2] at ha
                | true =>
                  simp only [hc2, cond_true, Option.some.injEq] at ha
                  subst ha
                  simp only [Bool.and_eq_true, Nat.beq_eq, Nat.ble_eq] at hc2
                  obtain ⟨⟨rfl, rfl⟩, hm⟩ := hc2
                  cases hx with
                  | sl _ _ _ _ _ b base sz C hs hl hcap =>
                    obtain ⟨hcC, hroomC⟩ : c ≤ C ∧ base + off + C * k ≤ sz := hcap
                    have hmul : (len + n) * k ≤ c * k := Nat.mul_le_mul_right _ hle
                    rw [Nat.add_mul] at hmul
                    have hle' : len + n ≤ C := by omega
                    obtain ⟨w', e1, e2⟩ := stp_lay (P := P) (cs := new) (off := off + len * k) (o := base + off + len * k) h hget ⟨_, hs⟩ (by rw [n3]; omega) n2 hall (by omega)
                    refine ⟨σ, _, w', append_same hu hk hd hdi hlenr (n1 w rfl) hle' (fun a e => by cases e; rw [addr_add]; exact e1) (fun e => by cases e), .sl _ _ _ _ _ b base sz C hs hle' (capOk_roomTo hroomC hcC), e2⟩
              · simp at ha
            · simp at ha
          · simp at ha
    · simp at ha
  · simp at ha

end
end Go.Abs
