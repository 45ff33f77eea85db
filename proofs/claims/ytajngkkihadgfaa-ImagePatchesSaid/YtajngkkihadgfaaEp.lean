/-
  The abstract machine: maps with integers as keys.
-/
import Derived.Test.YtajngkkihadgfaaEo
import Derived.Test.YtajngkkihadgfaaEk
set_option linter.unusedVariables false
set_option linter.unusedSimpArgs false

namespace Go.Abs
noncomputable section
variable {P : Program} {O : Orc} {H : Hint}

/-- what is laid under integers: key, value, number -/
def entM (k : IntKind) (l : List (Int × AV × Nat)) : List (AV × AV × Nat) := l.map fun x => (.int k x.1, x.2.1, x.2.2)
def getM : List (Int × AV × Nat) → Int → Option AV
  | [], _ => none
  | (a, v, _) :: l, i => if a = i then some v else getM l i
def setM : List (Int × AV × Nat) → Int → AV → Nat → List (Int × AV × Nat)
  | [], i, v, c => [(i, v, c)]
  | (a, w, b) :: l, i, v, c => if a = i then (a, v, b) :: l else (a, w, b) :: setM l i v c
theorem getM_setM (l : List (Int × AV × Nat)) (i j : Int) (v : AV) (c : Nat) : getM (setM l i v c) j = if i = j then some v else getM l j := by
  induction l with
  | nil => simp [setM, getM]
  | cons x l ih =>
    obtain ⟨a, w, b⟩ := x
    simp only [setM]
    by_cases h : a = i
    · subst h
      rw [if_pos rfl]
      simp only [getM]
      by_cases h' : a = j <;> simp [h']
    · rw [if_neg h]
      simp only [getM, ih]
      by_cases h' : a = j
      · subst h'
        simp [h, Ne.symm (a := i) (b := a) (fun e => h e.symm)]
        intro e; exact absurd e.symm h
      · simp [h']
theorem findE_int (k : IntKind) (i : Int) : ∀ (l : List (Int × AV × Nat)) (n : Nat), ∃ r, findE (.int k i) (entM k l) n = some r ∧ (r.map (·.2)) = getM l i
  | [], n => ⟨none, rfl, rfl⟩
  | (a, w, b) :: l, n => by
    obtain ⟨r, h1, h2⟩ := findE_int k i l (n + 1)
    have hk : keyEq (.int k i) (.int k a) = some (decide (i = a)) := by simp [keyEq, intBeq_eq, beq_dec]
    show ∃ r, (match keyEq (.int k i) (.int k a) with
      | some true => some (some (n, w))
      | some false => findE (.int k i) (entM k l) (n + 1)
      | none => none) = some r ∧ _
    rw [hk]
    by_cases h : i = a
    · subst h
      refine ⟨some (n, w), by simp, by simp [getM]⟩
    · refine ⟨r, by simp [h, h1], ?_⟩
      rw [h2, getM, if_neg (fun e => h e.symm)]
theorem findE_step (k : IntKind) (i a : Int) (w : AV) (b n : Nat) (es : List (AV × AV × Nat)) : findE (.int k i) ((.int k a, w, b) :: es) n = if i = a then some (some (n, w)) else findE (.int k i) es (n + 1) := by
  have hk : keyEq (.int k i) (.int k a) = some (decide (i = a)) := by simp [keyEq, intBeq_eq, beq_dec]
  show (match keyEq (.int k i) (.int k a) with
      | some true => some (some (n, w))
      | some false => findE (.int k i) es (n + 1)
      | none => none) = _
  rw [hk]
  by_cases h : i = a <;> simp [h]
theorem setE_int (k : IntKind) (i : Int) (v : AV) : ∀ (l : List (Int × AV × Nat)) (n j : Nat) (w : AV), findE (.int k i) (entM k l) n = some (some (j, w)) →
    n ≤ j ∧ ∃ l', setE (entM k l) (j - n) (.int k i) v = entM k l' ∧ ∀ x, getM l' x = if i = x then some v else getM l x
  | [], n, j, w, h => by simp [entM, findE] at h
  | (a, u, b) :: l, n, j, w, h => by
    have h' : findE (.int k i) ((.int k a, u, b) :: entM k l) n = some (some (j, w)) := h
    rw [findE_step] at h'
    by_cases ha : i = a
    · subst ha
      rw [if_pos rfl] at h'
      simp at h'
      obtain ⟨rfl, rfl⟩ := h'
      refine ⟨Nat.le_refl _, (i, v, b) :: l, by rw [Nat.sub_self]; rfl, fun x => ?_⟩
      simp only [getM]
      by_cases hx : i = x <;> simp [hx]
    · rw [if_neg ha] at h'
      obtain ⟨h1, l', h2, h3⟩ := setE_int k i v l (n + 1) j w h'
      refine ⟨by omega, (a, u, b) :: l', ?_, fun x => ?_⟩
      · obtain ⟨m, hm⟩ : ∃ m, j - n = m + 1 := ⟨j - n - 1, by omega⟩
        have hm' : j - (n + 1) = m := by omega
        rw [hm]
        rw [hm'] at h2
        show (.int k a, u, b) :: setE (entM k l) m (.int k i) v = _
        rw [h2]; rfl
      · simp only [getM, h3]
        by_cases hx : a = x
        · subst hx; rw [if_pos rfl, if_neg ha, if_pos rfl]
        · rw [if_neg hx, if_neg hx]
theorem getM_append (l m : List (Int × AV × Nat)) (x : Int) : getM (l ++ m) x = (getM l x).or (getM m x) := by
  induction l with
  | nil => simp [getM]
  | cons y l ih =>
    obtain ⟨a, u, b⟩ := y
    simp only [List.cons_append, getM, ih]
    by_cases h : a = x <;> simp [h]

/-- a map's keys and its elements' zero value -/
def mpK (P : Program) (t : TypeId) : Option (IntKind × AV) := match amapDesc P t with
  | some (.int k, e) => (match tzero P e with
    | some z => some (k, z)
    | none => none)
  | _ => none
theorem mpK_spec {t : TypeId} {k : IntKind} {z : AV} (h : mpK P t = some (k, z)) : ∃ e, amapDesc P t = some (.int k, e) ∧ tzero P e = some z := by
  unfold mpK at h
  split at h
  · rename_i k' e hd
    split at h
    · rename_i z' hz
      simp at h
      obtain ⟨rfl, rfl⟩ := h
      exact ⟨e, hd, hz⟩
    · cases h
  · cases h
theorem lookup_ok {s : Sto} {t : TypeId} {k : IntKind} {z : AV} {id c : Nat} {i : Int} {ok : Bool} {l : List (Int × AV × Nat)} (h : mpK P t = some (k, z)) (hg : s.get id = some (.map (entM k l) c)) :
    alookup P s t (.map id) (.int k i) ok = some (match getM l i with
      | some v => bif ok then .tuple [v, .bool true] else v
      | none => bif ok then .tuple [z, .bool false] else z) := by
  obtain ⟨e, h1, h2⟩ := mpK_spec h
  obtain ⟨r, r1, r2⟩ := findE_int k i l 0
  have hk : keyOk (.int k) (.int k i) = true := rfl
  simp only [alookup, h1, hk, cond_true, hg, r1]
  cases r with
  | none =>
    simp at r2
    rw [← r2]
    simp only [h2]
  | some y =>
    simp at r2
    rw [← r2]
theorem update_ok {s : Sto} {t : TypeId} {k : IntKind} {z : AV} {id c : Nat} {i : Int} {v : AV} {l : List (Int × AV × Nat)} (h : mpK P t = some (k, z)) (hg : s.get id = some (.map (entM k l) c)) :
    ∃ l' c', amapUpdate P s t (.map id) (.int k i) v = some (s.put id (.map (entM k l') c')) ∧ ∀ x, getM l' x = if i = x then some v else getM l x := by
  obtain ⟨e, h1, h2⟩ := mpK_spec h
  obtain ⟨r, r1, r2⟩ := findE_int k i l 0
  have hk : keyOk (.int k) (.int k i) = true := rfl
  cases r with
  | none =>
    refine ⟨l ++ [(i, v, c)], c + 1, ?_, fun x => ?_⟩
    · simp only [amapUpdate, h1, hk, cond_true, hg, r1]
      simp [entM]
    · simp at r2
      rw [getM_append]
      by_cases hx : i = x
      · subst hx
        rw [← r2]; simp [getM]
      · simp [getM, hx]
  | some y =>
    obtain ⟨j, w⟩ := y
    obtain ⟨_, l', e1, e2⟩ := setE_int k i v l 0 j w r1
    refine ⟨l', c, ?_, e2⟩
    simp only [amapUpdate, h1, hk, cond_true, hg, r1]
    rw [Nat.sub_zero] at e1
    rw [e1]

theorem Wop_makeMap {t : TypeId} {e : Env} {K : ORes → Prop} : Wop P O (.makeMap t none) e K ↔ K (.val' (.map e.s.n) (e.s.push (.map [] 0))) := by
  have hd : ∀ n, dopOf P (dcall P O n) (.makeMap t none) e = some (ORes.val' (.map e.s.n) (e.s.push (.map [] 0))) := fun _ => rfl
  constructor
  · rintro ⟨n, r, h1, h2⟩
    rw [hd] at h1
    simp at h1; subst h1; exact h2
  · intro h
    exact ⟨0, _, hd 0, h⟩

/-! ### slices of structs, frozen -/
theorem flatten_get {α : Type} {k : Nat} : ∀ (l : List (List α)) (i j : Nat), (∀ x ∈ l, x.length = k) → j < k → l.flatten[i * k + j]? = (l[i]?).bind fun x => x[j]?
  | [], i, j, _, _ => by simp
  | x :: l, 0, j, h, hj => by
    have hx := h x (List.mem_cons_self ..)
    simp only [List.flatten_cons, Nat.zero_mul, Nat.zero_add]
    rw [List.getElem?_append_left (by omega)]
    rfl
  | x :: l, i + 1, j, h, hj => by
    have hx := h x (List.mem_cons_self ..)
    simp only [List.flatten_cons]
    rw [List.getElem?_append_right (by rw [hx, Nat.succ_mul]; omega), hx]
    have : (i + 1) * k + j - k = i * k + j := by rw [Nat.succ_mul]; omega
    rw [this, flatten_get l i j (fun y hy => h y (List.mem_cons_of_mem _ hy)) hj]
    rfl
theorem flatten_len {α : Type} {k : Nat} : ∀ (l : List (List α)), (∀ x ∈ l, x.length = k) → l.flatten.length = l.length * k
  | [], _ => by simp
  | x :: l, h => by
    rw [List.flatten_cons, List.length_append, h x (List.mem_cons_self ..), flatten_len l (fun y hy => h y (List.mem_cons_of_mem _ hy)), List.length_cons, Nat.succ_mul]
    omega
theorem frz_slk {S : Sto} {n id g len k : Nat} {cap : ACap} {l : List (List AV)} (hn : n ≤ id) (hg : S.get id = some (obg g l.flatten)) (hlen : l.length = len) (hk : ∀ x ∈ l, x.length = k) (h : ∀ x ∈ l, ∀ y ∈ x, Und n y) : Frz S n (.sl id g 0 len cap) (.fz (l.map .agg) false) := by
  refine .sl id g 0 len cap l.flatten.length k _ (l.map .agg) (fun i j => ((l[i]?).bind fun x => x[j]?).getD .top) hn hg (by simpa using hlen) (by rw [flatten_len l hk, hlen]; omega) (fun x hx => ?_) (fun i j x y hx hy => ?_) (fun i j x y hx hy => ?_)
  · obtain ⟨z, hz, rfl⟩ := List.mem_map.1 hx
    exact hk z hz
  · rw [List.getElem?_map] at hx
    obtain ⟨z, hz, rfl⟩ := Option.map_eq_some_iff.1 hx
    have hy' : z[j]? = some y := hy
    have hj : j < k := by rw [← hk z (List.mem_of_getElem? hz)]; exact (List.getElem?_eq_some_iff.1 hy').1
    rw [Tr.get_row, Nat.zero_add, flatten_get l i j hk hj, hz]
    simp [hy']
  · rw [List.getElem?_map] at hx
    obtain ⟨z, hz, rfl⟩ := Option.map_eq_some_iff.1 hx
    have hy' : z[j]? = some y := hy
    simp only [hz, Option.bind_some, hy', Option.getD_some]
    exact .und _ (h z (List.mem_of_getElem? hz) y (List.mem_of_getElem? hy'))

end
end Go.Abs

/-
  The abstract machine: functions with several ranges.
-/

namespace Go.Abs
noncomputable section
variable {P : Program} {O : Orc} {H : Hint}

/-- a store when all collected rows of deferred calls, which are empty, are done -/
def leaveDs : Sto → List ADef → Option Sto
  | s, [] => some s
  | s, .collected d :: ds => match s.get d with
    | some (.defs (some [])) => leaveDs (s.put d (.defs none)) ds
    | _ => none
  | _, _ => none
theorem Lv_ds {fn : Func} {R : LRes → Env → Prop} : ∀ (ds : List ADef) (e : Env) (S : Sto), e.ds = ds → leaveDs e.s ds = some S → Lv P O fn none { e with ds := [], s := S } R → Lv P O fn none e R
  | [], e, S, hd, hl, h => by
    simp [leaveDs] at hl; subst hl
    obtain ⟨nt, ro, f, t, ds, s, r⟩ := e
    simp only at hd; subst hd
    exact h
  | .collected d :: ds, e, S, hd, hl, h => by
    simp only [leaveDs] at hl
    split at hl
    · rename_i hg
      refine Lv_coll hd hg ?_
      exact Lv_ds ds _ S rfl hl h
    · cases hl
  | .call _ _ :: _, _, _, _, hl, _ => by simp [leaveDs] at hl
/-- how a body ends, whatever empty rows were collected -/
def endM (P : Program) (rs : List ResultVar) (v : AV) (ex : Ex) (e : Env) : Prop := match ex with
  | .normal | .ret => e.r = .no ∧ ∃ S, leaveDs e.s e.ds = some S ∧ oKe (dresults P { e with ds := [], s := S } rs) (fun S r => Frz S 0 r v) S
  | _ => False
theorem endM_ok {fn : Func} {rs : List ResultVar} (hr : fn.results = rs.toArray) {v : AV} {ex : Ex} {e : Env} (h : endM P rs v ex e) : bodyK P O fn (finR .empty (.ret v none)) ex e := by
  have hrs : fn.results.toList = rs := by rw [hr]
  have key : (e.r = .no ∧ ∃ S, leaveDs e.s e.ds = some S ∧ oKe (dresults P { e with ds := [], s := S } rs) (fun S r => Frz S 0 r v) S) → Lv P O fn none e (finR .empty (.ret v none)) := by
    rintro ⟨h0, S, h1, vs, h2, h3⟩
    exact Lv_ds _ e S rfl h1 (Lv_ret rfl (by rw [hrs]; exact h2) ⟨h0, closes_frz (Nat.zero_le _) h3⟩)
  cases ex with
  | normal => exact key h
  | ret => exact key h
  | _ => exact h.elim
theorem returns_lvs {L : List Ent} (hL : ∀ x ∈ L, ESound P x) (H : Hint) {f : FuncId} {fn : Func} {c : Code} {N : Nat} {rs : List ResultVar} {args : List AV} {v : AV} (hok : okFn P f = true) (hf : P.funcs[f]? = some fn) (hn : fn.ntmps = N) (hr : fn.results = rs.toArray) (hb : fn.body = some c)
    (ha : Nat.ble args.length N = true) (hu : ∀ x ∈ args, Und 0 x)
    (h : Wk P (orcL L) H c ⟨N, none, f, Tr.leaf.lay 0 args, [], ⟨0, 0, .leaf⟩, .no⟩ (endM P rs v)) : Returns P f args v := by
  refine sound_from_empty hu (sound_lv (O := orcL L) (orcL_ok hL) hok hf hb ?_)
  rw [entry_eq hn ha]
  exact h.sound.mono fun ex e he => endM_ok hr he

end
end Go.Abs

/-
  The abstract machine: fields of structs that stay as they are.
-/

namespace Go.Abs
noncomputable section
theorem wfld : (∀ {v : AV} {cs : List AV} {d : Option AV}, v.isCell = true → fldP (some (0, none)) (v :: cs) d = some (.pf v)) ∧
    (∀ {n : Nat} {v : AV} {cs : List AV} {d : Option AV}, fldP (some (n + 1, none)) (v :: cs) d = fldP (some (n, none)) cs d) :=
  ⟨fun h => fldP_one rfl h, fun {n v cs d} => by simp [fldP]⟩
end
end Go.Abs

/-
  Arguments of a law, by their types: integers, strings, slices, structs.
-/

namespace Go.Abs
noncomputable section
variable {P : Program}

theorem shape_int {d : Nat} {t : TypeId} {k : IntKind} {cs : List AV} (hu : P.underlying t = some (.int k)) (h : Shape P (d + 1) t cs) : ∃ n, cs = [.int k n] ∧ k.min ≤ n ∧ n ≤ k.max := by
  simp only [Shape, hu] at h
  obtain ⟨n, rfl, hn⟩ := h
  simp only [Lit.wf, Bool.and_eq_true, decide_eq_true_eq] at hn
  exact ⟨n, rfl, hn.1, hn.2⟩
theorem shape_nat {d : Nat} {t : TypeId} {k : IntKind} {cs : List AV} (hu : P.underlying t = some (.int k)) (hk : k.min = 0) (h : Shape P (d + 1) t cs) : ∃ n : Nat, cs = [.int k n] ∧ (n : Int) ≤ k.max := by
  obtain ⟨n, rfl, h1, h2⟩ := shape_int hu h
  refine ⟨n.toNat, ?_, by omega⟩
  have : ((n.toNat : Nat) : Int) = n := by omega
  rw [this]
theorem shape_bool {d : Nat} {t : TypeId} {cs : List AV} (hu : P.underlying t = some .bool) (h : Shape P (d + 1) t cs) : ∃ b, cs = [.bool b] := by
  simpa only [Shape, hu] using h
theorem shape_str {d : Nat} {t : TypeId} {cs : List AV} (hu : P.underlying t = some .string) (h : Shape P (d + 1) t cs) : ∃ l, cs = [.str l] ∧ l.length < 9223372036854775808 ∧ By l := by
  simp only [Shape, hu] at h
  obtain ⟨l, rfl, h1, h2⟩ := h
  exact ⟨l, rfl, by omega, h2⟩
theorem shape_slice {α : Type} {f : α → AV} {p : α → Prop} {d : Nat} {t e : TypeId} {k : Option Nat} {cs : List AV} (hu : P.underlying t = some (.slice e)) (hk : tyK P e = some k)
    (he : ∀ x, Shape P d e x → x.length = szK k → x.all AV.isCell = true → ∃ y, wrapV k x = f y ∧ p y) (h : Shape P (d + 1) t cs) : ∃ (a : AV) (ys : List α), cs = [a] ∧ Sl a (ys.map f) ∧ ∀ y ∈ ys, p y := by
  simp only [Shape, hu] at h
  obtain ⟨k', hk', h⟩ := h
  rw [hk] at hk'
  cases hk'
  rcases h with rfl | ⟨xs, c, rfl, hl, hx⟩
  · exact ⟨_, [], rfl, ⟨.inl ⟨rfl, rfl⟩, Nat.zero_le _⟩, fun y hy => nomatch hy⟩
  · have key : ∀ ys : List (List AV), (∀ x ∈ ys, ∃ y, wrapV k x = f y ∧ p y) → ∃ zs : List α, ys.map (wrapV k) = zs.map f ∧ ∀ z ∈ zs, p z := by
      intro ys
      induction ys with
      | nil => intro _; exact ⟨[], rfl, fun z hz => nomatch hz⟩
      | cons y ys ih =>
        intro hy
        obtain ⟨zs, e1, e2⟩ := ih fun x hx => hy x (List.mem_cons_of_mem _ hx)
        obtain ⟨z, hz, hp⟩ := hy y (List.mem_cons_self ..)
        refine ⟨z :: zs, by rw [List.map_cons, e1, hz]; rfl, fun x hx => ?_⟩
        rcases List.mem_cons.1 hx with rfl | hx
        · exact hp
        · exact e2 x hx
    obtain ⟨zs, e1, e2⟩ := key xs fun x hx' => he x (hx x hx').1 (hx x hx').2.1 (hx x hx').2.2
    exact ⟨_, zs, rfl, ⟨.inr ⟨c, by rw [e1]⟩, by rw [← e1]; simpa using hl⟩, e2⟩
/-- a struct's fields: type, what lies there, where -/
def fldsK (P : Program) (t : TypeId) : Option (List (TypeId × Option (Option Nat) × Nat)) := match P.underlying t with
  | some (.struct fs) => some (fs.toList.map fun f => (f.type, tyK P f.type, f.offset))
  | _ => none
theorem shape_struct {d : Nat} {t : TypeId} {l : List (TypeId × Option (Option Nat) × Nat)} {cs : List AV} (hf : fldsK P t = some l) (h : Shape P (d + 1) t cs) : ∀ x ∈ l, ∃ k, x.2.1 = some k ∧ Shape P d x.1 (lslice cs x.2.2 (szK k)) := by
  unfold fldsK at hf
  split at hf
  · rename_i fs hu
    simp at hf; subst hf
    simp only [Shape, hu] at h
    intro x hx
    obtain ⟨f, hf, rfl⟩ := List.mem_map.1 hx
    exact h f hf
  · cases hf

end
end Go.Abs
