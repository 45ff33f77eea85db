/-
  Worlds, in plain words; how they lie in the machine.
-/
import Derived.Test.YtajngkkihadgfaaGreatHw
import Derived.Test.YtajngkkihadgfaaGreatEp
set_option linter.unusedVariables false
set_option linter.unusedSimpArgs false
namespace Go.Proofs.YtajngkkihadgfaaGreat
open Go.Abs Go Go.Abs.TryzF
noncomputable section
set_option maxRecDepth 10000
structure Wd where
  objs : List Ob
  tasks : List Int
  outs : List Val
  ins : List Int
  used : Int
  deriving DecidableEq
def noWd : Wd := ⟨[], [], [], [], 0⟩
def refB (n : Int) (v : Val) : Bool := !(decide (v.1 = 5) && decide (n ≤ v.2))
def belowB (n : Int) (l : List Val) : Bool := l.all (refB n)
def frIn (n : Int) (f : Fr) : Bool := belowB n f.env && belowB n f.vals
def insideB (n : Int) (o : Ob) : Bool := o.frs.all (frIn n) && belowB n o.vals
def obIn (n : Int) (o : Ob) : Bool := obOk o && insideB n o
def outOk (v : Val) : Bool := numOk v.1 && numOk v.2
def wdOk (w : Wd) : Bool := decide (w.objs.length ≤ 120) && decide (w.tasks.length ≤ 120) && decide (w.outs.length ≤ 100) && decide (w.ins.length ≤ 50) && inB w.used 0 1073741824 &&
  w.objs.all (obIn w.objs.length) && w.tasks.all (fun t => inB t 0 ((w.objs.length : Int) - 1)) && w.outs.all outOk && w.ins.all numOk
def smallWd (w : Wd) : Bool := w.objs.all smallOb && decide (w.objs.length ≤ 130) && decide (w.tasks.length ≤ 130) && decide (w.outs.length ≤ 120) && decide (w.ins.length ≤ 70)
def decInt : AV → Option Int
  | .int .i64 n => some n
  | _ => none
def decInts : AV → Option (List Int) := decS decInt
def decObs : AV → Option (List Ob) := decS decOb
def decWd : AV → Option Wd
  | .agg [os, ts, us, is, .int .i64 n] => match decObs os, decInts ts, decVals us, decInts is with
    | some a, some b, some c, some d => some ⟨a, b, c, d, n⟩
    | _, _, _, _ => none
  | _ => none
theorem decInt_some {a : AV} {n : Int} (h : decInt a = some n) : a = encI n := by
  unfold decInt at h
  split at h
  · cases h; rfl
  · cases h
theorem decInts_sl {a : AV} {l : List Int} (h : decInts a = some l) : Sl a (l.map encI) := by
  unfold decInts decS at h
  split at h
  · simp at h; subst h; exact ⟨.inl ⟨rfl, rfl⟩, Nat.zero_le _⟩
  · rename_i xs c
    split at h
    · rename_i hl
      have := decL_inv (g := encI) (fun a x => decInt_some) xs l h
      subst this
      exact ⟨.inr ⟨c, rfl⟩, hl⟩
    · cases h
  · cases h
theorem decInts_of {a : AV} {l : List Int} (h : Sl a (l.map encI)) : decInts a = some l := by
  rcases h.1 with ⟨rfl, e⟩ | ⟨c, rfl⟩
  · rw [List.map_eq_nil_iff.1 e]; rfl
  · show (if _ then _ else _) = _
    rw [if_pos h.2, decL_map (f := decInt) (g := encI) fun _ => rfl]
theorem decWd_some {a : AV} {w : Wd} (h : decWd a = some w) : ∃ os ts us is, a = .agg [os, ts, us, is, .int .i64 w.used] ∧ decObs os = some w.objs ∧ decInts ts = some w.tasks ∧ decVals us = some w.outs ∧ decInts is = some w.ins := by
  unfold decWd at h
  split at h
  · rename_i os ts us is n
    split at h
    · rename_i a b c d h1 h2 h3 h4
      cases h
      exact ⟨os, ts, us, is, rfl, h1, h2, h3, h4⟩
    · cases h
  · cases h
theorem decOb_cells (a : AV) (o : Ob) (h : decOb a = some o) : ∃ cs, a = .agg cs ∧ cs.length = 4 ∧ cs.all AV.isCell = true := by
  obtain ⟨vs, fs, rfl, h1, h2⟩ := decOb_some h
  refine ⟨_, rfl, rfl, ?_⟩
  simp only [List.all_cons, List.all_nil, decVals_cell h1, decS_cell h2]; rfl
theorem decS_cells {α : Type} [Inhabited α] {f : AV → Option α} {k : Nat} (hf : ∀ a x, f a = some x → ∃ cs, a = .agg cs ∧ cs.length = k ∧ cs.all AV.isCell = true) {a : AV} {l : List α} (h : decS f a = some l) :
    ∃ (xs : List AV) (c : Nat → List AV), Sl a xs ∧ xs.length = l.length ∧ (∀ i, i < l.length → (∀ {q : IntKind} {d : Option AV}, idxF (some k) xs (.int q (i : Nat)) d = some (.pf (.agg (c i)))) ∧ (c i).length = k ∧ (c i).all AV.isCell = true ∧ f (.agg (c i)) = some (l.getD i default)) := by
  obtain ⟨xs, h1, h2, h3⟩ := decS_sl h
  refine ⟨xs, fun i => (xs.getD i .top).cells, h1, h2, fun i hi => ?_⟩
  have hx : i < xs.length := by omega
  obtain ⟨cs, q1, q2, q3⟩ := hf _ _ (h3 i hx hi)
  have hxi : xs.getD i .top = .agg cs := by rw [getD_lt hx]; exact q1
  refine ⟨fun {q d} => ?_, by simp only [hxi]; exact q2, by simp only [hxi]; exact q3, ?_⟩
  · simp only [hxi]
    refine idxF_ok (by omega) (by omega) ?_ q2
    rw [Int.toNat_natCast, List.getElem?_eq_getElem hx, q1]; rfl
  · simp only [hxi, AV.cells]
    rw [getD_lt hi, ← h3 i hx hi, q1]
theorem obs_cells {a : AV} {l : List Ob} (h : decObs a = some l) : ∃ (xs : List AV) (c : Nat → List AV), Sl a xs ∧ xs.length = l.length ∧ (∀ i, i < l.length → (∀ {q : IntKind} {d : Option AV}, idxF (some 4) xs (.int q (i : Nat)) d = some (.pf (.agg (c i)))) ∧ (c i).length = 4 ∧ (c i).all AV.isCell = true ∧ decOb (.agg (c i)) = some (l.getD i default)) := decS_cells decOb_cells h
theorem under_obs {a : AV} {l : List Ob} (h : decObs a = some l) : UnderE 0 a := by
  obtain ⟨xs, h1, h2, h3⟩ := decS_sl h
  refine und_sl h1 fun x hx => ?_
  obtain ⟨i, hi, rfl⟩ := List.mem_iff_getElem.1 hx
  exact under_ob (h3 i hi (by omega))
theorem under_ints {a : AV} {l : List Int} (h : decInts a = some l) : UnderE 0 a := und_sl (decInts_sl h) (und_encI l)
theorem under_wd {a : AV} {w : Wd} (h : decWd a = some w) : UnderE 0 a := by
  obtain ⟨os, ts, us, is, rfl, h1, h2, h3, h4⟩ := decWd_some h
  refine underE_agg fun x hx => ?_
  simp at hx
  rcases hx with rfl | rfl | rfl | rfl | rfl
  · exact under_obs h1
  · exact under_ints h2
  · exact under_vals h3
  · exact under_ints h4
  · exact ⟨1, rfl⟩
theorem wd_cells {a : AV} {w : Wd} (h : decWd a = some w) : ∃ os ts us is, a = .agg [os, ts, us, is, .int .i64 w.used] ∧ decObs os = some w.objs ∧ decInts ts = some w.tasks ∧ decVals us = some w.outs ∧ decInts is = some w.ins ∧ os.isCell = true ∧ ts.isCell = true ∧ us.isCell = true ∧ is.isCell = true := by
  obtain ⟨os, ts, us, is, rfl, h1, h2, h3, h4⟩ := decWd_some h
  exact ⟨os, ts, us, is, rfl, h1, h2, h3, h4, decS_cell h1, decS_cell h2, decS_cell h3, decS_cell h4⟩
def SmallWorldV : List AV → Option AV
  | [a] => (decWd a).map fun w => .bool (smallWd w)
  | _ => none
theorem SmallWorldV_eq {a : AV} {w : Wd} (h : decWd a = some w) : SmallWorldV [a] = some (.bool (smallWd w)) := by simp [SmallWorldV, h]
set_option maxHeartbeats 1000000 in
theorem rSmallWorld_ok : Abs.Ok Tryz.prog 14 SmallWorldV := by
  intro args v hg
  match args, hg with
  | [a], hg =>
    obtain ⟨w, hw, rfl⟩ := Option.map_eq_some_iff.1 hg
    have hund := (under_wd hw).und
    obtain ⟨os, ts, us, is, rfl, h1, h2, h3, h4, c1, c2, c3, c4⟩ := wd_cells hw
    obtain ⟨xs, c, hsl, hlen, hat⟩ := obs_cells h1
    have s2 := decInts_sl h2
    have s3 := decVals_sl h3
    have s4 := decInts_sl h4
    have hll := hsl.2
    refine returns_wk (L := [ent 7 SmallV]) (elist_cons rSmall_ok.ent elist_nil) noHint (by kernel_rfl) Tryz.func14 Tryz.ntmps14 Tryz.results14 rfl rfl (und_all_cons hund und_all_nil) und_bool ?_
    simp +contextual +decide (maxSteps := 1000000) only [↓ wP, wQ, tf, Nat.reduceAdd, ne_eq, c1, c2, c3, c4]
    refine Wk_loop (fun i e => ∃ t n low ob, e = ⟨44, none, 14, t, [], ⟨n, low, ob⟩, .no⟩ ∧ t.val 1 = .ptr 0 0 0 ∧ t.val 3 = .int .i64 (i : Nat) ∧ ob.get 0 = some (obg 0 [os, ts, us, is, .int .i64 w.used]) ∧ 0 < n ∧ i ≤ w.objs.length ∧ i ≤ 200 ∧ (w.objs.take i).all smallOb = true) (fun i => w.objs.length - i) 0
      ⟨_, 1, 0, _, rfl, by simp +decide only [↓ wval, wint, wlog], by simp +decide only [↓ wval, wint, wlog]; rfl, by simp +decide only [↓ wval, wcell, wlog, ne_eq], by omega, Nat.zero_le _, by omega, rfl⟩ ?_
    rintro i _ ⟨t, n, low, ob, rfl, t1, t3, hg0, hn, hi, hi2, hall⟩
    have f0 := frI (i := 0) (n := n) hn
    have hend : ¬ (i < w.objs.length ∧ i < 200) → smallWd w = (decide (w.objs.length ≤ 130) && decide (w.tasks.length ≤ 130) && decide (w.outs.length ≤ 120) && decide (w.ins.length ≤ 70)) := by
      intro h
      by_cases h130 : w.objs.length ≤ 130
      · have hi' : i = w.objs.length := by omega
        subst hi'
        rw [List.take_length] at hall
        unfold smallWd
        rw [hall, Bool.true_and]
      · unfold smallWd
        rw [decide_eq_false h130]; simp
    have q1 : (((xs.length : Nat) : Int) ≤ 130) = (w.objs.length ≤ 130) := propext (by omega)
    have q2 : (((w.tasks.length : Nat) : Int) ≤ 130) = (w.tasks.length ≤ 130) := propext (by omega)
    have q3 : (((w.outs.length : Nat) : Int) ≤ 120) = (w.outs.length ≤ 120) := propext (by omega)
    have q4 : (((w.ins.length : Nat) : Int) ≤ 70) = (w.ins.length ≤ 70) := propext (by omega)
    have d1 : ((i : Int) < (xs.length : Nat)) = (i < w.objs.length) := propext (by omega)
    have d2 : ((i : Int) < 200) = (i < 200) := propext (by omega)
    by_cases hlt : i < w.objs.length ∧ i < 200
    · obtain ⟨hlt, h200⟩ := hlt
      have d5 := wrap_succ (i := i) (by omega)
      have htk := take_snoc (d := default) hlt
      have hm : w.objs.getD i default ∈ w.objs := by rw [getD_lt hlt]; exact List.getElem_mem _
      obtain ⟨hix, hcl, hcc, hdec⟩ := hat i hlt
      have x1 := fun {q d} => hix (q := q) (d := d)
      have e1 := SmallV_eq hdec
      generalize c i = cs at *
      cases k : smallOb (w.objs.getD i default) with
      | true =>
        rw [k] at e1
        simp +contextual +decide (maxSteps := 1000000) only [↓ wP, wQ, tf, Nat.reduceAdd, ne_eq, t1, t3, hg0, f0, frN, hsl.len, hsl.idx, x1, pfC_agg, hcl, d1, hlt, d2, h200, d5, e1]
        refine ⟨i + 1, by show _ - _ < _ - _; omega, _, _, _, _, rfl, by simp +decide only [↓ wval, wint, wlog, t1], by simp +decide only [↓ wval, wint, wlog], hg0, hn, hlt, h200, ?_⟩
        rw [htk, List.all_append, hall]
        simp only [List.all_cons, k, List.all_nil]; rfl
      | false =>
        rw [k] at e1
        simp +contextual +decide (maxSteps := 1000000) only [↓ wP, wQ, tf, Nat.reduceAdd, ne_eq, t1, t3, hg0, f0, frN, hsl.len, hsl.idx, x1, pfC_agg, hcl, d1, hlt, d2, h200, d5, e1]
        have : w.objs.all smallOb = false := by rw [List.all_eq_false]; exact ⟨_, hm, by rw [k]; simp⟩
        unfold smallWd
        rw [this]; rfl
    · rw [hend hlt]
      have hnot : (i < w.objs.length) = False ∨ (i < w.objs.length) = True ∧ (i < 200) = False := by
        by_cases h : i < w.objs.length
        · exact .inr ⟨eq_true h, eq_false fun h' => hlt ⟨h, h'⟩⟩
        · exact .inl (eq_false h)
      by_cases k1 : w.objs.length ≤ 130 <;> by_cases k2 : w.tasks.length ≤ 130 <;> by_cases k3 : w.outs.length ≤ 120 <;> by_cases k4 : w.ins.length ≤ 70
      all_goals
        rcases hnot with hnot | ⟨hnot, hnot2⟩
        · simp +contextual +decide (maxSteps := 1000000) only [↓ wP, wQ, tf, Nat.reduceAdd, ne_eq, t1, t3, hg0, f0, frN, hsl.len, s2.len, s3.len, s4.len, List.length_map, d1, hnot, q1, q2, q3, q4, k1, k2, k3, k4]
          try rfl
        · simp +contextual +decide (maxSteps := 1000000) only [↓ wP, wQ, tf, Nat.reduceAdd, ne_eq, t1, t3, hg0, f0, frN, hsl.len, s2.len, s3.len, s4.len, List.length_map, d1, d2, hnot, hnot2, q1, q2, q3, q4, k1, k2, k3, k4]
          try rfl
end
end Go.Proofs.YtajngkkihadgfaaGreat
/-
  The program of images: every, for objects, outputs and numbers.
-/
namespace Go.Proofs.YtajngkkihadgfaaGreat
open Go.Abs Go Go.Abs.TryzF
noncomputable section
set_option maxRecDepth 10000
theorem indexO_run {O : Orc} (ho : ∀ a σ, O 142 a σ = none) (g : FuncId) (cap : List AV) (a : AV) (xs : List AV) (ha : Sl a xs) (m : Nat) (hlen : xs.length = m) (c : Nat → List AV) (hix : ∀ i, i < m → ∀ {q : IntKind} {d : Option AV}, idxF (some 4) xs (.int q (i : Nat)) d = some (.pf (.agg (c i)))) (hcl : ∀ i, i < m → (c i).length = 4) (p : Nat → Bool) (s : Sto)
    (h : ∀ i, i < m → ∀ s', Sim s s' → RetS Tryz.prog O (.func (.func g) [] cap) [.agg (c i)] s' (.bool (p i))) : RetS Tryz.prog O (.func (.func 142) [] []) [a, .func (.func g) [] cap] s (.int .i64 (match (List.range m).findIdx? p with | some i => ((i : Nat) : Int) | none => -1)) := by
  have hll := ha.2
  refine RetS.run (first := []) (args := [a, .func (.func g) [] cap]) (cap := []) noHint (ho _ _) (by kernel_rfl) Tryz.func142 Tryz.ntmps142 Tryz.results142 rfl rfl ?_
  obtain ⟨n0, low0, o0⟩ := s
  show Wk _ _ _ _ ⟨19, none, 142, Tr.leaf.lay 0 [a, .func (.func g) [] cap], [], ⟨n0, n0, o0⟩, .no⟩ _
  simp +contextual +decide (maxSteps := 1000000) only [↓ wP, wQ, tf, Nat.reduceAdd, ne_eq, ha.len, hlen]
  refine Wk_loop (fun i e => ∃ t n low o, e = ⟨19, none, 142, t, [], ⟨n, low, o⟩, .no⟩ ∧ t.val 0 = a ∧ t.val 1 = .func (.func g) [] cap ∧ t.val 7 = .int .i64 (m : Nat) ∧ t.val 8 = .int .i64 (i : Nat) ∧ i ≤ m ∧ (∀ j, j < i → p j = false) ∧ n0 ≤ n ∧ ∀ id, id < n0 → o.get id = o0.get id) (fun i => m - i) 0
    ⟨_, n0, n0, o0, rfl, by simp +decide only [↓ wval, wint, wlog], by simp +decide only [↓ wval, wint, wlog], by simp +decide only [↓ wval, wint, wlog], by simp +decide only [↓ wval, wint, wlog]; rfl, Nat.zero_le _, fun j hj => by omega, Nat.le_refl _, fun _ _ => rfl⟩ ?_
  rintro i _ ⟨t, n, low, o, rfl, t0, t1, t7, t8, hi, hpre, hn, hoth⟩
  by_cases hlt : i < m
  · have d1 : ((i : Int) < (m : Nat)) = True := eq_true (by omega)
    have d5 := wrap_succ (i := i) (by omega)
    have x1 := fun {q d} => hix i hlt (q := q) (d := d)
    have x2 := hcl i hlt
    have x3 := h i hlt
    generalize c i = cs at *
    simp +contextual +decide (maxSteps := 1000000) only [↓ wP, wQ, tf, Nat.reduceAdd, ne_eq, ha.idx, t0, t1, t7, t8, d1, x1, pfC_agg, x2]
    refine Wcall_func.1 ((x3 ⟨n, low, o⟩ (sim_mk (low := low0) hn hoth)).wcall fun so hso => ?_)
    rw [callK_put]
    obtain ⟨n', low', o', e1, h1, h2⟩ := sim_of hso
    rw [e1]
    cases hp : p i with
    | true =>
      have hf : (List.range m).findIdx? p = some i := by
        rw [List.findIdx?_eq_some_iff_getElem]
        refine ⟨by simpa using hlt, by simpa using hp, fun j hj => ?_⟩
        have := hpre j hj
        simpa using this
      simp +contextual +decide (maxSteps := 1000000) only [↓ wP, wQ, tf, Nat.reduceAdd, ne_eq, t0, t1, t7, t8, endS_ret, endS_normal, hf]
      exact sim_mk (by omega) (fun id hid => by rw [h2 id (by omega)]; exact hoth id hid)
    | false =>
      simp +contextual +decide (maxSteps := 1000000) only [↓ wP, wQ, tf, Nat.reduceAdd, ne_eq, t0, t1, t7, t8, d5]
      exact ⟨i + 1, by show _ - _ < _ - _; omega, _, n', low', o', rfl, by simp +decide only [↓ wval, wint, wlog, t0], by simp +decide only [↓ wval, wint, wlog, t1], by simp +decide only [↓ wval, wint, wlog, t7], by simp +decide only [↓ wval, wint, wlog], hlt, fun j hj => by
        rcases Nat.lt_succ_iff_lt_or_eq.1 hj with hj | rfl
        · exact hpre j hj
        · exact hp, by omega, fun id hid => by rw [h2 id (by omega)]; exact hoth id hid⟩
  · have : i = m := by omega
    subst this
    have d1 : (((i : Nat) : Int) < (i : Nat)) = False := eq_false (by omega)
    have hf : (List.range i).findIdx? p = none := by
      rw [List.findIdx?_eq_none_iff]
      intro x hx
      exact hpre x (List.mem_range.1 hx)
    simp +contextual +decide (maxSteps := 1000000) only [↓ wP, wQ, tf, Nat.reduceAdd, ne_eq, t0, t1, t7, t8, d1, endS_ret, endS_normal, hf]
    exact sim_mk hn hoth
theorem containsO_run {O : Orc} (ho : ∀ a σ, O 142 a σ = none) (ho' : ∀ a σ, O 134 a σ = none) (g : FuncId) (cap : List AV) (a : AV) (xs : List AV) (ha : Sl a xs) (m : Nat) (hlen : xs.length = m) (c : Nat → List AV) (hix : ∀ i, i < m → ∀ {q : IntKind} {d : Option AV}, idxF (some 4) xs (.int q (i : Nat)) d = some (.pf (.agg (c i)))) (hcl : ∀ i, i < m → (c i).length = 4) (p : Nat → Bool) (s : Sto)
    (h : ∀ i, i < m → ∀ s', Sim s s' → RetS Tryz.prog O (.func (.func g) [] cap) [.agg (c i)] s' (.bool (p i))) : RetS Tryz.prog O (.func (.func 134) [] []) [a, .func (.func g) [] cap] s (.bool ((List.range m).any p)) := by
  have hx := fun s' hs => indexO_run ho g cap a xs ha m hlen c hix hcl p s' fun x hx s'' hs' => h x hx s'' (Sim.trans (b := s') hs hs')
  refine RetS.run (first := []) (args := [a, .func (.func g) [] cap]) (cap := []) noHint (ho' _ _) (by kernel_rfl) Tryz.func134 Tryz.ntmps134 Tryz.results134 rfl rfl ?_
  obtain ⟨n0, low0, o0⟩ := s
  show Wk _ _ _ _ ⟨9, none, 134, Tr.leaf.lay 0 [a, .func (.func g) [] cap], [], ⟨n0, n0, o0⟩, .no⟩ _
  simp +contextual +decide (maxSteps := 1000000) only [↓ wP, wQ, tf, Nat.reduceAdd, ne_eq, ho, orcK_none]
  refine wrunOf (ho _ _) ((hx ⟨n0, n0, o0⟩ (sim_mk (Nat.le_refl _) fun _ _ => rfl)).wcall fun so hso => ?_)
  rw [callK_put]
  obtain ⟨n', low', o', e1, h1, h2⟩ := sim_of hso
  rw [e1]
  cases hf : (List.range m).findIdx? p with
  | none =>
    have hany : (List.range m).any p = false := by
      rw [List.any_eq_false]; intro x hx; have := List.findIdx?_eq_none_iff.1 hf x hx; simp [this]
    simp +contextual +decide (maxSteps := 1000000) only [↓ wP, wQ, tf, Nat.reduceAdd, ne_eq, endS_ret, endS_normal, hany, show ((0 : Int) ≤ -1) = False from eq_false (by omega)]
    exact sim_mk h1 h2
  | some i =>
    have hany : (List.range m).any p = true := by
      obtain ⟨h3, h4, _⟩ := List.findIdx?_eq_some_iff_getElem.1 hf
      rw [List.any_eq_true]; exact ⟨_, List.getElem_mem h3, h4⟩
    simp +contextual +decide (maxSteps := 1000000) only [↓ wP, wQ, tf, Nat.reduceAdd, ne_eq, endS_ret, endS_normal, hany, show ((0 : Int) ≤ (i : Nat)) = True from eq_true (by omega)]
    exact sim_mk h1 h2
theorem everyO1_run {O : Orc} (ho1 : ∀ a σ, O 135 a σ = none) (g : FuncId) (cap : List AV) (cs : List AV) (hcs : cs.length = 4) (hcc : cs.all AV.isCell = true) (b : Bool) (c : Nat) (s : Sto) (hc : s.get c = some (obg 0 [.func (.func g) [] cap]))
    (h : ∀ s', Sim s s' → RetS Tryz.prog O (.func (.func g) [] cap) [.agg cs] s' (.bool b)) : RetS Tryz.prog O (.func (.func 135) [] [.ptr c 0 0]) [.agg cs] s (.bool !b) := by
  refine RetS.run (first := []) (args := [.agg cs]) (cap := [.ptr c 0 0]) noHint (ho1 _ _) (by kernel_rfl) Tryz.func135 Tryz.ntmps135 Tryz.results135 rfl rfl ?_
  obtain ⟨n0, low0, o0⟩ := s
  have hcn : c < n0 := Sto.get_lt hc
  rw [Sto.get_mk hcn] at hc
  have f0 := frI hcn
  have hz : 0 + 4 ≤ cs.length := by omega
  show Wk _ _ _ _ ⟨8, none, 135, Tr.leaf.lay 0 [.agg cs, .ptr c 0 0], [], ⟨n0, n0, o0⟩, .no⟩ _
  simp +contextual +decide (maxSteps := 1000000) only [↓ wP, wQ, tf, Nat.reduceAdd, ne_eq, hc, hcc, hcs, hz, f0, frN, show lslice cs 0 4 = cs from by unfold lslice; rw [List.drop_zero, List.take_of_length_le (by omega)]]
  refine Wcall_func.1 ((h _ (sim_mk (by omega) fun id hid => by rw [Tr.get_set_ne _ _ (by omega)])).wcall fun so hso => ?_)
  rw [callK_put]
  obtain ⟨n', low', o', e1, h1, h2⟩ := sim_of hso
  rw [e1]
  simp +contextual +decide (maxSteps := 1000000) only [↓ wP, wQ, tf, Nat.reduceAdd, ne_eq, endS_ret, endS_normal]
  exact sim_mk (by omega) (fun id hid => by rw [h2 id (by omega), Tr.get_set_ne _ _ (by omega)])
theorem everyO_run {O : Orc} (ho : ∀ a σ, O 142 a σ = none) (ho' : ∀ a σ, O 134 a σ = none) (ho1 : ∀ a σ, O 135 a σ = none) (ho2 : ∀ a σ, O 104 a σ = none)
    (g : FuncId) (cap : List AV) (a : AV) (xs : List AV) (ha : Sl a xs) (m : Nat) (hlen : xs.length = m) (c : Nat → List AV) (hix : ∀ i, i < m → ∀ {q : IntKind} {d : Option AV}, idxF (some 4) xs (.int q (i : Nat)) d = some (.pf (.agg (c i)))) (hcl : ∀ i, i < m → (c i).length = 4) (hcc : ∀ i, i < m → (c i).all AV.isCell = true) (p : Nat → Bool) (most : Nat) (s : Sto)
    (h : ∀ i, i < m → ∀ s', Sim s s' → RetS Tryz.prog O (.func (.func g) [] cap) [.agg (c i)] s' (.bool (p i))) : RetS Tryz.prog O (.func (.func 104) [] []) [a, .int .i64 (most : Nat), .func (.func g) [] cap] s (.bool (decide (m ≤ most) && (List.range m).all p)) := by
  refine RetS.run (first := []) (args := [a, .int .i64 (most : Nat), .func (.func g) [] cap]) (cap := []) noHint (ho2 _ _) (by kernel_rfl) Tryz.func104 Tryz.ntmps104 Tryz.results104 rfl rfl ?_
  obtain ⟨n0, low0, o0⟩ := s
  show Wk _ _ _ _ ⟨17, none, 104, Tr.leaf.lay 0 [a, .int .i64 (most : Nat), .func (.func g) [] cap], [], ⟨n0, n0, o0⟩, .no⟩ _
  have d1 : (((m : Nat) : Int) ≤ (most : Nat)) = (m ≤ most) := propext (by omega)
  by_cases hl : m ≤ most
  · simp +contextual +decide (maxSteps := 1000000) only [↓ wP, wQ, tf, Nat.reduceAdd, ne_eq, ha.len, hlen, d1, hl, ho', orcK_none]
    refine wrunOf (ho' _ _) ((containsO_run ho ho' 135 [.ptr n0 0 0] a xs ha m hlen c hix hcl (fun i => !p i) ⟨n0 + 1, n0, o0.set n0 (obg 0 [.func (.func g) [] cap])⟩ fun i hi s' hs => ?_).wcall fun so hso => ?_)
    · refine everyO1_run ho1 g cap (c i) (hcl i hi) (hcc i hi) (p i) n0 s' (hs.get ?_) fun s'' hs' => h i hi s'' ?_
      · rw [Sto.get_mk (by omega), Tr.get_set_same]
      · exact (sim_mk (by omega) fun id hid => by rw [Tr.get_set_ne _ _ (by omega)] : Sim ⟨n0, low0, o0⟩ ⟨n0 + 1, n0, o0.set n0 (obg 0 [.func (.func g) [] cap])⟩).trans (hs.trans hs')
    · rw [callK_put]
      obtain ⟨n', low', o', e1, h1, h2⟩ := sim_of hso
      rw [e1]
      have hany : ((List.range m).any fun x => !p x) = !(List.range m).all p := by rw [← List.not_all_eq_any_not]
      rw [hany]
      simp +contextual +decide (maxSteps := 1000000) only [↓ wP, wQ, tf, Nat.reduceAdd, ne_eq, endS_ret, endS_normal, Bool.not_not]
      exact sim_mk (by omega) (fun id hid => by rw [h2 id (by omega), Tr.get_set_ne _ _ (by omega)])
  · simp +contextual +decide (maxSteps := 1000000) only [↓ wP, wQ, tf, Nat.reduceAdd, ne_eq, ha.len, hlen, d1, hl, endS_ret, endS_normal]
    exact ⟨by simp, sim_mk (by omega) (fun id hid => by rw [Tr.get_set_ne _ _ (by omega)])⟩
theorem indexU_run {O : Orc} (ho : ∀ a σ, O 144 a σ = none) (g : FuncId) (cap : List AV) (a : AV) (xs : List AV) (ha : Sl a xs) (m : Nat) (hlen : xs.length = m) (c : Nat → List AV) (hix : ∀ i, i < m → ∀ {q : IntKind} {d : Option AV}, idxF (some 2) xs (.int q (i : Nat)) d = some (.pf (.agg (c i)))) (hcl : ∀ i, i < m → (c i).length = 2) (p : Nat → Bool) (s : Sto)
    (h : ∀ i, i < m → ∀ s', Sim s s' → RetS Tryz.prog O (.func (.func g) [] cap) [.agg (c i)] s' (.bool (p i))) : RetS Tryz.prog O (.func (.func 144) [] []) [a, .func (.func g) [] cap] s (.int .i64 (match (List.range m).findIdx? p with | some i => ((i : Nat) : Int) | none => -1)) := by
  have hll := ha.2
  refine RetS.run (first := []) (args := [a, .func (.func g) [] cap]) (cap := []) noHint (ho _ _) (by kernel_rfl) Tryz.func144 Tryz.ntmps144 Tryz.results144 rfl rfl ?_
  obtain ⟨n0, low0, o0⟩ := s
  show Wk _ _ _ _ ⟨19, none, 144, Tr.leaf.lay 0 [a, .func (.func g) [] cap], [], ⟨n0, n0, o0⟩, .no⟩ _
  simp +contextual +decide (maxSteps := 1000000) only [↓ wP, wQ, tf, Nat.reduceAdd, ne_eq, ha.len, hlen]
  refine Wk_loop (fun i e => ∃ t n low o, e = ⟨19, none, 144, t, [], ⟨n, low, o⟩, .no⟩ ∧ t.val 0 = a ∧ t.val 1 = .func (.func g) [] cap ∧ t.val 7 = .int .i64 (m : Nat) ∧ t.val 8 = .int .i64 (i : Nat) ∧ i ≤ m ∧ (∀ j, j < i → p j = false) ∧ n0 ≤ n ∧ ∀ id, id < n0 → o.get id = o0.get id) (fun i => m - i) 0
    ⟨_, n0, n0, o0, rfl, by simp +decide only [↓ wval, wint, wlog], by simp +decide only [↓ wval, wint, wlog], by simp +decide only [↓ wval, wint, wlog], by simp +decide only [↓ wval, wint, wlog]; rfl, Nat.zero_le _, fun j hj => by omega, Nat.le_refl _, fun _ _ => rfl⟩ ?_
  rintro i _ ⟨t, n, low, o, rfl, t0, t1, t7, t8, hi, hpre, hn, hoth⟩
  by_cases hlt : i < m
  · have d1 : ((i : Int) < (m : Nat)) = True := eq_true (by omega)
    have d5 := wrap_succ (i := i) (by omega)
    have x1 := fun {q d} => hix i hlt (q := q) (d := d)
    have x2 := hcl i hlt
    have x3 := h i hlt
    generalize c i = cs at *
    simp +contextual +decide (maxSteps := 1000000) only [↓ wP, wQ, tf, Nat.reduceAdd, ne_eq, ha.idx, t0, t1, t7, t8, d1, x1, pfC_agg, x2]
    refine Wcall_func.1 ((x3 ⟨n, low, o⟩ (sim_mk (low := low0) hn hoth)).wcall fun so hso => ?_)
    rw [callK_put]
    obtain ⟨n', low', o', e1, h1, h2⟩ := sim_of hso
    rw [e1]
    cases hp : p i with
    | true =>
      have hf : (List.range m).findIdx? p = some i := by
        rw [List.findIdx?_eq_some_iff_getElem]
        refine ⟨by simpa using hlt, by simpa using hp, fun j hj => ?_⟩
        have := hpre j hj
        simpa using this
      simp +contextual +decide (maxSteps := 1000000) only [↓ wP, wQ, tf, Nat.reduceAdd, ne_eq, t0, t1, t7, t8, endS_ret, endS_normal, hf]
      exact sim_mk (by omega) (fun id hid => by rw [h2 id (by omega)]; exact hoth id hid)
    | false =>
      simp +contextual +decide (maxSteps := 1000000) only [↓ wP, wQ, tf, Nat.reduceAdd, ne_eq, t0, t1, t7, t8, d5]
      exact ⟨i + 1, by show _ - _ < _ - _; omega, _, n', low', o', rfl, by simp +decide only [↓ wval, wint, wlog, t0], by simp +decide only [↓ wval, wint, wlog, t1], by simp +decide only [↓ wval, wint, wlog, t7], by simp +decide only [↓ wval, wint, wlog], hlt, fun j hj => by
        rcases Nat.lt_succ_iff_lt_or_eq.1 hj with hj | rfl
        · exact hpre j hj
        · exact hp, by omega, fun id hid => by rw [h2 id (by omega)]; exact hoth id hid⟩
  · have : i = m := by omega
    subst this
    have d1 : (((i : Nat) : Int) < (i : Nat)) = False := eq_false (by omega)
    have hf : (List.range i).findIdx? p = none := by
      rw [List.findIdx?_eq_none_iff]
      intro x hx
      exact hpre x (List.mem_range.1 hx)
    simp +contextual +decide (maxSteps := 1000000) only [↓ wP, wQ, tf, Nat.reduceAdd, ne_eq, t0, t1, t7, t8, d1, endS_ret, endS_normal, hf]
    exact sim_mk hn hoth
theorem containsU_run {O : Orc} (ho : ∀ a σ, O 144 a σ = none) (ho' : ∀ a σ, O 138 a σ = none) (g : FuncId) (cap : List AV) (a : AV) (xs : List AV) (ha : Sl a xs) (m : Nat) (hlen : xs.length = m) (c : Nat → List AV) (hix : ∀ i, i < m → ∀ {q : IntKind} {d : Option AV}, idxF (some 2) xs (.int q (i : Nat)) d = some (.pf (.agg (c i)))) (hcl : ∀ i, i < m → (c i).length = 2) (p : Nat → Bool) (s : Sto)
    (h : ∀ i, i < m → ∀ s', Sim s s' → RetS Tryz.prog O (.func (.func g) [] cap) [.agg (c i)] s' (.bool (p i))) : RetS Tryz.prog O (.func (.func 138) [] []) [a, .func (.func g) [] cap] s (.bool ((List.range m).any p)) := by
  have hx := fun s' hs => indexU_run ho g cap a xs ha m hlen c hix hcl p s' fun x hx s'' hs' => h x hx s'' (Sim.trans (b := s') hs hs')
  refine RetS.run (first := []) (args := [a, .func (.func g) [] cap]) (cap := []) noHint (ho' _ _) (by kernel_rfl) Tryz.func138 Tryz.ntmps138 Tryz.results138 rfl rfl ?_
  obtain ⟨n0, low0, o0⟩ := s
  show Wk _ _ _ _ ⟨9, none, 138, Tr.leaf.lay 0 [a, .func (.func g) [] cap], [], ⟨n0, n0, o0⟩, .no⟩ _
  simp +contextual +decide (maxSteps := 1000000) only [↓ wP, wQ, tf, Nat.reduceAdd, ne_eq, ho, orcK_none]
  refine wrunOf (ho _ _) ((hx ⟨n0, n0, o0⟩ (sim_mk (Nat.le_refl _) fun _ _ => rfl)).wcall fun so hso => ?_)
  rw [callK_put]
  obtain ⟨n', low', o', e1, h1, h2⟩ := sim_of hso
  rw [e1]
  cases hf : (List.range m).findIdx? p with
  | none =>
    have hany : (List.range m).any p = false := by
      rw [List.any_eq_false]; intro x hx; have := List.findIdx?_eq_none_iff.1 hf x hx; simp [this]
    simp +contextual +decide (maxSteps := 1000000) only [↓ wP, wQ, tf, Nat.reduceAdd, ne_eq, endS_ret, endS_normal, hany, show ((0 : Int) ≤ -1) = False from eq_false (by omega)]
    exact sim_mk h1 h2
  | some i =>
    have hany : (List.range m).any p = true := by
      obtain ⟨h3, h4, _⟩ := List.findIdx?_eq_some_iff_getElem.1 hf
      rw [List.any_eq_true]; exact ⟨_, List.getElem_mem h3, h4⟩
    simp +contextual +decide (maxSteps := 1000000) only [↓ wP, wQ, tf, Nat.reduceAdd, ne_eq, endS_ret, endS_normal, hany, show ((0 : Int) ≤ (i : Nat)) = True from eq_true (by omega)]
    exact sim_mk h1 h2
theorem everyU1_run {O : Orc} (ho1 : ∀ a σ, O 139 a σ = none) (g : FuncId) (cap : List AV) (cs : List AV) (hcs : cs.length = 2) (hcc : cs.all AV.isCell = true) (b : Bool) (c : Nat) (s : Sto) (hc : s.get c = some (obg 0 [.func (.func g) [] cap]))
    (h : ∀ s', Sim s s' → RetS Tryz.prog O (.func (.func g) [] cap) [.agg cs] s' (.bool b)) : RetS Tryz.prog O (.func (.func 139) [] [.ptr c 0 0]) [.agg cs] s (.bool !b) := by
  refine RetS.run (first := []) (args := [.agg cs]) (cap := [.ptr c 0 0]) noHint (ho1 _ _) (by kernel_rfl) Tryz.func139 Tryz.ntmps139 Tryz.results139 rfl rfl ?_
  obtain ⟨n0, low0, o0⟩ := s
  have hcn : c < n0 := Sto.get_lt hc
  rw [Sto.get_mk hcn] at hc
  have f0 := frI hcn
  have hz : 0 + 2 ≤ cs.length := by omega
  show Wk _ _ _ _ ⟨8, none, 139, Tr.leaf.lay 0 [.agg cs, .ptr c 0 0], [], ⟨n0, n0, o0⟩, .no⟩ _
  simp +contextual +decide (maxSteps := 1000000) only [↓ wP, wQ, tf, Nat.reduceAdd, ne_eq, hc, hcc, hcs, hz, f0, frN, show lslice cs 0 2 = cs from by unfold lslice; rw [List.drop_zero, List.take_of_length_le (by omega)]]
  refine Wcall_func.1 ((h _ (sim_mk (by omega) fun id hid => by rw [Tr.get_set_ne _ _ (by omega)])).wcall fun so hso => ?_)
  rw [callK_put]
  obtain ⟨n', low', o', e1, h1, h2⟩ := sim_of hso
  rw [e1]
  simp +contextual +decide (maxSteps := 1000000) only [↓ wP, wQ, tf, Nat.reduceAdd, ne_eq, endS_ret, endS_normal]
  exact sim_mk (by omega) (fun id hid => by rw [h2 id (by omega), Tr.get_set_ne _ _ (by omega)])
theorem everyU_run {O : Orc} (ho : ∀ a σ, O 144 a σ = none) (ho' : ∀ a σ, O 138 a σ = none) (ho1 : ∀ a σ, O 139 a σ = none) (ho2 : ∀ a σ, O 106 a σ = none)
    (g : FuncId) (cap : List AV) (a : AV) (xs : List AV) (ha : Sl a xs) (m : Nat) (hlen : xs.length = m) (c : Nat → List AV) (hix : ∀ i, i < m → ∀ {q : IntKind} {d : Option AV}, idxF (some 2) xs (.int q (i : Nat)) d = some (.pf (.agg (c i)))) (hcl : ∀ i, i < m → (c i).length = 2) (hcc : ∀ i, i < m → (c i).all AV.isCell = true) (p : Nat → Bool) (most : Nat) (s : Sto)
    (h : ∀ i, i < m → ∀ s', Sim s s' → RetS Tryz.prog O (.func (.func g) [] cap) [.agg (c i)] s' (.bool (p i))) : RetS Tryz.prog O (.func (.func 106) [] []) [a, .int .i64 (most : Nat), .func (.func g) [] cap] s (.bool (decide (m ≤ most) && (List.range m).all p)) := by
  refine RetS.run (first := []) (args := [a, .int .i64 (most : Nat), .func (.func g) [] cap]) (cap := []) noHint (ho2 _ _) (by kernel_rfl) Tryz.func106 Tryz.ntmps106 Tryz.results106 rfl rfl ?_
  obtain ⟨n0, low0, o0⟩ := s
  show Wk _ _ _ _ ⟨17, none, 106, Tr.leaf.lay 0 [a, .int .i64 (most : Nat), .func (.func g) [] cap], [], ⟨n0, n0, o0⟩, .no⟩ _
  have d1 : (((m : Nat) : Int) ≤ (most : Nat)) = (m ≤ most) := propext (by omega)
  by_cases hl : m ≤ most
  · simp +contextual +decide (maxSteps := 1000000) only [↓ wP, wQ, tf, Nat.reduceAdd, ne_eq, ha.len, hlen, d1, hl, ho', orcK_none]
    refine wrunOf (ho' _ _) ((containsU_run ho ho' 139 [.ptr n0 0 0] a xs ha m hlen c hix hcl (fun i => !p i) ⟨n0 + 1, n0, o0.set n0 (obg 0 [.func (.func g) [] cap])⟩ fun i hi s' hs => ?_).wcall fun so hso => ?_)
    · refine everyU1_run ho1 g cap (c i) (hcl i hi) (hcc i hi) (p i) n0 s' (hs.get ?_) fun s'' hs' => h i hi s'' ?_
      · rw [Sto.get_mk (by omega), Tr.get_set_same]
      · exact (sim_mk (by omega) fun id hid => by rw [Tr.get_set_ne _ _ (by omega)] : Sim ⟨n0, low0, o0⟩ ⟨n0 + 1, n0, o0.set n0 (obg 0 [.func (.func g) [] cap])⟩).trans (hs.trans hs')
    · rw [callK_put]
      obtain ⟨n', low', o', e1, h1, h2⟩ := sim_of hso
      rw [e1]
      have hany : ((List.range m).any fun x => !p x) = !(List.range m).all p := by rw [← List.not_all_eq_any_not]
      rw [hany]
      simp +contextual +decide (maxSteps := 1000000) only [↓ wP, wQ, tf, Nat.reduceAdd, ne_eq, endS_ret, endS_normal, Bool.not_not]
      exact sim_mk (by omega) (fun id hid => by rw [h2 id (by omega), Tr.get_set_ne _ _ (by omega)])
  · simp +contextual +decide (maxSteps := 1000000) only [↓ wP, wQ, tf, Nat.reduceAdd, ne_eq, ha.len, hlen, d1, hl, endS_ret, endS_normal]
    exact ⟨by simp, sim_mk (by omega) (fun id hid => by rw [Tr.get_set_ne _ _ (by omega)])⟩
theorem indexI_run {O : Orc} (ho : ∀ a σ, O 143 a σ = none) (g : FuncId) (cap : List AV) (a : AV) (xs : List AV) (ha : Sl a xs) (m : Nat) (hlen : xs.length = m) (c : Nat → AV) (hix : ∀ i, i < m → ∀ {q : IntKind} {d : Option AV}, idxF (some 1) xs (.int q (i : Nat)) d = some (.pf (c i))) (hcl : ∀ i, i < m → (c i).isCell = true) (p : Nat → Bool) (s : Sto)
    (h : ∀ i, i < m → ∀ s', Sim s s' → RetS Tryz.prog O (.func (.func g) [] cap) [c i] s' (.bool (p i))) : RetS Tryz.prog O (.func (.func 143) [] []) [a, .func (.func g) [] cap] s (.int .i64 (match (List.range m).findIdx? p with | some i => ((i : Nat) : Int) | none => -1)) := by
  have hll := ha.2
  refine RetS.run (first := []) (args := [a, .func (.func g) [] cap]) (cap := []) noHint (ho _ _) (by kernel_rfl) Tryz.func143 Tryz.ntmps143 Tryz.results143 rfl rfl ?_
  obtain ⟨n0, low0, o0⟩ := s
  show Wk _ _ _ _ ⟨19, none, 143, Tr.leaf.lay 0 [a, .func (.func g) [] cap], [], ⟨n0, n0, o0⟩, .no⟩ _
  simp +contextual +decide (maxSteps := 1000000) only [↓ wP, wQ, tf, Nat.reduceAdd, ne_eq, ha.len, hlen]
  refine Wk_loop (fun i e => ∃ t n low o, e = ⟨19, none, 143, t, [], ⟨n, low, o⟩, .no⟩ ∧ t.val 0 = a ∧ t.val 1 = .func (.func g) [] cap ∧ t.val 7 = .int .i64 (m : Nat) ∧ t.val 8 = .int .i64 (i : Nat) ∧ i ≤ m ∧ (∀ j, j < i → p j = false) ∧ n0 ≤ n ∧ ∀ id, id < n0 → o.get id = o0.get id) (fun i => m - i) 0
    ⟨_, n0, n0, o0, rfl, by simp +decide only [↓ wval, wint, wlog], by simp +decide only [↓ wval, wint, wlog], by simp +decide only [↓ wval, wint, wlog], by simp +decide only [↓ wval, wint, wlog]; rfl, Nat.zero_le _, fun j hj => by omega, Nat.le_refl _, fun _ _ => rfl⟩ ?_
  rintro i _ ⟨t, n, low, o, rfl, t0, t1, t7, t8, hi, hpre, hn, hoth⟩
  by_cases hlt : i < m
  · have d1 : ((i : Int) < (m : Nat)) = True := eq_true (by omega)
    have d5 := wrap_succ (i := i) (by omega)
    have x1 := fun {q d} => hix i hlt (q := q) (d := d)
    have x2 := hcl i hlt
    have x3 := h i hlt
    generalize c i = cs at *
    simp +contextual +decide (maxSteps := 1000000) only [↓ wP, wQ, tf, Nat.reduceAdd, ne_eq, ha.idx, t0, t1, t7, t8, d1, x1, x2]
    refine Wcall_func.1 ((x3 ⟨n, low, o⟩ (sim_mk (low := low0) hn hoth)).wcall fun so hso => ?_)
    rw [callK_put]
    obtain ⟨n', low', o', e1, h1, h2⟩ := sim_of hso
    rw [e1]
    cases hp : p i with
    | true =>
      have hf : (List.range m).findIdx? p = some i := by
        rw [List.findIdx?_eq_some_iff_getElem]
        refine ⟨by simpa using hlt, by simpa using hp, fun j hj => ?_⟩
        have := hpre j hj
        simpa using this
      simp +contextual +decide (maxSteps := 1000000) only [↓ wP, wQ, tf, Nat.reduceAdd, ne_eq, t0, t1, t7, t8, endS_ret, endS_normal, hf]
      exact sim_mk (by omega) (fun id hid => by rw [h2 id (by omega)]; exact hoth id hid)
    | false =>
      simp +contextual +decide (maxSteps := 1000000) only [↓ wP, wQ, tf, Nat.reduceAdd, ne_eq, t0, t1, t7, t8, d5]
      exact ⟨i + 1, by show _ - _ < _ - _; omega, _, n', low', o', rfl, by simp +decide only [↓ wval, wint, wlog, t0], by simp +decide only [↓ wval, wint, wlog, t1], by simp +decide only [↓ wval, wint, wlog, t7], by simp +decide only [↓ wval, wint, wlog], hlt, fun j hj => by
        rcases Nat.lt_succ_iff_lt_or_eq.1 hj with hj | rfl
        · exact hpre j hj
        · exact hp, by omega, fun id hid => by rw [h2 id (by omega)]; exact hoth id hid⟩
  · have : i = m := by omega
    subst this
    have d1 : (((i : Nat) : Int) < (i : Nat)) = False := eq_false (by omega)
    have hf : (List.range i).findIdx? p = none := by
      rw [List.findIdx?_eq_none_iff]
      intro x hx
      exact hpre x (List.mem_range.1 hx)
    simp +contextual +decide (maxSteps := 1000000) only [↓ wP, wQ, tf, Nat.reduceAdd, ne_eq, t0, t1, t7, t8, d1, endS_ret, endS_normal, hf]
    exact sim_mk hn hoth
theorem containsI_run {O : Orc} (ho : ∀ a σ, O 143 a σ = none) (ho' : ∀ a σ, O 136 a σ = none) (g : FuncId) (cap : List AV) (a : AV) (xs : List AV) (ha : Sl a xs) (m : Nat) (hlen : xs.length = m) (c : Nat → AV) (hix : ∀ i, i < m → ∀ {q : IntKind} {d : Option AV}, idxF (some 1) xs (.int q (i : Nat)) d = some (.pf (c i))) (hcl : ∀ i, i < m → (c i).isCell = true) (p : Nat → Bool) (s : Sto)
    (h : ∀ i, i < m → ∀ s', Sim s s' → RetS Tryz.prog O (.func (.func g) [] cap) [c i] s' (.bool (p i))) : RetS Tryz.prog O (.func (.func 136) [] []) [a, .func (.func g) [] cap] s (.bool ((List.range m).any p)) := by
  have hx := fun s' hs => indexI_run ho g cap a xs ha m hlen c hix hcl p s' fun x hx s'' hs' => h x hx s'' (Sim.trans (b := s') hs hs')
  refine RetS.run (first := []) (args := [a, .func (.func g) [] cap]) (cap := []) noHint (ho' _ _) (by kernel_rfl) Tryz.func136 Tryz.ntmps136 Tryz.results136 rfl rfl ?_
  obtain ⟨n0, low0, o0⟩ := s
  show Wk _ _ _ _ ⟨9, none, 136, Tr.leaf.lay 0 [a, .func (.func g) [] cap], [], ⟨n0, n0, o0⟩, .no⟩ _
  simp +contextual +decide (maxSteps := 1000000) only [↓ wP, wQ, tf, Nat.reduceAdd, ne_eq, ho, orcK_none]
  refine wrunOf (ho _ _) ((hx ⟨n0, n0, o0⟩ (sim_mk (Nat.le_refl _) fun _ _ => rfl)).wcall fun so hso => ?_)
  rw [callK_put]
  obtain ⟨n', low', o', e1, h1, h2⟩ := sim_of hso
  rw [e1]
  cases hf : (List.range m).findIdx? p with
  | none =>
    have hany : (List.range m).any p = false := by
      rw [List.any_eq_false]; intro x hx; have := List.findIdx?_eq_none_iff.1 hf x hx; simp [this]
    simp +contextual +decide (maxSteps := 1000000) only [↓ wP, wQ, tf, Nat.reduceAdd, ne_eq, endS_ret, endS_normal, hany, show ((0 : Int) ≤ -1) = False from eq_false (by omega)]
    exact sim_mk h1 h2
  | some i =>
    have hany : (List.range m).any p = true := by
      obtain ⟨h3, h4, _⟩ := List.findIdx?_eq_some_iff_getElem.1 hf
      rw [List.any_eq_true]; exact ⟨_, List.getElem_mem h3, h4⟩
    simp +contextual +decide (maxSteps := 1000000) only [↓ wP, wQ, tf, Nat.reduceAdd, ne_eq, endS_ret, endS_normal, hany, show ((0 : Int) ≤ (i : Nat)) = True from eq_true (by omega)]
    exact sim_mk h1 h2
theorem everyI1_run {O : Orc} (ho1 : ∀ a σ, O 137 a σ = none) (g : FuncId) (cap : List AV) (cs : AV) (b : Bool) (c : Nat) (s : Sto) (hc : s.get c = some (obg 0 [.func (.func g) [] cap]))
    (h : ∀ s', Sim s s' → RetS Tryz.prog O (.func (.func g) [] cap) [cs] s' (.bool b)) : RetS Tryz.prog O (.func (.func 137) [] [.ptr c 0 0]) [cs] s (.bool !b) := by
  refine RetS.run (first := []) (args := [cs]) (cap := [.ptr c 0 0]) noHint (ho1 _ _) (by kernel_rfl) Tryz.func137 Tryz.ntmps137 Tryz.results137 rfl rfl ?_
  obtain ⟨n0, low0, o0⟩ := s
  have hcn : c < n0 := Sto.get_lt hc
  rw [Sto.get_mk hcn] at hc
  have f0 := frI hcn
  show Wk _ _ _ _ ⟨8, none, 137, Tr.leaf.lay 0 [cs, .ptr c 0 0], [], ⟨n0, n0, o0⟩, .no⟩ _
  simp +contextual +decide (maxSteps := 1000000) only [↓ wP, wQ, tf, Nat.reduceAdd, ne_eq, hc, f0, frN]
  refine Wcall_func.1 ((h _ (sim_mk (by omega) fun id hid => rfl)).wcall fun so hso => ?_)
  rw [callK_put]
  obtain ⟨n', low', o', e1, h1, h2⟩ := sim_of hso
  rw [e1]
  simp +contextual +decide (maxSteps := 1000000) only [↓ wP, wQ, tf, Nat.reduceAdd, ne_eq, endS_ret, endS_normal]
  exact sim_mk (by omega) h2
theorem everyI_run {O : Orc} (ho : ∀ a σ, O 143 a σ = none) (ho' : ∀ a σ, O 136 a σ = none) (ho1 : ∀ a σ, O 137 a σ = none) (ho2 : ∀ a σ, O 105 a σ = none)
    (g : FuncId) (cap : List AV) (a : AV) (xs : List AV) (ha : Sl a xs) (m : Nat) (hlen : xs.length = m) (c : Nat → AV) (hix : ∀ i, i < m → ∀ {q : IntKind} {d : Option AV}, idxF (some 1) xs (.int q (i : Nat)) d = some (.pf (c i))) (hcl : ∀ i, i < m → (c i).isCell = true) (p : Nat → Bool) (most : Nat) (s : Sto)
    (h : ∀ i, i < m → ∀ s', Sim s s' → RetS Tryz.prog O (.func (.func g) [] cap) [c i] s' (.bool (p i))) : RetS Tryz.prog O (.func (.func 105) [] []) [a, .int .i64 (most : Nat), .func (.func g) [] cap] s (.bool (decide (m ≤ most) && (List.range m).all p)) := by
  refine RetS.run (first := []) (args := [a, .int .i64 (most : Nat), .func (.func g) [] cap]) (cap := []) noHint (ho2 _ _) (by kernel_rfl) Tryz.func105 Tryz.ntmps105 Tryz.results105 rfl rfl ?_
  obtain ⟨n0, low0, o0⟩ := s
  show Wk _ _ _ _ ⟨17, none, 105, Tr.leaf.lay 0 [a, .int .i64 (most : Nat), .func (.func g) [] cap], [], ⟨n0, n0, o0⟩, .no⟩ _
  have d1 : (((m : Nat) : Int) ≤ (most : Nat)) = (m ≤ most) := propext (by omega)
  by_cases hl : m ≤ most
  · simp +contextual +decide (maxSteps := 1000000) only [↓ wP, wQ, tf, Nat.reduceAdd, ne_eq, ha.len, hlen, d1, hl, ho', orcK_none]
    refine wrunOf (ho' _ _) ((containsI_run ho ho' 137 [.ptr n0 0 0] a xs ha m hlen c hix hcl (fun i => !p i) ⟨n0 + 1, n0, o0.set n0 (obg 0 [.func (.func g) [] cap])⟩ fun i hi s' hs => ?_).wcall fun so hso => ?_)
    · refine everyI1_run ho1 g cap (c i) (p i) n0 s' (hs.get ?_) fun s'' hs' => h i hi s'' ?_
      · rw [Sto.get_mk (by omega), Tr.get_set_same]
      · exact (sim_mk (by omega) fun id hid => by rw [Tr.get_set_ne _ _ (by omega)] : Sim ⟨n0, low0, o0⟩ ⟨n0 + 1, n0, o0.set n0 (obg 0 [.func (.func g) [] cap])⟩).trans (hs.trans hs')
    · rw [callK_put]
      obtain ⟨n', low', o', e1, h1, h2⟩ := sim_of hso
      rw [e1]
      have hany : ((List.range m).any fun x => !p x) = !(List.range m).all p := by rw [← List.not_all_eq_any_not]
      rw [hany]
      simp +contextual +decide (maxSteps := 1000000) only [↓ wP, wQ, tf, Nat.reduceAdd, ne_eq, endS_ret, endS_normal, Bool.not_not]
      exact sim_mk (by omega) (fun id hid => by rw [h2 id (by omega), Tr.get_set_ne _ _ (by omega)])
  · simp +contextual +decide (maxSteps := 1000000) only [↓ wP, wQ, tf, Nat.reduceAdd, ne_eq, ha.len, hlen, d1, hl, endS_ret, endS_normal]
    exact ⟨by simp, sim_mk (by omega) (fun id hid => by rw [Tr.get_set_ne _ _ (by omega)])⟩
end
end Go.Proofs.YtajngkkihadgfaaGreat
/-
  The reference of images: worlds that can be stored.
-/
namespace Go.Proofs.YtajngkkihadgfaaGreat
open Go.Abs Go Go.Abs.TryzF
noncomputable section
set_option maxRecDepth 10000
def belowV : List AV → Option AV
  | [a, .int .i64 n] => (decVals a).map fun l => .bool (belowB n l)
  | _ => none
theorem belowV_eq {a : AV} {l : List Val} {n : Int} (h : decVals a = some l) : belowV [a, .int .i64 n] = some (.bool (belowB n l)) := by simp [belowV, h]
theorem rbelow_ok : Abs.Ok Tryz.prog 125 belowV := by
  intro args v hg
  unfold belowV at hg
  split at hg
  rotate_left
  · cases hg
  rename_i a n
  obtain ⟨l, hl, rfl⟩ := Option.map_eq_some_iff.1 hg
  have ha := decVals_sl hl
  have hlen := ha.2
  simp only [List.length_map] at hlen
  refine returns_wk (L := []) elist_nil noHint (by kernel_rfl) Tryz.func125 Tryz.ntmps125 Tryz.results125 rfl rfl (und_all_cons (under_vals hl).und (und_all_cons und_int und_all_nil)) und_bool ?_
  simp +contextual +decide (maxSteps := 1000000) only [↓ wP, wQ, tf, Nat.reduceAdd, ne_eq]
  refine Wk_loop (fun i e => ∃ t, e = ⟨27, none, 125, t, [], ⟨0, 0, .leaf⟩, .no⟩ ∧ t.val 0 = a ∧ t.val 1 = .int .i64 n ∧ t.val 5 = .int .i64 (i : Nat) ∧ i ≤ l.length ∧ (l.take i).all (refB n) = true) (fun i => l.length - i) 0 ⟨_, rfl, by simp +decide only [↓ wval, wint, wlog], by simp +decide only [↓ wval, wint, wlog], by simp +decide only [↓ wval, wint, wlog]; rfl, Nat.zero_le _, rfl⟩ ?_
  rintro i _ ⟨t, rfl, t0, t1, t5, hi, hok⟩
  by_cases hlt : i < l.length
  · have d1 : (i : Int) < (l.length : Nat) := by omega
    have d3 : (0 : Int) ≤ i := by omega
    have d4 : ((i : Int)).toNat = i := by omega
    have d5 := wrap_succ (i := i) (by omega)
    have htk := take_snoc (d := default) hlt
    have hm : l.getD i default ∈ l := by rw [getD_lt hlt]; exact List.getElem_mem _
    have hx : ∀ x : Val, valI x = .agg [.int .i64 x.1, .int .i64 x.2] := fun _ => rfl
    have hrf : refB n (l.getD i default) = !(decide ((l.getD i default).1 = 5) && decide (n ≤ (l.getD i default).2)) := rfl
    by_cases h5 : (l.getD i default).1 = 5
    · by_cases hn : n ≤ (l.getD i default).2
      · simp +contextual +decide (maxSteps := 1000000) only [↓ wP, wQ, tf, Nat.reduceAdd, ne_eq, ha.len, ha.idx, List.length_map, t0, t1, t5, d1, d3, d4, d5, idxF_map valI_len, pfC_agg, hx, h5, hn]
        have : l.all (refB n) = false := by rw [List.all_eq_false]; exact ⟨_, hm, by rw [hrf, decide_eq_true h5, decide_eq_true hn]; simp⟩
        rw [belowB, this]
      · simp +contextual +decide (maxSteps := 1000000) only [↓ wP, wQ, tf, Nat.reduceAdd, ne_eq, ha.len, ha.idx, List.length_map, t0, t1, t5, d1, d3, d4, d5, idxF_map valI_len, pfC_agg, hx, h5, hn]
        refine ⟨i + 1, by show _ - _ < _ - _; omega, _, rfl, by simp +decide only [↓ wval, wint, wlog, t0], by simp +decide only [↓ wval, wint, wlog, t1], by simp +decide only [↓ wval, wint, wlog], hlt, ?_⟩
        rw [htk, List.all_append, hok]
        simp only [List.all_cons, List.all_nil, hrf, hn]; simp
    · simp +contextual +decide (maxSteps := 1000000) only [↓ wP, wQ, tf, Nat.reduceAdd, ne_eq, ha.len, ha.idx, List.length_map, t0, t1, t5, d1, d3, d4, d5, idxF_map valI_len, pfC_agg, hx, h5]
      refine ⟨i + 1, by show _ - _ < _ - _; omega, _, rfl, by simp +decide only [↓ wval, wint, wlog, t0], by simp +decide only [↓ wval, wint, wlog, t1], by simp +decide only [↓ wval, wint, wlog], hlt, ?_⟩
      rw [htk, List.all_append, hok]
      simp only [List.all_cons, List.all_nil, hrf, h5]; simp
  · have : i = l.length := by omega
    subst this
    rw [List.take_length] at hok
    have d1 : ¬ ((l.length : Nat) : Int) < (l.length : Nat) := by omega
    simp +contextual +decide (maxSteps := 1000000) only [↓ wP, wQ, tf, Nat.reduceAdd, ne_eq, ha.len, List.length_map, t0, t1, t5, d1]
    rw [belowB, hok]
def insideV : List AV → Option AV
  | [a, .int .i64 n] => (decOb a).map fun o => .bool (insideB n o)
  | _ => none
theorem insideV_eq {a : AV} {o : Ob} {n : Int} (h : decOb a = some o) : insideV [a, .int .i64 n] = some (.bool (insideB n o)) := by simp [insideV, h]
set_option maxHeartbeats 1000000 in
theorem rinside_ok : Abs.Ok Tryz.prog 65 insideV := by
  intro args v hg
  unfold insideV at hg
  split at hg
  rotate_left
  · cases hg
  rename_i a n
  obtain ⟨o, ho, rfl⟩ := Option.map_eq_some_iff.1 hg
  have hund := (under_ob ho).und
  obtain ⟨vs, fs, rfl, hvs, hfs⟩ := decOb_some ho
  obtain ⟨xs, hsl, hlen, hat⟩ := frs_sl hfs
  have cvs := decVals_cell hvs
  have cfs := hsl.cell
  have hll := hsl.2
  refine returns_wk (L := [ent 125 belowV]) (elist_cons rbelow_ok.ent elist_nil) noHint (by kernel_rfl) Tryz.func65 Tryz.ntmps65 Tryz.results65 rfl rfl (und_all_cons hund (und_all_cons und_int und_all_nil)) und_bool ?_
  have hvv := belowV_eq (n := n) hvs
  simp +contextual +decide (maxSteps := 1000000) only [↓ wP, wQ, tf, Nat.reduceAdd, ne_eq, cvs, cfs]
  refine Wk_loop (fun i e => ∃ t n' low ob, e = ⟨37, none, 65, t, [], ⟨n', low, ob⟩, .no⟩ ∧ t.val 1 = .int .i64 n ∧ t.val 2 = .ptr 0 0 0 ∧ t.val 5 = .int .i64 (i : Nat) ∧ ob.get 0 = some (obg 0 [.int .i64 o.form, .int .i64 o.n, vs, fs]) ∧ 0 < n' ∧ i ≤ o.frs.length ∧ (o.frs.take i).all (frIn n) = true) (fun i => o.frs.length - i) 0
    ⟨_, 1, 0, _, rfl, by simp +decide only [↓ wval, wint, wlog], by simp +decide only [↓ wval, wint, wlog], by simp +decide only [↓ wval, wint, wlog]; rfl, by simp +decide only [↓ wval, wcell, wlog, ne_eq], by omega, Nat.zero_le _, rfl⟩ ?_
  rintro i _ ⟨t, n', low, ob, rfl, t1, t2, t5, hg0, hn, hi, hall⟩
  have f0 := frI (i := 0) (n := n') hn
  have d1 : ((i : Int) < (xs.length : Nat)) = (i < o.frs.length) := propext (by omega)
  by_cases hlt : i < o.frs.length
  · have d5 := wrap_succ (i := i) (by omega)
    have htk := take_snoc (d := default) hlt
    have hm : o.frs.getD i default ∈ o.frs := by rw [getD_lt hlt]; exact List.getElem_mem _
    obtain ⟨e, v, hix, he, hv⟩ := hat i hlt
    have ce := decVals_cell he
    have cv := decVals_cell hv
    have e1 := belowV_eq (n := n) he
    have e2 := belowV_eq (n := n) hv
    have hfr : frIn n (o.frs.getD i default) = (belowB n (o.frs.getD i default).env && belowB n (o.frs.getD i default).vals) := rfl
    generalize hxd : o.frs.getD i default = f at *
    have hbad : frIn n f = false → insideB n o = false := fun h => by
      have : o.frs.all (frIn n) = false := by rw [List.all_eq_false]; exact ⟨_, hm, by rw [h]; simp⟩
      rw [insideB, this]; rfl
    cases k1 : belowB n f.env with
    | false =>
      simp +contextual +decide (maxSteps := 1000000) only [↓ wP, wQ, tf, Nat.reduceAdd, ne_eq, t1, t2, t5, hg0, f0, frN, hsl.len, hsl.idx, hix, d1, hlt, pfC_agg, ce, cv, e1, k1]
      rw [hbad (by rw [hfr, k1]; rfl)]
    | true =>
    cases k2 : belowB n f.vals with
    | false =>
      simp +contextual +decide (maxSteps := 1000000) only [↓ wP, wQ, tf, Nat.reduceAdd, ne_eq, t1, t2, t5, hg0, f0, frN, hsl.len, hsl.idx, hix, d1, hlt, pfC_agg, ce, cv, e1, e2, k1, k2]
      rw [hbad (by rw [hfr, k1, k2]; rfl)]
    | true =>
      simp +contextual +decide (maxSteps := 1000000) only [↓ wP, wQ, tf, Nat.reduceAdd, ne_eq, t1, t2, t5, hg0, f0, frN, hsl.len, hsl.idx, hix, d1, hlt, d5, pfC_agg, ce, cv, e1, e2, k1, k2]
      refine ⟨i + 1, by show _ - _ < _ - _; omega, _, _, _, _, rfl, by simp +decide only [↓ wval, wint, wlog, t1], by simp +decide only [↓ wval, wint, wlog, t2], by simp +decide only [↓ wval, wint, wlog], hg0, hn, hlt, ?_⟩
      rw [htk, List.all_append, hall]
      simp only [List.all_cons, List.all_nil, hfr, k1, k2]; rfl
  · have : i = o.frs.length := by omega
    subst this
    rw [List.take_length] at hall
    simp +contextual +decide (maxSteps := 1000000) only [↓ wP, wQ, tf, Nat.reduceAdd, ne_eq, t1, t2, t5, hg0, f0, hsl.len, d1, hvv, cvs, cfs, show (o.frs.length < o.frs.length) = False from eq_false (by omega)]
    rw [insideB, hall]; rfl
def FormedV : List AV → Option AV
  | [a] => (decWd a).map fun w => .bool (wdOk w)
  | _ => none
theorem FormedV_eq {a : AV} {w : Wd} (h : decWd a = some w) : FormedV [a] = some (.bool (wdOk w)) := by simp [FormedV, h]
theorem wdOk_iff {w : Wd} : wdOk w = true ↔ w.objs.length ≤ 120 ∧ w.tasks.length ≤ 120 ∧ w.outs.length ≤ 100 ∧ w.ins.length ≤ 50 ∧ inB w.used 0 1073741824 = true ∧
    w.objs.all (obIn w.objs.length) = true ∧ w.tasks.all (fun t => inB t 0 ((w.objs.length : Int) - 1)) = true ∧ w.outs.all outOk = true ∧ w.ins.all numOk = true := by
  simp only [wdOk, Bool.and_eq_true, decide_eq_true_eq, and_assoc]
theorem wdOk_no {w : Wd} (h : ¬ (w.objs.length ≤ 120 ∧ w.tasks.length ≤ 120 ∧ w.outs.length ≤ 100 ∧ w.ins.length ≤ 50 ∧ inB w.used 0 1073741824 = true ∧
    w.objs.all (obIn w.objs.length) = true ∧ w.tasks.all (fun t => inB t 0 ((w.objs.length : Int) - 1)) = true ∧ w.outs.all outOk = true ∧ w.ins.all numOk = true)) : wdOk w = false := by
  cases hk : wdOk w with
  | false => rfl
  | true => exact absurd (wdOk_iff.1 hk) h
theorem all_bad {α : Type} {l : List α} {p : α → Bool} {x : α} (hm : x ∈ l) (h : p x = false) : ¬ l.all p = true := by
  rw [List.all_eq_true]; intro h'; rw [h' x hm] at h; cases h
theorem getD_mem {α : Type} {l : List α} {i : Nat} {d : α} (h : i < l.length) : l.getD i d ∈ l := by rw [getD_lt h]; exact List.getElem_mem _
theorem all_snoc {α : Type} {l : List α} {i : Nat} {d : α} {p : α → Bool} (h : i < l.length) (h1 : (l.take i).all p = true) (h2 : p (l.getD i d) = true) : (l.take (i + 1)).all p = true := by
  rw [take_snoc (d := d) h, List.all_append, h1, Bool.true_and, List.all_cons, h2, List.all_nil]; rfl
abbrev LFo : List Ent := [ent 62 inV, ent 38 storableV, ent 65 insideV]
set_option maxHeartbeats 4000000 in
theorem rFormed_ok : Abs.Ok Tryz.prog 48 FormedV := by
  intro args v hg
  match args, hg with
  | [a], hg =>
    obtain ⟨w, hw, rfl⟩ := Option.map_eq_some_iff.1 hg
    have hund := (under_wd hw).und
    obtain ⟨os, ts, us, is, rfl, h1, h2, h3, h4, c1, c2, c3, c4⟩ := wd_cells hw
    obtain ⟨xs, c, hsl, hlen, hat⟩ := obs_cells h1
    have s2 := decInts_sl h2
    have s3 := decVals_sl h3
    have s4 := decInts_sl h4
    have hll := hsl.2
    have hl2 := s2.2
    have hl3 := s3.2
    have hl4 := s4.2
    rw [List.length_map] at hl2 hl3 hl4
    refine returns_wk (L := LFo) (elist_cons rIn_ok.ent (elist_cons rstorable_ok.ent (elist_cons rinside_ok.ent elist_nil))) noHint (by kernel_rfl) Tryz.func48 Tryz.ntmps48 Tryz.results48 rfl rfl (und_all_cons hund und_all_nil) und_bool ?_
    have q1 : (120 < ((w.objs.length : Nat) : Int)) = (120 < w.objs.length) := propext (by omega)
    have q2 : (120 < ((w.tasks.length : Nat) : Int)) = (120 < w.tasks.length) := propext (by omega)
    have q3 : (100 < ((w.outs.length : Nat) : Int)) = (100 < w.outs.length) := propext (by omega)
    have q4 : (50 < ((w.ins.length : Nat) : Int)) = (50 < w.ins.length) := propext (by omega)
    have hno : ¬ (w.objs.length ≤ 120 ∧ w.tasks.length ≤ 120 ∧ w.outs.length ≤ 100 ∧ w.ins.length ≤ 50 ∧ inB w.used 0 1073741824 = true) → wdOk w = false := fun h => wdOk_no fun h' => h ⟨h'.1, h'.2.1, h'.2.2.1, h'.2.2.2.1, h'.2.2.2.2.1⟩
    by_cases k1 : 120 < w.objs.length
    · simp +contextual +decide (maxSteps := 1000000) only [↓ wP, wQ, tf, Nat.reduceAdd, ne_eq, c1, c2, c3, c4, hsl.len, hlen, s2.len, s3.len, s4.len, List.length_map, q1, k1]
      rw [hno fun h => by omega]
    by_cases k2 : 120 < w.tasks.length
    · simp +contextual +decide (maxSteps := 1000000) only [↓ wP, wQ, tf, Nat.reduceAdd, ne_eq, c1, c2, c3, c4, hsl.len, hlen, s2.len, s3.len, s4.len, List.length_map, q1, k1, q2, k2]
      rw [hno fun h => by omega]
    by_cases k3 : 100 < w.outs.length
    · simp +contextual +decide (maxSteps := 1000000) only [↓ wP, wQ, tf, Nat.reduceAdd, ne_eq, c1, c2, c3, c4, hsl.len, hlen, s2.len, s3.len, s4.len, List.length_map, q1, k1, q2, k2, q3, k3]
      rw [hno fun h => by omega]
    by_cases k4 : 50 < w.ins.length
    · simp +contextual +decide (maxSteps := 1000000) only [↓ wP, wQ, tf, Nat.reduceAdd, ne_eq, c1, c2, c3, c4, hsl.len, hlen, s2.len, s3.len, s4.len, List.length_map, q1, k1, q2, k2, q3, k3, q4, k4]
      rw [hno fun h => by omega]
    cases k5 : inB w.used 0 1073741824 with
    | false =>
      simp +contextual +decide (maxSteps := 1000000) only [↓ wP, wQ, tf, Nat.reduceAdd, ne_eq, c1, c2, c3, c4, hsl.len, hlen, s2.len, s3.len, s4.len, List.length_map, q1, k1, q2, k2, q3, k3, q4, k4, inV_eq, k5]
      rw [hno fun h => by rw [k5] at h; cases h.2.2.2.2]
    | true =>
    simp +contextual +decide (maxSteps := 1000000) only [↓ wP, wQ, tf, Nat.reduceAdd, ne_eq, c1, c2, c3, c4, hsl.len, hlen, s2.len, s3.len, s4.len, List.length_map, q1, k1, q2, k2, q3, k3, q4, k4, inV_eq, k5]
    refine Wk_loop (fun i e => ∃ t n low ob, e = ⟨114, none, 48, t, [], ⟨n, low, ob⟩, .no⟩ ∧ t.val 1 = .ptr 0 0 0 ∧ t.val 3 = .int .i64 (w.objs.length : Nat) ∧ t.val 4 = .int .i64 (i : Nat) ∧ ob.get 0 = some (obg 0 [os, ts, us, is, .int .i64 w.used]) ∧ 0 < n ∧ i ≤ w.objs.length ∧ (w.objs.take i).all (obIn w.objs.length) = true) (fun i => w.objs.length - i) 0
      ⟨_, 1, 0, _, rfl, by simp +decide only [↓ wval, wint, wlog], by simp +decide only [↓ wval, wint, wlog], by simp +decide only [↓ wval, wint, wlog]; rfl, by simp +decide only [↓ wval, wcell, wlog, ne_eq], by omega, Nat.zero_le _, rfl⟩ ?_
    rintro i _ ⟨t, n, low, ob, rfl, t1, t3, t4, hg0, hn, hi, hall⟩
    have f0 := frI (i := 0) (n := n) hn
    have d1 : ((i : Int) < (w.objs.length : Nat)) = (i < w.objs.length) := propext (by omega)
    by_cases hlt : i < w.objs.length
    · have d5 := wrap_succ (i := i) (by omega)
      have hm := getD_mem (d := default) hlt
      obtain ⟨hix, hcl, hcc, hdec⟩ := hat i hlt
      have x1 := fun {q d} => hix (q := q) (d := d)
      have e1 := storableV_eq hdec
      have e2 := insideV_eq (n := w.objs.length) hdec
      have hob : obIn w.objs.length (w.objs.getD i default) = (obOk (w.objs.getD i default) && insideB w.objs.length (w.objs.getD i default)) := rfl
      have hsn := fun h => all_snoc (d := default) (p := obIn w.objs.length) hlt hall h
      generalize c i = cs at *
      generalize hxd : w.objs.getD i default = x at *
      cases g1 : obOk x with
      | false =>
        simp +contextual +decide (maxSteps := 1000000) only [↓ wP, wQ, tf, Nat.reduceAdd, ne_eq, t1, t3, t4, hg0, f0, frN, hsl.len, hsl.idx, x1, pfC_agg, hcl, d1, hlt, e1, g1]
        rw [wdOk_no fun h => all_bad hm (by rw [hob, g1]; rfl) h.2.2.2.2.2.1]
      | true =>
      cases g2 : insideB w.objs.length x with
      | false =>
        simp +contextual +decide (maxSteps := 1000000) only [↓ wP, wQ, tf, Nat.reduceAdd, ne_eq, t1, t3, t4, hg0, f0, frN, hsl.len, hsl.idx, x1, pfC_agg, hcl, d1, hlt, e1, g1, e2, g2]
        rw [wdOk_no fun h => all_bad hm (by rw [hob, g1, g2]; rfl) h.2.2.2.2.2.1]
      | true =>
        simp +contextual +decide (maxSteps := 1000000) only [↓ wP, wQ, tf, Nat.reduceAdd, ne_eq, t1, t3, t4, hg0, f0, frN, hsl.len, hsl.idx, x1, pfC_agg, hcl, d1, hlt, e1, g1, e2, g2, d5]
        exact ⟨i + 1, by show _ - _ < _ - _; omega, _, _, _, _, rfl, by simp +decide only [↓ wval, wint, wlog, t1], by simp +decide only [↓ wval, wint, wlog, t3], by simp +decide only [↓ wval, wint, wlog], hg0, hn, hlt, hsn (by rw [hob, g1, g2]; rfl)⟩
    have hfull : i = w.objs.length := by omega
    rw [hfull, List.take_length] at hall
    simp +contextual +decide (maxSteps := 1000000) only [↓ wP, wQ, tf, Nat.reduceAdd, ne_eq, t1, t3, t4, hg0, f0, d1, hlt]
    clear hfull hlt d1 t4 hi
    refine Wk_loop (fun i e => ∃ t n low ob, e = ⟨114, none, 48, t, [], ⟨n, low, ob⟩, .no⟩ ∧ t.val 1 = .ptr 0 0 0 ∧ t.val 3 = .int .i64 (w.objs.length : Nat) ∧ t.val 5 = .int .i64 (i : Nat) ∧ ob.get 0 = some (obg 0 [os, ts, us, is, .int .i64 w.used]) ∧ 0 < n ∧ i ≤ w.tasks.length ∧ (w.tasks.take i).all (fun t => inB t 0 ((w.objs.length : Int) - 1)) = true) (fun i => w.tasks.length - i) 0
      ⟨_, _, _, _, rfl, by simp +decide only [↓ wval, wint, wlog, t1], by simp +decide only [↓ wval, wint, wlog, t3], by simp +decide only [↓ wval, wint, wlog]; rfl, hg0, hn, Nat.zero_le _, rfl⟩ ?_
    clear t1 t3 hg0 f0 hn t n low ob i
    rintro i _ ⟨t, n, low, ob, rfl, t1, t3, t5, hg0, hn, hi, hall2⟩
    have f0 := frI (i := 0) (n := n) hn
    have d1 : ((i : Int) < (w.tasks.length : Nat)) = (i < w.tasks.length) := propext (by omega)
    have d3 : (0 : Int) ≤ i := by omega
    by_cases hlt : i < w.tasks.length
    · have d5 := wrap_succ (i := i) (by omega)
      have hm := getD_mem (d := default) hlt
      have d6 : IntKind.i64.wrap (((w.objs.length : Nat) : Int) - 1) = ((w.objs.length : Nat) : Int) - 1 := IntWalk.i64_in _ (by omega)
      have hsn := fun h => all_snoc (d := default) (p := fun t => inB t 0 ((w.objs.length : Int) - 1)) hlt hall2 h
      have x1 : ∀ {q : IntKind} {d : Option AV}, idxF (some 1) (w.tasks.map encI) (.int q (i : Nat)) d = some (.pf (.int .i64 (w.tasks.getD i default))) := fun {q d} => idxF_map encI_len d3 (by omega)
      generalize hxd : w.tasks.getD i default = x at *
      cases g1 : inB x 0 ((w.objs.length : Int) - 1) with
      | false =>
        simp +contextual +decide (maxSteps := 1000000) only [↓ wP, wQ, tf, Nat.reduceAdd, ne_eq, t1, t3, t5, hg0, f0, frN, s2.len, s2.idx, x1, List.length_map, d1, hlt, d6, inV_eq, g1]
        rw [wdOk_no fun h => all_bad hm (p := fun t => inB t 0 ((w.objs.length : Int) - 1)) g1 h.2.2.2.2.2.2.1]
      | true =>
        simp +contextual +decide (maxSteps := 1000000) only [↓ wP, wQ, tf, Nat.reduceAdd, ne_eq, t1, t3, t5, hg0, f0, frN, s2.len, s2.idx, x1, List.length_map, d1, hlt, d6, inV_eq, g1, d5]
        exact ⟨i + 1, by show _ - _ < _ - _; omega, _, _, _, _, rfl, by simp +decide only [↓ wval, wint, wlog, t1], by simp +decide only [↓ wval, wint, wlog, t3], by simp +decide only [↓ wval, wint, wlog], hg0, hn, hlt, hsn g1⟩
    have hfull : i = w.tasks.length := by omega
    rw [hfull, List.take_length] at hall2
    simp +contextual +decide (maxSteps := 1000000) only [↓ wP, wQ, tf, Nat.reduceAdd, ne_eq, t1, t3, t5, hg0, f0, s2.len, List.length_map, d1, hlt]
    clear hfull hlt d1 d3 t5 hi
    refine Wk_loop (fun i e => ∃ t n low ob, e = ⟨114, none, 48, t, [], ⟨n, low, ob⟩, .no⟩ ∧ t.val 1 = .ptr 0 0 0 ∧ t.val 6 = .int .i64 (i : Nat) ∧ ob.get 0 = some (obg 0 [os, ts, us, is, .int .i64 w.used]) ∧ 0 < n ∧ i ≤ w.outs.length ∧ (w.outs.take i).all outOk = true) (fun i => w.outs.length - i) 0
      ⟨_, _, _, _, rfl, by simp +decide only [↓ wval, wint, wlog, t1], by simp +decide only [↓ wval, wint, wlog]; rfl, hg0, hn, Nat.zero_le _, rfl⟩ ?_
    clear t1 t3 hg0 f0 hn t n low ob i
    rintro i _ ⟨t, n, low, ob, rfl, t1, t6, hg0, hn, hi, hall3⟩
    have f0 := frI (i := 0) (n := n) hn
    have d1 : ((i : Int) < (w.outs.length : Nat)) = (i < w.outs.length) := propext (by omega)
    have d3 : (0 : Int) ≤ i := by omega
    by_cases hlt : i < w.outs.length
    · have d5 := wrap_succ (i := i) (by omega)
      have hm := getD_mem (d := default) hlt
      have hsn := fun h => all_snoc (d := default) (p := outOk) hlt hall3 h
      have x1 : ∀ {q : IntKind} {d : Option AV}, idxF (some 2) (w.outs.map valI) (.int q (i : Nat)) d = some (.pf (.agg [.int .i64 (w.outs.getD i default).1, .int .i64 (w.outs.getD i default).2])) := fun {q d} => idxF_map valI_len d3 (by omega)
      generalize hxd : w.outs.getD i default = x at *
      have hob : outOk x = (inB x.1 (-1073741824) 1073741824 && inB x.2 (-1073741824) 1073741824) := rfl
      cases g1 : inB x.1 (-1073741824) 1073741824 with
      | false =>
        simp +contextual +decide (maxSteps := 1000000) only [↓ wP, wQ, tf, Nat.reduceAdd, ne_eq, t1, t6, hg0, f0, frN, s3.len, s3.idx, x1, List.length_map, pfC_agg, d1, hlt, inV_eq, g1]
        rw [wdOk_no fun h => all_bad hm (p := outOk) (by rw [hob, g1]; rfl) h.2.2.2.2.2.2.2.1]
      | true =>
      cases g2 : inB x.2 (-1073741824) 1073741824 with
      | false =>
        simp +contextual +decide (maxSteps := 1000000) only [↓ wP, wQ, tf, Nat.reduceAdd, ne_eq, t1, t6, hg0, f0, frN, s3.len, s3.idx, x1, List.length_map, pfC_agg, d1, hlt, inV_eq, g1, g2]
        rw [wdOk_no fun h => all_bad hm (p := outOk) (by rw [hob, g1, g2]; rfl) h.2.2.2.2.2.2.2.1]
      | true =>
        simp +contextual +decide (maxSteps := 1000000) only [↓ wP, wQ, tf, Nat.reduceAdd, ne_eq, t1, t6, hg0, f0, frN, s3.len, s3.idx, x1, List.length_map, pfC_agg, d1, hlt, inV_eq, g1, g2, d5]
        exact ⟨i + 1, by show _ - _ < _ - _; omega, _, _, _, _, rfl, by simp +decide only [↓ wval, wint, wlog, t1], by simp +decide only [↓ wval, wint, wlog], hg0, hn, hlt, hsn (by rw [hob, g1, g2]; rfl)⟩
    have hfull : i = w.outs.length := by omega
    rw [hfull, List.take_length] at hall3
    simp +contextual +decide (maxSteps := 1000000) only [↓ wP, wQ, tf, Nat.reduceAdd, ne_eq, t1, t6, hg0, f0, s3.len, List.length_map, d1, hlt]
    clear hfull hlt d1 d3 t6 hi
    refine Wk_loop (fun i e => ∃ t n low ob, e = ⟨114, none, 48, t, [], ⟨n, low, ob⟩, .no⟩ ∧ t.val 1 = .ptr 0 0 0 ∧ t.val 7 = .int .i64 (i : Nat) ∧ ob.get 0 = some (obg 0 [os, ts, us, is, .int .i64 w.used]) ∧ 0 < n ∧ i ≤ w.ins.length ∧ (w.ins.take i).all numOk = true) (fun i => w.ins.length - i) 0
      ⟨_, _, _, _, rfl, by simp +decide only [↓ wval, wint, wlog, t1], by simp +decide only [↓ wval, wint, wlog]; rfl, hg0, hn, Nat.zero_le _, rfl⟩ ?_
    clear t1 hg0 f0 hn t n low ob i
    rintro i _ ⟨t, n, low, ob, rfl, t1, t7, hg0, hn, hi, hall4⟩
    have f0 := frI (i := 0) (n := n) hn
    have d1 : ((i : Int) < (w.ins.length : Nat)) = (i < w.ins.length) := propext (by omega)
    have d3 : (0 : Int) ≤ i := by omega
    by_cases hlt : i < w.ins.length
    · have d5 := wrap_succ (i := i) (by omega)
      have hm := getD_mem (d := default) hlt
      have hsn := fun h => all_snoc (d := default) (p := numOk) hlt hall4 h
      have x1 : ∀ {q : IntKind} {d : Option AV}, idxF (some 1) (w.ins.map encI) (.int q (i : Nat)) d = some (.pf (.int .i64 (w.ins.getD i default))) := fun {q d} => idxF_map encI_len d3 (by omega)
      generalize hxd : w.ins.getD i default = x at *
      have hob : numOk x = inB x (-1073741824) 1073741824 := rfl
      cases g1 : inB x (-1073741824) 1073741824 with
      | false =>
        simp +contextual +decide (maxSteps := 1000000) only [↓ wP, wQ, tf, Nat.reduceAdd, ne_eq, t1, t7, hg0, f0, frN, s4.len, s4.idx, x1, List.length_map, d1, hlt, inV_eq, g1]
        rw [wdOk_no fun h => all_bad hm (p := numOk) (by rw [hob, g1]) h.2.2.2.2.2.2.2.2]
      | true =>
        simp +contextual +decide (maxSteps := 1000000) only [↓ wP, wQ, tf, Nat.reduceAdd, ne_eq, t1, t7, hg0, f0, frN, s4.len, s4.idx, x1, List.length_map, d1, hlt, inV_eq, g1, d5]
        exact ⟨i + 1, by show _ - _ < _ - _; omega, _, _, _, _, rfl, by simp +decide only [↓ wval, wint, wlog, t1], by simp +decide only [↓ wval, wint, wlog], hg0, hn, hlt, hsn (by rw [hob, g1])⟩
    have hfull : i = w.ins.length := by omega
    rw [hfull, List.take_length] at hall4
    simp +contextual +decide (maxSteps := 1000000) only [↓ wP, wQ, tf, Nat.reduceAdd, ne_eq, t1, t7, hg0, f0, s4.len, List.length_map, d1, hlt]
    rw [wdOk_iff.2 ⟨by omega, by omega, by omega, by omega, k5, hall, hall2, hall3, hall4⟩]
end
end Go.Proofs.YtajngkkihadgfaaGreat
/-
  The program of images: worlds that can be stored.
-/
namespace Go.Proofs.YtajngkkihadgfaaGreat
open Go.Abs Go Go.Abs.TryzF
noncomputable section
set_option maxRecDepth 10000
theorem near_run {O : Orc} (ho : ∀ a σ, O 132 a σ = none) (n : Int) (c : Nat) (x : Val) (s : Sto) (hc : s.get c = some (obg 0 [.int .i64 n])) : RetS Tryz.prog O (.func (.func 132) [] [.ptr c 0 0]) [valI x] s (.bool (refB n x)) := by
  refine RetS.run (first := []) (args := [valI x]) (cap := [.ptr c 0 0]) noHint (ho _ _) (by kernel_rfl) Tryz.func132 Tryz.ntmps132 Tryz.results132 rfl rfl ?_
  obtain ⟨n0, low0, o0⟩ := s
  have hcn : c < n0 := Sto.get_lt hc
  rw [Sto.get_mk hcn] at hc
  have f0 := frI hcn
  obtain ⟨k, m⟩ := x
  show Wk _ _ _ _ ⟨13, none, 132, Tr.leaf.lay 0 [.agg [.int .i64 k, .int .i64 m], .ptr c 0 0], [], ⟨n0, n0, o0⟩, .no⟩ _
  by_cases h5 : k = 5
  · by_cases hm : m < n
    · simp +contextual +decide (maxSteps := 1000000) only [↓ wP, wQ, tf, Nat.reduceAdd, ne_eq, hc, f0, frN, h5, hm, endS_ret, endS_normal]
      refine ⟨?_, sim_mk (by omega) fun id hid => by rw [Tr.get_set_ne _ _ (by omega)]⟩
      simp only [refB, decide_eq_true h5, decide_eq_false (show ¬ n ≤ m by omega)]; rfl
    · simp +contextual +decide (maxSteps := 1000000) only [↓ wP, wQ, tf, Nat.reduceAdd, ne_eq, hc, f0, frN, h5, hm, endS_ret, endS_normal]
      refine ⟨?_, sim_mk (by omega) fun id hid => by rw [Tr.get_set_ne _ _ (by omega)]⟩
      simp only [refB, decide_eq_true h5, decide_eq_true (show n ≤ m by omega)]; rfl
  · simp +contextual +decide (maxSteps := 1000000) only [↓ wP, wQ, tf, Nat.reduceAdd, ne_eq, hc, f0, frN, h5, endS_ret, endS_normal]
    refine ⟨?_, sim_mk (by omega) fun id hid => by rw [Tr.get_set_ne _ _ (by omega)]⟩
    simp only [refB, decide_eq_false h5]; rfl
def valsIn (n : Int) (l : List Val) : Bool := decide (l.length ≤ 30) && belowB n l
def frRef (n : Int) (f : Fr) : Bool := valsIn n f.env && valsIn n f.vals
def refsB (n : Int) (o : Ob) : Bool := valsIn n o.vals && (decide (o.frs.length ≤ 40) && o.frs.all (frRef n))
theorem refsB_eq {n : Int} {o : Ob} (h : obOk o = true) : refsB n o = insideB n o := by
  obtain ⟨_, _, h3, h4, h5⟩ := obOk_and h
  have e1 : valsIn n o.vals = belowB n o.vals := by rw [valsIn, decide_eq_true (valsOk_and h3).1]; rfl
  have e2 : o.frs.all (frRef n) = o.frs.all (frIn n) := by
    have : ∀ l : List Fr, (∀ f ∈ l, frOk f = true) → l.all (frRef n) = l.all (frIn n) := by
      intro l
      induction l with
      | nil => intro _; rfl
      | cons f l ih =>
        intro hl
        obtain ⟨_, _, g1, g2⟩ := frOk_and (hl f (List.mem_cons_self ..))
        rw [List.all_cons, List.all_cons, ih fun g hg => hl g (List.mem_cons_of_mem _ hg)]
        congr 1
        rw [frRef, frIn, valsIn, valsIn, decide_eq_true (valsOk_and g1).1, decide_eq_true (valsOk_and g2).1]; rfl
    exact this _ h5
  rw [refsB, insideB, e1, e2, decide_eq_true h4, Bool.true_and, Bool.and_comm]
abbrev ONr (O : Orc) : Prop := (∀ a σ, O 140 a σ = none) ∧ (∀ a σ, O 126 a σ = none) ∧ (∀ a σ, O 127 a σ = none) ∧ (∀ a σ, O 79 a σ = none) ∧ (∀ a σ, O 132 a σ = none)
theorem nears_run {O : Orc} (ho : ONr O) (n : Int) (c : Nat) (a : AV) (l : List Val) (h : decVals a = some l) (s : Sto) (hc : s.get c = some (obg 0 [.int .i64 n])) :
    RetS Tryz.prog O (.func (.func 79) [] []) [a, .int .i64 30, .func (.func 132) [] [.ptr c 0 0]] s (.bool (valsIn n l)) :=
  everyVals ho.1 ho.2.1 ho.2.2.1 ho.2.2.2.1 132 [.ptr c 0 0] a l (decVals_sl h) (refB n) 30 s fun x _ s' hs => near_run ho.2.2.2.2 n c x s' (hs.get hc)
theorem nearF_run {O : Orc} (ho : ONr O) (ho' : ∀ a σ, O 133 a σ = none) (n : Int) (c d : Nat) (cs : List AV) (f : Fr) (hf : decFr (.agg cs) = some f) (s : Sto) (hc : s.get c = some (obg 0 [.int .i64 n])) (hd : s.get d = some (obg 0 [.func (.func 132) [] [.ptr c 0 0]])) :
    RetS Tryz.prog O (.func (.func 133) [] [.ptr d 0 0]) [.agg cs] s (.bool (frRef n f)) := by
  obtain ⟨e, v, he0, he, hv⟩ := decFr_some hf
  cases he0
  have ce := decVals_cell he
  have cv := decVals_cell hv
  refine RetS.run (first := []) (args := [.agg [.int .i64 f.node, e, v]]) (cap := [.ptr d 0 0]) noHint (ho' _ _) (by kernel_rfl) Tryz.func133 Tryz.ntmps133 Tryz.results133 rfl rfl ?_
  have hc0 := hc
  have hd0 := hd
  obtain ⟨n0, low0, o0⟩ := s
  have hcn : c < n0 := Sto.get_lt hc
  have hdn : d < n0 := Sto.get_lt hd
  rw [Sto.get_mk hcn] at hc
  rw [Sto.get_mk hdn] at hd
  have f0 := frI hcn
  have f1 := frI hdn
  show Wk _ _ _ _ ⟨14, none, 133, Tr.leaf.lay 0 [.agg [.int .i64 f.node, e, v], .ptr d 0 0], [], ⟨n0, n0, o0⟩, .no⟩ _
  simp +contextual +decide (maxSteps := 1000000) only [↓ wP, wQ, tf, Nat.reduceAdd, ne_eq, hd, f1, frN, ce, cv, ho.2.2.2.1, orcK_none]
  refine wrunOf (ho.2.2.2.1 _ _) ((nears_run ho n c e f.env he _ (by rw [Sto.get_mk (by omega), Tr.get_set_ne _ _ (by omega)]; exact hc)).wcall fun so hso => ?_)
  rw [callK_put]
  obtain ⟨n1, low1, o1, e1, h1, h2⟩ := sim_of hso
  rw [e1]
  have g0 : o1.get n0 = some (obg 0 [.int .i64 f.node, e, v]) := by rw [h2 n0 (by omega), Tr.get_set_same]
  have gc : o1.get c = some (obg 0 [.int .i64 n]) := by rw [h2 c (by omega), Tr.get_set_ne _ _ (by omega)]; exact hc
  have gd : o1.get d = some (obg 0 [.func (.func 132) [] [.ptr c 0 0]]) := by rw [h2 d (by omega), Tr.get_set_ne _ _ (by omega)]; exact hd
  have f2 := frI (show n0 < n1 by omega)
  have f3 := frI (show d < n1 by omega)
  cases k1 : valsIn n f.env with
  | false =>
    simp +contextual +decide (maxSteps := 1000000) only [↓ wP, wQ, tf, Nat.reduceAdd, ne_eq, endS_ret, endS_normal]
    refine ⟨by rw [frRef, k1]; rfl, sim_mk (by omega) fun id hid => by rw [h2 id (by omega), Tr.get_set_ne _ _ (by omega)]⟩
  | true =>
    simp +contextual +decide (maxSteps := 1000000) only [↓ wP, wQ, tf, Nat.reduceAdd, ne_eq, g0, gd, f2, f3, ce, cv, ho.2.2.2.1, orcK_none]
    refine wrunOf (ho.2.2.2.1 _ _) ((nears_run ho n c v f.vals hv _ (by rw [Sto.get_mk (by omega)]; exact gc)).wcall fun so hso => ?_)
    rw [callK_put]
    obtain ⟨n2, low2, o2, e2, h3, h4⟩ := sim_of hso
    rw [e2]
    simp +contextual +decide (maxSteps := 1000000) only [↓ wP, wQ, tf, Nat.reduceAdd, ne_eq, endS_ret, endS_normal]
    refine ⟨by rw [frRef, k1]; rfl, sim_mk (by omega) fun id hid => by rw [h4 id (by omega), h2 id (by omega), Tr.get_set_ne _ _ (by omega)]⟩
def referringV : List AV → Option AV
  | [a, .int .i64 n] => (decOb a).map fun o => .bool (refsB n o)
  | _ => none
theorem referringV_eq {a : AV} {o : Ob} {n : Int} (h : decOb a = some o) : referringV [a, .int .i64 n] = some (.bool (refsB n o)) := by simp [referringV, h]
theorem referring_ok : Abs.Ok Tryz.prog 101 referringV := by
  intro args v hg
  unfold referringV at hg
  split at hg
  rotate_left
  · cases hg
  rename_i a n
  obtain ⟨o, ho, rfl⟩ := Option.map_eq_some_iff.1 hg
  have hund := (under_ob ho).und
  obtain ⟨vs, fs, rfl, hvs, hfs⟩ := decOb_some ho
  have c1 := decVals_cell hvs
  have c2 := decS_cell hfs
  refine returns_wk (L := []) elist_nil noHint (by kernel_rfl) Tryz.func101 Tryz.ntmps101 Tryz.results101 rfl rfl (und_all_cons hund (und_all_cons und_int und_all_nil)) und_bool ?_
  have hON : ONr (orcL []) := ⟨fun _ _ => rfl, fun _ _ => rfl, fun _ _ => rfl, fun _ _ => rfl, fun _ _ => rfl⟩
  simp +contextual +decide (maxSteps := 1000000) only [↓ wP, wQ, tf, Nat.reduceAdd, ne_eq, c1, c2, hON.2.2.2.1, orcK_none]
  refine wrunOf rfl ((nears_run hON n 1 vs o.vals hvs _ (by simp +contextual +decide (maxSteps := 1000000) only [↓ wP, wQ, tf, Nat.reduceAdd, ne_eq])).wcall fun so hso => ?_)
  rw [callK_put]
  obtain ⟨n1, low1, o1, e1, h1, h2⟩ := sim_of hso
  rw [e1]
  have g0 : o1.get 0 = some (obg 0 [.int .i64 o.form, .int .i64 o.n, vs, fs]) := by rw [h2 0 (by omega)]; simp [Tr.get_set]
  have g1 : o1.get 1 = some (obg 0 [.int .i64 n]) := by rw [h2 1 (by omega)]; simp [Tr.get_set]
  have g2 : o1.get 2 = some (obg 0 [.func (.func 132) [] [.ptr 1 0 0]]) := by rw [h2 2 (by omega)]; simp [Tr.get_set]
  have f0 := frI (show 0 < n1 by omega)
  cases k1 : valsIn n o.vals with
  | false =>
    simp +contextual +decide (maxSteps := 1000000) only [↓ wP, wQ, tf, Nat.reduceAdd, ne_eq]
    rw [refsB, k1]; rfl
  | true =>
    obtain ⟨xs, c, q1, q2, q3⟩ := frs_cells hfs
    simp +contextual +decide (maxSteps := 1000000) only [↓ wP, wQ, tf, Nat.reduceAdd, ne_eq, g0, f0, c1, c2, show ∀ a σ, orcL [] 81 a σ = none from fun _ _ => rfl, orcK_none]
    have := everyF_run (O := orcL []) (fun _ _ => rfl) (fun _ _ => rfl) (fun _ _ => rfl) (fun _ _ => rfl) 133 [.ptr 2 0 0] fs xs q1 o.frs.length q2 c (fun i hi {q d} => (q3 i hi).1) (fun i hi => (q3 i hi).2.1) (fun i hi => (q3 i hi).2.2.1) (fun i => frRef n (o.frs.getD i default)) 40 ⟨n1, low1, o1⟩ (fun i hi s' hs => nearF_run hON (fun _ _ => rfl) n 1 2 (c i) _ (q3 i hi).2.2.2 s' (hs.get (by rw [Sto.get_mk (by omega)]; exact g1)) (hs.get (by rw [Sto.get_mk (by omega)]; exact g2)))
    rw [range_all] at this
    refine wrunOf rfl (this.wcall fun so hso => ?_)
    rw [callK_put]
    obtain ⟨n2, low2, o2, e2, h3, h4⟩ := sim_of hso
    rw [e2]
    simp +contextual +decide (maxSteps := 1000000) only [↓ wP, wQ, tf, Nat.reduceAdd, ne_eq]
    rw [refsB, k1]; rfl
abbrev LSt : List Ent := [ent 77 inV, ent 78 numberOkV, ent 36 storableV, ent 101 referringV]
theorem st1_run (n : Int) (c : Nat) (cs : List AV) (o : Ob) (hl : cs.length = 4) (hcc : cs.all AV.isCell = true) (ho : decOb (.agg cs) = some o) (s : Sto) (hc : s.get c = some (obg 0 [.int .i64 n])) : RetS Tryz.prog (orcL LSt) (.func (.func 100) [] [.ptr c 0 0]) [.agg cs] s (.bool (obIn n o)) := by
  refine RetS.run (first := []) (args := [.agg cs]) (cap := [.ptr c 0 0]) noHint rfl (by kernel_rfl) Tryz.func100 Tryz.ntmps100 Tryz.results100 rfl rfl ?_
  obtain ⟨n0, low0, o0⟩ := s
  have hcn : c < n0 := Sto.get_lt hc
  rw [Sto.get_mk hcn] at hc
  have f0 := frI hcn
  have e1 := storableV_eq ho
  have e2 := referringV_eq (n := n) ho
  have hz : 0 + 4 ≤ cs.length := by omega
  have hls : lslice cs 0 4 = cs := by unfold lslice; rw [List.drop_zero, List.take_of_length_le (by omega)]
  show Wk _ _ _ _ ⟨11, none, 100, Tr.leaf.lay 0 [.agg cs, .ptr c 0 0], [], ⟨n0, n0, o0⟩, .no⟩ _
  cases k1 : obOk o with
  | false =>
    simp +contextual +decide (maxSteps := 1000000) only [↓ wP, wQ, tf, Nat.reduceAdd, ne_eq, hc, hl, hcc, hz, hls, f0, frN, e1, k1, endS_ret, endS_normal]
    refine ⟨by rw [obIn, k1]; rfl, sim_mk (by omega) fun id hid => by rw [Tr.get_set_ne _ _ (by omega)]⟩
  | true =>
    simp +contextual +decide (maxSteps := 1000000) only [↓ wP, wQ, tf, Nat.reduceAdd, ne_eq, hc, hl, hcc, hz, hls, f0, frN, e1, e2, k1, endS_ret, endS_normal]
    refine ⟨by rw [obIn, k1, refsB_eq k1]; rfl, sim_mk (by omega) fun id hid => by rw [Tr.get_set_ne _ _ (by omega)]⟩
theorem st2_run (n : Int) (c : Nat) (x : Int) (s : Sto) (hn : 0 ≤ n ∧ n ≤ 9223372036854775807) (hc : s.get c = some (obg 0 [.int .i64 n])) : RetS Tryz.prog (orcL LSt) (.func (.func 102) [] [.ptr c 0 0]) [encI x] s (.bool (inB x 0 (n - 1))) := by
  refine RetS.run (first := []) (args := [encI x]) (cap := [.ptr c 0 0]) noHint rfl (by kernel_rfl) Tryz.func102 Tryz.ntmps102 Tryz.results102 rfl rfl ?_
  obtain ⟨n0, low0, o0⟩ := s
  have hcn : c < n0 := Sto.get_lt hc
  rw [Sto.get_mk hcn] at hc
  have f0 := frI hcn
  have e1 : IntKind.i64.wrap (n - 1) = n - 1 := IntWalk.i64_in _ (by omega)
  show Wk _ _ _ _ ⟨8, none, 102, Tr.leaf.lay 0 [.int .i64 x, .ptr c 0 0], [], ⟨n0, n0, o0⟩, .no⟩ _
  simp +contextual +decide (maxSteps := 1000000) only [↓ wP, wQ, tf, Nat.reduceAdd, ne_eq, hc, f0, frN, e1, inV_eq, endS_ret, endS_normal]
  exact sim_mk (by omega) fun id hid => rfl
theorem st3_run (x : Val) (s : Sto) : RetS Tryz.prog (orcL LSt) (.func (.func 103) [] []) [valI x] s (.bool (outOk x)) := by
  refine RetS.run (first := []) (args := [valI x]) (cap := []) noHint rfl (by kernel_rfl) Tryz.func103 Tryz.ntmps103 Tryz.results103 rfl rfl ?_
  obtain ⟨n0, low0, o0⟩ := s
  obtain ⟨k, m⟩ := x
  show Wk _ _ _ _ ⟨11, none, 103, Tr.leaf.lay 0 [.agg [.int .i64 k, .int .i64 m]], [], ⟨n0, n0, o0⟩, .no⟩ _
  cases k1 : numOk k with
  | false =>
    simp +contextual +decide (maxSteps := 1000000) only [↓ wP, wQ, tf, Nat.reduceAdd, ne_eq, frN, numberOkV_eq, k1, endS_ret, endS_normal]
    refine ⟨by simp only [outOk, k1]; rfl, sim_mk (by omega) fun id hid => by rw [Tr.get_set_ne _ _ (by omega)]⟩
  | true =>
    simp +contextual +decide (maxSteps := 1000000) only [↓ wP, wQ, tf, Nat.reduceAdd, ne_eq, frN, numberOkV_eq, k1, endS_ret, endS_normal]
    refine ⟨by simp only [outOk, k1]; rfl, sim_mk (by omega) fun id hid => by rw [Tr.get_set_ne _ _ (by omega)]⟩
theorem outs_cells {a : AV} {l : List Val} (h : decVals a = some l) : ∀ i, i < l.length → ∀ {q : IntKind} {d : Option AV}, idxF (some 2) (l.map valI) (.int q (i : Nat)) d = some (.pf (.agg (valC (l.getD i default)))) := fun i hi {q d} => idxV l hi
theorem ints_cells {l : List Int} : ∀ i, i < l.length → ∀ {q : IntKind} {d : Option AV}, idxF (some 1) (l.map encI) (.int q (i : Nat)) d = some (.pf (encI (l.getD i default))) := fun i hi {q d} => idxF_map encI_len (by omega) (by omega)
set_option maxHeartbeats 2000000 in
theorem stored_ok : Abs.Ok Tryz.prog 45 FormedV := by
  intro args v hg
  match args, hg with
  | [a], hg =>
    obtain ⟨w, hw, rfl⟩ := Option.map_eq_some_iff.1 hg
    have hund := (under_wd hw).und
    obtain ⟨os, ts, us, is, rfl, h1, h2, h3, h4, c1, c2, c3, c4⟩ := wd_cells hw
    obtain ⟨xs, c, hsl, hlen, hat⟩ := obs_cells h1
    have s2 := decInts_sl h2
    have s3 := decVals_sl h3
    have s4 := decInts_sl h4
    have hll := hsl.2
    refine returns_wk (L := LSt) (elist_cons iIn_ok.ent (elist_cons iNumber_ok.ent (elist_cons formed_ok.ent (elist_cons referring_ok.ent elist_nil)))) noHint (by kernel_rfl) Tryz.func45 Tryz.ntmps45 Tryz.results45 rfl rfl (und_all_cons hund und_all_nil) und_bool ?_
    have hO : ∀ a σ, orcL LSt 104 a σ = none := fun _ _ => rfl
    have hI : ∀ a σ, orcL LSt 105 a σ = none := fun _ _ => rfl
    have hU : ∀ a σ, orcL LSt 106 a σ = none := fun _ _ => rfl
    simp +contextual +decide (maxSteps := 1000000) only [↓ wP, wQ, tf, Nat.reduceAdd, ne_eq, c1, c2, c3, c4, hsl.len, hlen, hO, orcK_none]
    have r1 := fun (s : Sto) (hs : s.get 1 = some (obg 0 [.int .i64 (w.objs.length : Nat)])) => everyO_run (O := orcL LSt) (fun _ _ => rfl) (fun _ _ => rfl) (fun _ _ => rfl) hO 100 [.ptr 1 0 0] os xs hsl w.objs.length hlen c (fun i hi {q d} => (hat i hi).1) (fun i hi => (hat i hi).2.1) (fun i hi => (hat i hi).2.2.1) (fun i => obIn w.objs.length (w.objs.getD i default)) 120 s
      (fun i hi s' hs' => st1_run w.objs.length 1 (c i) _ (hat i hi).2.1 (hat i hi).2.2.1 (hat i hi).2.2.2 s' (hs'.get hs))
    refine wrunOf rfl ((r1 _ (by simp +contextual +decide (maxSteps := 1000000) only [↓ wP, wQ, tf, Nat.reduceAdd, ne_eq])).wcall fun so hso => ?_)
    rw [range_all, callK_put]
    obtain ⟨n1, low1, o1, e1, h5, h6⟩ := sim_of hso
    rw [e1]
    clear e1 hso
    have g0 : o1.get 0 = some (obg 0 [os, ts, us, is, .int .i64 w.used]) := by rw [h6 0 (by omega)]; simp [Tr.get_set]
    have g1 : o1.get 1 = some (obg 0 [.int .i64 (w.objs.length : Nat)]) := by rw [h6 1 (by omega)]; simp [Tr.get_set]
    have f0 := frI (show 0 < n1 by omega)
    cases k1 : (decide (w.objs.length ≤ 120) && w.objs.all (obIn w.objs.length)) with
    | false =>
      simp +contextual +decide (maxSteps := 1000000) only [↓ wP, wQ, tf, Nat.reduceAdd, ne_eq]
      rw [wdOk_no fun h => by rw [decide_eq_true h.1, h.2.2.2.2.2.1] at k1; cases k1]
    | true =>
    simp +contextual +decide (maxSteps := 1000000) only [↓ wP, wQ, tf, Nat.reduceAdd, ne_eq, g0, f0, c1, c2, c3, c4, hI, orcK_none]
    have r2 := fun (s : Sto) (hs : s.get 1 = some (obg 0 [.int .i64 (w.objs.length : Nat)])) => everyI_run (O := orcL LSt) (fun _ _ => rfl) (fun _ _ => rfl) (fun _ _ => rfl) hI 102 [.ptr 1 0 0] ts _ s2 w.tasks.length (by simp) (fun i => encI (w.tasks.getD i default)) (fun i hi {q d} => ints_cells i hi) (fun i hi => rfl) (fun i => inB (w.tasks.getD i default) 0 ((w.objs.length : Int) - 1)) 120 s
      (fun i hi s' hs' => st2_run w.objs.length 1 _ s' (by omega) (hs'.get hs))
    refine wrunOf rfl ((r2 _ (by rw [Sto.get_mk (by omega)]; exact g1)).wcall fun so hso => ?_)
    rw [range_all w.tasks (fun t => inB t 0 ((w.objs.length : Int) - 1)), callK_put]
    obtain ⟨n2, low2, o2, e1, h7, h8⟩ := sim_of hso
    rw [e1]
    clear e1 hso
    have g0' : o2.get 0 = some (obg 0 [os, ts, us, is, .int .i64 w.used]) := by rw [h8 0 (by omega)]; exact g0
    have f0' := frI (show 0 < n2 by omega)
    cases k2 : (decide (w.tasks.length ≤ 120) && w.tasks.all (fun t => inB t 0 ((w.objs.length : Int) - 1))) with
    | false =>
      simp +contextual +decide (maxSteps := 1000000) only [↓ wP, wQ, tf, Nat.reduceAdd, ne_eq]
      rw [wdOk_no fun h => by rw [decide_eq_true h.2.1, h.2.2.2.2.2.2.1] at k2; cases k2]
    | true =>
    simp +contextual +decide (maxSteps := 1000000) only [↓ wP, wQ, tf, Nat.reduceAdd, ne_eq, g0', f0', c1, c2, c3, c4, hU, orcK_none]
    have r3 := fun (s : Sto) => everyU_run (O := orcL LSt) (fun _ _ => rfl) (fun _ _ => rfl) (fun _ _ => rfl) hU 103 [] us _ s3 w.outs.length (by simp) (fun i => valC (w.outs.getD i default)) (fun i hi {q d} => outs_cells h3 i hi) (fun _ _ => rfl) (fun _ _ => rfl) (fun i => outOk (w.outs.getD i default)) 100 s
      (fun i hi s' hs' => st3_run _ s')
    refine wrunOf rfl ((r3 _).wcall fun so hso => ?_)
    rw [range_all w.outs outOk, callK_put]
    obtain ⟨n3, low3, o3, e1, h9, h10⟩ := sim_of hso
    rw [e1]
    clear e1 hso
    have g0'' : o3.get 0 = some (obg 0 [os, ts, us, is, .int .i64 w.used]) := by rw [h10 0 (by omega)]; exact g0'
    have f0'' := frI (show 0 < n3 by omega)
    cases k3 : (decide (w.outs.length ≤ 100) && w.outs.all outOk) with
    | false =>
      simp +contextual +decide (maxSteps := 1000000) only [↓ wP, wQ, tf, Nat.reduceAdd, ne_eq]
      rw [wdOk_no fun h => by rw [decide_eq_true h.2.2.1, h.2.2.2.2.2.2.2.1] at k3; cases k3]
    | true =>
    simp +contextual +decide (maxSteps := 1000000) only [↓ wP, wQ, tf, Nat.reduceAdd, ne_eq, g0'', f0'', c1, c2, c3, c4, hI, orcK_none]
    have r4 := fun (s : Sto) => everyI_run (O := orcL LSt) (fun _ _ => rfl) (fun _ _ => rfl) (fun _ _ => rfl) hI 78 [] is _ s4 w.ins.length (by simp) (fun i => encI (w.ins.getD i default)) (fun i hi {q d} => ints_cells i hi) (fun i hi => rfl) (fun i => numOk (w.ins.getD i default)) 50 s
      (fun i hi s' hs' => .orc rfl)
    refine wrunOf rfl ((r4 _).wcall fun so hso => ?_)
    rw [range_all w.ins numOk, callK_put]
    obtain ⟨n4, low4, o4, e1, h11, h12⟩ := sim_of hso
    rw [e1]
    clear e1 hso
    have g0''' : o4.get 0 = some (obg 0 [os, ts, us, is, .int .i64 w.used]) := by rw [h12 0 (by omega)]; exact g0''
    have f0''' := frI (show 0 < n4 by omega)
    cases k4 : (decide (w.ins.length ≤ 50) && w.ins.all numOk) with
    | false =>
      simp +contextual +decide (maxSteps := 1000000) only [↓ wP, wQ, tf, Nat.reduceAdd, ne_eq]
      rw [wdOk_no fun h => by rw [decide_eq_true h.2.2.2.1, h.2.2.2.2.2.2.2.2] at k4; cases k4]
    | true =>
    simp only [Bool.and_eq_true, decide_eq_true_eq] at k1 k2 k3 k4
    cases k5 : inB w.used 0 1073741824 with
    | false =>
      simp +contextual +decide (maxSteps := 1000000) only [↓ wP, wQ, tf, Nat.reduceAdd, ne_eq, g0''', f0''', c1, c2, c3, c4, inV_eq, k5]
      rw [wdOk_no fun h => by rw [h.2.2.2.2.1] at k5; cases k5]
    | true =>
      simp +contextual +decide (maxSteps := 1000000) only [↓ wP, wQ, tf, Nat.reduceAdd, ne_eq, g0''', f0''', c1, c2, c3, c4, inV_eq, k5]
      rw [wdOk_iff.2 ⟨k1.1, k2.1, k3.1, k4.1, k5, k1.2, k2.2, k3.2, k4.2⟩]
end
end Go.Proofs.YtajngkkihadgfaaGreat
/-
  The layer of images: pages and their checks.
-/
namespace Go.Proofs.YtajngkkihadgfaaGreat
open Go.Abs Go Go.Abs.TryzF
noncomputable section
set_option maxRecDepth 10000
theorem shr8 {a : Nat} (h : a < 65536) : IntKind.u8.wrap (Int.fdiv (a : Int) (2 ^ min 8 IntKind.i64.bits)) = ((a / 256 : Nat) : Int) := by
  have : (2 : Int) ^ min 8 IntKind.i64.bits = 256 := by decide
  rw [this, Int.fdiv_eq_ediv_of_nonneg _ (by omega), show ((a : Int) / 256) = ((a / 256 : Nat) : Int) by omega, u8_nat]; omega
def encN (n : Nat) : AV := .int .i64 (n : Nat)
def counted (s : List Nat) : Nat := if s.length % 32 ≠ 0 ∨ 256 < s.length / 32 then 0 else s.length / 32
theorem counted_ok (s : List Nat) (hs : s.length < 9223372036854775808) : Abs.Returns Tryz.prog 51 [.str s] (.int .i64 (counted s : Nat)) := by
  refine returns_wk (L := []) elist_nil noHint (by kernel_rfl) Tryz.func51 Tryz.ntmps51 Tryz.results51 rfl rfl (und_all_cons und_str und_all_nil) und_int ?_
  have e1 : IntKind.i64.wrap (Int.tdiv (s.length : Nat) 32) = ((s.length / 32 : Nat) : Int) := by
    rw [Int.tdiv_eq_ediv_of_nonneg (by omega), IntWalk.i64_in _ (by omega)]; omega
  have e2 : Int.tmod ((s.length : Nat) : Int) 32 = ((s.length % 32 : Nat) : Int) := by
    rw [Int.tmod_eq_emod_of_nonneg (by omega)]; omega
  simp +contextual +decide only [↓ wpre, ↓ wval, wpost, wint, wlog, wcell, wop, wdr, wdr2, tf, e1, e2]
  unfold counted
  by_cases h1 : s.length % 32 = 0
  · by_cases h2 : 256 < s.length / 32
    · simp [h1, h2]; omega
    · simp [h1, h2]; omega
  · simp [h1]; omega
def step (x : Nat × Nat) (c : Nat) : Nat × Nat := ((x.1 + c) % 257, (x.2 + (x.1 + c) % 257) % 257)
def sums (n : Nat) (l : List Nat) : Nat × Nat := l.foldl step (n + 1, 0)
def check (n : Nat) (p : List Nat) : List Nat := [(sums n (p.take 28)).1 / 256, (sums n (p.take 28)).1 % 256, (sums n (p.take 28)).2 / 256, (sums n (p.take 28)).2 % 256]
theorem step_lt (x : Nat × Nat) (c : Nat) : (step x c).1 < 257 ∧ (step x c).2 < 257 := ⟨Nat.mod_lt _ (by omega), Nat.mod_lt _ (by omega)⟩
theorem check_ok (p : List Nat) (n : Nat) (hp : p.length = 32) (hb : ∀ b ∈ p, b < 256) (hn : n < 4611686018427387904) : Abs.Returns Tryz.prog 111 [.agg (p.map encB), .int .i64 (n : Nat)] (.agg ((check n p).map encB)) := by
  refine returns_wk (L := []) elist_nil noHint (by kernel_rfl) Tryz.func111 Tryz.ntmps111 Tryz.results111 rfl rfl (und_all_cons (und_agg (by simp only [List.mem_map]; rintro x ⟨b, _, rfl⟩; exact und_encB b)) (und_all_cons und_int und_all_nil)) (und_agg (by simp only [List.mem_map]; rintro x ⟨b, _, rfl⟩; exact und_encB b)) ?_
  simp +contextual +decide only [↓ wpre, ↓ wval, wpost, wint, wlog, wcell, wop, wop2, wdr, wdr2, tf, hp, wrap_succ (show n < 9223372036854775807 by omega), Int.reduceToNat, Nat.reduceAdd]
  have hlen : (p.take 28).length = 28 := by simp [hp]
  let S : Nat → Nat × Nat := fun i => (p.take i).foldl step (n + 1, 0)
  have hS1 : ∀ i, (S i).1 < 4611686018427387905 := by
    intro i
    cases i with
    | zero => simp only [S, List.take_zero, List.foldl_nil]; omega
    | succ i =>
      by_cases hi : i < p.length
      · simp only [S, List.take_succ_eq_append_getElem hi, List.foldl_append, List.foldl_cons, List.foldl_nil]
        have := (step_lt ((p.take i).foldl step (n + 1, 0)) p[i]).1; omega
      · have e1 : p.take (i + 1) = p.take 31 ++ [p.getD 31 0] := by
          rw [List.take_of_length_le (by omega), getD_lt (show 31 < p.length by omega)]
          have := List.take_succ_eq_append_getElem (show 31 < p.length by omega)
          rw [← this, List.take_of_length_le (by omega)]
        simp only [S, e1, List.foldl_append, List.foldl_cons, List.foldl_nil]
        have := (step_lt ((p.take 31).foldl step (n + 1, 0)) (p.getD 31 0)).1; omega
  have hS2 : ∀ i, i ≤ 28 → (S i).2 < 257 := by
    intro i hi
    cases i with
    | zero => simp only [S, List.take_zero, List.foldl_nil]; omega
    | succ i =>
      have hi' : i < p.length := by omega
      simp only [S, List.take_succ_eq_append_getElem hi', List.foldl_append, List.foldl_cons, List.foldl_nil]
      exact (step_lt ((p.take i).foldl step (n + 1, 0)) p[i]).2
  have hSs : ∀ i, i < 28 → S (i + 1) = step (S i) (p.getD i 0) := by
    intro i hi
    have hi' : i < p.length := by omega
    simp only [S, List.take_succ_eq_append_getElem hi', List.foldl_append, List.foldl_cons, List.foldl_nil, getD_lt hi']
  refine Wk_loop (fun i e => ∃ t, e = ⟨38, none, 111, t, [], ⟨2, 0, (Tr.leaf.set 0 (obg 0 (List.map encB p))).set 1 (obg 0 [AV.int IntKind.u8 0, AV.int IntKind.u8 0, AV.int IntKind.u8 0, AV.int IntKind.u8 0])⟩, .no⟩ ∧ t.val 4 = .ptr 1 0 0 ∧ t.val 5 = .int .i64 ((S i).1 : Nat) ∧ t.val 6 = .int .i64 ((S i).2 : Nat) ∧ t.val 11 = .sl 0 0 0 28 (.is 32) ∧ t.val 12 = .int .i64 (28 : Nat) ∧ t.val 13 = .int .i64 (i : Nat) ∧ i ≤ 28) (fun i => 28 - i) 0
    ⟨_, rfl, by simp +decide only [↓ wval], by simp +decide only [↓ wval]; rfl, by simp +decide only [↓ wval]; rfl, by simp +decide only [↓ wval], by simp +decide only [↓ wval], by simp +decide only [↓ wval]; rfl, by omega⟩ ?_
  rintro i _ ⟨t, rfl, h4, h5, h6, h11, h12, h13, hi⟩
  by_cases hlt : i < 28
  · have d1 : (i : Int) < (28 : Nat) := by omega
    have d3 : (0 : Int) ≤ i := by omega
    have d4 : ((i : Int)).toNat = i := by omega
    have d5 := wrap_succ (i := i) (by omega)
    have d6 : (p.map encB)[i]? = some (encB (p.getD i 0)) := by
      have hi' : i < p.length := by omega
      simp [hi']
    have hc : p.getD i 0 < 256 := by rw [getD_lt (show i < p.length by omega)]; exact hb _ (List.getElem_mem _)
    have q1 := hS1 i
    have q2 := hS2 i (by omega)
    have e1 : IntKind.i64.wrap ((p.getD i 0 : Nat) : Int) = ((p.getD i 0 : Nat) : Int) := i64_nat (by omega)
    have e2 : IntKind.i64.wrap (((S i).1 : Nat) + ((p.getD i 0 : Nat) : Int)) = (((S i).1 + p.getD i 0 : Nat) : Int) := by rw [← Int.natCast_add]; exact i64_nat (by omega)
    have e3 : Int.tmod (((S i).1 + p.getD i 0 : Nat) : Int) 257 = (((S i).1 + p.getD i 0) % 257 : Nat) := tmod_nat
    have e4 : IntKind.i64.wrap (((S i).2 : Nat) + ((((S i).1 + p.getD i 0) % 257 : Nat) : Int)) = (((S i).2 + ((S i).1 + p.getD i 0) % 257 : Nat) : Int) := by rw [← Int.natCast_add]; exact i64_nat (by omega)
    have e5 : Int.tmod (((S i).2 + ((S i).1 + p.getD i 0) % 257 : Nat) : Int) 257 = (((S i).2 + ((S i).1 + p.getD i 0) % 257) % 257 : Nat) := tmod_nat
    simp +contextual +decide only [↓ wpre, ↓ wval, wpost, wint, wlog, wcell, wop, wop2, wdr, wdr2, wloop, tf, hp, h4, h5, h6, h11, h12, h13, d1, d3, d4, d5, d6, Int.reduceToNat, Nat.reduceAdd, Nat.zero_add, Nat.mul_one, encB, e1, e2, e3, e4, e5]
    exact ⟨i + 1, by show _ - _ < _ - _; omega, _, rfl, by simp +decide only [↓ wval, h4], by simp +decide only [↓ wval, hSs i hlt, step], by simp +decide only [↓ wval, hSs i hlt, step],
      by simp +decide only [↓ wval, h11], by simp +decide only [↓ wval, h12], by simp +decide only [↓ wval], hlt⟩
  · have : i = 28 := by omega
    subst this
    simp +contextual +decide only [↓ wpre, ↓ wval, wpost, wint, wlog, wcell, wop, wop2, wdr, wdr2, wloop, tf, hp, h4, h5, h6, h11, h12, h13, Int.reduceToNat, Nat.reduceAdd, Nat.zero_add, Nat.mul_one, abin_shr, dresults_cell, Option.bind_some]
    have k1 : (S 28).1 < 257 := by rw [hSs 27 (by omega)]; exact (step_lt _ _).1
    have k2 := hS2 28 (by omega)
    show AV.agg _ = AV.agg (List.map encB [(S 28).1 / 256, (S 28).1 % 256, (S 28).2 / 256, (S 28).2 % 256])
    simp only [List.map_cons, List.map_nil, encB, shr8 (show (S 28).1 < 65536 by omega), shr8 (show (S 28).2 < 65536 by omega), u8_nat]
def right (n : Nat) (p : List Nat) : Bool := decide (check n p = p.drop 28)
theorem eq159 : eqAK Tryz.prog 159 = some (4, .u8) := by kernel_rfl
theorem lslice_28 {p : List Nat} (hp : p.length = 32) : lslice p 28 4 = p.drop 28 := by
  unfold lslice; rw [List.take_of_length_le]; simp [hp]
theorem lslice_self {p : List Nat} {n : Nat} (hp : p.length = n) : lslice p 0 n = p := by
  unfold lslice; rw [List.drop_zero, List.take_of_length_le (by omega)]
theorem enc_ints (l : List Nat) : l.map encB = (l.map Int.ofNat).map (.int .u8) := by rw [List.map_map]; rfl
theorem map_ofNat {l m : List Nat} : (l.map Int.ofNat = m.map Int.ofNat) = (l = m) := propext (List.map_inj_right fun _ _ => Int.ofNat.inj)
theorem eq_pages {p q : List Nat} (hp : p.length = 4) (hq : q.length = 4) {x y : Operand} : abin Tryz.prog .eql 159 x y (.agg (p.map encB)) (.agg (q.map encB)) = some (.bool (decide (p = q))) := by
  rw [enc_ints, enc_ints, abin_arr eq159 (by simpa using hp) (by simpa using hq)]
  simp only [map_ofNat]
theorem right_ok (p : List Nat) (n : Nat) (hp : p.length = 32) (hb : ∀ b ∈ p, b < 256) (hn : n < 4611686018427387904) : Abs.Returns Tryz.prog 53 [.agg (p.map encB), .int .i64 (n : Nat)] (.bool (right n p)) := by
  refine returns_wk (L := [ent1 111 [.agg (p.map encB), .int .i64 (n : Nat)] (.agg ((check n p).map encB))]) (elist_cons (ent1_ok (check_ok p n hp hb hn)) elist_nil) (fun _ => ([2], [])) (by kernel_rfl) Tryz.func53 Tryz.ntmps53 Tryz.results53 rfl rfl (und_all_cons (und_agg (by simp only [List.mem_map]; rintro x ⟨b, _, rfl⟩; exact und_encB b)) (und_all_cons und_int und_all_nil)) und_bool ?_
  simp +contextual +decide only [↓ wpre, ↓ wval, wpost, wint, wlog, wcell, wop, wop2, wdr, wdr2, tf, hp, Int.reduceToNat, Nat.reduceAdd, Nat.reduceSub, Nat.zero_add, Nat.mul_one, ent1_same, lslice_28, lslice_self, eq_pages (show (check n p).length = 4 from rfl) (show (p.drop 28).length = 4 by simp [hp])]
  rfl
def pagesF (s : List Nat) : AV := .func (.func 115) [] [.pf (.str s)]
theorem pages_ok (s : List Nat) : Abs.Returns Tryz.prog 52 [.str s] (pagesF s) := by
  refine returns_wkF (L := []) elist_nil noHint (by kernel_rfl) Tryz.func52 Tryz.ntmps52 Tryz.results52 rfl rfl (und_all_cons und_str und_all_nil) ?_
  simp +contextual +decide only [↓ wpre, ↓ wval, wpost, wint, wlog, wcell, wop, wop2, wdr, wdr2, tf, Nat.reduceAdd]
  exact .func _ _ _ _ _ rfl rfl frz_all_nil (frz_all_cons (frz_ptr (g := 0) (cs := [.str s]) (Nat.le_refl _) rfl (Nat.le_refl _) (fun j x y hx hy => by
    cases j with
    | zero => simp [AV.cells] at hx hy; subst hx; subst hy; exact .und _ und_str
    | succ j => simp [AV.cells] at hy)) frz_all_nil)
def pageOf (s : List Nat) (i : Nat) : List Nat := lslice s (i * 32) 32
def rows (s : List Nat) : List (List AV) := (List.range (counted s)).map fun i => [.int .i64 (i : Nat), .agg ((pageOf s i).map encB)]
theorem counted_le {s : List Nat} {i : Nat} (h : i < counted s) : i * 32 + 32 ≤ s.length ∧ i < 256 := by
  unfold counted at h
  split at h <;> omega
theorem pageOf_len {s : List Nat} {i : Nat} (h : i < counted s) : (pageOf s i).length = 32 := by
  have := (counted_le h).1
  simp [pageOf, lslice]; omega
theorem pageOf_lt {s : List Nat} (hb : ∀ b ∈ s, b < 256) (i : Nat) : ∀ b ∈ pageOf s i, b < 256 := fun b h => hb b (List.mem_of_mem_drop (List.mem_of_mem_take h))
theorem pages_iter (s : List Nat) (hs : s.length < 9223372036854775808) {O : Orc} (h32 : ∀ σ, O 51 [.str s] σ = some (.ret (.int .i64 (counted s : Nat)) none)) (h62 : ∀ a σ, O 115 a σ = none) : Iter Tryz.prog O (pagesF s) (rows s) := by
  intro l J D X σ hl hJs hDs hXs hJ0 hr
  have hrow : (rows s).length = counted s := by simp [rows]
  refine Wcall_run (h62 _ _) (by kernel_rfl) Tryz.func115 rfl (Wk.sound (H := noHint) ?_)
  rw [hrow]
  show Wk _ _ _ _ ⟨24, none, 115, Tr.leaf.lay 0 [.func (.yield l) [] [], .pf (.str s)], [], ⟨σ.n, σ.n, σ.o⟩, .no⟩ _
  simp +contextual +decide only [↓ wpre, ↓ wval, wpost, wint, wlog, wcell, wop, wop2, wdr, wdr2, tf, Nat.reduceAdd, h32, isCell_str]
  refine Wk_loop (fun i e => ∃ t u, e = ⟨24, none, 115, t, [], u, .no⟩ ∧ t.val 0 = .func (.yield l) [] [] ∧ t.val 1 = .pf (.str s) ∧ t.val 5 = .int .i64 (counted s : Nat) ∧ t.val 6 = .int .i64 (i : Nat) ∧ i ≤ counted s ∧ l < u.n ∧ J i u ∧ (i = 0 ∨ u.low ≤ l)) (fun i => counted s - i) 0
    ⟨_, _, rfl, by simp +decide only [↓ wval, wint, wlog], by simp +decide only [↓ wval, wint, wlog], by simp +decide only [↓ wval, wint], by simp +decide only [↓ wval, wint]; rfl, Nat.zero_le _, hl, hJs _ _ _ (Sim.low σ σ.n) hJ0, .inl rfl⟩ ?_
  rintro i _ ⟨t, ⟨n, low, o⟩, rfl, h0, h1, h5, h6, hi, hln, hJ, hlow⟩
  by_cases hlt : i < counted s
  · have hle := counted_le hlt
    have d1 : (i : Int) < (counted s : Nat) := by omega
    have e1 : IntKind.i64.wrap ((i : Int) * 32) = ((i * 32 : Nat) : Int) := by rw [IntWalk.i64_in _ (by omega)]; simp
    have e2 : IntKind.i64.wrap (((i + 1 : Nat) : Int) * 32) = (((i + 1) * 32 : Nat) : Int) := by rw [IntWalk.i64_in _ (by omega)]; simp
    have d5 := wrap_succ (i := i) (by omega)
    have f1 : (0 : Int) ≤ ((i * 32 : Nat) : Int) := by omega
    have f2 : ((i * 32 : Nat) : Int) ≤ (((i + 1) * 32 : Nat) : Int) := by omega
    have f3 : (((i + 1) * 32 : Nat) : Int) ≤ (s.length : Nat) := by omega
    have f4 : lslice s (((i * 32 : Nat) : Int)).toNat ((((i + 1) * 32 : Nat) : Int).toNat - (((i * 32 : Nat) : Int)).toNat) = pageOf s i := by
      rw [Int.toNat_natCast, Int.toNat_natCast, pageOf]; congr 1; omega
    have hp := pageOf_len hlt
    have dn : n < n + 1 := Nat.lt_succ_self n
    simp +contextual +decide only [↓ wpre, ↓ wval, wpost, wint, wlog, wcell, wop, wop2, wdr, wdr2, wloop, tf, Nat.reduceAdd, Nat.zero_add, isCell_str, h0, h1, h5, h6, d1, e1, e2, d5, f1, f2, f3, f4, hp, dn, lslice_self]
    have hcall := hr i [.int .i64 (i : Nat), .agg ((pageOf s i).map encB)] (by simp [rows, hlt]) ((Sto.mk n low o).push (obg 0 ((pageOf s i).map encB))) (Nat.lt_succ_of_lt hln) (hJs _ _ _ (Sim.push _ _) hJ)
    refine hcall.mono fun res hk => ?_
    have hk' : rK l J D X i ⟨n + 1, low, o.set n (obg 0 ((pageOf s i).map encB))⟩ res := hk
    clear hk hcall
    cases res with
    | pan v so =>
      rw [callK_putP]
      have k : (so.getD ⟨n + 1, low, o.set n (obg 0 ((pageOf s i).map encB))⟩).low ≤ l ∧ X v (so.getD ⟨n + 1, low, o.set n (obg 0 ((pageOf s i).map encB))⟩) := hk'
      generalize so.getD ⟨n + 1, low, o.set n (obg 0 ((pageOf s i).map encB))⟩ = u at *
      simp +contextual +decide only [↓ wpre, ↓ wval, wpost, wint, wlog, wloop]
      exact Lv_pan rfl (close_of _ _ _ (X v) (hXs v) k.2 (.inl (Nat.lt_of_le_of_lt k.1 hl)))
    | ret v so =>
      rw [callK_put]
      have k : (v = .bool true ∧ (so.getD ⟨n + 1, low, o.set n (obg 0 ((pageOf s i).map encB))⟩).low ≤ l ∧ l < (so.getD ⟨n + 1, low, o.set n (obg 0 ((pageOf s i).map encB))⟩).n ∧ J (i + 1) (so.getD ⟨n + 1, low, o.set n (obg 0 ((pageOf s i).map encB))⟩)) ∨ (v = .bool false ∧ (so.getD ⟨n + 1, low, o.set n (obg 0 ((pageOf s i).map encB))⟩).low ≤ l ∧ D (so.getD ⟨n + 1, low, o.set n (obg 0 ((pageOf s i).map encB))⟩)) := by
        cases v with
        | bool b => cases b with
          | true => exact .inl ⟨rfl, hk'⟩
          | false => exact .inr ⟨rfl, hk'⟩
        | _ => exact hk'.elim
      generalize so.getD ⟨n + 1, low, o.set n (obg 0 ((pageOf s i).map encB))⟩ = u at *
      rcases k with ⟨rfl, k1, k0, k2⟩ | ⟨rfl, k1, k2⟩
      · simp +contextual +decide only [↓ wpre, ↓ wval, wpost, wint, wlog, wloop, Nat.reduceAdd, h6, d5]
        exact ⟨i + 1, by show _ - _ < _ - _; omega, _, _, rfl, by simp +decide only [↓ wval, h0], by simp +decide only [↓ wval, h1], by simp +decide only [↓ wval, h5], by simp +decide only [↓ wval], hlt, k0, k2, .inr k1⟩
      · simp +contextual +decide only [↓ wpre, ↓ wval, wpost, wint, wlog, wloop, Nat.reduceAdd, h6, d5]
        exact Lv_ret rfl (vs := []) rfl (.inr (close_of _ _ _ D hDs k2 (.inl (Nat.lt_of_le_of_lt k1 hl))))
  · have d1 : ¬ (i : Int) < (counted s : Nat) := by omega
    simp +contextual +decide only [↓ wpre, ↓ wval, wpost, wint, wlog, wloop, Nat.reduceAdd, h5, h6, d1]
    have hic : i = counted s := by omega
    refine Lv_ret rfl (vs := []) rfl (.inl (close_of _ _ _ (J (counted s)) (hJs _) (hic ▸ hJ) ?_))
    rcases hlow with h | h
    · refine .inr ?_
      rw [← hic, h]; exact hJ0
    · exact .inl (Nat.lt_of_le_of_lt h hl)
end
end Go.Proofs.YtajngkkihadgfaaGreat
