/-
  The reference of images: objects that can be stored, their bytes; objects compared.
-/
import Derived.Test.YtajngkkihadgfaaGreatHa
import Derived.Test.YtajngkkihadgfaaGreatEp
set_option linter.unusedVariables false
set_option linter.unusedSimpArgs false
namespace Go.Proofs.YtajngkkihadgfaaGreat
open Go.Abs Go Go.Abs.TryzF
noncomputable section
set_option maxRecDepth 10000
theorem frs_sl {a : AV} {l : List Fr} (h : decFrs a = some l) : ∃ xs, Sl a xs ∧ xs.length = l.length ∧ ∀ i, i < l.length → ∃ e v, (∀ {q : IntKind} {d : Option AV}, idxF (some 3) xs (.int q (i : Nat)) d = some (.pf (.agg [.int .i64 (l.getD i default).node, e, v]))) ∧ decVals e = some (l.getD i default).env ∧ decVals v = some (l.getD i default).vals := by
  obtain ⟨xs, h1, h2, h3⟩ := decS_sl h
  refine ⟨xs, h1, h2, fun i hi => ?_⟩
  have hx : i < xs.length := by omega
  obtain ⟨e, v, q1, q2, q3⟩ := decFr_some (h3 i hx hi)
  refine ⟨e, v, fun {q d} => ?_, by rw [getD_lt hi]; exact q2, by rw [getD_lt hi]; exact q3⟩
  refine idxF_ok (by omega) (by omega) ?_ rfl
  rw [Int.toNat_natCast, List.getElem?_eq_getElem hx, q1, getD_lt hi]
def storableV : List AV → Option AV
  | [a] => (decOb a).map fun o => .bool (obOk o)
  | _ => none
theorem storableV_eq {a : AV} {o : Ob} (h : decOb a = some o) : storableV [a] = some (.bool (obOk o)) := by simp [storableV, h]
theorem sl_stab {a : AV} {l : List AV} (h : Sl a l) {Y : Nat → Prop} : stabV Y a := by
  rcases h.1 with ⟨rfl, _⟩ | ⟨c, rfl⟩ <;> trivial
set_option maxHeartbeats 1000000 in
theorem rstorable_ok : Abs.Ok Tryz.prog 38 storableV := by
  intro args v hg
  match args, hg with
  | [a], hg =>
    obtain ⟨o, ho, rfl⟩ := Option.map_eq_some_iff.1 hg
    have hund := (under_ob ho).und
    obtain ⟨vs, fs, rfl, hvs, hfs⟩ := decOb_some ho
    obtain ⟨xs, hsl, hlen, hat⟩ := frs_sl hfs
    have cvs := decVals_cell hvs
    have cfs := hsl.cell
    have hll := hsl.2
    refine returns_wk (L := [ent 62 inV, ent 88 valuesV]) (elist_cons rIn_ok.ent (elist_cons rvalues_ok.ent elist_nil)) noHint (by kernel_rfl) Tryz.func38 Tryz.ntmps38 Tryz.results38 rfl rfl (und_all_cons hund und_all_nil) und_bool ?_
    have hvv := valuesV_eq hvs
    have hgt : (40 < ((xs.length : Nat) : Int)) = (40 < o.frs.length) := propext (by omega)
    cases h1 : inB o.form 1 6 with
    | false =>
      simp +contextual +decide (maxSteps := 1000000) only [↓ wP, wQ, tf, Nat.reduceAdd, ne_eq, cvs, cfs, inV_eq, h1]
      simp [obOk, h1]
    | true =>
    cases h2 : inB o.n (-1073741824) 1073741824 with
    | false =>
      simp +contextual +decide (maxSteps := 1000000) only [↓ wP, wQ, tf, Nat.reduceAdd, ne_eq, cvs, cfs, inV_eq, h1, h2]
      simp [obOk, numOk, h1, h2]
    | true =>
    cases h3 : valsOk o.vals with
    | false =>
      simp +contextual +decide (maxSteps := 1000000) only [↓ wP, wQ, tf, Nat.reduceAdd, ne_eq, cvs, cfs, inV_eq, h1, h2, h3, hvv]
      simp [obOk, numOk, h1, h2, h3]
    | true =>
    by_cases h4 : 40 < o.frs.length
    · simp +contextual +decide (maxSteps := 1000000) only [↓ wP, wQ, tf, Nat.reduceAdd, ne_eq, cvs, cfs, inV_eq, h1, h2, h3, hvv, hsl.len, hgt, h4]
      have : frsOk o.frs = false := by simp only [frsOk]; rw [decide_eq_false (by omega)]; rfl
      simp [obOk, numOk, h1, h2, h3, this]
    simp +contextual +decide (maxSteps := 1000000) only [↓ wP, wQ, tf, Nat.reduceAdd, ne_eq, cvs, cfs, inV_eq, h1, h2, h3, hvv, hsl.len, hgt, h4]
    have hob : obOk o = o.frs.all frOk := by
      simp only [obOk, numOk, h1, h2, h3, frsOk]; rw [decide_eq_true (by omega)]; rfl
    refine Wk_loop (fun i e => ∃ t n low ob, e = ⟨55, none, 38, t, [], ⟨n, low, ob⟩, .no⟩ ∧ t.val 1 = .ptr 0 0 0 ∧ t.val 3 = .int .i64 (i : Nat) ∧ ob.get 0 = some (obg 0 [.int .i64 o.form, .int .i64 o.n, vs, fs]) ∧ 0 < n ∧ i ≤ o.frs.length ∧ (o.frs.take i).all frOk = true) (fun i => o.frs.length - i) 0
      ⟨_, 1, 0, _, rfl, by simp +decide only [↓ wval, wint, wlog], by simp +decide only [↓ wval, wint, wlog]; rfl, by simp +decide only [↓ wval, wcell, wlog, ne_eq], by omega, Nat.zero_le _, rfl⟩ ?_
    rintro i _ ⟨t, n, low, ob, rfl, t1, t3, hg0, hn, hi, hall⟩
    have f0 := frI (i := 0) (n := n) hn
    by_cases hlt : i < o.frs.length
    · have d1 : (i : Int) < (xs.length : Nat) := by omega
      have d3 : (0 : Int) ≤ i := by omega
      have d5 := wrap_succ (i := i) (by omega)
      have htk := take_snoc (d := default) hlt
      have hm : o.frs.getD i default ∈ o.frs := by rw [getD_lt hlt]; exact List.getElem_mem _
      obtain ⟨e, v, hix, he, hv⟩ := hat i hlt
      have ce := decVals_cell he
      have cv := decVals_cell hv
      have e1 := valuesV_eq he
      have e2 := valuesV_eq hv
      have hfr : frOk (o.frs.getD i default) = (inB (o.frs.getD i default).node 0 1073741824 && valsOk (o.frs.getD i default).env && valsOk (o.frs.getD i default).vals) := rfl
      generalize hxd : o.frs.getD i default = f at *
      have hbad : frOk f = false → o.frs.all frOk = false := fun h => by rw [List.all_eq_false]; exact ⟨_, hm, by rw [h]; simp⟩
      cases k1 : inB f.node 0 1073741824 with
      | false =>
        simp +contextual +decide (maxSteps := 1000000) only [↓ wP, wQ, tf, Nat.reduceAdd, ne_eq, t1, t3, hg0, f0, frN, hsl.len, hsl.idx, hix, d1, pfC_agg, ce, cv, inV_eq, k1]
        rw [hob, hbad (by rw [hfr, k1]; rfl)]
      | true =>
      cases k2 : valsOk f.env with
      | false =>
        simp +contextual +decide (maxSteps := 1000000) only [↓ wP, wQ, tf, Nat.reduceAdd, ne_eq, t1, t3, hg0, f0, frN, hsl.len, hsl.idx, hix, d1, pfC_agg, ce, cv, inV_eq, k1, e1, k2]
        rw [hob, hbad (by rw [hfr, k1, k2]; rfl)]
      | true =>
      cases k3 : valsOk f.vals with
      | false =>
        simp +contextual +decide (maxSteps := 1000000) only [↓ wP, wQ, tf, Nat.reduceAdd, ne_eq, t1, t3, hg0, f0, frN, hsl.len, hsl.idx, hix, d1, pfC_agg, ce, cv, inV_eq, k1, e1, k2, e2, k3]
        rw [hob, hbad (by rw [hfr, k1, k2, k3]; rfl)]
      | true =>
        simp +contextual +decide (maxSteps := 1000000) only [↓ wP, wQ, tf, Nat.reduceAdd, ne_eq, t1, t3, hg0, f0, frN, hsl.len, hsl.idx, hix, d1, d5, pfC_agg, ce, cv, inV_eq, k1, e1, k2, e2, k3]
        exact ⟨i + 1, by show _ - _ < _ - _; omega, _, n + 1, _, _, rfl, by simp +decide only [↓ wval, wint, wlog, t1], by simp +decide only [↓ wval, wint, wlog], by simp +decide only [↓ wval, wcell, wlog, ne_eq, hg0, f0], by omega, hlt, by rw [htk, List.all_append, hall]; simp [hfr, k1, k2, k3]⟩
    · have : i = o.frs.length := by omega
      subst this
      rw [List.take_length] at hall
      have d1 : ¬ ((o.frs.length : Nat) : Int) < (xs.length : Nat) := by omega
      simp +contextual +decide (maxSteps := 1000000) only [↓ wP, wQ, tf, Nat.reduceAdd, ne_eq, t1, t3, hg0, f0, hsl.len, d1]
      rw [hob, hall]
theorem frOk_and {f : Fr} (h : frOk f = true) : 0 ≤ f.node ∧ f.node ≤ 1073741824 ∧ valsOk f.env = true ∧ valsOk f.vals = true := by
  simp only [frOk, inB, Bool.and_eq_true, decide_eq_true_eq] at h; exact ⟨h.1.1.1, h.1.1.2, h.1.2, h.2⟩
theorem obOk_and {o : Ob} (h : obOk o = true) : (1 ≤ o.form ∧ o.form ≤ 6) ∧ numOk o.n = true ∧ valsOk o.vals = true ∧ o.frs.length ≤ 40 ∧ ∀ f ∈ o.frs, frOk f = true := by
  simp only [obOk, frsOk, Bool.and_eq_true, decide_eq_true_eq] at h
  refine ⟨?_, h.1.1.2, h.1.2, h.2.1, List.all_eq_true.1 h.2.2⟩
  have := h.1.1.1
  simpa [inB] using this
theorem fr_len {f : Fr} (h : frOk f = true) : (frB f).length ≤ 375 := by
  obtain ⟨h1, h2, h3, h4⟩ := frOk_and h
  have e1 := vals_len h3
  have e2 := vals_len h4
  have e3 := numB_len 5 f.node.toNat (by omega) (by omega)
  simp only [frB, List.length_append]; omega
def writeV : List AV → Option AV
  | [a] => match decOb a with
    | some o => if obOk o = true then some (.str (obB o)) else none
    | none => none
  | _ => none
theorem writeV_eq {a : AV} {o : Ob} (h : decOb a = some o) (h' : obOk o = true) : writeV [a] = some (.str (obB o)) := by simp [writeV, h, h']
set_option maxHeartbeats 1000000 in
theorem rwrite_ok : Abs.Ok Tryz.prog 39 writeV := by
  intro args v hg
  unfold writeV at hg
  split at hg
  · rename_i a
    split at hg
    · rename_i o ho
      split at hg
      · rename_i hok
        cases hg
        have hund := (under_ob ho).und
        obtain ⟨vs, fs, rfl, hvs, hfs⟩ := decOb_some ho
        obtain ⟨xs, hsl, hlen, hat⟩ := frs_sl hfs
        have cvs := decVals_cell hvs
        have cfs := hsl.cell
        have hll := hsl.2
        obtain ⟨⟨k1, k2⟩, k3, k4, k5, k6⟩ := obOk_and hok
        refine returns_wk (L := [ent 89 signedV, ent 90 listV, ent 91 numberV]) (elist_cons rsigned_ok.ent (elist_cons rlist_ok.ent (elist_cons rnumber_ok.ent elist_nil))) (fun _ => ([3, 7, 11, 16], [])) (by kernel_rfl) Tryz.func39 Tryz.ntmps39 Tryz.results39 rfl rfl (und_all_cons hund und_all_nil) und_str ?_
        have e1 := u8_int (a := o.form) (by omega)
        have hcv : ∀ {g : Nat} {d : Option ORes}, cvO (some (obg g [.int .u8 ((o.form.toNat % 256 : Nat) : Int)])) g 1 d = some (.val (.str [o.form.toNat % 256])) := cvO_one (by omega)
        have e2 := signedV_eq k3
        have e3 := listV_eq hvs k4
        have e4 := numberV_eq (n := xs.length) (by omega)
        have l1 := sgnB_len k3
        have l2 := vals_len k4
        have l3 := numB_len 1 o.frs.length (by omega) (by omega)
        rw [hlen] at e4
        have a1 : [o.form.toNat % 256].length + (sgnB o.n).length < 9223372036854775808 := by simp only [List.length_append, List.length_cons, List.length_nil]; omega
        have a2 : ([o.form.toNat % 256] ++ sgnB o.n).length + (valsB o.vals).length < 9223372036854775808 := by simp only [List.length_append, List.length_cons, List.length_nil]; omega
        have a3 : ([o.form.toNat % 256] ++ sgnB o.n ++ valsB o.vals).length + (numB o.frs.length).length < 9223372036854775808 := by simp only [List.length_append, List.length_cons, List.length_nil]; omega
        simp only [List.cons_append, List.nil_append] at a1 a2 a3
        simp +contextual +decide (maxSteps := 1000000) only [↓ wP, wQ, tf, Nat.reduceAdd, ne_eq, cvs, cfs, hsl.len, hlen, sl_stab hsl, e1, cvC_ofBytes, hcv, e2, e3, e4, Nat.reduceMul, Nat.mul_one, Nat.zero_mul, Nat.zero_add, abin_str_add a1, abin_str_add a2, abin_str_add a3]
        refine Wk_loop (fun i e => ∃ t n low ob, e = ⟨50, none, 39, t, [], ⟨n, low, ob⟩, .no⟩ ∧ t.val 1 = .ptr 0 0 0 ∧ t.val 3 = .str ((o.form.toNat % 256) :: (sgnB o.n ++ valsB o.vals ++ numB o.frs.length ++ (o.frs.take i).flatMap frB)) ∧ t.val 4 = .int .i64 (i : Nat) ∧ ob.get 0 = some (obg 0 [.int .i64 o.form, .int .i64 o.n, vs, fs]) ∧ 0 < n ∧ i ≤ o.frs.length) (fun i => o.frs.length - i) 0
          ⟨_, 2, 0, _, rfl, by simp +decide only [↓ wval, wint, wlog], by simp only [List.take_zero, List.flatMap_nil, List.append_nil]; simp +decide only [↓ wval, wint, wlog], by simp +decide only [↓ wval, wint, wlog]; rfl, by simp +decide only [↓ wval, wcell, wlog, ne_eq], by omega, Nat.zero_le _⟩ ?_
        rintro i _ ⟨t, n, low, ob, rfl, t1, t3, t4, hg0, hn, hi⟩
        have f0 := frI (i := 0) (n := n) hn
        by_cases hlt : i < o.frs.length
        · have d1 : (i : Int) < (o.frs.length : Nat) := by omega
          have d5 := wrap_succ (i := i) (by omega)
          have htk := take_snoc (d := default) hlt
          have hm : o.frs.getD i default ∈ o.frs := by rw [getD_lt hlt]; exact List.getElem_mem _
          obtain ⟨e, v, hix, he, hv⟩ := hat i hlt
          have ce := decVals_cell he
          have cv := decVals_cell hv
          obtain ⟨q1, q2, q3, q4⟩ := frOk_and (k6 _ hm)
          have hpre : ((o.frs.take i).flatMap frB).length ≤ 40 * 375 := Nat.le_trans (flatMap_len (k := 375) _ fun x hx => fr_len (k6 x (List.mem_of_mem_take hx))) (by rw [List.length_take]; omega)
          have e5 := listV_eq he q3
          have e6 := listV_eq hv q4
          have m1 := vals_len q3
          have m2 := vals_len q4
          generalize hxd : o.frs.getD i default = f at *
          obtain ⟨nd, hnd⟩ : ∃ m : Nat, f.node = (m : Int) := ⟨f.node.toNat, by omega⟩
          rw [hnd] at hix
          have e7 := numberV_eq (n := nd) (by omega)
          have m3 := numB_len 5 nd (by omega) (by omega)
          have hpl : ((o.form.toNat % 256) :: (sgnB o.n ++ valsB o.vals ++ numB o.frs.length ++ (o.frs.take i).flatMap frB)).length ≤ 20000 := by simp only [List.length_append, List.length_cons]; omega
          generalize hpr : (o.form.toNat % 256) :: (sgnB o.n ++ valsB o.vals ++ numB o.frs.length ++ (o.frs.take i).flatMap frB) = pre at *
          have a1 : pre.length + (numB nd).length < 9223372036854775808 := by omega
          have a2 : (pre ++ numB nd).length + (valsB f.env).length < 9223372036854775808 := by simp only [List.length_append]; omega
          have a3 : (pre ++ numB nd ++ valsB f.env).length + (valsB f.vals).length < 9223372036854775808 := by simp only [List.length_append]; omega
          simp +contextual +decide (maxSteps := 1000000) only [↓ wP, wQ, tf, Nat.reduceAdd, ne_eq, t1, t3, t4, hg0, f0, frN, hsl.len, hlen, hsl.idx, hix, d1, d5, pfC_agg, ce, cv, e5, e6, e7, abin_str_add a1, abin_str_add a2, abin_str_add a3]
          refine ⟨i + 1, by show _ - _ < _ - _; omega, _, n + 1, _, _, rfl, by simp +decide only [↓ wval, wint, wlog, t1], ?_, by simp +decide only [↓ wval, wint, wlog], by simp +decide only [↓ wval, wcell, wlog, ne_eq, hg0, f0], by omega, hlt⟩
          rw [htk, List.flatMap_append]
          simp +decide only [↓ wval]
          simp only [List.flatMap_cons, List.flatMap_nil, List.append_nil, frB, hnd, Int.toNat_natCast]
          rw [← hpr]; simp only [List.append_assoc, List.cons_append]
        · have : i = o.frs.length := by omega
          subst this
          rw [List.take_length] at t3
          have d1 : ¬ ((o.frs.length : Nat) : Int) < (o.frs.length : Nat) := by omega
          simp +contextual +decide (maxSteps := 1000000) only [↓ wP, wQ, tf, Nat.reduceAdd, ne_eq, t1, t3, t4, hg0, f0, hsl.len, hlen, d1]
          rfl
      · cases hg
    · cases hg
  · cases hg
end
end Go.Proofs.YtajngkkihadgfaaGreat
/-
  The reference of images: objects compared; small objects.
-/
namespace Go.Proofs.YtajngkkihadgfaaGreat
open Go.Abs Go Go.Abs.TryzF
noncomputable section
set_option maxRecDepth 10000
def stPair (P : Program) (t : TypeId) : Option (TypeId × TypeId) := match P.underlying t with
  | some (.struct fs) => bif P.stoodInHeld t || P.eqGuardType P.depth t then none else (match afieldList fs with
    | [(a, 0), (b, 1)] => (match P.underlying a, P.underlying b, tyK P a, tyK P b with
      | some (.int .i64), some (.int .i64), some none, some none => some (a, b)
      | _, _, _, _ => none)
    | _ => none)
  | _ => none
theorem pair_aeq {P : Program} {t : TypeId} {y : TypeId × TypeId} (h : stPair P t = some y) (a b c d : Int) : (P.eqGuardType P.depth t = false) ∧ aeq P 10000 t (.agg [.int .i64 a, .int .i64 b]) (.agg [.int .i64 c, .int .i64 d]) = some (decide (a = c) && decide (b = d)) := by
  unfold stPair at h
  split at h
  · rename_i fs hu
    cases hg : (P.stoodInHeld t || P.eqGuardType P.depth t) with
    | true => rw [hg] at h; cases h
    | false =>
      rw [hg] at h
      simp only [cond_false] at h
      split at h
      · rename_i ta tb hfl
        split at h
        · rename_i ua ub ka kb
          simp only [Bool.or_eq_false_iff] at hg
          refine ⟨hg.2, ?_⟩
          have h3 : ∀ n (x z : Int), aeq P (n + 1) ta (.int .i64 x) (.int .i64 z) = some (decide (x = z)) := fun n x z => by
            unfold aeq
            simp only [ua]
            simp [intBeq_eq, beq_dec]
          have h4 : ∀ n (x z : Int), aeq P (n + 1) tb (.int .i64 x) (.int .i64 z) = some (decide (x = z)) := fun n x z => by
            unfold aeq
            simp only [ub]
            simp [intBeq_eq, beq_dec]
          have hall : ∀ n, aeq P (n + 1 + 1) t (.agg [.int .i64 a, .int .i64 b]) (.agg [.int .i64 c, .int .i64 d]) = some (decide (a = c) && decide (b = d)) := by
            intro n
            unfold aeq
            simp only [hu, hg.1, cond_false, hfl]
            simp only [aeqs, apart_ptK ka, apart_ptK kb, ptK]
            have e1 := h3 n a c
            have e2 := h4 n b d
            by_cases hab : a = c
            · subst hab
              simp [e1, e2]
              by_cases hpq : b = d <;> simp [hpq]
            · simp [e1, hab]
          exact hall 9998
        · cases h
      · cases h
  · cases h
theorem pair_neq {P : Program} {t : TypeId} {z : TypeId × TypeId} (h : stPair P t = some z) {x y : Operand} {v w : Val} : abin P .neq t x y (valI v) (valI w) = some (.bool (!decide (v = w))) := by
  obtain ⟨hg, key⟩ := pair_aeq h v.1 v.2 w.1 w.2
  have : decide (v = w) = (decide (v.1 = w.1) && decide (v.2 = w.2)) := by
    by_cases h1 : v.1 = w.1
    · by_cases h2 : v.2 = w.2
      · have : v = w := Prod.ext h1 h2
        subst this; simp
      · have : v ≠ w := fun e => h2 (by rw [e])
        simp [this, h2]
    · have : v ≠ w := fun e => h1 (by rw [e])
      simp [this, h1]
  rw [this]
  simp only [valI, abin, aguard, hg, key]; rfl
theorem st118 : stPair Tryz.prog 118 = some (116, 3) := by kernel_rfl
theorem list_ext_getD {α : Type} {d : α} {l m : List α} (h : l.length = m.length) (h' : ∀ j, j < l.length → l.getD j d = m.getD j d) : l = m := by
  apply List.ext_getElem h
  intro i h1 h2
  have := h' i h1
  rwa [getD_lt h1, getD_lt h2] at this
theorem idxI (l : List Val) {i : Nat} (h : i < l.length) {q : IntKind} {d : Option AV} : idxF (some 2) (l.map valI) (.int q (i : Nat)) d = some (.pf (valI (l.getD i default))) := by
  rw [idxF_map valI_len (by omega) (by omega)]; simp
theorem pfC_val {v : Val} {d : Option AV} : pfC (some (some 2)) (valI v) d = some (valI v) := pfC_agg rfl
def sameValsV : List AV → Option AV
  | [a, b] => match decVals a, decVals b with
    | some l, some m => some (.bool (decide (l = m)))
    | _, _ => none
  | _ => none
theorem sameValsV_eq {a b : AV} {l m : List Val} (h : decVals a = some l) (h' : decVals b = some m) : sameValsV [a, b] = some (.bool (decide (l = m))) := by simp [sameValsV, h, h']
theorem rsameVals_ok : Abs.Ok Tryz.prog 44 sameValsV := by
  intro args v hg
  unfold sameValsV at hg
  split at hg
  · rename_i a b
    split at hg
    · rename_i l m hl hm
      cases hg
      have ha := decVals_sl hl
      have hb := decVals_sl hm
      have la := ha.2
      have lb := hb.2
      simp only [List.length_map] at la lb
      refine returns_wk (L := []) elist_nil noHint (by kernel_rfl) Tryz.func44 Tryz.ntmps44 Tryz.results44 rfl rfl (und_all_cons (under_vals hl).und (und_all_cons (under_vals hm).und und_all_nil)) und_bool ?_
      have hc : (((l.length : Nat) : Int) = (m.length : Nat)) = (l.length = m.length) := propext (by omega)
      by_cases hlen : l.length = m.length
      · simp +contextual +decide (maxSteps := 1000000) only [↓ wP, wQ, tf, Nat.reduceAdd, ne_eq, ha.len, hb.len, List.length_map, hc, hlen]
        refine Wk_loop (fun i e => ∃ t, e = ⟨26, none, 44, t, [], ⟨0, 0, .leaf⟩, .no⟩ ∧ t.val 0 = a ∧ t.val 1 = b ∧ t.val 5 = .int .i64 (i : Nat) ∧ i ≤ l.length ∧ ∀ j, j < i → l.getD j default = m.getD j default) (fun i => l.length - i) 0 ⟨_, rfl, by simp +decide only [↓ wval, wint, wlog], by simp +decide only [↓ wval, wint, wlog], by simp +decide only [↓ wval, wint, wlog]; rfl, Nat.zero_le _, fun j hj => by omega⟩ ?_
        rintro i _ ⟨t, rfl, t0, t1, t5, hi, hpre⟩
        by_cases hlt : i < l.length
        · have d1 : (i : Int) < (l.length : Nat) := by omega
          have d5 := wrap_succ (i := i) (by omega)
          have x1 := fun {q d} => idxI l hlt (q := q) (d := d)
          have x2 := fun {q d} => idxI m (show i < m.length by omega) (q := q) (d := d)
          by_cases he : l.getD i default = m.getD i default
          · simp +contextual +decide (maxSteps := 1000000) only [↓ wP, wQ, tf, Nat.reduceAdd, ne_eq, ha.len, ha.idx, hb.len, hb.idx, List.length_map, t0, t1, t5, d1, d5, x1, x2, pfC_val, pair_neq st118, he]
            refine ⟨i + 1, by show _ - _ < _ - _; omega, _, rfl, by simp +decide only [↓ wval, wint, wlog, t0], by simp +decide only [↓ wval, wint, wlog, t1], by simp +decide only [↓ wval, wint, wlog], hlt, fun j hj => ?_⟩
            rcases Nat.lt_succ_iff_lt_or_eq.1 hj with hj | rfl
            · exact hpre j hj
            · exact he
          · simp +contextual +decide (maxSteps := 1000000) only [↓ wP, wQ, tf, Nat.reduceAdd, ne_eq, ha.len, ha.idx, hb.len, hb.idx, List.length_map, t0, t1, t5, d1, d5, x1, x2, pfC_val, pair_neq st118, he]
            rw [decide_eq_false]; rintro rfl; exact he rfl
        · have d1 : ¬ (i : Int) < (l.length : Nat) := by omega
          simp +contextual +decide (maxSteps := 1000000) only [↓ wP, wQ, tf, Nat.reduceAdd, ne_eq, ha.len, hb.len, List.length_map, t0, t1, t5, d1]
          rw [decide_eq_true]
          exact list_ext_getD hlen fun j hj => hpre j (by omega)
      · simp +contextual +decide (maxSteps := 1000000) only [↓ wP, wQ, tf, Nat.reduceAdd, ne_eq, ha.len, hb.len, List.length_map, hc, hlen]
        rw [decide_eq_false]; rintro rfl; exact hlen rfl
    · cases hg
  · cases hg
def sameObV : List AV → Option AV
  | [a, b] => match decOb a, decOb b with
    | some l, some m => some (.bool (decide (l = m)))
    | _, _ => none
  | _ => none
theorem sameObV_eq {a b : AV} {l m : Ob} (h : decOb a = some l) (h' : decOb b = some m) : sameObV [a, b] = some (.bool (decide (l = m))) := by simp [sameObV, h, h']
theorem fr_ext {f g : Fr} (h1 : f.node = g.node) (h2 : f.env = g.env) (h3 : f.vals = g.vals) : f = g := by cases f; cases g; simp_all
set_option maxHeartbeats 1000000 in
theorem rsameOb_ok : Abs.Ok Tryz.prog 13 sameObV := by
  intro args v hg
  unfold sameObV at hg
  split at hg
  · rename_i a b
    split at hg
    · rename_i o p ho hp
      cases hg
      have hua := (under_ob ho).und
      have hub := (under_ob hp).und
      obtain ⟨vs, fs, rfl, hvs, hfs⟩ := decOb_some ho
      obtain ⟨ws, gs, rfl, hws, hgs⟩ := decOb_some hp
      obtain ⟨xs, hsl, hlen, hat⟩ := frs_sl hfs
      obtain ⟨ys, hsl', hlen', hat'⟩ := frs_sl hgs
      have c1 := decVals_cell hvs
      have c2 := hsl.cell
      have c3 := decVals_cell hws
      have c4 := hsl'.cell
      have la := hsl.2
      have lb := hsl'.2
      refine returns_wk (L := [ent 44 sameValsV]) (elist_cons rsameVals_ok.ent elist_nil) (fun _ => ([], [1000])) (by kernel_rfl) Tryz.func13 Tryz.ntmps13 Tryz.results13 rfl rfl (und_all_cons hua (und_all_cons hub und_all_nil)) und_bool ?_
      have e1 := sameValsV_eq hvs hws
      by_cases h1 : o.form = p.form
      rotate_left
      · simp +contextual +decide (maxSteps := 1000000) only [↓ wP, wQ, tf, Nat.reduceAdd, ne_eq, c1, c2, c3, c4, h1]
        rw [decide_eq_false]; rintro rfl; exact h1 rfl
      by_cases h2 : o.n = p.n
      rotate_left
      · simp +contextual +decide (maxSteps := 1000000) only [↓ wP, wQ, tf, Nat.reduceAdd, ne_eq, c1, c2, c3, c4, h1, h2]
        rw [decide_eq_false]; rintro rfl; exact h2 rfl
      by_cases h3 : o.vals = p.vals
      rotate_left
      · simp +contextual +decide (maxSteps := 1000000) only [↓ wP, wQ, tf, Nat.reduceAdd, ne_eq, c1, c2, c3, c4, h1, h2, e1, h3]
        rw [decide_eq_false]; rintro rfl; exact h3 rfl
      have hc : (((xs.length : Nat) : Int) = (ys.length : Nat)) = (o.frs.length = p.frs.length) := propext (by omega)
      by_cases h4 : o.frs.length = p.frs.length
      rotate_left
      · simp +contextual +decide (maxSteps := 1000000) only [↓ wP, wQ, tf, Nat.reduceAdd, ne_eq, c1, c2, c3, c4, h1, h2, e1, h3, hsl.len, hsl'.len, hc, h4]
        rw [decide_eq_false]; rintro rfl; exact h4 rfl
      have hob : decide (o = p) = decide (o.frs = p.frs) := by
        congr 1
        refine propext ⟨fun h => by rw [h], fun h => ?_⟩
        cases o; cases p; simp_all
      rw [hob]
      have hgo : (((xs.length : Nat) : Int) = (ys.length : Nat)) := by omega
      simp +contextual +decide (maxSteps := 1000000) only [↓ wP, wQ, tf, Nat.reduceAdd, ne_eq, c1, c2, c3, c4, h1, h2, e1, h3, hsl.len, hsl'.len, hgo]
      refine Wk_loop (fun i e => ∃ t n low ob, e = ⟨75, none, 13, t, [], ⟨n, low, ob⟩, .no⟩ ∧ t.val 2 = .ptr 0 0 0 ∧ t.val 3 = .ptr 1 0 0 ∧ t.val 5 = .int .i64 (i : Nat) ∧ ob.get 0 = some (obg 0 [.int .i64 o.form, .int .i64 o.n, vs, fs]) ∧ ob.get 1 = some (obg 0 [.int .i64 p.form, .int .i64 p.n, ws, gs]) ∧ 1 < n ∧ i ≤ o.frs.length ∧ ∀ j, j < i → o.frs.getD j default = p.frs.getD j default) (fun i => o.frs.length - i) 0
        ⟨_, 2, 0, _, rfl, by simp +decide only [↓ wval, wint, wlog], by simp +decide only [↓ wval, wint, wlog], by simp +decide only [↓ wval, wint, wlog]; rfl, by simp +decide only [↓ wval, wcell, wlog, ne_eq, h1, h2], by simp +decide only [↓ wval, wcell, wlog, ne_eq], by omega, Nat.zero_le _, fun j hj => by omega⟩ ?_
      rintro i _ ⟨t, n, low, ob, rfl, t2, t3, t5, hg0, hg1, hn, hi, hpre⟩
      have f0 := frI (i := 0) (n := n) (by omega)
      have f1 := frI (i := 1) (n := n) (by omega)
      by_cases hlt : i < o.frs.length
      · have d1 : (i : Int) < (ys.length : Nat) := by omega
        have d5 := wrap_succ (i := i) (by omega)
        obtain ⟨e, v, hix, he, hv⟩ := hat i hlt
        obtain ⟨e', v', hix', he', hv'⟩ := hat' i (by omega)
        have ce := decVals_cell he
        have cv := decVals_cell hv
        have ce' := decVals_cell he'
        have cv' := decVals_cell hv'
        have ue := fun n => (under_vals he).mono (Nat.zero_le n)
        have uv := fun n => (under_vals hv).mono (Nat.zero_le n)
        have ue' := fun n => (under_vals he').mono (Nat.zero_le n)
        have uv' := fun n => (under_vals hv').mono (Nat.zero_le n)
        have q1 := sameValsV_eq he he'
        have q2 := sameValsV_eq hv hv'
        generalize hxd : o.frs.getD i default = f at *
        generalize hyd : p.frs.getD i default = g at *
        have hne : f ≠ g → decide (o.frs = p.frs) = false := fun h => by
          rw [decide_eq_false]; intro h'; rw [h'] at hxd; exact h (hxd.symm.trans hyd)
        by_cases k1 : f.node = g.node
        rotate_left
        · simp +contextual +decide (maxSteps := 1000000) only [↓ wP, wQ, tf, Nat.reduceAdd, ne_eq, t2, t3, t5, hg0, hg1, f0, f1, frN, hsl.len, hsl'.len, hsl.idx, hsl'.idx, hgo, hix, hix', d1, pfC_agg, ce, cv, ce', cv', ue, uv, ue', uv', k1]
          rw [hne fun h => k1 (by rw [h])]
        by_cases k2 : f.env = g.env
        rotate_left
        · simp +contextual +decide (maxSteps := 1000000) only [↓ wP, wQ, tf, Nat.reduceAdd, ne_eq, t2, t3, t5, hg0, hg1, f0, f1, frN, hsl.len, hsl'.len, hsl.idx, hsl'.idx, hgo, hix, hix', d1, pfC_agg, ce, cv, ce', cv', ue, uv, ue', uv', k1, q1, k2]
          rw [hne fun h => k2 (by rw [h])]
        by_cases k3 : f.vals = g.vals
        rotate_left
        · simp +contextual +decide (maxSteps := 1000000) only [↓ wP, wQ, tf, Nat.reduceAdd, ne_eq, t2, t3, t5, hg0, hg1, f0, f1, frN, hsl.len, hsl'.len, hsl.idx, hsl'.idx, hgo, hix, hix', d1, pfC_agg, ce, cv, ce', cv', ue, uv, ue', uv', k1, q1, k2, q2, k3]
          rw [hne fun h => k3 (by rw [h])]
        simp +contextual +decide (maxSteps := 1000000) only [↓ wP, wQ, tf, Nat.reduceAdd, ne_eq, t2, t3, t5, hg0, hg1, f0, f1, frN, hsl.len, hsl'.len, hsl.idx, hsl'.idx, hgo, hix, hix', d1, d5, pfC_agg, ce, cv, ce', cv', ue, uv, ue', uv', k1, q1, k2, q2, k3]
        refine ⟨i + 1, by show _ - _ < _ - _; omega, _, n + 1 + 1, _, _, rfl, by simp +decide only [↓ wval, wint, wlog, t2], by simp +decide only [↓ wval, wint, wlog, t3], by simp +decide only [↓ wval, wint, wlog], by simp +decide only [↓ wval, wcell, wlog, ne_eq, hg0, f0, frN], by simp +decide only [↓ wval, wcell, wlog, ne_eq, hg1, f1, frN], by omega, hlt, fun j hj => ?_⟩
        rcases Nat.lt_succ_iff_lt_or_eq.1 hj with hj | rfl
        · exact hpre j hj
        · rw [hxd, hyd]; exact fr_ext k1 k2 k3
      · have d1 : ¬ (i : Int) < (ys.length : Nat) := by omega
        simp +contextual +decide (maxSteps := 1000000) only [↓ wP, wQ, tf, Nat.reduceAdd, ne_eq, t2, t3, t5, hg0, f0, hsl.len, hgo, d1]
        rw [decide_eq_true]
        exact list_ext_getD h4 fun j hj => hpre j (by omega)
    · cases hg
  · cases hg
theorem und_se {l : List Nat} {k : IntKind} {x : Int} : Und 0 (.tuple [.str l, .int k x]) := und_tuple (und_all_cons und_str (und_all_cons und_int und_all_nil))
def smallOb (o : Ob) : Bool := decide (o.vals.length ≤ 60) && decide (o.frs.length ≤ 50) && o.frs.all fun f => decide (f.env.length ≤ 60) && decide (f.vals.length ≤ 60)
end
end Go.Proofs.YtajngkkihadgfaaGreat
/-
  The reference of images: its reader.
-/
namespace Go.Proofs.YtajngkkihadgfaaGreat
open Go.Abs Go Go.Abs.TryzF
noncomputable section
set_option maxRecDepth 10000
def unzig (n : Nat) : Int := if n % 2 = 1 then -((n + 1) / 2 : Nat) else ((n / 2 : Nat) : Int)
theorem le_min {a b c : Nat} (h : a ≤ b) (h' : a ≤ c) : a ≤ Nat.min b c := Nat.le_min.2 ⟨h, h'⟩
end
end Go.Proofs.YtajngkkihadgfaaGreat
