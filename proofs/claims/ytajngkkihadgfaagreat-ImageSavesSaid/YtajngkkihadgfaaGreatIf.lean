/-
  The reference of images: checks, pages.
-/
import Derived.Test.YtajngkkihadgfaaGreatIa
set_option linter.unusedVariables false
set_option linter.unusedSimpArgs false
namespace Go.Proofs.YtajngkkihadgfaaGreat
open Go.Abs Go Go.Abs.TryzF
noncomputable section
set_option maxRecDepth 10000
def twoB (n : Nat) : List Nat := [n / 256 % 256, n % 256]
theorem twoB_by (n : Nat) : By (twoB n) := by
  intro b hb
  simp only [twoB, List.mem_cons, List.not_mem_nil, or_false] at hb
  rcases hb with rfl | rfl <;> exact Nat.mod_lt _ (by omega)
def twoV : List AV → Option AV
  | [.int .i64 n] => if 0 ≤ n ∧ n < 9223372036854775808 then some (.str (twoB n.toNat)) else none
  | _ => none
theorem twoV_eq {n : Nat} (h : n < 9223372036854775808) : twoV [.int .i64 (n : Nat)] = some (.str (twoB n)) := by
  simp only [twoV]; rw [if_pos (by omega)]; simp
theorem rtwo_ok : Abs.Ok Tryz.prog 112 twoV := by
  intro args v hg
  unfold twoV at hg
  split at hg
  rotate_left
  · cases hg
  rename_i n
  split at hg
  rotate_left
  · cases hg
  rename_i hn
  cases hg
  obtain ⟨m, rfl⟩ : ∃ m : Nat, n = (m : Int) := ⟨n.toNat, by omega⟩
  rw [Int.toNat_natCast]
  refine returns_wk (L := []) elist_nil noHint (by kernel_rfl) Tryz.func112 Tryz.ntmps112 Tryz.results112 rfl rfl (und_all_cons und_int und_all_nil) und_str ?_
  have e1 : IntKind.i64.wrap (Int.tdiv (m : Int) 256) = ((m / 256 : Nat) : Int) := by rw [show Int.tdiv (m : Int) 256 = ((m / 256 : Nat) : Int) from tdiv_nat, i64_nat (by omega)]
  have e2 : Int.tmod (m : Int) 256 = ((m % 256 : Nat) : Int) := tmod_nat
  have e3 : IntKind.u8.wrap ((m / 256 : Nat) : Int) = ((m / 256 % 256 : Nat) : Int) := u8_nat
  have e4 : IntKind.u8.wrap ((m % 256 : Nat) : Int) = ((m % 256 : Nat) : Int) := by rw [u8_nat]; omega
  have hcv : ∀ {d : Option ORes}, cvO (some (obg 0 [.int .u8 ((m / 256 % 256 : Nat) : Int), .int .u8 ((m % 256 : Nat) : Int)])) 0 2 d = some (.val (.str (twoB m))) := fun {d} => cvO_ok (l := twoB m) rfl (twoB_by m)
  simp +contextual +decide (maxSteps := 1000000) only [↓ wP, wQ, tf, Nat.reduceAdd, ne_eq, e1, e2, e3, e4, Nat.reduceMul, Nat.mul_one, Nat.zero_mul, Nat.zero_add, cvC_ofBytes, hcv]
def zerosV : List AV → Option AV
  | [.int .i64 n] => if 0 ≤ n ∧ n ≤ 28 then some (.str (List.replicate n.toNat 0)) else none
  | _ => none
theorem zerosV_eq {n : Nat} (h : n ≤ 28) : zerosV [.int .i64 (n : Nat)] = some (.str (List.replicate n 0)) := by
  simp only [zerosV]; rw [if_pos (by omega)]; simp
theorem rep_by (n : Nat) : By (List.replicate n 0) := fun b hb => by rw [List.eq_of_mem_replicate hb]; omega
theorem repA_z (n : Nat) : repA [.int .u8 0] n = (List.replicate n 0).map encB := by
  induction n with
  | zero => rfl
  | succ n ih => rw [List.replicate_succ, List.map_cons, ← ih]; rfl
theorem rzeros_ok : Abs.Ok Tryz.prog 113 zerosV := by
  intro args v hg
  unfold zerosV at hg
  split at hg
  rotate_left
  · cases hg
  rename_i n
  split at hg
  rotate_left
  · cases hg
  rename_i hn
  cases hg
  obtain ⟨m, rfl⟩ : ∃ m : Nat, n = (m : Int) := ⟨n.toNat, by omega⟩
  rw [Int.toNat_natCast]
  refine returns_wk (L := []) elist_nil noHint (by kernel_rfl) Tryz.func113 Tryz.ntmps113 Tryz.results113 rfl rfl (und_all_cons und_int und_all_nil) und_str ?_
  simp +contextual +decide (maxSteps := 1000000) only [↓ wP, wQ, tf, Nat.reduceAdd, ne_eq]
  refine Wop_makeSlice (k := 1) (b := 1) (z := [.int .u8 0]) (i := .i64) (j := .i64) (l := m) (c := m) (by kernel_rfl) (by simp +decide only [↓ wval, wint, wlog]) (by simp +decide only [↓ wval, wint, wlog]) (Nat.le_refl _) (by omega) (by omega) (by rw [repA_z]; exact encB_all _) ?_
  rw [repA_z]
  have hcv : ∀ {d : Option ORes}, cvO (some (obg 0 ((List.replicate m 0).map encB))) 0 m d = some (.val (.str (List.replicate m 0))) := fun {d} => cvO_ok (by simp) (rep_by m)
  simp +contextual +decide (maxSteps := 1000000) only [↓ wP, wQ, tf, Nat.reduceAdd, ne_eq, cvC_ofBytes, hcv]
theorem sums_lt (n : Nat) (l : List Nat) (hn : n < 4611686018427387904) : (l.foldl step (n + 1, 0)).1 < 4611686018427387905 ∧ (l.foldl step (n + 1, 0)).2 < 257 := by
  rcases l.eq_nil_or_concat with rfl | ⟨l', x, rfl⟩
  · exact ⟨by simp only [List.foldl_nil]; omega, by simp⟩
  · rw [List.concat_eq_append, List.foldl_append]
    have := step_lt (l'.foldl step (n + 1, 0)) x
    exact ⟨by simp only [List.foldl_cons, List.foldl_nil]; omega, this.2⟩
theorem sums_1 (n : Nat) (l : List Nat) (h : l ≠ []) : (l.foldl step (n + 1, 0)).1 < 257 := by
  rcases l.eq_nil_or_concat with rfl | ⟨l', x, rfl⟩
  · exact absurd rfl h
  · rw [List.concat_eq_append, List.foldl_append]
    exact (step_lt (l'.foldl step (n + 1, 0)) x).1
def bysB (l : List Nat) : Bool := l.all fun b => decide (b < 256)
theorem bysB_iff {l : List Nat} : bysB l = true ↔ By l := by simp [bysB, By]
def rcheckV : List AV → Option AV
  | [.str s, .int .i64 n] => if 0 ≤ n ∧ n < 4611686018427387904 ∧ s.length = 28 ∧ bysB s = true then some (.str (check n.toNat s)) else none
  | _ => none
theorem rcheckV_eq {s : List Nat} {n : Nat} (h : n < 4611686018427387904) (hl : s.length = 28) (hb : By s) : rcheckV [.str s, .int .i64 (n : Nat)] = some (.str (check n s)) := by
  simp only [rcheckV]; rw [if_pos ⟨by omega, by omega, hl, bysB_iff.2 hb⟩]; simp
set_option maxHeartbeats 1000000 in
theorem rcheck_ok : Abs.Ok Tryz.prog 114 rcheckV := by
  intro args v hg
  unfold rcheckV at hg
  split at hg
  rotate_left
  · cases hg
  rename_i s n
  split at hg
  rotate_left
  · cases hg
  rename_i hn
  obtain ⟨hn0, hn1, hl, hb⟩ := hn
  cases hg
  obtain ⟨m, rfl⟩ : ∃ m : Nat, n = (m : Int) := ⟨n.toNat, by omega⟩
  rw [Int.toNat_natCast]
  rw [bysB_iff] at hb
  refine returns_wk (L := [ent 112 twoV]) (elist_cons rtwo_ok.ent elist_nil) noHint (by kernel_rfl) Tryz.func114 Tryz.ntmps114 Tryz.results114 rfl rfl (und_all_cons und_str (und_all_cons und_int und_all_nil)) und_str ?_
  have e0 := wrap_succ (i := m) (by omega)
  simp +contextual +decide (maxSteps := 1000000) only [↓ wP, wQ, tf, Nat.reduceAdd, ne_eq, e0]
  refine Wk_loop (fun i e => ∃ t, e = ⟨32, none, 114, t, [], ⟨0, 0, .leaf⟩, .no⟩ ∧ t.val 0 = .str s ∧ t.val 5 = .int .i64 (((s.take i).foldl step (m + 1, 0)).1 : Nat) ∧ t.val 6 = .int .i64 (((s.take i).foldl step (m + 1, 0)).2 : Nat) ∧ t.val 7 = .int .i64 (i : Nat) ∧ i ≤ 28) (fun i => 28 - i) 0
    ⟨_, rfl, by simp +decide only [↓ wval, wint, wlog], by simp +decide only [↓ wval, wint, wlog]; rfl, by simp +decide only [↓ wval, wint, wlog]; rfl, by simp +decide only [↓ wval, wint, wlog]; rfl, by omega⟩ ?_
  rintro i _ ⟨t, rfl, t0, t5, t6, t7, hi⟩
  have hs := sums_lt m (s.take i) (by omega)
  have d1 : ((i : Int) < (s.length : Nat)) = (i < 28) := propext (by omega)
  by_cases hlt : i < 28
  · have d3 : (0 : Int) ≤ i := by omega
    have d2 : (i : Int) < (s.length : Nat) := by omega
    have d5 := wrap_succ (i := i) (by omega)
    have htk := take_snoc (d := 0) (show i < s.length by omega)
    have h256 : s.getD i 0 < 256 := by rw [getD_lt (by omega)]; exact hb _ (List.getElem_mem _)
    have hst : (s.take (i + 1)).foldl step (m + 1, 0) = step ((s.take i).foldl step (m + 1, 0)) (s.getD i 0) := by rw [htk, List.foldl_append]; rfl
    generalize (s.take i).foldl step (m + 1, 0) = x at *
    have e1 : IntKind.i64.wrap ((s.getD i 0 : Nat) : Int) = ((s.getD i 0 : Nat) : Int) := i64_nat (by omega)
    have e2 : IntKind.i64.wrap ((x.1 : Int) + ((s.getD i 0 : Nat) : Int)) = ((x.1 + s.getD i 0 : Nat) : Int) := by rw [← Int.natCast_add]; exact i64_nat (by omega)
    have e3 : Int.tmod ((x.1 + s.getD i 0 : Nat) : Int) 257 = ((x.1 + s.getD i 0) % 257 : Nat) := tmod_nat
    have e4 : IntKind.i64.wrap ((x.2 : Int) + (((x.1 + s.getD i 0) % 257 : Nat) : Int)) = ((x.2 + (x.1 + s.getD i 0) % 257 : Nat) : Int) := by rw [← Int.natCast_add]; exact i64_nat (by omega)
    have e5 : Int.tmod ((x.2 + (x.1 + s.getD i 0) % 257 : Nat) : Int) 257 = ((x.2 + (x.1 + s.getD i 0) % 257) % 257 : Nat) := tmod_nat
    simp +contextual +decide (maxSteps := 1000000) only [↓ wP, wQ, tf, Nat.reduceAdd, ne_eq, t0, t5, t6, t7, d1, d2, hlt, d3, d5, Int.toNat_natCast, e1, e2, e3, e4, e5]
    exact ⟨i + 1, by show _ - _ < _ - _; omega, _, rfl, by simp +decide only [↓ wval, wint, wlog, t0], by simp +decide only [↓ wval, wint, wlog, hst, step], by simp +decide only [↓ wval, wint, wlog, hst, step], by simp +decide only [↓ wval, wint, wlog], hlt⟩
  · have : i = 28 := by omega
    subst this
    have htk : s.take 28 = s := List.take_of_length_le (by omega)
    have hs1 := sums_1 m s (by intro h; rw [h] at hl; cases hl)
    rw [htk] at t5 t6 hs
    have hck : check m s = [(s.foldl step (m + 1, 0)).1 / 256, (s.foldl step (m + 1, 0)).1 % 256, (s.foldl step (m + 1, 0)).2 / 256, (s.foldl step (m + 1, 0)).2 % 256] := by simp only [check, sums, htk]
    rw [hck]
    generalize s.foldl step (m + 1, 0) = x at *
    have e1 := twoV_eq (n := x.1) (by omega)
    have e2 := twoV_eq (n := x.2) (by omega)
    have hadd : (twoB x.1).length + (twoB x.2).length < 9223372036854775808 := by simp [twoB]
    simp +contextual +decide (maxSteps := 1000000) only [↓ wP, wQ, tf, Nat.reduceAdd, ne_eq, t0, t5, t6, t7, d1, hlt, e1, e2, abin_str_add hadd]
    simp only [twoB, List.cons_append, List.nil_append]
    rw [show x.1 / 256 % 256 = x.1 / 256 by omega, show x.2 / 256 % 256 = x.2 / 256 by omega]
def pad28 (s : List Nat) : List Nat := s.take 28 ++ List.replicate (28 - s.length) 0
def pgB (s : List Nat) (i : Nat) : List Nat := pad28 (s.drop (28 * i)) ++ check i (pad28 (s.drop (28 * i)))
def pagesN (s : List Nat) : Nat := (s.length + 27) / 28
def pagedTo (s : List Nat) (n : Nat) : List Nat := (List.range n).flatMap (pgB s)
def pagedB (s : List Nat) : List Nat := pagedTo s (pagesN s)
theorem pad28_len (s : List Nat) : (pad28 s).length = 28 := by simp [pad28]; omega
theorem pad28_by {s : List Nat} (h : By s) : By (pad28 s) := by_append (fun b hb => h b (List.mem_of_mem_take hb)) (rep_by _)
theorem check_by' (n : Nat) (s : List Nat) (hl : s.length = 28) (hn : n < 4611686018427387904) : By (check n s) := by
  have htk : s.take 28 = s := List.take_of_length_le (by omega)
  have hs1 := sums_1 n s (by intro h; rw [h] at hl; cases hl)
  have hs2 := (sums_lt n s hn).2
  intro b hb
  simp only [check, sums, htk, List.mem_cons, List.not_mem_nil, or_false] at hb
  generalize s.foldl step (n + 1, 0) = x at *
  rcases hb with rfl | rfl | rfl | rfl <;> omega
theorem check_len (n : Nat) (s : List Nat) : (check n s).length = 4 := rfl
theorem pgB_len (s : List Nat) (i : Nat) : (pgB s i).length = 32 := by simp [pgB, pad28_len, check_len]
theorem pagedTo_len (s : List Nat) (n : Nat) : (pagedTo s n).length = 32 * n := by
  induction n with
  | zero => rfl
  | succ n ih => rw [pagedTo, List.range_succ, List.flatMap_append, List.length_append]; rw [pagedTo] at ih; rw [ih]; simp [pgB_len]; omega
theorem pagedTo_succ (s : List Nat) (n : Nat) : pagedTo s (n + 1) = pagedTo s n ++ pgB s n := by rw [pagedTo, pagedTo, List.range_succ, List.flatMap_append]; simp
theorem pgB_by {s : List Nat} (h : By s) {i : Nat} (hi : i < 4611686018427387904) : By (pgB s i) := by_append (pad28_by fun b hb => h b (List.mem_of_mem_drop hb)) (check_by' i _ (pad28_len _) hi)
theorem pagedTo_by {s : List Nat} (h : By s) {n : Nat} (hn : n < 4611686018427387904) : By (pagedTo s n) := fun b hb => by
  obtain ⟨i, hi, hb⟩ := List.mem_flatMap.1 hb
  exact pgB_by h (by have := List.mem_range.1 hi; omega) b hb
def rpagedV : List AV → Option AV
  | [.str s] => if s.length < 1099511627776 ∧ bysB s = true then some (.str (pagedB s)) else none
  | _ => none
theorem rpagedV_eq {s : List Nat} (hl : s.length < 1099511627776) (hb : By s) : rpagedV [.str s] = some (.str (pagedB s)) := by
  simp only [rpagedV]; rw [if_pos ⟨hl, bysB_iff.2 hb⟩]
abbrev LPg : List Ent := [ent 113 zerosV, ent 114 rcheckV]
set_option maxHeartbeats 1000000 in
theorem rpaged_ok : Abs.Ok Tryz.prog 50 rpagedV := by
  intro args v hg
  unfold rpagedV at hg
  split at hg
  rotate_left
  · cases hg
  rename_i s
  split at hg
  rotate_left
  · cases hg
  rename_i hn
  obtain ⟨hl, hb⟩ := hn
  cases hg
  rw [bysB_iff] at hb
  refine returns_wk (L := LPg) (elist_cons rzeros_ok.ent (elist_cons rcheck_ok.ent elist_nil)) noHint (by kernel_rfl) Tryz.func50 Tryz.ntmps50 Tryz.results50 rfl rfl (und_all_cons und_str und_all_nil) und_str ?_
  simp +contextual +decide (maxSteps := 1000000) only [↓ wP, wQ, tf, Nat.reduceAdd, ne_eq]
  refine Wk_loop (fun i e => ∃ t, e = ⟨33, none, 50, t, [], ⟨0, 0, .leaf⟩, .no⟩ ∧ t.val 0 = .str (s.drop (28 * i)) ∧ t.val 3 = .str (pagedTo s i) ∧ t.val 4 = .int .i64 (i : Nat) ∧ i ≤ pagesN s) (fun i => pagesN s - i) 0
    ⟨_, rfl, by simp +decide only [↓ wval, wint, wlog]; rfl, by simp +decide only [↓ wval, wint, wlog]; rfl, by simp +decide only [↓ wval, wint, wlog]; rfl, Nat.zero_le _⟩ ?_
  rintro i _ ⟨t, rfl, t0, t3, t4, hi⟩
  have hil : 28 * i ≤ s.length + 27 := by unfold pagesN at hi; omega
  have hrl : (s.drop (28 * i)).length = s.length - 28 * i := List.length_drop
  have d1 : (0 < (((s.drop (28 * i)).length : Nat) : Int)) = (i < pagesN s) := propext (by rw [hrl]; unfold pagesN; omega)
  by_cases hlt : i < pagesN s
  · have hbd : By (s.drop (28 * i)) := fun b hb' => hb b (List.mem_of_mem_drop hb')
    have hpos : 0 < (s.drop (28 * i)).length := by rw [hrl]; unfold pagesN at hlt; omega
    have hdd : s.drop (28 * (i + 1)) = (s.drop (28 * i)).drop 28 := by rw [List.drop_drop]; congr 1
    have hsucc := pagedTo_succ s i
    have hpl := pagedTo_len s i
    have hpg : pgB s i = pad28 (s.drop (28 * i)) ++ check i (pad28 (s.drop (28 * i))) := rfl
    generalize hr : s.drop (28 * i) = r at *
    obtain ⟨k, hk⟩ : ∃ k, k = min 28 r.length := ⟨_, rfl⟩
    have e1 : (if ((r.length : Nat) : Int) < 28 then ((r.length : Nat) : Int) else 28) = ((k : Nat) : Int) := by split <;> omega
    have e2 : IntKind.i64.wrap (28 - ((k : Nat) : Int)) = ((28 - k : Nat) : Int) := by rw [IntWalk.i64_in _ (by omega)]; omega
    have e3 := zerosV_eq (n := 28 - k) (by omega)
    have d2 : (0 : Int) ≤ (k : Nat) := by omega
    have d3 : ((k : Nat) : Int) ≤ (r.length : Nat) := by omega
    have hpad : r.take k ++ List.replicate (28 - k) 0 = pad28 r := by
      unfold pad28
      rcases Nat.lt_or_ge r.length 28 with h | h
      · rw [show k = r.length by omega, List.take_of_length_le (Nat.le_refl _), List.take_of_length_le (by omega)]
      · rw [show k = 28 by omega, show 28 - r.length = 0 by omega]
    have hdrop : r.drop k = r.drop 28 := by
      rcases Nat.lt_or_ge r.length 28 with h | h
      · rw [show k = r.length by omega, List.drop_of_length_le (Nat.le_refl _), List.drop_of_length_le (by omega)]
      · rw [show k = 28 by omega]
    have hp28 := pad28_len r
    have e4 := rcheckV_eq (s := pad28 r) (n := i) (by unfold pagesN at hi; omega) hp28 (pad28_by hbd)
    have a1 : (r.take k).length + (List.replicate (28 - k) 0).length < 9223372036854775808 := by simp; omega
    have a2 : (pagedTo s i).length + (pad28 r).length < 9223372036854775808 := by rw [hpl, hp28]; unfold pagesN at hi; omega
    have a3 : (pagedTo s i ++ pad28 r).length + (check i (pad28 r)).length < 9223372036854775808 := by rw [List.length_append, hpl, hp28, check_len]; unfold pagesN at hi; omega
    have d5 := wrap_succ (i := i) (by unfold pagesN at hi; omega)
    generalize pagedTo s i = pre at *
    simp +contextual +decide (maxSteps := 1000000) only [↓ wP, wQ, tf, Nat.reduceAdd, ne_eq, t0, t3, t4, d1, hlt, ab_min, e1, e2, e3, d2, d3, Int.toNat_natCast, abin_str_add a1, hpad, e4, abin_str_add a2, abin_str_add a3, hdrop, d5]
    exact ⟨i + 1, by show _ - _ < _ - _; omega, _, rfl, by simp +decide only [↓ wval, wint, wlog, hdd], by simp +decide only [↓ wval, wint, wlog, hsucc, hpg, List.append_assoc], by simp +decide only [↓ wval, wint, wlog], hlt⟩
  · have : i = pagesN s := by omega
    subst this
    simp +contextual +decide (maxSteps := 1000000) only [↓ wP, wQ, tf, Nat.reduceAdd, ne_eq, t0, t3, t4, d1, hlt]
    rfl
end
end Go.Proofs.YtajngkkihadgfaaGreat
/-
  The reference of images: the stream of a world, its image.
-/
namespace Go.Proofs.YtajngkkihadgfaaGreat
open Go.Abs Go Go.Abs.TryzF
noncomputable section
set_option maxRecDepth 10000
def taskB (t : Int) : List Nat := numB t.toNat
def outB (v : Val) : List Nat := sgnB v.1 ++ sgnB v.2
def restB (w : Wd) : List Nat := numB w.tasks.length ++ w.tasks.flatMap taskB ++ (numB w.outs.length ++ w.outs.flatMap outB) ++ (numB w.ins.length ++ w.ins.flatMap sgnB) ++ numB w.used.toNat
def baseN (w : Wd) : Nat := 4 + 2 * (w.objs.length + 1)
def bodyTo (w : Wd) (i : Nat) : List Nat := (w.objs.take i).flatMap obB
def bodyB (w : Wd) : List Nat := w.objs.flatMap obB
def tableTo (w : Wd) (i : Nat) : List Nat := (List.range i).flatMap fun j => twoB (baseN w + (bodyTo w j).length)
def headB (w : Wd) : List Nat := [72, 70, w.objs.length % 256, 0]
def streamB (w : Wd) : List Nat := headB w ++ tableTo w (w.objs.length + 1) ++ bodyB w ++ restB w
theorem bodyTo_succ {w : Wd} {i : Nat} (h : i < w.objs.length) : bodyTo w (i + 1) = bodyTo w i ++ obB (w.objs.getD i default) := by
  rw [bodyTo, bodyTo, take_snoc (d := default) h, List.flatMap_append]; simp
theorem bodyTo_all (w : Wd) : bodyTo w w.objs.length = bodyB w := by rw [bodyTo, List.take_length]; rfl
theorem bodyTo_le (w : Wd) (i : Nat) : (bodyTo w i).length ≤ (bodyB w).length := by
  rw [bodyB, ← List.take_append_drop i w.objs, List.flatMap_append, List.length_append, bodyTo]; simp
theorem tableTo_succ (w : Wd) (i : Nat) : tableTo w (i + 1) = tableTo w i ++ twoB (baseN w + (bodyTo w i).length) := by rw [tableTo, tableTo, List.range_succ, List.flatMap_append]; simp
theorem tableTo_len (w : Wd) (i : Nat) : (tableTo w i).length = 2 * i := by
  induction i with
  | zero => rfl
  | succ i ih => rw [tableTo_succ, List.length_append, ih]; simp [twoB]; omega
theorem tableTo_by (w : Wd) (i : Nat) : By (tableTo w i) := by_flat fun _ => twoB_by _
theorem obB_len' {o : Ob} (h : obOk o = true) : (obB o).length ≤ 20000 := by
  obtain ⟨⟨k1, k2⟩, k3, k4, k5, k6⟩ := obOk_and h
  have l1 := sgnB_len k3
  have l2 := vals_len k4
  have l3 := numB_len 1 o.frs.length (by omega) (by omega)
  have l4 : (o.frs.flatMap frB).length ≤ 40 * 375 := Nat.le_trans (flatMap_len (k := 375) _ fun x hx => fr_len (k6 x hx)) (by omega)
  simp only [obB, List.length_cons, List.length_append]; omega
theorem outOk_and {v : Val} (h : outOk v = true) : numOk v.1 = true ∧ numOk v.2 = true := by
  unfold outOk at h
  simpa using h
theorem outB_len {v : Val} (h : outOk v = true) : (outB v).length ≤ 10 := by
  have h1 := sgnB_len (outOk_and h).1
  have h2 := sgnB_len (outOk_and h).2
  simp only [outB, List.length_append]; omega
theorem task_and {n : Int} {x : Int} (h : inB x 0 (n - 1) = true) (hn : n ≤ 120) : 0 ≤ x ∧ x < 120 := by
  simp only [inB, Bool.and_eq_true, decide_eq_true_eq] at h; omega
theorem taskB_len {n : Int} {x : Int} (h : inB x 0 (n - 1) = true) (hn : n ≤ 120) : (taskB x).length ≤ 1 := by
  have := task_and h hn
  exact numB_len 1 x.toNat (by omega) (by omega)
structure WdF (w : Wd) : Prop where
  objs : w.objs.length ≤ 120
  tasks : w.tasks.length ≤ 120
  outs : w.outs.length ≤ 100
  ins : w.ins.length ≤ 50
  used : 0 ≤ w.used ∧ w.used ≤ 1073741824
  ob : ∀ o ∈ w.objs, obOk o = true ∧ insideB w.objs.length o = true
  task : ∀ t ∈ w.tasks, inB t 0 ((w.objs.length : Int) - 1) = true
  out : ∀ o ∈ w.outs, outOk o = true
  inn : ∀ n ∈ w.ins, numOk n = true
theorem wdF {w : Wd} (h : wdOk w = true) : WdF w := by
  obtain ⟨h1, h2, h3, h4, h5, h6, h7, h8, h9⟩ := wdOk_iff.1 h
  refine ⟨h1, h2, h3, h4, by simpa [inB] using h5, fun o ho => ?_, List.all_eq_true.1 h7, List.all_eq_true.1 h8, List.all_eq_true.1 h9⟩
  have := List.all_eq_true.1 h6 o ho
  simpa [obIn] using this
theorem body_len {w : Wd} (h : WdF w) (i : Nat) : (bodyTo w i).length ≤ 2400000 := by
  have h1 := bodyTo_le w i
  have h2 : (bodyB w).length ≤ w.objs.length * 20000 := flatMap_len _ fun o ho => obB_len' (h.ob o ho).1
  have h3 := h.objs
  omega
theorem tasks_len {w : Wd} (h : WdF w) (i : Nat) : ((w.tasks.take i).flatMap taskB).length ≤ 120 := by
  have h3 := h.objs
  have h2 : ((w.tasks.take i).flatMap taskB).length ≤ (w.tasks.take i).length * 1 := flatMap_len _ fun o ho => taskB_len (h.task o (List.mem_of_mem_take ho)) (by omega)
  have h4 := h.tasks
  rw [List.length_take] at h2; omega
theorem outs_len {w : Wd} (h : WdF w) (i : Nat) : ((w.outs.take i).flatMap outB).length ≤ 1000 := by
  have h2 : ((w.outs.take i).flatMap outB).length ≤ (w.outs.take i).length * 10 := flatMap_len _ fun o ho => outB_len (h.out o (List.mem_of_mem_take ho))
  have h4 := h.outs
  rw [List.length_take] at h2; omega
theorem ins_len {w : Wd} (h : WdF w) (i : Nat) : ((w.ins.take i).flatMap sgnB).length ≤ 250 := by
  have h2 : ((w.ins.take i).flatMap sgnB).length ≤ (w.ins.take i).length * 5 := flatMap_len _ fun o ho => sgnB_len (h.inn o (List.mem_of_mem_take ho))
  have h4 := h.ins
  rw [List.length_take] at h2; omega
theorem take_flat {α : Type} {l : List α} {i : Nat} {d : α} {f : α → List Nat} (h : i < l.length) : (l.take (i + 1)).flatMap f = (l.take i).flatMap f ++ f (l.getD i d) := by
  rw [take_snoc (d := d) h, List.flatMap_append]; simp
def streamAV (w : Wd) : AV := if 7168 < (bodyB w).length then .tuple [.str [], .bool false] else .tuple [.str (streamB w), .bool (decide ((streamB w).length ≤ 7168))]
theorem und_streamAV {w : Wd} : Und 0 (streamAV w) := by
  unfold streamAV
  split <;> exact und_tuple (und_all_cons und_str (und_all_cons und_bool und_all_nil))
def rstreamV : List AV → Option AV
  | [a] => match decWd a with
    | some w => if wdOk w = true then some (streamAV w) else none
    | none => none
  | _ => none
theorem rstreamV_eq {a : AV} {w : Wd} (h : decWd a = some w) (h' : wdOk w = true) : rstreamV [a] = some (streamAV w) := by simp [rstreamV, h, h']
abbrev LSr : List Ent := [ent 112 twoV, ent 39 writeV, ent 91 numberV, ent 89 signedV]
set_option maxHeartbeats 4000000 in
theorem rstream_ok : Abs.Ok Tryz.prog 49 rstreamV := by
  intro args v hg
  unfold rstreamV at hg
  split at hg
  rotate_left
  · cases hg
  rename_i a
  split at hg
  rotate_left
  · cases hg
  rename_i w hw
  split at hg
  rotate_left
  · cases hg
  rename_i hok
  cases hg
  have hF := wdF hok
  have hund := (under_wd hw).und
  obtain ⟨os, ts, us, is, rfl, h1, h2, h3, h4, c1, c2, c3, c4⟩ := wd_cells hw
  obtain ⟨xs, c, hsl, hlen, hat⟩ := obs_cells h1
  have s2 := decInts_sl h2
  have s3 := decVals_sl h3
  have s4 := decInts_sl h4
  have b1 := hF.objs
  have b2 := hF.tasks
  have b3 := hF.outs
  have b4 := hF.ins
  refine returns_wk (L := LSr) (elist_cons rtwo_ok.ent (elist_cons rwrite_ok.ent (elist_cons rnumber_ok.ent (elist_cons rsigned_ok.ent elist_nil)))) (fun _ => ([7, 11, 15], [])) (by kernel_rfl) Tryz.func49 Tryz.ntmps49 Tryz.results49 rfl rfl (und_all_cons hund und_all_nil) und_streamAV ?_
  simp +contextual +decide (maxSteps := 1000000) only [↓ wP, wQ, tf, Nat.reduceAdd, ne_eq, c1, c2, c3, c4, hsl.len, hlen]
  have e1 : IntKind.i64.wrap (((w.objs.length : Nat) : Int) + 1) = ((w.objs.length + 1 : Nat) : Int) := wrap_succ (by omega)
  have e2 : IntKind.i64.wrap (2 * ((w.objs.length + 1 : Nat) : Int)) = ((2 * (w.objs.length + 1) : Nat) : Int) := by rw [IntWalk.i64_in _ (by omega)]; omega
  have e3 : IntKind.i64.wrap (4 + ((2 * (w.objs.length + 1) : Nat) : Int)) = ((baseN w : Nat) : Int) := by rw [IntWalk.i64_in _ (by omega), baseN]; omega
  have hbase : baseN w ≤ 250 := by unfold baseN; omega
  refine Wk_loop (fun i e => ∃ t n low ob, e = ⟨139, none, 49, t, [], ⟨n, low, ob⟩, .no⟩ ∧ t.val 1 = .ptr 0 0 0 ∧ t.val 4 = .int .i64 (w.objs.length : Nat) ∧ t.val 5 = .str (bodyTo w i) ∧ t.val 6 = .str (tableTo w i) ∧ t.val 7 = .int .i64 (i : Nat) ∧ ob.get 0 = some (obg 0 [os, ts, us, is, .int .i64 w.used]) ∧ 0 < n ∧ i ≤ w.objs.length ∧ (bodyTo w i).length ≤ 7168) (fun i => w.objs.length - i) 0
    ⟨_, 1, 0, _, rfl, by simp +decide only [↓ wval, wint, wlog], by simp +decide only [↓ wval, wint, wlog], by simp +decide only [↓ wval, wint, wlog]; rfl, by simp +decide only [↓ wval, wint, wlog]; rfl, by simp +decide only [↓ wval, wint, wlog]; rfl, by simp +decide only [↓ wval, wcell, wlog, ne_eq], by omega, Nat.zero_le _, by simp [bodyTo]⟩ ?_
  rintro i _ ⟨t, n, low, ob, rfl, t1, t4, t5, t6, t7, hg0, hn, hi, hsz⟩
  have f0 := frI (i := 0) (n := n) hn
  have d1 : ((i : Int) < (w.objs.length : Nat)) = (i < w.objs.length) := propext (by omega)
  have htl := tableTo_len w i
  have hts := tableTo_succ w i
  by_cases hlt : i < w.objs.length
  · have d5 := wrap_succ (i := i) (by omega)
    have hm := getD_mem (d := default) hlt
    obtain ⟨hix, hcl, hcc, hdec⟩ := hat i hlt
    have x1 := fun {q d} => hix (q := q) (d := d)
    have hobk := (hF.ob _ hm).1
    have ew := writeV_eq hdec hobk
    have hbs := bodyTo_succ hlt
    have hbl := bodyTo_le w (i + 1)
    have hol := obB_len' hobk
    have hb2 := hbs
    generalize c i = cs at *
    generalize w.objs.getD i default = x at *
    generalize bodyTo w i = body at *
    generalize tableTo w i = tab at *
    have e4 : IntKind.i64.wrap (((baseN w : Nat) : Int) + ((body.length : Nat) : Int)) = ((baseN w + body.length : Nat) : Int) := by rw [IntWalk.i64_in _ (by omega)]; omega
    have e5 := twoV_eq (n := baseN w + body.length) (by omega)
    have a1 : tab.length + (twoB (baseN w + body.length)).length < 9223372036854775808 := by simp only [twoB, List.length_cons, List.length_nil]; omega
    have a2 : body.length + (obB x).length < 9223372036854775808 := by omega
    have d6 : (7168 < (((body ++ obB x).length : Nat) : Int)) = (7168 < (bodyTo w (i + 1)).length) := propext (by rw [hbs]; omega)
    by_cases hbig : 7168 < (bodyTo w (i + 1)).length
    · simp +contextual +decide (maxSteps := 1000000) only [↓ wP, wQ, tf, Nat.reduceAdd, ne_eq, t1, t4, t5, t6, t7, hg0, f0, frN, hsl.len, hsl.idx, x1, pfC_agg, hcl, d1, hlt, e1, e2, e3, e4, e5, ew, abin_str_add a1, abin_str_add a2, d6, hbig, dresults_cell, Option.bind_some]
      rw [streamAV, if_pos (by omega)]
    · simp +contextual +decide (maxSteps := 1000000) only [↓ wP, wQ, tf, Nat.reduceAdd, ne_eq, t1, t4, t5, t6, t7, hg0, f0, frN, hsl.len, hsl.idx, x1, pfC_agg, hcl, d1, hlt, e1, e2, e3, e4, e5, ew, abin_str_add a1, abin_str_add a2, d5, d6, hbig]
      exact ⟨i + 1, by show _ - _ < _ - _; omega, _, _, _, _, rfl, by simp +decide only [↓ wval, wint, wlog, t1], by simp +decide only [↓ wval, wint, wlog, t4], by simp +decide only [↓ wval, wint, wlog, hbs], by simp +decide only [↓ wval, wint, wlog, hts], by simp +decide only [↓ wval, wint, wlog], hg0, hn, hlt, by omega⟩
  have hfull : i = w.objs.length := by omega
  subst hfull
  rw [bodyTo_all] at t5 hsz hts
  have e4 : IntKind.i64.wrap (((baseN w : Nat) : Int) + (((bodyB w).length : Nat) : Int)) = ((baseN w + (bodyB w).length : Nat) : Int) := by rw [IntWalk.i64_in _ (by omega)]; omega
  have e5 := twoV_eq (n := baseN w + (bodyB w).length) (by omega)
  have hres : streamAV w = .tuple [.str (streamB w), .bool (decide ((streamB w).length ≤ 7168))] := by rw [streamAV, if_neg (by omega)]
  have htl' := tableTo_len w (w.objs.length + 1)
  have hstr : streamB w = headB w ++ tableTo w (w.objs.length + 1) ++ bodyB w ++ numB w.tasks.length ++ w.tasks.flatMap taskB ++ numB w.outs.length ++ w.outs.flatMap outB ++ numB w.ins.length ++ w.ins.flatMap sgnB ++ numB w.used.toNat := by simp only [streamB, restB, List.append_assoc]
  have l1 := numB_len 1 w.tasks.length (by omega) (by omega)
  have l2 := numB_len 1 w.outs.length (by omega) (by omega)
  have l3 := numB_len 1 w.ins.length (by omega) (by omega)
  have l4 := numB_len 5 w.used.toNat (by have := hF.used; omega) (by omega)
  have k1 := numberV_eq (n := w.tasks.length) (by omega)
  have k2 := numberV_eq (n := w.outs.length) (by omega)
  have k3 := numberV_eq (n := w.ins.length) (by omega)
  obtain ⟨ud, hud⟩ : ∃ m : Nat, w.used = (m : Int) := ⟨w.used.toNat, by have := hF.used; omega⟩
  have k4 := numberV_eq (n := ud) (by have := hF.used; omega)
  rw [hres, hstr]
  rw [hud] at hg0 l4
  rw [hud, Int.toNat_natCast]
  rw [Int.toNat_natCast] at l4
  clear hres hstr
  have u1 : IntKind.u8.wrap ((w.objs.length : Nat) : Int) = ((w.objs.length % 256 : Nat) : Int) := u8_nat
  have hcv : ∀ {g : Nat} {d : Option ORes}, cvO (some (obg g [.int .u8 72, .int .u8 70, .int .u8 ((w.objs.length % 256 : Nat) : Int), .int .u8 0])) g 4 d = some (.val (.str (headB w))) := fun {g d} => cvO_ok (l := headB w) rfl (by intro b hb; simp only [headB, List.mem_cons, List.not_mem_nil, or_false] at hb; rcases hb with rfl | rfl | rfl | rfl <;> omega)
  have a1 : (tableTo w w.objs.length).length + (twoB (baseN w + (bodyB w).length)).length < 9223372036854775808 := by simp only [twoB, List.length_cons, List.length_nil]; omega
  have a2 : (headB w).length + (tableTo w (w.objs.length + 1)).length < 9223372036854775808 := by simp only [headB, List.length_cons, List.length_nil]; omega
  have a3 : (headB w ++ tableTo w (w.objs.length + 1)).length + (bodyB w).length < 9223372036854775808 := by simp only [headB, List.length_append, List.length_cons, List.length_nil]; omega
  have a4 : (headB w ++ tableTo w (w.objs.length + 1) ++ bodyB w).length + (numB w.tasks.length).length < 9223372036854775808 := by simp only [headB, List.length_append, List.length_cons, List.length_nil]; omega
  have hp0 : (headB w ++ tableTo w (w.objs.length + 1) ++ bodyB w ++ numB w.tasks.length).length ≤ 10000 := by simp only [headB, List.length_append, List.length_cons, List.length_nil]; omega
  have d7 : ¬ (w.objs.length < w.objs.length) := by omega
  simp +contextual +decide (maxSteps := 1000000) only [↓ wP, wQ, tf, Nat.reduceAdd, ne_eq, t1, t4, t5, t6, t7, hg0, f0, frN, d1, d7, e1, e2, e3, e4, e5, abin_str_add a1, ← hts, u1, cvC_ofBytes, hcv, Nat.reduceMul, Nat.mul_one, Nat.zero_mul, Nat.zero_add, abin_str_add a2, abin_str_add a3, s2.len, sl_stab s2, List.length_map, k1, abin_str_add a4]
  clear t4 t5 t6 t7 d1 d7 e1 e2 e3 e4 e5 a1 a2 a3 a4 hcv u1 hi
  generalize headB w ++ tableTo w (w.objs.length + 1) ++ bodyB w ++ numB w.tasks.length = p0 at *
  generalize hq1 : numB w.outs.length = q1 at *
  generalize hq2 : numB w.ins.length = q2 at *
  generalize hq3 : numB ud = q3 at *
  refine Wk_loop (fun i e => ∃ t n low ob, e = ⟨139, none, 49, t, [], ⟨n, low, ob⟩, .no⟩ ∧ t.val 1 = .ptr 0 0 0 ∧ t.val 8 = .str (p0 ++ (w.tasks.take i).flatMap taskB) ∧ t.val 9 = .int .i64 (i : Nat) ∧ ob.get 0 = some (obg 0 [os, ts, us, is, .int .i64 (ud : Nat)]) ∧ 0 < n ∧ i ≤ w.tasks.length) (fun i => w.tasks.length - i) 0
    ⟨_, _, _, _, rfl, by simp +decide only [↓ wval, wint, wlog, t1], by simp only [List.take_zero, List.flatMap_nil, List.append_nil]; simp +decide only [↓ wval], by simp +decide only [↓ wval, wint, wlog]; rfl, by simp +decide only [↓ wval, wcell, wlog, ne_eq, f0, hg0], by omega, Nat.zero_le _⟩ ?_
  clear t1 hg0 f0 hn t n low ob
  rintro i _ ⟨t, n, low, ob, rfl, t1, t8, t9, hg0, hn, hi⟩
  have f0 := frI (i := 0) (n := n) hn
  have d1 : ((i : Int) < (w.tasks.length : Nat)) = (i < w.tasks.length) := propext (by omega)
  have d3 : (0 : Int) ≤ i := by omega
  have hpl := tasks_len hF i
  by_cases hlt : i < w.tasks.length
  · have d5 := wrap_succ (i := i) (by omega)
    have hm := getD_mem (d := default) hlt
    have ht1 := task_and (hF.task _ hm) (by omega)
    have ht2 := taskB_len (hF.task _ hm) (by omega)
    have htf := take_flat (d := default) (f := taskB) hlt
    have x1 : ∀ {q : IntKind} {d : Option AV}, idxF (some 1) (w.tasks.map encI) (.int q (i : Nat)) d = some (.pf (.int .i64 (w.tasks.getD i default))) := fun {q d} => idxF_map encI_len d3 (by omega)
    generalize w.tasks.getD i default = x at *
    obtain ⟨y, rfl⟩ : ∃ y : Nat, x = (y : Int) := ⟨x.toNat, by omega⟩
    have e1 := numberV_eq (n := y) (by omega)
    have htb : taskB (y : Int) = numB y := by rw [taskB, Int.toNat_natCast]
    rw [htb] at htf ht2
    have a1 : (p0 ++ (w.tasks.take i).flatMap taskB).length + (numB y).length < 9223372036854775808 := by rw [List.length_append]; omega
    simp +contextual +decide (maxSteps := 1000000) only [↓ wP, wQ, tf, Nat.reduceAdd, ne_eq, t1, t8, t9, hg0, f0, frN, s2.len, s2.idx, x1, List.length_map, d1, hlt, e1, abin_str_add a1, d5]
    exact ⟨i + 1, by show _ - _ < _ - _; omega, _, _, _, _, rfl, by simp +decide only [↓ wval, wint, wlog, t1], by simp +decide only [↓ wval, wint, wlog, htf, List.append_assoc], by simp +decide only [↓ wval, wint, wlog], by simp +decide only [↓ wval, wcell, wlog, ne_eq, hg0, f0], by omega, hlt⟩
  have hfull : i = w.tasks.length := by omega
  subst hfull
  rw [List.take_length] at t8 hpl
  have a1 : (p0 ++ w.tasks.flatMap taskB).length + q1.length < 9223372036854775808 := by rw [List.length_append]; omega
  have hp1 : (p0 ++ w.tasks.flatMap taskB ++ q1).length ≤ 10200 := by rw [List.length_append, List.length_append]; omega
  simp +contextual +decide (maxSteps := 1000000) only [↓ wP, wQ, tf, Nat.reduceAdd, ne_eq, t1, t8, t9, hg0, f0, frN, s2.len, s3.len, List.length_map, d1, hlt, k2, abin_str_add a1]
  clear t8 t9 a1 d1 d3 hlt hi hpl k1 k2
  generalize p0 ++ w.tasks.flatMap taskB ++ q1 = p1 at *
  refine Wk_loop (fun i e => ∃ t n low ob, e = ⟨139, none, 49, t, [], ⟨n, low, ob⟩, .no⟩ ∧ t.val 1 = .ptr 0 0 0 ∧ t.val 8 = .str (p1 ++ (w.outs.take i).flatMap outB) ∧ t.val 10 = .int .i64 (i : Nat) ∧ ob.get 0 = some (obg 0 [os, ts, us, is, .int .i64 (ud : Nat)]) ∧ 0 < n ∧ i ≤ w.outs.length) (fun i => w.outs.length - i) 0
    ⟨_, _, _, _, rfl, by simp +decide only [↓ wval, wint, wlog, t1], by simp only [List.take_zero, List.flatMap_nil, List.append_nil]; simp +decide only [↓ wval], by simp +decide only [↓ wval, wint, wlog]; rfl, by simp +decide only [↓ wval, wcell, wlog, ne_eq, f0, hg0], by omega, Nat.zero_le _⟩ ?_
  clear t1 hg0 f0 hn t n low ob
  rintro i _ ⟨t, n, low, ob, rfl, t1, t8, t10, hg0, hn, hi⟩
  have f0 := frI (i := 0) (n := n) hn
  have d1 : ((i : Int) < (w.outs.length : Nat)) = (i < w.outs.length) := propext (by omega)
  have d3 : (0 : Int) ≤ i := by omega
  have hpl := outs_len hF i
  by_cases hlt : i < w.outs.length
  · have d5 := wrap_succ (i := i) (by omega)
    have hm := getD_mem (d := default) hlt
    have ht1 := outOk_and (hF.out _ hm)
    have ht2 := sgnB_len ht1.1
    have ht3 := sgnB_len ht1.2
    have htf := take_flat (d := default) (f := outB) hlt
    have x1 : ∀ {q : IntKind} {d : Option AV}, idxF (some 2) (w.outs.map valI) (.int q (i : Nat)) d = some (.pf (.agg [.int .i64 (w.outs.getD i default).1, .int .i64 (w.outs.getD i default).2])) := fun {q d} => idxF_map valI_len d3 (by omega)
    generalize w.outs.getD i default = x at *
    have e1 := signedV_eq ht1.1
    have e2 := signedV_eq ht1.2
    have htb : outB x = sgnB x.1 ++ sgnB x.2 := rfl
    rw [htb] at htf
    have a1 : (p1 ++ (w.outs.take i).flatMap outB).length + (sgnB x.1).length < 9223372036854775808 := by rw [List.length_append]; omega
    have a2 : (p1 ++ (w.outs.take i).flatMap outB ++ sgnB x.1).length + (sgnB x.2).length < 9223372036854775808 := by rw [List.length_append, List.length_append]; omega
    simp +contextual +decide (maxSteps := 1000000) only [↓ wP, wQ, tf, Nat.reduceAdd, ne_eq, t1, t8, t10, hg0, f0, frN, s3.len, s3.idx, sl_stab s3, x1, List.length_map, d1, hlt, e1, e2, abin_str_add a1, abin_str_add a2, d5]
    exact ⟨i + 1, by show _ - _ < _ - _; omega, _, _, _, _, rfl, by simp +decide only [↓ wval, wint, wlog, t1], by simp +decide only [↓ wval, wint, wlog, htf, List.append_assoc], by simp +decide only [↓ wval, wint, wlog], by simp +decide only [↓ wval, wcell, wlog, ne_eq, hg0, f0], by omega, hlt⟩
  have hfull : i = w.outs.length := by omega
  subst hfull
  rw [List.take_length] at t8 hpl
  have a1 : (p1 ++ w.outs.flatMap outB).length + q2.length < 9223372036854775808 := by rw [List.length_append]; omega
  have hp2 : (p1 ++ w.outs.flatMap outB ++ q2).length ≤ 11300 := by rw [List.length_append, List.length_append]; omega
  simp +contextual +decide (maxSteps := 1000000) only [↓ wP, wQ, tf, Nat.reduceAdd, ne_eq, t1, t8, t10, hg0, f0, frN, s4.len, s3.len, List.length_map, d1, hlt, k3, abin_str_add a1]
  clear t8 t10 a1 d1 d3 hlt hi hpl k3
  generalize p1 ++ w.outs.flatMap outB ++ q2 = p2 at *
  refine Wk_loop (fun i e => ∃ t n low ob, e = ⟨139, none, 49, t, [], ⟨n, low, ob⟩, .no⟩ ∧ t.val 1 = .ptr 0 0 0 ∧ t.val 8 = .str (p2 ++ (w.ins.take i).flatMap sgnB) ∧ t.val 11 = .int .i64 (i : Nat) ∧ ob.get 0 = some (obg 0 [os, ts, us, is, .int .i64 (ud : Nat)]) ∧ 0 < n ∧ i ≤ w.ins.length) (fun i => w.ins.length - i) 0
    ⟨_, _, _, _, rfl, by simp +decide only [↓ wval, wint, wlog, t1], by simp only [List.take_zero, List.flatMap_nil, List.append_nil]; simp +decide only [↓ wval], by simp +decide only [↓ wval, wint, wlog]; rfl, by simp +decide only [↓ wval, wcell, wlog, ne_eq, f0, hg0], by omega, Nat.zero_le _⟩ ?_
  clear t1 hg0 f0 hn t n low ob
  rintro i _ ⟨t, n, low, ob, rfl, t1, t8, t11, hg0, hn, hi⟩
  have f0 := frI (i := 0) (n := n) hn
  have d1 : ((i : Int) < (w.ins.length : Nat)) = (i < w.ins.length) := propext (by omega)
  have d3 : (0 : Int) ≤ i := by omega
  have hpl := ins_len hF i
  by_cases hlt : i < w.ins.length
  · have d5 := wrap_succ (i := i) (by omega)
    have hm := getD_mem (d := default) hlt
    have ht1 := hF.inn _ hm
    have ht2 := sgnB_len ht1
    have htf := take_flat (d := default) (f := sgnB) hlt
    have x1 : ∀ {q : IntKind} {d : Option AV}, idxF (some 1) (w.ins.map encI) (.int q (i : Nat)) d = some (.pf (.int .i64 (w.ins.getD i default))) := fun {q d} => idxF_map encI_len d3 (by omega)
    generalize w.ins.getD i default = x at *
    have e1 := signedV_eq ht1
    have a1 : (p2 ++ (w.ins.take i).flatMap sgnB).length + (sgnB x).length < 9223372036854775808 := by rw [List.length_append]; omega
    simp +contextual +decide (maxSteps := 1000000) only [↓ wP, wQ, tf, Nat.reduceAdd, ne_eq, t1, t8, t11, hg0, f0, frN, s4.len, s4.idx, x1, List.length_map, d1, hlt, e1, abin_str_add a1, d5]
    exact ⟨i + 1, by show _ - _ < _ - _; omega, _, _, _, _, rfl, by simp +decide only [↓ wval, wint, wlog, t1], by simp +decide only [↓ wval, wint, wlog, htf, List.append_assoc], by simp +decide only [↓ wval, wint, wlog], by simp +decide only [↓ wval, wcell, wlog, ne_eq, hg0, f0], by omega, hlt⟩
  have hfull : i = w.ins.length := by omega
  subst hfull
  rw [List.take_length] at t8 hpl
  have a1 : (p2 ++ w.ins.flatMap sgnB).length + q3.length < 9223372036854775808 := by rw [List.length_append]; omega
  have d6 : ((((p2 ++ w.ins.flatMap sgnB ++ q3).length : Nat) : Int) ≤ 7168) = ((p2 ++ w.ins.flatMap sgnB ++ q3).length ≤ 7168) := propext (by omega)
  simp +contextual +decide (maxSteps := 1000000) only [↓ wP, wQ, tf, Nat.reduceAdd, ne_eq, t1, t8, t11, hg0, f0, frN, s4.len, List.length_map, d1, hlt, k4, abin_str_add a1, d6, dresults_cell, Option.bind_some]
end
end Go.Proofs.YtajngkkihadgfaaGreat
/-
  The program of images: its writer writes what a world has beside its objects.
-/
namespace Go.Proofs.YtajngkkihadgfaaGreat
open Go.Abs Go Go.Abs.TryzF
noncomputable section
set_option maxRecDepth 10000
theorem dcall_first {P : Program} {O : Orc} {n : Nat} {g : FuncId} {first cap args : List AV} {s : Sto} {r : ARec} : dcall P O n (.func (.func g) first cap) args s r = dcall P O n (.func (.func g) [] []) (first ++ args ++ cap) s r := by
  cases n with
  | zero => rfl
  | succ n => simp only [dcall, oget, atarget, List.nil_append, List.append_nil]
theorem RetW.first {P : Program} {O : Orc} {g : FuncId} {first cap args : List AV} {n low : Nat} {o : Tr AObj} {w a : Nat} {bs : List Nat} (h : RetW P O (.func (.func g) [] []) (first ++ args ++ cap) n low o w a bs) : RetW P O (.func (.func g) first cap) args n low o w a bs := by
  obtain ⟨n', low', o', a', h1, h2, h3, k, rr, h4⟩ := h
  exact ⟨n', low', o', a', h1, h2, h3, k, rr, by rw [dcall_first]; exact h4⟩
theorem orcK_ofC {P : Program} {O : Orc} {g : FuncId} {first cap args : List AV} {s : Sto} {K : CRes → Prop} (h : Wcall P O (.func (.func g) first cap) args s K) : orcK (O g (first ++ args ++ cap) s) K (Wrun P O (.func (.func g) first cap) args s K) := Wcall_func.1 h
set_option maxHeartbeats 1000000 in
theorem listU_run {O : Orc} (ho : ∀ a σ, O 108 a σ = none) (ho' : ∀ a σ, O 109 a σ = none) (n0 low0 : Nat) (o0 : Tr AObj) (w a0 : Nat) (bs : List Nat) (hw : WBo n0 o0 w a0 bs) (g : FuncId) (first cap : List AV)
    (av : AV) (xs : List AV) (ha : Sl av xs) (m : Nat) (hlen : xs.length = m) (c : Nat → List AV) (hix : ∀ i, i < m → ∀ {q : IntKind} {d : Option AV}, idxF (some 2) xs (.int q (i : Nat)) d = some (.pf (.agg (c i)))) (hcl : ∀ i, i < m → (c i).length = 2) (hcc : ∀ i, i < m → (c i).all AV.isCell = true)
    (B : Nat → List Nat) (hb : (bs ++ numB m ++ (List.range m).flatMap B).length ≤ wmax)
    (h : ∀ i, i < m → ∀ n low o a bs', WBo n o w a bs' → FrW n0 o0 w a0 n o a → (bs' ++ B i).length ≤ wmax → RetW Tryz.prog O (.func (.func g) first cap) [.agg (c i)] n low o w a (bs' ++ B i)) :
    RetW Tryz.prog O (.func (.func 109) [] []) [.ptr w 0 0, av, .func (.func g) first cap] n0 low0 o0 w a0 (bs ++ numB m ++ (List.range m).flatMap B) := by
  have hw' := hw.1
  have hll := ha.2
  refine RetW.run (first := []) (args := [.ptr w 0 0, av, .func (.func g) first cap]) (cap := []) noHint (ho' _ _) (by kernel_rfl) Tryz.func109 Tryz.ntmps109 Tryz.results109 rfl rfl hw' ?_
  show Wk _ _ _ _ ⟨22, none, 109, Tr.leaf.lay 0 [.ptr w 0 0, av, .func (.func g) first cap], [], ⟨n0, n0, o0⟩, .no⟩ _
  simp +contextual +decide (maxSteps := 1000000) only [↓ wP, wQ, tf, Nat.reduceAdd, ne_eq, ha.len, hlen, ho, orcK_none]
  refine wrunOf (ho _ _) ((plain_run ho n0 n0 o0 w a0 bs m (by omega) (by rw [List.length_append] at hb; rw [← List.length_append]; omega) hw).wcall fun n1 low1 o1 a1 hl1 hw1 hf1 => ?_)
  rw [callK_put]
  show putK _ _ _ _ _ _ _ (.val' _ ⟨n1, low1, o1⟩)
  simp +contextual +decide (maxSteps := 1000000) only [↓ wP, wQ, tf, Nat.reduceAdd, ne_eq, ha.len, hlen]
  refine Wk_loop (fun i e => ∃ t n low o a, e = ⟨22, none, 109, t, [], ⟨n, low, o⟩, .no⟩ ∧ t.val 2 = .func (.func g) first cap ∧ t.val 12 = av ∧ t.val 13 = .int .i64 (m : Nat) ∧ t.val 14 = .int .i64 (i : Nat) ∧ i ≤ m ∧ low ≤ w ∧ WBo n o w a (bs ++ numB m ++ (List.range i).flatMap B) ∧ FrW n0 o0 w a0 n o a) (fun i => m - i) 0
    ⟨_, n1, low1, o1, a1, rfl, by simp +decide only [↓ wval, wint, wlog], by simp +decide only [↓ wval, wint, wlog], by simp +decide only [↓ wval, wint, wlog], by simp +decide only [↓ wval, wint, wlog]; rfl, Nat.zero_le _, hl1, by simpa using hw1, hf1⟩ ?_
  rintro i _ ⟨t, n, low, o, a, rfl, t2, t12, t13, t14, hi, hlow, hwi, hfi⟩
  by_cases hlt : i < m
  · have d1 : ((i : Int) < (m : Nat)) = True := eq_true (by omega)
    have d5 := wrap_succ (i := i) (by omega)
    have x1 := fun {q d} => hix i hlt (q := q) (d := d)
    have x2 := hcl i hlt
    have x3 := hcc i hlt
    have x4 := h i hlt
    have hz : 0 + 2 ≤ (c i).length := by omega
    have hsl : lslice (c i) 0 2 = c i := by unfold lslice; rw [List.drop_zero, List.take_of_length_le (by omega)]
    have hrs : (List.range (i + 1)).flatMap B = (List.range i).flatMap B ++ B i := by rw [List.range_succ, List.flatMap_append]; simp
    have hle : (bs ++ numB m ++ (List.range i).flatMap B ++ B i).length ≤ wmax := by
      have : ((List.range (i + 1)).flatMap B).length ≤ ((List.range m).flatMap B).length := by
        obtain ⟨k, rfl⟩ := Nat.exists_eq_add_of_le (show i + 1 ≤ m from hlt)
        rw [@List.range_add (i + 1) k, List.flatMap_append, List.length_append]; omega
      rw [hrs] at this
      simp only [List.length_append] at hb this ⊢; omega
    generalize c i = cs at *
    have f1 := frI hwi.1
    have f2 := frI hwi.2.1
    simp +contextual +decide (maxSteps := 1000000) only [↓ wP, wQ, tf, Nat.reduceAdd, ne_eq, ha.idx, t2, t12, t13, t14, d1, x1, pfC_agg, x2, x3, hz, hsl, frN]
    have hwi' : WBo (n + 1) ((o.set n (obg 0 [.int .i64 0, .int .i64 0])).set n (obg 0 cs)) w a (bs ++ numB m ++ (List.range i).flatMap B) := by
      obtain ⟨q1, q2, q3⟩ := hwi
      refine ⟨by omega, by omega, ?_⟩
      rcases q3 with ⟨k1, k2, k3⟩ | ⟨k1, g', k2, k3, k4⟩
      · exact .inl ⟨k1, by rw [Tr.get_set_ne _ _ (by omega), Tr.get_set_ne _ _ (by omega)]; exact k2, k3⟩
      · exact .inr ⟨k1, g', by rw [Tr.get_set_ne _ _ (by omega), Tr.get_set_ne _ _ (by omega)]; exact k2, by rw [Tr.get_set_ne _ _ (by omega), Tr.get_set_ne _ _ (by omega)]; exact k3, k4⟩
    refine orcK_ofC ((x4 (n + 1) _ _ a _ hwi' (hfi.trans ⟨by omega, .inl rfl, fun id q1 _ _ => by rw [Tr.get_set_ne _ _ (by omega), Tr.get_set_ne _ _ (by omega)]⟩) hle).wcall fun n2 low2 o2 a2 hl2 hw2 hf2 => ?_)
    rw [callK_put]
    show putK _ _ _ _ _ _ _ (.val' _ ⟨n2, low2, o2⟩)
    simp +contextual +decide (maxSteps := 1000000) only [↓ wP, wQ, tf, Nat.reduceAdd, ne_eq, t14, d5]
    refine ⟨i + 1, by show _ - _ < _ - _; omega, _, n2, low2, o2, a2, rfl, by simp +decide only [↓ wval, wint, wlog, t2], by simp +decide only [↓ wval, wint, wlog, t12], by simp +decide only [↓ wval, wint, wlog, t13], by simp +decide only [↓ wval, wint, wlog], hlt, hl2, by rw [hrs, ← List.append_assoc]; exact hw2, hfi.trans ⟨?_, ?_, fun id q1 q2 q3 => ?_⟩⟩
    · have := hf2.1; omega
    · have := hf2.2.1; omega
    · rw [hf2.2.2 id (by omega) q2 q3, Tr.get_set_ne _ _ (by omega), Tr.get_set_ne _ _ (by omega)]
  · have : i = m := by omega
    subst this
    have d1 : (((i : Nat) : Int) < (i : Nat)) = False := eq_false (by omega)
    simp +contextual +decide (maxSteps := 1000000) only [↓ wP, wQ, tf, Nat.reduceAdd, ne_eq, t2, t12, t13, t14, d1, endW_n]
    exact ⟨a, hlow, hwi, hfi⟩
set_option maxHeartbeats 1000000 in
theorem listI_run {O : Orc} (ho : ∀ a σ, O 108 a σ = none) (ho' : ∀ a σ, O 107 a σ = none) (n0 low0 : Nat) (o0 : Tr AObj) (w a0 : Nat) (bs : List Nat) (hw : WBo n0 o0 w a0 bs) (g : FuncId) (first cap : List AV)
    (av : AV) (xs : List AV) (ha : Sl av xs) (m : Nat) (hlen : xs.length = m) (c : Nat → AV) (hix : ∀ i, i < m → ∀ {q : IntKind} {d : Option AV}, idxF (some 1) xs (.int q (i : Nat)) d = some (.pf (c i))) (hcl : ∀ i, i < m → (c i).isCell = true)
    (B : Nat → List Nat) (hb : (bs ++ numB m ++ (List.range m).flatMap B).length ≤ wmax)
    (h : ∀ i, i < m → ∀ n low o a bs', WBo n o w a bs' → FrW n0 o0 w a0 n o a → (bs' ++ B i).length ≤ wmax → RetW Tryz.prog O (.func (.func g) first cap) [c i] n low o w a (bs' ++ B i)) :
    RetW Tryz.prog O (.func (.func 107) [] []) [.ptr w 0 0, av, .func (.func g) first cap] n0 low0 o0 w a0 (bs ++ numB m ++ (List.range m).flatMap B) := by
  have hw' := hw.1
  have hll := ha.2
  refine RetW.run (first := []) (args := [.ptr w 0 0, av, .func (.func g) first cap]) (cap := []) noHint (ho' _ _) (by kernel_rfl) Tryz.func107 Tryz.ntmps107 Tryz.results107 rfl rfl hw' ?_
  show Wk _ _ _ _ ⟨22, none, 107, Tr.leaf.lay 0 [.ptr w 0 0, av, .func (.func g) first cap], [], ⟨n0, n0, o0⟩, .no⟩ _
  simp +contextual +decide (maxSteps := 1000000) only [↓ wP, wQ, tf, Nat.reduceAdd, ne_eq, ha.len, hlen, ho, orcK_none]
  refine wrunOf (ho _ _) ((plain_run ho n0 n0 o0 w a0 bs m (by omega) (by rw [List.length_append] at hb; rw [← List.length_append]; omega) hw).wcall fun n1 low1 o1 a1 hl1 hw1 hf1 => ?_)
  rw [callK_put]
  show putK _ _ _ _ _ _ _ (.val' _ ⟨n1, low1, o1⟩)
  simp +contextual +decide (maxSteps := 1000000) only [↓ wP, wQ, tf, Nat.reduceAdd, ne_eq, ha.len, hlen]
  refine Wk_loop (fun i e => ∃ t n low o a, e = ⟨22, none, 107, t, [], ⟨n, low, o⟩, .no⟩ ∧ t.val 2 = .func (.func g) first cap ∧ t.val 12 = av ∧ t.val 13 = .int .i64 (m : Nat) ∧ t.val 14 = .int .i64 (i : Nat) ∧ i ≤ m ∧ low ≤ w ∧ WBo n o w a (bs ++ numB m ++ (List.range i).flatMap B) ∧ FrW n0 o0 w a0 n o a) (fun i => m - i) 0
    ⟨_, n1, low1, o1, a1, rfl, by simp +decide only [↓ wval, wint, wlog], by simp +decide only [↓ wval, wint, wlog], by simp +decide only [↓ wval, wint, wlog], by simp +decide only [↓ wval, wint, wlog]; rfl, Nat.zero_le _, hl1, by simpa using hw1, hf1⟩ ?_
  rintro i _ ⟨t, n, low, o, a, rfl, t2, t12, t13, t14, hi, hlow, hwi, hfi⟩
  by_cases hlt : i < m
  · have d1 : ((i : Int) < (m : Nat)) = True := eq_true (by omega)
    have d5 := wrap_succ (i := i) (by omega)
    have x1 := fun {q d} => hix i hlt (q := q) (d := d)
    have x2 := hcl i hlt
    have x4 := h i hlt
    have hrs : (List.range (i + 1)).flatMap B = (List.range i).flatMap B ++ B i := by rw [List.range_succ, List.flatMap_append]; simp
    have hle : (bs ++ numB m ++ (List.range i).flatMap B ++ B i).length ≤ wmax := by
      have : ((List.range (i + 1)).flatMap B).length ≤ ((List.range m).flatMap B).length := by
        obtain ⟨k, rfl⟩ := Nat.exists_eq_add_of_le (show i + 1 ≤ m from hlt)
        rw [@List.range_add (i + 1) k, List.flatMap_append, List.length_append]; omega
      rw [hrs] at this
      simp only [List.length_append] at hb this ⊢; omega
    generalize c i = cs at *
    have f1 := frI hwi.1
    have f2 := frI hwi.2.1
    simp +contextual +decide (maxSteps := 1000000) only [↓ wP, wQ, tf, Nat.reduceAdd, ne_eq, ha.idx, t2, t12, t13, t14, d1, x1, x2, frN]
    refine orcK_ofC ((x4 n _ _ a _ hwi hfi hle).wcall fun n2 low2 o2 a2 hl2 hw2 hf2 => ?_)
    rw [callK_put]
    show putK _ _ _ _ _ _ _ (.val' _ ⟨n2, low2, o2⟩)
    simp +contextual +decide (maxSteps := 1000000) only [↓ wP, wQ, tf, Nat.reduceAdd, ne_eq, t14, d5]
    refine ⟨i + 1, by show _ - _ < _ - _; omega, _, n2, low2, o2, a2, rfl, by simp +decide only [↓ wval, wint, wlog, t2], by simp +decide only [↓ wval, wint, wlog, t12], by simp +decide only [↓ wval, wint, wlog, t13], by simp +decide only [↓ wval, wint, wlog], hlt, hl2, by rw [hrs, ← List.append_assoc]; exact hw2, hfi.trans hf2⟩
  · have : i = m := by omega
    subst this
    have d1 : (((i : Nat) : Int) < (i : Nat)) = False := eq_false (by omega)
    simp +contextual +decide (maxSteps := 1000000) only [↓ wP, wQ, tf, Nat.reduceAdd, ne_eq, t2, t12, t13, t14, d1, endW_n]
    exact ⟨a, hlow, hwi, hfi⟩
abbrev ONw (O : Orc) : Prop := ON O ∧ (∀ a σ, O 107 a σ = none) ∧ (∀ a σ, O 109 a σ = none) ∧ (∀ a σ, O 116 a σ = none ∨ True) ∧ (∀ a σ, O 46 a σ = none) ∧ (∀ a σ, O 110 a σ = none)
set_option maxHeartbeats 1000000 in
theorem rest1_run {O : Orc} (ho : ONw O) (n0 low0 : Nat) (o0 : Tr AObj) (w a0 : Nat) (bs : List Nat) (v : Val) (hv : outOk v = true) (hb : (bs ++ outB v).length ≤ wmax) (hw : WBo n0 o0 w a0 bs) (c : Nat) (hc : o0.get c = some (obg 0 [.ptr w 0 0])) (hcn : c < n0) (hcw : c ≠ w) (hca : c ≠ a0) :
    RetW Tryz.prog O (.func (.func 110) [] [.ptr c 0 0]) [valI v] n0 low0 o0 w a0 (bs ++ outB v) := by
  have hwn := hw.1
  have han := hw.2.1
  obtain ⟨k1, k2⟩ := outOk_and hv
  obtain ⟨k, m⟩ := v
  have hob : bs ++ outB (k, m) = bs ++ sgnB k ++ sgnB m := by rw [outB, List.append_assoc]
  rw [hob] at hb ⊢
  have hb1 : (bs ++ sgnB k).length ≤ wmax := by rw [List.length_append] at hb; omega
  refine RetW.run (first := []) (args := [valI (k, m)]) (cap := [.ptr c 0 0]) noHint (ho.2.2.2.2.2 _ _) (by kernel_rfl) Tryz.func110 Tryz.ntmps110 Tryz.results110 rfl rfl hwn ?_
  show Wk _ _ _ _ ⟨11, none, 110, Tr.leaf.lay 0 [.agg [.int .i64 k, .int .i64 m], .ptr c 0 0], [], ⟨n0, n0, o0⟩, .no⟩ _
  have f1 := frI hwn
  have f2 := frI hcn
  simp +contextual +decide (maxSteps := 1000000) only [↓ wP, wQ, tf, Nat.reduceAdd, ne_eq, hc, f1, f2, frN, ho.1.2.1, orcK_none]
  have hw0 : WBo (n0 + 1) (o0.set n0 (obg 0 [.int .i64 k, .int .i64 m])) w a0 bs := by
    obtain ⟨q1, q2, q3⟩ := hw
    refine ⟨by omega, by omega, ?_⟩
    rcases q3 with ⟨k1, k2, k3⟩ | ⟨k1, g', k2, k3, k4⟩
    · exact .inl ⟨k1, by rw [Tr.get_set_ne _ _ (by omega)]; exact k2, k3⟩
    · exact .inr ⟨k1, g', by rw [Tr.get_set_ne _ _ (by omega)]; exact k2, by rw [Tr.get_set_ne _ _ (by omega)]; exact k3, k4⟩
  refine wrunOf (ho.1.2.1 _ _) ((signed_run ho.1.1 ho.1.2.1 (n0 + 1) _ _ w a0 bs k k1 hb1 hw0).wcall fun n1 low1 o1 a1 hl1 hw1 hf1 => ?_)
  rw [callK_put]
  show putK _ _ _ _ _ _ _ (.val' _ ⟨n1, low1, o1⟩)
  have g1 : o1.get n0 = some (obg 0 [.int .i64 k, .int .i64 m]) := by rw [hf1.2.2 n0 (by omega) (by omega) (by omega), Tr.get_set_same]
  have g2 : o1.get c = some (obg 0 [.ptr w 0 0]) := by rw [hf1.2.2 c (by omega) hcw hca, Tr.get_set_ne _ _ (by omega)]; exact hc
  have h1 := hf1.1
  have h2 := hf1.2.1
  have f3 := frI (show n0 < n1 by omega)
  have f4 := frI (show c < n1 by omega)
  simp +contextual +decide (maxSteps := 1000000) only [↓ wP, wQ, tf, Nat.reduceAdd, ne_eq, g1, g2, f3, f4, ho.1.2.1, orcK_none]
  refine wrunOf (ho.1.2.1 _ _) ((signed_run ho.1.1 ho.1.2.1 n1 _ _ w a1 (bs ++ sgnB k) m k2 hb hw1).wcall fun n2 low2 o2 a2 hl2 hw2 hf2 => ?_)
  rw [callK_put]
  show putK _ _ _ _ _ _ _ (.val' _ ⟨n2, low2, o2⟩)
  simp +contextual +decide (maxSteps := 1000000) only [↓ wP, wQ, tf, Nat.reduceAdd, ne_eq, endW_n]
  refine ⟨a2, hl2, hw2, ?_, ?_, fun id p1 p2 p3 => ?_⟩
  · have := hf2.1; omega
  · have := hf2.2.1; omega
  · rw [hf2.2.2 id (by omega) p2 (by omega), hf1.2.2 id (by omega) p2 p3, Tr.get_set_ne _ _ (by omega)]
theorem FrW.get {n n' w a a' : Nat} {o o' : Tr AObj} (h : FrW n o w a n' o' a') {c : Nat} (h1 : c < n) (h2 : c ≠ w) (h3 : c ≠ a) {x : AObj} (hc : o.get c = some x) : o'.get c = some x := by rw [h.2.2 c h1 h2 h3]; exact hc
set_option maxHeartbeats 2000000 in
theorem rest_run {O : Orc} (ho : ONw O) (n0 low0 : Nat) (o0 : Tr AObj) (w a0 : Nat) (bs : List Nat) (hw : WBo n0 o0 w a0 bs) (av : AV) (x : Wd) (hx : decWd av = some x) (hok : WdF x) (hb : (bs ++ restB x).length ≤ wmax) :
    RetW Tryz.prog O (.func (.func 46) [] []) [.ptr w 0 0, av] n0 low0 o0 w a0 (bs ++ restB x) := by
  obtain ⟨os, ts, us, is, rfl, h1, h2, h3, h4, c1, c2, c3, c4⟩ := wd_cells hx
  have s2 := decInts_sl h2
  have s3 := decVals_sl h3
  have s4 := decInts_sl h4
  have hwn := hw.1
  have han := hw.2.1
  obtain ⟨ud, hud⟩ : ∃ m : Nat, x.used = (m : Int) := ⟨x.used.toNat, by have := hok.used; omega⟩
  have hrb : bs ++ restB x = bs ++ numB x.tasks.length ++ x.tasks.flatMap taskB ++ numB x.outs.length ++ x.outs.flatMap outB ++ numB x.ins.length ++ x.ins.flatMap sgnB ++ numB ud := by simp only [restB, List.append_assoc, hud, Int.toNat_natCast]
  rw [hrb] at hb ⊢
  have hb3 : (bs ++ numB x.tasks.length ++ x.tasks.flatMap taskB ++ numB x.outs.length ++ x.outs.flatMap outB ++ numB x.ins.length ++ x.ins.flatMap sgnB).length ≤ wmax := by rw [List.length_append] at hb; omega
  have hb2 : (bs ++ numB x.tasks.length ++ x.tasks.flatMap taskB ++ numB x.outs.length ++ x.outs.flatMap outB).length ≤ wmax := by rw [List.length_append, List.length_append] at hb3; omega
  have hb1 : (bs ++ numB x.tasks.length ++ x.tasks.flatMap taskB).length ≤ wmax := by rw [List.length_append, List.length_append] at hb2; omega
  refine RetW.run (first := []) (args := [.ptr w 0 0, .agg [os, ts, us, is, .int .i64 x.used]]) (cap := []) noHint (ho.2.2.2.2.1 _ _) (by kernel_rfl) Tryz.func46 Tryz.ntmps46 Tryz.results46 rfl rfl hwn ?_
  show Wk _ _ _ _ ⟨25, none, 46, Tr.leaf.lay 0 [.ptr w 0 0, .agg [os, ts, us, is, .int .i64 x.used]], [], ⟨n0, n0, o0⟩, .no⟩ _
  rw [hud]
  have f1 := frI hwn
  simp +contextual +decide (maxSteps := 1000000) only [↓ wP, wQ, tf, Nat.reduceAdd, ne_eq, c1, c2, c3, c4, f1, frN, ho.2.1, orcK_none]
  have hw0 : WBo (n0 + 1 + 1) ((o0.set n0 (obg 0 [.ptr w 0 0])).set (n0 + 1) (obg 0 [os, ts, us, is, .int .i64 (ud : Nat)])) w a0 bs := by
    obtain ⟨q1, q2, q3⟩ := hw
    refine ⟨by omega, by omega, ?_⟩
    rcases q3 with ⟨k1, k2, k3⟩ | ⟨k1, g', k2, k3, k4⟩
    · exact .inl ⟨k1, by rw [Tr.get_set_ne _ _ (by omega), Tr.get_set_ne _ _ (by omega)]; exact k2, k3⟩
    · exact .inr ⟨k1, g', by rw [Tr.get_set_ne _ _ (by omega), Tr.get_set_ne _ _ (by omega)]; exact k2, by rw [Tr.get_set_ne _ _ (by omega), Tr.get_set_ne _ _ (by omega)]; exact k3, k4⟩
  have ft := flat_range x.tasks taskB
  have fu := flat_range x.outs outB
  have fi := flat_range x.ins sgnB
  have r1 := listI_run ho.1.1 ho.2.1 (n0 + 1 + 1) n0 _ w a0 bs hw0 108 [.ptr w 0 0] [] ts _ s2 x.tasks.length (by simp) (fun i => encI (x.tasks.getD i default)) (fun i hi {q d} => ints_cells i hi) (fun i hi => rfl) (fun i => taskB (x.tasks.getD i default)) (by rw [ft]; exact hb1)
    (fun i hi n low o a bs' hw' hf' hb' => by
      have ht := task_and (hok.task _ (getD_mem (d := default) hi)) (by have := hok.objs; omega)
      generalize x.tasks.getD i default = y at *
      obtain ⟨z, rfl⟩ : ∃ z : Nat, y = (z : Int) := ⟨y.toNat, by omega⟩
      rw [taskB, Int.toNat_natCast] at hb' ⊢
      exact RetW.first (plain_run (O := O) ho.1.1 n low o w a bs' z (by omega) (by rw [List.length_append] at hb'; exact hb') hw'))
  rw [ft] at r1
  refine wrunOf (ho.2.1 _ _) (r1.wcall fun n1 low1 o1 a1 hl1 hw1 hf1 => ?_)
  rw [callK_put]
  show putK _ _ _ _ _ _ _ (.val' _ ⟨n1, low1, o1⟩)
  have g1 : o1.get n0 = some (obg 0 [.ptr w 0 0]) := hf1.get (by omega) (by omega) (by omega) (by rw [Tr.get_set_ne _ _ (by omega), Tr.get_set_same])
  have g1' : o1.get (n0 + 1) = some (obg 0 [os, ts, us, is, .int .i64 (ud : Nat)]) := hf1.get (by omega) (by omega) (by omega) (by rw [Tr.get_set_same])
  have u1 := hf1.1
  have v1 := hf1.2.1
  have f2 := frI (show n0 < n1 by omega)
  have f3 := frI (show n0 + 1 < n1 by omega)
  simp +contextual +decide (maxSteps := 1000000) only [↓ wP, wQ, tf, Nat.reduceAdd, ne_eq, g1, g1', f2, f3, ho.2.2.1, orcK_none]
  have r2 := listU_run ho.1.1 ho.2.2.1 n1 low1 o1 w a1 _ hw1 110 [] [.ptr n0 0 0] us _ s3 x.outs.length (by simp) (fun i => valC (x.outs.getD i default)) (fun i hi {q d} => outs_cells h3 i hi) (fun _ _ => rfl) (fun _ _ => rfl) (fun i => outB (x.outs.getD i default)) (by rw [fu]; exact hb2)
    (fun i hi n low o a bs' hw' hf' hb' => rest1_run ho n low o w a bs' _ (hok.out _ (getD_mem (d := default) hi)) hb' hw' n0 (hf'.get (by omega) (by omega) (by omega) g1) (by have := hf'.1; omega) (by omega) (by have := hf'.2.1; omega))
  rw [fu] at r2
  refine wrunOf (ho.2.2.1 _ _) (r2.wcall fun n2 low2 o2 a2 hl2 hw2 hf2 => ?_)
  rw [callK_put]
  show putK _ _ _ _ _ _ _ (.val' _ ⟨n2, low2, o2⟩)
  have g2 : o2.get n0 = some (obg 0 [.ptr w 0 0]) := hf2.get (by omega) (by omega) (by omega) g1
  have g2' : o2.get (n0 + 1) = some (obg 0 [os, ts, us, is, .int .i64 (ud : Nat)]) := hf2.get (by omega) (by omega) (by omega) g1'
  have u2 := hf2.1
  have v2 := hf2.2.1
  have f4 := frI (show n0 < n2 by omega)
  have f5 := frI (show n0 + 1 < n2 by omega)
  simp +contextual +decide (maxSteps := 1000000) only [↓ wP, wQ, tf, Nat.reduceAdd, ne_eq, g2, g2', f4, f5, ho.2.1, orcK_none]
  have r3 := listI_run ho.1.1 ho.2.1 n2 low2 o2 w a2 _ hw2 83 [.ptr w 0 0] [] is _ s4 x.ins.length (by simp) (fun i => encI (x.ins.getD i default)) (fun i hi {q d} => ints_cells i hi) (fun i hi => rfl) (fun i => sgnB (x.ins.getD i default)) (by rw [fi]; exact hb3)
    (fun i hi n low o a bs' hw' hf' hb' => RetW.first (signed_run (O := O) ho.1.1 ho.1.2.1 n low o w a bs' _ (hok.inn _ (getD_mem (d := default) hi)) hb' hw'))
  rw [fi] at r3
  refine wrunOf (ho.2.1 _ _) (r3.wcall fun n3 low3 o3 a3 hl3 hw3 hf3 => ?_)
  rw [callK_put]
  show putK _ _ _ _ _ _ _ (.val' _ ⟨n3, low3, o3⟩)
  have g3 : o3.get n0 = some (obg 0 [.ptr w 0 0]) := hf3.get (by omega) (by omega) (by omega) g2
  have g3' : o3.get (n0 + 1) = some (obg 0 [os, ts, us, is, .int .i64 (ud : Nat)]) := hf3.get (by omega) (by omega) (by omega) g2'
  have u3 := hf3.1
  have v3 := hf3.2.1
  have f6 := frI (show n0 < n3 by omega)
  have f7 := frI (show n0 + 1 < n3 by omega)
  simp +contextual +decide (maxSteps := 1000000) only [↓ wP, wQ, tf, Nat.reduceAdd, ne_eq, g3, g3', f6, f7, ho.1.1, orcK_none]
  refine wrunOf (ho.1.1 _ _) ((plain_run ho.1.1 n3 low3 o3 w a3 _ ud (by have := hok.used; omega) (by rw [List.length_append] at hb; exact hb) hw3).wcall fun n4 low4 o4 a4 hl4 hw4 hf4 => ?_)
  rw [callK_put]
  show putK _ _ _ _ _ _ _ (.val' _ ⟨n4, low4, o4⟩)
  simp +contextual +decide (maxSteps := 1000000) only [↓ wP, wQ, tf, Nat.reduceAdd, ne_eq, endW_n]
  have hall := ((hf1.trans hf2).trans hf3).trans hf4
  refine ⟨a4, hl4, hw4, ?_, ?_, fun id p1 p2 p3 => ?_⟩
  · have := hall.1; omega
  · have := hall.2.1; omega
  · rw [hall.2.2 id (by omega) p2 p3, Tr.get_set_ne _ _ (by omega), Tr.get_set_ne _ _ (by omega)]
end
end Go.Proofs.YtajngkkihadgfaaGreat
/-
  The program of images: the pages of a stream.
-/
namespace Go.Proofs.YtajngkkihadgfaaGreat
open Go.Abs Go Go.Abs.TryzF
noncomputable section
set_option maxRecDepth 10000
def BAcc (n0 n : Nat) (o : Tr AObj) (v : AV) (bs : List Nat) : Prop := (bs = [] ∧ v = .nils) ∨ (bs ≠ [] ∧ ∃ id g, v = .sl id g 0 bs.length (.room 1) ∧ o.get id = some (obg g (bs.map encB)) ∧ n0 ≤ id ∧ id < n)
theorem splice_map {α β : Type} (f : α → β) (l m : List α) (off : Nat) : splice (l.map f) off (m.map f) = (splice l off m).map f := by simp [splice, List.map_take, List.map_drop]
theorem take_lslice {α : Type} (l : List α) (i n : Nat) : lslice l i n = (l.drop i).take n := rfl
theorem pad_splice {l : List Nat} {i : Nat} : splice (List.replicate 32 0) 0 (lslice l (28 * i) (Nat.min (l.length - 28 * i) 28)) = pad28 (l.drop (28 * i)) ++ [0, 0, 0, 0] := by
  have h1 : (lslice l (28 * i) (Nat.min (l.length - 28 * i) 28)) = (l.drop (28 * i)).take 28 := by
    rw [take_lslice]
    rcases Nat.lt_or_ge (l.length - 28 * i) 28 with h | h
    · rw [show Nat.min (l.length - 28 * i) 28 = l.length - 28 * i from Nat.min_eq_left (by omega), List.take_of_length_le (by rw [List.length_drop]; omega), List.take_of_length_le (by rw [List.length_drop]; omega)]
    · rw [show Nat.min (l.length - 28 * i) 28 = 28 from Nat.min_eq_right h]
  rw [h1]
  simp only [splice, List.take_zero, List.nil_append, pad28, Nat.zero_add, List.drop_replicate, List.length_take, List.length_drop, List.append_assoc]
  congr 1
  rw [show ([0, 0, 0, 0] : List Nat) = List.replicate 4 0 from rfl, List.replicate_append_replicate]
  congr 1; omega
theorem ck_splice {p c : List Nat} (hp : p.length = 28) (hc : c.length = 4) : splice (p ++ [0, 0, 0, 0]) 28 c = p ++ c := by
  simp only [splice, List.append_assoc]
  rw [List.take_append_of_le_length (by omega), List.take_of_length_le (by omega), List.drop_of_length_le (by simp; omega), List.append_nil]
abbrev CkO (O : Orc) : Prop := ∀ (p : List Nat) (n : Nat) (σ : Sto), p.length = 32 → By p → n < 4611686018427387904 → O 111 [.agg (p.map encB), .int .i64 (n : Nat)] σ = some (.ret (.agg ((check n p).map encB)) none)
set_option maxHeartbeats 1000000 in
theorem paged_run {O : Orc} (ho : CkO O) (ho' : ∀ a σ, O 47 a σ = none) (l : List Nat) (hb : By l) (hl : l.length < 1099511627776) (s : Sto) (id g : Nat) (hs : s.get id = some (obg g (l.map encB))) : RetS Tryz.prog O (.func (.func 47) [] []) [.sl id g 0 l.length (.room 1)] s (.str (pagedB l)) := by
  refine RetS.run (first := []) (args := [.sl id g 0 l.length (.room 1)]) (cap := []) noHint (ho' _ _) (by kernel_rfl) Tryz.func47 Tryz.ntmps47 Tryz.results47 rfl rfl ?_
  obtain ⟨n0, low0, o0⟩ := s
  have hidn : id < n0 := Sto.get_lt hs
  rw [Sto.get_mk hidn] at hs
  show Wk _ _ _ _ ⟨31, none, 47, Tr.leaf.lay 0 [.sl id g 0 l.length (.room 1)], [], ⟨n0, n0, o0⟩, .no⟩ _
  simp +contextual +decide (maxSteps := 1000000) only [↓ wP, wQ, tf, Nat.reduceAdd, ne_eq]
  refine Wk_loop (fun i e => ∃ t n low o v, e = ⟨31, none, 47, t, [], ⟨n, low, o⟩, .no⟩ ∧ t.val 0 = .sl id g 0 l.length (.room 1) ∧ t.val 3 = v ∧ t.val 4 = .int .i64 (i : Nat) ∧ i ≤ pagesN l ∧ BAcc n0 n o v (pagedTo l i) ∧ n0 ≤ n ∧ ∀ id, id < n0 → o.get id = o0.get id) (fun i => pagesN l - i) 0
    ⟨_, _, _, _, .nils, rfl, by simp +decide only [↓ wval, wint, wlog], by simp +decide only [↓ wval, wint, wlog], by simp +decide only [↓ wval, wint, wlog]; rfl, Nat.zero_le _, .inl ⟨rfl, rfl⟩, Nat.le_refl _, fun _ _ => rfl⟩ ?_
  rintro i _ ⟨t, n, low, o, v, rfl, t0, t3, t4, hi, hv, hn, hoth⟩
  have hil : 28 * i ≤ l.length + 27 := by unfold pagesN at hi; omega
  have e1 : IntKind.i64.wrap ((i : Int) * 28) = ((28 * i : Nat) : Int) := by rw [IntWalk.i64_in _ (by omega)]; omega
  have d1 : (((28 * i : Nat) : Int) < (l.length : Nat)) = (i < pagesN l) := propext (by unfold pagesN; omega)
  by_cases hlt : i < pagesN l
  · have hgi : o.get id = some (obg g (l.map encB)) := by rw [hoth id hidn]; exact hs
    have f1 := frI (show id < n by omega)
    have d2 : (0 : Int) ≤ ((28 * i : Nat) : Int) := by omega
    have d3 : 28 * i < l.length := by unfold pagesN at hlt; omega
    have d4 : ((28 * i : Nat) : Int) < (l.length : Nat) := by omega
    have d5 := wrap_succ (i := i) (by omega)
    have hP := pad28_len (l.drop (28 * i))
    have hPb : By (pad28 (l.drop (28 * i))) := pad28_by fun b hb' => hb b (List.mem_of_mem_drop hb')
    have hps := pad_splice (l := l) (i := i)
    have hck := check_by' i _ hP (by omega)
    have hpg : pgB l i = pad28 (l.drop (28 * i)) ++ check i (pad28 (l.drop (28 * i))) := rfl
    have hsucc := pagedTo_succ l i
    have hplen := pagedTo_len l i
    generalize pad28 (l.drop (28 * i)) = P at *
    have hp32 : (P ++ [0, 0, 0, 0]).length = 32 := by simp [hP]
    have hp32b : By (P ++ [0, 0, 0, 0]) := by_append hPb (by intro b hb'; simp at hb'; omega)
    have hc32 : check i (P ++ [0, 0, 0, 0]) = check i P := by
      have : (P ++ [0, 0, 0, 0]).take 28 = P.take 28 := by rw [List.take_append_of_le_length (by omega)]
      simp only [check, this]
    have hcs := ck_splice (c := check i P) hP rfl
    have hcall := fun σ => ho (P ++ [0, 0, 0, 0]) i σ hp32 hp32b (by omega)
    rw [hc32] at hcall
    have hcp1 : ∀ (lo : Nat) (o' : Tr AObj), o'.get n = some (obg 0 (List.replicate 32 (.int .u8 0))) → o'.get id = some (obg g (l.map encB)) → abuiltin Tryz.prog ⟨n + 1, lo, o'⟩ .copy #[53, 53] [.sl n 0 0 28 (.is 32), .sl id g (28 * i) (l.length - 28 * i) (.room 1)] = some (.val' (.int .i64 ((Nat.min (l.length - 28 * i) 28 : Nat) : Int)) ⟨n + 1, Nat.min n lo, o'.set n (obg 0 ((P ++ [0, 0, 0, 0]).map encB))⟩) := by
      intro lo o' g1 g2
      rw [copy_ok (g := 0) (g' := g) (cs := (List.replicate 32 0).map encB) (cs' := l.map encB) (by kernel_rfl) (by rw [Sto.get_mk (by omega)]; exact g1) (by rw [Sto.get_mk (by omega)]; exact g2) (by rw [List.length_map, List.length_replicate]; exact Nat.le_trans (Nat.le_of_eq (Nat.zero_add _)) (Nat.le_trans (Nat.min_le_right _ _) (by decide))) (by rw [List.length_map]; exact Nat.le_trans (Nat.add_le_add_left (Nat.min_le_left _ _) _) (by omega)) (by rw [lslice_map]; exact encB_all _), lslice_map, splice_map, hps, Sto.put_any]
    have hcp2 : ∀ (lo : Nat) (o' : Tr AObj), o'.get n = some (obg 0 ((P ++ [0, 0, 0, 0]).map encB)) → o'.get (n + 1) = some (obg 0 ((check i P).map encB)) → abuiltin Tryz.prog ⟨n + 1 + 1, lo, o'⟩ .copy #[53, 53] [.sl n 0 28 4 (.is 4), .sl (n + 1) 0 0 4 (.is 4)] = some (.val' (.int .i64 4) ⟨n + 1 + 1, Nat.min n lo, o'.set n (obg 0 ((P ++ check i P).map encB))⟩) := by
      intro lo o' g1 g2
      rw [copy_ok (g := 0) (g' := 0) (cs := (P ++ [0, 0, 0, 0]).map encB) (cs' := (check i P).map encB) (by kernel_rfl) (by rw [Sto.get_mk (by omega)]; exact g1) (by rw [Sto.get_mk (by omega)]; exact g2) (by rw [List.length_map, hp32]; decide) (by rw [List.length_map, check_len]; decide) (by rw [lslice_map]; exact encB_all _), lslice_map, show lslice (check i P) 0 (Nat.min 4 4) = check i P from rfl, splice_map, hcs, Sto.put_any]
      rfl
    have hPc : (P ++ check i P).length = 32 := by simp [hP, check_len]
    have hPm : 32 = ((P ++ check i P).map encB).length := by rw [List.length_map, hPc]
    have hYl : ((P ++ check i P).map encB).length = 32 := by rw [List.length_map, hPc]
    have hcel : ((P ++ check i P).map encB).all AV.isCell = true := encB_all _
    have hp32m : ((P ++ [0, 0, 0, 0]).map encB).length = 32 := by rw [List.length_map, hp32]
    have hlsl : lslice ((P ++ [0, 0, 0, 0]).map encB) 0 32 = (P ++ [0, 0, 0, 0]).map encB := lslice_all (by rw [hp32m])
    have hlsl2 : lslice ((P ++ check i P).map encB) 0 32 = (P ++ check i P).map encB := lslice_all hPm
    have hz32 : 0 + 32 ≤ ((P ++ [0, 0, 0, 0]).map encB).length := by omega
    have hz32' : 0 + 32 ≤ ((P ++ check i P).map encB).length := by omega
    have hckm : ((check i P).map encB).length = 4 := rfl
    have hckc : ((check i P).map encB).all AV.isCell = true := encB_all _
    generalize hX : (P ++ [0, 0, 0, 0]).map encB = X at *
    generalize hY : (P ++ check i P).map encB = Y at *
    generalize hZ : (check i P).map encB = Z at *
    have hsmall : (2 * ((pagedTo l i).length + 32) + 1024) ≤ 281474976710656 ∧ (pagedTo l i).length + 32 < 4611686018427387904 := ⟨by omega, by omega⟩
    rcases hv with ⟨hL, rfl⟩ | ⟨hL, ia, ga, rfl, hia, hia0, hian⟩
    · simp +contextual +decide (maxSteps := 1000000) only [↓ wP, wQ, tf, Nat.reduceAdd, ne_eq, t0, t3, t4, e1, d1, hlt, f1, frN, hgi, d2, d4, d5, aslice_tsl, slR_lo, Int.toNat_natCast, Int.reduceToNat, Nat.mul_one, Nat.zero_add, Nat.reduceMul, Nat.reduceAdd, Nat.reduceSub, rep_all, hcp1, hcp2, hcall, hp32m, hlsl, hz32, hckm, hckc, hz32', hlsl2, hcel, rep_len]
      rw [hL, List.nil_append] at hsucc
      refine ⟨i + 1, by show _ - _ < _ - _; omega, _, n + 1 + 1 + 1, _, _, .sl (n + 1 + 1) 0 0 32 (.room 1), rfl, by simp +decide only [↓ wval, wint, wlog, t0], by simp +decide only [↓ wval, wint, wlog], by simp +decide only [↓ wval, wint, wlog], hlt, .inr ⟨?_, n + 1 + 1, 0, ?_, ?_, by omega, by omega⟩, by omega, fun id' h1 => ?_⟩
      · rw [hsucc, hpg]; intro h; rw [h] at hPc; cases hPc
      · rw [hsucc, hpg, hPc]
      · rw [hsucc, hpg, hY]; simp +contextual +decide (maxSteps := 1000000) only [↓ wP, wQ, tf, Nat.reduceAdd, ne_eq, frN]
      · have f5 := frI (show id' < n by omega)
        rw [← hoth id' h1]
        simp +decide only [↓ wval, f5, ne_eq]
    · have f3 := frI hian
      have f4 : ia ≠ id ∧ id ≠ ia := ⟨by omega, by omega⟩
      have hal : ((pagedTo l i).map encB).length = (pagedTo l i).length := List.length_map _
      simp +contextual +decide (maxSteps := 1000000) only [↓ wP, wQ, tf, Nat.reduceAdd, ne_eq, t0, t3, t4, e1, d1, hlt, f1, f3, f4, frN, hgi, hia, d2, d4, d5, aslice_tsl, slR_lo, Int.toNat_natCast, Int.reduceToNat, Nat.mul_one, Nat.zero_add, Nat.reduceMul, Nat.reduceAdd, Nat.reduceSub, rep_all, hcp1, hcp2, hcall, hp32m, hlsl, hz32, hckm, hckc, hz32', hlsl2, hcel, rep_len, hYl, hal, hsmall]
      refine ⟨i + 1, by show _ - _ < _ - _; omega, _, n + 1 + 1, _, _, .sl ia (ga + 1) 0 ((pagedTo l i).length + 32) (.room 1), rfl, by simp +decide only [↓ wval, wint, wlog, t0], by simp +decide only [↓ wval, wint, wlog], by simp +decide only [↓ wval, wint, wlog], hlt, .inr ⟨?_, ia, ga + 1, ?_, ?_, by omega, by omega⟩, by omega, fun id' h1 => ?_⟩
      · rw [hsucc, hpg]; intro h; have := (List.append_eq_nil_iff.1 h).2; rw [this] at hPc; cases hPc
      · rw [hsucc, hpg, List.length_append, hPc]
      · rw [hsucc, hpg, List.map_append, hY]; simp +contextual +decide (maxSteps := 1000000) only [↓ wP, wQ, tf, Nat.reduceAdd, ne_eq, f3, frN]
      · have f5 := frI (show id' < n by omega)
        have f6 : id' ≠ ia := by omega
        rw [← hoth id' h1]
        simp +decide only [↓ wval, f5, f6, ne_eq]
  · have : i = pagesN l := by omega
    subst this
    have hby : By (pagedTo l (pagesN l)) := pagedTo_by hb (by unfold pagesN; omega)
    rcases hv with ⟨hL, rfl⟩ | ⟨hL, ia, ga, rfl, hia, hia0, hian⟩
    · have hcv : ∀ {d : Option ORes}, cvC (some .ofBytes) ⟨n, low, o⟩ .nils d = some (.val (.str [])) := fun {d} => rfl
      simp +contextual +decide (maxSteps := 1000000) only [↓ wP, wQ, tf, Nat.reduceAdd, ne_eq, t0, t3, t4, e1, d1, hlt, aconv_t, hcv, endS_ret]
      exact ⟨by rw [pagedB, hL], sim_mk hn hoth⟩
    · have f3 := frI hian
      have hcv : ∀ {d : Option ORes}, cvO (some (obg ga ((pagedTo l (pagesN l)).map encB))) ga (pagedTo l (pagesN l)).length d = some (.val (.str (pagedTo l (pagesN l)))) := fun {d} => cvO_ok rfl hby
      simp +contextual +decide (maxSteps := 1000000) only [↓ wP, wQ, tf, Nat.reduceAdd, ne_eq, t0, t3, t4, e1, d1, hlt, f3, hia, cvC_ofBytes, hcv, endS_ret]
      exact ⟨rfl, sim_mk hn hoth⟩
end
end Go.Proofs.YtajngkkihadgfaaGreat
/-
  Images: the image of a world, by the reference and by the program.
-/
namespace Go.Proofs.YtajngkkihadgfaaGreat
open Go.Abs Go Go.Abs.TryzF
noncomputable section
set_option maxRecDepth 10000
def saveO (w : Wd) : List Nat × Nat := if wdOk w = true then (if (streamB w).length ≤ 7168 then (pagedB (streamB w), 0) else ([], 3)) else ([], 2)
def saveA (w : Wd) : AV := .tuple [.str (saveO w).1, .int .i64 ((saveO w).2 : Nat)]
def SaveV : List AV → Option AV
  | [a] => (decWd a).map saveA
  | _ => none
theorem SaveV_eq {a : AV} {w : Wd} (h : decWd a = some w) : SaveV [a] = some (saveA w) := by simp [SaveV, h]
theorem und_saveA {w : Wd} : Und 0 (saveA w) := und_se
theorem streamB_by (w : Wd) : By (streamB w) := by
  refine by_append (by_append (by_append ?_ (tableTo_by w _)) (by_flat obB_by)) (by_append (by_append (by_append (by_append (numB_by _) (by_flat fun _ => numB_by _)) (by_append (numB_by _) (by_flat fun _ => by_append (numB_by _) (numB_by _)))) (by_append (numB_by _) (by_flat fun _ => numB_by _))) (numB_by _))
  intro b hb
  simp only [headB, List.mem_cons, List.not_mem_nil, or_false] at hb
  rcases hb with rfl | rfl | rfl | rfl <;> omega
theorem streamB_ge (w : Wd) : (bodyB w).length ≤ (streamB w).length := by simp only [streamB, List.length_append]; omega
theorem streamAV_eq (w : Wd) : streamAV w = if 7168 < (bodyB w).length then .tuple [.str [], .bool false] else .tuple [.str (streamB w), .bool (decide ((streamB w).length ≤ 7168))] := rfl
abbrev LSv : List Ent := [ent 48 FormedV, ent 49 rstreamV, ent 50 rpagedV]
theorem rSave_ok : Abs.Ok Tryz.prog 16 SaveV := by
  intro args v hg
  match args, hg with
  | [a], hg =>
    obtain ⟨w, hw, rfl⟩ := Option.map_eq_some_iff.1 hg
    have hund := (under_wd hw).und
    have e1 := FormedV_eq hw
    have e2 := fun h => rstreamV_eq hw h
    obtain ⟨os, ts, us, is, rfl, h1, h2, h3, h4, c1, c2, c3, c4⟩ := wd_cells hw
    refine returns_wk (L := LSv) (elist_cons rFormed_ok.ent (elist_cons rstream_ok.ent (elist_cons rpaged_ok.ent elist_nil))) noHint (by kernel_rfl) Tryz.func16 Tryz.ntmps16 Tryz.results16 rfl rfl (und_all_cons hund und_all_nil) und_saveA ?_
    cases k : wdOk w with
    | false =>
      simp +contextual +decide (maxSteps := 1000000) only [↓ wP, wQ, tf, Nat.reduceAdd, ne_eq, c1, c2, c3, c4, e1, k]
      rw [saveA, saveO, if_neg (by rw [k]; decide)]; rfl
    | true =>
      have e2 := e2 k
      have hsA := streamAV_eq w
      have hge := streamB_ge w
      by_cases hb : 7168 < (bodyB w).length
      · rw [if_pos hb] at hsA
        rw [hsA] at e2
        simp +contextual +decide (maxSteps := 1000000) only [↓ wP, wQ, tf, Nat.reduceAdd, ne_eq, c1, c2, c3, c4, e1, k, e2]
        rw [saveA, saveO, if_pos k, if_neg (by omega)]; rfl
      · rw [if_neg hb] at hsA
        rw [hsA] at e2
        by_cases hl : (streamB w).length ≤ 7168
        · have e3 := rpagedV_eq (s := streamB w) (by omega) (streamB_by w)
          simp +contextual +decide (maxSteps := 1000000) only [↓ wP, wQ, tf, Nat.reduceAdd, ne_eq, c1, c2, c3, c4, e1, k, e2, hl, e3]
          rw [saveA, saveO, if_pos k, if_pos hl]; rfl
        · simp +contextual +decide (maxSteps := 1000000) only [↓ wP, wQ, tf, Nat.reduceAdd, ne_eq, c1, c2, c3, c4, e1, k, e2, hl]
          rw [saveA, saveO, if_pos k, if_neg hl]; rfl
abbrev Pg32 := { x : List Nat × Nat // x.1.length = 32 ∧ By x.1 ∧ x.2 < 4611686018427387904 }
abbrev pgArgs (x : Pg32) : List AV := [.agg (x.1.1.map encB), .int .i64 (x.1.2 : Nat)]
theorem pg_inj {V : Nat → List Nat → AV} : ∀ i j : Pg32, pgArgs i = pgArgs j → V i.1.2 i.1.1 = V j.1.2 j.1.1 := by
  rintro ⟨⟨p, n⟩, _⟩ ⟨⟨q, m⟩, _⟩ h
  simp only [pgArgs, List.cons.injEq, AV.agg.injEq, AV.int.injEq, and_true, true_and] at h
  have h1 := encB_inj' h.1
  have h2 : n = m := by omega
  subst h1; subst h2; rfl
abbrev entCk : Ent := entF 111 pgArgs fun x => .agg ((check x.1.2 x.1.1).map encB)
theorem entCk_ok : ESound Tryz.prog entCk := entF_ok fun x => check_ok x.1.1 x.1.2 x.2.1 x.2.2.1 x.2.2.2
theorem entCk_same {L : List Ent} (p : List Nat) (n : Nat) (σ : Sto) (h1 : p.length = 32) (h2 : By p) (h3 : n < 4611686018427387904) : orcL (entCk :: L) 111 [.agg (p.map encB), .int .i64 (n : Nat)] σ = some (.ret (.agg ((check n p).map encB)) none) :=
  entF_same (A := pgArgs) (V := fun x => .agg ((check x.1.2 x.1.1).map encB)) (pg_inj (V := fun n p => .agg ((check n p).map encB))) ⟨(p, n), h1, h2, h3⟩
abbrev LSp : List Ent := [entCk, ent 45 FormedV]
theorem LSp_none {f : FuncId} (h1 : f ≠ 111) (h2 : f ≠ 45) (a : List AV) (σ : Sto) : orcL LSp f a σ = none := (entF_ne (Ne.symm h1)).trans ((ent_ne (Ne.symm h2)).trans rfl)
def placesTo (w : Wd) (i : Nat) : List Nat := (List.range (i + 1)).map fun j => baseN w + (bodyTo w j).length
theorem placesTo_len (w : Wd) (i : Nat) : (placesTo w i).length = i + 1 := by simp [placesTo]
theorem placesTo_succ (w : Wd) (i : Nat) : placesTo w (i + 1) = placesTo w i ++ [baseN w + (bodyTo w (i + 1)).length] := by simp only [placesTo, List.range_succ, List.map_append]; rfl
theorem placesTo_0 (w : Wd) (i : Nat) : (placesTo w i)[0]? = some (baseN w) := by
  simp [placesTo, bodyTo]
theorem WBo.mono {n n' : Nat} {o o' : Tr AObj} {w a : Nat} {bs : List Nat} (h : WBo n o w a bs) (hn : n ≤ n') (h1 : o'.get w = o.get w) (h2 : o'.get a = o.get a) : WBo n' o' w a bs := by
  obtain ⟨q1, q2, q3⟩ := h
  refine ⟨by omega, by omega, ?_⟩
  rcases q3 with ⟨k1, k2, k3⟩ | ⟨k1, g', k2, k3, k4⟩
  · exact .inl ⟨k1, by rw [h1]; exact k2, k3⟩
  · exact .inr ⟨k1, g', by rw [h1]; exact k2, by rw [h2]; exact k3, k4⟩
theorem WBo.some {n : Nat} {o : Tr AObj} {w a : Nat} {bs : List Nat} (h : WBo n o w a bs) (hb : bs ≠ []) : ∃ g, o.get w = .some (obg 0 [.sl a g 0 bs.length (.room 1)]) ∧ o.get a = .some (obg g (bs.map encB)) ∧ a ≠ w ∧ a < n ∧ w < n := by
  obtain ⟨q1, q2, q3⟩ := h
  rcases q3 with ⟨k1, _⟩ | ⟨_, g', k2, k3, k4⟩
  · exact absurd k1 hb
  · exact ⟨g', k2, k3, k4, q2, q1⟩
def PlAcc (n : Nat) (o : Tr AObj) (a : Nat) (v : AV) (l : List Nat) : Prop := ∃ id g cap, v = .sl id g 0 l.length cap ∧ o.get id = some (obg g (l.map encN)) ∧ 1 < id ∧ id < n ∧ id ≠ a ∧ (cap = .room 1 ∨ cap = .is l.length)
theorem placesTo_get (w : Wd) {i j : Nat} (h : j ≤ i) : (placesTo w i)[j]? = some (baseN w + (bodyTo w j).length) := by
  rw [placesTo, List.getElem?_map, List.getElem?_range (by omega)]; rfl
def StAcc (n1 n : Nat) (o : Tr AObj) (v : AV) (l : List Nat) : Prop := ∃ id g cap, v = .sl id g 0 l.length cap ∧ o.get id = some (obg g (l.map encB)) ∧ n1 ≤ id ∧ id < n ∧ (cap = .room 1 ∨ cap = .is l.length)
set_option maxHeartbeats 4000000 in
theorem Save_ok : Abs.Ok Tryz.prog 15 SaveV := by
  intro args v hg
  match args, hg with
  | [a], hg =>
    obtain ⟨w, hw, rfl⟩ := Option.map_eq_some_iff.1 hg
    have hund := (under_wd hw).und
    have e1 := FormedV_eq hw
    have hw0 := hw
    obtain ⟨os, ts, us, is, rfl, h1, h2, h3, h4, c1, c2, c3, c4⟩ := wd_cells hw
    obtain ⟨xs, c, hsl, hlen, hat⟩ := obs_cells h1
    refine returns_wk (L := LSp) (elist_cons entCk_ok (elist_cons stored_ok.ent elist_nil)) noHint (by kernel_rfl) Tryz.func15 Tryz.ntmps15 Tryz.results15 rfl rfl (und_all_cons hund und_all_nil) und_saveA ?_
    have hst : ∀ σ, orcL LSp 45 [.agg [os, ts, us, is, .int .i64 w.used]] σ = some (.ret (.bool (wdOk w)) none) := fun σ => (entF_ne (by decide)).trans (ent_same.trans (congrArg (Option.map _) e1))
    cases k : wdOk w with
    | false =>
      rw [k] at hst
      simp +contextual +decide (maxSteps := 1000000) only [↓ wP, wQ, tf, Nat.reduceAdd, ne_eq, c1, c2, c3, c4, hst]
      rw [saveA, saveO, if_neg (by rw [k]; decide)]; rfl
    | true =>
    rw [k] at hst
    have hF := wdF k
    have b1 := hF.objs
    have q1 : IntKind.i64.wrap (((w.objs.length : Nat) : Int) + 1) = ((w.objs.length + 1 : Nat) : Int) := wrap_succ (by omega)
    have q2 : IntKind.i64.wrap (2 * ((w.objs.length + 1 : Nat) : Int)) = ((2 * (w.objs.length + 1) : Nat) : Int) := by rw [IntWalk.i64_in _ (by omega)]; omega
    have q3 : IntKind.i64.wrap (4 + ((2 * (w.objs.length + 1) : Nat) : Int)) = ((baseN w : Nat) : Int) := by rw [IntWalk.i64_in _ (by omega), baseN]; omega
    have hbase : baseN w ≤ 250 := by unfold baseN; omega
    have hON : ON (orcL LSp) := ⟨LSp_none (by decide) (by decide), LSp_none (by decide) (by decide), LSp_none (by decide) (by decide), LSp_none (by decide) (by decide), LSp_none (by decide) (by decide), LSp_none (by decide) (by decide), LSp_none (by decide) (by decide)⟩
    have hONw : ONw (orcL LSp) := ⟨hON, LSp_none (by decide) (by decide), LSp_none (by decide) (by decide), fun _ _ => .inr trivial, LSp_none (by decide) (by decide), LSp_none (by decide) (by decide)⟩
    simp +contextual +decide (maxSteps := 1000000) only [↓ wP, wQ, tf, Nat.reduceAdd, ne_eq, c1, c2, c3, c4, hst, hsl.len, hlen, q1, q2, q3, Nat.reduceMul, Nat.mul_one, Nat.zero_mul, Nat.zero_add]
    refine Wk_loop (fun i e => ∃ t n low o v a, e = ⟨76, none, 15, t, [], ⟨n, low, o⟩, .no⟩ ∧ t.val 1 = .ptr 0 0 0 ∧ t.val 4 = .ptr 1 0 0 ∧ t.val 5 = v ∧ t.val 22 = os ∧ t.val 23 = .int .i64 (w.objs.length : Nat) ∧ t.val 24 = .int .i64 (i : Nat) ∧ i ≤ w.objs.length ∧ o.get 0 = some (obg 0 [os, ts, us, is, .int .i64 w.used]) ∧ 2 < n ∧ WBo n o 1 a (bodyTo w i) ∧ a ≠ 0 ∧ PlAcc n o a v (placesTo w i)) (fun i => w.objs.length - i) 0
      ⟨_, 3, _, _, .sl 2 0 0 1 (.is 1), 1, rfl, by simp +decide only [↓ wval, wint, wlog], by simp +decide only [↓ wval, wint, wlog], by simp +decide only [↓ wval, wint, wlog], by simp +decide only [↓ wval, wint, wlog], by simp +decide only [↓ wval, wint, wlog], by simp +decide only [↓ wval, wint, wlog]; rfl, Nat.zero_le _, by simp +decide only [↓ wval, wcell, wlog, ne_eq], by omega, ⟨by omega, by omega, .inl ⟨rfl, by simp +decide only [↓ wval, wcell, wlog, ne_eq], rfl⟩⟩, by omega, 2, 0, _, rfl, by simp +decide only [↓ wval, wcell, wlog, ne_eq]; rfl, by omega, by omega, by omega, .inr rfl⟩ ?_
    rintro i _ ⟨t, n, low, o, v, a, rfl, t1, t4, t5, t22, t23, t24, hi, g0, hn, hW, ha0, id, g, cap, rfl, hid, hid1, hidn, hida, hcap⟩
    have d1 : ((i : Int) < (w.objs.length : Nat)) = (i < w.objs.length) := propext (by omega)
    have f0 := frI (show 0 < n by omega)
    have f1 := frI (show 1 < n by omega)
    have f2 := frI hidn
    have hpl := placesTo_len w i
    by_cases hlt : i < w.objs.length
    · have d5 := wrap_succ (i := i) (by omega)
      have hm := getD_mem (d := default) hlt
      obtain ⟨hix, hcl, hcc, hdec⟩ := hat i hlt
      have x1 := fun {q d} => hix (q := q) (d := d)
      have hobk := (hF.ob _ hm).1
      have hbs := bodyTo_succ hlt
      have hbl := body_len hF (i + 1)
      have hps := placesTo_succ w i
      have hp0 := placesTo_0 w i
      generalize c i = cs at *
      generalize w.objs.getD i default = x at *
      have hz : 0 + 4 ≤ cs.length := by omega
      have hls : lslice cs 0 4 = cs := by unfold lslice; rw [List.drop_zero, List.take_of_length_le (by omega)]
      simp +contextual +decide (maxSteps := 1000000) only [↓ wP, wQ, tf, Nat.reduceAdd, ne_eq, t1, t4, t5, t22, t23, t24, d1, hlt, hsl.idx, x1, pfC_agg, hcl, hcc, hz, hls, frN, hON.2.2.2.2.2.2, orcK_none]
      have hW1 : WBo (n + 1) ((o.set n (obg 0 [.int .i64 0, .int .i64 0, .nils, .nils])).set n (obg 0 cs)) 1 a (bodyTo w i) := hW.mono (by omega) (by rw [Tr.get_set_ne _ _ (by omega), Tr.get_set_ne _ _ (by omega)]) (by have := hW.2.1; rw [Tr.get_set_ne _ _ (by omega), Tr.get_set_ne _ _ (by omega)])
      have han := hW.2.1
      refine wrunOf (hON.2.2.2.2.2.2 _ _) ((object_run hON (n + 1) _ _ 1 a (bodyTo w i) hW1 _ x hdec hobk (by rw [← hbs]; unfold wmax; omega)).wcall fun n1 low1 o1 a1 hl1 hw1 hf1 => ?_)
      rw [callK_put]
      show putK _ _ _ _ _ _ _ (.val' _ ⟨n1, low1, o1⟩)
      rw [← hbs] at hw1
      have hu1 := hf1.1
      have hv1 := hf1.2.1
      have hne : bodyTo w (i + 1) ≠ [] := by rw [hbs]; simp [obB]
      obtain ⟨g1, r1, r2, r3, r4, r5⟩ := hw1.some hne
      have hid' : o1.get id = some (obg g ((placesTo w i).map encN)) := hf1.get (by omega) (by omega) hida (by rw [Tr.get_set_ne _ _ (by omega), Tr.get_set_ne _ _ (by omega)]; exact hid)
      have g0' : o1.get 0 = some (obg 0 [os, ts, us, is, .int .i64 w.used]) := hf1.get (by omega) (by omega) (Ne.symm ha0) (by rw [Tr.get_set_ne _ _ (by omega), Tr.get_set_ne _ _ (by omega)]; exact g0)
      have f3 := frI (show id < n1 by omega)
      have f4 := frI (show 1 < n1 by omega)
      have f5 := frI r4
      have hida1 : id ≠ a1 := by omega
      have q4 : IntKind.i64.wrap (((baseN w : Nat) : Int) + (((bodyTo w (i + 1)).length : Nat) : Int)) = ((baseN w + (bodyTo w (i + 1)).length : Nat) : Int) := by rw [IntWalk.i64_in _ (by omega)]; omega
      have x4 : ((placesTo w i).map encN)[0]? = some (.int .i64 (baseN w : Nat)) := by rw [List.getElem?_map, hp0]; rfl
      have x5 : ((0 : Int) < ((i + 1 : Nat) : Int)) = True := eq_true (by omega)
      have x6 : ((placesTo w i).map encN).length = i + 1 := by rw [List.length_map, hpl]
      have x7 : ((placesTo w i).map encN).all AV.isCell = true := by simp only [List.all_eq_true, List.mem_map]; rintro x ⟨b, _, rfl⟩; rfl
      have x8 : i + 1 < i + 1 + 1 := by omega
      have hsmall : (2 * (i + 1 + 1) + 1024) * 8 ≤ 281474976710656 ∧ i + 1 + 1 < 4611686018427387904 := ⟨by omega, by omega⟩
      have hmap : ((placesTo w (i + 1)).map encN) = (placesTo w i).map encN ++ [.int .i64 ((baseN w + (bodyTo w (i + 1)).length : Nat) : Int)] := by rw [hps, List.map_append]; rfl
      have hpl' := placesTo_len w (i + 1)
      rw [hpl] at hcap
      have hX : 1 ≠ id ∧ id ≠ 1 ∧ a1 ≠ id ∧ id ≠ a1 ∧ 0 ≠ id ∧ a1 ≠ 0 := ⟨by omega, by omega, by omega, by omega, by omega, by omega⟩
      rcases hcap with rfl | rfl
      · simp +contextual +decide (maxSteps := 1000000) only [↓ wP, wQ, tf, Nat.reduceAdd, ne_eq, t1, t4, t5, t22, t23, t24, hpl, x5, x4, x6, x7, x8, hid', r1, f3, f4, f5, frN, q4, d5, hsmall, apF_is, apG_obg, Nat.reduceMul, Nat.mul_one, Nat.zero_mul, Nat.zero_add, Int.reduceToNat]
        refine ⟨i + 1, by show _ - _ < _ - _; omega, _, n1 + 1, _, _, .sl id (g + 1) 0 (i + 1 + 1) (.room 1), a1, rfl, by simp +decide only [↓ wval, wint, wlog, t1], by simp +decide only [↓ wval, wint, wlog, t4], by simp +decide only [↓ wval, wint, wlog], by simp +decide only [↓ wval, wint, wlog, t22], by simp +decide only [↓ wval, wint, wlog, t23], by simp +decide only [↓ wval, wint, wlog], hlt, ?_, by omega, hw1.mono (by omega) ?_ ?_, hX.2.2.2.2.2, id, g + 1, .room 1, ?_, ?_, by omega, by omega, hida1, .inl rfl⟩
        · simp +contextual +decide (maxSteps := 1000000) only [↓ wP, wQ, tf, Nat.reduceAdd, ne_eq, frN, hX, g0', frI (show 0 < n1 by omega)]
        · simp +contextual +decide (maxSteps := 1000000) only [↓ wP, wQ, tf, Nat.reduceAdd, ne_eq, f4, hX]
        · simp +contextual +decide (maxSteps := 1000000) only [↓ wP, wQ, tf, Nat.reduceAdd, ne_eq, f5, hX]
        · rw [hpl']
        · rw [hmap]; simp +contextual +decide (maxSteps := 1000000) only [↓ wP, wQ, tf, Nat.reduceAdd, ne_eq, f3, frN]
      · simp +contextual +decide (maxSteps := 1000000) only [↓ wP, wQ, tf, Nat.reduceAdd, ne_eq, t1, t4, t5, t22, t23, t24, hpl, x5, x4, x6, x7, x8, hid', r1, f3, f4, f5, frN, q4, d5, hsmall, apF_is, apG_obg, Nat.reduceMul, Nat.mul_one, Nat.zero_mul, Nat.zero_add, Int.reduceToNat]
        refine ⟨i + 1, by show _ - _ < _ - _; omega, _, n1 + 1 + 1, _, _, .sl (n1 + 1) 0 0 (i + 1 + 1) (.room 1), a1, rfl, by simp +decide only [↓ wval, wint, wlog, t1], by simp +decide only [↓ wval, wint, wlog, t4], by simp +decide only [↓ wval, wint, wlog], by simp +decide only [↓ wval, wint, wlog, t22], by simp +decide only [↓ wval, wint, wlog, t23], by simp +decide only [↓ wval, wint, wlog], hlt, ?_, by omega, hw1.mono (by omega) ?_ ?_, hX.2.2.2.2.2, n1 + 1, 0, .room 1, ?_, ?_, by omega, by omega, by omega, .inl rfl⟩
        · simp +contextual +decide (maxSteps := 1000000) only [↓ wP, wQ, tf, Nat.reduceAdd, ne_eq, frN, hX, g0', frI (show 0 < n1 by omega)]
        · simp +contextual +decide (maxSteps := 1000000) only [↓ wP, wQ, tf, Nat.reduceAdd, ne_eq, f4, hX]
        · simp +contextual +decide (maxSteps := 1000000) only [↓ wP, wQ, tf, Nat.reduceAdd, ne_eq, f5, hX]
        · rw [hpl']
        · rw [hmap]; simp +contextual +decide (maxSteps := 1000000) only [↓ wP, wQ, tf, Nat.reduceAdd, ne_eq, f3, frN]
    have hfull : i = w.objs.length := by omega
    subst hfull
    rw [bodyTo_all] at hW
    have hrl : (restB w).length ≤ 2000 := by
      have := numB_len 1 w.tasks.length (by have := hF.tasks; omega) (by omega)
      have := numB_len 1 w.outs.length (by have := hF.outs; omega) (by omega)
      have := numB_len 1 w.ins.length (by have := hF.ins; omega) (by omega)
      have := numB_len 5 w.used.toNat (by have := hF.used; omega) (by omega)
      have q1 := tasks_len hF w.tasks.length
      have q2 := outs_len hF w.outs.length
      have q3 := ins_len hF w.ins.length
      rw [List.take_length] at q1 q2 q3
      simp only [restB, List.length_append]; omega
    have hbl := body_len hF w.objs.length
    rw [bodyTo_all] at hbl
    simp +contextual +decide (maxSteps := 1000000) only [↓ wP, wQ, tf, Nat.reduceAdd, ne_eq, t1, t4, t5, t22, t23, t24, d1, hlt, f0, g0, c1, c2, c3, c4, hONw.2.2.2.2.1, orcK_none]
    refine wrunOf (hONw.2.2.2.2.1 _ _) ((rest_run hONw n low o 1 a (bodyB w) hW _ w hw0 hF (by rw [List.length_append]; unfold wmax; omega)).wcall fun n1 low1 o1 a1 hl1 hw1 hf1 => ?_)
    rw [callK_put]
    show putK _ _ _ _ _ _ _ (.val' _ ⟨n1, low1, o1⟩)
    have hu1 := hf1.1
    have hv1 := hf1.2.1
    have hne : bodyB w ++ restB w ≠ [] := by
      intro h
      have := (List.append_eq_nil_iff.1 h).2
      have h' := congrArg List.length this
      have := numB_pos w.tasks.length
      simp only [restB, List.length_append, List.length_nil] at h'; omega
    obtain ⟨g1, r1, r2, r3, r4, r5⟩ := hw1.some hne
    have hid' : o1.get id = some (obg g ((placesTo w w.objs.length).map encN)) := hf1.get (by omega) (by omega) hida hid
    have g0' : o1.get 0 = some (obg 0 [os, ts, us, is, .int .i64 w.used]) := hf1.get (by omega) (by omega) (Ne.symm ha0) g0
    have f3 := frI (show id < n1 by omega)
    have f4 := frI (show 1 < n1 by omega)
    have f5 := frI r4
    have f6 := frI (show 0 < n1 by omega)
    have hp0 := placesTo_0 w w.objs.length
    have x4 : ((placesTo w w.objs.length).map encN)[0]? = some (.int .i64 (baseN w : Nat)) := by rw [List.getElem?_map, hp0]; rfl
    have x5 : ((0 : Int) < ((w.objs.length + 1 : Nat) : Int)) = True := eq_true (by omega)
    have hsl2 : (streamB w).length = baseN w + (bodyB w ++ restB w).length := by
      have := tableTo_len w (w.objs.length + 1)
      simp only [streamB, headB, baseN, List.length_append, List.length_cons, List.length_nil] at this ⊢; omega
    have q4 : IntKind.i64.wrap (((baseN w : Nat) : Int) + (((bodyB w ++ restB w).length : Nat) : Int)) = (((streamB w).length : Nat) : Int) := by rw [hsl2, IntWalk.i64_in _ (by rw [List.length_append]; omega)]; omega
    have d7 : ((7168 : Int) < (((streamB w).length : Nat) : Int)) = (7168 < (streamB w).length) := propext (by omega)
    have hstr : streamB w = headB w ++ tableTo w (w.objs.length + 1) ++ (bodyB w ++ restB w) := by rw [streamB, List.append_assoc]
    have hby := streamB_by w
    generalize hout : bodyB w ++ restB w = out at *
    by_cases hbig : 7168 < (streamB w).length
    · simp +contextual +decide (maxSteps := 1000000) only [↓ wP, wQ, tf, Nat.reduceAdd, ne_eq, t1, t4, t5, t22, t23, t24, hpl, x4, x5, hid', r1, f3, f4, f5, q4, d7, hbig, Nat.reduceMul, Nat.mul_one, Nat.zero_mul, Nat.zero_add, Int.reduceToNat]
      rw [saveA, saveO, if_pos k, if_neg (by omega)]; rfl
    have u1 : IntKind.u8.wrap ((w.objs.length : Nat) : Int) = ((w.objs.length % 256 : Nat) : Int) := u8_nat
    simp +contextual +decide (maxSteps := 1000000) only [↓ wP, wQ, tf, Nat.reduceAdd, ne_eq, t1, t4, t5, t22, t23, t24, hpl, x4, x5, hid', r1, g0', c1, c2, c3, c4, hsl.len, hlen, f3, f4, f5, f6, frN, q4, d7, hbig, u1, Nat.reduceMul, Nat.mul_one, Nat.zero_mul, Nat.zero_add, Int.reduceToNat]
    clear x4 x5 hp0 q4 d7 t5 t22 t23 t24 t1 d1 hlt
    have hst2 : (headB w).length = 4 := rfl
    refine Wk_loop (fun j e => ∃ t n low o v, e = ⟨76, none, 15, t, [], ⟨n, low, o⟩, .no⟩ ∧ t.val 4 = .ptr 1 0 0 ∧ t.val 8 = v ∧ t.val 56 = .sl id g 0 (w.objs.length + 1) cap ∧ t.val 57 = .int .i64 (w.objs.length + 1 : Nat) ∧ t.val 58 = .int .i64 (j : Nat) ∧ j ≤ w.objs.length + 1 ∧ n1 < n ∧ (∀ i, i < n1 → o.get i = o1.get i) ∧ StAcc n1 n o v (headB w ++ tableTo w j)) (fun j => w.objs.length + 1 - j) 0
      ⟨_, n1 + 1, _, _, .sl n1 0 0 4 (.is 4), rfl, by simp +decide only [↓ wval, wint, wlog, t4], by simp +decide only [↓ wval, wint, wlog], by simp +decide only [↓ wval, wint, wlog], by simp +decide only [↓ wval, wint, wlog], by simp +decide only [↓ wval, wint, wlog]; rfl, by omega, by omega, fun i hi => by rw [Tr.get_set_ne _ _ (by omega)], n1, 0, _, rfl, by rw [Tr.get_set_same]; rfl, by omega, by omega, .inr rfl⟩ ?_
    clear t4
    rintro j _ ⟨t', n', low', o', v', rfl, t4', t8, t56, t57, t58, hj, hn1, hsame, h, gh, cap', rfl, hh, hh1, hhn, hcap'⟩
    have hid2 : o'.get id = some (obg g ((placesTo w w.objs.length).map encN)) := by rw [hsame id (by omega)]; exact hid'
    have r1' : o'.get 1 = some (obg 0 [.sl a1 g1 0 out.length (.room 1)]) := by rw [hsame 1 (by omega)]; exact r1
    have r2' : o'.get a1 = some (obg g1 (out.map encB)) := by rw [hsame a1 (by omega)]; exact r2
    have F1 := frI (show id < n' by omega)
    have F2 := frI (show 1 < n' by omega)
    have F3 := frI (show a1 < n' by omega)
    have F4 := frI hhn
    have htl := tableTo_len w j
    have hln : (headB w ++ tableTo w j).length = 4 + 2 * j := by rw [List.length_append, htl, hst2]
    have htb := tableTo_by w j
    have d1 : ((j : Int) < (w.objs.length + 1 : Nat)) = (j < w.objs.length + 1) := propext (by omega)
    have hmap' : ((headB w ++ tableTo w j).map encB).length = 4 + 2 * j := by rw [List.length_map, hln]
    have hcel : ((headB w ++ tableTo w j).map encB).all AV.isCell = true := encB_all _
    rw [hln] at hcap'
    by_cases hlt : j < w.objs.length + 1
    · have d5 := wrap_succ (i := j) (by omega)
      have d3 : (0 : Int) ≤ j := by omega
      have hpj := placesTo_get w (i := w.objs.length) (j := j) (by omega)
      have hbj := bodyTo_le w j
      have hso : (bodyB w).length ≤ out.length := by rw [← hout, List.length_append]; omega
      obtain ⟨p, hp⟩ : ∃ p, p = baseN w + (bodyTo w j).length := ⟨_, rfl⟩
      rw [← hp] at hpj
      have hp7 : p < 65536 := by omega
      have x4 : ((placesTo w w.objs.length).map encN)[j]? = some (.int .i64 (p : Nat)) := by rw [List.getElem?_map, hpj]; rfl
      have u1 := shr8 hp7
      have u2 : IntKind.u8.wrap (p : Int) = ((p % 256 : Nat) : Int) := u8_nat
      have htw : twoB p = [p / 256, p % 256] := by simp only [twoB]; rw [show p / 256 % 256 = p / 256 by omega]
      have hts : headB w ++ tableTo w (j + 1) = headB w ++ tableTo w j ++ [p / 256, p % 256] := by rw [tableTo_succ, ← hp, htw, List.append_assoc]
      have x8 : 4 + 2 * j < 4 + 2 * j + 2 := by omega
      have hsmall : (2 * (4 + 2 * j + 2) + 1024) ≤ 281474976710656 ∧ 4 + 2 * j + 2 < 4611686018427387904 := ⟨by omega, by omega⟩
      have hX : id ≠ h ∧ h ≠ id := ⟨by omega, by omega⟩
      have hYm : (headB w ++ tableTo w (j + 1)).map encB = (headB w ++ tableTo w j).map encB ++ [.int .u8 ((p / 256 : Nat) : Int), .int .u8 ((p % 256 : Nat) : Int)] := by rw [hts, List.map_append]; rfl
      generalize (headB w ++ tableTo w j).map encB = Y at *
      rcases hcap' with rfl | rfl
      · simp +contextual +decide (maxSteps := 1000000) only [↓ wP, wQ, tf, Nat.reduceAdd, ne_eq, t4', t8, t56, t57, t58, d1, hlt, d3, d5, hln, hid2, x4, F1, F4, frN, abin_shr, u1, u2, hh, hmap', x8, hsmall, Nat.reduceMul, Nat.mul_one, Nat.zero_mul, Nat.zero_add, Int.toNat_natCast, Int.reduceToNat]
        refine ⟨j + 1, by show _ - _ < _ - _; omega, _, n' + 1, _, _, .sl h (gh + 1) 0 (4 + 2 * j + 2) (.room 1), rfl, by simp +decide only [↓ wval, wint, wlog, t4'], by simp +decide only [↓ wval, wint, wlog], by simp +decide only [↓ wval, wint, wlog, t56], by simp +decide only [↓ wval, wint, wlog, t57], by simp +decide only [↓ wval, wint, wlog], hlt, by omega, fun i hi => ?_, h, gh + 1, .room 1, ?_, ?_, hh1, by omega, .inl rfl⟩
        · rw [Tr.get_set_ne _ _ (by omega), Tr.get_set_ne _ _ (by omega)]; exact hsame i hi
        · rw [List.length_append, tableTo_len, hst2]; congr 1
        · rw [hYm]; simp +contextual +decide (maxSteps := 1000000) only [↓ wP, wQ, tf, Nat.reduceAdd, ne_eq, F4, frN]
      · simp +contextual +decide (maxSteps := 1000000) only [↓ wP, wQ, tf, Nat.reduceAdd, ne_eq, t4', t8, t56, t57, t58, d1, hlt, d3, d5, hln, hid2, x4, F1, F4, frN, abin_shr, u1, u2, hh, hmap', hcel, x8, apF_is, apG_obg, hsmall, Nat.reduceMul, Nat.mul_one, Nat.zero_mul, Nat.zero_add, Int.toNat_natCast, Int.reduceToNat]
        refine ⟨j + 1, by show _ - _ < _ - _; omega, _, n' + 1 + 1, _, _, .sl (n' + 1) 0 0 (4 + 2 * j + 2) (.room 1), rfl, by simp +decide only [↓ wval, wint, wlog, t4'], by simp +decide only [↓ wval, wint, wlog], by simp +decide only [↓ wval, wint, wlog, t56], by simp +decide only [↓ wval, wint, wlog, t57], by simp +decide only [↓ wval, wint, wlog], hlt, by omega, fun i hi => ?_, n' + 1, 0, .room 1, ?_, ?_, by omega, by omega, .inl rfl⟩
        · rw [Tr.get_set_ne _ _ (by omega), Tr.get_set_ne _ _ (by omega)]; exact hsame i hi
        · rw [List.length_append, tableTo_len, hst2]; congr 1
        · rw [hYm]; simp +contextual +decide (maxSteps := 1000000) only [↓ wP, wQ, tf, Nat.reduceAdd, ne_eq, F4, frN]
    have hjf : j = w.objs.length + 1 := by omega
    subst hjf
    have hol : 0 < out.length := List.length_pos_iff.2 hne
    have hcelo : (out.map encB).all AV.isCell = true := encB_all _
    have hlo : lslice (out.map encB) 0 out.length = out.map encB := lslice_all (by rw [List.length_map])
    have x8 : 4 + 2 * (w.objs.length + 1) < 4 + 2 * (w.objs.length + 1) + out.length := by omega
    have hsl3 : (streamB w).length = 4 + 2 * (w.objs.length + 1) + out.length := by rw [hstr, List.length_append, hln]
    have hsmall : (2 * (4 + 2 * (w.objs.length + 1) + out.length) + 1024) ≤ 281474976710656 ∧ 4 + 2 * (w.objs.length + 1) + out.length < 4611686018427387904 := ⟨by omega, by omega⟩
    have hYm : (streamB w).map encB = (headB w ++ tableTo w (w.objs.length + 1)).map encB ++ out.map encB := by rw [hstr, List.map_append]
    generalize (headB w ++ tableTo w (w.objs.length + 1)).map encB = Y at *
    have h47 := LSp_none (f := 47) (by decide) (by decide)
    have hsA : saveA w = .tuple [.str (pagedB (streamB w)), .int .i64 0] := by rw [saveA, saveO, if_pos k, if_pos (by omega)]; rfl
    have hX : h ≠ a1 ∧ a1 ≠ h := ⟨by omega, by omega⟩
    have hmo : (out.map encB).length = out.length := List.length_map _
    rcases hcap' with rfl | rfl
    · simp +contextual +decide (maxSteps := 1000000) only [↓ wP, wQ, tf, Nat.reduceAdd, ne_eq, t4', t8, t56, t57, t58, d1, hlt, hln, r1', r2', F2, F3, F4, hX, frN, hh, hmap', hmo, hlo, hcelo, hsmall, h47, orcK_none, Nat.reduceMul, Nat.mul_one, Nat.zero_mul, Nat.zero_add, Int.toNat_natCast]
      have hp := paged_run (O := orcL LSp) (fun p n σ h1 h2 h3 => entCk_same p n σ h1 h2 h3) h47 (streamB w) hby (by omega) ⟨n', Nat.min h low', o'.set h (obg (gh + 1) (Y ++ out.map encB))⟩ h (gh + 1) (by rw [Sto.get_mk hhn, Tr.get_set_same, hYm])
      rw [hsl3] at hp
      refine wrunOf (h47 _ _) (hp.wcall fun so hso => ?_)
      rw [callK_put]
      obtain ⟨n2, low2, o2, e3, _, _⟩ := sim_of hso
      rw [e3]
      simp +contextual +decide (maxSteps := 1000000) only [↓ wP, wQ, tf, Nat.reduceAdd, ne_eq]
      exact hsA.symm
    · simp +contextual +decide (maxSteps := 1000000) only [↓ wP, wQ, tf, Nat.reduceAdd, ne_eq, t4', t8, t56, t57, t58, d1, hlt, hln, r1', r2', F2, F3, F4, hX, frN, hh, hmap', hcel, hmo, hlo, hcelo, x8, apF_is, apG_obg, hsmall, h47, orcK_none, Nat.reduceMul, Nat.mul_one, Nat.zero_mul, Nat.zero_add, Int.toNat_natCast]
      have hp := paged_run (O := orcL LSp) (fun p n σ h1 h2 h3 => entCk_same p n σ h1 h2 h3) h47 (streamB w) hby (by omega) ⟨n' + 1, low', o'.set n' (obg 0 (Y ++ out.map encB))⟩ n' 0 (by rw [Sto.get_mk (by omega), Tr.get_set_same, hYm])
      rw [hsl3] at hp
      refine wrunOf (h47 _ _) (hp.wcall fun so hso => ?_)
      rw [callK_put]
      obtain ⟨n2, low2, o2, e3, _, _⟩ := sim_of hso
      rw [e3]
      simp +contextual +decide (maxSteps := 1000000) only [↓ wP, wQ, tf, Nat.reduceAdd, ne_eq]
      exact hsA.symm
end
end Go.Proofs.YtajngkkihadgfaaGreat
