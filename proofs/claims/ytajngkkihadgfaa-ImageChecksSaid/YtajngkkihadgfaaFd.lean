/-
  ImageChecks: the law's own code.
-/
import Derived.Test.YtajngkkihadgfaaFcc
set_option linter.unusedVariables false
set_option linter.unusedSimpArgs false
namespace Go.Proofs.Ytajngkkihadgfaa
open Go.Abs Go Go.Abs.TryF
noncomputable section
set_option maxRecDepth 10000

theorem repA_map (n : Nat) : repA [.int .u8 0] n = (List.replicate n 0).map encB := by
  induction n with
  | zero => rfl
  | succ n ih => rw [repA, ih]; rfl
theorem by_rep (n : Nat) : By (List.replicate n 0) := fun b hb => by rw [List.eq_of_mem_replicate hb]; decide
theorem by_set {l : List Nat} (h : By l) (i : Nat) {v : Nat} (hv : v < 256) : By (l.set i v) := fun b hb => by
  rcases List.mem_or_eq_of_mem_set hb with h' | h'
  · exact h b h'
  · omega
theorem encB_len (b : Nat) : (encB b).cells.length = 1 := rfl
def L4 : List Ent := [entF 15 (fun x : { x : List Nat // x.length < 9223372036854775808 ∧ By x } => [.str x.1]) fun x => badV x.1, ent1 8 [] (.bool true)]
theorem L4_ok (h : Abs.Returns Try.prog 8 [] (.bool true)) : ∀ x ∈ L4, ESound Try.prog x := elist_cons (entF_ok fun x => bad_ok x.1 x.2.1 x.2.2) (elist_cons (ent1_ok h) elist_nil)
theorem L4_15 (s : List Nat) (hs : s.length < 9223372036854775808) (hb : By s) (u : Sto) : orcL L4 15 [.str s] u = some (.ret (badV s) none) := by
  rw [L4]
  refine entF_same (A := fun x : { x : List Nat // x.length < 9223372036854775808 ∧ By x } => [.str x.1]) ?_ ⟨s, hs, hb⟩
  rintro ⟨a, _⟩ ⟨b, _⟩ h
  simp at h; subst h; rfl
theorem L4_8 (u : Sto) : orcL L4 8 [] u = some (.ret (.bool true) none) := by rw [L4, entF_ne (show (15 : Nat) ≠ 8 by decide)]; exact ent1_same
theorem L4_none (f : FuncId) (h1 : 15 ≠ f) (h2 : 8 ≠ f) (a : List AV) (u : Sto) : orcL L4 f a u = none := by rw [L4, entF_ne h1, ent1_ne h2]; rfl

/-- the two sums -/
def sA (p : Nat) (l : List Nat) : Nat → Nat
  | 0 => p + 1
  | i + 1 => sA p l i + l.getD i 0
def sB (p : Nat) (l : List Nat) : Nat → Nat
  | 0 => 28 * (p + 1)
  | i + 1 => sB p l i + (28 - i) * l.getD i 0
def sC (p : Nat) (l : List Nat) : Nat → Nat
  | 0 => 0
  | i + 1 => sC p l i + sA p l (i + 1)
theorem sB_eq (p : Nat) (l : List Nat) : ∀ i, i ≤ 28 → sB p l i = sC p l i + (28 - i) * sA p l i
  | 0, _ => by simp [sB, sC, sA]
  | i + 1, h => by
    have ih := sB_eq p l i (by omega)
    obtain ⟨k, hk⟩ : ∃ k, 28 - i = k + 1 := ⟨27 - i, by omega⟩
    have hk' : 28 - (i + 1) = k := by omega
    simp only [sB, sC, ih, hk, hk']
    have : sA p l (i + 1) = sA p l i + l.getD i 0 := rfl
    rw [this]
    simp only [Nat.add_mul, Nat.mul_add, Nat.one_mul]
    omega
theorem fold_eq (p : Nat) (l : List Nat) : ∀ i, i < l.length → (l.take (i + 1)).foldl step (p + 1, 0) = (sA p l (i + 1) % 257, sC p l (i + 1) % 257)
  | 0, h => by
    rw [List.take_succ_eq_append_getElem h]
    simp only [step, sA, sC, getD_lt h, List.take_zero, List.nil_append, List.foldl_cons, List.foldl_nil]
    ext <;> simp only [] <;> omega
  | i + 1, h => by
    have ih := fold_eq p l i (by omega)
    rw [List.take_succ_eq_append_getElem h, List.foldl_append, ih]
    simp only [List.foldl_cons, List.foldl_nil, step]
    have e1 : sA p l (i + 1 + 1) = sA p l (i + 1) + l[i + 1] := by rw [sA, getD_lt h]
    have e2 : sC p l (i + 1 + 1) = sC p l (i + 1) + sA p l (i + 1 + 1) := rfl
    rw [e2, e1]
    ext <;> simp only [] <;> omega
theorem check_eq (p : Nat) (l : List Nat) (h : l.length = 32) : check p l = [sA p l 28 % 257 / 256, sA p l 28 % 257 % 256, sB p l 28 % 257 / 256, sB p l 28 % 257 % 256] := by
  have e1 := fold_eq p l 27 (by omega)
  have e2 := sB_eq p l 28 (Nat.le_refl _)
  simp only [check, sums, e1, Nat.reduceAdd]
  rw [e2]; simp
theorem sA_le (p : Nat) {l : List Nat} (h : By l) : ∀ i, sA p l i ≤ p + 1 + 256 * i
  | 0 => by simp [sA]
  | i + 1 => by
    have ih := sA_le p h i
    have : l.getD i 0 < 256 := by
      by_cases hi : i < l.length
      · rw [getD_lt hi]; exact h _ (List.getElem_mem _)
      · simp [List.getD_eq_getElem?_getD, hi]
    simp only [sA]; omega
theorem by_getD {l : List Nat} (h : By l) (i : Nat) : l.getD i 0 < 256 := by
  by_cases hi : i < l.length
  · rw [getD_lt hi]; exact h _ (List.getElem_mem _)
  · simp [List.getD_eq_getElem?_getD, hi]
theorem sB_le (p : Nat) {l : List Nat} (h : By l) : ∀ i, sB p l i ≤ 28 * (p + 1) + 7168 * i
  | 0 => by simp [sB]
  | i + 1 => by
    have ih := sB_le p h i
    have h1 := by_getD h i
    have h2 : (28 - i) * l.getD i 0 ≤ 28 * 256 := Nat.mul_le_mul (by omega) (by omega)
    simp only [sB]; omega
/-- a list that is kept in a slot -/
def Wn (m : Nat) (o : Tr AObj) (v : AV) (l : List AV) : Prop := (l = [] ∧ v = .nils) ∨ (l ≠ [] ∧ ∃ id g, v = .sl id g 0 l.length (.room 1) ∧ o.get id = some (obg g l) ∧ 0 < id ∧ id < m)

theorem Wn.mono {m m' : Nat} {o o' : Tr AObj} {v : AV} {l : List AV} (h : Wn m o v l) (ho : ∀ id, 0 < id → id < m → o'.get id = o.get id) (hm : m ≤ m') : Wn m' o' v l := by
  rcases h with h | ⟨h0, id, g, h1, h2, h3, h4⟩
  · exact .inl h
  · exact .inr ⟨h0, id, g, h1, by rw [ho id h3 h4]; exact h2, h3, by omega⟩
set_option maxHeartbeats 4000000 in
theorem checks_ok (hW : Abs.Returns Try.prog 8 [] (.bool true)) (by_ right_ : AV) (bs rs : List Nat) (pg : Nat) (h1 : Sl by_ (bs.map encB)) (h2 : Sl right_ (rs.map encB)) (hbs : By bs) (hrs : By rs) (hpg : pg < 256) (hu1 : Und 0 by_) (hu2 : Und 0 right_) :
    Abs.Returns Try.prog 4 [by_, .int .u8 (pg : Nat), right_] (.bool true) := by
  refine returns_wk (L := L4) (L4_ok hW) noHint (by kernel_rfl) Try.func4 Try.ntmps4 Try.results4 rfl rfl (und_all_cons hu1 (und_all_cons und_int (und_all_cons hu2 und_all_nil))) und_bool ?_
  obtain ⟨n, hn⟩ : ∃ n, n = 1 + pg % 40 := ⟨_, rfl⟩
  have hn1 : 1 ≤ n := by omega
  have hn2 : n ≤ 40 := by omega
  have a1 : IntKind.i64.wrap (pg : Int) = (pg : Int) := i64_nat (by omega)
  have a2 : Int.tmod ((pg : Nat) : Int) 40 = ((pg % 40 : Nat) : Int) := tmod_nat
  have a3 : IntKind.i64.wrap (1 + ((pg % 40 : Nat) : Int)) = (n : Nat) := by rw [IntWalk.i64_in _ (by omega)]; omega
  have a4 : IntKind.i64.wrap ((n : Int) * 32) = ((n * 32 : Nat) : Int) := by rw [IntWalk.i64_in _ (by omega)]; simp
  have hl1 := h1.2
  have hl2 := h2.2
  simp only [List.length_map] at hl1 hl2
  simp (config := {contextual := true, decide := true}) only [↓ wpre, ↓ wval, wpost, wint, wlog, wcell, wop, wop2, tf, Nat.reduceAdd, h1.cell, h2.cell, a1, a2, a3, a4]
  refine Wop_makeSlice (k := 1) (b := 1) (z := [.int .u8 0]) (i := .i64) (j := .i64) (l := n * 32) (c := n * 32) (by kernel_rfl) (by simp (config := {decide := true}) only [↓ wval]) (by simp (config := {decide := true}) only [↓ wval]) (Nat.le_refl _) (by omega) (by omega) (by rw [repA_map]; exact encB_all _) ?_
  rw [repA_map]
  simp (config := {contextual := true, decide := true}) only [↓ wpre, ↓ wval, wpost, wint, wlog, wcell, wop, wop2, tf, Nat.reduceAdd]
  refine Wk_loop (fun i e => ∃ t o l, e = ⟨147, none, 4, t, [], ⟨1, 0, o⟩, .no⟩ ∧ o.get 0 = some (obg 0 (l.map encB)) ∧ l.length = n * 32 ∧ By l ∧ t.val 0 = by_ ∧ t.val 2 = right_ ∧ t.val 7 = .int .i64 (n : Nat) ∧ t.val 8 = .sl 0 0 0 (n * 32) (.is (n * 32)) ∧ t.val 28 = .int .i64 ((n * 32 : Nat) : Int) ∧ t.val 29 = .int .i64 (i : Nat) ∧ i ≤ n * 32) (fun i => n * 32 - i) 0
    ⟨_, _, _, rfl, rfl, List.length_replicate, by_rep _, by simp (config := {decide := true}) only [↓ wval, wint, wlog], by simp (config := {decide := true}) only [↓ wval, wint, wlog], by simp (config := {decide := true}) only [↓ wval], by simp (config := {decide := true}) only [↓ wval], by simp (config := {decide := true}) only [↓ wval], by simp (config := {decide := true}) only [↓ wval]; rfl, Nat.zero_le _⟩ ?_
  rintro i _ ⟨t, o, l, rfl, ho, hl, hB, t0, t2, t7, t8, t28, t29, hi⟩
  by_cases hlt : i < n * 32
  · have d1 : (i : Int) < (n * 32 : Nat) := by omega
    have d3 : (0 : Int) ≤ i := by omega
    have d4 : ((i : Int)).toNat = i := by omega
    have d5 := wrap_succ (i := i) (by omega)
    have hii : i * i + i < 2000000 := by
      have : i * i ≤ 1280 * 1280 := Nat.mul_le_mul (by omega) (by omega)
      omega
    have e1 : IntKind.i64.wrap ((i : Int) * (i : Int)) = ((i * i : Nat) : Int) := by rw [← Int.natCast_mul]; exact i64_nat (by omega)
    have e2 : IntKind.i64.wrap (((i * i : Nat) : Int) + (i : Int)) = ((i * i + i : Nat) : Int) := by rw [← Int.natCast_add]; exact i64_nat (by omega)
    have e3 : Int.tmod ((i * i + i : Nat) : Int) ((bs.length : Nat) : Int) = (((i * i + i) % bs.length : Nat) : Int) := tmod_nat
    have e4 : IntKind.i64.wrap (Int.tdiv (i : Int) 32) = ((i / 32 : Nat) : Int) := by
      rw [Int.tdiv_eq_ediv_of_nonneg (by omega), IntWalk.i64_in _ (by omega)]; omega
    have e5 : IntKind.u8.wrap ((i / 32 : Nat) : Int) = ((i / 32 % 256 : Nat) : Int) := u8_nat
    have e6 : ∀ x : Nat, IntKind.u8.wrap (((x : Nat) : Int) + ((i / 32 % 256 : Nat) : Int)) = (((x + i / 32 % 256) % 256 : Nat) : Int) := fun x => by rw [← Int.natCast_add]; exact u8_nat
    have e7 : ((0 : Int) < (bs.length : Nat)) = (0 < bs.length) := propext (by omega)
    have e8 : ((bs.length : Nat) : Int) = 0 ↔ bs.length = 0 := by omega
    by_cases hb0 : 0 < bs.length
    · have hmod : (i * i + i) % bs.length < bs.length := Nat.mod_lt _ hb0
      have g1 : (0 : Int) ≤ (((i * i + i) % bs.length : Nat) : Int) := by omega
      have g2 : (((i * i + i) % bs.length : Nat) : Int) < (bs.length : Nat) := by omega
      have g3 : ¬ (bs.length = 0) := by omega
      have g4 : i < l.length := by omega
      simp (config := {contextual := true, decide := true}) only [↓ wpre, ↓ wval, wpost, wint, wlog, wcell, wop, wop2, wloop, tf, Nat.reduceAdd, Nat.zero_add, Nat.mul_one, List.length_map, h1.len, h1.idx, t0, t2, t7, t8, t28, t29, d1, d3, d4, d5, e1, e2, e3, e4, e5, e6, e7, e8, hb0, g1, g2, g3, g4, idxF_map encB_len, pfC_one, encB_cell, encB, ho, ne_eq]
      refine ⟨i + 1, by show _ - _ < _ - _; omega, _, _, l.set i ((bs.getD ((i * i + i) % bs.length) 0 + i / 32 % 256) % 256), rfl, ?_, by simpa using hl, by_set hB i (Nat.mod_lt _ (by omega)), by simp (config := {decide := true}) only [↓ wval, t0], by simp (config := {decide := true}) only [↓ wval, t2], by simp (config := {decide := true}) only [↓ wval, t7], by simp (config := {decide := true}) only [↓ wval, t8], by simp (config := {decide := true}) only [↓ wval, t28], by simp (config := {decide := true}) only [↓ wval], hlt⟩
      rw [Tr.get_set_same, List.map_set]; rfl
    · simp (config := {contextual := true, decide := true}) only [↓ wpre, ↓ wval, wpost, wint, wlog, wcell, wop, wop2, wloop, tf, Nat.reduceAdd, Nat.zero_add, Nat.mul_one, List.length_map, h1.len, t0, t2, t7, t8, t28, t29, d1, d3, d4, d5, e7, hb0]
      exact ⟨i + 1, by show _ - _ < _ - _; omega, _, _, l, rfl, ho, hl, hB, by simp (config := {decide := true}) only [↓ wval, t0], by simp (config := {decide := true}) only [↓ wval, t2], by simp (config := {decide := true}) only [↓ wval, t7], by simp (config := {decide := true}) only [↓ wval, t8], by simp (config := {decide := true}) only [↓ wval, t28], by simp (config := {decide := true}) only [↓ wval], hlt⟩
  · have d1 : ¬ (i : Int) < (n * 32 : Nat) := by omega
    simp (config := {contextual := true, decide := true}) only [↓ wpre, ↓ wval, wpost, wint, wlog, wcell, wop, wop2, wloop, tf, Nat.reduceAdd, t28, t29, d1, t7]
    clear d1 hlt hi
    refine Wk_loop (fun p e => ∃ t m o l v, e = ⟨147, none, 4, t, [], ⟨m, 0, o⟩, .no⟩ ∧ 0 < m ∧ o.get 0 = some (obg 0 (l.map encB)) ∧ l.length = n * 32 ∧ By l ∧ t.val 0 = by_ ∧ t.val 2 = right_ ∧ t.val 7 = .int .i64 (n : Nat) ∧ t.val 8 = .sl 0 0 0 (n * 32) (.is (n * 32)) ∧ t.val 54 = .int .i64 (n : Nat) ∧ t.val 55 = .int .i64 (p : Nat) ∧ t.val 10 = v ∧ Wn m o v ((badTo l p).map encN) ∧ p ≤ n) (fun p => n - p) 0
      ⟨_, _, _, l, _, rfl, Nat.one_pos, ho, hl, hB, by simp (config := {decide := true}) only [↓ wval, t0], by simp (config := {decide := true}) only [↓ wval, t2], by simp (config := {decide := true}) only [↓ wval, t7], by simp (config := {decide := true}) only [↓ wval, t8], by simp (config := {decide := true}) only [↓ wval], by simp (config := {decide := true}) only [↓ wval, wint]; rfl, by simp (config := {decide := true}) only [↓ wval, wint], .inl ⟨rfl, rfl⟩, Nat.zero_le _⟩ ?_
    clear t0 t2 t7 t8 t28 t29 ho hl hB
    clear t o l
    rintro p _ ⟨t, m, o, l, v, rfl, hm, ho, hl, hB, t0, t2, t7, t8, t54, t55, t10, hv, hp⟩
    by_cases hlt : p < n
    · have d1 : (p : Int) < (n : Nat) := by omega
      have d5 := wrap_succ (i := p) (by omega)
      have e1 : IntKind.i64.wrap (32 * (p : Int)) = ((32 * p : Nat) : Int) := by rw [IntWalk.i64_in _ (by omega)]; simp
      have e2 : IntKind.i64.wrap (28 * ((p + 1 : Nat) : Int)) = ((28 * (p + 1) : Nat) : Int) := by rw [IntWalk.i64_in _ (by omega)]; simp
      have g1 : (0 : Int) ≤ ((32 * p : Nat) : Int) := by omega
      have g2 : ((32 * p : Nat) : Int) ≤ (n * 32 : Nat) := by omega
      have g3 : ((32 * p : Nat) : Int) < (n * 32 : Nat) := by omega
      obtain ⟨c, hc⟩ : ∃ c, c = n * 32 - 32 * p := ⟨_, rfl⟩
      have hc32 : 32 ≤ c := by omega
      have g4 : (32 : Int) ≤ (c : Nat) := by omega
      have g5 : (28 : Int) ≤ (c : Nat) := by omega
      have g6 : ¬ (c = 0) := by omega
      simp (config := {contextual := true, decide := true}) only [↓ wpre, ↓ wval, wpost, wint, wlog, wcell, wop, wop2, wloop, tf, Nat.reduceAdd, Nat.zero_add, Nat.mul_one, Int.toNat_natCast, Int.reduceToNat, aslice_tsl, slS_lo, slS_hi, t0, t2, t7, t8, t54, t55, t10, d1, d5, e1, e2, g1, g2, g3, g4, g5, g6, ← hc, ne_eq]
      have hpl : p < counted l := by unfold counted; rw [hl]; split <;> omega
      have hpage := pageOf_len hpl
      have hBp : By (pageOf l p) := pageOf_lt hB p
      refine Wk_loop (fun j e => ∃ t, e = ⟨147, none, 4, t, [], ⟨m, 0, o⟩, .no⟩ ∧ t.val 0 = by_ ∧ t.val 2 = right_ ∧ t.val 7 = .int .i64 (n : Nat) ∧ t.val 8 = .sl 0 0 0 (n * 32) (.is (n * 32)) ∧ t.val 54 = .int .i64 (n : Nat) ∧ t.val 55 = .int .i64 (p : Nat) ∧ t.val 10 = v ∧ t.val 11 = .int .i64 (p : Nat) ∧ t.val 12 = .sl 0 0 (32 * p) 32 (.is c) ∧
          t.val 13 = .int .i64 (sA p (pageOf l p) j : Nat) ∧ t.val 14 = .int .i64 (sB p (pageOf l p) j : Nat) ∧ t.val 69 = .sl 0 0 (32 * p) 28 (.is c) ∧ t.val 70 = .int .i64 (28 : Nat) ∧ t.val 71 = .int .i64 (j : Nat) ∧ j ≤ 28) (fun j => 28 - j) 0
        ⟨_, rfl, by simp (config := {decide := true}) only [↓ wval, t0], by simp (config := {decide := true}) only [↓ wval, t2], by simp (config := {decide := true}) only [↓ wval, t7], by simp (config := {decide := true}) only [↓ wval, t8], by simp (config := {decide := true}) only [↓ wval, t54], by simp (config := {decide := true}) only [↓ wval, t55], by simp (config := {decide := true}) only [↓ wval, t10], by simp (config := {decide := true}) only [↓ wval], by simp (config := {decide := true}) only [↓ wval], by simp (config := {decide := true}) only [↓ wval]; rfl, by simp (config := {decide := true}) only [↓ wval]; rfl, by simp (config := {decide := true}) only [↓ wval], by simp (config := {decide := true}) only [↓ wval], by simp (config := {decide := true}) only [↓ wval]; rfl, Nat.zero_le _⟩ ?_
      clear t0 t2 t7 t8 t54 t55 t10
      clear t
      rintro j _ ⟨t, rfl, t0, t2, t7, t8, t54, t55, t10, t11, t12, t13, t14, t69, t70, t71, hj⟩
      by_cases hj28 : j < 28
      · have k1 : (j : Int) < (28 : Nat) := by omega
        have k2 : (0 : Int) ≤ j := by omega
        have k3 : ((j : Int)).toNat = j := by omega
        have k4 := wrap_succ (i := j) (by omega)
        have hx := by_getD hBp j
        have kA := sA_le p hBp j
        have kB := sB_le p hBp j
        have k5 : (l.map encB)[32 * p + j]? = some (encB ((pageOf l p).getD j 0)) := by
          have hlt' : 32 * p + j < l.length := by omega
          have : (pageOf l p)[j]? = l[p * 32 + j]? := by simp [pageOf, lslice, List.getElem?_take, List.getElem?_drop, show j < 32 by omega]
          rw [List.getElem?_map, List.getD_eq_getElem?_getD, this, Nat.mul_comm p 32, List.getElem?_eq_getElem hlt']
          rfl
        have k6 : IntKind.i64.wrap (((pageOf l p).getD j 0 : Nat) : Int) = ((pageOf l p).getD j 0 : Nat) := i64_nat (by omega)
        have k7 : IntKind.i64.wrap ((sA p (pageOf l p) j : Nat) + (((pageOf l p).getD j 0 : Nat) : Int)) = (sA p (pageOf l p) (j + 1) : Nat) := by rw [← Int.natCast_add]; exact i64_nat (by omega)
        have k8 : IntKind.i64.wrap (28 - (j : Int)) = ((28 - j : Nat) : Int) := by rw [IntWalk.i64_in _ (by omega)]; omega
        have hmul : (28 - j) * (pageOf l p).getD j 0 ≤ 28 * 256 := Nat.mul_le_mul (by omega) (by omega)
        have k9 : IntKind.i64.wrap (((28 - j : Nat) : Int) * (((pageOf l p).getD j 0 : Nat) : Int)) = (((28 - j) * (pageOf l p).getD j 0 : Nat) : Int) := by rw [← Int.natCast_mul]; exact i64_nat (by omega)
        have k10 : IntKind.i64.wrap ((sB p (pageOf l p) j : Nat) + (((28 - j) * (pageOf l p).getD j 0 : Nat) : Int)) = (sB p (pageOf l p) (j + 1) : Nat) := by rw [← Int.natCast_add]; exact i64_nat (by omega)
        have hm0 : 0 < m := hm
        simp (config := {contextual := true, decide := true}) only [↓ wpre, ↓ wval, wpost, wint, wlog, wcell, wop, wop2, wloop, tf, Nat.reduceAdd, Nat.zero_add, Nat.mul_one, t11, t12, t13, t14, t69, t70, t71, k1, k2, k3, k4, k5, k6, k7, k8, k9, k10, hm0, ho, encB, ne_eq]
        exact ⟨j + 1, by show _ - _ < _ - _; omega, _, rfl, by simp (config := {decide := true}) only [↓ wval, t0], by simp (config := {decide := true}) only [↓ wval, t2], by simp (config := {decide := true}) only [↓ wval, t7], by simp (config := {decide := true}) only [↓ wval, t8], by simp (config := {decide := true}) only [↓ wval, t54], by simp (config := {decide := true}) only [↓ wval, t55], by simp (config := {decide := true}) only [↓ wval, t10], by simp (config := {decide := true}) only [↓ wval, t11], by simp (config := {decide := true}) only [↓ wval, t12], by simp (config := {decide := true}) only [↓ wval], by simp (config := {decide := true}) only [↓ wval], by simp (config := {decide := true}) only [↓ wval, t69], by simp (config := {decide := true}) only [↓ wval, t70], by simp (config := {decide := true}) only [↓ wval], hj28⟩
      · have hj' : j = 28 := by omega
        subst hj'
        clear hj hj28
        obtain ⟨A, hA⟩ : ∃ A, A = sA p (pageOf l p) 28 := ⟨_, rfl⟩
        obtain ⟨B, hB'⟩ : ∃ B, B = sB p (pageOf l p) 28 := ⟨_, rfl⟩
        have hck : check p (pageOf l p) = [A % 257 / 256, A % 257 % 256, B % 257 / 256, B % 257 % 256] := by rw [hA, hB']; exact check_eq p _ hpage
        rw [← hA] at t13
        rw [← hB'] at t14
        have k1 : Int.tmod ((A : Nat) : Int) 257 = ((A % 257 : Nat) : Int) := tmod_nat
        have k2 : Int.tmod ((B : Nat) : Int) 257 = ((B % 257 : Nat) : Int) := tmod_nat
        have k3 := shr8 (a := A % 257) (by omega)
        have k4 := shr8 (a := B % 257) (by omega)
        have k5 : ((0 : Int) < (rs.length : Nat)) = (0 < rs.length) := propext (by omega)
        have f0 := frI (i := 0) (n := m) hm
        have hmap : [AV.int .u8 ((A % 257 / 256 : Nat) : Int), AV.int .u8 ((A % 257 % 256 : Nat) : Int), AV.int .u8 ((B % 257 / 256 : Nat) : Int), AV.int .u8 ((B % 257 % 256 : Nat) : Int)] = (check p (pageOf l p)).map encB := by rw [hck]; rfl
        by_cases hr0 : 0 < rs.length
        · have k6 : ((rs.length : Nat) : Int) = 0 ↔ rs.length = 0 := by omega
          have k7 : ¬ (rs.length = 0) := by omega
          have k8 : Int.tmod ((p : Nat) : Int) ((rs.length : Nat) : Int) = ((p % rs.length : Nat) : Int) := tmod_nat
          have hmod : p % rs.length < rs.length := Nat.mod_lt _ hr0
          have k9 : (0 : Int) ≤ ((p % rs.length : Nat) : Int) := by omega
          have k10 : ((p % rs.length : Nat) : Int) < (rs.length : Nat) := by omega
          have g7 : (28 : Int) < (c : Nat) := by omega
          by_cases hR : (0 : Int) < Int.tmod ((rs.getD (p % rs.length) default : Nat) : Int) 3
          · simp (config := {contextual := true, decide := true, maxSteps := 2000000}) only [↓ wpre, ↓ wval, wpost, wint, wlog, wcell, wop, wop2, wloop, tf, Nat.reduceAdd, Nat.reduceMul, Nat.reduceSub, Nat.zero_add, Nat.mul_one, Int.toNat_natCast, Int.reduceToNat, List.length_map, aslice_tsl, slS_lo, slS_hi, h2.len, h2.idx, t0, t2, t7, t8, t11, t12, t13, t14, t70, t71, k1, k2, k3, k4, k5, g7, hr0, u8_nat, abin_shr, encB, ne_eq, L4_none 14 (by decide) (by decide), orcK_none, k6, k7, k8, k9, k10, hR, idxF_map encB_len, pfC_one, encB_cell]
            rw [hmap]
            rw [copy_ok (g := 0) (g' := 0) (cs := l.map encB) (cs' := (check p (pageOf l p)).map encB) (by kernel_rfl) (by rw [Sto.get_mk (by omega), Tr.get_set_ne _ _ (by omega)]; exact ho) (by rw [Sto.get_mk (by omega), Tr.get_set_same]) (by simp only [List.length_map]; show 32 * p + 28 + 4 ≤ l.length; omega) (Nat.le_refl _) (by rw [lslice_map]; exact encB_all _)]
            have hsp : splice (l.map encB) (32 * p + 28) (lslice ((check p (pageOf l p)).map encB) 0 (Nat.min 4 4)) = (splice l (32 * p + 28) (check p (pageOf l p))).map encB := by rw [lslice_all (by rfl)]; exact splice_map _ _ _ _
            rw [hsp]
            obtain ⟨l', hl'⟩ : ∃ l', l' = splice l (32 * p + 28) (check p (pageOf l p)) := ⟨_, rfl⟩
            rw [← hl']
            have hll : l'.length = n * 32 := by rw [hl', splice_length _ _ _ (by show 32 * p + 28 + 4 ≤ l.length; omega)]; exact hl
            have hBl : By l' := by rw [hl']; exact by_splice hB (check_by p _ hpage) _
            have hck2 : check p (pageOf l' p) = check p (pageOf l p) := check_congr (by rw [hl']; exact page_splice_take rfl (by omega))
            have hdrop : (pageOf l' p).drop 28 = check p (pageOf l p) := by rw [hl']; exact page_splice_drop rfl (by omega)
            have hright : right p (pageOf l' p) = true := by unfold right; rw [hck2, hdrop]; simp
            have hbad : badTo l' p = badTo l p := badTo_congr fun q hq => by rw [hl']; exact page_splice_ne rfl (by omega) hq
            have hpage' : (pageOf l' p).length = 32 := pageOf_len (by unfold counted; rw [hll]; split <;> omega)
            generalize hck' : check p (pageOf l p) = ck at *
            simp (config := {contextual := true, decide := true, maxSteps := 2000000}) only [↓ wpre, ↓ wval, wpost, wint, wlog, wcell, wop, wop2, wloop, tf, Nat.reduceAdd, Nat.reduceMul, Nat.reduceSub, Nat.zero_add, Nat.mul_one, Int.toNat_natCast, Int.reduceToNat, List.length_map, aslice_tsl, slS_lo, slS_hi, h2.len, h2.idx, t0, t2, t7, t8, t11, t12, t13, t14, t70, t71, k1, k2, k3, k4, k5, g7, hr0, u8_nat, abin_shr, encB, ne_eq, L4_none 14 (by decide) (by decide), orcK_none, k6, k7, k8, k9, k10, hR, idxF_map encB_len, pfC_one, encB_cell]
            refine wrun_of (L4_none 14 (by decide) (by decide) _ _) (equalB_run (L4_none 14 (by decide) (by decide)) (xs := (pageOf l' p).drop 28) (ys := ck) (rd_sl (g := 0) (cs := l'.map encB) (by kernel_rfl) (by kernel_rfl) ?_ (by rw [lslice_map, page_drop]) (by simp only [List.length_map]; omega)) (rd_sl (g := 0) (cs := ck.map encB) (by kernel_rfl) (by kernel_rfl) ?_ (lslice_all (by rw [← hck']; rfl)) (by rw [← hck']; exact Nat.le_refl _)) (by simp [hpage']) (by rw [← hck']; exact (show (4 : Nat) < 4611686018427387904 by decide)) ?_)
            · rw [Sto.get_mk (by omega), Tr.get_set_same]
            · rw [Sto.get_mk (by omega), Tr.get_set_ne _ _ (by omega), Tr.get_set_same]
            have hdec : decide ((pageOf l' p).drop 28 = ck) = true := by rw [hdrop]; simp
            rw [hdec]
            simp (config := {contextual := true, decide := true, maxSteps := 2000000}) only [↓ wpre, ↓ wval, wpost, wint, wlog, wcell, wop, wop2, wloop, tf, Nat.reduceAdd, Nat.reduceMul, Nat.reduceSub, Nat.zero_add, Nat.mul_one, callK_ret, t10, t11, t55, d5, ne_eq, frN]
            refine ⟨p + 1, by show _ - _ < _ - _; omega, _, m + 1, _, l', v, rfl, Nat.succ_pos _, Tr.get_set_same _ _ _, hll, hBl, by simp (config := {decide := true}) only [↓ wval, t0], by simp (config := {decide := true}) only [↓ wval, t2], by simp (config := {decide := true}) only [↓ wval, t7], by simp (config := {decide := true}) only [↓ wval, t8], by simp (config := {decide := true}) only [↓ wval, t54], by simp (config := {decide := true}) only [↓ wval], by simp (config := {decide := true}) only [↓ wval, t10], ?_, hlt⟩
            rw [badTo_succ, hright, if_pos rfl, List.append_nil, hbad]
            exact hv.mono (fun id h0 h1 => by rw [Tr.get_set_ne _ _ (by omega), Tr.get_set_ne _ _ (by omega)]) (by omega)
          · simp (config := {contextual := true, decide := true, maxSteps := 2000000}) only [↓ wpre, ↓ wval, wpost, wint, wlog, wcell, wop, wop2, wloop, tf, Nat.reduceAdd, Nat.reduceMul, Nat.reduceSub, Nat.zero_add, Nat.mul_one, Int.toNat_natCast, Int.reduceToNat, List.length_map, aslice_tsl, slS_lo, slS_hi, h2.len, h2.idx, t0, t2, t7, t8, t11, t12, t13, t14, t70, t71, k1, k2, k3, k4, k5, g7, hr0, u8_nat, abin_shr, encB, ne_eq, L4_none 14 (by decide) (by decide), orcK_none, k6, k7, k8, k9, k10, hR, idxF_map encB_len, pfC_one, encB_cell]
            rw [hmap]
            refine wrun_of (L4_none 14 (by decide) (by decide) _ _) (equalB_run (L4_none 14 (by decide) (by decide)) (xs := (pageOf l p).drop 28) (ys := check p (pageOf l p)) (rd_sl (g := 0) (cs := l.map encB) (by kernel_rfl) (by kernel_rfl) ?_ (by rw [lslice_map, page_drop]) (by simp only [List.length_map]; omega)) (rd_sl (g := 0) (cs := (check p (pageOf l p)).map encB) (by kernel_rfl) (by kernel_rfl) ?_ (lslice_all (by rfl)) (by exact Nat.le_refl _)) (by simp [hpage]) (show (4 : Nat) < 4611686018427387904 by decide) ?_)
            · rw [Sto.get_mk (by omega), Tr.get_set_ne _ _ (by omega)]; exact ho
            · rw [Sto.get_mk (by omega), Tr.get_set_same]
            rw [right_eq rfl]
            generalize hck' : check p (pageOf l p) = ck
            cases hrt : right p (pageOf l p) with
            | true =>
              simp (config := {contextual := true, decide := true, maxSteps := 2000000}) only [↓ wpre, ↓ wval, wpost, wint, wlog, wcell, wop, wop2, wloop, tf, Nat.reduceAdd, Nat.reduceMul, Nat.reduceSub, Nat.zero_add, Nat.mul_one, callK_ret, t10, t11, t55, d5, ne_eq, frN]
              refine ⟨p + 1, by show _ - _ < _ - _; omega, _, m + 1, _, l, v, rfl, Nat.succ_pos _, ?_, hl, hB, by simp (config := {decide := true}) only [↓ wval, t0], by simp (config := {decide := true}) only [↓ wval, t2], by simp (config := {decide := true}) only [↓ wval, t7], by simp (config := {decide := true}) only [↓ wval, t8], by simp (config := {decide := true}) only [↓ wval, t54], by simp (config := {decide := true}) only [↓ wval], by simp (config := {decide := true}) only [↓ wval, t10], ?_, hlt⟩
              · rw [Tr.get_set_ne _ _ (by omega)]; exact ho
              · rw [badTo_succ, hrt, if_pos rfl, List.append_nil]
                exact hv.mono (fun id h0 h1 => Tr.get_set_ne _ _ (by omega)) (by omega)
            | false =>
              have hlen : (badTo l p).length ≤ p := badTo_len l p
              have hsmall : (2 * ((badTo l p).length + 1) + 1024) * 8 ≤ 281474976710656 ∧ (badTo l p).length + 1 < 4611686018427387904 := ⟨by omega, by omega⟩
              rcases hv with ⟨hL, rfl⟩ | ⟨hL, id, g, rfl, hid, hid0, hidm⟩
              · simp (config := {contextual := true, decide := true, maxSteps := 2000000}) only [↓ wpre, ↓ wval, wpost, wint, wlog, wcell, wop, wop2, wloop, tf, Nat.reduceAdd, Nat.reduceMul, Nat.reduceSub, Nat.zero_add, Nat.mul_one, callK_ret, t10, t11, t55, d5, ne_eq, frN, f0, hsmall]
                refine ⟨p + 1, by show _ - _ < _ - _; omega, _, m + 1 + 1 + 1, _, l, .sl (m + 1 + 1) 0 0 1 (.room 1), rfl, Nat.succ_pos _, ?_, hl, hB, by simp (config := {decide := true}) only [↓ wval, t0], by simp (config := {decide := true}) only [↓ wval, t2], by simp (config := {decide := true}) only [↓ wval, t7], by simp (config := {decide := true}) only [↓ wval, t8], by simp (config := {decide := true}) only [↓ wval, t54], by simp (config := {decide := true}) only [↓ wval], by simp (config := {decide := true}) only [↓ wval], .inr ⟨?_, m + 1 + 1, 0, ?_, ?_, Nat.succ_pos _, Nat.lt_succ_self _⟩, hlt⟩
                · simp (config := {decide := true}) only [↓ wval, wlog, f0, frN, ne_eq, ho]
                · rw [badTo_succ, hrt]; simp
                · have hnil : badTo l p = [] := List.map_eq_nil_iff.1 hL
                  rw [badTo_succ, hrt, hnil]; rfl
                · have hnil : badTo l p = [] := List.map_eq_nil_iff.1 hL
                  rw [badTo_succ, hrt, hnil, Tr.get_set_same]; rfl
              · have f3 := frI hidm
                have f4 : id ≠ 0 ∧ 0 ≠ id := ⟨by omega, by omega⟩
                simp (config := {contextual := true, decide := true, maxSteps := 2000000}) only [↓ wpre, ↓ wval, wpost, wint, wlog, wcell, wop, wop2, wloop, tf, Nat.reduceAdd, Nat.reduceMul, Nat.reduceSub, Nat.zero_add, Nat.mul_one, callK_ret, t10, t11, t55, d5, ne_eq, frN, f0, f3, f4, hid, hsmall]
                refine ⟨p + 1, by show _ - _ < _ - _; omega, _, m + 1 + 1, _, l, .sl id (g + 1) 0 ((badTo l p).length + 1) (.room 1), rfl, Nat.succ_pos _, ?_, hl, hB, by simp (config := {decide := true}) only [↓ wval, t0], by simp (config := {decide := true}) only [↓ wval, t2], by simp (config := {decide := true}) only [↓ wval, t7], by simp (config := {decide := true}) only [↓ wval, t8], by simp (config := {decide := true}) only [↓ wval, t54], by simp (config := {decide := true}) only [↓ wval], by simp (config := {decide := true}) only [↓ wval], .inr ⟨?_, id, g + 1, ?_, ?_, hid0, by omega⟩, hlt⟩
                · simp (config := {decide := true}) only [↓ wval, wlog, f0, f3, f4, frN, ne_eq, ho]
                · rw [badTo_succ, hrt]; simp
                · rw [badTo_succ, hrt]; simp
                · rw [badTo_succ, hrt, Tr.get_set_same, List.map_append]; rfl
        · have g7 : (28 : Int) < (c : Nat) := by omega
          simp (config := {contextual := true, decide := true, maxSteps := 2000000}) only [↓ wpre, ↓ wval, wpost, wint, wlog, wcell, wop, wop2, wloop, tf, Nat.reduceAdd, Nat.reduceMul, Nat.reduceSub, Nat.zero_add, Nat.mul_one, Int.toNat_natCast, Int.reduceToNat, List.length_map, aslice_tsl, slS_lo, slS_hi, h2.len, h2.idx, t0, t2, t7, t8, t11, t12, t13, t14, t70, t71, k1, k2, k3, k4, k5, g7, hr0, u8_nat, abin_shr, encB, ne_eq, L4_none 14 (by decide) (by decide), orcK_none]
          rw [hmap]
          refine wrun_of (L4_none 14 (by decide) (by decide) _ _) (equalB_run (L4_none 14 (by decide) (by decide)) (xs := (pageOf l p).drop 28) (ys := check p (pageOf l p)) (rd_sl (g := 0) (cs := l.map encB) (by kernel_rfl) (by kernel_rfl) ?_ (by rw [lslice_map, page_drop]) (by simp only [List.length_map]; omega)) (rd_sl (g := 0) (cs := (check p (pageOf l p)).map encB) (by kernel_rfl) (by kernel_rfl) ?_ (lslice_all (by rfl)) (by exact Nat.le_refl _)) (by simp [hpage]) (show (4 : Nat) < 4611686018427387904 by decide) ?_)
          · rw [Sto.get_mk (by omega), Tr.get_set_ne _ _ (by omega)]; exact ho
          · rw [Sto.get_mk (by omega), Tr.get_set_same]
          rw [right_eq rfl]
          generalize hck' : check p (pageOf l p) = ck
          cases hrt : right p (pageOf l p) with
          | true =>
            simp (config := {contextual := true, decide := true, maxSteps := 2000000}) only [↓ wpre, ↓ wval, wpost, wint, wlog, wcell, wop, wop2, wloop, tf, Nat.reduceAdd, Nat.reduceMul, Nat.reduceSub, Nat.zero_add, Nat.mul_one, callK_ret, t10, t11, t55, d5, ne_eq, frN]
            refine ⟨p + 1, by show _ - _ < _ - _; omega, _, m + 1, _, l, v, rfl, Nat.succ_pos _, ?_, hl, hB, by simp (config := {decide := true}) only [↓ wval, t0], by simp (config := {decide := true}) only [↓ wval, t2], by simp (config := {decide := true}) only [↓ wval, t7], by simp (config := {decide := true}) only [↓ wval, t8], by simp (config := {decide := true}) only [↓ wval, t54], by simp (config := {decide := true}) only [↓ wval], by simp (config := {decide := true}) only [↓ wval, t10], ?_, hlt⟩
            · rw [Tr.get_set_ne _ _ (by omega)]; exact ho
            · rw [badTo_succ, hrt, if_pos rfl, List.append_nil]
              exact hv.mono (fun id h0 h1 => Tr.get_set_ne _ _ (by omega)) (by omega)
          | false =>
            have hlen : (badTo l p).length ≤ p := badTo_len l p
            have hsmall : (2 * ((badTo l p).length + 1) + 1024) * 8 ≤ 281474976710656 ∧ (badTo l p).length + 1 < 4611686018427387904 := ⟨by omega, by omega⟩
            rcases hv with ⟨hL, rfl⟩ | ⟨hL, id, g, rfl, hid, hid0, hidm⟩
            · simp (config := {contextual := true, decide := true, maxSteps := 2000000}) only [↓ wpre, ↓ wval, wpost, wint, wlog, wcell, wop, wop2, wloop, tf, Nat.reduceAdd, Nat.reduceMul, Nat.reduceSub, Nat.zero_add, Nat.mul_one, callK_ret, t10, t11, t55, d5, ne_eq, frN, f0, hsmall]
              refine ⟨p + 1, by show _ - _ < _ - _; omega, _, m + 1 + 1 + 1, _, l, .sl (m + 1 + 1) 0 0 1 (.room 1), rfl, Nat.succ_pos _, ?_, hl, hB, by simp (config := {decide := true}) only [↓ wval, t0], by simp (config := {decide := true}) only [↓ wval, t2], by simp (config := {decide := true}) only [↓ wval, t7], by simp (config := {decide := true}) only [↓ wval, t8], by simp (config := {decide := true}) only [↓ wval, t54], by simp (config := {decide := true}) only [↓ wval], by simp (config := {decide := true}) only [↓ wval], .inr ⟨?_, m + 1 + 1, 0, ?_, ?_, Nat.succ_pos _, Nat.lt_succ_self _⟩, hlt⟩
              · simp (config := {decide := true}) only [↓ wval, wlog, f0, frN, ne_eq, ho]
              · rw [badTo_succ, hrt]; simp
              · have hnil : badTo l p = [] := List.map_eq_nil_iff.1 hL
                rw [badTo_succ, hrt, hnil]; rfl
              · have hnil : badTo l p = [] := List.map_eq_nil_iff.1 hL
                rw [badTo_succ, hrt, hnil, Tr.get_set_same]; rfl
            · have f3 := frI hidm
              have f4 : id ≠ 0 ∧ 0 ≠ id := ⟨by omega, by omega⟩
              simp (config := {contextual := true, decide := true, maxSteps := 2000000}) only [↓ wpre, ↓ wval, wpost, wint, wlog, wcell, wop, wop2, wloop, tf, Nat.reduceAdd, Nat.reduceMul, Nat.reduceSub, Nat.zero_add, Nat.mul_one, callK_ret, t10, t11, t55, d5, ne_eq, frN, f0, f3, f4, hid, hsmall]
              refine ⟨p + 1, by show _ - _ < _ - _; omega, _, m + 1 + 1, _, l, .sl id (g + 1) 0 ((badTo l p).length + 1) (.room 1), rfl, Nat.succ_pos _, ?_, hl, hB, by simp (config := {decide := true}) only [↓ wval, t0], by simp (config := {decide := true}) only [↓ wval, t2], by simp (config := {decide := true}) only [↓ wval, t7], by simp (config := {decide := true}) only [↓ wval, t8], by simp (config := {decide := true}) only [↓ wval, t54], by simp (config := {decide := true}) only [↓ wval], by simp (config := {decide := true}) only [↓ wval], .inr ⟨?_, id, g + 1, ?_, ?_, hid0, by omega⟩, hlt⟩
              · simp (config := {decide := true}) only [↓ wval, wlog, f0, f3, f4, frN, ne_eq, ho]
              · rw [badTo_succ, hrt]; simp
              · rw [badTo_succ, hrt]; simp
              · rw [badTo_succ, hrt, Tr.get_set_same, List.map_append]; rfl
    · have d1 : ¬ (p : Int) < (n : Nat) := by omega
      have hpn : p = n := by omega
      subst hpn
      have hcn : counted l = p := by unfold counted; rw [hl]; split <;> omega
      have hbv : badV l = .tuple [slOf (bad l), .int .i64 0] := by rw [badV, if_neg (by omega)]
      have k15 : ∀ u, orcL L4 15 [.str l] u = some (.ret (.tuple [slOf (bad l), .int .i64 0]) none) := fun u => by rw [← hbv]; exact L4_15 l (by omega) hB u
      have hm0 : 0 < m := hm
      have hl' : p * 32 = l.length := hl.symm
      simp (config := {contextual := true, decide := true, maxSteps := 2000000}) only [↓ wpre, ↓ wval, wpost, wint, wlog, wcell, wop, wop2, wloop, tf, Nat.reduceAdd, t0, t2, t7, t8, t54, t55, t10, d1, hm0, ho, cvC_ofBytes, cvO_ok hl' hB, k15, ne_eq, Wop_ext, extV_tuple, L4_none 16 (by decide) (by decide), orcK_none]
      have hbl : (bad l).length ≤ p := by rw [bad, hcn]; exact badTo_len l p
      have hbe : badTo l p = bad l := by rw [bad, hcn]
      have hrd : Rd Try.prog ⟨m, 0, o⟩ 34 3 v ((badTo l p).map encN) := by
        rcases hv with ⟨hL, rfl⟩ | ⟨hL, id, g, rfl, hid, hid0, hidm⟩
        · rw [hL]
          exact rd_fz (by kernel_rfl) (by kernel_rfl) ⟨.inl ⟨rfl, rfl⟩, Nat.zero_le _⟩ (fun _ h => nomatch h)
        · exact rd_sl (g := g) (cs := (badTo l p).map encN) (by kernel_rfl) (by kernel_rfl) (by rw [Sto.get_mk hidm]; exact hid) (lslice_all (by simp)) (by simp)
      refine wrun_of (L4_none 16 (by decide) (by decide) _ _) (equalI_run (L4_none 16 (by decide) (by decide)) (xs := bad l) (ys := badTo l p) (rd_fz (by kernel_rfl) (by kernel_rfl) (sl_of (by omega)) (encN_cell _)) hrd (by omega) (by rw [hbe]; omega) ?_)
      rw [show decide (bad l = badTo l p) = true by rw [hbe]; simp]
      simp (config := {contextual := true, decide := true, maxSteps := 2000000}) only [↓ wpre, ↓ wval, wpost, wint, wlog, wcell, wop, wop2, wloop, tf, Nat.reduceAdd, callK_ret, L4_8, ne_eq]

end
end Go.Proofs.Ytajngkkihadgfaa
