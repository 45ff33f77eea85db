/-
  The reference of images: strings that are pages, and one page.
-/
import Derived.Test.YtajngkkihadgfaaFa
import Derived.Test.YtajngkkihadgfaaEp
set_option linter.unusedVariables false
set_option linter.unusedSimpArgs false

namespace Go.Proofs.Ytajngkkihadgfaa
open Go.Abs Go Go.Abs.TryF
noncomputable section
set_option maxRecDepth 10000

def inV : List AV → Option AV
  | [.int .i64 n, .int .i64 l, .int .i64 h] => some (.bool (decide (l ≤ n) && decide (n ≤ h)))
  | _ => none
theorem refIn_ok : Abs.Ok Try.prog 36 inV := by
  intro args v hg
  unfold inV at hg
  split at hg <;> cases hg
  rename_i n l h
  refine returns_wk (L := []) elist_nil noHint (by kernel_rfl) Try.func36 Try.ntmps36 Try.results36 rfl rfl (und_all_cons und_int (und_all_cons und_int (und_all_cons und_int und_all_nil))) und_bool ?_
  simp (config := {contextual := true, decide := true}) only [↓ wpre, ↓ wval, wpost, wint, wlog, wcell]
  simp
/-- a string is pages -/
def whole (s : List Nat) : Bool := decide (counted s ≠ 0)
theorem tdiv32 {s : List Nat} (hs : s.length < 9223372036854775808) : IntKind.i64.wrap (Int.tdiv (s.length : Nat) 32) = ((s.length / 32 : Nat) : Int) := by
  rw [Int.tdiv_eq_ediv_of_nonneg (by omega), IntWalk.i64_in _ (by omega)]; omega
theorem refWhole_ok (s : List Nat) (hs : s.length < 9223372036854775808) : Abs.Returns Try.prog 34 [.str s] (.bool (whole s)) := by
  refine returns_wk (L := [ent 36 inV]) (elist_cons refIn_ok.ent elist_nil) noHint (by kernel_rfl) Try.func34 Try.ntmps34 Try.results34 rfl rfl (und_all_cons und_str und_all_nil) und_bool ?_
  have e1 := tdiv32 hs
  have e2 : Int.tmod ((s.length : Nat) : Int) 32 = ((s.length % 32 : Nat) : Int) := tmod_nat
  simp (config := {contextual := true, decide := true}) only [↓ wpre, ↓ wval, wpost, wint, wlog, wcell, wop, wdr, wdr2, tf, e1, e2, inV]
  unfold whole counted
  by_cases h1 : s.length % 32 = 0
  · have h1' : ((s.length % 32 : Nat) : Int) = 0 := by omega
    by_cases h2 : 256 < s.length / 32
    · have : ¬ (((s.length / 32 : Nat) : Int) ≤ 256) := by omega
      simp [h1, h2, this]; omega
    · have h3 : (((s.length / 32 : Nat) : Int) ≤ 256) := by omega
      by_cases h4 : s.length / 32 = 0
      · simp [h1, h4]
      · simp [h1, h2, h4]
        omega
  · have h1' : ¬ ((s.length % 32 : Nat) : Int) = 0 := by omega
    simp [h1]; omega
/-- one page of a string, if it has it -/
def pageV (s : List Nat) (i : Nat) : AV := if i < s.length / 32 then .tuple [.str (pageOf s i), .bool true] else .tuple [.str [], .bool false]
theorem und_page {s : List Nat} {i : Nat} : Und 0 (pageV s i) := by
  unfold pageV
  split <;> exact und_tuple (und_all_cons und_str (und_all_cons und_bool und_all_nil))
theorem refPage_ok (s : List Nat) (i : Nat) (hs : s.length < 9223372036854775808) (hi : i < 4611686018427387904) : Abs.Returns Try.prog 35 [.str s, .int .i64 (i : Nat)] (pageV s i) := by
  refine returns_wk (L := []) elist_nil noHint (by kernel_rfl) Try.func35 Try.ntmps35 Try.results35 rfl rfl (und_all_cons und_str (und_all_cons und_int und_all_nil)) und_page ?_
  have e1 := tdiv32 hs
  by_cases h : i < s.length / 32
  · have d1 : ¬ (((s.length / 32 : Nat) : Int) ≤ (i : Int)) := by omega
    have e2 : IntKind.i64.wrap (32 * (i : Int)) = ((i * 32 : Nat) : Int) := by rw [IntWalk.i64_in _ (by omega)]; omega
    have e3 : IntKind.i64.wrap (32 * ((i + 1 : Nat) : Int)) = (((i + 1) * 32 : Nat) : Int) := by rw [IntWalk.i64_in _ (by omega)]; omega
    have d5 := wrap_succ (i := i) (by omega)
    have f1 : (0 : Int) ≤ ((i * 32 : Nat) : Int) := by omega
    have f2 : ((i * 32 : Nat) : Int) ≤ (((i + 1) * 32 : Nat) : Int) := by omega
    have f3 : (((i + 1) * 32 : Nat) : Int) ≤ (s.length : Nat) := by omega
    have f4 : lslice s (((i * 32 : Nat) : Int)).toNat ((((i + 1) * 32 : Nat) : Int).toNat - (((i * 32 : Nat) : Int)).toNat) = pageOf s i := by
      rw [Int.toNat_natCast, Int.toNat_natCast, pageOf]; congr 1; omega
    simp (config := {contextual := true, decide := true}) only [↓ wpre, ↓ wval, wpost, wint, wlog, wcell, wop, wdr, wdr2, tf, e1, e2, e3, d1, d5, f1, f2, f3, f4]
    rw [pageV, if_pos h]
  · have d1 : (((s.length / 32 : Nat) : Int) ≤ (i : Int)) := by omega
    simp (config := {contextual := true, decide := true}) only [↓ wpre, ↓ wval, wpost, wint, wlog, wcell, wop, wdr, wdr2, tf, e1, d1]
    rw [pageV, if_neg h]

end
end Go.Proofs.Ytajngkkihadgfaa

/-
  The reference of images: patches.
-/

namespace Go.Proofs.Ytajngkkihadgfaa
open Go.Abs Go Go.Abs.TryF
noncomputable section
set_option maxRecDepth 10000

/-- the pages up to one that the other string has not -/
def differ (a b : List Nat) (q : Nat) : Bool := !(decide (q < a.length / 32) && decide (pageOf a q = pageOf b q))
def patchTo (a b : List Nat) (i : Nat) : List (Nat × List Nat) := ((List.range i).filter (differ a b)).map fun q => (q, pageOf b q)
def partC (x : Nat × List Nat) : List AV := [.int .i64 (x.1 : Nat), .str x.2]
theorem patchTo_succ (a b : List Nat) (i : Nat) : patchTo a b (i + 1) = patchTo a b i ++ (if differ a b i then [(i, pageOf b i)] else []) := by
  simp only [patchTo, List.range_succ, List.filter_append, List.map_append]
  cases h : differ a b i <;> simp [h]
theorem patchTo_len (a b : List Nat) (i : Nat) : (patchTo a b i).length ≤ i := by
  have := List.length_filter_le (differ a b) (List.range i)
  simpa [patchTo] using this
def partsV (l : List (Nat × List Nat)) : AV := if l = [] then .nils else .fz ((l.map partC).map .agg) false
def patchV (a b : List Nat) : AV := if counted a = 0 ∨ counted b = 0 then .tuple [.nils, .int .i64 2] else .tuple [partsV (patchTo a b (counted b)), .int .i64 0]

abbrev Str := { x : List Nat // x.length < 9223372036854775808 }
def L10 : List Ent := [entF 34 (fun x : Str => [.str x.1]) fun x => .bool (whole x.1), entF 35 (fun x : Str × { i : Nat // i < 4611686018427387904 } => [.str x.1.1, .int .i64 (x.2.1 : Nat)]) fun x => pageV x.1.1 x.2.1]
theorem L10_ok : ∀ x ∈ L10, ESound Try.prog x := elist_cons (entF_ok fun x => refWhole_ok x.1 x.2) (elist_cons (entF_ok fun x => refPage_ok x.1.1 x.2.1 x.1.2 x.2.2) elist_nil)
theorem L10_34 (s : List Nat) (hs : s.length < 9223372036854775808) (u : Sto) : orcL L10 34 [.str s] u = some (.ret (.bool (whole s)) none) := by
  rw [L10]
  refine entF_same (A := fun x : Str => [.str x.1]) ?_ ⟨s, hs⟩
  rintro ⟨a, _⟩ ⟨b, _⟩ h
  simp at h; subst h; rfl
theorem L10_35 (s : List Nat) (i : Nat) (hs : s.length < 9223372036854775808) (hi : i < 4611686018427387904) (u : Sto) : orcL L10 35 [.str s, .int .i64 (i : Nat)] u = some (.ret (pageV s i) none) := by
  rw [L10, entF_ne (show (34 : Nat) ≠ 35 by decide)]
  refine entF_same (A := fun x : Str × { i : Nat // i < 4611686018427387904 } => [.str x.1.1, .int .i64 (x.2.1 : Nat)]) ?_ (⟨s, hs⟩, ⟨i, hi⟩)
  rintro ⟨⟨a, _⟩, ⟨i, _⟩⟩ ⟨⟨b, _⟩, ⟨j, _⟩⟩ h
  simp at h
  obtain ⟨rfl, h⟩ := h
  have : i = j := by omega
  subst this; rfl

def Wp (m : Nat) (o : Tr AObj) (v : AV) (l : List (Nat × List Nat)) : Prop := (l = [] ∧ v = .nils) ∨ (l ≠ [] ∧ ∃ id g, v = .sl id g 0 l.length (.room 2) ∧ o.get id = some (obg g (l.map partC).flatten) ∧ id < m)
theorem part_len (l : List (Nat × List Nat)) : ∀ x ∈ l.map partC, x.length = 2 := fun x hx => by obtain ⟨y, _, rfl⟩ := List.mem_map.1 hx; rfl
theorem counted_div {s : List Nat} (h : counted s ≠ 0) : s.length / 32 = counted s ∧ counted s ≤ 256 := by
  unfold counted at *
  split at h
  · exact absurd rfl h
  · rename_i h'; rw [if_neg h']; omega
theorem refPatch_ok (a b : List Nat) (ha : a.length < 9223372036854775808) (hb : b.length < 9223372036854775808) : Abs.Returns Try.prog 10 [.str a, .str b] (patchV a b) := by
  refine returns_wkF (L := L10) L10_ok noHint (by kernel_rfl) Try.func10 Try.ntmps10 Try.results10 rfl rfl (und_all_cons und_str (und_all_cons und_str und_all_nil)) ?_
  have wa := L10_34 a ha
  have wb := L10_34 b hb
  by_cases h0 : counted a = 0 ∨ counted b = 0
  · have e0 : patchV a b = .tuple [.nils, .int .i64 2] := by rw [patchV, if_pos h0]
    rw [e0]
    cases hwa : whole a <;> cases hwb : whole b <;> simp only [hwa, hwb] at wa wb <;>
      simp (config := {contextual := true, decide := true}) only [↓ wpre, ↓ wval, wpost, wint, wlog, wcell, wop, wdr, wdr2, tf, wa, wb]
    · exact .und _ (und_tuple (und_all_cons und_nils (und_all_cons und_int und_all_nil)))
    · exact .und _ (und_tuple (und_all_cons und_nils (und_all_cons und_int und_all_nil)))
    · exact .und _ (und_tuple (und_all_cons und_nils (und_all_cons und_int und_all_nil)))
    · simp [whole] at hwa hwb; omega
  · have hwa : whole a = true := by simp only [whole]; simp; omega
    have hwb : whole b = true := by simp only [whole]; simp; omega
    rw [hwa] at wa
    rw [hwb] at wb
    simp (config := {contextual := true, decide := true}) only [↓ wpre, ↓ wval, wpost, wint, wlog, wcell, wop, wdr, wdr2, tf, wa, wb]
    have hca := counted_div (s := a) (by omega)
    have hcb := counted_div (s := b) (by omega)
    have eb := tdiv32 hb
    rw [hcb.1] at eb
    refine Wk_loop (fun i e => ∃ t m o v, e = ⟨53, none, 10, t, [], ⟨m, 0, o⟩, .no⟩ ∧ t.val 0 = .str a ∧ t.val 1 = .str b ∧ t.val 6 = v ∧ t.val 7 = .int .i64 (i : Nat) ∧ Wp m o v (patchTo a b i) ∧ i ≤ counted b) (fun i => counted b - i) 0
      ⟨_, 0, _, .nils, rfl, by simp (config := {decide := true}) only [↓ wval, wint, wlog], by simp (config := {decide := true}) only [↓ wval, wint, wlog], by simp (config := {decide := true}) only [↓ wval, wint], by simp (config := {decide := true}) only [↓ wval, wint]; rfl, .inl ⟨rfl, rfl⟩, Nat.zero_le _⟩ ?_
    rintro i _ ⟨t, m, o, v, rfl, t0, t1, t6, t7, hv, hi⟩
    by_cases hlt : i < counted b
    · have d1 : (i : Int) < (counted b : Nat) := by omega
      have d5 := wrap_succ (i := i) (by omega)
      have cb := L10_35 b i hb (by omega)
      have ca := L10_35 a i ha (by omega)
      rw [pageV, if_pos (by omega)] at cb
      have hlen : (patchTo a b i).length ≤ i := patchTo_len a b i
      have hsmall : (2 * ((patchTo a b i).length + 1) + 1024) * 24 ≤ 281474976710656 ∧ (patchTo a b i).length + 1 < 4611686018427387904 := ⟨by omega, by omega⟩
      by_cases hia : i < a.length / 32
      · rw [pageV, if_pos hia] at ca
        by_cases hpq : pageOf a i = pageOf b i
        · have hdf : differ a b i = false := by simp [differ, hia, hpq]
          simp (config := {contextual := true, decide := true, maxSteps := 2000000}) only [↓ wpre, ↓ wval, wpost, wint, wlog, wcell, wop, wdr, wdr2, wloop, tf, Nat.reduceAdd, Nat.reduceMul, Nat.mul_one, Nat.zero_add, t0, t1, t6, t7, d1, d5, eb, ca, cb, abin_str_neq, Wop_ext, extV_tuple, ne_eq, hpq]
          exact ⟨i + 1, by show _ - _ < _ - _; omega, _, m, o, v, rfl, by simp (config := {decide := true}) only [↓ wval, t0], by simp (config := {decide := true}) only [↓ wval, t1], by simp (config := {decide := true}) only [↓ wval, t6], by simp (config := {decide := true}) only [↓ wval], by rw [patchTo_succ, hdf]; simpa using hv, hlt⟩
        · have hdf : differ a b i = true := by simp [differ, hpq]
          rcases hv with ⟨hL, rfl⟩ | ⟨hL, id, g, rfl, hid, hidm⟩
          · simp (config := {contextual := true, decide := true, maxSteps := 2000000}) only [↓ wpre, ↓ wval, wpost, wint, wlog, wcell, wop, wdr, wdr2, wloop, tf, Nat.reduceAdd, Nat.reduceMul, Nat.mul_one, Nat.zero_add, t0, t1, t6, t7, d1, d5, eb, ca, cb, abin_str_neq, Wop_ext, extV_tuple, ne_eq, frN, hpq, hsmall]
            refine ⟨i + 1, by show _ - _ < _ - _; omega, _, m + 1 + 1, _, .sl (m + 1) 0 0 1 (.room 2), rfl, by simp (config := {decide := true}) only [↓ wval, t0], by simp (config := {decide := true}) only [↓ wval, t1], by simp (config := {decide := true}) only [↓ wval], by simp (config := {decide := true}) only [↓ wval], .inr ⟨?_, m + 1, 0, ?_, ?_, Nat.lt_succ_self _⟩, hlt⟩
            · rw [patchTo_succ, hdf]; simp
            · rw [patchTo_succ, hdf, hL]; rfl
            · rw [patchTo_succ, hdf, hL, Tr.get_set_same]; rfl
          · have f3 := frI hidm
            have hfl : ((patchTo a b i).map partC).flatten.length = (patchTo a b i).length * 2 := by rw [flatten_len _ (part_len _), List.length_map]
            simp (config := {contextual := true, decide := true, maxSteps := 2000000}) only [↓ wpre, ↓ wval, wpost, wint, wlog, wcell, wop, wdr, wdr2, wloop, tf, Nat.reduceAdd, Nat.reduceMul, Nat.mul_one, Nat.zero_add, t0, t1, t6, t7, d1, d5, eb, ca, cb, abin_str_neq, Wop_ext, extV_tuple, ne_eq, frN, hpq, f3, hid, hsmall, hfl]
            refine ⟨i + 1, by show _ - _ < _ - _; omega, _, m + 1, _, .sl id (g + 1) 0 ((patchTo a b i).length + 1) (.room 2), rfl, by simp (config := {decide := true}) only [↓ wval, t0], by simp (config := {decide := true}) only [↓ wval, t1], by simp (config := {decide := true}) only [↓ wval], by simp (config := {decide := true}) only [↓ wval], .inr ⟨?_, id, g + 1, ?_, ?_, by omega⟩, hlt⟩
            · rw [patchTo_succ, hdf]; simp
            · rw [patchTo_succ, hdf]; simp
            · rw [patchTo_succ, hdf, Tr.get_set_same, if_pos rfl, List.map_append, List.flatten_append]; rfl
      · rw [pageV, if_neg hia] at ca
        have hdf : differ a b i = true := by simp [differ, hia]
        rcases hv with ⟨hL, rfl⟩ | ⟨hL, id, g, rfl, hid, hidm⟩
        · simp (config := {contextual := true, decide := true, maxSteps := 2000000}) only [↓ wpre, ↓ wval, wpost, wint, wlog, wcell, wop, wdr, wdr2, wloop, tf, Nat.reduceAdd, Nat.reduceMul, Nat.mul_one, Nat.zero_add, t0, t1, t6, t7, d1, d5, eb, ca, cb, abin_str_neq, Wop_ext, extV_tuple, ne_eq, frN, hsmall]
          refine ⟨i + 1, by show _ - _ < _ - _; omega, _, m + 1 + 1, _, .sl (m + 1) 0 0 1 (.room 2), rfl, by simp (config := {decide := true}) only [↓ wval, t0], by simp (config := {decide := true}) only [↓ wval, t1], by simp (config := {decide := true}) only [↓ wval], by simp (config := {decide := true}) only [↓ wval], .inr ⟨?_, m + 1, 0, ?_, ?_, Nat.lt_succ_self _⟩, hlt⟩
          · rw [patchTo_succ, hdf]; simp
          · rw [patchTo_succ, hdf, hL]; rfl
          · rw [patchTo_succ, hdf, hL, Tr.get_set_same]; rfl
        · have f3 := frI hidm
          have hfl : ((patchTo a b i).map partC).flatten.length = (patchTo a b i).length * 2 := by rw [flatten_len _ (part_len _), List.length_map]
          simp (config := {contextual := true, decide := true, maxSteps := 2000000}) only [↓ wpre, ↓ wval, wpost, wint, wlog, wcell, wop, wdr, wdr2, wloop, tf, Nat.reduceAdd, Nat.reduceMul, Nat.mul_one, Nat.zero_add, t0, t1, t6, t7, d1, d5, eb, ca, cb, abin_str_neq, Wop_ext, extV_tuple, ne_eq, frN, f3, hid, hsmall, hfl]
          refine ⟨i + 1, by show _ - _ < _ - _; omega, _, m + 1, _, .sl id (g + 1) 0 ((patchTo a b i).length + 1) (.room 2), rfl, by simp (config := {decide := true}) only [↓ wval, t0], by simp (config := {decide := true}) only [↓ wval, t1], by simp (config := {decide := true}) only [↓ wval], by simp (config := {decide := true}) only [↓ wval], .inr ⟨?_, id, g + 1, ?_, ?_, by omega⟩, hlt⟩
          · rw [patchTo_succ, hdf]; simp
          · rw [patchTo_succ, hdf]; simp
          · rw [patchTo_succ, hdf, Tr.get_set_same, if_pos rfl, List.map_append, List.flatten_append]; rfl
    · have d1 : ¬ (i : Int) < (counted b : Nat) := by omega
      have hib : i = counted b := by omega
      subst hib
      simp (config := {contextual := true, decide := true}) only [↓ wpre, ↓ wval, wpost, wint, wlog, wcell, wop, wloop, tf, t0, t1, t6, t7, d1, eb]
      have e0 : patchV a b = .tuple [partsV (patchTo a b (counted b)), .int .i64 0] := by rw [patchV, if_neg h0]
      rw [e0]
      refine .tuple _ _ rfl (frz_all_cons ?_ (frz_all_cons (.und _ und_int) frz_all_nil))
      rcases hv with ⟨hl, rfl⟩ | ⟨hl, id, g, rfl, hid, hk⟩
      · rw [partsV, if_pos hl]; exact .und _ und_nils
      · rw [partsV, if_neg hl]
        refine frz_slk (g := g) (k := 2) (Nat.zero_le _) (by rw [Sto.get_mk hk]; exact hid) (by simp) (part_len _) fun x hx y hy => ?_
        obtain ⟨z, _, rfl⟩ := List.mem_map.1 hx
        simp only [partC, List.mem_cons, List.not_mem_nil, or_false] at hy
        rcases hy with rfl | rfl
        · exact und_int
        · exact und_str

end
end Go.Proofs.Ytajngkkihadgfaa

/-
  Parts compared.
-/

namespace Go.Proofs.Ytajngkkihadgfaa
open Go.Abs Go Go.Abs.TryF
noncomputable section
set_option maxRecDepth 10000

/-- a struct's fields that '==' compares -/
def stEq (P : Program) (t : TypeId) : Option (List (TypeId × Nat)) := match P.underlying t with
  | some (.struct fs) => bif P.stoodInHeld t || P.eqGuardType P.depth t then none else some (afieldList fs)
  | _ => none
theorem stEq25 : stEq Try.prog 25 = some [(3, 0), (9, 1)] := by kernel_rfl
theorem und3 : Try.prog.underlying 3 = some (.int .i64) := by kernel_rfl
theorem und9 : Try.prog.underlying 9 = some .string := by kernel_rfl
theorem ty3 : tyK Try.prog 3 = some none := by kernel_rfl
theorem ty9 : tyK Try.prog 9 = some none := by kernel_rfl
theorem part_neq {x y : Operand} {a b : Int} {p q : List Nat} : abin Try.prog .neq 25 x y (.agg [.int .i64 a, .str p]) (.agg [.int .i64 b, .str q]) = some (.bool (!(decide (a = b) && decide (p = q)))) := by
  have h := stEq25
  unfold stEq at h
  split at h
  · rename_i fs hu
    cases hg : (Try.prog.stoodInHeld 25 || Try.prog.eqGuardType Try.prog.depth 25) with
    | true => rw [hg] at h; cases h
    | false =>
      rw [hg] at h
      have hfl : afieldList fs = [(3, 0), (9, 1)] := by simpa using h
      simp only [Bool.or_eq_false_iff] at hg
      have h3 : ∀ d, aeq Try.prog (d + 1) 3 (.int .i64 a) (.int .i64 b) = some (decide (a = b)) := fun d => by
        unfold aeq
        simp only [und3]
        simp [intBeq_eq, beq_dec]
      have h9 : ∀ d, aeq Try.prog (d + 1) 9 (.str p) (.str q) = some (decide (p = q)) := fun d => by
        unfold aeq
        simp only [und9]
        simp [lbeq_nat]
      have hall : ∀ d, aeq Try.prog (d + 1 + 1) 25 (.agg [.int .i64 a, .str p]) (.agg [.int .i64 b, .str q]) = some (decide (a = b) && decide (p = q)) := by
        intro d
        unfold aeq
        simp only [hu, hg.1, cond_false, hfl]
        simp only [aeqs, apart_ptK ty3, apart_ptK ty9, ptK]
        have e1 := h3 d
        have e2 := h9 d
        by_cases hab : a = b
        · subst hab
          simp [e1, e2]
          by_cases hpq : p = q <;> simp [hpq]
        · simp [e1, hab]
      have key : aeq Try.prog 10000 25 (.agg [.int .i64 a, .str p]) (.agg [.int .i64 b, .str q]) = some (decide (a = b) && decide (p = q)) := hall 9998
      simp only [abin, aguard, hg.2, key]
      rfl
  · cases h

def partI (x : Int × List Nat) : AV := .agg [.int .i64 x.1, .str x.2]
theorem partI_len (x : Int × List Nat) : (partI x).cells.length = 2 := rfl
theorem und_partI {n : Nat} (l : List (Int × List Nat)) : ∀ x ∈ l.map partI, UnderE n x := fun x hx => by obtain ⟨a, _, rfl⟩ := List.mem_map.1 hx; exact ⟨2, rfl⟩
theorem sameParts_ok (a b : AV) (xs ys : List (Int × List Nat)) (ha : Sl a (xs.map partI)) (hb : Sl b (ys.map partI)) : Abs.Returns Try.prog 13 [a, b] (.bool (decide (xs = ys))) := by
  have hla := ha.2
  have hlb := hb.2
  simp only [List.length_map] at hla hlb
  refine returns_wk (L := []) elist_nil noHint (by kernel_rfl) Try.func13 Try.ntmps13 Try.results13 rfl rfl (und_all_cons (und_sl ha (und_partI _)).und (und_all_cons (und_sl hb (und_partI _)).und und_all_nil)) und_bool ?_
  have hc : (((xs.length : Nat) : Int) = (ys.length : Nat)) = (xs.length = ys.length) := propext (by omega)
  simp (config := {contextual := true, decide := true}) only [↓ wpre, ↓ wval, wpost, wint, wlog, wcell, wop, tf, ha.len, hb.len, List.length_map, hc]
  refine ⟨fun h => ?_, fun h => ?_⟩
  · rw [decide_eq_false]; rintro rfl; exact h rfl
  refine Wk_loop (fun i e => ∃ t, e = ⟨26, none, 13, t, [], ⟨0, 0, .leaf⟩, .no⟩ ∧ t.val 0 = a ∧ t.val 1 = b ∧ t.val 5 = .int .i64 (i : Nat) ∧ i ≤ xs.length ∧ ∀ j, j < i → xs.getD j default = ys.getD j default) (fun i => xs.length - i) 0
    ⟨_, rfl, by simp (config := {decide := true}) only [↓ wval, wint, wlog], by simp (config := {decide := true}) only [↓ wval, wint, wlog], by simp (config := {decide := true}) only [↓ wval, wint]; rfl, Nat.zero_le _, fun j hj => by omega⟩ ?_
  rintro i _ ⟨t, rfl, h0, h1, h5, hi, hpre⟩
  by_cases hlt : i < xs.length
  · have d1 : (i : Int) < (xs.length : Nat) := by omega
    have d2 : (i : Int) < (ys.length : Nat) := by omega
    have d3 : (0 : Int) ≤ i := by omega
    have d4 : ((i : Int)).toNat = i := by omega
    have d5 := wrap_succ (i := i) (by omega)
    simp (config := {contextual := true, decide := true}) only [↓ wpre, ↓ wval, wpost, wint, wlog, wcell, wop, wdr, wdr2, wloop, tf, ha.len, hb.len, ha.idx, hb.idx, List.length_map, h0, h1, h5, d1, d2, d3, d4, idxF_map partI_len, partI, pfC_agg, part_neq, d5]
    refine ⟨fun hne => ?_, fun he => ⟨i + 1, by show _ - _ < _ - _; omega, _, rfl, by simp (config := {decide := true}) only [↓ wval, h0], by simp (config := {decide := true}) only [↓ wval, h1], by simp only [↓ wval], hlt, fun j hj => ?_⟩⟩
    · rw [decide_eq_false]; rintro rfl; simp at hne
    · rcases Nat.lt_succ_iff_lt_or_eq.1 hj with hj | rfl
      · exact hpre j hj
      · simp only [Bool.and_eq_true, decide_eq_true_eq] at he
        exact Prod.ext he.1 he.2
  · have d1 : ¬ (i : Int) < (xs.length : Nat) := by omega
    simp (config := {contextual := true, decide := true}) only [↓ wpre, ↓ wval, wpost, wint, wlog, wcell, wop, wloop, tf, ha.len, hb.len, List.length_map, h0, h1, h5, d1]
    rw [decide_eq_true]
    exact list_ext_getD h fun j hj => hpre j (by omega)

end
end Go.Proofs.Ytajngkkihadgfaa
