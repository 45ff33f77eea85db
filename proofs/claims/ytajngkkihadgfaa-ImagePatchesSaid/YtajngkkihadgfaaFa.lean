/-
  The layer of images: pages and their checks.
-/
import Derived.Test.YtajngkkihadgfaaEn
import Derived.Test.YtajngkkihadgfaaTf
import Derived.Test.YtajngkkihadgfaaEo
set_option linter.unusedVariables false
set_option linter.unusedSimpArgs false

namespace Go.Proofs.Ytajngkkihadgfaa
open Go.Abs Go Go.Abs.TryF
noncomputable section
set_option maxRecDepth 10000

theorem i64_nat {n : Nat} (h : n < 9223372036854775808) : IntKind.i64.wrap (n : Int) = (n : Int) := IntWalk.i64_in _ (by omega)
theorem wrap_succ {i : Nat} (h : i < 9223372036854775807) : IntKind.i64.wrap ((i : Int) + 1) = ((i + 1 : Nat) : Int) := by rw [IntWalk.i64_in _ (by omega)]; rfl
theorem u8_wrap (n : Int) : IntKind.u8.wrap n = n % 256 := by simp [IntKind.wrap, IntKind.bits, IntKind.signed]
theorem tmod_nat {n m : Nat} : Int.tmod (n : Int) (m : Int) = ((n % m : Nat) : Int) := by rw [Int.tmod_eq_emod_of_nonneg (by omega)]; simp
theorem u8_nat {a : Nat} : IntKind.u8.wrap (a : Int) = ((a % 256 : Nat) : Int) := by rw [u8_wrap]; simp
theorem shr8 {a : Nat} (h : a < 65536) : IntKind.u8.wrap (Int.fdiv (a : Int) (2 ^ min 8 IntKind.i64.bits)) = ((a / 256 : Nat) : Int) := by
  have : (2 : Int) ^ min 8 IntKind.i64.bits = 256 := by decide
  rw [this, Int.fdiv_eq_ediv_of_nonneg _ (by omega), u8_wrap]; omega
def encN (n : Nat) : AV := .int .i64 (n : Nat)
theorem getD_lt {α : Type} {l : List α} {i : Nat} {d : α} (h : i < l.length) : l.getD i d = l[i] := by simp [List.getD_eq_getElem?_getD, h]

/-- how many pages -/
def counted (s : List Nat) : Nat := if s.length % 32 ≠ 0 ∨ 256 < s.length / 32 then 0 else s.length / 32
theorem counted_ok (s : List Nat) (hs : s.length < 9223372036854775808) : Abs.Returns Try.prog 32 [.str s] (.int .i64 (counted s : Nat)) := by
  refine returns_wk (L := []) elist_nil noHint (by kernel_rfl) Try.func32 Try.ntmps32 Try.results32 rfl rfl (und_all_cons und_str und_all_nil) und_int ?_
  have e1 : IntKind.i64.wrap (Int.tdiv (s.length : Nat) 32) = ((s.length / 32 : Nat) : Int) := by
    rw [Int.tdiv_eq_ediv_of_nonneg (by omega), IntWalk.i64_in _ (by omega)]; omega
  have e2 : Int.tmod ((s.length : Nat) : Int) 32 = ((s.length % 32 : Nat) : Int) := by
    rw [Int.tmod_eq_emod_of_nonneg (by omega)]; omega
  simp (config := {contextual := true, decide := true}) only [↓ wpre, ↓ wval, wpost, wint, wlog, wcell, wop, wdr, wdr2, tf, e1, e2]
  unfold counted
  by_cases h1 : s.length % 32 = 0
  · by_cases h2 : 256 < s.length / 32
    · simp [h1, h2]; omega
    · simp [h1, h2]; omega
  · simp [h1]; omega

/-- a page's check: the remainders of its two sums -/
def step (x : Nat × Nat) (c : Nat) : Nat × Nat := ((x.1 + c) % 257, (x.2 + (x.1 + c) % 257) % 257)
def sums (n : Nat) (l : List Nat) : Nat × Nat := l.foldl step (n + 1, 0)
def check (n : Nat) (p : List Nat) : List Nat := [(sums n (p.take 28)).1 / 256, (sums n (p.take 28)).1 % 256, (sums n (p.take 28)).2 / 256, (sums n (p.take 28)).2 % 256]
theorem step_lt (x : Nat × Nat) (c : Nat) : (step x c).1 < 257 ∧ (step x c).2 < 257 := ⟨Nat.mod_lt _ (by omega), Nat.mod_lt _ (by omega)⟩

theorem check_ok (p : List Nat) (n : Nat) (hp : p.length = 32) (hb : ∀ b ∈ p, b < 256) (hn : n < 4611686018427387904) : Abs.Returns Try.prog 63 [.agg (p.map encB), .int .i64 (n : Nat)] (.agg ((check n p).map encB)) := by
  refine returns_wk (L := []) elist_nil noHint (by kernel_rfl) Try.func63 Try.ntmps63 Try.results63 rfl rfl (und_all_cons (und_agg (by simp only [List.mem_map]; rintro x ⟨b, _, rfl⟩; exact und_encB b)) (und_all_cons und_int und_all_nil)) (und_agg (by simp only [List.mem_map]; rintro x ⟨b, _, rfl⟩; exact und_encB b)) ?_
  simp (config := {contextual := true, decide := true}) only [↓ wpre, ↓ wval, wpost, wint, wlog, wcell, wop, wop2, wdr, wdr2, tf, hp, wrap_succ (show n < 9223372036854775807 by omega), Int.reduceToNat, Nat.reduceAdd]
  have hlen : (p.take 28).length = 28 := by simp [hp]
  let S : Nat → Nat × Nat := fun i => (p.take i).foldl step (n + 1, 0)
  have hS1 : ∀ i, (S i).1 < 4611686018427387905 := by
    intro i
    cases i with
    | zero => simp only [S, List.take_zero, List.foldl_nil]; omega
    | succ i =>
      by_cases hi : i < p.length
      · simp only [S, List.take_succ_eq_append_getElem hi, List.foldl_append, List.foldl_cons, List.foldl_nil]
        have := (step_lt ((p.take i).foldl step (n + 1, 0)) p[i]).1; omega
      · have e1 : p.take (i + 1) = p.take 31 ++ [p.getD 31 0] := by
          rw [List.take_of_length_le (by omega), getD_lt (show 31 < p.length by omega)]
          have := List.take_succ_eq_append_getElem (show 31 < p.length by omega)
          rw [← this, List.take_of_length_le (by omega)]
        simp only [S, e1, List.foldl_append, List.foldl_cons, List.foldl_nil]
        have := (step_lt ((p.take 31).foldl step (n + 1, 0)) (p.getD 31 0)).1; omega
  have hS2 : ∀ i, i ≤ 28 → (S i).2 < 257 := by
    intro i hi
    cases i with
    | zero => simp only [S, List.take_zero, List.foldl_nil]; omega
    | succ i =>
      have hi' : i < p.length := by omega
      simp only [S, List.take_succ_eq_append_getElem hi', List.foldl_append, List.foldl_cons, List.foldl_nil]
      exact (step_lt ((p.take i).foldl step (n + 1, 0)) p[i]).2
  have hSs : ∀ i, i < 28 → S (i + 1) = step (S i) (p.getD i 0) := by
    intro i hi
    have hi' : i < p.length := by omega
    simp only [S, List.take_succ_eq_append_getElem hi', List.foldl_append, List.foldl_cons, List.foldl_nil, getD_lt hi']
  refine Wk_loop (fun i e => ∃ t, e = ⟨38, none, 63, t, [], ⟨2, 0, (Tr.leaf.set 0 (obg 0 (List.map encB p))).set 1 (obg 0 [AV.int IntKind.u8 0, AV.int IntKind.u8 0, AV.int IntKind.u8 0, AV.int IntKind.u8 0])⟩, .no⟩ ∧ t.val 4 = .ptr 1 0 0 ∧ t.val 5 = .int .i64 ((S i).1 : Nat) ∧ t.val 6 = .int .i64 ((S i).2 : Nat) ∧ t.val 11 = .sl 0 0 0 28 (.is 32) ∧ t.val 12 = .int .i64 (28 : Nat) ∧ t.val 13 = .int .i64 (i : Nat) ∧ i ≤ 28) (fun i => 28 - i) 0
    ⟨_, rfl, by simp (config := {decide := true}) only [↓ wval], by simp (config := {decide := true}) only [↓ wval]; rfl, by simp (config := {decide := true}) only [↓ wval]; rfl, by simp (config := {decide := true}) only [↓ wval], by simp (config := {decide := true}) only [↓ wval], by simp (config := {decide := true}) only [↓ wval]; rfl, by omega⟩ ?_
  rintro i _ ⟨t, rfl, h4, h5, h6, h11, h12, h13, hi⟩
  by_cases hlt : i < 28
  · have d1 : (i : Int) < (28 : Nat) := by omega
    have d3 : (0 : Int) ≤ i := by omega
    have d4 : ((i : Int)).toNat = i := by omega
    have d5 := wrap_succ (i := i) (by omega)
    have d6 : (p.map encB)[i]? = some (encB (p.getD i 0)) := by
      have hi' : i < p.length := by omega
      simp [hi']
    have hc : p.getD i 0 < 256 := by rw [getD_lt (show i < p.length by omega)]; exact hb _ (List.getElem_mem _)
    have q1 := hS1 i
    have q2 := hS2 i (by omega)
    have e1 : IntKind.i64.wrap ((p.getD i 0 : Nat) : Int) = ((p.getD i 0 : Nat) : Int) := i64_nat (by omega)
    have e2 : IntKind.i64.wrap (((S i).1 : Nat) + ((p.getD i 0 : Nat) : Int)) = (((S i).1 + p.getD i 0 : Nat) : Int) := by rw [← Int.natCast_add]; exact i64_nat (by omega)
    have e3 : Int.tmod (((S i).1 + p.getD i 0 : Nat) : Int) 257 = (((S i).1 + p.getD i 0) % 257 : Nat) := tmod_nat
    have e4 : IntKind.i64.wrap (((S i).2 : Nat) + ((((S i).1 + p.getD i 0) % 257 : Nat) : Int)) = (((S i).2 + ((S i).1 + p.getD i 0) % 257 : Nat) : Int) := by rw [← Int.natCast_add]; exact i64_nat (by omega)
    have e5 : Int.tmod (((S i).2 + ((S i).1 + p.getD i 0) % 257 : Nat) : Int) 257 = (((S i).2 + ((S i).1 + p.getD i 0) % 257) % 257 : Nat) := tmod_nat
    simp (config := {contextual := true, decide := true}) only [↓ wpre, ↓ wval, wpost, wint, wlog, wcell, wop, wop2, wdr, wdr2, wloop, tf, hp, h4, h5, h6, h11, h12, h13, d1, d3, d4, d5, d6, Int.reduceToNat, Nat.reduceAdd, Nat.zero_add, Nat.mul_one, encB, e1, e2, e3, e4, e5]
    exact ⟨i + 1, by show _ - _ < _ - _; omega, _, rfl, by simp (config := {decide := true}) only [↓ wval, h4], by simp (config := {decide := true}) only [↓ wval, hSs i hlt, step], by simp (config := {decide := true}) only [↓ wval, hSs i hlt, step],
      by simp (config := {decide := true}) only [↓ wval, h11], by simp (config := {decide := true}) only [↓ wval, h12], by simp (config := {decide := true}) only [↓ wval], hlt⟩
  · have : i = 28 := by omega
    subst this
    simp (config := {contextual := true, decide := true}) only [↓ wpre, ↓ wval, wpost, wint, wlog, wcell, wop, wop2, wdr, wdr2, wloop, tf, hp, h4, h5, h6, h11, h12, h13, Int.reduceToNat, Nat.reduceAdd, Nat.zero_add, Nat.mul_one, abin_shr, dresults_cell, Option.bind_some]
    have k1 : (S 28).1 < 257 := by rw [hSs 27 (by omega)]; exact (step_lt _ _).1
    have k2 := hS2 28 (by omega)
    show AV.agg _ = AV.agg (List.map encB [(S 28).1 / 256, (S 28).1 % 256, (S 28).2 / 256, (S 28).2 % 256])
    simp only [List.map_cons, List.map_nil, encB, shr8 (show (S 28).1 < 65536 by omega), shr8 (show (S 28).2 < 65536 by omega), u8_nat]

/-- a page is right -/
def right (n : Nat) (p : List Nat) : Bool := decide (check n p = p.drop 28)
theorem eq124 : eqAK Try.prog 124 = some (4, .u8) := by kernel_rfl
theorem lslice_28 {p : List Nat} (hp : p.length = 32) : lslice p 28 4 = p.drop 28 := by
  unfold lslice; rw [List.take_of_length_le]; simp [hp]
theorem lslice_self {p : List Nat} {n : Nat} (hp : p.length = n) : lslice p 0 n = p := by
  unfold lslice; rw [List.drop_zero, List.take_of_length_le (by omega)]
theorem enc_ints (l : List Nat) : l.map encB = (l.map Int.ofNat).map (.int .u8) := by rw [List.map_map]; rfl
theorem map_ofNat {l m : List Nat} : (l.map Int.ofNat = m.map Int.ofNat) = (l = m) := propext (List.map_inj_right fun _ _ => Int.ofNat.inj)
theorem eq_pages {p q : List Nat} (hp : p.length = 4) (hq : q.length = 4) {x y : Operand} : abin Try.prog .eql 124 x y (.agg (p.map encB)) (.agg (q.map encB)) = some (.bool (decide (p = q))) := by
  rw [enc_ints, enc_ints, abin_arr eq124 (by simpa using hp) (by simpa using hq)]
  simp only [map_ofNat]
theorem right_ok (p : List Nat) (n : Nat) (hp : p.length = 32) (hb : ∀ b ∈ p, b < 256) (hn : n < 4611686018427387904) : Abs.Returns Try.prog 37 [.agg (p.map encB), .int .i64 (n : Nat)] (.bool (right n p)) := by
  refine returns_wk (L := [ent1 63 [.agg (p.map encB), .int .i64 (n : Nat)] (.agg ((check n p).map encB))]) (elist_cons (ent1_ok (check_ok p n hp hb hn)) elist_nil) (fun _ => ([2], [])) (by kernel_rfl) Try.func37 Try.ntmps37 Try.results37 rfl rfl (und_all_cons (und_agg (by simp only [List.mem_map]; rintro x ⟨b, _, rfl⟩; exact und_encB b)) (und_all_cons und_int und_all_nil)) und_bool ?_
  simp (config := {contextual := true, decide := true}) only [↓ wpre, ↓ wval, wpost, wint, wlog, wcell, wop, wop2, wdr, wdr2, tf, hp, Int.reduceToNat, Nat.reduceAdd, Nat.reduceSub, Nat.zero_add, Nat.mul_one, ent1_same, lslice_28, lslice_self, eq_pages (show (check n p).length = 4 from rfl) (show (p.drop 28).length = 4 by simp [hp])]
  rfl


/-- the function that goes through a string's pages -/
def pagesF (s : List Nat) : AV := .func (.func 62) [] [.pf (.str s)]
theorem pages_ok (s : List Nat) : Abs.Returns Try.prog 33 [.str s] (pagesF s) := by
  refine returns_wkF (L := []) elist_nil noHint (by kernel_rfl) Try.func33 Try.ntmps33 Try.results33 rfl rfl (und_all_cons und_str und_all_nil) ?_
  simp (config := {contextual := true, decide := true}) only [↓ wpre, ↓ wval, wpost, wint, wlog, wcell, wop, wop2, wdr, wdr2, tf, Nat.reduceAdd]
  exact .func _ _ _ _ _ rfl rfl frz_all_nil (frz_all_cons (frz_ptr (g := 0) (cs := [.str s]) (Nat.le_refl _) rfl (Nat.le_refl _) (fun j x y hx hy => by
    cases j with
    | zero => simp [AV.cells] at hx hy; subst hx; subst hy; exact .und _ und_str
    | succ j => simp [AV.cells] at hy)) frz_all_nil)

def pageOf (s : List Nat) (i : Nat) : List Nat := lslice s (i * 32) 32
def rows (s : List Nat) : List (List AV) := (List.range (counted s)).map fun i => [.int .i64 (i : Nat), .agg ((pageOf s i).map encB)]
theorem counted_le {s : List Nat} {i : Nat} (h : i < counted s) : i * 32 + 32 ≤ s.length ∧ i < 256 := by
  unfold counted at h
  split at h <;> omega
theorem pageOf_len {s : List Nat} {i : Nat} (h : i < counted s) : (pageOf s i).length = 32 := by
  have := (counted_le h).1
  simp [pageOf, lslice]; omega
theorem pageOf_lt {s : List Nat} (hb : ∀ b ∈ s, b < 256) (i : Nat) : ∀ b ∈ pageOf s i, b < 256 := fun b h => hb b (List.mem_of_mem_drop (List.mem_of_mem_take h))
theorem pages_iter (s : List Nat) (hs : s.length < 9223372036854775808) {O : Orc} (h32 : ∀ σ, O 32 [.str s] σ = some (.ret (.int .i64 (counted s : Nat)) none)) (h62 : ∀ a σ, O 62 a σ = none) : Iter Try.prog O (pagesF s) (rows s) := by
  intro l J D X σ hl hJs hDs hXs hJ0 hr
  have hrow : (rows s).length = counted s := by simp [rows]
  refine Wcall_run (h62 _ _) (by kernel_rfl) Try.func62 rfl (Wk.sound (H := noHint) ?_)
  rw [hrow]
  show Wk _ _ _ _ ⟨24, none, 62, Tr.leaf.lay 0 [.func (.yield l) [] [], .pf (.str s)], [], ⟨σ.n, σ.n, σ.o⟩, .no⟩ _
  simp (config := {contextual := true, decide := true}) only [↓ wpre, ↓ wval, wpost, wint, wlog, wcell, wop, wop2, wdr, wdr2, tf, Nat.reduceAdd, h32, isCell_str]
  refine Wk_loop (fun i e => ∃ t u, e = ⟨24, none, 62, t, [], u, .no⟩ ∧ t.val 0 = .func (.yield l) [] [] ∧ t.val 1 = .pf (.str s) ∧ t.val 5 = .int .i64 (counted s : Nat) ∧ t.val 6 = .int .i64 (i : Nat) ∧ i ≤ counted s ∧ l < u.n ∧ J i u ∧ (i = 0 ∨ u.low ≤ l)) (fun i => counted s - i) 0
    ⟨_, _, rfl, by simp (config := {decide := true}) only [↓ wval, wint, wlog], by simp (config := {decide := true}) only [↓ wval, wint, wlog], by simp (config := {decide := true}) only [↓ wval, wint], by simp (config := {decide := true}) only [↓ wval, wint]; rfl, Nat.zero_le _, hl, hJs _ _ _ (Sim.low σ σ.n) hJ0, .inl rfl⟩ ?_
  rintro i _ ⟨t, ⟨n, low, o⟩, rfl, h0, h1, h5, h6, hi, hln, hJ, hlow⟩
  by_cases hlt : i < counted s
  · have hle := counted_le hlt
    have d1 : (i : Int) < (counted s : Nat) := by omega
    have e1 : IntKind.i64.wrap ((i : Int) * 32) = ((i * 32 : Nat) : Int) := by rw [IntWalk.i64_in _ (by omega)]; simp
    have e2 : IntKind.i64.wrap (((i + 1 : Nat) : Int) * 32) = (((i + 1) * 32 : Nat) : Int) := by rw [IntWalk.i64_in _ (by omega)]; simp
    have d5 := wrap_succ (i := i) (by omega)
    have f1 : (0 : Int) ≤ ((i * 32 : Nat) : Int) := by omega
    have f2 : ((i * 32 : Nat) : Int) ≤ (((i + 1) * 32 : Nat) : Int) := by omega
    have f3 : (((i + 1) * 32 : Nat) : Int) ≤ (s.length : Nat) := by omega
    have f4 : lslice s (((i * 32 : Nat) : Int)).toNat ((((i + 1) * 32 : Nat) : Int).toNat - (((i * 32 : Nat) : Int)).toNat) = pageOf s i := by
      rw [Int.toNat_natCast, Int.toNat_natCast, pageOf]; congr 1; omega
    have hp := pageOf_len hlt
    have dn : n < n + 1 := Nat.lt_succ_self n
    simp (config := {contextual := true, decide := true}) only [↓ wpre, ↓ wval, wpost, wint, wlog, wcell, wop, wop2, wdr, wdr2, wloop, tf, Nat.reduceAdd, Nat.zero_add, isCell_str, h0, h1, h5, h6, d1, e1, e2, d5, f1, f2, f3, f4, hp, dn, lslice_self]
    have hcall := hr i [.int .i64 (i : Nat), .agg ((pageOf s i).map encB)] (by simp [rows, hlt]) ((Sto.mk n low o).push (obg 0 ((pageOf s i).map encB))) (Nat.lt_succ_of_lt hln) (hJs _ _ _ (Sim.push _ _) hJ)
    refine hcall.mono fun res hk => ?_
    have hk' : rK l J D X i ⟨n + 1, low, o.set n (obg 0 ((pageOf s i).map encB))⟩ res := hk
    clear hk hcall
    cases res with
    | pan v so =>
      rw [callK_putP]
      have k : (so.getD ⟨n + 1, low, o.set n (obg 0 ((pageOf s i).map encB))⟩).low ≤ l ∧ X v (so.getD ⟨n + 1, low, o.set n (obg 0 ((pageOf s i).map encB))⟩) := hk'
      generalize so.getD ⟨n + 1, low, o.set n (obg 0 ((pageOf s i).map encB))⟩ = u at *
      simp (config := {contextual := true, decide := true}) only [↓ wpre, ↓ wval, wpost, wint, wlog, wloop]
      exact Lv_pan rfl (close_of _ _ _ (X v) (hXs v) k.2 (.inl (Nat.lt_of_le_of_lt k.1 hl)))
    | ret v so =>
      rw [callK_put]
      have k : (v = .bool true ∧ (so.getD ⟨n + 1, low, o.set n (obg 0 ((pageOf s i).map encB))⟩).low ≤ l ∧ l < (so.getD ⟨n + 1, low, o.set n (obg 0 ((pageOf s i).map encB))⟩).n ∧ J (i + 1) (so.getD ⟨n + 1, low, o.set n (obg 0 ((pageOf s i).map encB))⟩)) ∨ (v = .bool false ∧ (so.getD ⟨n + 1, low, o.set n (obg 0 ((pageOf s i).map encB))⟩).low ≤ l ∧ D (so.getD ⟨n + 1, low, o.set n (obg 0 ((pageOf s i).map encB))⟩)) := by
        cases v with
        | bool b => cases b with
          | true => exact .inl ⟨rfl, hk'⟩
          | false => exact .inr ⟨rfl, hk'⟩
        | _ => exact hk'.elim
      generalize so.getD ⟨n + 1, low, o.set n (obg 0 ((pageOf s i).map encB))⟩ = u at *
      rcases k with ⟨rfl, k1, k0, k2⟩ | ⟨rfl, k1, k2⟩
      · simp (config := {contextual := true, decide := true}) only [↓ wpre, ↓ wval, wpost, wint, wlog, wloop, Nat.reduceAdd, h6, d5]
        exact ⟨i + 1, by show _ - _ < _ - _; omega, _, _, rfl, by simp (config := {decide := true}) only [↓ wval, h0], by simp (config := {decide := true}) only [↓ wval, h1], by simp (config := {decide := true}) only [↓ wval, h5], by simp (config := {decide := true}) only [↓ wval], hlt, k0, k2, .inr k1⟩
      · simp (config := {contextual := true, decide := true}) only [↓ wpre, ↓ wval, wpost, wint, wlog, wloop, Nat.reduceAdd, h6, d5]
        exact Lv_ret rfl (vs := []) rfl (.inr (close_of _ _ _ D hDs k2 (.inl (Nat.lt_of_le_of_lt k1 hl))))
  · have d1 : ¬ (i : Int) < (counted s : Nat) := by omega
    simp (config := {contextual := true, decide := true}) only [↓ wpre, ↓ wval, wpost, wint, wlog, wloop, Nat.reduceAdd, h5, h6, d1]
    have hic : i = counted s := by omega
    refine Lv_ret rfl (vs := []) rfl (.inl (close_of _ _ _ (J (counted s)) (hJs _) (hic ▸ hJ) ?_))
    rcases hlow with h | h
    · refine .inr ?_
      rw [← hic, h]; exact hJ0
    · exact .inl (Nat.lt_of_le_of_lt h hl)

end
end Go.Proofs.Ytajngkkihadgfaa

/-
  The layer of images: the pages that are not right.
-/

namespace Go.Proofs.Ytajngkkihadgfaa
open Go.Abs Go Go.Abs.TryF
noncomputable section
set_option maxRecDepth 10000

def badTo (s : List Nat) (i : Nat) : List Nat := (List.range i).filter fun i => !right i (pageOf s i)
def bad (s : List Nat) : List Nat := badTo s (counted s)
/-- a slice of integers that was appended to nil -/
def slOf (l : List Nat) : AV := if l = [] then .nils else .fz (l.map encN) false
theorem encN_cell (l : List Nat) : ∀ x ∈ l.map encN, x.isCell = true := by simp only [List.mem_map]; rintro x ⟨b, _, rfl⟩; rfl
def badV (s : List Nat) : AV := if counted s = 0 then .tuple [.nils, .int .i64 2] else .tuple [slOf (bad s), .int .i64 0]
theorem badTo_succ (s : List Nat) (i : Nat) : badTo s (i + 1) = badTo s i ++ (if right i (pageOf s i) then [] else [i]) := by
  simp only [badTo, List.range_succ, List.filter_append]
  cases h : right i (pageOf s i) <;> simp [h]
theorem badTo_len (s : List Nat) (i : Nat) : (badTo s i).length ≤ i := by
  have := List.length_filter_le (fun i => !right i (pageOf s i)) (List.range i)
  simpa [badTo] using this

/-- a list that is kept in a variable, appended to by and by -/
def Acc (u : Sto) (c : Nat) (k : Nat) (l : List AV) : Prop := ∃ v, u.get c = some (obg 0 [v]) ∧ (l = [] ∧ v = .nils ∨ l ≠ [] ∧ ∃ id g, v = .sl id g 0 l.length (.room 1) ∧ u.get id = some (obg g l) ∧ k < id)
theorem Acc.sim {l' : Nat} {u u' : Sto} {c k : Nat} {l : List AV} (h : SimX l' u u') (hc : c ≠ l') (hk : l' ≤ k) (ha : Acc u c k l) : Acc u' c k l := by
  obtain ⟨v, h1, h2⟩ := ha
  refine ⟨v, h.get h1 hc, ?_⟩
  rcases h2 with h2 | ⟨h0, id, g, rfl, h3, h4⟩
  · exact .inl h2
  · exact .inr ⟨h0, id, g, rfl, h.get h3 (by omega), h4⟩

theorem Acc.new {u : Sto} {c k id g m : Nat} {l : List AV} (h1 : u.get c = some (obg 0 [.sl id g 0 m (.room 1)])) (h2 : u.get id = some (obg g l)) (hm : m = l.length) (hl : l ≠ []) (hk : k < id) : Acc u c k l :=
  ⟨_, h1, .inr ⟨hl, id, g, by rw [hm], h2, hk⟩⟩
theorem Acc.nil {u : Sto} {c k : Nat} (h1 : u.get c = some (obg 0 [.nils])) : Acc u c k [] := ⟨_, h1, .inl ⟨rfl, rfl⟩⟩

def L15 (s : List Nat) : List Ent := [ent1 32 [.str s] (.int .i64 (counted s : Nat)), ent1 33 [.str s] (pagesF s),
  entF 37 (fun x : { x : List Nat × Nat // x.1.length = 32 ∧ (∀ b ∈ x.1, b < 256) ∧ x.2 < 4611686018427387904 } => [.agg (x.1.1.map encB), .int .i64 (x.1.2 : Nat)]) fun x => .bool (right x.1.2 x.1.1)]
theorem encB_inj {l m : List Nat} (h : l.map encB = m.map encB) : l = m := (List.map_inj_right (fun _ _ h => by simp only [encB, AV.int.injEq] at h; omega)).1 h
theorem L15_37 (s p : List Nat) (n : Nat) (hp : p.length = 32) (hb : ∀ b ∈ p, b < 256) (hn : n < 4611686018427387904) (u : Sto) : orcL (L15 s) 37 [.agg (p.map encB), .int .i64 (n : Nat)] u = some (.ret (.bool (right n p)) none) := by
  rw [L15, ent1_ne (show (32 : Nat) ≠ 37 by decide), ent1_ne (show (33 : Nat) ≠ 37 by decide)]
  refine entF_same (A := fun x : { x : List Nat × Nat // x.1.length = 32 ∧ (∀ b ∈ x.1, b < 256) ∧ x.2 < 4611686018427387904 } => [.agg (x.1.1.map encB), .int .i64 (x.1.2 : Nat)]) ?_ ⟨(p, n), hp, hb, hn⟩
  rintro ⟨⟨p, n⟩, _⟩ ⟨⟨q, m⟩, _⟩ h
  simp only [List.cons.injEq, AV.agg.injEq, AV.int.injEq, and_true, true_and] at h
  have h1 := encB_inj h.1
  have h2 : n = m := by omega
  subst h1; subst h2; rfl

theorem bad_ok (s : List Nat) (hs : s.length < 9223372036854775808) (hb : ∀ b ∈ s, b < 256) : Abs.Returns Try.prog 15 [.str s] (badV s) := by
  refine returns_lv (L := L15 s) (elist_cons (ent1_ok (counted_ok s hs)) (elist_cons (ent1_ok (pages_ok s)) (elist_cons (entF_ok fun x => right_ok x.1.1 x.1.2 x.2.1 x.2.2.1 x.2.2.2) elist_nil))) noHint (by kernel_rfl) Try.func15 Try.ntmps15 Try.results15 rfl rfl (und_all_cons und_str und_all_nil) ?_
  have h32 : ∀ u, orcL (L15 s) 32 [.str s] u = some (.ret (.int .i64 (counted s : Nat)) none) := fun u => ent1_same
  have h33 : ∀ u, orcL (L15 s) 33 [.str s] u = some (.ret (pagesF s) none) := fun u => by rw [L15, ent1_ne (show (32 : Nat) ≠ 33 by decide)]; exact ent1_same
  have hd : ((counted s : Nat) : Int) = 0 ↔ counted s = 0 := by omega
  simp (config := {contextual := true, decide := true}) only [↓ wpre, ↓ wval, wpost, wint, wlog, wcell, wop, wop2, wdr, wdr2, wrng, tf, Nat.reduceAdd, h32, h33, isCell_str, hd]
  refine ⟨fun h0 => ?_, fun h0 => ?_⟩
  · rw [badV, if_pos h0]
    exact .und _ (und_tuple (und_all_cons und_nils (und_all_cons und_int und_all_nil)))
  · refine W_range (xs := rows s) (fun i u => Acc u 0 2 ((badTo s i).map encN)) (fun _ _ => False) (fun _ _ => False) ?_ (fun i u u' h ha => Acc.sim h (by decide) (by decide) ha) (fun _ _ _ _ h => h) (fun _ _ _ _ h => h) (fun _ _ h => h.elim) ⟨.nils, rfl, .inl ⟨rfl, rfl⟩⟩ ?_ ?_ (fun _ _ _ h => h.elim) (fun _ _ _ _ h => h.elim) (fun _ _ h => h.elim)
    · simp (config := {decide := true}) only [↓ wval]
      exact pages_iter s hs h32 (fun a u => rfl)
    · rintro i x hx ⟨n, low, o⟩ hn hg1 hg2 ⟨v, hv, hacc⟩
      have hi : i < counted s := by
        have := (List.getElem?_eq_some_iff.1 hx).1
        simpa [rows] using this
      have hx' : x = [.int .i64 (i : Nat), .agg ((pageOf s i).map encB)] := by
        simp [rows, hi] at hx; exact hx.symm
      subst hx'
      have hp := pageOf_len hi
      have hi2 := (counted_le hi).2
      have hn' : 2 < n := hn
      have f0 := frI (i := 0) (n := n) (by omega)
      have f1 := frI (i := 1) (n := n) (by omega)
      have f2 := frI (i := 2) (n := n) (by omega)
      simp (config := {decide := true}) only [Sto.get_mk, f0, f1, f2, wcell, Nat.reduceAdd] at hg1 hg2 hv
      have h37 := L15_37 s (pageOf s i) i hp (pageOf_lt hb i) (by omega)
      have hlen : (badTo s i).length ≤ i := badTo_len s i
      have hsmall : (2 * ((badTo s i).length + 1) + 1024) * 8 ≤ 281474976710656 ∧ (badTo s i).length + 1 < 4611686018427387904 := ⟨by omega, by omega⟩
      refine ⟨_, rfl, ?_⟩
      rcases hacc with ⟨hl, rfl⟩ | ⟨hl, id, g, rfl, hid, hk⟩
      · simp (config := {contextual := true, decide := true}) only [↓ wpre, ↓ wval, wpost, wint, wlog, wcell, wop, wop2, wdr, wdr2, wrng, tf, Nat.reduceAdd, Nat.reduceMul, h37, hp, f0, f1, f2, frN, hg1, hg2, hv, placeK, roundK, rep_all, rep_len, lslice_self, Env.setS, ne_eq]
        clear hg2
        have hnil : badTo s i = [] := List.map_eq_nil_iff.1 hl
        refine ⟨fun hr => ?_, fun hr => ?_⟩
        · have e1 : (badTo s (i + 1)).map encN = [.int .i64 (i : Nat)] := by rw [badTo_succ, hr, hnil]; rfl
          rw [e1]
          refine Acc.new (id := n + 1 + 1) (g := 0) (m := 1) ?_ ?_ rfl (by simp) (by omega)
          · simp (config := {decide := true}) only [↓ wval, wcell, wlog, f0, f1, f2, frN, ne_eq]
          · simp (config := {decide := true}) only [↓ wval, wcell, wlog, f0, f1, f2, frN, ne_eq]
        · have e1 : (badTo s (i + 1)).map encN = [] := by rw [badTo_succ, hr, hnil]; rfl
          rw [e1]
          refine Acc.nil ?_
          simp (config := {decide := true}) only [↓ wval, wcell, wlog, f0, f1, f2, frN, ne_eq, hv]
      · have hidn : id < n := Sto.get_lt hid
        rw [Sto.get_mk hidn] at hid
        have f3 := frI hidn
        have f4 : id ≠ 2 ∧ 2 ≠ id ∧ id ≠ 0 ∧ 0 ≠ id ∧ id ≠ 1 ∧ 1 ≠ id := ⟨by omega, by omega, by omega, by omega, by omega, by omega⟩
        simp (config := {contextual := true, decide := true}) only [↓ wpre, ↓ wval, wpost, wint, wlog, wcell, wop, wop2, wdr, wdr2, wrng, tf, Nat.reduceAdd, Nat.reduceMul, Nat.mul_one, Nat.zero_add, h37, hp, f0, f1, f2, f3, f4, frN, hg1, hg2, hv, hid, hsmall, placeK, roundK, rep_all, rep_len, lslice_self, Env.setS, ne_eq]
        clear hg2
        refine ⟨fun hr => ?_, fun hr => ?_⟩
        · have e1 : (badTo s (i + 1)).map encN = (badTo s i).map encN ++ [.int .i64 (i : Nat)] := by rw [badTo_succ, hr, List.map_append]; rfl
          rw [e1]
          refine Acc.new (id := id) (g := g + 1) (m := (badTo s i).length + 1) ?_ ?_ (by simp) (by simp) hk
          · simp (config := {decide := true}) only [↓ wval, wcell, wlog, f0, f1, f2, f3, f4, frN, ne_eq]
          · simp (config := {decide := true}) only [↓ wval, wcell, wlog, f0, f1, f2, f3, f4, frN, ne_eq]
        · have e1 : (badTo s (i + 1)).map encN = (badTo s i).map encN := by rw [badTo_succ, hr, List.map_append]; simp
          rw [e1]
          refine Acc.new (id := id) (g := g) (m := (badTo s i).length) ?_ ?_ (by simp) hl hk
          · simp (config := {decide := true}) only [↓ wval, wcell, wlog, f0, f1, f2, f3, f4, frN, ne_eq, hv, List.length_map]
          · simp (config := {decide := true}) only [↓ wval, wcell, wlog, f0, f1, f2, f3, f4, frN, ne_eq, hid]
    · rintro ⟨n, low, o⟩ hn hg1 ⟨v, hv, hacc⟩
      have hn' : 2 < n := hn
      have f0 := frI (i := 0) (n := n) (by omega)
      have f1 := frI (i := 1) (n := n) (by omega)
      have f2 := frI (i := 2) (n := n) (by omega)
      have hrow : (rows s).length = counted s := by simp [rows]
      rw [hrow] at hacc
      simp (config := {decide := true}) only [Sto.get_mk, f0, f1, f2, wcell, Nat.reduceAdd] at hg1 hv
      simp (config := {contextual := true, decide := true}) only [↓ wpre, ↓ wval, wpost, wint, wlog, wcell, wop, wop2, wdr, wdr2, wrng, tf, Nat.reduceAdd, Nat.reduceMul, f0, f1, f2, frN, hg1, hv, ne_eq]
      rw [badV, if_neg h0]
      refine .tuple _ _ rfl (frz_all_cons ?_ (frz_all_cons (.und _ und_int) frz_all_nil))
      rcases hacc with ⟨hl, rfl⟩ | ⟨hl, id, g, rfl, hid, hk⟩
      · rw [slOf, if_pos (show bad s = [] from List.map_eq_nil_iff.1 hl)]
        exact .und _ und_nils
      · rw [slOf, if_neg (show bad s ≠ [] from fun h => hl (by rw [show badTo s (counted s) = [] from h]; rfl))]
        have hid' := Sto.get_lt hid
        rw [Sto.get_mk hid'] at hid
        refine frz_sl (g := g) (cs := (bad s).map encN) (Nat.zero_le _) ?_ rfl (by simp [bad]) (encN_cell _) fun j x y hx hy => ?_
        · rw [Sto.get_mk hid', Tr.get_set_ne _ _ (by omega)]; exact hid
        · rw [Nat.zero_add] at hx
          rw [hx] at hy
          cases hy
          simp only [List.getElem?_map, Option.map_eq_some_iff] at hx
          obtain ⟨b, _, rfl⟩ := hx
          exact .und _ und_int

end
end Go.Proofs.Ytajngkkihadgfaa

/-
  Slices compared.
-/

namespace Go.Proofs.Ytajngkkihadgfaa
open Go.Abs Go Go.Abs.TryF
noncomputable section
set_option maxRecDepth 10000

theorem leave_val {O : Orc} {fn : Func} {nt : Nat} {f : FuncId} {t : Tr AV} {s : Sto} {v : AV} {K : CRes → Prop} (hr : dresults Try.prog ⟨nt, none, f, t, [], ⟨s.n, s.n, s.o⟩, .no⟩ fn.results.toList = some [v]) (hu : v.under s.n 100 = true) (h : K (.ret v none)) :
    bodyK Try.prog O fn (clR s fun res _ => K res) .ret ⟨nt, none, f, t, [], ⟨s.n, s.n, s.o⟩, .no⟩ := by
  refine Lv_ret rfl hr ?_
  show K (.ret v (dclose s v _))
  rw [dclose_none (Nat.le_refl _) hu rfl]
  exact h

theorem list_ext_getD {α : Type} {d : α} {l m : List α} (h : l.length = m.length) (h' : ∀ j, j < l.length → l.getD j d = m.getD j d) : l = m := by
  apply List.ext_getElem h
  intro i h1 h2
  have := h' i h1
  rwa [getD_lt h1, getD_lt h2] at this

theorem equalB_run {O : Orc} (ho : ∀ a σ, O 14 a σ = none) {s : Sto} {a b : AV} {xs ys : List Nat} {K : CRes → Prop} (ha : Rd Try.prog s 33 5 a (xs.map encB)) (hb : Rd Try.prog s 33 5 b (ys.map encB)) (hx : xs.length < 4611686018427387904) (hy : ys.length < 4611686018427387904) (hK : K (.ret (.bool (decide (xs = ys))) none)) :
    Wcall Try.prog O (.func (.func 14) [] []) [a, b] s K := by
  refine Wcall_run (ho _ _) (by kernel_rfl) Try.func14 rfl (Wk.sound (H := noHint) ?_)
  show Wk _ _ _ _ ⟨26, none, 14, Tr.leaf.lay 0 [a, b], [], ⟨s.n, s.n, s.o⟩, .no⟩ _
  have hdec : decide (xs.length = ys.length) = decide (xs.length = ys.length) := rfl
  have hc : (((xs.length : Nat) : Int) = (ys.length : Nat)) = (xs.length = ys.length) := propext (by omega)
  simp (config := {contextual := true, decide := true}) only [↓ wpre, ↓ wval, wpost, wint, wlog, wcell, wop, tf, ha.len, hb.len, List.length_map, hc]
  refine ⟨fun h => ?_, fun h => ?_⟩
  · refine leave_val (v := .bool false) (by rw [Try.results14]; simp (config := {decide := true}) only [↓ wval, wint, wlog]) rfl ?_
    rwa [decide_eq_false] at hK
    rintro rfl; exact h rfl
  refine Wk_loop (fun i e => ∃ t, e = ⟨26, none, 14, t, [], ⟨s.n, s.n, s.o⟩, .no⟩ ∧ t.val 0 = a ∧ t.val 1 = b ∧ t.val 12 = .int .i64 (xs.length : Nat) ∧ t.val 13 = .int .i64 (i : Nat) ∧ i ≤ xs.length ∧ ∀ j, j < i → xs.getD j 0 = ys.getD j 0) (fun i => xs.length - i) 0
    ⟨_, rfl, by simp (config := {decide := true}) only [↓ wval, wint, wlog], by simp (config := {decide := true}) only [↓ wval, wint, wlog], by simp (config := {decide := true}) only [↓ wval, wint, wlog]; rw [h], by simp (config := {decide := true}) only [↓ wval, wint, wlog]; rfl, Nat.zero_le _, fun j hj => by omega⟩ ?_
  rintro i _ ⟨t, rfl, h0, h1, h12, h13, hi, hpre⟩
  by_cases hlt : i < xs.length
  · have hlt' : i < ys.length := by omega
    have d1 : (i : Int) < (xs.length : Nat) := by omega
    have d5 := wrap_succ (i := i) (by omega)
    obtain ⟨ad, p1, p2, p3⟩ := ha.at_ i (encB (xs.getD i 0)) (by simp [hlt])
    obtain ⟨bd, q1, q2, q3⟩ := hb.at_ i (encB (ys.getD i 0)) (by simp [hlt'])
    have p4 := p3 ⟨s.n, s.n, s.o⟩ (fun _ _ => rfl)
    have q4 := q3 ⟨s.n, s.n, s.o⟩ (fun _ _ => rfl)
    have hcc : (((xs.getD i 0 : Nat) : Int) = (ys.getD i 0 : Nat)) = (xs.getD i 0 = ys.getD i 0) := propext (by omega)
    simp (config := {contextual := true, decide := true}) only [↓ wpre, ↓ wval, wpost, wint, wlog, wcell, wdr, wdr2, wloop, h0, h1, h12, h13, d1, d5, p1, p2, p4, q1, q2, q4, encB, hcc]
    refine ⟨fun hne => ?_, fun he => ⟨i + 1, by show _ - _ < _ - _; omega, _, rfl, by simp (config := {decide := true}) only [↓ wval, h0], by simp (config := {decide := true}) only [↓ wval, h1], by simp (config := {decide := true}) only [↓ wval, h12], by simp only [↓ wval], hlt, fun j hj => ?_⟩⟩
    · refine leave_val (v := .bool false) (by rw [Try.results14]; simp (config := {decide := true}) only [↓ wval, wint, wlog]) rfl ?_
      rwa [decide_eq_false] at hK
      rintro rfl; exact hne rfl
    · rcases Nat.lt_succ_iff_lt_or_eq.1 hj with hj | rfl
      · exact hpre j hj
      · exact he
  · have d1 : ¬ (i : Int) < (xs.length : Nat) := by omega
    simp (config := {contextual := true, decide := true}) only [↓ wpre, ↓ wval, wpost, wint, wlog, wcell, wloop, h12, h13, d1]
    refine leave_val (v := .bool true) (by rw [Try.results14]; simp (config := {decide := true}) only [↓ wval, wint, wlog]) rfl ?_
    rwa [decide_eq_true] at hK
    exact list_ext_getD (d := 0) h fun j hj => hpre j (by omega)

theorem equalI_run {O : Orc} (ho : ∀ a σ, O 16 a σ = none) {s : Sto} {a b : AV} {xs ys : List Nat} {K : CRes → Prop} (ha : Rd Try.prog s 34 3 a (xs.map encN)) (hb : Rd Try.prog s 34 3 b (ys.map encN)) (hx : xs.length < 4611686018427387904) (hy : ys.length < 4611686018427387904) (hK : K (.ret (.bool (decide (xs = ys))) none)) :
    Wcall Try.prog O (.func (.func 16) [] []) [a, b] s K := by
  refine Wcall_run (ho _ _) (by kernel_rfl) Try.func16 rfl (Wk.sound (H := noHint) ?_)
  show Wk _ _ _ _ ⟨26, none, 16, Tr.leaf.lay 0 [a, b], [], ⟨s.n, s.n, s.o⟩, .no⟩ _
  have hdec : decide (xs.length = ys.length) = decide (xs.length = ys.length) := rfl
  have hc : (((xs.length : Nat) : Int) = (ys.length : Nat)) = (xs.length = ys.length) := propext (by omega)
  simp (config := {contextual := true, decide := true}) only [↓ wpre, ↓ wval, wpost, wint, wlog, wcell, wop, tf, ha.len, hb.len, List.length_map, hc]
  refine ⟨fun h => ?_, fun h => ?_⟩
  · refine leave_val (v := .bool false) (by rw [Try.results16]; simp (config := {decide := true}) only [↓ wval, wint, wlog]) rfl ?_
    rwa [decide_eq_false] at hK
    rintro rfl; exact h rfl
  refine Wk_loop (fun i e => ∃ t, e = ⟨26, none, 16, t, [], ⟨s.n, s.n, s.o⟩, .no⟩ ∧ t.val 0 = a ∧ t.val 1 = b ∧ t.val 12 = .int .i64 (xs.length : Nat) ∧ t.val 13 = .int .i64 (i : Nat) ∧ i ≤ xs.length ∧ ∀ j, j < i → xs.getD j 0 = ys.getD j 0) (fun i => xs.length - i) 0
    ⟨_, rfl, by simp (config := {decide := true}) only [↓ wval, wint, wlog], by simp (config := {decide := true}) only [↓ wval, wint, wlog], by simp (config := {decide := true}) only [↓ wval, wint, wlog]; rw [h], by simp (config := {decide := true}) only [↓ wval, wint, wlog]; rfl, Nat.zero_le _, fun j hj => by omega⟩ ?_
  rintro i _ ⟨t, rfl, h0, h1, h12, h13, hi, hpre⟩
  by_cases hlt : i < xs.length
  · have hlt' : i < ys.length := by omega
    have d1 : (i : Int) < (xs.length : Nat) := by omega
    have d5 := wrap_succ (i := i) (by omega)
    obtain ⟨ad, p1, p2, p3⟩ := ha.at_ i (encN (xs.getD i 0)) (by simp [hlt])
    obtain ⟨bd, q1, q2, q3⟩ := hb.at_ i (encN (ys.getD i 0)) (by simp [hlt'])
    have p4 := p3 ⟨s.n, s.n, s.o⟩ (fun _ _ => rfl)
    have q4 := q3 ⟨s.n, s.n, s.o⟩ (fun _ _ => rfl)
    have hcc : (((xs.getD i 0 : Nat) : Int) = (ys.getD i 0 : Nat)) = (xs.getD i 0 = ys.getD i 0) := propext (by omega)
    simp (config := {contextual := true, decide := true}) only [↓ wpre, ↓ wval, wpost, wint, wlog, wcell, wdr, wdr2, wloop, h0, h1, h12, h13, d1, d5, p1, p2, p4, q1, q2, q4, encN, hcc]
    refine ⟨fun hne => ?_, fun he => ⟨i + 1, by show _ - _ < _ - _; omega, _, rfl, by simp (config := {decide := true}) only [↓ wval, h0], by simp (config := {decide := true}) only [↓ wval, h1], by simp (config := {decide := true}) only [↓ wval, h12], by simp only [↓ wval], hlt, fun j hj => ?_⟩⟩
    · refine leave_val (v := .bool false) (by rw [Try.results16]; simp (config := {decide := true}) only [↓ wval, wint, wlog]) rfl ?_
      rwa [decide_eq_false] at hK
      rintro rfl; exact hne rfl
    · rcases Nat.lt_succ_iff_lt_or_eq.1 hj with hj | rfl
      · exact hpre j hj
      · exact he
  · have d1 : ¬ (i : Int) < (xs.length : Nat) := by omega
    simp (config := {contextual := true, decide := true}) only [↓ wpre, ↓ wval, wpost, wint, wlog, wcell, wloop, h12, h13, d1]
    refine leave_val (v := .bool true) (by rw [Try.results16]; simp (config := {decide := true}) only [↓ wval, wint, wlog]) rfl ?_
    rwa [decide_eq_true] at hK
    exact list_ext_getD (d := 0) h fun j hj => hpre j (by omega)

end
end Go.Proofs.Ytajngkkihadgfaa

/-
  Pages of a string of which a part is put in place.
-/

namespace Go.Proofs.Ytajngkkihadgfaa
open Go.Abs Go Go.Abs.TryF
noncomputable section

theorem splice_get {α : Type} (l m : List α) (off i : Nat) (h : off + m.length ≤ l.length) : (splice l off m)[i]? = if i < off then l[i]? else if i < off + m.length then m[i - off]? else l[i]? := by
  simp only [splice, List.append_assoc]
  have ht : (l.take off).length = off := by simp; omega
  by_cases h1 : i < off
  · rw [if_pos h1, List.getElem?_append_left (by omega), List.getElem?_take, if_pos h1]
  · rw [if_neg h1, List.getElem?_append_right (by omega), ht]
    by_cases h2 : i < off + m.length
    · rw [if_pos h2, List.getElem?_append_left (by omega)]
    · rw [if_neg h2, List.getElem?_append_right (by omega), List.getElem?_drop]
      congr 1; omega
theorem splice_map {α β : Type} (f : α → β) (l m : List α) (off : Nat) : splice (l.map f) off (m.map f) = (splice l off m).map f := by simp [splice, List.map_take, List.map_drop]
theorem by_splice {l m : List Nat} (hl : By l) (hm : By m) (off : Nat) : By (splice l off m) := fun b hb => by
  simp only [splice, List.mem_append] at hb
  rcases hb with (hb | hb) | hb
  · exact hl b (List.mem_of_mem_take hb)
  · exact hm b hb
  · exact hl b (List.mem_of_mem_drop hb)
theorem pageOf_get (l : List Nat) (q j : Nat) : (pageOf l q)[j]? = if j < 32 then l[q * 32 + j]? else none := by simp [pageOf, lslice, List.getElem?_take, List.getElem?_drop]
theorem page_splice_ne {l ck : List Nat} {p q : Nat} (hck : ck.length = 4) (hl : 32 * p + 32 ≤ l.length) (hq : q < p) : pageOf (splice l (32 * p + 28) ck) q = pageOf l q := by
  apply List.ext_getElem?
  intro j
  rw [pageOf_get, pageOf_get, splice_get _ _ _ _ (by omega)]
  by_cases hj : j < 32
  · rw [if_pos hj, if_pos hj, if_pos (by omega)]
  · rw [if_neg hj, if_neg hj]
theorem page_splice_take {l ck : List Nat} {p : Nat} (hck : ck.length = 4) (hl : 32 * p + 32 ≤ l.length) : (pageOf (splice l (32 * p + 28) ck) p).take 28 = (pageOf l p).take 28 := by
  apply List.ext_getElem?
  intro j
  rw [List.getElem?_take, List.getElem?_take, pageOf_get, pageOf_get, splice_get _ _ _ _ (by omega)]
  by_cases hj : j < 28
  · rw [if_pos hj, if_pos hj, if_pos (show j < 32 by omega), if_pos (show j < 32 by omega), if_pos (by omega)]
  · rw [if_neg hj, if_neg hj]
theorem page_splice_drop {l ck : List Nat} {p : Nat} (hck : ck.length = 4) (hl : 32 * p + 32 ≤ l.length) : (pageOf (splice l (32 * p + 28) ck) p).drop 28 = ck := by
  apply List.ext_getElem?
  intro j
  rw [List.getElem?_drop, pageOf_get, splice_get _ _ _ _ (by omega)]
  by_cases hj : j < 4
  · rw [if_pos (by omega), if_neg (by omega), if_pos (by omega)]
    congr 1; omega
  · rw [if_neg (by omega), List.getElem?_eq_none (by omega)]
theorem page_drop {l : List Nat} {p : Nat} : lslice l (32 * p + 28) 4 = (pageOf l p).drop 28 := by
  apply List.ext_getElem?
  intro j
  rw [List.getElem?_drop, pageOf_get]
  simp only [lslice, List.getElem?_take, List.getElem?_drop]
  by_cases hj : j < 4
  · rw [if_pos hj, if_pos (by omega)]
    congr 1; omega
  · rw [if_neg hj, if_neg (by omega)]
theorem badTo_congr {l l' : List Nat} {p : Nat} (h : ∀ q, q < p → pageOf l' q = pageOf l q) : badTo l' p = badTo l p := by
  unfold badTo
  apply List.filter_congr
  intro q hq
  rw [h q (List.mem_range.1 hq)]
theorem check_congr {p : Nat} {a b : List Nat} (h : a.take 28 = b.take 28) : check p a = check p b := by simp only [check, h]
theorem check_by (p : Nat) (a : List Nat) (h : a.length = 32) : By (check p a) := by
  have h0 : (a.take 28) ≠ [] := by
    intro h'
    have := congrArg List.length h'
    simp [h] at this
  have hs : (sums p (a.take 28)).1 < 257 ∧ (sums p (a.take 28)).2 < 257 := by
    obtain ⟨b, x, hx⟩ : ∃ b x, a.take 28 = b ++ [x] := ⟨_, _, (List.dropLast_concat_getLast h0).symm⟩
    rw [hx, sums, List.foldl_append]
    exact step_lt _ _
  intro b hb
  simp only [check, List.mem_cons, List.not_mem_nil, or_false] at hb
  rcases hb with rfl | rfl | rfl | rfl <;> omega
theorem wrun_of {O : Orc} {g : FuncId} {args : List AV} {s : Sto} {K : CRes → Prop} (ho : O g args s = none) (h : Wcall Try.prog O (.func (.func g) [] []) args s K) : Wrun Try.prog O (.func (.func g) [] []) args s K := by
  have h' := Wcall_func.1 h
  have ho' : O g ([] ++ args ++ []) s = none := by simpa using ho
  rw [ho', orcK_none] at h'
  exact h'
def extV (v : AV) (i : Nat) : Option AV := match v with
  | .tuple vs => vs[i]?
  | _ => none
theorem Wop_ext {P : Program} {O : Orc} {x : Operand} {i : Nat} {e : Env} {K : ORes → Prop} : Wop P O (.extract x i) e K ↔ oKv (extV (e.eval x) i) K := by
  rw [Wop_extract]
  unfold extV
  cases e.eval x <;> exact Iff.rfl
theorem extV_tuple {vs : List AV} {i : Nat} : extV (.tuple vs) i = vs[i]? := rfl
theorem sl_of {l : List Nat} (h : l.length ≤ 9223372036854775807) : Sl (slOf l) (l.map encN) := by
  refine ⟨?_, by simpa using h⟩
  unfold slOf
  split
  · rename_i h; exact .inl ⟨rfl, by rw [h]; rfl⟩
  · exact .inr ⟨_, rfl⟩
theorem right_eq {p : Nat} {a b : List Nat} (h : check p a = check p b) : decide (a.drop 28 = check p b) = right p a := by
  unfold right
  rw [h]
  exact decide_eq_decide.2 ⟨fun h => h.symm, fun h => h.symm⟩

end
end Go.Proofs.Ytajngkkihadgfaa
