/-
  The layer of images: pages and their checks.
-/
import Derived.Test.YtajngkkihadgfaaEn
import Derived.Test.YtajngkkihadgfaaTf
set_option linter.unusedVariables false
set_option linter.unusedSimpArgs false
namespace Go.Proofs.Ytajngkkihadgfaa
open Go.Abs Go Go.Abs.TryF
noncomputable section
set_option maxRecDepth 10000

theorem i64_nat {n : Nat} (h : n < 9223372036854775808) : IntKind.i64.wrap (n : Int) = (n : Int) := IntWalk.i64_in _ (by omega)
theorem wrap_succ {i : Nat} (h : i < 9223372036854775807) : IntKind.i64.wrap ((i : Int) + 1) = ((i + 1 : Nat) : Int) := by rw [IntWalk.i64_in _ (by omega)]; rfl
theorem u8_wrap (n : Int) : IntKind.u8.wrap n = n % 256 := by simp [IntKind.wrap, IntKind.bits, IntKind.signed]
theorem tmod_nat {n m : Nat} : Int.tmod (n : Int) (m : Int) = ((n % m : Nat) : Int) := by rw [Int.tmod_eq_emod_of_nonneg (by omega)]; simp
theorem u8_nat {a : Nat} : IntKind.u8.wrap (a : Int) = ((a % 256 : Nat) : Int) := by rw [u8_wrap]; simp
theorem shr8 {a : Nat} (h : a < 65536) : IntKind.u8.wrap (Int.fdiv (a : Int) (2 ^ min 8 IntKind.i64.bits)) = ((a / 256 : Nat) : Int) := by
  have : (2 : Int) ^ min 8 IntKind.i64.bits = 256 := by decide
  rw [this, Int.fdiv_eq_ediv_of_nonneg _ (by omega), u8_wrap]; omega
def encN (n : Nat) : AV := .int .i64 (n : Nat)
theorem getD_lt {α : Type} {l : List α} {i : Nat} {d : α} (h : i < l.length) : l.getD i d = l[i] := by simp [List.getD_eq_getElem?_getD, h]

/-- how many pages -/
def counted (s : List Nat) : Nat := if s.length % 32 ≠ 0 ∨ 256 < s.length / 32 then 0 else s.length / 32
theorem counted_ok (s : List Nat) (hs : s.length < 9223372036854775808) : Abs.Returns Try.prog 32 [.str s] (.int .i64 (counted s : Nat)) := by
  refine returns_wk (L := []) elist_nil noHint (by kernel_rfl) Try.func32 Try.ntmps32 Try.results32 rfl rfl (und_all_cons und_str und_all_nil) und_int ?_
  have e1 : IntKind.i64.wrap (Int.tdiv (s.length : Nat) 32) = ((s.length / 32 : Nat) : Int) := by
    rw [Int.tdiv_eq_ediv_of_nonneg (by omega), IntWalk.i64_in _ (by omega)]; omega
  have e2 : Int.tmod ((s.length : Nat) : Int) 32 = ((s.length % 32 : Nat) : Int) := by
    rw [Int.tmod_eq_emod_of_nonneg (by omega)]; omega
  simp (config := {contextual := true, decide := true}) only [↓ wpre, ↓ wval, wpost, wint, wlog, wcell, wop, wdr, wdr2, tf, e1, e2]
  unfold counted
  by_cases h1 : s.length % 32 = 0
  · by_cases h2 : 256 < s.length / 32
    · simp [h1, h2]; omega
    · simp [h1, h2]; omega
  · simp [h1]; omega

/-- a page's check: the remainders of its two sums -/
def step (x : Nat × Nat) (c : Nat) : Nat × Nat := ((x.1 + c) % 257, (x.2 + (x.1 + c) % 257) % 257)
def sums (n : Nat) (l : List Nat) : Nat × Nat := l.foldl step (n + 1, 0)
def check (n : Nat) (p : List Nat) : List Nat := [(sums n (p.take 28)).1 / 256, (sums n (p.take 28)).1 % 256, (sums n (p.take 28)).2 / 256, (sums n (p.take 28)).2 % 256]
theorem step_lt (x : Nat × Nat) (c : Nat) : (step x c).1 < 257 ∧ (step x c).2 < 257 := ⟨Nat.mod_lt _ (by omega), Nat.mod_lt _ (by omega)⟩

theorem check_ok (p : List Nat) (n : Nat) (hp : p.length = 32) (hb : ∀ b ∈ p, b < 256) (hn : n < 4611686018427387904) : Abs.Returns Try.prog 63 [.agg (p.map encB), .int .i64 (n : Nat)] (.agg ((check n p).map encB)) := by
  refine returns_wk (L := []) elist_nil noHint (by kernel_rfl) Try.func63 Try.ntmps63 Try.results63 rfl rfl (und_all_cons (und_agg (by simp only [List.mem_map]; rintro x ⟨b, _, rfl⟩; exact und_encB b)) (und_all_cons und_int und_all_nil)) (und_agg (by simp only [List.mem_map]; rintro x ⟨b, _, rfl⟩; exact und_encB b)) ?_
  simp (config := {contextual := true, decide := true}) only [↓ wpre, ↓ wval, wpost, wint, wlog, wcell, wop, wop2, wdr, wdr2, tf, hp, wrap_succ (show n < 9223372036854775807 by omega), Int.reduceToNat, Nat.reduceAdd]
  have hlen : (p.take 28).length = 28 := by simp [hp]
  let S : Nat → Nat × Nat := fun i => (p.take i).foldl step (n + 1, 0)
  have hS1 : ∀ i, (S i).1 < 4611686018427387905 := by
    intro i
    cases i with
    | zero => simp only [S, List.take_zero, List.foldl_nil]; omega
    | succ i =>
      by_cases hi : i < p.length
      · simp only [S, List.take_succ_eq_append_getElem hi, List.foldl_append, List.foldl_cons, List.foldl_nil]
        have := (step_lt ((p.take i).foldl step (n + 1, 0)) p[i]).1; omega
      · have e1 : p.take (i + 1) = p.take 31 ++ [p.getD 31 0] := by
          rw [List.take_of_length_le (by omega), getD_lt (show 31 < p.length by omega)]
          have := List.take_succ_eq_append_getElem (show 31 < p.length by omega)
          rw [← this, List.take_of_length_le (by omega)]
        simp only [S, e1, List.foldl_append, List.foldl_cons, List.foldl_nil]
        have := (step_lt ((p.take 31).foldl step (n + 1, 0)) (p.getD 31 0)).1; omega
  have hS2 : ∀ i, i ≤ 28 → (S i).2 < 257 := by
    intro i hi
    cases i with
    | zero => simp only [S, List.take_zero, List.foldl_nil]; omega
    | succ i =>
      have hi' : i < p.length := by omega
      simp only [S, List.take_succ_eq_append_getElem hi', List.foldl_append, List.foldl_cons, List.foldl_nil]
      exact (step_lt ((p.take i).foldl step (n + 1, 0)) p[i]).2
  have hSs : ∀ i, i < 28 → S (i + 1) = step (S i) (p.getD i 0) := by
    intro i hi
    have hi' : i < p.length := by omega
    simp only [S, List.take_succ_eq_append_getElem hi', List.foldl_append, List.foldl_cons, List.foldl_nil, getD_lt hi']
  refine Wk_loop (fun i e => ∃ t, e = ⟨38, none, 63, t, [], ⟨2, 0, (Tr.leaf.set 0 (obg 0 (List.map encB p))).set 1 (obg 0 [AV.int IntKind.u8 0, AV.int IntKind.u8 0, AV.int IntKind.u8 0, AV.int IntKind.u8 0])⟩, .no⟩ ∧ t.val 4 = .ptr 1 0 0 ∧ t.val 5 = .int .i64 ((S i).1 : Nat) ∧ t.val 6 = .int .i64 ((S i).2 : Nat) ∧ t.val 11 = .sl 0 0 0 28 (.is 32) ∧ t.val 12 = .int .i64 (28 : Nat) ∧ t.val 13 = .int .i64 (i : Nat) ∧ i ≤ 28) (fun i => 28 - i) 0
    ⟨_, rfl, by simp (config := {decide := true}) only [↓ wval], by simp (config := {decide := true}) only [↓ wval]; rfl, by simp (config := {decide := true}) only [↓ wval]; rfl, by simp (config := {decide := true}) only [↓ wval], by simp (config := {decide := true}) only [↓ wval], by simp (config := {decide := true}) only [↓ wval]; rfl, by omega⟩ ?_
  rintro i _ ⟨t, rfl, h4, h5, h6, h11, h12, h13, hi⟩
  by_cases hlt : i < 28
  · have d1 : (i : Int) < (28 : Nat) := by omega
    have d3 : (0 : Int) ≤ i := by omega
    have d4 : ((i : Int)).toNat = i := by omega
    have d5 := wrap_succ (i := i) (by omega)
    have d6 : (p.map encB)[i]? = some (encB (p.getD i 0)) := by
      have hi' : i < p.length := by omega
      simp [hi']
    have hc : p.getD i 0 < 256 := by rw [getD_lt (show i < p.length by omega)]; exact hb _ (List.getElem_mem _)
    have q1 := hS1 i
    have q2 := hS2 i (by omega)
    have e1 : IntKind.i64.wrap ((p.getD i 0 : Nat) : Int) = ((p.getD i 0 : Nat) : Int) := i64_nat (by omega)
    have e2 : IntKind.i64.wrap (((S i).1 : Nat) + ((p.getD i 0 : Nat) : Int)) = (((S i).1 + p.getD i 0 : Nat) : Int) := by rw [← Int.natCast_add]; exact i64_nat (by omega)
    have e3 : Int.tmod (((S i).1 + p.getD i 0 : Nat) : Int) 257 = (((S i).1 + p.getD i 0) % 257 : Nat) := tmod_nat
    have e4 : IntKind.i64.wrap (((S i).2 : Nat) + ((((S i).1 + p.getD i 0) % 257 : Nat) : Int)) = (((S i).2 + ((S i).1 + p.getD i 0) % 257 : Nat) : Int) := by rw [← Int.natCast_add]; exact i64_nat (by omega)
    have e5 : Int.tmod (((S i).2 + ((S i).1 + p.getD i 0) % 257 : Nat) : Int) 257 = (((S i).2 + ((S i).1 + p.getD i 0) % 257) % 257 : Nat) := tmod_nat
    simp (config := {contextual := true, decide := true}) only [↓ wpre, ↓ wval, wpost, wint, wlog, wcell, wop, wop2, wdr, wdr2, wloop, tf, hp, h4, h5, h6, h11, h12, h13, d1, d3, d4, d5, d6, Int.reduceToNat, Nat.reduceAdd, Nat.zero_add, Nat.mul_one, encB, e1, e2, e3, e4, e5]
    exact ⟨i + 1, by show _ - _ < _ - _; omega, _, rfl, by simp (config := {decide := true}) only [↓ wval, h4], by simp (config := {decide := true}) only [↓ wval, hSs i hlt, step], by simp (config := {decide := true}) only [↓ wval, hSs i hlt, step],
      by simp (config := {decide := true}) only [↓ wval, h11], by simp (config := {decide := true}) only [↓ wval, h12], by simp (config := {decide := true}) only [↓ wval], hlt⟩
  · have : i = 28 := by omega
    subst this
    simp (config := {contextual := true, decide := true}) only [↓ wpre, ↓ wval, wpost, wint, wlog, wcell, wop, wop2, wdr, wdr2, wloop, tf, hp, h4, h5, h6, h11, h12, h13, Int.reduceToNat, Nat.reduceAdd, Nat.zero_add, Nat.mul_one, abin_shr, dresults_cell, Option.bind_some]
    have k1 : (S 28).1 < 257 := by rw [hSs 27 (by omega)]; exact (step_lt _ _).1
    have k2 := hS2 28 (by omega)
    show AV.agg _ = AV.agg (List.map encB [(S 28).1 / 256, (S 28).1 % 256, (S 28).2 / 256, (S 28).2 % 256])
    simp only [List.map_cons, List.map_nil, encB, shr8 (show (S 28).1 < 65536 by omega), shr8 (show (S 28).2 < 65536 by omega), u8_nat]

/-- a page is right -/
def right (n : Nat) (p : List Nat) : Bool := decide (check n p = p.drop 28)
theorem eq124 : eqAK Try.prog 124 = some (4, .u8) := by kernel_rfl
theorem lslice_28 {p : List Nat} (hp : p.length = 32) : lslice p 28 4 = p.drop 28 := by
  unfold lslice; rw [List.take_of_length_le]; simp [hp]
theorem lslice_self {p : List Nat} {n : Nat} (hp : p.length = n) : lslice p 0 n = p := by
  unfold lslice; rw [List.drop_zero, List.take_of_length_le (by omega)]
theorem enc_ints (l : List Nat) : l.map encB = (l.map Int.ofNat).map (.int .u8) := by rw [List.map_map]; rfl
theorem map_ofNat {l m : List Nat} : (l.map Int.ofNat = m.map Int.ofNat) = (l = m) := propext (List.map_inj_right fun _ _ => Int.ofNat.inj)
theorem eq_pages {p q : List Nat} (hp : p.length = 4) (hq : q.length = 4) {x y : Operand} : abin Try.prog .eql 124 x y (.agg (p.map encB)) (.agg (q.map encB)) = some (.bool (decide (p = q))) := by
  rw [enc_ints, enc_ints, abin_arr eq124 (by simpa using hp) (by simpa using hq)]
  simp only [map_ofNat]
theorem right_ok (p : List Nat) (n : Nat) (hp : p.length = 32) (hb : ∀ b ∈ p, b < 256) (hn : n < 4611686018427387904) : Abs.Returns Try.prog 37 [.agg (p.map encB), .int .i64 (n : Nat)] (.bool (right n p)) := by
  refine returns_wk (L := [ent1 63 [.agg (p.map encB), .int .i64 (n : Nat)] (.agg ((check n p).map encB))]) (elist_cons (ent1_ok (check_ok p n hp hb hn)) elist_nil) (fun _ => ([2], [])) (by kernel_rfl) Try.func37 Try.ntmps37 Try.results37 rfl rfl (und_all_cons (und_agg (by simp only [List.mem_map]; rintro x ⟨b, _, rfl⟩; exact und_encB b)) (und_all_cons und_int und_all_nil)) und_bool ?_
  simp (config := {contextual := true, decide := true}) only [↓ wpre, ↓ wval, wpost, wint, wlog, wcell, wop, wop2, wdr, wdr2, tf, hp, Int.reduceToNat, Nat.reduceAdd, Nat.reduceSub, Nat.zero_add, Nat.mul_one, ent1_same, lslice_28, lslice_self, eq_pages (show (check n p).length = 4 from rfl) (show (p.drop 28).length = 4 by simp [hp])]
  rfl


/-- the function that goes through a string's pages -/
def pagesF (s : List Nat) : AV := .func (.func 62) [] [.pf (.str s)]
theorem pages_ok (s : List Nat) : Abs.Returns Try.prog 33 [.str s] (pagesF s) := by
  refine returns_wkF (L := []) elist_nil noHint (by kernel_rfl) Try.func33 Try.ntmps33 Try.results33 rfl rfl (und_all_cons und_str und_all_nil) ?_
  simp (config := {contextual := true, decide := true}) only [↓ wpre, ↓ wval, wpost, wint, wlog, wcell, wop, wop2, wdr, wdr2, tf, Nat.reduceAdd]
  exact .func _ _ _ _ _ rfl rfl frz_all_nil (frz_all_cons (frz_ptr (g := 0) (cs := [.str s]) (Nat.le_refl _) rfl (Nat.le_refl _) (fun j x y hx hy => by
    cases j with
    | zero => simp [AV.cells] at hx hy; subst hx; subst hy; exact .und _ und_str
    | succ j => simp [AV.cells] at hy)) frz_all_nil)

def pageOf (s : List Nat) (i : Nat) : List Nat := lslice s (i * 32) 32
def rows (s : List Nat) : List (List AV) := (List.range (counted s)).map fun i => [.int .i64 (i : Nat), .agg ((pageOf s i).map encB)]
theorem counted_le {s : List Nat} {i : Nat} (h : i < counted s) : i * 32 + 32 ≤ s.length ∧ i < 256 := by
  unfold counted at h
  split at h <;> omega
theorem pageOf_len {s : List Nat} {i : Nat} (h : i < counted s) : (pageOf s i).length = 32 := by
  have := (counted_le h).1
  simp [pageOf, lslice]; omega
theorem pageOf_lt {s : List Nat} (hb : ∀ b ∈ s, b < 256) (i : Nat) : ∀ b ∈ pageOf s i, b < 256 := fun b h => hb b (List.mem_of_mem_drop (List.mem_of_mem_take h))
theorem pages_iter (s : List Nat) (hs : s.length < 9223372036854775808) {O : Orc} (h32 : ∀ σ, O 32 [.str s] σ = some (.ret (.int .i64 (counted s : Nat)) none)) (h62 : ∀ a σ, O 62 a σ = none) : Iter Try.prog O (pagesF s) (rows s) := by
  intro l J D X σ hl hJs hDs hXs hJ0 hr
  have hrow : (rows s).length = counted s := by simp [rows]
  refine Wcall_run (h62 _ _) (by kernel_rfl) Try.func62 rfl (Wk.sound (H := noHint) ?_)
  rw [hrow]
  show Wk _ _ _ _ ⟨24, none, 62, Tr.leaf.lay 0 [.func (.yield l) [] [], .pf (.str s)], [], ⟨σ.n, σ.n, σ.o⟩, .no⟩ _
  simp (config := {contextual := true, decide := true}) only [↓ wpre, ↓ wval, wpost, wint, wlog, wcell, wop, wop2, wdr, wdr2, tf, Nat.reduceAdd, h32, isCell_str]
  refine Wk_loop (fun i e => ∃ t u, e = ⟨24, none, 62, t, [], u, .no⟩ ∧ t.val 0 = .func (.yield l) [] [] ∧ t.val 1 = .pf (.str s) ∧ t.val 5 = .int .i64 (counted s : Nat) ∧ t.val 6 = .int .i64 (i : Nat) ∧ i ≤ counted s ∧ l < u.n ∧ J i u ∧ (i = 0 ∨ u.low ≤ l)) (fun i => counted s - i) 0
    ⟨_, _, rfl, by simp (config := {decide := true}) only [↓ wval, wint, wlog], by simp (config := {decide := true}) only [↓ wval, wint, wlog], by simp (config := {decide := true}) only [↓ wval, wint], by simp (config := {decide := true}) only [↓ wval, wint]; rfl, Nat.zero_le _, hl, hJs _ _ _ (Sim.low σ σ.n) hJ0, .inl rfl⟩ ?_
  rintro i _ ⟨t, ⟨n, low, o⟩, rfl, h0, h1, h5, h6, hi, hln, hJ, hlow⟩
  by_cases hlt : i < counted s
  · have hle := counted_le hlt
    have d1 : (i : Int) < (counted s : Nat) := by omega
    have e1 : IntKind.i64.wrap ((i : Int) * 32) = ((i * 32 : Nat) : Int) := by rw [IntWalk.i64_in _ (by omega)]; simp
    have e2 : IntKind.i64.wrap (((i + 1 : Nat) : Int) * 32) = (((i + 1) * 32 : Nat) : Int) := by rw [IntWalk.i64_in _ (by omega)]; simp
    have d5 := wrap_succ (i := i) (by omega)
    have f1 : (0 : Int) ≤ ((i * 32 : Nat) : Int) := by omega
    have f2 : ((i * 32 : Nat) : Int) ≤ (((i + 1) * 32 : Nat) : Int) := by omega
    have f3 : (((i + 1) * 32 : Nat) : Int) ≤ (s.length : Nat) := by omega
    have f4 : lslice s (((i * 32 : Nat) : Int)).toNat ((((i + 1) * 32 : Nat) : Int).toNat - (((i * 32 : Nat) : Int)).toNat) = pageOf s i := by
      rw [Int.toNat_natCast, Int.toNat_natCast, pageOf]; congr 1; omega
    have hp := pageOf_len hlt
    have dn : n < n + 1 := Nat.lt_succ_self n
    simp (config := {contextual := true, decide := true}) only [↓ wpre, ↓ wval, wpost, wint, wlog, wcell, wop, wop2, wdr, wdr2, wloop, tf, Nat.reduceAdd, Nat.zero_add, isCell_str, h0, h1, h5, h6, d1, e1, e2, d5, f1, f2, f3, f4, hp, dn, lslice_self]
    have hcall := hr i [.int .i64 (i : Nat), .agg ((pageOf s i).map encB)] (by simp [rows, hlt]) ((Sto.mk n low o).push (obg 0 ((pageOf s i).map encB))) (Nat.lt_succ_of_lt hln) (hJs _ _ _ (Sim.push _ _) hJ)
    refine hcall.mono fun res hk => ?_
    have hk' : rK l J D X i ⟨n + 1, low, o.set n (obg 0 ((pageOf s i).map encB))⟩ res := hk
    clear hk hcall
    cases res with
    | pan v so =>
      rw [callK_putP]
      have k : (so.getD ⟨n + 1, low, o.set n (obg 0 ((pageOf s i).map encB))⟩).low ≤ l ∧ X v (so.getD ⟨n + 1, low, o.set n (obg 0 ((pageOf s i).map encB))⟩) := hk'
      generalize so.getD ⟨n + 1, low, o.set n (obg 0 ((pageOf s i).map encB))⟩ = u at *
      simp (config := {contextual := true, decide := true}) only [↓ wpre, ↓ wval, wpost, wint, wlog, wloop]
      exact Lv_pan rfl (close_of _ _ _ (X v) (hXs v) k.2 (.inl (Nat.lt_of_le_of_lt k.1 hl)))
    | ret v so =>
      rw [callK_put]
      have k : (v = .bool true ∧ (so.getD ⟨n + 1, low, o.set n (obg 0 ((pageOf s i).map encB))⟩).low ≤ l ∧ l < (so.getD ⟨n + 1, low, o.set n (obg 0 ((pageOf s i).map encB))⟩).n ∧ J (i + 1) (so.getD ⟨n + 1, low, o.set n (obg 0 ((pageOf s i).map encB))⟩)) ∨ (v = .bool false ∧ (so.getD ⟨n + 1, low, o.set n (obg 0 ((pageOf s i).map encB))⟩).low ≤ l ∧ D (so.getD ⟨n + 1, low, o.set n (obg 0 ((pageOf s i).map encB))⟩)) := by
        cases v with
        | bool b => cases b with
          | true => exact .inl ⟨rfl, hk'⟩
          | false => exact .inr ⟨rfl, hk'⟩
        | _ => exact hk'.elim
      generalize so.getD ⟨n + 1, low, o.set n (obg 0 ((pageOf s i).map encB))⟩ = u at *
      rcases k with ⟨rfl, k1, k0, k2⟩ | ⟨rfl, k1, k2⟩
      · simp (config := {contextual := true, decide := true}) only [↓ wpre, ↓ wval, wpost, wint, wlog, wloop, Nat.reduceAdd, h6, d5]
        exact ⟨i + 1, by show _ - _ < _ - _; omega, _, _, rfl, by simp (config := {decide := true}) only [↓ wval, h0], by simp (config := {decide := true}) only [↓ wval, h1], by simp (config := {decide := true}) only [↓ wval, h5], by simp (config := {decide := true}) only [↓ wval], hlt, k0, k2, .inr k1⟩
      · simp (config := {contextual := true, decide := true}) only [↓ wpre, ↓ wval, wpost, wint, wlog, wloop, Nat.reduceAdd, h6, d5]
        exact Lv_ret rfl (vs := []) rfl (.inr (close_of _ _ _ D hDs k2 (.inl (Nat.lt_of_le_of_lt k1 hl))))
  · have d1 : ¬ (i : Int) < (counted s : Nat) := by omega
    simp (config := {contextual := true, decide := true}) only [↓ wpre, ↓ wval, wpost, wint, wlog, wloop, Nat.reduceAdd, h5, h6, d1]
    have hic : i = counted s := by omega
    refine Lv_ret rfl (vs := []) rfl (.inl (close_of _ _ _ (J (counted s)) (hJs _) (hic ▸ hJ) ?_))
    rcases hlow with h | h
    · refine .inr ?_
      rw [← hic, h]; exact hJ0
    · exact .inl (Nat.lt_of_le_of_lt h hl)

end
end Go.Proofs.Ytajngkkihadgfaa
