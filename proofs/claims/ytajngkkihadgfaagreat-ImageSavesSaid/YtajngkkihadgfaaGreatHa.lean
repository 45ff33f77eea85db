/-
  Objects and their bytes, in plain words; how they lie in the machine.
-/
import Derived.Test.YtajngkkihadgfaaGreatEp
import Derived.Test.YtajngkkihadgfaaGreatTf
import Derived.Test.YtajngkkihadgfaaGreatEo
set_option linter.unusedVariables false
set_option linter.unusedSimpArgs false
namespace Go.Proofs.YtajngkkihadgfaaGreat
open Go.Abs Go
noncomputable section
set_option maxRecDepth 10000
abbrev Val := Int × Int
structure Fr where
  node : Int
  env : List Val
  vals : List Val
  deriving DecidableEq
structure Ob where
  form : Int
  n : Int
  vals : List Val
  frs : List Fr
  deriving DecidableEq
instance : Inhabited Fr := ⟨⟨0, [], []⟩⟩
instance : Inhabited Ob := ⟨⟨0, 0, [], []⟩⟩
def inB (n l h : Int) : Bool := decide (l ≤ n) && decide (n ≤ h)
def numOk (n : Int) : Bool := inB n (-1073741824) 1073741824
def valOk (v : Val) : Bool := if v.1 = 1 then numOk v.2 else if v.1 = 2 then inB v.2 0 1 else if v.1 = 3 then decide (v.2 = 0) else if v.1 = 4 then inB v.2 0 1073741824 else if v.1 = 5 then inB v.2 0 119 else false
def valsOk (l : List Val) : Bool := decide (l.length ≤ 30) && l.all valOk
def frOk (f : Fr) : Bool := inB f.node 0 1073741824 && valsOk f.env && valsOk f.vals
def frsOk (l : List Fr) : Bool := decide (l.length ≤ 40) && l.all frOk
def obOk (o : Ob) : Bool := inB o.form 1 6 && numOk o.n && valsOk o.vals && frsOk o.frs
def numB (n : Nat) : List Nat := if h : 127 < n then (n % 128 + 128) :: numB (n / 128) else [n]
  termination_by n
  decreasing_by omega
def zig (n : Int) : Nat := if n < 0 then (-2 * n - 1).toNat else (2 * n).toNat
def sgnB (n : Int) : List Nat := numB (zig n)
def valB (v : Val) : List Nat := (v.1.toNat % 256) :: sgnB v.2
def valsB (l : List Val) : List Nat := numB l.length ++ l.flatMap valB
def frB (f : Fr) : List Nat := numB f.node.toNat ++ valsB f.env ++ valsB f.vals
def obB (o : Ob) : List Nat := (o.form.toNat % 256) :: (sgnB o.n ++ valsB o.vals ++ numB o.frs.length ++ o.frs.flatMap frB)
theorem numB_by (n : Nat) : By (numB n) := by
  induction n using Nat.strongRecOn with
  | _ n ih =>
    unfold numB
    split
    · intro b hb
      rcases List.mem_cons.1 hb with rfl | hb
      · omega
      · exact ih (n / 128) (by omega) b hb
    · intro b hb
      simp at hb; omega
theorem numB_len : ∀ (k n : Nat), n < 128 ^ k → 0 < k → (numB n).length ≤ k
  | 0, _, _, h => absurd h (by omega)
  | k + 1, n, hn, _ => by
    unfold numB
    split
    · rename_i h
      cases k with
      | zero => simp at hn; omega
      | succ k =>
        have := numB_len (k + 1) (n / 128) (by rw [Nat.pow_succ] at hn; exact Nat.div_lt_of_lt_mul (by rw [Nat.mul_comm]; exact hn)) (by omega)
        simp only [List.length_cons]; omega
    · simp
theorem zig_lt {n : Int} (h : numOk n = true) : zig n < 4294967296 := by
  simp only [numOk, inB, Bool.and_eq_true, decide_eq_true_eq] at h
  unfold zig
  split <;> omega
theorem sgnB_len {n : Int} (h : numOk n = true) : (sgnB n).length ≤ 5 := numB_len 5 _ (by have := zig_lt h; omega) (by omega)
def valI (v : Val) : AV := .agg [.int .i64 v.1, .int .i64 v.2]
theorem valI_len (v : Val) : (valI v).cells.length = 2 := rfl
def decVal : AV → Option Val
  | .agg [.int .i64 k, .int .i64 n] => some (k, n)
  | _ => none
theorem decVal_valI (v : Val) : decVal (valI v) = some v := rfl
theorem decVal_some {a : AV} {v : Val} (h : decVal a = some v) : a = valI v := by
  unfold decVal at h
  split at h
  · cases h; rfl
  · cases h
def decL {α : Type} (f : AV → Option α) : List AV → Option (List α)
  | [] => some []
  | a :: l => match f a, decL f l with
    | some x, some xs => some (x :: xs)
    | _, _ => none
def decS {α : Type} (f : AV → Option α) : AV → Option (List α)
  | .nils => some []
  | .fz xs _ => if xs.length ≤ 9223372036854775807 then decL f xs else none
  | _ => none
def decVals : AV → Option (List Val) := decS decVal
theorem decL_map {α : Type} {f : AV → Option α} {g : α → AV} (h : ∀ x, f (g x) = some x) : ∀ l : List α, decL f (l.map g) = some l
  | [] => rfl
  | x :: l => by simp only [List.map_cons, decL, h, decL_map h l]
theorem decL_inv {α : Type} {f : AV → Option α} {g : α → AV} (h : ∀ a x, f a = some x → a = g x) : ∀ (l : List AV) (xs : List α), decL f l = some xs → l = xs.map g
  | [], xs, e => by simp [decL] at e; subst e; rfl
  | a :: l, xs, e => by
    simp only [decL] at e
    split at e
    · rename_i x ys h1 h2
      simp at e; subst e
      rw [h _ _ h1, decL_inv h l ys h2]; rfl
    · cases e
theorem decVals_sl {a : AV} {l : List Val} (h : decVals a = some l) : Sl a (l.map valI) := by
  unfold decVals decS at h
  split at h
  · simp at h; subst h; exact ⟨.inl ⟨rfl, rfl⟩, Nat.zero_le _⟩
  · rename_i xs c
    split at h
    · rename_i hl
      have := decL_inv (g := valI) (fun a x => decVal_some) xs l h
      subst this
      exact ⟨.inr ⟨c, rfl⟩, hl⟩
    · cases h
  · cases h
theorem decVals_of {a : AV} {l : List Val} (h : Sl a (l.map valI)) : decVals a = some l := by
  rcases h.1 with ⟨rfl, e⟩ | ⟨c, rfl⟩
  · rw [List.map_eq_nil_iff.1 e]; rfl
  · show (if _ then _ else _) = _
    rw [if_pos h.2, decL_map decVal_valI]
def decFr : AV → Option Fr
  | .agg [.int .i64 k, e, v] => match decVals e, decVals v with
    | some e, some v => some ⟨k, e, v⟩
    | _, _ => none
  | _ => none
def decFrs : AV → Option (List Fr) := decS decFr
def decOb : AV → Option Ob
  | .agg [.int .i64 f, .int .i64 n, vs, fs] => match decVals vs, decFrs fs with
    | some vs, some fs => some ⟨f, n, vs, fs⟩
    | _, _ => none
  | _ => none
theorem decFr_some {a : AV} {f : Fr} (h : decFr a = some f) : ∃ e v, a = .agg [.int .i64 f.node, e, v] ∧ decVals e = some f.env ∧ decVals v = some f.vals := by
  unfold decFr at h
  split at h
  · rename_i k e v
    split at h
    · rename_i e' v' h1 h2
      cases h
      exact ⟨e, v, rfl, h1, h2⟩
    · cases h
  · cases h
theorem decOb_some {a : AV} {o : Ob} (h : decOb a = some o) : ∃ vs fs, a = .agg [.int .i64 o.form, .int .i64 o.n, vs, fs] ∧ decVals vs = some o.vals ∧ decFrs fs = some o.frs := by
  unfold decOb at h
  split at h
  · rename_i k n vs fs
    split at h
    · rename_i e' v' h1 h2
      cases h
      exact ⟨vs, fs, rfl, h1, h2⟩
    · cases h
  · cases h
theorem decL_get {α : Type} {f : AV → Option α} : ∀ (l : List AV) (xs : List α), decL f l = some xs → l.length = xs.length ∧ ∀ i (h : i < l.length) (h' : i < xs.length), f l[i] = some xs[i]
  | [], xs, e => by simp [decL] at e; subst e; exact ⟨rfl, fun i h => absurd h (by simp)⟩
  | a :: l, xs, e => by
    simp only [decL] at e
    split at e
    · rename_i x ys h1 h2
      simp at e; subst e
      obtain ⟨q1, q2⟩ := decL_get l ys h2
      refine ⟨by simp [q1], fun i h h' => ?_⟩
      cases i with
      | zero => exact h1
      | succ i => exact q2 i (by simpa using h) (by simpa using h')
    · cases e
theorem decS_sl {α : Type} {f : AV → Option α} {a : AV} {l : List α} (h : decS f a = some l) : ∃ xs, Sl a xs ∧ xs.length = l.length ∧ ∀ i (h : i < xs.length) (h' : i < l.length), f xs[i] = some l[i] := by
  unfold decS at h
  split at h
  · simp at h; subst h; exact ⟨[], ⟨.inl ⟨rfl, rfl⟩, Nat.zero_le _⟩, rfl, fun i h => absurd h (by simp)⟩
  · rename_i xs c
    split at h
    · rename_i hl
      obtain ⟨q1, q2⟩ := decL_get xs l h
      exact ⟨xs, ⟨.inr ⟨c, rfl⟩, hl⟩, q1, q2⟩
    · cases h
  · cases h
theorem decVals_cell {a : AV} {l : List Val} (h : decVals a = some l) : a.isCell = true := (decVals_sl h).cell
theorem decS_cell {α : Type} {f : AV → Option α} {a : AV} {l : List α} (h : decS f a = some l) : a.isCell = true := by
  obtain ⟨xs, h, _⟩ := decS_sl h; exact h.cell
theorem und_valI (l : List Val) : ∀ x ∈ l.map valI, UnderE 0 x := fun x hx => by obtain ⟨a, _, rfl⟩ := List.mem_map.1 hx; exact ⟨2, rfl⟩
theorem under_vals {a : AV} {l : List Val} (h : decVals a = some l) : UnderE 0 a := und_sl (decVals_sl h) (und_valI l)
theorem under_fr {a : AV} {f : Fr} (h : decFr a = some f) : UnderE 0 a := by
  obtain ⟨e, v, rfl, h1, h2⟩ := decFr_some h
  refine underE_agg fun x hx => ?_
  simp at hx
  rcases hx with rfl | rfl | rfl
  · exact ⟨1, rfl⟩
  · exact under_vals h1
  · exact under_vals h2
theorem under_frs {a : AV} {l : List Fr} (h : decFrs a = some l) : UnderE 0 a := by
  obtain ⟨xs, h1, h2, h3⟩ := decS_sl h
  refine und_sl h1 fun x hx => ?_
  obtain ⟨i, hi, rfl⟩ := List.mem_iff_getElem.1 hx
  exact under_fr (h3 i hi (by omega))
theorem under_ob {a : AV} {o : Ob} (h : decOb a = some o) : UnderE 0 a := by
  obtain ⟨vs, fs, rfl, h1, h2⟩ := decOb_some h
  refine underE_agg fun x hx => ?_
  simp at hx
  rcases hx with rfl | rfl | rfl | rfl
  · exact ⟨1, rfl⟩
  · exact ⟨1, rfl⟩
  · exact under_vals h1
  · exact under_frs h2
end
end Go.Proofs.YtajngkkihadgfaaGreat
/-
  The reference of images: what can be stored, and the bytes of an object.
-/
namespace Go.Proofs.YtajngkkihadgfaaGreat
open Go.Abs Go Go.Abs.TryzF
noncomputable section
set_option maxRecDepth 10000
theorem wrap_succ {i : Nat} (h : i < 9223372036854775807) : IntKind.i64.wrap ((i : Int) + 1) = ((i + 1 : Nat) : Int) := by rw [IntWalk.i64_in _ (by omega)]; rfl
theorem getD_lt {α : Type} {l : List α} {i : Nat} {d : α} (h : i < l.length) : l.getD i d = l[i] := by simp [List.getD_eq_getElem?_getD, h]
theorem take_snoc {α : Type} {l : List α} {i : Nat} {d : α} (h : i < l.length) : l.take (i + 1) = l.take i ++ [l.getD i d] := by rw [getD_lt h]; exact List.take_succ_eq_append_getElem h
def inV : List AV → Option AV
  | [.int .i64 n, .int .i64 l, .int .i64 h] => some (.bool (inB n l h))
  | _ => none
theorem inV_eq {n l h : Int} : inV [.int .i64 n, .int .i64 l, .int .i64 h] = some (.bool (inB n l h)) := rfl
theorem rIn_ok : Abs.Ok Tryz.prog 62 inV := by
  intro args v hg
  unfold inV at hg
  split at hg <;> cases hg
  rename_i n l h
  refine returns_wk (L := []) elist_nil noHint (by kernel_rfl) Tryz.func62 Tryz.ntmps62 Tryz.results62 rfl rfl (und_all_cons und_int (und_all_cons und_int (und_all_cons und_int und_all_nil))) und_bool ?_
  by_cases h1 : l ≤ n
  · simp +contextual +decide (maxSteps := 1000000) only [↓ wP, wQ, tf, Nat.reduceAdd, ne_eq, h1]
    simp [inB, h1]
  · simp +contextual +decide (maxSteps := 1000000) only [↓ wP, wQ, tf, Nat.reduceAdd, ne_eq, h1]
    simp [inB, h1]
def smallV : List AV → Option AV
  | [a] => (decVals a).map fun l => .bool (decide (l.length ≤ 60))
  | _ => none
theorem smallV_eq {a : AV} {l : List Val} (h : decVals a = some l) : smallV [a] = some (.bool (decide (l.length ≤ 60))) := by simp [smallV, h]
theorem rsmall_ok : Abs.Ok Tryz.prog 30 smallV := by
  intro args v hg
  match args, hg with
  | [a], hg =>
    obtain ⟨l, hl, rfl⟩ := Option.map_eq_some_iff.1 hg
    have ha := decVals_sl hl
    refine returns_wk (L := []) elist_nil noHint (by kernel_rfl) Tryz.func30 Tryz.ntmps30 Tryz.results30 rfl rfl (und_all_cons (under_vals hl).und und_all_nil) und_bool ?_
    have h1 : (((l.length : Nat) : Int) ≤ 60) = (l.length ≤ 60) := propext (by omega)
    simp +contextual +decide (maxSteps := 1000000) only [↓ wP, wQ, tf, Nat.reduceAdd, ne_eq, ha.len, List.length_map, h1]
def valueV : List AV → Option AV
  | [a] => (decVal a).map fun v => .bool (valOk v)
  | _ => none
theorem und_val {v : Val} : Und 0 (valI v) := (underE_agg fun x hx => by simp at hx; rcases hx with rfl | rfl <;> exact ⟨1, rfl⟩ : UnderE 0 (valI v)).und
set_option maxHeartbeats 1000000 in
theorem rvalue_ok : Abs.Ok Tryz.prog 130 valueV := by
  intro args v hg
  match args, hg with
  | [a], hg =>
    obtain ⟨⟨k, n⟩, hl, rfl⟩ := Option.map_eq_some_iff.1 hg
    cases decVal_some hl
    refine returns_wk (L := [ent 62 inV]) (elist_cons rIn_ok.ent elist_nil) noHint (by kernel_rfl) Tryz.func130 Tryz.ntmps130 Tryz.results130 rfl rfl (und_all_cons und_val und_all_nil) und_bool ?_
    by_cases h1 : k = 1
    · subst h1; simp +contextual +decide (maxSteps := 1000000) only [↓ wP, wQ, tf, Nat.reduceAdd, ne_eq, valI, inV_eq]
      rfl
    by_cases h2 : k = 2
    · subst h2; simp +contextual +decide (maxSteps := 1000000) only [↓ wP, wQ, tf, Nat.reduceAdd, ne_eq, valI, inV_eq]
      rfl
    by_cases h3 : k = 3
    · subst h3; simp +contextual +decide (maxSteps := 1000000) only [↓ wP, wQ, tf, Nat.reduceAdd, ne_eq, valI, inV_eq]
      rfl
    by_cases h4 : k = 4
    · subst h4; simp +contextual +decide (maxSteps := 1000000) only [↓ wP, wQ, tf, Nat.reduceAdd, ne_eq, valI, inV_eq]
      rfl
    by_cases h5 : k = 5
    · subst h5; simp +contextual +decide (maxSteps := 1000000) only [↓ wP, wQ, tf, Nat.reduceAdd, ne_eq, valI, inV_eq]
      rfl
    simp +contextual +decide (maxSteps := 1000000) only [↓ wP, wQ, tf, Nat.reduceAdd, ne_eq, valI, inV_eq, h1, h2, h3, h4, h5]
    simp [valOk, h1, h2, h3, h4, h5]
def valuesV : List AV → Option AV
  | [a] => (decVals a).map fun l => .bool (valsOk l)
  | _ => none
theorem valuesV_eq {a : AV} {l : List Val} (h : decVals a = some l) : valuesV [a] = some (.bool (valsOk l)) := by simp [valuesV, h]
theorem rvalues_ok : Abs.Ok Tryz.prog 88 valuesV := by
  intro args v hg
  match args, hg with
  | [a], hg =>
    obtain ⟨l, hl, rfl⟩ := Option.map_eq_some_iff.1 hg
    have ha := decVals_sl hl
    have hlen := ha.2
    simp only [List.length_map] at hlen
    refine returns_wk (L := [ent 130 valueV]) (elist_cons rvalue_ok.ent elist_nil) noHint (by kernel_rfl) Tryz.func88 Tryz.ntmps88 Tryz.results88 rfl rfl (und_all_cons (under_vals hl).und und_all_nil) und_bool ?_
    simp +contextual +decide (maxSteps := 1000000) only [↓ wP, wQ, tf, Nat.reduceAdd, ne_eq]
    refine Wk_loop (fun i e => ∃ t, e = ⟨19, none, 88, t, [], ⟨0, 0, .leaf⟩, .no⟩ ∧ t.val 0 = a ∧ t.val 3 = .int .i64 (i : Nat) ∧ i ≤ l.length ∧ (l.take i).all valOk = true) (fun i => l.length - i) 0 ⟨_, rfl, by simp +decide only [↓ wval, wint, wlog], by simp +decide only [↓ wval, wint, wlog]; rfl, Nat.zero_le _, rfl⟩ ?_
    rintro i _ ⟨t, rfl, t0, t3, hi, hok⟩
    by_cases hlt : i < l.length
    · have d1 : (i : Int) < (l.length : Nat) := by omega
      have d3 : (0 : Int) ≤ i := by omega
      have d4 : ((i : Int)).toNat = i := by omega
      have d5 := wrap_succ (i := i) (by omega)
      have htk := take_snoc (d := default) hlt
      have hm : l.getD i default ∈ l := by rw [getD_lt hlt]; exact List.getElem_mem _
      cases hv : valOk (l.getD i default) with
      | true =>
        simp +contextual +decide (maxSteps := 1000000) only [↓ wP, wQ, tf, Nat.reduceAdd, ne_eq, ha.len, ha.idx, List.length_map, t0, t3, d1, d3, d4, d5, idxF_map valI_len, pfC_agg, show (valI (l.getD i default)) = .agg [.int .i64 (l.getD i default).1, .int .i64 (l.getD i default).2] from rfl, show valueV [.agg [.int .i64 (l.getD i default).1, .int .i64 (l.getD i default).2]] = some (.bool (valOk (l.getD i default))) from rfl, hv]
        exact ⟨i + 1, by show _ - _ < _ - _; omega, _, rfl, by simp +decide only [↓ wval, wint, wlog, t0], by simp +decide only [↓ wval, wint, wlog], hlt, by rw [htk, List.all_append, hok]; simp only [List.all_cons, hv, List.all_nil]; rfl⟩
      | false =>
        simp +contextual +decide (maxSteps := 1000000) only [↓ wP, wQ, tf, Nat.reduceAdd, ne_eq, ha.len, ha.idx, List.length_map, t0, t3, d1, d3, d4, d5, idxF_map valI_len, pfC_agg, show (valI (l.getD i default)) = .agg [.int .i64 (l.getD i default).1, .int .i64 (l.getD i default).2] from rfl, show valueV [.agg [.int .i64 (l.getD i default).1, .int .i64 (l.getD i default).2]] = some (.bool (valOk (l.getD i default))) from rfl, hv]
        have : l.all valOk = false := by rw [List.all_eq_false]; exact ⟨_, hm, by rw [hv]; simp⟩
        rw [valsOk, this, Bool.and_false]
    · have : i = l.length := by omega
      subst this
      rw [List.take_length] at hok
      have d1 : ¬ ((l.length : Nat) : Int) < (l.length : Nat) := by omega
      have h1 : (((l.length : Nat) : Int) ≤ 30) = (l.length ≤ 30) := propext (by omega)
      simp +contextual +decide (maxSteps := 1000000) only [↓ wP, wQ, tf, Nat.reduceAdd, ne_eq, ha.len, List.length_map, t0, t3, d1, h1]
      rw [valsOk, hok, Bool.and_true]
end
end Go.Proofs.YtajngkkihadgfaaGreat
/-
  The reference of images: the bytes of numbers, values, objects.
-/
namespace Go.Proofs.YtajngkkihadgfaaGreat
open Go.Abs Go Go.Abs.TryzF
noncomputable section
set_option maxRecDepth 10000
theorem i64_nat {n : Nat} (h : n < 9223372036854775808) : IntKind.i64.wrap (n : Int) = (n : Int) := IntWalk.i64_in _ (by omega)
theorem u8_nat {a : Nat} : IntKind.u8.wrap (a : Int) = ((a % 256 : Nat) : Int) := by simp [IntKind.wrap, IntKind.bits, IntKind.signed]
theorem u8_int {a : Int} (h : 0 ≤ a) : IntKind.u8.wrap a = ((a.toNat % 256 : Nat) : Int) := by
  have : ((a.toNat : Nat) : Int) = a := by omega
  rw [← this, u8_nat]; simp
theorem tmod_nat {n m : Nat} : Int.tmod (n : Int) (m : Int) = ((n % m : Nat) : Int) := by rw [Int.tmod_eq_emod_of_nonneg (by omega)]; simp
theorem tdiv_nat {n m : Nat} : Int.tdiv (n : Int) (m : Int) = ((n / m : Nat) : Int) := by rw [Int.tdiv_eq_ediv_of_nonneg (by omega)]; simp
theorem cvO_one {g c : Nat} {d : Option ORes} (hc : c < 256) : cvO (some (obg g [.int .u8 (c : Nat)])) g 1 d = some (.val (.str [c])) := cvO_ok (l := [c]) rfl (fun b hb => by simp at hb; omega)
def numberV : List AV → Option AV
  | [.int .i64 n] => if 0 ≤ n ∧ n < 9223372036854775808 then some (.str (numB n.toNat)) else none
  | _ => none
theorem numberV_eq {n : Nat} (h : n < 9223372036854775808) : numberV [.int .i64 (n : Nat)] = some (.str (numB n)) := by
  simp only [numberV]; rw [if_pos (by omega)]; simp
set_option maxHeartbeats 1000000 in
theorem rnumber_ok : Abs.Ok Tryz.prog 91 numberV := by
  intro args v hg
  unfold numberV at hg
  split at hg
  · rename_i n
    split at hg
    · rename_i hn
      cases hg
      obtain ⟨m0, rfl⟩ : ∃ m : Nat, n = (m : Int) := ⟨n.toNat, by omega⟩
      rw [Int.toNat_natCast]
      have hlen := numB_len 9 m0 (by omega) (by omega)
      refine returns_wk (L := []) elist_nil noHint (by kernel_rfl) Tryz.func91 Tryz.ntmps91 Tryz.results91 rfl rfl (und_all_cons und_int und_all_nil) und_str ?_
      simp +contextual +decide (maxSteps := 1000000) only [↓ wP, wQ, tf, Nat.reduceAdd, ne_eq]
      refine Wk_loop (fun m e => ∃ t n low o out, e = ⟨22, none, 91, t, [], ⟨n, low, o⟩, .no⟩ ∧ t.val 0 = .int .i64 (m : Nat) ∧ t.val 3 = .str out ∧ out ++ numB m = numB m0 ∧ m ≤ m0) (fun m => m) m0
        ⟨_, 0, 0, _, [], rfl, by simp +decide only [↓ wval, wint, wlog], by simp +decide only [↓ wval, wint, wlog], rfl, Nat.le_refl _⟩ ?_
      rintro m _ ⟨t, n, low, o, out, rfl, t0, t3, hout, hm⟩
      have hle : out.length + (numB m).length ≤ 9 := by rw [← List.length_append, hout]; exact hlen
      have d1 : (127 < (m : Int)) = (127 < m) := propext (by omega)
      by_cases hlt : 127 < m
      · have hu : numB m = (m % 128 + 128) :: numB (m / 128) := by rw [numB, dif_pos hlt]
        have e1 : Int.tmod (m : Int) 128 = ((m % 128 : Nat) : Int) := tmod_nat
        have e2 : IntKind.i64.wrap (((m % 128 : Nat) : Int) + 128) = ((m % 128 + 128 : Nat) : Int) := by rw [IntWalk.i64_in _ (by omega)]; omega
        have e3 : IntKind.u8.wrap ((m % 128 + 128 : Nat) : Int) = ((m % 128 + 128 : Nat) : Int) := by rw [u8_nat]; omega
        have e4 : IntKind.i64.wrap (Int.tdiv (m : Int) 128) = ((m / 128 : Nat) : Int) := by rw [show Int.tdiv (m : Int) 128 = ((m / 128 : Nat) : Int) from tdiv_nat, i64_nat (by omega)]
        have hcv : ∀ {g : Nat} {d : Option ORes}, cvO (some (obg g [.int .u8 ((m % 128 + 128 : Nat) : Int)])) g 1 d = some (.val (.str [m % 128 + 128])) := cvO_one (by omega)
        have hadd : out.length + [m % 128 + 128].length < 9223372036854775808 := by simp; omega
        simp +contextual +decide (maxSteps := 1000000) only [↓ wP, wQ, tf, Nat.reduceAdd, ne_eq, t0, t3, d1, hlt, e1, e2, e3, e4, Nat.reduceMul, Nat.mul_one, Nat.zero_mul, Nat.zero_add, cvC_ofBytes, hcv, frN, abin_str_add hadd]
        exact ⟨m / 128, by show m / 128 < m; omega, _, n + 1, _, _, out ++ [m % 128 + 128], rfl, by simp +decide only [↓ wval, wint, wlog], by simp +decide only [↓ wval, wint, wlog], by rw [← hout, hu, List.append_assoc]; rfl, by omega⟩
      · have hu : numB m = [m] := by rw [numB, dif_neg hlt]
        have e3 : IntKind.u8.wrap (m : Int) = (m : Int) := by rw [u8_nat]; omega
        have hcv : ∀ {g : Nat} {d : Option ORes}, cvO (some (obg g [.int .u8 (m : Int)])) g 1 d = some (.val (.str [m])) := cvO_one (by omega)
        have hadd : out.length + [m].length < 9223372036854775808 := by simp; omega
        simp +contextual +decide (maxSteps := 1000000) only [↓ wP, wQ, tf, Nat.reduceAdd, ne_eq, t0, t3, d1, hlt, e3, Nat.reduceMul, Nat.mul_one, Nat.zero_mul, Nat.zero_add, cvC_ofBytes, hcv, frN, abin_str_add hadd]
        rw [← hout, hu]
    · cases hg
  · cases hg
def signedV : List AV → Option AV
  | [.int .i64 n] => if numOk n = true then some (.str (sgnB n)) else none
  | _ => none
theorem signedV_eq {n : Int} (h : numOk n = true) : signedV [.int .i64 n] = some (.str (sgnB n)) := by simp [signedV, h]
theorem rsigned_ok : Abs.Ok Tryz.prog 89 signedV := by
  intro args v hg
  unfold signedV at hg
  split at hg
  · rename_i n
    split at hg
    · rename_i hn
      cases hg
      have hn' := hn
      simp only [numOk, inB, Bool.and_eq_true, decide_eq_true_eq] at hn'
      refine returns_wk (L := [ent 91 numberV]) (elist_cons rnumber_ok.ent elist_nil) noHint (by kernel_rfl) Tryz.func89 Tryz.ntmps89 Tryz.results89 rfl rfl (und_all_cons und_int und_all_nil) und_str ?_
      by_cases h0 : n < 0
      · have e1 : IntKind.i64.wrap (-2 * n) = -2 * n := IntWalk.i64_in _ (by omega)
        have e2 : IntKind.i64.wrap (-2 * n - 1) = ((zig n : Nat) : Int) := by rw [IntWalk.i64_in _ (by omega), zig, if_pos h0]; omega
        have e3 := numberV_eq (n := zig n) (by have := zig_lt hn; omega)
        simp +contextual +decide (maxSteps := 1000000) only [↓ wP, wQ, tf, Nat.reduceAdd, ne_eq, h0, e1, e2, e3]
        rfl
      · have e2 : IntKind.i64.wrap (2 * n) = ((zig n : Nat) : Int) := by rw [IntWalk.i64_in _ (by omega), zig, if_neg h0]; omega
        have e3 := numberV_eq (n := zig n) (by have := zig_lt hn; omega)
        simp +contextual +decide (maxSteps := 1000000) only [↓ wP, wQ, tf, Nat.reduceAdd, ne_eq, h0, e2, e3]
        rfl
    · cases hg
  · cases hg
theorem valOk_n {v : Val} (h : valOk v = true) : numOk v.2 = true ∧ 1 ≤ v.1 ∧ v.1 ≤ 5 := by
  unfold valOk at h
  simp only [numOk, inB, Bool.and_eq_true, decide_eq_true_eq] at h ⊢
  split at h
  · exact ⟨by simpa using h, by omega, by omega⟩
  · split at h
    · simp at h; exact ⟨by omega, by omega, by omega⟩
    · split at h
      · simp at h; exact ⟨by omega, by omega, by omega⟩
      · split at h
        · simp at h; exact ⟨by omega, by omega, by omega⟩
        · split at h
          · simp at h; exact ⟨by omega, by omega, by omega⟩
          · cases h
theorem valB_len {v : Val} (h : valOk v = true) : (valB v).length ≤ 6 := by
  have := sgnB_len (valOk_n h).1
  simp [valB]; omega
theorem flatMap_len {α : Type} {f : α → List Nat} {k : Nat} : ∀ (l : List α), (∀ x ∈ l, (f x).length ≤ k) → (l.flatMap f).length ≤ l.length * k
  | [], _ => by simp
  | x :: l, h => by
    have h1 := h x (List.mem_cons_self ..)
    have h2 := flatMap_len l fun y hy => h y (List.mem_cons_of_mem _ hy)
    simp only [List.flatMap_cons, List.length_append, List.length_cons, Nat.succ_mul]; omega
theorem valsOk_and {l : List Val} (h : valsOk l = true) : l.length ≤ 30 ∧ ∀ v ∈ l, valOk v = true := by
  simp only [valsOk, Bool.and_eq_true, decide_eq_true_eq] at h
  exact ⟨h.1, List.all_eq_true.1 h.2⟩
theorem vals_len {l : List Val} (h : valsOk l = true) : (valsB l).length ≤ 185 := by
  obtain ⟨h1, h2⟩ := valsOk_and h
  have e1 := numB_len 1 l.length (by omega) (by omega)
  have e2 := flatMap_len (f := valB) (k := 6) l fun x hx => valB_len (h2 x hx)
  simp only [valsB, List.length_append]; omega
def listV : List AV → Option AV
  | [a] => match decVals a with
    | some l => if valsOk l = true then some (.str (valsB l)) else none
    | none => none
  | _ => none
theorem listV_eq {a : AV} {l : List Val} (h : decVals a = some l) (h' : valsOk l = true) : listV [a] = some (.str (valsB l)) := by simp [listV, h, h']
set_option maxHeartbeats 1000000 in
theorem rlist_ok : Abs.Ok Tryz.prog 90 listV := by
  intro args v hg
  unfold listV at hg
  split at hg
  · rename_i a
    split at hg
    · rename_i l hl
      split at hg
      · rename_i hok
        cases hg
        have ha := decVals_sl hl
        obtain ⟨hl30, hall⟩ := valsOk_and hok
        refine returns_wk (L := [ent 91 numberV, ent 89 signedV]) (elist_cons rnumber_ok.ent (elist_cons rsigned_ok.ent elist_nil)) (fun _ => ([15], [])) (by kernel_rfl) Tryz.func90 Tryz.ntmps90 Tryz.results90 rfl rfl (und_all_cons (under_vals hl).und und_all_nil) und_str ?_
        have e0 := numberV_eq (n := l.length) (by omega)
        simp +contextual +decide (maxSteps := 1000000) only [↓ wP, wQ, tf, Nat.reduceAdd, ne_eq, ha.len, List.length_map, e0]
        refine Wk_loop (fun i e => ∃ t n low o, e = ⟨32, none, 90, t, [], ⟨n, low, o⟩, .no⟩ ∧ t.val 0 = a ∧ t.val 3 = .str (numB l.length ++ (l.take i).flatMap valB) ∧ t.val 4 = .int .i64 (i : Nat) ∧ i ≤ l.length) (fun i => l.length - i) 0
          ⟨_, 0, 0, _, rfl, by simp +decide only [↓ wval, wint, wlog], by simp only [List.take_zero, List.flatMap_nil, List.append_nil]; simp +decide only [↓ wval, wint, wlog], by simp +decide only [↓ wval, wint, wlog]; rfl, Nat.zero_le _⟩ ?_
        rintro i _ ⟨t, n, low, o, rfl, t0, t3, t4, hi⟩
        by_cases hlt : i < l.length
        · have d1 : (i : Int) < (l.length : Nat) := by omega
          have d3 : (0 : Int) ≤ i := by omega
          have d4 : ((i : Int)).toNat = i := by omega
          have d5 := wrap_succ (i := i) (by omega)
          have htk := take_snoc (d := default) hlt
          have hm : l.getD i default ∈ l := by rw [getD_lt hlt]; exact List.getElem_mem _
          obtain ⟨q1, q2, q3⟩ := valOk_n (hall _ hm)
          have hvl := valB_len (hall _ hm)
          have hsum : ((l.take (i + 1)).flatMap valB).length ≤ 30 * 6 := Nat.le_trans (flatMap_len (k := 6) _ fun x hx => valB_len (hall x (List.mem_of_mem_take hx))) (by rw [List.length_take]; omega)
          have hnl := numB_len 1 l.length (by omega) (by omega)
          have hpre : ((l.take i).flatMap valB).length ≤ 30 * 6 := Nat.le_trans (flatMap_len (k := 6) _ fun x hx => valB_len (hall x (List.mem_of_mem_take hx))) (by rw [List.length_take]; omega)
          generalize hxd : l.getD i default = x at *
          obtain ⟨k, m⟩ := x
          have e3 := u8_int (a := k) (by simp only at q2; omega)
          have hcv : ∀ {g : Nat} {d : Option ORes}, cvO (some (obg g [.int .u8 ((k.toNat % 256 : Nat) : Int)])) g 1 d = some (.val (.str [k.toNat % 256])) := cvO_one (by omega)
          have hsg := signedV_eq (n := m) q1
          have hsl := sgnB_len (n := m) q1
          have hadd : (numB l.length ++ (l.take i).flatMap valB).length + [k.toNat % 256].length < 9223372036854775808 := by simp only [List.length_append, List.length_cons, List.length_nil]; omega
          have hadd2 : (numB l.length ++ (l.take i).flatMap valB ++ [k.toNat % 256]).length + (sgnB m).length < 9223372036854775808 := by simp only [List.length_append, List.length_cons, List.length_nil]; omega
          generalize hpr : numB l.length ++ (l.take i).flatMap valB = pre at *
          simp +contextual +decide (maxSteps := 1000000) only [↓ wP, wQ, tf, Nat.reduceAdd, ne_eq, ha.len, ha.idx, List.length_map, t0, t3, t4, d1, d3, d4, d5, idxF_map valI_len, hxd, valI, e3, cvC_ofBytes, hcv, hsg, frN, Nat.reduceMul, Nat.mul_one, Nat.zero_mul, Nat.zero_add, abin_str_add hadd, abin_str_add hadd2]
          refine ⟨i + 1, by show _ - _ < _ - _; omega, _, n + 1, _, _, rfl, by simp +decide only [↓ wval, wint, wlog, t0], ?_, by simp +decide only [↓ wval, wint, wlog], hlt⟩
          rw [htk, List.flatMap_append]
          simp +decide only [↓ wval]
          simp only [List.flatMap_cons, List.flatMap_nil, List.append_nil, ← List.append_assoc]
          rw [hpr, valB, List.append_assoc]; rfl
        · have : i = l.length := by omega
          subst this
          rw [List.take_length] at t3
          have d1 : ¬ ((l.length : Nat) : Int) < (l.length : Nat) := by omega
          simp +contextual +decide (maxSteps := 1000000) only [↓ wP, wQ, tf, Nat.reduceAdd, ne_eq, ha.len, List.length_map, t0, t3, t4, d1]
          rfl
      · cases hg
    · cases hg
  · cases hg
end
end Go.Proofs.YtajngkkihadgfaaGreat
