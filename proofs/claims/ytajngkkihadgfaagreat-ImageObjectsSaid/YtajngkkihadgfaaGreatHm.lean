/-
  The program of images: its writer writes values and lists.
-/
import Derived.Test.YtajngkkihadgfaaGreatHj
set_option linter.unusedVariables false
set_option linter.unusedSimpArgs false

namespace Go.Proofs.YtajngkkihadgfaaGreat
open Go.Abs Go Go.Abs.TryzF
noncomputable section
set_option maxRecDepth 10000

theorem orcK_of {P : Program} {O : Orc} {g : FuncId} {first args : List AV} {s : Sto} {K : CRes → Prop} (h : Wcall P O (.func (.func g) first []) args s K) : orcK (O g (first ++ args) s) K (Wrun P O (.func (.func g) first []) args s K) := by
  have := Wcall_func.1 h
  rwa [List.append_nil] at this
theorem signed_run {O : Orc} (ho : ∀ a σ, O 108 a σ = none) (ho' : ∀ a σ, O 83 a σ = none) (n0 low0 : Nat) (o0 : Tr AObj) (w a0 : Nat) (bs : List Nat) (m : Int) (hm : numOk m = true) (hb : (bs ++ sgnB m).length ≤ wmax) (hw : WBo n0 o0 w a0 bs) :
    RetW Tryz.prog O (.func (.func 83) [] []) [.ptr w 0 0, .int .i64 m] n0 low0 o0 w a0 (bs ++ sgnB m) := by
  have hw' := hw.1
  have hm' := hm
  simp only [numOk, inB, Bool.and_eq_true, decide_eq_true_eq] at hm'
  rw [List.length_append] at hb
  refine RetW.run (first := []) (args := [.ptr w 0 0, .int .i64 m]) (cap := []) noHint (ho' _ _) (by kernel_rfl) Tryz.func83 Tryz.ntmps83 Tryz.results83 rfl rfl hw' ?_
  show Wk _ _ _ _ ⟨15, none, 83, Tr.leaf.lay 0 [.ptr w 0 0, .int .i64 m], [], ⟨n0, n0, o0⟩, .no⟩ _
  have hz := zig_lt hm
  by_cases h0 : m < 0
  · have e1 : IntKind.i64.wrap (-2 * m) = -2 * m := IntWalk.i64_in _ (by omega)
    have e2 : IntKind.i64.wrap (-2 * m - 1) = ((zig m : Nat) : Int) := by rw [IntWalk.i64_in _ (by omega), zig, if_pos h0]; omega
    simp (config := {contextual := true, decide := true, maxSteps := 1000000}) only [↓ wpre, ↓ wval, wpost, wint, wlog, wcell, wop, wop2, wdr, wdr2, wloop, wrng, wfld, tf, Nat.reduceAdd, Wop_ext, extV_tuple, ne_eq, h0, e1, e2, ho, orcK_none]
    refine wrunOf (ho _ _) ((plain_run ho n0 n0 o0 w a0 bs (zig m) (by omega) hb hw).wcall fun n1 low1 o1 a1 hl1 hw1 hf1 => ?_)
    rw [callK_put]
    show putK _ _ _ _ _ _ _ (.val' _ ⟨n1, low1, o1⟩)
    simp (config := {contextual := true, decide := true, maxSteps := 1000000}) only [↓ wpre, ↓ wval, wpost, wint, wlog, wcell, wop, wop2, wdr, wdr2, wloop, wrng, wfld, tf, Nat.reduceAdd, Wop_ext, extV_tuple, ne_eq, endW_r]
    exact ⟨a1, hl1, hw1, hf1⟩
  · have e2 : IntKind.i64.wrap (2 * m) = ((zig m : Nat) : Int) := by rw [IntWalk.i64_in _ (by omega), zig, if_neg h0]; omega
    simp (config := {contextual := true, decide := true, maxSteps := 1000000}) only [↓ wpre, ↓ wval, wpost, wint, wlog, wcell, wop, wop2, wdr, wdr2, wloop, wrng, wfld, tf, Nat.reduceAdd, Wop_ext, extV_tuple, ne_eq, h0, e2, ho, orcK_none]
    refine wrunOf (ho _ _) ((plain_run ho n0 n0 o0 w a0 bs (zig m) (by omega) hb hw).wcall fun n1 low1 o1 a1 hl1 hw1 hf1 => ?_)
    rw [callK_put]
    show putK _ _ _ _ _ _ _ (.val' _ ⟨n1, low1, o1⟩)
    simp (config := {contextual := true, decide := true, maxSteps := 1000000}) only [↓ wpre, ↓ wval, wpost, wint, wlog, wcell, wop, wop2, wdr, wdr2, wloop, wrng, wfld, tf, Nat.reduceAdd, Wop_ext, extV_tuple, ne_eq, endW_n]
    exact ⟨a1, hl1, hw1, hf1⟩
/-! ### lists of hearth/api.MeanVal -/
set_option maxHeartbeats 1000000 in
theorem listV_run {O : Orc} (ho : ∀ a σ, O 108 a σ = none) (ho' : ∀ a σ, O 84 a σ = none) (n0 low0 : Nat) (o0 : Tr AObj) (w a0 : Nat) (bs : List Nat) (hw : WBo n0 o0 w a0 bs) (g : FuncId) (first : List AV)
    (av : AV) (xs : List AV) (ha : Sl av xs) (m : Nat) (hlen : xs.length = m) (c : Nat → List AV) (hix : ∀ i, i < m → ∀ {q : IntKind} {d : Option AV}, idxF (some 2) xs (.int q (i : Nat)) d = some (.pf (.agg (c i)))) (hcl : ∀ i, i < m → (c i).length = 2) (hcc : ∀ i, i < m → (c i).all AV.isCell = true)
    (B : Nat → List Nat) (hb : (bs ++ numB m ++ (List.range m).flatMap B).length ≤ wmax)
    (h : ∀ i, i < m → ∀ n low o a bs', WBo n o w a bs' → (bs' ++ B i).length ≤ wmax → RetW Tryz.prog O (.func (.func g) first []) [.agg (c i)] n low o w a (bs' ++ B i)) :
    RetW Tryz.prog O (.func (.func 84) [] []) [.ptr w 0 0, av, .func (.func g) first []] n0 low0 o0 w a0 (bs ++ numB m ++ (List.range m).flatMap B) := by
  have hw' := hw.1
  have hll := ha.2
  refine RetW.run (first := []) (args := [.ptr w 0 0, av, .func (.func g) first []]) (cap := []) noHint (ho' _ _) (by kernel_rfl) Tryz.func84 Tryz.ntmps84 Tryz.results84 rfl rfl hw' ?_
  show Wk _ _ _ _ ⟨22, none, 84, Tr.leaf.lay 0 [.ptr w 0 0, av, .func (.func g) first []], [], ⟨n0, n0, o0⟩, .no⟩ _
  simp (config := {contextual := true, decide := true, maxSteps := 1000000}) only [↓ wpre, ↓ wval, wpost, wint, wlog, wcell, wop, wop2, wdr, wdr2, wloop, wrng, wfld, tf, Nat.reduceAdd, Wop_ext, extV_tuple, ne_eq, ha.len, hlen, ho, orcK_none]
  refine wrunOf (ho _ _) ((plain_run ho n0 n0 o0 w a0 bs m (by omega) (by rw [List.length_append] at hb; rw [← List.length_append]; omega) hw).wcall fun n1 low1 o1 a1 hl1 hw1 hf1 => ?_)
  rw [callK_put]
  show putK _ _ _ _ _ _ _ (.val' _ ⟨n1, low1, o1⟩)
  simp (config := {contextual := true, decide := true, maxSteps := 1000000}) only [↓ wpre, ↓ wval, wpost, wint, wlog, wcell, wop, wop2, wdr, wdr2, wloop, wrng, wfld, tf, Nat.reduceAdd, Wop_ext, extV_tuple, ne_eq, ha.len, hlen]
  refine Wk_loop (fun i e => ∃ t n low o a, e = ⟨22, none, 84, t, [], ⟨n, low, o⟩, .no⟩ ∧ t.val 2 = .func (.func g) first [] ∧ t.val 12 = av ∧ t.val 13 = .int .i64 (m : Nat) ∧ t.val 14 = .int .i64 (i : Nat) ∧ i ≤ m ∧ low ≤ w ∧ WBo n o w a (bs ++ numB m ++ (List.range i).flatMap B) ∧ FrW n0 o0 w a0 n o a) (fun i => m - i) 0
    ⟨_, n1, low1, o1, a1, rfl, by simp (config := {decide := true}) only [↓ wval, wint, wlog], by simp (config := {decide := true}) only [↓ wval, wint, wlog], by simp (config := {decide := true}) only [↓ wval, wint, wlog], by simp (config := {decide := true}) only [↓ wval, wint, wlog]; rfl, Nat.zero_le _, hl1, by simpa using hw1, hf1⟩ ?_
  rintro i _ ⟨t, n, low, o, a, rfl, t2, t12, t13, t14, hi, hlow, hwi, hfi⟩
  by_cases hlt : i < m
  · have d1 : ((i : Int) < (m : Nat)) = True := eq_true (by omega)
    have d5 := wrap_succ (i := i) (by omega)
    have x1 := fun {q d} => hix i hlt (q := q) (d := d)
    have x2 := hcl i hlt
    have x3 := hcc i hlt
    have x4 := h i hlt
    have hz : 0 + 2 ≤ (c i).length := by omega
    have hsl : lslice (c i) 0 2 = c i := by unfold lslice; rw [List.drop_zero, List.take_of_length_le (by omega)]
    have hrs : (List.range (i + 1)).flatMap B = (List.range i).flatMap B ++ B i := by rw [List.range_succ, List.flatMap_append]; simp
    have hle : (bs ++ numB m ++ (List.range i).flatMap B ++ B i).length ≤ wmax := by
      have : ((List.range (i + 1)).flatMap B).length ≤ ((List.range m).flatMap B).length := by
        obtain ⟨k, rfl⟩ := Nat.exists_eq_add_of_le (show i + 1 ≤ m from hlt)
        rw [@List.range_add (i + 1) k, List.flatMap_append, List.length_append]; omega
      rw [hrs] at this
      simp only [List.length_append] at hb this ⊢; omega
    generalize c i = cs at *
    have f1 := frI hwi.1
    have f2 := frI hwi.2.1
    simp (config := {contextual := true, decide := true, maxSteps := 1000000}) only [↓ wpre, ↓ wval, wpost, wint, wlog, wcell, wop, wop2, wdr, wdr2, wloop, wrng, wfld, tf, Nat.reduceAdd, Wop_ext, extV_tuple, ne_eq, ha.idx, t2, t12, t13, t14, d1, x1, pfC_agg, x2, x3, hz, hsl, frN]
    have hwi' : WBo (n + 1) ((o.set n (obg 0 [.int .i64 0, .int .i64 0])).set n (obg 0 cs)) w a (bs ++ numB m ++ (List.range i).flatMap B) := by
      obtain ⟨q1, q2, q3⟩ := hwi
      refine ⟨by omega, by omega, ?_⟩
      rcases q3 with ⟨k1, k2, k3⟩ | ⟨k1, g', k2, k3, k4⟩
      · exact .inl ⟨k1, by rw [Tr.get_set_ne _ _ (by omega), Tr.get_set_ne _ _ (by omega)]; exact k2, k3⟩
      · exact .inr ⟨k1, g', by rw [Tr.get_set_ne _ _ (by omega), Tr.get_set_ne _ _ (by omega)]; exact k2, by rw [Tr.get_set_ne _ _ (by omega), Tr.get_set_ne _ _ (by omega)]; exact k3, k4⟩
    refine orcK_of ((x4 (n + 1) _ _ a _ hwi' hle).wcall fun n2 low2 o2 a2 hl2 hw2 hf2 => ?_)
    rw [callK_put]
    show putK _ _ _ _ _ _ _ (.val' _ ⟨n2, low2, o2⟩)
    simp (config := {contextual := true, decide := true, maxSteps := 1000000}) only [↓ wpre, ↓ wval, wpost, wint, wlog, wcell, wop, wop2, wdr, wdr2, wloop, wrng, wfld, tf, Nat.reduceAdd, Wop_ext, extV_tuple, ne_eq, t14, d5]
    refine ⟨i + 1, by show _ - _ < _ - _; omega, _, n2, low2, o2, a2, rfl, by simp (config := {decide := true}) only [↓ wval, wint, wlog, t2], by simp (config := {decide := true}) only [↓ wval, wint, wlog, t12], by simp (config := {decide := true}) only [↓ wval, wint, wlog, t13], by simp (config := {decide := true}) only [↓ wval, wint, wlog], hlt, hl2, by rw [hrs, ← List.append_assoc]; exact hw2, hfi.trans ⟨?_, ?_, fun id q1 q2 q3 => ?_⟩⟩
    · have := hf2.1; omega
    · have := hf2.2.1; omega
    · rw [hf2.2.2 id (by omega) q2 q3, Tr.get_set_ne _ _ (by omega), Tr.get_set_ne _ _ (by omega)]
  · have : i = m := by omega
    subst this
    have d1 : (((i : Nat) : Int) < (i : Nat)) = False := eq_false (by omega)
    simp (config := {contextual := true, decide := true, maxSteps := 1000000}) only [↓ wpre, ↓ wval, wpost, wint, wlog, wcell, wop, wop2, wdr, wdr2, wloop, wrng, wfld, tf, Nat.reduceAdd, Wop_ext, extV_tuple, ne_eq, t2, t12, t13, t14, d1, endW_n]
    exact ⟨a, hlow, hwi, hfi⟩
/-! ### lists of hearth/api.MeanFrame -/
set_option maxHeartbeats 1000000 in
theorem listF_run {O : Orc} (ho : ∀ a σ, O 108 a σ = none) (ho' : ∀ a σ, O 86 a σ = none) (n0 low0 : Nat) (o0 : Tr AObj) (w a0 : Nat) (bs : List Nat) (hw : WBo n0 o0 w a0 bs) (g : FuncId) (first : List AV)
    (av : AV) (xs : List AV) (ha : Sl av xs) (m : Nat) (hlen : xs.length = m) (c : Nat → List AV) (hix : ∀ i, i < m → ∀ {q : IntKind} {d : Option AV}, idxF (some 3) xs (.int q (i : Nat)) d = some (.pf (.agg (c i)))) (hcl : ∀ i, i < m → (c i).length = 3) (hcc : ∀ i, i < m → (c i).all AV.isCell = true)
    (B : Nat → List Nat) (hb : (bs ++ numB m ++ (List.range m).flatMap B).length ≤ wmax)
    (h : ∀ i, i < m → ∀ n low o a bs', WBo n o w a bs' → (bs' ++ B i).length ≤ wmax → RetW Tryz.prog O (.func (.func g) first []) [.agg (c i)] n low o w a (bs' ++ B i)) :
    RetW Tryz.prog O (.func (.func 86) [] []) [.ptr w 0 0, av, .func (.func g) first []] n0 low0 o0 w a0 (bs ++ numB m ++ (List.range m).flatMap B) := by
  have hw' := hw.1
  have hll := ha.2
  refine RetW.run (first := []) (args := [.ptr w 0 0, av, .func (.func g) first []]) (cap := []) noHint (ho' _ _) (by kernel_rfl) Tryz.func86 Tryz.ntmps86 Tryz.results86 rfl rfl hw' ?_
  show Wk _ _ _ _ ⟨22, none, 86, Tr.leaf.lay 0 [.ptr w 0 0, av, .func (.func g) first []], [], ⟨n0, n0, o0⟩, .no⟩ _
  simp (config := {contextual := true, decide := true, maxSteps := 1000000}) only [↓ wpre, ↓ wval, wpost, wint, wlog, wcell, wop, wop2, wdr, wdr2, wloop, wrng, wfld, tf, Nat.reduceAdd, Wop_ext, extV_tuple, ne_eq, ha.len, hlen, ho, orcK_none]
  refine wrunOf (ho _ _) ((plain_run ho n0 n0 o0 w a0 bs m (by omega) (by rw [List.length_append] at hb; rw [← List.length_append]; omega) hw).wcall fun n1 low1 o1 a1 hl1 hw1 hf1 => ?_)
  rw [callK_put]
  show putK _ _ _ _ _ _ _ (.val' _ ⟨n1, low1, o1⟩)
  simp (config := {contextual := true, decide := true, maxSteps := 1000000}) only [↓ wpre, ↓ wval, wpost, wint, wlog, wcell, wop, wop2, wdr, wdr2, wloop, wrng, wfld, tf, Nat.reduceAdd, Wop_ext, extV_tuple, ne_eq, ha.len, hlen]
  refine Wk_loop (fun i e => ∃ t n low o a, e = ⟨22, none, 86, t, [], ⟨n, low, o⟩, .no⟩ ∧ t.val 2 = .func (.func g) first [] ∧ t.val 12 = av ∧ t.val 13 = .int .i64 (m : Nat) ∧ t.val 14 = .int .i64 (i : Nat) ∧ i ≤ m ∧ low ≤ w ∧ WBo n o w a (bs ++ numB m ++ (List.range i).flatMap B) ∧ FrW n0 o0 w a0 n o a) (fun i => m - i) 0
    ⟨_, n1, low1, o1, a1, rfl, by simp (config := {decide := true}) only [↓ wval, wint, wlog], by simp (config := {decide := true}) only [↓ wval, wint, wlog], by simp (config := {decide := true}) only [↓ wval, wint, wlog], by simp (config := {decide := true}) only [↓ wval, wint, wlog]; rfl, Nat.zero_le _, hl1, by simpa using hw1, hf1⟩ ?_
  rintro i _ ⟨t, n, low, o, a, rfl, t2, t12, t13, t14, hi, hlow, hwi, hfi⟩
  by_cases hlt : i < m
  · have d1 : ((i : Int) < (m : Nat)) = True := eq_true (by omega)
    have d5 := wrap_succ (i := i) (by omega)
    have x1 := fun {q d} => hix i hlt (q := q) (d := d)
    have x2 := hcl i hlt
    have x3 := hcc i hlt
    have x4 := h i hlt
    have hz : 0 + 3 ≤ (c i).length := by omega
    have hsl : lslice (c i) 0 3 = c i := by unfold lslice; rw [List.drop_zero, List.take_of_length_le (by omega)]
    have hrs : (List.range (i + 1)).flatMap B = (List.range i).flatMap B ++ B i := by rw [List.range_succ, List.flatMap_append]; simp
    have hle : (bs ++ numB m ++ (List.range i).flatMap B ++ B i).length ≤ wmax := by
      have : ((List.range (i + 1)).flatMap B).length ≤ ((List.range m).flatMap B).length := by
        obtain ⟨k, rfl⟩ := Nat.exists_eq_add_of_le (show i + 1 ≤ m from hlt)
        rw [@List.range_add (i + 1) k, List.flatMap_append, List.length_append]; omega
      rw [hrs] at this
      simp only [List.length_append] at hb this ⊢; omega
    generalize c i = cs at *
    have f1 := frI hwi.1
    have f2 := frI hwi.2.1
    simp (config := {contextual := true, decide := true, maxSteps := 1000000}) only [↓ wpre, ↓ wval, wpost, wint, wlog, wcell, wop, wop2, wdr, wdr2, wloop, wrng, wfld, tf, Nat.reduceAdd, Wop_ext, extV_tuple, ne_eq, ha.idx, t2, t12, t13, t14, d1, x1, pfC_agg, x2, x3, hz, hsl, frN]
    have hwi' : WBo (n + 1) ((o.set n (obg 0 [.int .i64 0, .nils, .nils])).set n (obg 0 cs)) w a (bs ++ numB m ++ (List.range i).flatMap B) := by
      obtain ⟨q1, q2, q3⟩ := hwi
      refine ⟨by omega, by omega, ?_⟩
      rcases q3 with ⟨k1, k2, k3⟩ | ⟨k1, g', k2, k3, k4⟩
      · exact .inl ⟨k1, by rw [Tr.get_set_ne _ _ (by omega), Tr.get_set_ne _ _ (by omega)]; exact k2, k3⟩
      · exact .inr ⟨k1, g', by rw [Tr.get_set_ne _ _ (by omega), Tr.get_set_ne _ _ (by omega)]; exact k2, by rw [Tr.get_set_ne _ _ (by omega), Tr.get_set_ne _ _ (by omega)]; exact k3, k4⟩
    refine orcK_of ((x4 (n + 1) _ _ a _ hwi' hle).wcall fun n2 low2 o2 a2 hl2 hw2 hf2 => ?_)
    rw [callK_put]
    show putK _ _ _ _ _ _ _ (.val' _ ⟨n2, low2, o2⟩)
    simp (config := {contextual := true, decide := true, maxSteps := 1000000}) only [↓ wpre, ↓ wval, wpost, wint, wlog, wcell, wop, wop2, wdr, wdr2, wloop, wrng, wfld, tf, Nat.reduceAdd, Wop_ext, extV_tuple, ne_eq, t14, d5]
    refine ⟨i + 1, by show _ - _ < _ - _; omega, _, n2, low2, o2, a2, rfl, by simp (config := {decide := true}) only [↓ wval, wint, wlog, t2], by simp (config := {decide := true}) only [↓ wval, wint, wlog, t12], by simp (config := {decide := true}) only [↓ wval, wint, wlog, t13], by simp (config := {decide := true}) only [↓ wval, wint, wlog], hlt, hl2, by rw [hrs, ← List.append_assoc]; exact hw2, hfi.trans ⟨?_, ?_, fun id q1 q2 q3 => ?_⟩⟩
    · have := hf2.1; omega
    · have := hf2.2.1; omega
    · rw [hf2.2.2 id (by omega) q2 q3, Tr.get_set_ne _ _ (by omega), Tr.get_set_ne _ _ (by omega)]
  · have : i = m := by omega
    subst this
    have d1 : (((i : Nat) : Int) < (i : Nat)) = False := eq_false (by omega)
    simp (config := {contextual := true, decide := true, maxSteps := 1000000}) only [↓ wpre, ↓ wval, wpost, wint, wlog, wcell, wop, wop2, wdr, wdr2, wloop, wrng, wfld, tf, Nat.reduceAdd, Wop_ext, extV_tuple, ne_eq, t2, t12, t13, t14, d1, endW_n]
    exact ⟨a, hlow, hwi, hfi⟩

end
end Go.Proofs.YtajngkkihadgfaaGreat

/-
  The program of images: the bytes of an object.
-/

namespace Go.Proofs.YtajngkkihadgfaaGreat
open Go.Abs Go Go.Abs.TryzF
noncomputable section
set_option maxRecDepth 10000

set_option maxHeartbeats 1000000 in
theorem value_run {O : Orc} (ho : ∀ a σ, O 108 a σ = none) (ho' : ∀ a σ, O 83 a σ = none) (ho1 : ∀ a σ, O 85 a σ = none) (n0 low0 : Nat) (o0 : Tr AObj) (w a0 : Nat) (bs : List Nat) (v : Val) (hv : valOk v = true) (hb : (bs ++ valB v).length ≤ wmax) (hw : WBo n0 o0 w a0 bs) :
    RetW Tryz.prog O (.func (.func 85) [.ptr w 0 0] []) [valI v] n0 low0 o0 w a0 (bs ++ valB v) := by
  obtain ⟨hwn, han, hcase⟩ := hw
  obtain ⟨q1, q2, q3⟩ := valOk_n hv
  obtain ⟨k, m⟩ := v
  simp only at q1 q2 q3
  refine RetW.run (first := [.ptr w 0 0]) (args := [valI (k, m)]) (cap := []) noHint (ho1 _ _) (by kernel_rfl) Tryz.func85 Tryz.ntmps85 Tryz.results85 rfl rfl hwn ?_
  show Wk _ _ _ _ ⟨20, none, 85, Tr.leaf.lay 0 [.ptr w 0 0, .agg [.int .i64 k, .int .i64 m]], [], ⟨n0, n0, o0⟩, .no⟩ _
  have f1 := frI hwn
  have f2 := frI han
  have e3 := u8_int (a := k) (by omega)
  have hvb : valB (k, m) = (k.toNat % 256) :: sgnB m := rfl
  rw [hvb] at hb ⊢
  simp only [List.length_append, List.length_cons, wmax] at hb
  have hbs : bs ++ (k.toNat % 256) :: sgnB m = (bs ++ [k.toNat % 256]) ++ sgnB m := by simp
  rw [hbs]
  have hsmall : 2 * (bs.length + 1) + 1024 ≤ 281474976710656 ∧ bs.length + 1 < 4611686018427387904 := ⟨by omega, by omega⟩
  have hb2 : ((bs ++ [k.toNat % 256]) ++ sgnB m).length ≤ wmax := by simp only [List.length_append, List.length_cons, List.length_nil, wmax]; omega
  rcases hcase with ⟨rfl, hg, rfl⟩ | ⟨hne, g, hg, hga, haw⟩
  · simp (config := {contextual := true, decide := true, maxSteps := 1000000}) only [↓ wpre, ↓ wval, wpost, wint, wlog, wcell, wop, wop2, wdr, wdr2, wloop, wrng, wfld, tf, Nat.reduceAdd, Wop_ext, extV_tuple, ne_eq, hg, f1, e3, frN, Nat.reduceMul, Nat.mul_one, Nat.zero_mul, Nat.zero_add, ho', orcK_none]
    refine wrunOf (ho' _ _) ((signed_run ho ho' (n0 + 1 + 1 + 1) _ _ a0 (n0 + 1 + 1) ([] ++ [k.toNat % 256]) m q1 hb2 ⟨by omega, by omega, .inr ⟨by simp, 0, ?_, ?_, by omega⟩⟩).wcall fun n1 low1 o1 a1 hl1 hw1 hf1 => ?_)
    · simp (config := {contextual := true, decide := true, maxSteps := 1000000}) only [↓ wpre, ↓ wval, wpost, wint, wlog, wcell, wop, wop2, wdr, wdr2, wloop, wrng, wfld, tf, Nat.reduceAdd, Wop_ext, extV_tuple, ne_eq, f1, frN, List.nil_append, List.length_cons, List.length_nil]
    · simp (config := {contextual := true, decide := true, maxSteps := 1000000}) only [↓ wpre, ↓ wval, wpost, wint, wlog, wcell, wop, wop2, wdr, wdr2, wloop, wrng, wfld, tf, Nat.reduceAdd, Wop_ext, extV_tuple, ne_eq, f1, frN]
      rfl
    · rw [callK_put]
      show putK _ _ _ _ _ _ _ (.val' _ ⟨n1, low1, o1⟩)
      simp (config := {contextual := true, decide := true, maxSteps := 1000000}) only [↓ wpre, ↓ wval, wpost, wint, wlog, wcell, wop, wop2, wdr, wdr2, wloop, wrng, wfld, tf, Nat.reduceAdd, Wop_ext, extV_tuple, ne_eq, endW_n]
      refine ⟨a1, hl1, hw1, ?_, ?_, fun id p1 p2 p3 => ?_⟩
      · have := hf1.1; omega
      · have := hf1.2.1; omega
      · have f5 := frI p1
        rw [hf1.2.2 id (by omega) p2 (by omega)]
        simp (config := {decide := true}) only [↓ wval, f5, p2, ne_eq]
  · have f3 : a0 ≠ w ∧ w ≠ a0 := ⟨haw, fun h => haw h.symm⟩
    have hl1 : (bs.map encB).length = bs.length := List.length_map _
    simp (config := {contextual := true, decide := true, maxSteps := 1000000}) only [↓ wpre, ↓ wval, wpost, wint, wlog, wcell, wop, wop2, wdr, wdr2, wloop, wrng, wfld, tf, Nat.reduceAdd, Wop_ext, extV_tuple, ne_eq, hg, hga, f1, f2, f3, e3, frN, hl1, hsmall, Nat.reduceMul, Nat.mul_one, Nat.zero_mul, Nat.zero_add, ho', orcK_none]
    refine wrunOf (ho' _ _) ((signed_run ho ho' (n0 + 1 + 1) _ _ w a0 (bs ++ [k.toNat % 256]) m q1 hb2 ⟨by omega, by omega, .inr ⟨by simp, g + 1, ?_, ?_, haw⟩⟩).wcall fun n1 low1 o1 a1 hl1 hw1 hf1 => ?_)
    · simp (config := {contextual := true, decide := true, maxSteps := 1000000}) only [↓ wpre, ↓ wval, wpost, wint, wlog, wcell, wop, wop2, wdr, wdr2, wloop, wrng, wfld, tf, Nat.reduceAdd, Wop_ext, extV_tuple, ne_eq, f1, frN, List.length_append, List.length_cons, List.length_nil]
    · simp (config := {contextual := true, decide := true, maxSteps := 1000000}) only [↓ wpre, ↓ wval, wpost, wint, wlog, wcell, wop, wop2, wdr, wdr2, wloop, wrng, wfld, tf, Nat.reduceAdd, Wop_ext, extV_tuple, ne_eq, f1, f2, f3, frN]
      rw [List.map_append]; rfl
    · rw [callK_put]
      show putK _ _ _ _ _ _ _ (.val' _ ⟨n1, low1, o1⟩)
      simp (config := {contextual := true, decide := true, maxSteps := 1000000}) only [↓ wpre, ↓ wval, wpost, wint, wlog, wcell, wop, wop2, wdr, wdr2, wloop, wrng, wfld, tf, Nat.reduceAdd, Wop_ext, extV_tuple, ne_eq, endW_n]
      refine ⟨a1, hl1, hw1, ?_, ?_, fun id p1 p2 p3 => ?_⟩
      · have := hf1.1; omega
      · have := hf1.2.1; omega
      · have f5 := frI p1
        rw [hf1.2.2 id (by omega) p2 p3]
        simp (config := {decide := true}) only [↓ wval, f5, p2, p3, ne_eq]

theorem sgnB_by (n : Int) : By (sgnB n) := numB_by _
theorem by_append {a b : List Nat} (h : By a) (h' : By b) : By (a ++ b) := fun x hx => (List.mem_append.1 hx).elim (h x) (h' x)
theorem by_flat {α : Type} {f : α → List Nat} {l : List α} (h : ∀ x, By (f x)) : By (l.flatMap f) := fun x hx => by
  obtain ⟨y, _, hy⟩ := List.mem_flatMap.1 hx
  exact h y x hy
theorem by_cons {c : Nat} {l : List Nat} (hc : c < 256) (h : By l) : By (c :: l) := fun x hx => by
  rcases List.mem_cons.1 hx with rfl | hx
  · exact hc
  · exact h x hx
theorem valB_by (v : Val) : By (valB v) := by_cons (Nat.mod_lt _ (by omega)) (sgnB_by _)
theorem valsB_by (l : List Val) : By (valsB l) := by_append (numB_by _) (by_flat valB_by)
theorem frB_by (f : Fr) : By (frB f) := by_append (by_append (numB_by _) (valsB_by _)) (valsB_by _)
theorem obB_by (o : Ob) : By (obB o) := by_cons (Nat.mod_lt _ (by omega)) (by_append (by_append (by_append (sgnB_by _) (valsB_by _)) (numB_by _)) (by_flat frB_by))
theorem flat_range {α : Type} [Inhabited α] (l : List α) (f : α → List Nat) : (List.range l.length).flatMap (fun i => f (l.getD i default)) = l.flatMap f := by
  have : ∀ k, k ≤ l.length → (List.range k).flatMap (fun i => f (l.getD i default)) = (l.take k).flatMap f := by
    intro k
    induction k with
    | zero => intro _; rfl
    | succ k ih =>
      intro hk
      rw [List.range_succ, List.flatMap_append, ih (by omega), take_snoc (d := default) (by omega), List.flatMap_append]; simp
  rw [this _ (Nat.le_refl _), List.take_length]
abbrev ON (O : Orc) : Prop := (∀ a σ, O 108 a σ = none) ∧ (∀ a σ, O 83 a σ = none) ∧ (∀ a σ, O 85 a σ = none) ∧ (∀ a σ, O 84 a σ = none) ∧ (∀ a σ, O 87 a σ = none) ∧ (∀ a σ, O 86 a σ = none) ∧ (∀ a σ, O 37 a σ = none)
/-- a list of values is written -/
theorem vals_run {O : Orc} (ho : ON O) (n0 low0 : Nat) (o0 : Tr AObj) (w a0 : Nat) (bs : List Nat) (hw : WBo n0 o0 w a0 bs) (av : AV) (l : List Val) (ha : decVals av = some l) (hok : valsOk l = true) (hb : (bs ++ valsB l).length ≤ wmax) :
    RetW Tryz.prog O (.func (.func 84) [] []) [.ptr w 0 0, av, .func (.func 85) [.ptr w 0 0] []] n0 low0 o0 w a0 (bs ++ valsB l) := by
  have hall := (valsOk_and hok).2
  have e1 := flat_range l valB
  have := listV_run ho.1 ho.2.2.2.1 n0 low0 o0 w a0 bs hw 85 [.ptr w 0 0] av _ (decVals_sl ha) l.length (by simp) (fun i => valC (l.getD i default)) (fun i hi {q d} => idxV l hi) (fun _ _ => rfl) (fun _ _ => rfl) (fun i => valB (l.getD i default)) (by rw [e1, List.append_assoc]; exact hb)
    (fun i hi n low o a bs' hw' hb' => value_run ho.1 ho.2.1 ho.2.2.1 n low o w a bs' (l.getD i default) (hall _ (by rw [getD_lt hi]; exact List.getElem_mem _)) hb' hw')
  rw [e1, List.append_assoc] at this
  exact this
set_option maxHeartbeats 1000000 in
theorem frame_run {O : Orc} (ho : ON O) (n0 low0 : Nat) (o0 : Tr AObj) (w a0 : Nat) (bs : List Nat) (hw : WBo n0 o0 w a0 bs) (cs : List AV) (f : Fr) (hf : decFr (.agg cs) = some f) (hok : frOk f = true) (hb : (bs ++ frB f).length ≤ wmax) :
    RetW Tryz.prog O (.func (.func 87) [.ptr w 0 0] []) [.agg cs] n0 low0 o0 w a0 (bs ++ frB f) := by
  obtain ⟨e, v, he0, he, hv⟩ := decFr_some hf
  cases he0
  obtain ⟨k1, k2, k3, k4⟩ := frOk_and hok
  have ce := decVals_cell he
  have cv := decVals_cell hv
  have hwn := hw.1
  obtain ⟨nd, hnd⟩ : ∃ m : Nat, f.node = (m : Int) := ⟨f.node.toNat, by omega⟩
  have hfb : bs ++ frB f = bs ++ numB nd ++ valsB f.env ++ valsB f.vals := by rw [frB, hnd]; simp
  rw [hfb] at hb ⊢
  have hb1 : (bs ++ numB nd ++ valsB f.env).length ≤ wmax := by rw [List.length_append] at hb; omega
  have hb0 : bs.length + (numB nd).length ≤ wmax := by rw [List.length_append, List.length_append] at hb1; omega
  refine RetW.run (first := [.ptr w 0 0]) (args := [.agg [.int .i64 f.node, e, v]]) (cap := []) noHint (ho.2.2.2.2.1 _ _) (by kernel_rfl) Tryz.func87 Tryz.ntmps87 Tryz.results87 rfl rfl hwn ?_
  show Wk _ _ _ _ ⟨20, none, 87, Tr.leaf.lay 0 [.ptr w 0 0, .agg [.int .i64 f.node, e, v]], [], ⟨n0, n0, o0⟩, .no⟩ _
  rw [hnd]
  have f1 := frI hwn
  simp (config := {contextual := true, decide := true, maxSteps := 1000000}) only [↓ wpre, ↓ wval, wpost, wint, wlog, wcell, wop, wop2, wdr, wdr2, wloop, wrng, wfld, tf, Nat.reduceAdd, Wop_ext, extV_tuple, ne_eq, ce, cv, f1, frN, ho.1, orcK_none]
  have hw0 : WBo (n0 + 1) (o0.set n0 (obg 0 [.int .i64 (nd : Nat), e, v])) w a0 bs := by
    obtain ⟨q1, q2, q3⟩ := hw
    refine ⟨by omega, by omega, ?_⟩
    rcases q3 with ⟨k1, k2, k3⟩ | ⟨k1, g', k2, k3, k4⟩
    · exact .inl ⟨k1, by rw [Tr.get_set_ne _ _ (by omega)]; exact k2, k3⟩
    · exact .inr ⟨k1, g', by rw [Tr.get_set_ne _ _ (by omega)]; exact k2, by rw [Tr.get_set_ne _ _ (by omega)]; exact k3, k4⟩
  have han := hw.2.1
  refine wrunOf (ho.1 _ _) ((plain_run ho.1 (n0 + 1) _ _ w a0 bs nd (by omega) hb0 hw0).wcall fun n1 low1 o1 a1 hl1 hw1 hf1 => ?_)
  rw [callK_put]
  show putK _ _ _ _ _ _ _ (.val' _ ⟨n1, low1, o1⟩)
  have g1 : o1.get n0 = some (obg 0 [.int .i64 (nd : Nat), e, v]) := by rw [hf1.2.2 n0 (by omega) (by omega) (by omega), Tr.get_set_same]
  have h1 := hf1.1
  have h2 := hf1.2.1
  have f2 := frI (show n0 < n1 by omega)
  simp (config := {contextual := true, decide := true, maxSteps := 1000000}) only [↓ wpre, ↓ wval, wpost, wint, wlog, wcell, wop, wop2, wdr, wdr2, wloop, wrng, wfld, tf, Nat.reduceAdd, Wop_ext, extV_tuple, ne_eq, g1, f2, ce, cv, ho.2.2.2.1, orcK_none]
  refine wrunOf (ho.2.2.2.1 _ _) ((vals_run ho n1 _ _ w a1 (bs ++ numB nd) hw1 e f.env he k3 hb1).wcall fun n2 low2 o2 a2 hl2 hw2 hf2 => ?_)
  rw [callK_put]
  show putK _ _ _ _ _ _ _ (.val' _ ⟨n2, low2, o2⟩)
  have h3 := hf2.1
  have h4 := hf2.2.1
  have g2 : o2.get n0 = some (obg 0 [.int .i64 (nd : Nat), e, v]) := by rw [hf2.2.2 n0 (by omega) (by omega) (by omega)]; exact g1
  have f3 := frI (show n0 < n2 by omega)
  simp (config := {contextual := true, decide := true, maxSteps := 1000000}) only [↓ wpre, ↓ wval, wpost, wint, wlog, wcell, wop, wop2, wdr, wdr2, wloop, wrng, wfld, tf, Nat.reduceAdd, Wop_ext, extV_tuple, ne_eq, g2, f3, ce, cv, ho.2.2.2.1, orcK_none]
  refine wrunOf (ho.2.2.2.1 _ _) ((vals_run ho n2 _ _ w a2 (bs ++ numB nd ++ valsB f.env) hw2 v f.vals hv k4 hb).wcall fun n3 low3 o3 a3 hl3 hw3 hf3 => ?_)
  rw [callK_put]
  show putK _ _ _ _ _ _ _ (.val' _ ⟨n3, low3, o3⟩)
  simp (config := {contextual := true, decide := true, maxSteps := 1000000}) only [↓ wpre, ↓ wval, wpost, wint, wlog, wcell, wop, wop2, wdr, wdr2, wloop, wrng, wfld, tf, Nat.reduceAdd, Wop_ext, extV_tuple, ne_eq, endW_n]
  refine ⟨a3, hl3, hw3, ?_, ?_, fun id p1 p2 p3 => ?_⟩
  · have := hf3.1; omega
  · have := hf3.2.1; omega
  · rw [hf3.2.2 id (by omega) p2 (by omega), hf2.2.2 id (by omega) p2 (by omega), hf1.2.2 id (by omega) p2 p3, Tr.get_set_ne _ _ (by omega)]

/-- frames are written -/
theorem frs_run {O : Orc} (ho : ON O) (n0 low0 : Nat) (o0 : Tr AObj) (w a0 : Nat) (bs : List Nat) (hw : WBo n0 o0 w a0 bs) (av : AV) (l : List Fr) (ha : decFrs av = some l) (hok : ∀ f ∈ l, frOk f = true) (hb : (bs ++ (numB l.length ++ l.flatMap frB)).length ≤ wmax) :
    RetW Tryz.prog O (.func (.func 86) [] []) [.ptr w 0 0, av, .func (.func 87) [.ptr w 0 0] []] n0 low0 o0 w a0 (bs ++ (numB l.length ++ l.flatMap frB)) := by
  obtain ⟨xs, c, h1, h2, h3⟩ := frs_cells ha
  have e1 := flat_range l frB
  have := listF_run ho.1 ho.2.2.2.2.2.1 n0 low0 o0 w a0 bs hw 87 [.ptr w 0 0] av xs h1 l.length h2 c (fun i hi {q d} => (h3 i hi).1) (fun i hi => (h3 i hi).2.1) (fun i hi => (h3 i hi).2.2.1) (fun i => frB (l.getD i default)) (by rw [e1, List.append_assoc]; exact hb)
    (fun i hi n low o a bs' hw' hb' => frame_run ho n low o w a bs' hw' (c i) (l.getD i default) (h3 i hi).2.2.2 (hok _ (by rw [getD_lt hi]; exact List.getElem_mem _)) hb')
  rw [e1, List.append_assoc] at this
  exact this
set_option maxHeartbeats 2000000 in
theorem object_run {O : Orc} (ho : ON O) (n0 low0 : Nat) (o0 : Tr AObj) (w a0 : Nat) (bs : List Nat) (hw : WBo n0 o0 w a0 bs) (av : AV) (x : Ob) (hx : decOb av = some x) (hok : obOk x = true) (hb : (bs ++ obB x).length ≤ wmax) :
    RetW Tryz.prog O (.func (.func 37) [] []) [.ptr w 0 0, av] n0 low0 o0 w a0 (bs ++ obB x) := by
  obtain ⟨vs, fs, rfl, hvs, hfs⟩ := decOb_some hx
  have cv := decVals_cell hvs
  have cf := decS_cell hfs
  obtain ⟨⟨k1, k2⟩, k3, k4, k5, k6⟩ := obOk_and hok
  obtain ⟨hwn, han, hcase⟩ := hw
  have hobB : bs ++ obB x = bs ++ [x.form.toNat % 256] ++ sgnB x.n ++ valsB x.vals ++ (numB x.frs.length ++ x.frs.flatMap frB) := by simp [obB]
  rw [hobB] at hb ⊢
  have hb3 : (bs ++ [x.form.toNat % 256] ++ sgnB x.n ++ valsB x.vals).length ≤ wmax := by rw [List.length_append] at hb; omega
  have hb2 : (bs ++ [x.form.toNat % 256] ++ sgnB x.n).length ≤ wmax := by rw [List.length_append] at hb3; omega
  have hb1 : bs.length + 1 ≤ 1099511627776 := by simp only [List.length_append, List.length_cons, List.length_nil, wmax] at hb2; omega
  refine RetW.run (first := []) (args := [.ptr w 0 0, .agg [.int .i64 x.form, .int .i64 x.n, vs, fs]]) (cap := []) noHint (ho.2.2.2.2.2.2 _ _) (by kernel_rfl) Tryz.func37 Tryz.ntmps37 Tryz.results37 rfl rfl hwn ?_
  show Wk _ _ _ _ ⟨32, none, 37, Tr.leaf.lay 0 [.ptr w 0 0, .agg [.int .i64 x.form, .int .i64 x.n, vs, fs]], [], ⟨n0, n0, o0⟩, .no⟩ _
  have f1 := frI hwn
  have f2 := frI han
  have e3 := u8_int (a := x.form) (by omega)
  have hsmall : 2 * (bs.length + 1) + 1024 ≤ 281474976710656 ∧ bs.length + 1 < 4611686018427387904 := ⟨by omega, by omega⟩
  rcases hcase with ⟨rfl, hg, rfl⟩ | ⟨hne, g, hg, hga, haw⟩
  · simp (config := {contextual := true, decide := true, maxSteps := 1000000}) only [↓ wpre, ↓ wval, wpost, wint, wlog, wcell, wop, wop2, wdr, wdr2, wloop, wrng, wfld, tf, Nat.reduceAdd, Wop_ext, extV_tuple, ne_eq, hg, f1, e3, frN, cv, cf, Nat.reduceMul, Nat.mul_one, Nat.zero_mul, Nat.zero_add, ho.2.1, orcK_none]
    refine wrunOf (ho.2.1 _ _) ((signed_run ho.1 ho.2.1 (n0 + 1 + 1 + 1) _ _ a0 (n0 + 1 + 1) ([] ++ [x.form.toNat % 256]) x.n k3 hb2 ⟨by omega, by omega, .inr ⟨by simp, 0, ?_, ?_, by omega⟩⟩).wcall fun n1 low1 o1 a1 hl1 hw1 hf1 => ?_)
    · simp (config := {contextual := true, decide := true, maxSteps := 1000000}) only [↓ wpre, ↓ wval, wpost, wint, wlog, wcell, wop, wop2, wdr, wdr2, wloop, wrng, wfld, tf, Nat.reduceAdd, Wop_ext, extV_tuple, ne_eq, f1, frN, List.nil_append, List.length_cons, List.length_nil]
    · simp (config := {contextual := true, decide := true, maxSteps := 1000000}) only [↓ wpre, ↓ wval, wpost, wint, wlog, wcell, wop, wop2, wdr, wdr2, wloop, wrng, wfld, tf, Nat.reduceAdd, Wop_ext, extV_tuple, ne_eq, f1, frN]
      rfl
    · rw [callK_put]
      show putK _ _ _ _ _ _ _ (.val' _ ⟨n1, low1, o1⟩)
      have h1 := hf1.1
      have h2 := hf1.2.1
      have g1 : o1.get n0 = some (obg 0 [.int .i64 x.form, .int .i64 x.n, vs, fs]) := by
        rw [hf1.2.2 n0 (by omega) (by omega) (by omega)]
        simp (config := {contextual := true, decide := true, maxSteps := 1000000}) only [↓ wpre, ↓ wval, wpost, wint, wlog, wcell, wop, wop2, wdr, wdr2, wloop, wrng, wfld, tf, Nat.reduceAdd, Wop_ext, extV_tuple, ne_eq, f1, f2, frN]
      have f4 := frI (show n0 < n1 by omega)
      simp (config := {contextual := true, decide := true, maxSteps := 1000000}) only [↓ wpre, ↓ wval, wpost, wint, wlog, wcell, wop, wop2, wdr, wdr2, wloop, wrng, wfld, tf, Nat.reduceAdd, Wop_ext, extV_tuple, ne_eq, g1, f4, cv, cf, ho.2.2.2.1, orcK_none]
      refine wrunOf (ho.2.2.2.1 _ _) ((vals_run ho n1 _ _ a0 a1 _ hw1 vs x.vals hvs k4 hb3).wcall fun n2 low2 o2 a2 hl2 hw2 hf2 => ?_)
      rw [callK_put]
      show putK _ _ _ _ _ _ _ (.val' _ ⟨n2, low2, o2⟩)
      have h3 := hf2.1
      have h4 := hf2.2.1
      have g2 : o2.get n0 = some (obg 0 [.int .i64 x.form, .int .i64 x.n, vs, fs]) := by rw [hf2.2.2 n0 (by omega) (by omega) (by omega)]; exact g1
      have f5 := frI (show n0 < n2 by omega)
      simp (config := {contextual := true, decide := true, maxSteps := 1000000}) only [↓ wpre, ↓ wval, wpost, wint, wlog, wcell, wop, wop2, wdr, wdr2, wloop, wrng, wfld, tf, Nat.reduceAdd, Wop_ext, extV_tuple, ne_eq, g2, f5, cv, cf, ho.2.2.2.2.2.1, orcK_none]
      refine wrunOf (ho.2.2.2.2.2.1 _ _) ((frs_run ho n2 _ _ a0 a2 _ hw2 fs x.frs hfs k6 hb).wcall fun n3 low3 o3 a3 hl3 hw3 hf3 => ?_)
      rw [callK_put]
      show putK _ _ _ _ _ _ _ (.val' _ ⟨n3, low3, o3⟩)
      simp (config := {contextual := true, decide := true, maxSteps := 1000000}) only [↓ wpre, ↓ wval, wpost, wint, wlog, wcell, wop, wop2, wdr, wdr2, wloop, wrng, wfld, tf, Nat.reduceAdd, Wop_ext, extV_tuple, ne_eq, endW_n]
      refine ⟨a3, hl3, hw3, ?_, ?_, fun id p1 p2 p3 => ?_⟩
      · have := hf3.1; omega
      · have := hf3.2.1; omega
      · have f6 := frI p1
        rw [hf3.2.2 id (by omega) p2 (by omega), hf2.2.2 id (by omega) p2 (by omega), hf1.2.2 id (by omega) p2 (by omega)]
        simp (config := {decide := true}) only [↓ wval, f6, p2, p3, ne_eq]
  · have f3 : a0 ≠ w ∧ w ≠ a0 := ⟨haw, fun h => haw h.symm⟩
    have hl1 : (bs.map encB).length = bs.length := List.length_map _
    simp (config := {contextual := true, decide := true, maxSteps := 1000000}) only [↓ wpre, ↓ wval, wpost, wint, wlog, wcell, wop, wop2, wdr, wdr2, wloop, wrng, wfld, tf, Nat.reduceAdd, Wop_ext, extV_tuple, ne_eq, hg, hga, f1, f2, f3, e3, frN, cv, cf, hl1, hsmall, Nat.reduceMul, Nat.mul_one, Nat.zero_mul, Nat.zero_add, ho.2.1, orcK_none]
    refine wrunOf (ho.2.1 _ _) ((signed_run ho.1 ho.2.1 (n0 + 1 + 1) _ _ w (a0) (bs ++ [x.form.toNat % 256]) x.n k3 hb2 ⟨by omega, by omega, .inr ⟨by simp, g + 1, ?_, ?_, haw⟩⟩).wcall fun n1 low1 o1 a1 hl1 hw1 hf1 => ?_)
    · simp (config := {contextual := true, decide := true, maxSteps := 1000000}) only [↓ wpre, ↓ wval, wpost, wint, wlog, wcell, wop, wop2, wdr, wdr2, wloop, wrng, wfld, tf, Nat.reduceAdd, Wop_ext, extV_tuple, ne_eq, f1, frN, List.length_append, List.length_cons, List.length_nil]
    · simp (config := {contextual := true, decide := true, maxSteps := 1000000}) only [↓ wpre, ↓ wval, wpost, wint, wlog, wcell, wop, wop2, wdr, wdr2, wloop, wrng, wfld, tf, Nat.reduceAdd, Wop_ext, extV_tuple, ne_eq, f1, f2, f3, frN]
      rw [List.map_append]; rfl
    · rw [callK_put]
      show putK _ _ _ _ _ _ _ (.val' _ ⟨n1, low1, o1⟩)
      have h1 := hf1.1
      have h2 := hf1.2.1
      have g1 : o1.get n0 = some (obg 0 [.int .i64 x.form, .int .i64 x.n, vs, fs]) := by
        rw [hf1.2.2 n0 (by omega) (by omega) (by omega)]
        simp (config := {contextual := true, decide := true, maxSteps := 1000000}) only [↓ wpre, ↓ wval, wpost, wint, wlog, wcell, wop, wop2, wdr, wdr2, wloop, wrng, wfld, tf, Nat.reduceAdd, Wop_ext, extV_tuple, ne_eq, f1, f2, frN]
      have f4 := frI (show n0 < n1 by omega)
      simp (config := {contextual := true, decide := true, maxSteps := 1000000}) only [↓ wpre, ↓ wval, wpost, wint, wlog, wcell, wop, wop2, wdr, wdr2, wloop, wrng, wfld, tf, Nat.reduceAdd, Wop_ext, extV_tuple, ne_eq, g1, f4, cv, cf, ho.2.2.2.1, orcK_none]
      refine wrunOf (ho.2.2.2.1 _ _) ((vals_run ho n1 _ _ w a1 _ hw1 vs x.vals hvs k4 hb3).wcall fun n2 low2 o2 a2 hl2 hw2 hf2 => ?_)
      rw [callK_put]
      show putK _ _ _ _ _ _ _ (.val' _ ⟨n2, low2, o2⟩)
      have h3 := hf2.1
      have h4 := hf2.2.1
      have g2 : o2.get n0 = some (obg 0 [.int .i64 x.form, .int .i64 x.n, vs, fs]) := by rw [hf2.2.2 n0 (by omega) (by omega) (by omega)]; exact g1
      have f5 := frI (show n0 < n2 by omega)
      simp (config := {contextual := true, decide := true, maxSteps := 1000000}) only [↓ wpre, ↓ wval, wpost, wint, wlog, wcell, wop, wop2, wdr, wdr2, wloop, wrng, wfld, tf, Nat.reduceAdd, Wop_ext, extV_tuple, ne_eq, g2, f5, cv, cf, ho.2.2.2.2.2.1, orcK_none]
      refine wrunOf (ho.2.2.2.2.2.1 _ _) ((frs_run ho n2 _ _ w a2 _ hw2 fs x.frs hfs k6 hb).wcall fun n3 low3 o3 a3 hl3 hw3 hf3 => ?_)
      rw [callK_put]
      show putK _ _ _ _ _ _ _ (.val' _ ⟨n3, low3, o3⟩)
      simp (config := {contextual := true, decide := true, maxSteps := 1000000}) only [↓ wpre, ↓ wval, wpost, wint, wlog, wcell, wop, wop2, wdr, wdr2, wloop, wrng, wfld, tf, Nat.reduceAdd, Wop_ext, extV_tuple, ne_eq, endW_n]
      refine ⟨a3, hl3, hw3, ?_, ?_, fun id p1 p2 p3 => ?_⟩
      · have := hf3.1; omega
      · have := hf3.2.1; omega
      · have f6 := frI p1
        rw [hf3.2.2 id (by omega) p2 (by omega), hf2.2.2 id (by omega) p2 (by omega), hf1.2.2 id (by omega) p2 (by omega)]
        simp (config := {decide := true}) only [↓ wval, f6, p2, p3, ne_eq]

theorem objectV_ok : Abs.Ok Tryz.prog 9 rObjectV := by
  intro args v hg
  match args, hg with
  | [a], hg =>
    obtain ⟨o, ho, rfl⟩ := Option.map_eq_some_iff.1 hg
    have hua := (under_ob ho).und
    have e1 := storableV_eq ho
    have ho0 := ho
    obtain ⟨vs, fs, rfl, hvs, hfs⟩ := decOb_some ho
    have c1 := decVals_cell hvs
    have c2 := decS_cell hfs
    refine returns_wk (L := [ent 36 storableV]) (elist_cons formed_ok.ent elist_nil) noHint (by kernel_rfl) Tryz.func9 Tryz.ntmps9 Tryz.results9 rfl rfl (und_all_cons hua und_all_nil) (by split <;> exact und_se) ?_
    cases h : obOk o with
    | false =>
      simp (config := {contextual := true, decide := true, maxSteps := 1000000}) only [↓ wpre, ↓ wval, wpost, wint, wlog, wcell, wop, wop2, wdr, wdr2, wloop, wrng, wfld, tf, Nat.reduceAdd, Wop_ext, extV_tuple, ne_eq, c1, c2, e1, h]
      rfl
    | true =>
      have hON : ON (orcL [ent 36 storableV]) := ⟨fun _ _ => rfl, fun _ _ => rfl, fun _ _ => rfl, fun _ _ => rfl, fun _ _ => rfl, fun _ _ => rfl, fun _ _ => rfl⟩
      simp (config := {contextual := true, decide := true, maxSteps := 1000000}) only [↓ wpre, ↓ wval, wpost, wint, wlog, wcell, wop, wop2, wdr, wdr2, wloop, wrng, wfld, tf, Nat.reduceAdd, Wop_ext, extV_tuple, ne_eq, c1, c2, e1, h, hON.2.2.2.2.2.2, orcK_none]
      obtain ⟨⟨k1, k2⟩, k3, k4, k5, k6⟩ := obOk_and h
      have hlen : (obB o).length ≤ 20000 := by
        have l1 := sgnB_len k3
        have l2 := vals_len k4
        have l3 := numB_len 1 o.frs.length (by omega) (by omega)
        have l4 : (o.frs.flatMap frB).length ≤ 40 * 375 := Nat.le_trans (flatMap_len (k := 375) _ fun x hx => fr_len (k6 x hx)) (by omega)
        simp only [obB, List.length_cons, List.length_append]; omega
      refine wrunOf (hON.2.2.2.2.2.2 _ _) ((object_run hON 2 0 _ 1 1 [] ⟨by omega, by omega, .inl ⟨rfl, ?_, rfl⟩⟩ _ o ho0 h (by rw [List.nil_append]; unfold wmax; omega)).wcall fun n1 low1 o1 a1 hl1 hw1 hf1 => ?_)
      · simp (config := {contextual := true, decide := true, maxSteps := 1000000}) only [↓ wpre, ↓ wval, wpost, wint, wlog, wcell, wop, wop2, wdr, wdr2, wloop, wrng, wfld, tf, Nat.reduceAdd, Wop_ext, extV_tuple, ne_eq]
      · rw [callK_put]
        show putK _ _ _ _ _ _ _ (.val' _ ⟨n1, low1, o1⟩)
        obtain ⟨q1, q2, q3⟩ := hw1
        rw [List.nil_append] at q3
        have hne : obB o ≠ [] := by simp [obB]
        rcases q3 with ⟨k, _⟩ | ⟨_, g, q4, q5, q6⟩
        · exact absurd k hne
        · have f1 := frI q1
          have f2 := frI q2
          have hby : By (obB o) := obB_by o
          have hcv : ∀ {d : Option ORes}, cvO (some (obg g ((obB o).map encB))) g (obB o).length d = some (.val (.str (obB o))) := fun {d} => cvO_ok rfl hby
          simp (config := {contextual := true, decide := true, maxSteps := 1000000}) only [↓ wpre, ↓ wval, wpost, wint, wlog, wcell, wop, wop2, wdr, wdr2, wloop, wrng, wfld, tf, Nat.reduceAdd, Wop_ext, extV_tuple, ne_eq, f1, f2, q4, q5, cvC_ofBytes, hcv]
          rfl

end
end Go.Proofs.YtajngkkihadgfaaGreat
