/-
  Slices compared.
-/
import Derived.Test.YtajngkkihadgfaaEo
import Derived.Test.YtajngkkihadgfaaFa
set_option linter.unusedVariables false
set_option linter.unusedSimpArgs false
namespace Go.Proofs.Ytajngkkihadgfaa
open Go.Abs Go Go.Abs.TryF
noncomputable section
set_option maxRecDepth 10000

theorem leave_val {O : Orc} {fn : Func} {nt : Nat} {f : FuncId} {t : Tr AV} {s : Sto} {v : AV} {K : CRes → Prop} (hr : dresults Try.prog ⟨nt, none, f, t, [], ⟨s.n, s.n, s.o⟩, .no⟩ fn.results.toList = some [v]) (hu : v.under s.n 100 = true) (h : K (.ret v none)) :
    bodyK Try.prog O fn (clR s fun res _ => K res) .ret ⟨nt, none, f, t, [], ⟨s.n, s.n, s.o⟩, .no⟩ := by
  refine Lv_ret rfl hr ?_
  show K (.ret v (dclose s v _))
  rw [dclose_none (Nat.le_refl _) hu rfl]
  exact h

theorem list_ext_getD {α : Type} {d : α} {l m : List α} (h : l.length = m.length) (h' : ∀ j, j < l.length → l.getD j d = m.getD j d) : l = m := by
  apply List.ext_getElem h
  intro i h1 h2
  have := h' i h1
  rwa [getD_lt h1, getD_lt h2] at this

theorem equalB_run {O : Orc} (ho : ∀ a σ, O 14 a σ = none) {s : Sto} {a b : AV} {xs ys : List Nat} {K : CRes → Prop} (ha : Rd Try.prog s 33 5 a (xs.map encB)) (hb : Rd Try.prog s 33 5 b (ys.map encB)) (hx : xs.length < 4611686018427387904) (hy : ys.length < 4611686018427387904) (hK : K (.ret (.bool (decide (xs = ys))) none)) :
    Wcall Try.prog O (.func (.func 14) [] []) [a, b] s K := by
  refine Wcall_run (ho _ _) (by kernel_rfl) Try.func14 rfl (Wk.sound (H := noHint) ?_)
  show Wk _ _ _ _ ⟨26, none, 14, Tr.leaf.lay 0 [a, b], [], ⟨s.n, s.n, s.o⟩, .no⟩ _
  have hdec : decide (xs.length = ys.length) = decide (xs.length = ys.length) := rfl
  have hc : (((xs.length : Nat) : Int) = (ys.length : Nat)) = (xs.length = ys.length) := propext (by omega)
  simp (config := {contextual := true, decide := true}) only [↓ wpre, ↓ wval, wpost, wint, wlog, wcell, wop, tf, ha.len, hb.len, List.length_map, hc]
  refine ⟨fun h => ?_, fun h => ?_⟩
  · refine leave_val (v := .bool false) (by rw [Try.results14]; simp (config := {decide := true}) only [↓ wval, wint, wlog]) rfl ?_
    rwa [decide_eq_false] at hK
    rintro rfl; exact h rfl
  refine Wk_loop (fun i e => ∃ t, e = ⟨26, none, 14, t, [], ⟨s.n, s.n, s.o⟩, .no⟩ ∧ t.val 0 = a ∧ t.val 1 = b ∧ t.val 12 = .int .i64 (xs.length : Nat) ∧ t.val 13 = .int .i64 (i : Nat) ∧ i ≤ xs.length ∧ ∀ j, j < i → xs.getD j 0 = ys.getD j 0) (fun i => xs.length - i) 0
    ⟨_, rfl, by simp (config := {decide := true}) only [↓ wval, wint, wlog], by simp (config := {decide := true}) only [↓ wval, wint, wlog], by simp (config := {decide := true}) only [↓ wval, wint, wlog]; rw [h], by simp (config := {decide := true}) only [↓ wval, wint, wlog]; rfl, Nat.zero_le _, fun j hj => by omega⟩ ?_
  rintro i _ ⟨t, rfl, h0, h1, h12, h13, hi, hpre⟩
  by_cases hlt : i < xs.length
  · have hlt' : i < ys.length := by omega
    have d1 : (i : Int) < (xs.length : Nat) := by omega
    have d5 := wrap_succ (i := i) (by omega)
    obtain ⟨ad, p1, p2, p3⟩ := ha.at_ i (encB (xs.getD i 0)) (by simp [hlt])
    obtain ⟨bd, q1, q2, q3⟩ := hb.at_ i (encB (ys.getD i 0)) (by simp [hlt'])
    have p4 := p3 ⟨s.n, s.n, s.o⟩ (fun _ _ => rfl)
    have q4 := q3 ⟨s.n, s.n, s.o⟩ (fun _ _ => rfl)
    have hcc : (((xs.getD i 0 : Nat) : Int) = (ys.getD i 0 : Nat)) = (xs.getD i 0 = ys.getD i 0) := propext (by omega)
    simp (config := {contextual := true, decide := true}) only [↓ wpre, ↓ wval, wpost, wint, wlog, wcell, wdr, wdr2, wloop, h0, h1, h12, h13, d1, d5, p1, p2, p4, q1, q2, q4, encB, hcc]
    refine ⟨fun hne => ?_, fun he => ⟨i + 1, by show _ - _ < _ - _; omega, _, rfl, by simp (config := {decide := true}) only [↓ wval, h0], by simp (config := {decide := true}) only [↓ wval, h1], by simp (config := {decide := true}) only [↓ wval, h12], by simp only [↓ wval], hlt, fun j hj => ?_⟩⟩
    · refine leave_val (v := .bool false) (by rw [Try.results14]; simp (config := {decide := true}) only [↓ wval, wint, wlog]) rfl ?_
      rwa [decide_eq_false] at hK
      rintro rfl; exact hne rfl
    · rcases Nat.lt_succ_iff_lt_or_eq.1 hj with hj | rfl
      · exact hpre j hj
      · exact he
  · have d1 : ¬ (i : Int) < (xs.length : Nat) := by omega
    simp (config := {contextual := true, decide := true}) only [↓ wpre, ↓ wval, wpost, wint, wlog, wcell, wloop, h12, h13, d1]
    refine leave_val (v := .bool true) (by rw [Try.results14]; simp (config := {decide := true}) only [↓ wval, wint, wlog]) rfl ?_
    rwa [decide_eq_true] at hK
    exact list_ext_getD (d := 0) h fun j hj => hpre j (by omega)

theorem equalI_run {O : Orc} (ho : ∀ a σ, O 16 a σ = none) {s : Sto} {a b : AV} {xs ys : List Nat} {K : CRes → Prop} (ha : Rd Try.prog s 34 3 a (xs.map encN)) (hb : Rd Try.prog s 34 3 b (ys.map encN)) (hx : xs.length < 4611686018427387904) (hy : ys.length < 4611686018427387904) (hK : K (.ret (.bool (decide (xs = ys))) none)) :
    Wcall Try.prog O (.func (.func 16) [] []) [a, b] s K := by
  refine Wcall_run (ho _ _) (by kernel_rfl) Try.func16 rfl (Wk.sound (H := noHint) ?_)
  show Wk _ _ _ _ ⟨26, none, 16, Tr.leaf.lay 0 [a, b], [], ⟨s.n, s.n, s.o⟩, .no⟩ _
  have hdec : decide (xs.length = ys.length) = decide (xs.length = ys.length) := rfl
  have hc : (((xs.length : Nat) : Int) = (ys.length : Nat)) = (xs.length = ys.length) := propext (by omega)
  simp (config := {contextual := true, decide := true}) only [↓ wpre, ↓ wval, wpost, wint, wlog, wcell, wop, tf, ha.len, hb.len, List.length_map, hc]
  refine ⟨fun h => ?_, fun h => ?_⟩
  · refine leave_val (v := .bool false) (by rw [Try.results16]; simp (config := {decide := true}) only [↓ wval, wint, wlog]) rfl ?_
    rwa [decide_eq_false] at hK
    rintro rfl; exact h rfl
  refine Wk_loop (fun i e => ∃ t, e = ⟨26, none, 16, t, [], ⟨s.n, s.n, s.o⟩, .no⟩ ∧ t.val 0 = a ∧ t.val 1 = b ∧ t.val 12 = .int .i64 (xs.length : Nat) ∧ t.val 13 = .int .i64 (i : Nat) ∧ i ≤ xs.length ∧ ∀ j, j < i → xs.getD j 0 = ys.getD j 0) (fun i => xs.length - i) 0
    ⟨_, rfl, by simp (config := {decide := true}) only [↓ wval, wint, wlog], by simp (config := {decide := true}) only [↓ wval, wint, wlog], by simp (config := {decide := true}) only [↓ wval, wint, wlog]; rw [h], by simp (config := {decide := true}) only [↓ wval, wint, wlog]; rfl, Nat.zero_le _, fun j hj => by omega⟩ ?_
  rintro i _ ⟨t, rfl, h0, h1, h12, h13, hi, hpre⟩
  by_cases hlt : i < xs.length
  · have hlt' : i < ys.length := by omega
    have d1 : (i : Int) < (xs.length : Nat) := by omega
    have d5 := wrap_succ (i := i) (by omega)
    obtain ⟨ad, p1, p2, p3⟩ := ha.at_ i (encN (xs.getD i 0)) (by simp [hlt])
    obtain ⟨bd, q1, q2, q3⟩ := hb.at_ i (encN (ys.getD i 0)) (by simp [hlt'])
    have p4 := p3 ⟨s.n, s.n, s.o⟩ (fun _ _ => rfl)
    have q4 := q3 ⟨s.n, s.n, s.o⟩ (fun _ _ => rfl)
    have hcc : (((xs.getD i 0 : Nat) : Int) = (ys.getD i 0 : Nat)) = (xs.getD i 0 = ys.getD i 0) := propext (by omega)
    simp (config := {contextual := true, decide := true}) only [↓ wpre, ↓ wval, wpost, wint, wlog, wcell, wdr, wdr2, wloop, h0, h1, h12, h13, d1, d5, p1, p2, p4, q1, q2, q4, encN, hcc]
    refine ⟨fun hne => ?_, fun he => ⟨i + 1, by show _ - _ < _ - _; omega, _, rfl, by simp (config := {decide := true}) only [↓ wval, h0], by simp (config := {decide := true}) only [↓ wval, h1], by simp (config := {decide := true}) only [↓ wval, h12], by simp only [↓ wval], hlt, fun j hj => ?_⟩⟩
    · refine leave_val (v := .bool false) (by rw [Try.results16]; simp (config := {decide := true}) only [↓ wval, wint, wlog]) rfl ?_
      rwa [decide_eq_false] at hK
      rintro rfl; exact hne rfl
    · rcases Nat.lt_succ_iff_lt_or_eq.1 hj with hj | rfl
      · exact hpre j hj
      · exact he
  · have d1 : ¬ (i : Int) < (xs.length : Nat) := by omega
    simp (config := {contextual := true, decide := true}) only [↓ wpre, ↓ wval, wpost, wint, wlog, wcell, wloop, h12, h13, d1]
    refine leave_val (v := .bool true) (by rw [Try.results16]; simp (config := {decide := true}) only [↓ wval, wint, wlog]) rfl ?_
    rwa [decide_eq_true] at hK
    exact list_ext_getD (d := 0) h fun j hj => hpre j (by omega)

end
end Go.Proofs.Ytajngkkihadgfaa
