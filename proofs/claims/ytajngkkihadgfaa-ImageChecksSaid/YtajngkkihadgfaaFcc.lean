/-
  Pages of a string of which a part is put in place.
-/
import Derived.Test.YtajngkkihadgfaaFb
import Derived.Test.YtajngkkihadgfaaFc
set_option linter.unusedVariables false
set_option linter.unusedSimpArgs false
namespace Go.Proofs.Ytajngkkihadgfaa
open Go.Abs Go Go.Abs.TryF
noncomputable section

theorem splice_get {α : Type} (l m : List α) (off i : Nat) (h : off + m.length ≤ l.length) : (splice l off m)[i]? = if i < off then l[i]? else if i < off + m.length then m[i - off]? else l[i]? := by
  simp only [splice, List.append_assoc]
  have ht : (l.take off).length = off := by simp; omega
  by_cases h1 : i < off
  · rw [if_pos h1, List.getElem?_append_left (by omega), List.getElem?_take, if_pos h1]
  · rw [if_neg h1, List.getElem?_append_right (by omega), ht]
    by_cases h2 : i < off + m.length
    · rw [if_pos h2, List.getElem?_append_left (by omega)]
    · rw [if_neg h2, List.getElem?_append_right (by omega), List.getElem?_drop]
      congr 1; omega
theorem splice_map {α β : Type} (f : α → β) (l m : List α) (off : Nat) : splice (l.map f) off (m.map f) = (splice l off m).map f := by simp [splice, List.map_take, List.map_drop]
theorem by_splice {l m : List Nat} (hl : By l) (hm : By m) (off : Nat) : By (splice l off m) := fun b hb => by
  simp only [splice, List.mem_append] at hb
  rcases hb with (hb | hb) | hb
  · exact hl b (List.mem_of_mem_take hb)
  · exact hm b hb
  · exact hl b (List.mem_of_mem_drop hb)
theorem pageOf_get (l : List Nat) (q j : Nat) : (pageOf l q)[j]? = if j < 32 then l[q * 32 + j]? else none := by simp [pageOf, lslice, List.getElem?_take, List.getElem?_drop]
theorem page_splice_ne {l ck : List Nat} {p q : Nat} (hck : ck.length = 4) (hl : 32 * p + 32 ≤ l.length) (hq : q < p) : pageOf (splice l (32 * p + 28) ck) q = pageOf l q := by
  apply List.ext_getElem?
  intro j
  rw [pageOf_get, pageOf_get, splice_get _ _ _ _ (by omega)]
  by_cases hj : j < 32
  · rw [if_pos hj, if_pos hj, if_pos (by omega)]
  · rw [if_neg hj, if_neg hj]
theorem page_splice_take {l ck : List Nat} {p : Nat} (hck : ck.length = 4) (hl : 32 * p + 32 ≤ l.length) : (pageOf (splice l (32 * p + 28) ck) p).take 28 = (pageOf l p).take 28 := by
  apply List.ext_getElem?
  intro j
  rw [List.getElem?_take, List.getElem?_take, pageOf_get, pageOf_get, splice_get _ _ _ _ (by omega)]
  by_cases hj : j < 28
  · rw [if_pos hj, if_pos hj, if_pos (show j < 32 by omega), if_pos (show j < 32 by omega), if_pos (by omega)]
  · rw [if_neg hj, if_neg hj]
theorem page_splice_drop {l ck : List Nat} {p : Nat} (hck : ck.length = 4) (hl : 32 * p + 32 ≤ l.length) : (pageOf (splice l (32 * p + 28) ck) p).drop 28 = ck := by
  apply List.ext_getElem?
  intro j
  rw [List.getElem?_drop, pageOf_get, splice_get _ _ _ _ (by omega)]
  by_cases hj : j < 4
  · rw [if_pos (by omega), if_neg (by omega), if_pos (by omega)]
    congr 1; omega
  · rw [if_neg (by omega), List.getElem?_eq_none (by omega)]
theorem page_drop {l : List Nat} {p : Nat} : lslice l (32 * p + 28) 4 = (pageOf l p).drop 28 := by
  apply List.ext_getElem?
  intro j
  rw [List.getElem?_drop, pageOf_get]
  simp only [lslice, List.getElem?_take, List.getElem?_drop]
  by_cases hj : j < 4
  · rw [if_pos hj, if_pos (by omega)]
    congr 1; omega
  · rw [if_neg hj, if_neg (by omega)]
theorem badTo_congr {l l' : List Nat} {p : Nat} (h : ∀ q, q < p → pageOf l' q = pageOf l q) : badTo l' p = badTo l p := by
  unfold badTo
  apply List.filter_congr
  intro q hq
  rw [h q (List.mem_range.1 hq)]
theorem check_congr {p : Nat} {a b : List Nat} (h : a.take 28 = b.take 28) : check p a = check p b := by simp only [check, h]
theorem check_by (p : Nat) (a : List Nat) (h : a.length = 32) : By (check p a) := by
  have h0 : (a.take 28) ≠ [] := by
    intro h'
    have := congrArg List.length h'
    simp [h] at this
  have hs : (sums p (a.take 28)).1 < 257 ∧ (sums p (a.take 28)).2 < 257 := by
    obtain ⟨b, x, hx⟩ : ∃ b x, a.take 28 = b ++ [x] := ⟨_, _, (List.dropLast_concat_getLast h0).symm⟩
    rw [hx, sums, List.foldl_append]
    exact step_lt _ _
  intro b hb
  simp only [check, List.mem_cons, List.not_mem_nil, or_false] at hb
  rcases hb with rfl | rfl | rfl | rfl <;> omega
theorem wrun_of {O : Orc} {g : FuncId} {args : List AV} {s : Sto} {K : CRes → Prop} (ho : O g args s = none) (h : Wcall Try.prog O (.func (.func g) [] []) args s K) : Wrun Try.prog O (.func (.func g) [] []) args s K := by
  have h' := Wcall_func.1 h
  have ho' : O g ([] ++ args ++ []) s = none := by simpa using ho
  rw [ho', orcK_none] at h'
  exact h'
def extV (v : AV) (i : Nat) : Option AV := match v with
  | .tuple vs => vs[i]?
  | _ => none
theorem Wop_ext {P : Program} {O : Orc} {x : Operand} {i : Nat} {e : Env} {K : ORes → Prop} : Wop P O (.extract x i) e K ↔ oKv (extV (e.eval x) i) K := by
  rw [Wop_extract]
  unfold extV
  cases e.eval x <;> exact Iff.rfl
theorem extV_tuple {vs : List AV} {i : Nat} : extV (.tuple vs) i = vs[i]? := rfl
theorem sl_of {l : List Nat} (h : l.length ≤ 9223372036854775807) : Sl (slOf l) (l.map encN) := by
  refine ⟨?_, by simpa using h⟩
  unfold slOf
  split
  · rename_i h; exact .inl ⟨rfl, by rw [h]; rfl⟩
  · exact .inr ⟨_, rfl⟩
theorem right_eq {p : Nat} {a b : List Nat} (h : check p a = check p b) : decide (a.drop 28 = check p b) = right p a := by
  unfold right
  rw [h]
  exact decide_eq_decide.2 ⟨fun h => h.symm, fun h => h.symm⟩

end
end Go.Proofs.Ytajngkkihadgfaa
