/-
  The program of images: attempts.
-/
import Derived.Test.YtajngkkihadgfaaGreatHr
set_option linter.unusedVariables false
set_option linter.unusedSimpArgs false
namespace Go.Proofs.YtajngkkihadgfaaGreat
open Go.Abs Go Go.Abs.TryzF
noncomputable section
set_option maxRecDepth 10000
theorem eqNil : abin Tryz.prog .eql 20 (.tmp 4) (.const .nilIface) .nili (ofV .nilIface) = some (.bool true) := by kernel_rfl
theorem eqWrong {k : Nat} : abin Tryz.prog .eql 20 (.tmp 4) (.const .nilIface) (wrongV k) (ofV .nilIface) = some (.bool false) := by kernel_rfl
theorem dclose_none {s : Sto} {v : AV} {e : Env} (h : s.n ≤ e.s.low) (hv : v.under s.n 100 = true) (hr : e.r = .no) : dclose s v e = none := by
  unfold dclose
  rw [hr, hv, show Nat.ble s.n e.s.low = true by simpa using h]
  rfl
theorem rec_no {O : Orc} (c : Nat) (n low : Nat) (o : Tr AObj) (K : CRes → ARec → Prop) (ho : ∀ a σ, O 92 a σ = none) (hK : K (.ret (.tuple []) none) .no) :
    WcallR Tryz.prog O (.func (.func 92) [] [.ptr c 0 0]) [] ⟨n, low, o⟩ .no K := by
  refine WcallR_run (first := []) (cap := [.ptr c 0 0]) (args := []) (by simp only [oget]; exact ho _ _) (by kernel_rfl) Tryz.func92 rfl ?_
  refine Wk.sound (H := noHint) ?_
  show Wk _ _ _ _ ⟨10, none, 92, Tr.leaf.lay 0 [.ptr c 0 0], [], ⟨n, n, o⟩, .no⟩ _
  simp +contextual +decide (maxSteps := 1000000) only [↓ wP, wQ, tf, Nat.reduceAdd, ne_eq, ab_recover, putK_recov, eqNil]
  refine Lv_ret rfl (vs := []) rfl ?_
  show K (.ret (.tuple []) (dclose ⟨n, low, o⟩ (.tuple []) _)) .no
  have : ∀ e : Env, e.s = ⟨n, n, o⟩ → e.r = .no → dclose ⟨n, low, o⟩ (.tuple []) e = none := by
    intro e h1 h2
    unfold dclose
    rw [h1, h2]
    simp [AV.under, runder, show n.ble n = true by simp]
  rw [this _ rfl rfl]
  exact hK
theorem rec_pan {O : Orc} (c k : Nat) (n low : Nat) (o : Tr AObj) (hc : c < n) (b : Bool) (hg : o.get c = some (obg 0 [.bool b])) (K : CRes → ARec → Prop) 
    (hK : ∀ n' low' o', n ≤ n' → low' ≤ c → o'.get c = some (obg 0 [.bool false]) → (∀ id, id < n → id ≠ c → o'.get id = o.get id) → K (.ret (.tuple []) (some ⟨n', low', o'⟩)) (.recd (wrongV k))) :
    WcallR Tryz.prog O (.func (.func 92) [] [.ptr c 0 0]) [] ⟨n, low, o⟩ (.pan (wrongV k)) K := by
  refine WcallR_run (first := []) (cap := [.ptr c 0 0]) (args := []) rfl (by kernel_rfl) Tryz.func92 rfl ?_
  refine Wk.sound (H := noHint) ?_
  show Wk _ _ _ _ ⟨10, none, 92, Tr.leaf.lay 0 [.ptr c 0 0], [], ⟨n, n, o⟩, .pan (wrongV k)⟩ _
  have f1 := frI hc
  simp +contextual +decide (maxSteps := 1000000) only [↓ wP, wQ, tf, Nat.reduceAdd, ne_eq, ab_recover, putK_recov, eqWrong]
  refine (Wop_ta if144 (d := 144) (v := .agg [.int .i64 (k : Nat)]) (by simp +decide only [↓ wval, wint, wlog, wrongV])).2 ?_
  simp +contextual +decide (maxSteps := 1000000) only [↓ wP, wQ, tf, Nat.reduceAdd, ne_eq, taV, Nat.beq_refl, cond_true, f1, frN, hg]
  refine Lv_ret rfl (vs := []) rfl ?_
  show K (.ret (.tuple []) (dclose ⟨n, low, o⟩ (.tuple []) _)) _
  rw [dclose_some (show Nat.min c (Nat.min n n) < n from Nat.lt_of_le_of_lt (Nat.min_le_left _ _) hc)]
  exact hK (n + 1) (Nat.min low (Nat.min c (Nat.min n n))) _ (Nat.le_succ n) (Nat.le_trans (Nat.min_le_right _ _) (Nat.min_le_left _ _)) (Tr.get_set_same _ _ _) fun id h1 h2 => by
    rw [Tr.get_set_ne _ _ h2, Tr.get_set_ne _ _ (Nat.ne_of_lt h1), Tr.get_set_ne _ _ (Nat.ne_of_lt h1)]
theorem attempt_run {O : Orc} (g : FuncId) (cap : List AV) (n low : Nat) (o : Tr AObj) (K : CRes → Prop) (ho : ∀ a σ, O 40 a σ = none) (ho' : ∀ a σ, O 92 a σ = none)
    (hf : Wcall Tryz.prog O (.func (.func g) [] cap) [] ⟨n + 1, n, o.set n (obg 0 [.bool false])⟩ fun res =>
      (∃ n' low' o', res = .ret (.tuple []) (some ⟨n', low', o'⟩) ∧ n + 1 ≤ n' ∧ low' < n ∧ o'.get n = some (obg 0 [.bool false]) ∧ ∀ low'', K (.ret (.bool true) (some ⟨n', low'', o'.set n (obg 0 [.bool true])⟩))) ∨
      (∃ k, res = .pan (wrongV k) none ∧ (∀ n'' low'' o'', n + 1 ≤ n'' → (∀ id, id < n → o''.get id = o.get id) → K (.ret (.bool false) (some ⟨n'', low'', o''⟩))) ∧ K (.ret (.bool false) none))) :
    Wcall Tryz.prog O (.func (.func 40) [] []) [.func (.func g) [] cap] ⟨n, low, o⟩ K := by
  refine Wcall_run (first := []) (cap := []) (args := [.func (.func g) [] cap]) (ho _ _) (by kernel_rfl) Tryz.func40 rfl ?_
  refine Wk.sound (H := noHint) ?_
  show Wk _ _ _ _ ⟨6, none, 40, Tr.leaf.lay 0 [.func (.func g) [] cap], [], ⟨n, n, o⟩, .no⟩ _
  simp +contextual +decide (maxSteps := 1000000) only [↓ wP, wQ, tf, Nat.reduceAdd, ne_eq, Wop_defer, putK_defer, frN]
  refine (Wop_defer (g := .func 92) (a := []) (b := [.ptr n 0 0]) (by simp +decide only [↓ wval, wint, wlog])).2 ?_
  simp +contextual +decide (maxSteps := 1000000) only [↓ wP, wQ, tf, Nat.reduceAdd, ne_eq, putK_defer, frN, Array.toList_empty]
  refine (Wcall_func (first := []) (args := []) (cap := cap)).1 (Wcall.mono hf ?_)
  rintro res (⟨n', low', o', rfl, hn, hl, hg, hK⟩ | ⟨k, rfl, hK, hK0⟩)
  · have f1 := frI (Nat.lt_of_lt_of_le (Nat.lt_succ_self n) hn)
    simp +contextual +decide (maxSteps := 1000000) only [↓ wP, wQ, tf, Nat.reduceAdd, ne_eq, f1, hg]
    refine Lv_call (ds := []) rfl rfl (rec_no n n' (Nat.min n low') _ _ ho' ⟨rfl, ?_⟩)
    refine Lv_ret rfl (vs := [.bool true]) (by rw [Tryz.results40]; simp +contextual +decide (maxSteps := 1000000) only [↓ wP, wQ, tf, Nat.reduceAdd, ne_eq, f1, dresults_cell, Option.getD, List.toList_toArray, Option.bind_some]) ?_
    show K (.ret (.bool true) (dclose ⟨n, low, o⟩ (.bool true) _))
    rw [dclose_some (show Nat.min n low' < n from Nat.lt_of_le_of_lt (Nat.min_le_right _ _) hl)]
    exact hK _
  · simp +contextual +decide (maxSteps := 1000000) only [↓ wP, wQ, tf, Nat.reduceAdd, ne_eq]
    refine Lv_callP (ds := []) rfl rfl (rec_pan n k (n + 1) n (o.set n (obg 0 [.bool false])) (Nat.lt_succ_self n) false (Tr.get_set_same _ _ _) _ fun n'' low'' o'' h1 h2 h3 h4 => ?_)
    have f2 := frI (Nat.lt_of_lt_of_le (Nat.lt_succ_self n) h1)
    refine Lv_ret rfl (vs := [.bool false]) (by rw [Tryz.results40]; simp +contextual +decide (maxSteps := 1000000) only [↓ wP, wQ, tf, Nat.reduceAdd, ne_eq, f2, h3, dresults_cell, Option.getD, List.toList_toArray, Option.bind_some]) ?_
    show K (.ret (.bool false) (dclose ⟨n, low, o⟩ (.bool false) _))
    rcases Nat.lt_or_ge low'' n with hlt | hge
    · rw [dclose_some hlt]
      exact hK n'' _ o'' h1 fun id hid => (h4 id (by omega) (by omega)).trans (Tr.get_set_ne _ _ (by omega))
    · rw [dclose_none hge rfl rfl]
      exact hK0
end
end Go.Proofs.YtajngkkihadgfaaGreat
/-
  The program of images: Parse.
-/
namespace Go.Proofs.YtajngkkihadgfaaGreat
open Go.Abs Go Go.Abs.TryzF
noncomputable section
set_option maxRecDepth 10000
theorem frA_decB {f : Fr} (h1 : f.env.length ≤ 9223372036854775807) (h2 : f.vals.length ≤ 9223372036854775807) : decFr (.agg (frC f)) = some f := by
  show (match decVals (valsA f.env), decVals (valsA f.vals) with
    | some e, some v => some (Fr.mk f.node e v)
    | _, _ => none) = _
  rw [valsA_dec h1, valsA_dec h2]
theorem frsA_decB {l : List Fr} (h : ∀ f ∈ l, f.env.length ≤ 9223372036854775807 ∧ f.vals.length ≤ 9223372036854775807) (hl : l.length ≤ 9223372036854775807) : decFrs (frsA l) = some l := by
  unfold frsA
  by_cases h0 : l = []
  · subst h0; rfl
  · rw [if_neg h0]
    show (if _ then _ else _) = _
    rw [if_pos (by simpa using hl), List.map_map]
    exact decL_map' (g := fun f => .agg (frC f)) l fun f hf => frA_decB (h f hf).1 (h f hf).2
theorem frsGoP_all {l : List Nat} (hb : By l) : ∀ (k : Nat) (acc : List Fr) (at_ : Nat), at_ ≤ l.length + 1000 → (∀ f ∈ acc, f.env.length ≤ l.length ∧ f.vals.length ≤ l.length) → ∀ x a, frsGoP l k acc at_ = .ok x a → ∀ f ∈ x, f.env.length ≤ l.length ∧ f.vals.length ≤ l.length
  | 0, acc, at_, h, ha => fun x a e => by cases e; exact ha
  | k + 1, acc, at_, h, ha => by
    have h1 := frN_le hb h
    unfold frsGoP
    cases hx : frN_ l at_ with
    | fail j => exact fun x a e => by cases e
    | ok v a =>
      rw [hx] at h1
      exact frsGoP_all hb k (acc ++ [v]) a h1.1 fun f hf => by
        rcases List.mem_append.1 hf with hf | hf
        · exact ha f hf
        · rw [List.mem_singleton] at hf; subst hf; exact h1.2 _ _ rfl
theorem frsN_all {l : List Nat} (hb : By l) {at_ : Nat} (h : at_ ≤ l.length + 1000) : ∀ x a, frsN l at_ = .ok x a → ∀ f ∈ x, f.env.length ≤ l.length ∧ f.vals.length ≤ l.length := by
  have h1 := (plainN_le hb h).1
  unfold frsN
  cases hx : plainN l at_ with
  | fail j => exact fun x a e => by cases e
  | ok n a =>
    rw [hx] at h1
    simp only
    split
    · exact frsGoP_all hb n [] a h1 fun f hf => nomatch hf
    · exact fun x a e => by cases e
end
end Go.Proofs.YtajngkkihadgfaaGreat
