/-
  The program of images: attempts.
-/
import Derived.Test.YtajngkkihadgfaaGreatHr
set_option linter.unusedVariables false
set_option linter.unusedSimpArgs false

namespace Go.Proofs.YtajngkkihadgfaaGreat
open Go.Abs Go Go.Abs.TryzF
noncomputable section
set_option maxRecDepth 10000

theorem eqNil : abin Tryz.prog .eql 20 (.tmp 4) (.const .nilIface) .nili (ofV .nilIface) = some (.bool true) := by kernel_rfl
theorem eqWrong {k : Nat} : abin Tryz.prog .eql 20 (.tmp 4) (.const .nilIface) (wrongV k) (ofV .nilIface) = some (.bool false) := by kernel_rfl
theorem tz144 : tzero Tryz.prog 144 = some (.agg [.int .i64 0]) := by kernel_rfl
theorem dclose_none {s : Sto} {v : AV} {e : Env} (h : s.n ≤ e.s.low) (hv : v.under s.n 100 = true) (hr : e.r = .no) : dclose s v e = none := by
  unfold dclose
  rw [hr, hv, show Nat.ble s.n e.s.low = true by simpa using h]
  rfl
/-- the deferred function, when nothing was given up -/
theorem rec_no {O : Orc} (c : Nat) (n low : Nat) (o : Tr AObj) (K : CRes → ARec → Prop) (ho : ∀ a σ, O 92 a σ = none) (hK : K (.ret (.tuple []) none) .no) :
    WcallR Tryz.prog O (.func (.func 92) [] [.ptr c 0 0]) [] ⟨n, low, o⟩ .no K := by
  refine WcallR_run (first := []) (cap := [.ptr c 0 0]) (args := []) (by simp only [oget]; exact ho _ _) (by kernel_rfl) Tryz.func92 rfl ?_
  refine Wk.sound (H := noHint) ?_
  show Wk _ _ _ _ ⟨10, none, 92, Tr.leaf.lay 0 [.ptr c 0 0], [], ⟨n, n, o⟩, .no⟩ _
  simp (config := {contextual := true, decide := true, maxSteps := 1000000}) only [↓ wpre, ↓ wval, wpost, wint, wlog, wcell, wop, wop2, wdr, wdr2, wloop, wrng, wfld, tf, Nat.reduceAdd, Wop_ext, extV_tuple, ne_eq, ab_recover, putK_recov, eqNil]
  refine Lv_ret rfl (vs := []) rfl ?_
  show K (.ret (.tuple []) (dclose ⟨n, low, o⟩ (.tuple []) _)) .no
  have : ∀ e : Env, e.s = ⟨n, n, o⟩ → e.r = .no → dclose ⟨n, low, o⟩ (.tuple []) e = none := by
    intro e h1 h2
    unfold dclose
    rw [h1, h2]
    simp [AV.under, runder, show n.ble n = true by simp]
  rw [this _ rfl rfl]
  exact hK
theorem rec_pan {O : Orc} (c k : Nat) (n low : Nat) (o : Tr AObj) (hc : c < n) (b : Bool) (hg : o.get c = some (obg 0 [.bool b])) (K : CRes → ARec → Prop) 
    (hK : ∀ n' low' o', n ≤ n' → low' ≤ c → o'.get c = some (obg 0 [.bool false]) → (∀ id, id < n → id ≠ c → o'.get id = o.get id) → K (.ret (.tuple []) (some ⟨n', low', o'⟩)) (.recd (wrongV k))) :
    WcallR Tryz.prog O (.func (.func 92) [] [.ptr c 0 0]) [] ⟨n, low, o⟩ (.pan (wrongV k)) K := by
  refine WcallR_run (first := []) (cap := [.ptr c 0 0]) (args := []) rfl (by kernel_rfl) Tryz.func92 rfl ?_
  refine Wk.sound (H := noHint) ?_
  show Wk _ _ _ _ ⟨10, none, 92, Tr.leaf.lay 0 [.ptr c 0 0], [], ⟨n, n, o⟩, .pan (wrongV k)⟩ _
  have f1 := frI hc
  simp (config := {contextual := true, decide := true, maxSteps := 1000000}) only [↓ wpre, ↓ wval, wpost, wint, wlog, wcell, wop, wop2, wdr, wdr2, wloop, wrng, wfld, tf, Nat.reduceAdd, Wop_ext, extV_tuple, ne_eq, ab_recover, putK_recov, eqWrong]
  refine (Wop_ta if144 (d := 144) (v := .agg [.int .i64 (k : Nat)]) (by simp (config := {decide := true}) only [↓ wval, wint, wlog, wrongV])).2 ?_
  simp (config := {contextual := true, decide := true, maxSteps := 1000000}) only [↓ wpre, ↓ wval, wpost, wint, wlog, wcell, wop, wop2, wdr, wdr2, wloop, wrng, wfld, tf, Nat.reduceAdd, Wop_ext, extV_tuple, ne_eq, taV, Nat.beq_refl, cond_true, f1, frN, hg]
  refine Lv_ret rfl (vs := []) rfl ?_
  show K (.ret (.tuple []) (dclose ⟨n, low, o⟩ (.tuple []) _)) _
  rw [dclose_some (show Nat.min c (Nat.min n n) < n from Nat.lt_of_le_of_lt (Nat.min_le_left _ _) hc)]
  exact hK (n + 1) (Nat.min low (Nat.min c (Nat.min n n))) _ (Nat.le_succ n) (Nat.le_trans (Nat.min_le_right _ _) (Nat.min_le_left _ _)) (Tr.get_set_same _ _ _) fun id h1 h2 => by
    rw [Tr.get_set_ne _ _ h2, Tr.get_set_ne _ _ (Nat.ne_of_lt h1), Tr.get_set_ne _ _ (Nat.ne_of_lt h1)]

/-- an attempt: the function it is given ends, or gives up with a wrong -/
theorem attempt_run {O : Orc} (g : FuncId) (cap : List AV) (n low : Nat) (o : Tr AObj) (K : CRes → Prop) (ho : ∀ a σ, O 40 a σ = none) (ho' : ∀ a σ, O 92 a σ = none)
    (hf : Wcall Tryz.prog O (.func (.func g) [] cap) [] ⟨n + 1, n, o.set n (obg 0 [.bool false])⟩ fun res =>
      (∃ n' low' o', res = .ret (.tuple []) (some ⟨n', low', o'⟩) ∧ n + 1 ≤ n' ∧ low' < n ∧ o'.get n = some (obg 0 [.bool false]) ∧ ∀ low'', K (.ret (.bool true) (some ⟨n', low'', o'.set n (obg 0 [.bool true])⟩))) ∨
      (∃ k, res = .pan (wrongV k) none ∧ (∀ n'' low'' o'', n + 1 ≤ n'' → (∀ id, id < n → o''.get id = o.get id) → K (.ret (.bool false) (some ⟨n'', low'', o''⟩))) ∧ K (.ret (.bool false) none))) :
    Wcall Tryz.prog O (.func (.func 40) [] []) [.func (.func g) [] cap] ⟨n, low, o⟩ K := by
  refine Wcall_run (first := []) (cap := []) (args := [.func (.func g) [] cap]) (ho _ _) (by kernel_rfl) Tryz.func40 rfl ?_
  refine Wk.sound (H := noHint) ?_
  show Wk _ _ _ _ ⟨6, none, 40, Tr.leaf.lay 0 [.func (.func g) [] cap], [], ⟨n, n, o⟩, .no⟩ _
  simp (config := {contextual := true, decide := true, maxSteps := 1000000}) only [↓ wpre, ↓ wval, wpost, wint, wlog, wcell, wop, wop2, wdr, wdr2, wloop, wrng, wfld, tf, Nat.reduceAdd, Wop_ext, extV_tuple, ne_eq, Wop_defer, putK_defer, frN]
  refine (Wop_defer (g := .func 92) (a := []) (b := [.ptr n 0 0]) (by simp (config := {decide := true}) only [↓ wval, wint, wlog])).2 ?_
  simp (config := {contextual := true, decide := true, maxSteps := 1000000}) only [↓ wpre, ↓ wval, wpost, wint, wlog, wcell, wop, wop2, wdr, wdr2, wloop, wrng, wfld, tf, Nat.reduceAdd, Wop_ext, extV_tuple, ne_eq, putK_defer, frN, Array.toList_empty]
  refine (Wcall_func (first := []) (args := []) (cap := cap)).1 (Wcall.mono hf ?_)
  rintro res (⟨n', low', o', rfl, hn, hl, hg, hK⟩ | ⟨k, rfl, hK, hK0⟩)
  · have f1 := frI (Nat.lt_of_lt_of_le (Nat.lt_succ_self n) hn)
    simp (config := {contextual := true, decide := true, maxSteps := 1000000}) only [↓ wpre, ↓ wval, wpost, wint, wlog, wcell, wop, wop2, wdr, wdr2, wloop, wrng, wfld, tf, Nat.reduceAdd, Wop_ext, extV_tuple, ne_eq, f1, hg]
    refine Lv_call (ds := []) rfl rfl (rec_no n n' (Nat.min n low') _ _ ho' ⟨rfl, ?_⟩)
    refine Lv_ret rfl (vs := [.bool true]) (by rw [Tryz.results40]; simp (config := {contextual := true, decide := true, maxSteps := 1000000}) only [↓ wpre, ↓ wval, wpost, wint, wlog, wcell, wop, wop2, wdr, wdr2, wloop, wrng, wfld, tf, Nat.reduceAdd, Wop_ext, extV_tuple, ne_eq, f1, dresults_cell, Option.getD, List.toList_toArray, Option.bind_some]) ?_
    show K (.ret (.bool true) (dclose ⟨n, low, o⟩ (.bool true) _))
    rw [dclose_some (show Nat.min n low' < n from Nat.lt_of_le_of_lt (Nat.min_le_right _ _) hl)]
    exact hK _
  · simp (config := {contextual := true, decide := true, maxSteps := 1000000}) only [↓ wpre, ↓ wval, wpost, wint, wlog, wcell, wop, wop2, wdr, wdr2, wloop, wrng, wfld, tf, Nat.reduceAdd, Wop_ext, extV_tuple, ne_eq]
    refine Lv_callP (ds := []) rfl rfl (rec_pan n k (n + 1) n (o.set n (obg 0 [.bool false])) (Nat.lt_succ_self n) false (Tr.get_set_same _ _ _) _ fun n'' low'' o'' h1 h2 h3 h4 => ?_)
    have f2 := frI (Nat.lt_of_lt_of_le (Nat.lt_succ_self n) h1)
    refine Lv_ret rfl (vs := [.bool false]) (by rw [Tryz.results40]; simp (config := {contextual := true, decide := true, maxSteps := 1000000}) only [↓ wpre, ↓ wval, wpost, wint, wlog, wcell, wop, wop2, wdr, wdr2, wloop, wrng, wfld, tf, Nat.reduceAdd, Wop_ext, extV_tuple, ne_eq, f2, h3, dresults_cell, Option.getD, List.toList_toArray, Option.bind_some]) ?_
    show K (.ret (.bool false) (dclose ⟨n, low, o⟩ (.bool false) _))
    rcases Nat.lt_or_ge low'' n with hlt | hge
    · rw [dclose_some hlt]
      exact hK n'' _ o'' h1 fun id hid => (h4 id (by omega) (by omega)).trans (Tr.get_set_ne _ _ (by omega))
    · rw [dclose_none hge rfl rfl]
      exact hK0

end
end Go.Proofs.YtajngkkihadgfaaGreat

/-
  The program of images: Parse.
-/

namespace Go.Proofs.YtajngkkihadgfaaGreat
open Go.Abs Go Go.Abs.TryzF
noncomputable section
set_option maxRecDepth 10000

def ParseP (s : List Nat) : AV := match obN_ s 0 with
  | .ok o _ => if obOk o = true ∧ obB o = s then .tuple [obA o, .int .i64 0] else .tuple [obA noOb, .int .i64 4]
  | .fail _ => .tuple [obA noOb, .int .i64 4]
theorem und_ParseP {s : List Nat} : Und 0 (ParseP s) := by
  unfold ParseP
  split
  · split <;> exact und_ob2 und_int
  · exact und_ob2 und_int
abbrev L11 : List Ent := [entS 42 (prR A1 obP), ent 9 rObjectV]
theorem L11_40 (a : List AV) (σ : Sto) : orcL L11 40 a σ = none := (entS_ne (by decide)).trans ((ent_ne (by decide)).trans rfl)
theorem L11_92 (a : List AV) (σ : Sto) : orcL L11 92 a σ = none := (entS_ne (by decide)).trans ((ent_ne (by decide)).trans rfl)
theorem L11_41 (a : List AV) (σ : Sto) : orcL L11 41 a σ = none := (entS_ne (by decide)).trans ((ent_ne (by decide)).trans rfl)
theorem L11_9 {a : AV} {o : Ob} (h : decOb a = some o) (σ : Sto) : orcL L11 9 [a] σ = some (.ret (if obOk o = true then .tuple [.str (obB o), .int .i64 0] else .tuple [.str [], .int .i64 2]) none) := by
  rw [entS_ne (by decide), ent_same]; exact congrArg (Option.map _) (rObjectV_eq h)
theorem L11_42 {n low : Nat} {o : Tr AObj} {r fid g : Nat} {l : List Nat} {at_ : Nat} (h : PrAt ⟨n, low, o⟩ r fid g l at_) : orcL L11 42 [.ptr r 0 0] ⟨n, low, o⟩ = some (prRes obP r fid g l at_ ⟨n, low, o⟩) := prR_same A1_inj h
def obCells (o : Ob) : List AV := [.int .i64 o.form, .int .i64 o.n, valsA o.vals, frsA o.frs]
theorem parse1_run (s : List Nat) (hb : By s) (hl : s.length < 1099511627776) (o : Tr AObj) (h0 : o.get 0 = some (obg 0 [.str s])) (h2 : o.get 2 = some (obg 0 [.int .i64 0, .int .i64 0, .nils, .nils])) (K : CRes → Prop)
    (hK : ∀ ob k, obN_ s 0 = .ok ob k → ∀ n' low' o', 4 ≤ n' → low' < 3 → o'.get 2 = some (obg 0 (obCells ob)) → (∀ id, id < 4 → id ≠ 2 → o'.get id = o.get id) → K (.ret (.tuple []) (some ⟨n', low', o'⟩)))
    (hF : ∀ k, obN_ s 0 = .fail k → K (.pan (wrongV k) none)) : Wcall Tryz.prog (orcL L11) (.func (.func 41) [] [.ptr 0 0 0, .ptr 2 0 0]) [] ⟨4, 3, o⟩ K := by
  refine Wcall_run (first := []) (cap := [.ptr 0 0 0, .ptr 2 0 0]) (args := []) (L11_41 _ _) (by kernel_rfl) Tryz.func41 rfl ?_
  refine Wk.sound (H := noHint) ?_
  show Wk _ _ _ _ ⟨7, none, 41, Tr.leaf.lay 0 [.ptr 0 0 0, .ptr 2 0 0], [], ⟨4, 4, o⟩, .no⟩ _
  have hp : PrAt ⟨6, 4, (o.set 4 (obg 0 (s.map encB))).set 5 (prO 4 0 s 0)⟩ 5 4 0 s 0 := PrAt.mk' (by decide) (by decide) (Tr.get_set_same _ _ _) (by rw [Tr.get_set_ne _ _ (by decide), Tr.get_set_same]) (by decide) hb hl (Nat.zero_le _)
  have hc : orcL L11 42 [.ptr 5 0 0] ⟨6, 4, (o.set 4 (obg 0 (s.map encB))).set 5 (obg 0 [.sl 4 0 0 s.length (.room 1), .int .i64 0])⟩ = some (prRes obP 5 4 0 s 0 ⟨6, 4, (o.set 4 (obg 0 (s.map encB))).set 5 (obg 0 [.sl 4 0 0 s.length (.room 1), .int .i64 0])⟩) := L11_42 hp
  cases hx : obN_ s 0 with
  | fail j =>
    rw [prRes_fail (show obP s 0 = .fail j by unfold obP; rw [hx]; rfl)] at hc
    simp (config := {contextual := true, decide := true, maxSteps := 1000000}) only [↓ wpre, ↓ wval, wpost, wint, wlog, wcell, wop, wop2, wdr, wdr2, wloop, wrng, wfld, tf, Nat.reduceAdd, Wop_ext, extV_tuple, ne_eq, h0, h2, frN, hc]
    refine Lv_pan rfl ?_
    show K (.pan (wrongV j) (dclose ⟨4, 3, o⟩ (wrongV j) _))
    rw [dclose_none (by show 4 ≤ Nat.min _ _; decide) rfl rfl]
    exact hF j hx
  | ok ob k =>
    rw [prRes_ok (show obP s 0 = .ok (.agg [.int .i64 ob.form, .int .i64 ob.n, valsA ob.vals, frsA ob.frs]) k by unfold obP; rw [hx]; rfl)] at hc
    simp (config := {contextual := true, decide := true, maxSteps := 1000000}) only [↓ wpre, ↓ wval, wpost, wint, wlog, wcell, wop, wop2, wdr, wdr2, wloop, wrng, wfld, tf, Nat.reduceAdd, Wop_ext, extV_tuple, ne_eq, h0, h2, frN, hc, valsA_cell, frsA_cell]
    refine Lv_ret rfl (vs := []) rfl ?_
    show K (.ret (.tuple []) (dclose ⟨4, 3, o⟩ (.tuple []) _))
    rw [dclose_some (show Nat.min 2 (Nat.min 5 4) < 4 by decide)]
    refine hK ob k hx 6 _ _ (by decide) ?_ ?_ ?_
    · show Nat.min 3 (Nat.min 2 (Nat.min 5 4)) < 3; decide
    · show (Tr.set _ 2 _).get 2 = _
      rw [Tr.get_set_same]; rfl
    · intro id h1 h2
      show (((_ : Tr AObj).set 2 _).get id) = _
      rw [Tr.get_set_ne _ _ h2, Tr.get_set_ne _ _ (by omega), Tr.get_set_ne _ _ (by omega), Tr.get_set_ne _ _ (by omega)]
theorem frA_decB {f : Fr} (h1 : f.env.length ≤ 9223372036854775807) (h2 : f.vals.length ≤ 9223372036854775807) : decFr (.agg (frC f)) = some f := by
  show (match decVals (valsA f.env), decVals (valsA f.vals) with
    | some e, some v => some (Fr.mk f.node e v)
    | _, _ => none) = _
  rw [valsA_dec h1, valsA_dec h2]
theorem frsA_decB {l : List Fr} (h : ∀ f ∈ l, f.env.length ≤ 9223372036854775807 ∧ f.vals.length ≤ 9223372036854775807) (hl : l.length ≤ 9223372036854775807) : decFrs (frsA l) = some l := by
  unfold frsA
  by_cases h0 : l = []
  · subst h0; rfl
  · rw [if_neg h0]
    show (if _ then _ else _) = _
    rw [if_pos (by simpa using hl), List.map_map]
    exact decL_map' (g := fun f => .agg (frC f)) l fun f hf => frA_decB (h f hf).1 (h f hf).2
theorem frsGoP_all {l : List Nat} (hb : By l) : ∀ (k : Nat) (acc : List Fr) (at_ : Nat), at_ ≤ l.length → (∀ f ∈ acc, f.env.length ≤ l.length ∧ f.vals.length ≤ l.length) → ∀ x a, frsGoP l k acc at_ = .ok x a → ∀ f ∈ x, f.env.length ≤ l.length ∧ f.vals.length ≤ l.length
  | 0, acc, at_, h, ha => fun x a e => by cases e; exact ha
  | k + 1, acc, at_, h, ha => by
    have h1 := frN_le hb h
    unfold frsGoP
    cases hx : frN_ l at_ with
    | fail j => exact fun x a e => by cases e
    | ok v a =>
      rw [hx] at h1
      exact frsGoP_all hb k (acc ++ [v]) a h1.1 fun f hf => by
        rcases List.mem_append.1 hf with hf | hf
        · exact ha f hf
        · rw [List.mem_singleton] at hf; subst hf; exact h1.2 _ _ rfl
theorem frsN_all {l : List Nat} (hb : By l) {at_ : Nat} (h : at_ ≤ l.length) : ∀ x a, frsN l at_ = .ok x a → ∀ f ∈ x, f.env.length ≤ l.length ∧ f.vals.length ≤ l.length := by
  have h1 := (plainN_le hb h).1
  unfold frsN
  cases hx : plainN l at_ with
  | fail j => exact fun x a e => by cases e
  | ok n a =>
    rw [hx] at h1
    simp only
    split
    · exact frsGoP_all hb n [] a h1 fun f hf => nomatch hf
    · exact fun x a e => by cases e
theorem obN_dec {s : List Nat} (hb : By s) (hl : s.length < 1099511627776) {ob : Ob} {k : Nat} (h : obN_ s 0 = .ok ob k) : decOb (obA ob) = some ob := by
  have h1 := nextN_ok hb (Nat.zero_le s.length)
  unfold obN_ at h
  cases hx : nextN s 0 with
  | fail j => rw [hx] at h; cases h
  | ok c a1 =>
    rw [hx] at h h1
    simp only at h
    have h1' : a1 ≤ s.length := h1.2
    have h2 := sgnN_le hb h1'
    cases hy : sgnN s a1 with
    | fail j => rw [hy] at h; cases h
    | ok m a2 =>
      rw [hy] at h h2
      simp only at h
      have h2' : a2 ≤ s.length := h2
      have h3 := valsN_le hb h2'
      cases hz : valsN s a2 with
      | fail j => rw [hz] at h; cases h
      | ok v a3 =>
        rw [hz] at h h3
        simp only at h
        have h3' : a3 ≤ s.length := h3.1
        have h4 := frsN_le hb h3'
        have h5 := frsN_all hb h3'
        cases hw : frsN s a3 with
        | fail j => rw [hw] at h; cases h
        | ok f a4 =>
          rw [hw] at h h4 h5
          cases h
          have h6 := h3.2 _ _ rfl
          have h7 := h4.2 _ _ rfl
          show (match decVals (valsA v), decFrs (frsA f) with
            | some v, some f => some (Ob.mk (c : Nat) m v f)
            | _, _ => none) = _
          rw [valsA_dec (by omega), frsA_decB (fun g hg => by have := h5 _ _ rfl g hg; omega) (by omega)]
theorem Parse_ok (s : List Nat) (hb : By s) (hl : s.length < 1099511627776) : Abs.Returns Tryz.prog 11 [.str s] (ParseP s) := by
  refine returns_wk (L := L11) (elist_cons (entS_ok object_ok) (elist_cons objectV_ok.ent elist_nil)) noHint (by kernel_rfl) Tryz.func11 Tryz.ntmps11 Tryz.results11 rfl rfl (und_all_cons und_str und_all_nil) und_ParseP ?_
  simp (config := {contextual := true, decide := true, maxSteps := 1000000}) only [↓ wpre, ↓ wval, wpost, wint, wlog, wcell, wop, wop2, wdr, wdr2, wloop, wrng, wfld, tf, Nat.reduceAdd, Wop_ext, extV_tuple, ne_eq, frN]
  refine (Wcall_func (first := []) (args := [.func (.func 41) [] [.ptr 0 0 0, .ptr 2 0 0]]) (cap := [])).1 (attempt_run _ _ _ _ _ _ L11_40 L11_92 (parse1_run s hb hl _ (by simp [Tr.get_set]) (by simp [Tr.get_set]) _ (fun ob k hob n' low' o' hn hlo hg hsame => ?_) fun k hk => ?_))
  · left
    refine ⟨n', low', o', rfl, hn, hlo, (hsame 3 (by decide) (by decide)).trans (by simp [Tr.get_set]), fun low'' => ?_⟩
    have g0 : o'.get 0 = some (obg 0 [.str s]) := (hsame 0 (by decide) (by decide)).trans (by simp [Tr.get_set])
    have g1 : o'.get 1 = some (obg 0 [.int .i64 0, .int .i64 0, .nils, .nils]) := (hsame 1 (by decide) (by decide)).trans (by simp [Tr.get_set])
    have hdec := obN_dec hb hl hob
    have c9 := L11_9 hdec
    have f0 := frI (show 0 < n' by omega)
    have f1 := frI (show 1 < n' by omega)
    have f2 := frI (show 2 < n' by omega)
    have hg' : o'.get 2 = some (obg 0 [.int .i64 ob.form, .int .i64 ob.n, valsA ob.vals, frsA ob.frs]) := hg
    have hcell : decOb (.agg [.int .i64 ob.form, .int .i64 ob.n, valsA ob.vals, frsA ob.frs]) = some ob := hdec
    have c9' := L11_9 hcell
    cases hok : obOk ob with
    | false =>
      have e1 : ParseP s = .tuple [.agg [.int .i64 0, .int .i64 0, .nils, .nils], .int .i64 4] := by unfold ParseP; rw [hob]; exact if_neg (by simp [hok])
      rw [hok, if_neg (by decide)] at c9'
      simp (config := {contextual := true, decide := true, maxSteps := 1000000}) only [↓ wpre, ↓ wval, wpost, wint, wlog, wcell, wop, wop2, wdr, wdr2, wloop, wrng, wfld, tf, Nat.reduceAdd, Wop_ext, extV_tuple, ne_eq, g0, g1, hg', c9', f0, f1, f2, dresults_cell, Option.bind_some]
      exact e1.symm
    | true =>
      rw [hok, if_pos rfl] at c9'
      by_cases hs : obB ob = s
      · have e1 : ParseP s = .tuple [.agg [.int .i64 ob.form, .int .i64 ob.n, valsA ob.vals, frsA ob.frs], .int .i64 0] := by unfold ParseP; rw [hob]; exact if_pos ⟨hok, hs⟩
        rw [hs] at c9'
        simp (config := {contextual := true, decide := true, maxSteps := 1000000}) only [↓ wpre, ↓ wval, wpost, wint, wlog, wcell, wop, wop2, wdr, wdr2, wloop, wrng, wfld, tf, Nat.reduceAdd, Wop_ext, extV_tuple, ne_eq, g0, g1, hg', c9', f0, f1, f2, valsA_cell, frsA_cell, abin_str_neq, dresults_cell, Option.bind_some]
        exact e1.symm
      · have e1 : ParseP s = .tuple [.agg [.int .i64 0, .int .i64 0, .nils, .nils], .int .i64 4] := by unfold ParseP; rw [hob]; exact if_neg (by simp [hs])
        simp (config := {contextual := true, decide := true, maxSteps := 1000000}) only [↓ wpre, ↓ wval, wpost, wint, wlog, wcell, wop, wop2, wdr, wdr2, wloop, wrng, wfld, tf, Nat.reduceAdd, Wop_ext, extV_tuple, ne_eq, g0, g1, hg', c9', f0, f1, f2, abin_str_neq, hs, dresults_cell, Option.bind_some]
        exact e1.symm
  · right
    refine ⟨k, rfl, fun n'' low'' o'' hn hsame => ?_, ?_⟩
    · have e1 : ParseP s = .tuple [.agg [.int .i64 0, .int .i64 0, .nils, .nils], .int .i64 4] := by unfold ParseP; rw [hk]; rfl
      have g1 : o''.get 1 = some (obg 0 [.int .i64 0, .int .i64 0, .nils, .nils]) := (hsame 1 (by decide)).trans (by simp [Tr.get_set])
      have f1 := frI (show 1 < n'' by omega)
      simp (config := {contextual := true, decide := true, maxSteps := 1000000}) only [↓ wpre, ↓ wval, wpost, wint, wlog, wcell, wop, wop2, wdr, wdr2, wloop, wrng, wfld, tf, Nat.reduceAdd, Wop_ext, extV_tuple, ne_eq, g1, f1, dresults_cell, Option.bind_some]
      exact e1.symm
    · have e1 : ParseP s = .tuple [.agg [.int .i64 0, .int .i64 0, .nils, .nils], .int .i64 4] := by unfold ParseP; rw [hk]; rfl
      simp (config := {contextual := true, decide := true, maxSteps := 1000000}) only [↓ wpre, ↓ wval, wpost, wint, wlog, wcell, wop, wop2, wdr, wdr2, wloop, wrng, wfld, tf, Nat.reduceAdd, Wop_ext, extV_tuple, ne_eq, frN, dresults_cell, Option.bind_some]
      exact e1.symm

end
end Go.Proofs.YtajngkkihadgfaaGreat
