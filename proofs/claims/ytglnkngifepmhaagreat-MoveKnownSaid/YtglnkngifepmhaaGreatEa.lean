/-
  The abstract machine: more fuel, and more that is known of calls, come to the same.
-/
import Derived.Test.YtglnkngifepmhaaGreatUy
set_option linter.unusedVariables false
set_option linter.unusedSimpArgs false

namespace Go.Abs

section
variable {P : Program}

def CLe (c d : CallT) : Prop := ∀ fv args s r x, c fv args s r = some x → d fv args s r = some x
theorem CLe.refl (c : CallT) : CLe c c := fun _ _ _ _ _ h => h
theorem CLe.trans {a b c : CallT} (h : CLe a b) (h' : CLe b c) : CLe a c := fun _ _ _ _ _ x => h' _ _ _ _ _ (h _ _ _ _ _ x)

variable {c d : CallT}
theorem ofCall_mono (h : CLe c d) {s : Sto} {fv : AV} {args : List AV} {r : ORes} (hd : ofCall s (c fv args s .no) = some r) : ofCall s (d fv args s .no) = some r := by
  cases hc : c fv args s .no with
  | none => rw [hc] at hd; cases hd
  | some x => rw [h _ _ _ _ _ hc, ← hc]; exact hd

theorem dop_mono (h : CLe c d) {o : Oper} {e : Env} {r : ORes} (hd : dop P c o e = some r) : dop P d o e = some r := by
  unfold dop at hd ⊢
  cases ho : o.op <;> simp only [ho] at hd ⊢ <;> first | exact hd | skip
  rename_i cl
  obtain ⟨callee, args, ts⟩ := cl
  cases callee with
  | builtin b => exact hd
  | value f => exact ofCall_mono h hd
  | invoke f n => exact ofCall_mono h hd

theorem dops_mono (h : CLe c d) {ops : List Oper} : ∀ (rest : List Oper) (e : Env) (x : Ex × Env), dops P c ops rest e = some x → dops P d ops rest e = some x := by
  intro rest
  induction rest with
  | nil => intro e x hx; exact hx
  | cons o rest ih =>
    intro e x hx
    simp only [dops] at hx ⊢
    split at hx
    · cases hx
    · rename_i hw
      split at hx
      · exact ih _ _ hx
      · cases hx
    · rename_i hw
      cases hd : dop P c o e with
      | none => rw [hd] at hx; cases hx
      | some r =>
        rw [dop_mono h hd]
        rw [hd] at hx
        cases r with
        | val v => simp only at hx ⊢; split at hx <;> first | exact ih _ _ hx | cases hx
        | val' v s => simp only at hx ⊢; split at hx <;> first | exact ih _ _ hx | cases hx
        | pan v s => exact hx
        | defer q => simp only at hx ⊢; split at hx <;> first | exact ih _ _ hx | cases hx
        | recov =>
          simp only at hx ⊢
          split at hx
          · split at hx <;> first | exact ih _ _ hx | cases hx
          · split at hx <;> first | exact ih _ _ hx | cases hx
          · cases hx

theorem trCons_some {x : TrE} {y : Option TrR} {z : TrR} (h : trCons x y = some z) : ∃ l f p, y = some (l, f, p) ∧ z = (x :: l, f, p) := by
  cases y with
  | none => cases h
  | some y => obtain ⟨l, f, p⟩ := y; simp only [trCons, Option.some.injEq] at h; exact ⟨l, f, p, rfl, h.symm⟩

theorem dtr_mono (h : CLe c d) {ops : List Oper} : ∀ (rest : List Oper) (i : Nat) (e : Env) (x : TrR), dtr P c ops rest i e = some x → dtr P d ops rest i e = some x := by
  intro rest
  induction rest with
  | nil => intro i e x hx; exact hx
  | cons o rest ih =>
    intro i e x hx
    have key : ∀ {y : TrE} {e' : Env} {z : TrR}, trCons y (dtr P c ops rest (i + 1) e') = some z → trCons y (dtr P d ops rest (i + 1) e') = some z := by
      intro y e' z hz
      obtain ⟨l, f, p, h1, h2⟩ := trCons_some hz
      rw [ih _ _ _ h1, ← hz, h1]
    simp only [dtr] at hx ⊢
    split at hx
    · cases hx
    · split at hx
      · exact key hx
      · cases hx
    · cases hd : dop P c o e with
      | none => rw [hd] at hx; cases hx
      | some r =>
        rw [dop_mono h hd]
        rw [hd] at hx
        cases r with
        | val v => simp only at hx ⊢; split at hx <;> first | exact key hx | cases hx
        | val' v s => simp only at hx ⊢; split at hx <;> first | exact key hx | cases hx
        | pan v s => exact hx
        | defer q => cases hx
        | recov => cases hx

theorem isVal_mono (h : CLe c d) {v : AV} {o : Oper} {e : Env} (hv : isVal v (dop P c o e) = true) : isVal v (dop P d o e) = true := by
  cases hd : dop P c o e with
  | none => rw [hd] at hv; cases hv
  | some r => rw [dop_mono h hd, ← hd]; exact hv

theorem rereads_mono (h : CLe c d) {n : Nat} {as : List Nat} {ns : List (Nat × Nat)} {x : TrE} : ∀ (cs : List Nat) (ss : List Sto), rereads P c n as ns x cs ss = true → rereads P d n as ns x cs ss = true := by
  intro cs
  induction cs with
  | nil =>
    intro ss hs
    cases ss with
    | nil => simp [rereads] at hs
    | cons s ss =>
      cases ss with
      | nil => exact isVal_mono h hs
      | cons s' ss => simp [rereads] at hs
  | cons k cs ih =>
    intro ss hs
    cases ss with
    | nil => simp [rereads] at hs
    | cons s ss =>
      simp only [rereads, Bool.and_eq_true] at hs ⊢
      refine ⟨?_, ?_⟩
      · have := hs.1
        cases hb : (as.getD x.i 0).testBit k with
        | true => rfl
        | false => rw [hb] at this; exact isVal_mono h this
      · have := hs.2
        cases hb : (as.getD k 0).testBit x.i with
        | true => rfl
        | false => rw [hb] at this; exact ih _ this

theorem stableB_mono (h : CLe c d) {n0 : Nat} {ns : List (Nat × Nat)} {as cs : List Nat} {x : TrE} (hs : stableB P c as n0 ns cs x = true) : stableB P d as n0 ns cs x = true := by
  simp only [stableB, Bool.and_eq_true, decide_eq_true_eq] at hs ⊢
  exact ⟨hs.1, fun s' hs' => dop_mono h (hs.2 s' hs')⟩
theorem stableC_mono (h : CLe c d) {n0 : Nat} {as cs : List Nat} {ss : List Sto} {x : TrE} (hs : stableC P c as n0 cs ss x = true) : stableC P d as n0 cs ss x = true := by
  simp only [stableC, decide_eq_true_eq] at hs ⊢
  obtain ⟨m, hm, h1, h2⟩ := hs
  exact ⟨m, hm, h1, fun s' hs' => dop_mono h (h2 s' hs')⟩
theorem readsAll_mono (h : CLe c d) {n n0 : Nat} {as : List Nat} {l : List TrE} {s : Sto} (hr : readsAll P c n n0 as l s = true) : readsAll P d n n0 as l s = true := by
  have key : ∀ (ns : List (Nat × Nat)) (cs : List Nat) (ss : List Sto) (m : List TrE), readsOk P c n n0 as ns cs ss m = true → readsOk P d n n0 as ns cs ss m = true := by
    intro ns cs ss m
    induction m with
    | nil => intro _; rfl
    | cons x m ih =>
      intro hm
      simp only [readsOk, Bool.and_eq_true, Bool.or_eq_true] at hm ⊢
      refine ⟨?_, ih hm.2⟩
      rcases hm.1 with (((h1 | h1) | h1) | h1) | h1
      · exact .inl (.inl (.inl (.inl h1)))
      · exact .inl (.inl (.inl (.inr h1)))
      · exact .inl (.inl (.inr (rereads_mono h _ _ h1)))
      · exact .inl (.inr (stableB_mono h h1))
      · exact .inr (stableC_mono h h1)
  unfold readsAll at hr ⊢
  split at hr
  · rfl
  · exact key _ _ _ _ hr

theorem ddraw_mono (h : CLe c d) {ops : List Oper} {e : Env} {x : Ex × Env} (hx : ddraw P c ops e = some x) : ddraw P d ops e = some x := by
  unfold ddraw at hx ⊢
  cases ht : dtr P c ops ops 0 e with
  | none => rw [ht] at hx; cases hx
  | some y =>
    obtain ⟨l, f, p⟩ := y
    rw [dtr_mono h _ _ _ _ ht]
    rw [ht] at hx
    simp only at hx ⊢
    cases hr : readsAll P c f.s.n e.s.n (ancs ops) l f.s with
    | false => rw [hr] at hx; simp at hx
    | true => rw [readsAll_mono h hr, ← hr]; exact hx

theorem dregion_mono (h : CLe c d) {ops : List Oper} {draw : Bool} {e : Env} {x : Ex × Env} (hx : dregion P c ops draw e = some x) : dregion P d ops draw e = some x := by
  cases draw with
  | true => exact ddraw_mono h hx
  | false => exact dops_mono h _ _ _ hx

theorem loopGo_mono {f g : Env → Option (Ex × Env)} (h : ∀ e x, f e = some x → g e = some x) : ∀ (n m : Nat) (e : Env) (x : Ex × Env), n ≤ m → loopGo f n e = some x → loopGo g m e = some x := by
  intro n
  induction n with
  | zero => intro m e x _ hx; cases hx
  | succ n ih =>
    intro m e x hm hx
    obtain ⟨m, rfl⟩ : ∃ k, m = k + 1 := ⟨m - 1, by omega⟩
    simp only [loopGo] at hx ⊢
    cases hf : f e with
    | none => rw [hf] at hx; cases hx
    | some y =>
      rw [h _ _ hf]
      rw [hf] at hx
      obtain ⟨ex, e'⟩ := y
      cases ex with
      | normal => exact ih m e' x (by omega) hx
      | _ => exact hx

theorem drange_mono (h : CLe c d) {f : Operand} {ps : Array Tmp} {a b : Code} {e : Env} {x : Ex × Env} (hx : drange c f ps a b e = some x) : drange d f ps a b e = some x := by
  unfold drange at hx ⊢
  split at hx
  · cases hx
  · simp only at hx ⊢
    rename_i q s1 dd ds hq
    cases hc : c (e.eval f) [.func (.yield s1.n) [] []] (s1.push (.loop .ready none e.fn e.nt e.t ps.toList a b dd)) .no with
    | none => rw [hc] at hx; cases hx
    | some y => rw [h _ _ _ _ _ hc, ← hc]; exact hx

theorem dcode_mono (h : CLe c d) {n m : Nat} (hn : n ≤ m) : ∀ (k : Code) (e : Env) (x : Ex × Env), dcode P c n k e = some x → dcode P d m k e = some x := by
  intro k
  induction k with
  | region id ops draw => intro e x hx; exact dregion_mono h hx
  | seq a b iha ihb =>
    intro e x hx
    simp only [dcode] at hx ⊢
    cases ha : dcode P c n a e with
    | none => rw [ha] at hx; cases hx
    | some y =>
      rw [iha _ _ ha]
      rw [ha] at hx
      obtain ⟨ex, e'⟩ := y
      cases ex with
      | normal => exact ihb _ _ hx
      | _ => exact hx
  | cond q a b iha ihb =>
    intro e x hx
    simp only [dcode] at hx ⊢
    split at hx
    · exact iha _ _ hx
    · exact ihb _ _ hx
    · cases hx
  | block id a iha =>
    intro e x hx
    simp only [dcode] at hx ⊢
    cases ha : dcode P c n a e with
    | none => rw [ha] at hx; cases hx
    | some y => rw [iha _ _ ha, ← ha]; exact hx
  | loop a iha => intro e x hx; exact loopGo_mono iha _ _ _ _ hn hx
  | scope a iha =>
    intro e x hx
    simp only [dcode] at hx ⊢
    cases ha : dcode P c n a e with
    | none => rw [ha] at hx; cases hx
    | some y => rw [iha _ _ ha, ← ha]; exact hx
  | rangeFunc f ps a b => intro e x hx; exact drange_mono h hx
  | _ => intro e x hx; exact hx

theorem dleave_mono (h : CLe c d) {fn : Func} : ∀ (n m : Nat) (mode : Option AV) (e : Env) (x : LRes × Env), n ≤ m → dleave P c fn n mode e = some x → dleave P d fn m mode e = some x := by
  intro n
  induction n with
  | zero => intro m mode e x _ hx; cases hx
  | succ n ih =>
    intro m mode e x hm hx
    obtain ⟨m, rfl⟩ : ∃ k, m = k + 1 := ⟨m - 1, by omega⟩
    have hm' : n ≤ m := by omega
    simp only [dleave] at hx ⊢
    split at hx
    · exact hx
    · split at hx
      · exact ih _ _ _ _ hm' hx
      · cases hx
    · rename_i fv args ds _
      cases hy : isYield fv with
      | true => rw [hy] at hx; cases hx
      | false =>
        rw [hy] at hx
        simp only [cond_false] at hx ⊢
        cases mode with
        | none =>
          simp only at hx ⊢
          cases hc : c fv args e.s .no with
          | none => rw [hc] at hx; cases hx
          | some y =>
            rw [h _ _ _ _ _ hc]
            rw [hc] at hx
            obtain ⟨res, rr⟩ := y
            cases res <;> cases rr <;> first | exact ih _ _ _ _ hm' hx | cases hx
        | some p =>
          simp only at hx ⊢
          cases hc : c fv args e.s (.pan p) with
          | none => rw [hc] at hx; cases hx
          | some y =>
            rw [h _ _ _ _ _ hc]
            rw [hc] at hx
            obtain ⟨res, rr⟩ := y
            cases res <;> cases rr <;> first | exact ih _ _ _ _ hm' hx | cases hx

theorem dfunc_mono (h : CLe c d) {n m : Nat} (hn : n ≤ m) {f : FuncId} {args : List AV} {s : Sto} {r : ARec} {x : CRes × ARec} (hx : dfunc P c n f args s r = some x) : dfunc P d m f args s r = some x := by
  unfold dfunc at hx ⊢
  cases ho : okFn P f with
  | false => rw [ho] at hx; cases hx
  | true =>
    rw [ho] at hx
    simp only [cond_true] at hx ⊢
    split at hx
    · rename_i fn hfn
      split at hx
      · rename_i k hk
        cases hc : dcode P c n k { nt := Nat.max args.length fn.ntmps, ro := none, fn := f, t := Tr.leaf.lay 0 args, ds := [], s := { s with low := s.n }, r := r } with
        | none => rw [hc] at hx; cases hx
        | some y =>
          rw [dcode_mono h hn _ _ _ hc]
          rw [hc] at hx
          obtain ⟨ex, e'⟩ := y
          cases ex <;> first | (obtain ⟨lr, e'', hl, hf⟩ := dfin_some hx; simp only [dleave_mono h _ _ _ _ _ hn hl]; exact hf) | cases hx
      · cases hx
    · cases hx

theorem dround_mono (h : CLe c d) {n m : Nat} (hn : n ≤ m) {l : Nat} {args : List AV} {s : Sto} {x : CRes × ARec} (hx : dround P c n l args s = some x) : dround P d m l args s = some x := by
  unfold dround at hx ⊢
  split at hx
  · rename_i st pend fn nt t ps a b dd hg
    split at hx
    · rename_i t' ht
      cases hc : dcode P c n a { nt := nt, ro := some l, fn := fn, t := t', ds := [], s := { s with low := s.n }, r := .no } with
      | none => rw [hc] at hx; cases hx
      | some y =>
        rw [dcode_mono h hn _ _ _ hc]
        rw [hc] at hx
        obtain ⟨ex, e'⟩ := y
        cases ex with
        | normal =>
          simp only at hx ⊢
          split at hx
          · rename_i pend' fn' nt' t'' ps' a' b' d' hg'
            cases hc' : dcode P c n b { e' with s := e'.s.put l (.loop .busy pend' fn' nt' t'' ps' a' b' d') } with
            | none => rw [hc'] at hx; cases hx
            | some y =>
              rw [dcode_mono h hn _ _ _ hc', ← hc']
              exact hx
          · cases hx
        | _ => cases hx
    · cases hx
  · cases hx

/-- what one oracle knows the other one does -/
def OLe (O O' : Orc) : Prop := ∀ f args s x, O f args s = some x → O' f args s = some x
theorem oget_mono {O O' : Orc} (h : OLe O O') {fv : AV} {args : List AV} {s : Sto} {r : ARec} {x : CRes} (hx : oget O fv args s r = some x) : oget O' fv args s r = some x := by
  unfold oget at hx ⊢
  split at hx
  · split at hx
    · exact h _ _ _ _ hx
    · cases hx
  · cases hx

theorem dcall_mono {O : Orc} : ∀ (n m : Nat), n ≤ m → CLe (dcall P O n) (dcall P O m) := by
  intro n
  induction n with
  | zero => intro m _ fv args s r x hx; cases hx
  | succ n ih =>
    intro m hm fv args s r x hx
    obtain ⟨m, rfl⟩ : ∃ k, m = k + 1 := ⟨m - 1, by omega⟩
    have hm' : n ≤ m := by omega
    simp only [dcall] at hx ⊢
    split at hx
    · exact hx
    · split at hx
      · exact dfunc_mono (ih m hm') hm' hx
      · cases r <;> first | exact dround_mono (ih m hm') hm' hx | cases hx
      · cases hx

end
end Go.Abs
