/-
  The program of images: its reader reads numbers and outputs, lists of them.
-/
import Derived.Test.YtajngkkihadgfaaGreatIf
set_option linter.unusedVariables false
set_option linter.unusedSimpArgs false
namespace Go.Proofs.YtajngkkihadgfaaGreat
open Go.Abs Go Go.Abs.TryzF
noncomputable section
set_option maxRecDepth 10000
def outN (l : List Nat) (at_ : Nat) : PR Val := match sgnN l at_ with
  | .fail j => .fail j
  | .ok p a => (sgnN l a).map fun m => (p, m)
def outP (l : List Nat) (at_ : Nat) : PR AV := (outN l at_).map valI
theorem outN_le {l : List Nat} (hb : By l) {at_ : Nat} (h : at_ ≤ l.length + 1000) : (outN l at_).le (l.length + 1000) := by
  have h1 := sgnN_le hb h
  unfold outN
  cases hx : sgnN l at_ with
  | fail j => rw [hx] at h1; exact h1
  | ok c a =>
    rw [hx] at h1
    have := sgnN_le hb (show a ≤ l.length + 1000 from h1)
    unfold PR.map
    simp only
    cases hy : sgnN l a <;> (rw [hy] at this; exact this)
abbrev L119 : List Ent := [entS 94 (prR A1 sgnP)]
theorem out_ok : ∀ args s res, prR A1 outP args s res → Sound Tryz.prog 119 args s res := by
  rintro args ⟨n, low0, o0⟩ res ⟨r, fid, g, l, at0, rfl, ⟨hr, hg, hgf, hne, hby, hll, hat⟩, rfl⟩
  have hfn : fid < n := Sto.get_lt hgf
  have hr' : r < n := hr
  rw [Sto.get_mk hr'] at hg
  rw [Sto.get_mk hfn] at hgf
  have f1 := frI hr'
  have f2 := frI hfn
  refine sound_wk (L := L119) (elist_cons (entS_ok sgn_ok) elist_nil) noHint (by kernel_rfl) Tryz.func119 Tryz.ntmps119 Tryz.results119 rfl rfl ?_
  have g1 : (o0.set n (obg 0 [.int .i64 0, .int .i64 0])).get r = some (prO fid g l at0) := by rw [Tr.get_set_ne _ _ (by omega)]; exact hg
  have g2 : (o0.set n (obg 0 [.int .i64 0, .int .i64 0])).get fid = some (obg g (l.map encB)) := by rw [Tr.get_set_ne _ _ (by omega)]; exact hgf
  have hcall : orcL L119 94 [.ptr r 0 0] ⟨n + 1, n, (o0.set n (obg 0 [.int .i64 0, .int .i64 0]))⟩ = _ := prR_same (f := 94) (L := []) A1_inj (F := sgnP) (PrAt.mk' (low := n) (by omega) (by omega) g1 g2 hne hby hll hat)
  have hnx := sgnN_le hby hat
  cases hx : sgnN l at0 with
  | fail j =>
    rw [prRes_fail (show sgnP l at0 = .fail j by unfold sgnP; rw [hx]; rfl)] at hcall
    simp +contextual +decide (maxSteps := 1000000) only [↓ wP, wQ, tf, Nat.reduceAdd, ne_eq, hcall, endK_panic]
    exact prc_fail (by unfold outP outN; rw [hx]; rfl) hr' hfn (by omega) (le_min (Nat.le_refl r) (by omega)) (by rw [Tr.get_set_same]) (fun id h1 h2 => by rw [Tr.get_set_ne _ _ h2, Tr.get_set_ne _ _ (by omega)])
  | ok c a =>
    rw [hx] at hnx
    have hnx' : a ≤ l.length + 1000 := hnx
    rw [prRes_ok (show sgnP l at0 = .ok (.int .i64 c) a by unfold sgnP; rw [hx]; rfl)] at hcall
    have hcall2 : orcL L119 94 [.ptr r 0 0] ⟨n + 1, Nat.min r n, (o0.set n (obg 0 [.int .i64 0, .int .i64 0])).set r (prO fid g l a)⟩ = _ := (prR_same (f := 94) (L := []) A1_inj (F := sgnP) (PrAt.mk' (n := n + 1) (low := Nat.min r n) (o := (o0.set n (obg 0 [.int .i64 0, .int .i64 0])).set r (prO fid g l a)) (by omega) (by omega) (by rw [Tr.get_set_same]) (by rw [Tr.get_set_ne _ _ hne]; exact g2) hne hby hll hnx'))
    cases hy : sgnN l a with
    | fail j =>
      rw [prRes_fail (show sgnP l a = .fail j by unfold sgnP; rw [hy]; rfl)] at hcall2
      simp +contextual +decide (maxSteps := 1000000) only [↓ wP, wQ, tf, Nat.reduceAdd, ne_eq, hcall, hcall2, endK_panic]
      exact prc_fail (by unfold outP outN; rw [hx]; simp only [hy]; rfl) hr' hfn (by omega) (le_min (Nat.le_refl r) (le_min (Nat.le_refl r) (by omega))) (by rw [Tr.get_set_same]) (fun id h1 h2 => by rw [Tr.get_set_ne _ _ h2, Tr.get_set_ne _ _ h2, Tr.get_set_ne _ _ (by omega)])
    | ok m a2 =>
      rw [prRes_ok (show sgnP l a = .ok (.int .i64 m) a2 by unfold sgnP; rw [hy]; rfl)] at hcall2
      have gn : (((o0.set n (obg 0 [.int .i64 0, .int .i64 0])).set r (prO fid g l a)).set r (prO fid g l a2)).get n = some (obg 0 [.int .i64 0, .int .i64 0]) := by rw [Tr.get_set_ne _ _ (by omega), Tr.get_set_ne _ _ (by omega), Tr.get_set_same]
      simp +contextual +decide (maxSteps := 1000000) only [↓ wP, wQ, tf, Nat.reduceAdd, ne_eq, hcall, hcall2, f1, frN, gn, dresults_cell, Option.bind_some]
      exact prc_ok (v := valI (c, m)) (by unfold outP outN; rw [hx]; simp only [hy]; rfl) hr' hfn (by omega) (le_min (by omega) (le_min (Nat.le_refl r) (le_min (Nat.le_refl r) (by omega)))) (by rw [Tr.get_set_ne _ _ (by omega), Tr.get_set_same]) (fun id h1 h2 => by rw [Tr.get_set_ne _ _ (by omega), Tr.get_set_ne _ _ h2, Tr.get_set_ne _ _ h2, Tr.get_set_ne _ _ (by omega)]) (.und _ (underE_agg (fun x hx => by simp at hx; rcases hx with rfl | rfl <;> exact ⟨1, rfl⟩)).und)
def outsGo (l : List Nat) : Nat → List Val → Nat → PR (List Val)
  | 0, acc, at_ => .ok acc at_
  | k + 1, acc, at_ => match outN l at_ with
    | .fail j => .fail j
    | .ok v a => outsGo l k (acc ++ [v]) a
def outsN (l : List Nat) (at_ : Nat) : PR (List Val) := match plainN l at_ with
  | .fail j => .fail j
  | .ok n a => if n ≤ l.length then outsGo l n [] a else .fail a
def outsP (l : List Nat) (at_ : Nat) : PR AV := (outsN l at_).map valsA
theorem outsGo_le {l : List Nat} (hb : By l) : ∀ (k : Nat) (acc : List Val) (at_ : Nat), at_ ≤ l.length + 1000 → (outsGo l k acc at_).le (l.length + 1000) ∧ ∀ x a, outsGo l k acc at_ = .ok x a → x.length = acc.length + k
  | 0, acc, at_, h => ⟨h, fun x a e => by cases e; rfl⟩
  | k + 1, acc, at_, h => by
    have h1 := outN_le hb h
    unfold outsGo
    cases hx : outN l at_ with
    | fail j => rw [hx] at h1; exact ⟨h1, fun x a e => by cases e⟩
    | ok v a =>
      rw [hx] at h1
      have := outsGo_le hb k (acc ++ [v]) a h1
      refine ⟨this.1, fun x b e => ?_⟩
      rw [this.2 x b e, List.length_append, List.length_singleton]; omega
theorem outsN_le {l : List Nat} (hb : By l) {at_ : Nat} (h : at_ ≤ l.length + 1000) : (outsN l at_).le (l.length + 1000) ∧ ∀ x a, outsN l at_ = .ok x a → x.length ≤ l.length := by
  have h1 := (plainN_le hb h).1
  unfold outsN
  cases hx : plainN l at_ with
  | fail j => rw [hx] at h1; exact ⟨h1, fun x a e => by cases e⟩
  | ok n a =>
    rw [hx] at h1
    simp only
    split
    · rename_i hn
      have := outsGo_le hb n [] a h1
      exact ⟨this.1, fun x b e => by rw [this.2 x b e]; simpa using hn⟩
    · exact ⟨h1, fun x a e => by cases e⟩
abbrev A118 (r : Nat) : List AV := [.ptr r 0 0, .func (.func 119) [.ptr r 0 0] []]
theorem A118_inj : ∀ r r', A118 r = A118 r' → r = r' := fun r r' h => by simp [A118] at h; exact h
abbrev L118 : List Ent := [entS 124 wantR, entS 117 (prR A1 plainP), entS 119 (prR A1 outP)]
section
variable {n low : Nat} {o : Tr AObj} {r fid g : Nat} {l : List Nat} {at_ : Nat}
theorem L118_plain (h : PrAt ⟨n, low, o⟩ r fid g l at_) : orcL L118 117 [.ptr r 0 0] ⟨n, low, o⟩ = some (prRes plainP r fid g l at_ ⟨n, low, o⟩) := (entS_ne (by decide)).trans (prR_same A1_inj h)
theorem L118_value (h : PrAt ⟨n, low, o⟩ r fid g l at_) : orcL L118 119 [.ptr r 0 0] ⟨n, low, o⟩ = some (prRes outP r fid g l at_ ⟨n, low, o⟩) := (entS_ne (by decide)).trans ((entS_ne (by decide)).trans (prR_same A1_inj h))
end
set_option maxHeartbeats 2000000 in
theorem readU_ok : ∀ args s res, prR A118 outsP args s res → Sound Tryz.prog 118 args s res := by
  rintro args ⟨n, low0, o0⟩ res ⟨r, fid, g, l, at0, rfl, ⟨hr, hg, hgf, hne, hby, hll, hat⟩, rfl⟩
  have hfn : fid < n := Sto.get_lt hgf
  have hr' : r < n := hr
  rw [Sto.get_mk hr'] at hg
  rw [Sto.get_mk hfn] at hgf
  have f1 := frI hr'
  have f2 := frI hfn
  refine sound_wk (L := L118) (elist_cons (entS_ok want_ok) (elist_cons (entS_ok plain_ok) (elist_cons (entS_ok out_ok) elist_nil))) (fun _ => ([], [11])) (by kernel_rfl) Tryz.func118 Tryz.ntmps118 Tryz.results118 rfl rfl ?_
  have hcall := L118_plain (PrAt.mk' (low := n) hr' hfn hg hgf hne hby hll hat)
  obtain ⟨h1, h2⟩ := plainN_le hby hat
  cases hx : plainN l at0 with
  | fail j =>
    rw [prRes_fail (show plainP l at0 = .fail j by unfold plainP; rw [hx]; rfl)] at hcall
    simp +contextual +decide (maxSteps := 1000000) only [↓ wP, wQ, tf, Nat.reduceAdd, ne_eq, hcall, endK_panic]
    exact prc_fail (by unfold outsP outsN; rw [hx]; rfl) hr' hfn (Nat.le_refl n) (le_min (Nat.le_refl r) (by omega)) (by rw [Tr.get_set_same]) (fun id h1 h2 => by rw [Tr.get_set_ne _ _ h2])
  | ok c a1 =>
    rw [hx] at h1
    have h1' : a1 ≤ l.length + 1000 := h1
    rw [prRes_ok (show plainP l at0 = .ok (.int .i64 (c : Nat)) a1 by unfold plainP; rw [hx]; rfl)] at hcall
    have d1 : (((c : Nat) : Int) ≤ (l.length : Nat)) = (c ≤ l.length) := propext (by omega)
    have md : modeD [11] = false := rfl
    have ld0 : ∀ k, ldK (some none) (some (prO fid g l k)) 0 0 = some (.sl fid g 0 l.length (.room 1)) := fun _ => rfl
    have ld1 : ∀ k : Nat, ldK (some none) (some (prO fid g l k)) 0 1 = some (.int .i64 (k : Nat)) := fun _ => rfl
    by_cases hcl : c ≤ l.length
    rotate_left
    · have hw := want_eq (L := [entS 117 (prR A1 plainP), entS 119 (prR A1 outP)]) false a1
      simp only [Bool.false_eq_true, if_false] at hw
      simp +contextual +decide (maxSteps := 1000000) only [↓ wP, wQ, tf, Nat.reduceAdd, ne_eq, hcall, d1, hcl, md, ld0, ld1, hw, f1, f2, endK_forget]
      exact prc_fail (by unfold outsP outsN; rw [hx]; simp only [hcl, if_false]; rfl) hr' hfn (Nat.le_refl n) (le_min (Nat.le_refl r) (by omega)) (by rw [Tr.get_set_same]) (fun id h1 h2 => by rw [Tr.get_set_ne _ _ h2])
    have hw := want_eq (L := [entS 117 (prR A1 plainP), entS 119 (prR A1 outP)]) true a1
    simp only [if_true] at hw
    have hR : outsN l at0 = outsGo l c [] a1 := by unfold outsN; rw [hx]; simp only [hcl, if_true]
    simp +contextual +decide (maxSteps := 1000000) only [↓ wP, wQ, tf, Nat.reduceAdd, ne_eq, hcall, d1, hcl, md, ld0, ld1, hw, f1, f2]
    refine Wk_loop (fun i e => ∃ t n' low o v acc at_, e = ⟨33, none, 118, t, [], ⟨n', low, o⟩, .no⟩ ∧ t.val 1 = .func (.func 119) [.ptr r 0 0] [] ∧ t.val 6 = v ∧ t.val 22 = .int .i64 (c : Nat) ∧ t.val 23 = .int .i64 (i : Nat) ∧ i ≤ c ∧ VAcc n n' o v acc ∧ acc.length = i ∧ outsGo l (c - i) acc at_ = outsN l at0 ∧ at_ ≤ l.length + 1000 ∧ n ≤ n' ∧ r ≤ low ∧ o.get r = some (prO fid g l at_) ∧ ∀ id, id < n → id ≠ r → o.get id = o0.get id) (fun i => c - i) 0
      ⟨_, n, _, _, .nils, [], a1, rfl, by simp +decide only [↓ wval, wint, wlog], by simp +decide only [↓ wval, wint, wlog], by simp +decide only [↓ wval, wint, wlog], by simp +decide only [↓ wval, wint, wlog]; rfl, Nat.zero_le _, .inl ⟨rfl, rfl⟩, rfl, hR.symm, h1', Nat.le_refl _, le_min (Nat.le_refl r) (by omega), by rw [Tr.get_set_same], fun id h1 h2 => by rw [Tr.get_set_ne _ _ h2]⟩ ?_
    rintro i _ ⟨t, n', low, o, v, acc, at_, rfl, t1, t6, t22, t23, hi, hacc, hal, hgo, hat', hn, hlow, hgr, hoth⟩
    have f3 := frI (show r < n' by omega)
    by_cases hlt : i < c
    · have d2 : ((i : Int) < (c : Nat)) = True := eq_true (by omega)
      have d5 := wrap_succ (i := i) (by omega)
      have hc2 := L118_value (PrAt.mk' (n := n') (low := low) (by omega) (by omega) hgr (by rw [hoth fid hfn hne]; exact hgf) hne hby hll hat')
      have hgo' : outsN l at0 = match outN l at_ with
          | .fail j => .fail j
          | .ok v a => outsGo l (c - (i + 1)) (acc ++ [v]) a := by
        rw [← hgo, show c - i = (c - (i + 1)) + 1 by omega]; rfl
      have hvl := outN_le hby hat'
      cases hy : outN l at_ with
      | fail j =>
        rw [hy] at hgo'
        rw [prRes_fail (show outP l at_ = .fail j by unfold outP; rw [hy]; rfl)] at hc2
        simp +contextual +decide (maxSteps := 1000000) only [↓ wP, wQ, tf, Nat.reduceAdd, ne_eq, t1, t6, t22, t23, d2, hc2, endK_panic]
        exact prc_fail (by unfold outsP; rw [hgo']; rfl) hr' hfn hn (le_min (Nat.le_refl r) hlow) (by rw [Tr.get_set_same]) (fun id h1 h2 => by rw [Tr.get_set_ne _ _ h2]; exact hoth id h1 h2)
      | ok w a2 =>
        rw [hy] at hgo' hvl
        obtain ⟨k, m⟩ := w
        rw [prRes_ok (show outP l at_ = .ok (.agg [.int .i64 k, .int .i64 m]) a2 by unfold outP; rw [hy]; rfl)] at hc2
        have hsmall : (2 * (acc.length + 1) + 1024) * 16 ≤ 281474976710656 ∧ acc.length + 1 < 4611686018427387904 := ⟨by omega, by omega⟩
        rcases hacc with ⟨hL, rfl⟩ | ⟨hL, id, g', rfl, hid, hid0, hidn⟩
        · simp +contextual +decide (maxSteps := 1000000) only [↓ wP, wQ, tf, Nat.reduceAdd, ne_eq, t1, t6, t22, t23, d2, d5, hc2, f3, frN, frM, hsmall, Nat.reduceMul, Nat.mul_one, Nat.zero_mul, Nat.zero_add]
          refine ⟨i + 1, by show _ - _ < _ - _; omega, _, n' + 1 + 1 + 1, _, _, .sl (n' + 1 + 1) 0 0 1 (.room 2), acc ++ [(k, m)], a2, rfl, by simp +decide only [↓ wval, wint, wlog, t1], by simp +decide only [↓ wval, wint, wlog], by simp +decide only [↓ wval, wint, wlog, t22], by simp +decide only [↓ wval, wint, wlog], hlt, .inr ⟨by simp, n' + 1 + 1, 0, ?_, ?_, by omega, by omega⟩, by rw [List.length_append, hal]; rfl, hgo'.symm, hvl, by omega, (by repeat' first | exact Nat.le_refl _ | exact hlow | apply le_min | omega), ?_, ?_⟩
          · rw [List.length_append, hL]; rfl
          · simp +decide only [↓ wval, f3, frN, ne_eq]
            rw [hL]; rfl
          · simp +decide only [↓ wval, f3,  frN, ne_eq]
          · intro id' h1 h2
            have f5 := frI (show id' < n' by omega)
            have f7 : id' ≠ r ∧ True := ⟨h2, trivial⟩
            simp +decide only [↓ wval, f5, f7, ne_eq]
            exact hoth id' h1 h2
        · have f4 := frI hidn
          have f6 : id ≠ r ∧ r ≠ id := ⟨by omega, by omega⟩
          have hfl : (acc.map valC).flatten.length = acc.length * 2 := by rw [flatten_len _ (valC_len _), List.length_map]
          simp +contextual +decide (maxSteps := 1000000) only [↓ wP, wQ, tf, Nat.reduceAdd, ne_eq, t1, t6, t22, t23, d2, d5, hc2, f3, f4, f6, hid, hfl, frN, frM, hsmall, Nat.reduceMul, Nat.mul_one, Nat.zero_mul, Nat.zero_add]
          refine ⟨i + 1, by show _ - _ < _ - _; omega, _, n' + 1 + 1, _, _, .sl id (g' + 1) 0 (acc.length + 1) (.room 2), acc ++ [(k, m)], a2, rfl, by simp +decide only [↓ wval, wint, wlog, t1], by simp +decide only [↓ wval, wint, wlog], by simp +decide only [↓ wval, wint, wlog, t22], by simp +decide only [↓ wval, wint, wlog], hlt, .inr ⟨by simp, id, g' + 1, ?_, ?_, hid0, by omega⟩, by rw [List.length_append, hal]; rfl, hgo'.symm, hvl, by omega, (by repeat' first | exact Nat.le_refl _ | exact hlow | apply le_min | omega), ?_, ?_⟩
          · rw [List.length_append]; rfl
          · simp +decide only [↓ wval, f3, f4, f6, frN, ne_eq]
            rw [List.map_append, List.flatten_append]; rfl
          · simp +decide only [↓ wval, f3, f4, f6, frN, ne_eq]
          · intro id' h1 h2
            have f5 := frI (show id' < n' by omega)
            have f7 : id' ≠ r ∧ id' ≠ id := ⟨h2, by omega⟩
            simp +decide only [↓ wval, f5, f7, ne_eq]
            exact hoth id' h1 h2
    · have : i = c := by omega
      subst this
      have d2 : (((i : Nat) : Int) < (i : Nat)) = False := eq_false (by omega)
      simp +contextual +decide (maxSteps := 1000000) only [↓ wP, wQ, tf, Nat.reduceAdd, ne_eq, t1, t6, t22, t23, d2]
      refine prc_ok (v := valsA acc) (by unfold outsP; rw [← hgo, Nat.sub_self]; rfl) hr' hfn hn hlow hgr hoth hacc.frz
def intsA (l : List Int) : AV := if l = [] then .nils else .fz (l.map encI) false
def IAcc (n0 n : Nat) (o : Tr AObj) (v : AV) (l : List Int) : Prop := (l = [] ∧ v = .nils) ∨ (l ≠ [] ∧ ∃ id g, v = .sl id g 0 l.length (.room 1) ∧ o.get id = some (obg g (l.map encI)) ∧ n0 ≤ id ∧ id < n)
theorem IAcc.frz {n0 n low : Nat} {o : Tr AObj} {v : AV} {l : List Int} (h : IAcc n0 n o v l) : Frz ⟨n, low, o⟩ n0 v (intsA l) := by
  rcases h with ⟨rfl, rfl⟩ | ⟨hl, id, g, rfl, hid, h1, h2⟩
  · exact .und _ und_nils
  · rw [intsA, if_neg hl]
    refine frz_sl (cs := l.map encI) h1 (by rw [Sto.get_mk h2]; exact hid) (by simp) (by simp) (fun x hx => ?_) fun j x y hx hy => ?_
    · obtain ⟨z, _, rfl⟩ := List.mem_map.1 hx; rfl
    · rw [Nat.zero_add, hy] at hx
      cases hx
      obtain ⟨z, _, rfl⟩ := List.mem_map.1 (List.mem_of_getElem? hy)
      exact .und _ und_int
def plnN (l : List Nat) (at_ : Nat) : PR Int := (plainN l at_).map fun n => ((n : Nat) : Int)
def plnP (l : List Nat) (at_ : Nat) : PR AV := (plnN l at_).map intA
theorem plnP_eq : plnP = plainP := by
  funext l at_
  unfold plnP plainP plnN PR.map
  cases plainN l at_ <;> rfl
theorem plnN_le {l : List Nat} (hb : By l) {at_ : Nat} (h : at_ ≤ l.length + 1000) : (plnN l at_).le (l.length + 1000) := by
  have := (plainN_le hb h).1
  unfold plnN PR.map
  cases hx : plainN l at_ <;> (rw [hx] at this; exact this)
def isGoS (l : List Nat) : Nat → List Int → Nat → PR (List Int)
  | 0, acc, at_ => .ok acc at_
  | k + 1, acc, at_ => match sgnN l at_ with
    | .fail j => .fail j
    | .ok v a => isGoS l k (acc ++ [v]) a
def isNS (l : List Nat) (at_ : Nat) : PR (List Int) := match plainN l at_ with
  | .fail j => .fail j
  | .ok n a => if n ≤ l.length then isGoS l n [] a else .fail a
def isPS (l : List Nat) (at_ : Nat) : PR AV := (isNS l at_).map intsA
theorem isGoS_le {l : List Nat} (hb : By l) : ∀ (k : Nat) (acc : List Int) (at_ : Nat), at_ ≤ l.length + 1000 → (isGoS l k acc at_).le (l.length + 1000) ∧ ∀ x a, isGoS l k acc at_ = .ok x a → x.length = acc.length + k
  | 0, acc, at_, h => ⟨h, fun x a e => by cases e; rfl⟩
  | k + 1, acc, at_, h => by
    have h1 := sgnN_le hb h
    unfold isGoS
    cases hx : sgnN l at_ with
    | fail j => rw [hx] at h1; exact ⟨h1, fun x a e => by cases e⟩
    | ok v a =>
      rw [hx] at h1
      have := isGoS_le hb k (acc ++ [v]) a h1
      refine ⟨this.1, fun x b e => ?_⟩
      rw [this.2 x b e, List.length_append, List.length_singleton]; omega
theorem isNS_le {l : List Nat} (hb : By l) {at_ : Nat} (h : at_ ≤ l.length + 1000) : (isNS l at_).le (l.length + 1000) ∧ ∀ x a, isNS l at_ = .ok x a → x.length ≤ l.length := by
  have h1 := (plainN_le hb h).1
  unfold isNS
  cases hx : plainN l at_ with
  | fail j => rw [hx] at h1; exact ⟨h1, fun x a e => by cases e⟩
  | ok n a =>
    rw [hx] at h1
    simp only
    split
    · rename_i hn
      have := isGoS_le hb n [] a h1
      exact ⟨this.1, fun x b e => by rw [this.2 x b e]; simpa using hn⟩
    · exact ⟨h1, fun x a e => by cases e⟩
abbrev AIS (r : Nat) : List AV := [.ptr r 0 0, .func (.func 94) [.ptr r 0 0] []]
theorem AIS_inj : ∀ r r', AIS r = AIS r' → r = r' := fun r r' h => by simp [AIS] at h; exact h
abbrev LIS : List Ent := [entS 124 wantR, entS 117 (prR A1 plainP), entS 94 (prR A1 sgnP)]
section
variable {n low : Nat} {o : Tr AObj} {r fid g : Nat} {l : List Nat} {at_ : Nat}
theorem LIS_plain (h : PrAt ⟨n, low, o⟩ r fid g l at_) : orcL LIS 117 [.ptr r 0 0] ⟨n, low, o⟩ = some (prRes plainP r fid g l at_ ⟨n, low, o⟩) := (entS_ne (by decide)).trans (prR_same A1_inj h)
theorem LIS_value (h : PrAt ⟨n, low, o⟩ r fid g l at_) : orcL LIS 94 [.ptr r 0 0] ⟨n, low, o⟩ = some (prRes sgnP r fid g l at_ ⟨n, low, o⟩) := (entS_ne (by decide)).trans ((entS_ne (by decide)).trans (prR_same A1_inj h))
end
set_option maxHeartbeats 2000000 in
theorem readIS_ok : ∀ args s res, prR AIS isPS args s res → Sound Tryz.prog 116 args s res := by
  rintro args ⟨n, low0, o0⟩ res ⟨r, fid, g, l, at0, rfl, ⟨hr, hg, hgf, hne, hby, hll, hat⟩, rfl⟩
  have hfn : fid < n := Sto.get_lt hgf
  have hr' : r < n := hr
  rw [Sto.get_mk hr'] at hg
  rw [Sto.get_mk hfn] at hgf
  have f1 := frI hr'
  have f2 := frI hfn
  refine sound_wk (L := LIS) (elist_cons (entS_ok want_ok) (elist_cons (entS_ok plain_ok) (elist_cons (entS_ok sgn_ok) elist_nil))) (fun _ => ([], [11])) (by kernel_rfl) Tryz.func116 Tryz.ntmps116 Tryz.results116 rfl rfl ?_
  have hcall := LIS_plain (PrAt.mk' (low := n) hr' hfn hg hgf hne hby hll hat)
  obtain ⟨h1, h2⟩ := plainN_le hby hat
  cases hx : plainN l at0 with
  | fail j =>
    rw [prRes_fail (show plainP l at0 = .fail j by unfold plainP; rw [hx]; rfl)] at hcall
    simp +contextual +decide (maxSteps := 1000000) only [↓ wP, wQ, tf, Nat.reduceAdd, ne_eq, hcall, endK_panic]
    exact prc_fail (by unfold isPS isNS; rw [hx]; rfl) hr' hfn (Nat.le_refl n) (le_min (Nat.le_refl r) (by omega)) (by rw [Tr.get_set_same]) (fun id h1 h2 => by rw [Tr.get_set_ne _ _ h2])
  | ok c a1 =>
    rw [hx] at h1
    have h1' : a1 ≤ l.length + 1000 := h1
    rw [prRes_ok (show plainP l at0 = .ok (.int .i64 (c : Nat)) a1 by unfold plainP; rw [hx]; rfl)] at hcall
    have d1 : (((c : Nat) : Int) ≤ (l.length : Nat)) = (c ≤ l.length) := propext (by omega)
    have md : modeD [11] = false := rfl
    have ld0 : ∀ k, ldK (some none) (some (prO fid g l k)) 0 0 = some (.sl fid g 0 l.length (.room 1)) := fun _ => rfl
    have ld1 : ∀ k : Nat, ldK (some none) (some (prO fid g l k)) 0 1 = some (.int .i64 (k : Nat)) := fun _ => rfl
    by_cases hcl : c ≤ l.length
    rotate_left
    · have hw := want_eq (L := [entS 117 (prR A1 plainP), entS 94 (prR A1 sgnP)]) false a1
      simp only [Bool.false_eq_true, if_false] at hw
      simp +contextual +decide (maxSteps := 1000000) only [↓ wP, wQ, tf, Nat.reduceAdd, ne_eq, hcall, d1, hcl, md, ld0, ld1, hw, f1, f2, endK_forget]
      exact prc_fail (by unfold isPS isNS; rw [hx]; simp only [hcl, if_false]; rfl) hr' hfn (Nat.le_refl n) (le_min (Nat.le_refl r) (by omega)) (by rw [Tr.get_set_same]) (fun id h1 h2 => by rw [Tr.get_set_ne _ _ h2])
    have hw := want_eq (L := [entS 117 (prR A1 plainP), entS 94 (prR A1 sgnP)]) true a1
    simp only [if_true] at hw
    have hR : isNS l at0 = isGoS l c [] a1 := by unfold isNS; rw [hx]; simp only [hcl, if_true]
    simp +contextual +decide (maxSteps := 1000000) only [↓ wP, wQ, tf, Nat.reduceAdd, ne_eq, hcall, d1, hcl, md, ld0, ld1, hw, f1, f2]
    refine Wk_loop (fun i e => ∃ t n' low o v acc at_, e = ⟨33, none, 116, t, [], ⟨n', low, o⟩, .no⟩ ∧ t.val 1 = .func (.func 94) [.ptr r 0 0] [] ∧ t.val 6 = v ∧ t.val 22 = .int .i64 (c : Nat) ∧ t.val 23 = .int .i64 (i : Nat) ∧ i ≤ c ∧ IAcc n n' o v acc ∧ acc.length = i ∧ isGoS l (c - i) acc at_ = isNS l at0 ∧ at_ ≤ l.length + 1000 ∧ n ≤ n' ∧ r ≤ low ∧ o.get r = some (prO fid g l at_) ∧ ∀ id, id < n → id ≠ r → o.get id = o0.get id) (fun i => c - i) 0
      ⟨_, n, _, _, .nils, [], a1, rfl, by simp +decide only [↓ wval, wint, wlog], by simp +decide only [↓ wval, wint, wlog], by simp +decide only [↓ wval, wint, wlog], by simp +decide only [↓ wval, wint, wlog]; rfl, Nat.zero_le _, .inl ⟨rfl, rfl⟩, rfl, hR.symm, h1', Nat.le_refl _, le_min (Nat.le_refl r) (by omega), by rw [Tr.get_set_same], fun id h1 h2 => by rw [Tr.get_set_ne _ _ h2]⟩ ?_
    rintro i _ ⟨t, n', low, o, v, acc, at_, rfl, t1, t6, t22, t23, hi, hacc, hal, hgo, hat', hn, hlow, hgr, hoth⟩
    have f3 := frI (show r < n' by omega)
    by_cases hlt : i < c
    · have d2 : ((i : Int) < (c : Nat)) = True := eq_true (by omega)
      have d5 := wrap_succ (i := i) (by omega)
      have hc2 := LIS_value (PrAt.mk' (n := n') (low := low) (by omega) (by omega) hgr (by rw [hoth fid hfn hne]; exact hgf) hne hby hll hat')
      have hgo' : isNS l at0 = match sgnN l at_ with
          | .fail j => .fail j
          | .ok v a => isGoS l (c - (i + 1)) (acc ++ [v]) a := by
        rw [← hgo, show c - i = (c - (i + 1)) + 1 by omega]; rfl
      have hvl := sgnN_le hby hat'
      cases hy : sgnN l at_ with
      | fail j =>
        rw [hy] at hgo'
        rw [prRes_fail (show sgnP l at_ = .fail j by unfold sgnP; rw [hy]; rfl)] at hc2
        simp +contextual +decide (maxSteps := 1000000) only [↓ wP, wQ, tf, Nat.reduceAdd, ne_eq, t1, t6, t22, t23, d2, hc2, endK_panic]
        exact prc_fail (by unfold isPS; rw [hgo']; rfl) hr' hfn hn (le_min (Nat.le_refl r) hlow) (by rw [Tr.get_set_same]) (fun id h1 h2 => by rw [Tr.get_set_ne _ _ h2]; exact hoth id h1 h2)
      | ok w a2 =>
        rw [hy] at hgo' hvl
        rw [prRes_ok (show sgnP l at_ = .ok (.int .i64 w) a2 by unfold sgnP; rw [hy]; rfl)] at hc2
        have hsmall : (2 * (acc.length + 1) + 1024) * 8 ≤ 281474976710656 ∧ acc.length + 1 < 4611686018427387904 := ⟨by omega, by omega⟩
        rcases hacc with ⟨hL, rfl⟩ | ⟨hL, id, g', rfl, hid, hid0, hidn⟩
        · simp +contextual +decide (maxSteps := 1000000) only [↓ wP, wQ, tf, Nat.reduceAdd, ne_eq, t1, t6, t22, t23, d2, d5, hc2, f3, frN, frM, hsmall, Nat.reduceMul, Nat.mul_one, Nat.zero_mul, Nat.zero_add]
          refine ⟨i + 1, by show _ - _ < _ - _; omega, _, n' + 1 + 1, _, _, .sl (n' + 1) 0 0 1 (.room 1), acc ++ [w], a2, rfl, by simp +decide only [↓ wval, wint, wlog, t1], by simp +decide only [↓ wval, wint, wlog], by simp +decide only [↓ wval, wint, wlog, t22], by simp +decide only [↓ wval, wint, wlog], hlt, .inr ⟨by simp, n' + 1, 0, ?_, ?_, by omega, by omega⟩, by rw [List.length_append, hal]; rfl, hgo'.symm, hvl, by omega, (by repeat' first | exact Nat.le_refl _ | exact hlow | apply le_min | omega), ?_, ?_⟩
          · rw [List.length_append, hL]; rfl
          · simp +decide only [↓ wval, f3, frN, ne_eq]
            rw [hL]; rfl
          · simp +decide only [↓ wval, f3,  frN, ne_eq]
          · intro id' h1 h2
            have f5 := frI (show id' < n' by omega)
            have f7 : id' ≠ r ∧ True := ⟨h2, trivial⟩
            simp +decide only [↓ wval, f5, f7, ne_eq]
            exact hoth id' h1 h2
        · have f4 := frI hidn
          have f6 : id ≠ r ∧ r ≠ id := ⟨by omega, by omega⟩
          have hfl : (acc.map encI).length = acc.length := List.length_map _
          simp +contextual +decide (maxSteps := 1000000) only [↓ wP, wQ, tf, Nat.reduceAdd, ne_eq, t1, t6, t22, t23, d2, d5, hc2, f3, f4, f6, hid, hfl, frN, frM, hsmall, Nat.reduceMul, Nat.mul_one, Nat.zero_mul, Nat.zero_add]
          refine ⟨i + 1, by show _ - _ < _ - _; omega, _, n' + 1, _, _, .sl id (g' + 1) 0 (acc.length + 1) (.room 1), acc ++ [w], a2, rfl, by simp +decide only [↓ wval, wint, wlog, t1], by simp +decide only [↓ wval, wint, wlog], by simp +decide only [↓ wval, wint, wlog, t22], by simp +decide only [↓ wval, wint, wlog], hlt, .inr ⟨by simp, id, g' + 1, ?_, ?_, hid0, by omega⟩, by rw [List.length_append, hal]; rfl, hgo'.symm, hvl, by omega, (by repeat' first | exact Nat.le_refl _ | exact hlow | apply le_min | omega), ?_, ?_⟩
          · rw [List.length_append]; rfl
          · simp +decide only [↓ wval, f3, f4, f6, frN, ne_eq]
            rw [List.map_append]; rfl
          · simp +decide only [↓ wval, f3, f4, f6, frN, ne_eq]
          · intro id' h1 h2
            have f5 := frI (show id' < n' by omega)
            have f7 : id' ≠ r ∧ id' ≠ id := ⟨h2, by omega⟩
            simp +decide only [↓ wval, f5, f7, ne_eq]
            exact hoth id' h1 h2
    · have : i = c := by omega
      subst this
      have d2 : (((i : Nat) : Int) < (i : Nat)) = False := eq_false (by omega)
      simp +contextual +decide (maxSteps := 1000000) only [↓ wP, wQ, tf, Nat.reduceAdd, ne_eq, t1, t6, t22, t23, d2]
      refine prc_ok (v := intsA acc) (by unfold isPS; rw [← hgo, Nat.sub_self]; rfl) hr' hfn hn hlow hgr hoth hacc.frz
def isGoP (l : List Nat) : Nat → List Int → Nat → PR (List Int)
  | 0, acc, at_ => .ok acc at_
  | k + 1, acc, at_ => match plnN l at_ with
    | .fail j => .fail j
    | .ok v a => isGoP l k (acc ++ [v]) a
def isNP (l : List Nat) (at_ : Nat) : PR (List Int) := match plainN l at_ with
  | .fail j => .fail j
  | .ok n a => if n ≤ l.length then isGoP l n [] a else .fail a
def isPP (l : List Nat) (at_ : Nat) : PR AV := (isNP l at_).map intsA
theorem isGoP_le {l : List Nat} (hb : By l) : ∀ (k : Nat) (acc : List Int) (at_ : Nat), at_ ≤ l.length + 1000 → (isGoP l k acc at_).le (l.length + 1000) ∧ ∀ x a, isGoP l k acc at_ = .ok x a → x.length = acc.length + k
  | 0, acc, at_, h => ⟨h, fun x a e => by cases e; rfl⟩
  | k + 1, acc, at_, h => by
    have h1 := plnN_le hb h
    unfold isGoP
    cases hx : plnN l at_ with
    | fail j => rw [hx] at h1; exact ⟨h1, fun x a e => by cases e⟩
    | ok v a =>
      rw [hx] at h1
      have := isGoP_le hb k (acc ++ [v]) a h1
      refine ⟨this.1, fun x b e => ?_⟩
      rw [this.2 x b e, List.length_append, List.length_singleton]; omega
theorem isNP_le {l : List Nat} (hb : By l) {at_ : Nat} (h : at_ ≤ l.length + 1000) : (isNP l at_).le (l.length + 1000) ∧ ∀ x a, isNP l at_ = .ok x a → x.length ≤ l.length := by
  have h1 := (plainN_le hb h).1
  unfold isNP
  cases hx : plainN l at_ with
  | fail j => rw [hx] at h1; exact ⟨h1, fun x a e => by cases e⟩
  | ok n a =>
    rw [hx] at h1
    simp only
    split
    · rename_i hn
      have := isGoP_le hb n [] a h1
      exact ⟨this.1, fun x b e => by rw [this.2 x b e]; simpa using hn⟩
    · exact ⟨h1, fun x a e => by cases e⟩
abbrev AIP (r : Nat) : List AV := [.ptr r 0 0, .func (.func 117) [.ptr r 0 0] []]
theorem AIP_inj : ∀ r r', AIP r = AIP r' → r = r' := fun r r' h => by simp [AIP] at h; exact h
abbrev LIP : List Ent := [entS 124 wantR, entS 117 (prR A1 plainP)]
section
variable {n low : Nat} {o : Tr AObj} {r fid g : Nat} {l : List Nat} {at_ : Nat}
theorem LIP_plain0 (h : PrAt ⟨n, low, o⟩ r fid g l at_) : orcL LIP 117 [.ptr r 0 0] ⟨n, low, o⟩ = some (prRes plainP r fid g l at_ ⟨n, low, o⟩) := (entS_ne (by decide)).trans (prR_same A1_inj h)
theorem LIP_elem (h : PrAt ⟨n, low, o⟩ r fid g l at_) : orcL LIP 117 [.ptr r 0 0] ⟨n, low, o⟩ = some (prRes plnP r fid g l at_ ⟨n, low, o⟩) := by rw [plnP_eq]; exact LIP_plain0 h
end
set_option maxHeartbeats 2000000 in
theorem readIP_ok : ∀ args s res, prR AIP isPP args s res → Sound Tryz.prog 116 args s res := by
  rintro args ⟨n, low0, o0⟩ res ⟨r, fid, g, l, at0, rfl, ⟨hr, hg, hgf, hne, hby, hll, hat⟩, rfl⟩
  have hfn : fid < n := Sto.get_lt hgf
  have hr' : r < n := hr
  rw [Sto.get_mk hr'] at hg
  rw [Sto.get_mk hfn] at hgf
  have f1 := frI hr'
  have f2 := frI hfn
  refine sound_wk (L := LIP) (elist_cons (entS_ok want_ok) (elist_cons (entS_ok plain_ok) elist_nil)) (fun _ => ([], [11])) (by kernel_rfl) Tryz.func116 Tryz.ntmps116 Tryz.results116 rfl rfl ?_
  have hcall := LIP_plain0 (PrAt.mk' (low := n) hr' hfn hg hgf hne hby hll hat)
  obtain ⟨h1, h2⟩ := plainN_le hby hat
  cases hx : plainN l at0 with
  | fail j =>
    rw [prRes_fail (show plainP l at0 = .fail j by unfold plainP; rw [hx]; rfl)] at hcall
    simp +contextual +decide (maxSteps := 1000000) only [↓ wP, wQ, tf, Nat.reduceAdd, ne_eq, hcall, endK_panic]
    exact prc_fail (by unfold isPP isNP; rw [hx]; rfl) hr' hfn (Nat.le_refl n) (le_min (Nat.le_refl r) (by omega)) (by rw [Tr.get_set_same]) (fun id h1 h2 => by rw [Tr.get_set_ne _ _ h2])
  | ok c a1 =>
    rw [hx] at h1
    have h1' : a1 ≤ l.length + 1000 := h1
    rw [prRes_ok (show plainP l at0 = .ok (.int .i64 (c : Nat)) a1 by unfold plainP; rw [hx]; rfl)] at hcall
    have d1 : (((c : Nat) : Int) ≤ (l.length : Nat)) = (c ≤ l.length) := propext (by omega)
    have md : modeD [11] = false := rfl
    have ld0 : ∀ k, ldK (some none) (some (prO fid g l k)) 0 0 = some (.sl fid g 0 l.length (.room 1)) := fun _ => rfl
    have ld1 : ∀ k : Nat, ldK (some none) (some (prO fid g l k)) 0 1 = some (.int .i64 (k : Nat)) := fun _ => rfl
    by_cases hcl : c ≤ l.length
    rotate_left
    · have hw := want_eq (L := [entS 117 (prR A1 plainP)]) false a1
      simp only [Bool.false_eq_true, if_false] at hw
      simp +contextual +decide (maxSteps := 1000000) only [↓ wP, wQ, tf, Nat.reduceAdd, ne_eq, hcall, d1, hcl, md, ld0, ld1, hw, f1, f2, endK_forget]
      exact prc_fail (by unfold isPP isNP; rw [hx]; simp only [hcl, if_false]; rfl) hr' hfn (Nat.le_refl n) (le_min (Nat.le_refl r) (by omega)) (by rw [Tr.get_set_same]) (fun id h1 h2 => by rw [Tr.get_set_ne _ _ h2])
    have hw := want_eq (L := [entS 117 (prR A1 plainP)]) true a1
    simp only [if_true] at hw
    have hR : isNP l at0 = isGoP l c [] a1 := by unfold isNP; rw [hx]; simp only [hcl, if_true]
    simp +contextual +decide (maxSteps := 1000000) only [↓ wP, wQ, tf, Nat.reduceAdd, ne_eq, hcall, d1, hcl, md, ld0, ld1, hw, f1, f2]
    refine Wk_loop (fun i e => ∃ t n' low o v acc at_, e = ⟨33, none, 116, t, [], ⟨n', low, o⟩, .no⟩ ∧ t.val 1 = .func (.func 117) [.ptr r 0 0] [] ∧ t.val 6 = v ∧ t.val 22 = .int .i64 (c : Nat) ∧ t.val 23 = .int .i64 (i : Nat) ∧ i ≤ c ∧ IAcc n n' o v acc ∧ acc.length = i ∧ isGoP l (c - i) acc at_ = isNP l at0 ∧ at_ ≤ l.length + 1000 ∧ n ≤ n' ∧ r ≤ low ∧ o.get r = some (prO fid g l at_) ∧ ∀ id, id < n → id ≠ r → o.get id = o0.get id) (fun i => c - i) 0
      ⟨_, n, _, _, .nils, [], a1, rfl, by simp +decide only [↓ wval, wint, wlog], by simp +decide only [↓ wval, wint, wlog], by simp +decide only [↓ wval, wint, wlog], by simp +decide only [↓ wval, wint, wlog]; rfl, Nat.zero_le _, .inl ⟨rfl, rfl⟩, rfl, hR.symm, h1', Nat.le_refl _, le_min (Nat.le_refl r) (by omega), by rw [Tr.get_set_same], fun id h1 h2 => by rw [Tr.get_set_ne _ _ h2]⟩ ?_
    rintro i _ ⟨t, n', low, o, v, acc, at_, rfl, t1, t6, t22, t23, hi, hacc, hal, hgo, hat', hn, hlow, hgr, hoth⟩
    have f3 := frI (show r < n' by omega)
    by_cases hlt : i < c
    · have d2 : ((i : Int) < (c : Nat)) = True := eq_true (by omega)
      have d5 := wrap_succ (i := i) (by omega)
      have hc2 := LIP_elem (PrAt.mk' (n := n') (low := low) (by omega) (by omega) hgr (by rw [hoth fid hfn hne]; exact hgf) hne hby hll hat')
      have hgo' : isNP l at0 = match plnN l at_ with
          | .fail j => .fail j
          | .ok v a => isGoP l (c - (i + 1)) (acc ++ [v]) a := by
        rw [← hgo, show c - i = (c - (i + 1)) + 1 by omega]; rfl
      have hvl := plnN_le hby hat'
      cases hy : plnN l at_ with
      | fail j =>
        rw [hy] at hgo'
        rw [prRes_fail (show plnP l at_ = .fail j by unfold plnP; rw [hy]; rfl)] at hc2
        simp +contextual +decide (maxSteps := 1000000) only [↓ wP, wQ, tf, Nat.reduceAdd, ne_eq, t1, t6, t22, t23, d2, hc2, endK_panic]
        exact prc_fail (by unfold isPP; rw [hgo']; rfl) hr' hfn hn (le_min (Nat.le_refl r) hlow) (by rw [Tr.get_set_same]) (fun id h1 h2 => by rw [Tr.get_set_ne _ _ h2]; exact hoth id h1 h2)
      | ok w a2 =>
        rw [hy] at hgo' hvl
        rw [prRes_ok (show plnP l at_ = .ok (.int .i64 w) a2 by unfold plnP; rw [hy]; rfl)] at hc2
        have hsmall : (2 * (acc.length + 1) + 1024) * 8 ≤ 281474976710656 ∧ acc.length + 1 < 4611686018427387904 := ⟨by omega, by omega⟩
        rcases hacc with ⟨hL, rfl⟩ | ⟨hL, id, g', rfl, hid, hid0, hidn⟩
        · simp +contextual +decide (maxSteps := 1000000) only [↓ wP, wQ, tf, Nat.reduceAdd, ne_eq, t1, t6, t22, t23, d2, d5, hc2, f3, frN, frM, hsmall, Nat.reduceMul, Nat.mul_one, Nat.zero_mul, Nat.zero_add]
          refine ⟨i + 1, by show _ - _ < _ - _; omega, _, n' + 1 + 1, _, _, .sl (n' + 1) 0 0 1 (.room 1), acc ++ [w], a2, rfl, by simp +decide only [↓ wval, wint, wlog, t1], by simp +decide only [↓ wval, wint, wlog], by simp +decide only [↓ wval, wint, wlog, t22], by simp +decide only [↓ wval, wint, wlog], hlt, .inr ⟨by simp, n' + 1, 0, ?_, ?_, by omega, by omega⟩, by rw [List.length_append, hal]; rfl, hgo'.symm, hvl, by omega, (by repeat' first | exact Nat.le_refl _ | exact hlow | apply le_min | omega), ?_, ?_⟩
          · rw [List.length_append, hL]; rfl
          · simp +decide only [↓ wval, f3, frN, ne_eq]
            rw [hL]; rfl
          · simp +decide only [↓ wval, f3,  frN, ne_eq]
          · intro id' h1 h2
            have f5 := frI (show id' < n' by omega)
            have f7 : id' ≠ r ∧ True := ⟨h2, trivial⟩
            simp +decide only [↓ wval, f5, f7, ne_eq]
            exact hoth id' h1 h2
        · have f4 := frI hidn
          have f6 : id ≠ r ∧ r ≠ id := ⟨by omega, by omega⟩
          have hfl : (acc.map encI).length = acc.length := List.length_map _
          simp +contextual +decide (maxSteps := 1000000) only [↓ wP, wQ, tf, Nat.reduceAdd, ne_eq, t1, t6, t22, t23, d2, d5, hc2, f3, f4, f6, hid, hfl, frN, frM, hsmall, Nat.reduceMul, Nat.mul_one, Nat.zero_mul, Nat.zero_add]
          refine ⟨i + 1, by show _ - _ < _ - _; omega, _, n' + 1, _, _, .sl id (g' + 1) 0 (acc.length + 1) (.room 1), acc ++ [w], a2, rfl, by simp +decide only [↓ wval, wint, wlog, t1], by simp +decide only [↓ wval, wint, wlog], by simp +decide only [↓ wval, wint, wlog, t22], by simp +decide only [↓ wval, wint, wlog], hlt, .inr ⟨by simp, id, g' + 1, ?_, ?_, hid0, by omega⟩, by rw [List.length_append, hal]; rfl, hgo'.symm, hvl, by omega, (by repeat' first | exact Nat.le_refl _ | exact hlow | apply le_min | omega), ?_, ?_⟩
          · rw [List.length_append]; rfl
          · simp +decide only [↓ wval, f3, f4, f6, frN, ne_eq]
            rw [List.map_append]; rfl
          · simp +decide only [↓ wval, f3, f4, f6, frN, ne_eq]
          · intro id' h1 h2
            have f5 := frI (show id' < n' by omega)
            have f7 : id' ≠ r ∧ id' ≠ id := ⟨h2, by omega⟩
            simp +decide only [↓ wval, f5, f7, ne_eq]
            exact hoth id' h1 h2
    · have : i = c := by omega
      subst this
      have d2 : (((i : Nat) : Int) < (i : Nat)) = False := eq_false (by omega)
      simp +contextual +decide (maxSteps := 1000000) only [↓ wP, wQ, tf, Nat.reduceAdd, ne_eq, t1, t6, t22, t23, d2]
      refine prc_ok (v := intsA acc) (by unfold isPP; rw [← hgo, Nat.sub_self]; rfl) hr' hfn hn hlow hgr hoth hacc.frz
def rdIR (args : List AV) (s : Sto) (res : CRes) : Prop := prR AIP isPP args s res ∨ prR AIS isPS args s res
theorem readI_ok : ∀ args s res, rdIR args s res → Sound Tryz.prog 116 args s res := fun args s res h => h.elim (readIP_ok args s res) (readIS_ok args s res)
theorem AIP_AIS (r r' : Nat) : AIP r ≠ AIS r' := by intro h; simp [AIP, AIS] at h
theorem prR_fun {A : Nat → List AV} (hA : ∀ r r', A r = A r' → r = r') {F : List Nat → Nat → PR AV} {n low : Nat} {o : Tr AObj} {r fid g : Nat} {l : List Nat} {at_ : Nat} (h : PrAt ⟨n, low, o⟩ r fid g l at_) (res : CRes) (hr : prR A F (A r) ⟨n, low, o⟩ res) : res = prRes F r fid g l at_ ⟨n, low, o⟩ := by
  obtain ⟨r', fid', g', l', at', e1, h', rfl⟩ := hr
  cases hA _ _ e1
  have h1 := h.2.1
  rw [h'.2.1] at h1
  obtain ⟨rfl, rfl, rfl⟩ := prO_inj (Option.some.inj h1)
  have h2 := h.2.2.1
  rw [h'.2.2.1] at h2
  have := encB_inj' (obg_inj (Option.some.inj h2)).2
  subst this; rfl
theorem rdI_P {L : List Ent} {n low : Nat} {o : Tr AObj} {r fid g : Nat} {l : List Nat} {at_ : Nat} (h : PrAt ⟨n, low, o⟩ r fid g l at_) : orcL (entS 116 rdIR :: L) 116 (AIP r) ⟨n, low, o⟩ = some (prRes isPP r fid g l at_ ⟨n, low, o⟩) := by
  refine entS_same (.inl ⟨r, fid, g, l, at_, rfl, h, rfl⟩) ?_
  rintro res' (h' | ⟨r', _, _, _, _, e1, _⟩)
  · exact prR_fun AIP_inj h _ h'
  · exact absurd e1 (AIP_AIS _ _)
theorem rdI_S {L : List Ent} {n low : Nat} {o : Tr AObj} {r fid g : Nat} {l : List Nat} {at_ : Nat} (h : PrAt ⟨n, low, o⟩ r fid g l at_) : orcL (entS 116 rdIR :: L) 116 (AIS r) ⟨n, low, o⟩ = some (prRes isPS r fid g l at_ ⟨n, low, o⟩) := by
  refine entS_same (.inr ⟨r, fid, g, l, at_, rfl, h, rfl⟩) ?_
  rintro res' (⟨r', _, _, _, _, e1, _⟩ | h')
  · exact absurd e1.symm (AIP_AIS _ _)
  · exact prR_fun AIS_inj h _ h'
end
end Go.Proofs.YtajngkkihadgfaaGreat
/-
  The program of images: its reader reads a world.
-/
namespace Go.Proofs.YtajngkkihadgfaaGreat
open Go.Abs Go Go.Abs.TryzF
noncomputable section
set_option maxRecDepth 10000
def obC (o : Ob) : List AV := [.int .i64 o.form, .int .i64 o.n, valsA o.vals, frsA o.frs]
theorem obC_len (l : List Ob) : ∀ x ∈ l.map obC, x.length = 4 := fun x hx => by obtain ⟨y, _, rfl⟩ := List.mem_map.1 hx; rfl
def obsA (l : List Ob) : AV := if l = [] then .nils else .fz ((l.map obC).map .agg) false
def wdA (w : Wd) : AV := .agg [obsA w.objs, intsA w.tasks, valsA w.outs, intsA w.ins, .int .i64 w.used]
theorem obsA_cell {l : List Ob} : (obsA l).isCell = true := by unfold obsA; split <;> rfl
theorem intsA_cell {l : List Int} : (intsA l).isCell = true := by unfold intsA; split <;> rfl
def OAcc (n0 n : Nat) (o : Tr AObj) (v : AV) (l : List Ob) : Prop := (l = [] ∧ v = .nils) ∨ (l ≠ [] ∧ ∃ id g, v = .sl id g 0 l.length (.room 4) ∧ o.get id = some (obg g (l.map obC).flatten) ∧ n0 ≤ id ∧ id < n)
theorem OAcc.frz {m n0 n low : Nat} {o : Tr AObj} {v : AV} {l : List Ob} (h : OAcc n0 n o v l) (hm : m ≤ n0) : Frz ⟨n, low, o⟩ m v (obsA l) := by
  rcases h with ⟨rfl, rfl⟩ | ⟨hl, id, g, rfl, hid, h1, h2⟩
  · exact .und _ und_nils
  · rw [obsA, if_neg hl]
    refine frz_slk (g := g) (k := 4) (by omega) (by rw [Sto.get_mk h2]; exact hid) (by simp) (obC_len _) fun x hx y hy => ?_
    obtain ⟨z, _, rfl⟩ := List.mem_map.1 hx
    simp only [obC, List.mem_cons, List.not_mem_nil, or_false] at hy
    rcases hy with rfl | rfl | rfl | rfl
    · exact und_int
    · exact und_int
    · exact valsA_under.und
    · exact frsA_under.und
theorem intsA_under {n : Nat} {l : List Int} : UnderE n (intsA l) := by
  unfold intsA
  split
  · exact ⟨1, rfl⟩
  · exact underE_fz (und_encI l)
def obsGo (l : List Nat) : Nat → List Ob → Nat → PR (List Ob)
  | 0, acc, at_ => .ok acc at_
  | k + 1, acc, at_ => match obN_ l at_ with
    | .fail j => .fail j
    | .ok v a => obsGo l k (acc ++ [v]) a
def wdN (l : List Nat) : PR Wd := match nextN l 2 with
  | .fail j => .fail j
  | .ok n _ => match obsGo l n [] (4 + 2 * (n + 1)) with
    | .fail j => .fail j
    | .ok os a => match isNP l a with
      | .fail j => .fail j
      | .ok ts b => match outsN l b with
        | .fail j => .fail j
        | .ok us c => match isNS l c with
          | .fail j => .fail j
          | .ok is d => match plainN l d with
            | .fail j => .fail j
            | .ok u e => .ok ⟨os, ts, us, is, (u : Nat)⟩ e
def wdP (l : List Nat) (_ : Nat) : PR AV := (wdN l).map wdA
theorem obN_le {l : List Nat} (hb : By l) {at_ : Nat} (h : at_ ≤ l.length + 1000) : (obN_ l at_).le (l.length + 1000) := by
  have h1 := nextN_ok hb h
  unfold obN_
  cases hx : nextN l at_ with
  | fail j => rw [hx] at h1; exact h1
  | ok c a =>
    rw [hx] at h1
    have h2 := sgnN_le hb h1.2
    simp only
    cases hy : sgnN l a with
    | fail j => rw [hy] at h2; exact h2
    | ok m b =>
      rw [hy] at h2
      have h3 := (valsN_le hb (show b ≤ l.length + 1000 from h2)).1
      simp only
      cases hz : valsN l b with
      | fail j => rw [hz] at h3; exact h3
      | ok v d =>
        rw [hz] at h3
        have h4 := (frsN_le hb (show d ≤ l.length + 1000 from h3)).1
        simp only
        cases hw : frsN l d with
        | fail j => rw [hw] at h4; exact h4
        | ok f e => rw [hw] at h4; exact h4
abbrev L55 : List Ent := [entS 93 (prR A1 nextP), entS 42 (prR A1 obP), entS 118 (prR A118 outsP), entS 117 (prR A1 plainP), entS 116 rdIR]
section
variable {n low : Nat} {o : Tr AObj} {r fid g : Nat} {l : List Nat} {at_ : Nat}
theorem L55_next (h : PrAt ⟨n, low, o⟩ r fid g l at_) : orcL L55 93 [.ptr r 0 0] ⟨n, low, o⟩ = some (prRes nextP r fid g l at_ ⟨n, low, o⟩) := prR_same A1_inj h
theorem L55_ob (h : PrAt ⟨n, low, o⟩ r fid g l at_) : orcL L55 42 [.ptr r 0 0] ⟨n, low, o⟩ = some (prRes obP r fid g l at_ ⟨n, low, o⟩) := (entS_ne (by decide)).trans (prR_same A1_inj h)
theorem L55_outs (h : PrAt ⟨n, low, o⟩ r fid g l at_) : orcL L55 118 [.ptr r 0 0, .func (.func 119) [.ptr r 0 0] []] ⟨n, low, o⟩ = some (prRes outsP r fid g l at_ ⟨n, low, o⟩) := (entS_ne (by decide)).trans ((entS_ne (by decide)).trans (prR_same A118_inj h))
theorem L55_plain (h : PrAt ⟨n, low, o⟩ r fid g l at_) : orcL L55 117 [.ptr r 0 0] ⟨n, low, o⟩ = some (prRes plainP r fid g l at_ ⟨n, low, o⟩) := (entS_ne (by decide)).trans ((entS_ne (by decide)).trans ((entS_ne (by decide)).trans (prR_same A1_inj h)))
theorem L55_ip (h : PrAt ⟨n, low, o⟩ r fid g l at_) : orcL L55 116 [.ptr r 0 0, .func (.func 117) [.ptr r 0 0] []] ⟨n, low, o⟩ = some (prRes isPP r fid g l at_ ⟨n, low, o⟩) := (entS_ne (by decide)).trans ((entS_ne (by decide)).trans ((entS_ne (by decide)).trans ((entS_ne (by decide)).trans (rdI_P h))))
theorem L55_is (h : PrAt ⟨n, low, o⟩ r fid g l at_) : orcL L55 116 [.ptr r 0 0, .func (.func 94) [.ptr r 0 0] []] ⟨n, low, o⟩ = some (prRes isPS r fid g l at_ ⟨n, low, o⟩) := (entS_ne (by decide)).trans ((entS_ne (by decide)).trans ((entS_ne (by decide)).trans ((entS_ne (by decide)).trans (rdI_S h))))
end
set_option maxHeartbeats 4000000 in
theorem world_ok : ∀ args s res, prR A1 wdP args s res → Sound Tryz.prog 55 args s res := by
  rintro args ⟨n, low0, o0⟩ res ⟨r, fid, g, l, at0, rfl, ⟨hr, hg, hgf, hne, hby, hll, hat⟩, rfl⟩
  have hfn : fid < n := Sto.get_lt hgf
  have hr' : r < n := hr
  rw [Sto.get_mk hr'] at hg
  rw [Sto.get_mk hfn] at hgf
  have f1 := frI hr'
  have f2 := frI hfn
  refine sound_wk (L := L55) (elist_cons (entS_ok next_ok) (elist_cons (entS_ok object_ok) (elist_cons (entS_ok readU_ok) (elist_cons (entS_ok plain_ok) (elist_cons (entS_ok readI_ok) elist_nil))))) noHint (by kernel_rfl) Tryz.func55 Tryz.ntmps55 Tryz.results55 rfl rfl ?_
  have hz : (A1 r) = [.ptr r 0 0] := rfl
  have hg0 := hg
  unfold prO at hg
  obtain ⟨o1, hO1⟩ : ∃ o1, o1 = ((o0.set n (obg 0 [AV.nils, AV.nils, AV.nils, AV.nils, AV.int .i64 0])).set (n + 1) (obg 0 [AV.nils, AV.nils, AV.nils, AV.nils, AV.int .i64 0])).set r (obg 0 [AV.sl fid g 0 l.length (.room 1), AV.int .i64 2]) := ⟨_, rfl⟩
  have p1 : o1.get r = some (prO fid g l 2) := by rw [hO1, Tr.get_set_same]; rfl
  have p2 : o1.get fid = some (obg g (l.map encB)) := by rw [hO1, Tr.get_set_ne _ _ hne, Tr.get_set_ne _ _ (by omega), Tr.get_set_ne _ _ (by omega)]; exact hgf
  have p3 : o1.get n = some (obg 0 [AV.nils, AV.nils, AV.nils, AV.nils, AV.int .i64 0]) := by rw [hO1, Tr.get_set_ne _ _ (by omega), Tr.get_set_ne _ _ (by omega), Tr.get_set_same]
  have p4 : o1.get (n + 1) = some (obg 0 [AV.nils, AV.nils, AV.nils, AV.nils, AV.int .i64 0]) := by rw [hO1, Tr.get_set_ne _ _ (by omega), Tr.get_set_same]
  have p5 : ∀ id, id < n → id ≠ r → o1.get id = o0.get id := fun id h1 h2 => by rw [hO1, Tr.get_set_ne _ _ h2, Tr.get_set_ne _ _ (by omega), Tr.get_set_ne _ _ (by omega)]
  have hc1 := fun lo => L55_next (PrAt.mk' (n := n + 1 + 1) (low := lo) (o := o1) (by omega) (by omega) p1 p2 hne hby hll (by omega))
  have hnx := nextN_ok (l := l) (at_ := 2) hby (by omega)
  cases hx : nextN l 2 with
  | fail j =>
    simp only [prRes_fail (show nextP l 2 = .fail j by unfold nextP; rw [hx]; rfl)] at hc1
    rw [hO1] at hc1
    simp +contextual +decide (maxSteps := 1000000) only [↓ wP, wQ, tf, Nat.reduceAdd, ne_eq, hg, f1, f2, frN, hc1, endK_panic]
    rw [← hO1]
    exact prc_fail (by unfold wdP wdN; rw [hx]; rfl) hr' hfn (by omega) (by repeat' first | exact Nat.le_refl _ | apply le_min | omega) (by rw [Tr.get_set_same]) (fun id h1 h2 => by rw [Tr.get_set_ne _ _ h2]; exact p5 id h1 h2)
  | ok c a =>
    rw [hx] at hnx
    simp only at hnx
    simp only [prRes_ok (show nextP l 2 = .ok (.int .i64 (c : Nat)) a by unfold nextP; rw [hx]; rfl)] at hc1
    have q1 := wrap_succ (i := c) (by omega)
    have q2 : IntKind.i64.wrap (2 * ((c + 1 : Nat) : Int)) = ((2 * (c + 1) : Nat) : Int) := by rw [IntWalk.i64_in _ (by omega)]; omega
    have q3 : IntKind.i64.wrap (4 + ((2 * (c + 1) : Nat) : Int)) = ((4 + 2 * (c + 1) : Nat) : Int) := by rw [IntWalk.i64_in _ (by omega)]; omega
    rw [hO1] at hc1
    simp +contextual +decide (maxSteps := 1000000) only [↓ wP, wQ, tf, Nat.reduceAdd, ne_eq, hg, f1, f2, frN, hc1, q1, q2, q3, prO]
    rw [← hO1]
    refine Wk_loop (fun i e => ∃ t n' low o v acc at_, e = ⟨49, none, 55, t, [], ⟨n', low, o⟩, .no⟩ ∧ t.val 0 = .ptr r 0 0 ∧ t.val 2 = .ptr n 0 0 ∧ t.val 3 = .ptr (n + 1) 0 0 ∧ t.val 18 = .int .i64 (c : Nat) ∧ t.val 19 = .int .i64 (i : Nat) ∧ i ≤ c ∧ OAcc (n + 2) n' o v acc ∧ acc.length = i ∧ obsGo l (c - i) acc at_ = obsGo l c [] (4 + 2 * (c + 1)) ∧ at_ ≤ l.length + 1000 ∧ n + 2 ≤ n' ∧ r ≤ low ∧ o.get r = some (prO fid g l at_) ∧ o.get fid = some (obg g (l.map encB)) ∧ o.get n = some (obg 0 [AV.nils, AV.nils, AV.nils, AV.nils, AV.int .i64 0]) ∧ o.get (n + 1) = some (obg 0 [v, AV.nils, AV.nils, AV.nils, AV.int .i64 0]) ∧ ∀ id, id < n → id ≠ r → o.get id = o0.get id) (fun i => c - i) 0
      ⟨_, n + 2, _, _, .nils, [], 4 + 2 * (c + 1), rfl, by simp +decide only [↓ wval, wint, wlog], by simp +decide only [↓ wval, wint, wlog], by simp +decide only [↓ wval, wint, wlog], by simp +decide only [↓ wval, wint, wlog], by simp +decide only [↓ wval, wint, wlog]; rfl, Nat.zero_le _, .inl ⟨rfl, rfl⟩, rfl, rfl, by omega, Nat.le_refl _, (by repeat' first | exact Nat.le_refl _ | apply le_min | omega), (by rw [Tr.get_set_same]; rfl), (by rw [Tr.get_set_ne _ _ hne, Tr.get_set_ne _ _ hne]; exact p2), (by rw [Tr.get_set_ne _ _ (by omega), Tr.get_set_ne _ _ (by omega)]; exact p3), (by rw [Tr.get_set_ne _ _ (by omega), Tr.get_set_ne _ _ (by omega)]; exact p4), (fun id h1 h2 => by rw [Tr.get_set_ne _ _ h2, Tr.get_set_ne _ _ h2]; exact p5 id h1 h2)⟩ ?_
    clear hc1 q1 q2 q3 p1 p2 p3 p4 p5 hO1
    rintro i _ ⟨t, n', low, o, v, acc, at_, rfl, t0, t2, t3, t18, t19, hi, hacc, hal, hgo, hat', hn', hlow, p1, p2, p3, p4, p5⟩
    have F1 := frI (show r < n' by omega)
    have F2 := frI (show n < n' by omega)
    have F3 := frI (show n + 1 < n' by omega)
    have hR : r ≠ n + 1 ∧ n + 1 ≠ r ∧ r ≠ n ∧ n ≠ r := ⟨by omega, by omega, by omega, by omega⟩
    by_cases hlt : i < c
    · have d1 : ((i : Int) < (c : Nat)) = True := eq_true (by omega)
      have d5 := wrap_succ (i := i) (by omega)
      have hc2 := L55_ob (PrAt.mk' (n := n') (low := low) (o := o) (by omega) (by omega) p1 p2 hne hby hll hat')
      have hgo' : obsGo l c [] (4 + 2 * (c + 1)) = match obN_ l at_ with
          | .fail j => .fail j
          | .ok v a => obsGo l (c - (i + 1)) (acc ++ [v]) a := by
        rw [← hgo, show c - i = (c - (i + 1)) + 1 by omega]; rfl
      have hvl := obN_le hby hat'
      cases hy : obN_ l at_ with
      | fail j =>
        rw [hy] at hgo'
        rw [prRes_fail (show obP l at_ = .fail j by unfold obP; rw [hy]; rfl)] at hc2
        simp +contextual +decide (maxSteps := 1000000) only [↓ wP, wQ, tf, Nat.reduceAdd, ne_eq, t0, t18, t19, d1, hc2, endK_panic]
        exact prc_fail (by unfold wdP wdN; rw [hx]; simp only [hgo']; rfl) hr' hfn (by omega) (le_min (Nat.le_refl r) hlow) (by rw [Tr.get_set_same]) (fun id h1 h2 => by rw [Tr.get_set_ne _ _ h2]; exact p5 id h1 h2)
      | ok x a2 =>
        rw [hy] at hgo' hvl
        rw [prRes_ok (show obP l at_ = .ok (.agg [.int .i64 x.form, .int .i64 x.n, valsA x.vals, frsA x.frs]) a2 by unfold obP; rw [hy]; rfl)] at hc2
        have hsmall : (2 * (acc.length + 1) + 1024) * 64 ≤ 281474976710656 ∧ acc.length + 1 < 4611686018427387904 := ⟨by omega, by omega⟩
        rcases hacc with ⟨hL, rfl⟩ | ⟨hL, id, g', rfl, hid, hid0, hidn⟩
        · simp +contextual +decide (maxSteps := 1000000) only [↓ wP, wQ, tf, Nat.reduceAdd, ne_eq, t0, t2, t3, t18, t19, d1, d5, hc2, F1, F2, F3, hR, p4, frN, valsA_cell, frsA_cell, hsmall, Nat.reduceMul, Nat.mul_one, Nat.zero_mul, Nat.zero_add]
          refine ⟨i + 1, by show _ - _ < _ - _; omega, _, n' + 1 + 1 + 1, _, _, .sl (n' + 1 + 1) 0 0 1 (.room 4), acc ++ [x], a2, rfl, by simp +decide only [↓ wval, wint, wlog, t0], by simp +decide only [↓ wval, wint, wlog, t2], by simp +decide only [↓ wval, wint, wlog, t3], by simp +decide only [↓ wval, wint, wlog, t18], by simp +decide only [↓ wval, wint, wlog], hlt, .inr ⟨by simp, n' + 1 + 1, 0, ?_, ?_, by omega, by omega⟩, by rw [List.length_append, hal]; rfl, hgo'.symm, hvl, by omega, (by repeat' first | exact Nat.le_refl _ | exact hlow | apply le_min | omega), ?_, ?_, ?_, ?_, ?_⟩
          · rw [List.length_append, hL]; rfl
          · simp +contextual +decide (maxSteps := 1000000) only [↓ wP, wQ, tf, Nat.reduceAdd, ne_eq, F1, F2, F3, hR, frN]
            rw [hL]; rfl
          · simp +contextual +decide (maxSteps := 1000000) only [↓ wP, wQ, tf, Nat.reduceAdd, ne_eq, F1, F2, F3, hR, frN]
          · simp +contextual +decide (maxSteps := 1000000) only [↓ wP, wQ, tf, Nat.reduceAdd, ne_eq, F1, F2, F3, hR, frN, frI (show fid < n' by omega), hne, show fid ≠ n + 1 by omega, p2]
          · simp +contextual +decide (maxSteps := 1000000) only [↓ wP, wQ, tf, Nat.reduceAdd, ne_eq, F1, F2, F3, hR, frN, p3]
          · simp +contextual +decide (maxSteps := 1000000) only [↓ wP, wQ, tf, Nat.reduceAdd, ne_eq, F1, F2, F3, hR, frN]
          · intro id' h1 h2
            have f5 := frI (show id' < n' by omega)
            have f7 : id' ≠ r ∧ id' ≠ n + 1 := ⟨h2, by omega⟩
            rw [← p5 id' h1 h2]
            simp +contextual +decide (maxSteps := 1000000) only [↓ wP, wQ, tf, Nat.reduceAdd, ne_eq, f5, f7]
        · have f4 := frI hidn
          have f6 : id ≠ r ∧ r ≠ id ∧ id ≠ n ∧ n ≠ id ∧ id ≠ n + 1 ∧ n + 1 ≠ id ∧ fid ≠ id := ⟨by omega, by omega, by omega, by omega, by omega, by omega, by omega⟩
          have hfl : (acc.map obC).flatten.length = acc.length * 4 := by rw [flatten_len _ (obC_len _), List.length_map]
          simp +contextual +decide (maxSteps := 1000000) only [↓ wP, wQ, tf, Nat.reduceAdd, ne_eq, t0, t2, t3, t18, t19, d1, d5, hc2, F1, F2, F3, f4, f6, hid, hfl, hR, p4, frN, valsA_cell, frsA_cell, hsmall, Nat.reduceMul, Nat.mul_one, Nat.zero_mul, Nat.zero_add]
          refine ⟨i + 1, by show _ - _ < _ - _; omega, _, n' + 1 + 1, _, _, .sl id (g' + 1) 0 (acc.length + 1) (.room 4), acc ++ [x], a2, rfl, by simp +decide only [↓ wval, wint, wlog, t0], by simp +decide only [↓ wval, wint, wlog, t2], by simp +decide only [↓ wval, wint, wlog, t3], by simp +decide only [↓ wval, wint, wlog, t18], by simp +decide only [↓ wval, wint, wlog], hlt, .inr ⟨by simp, id, g' + 1, ?_, ?_, by omega, by omega⟩, by rw [List.length_append, hal]; rfl, hgo'.symm, hvl, by omega, (by repeat' first | exact Nat.le_refl _ | exact hlow | apply le_min | omega), ?_, ?_, ?_, ?_, ?_⟩
          · rw [List.length_append]; rfl
          · simp +contextual +decide (maxSteps := 1000000) only [↓ wP, wQ, tf, Nat.reduceAdd, ne_eq, F1, F2, F3, hR, frN, f4, f6]
            rw [List.map_append, List.flatten_append]; rfl
          · simp +contextual +decide (maxSteps := 1000000) only [↓ wP, wQ, tf, Nat.reduceAdd, ne_eq, F1, F2, F3, hR, frN, f6]
          · simp +contextual +decide (maxSteps := 1000000) only [↓ wP, wQ, tf, Nat.reduceAdd, ne_eq, F1, F2, F3, hR, frN, f6, frI (show fid < n' by omega), hne, show fid ≠ n + 1 by omega, p2]
          · simp +contextual +decide (maxSteps := 1000000) only [↓ wP, wQ, tf, Nat.reduceAdd, ne_eq, F1, F2, F3, hR, frN, f6, p3]
          · simp +contextual +decide (maxSteps := 1000000) only [↓ wP, wQ, tf, Nat.reduceAdd, ne_eq, F1, F2, F3, hR, frN, f6]
          · intro id' h1 h2
            have f5 := frI (show id' < n' by omega)
            have f7 : id' ≠ r ∧ id' ≠ n + 1 ∧ id' ≠ id := ⟨h2, by omega, by omega⟩
            rw [← p5 id' h1 h2]
            simp +contextual +decide (maxSteps := 1000000) only [↓ wP, wQ, tf, Nat.reduceAdd, ne_eq, f5, f7]
    have hic : i = c := by omega
    subst hic
    rw [Nat.sub_self] at hgo
    have hgo1 : obsGo l i [] (4 + 2 * (i + 1)) = .ok acc at_ := by rw [← hgo]; rfl
    have d1 : (((i : Nat) : Int) < (i : Nat)) = False := eq_false (by omega)
    have hvc : v.isCell = true := by rcases hacc with ⟨_, rfl⟩ | ⟨_, _, _, rfl, _⟩ <;> rfl
    have e1 := fun lo => L55_ip (PrAt.mk' (n := n') (low := lo) (o := o) (by omega) (by omega) p1 p2 hne hby hll hat')
    have k1 := (isNP_le hby hat').1
    cases hy1 : isNP l at_ with
    | fail j =>
      simp only [prRes_fail (show isPP l at_ = .fail j by unfold isPP; rw [hy1]; rfl)] at e1
      simp +contextual +decide (maxSteps := 1000000) only [↓ wP, wQ, tf, Nat.reduceAdd, ne_eq, t0, t2, t3, t18, t19, d1, e1, endK_panic]
      exact prc_fail (by unfold wdP wdN; rw [hx]; simp only [hgo1, hy1]; rfl) hr' hfn (by omega) (by repeat' first | exact Nat.le_refl _ | exact hlow | apply le_min | omega) (by rw [Tr.get_set_same]) (fun id h1 h2 => by rw [Tr.get_set_ne _ _ h2]; exact p5 id h1 h2)
    | ok ts b1 =>
    rw [hy1] at k1
    have k1' : b1 ≤ l.length + 1000 := k1
    simp only [prRes_ok (show isPP l at_ = .ok (intsA ts) b1 by unfold isPP; rw [hy1]; rfl)] at e1
    have hfn' : fid ≠ n + 1 ∧ fid ≠ n := ⟨by omega, by omega⟩
    obtain ⟨oA, hoA⟩ : ∃ x, x = (o.set r (prO fid g l b1)).set (n + 1) (obg 0 [v, intsA ts, .nils, .nils, .int .i64 0]) := ⟨_, rfl⟩
    have pA1 : oA.get r = some (prO fid g l b1) := by rw [hoA]; simp +contextual +decide (maxSteps := 1000000) only [↓ wP, wQ, tf, Nat.reduceAdd, ne_eq, hR]
    have pA2 : oA.get fid = some (obg g (l.map encB)) := by rw [hoA]; simp +contextual +decide (maxSteps := 1000000) only [↓ wP, wQ, tf, Nat.reduceAdd, ne_eq, hR, hne, hfn', p2]
    have pA3 : oA.get (n + 1) = some (obg 0 [v, intsA ts, .nils, .nils, .int .i64 0]) := by rw [hoA]; simp +contextual +decide (maxSteps := 1000000) only [↓ wP, wQ, tf, Nat.reduceAdd, ne_eq]
    have pA4 : ∀ id, id < n → id ≠ r → oA.get id = o0.get id := fun id h1 h2 => by rw [hoA, Tr.get_set_ne _ _ (by omega), Tr.get_set_ne _ _ h2]; exact p5 id h1 h2
    have pA5 : oA.get n = some (obg 0 [AV.nils, AV.nils, AV.nils, AV.nils, AV.int .i64 0]) := by rw [hoA]; simp +contextual +decide (maxSteps := 1000000) only [↓ wP, wQ, tf, Nat.reduceAdd, ne_eq, hR, frN, p3]
    have e2 := fun lo => L55_outs (PrAt.mk' (n := n') (low := lo) (o := oA) (by omega) (by omega) pA1 pA2 hne hby hll k1')
    have k2 := (outsN_le hby k1').1
    cases hy2 : outsN l b1 with
    | fail j =>
      simp only [prRes_fail (show outsP l b1 = .fail j by unfold outsP; rw [hy2]; rfl)] at e2
      simp only [hoA] at e2
      simp +contextual +decide (maxSteps := 1000000) only [↓ wP, wQ, tf, Nat.reduceAdd, ne_eq, t0, t2, t3, t18, t19, d1, e1, e2, F1, F2, F3, hR, p4, hvc, intsA_cell, endK_panic]
      rw [← hoA]
      exact prc_fail (by unfold wdP wdN; rw [hx]; simp only [hgo1, hy1, hy2]; rfl) hr' hfn (by omega) (by repeat' first | exact Nat.le_refl _ | exact hlow | apply le_min | omega) (by rw [Tr.get_set_same]) (fun id h1 h2 => by rw [Tr.get_set_ne _ _ h2]; exact pA4 id h1 h2)
    | ok us b2 =>
    rw [hy2] at k2
    have k2' : b2 ≤ l.length + 1000 := k2
    simp only [prRes_ok (show outsP l b1 = .ok (valsA us) b2 by unfold outsP; rw [hy2]; rfl)] at e2
    obtain ⟨oB, hoB⟩ : ∃ x, x = (oA.set r (prO fid g l b2)).set (n + 1) (obg 0 [v, intsA ts, valsA us, .nils, .int .i64 0]) := ⟨_, rfl⟩
    have pB1 : oB.get r = some (prO fid g l b2) := by rw [hoB]; simp +contextual +decide (maxSteps := 1000000) only [↓ wP, wQ, tf, Nat.reduceAdd, ne_eq, hR]
    have pB2 : oB.get fid = some (obg g (l.map encB)) := by rw [hoB]; simp +contextual +decide (maxSteps := 1000000) only [↓ wP, wQ, tf, Nat.reduceAdd, ne_eq, hR, hne, hfn', pA2]
    have pB3 : oB.get (n + 1) = some (obg 0 [v, intsA ts, valsA us, .nils, .int .i64 0]) := by rw [hoB]; simp +contextual +decide (maxSteps := 1000000) only [↓ wP, wQ, tf, Nat.reduceAdd, ne_eq]
    have pB4 : ∀ id, id < n → id ≠ r → oB.get id = o0.get id := fun id h1 h2 => by rw [hoB, Tr.get_set_ne _ _ (by omega), Tr.get_set_ne _ _ h2]; exact pA4 id h1 h2
    have pB5 : oB.get n = some (obg 0 [AV.nils, AV.nils, AV.nils, AV.nils, AV.int .i64 0]) := by rw [hoB]; simp +contextual +decide (maxSteps := 1000000) only [↓ wP, wQ, tf, Nat.reduceAdd, ne_eq, hR, frN, pA5]
    have e3 := fun lo => L55_is (PrAt.mk' (n := n') (low := lo) (o := oB) (by omega) (by omega) pB1 pB2 hne hby hll k2')
    have k3 := (isNS_le hby k2').1
    simp only [hoA] at e2
    cases hy3 : isNS l b2 with
    | fail j =>
      simp only [prRes_fail (show isPS l b2 = .fail j by unfold isPS; rw [hy3]; rfl)] at e3
      simp only [hoB, hoA] at e3
      simp +contextual +decide (maxSteps := 1000000) only [↓ wP, wQ, tf, Nat.reduceAdd, ne_eq, t0, t2, t3, t18, t19, d1, e1, e2, e3, F1, F2, F3, hR, p4, hvc, intsA_cell, valsA_cell, endK_panic]
      rw [← hoA, ← hoB]
      exact prc_fail (by unfold wdP wdN; rw [hx]; simp only [hgo1, hy1, hy2, hy3]; rfl) hr' hfn (by omega) (by repeat' first | exact Nat.le_refl _ | exact hlow | apply le_min | omega) (by rw [Tr.get_set_same]) (fun id h1 h2 => by rw [Tr.get_set_ne _ _ h2]; exact pB4 id h1 h2)
    | ok is b3 =>
    rw [hy3] at k3
    have k3' : b3 ≤ l.length + 1000 := k3
    simp only [prRes_ok (show isPS l b2 = .ok (intsA is) b3 by unfold isPS; rw [hy3]; rfl)] at e3
    obtain ⟨oC, hoC⟩ : ∃ x, x = (oB.set r (prO fid g l b3)).set (n + 1) (obg 0 [v, intsA ts, valsA us, intsA is, .int .i64 0]) := ⟨_, rfl⟩
    have pC1 : oC.get r = some (prO fid g l b3) := by rw [hoC]; simp +contextual +decide (maxSteps := 1000000) only [↓ wP, wQ, tf, Nat.reduceAdd, ne_eq, hR]
    have pC2 : oC.get fid = some (obg g (l.map encB)) := by rw [hoC]; simp +contextual +decide (maxSteps := 1000000) only [↓ wP, wQ, tf, Nat.reduceAdd, ne_eq, hR, hne, hfn', pB2]
    have pC3 : oC.get (n + 1) = some (obg 0 [v, intsA ts, valsA us, intsA is, .int .i64 0]) := by rw [hoC]; simp +contextual +decide (maxSteps := 1000000) only [↓ wP, wQ, tf, Nat.reduceAdd, ne_eq]
    have pC4 : ∀ id, id < n → id ≠ r → oC.get id = o0.get id := fun id h1 h2 => by rw [hoC, Tr.get_set_ne _ _ (by omega), Tr.get_set_ne _ _ h2]; exact pB4 id h1 h2
    have pC5 : oC.get n = some (obg 0 [AV.nils, AV.nils, AV.nils, AV.nils, AV.int .i64 0]) := by rw [hoC]; simp +contextual +decide (maxSteps := 1000000) only [↓ wP, wQ, tf, Nat.reduceAdd, ne_eq, hR, frN, pB5]
    have hacC : OAcc (n + 2) n' oC v acc := by
      rcases hacc with h | ⟨hL, id, g', rfl, hid, hid0, hidn⟩
      · exact .inl h
      · exact .inr ⟨hL, id, g', rfl, by rw [hoC, hoB, hoA, Tr.get_set_ne _ _ (by omega), Tr.get_set_ne _ _ (by omega), Tr.get_set_ne _ _ (by omega), Tr.get_set_ne _ _ (by omega), Tr.get_set_ne _ _ (by omega), Tr.get_set_ne _ _ (by omega)]; exact hid, hid0, hidn⟩
    have e4 := fun lo => L55_plain (PrAt.mk' (n := n') (low := lo) (o := oC) (by omega) (by omega) pC1 pC2 hne hby hll k3')
    simp only [hoB, hoA] at e3
    cases hy4 : plainN l b3 with
    | fail j =>
      simp only [prRes_fail (show plainP l b3 = .fail j by unfold plainP; rw [hy4]; rfl)] at e4
      simp only [hoC, hoB, hoA] at e4
      simp +contextual +decide (maxSteps := 1000000) only [↓ wP, wQ, tf, Nat.reduceAdd, ne_eq, t0, t2, t3, t18, t19, d1, e1, e2, e3, e4, F1, F2, F3, hR, p4, hvc, intsA_cell, valsA_cell, endK_panic]
      rw [← hoA, ← hoB, ← hoC]
      exact prc_fail (by unfold wdP wdN; rw [hx]; simp only [hgo1, hy1, hy2, hy3, hy4]; rfl) hr' hfn (by omega) (by repeat' first | exact Nat.le_refl _ | exact hlow | apply le_min | omega) (by rw [Tr.get_set_same]) (fun id h1 h2 => by rw [Tr.get_set_ne _ _ h2]; exact pC4 id h1 h2)
    | ok u b4 =>
      simp only [prRes_ok (show plainP l b3 = .ok (.int .i64 (u : Nat)) b4 by unfold plainP; rw [hy4]; rfl)] at e4
      simp only [hoC, hoB, hoA] at e4
      simp only [hoC, hoB, hoA] at pC5
      have pC5' := pC5
      simp +contextual +decide (maxSteps := 1000000) only [↓ wP, wQ, tf, Nat.reduceAdd, ne_eq, t0, t2, t3, t18, t19, d1, e1, e2, e3, e4, F1, F2, F3, hR, p4, p3, hvc, intsA_cell, valsA_cell, frN, dresults_cell, Option.bind_some]
      rw [← hoA, ← hoB, ← hoC]
      have hacD : OAcc (n + 2) n' (((oC.set r (prO fid g l b4)).set (n + 1) (obg 0 [v, intsA ts, valsA us, intsA is, .int .i64 (u : Nat)])).set n (obg 0 [v, intsA ts, valsA us, intsA is, .int .i64 (u : Nat)])) v acc := by
        rcases hacC with h | ⟨hL, id, g', rfl, hid, hid0, hidn⟩
        · exact .inl h
        · exact .inr ⟨hL, id, g', rfl, by rw [Tr.get_set_ne _ _ (by omega), Tr.get_set_ne _ _ (by omega), Tr.get_set_ne _ _ (by omega)]; exact hid, hid0, hidn⟩
      exact prc_ok (v := wdA ⟨acc, ts, us, is, (u : Nat)⟩) (by unfold wdP wdN; rw [hx]; simp only [hgo1, hy1, hy2, hy3, hy4]; rfl) hr' hfn (by omega) (by repeat' first | exact Nat.le_refl _ | exact hlow | apply le_min | omega) (by rw [Tr.get_set_ne _ _ (by omega), Tr.get_set_ne _ _ (by omega), Tr.get_set_same])
        (fun id h1 h2 => by rw [Tr.get_set_ne _ _ (by omega), Tr.get_set_ne _ _ (by omega), Tr.get_set_ne _ _ h2]; exact pC4 id h1 h2)
        (.agg _ _ rfl (frz_all_cons (hacD.frz (by omega)) (frz_all_cons (.und _ intsA_under.und) (frz_all_cons (.und _ valsA_under.und) (frz_all_cons (.und _ intsA_under.und) (frz_all_cons (.und _ und_int) frz_all_nil))))))
end
end Go.Proofs.YtajngkkihadgfaaGreat
/-
  The layer of images: the pages that are not right.
-/
namespace Go.Proofs.YtajngkkihadgfaaGreat
open Go.Abs Go Go.Abs.TryzF
noncomputable section
set_option maxRecDepth 10000
def Acc (u : Sto) (c : Nat) (k : Nat) (l : List AV) : Prop := ∃ v, u.get c = some (obg 0 [v]) ∧ (l = [] ∧ v = .nils ∨ l ≠ [] ∧ ∃ id g, v = .sl id g 0 l.length (.room 1) ∧ u.get id = some (obg g l) ∧ k < id)
theorem Acc.sim {l' : Nat} {u u' : Sto} {c k : Nat} {l : List AV} (h : SimX l' u u') (hc : c ≠ l') (hk : l' ≤ k) (ha : Acc u c k l) : Acc u' c k l := by
  obtain ⟨v, h1, h2⟩ := ha
  refine ⟨v, h.get h1 hc, ?_⟩
  rcases h2 with h2 | ⟨h0, id, g, rfl, h3, h4⟩
  · exact .inl h2
  · exact .inr ⟨h0, id, g, rfl, h.get h3 (by omega), h4⟩
theorem Acc.new {u : Sto} {c k id g m : Nat} {l : List AV} (h1 : u.get c = some (obg 0 [.sl id g 0 m (.room 1)])) (h2 : u.get id = some (obg g l)) (hm : m = l.length) (hl : l ≠ []) (hk : k < id) : Acc u c k l :=
  ⟨_, h1, .inr ⟨hl, id, g, by rw [hm], h2, hk⟩⟩
theorem Acc.nil {u : Sto} {c k : Nat} (h1 : u.get c = some (obg 0 [.nils])) : Acc u c k [] := ⟨_, h1, .inl ⟨rfl, rfl⟩⟩
end
end Go.Proofs.YtajngkkihadgfaaGreat
/-
  The program of images: the world of an image.
-/
namespace Go.Proofs.YtajngkkihadgfaaGreat
open Go.Abs Go Go.Abs.TryzF
noncomputable section
set_option maxRecDepth 10000
def flowTo (s : List Nat) (i : Nat) : List Nat := (List.range i).flatMap fun j => (pageOf s j).take 28
def flowB (s : List Nat) : List Nat := flowTo s (counted s)
def allRight (s : List Nat) : Bool := (List.range (counted s)).all fun i => right i (pageOf s i)
def loadPO (s : List Nat) : Option Wd := if allRight s = true then (match wdN (flowB s) with
  | .ok w _ => if saveO w = (s, 0) then some w else none
  | .fail _ => none) else none
def LoadPV (s : List Nat) : AV := if counted s = 0 then .tuple [wdA noWd, .int .i64 2] else match loadPO s with
  | some w => .tuple [wdA w, .int .i64 0]
  | none => .tuple [wdA noWd, .int .i64 4]
theorem wdA_under {n : Nat} {w : Wd} : UnderE n (wdA w) := underE_agg fun x hx => by
  simp only [List.mem_cons, List.not_mem_nil, or_false] at hx
  rcases hx with rfl | rfl | rfl | rfl | rfl
  · unfold obsA
    split
    · exact ⟨1, rfl⟩
    · refine underE_fz fun x hx => ?_
      rw [List.map_map] at hx
      obtain ⟨y, _, rfl⟩ := List.mem_map.1 hx
      exact obA_under (o := y)
  · exact intsA_under
  · exact valsA_under
  · exact intsA_under
  · exact ⟨1, rfl⟩
theorem flowTo_succ (s : List Nat) (i : Nat) : flowTo s (i + 1) = flowTo s i ++ (pageOf s i).take 28 := by rw [flowTo, flowTo, List.range_succ, List.flatMap_append]; simp
theorem flowTo_len {s : List Nat} {i : Nat} (h : i ≤ counted s) : (flowTo s i).length = 28 * i := by
  induction i with
  | zero => rfl
  | succ i ih => rw [flowTo_succ, List.length_append, ih (by omega), List.length_take, pageOf_len (by omega)]; omega
theorem flowTo_by {s : List Nat} (hb : By s) (i : Nat) : By (flowTo s i) := fun b h => by
  obtain ⟨j, _, hj⟩ := List.mem_flatMap.1 h
  exact pageOf_lt hb j b (List.mem_of_mem_take hj)
theorem noWd_A : wdA noWd = .agg [.nils, .nils, .nils, .nils, .int .i64 0] := rfl
theorem obN_decA {s : List Nat} (hb : By s) (hl : s.length < 1099511627776) {at_ : Nat} (hat : at_ ≤ s.length + 1000) {ob : Ob} {k : Nat} (h : obN_ s at_ = .ok ob k) : decOb (obA ob) = some ob := by
  have h1 := nextN_ok hb hat
  unfold obN_ at h
  cases hx : nextN s at_ with
  | fail j => rw [hx] at h; cases h
  | ok c a1 =>
    rw [hx] at h h1
    simp only at h
    have h1' : a1 ≤ s.length + 1000 := h1.2
    have h2 := sgnN_le hb h1'
    cases hy : sgnN s a1 with
    | fail j => rw [hy] at h; cases h
    | ok m a2 =>
      rw [hy] at h h2
      simp only at h
      have h2' : a2 ≤ s.length + 1000 := h2
      have h3 := valsN_le hb h2'
      cases hz : valsN s a2 with
      | fail j => rw [hz] at h; cases h
      | ok v a3 =>
        rw [hz] at h h3
        simp only at h
        have h3' : a3 ≤ s.length + 1000 := h3.1
        have h4 := frsN_le hb h3'
        have h5 := frsN_all hb h3'
        cases hw : frsN s a3 with
        | fail j => rw [hw] at h; cases h
        | ok f a4 =>
          rw [hw] at h h4 h5
          cases h
          have h6 := h3.2 _ _ rfl
          have h7 := h4.2 _ _ rfl
          show (match decVals (valsA v), decFrs (frsA f) with
            | some v, some f => some (Ob.mk (c : Nat) m v f)
            | _, _ => none) = _
          rw [valsA_dec (by omega), frsA_decB (fun g hg => by have := h5 _ _ rfl g hg; omega) (by omega)]
theorem obsGo_le {l : List Nat} (hb : By l) (hl : l.length < 1099511627776) : ∀ (k : Nat) (acc : List Ob) (at_ : Nat), at_ ≤ l.length + 1000 → (∀ o ∈ acc, decOb (obA o) = some o) → (obsGo l k acc at_).le (l.length + 1000) ∧ ∀ x a, obsGo l k acc at_ = .ok x a → x.length = acc.length + k ∧ ∀ o ∈ x, decOb (obA o) = some o
  | 0, acc, at_, h, ha => ⟨h, fun x a e => by cases e; exact ⟨rfl, ha⟩⟩
  | k + 1, acc, at_, h, ha => by
    have h1 := obN_le hb h
    unfold obsGo
    cases hx : obN_ l at_ with
    | fail j => rw [hx] at h1; exact ⟨h1, fun x a e => by cases e⟩
    | ok v a =>
      rw [hx] at h1
      have hd := obN_decA hb hl h hx
      have := obsGo_le hb hl k (acc ++ [v]) a h1 (fun o ho => by
        rcases List.mem_append.1 ho with ho | ho
        · exact ha o ho
        · rw [List.mem_singleton] at ho; subst ho; exact hd)
      refine ⟨this.1, fun x b e => ⟨?_, (this.2 x b e).2⟩⟩
      rw [(this.2 x b e).1, List.length_append, List.length_singleton]; omega
theorem intsA_dec {l : List Int} (h : l.length ≤ 9223372036854775807) : decInts (intsA l) = some l := by
  refine decInts_of ⟨?_, by simpa using h⟩
  unfold intsA
  by_cases h0 : l = []
  · subst h0; exact .inl ⟨by simp, rfl⟩
  · rw [if_neg h0]; exact .inr ⟨false, rfl⟩
theorem obsA_dec {l : List Ob} (h : ∀ o ∈ l, decOb (obA o) = some o) (hl : l.length ≤ 9223372036854775807) : decObs (obsA l) = some l := by
  unfold obsA
  by_cases h0 : l = []
  · subst h0; rfl
  · rw [if_neg h0]
    show (if _ then _ else _) = _
    rw [if_pos (by simpa using hl), List.map_map]
    exact decL_map' (g := fun o => .agg (obC o)) l fun o ho => h o ho
theorem wdA_dec {w : Wd} (h1 : ∀ o ∈ w.objs, decOb (obA o) = some o) (h2 : w.objs.length ≤ 9223372036854775807) (h3 : w.tasks.length ≤ 9223372036854775807) (h4 : w.outs.length ≤ 9223372036854775807) (h5 : w.ins.length ≤ 9223372036854775807) : decWd (wdA w) = some w := by
  show (match decObs (obsA w.objs), decInts (intsA w.tasks), decVals (valsA w.outs), decInts (intsA w.ins) with
    | some a, some b, some c, some d => some (Wd.mk a b c d w.used)
    | _, _, _, _ => none) = _
  rw [obsA_dec h1 h2, intsA_dec h3, valsA_dec h4, intsA_dec h5]
theorem wdN_dec {l : List Nat} (hb : By l) (hl : l.length < 1099511627776) {w : Wd} {k : Nat} (h : wdN l = .ok w k) : decWd (wdA w) = some w := by
  have h1 := nextN_ok (l := l) (at_ := 2) hb (by omega)
  unfold wdN at h
  cases hx : nextN l 2 with
  | fail j => rw [hx] at h; cases h
  | ok c a1 =>
    rw [hx] at h h1
    simp only at h h1
    have h2 := obsGo_le hb hl c [] (4 + 2 * (c + 1)) (by omega) (fun o ho => nomatch ho)
    cases hy : obsGo l c [] (4 + 2 * (c + 1)) with
    | fail j => rw [hy] at h; cases h
    | ok os a2 =>
      rw [hy] at h h2
      simp only at h
      have h2' : a2 ≤ l.length + 1000 := h2.1
      have h2'' := h2.2 _ _ rfl
      have h3 := isNP_le hb h2'
      cases hz : isNP l a2 with
      | fail j => rw [hz] at h; cases h
      | ok ts a3 =>
        rw [hz] at h h3
        simp only at h
        have h3' : a3 ≤ l.length + 1000 := h3.1
        have h3'' := h3.2 _ _ rfl
        have h4 := outsN_le hb h3'
        cases hw : outsN l a3 with
        | fail j => rw [hw] at h; cases h
        | ok us a4 =>
          rw [hw] at h h4
          simp only at h
          have h4' : a4 ≤ l.length + 1000 := h4.1
          have h4'' := h4.2 _ _ rfl
          have h5 := isNS_le hb h4'
          cases hv : isNS l a4 with
          | fail j => rw [hv] at h; cases h
          | ok is a5 =>
            rw [hv] at h h5
            simp only at h
            have h5'' := h5.2 _ _ rfl
            cases hu : plainN l a5 with
            | fail j => rw [hu] at h; cases h
            | ok u a6 =>
              rw [hu] at h
              cases h
              have := h2''.1
              rw [List.length_nil] at this
              exact wdA_dec h2''.2 (by show os.length ≤ _; omega) (by show ts.length ≤ _; omega) (by show us.length ≤ _; omega) (by show is.length ≤ _; omega)
abbrev entRt : Ent := entF 53 pgArgs fun x => .bool (right x.1.2 x.1.1)
theorem entRt_ok : ESound Tryz.prog entRt := entF_ok fun x => right_ok x.1.1 x.1.2 x.2.1 x.2.2.1 x.2.2.2
theorem entRt_same {L : List Ent} (p : List Nat) (n : Nat) (σ : Sto) (h1 : p.length = 32) (h2 : By p) (h3 : n < 4611686018427387904) : orcL (entRt :: L) 53 [.agg (p.map encB), .int .i64 (n : Nat)] σ = some (.ret (.bool (right n p)) none) :=
  entF_same (A := pgArgs) (V := fun x => .bool (right x.1.2 x.1.1)) (pg_inj (V := fun n p => .bool (right n p))) ⟨(p, n), h1, h2, h3⟩
abbrev L17 (s : List Nat) : List Ent := [ent1 51 [.str s] (.int .i64 (counted s : Nat)), ent1 52 [.str s] (pagesF s), entRt, entS 55 (prR A1 wdP), ent 15 SaveV]
theorem L17_cnt (s : List Nat) (σ : Sto) : orcL (L17 s) 51 [.str s] σ = some (.ret (.int .i64 (counted s : Nat)) none) := ent1_same
theorem L17_pages (s : List Nat) (σ : Sto) : orcL (L17 s) 52 [.str s] σ = some (.ret (pagesF s) none) := (ent1_ne (by decide)).trans ent1_same
theorem L17_right (s p : List Nat) (n : Nat) (σ : Sto) (h1 : p.length = 32) (h2 : By p) (h3 : n < 4611686018427387904) : orcL (L17 s) 53 [.agg (p.map encB), .int .i64 (n : Nat)] σ = some (.ret (.bool (right n p)) none) := (ent1_ne (by decide)).trans ((ent1_ne (by decide)).trans (entRt_same p n σ h1 h2 h3))
theorem L17_world (s : List Nat) {n low : Nat} {o : Tr AObj} {r fid g : Nat} {l : List Nat} {at_ : Nat} (h : PrAt ⟨n, low, o⟩ r fid g l at_) : orcL (L17 s) 55 [.ptr r 0 0] ⟨n, low, o⟩ = some (prRes wdP r fid g l at_ ⟨n, low, o⟩) := (ent1_ne (by decide)).trans ((ent1_ne (by decide)).trans ((entF_ne (by decide)).trans (prR_same A1_inj h)))
theorem L17_save (s : List Nat) {a : AV} {w : Wd} (h : decWd a = some w) (σ : Sto) : orcL (L17 s) 15 [a] σ = some (.ret (saveA w) none) := (ent1_ne (by decide)).trans ((ent1_ne (by decide)).trans ((entF_ne (by decide)).trans ((entS_ne (by decide)).trans (ent_same.trans (congrArg (Option.map _) (SaveV_eq h))))))
theorem L17_none (s : List Nat) {f : FuncId} (h1 : f ≠ 51) (h2 : f ≠ 52) (h3 : f ≠ 53) (h4 : f ≠ 55) (h5 : f ≠ 15) (a : List AV) (σ : Sto) : orcL (L17 s) f a σ = none :=
  (ent1_ne (Ne.symm h1)).trans ((ent1_ne (Ne.symm h2)).trans ((entF_ne (Ne.symm h3)).trans ((entS_ne (Ne.symm h4)).trans ((ent_ne (Ne.symm h5)).trans rfl))))
def wdC (w : Wd) : List AV := [obsA w.objs, intsA w.tasks, valsA w.outs, intsA w.ins, .int .i64 w.used]
theorem load1_run (s0 : List Nat) (l : List Nat) (hb : By l) (hl : l.length < 1099511627776) (n : Nat) (o : Tr AObj) (c w fid g : Nat) (hc : o.get c = some (obg 0 [.sl fid g 0 l.length (.room 1)])) (hf : o.get fid = some (obg g (l.map encB))) (hw : o.get w = some (obg 0 [.nils, .nils, .nils, .nils, .int .i64 0])) (hcn : c < n) (hfn : fid < n) (hwn : w < n) (K : CRes → Prop)
    (hK : ∀ x k, wdN l = .ok x k → ∀ n' low' o', n ≤ n' → low' ≤ w → o'.get w = some (obg 0 (wdC x)) → (∀ id, id < n → id ≠ w → o'.get id = o.get id) → K (.ret (.tuple []) (some ⟨n', low', o'⟩)))
    (hF : ∀ k, wdN l = .fail k → K (.pan (wrongV k) none)) (lo : Nat) : Wcall Tryz.prog (orcL (L17 s0)) (.func (.func 54) [] [.ptr c 0 0, .ptr w 0 0]) [] ⟨n, lo, o⟩ K := by
  refine Wcall_run (first := []) (cap := [.ptr c 0 0, .ptr w 0 0]) (args := []) (L17_none s0 (by decide) (by decide) (by decide) (by decide) (by decide) _ _) (by kernel_rfl) Tryz.func54 rfl ?_
  refine Wk.sound (H := noHint) ?_
  show Wk _ _ _ _ ⟨6, none, 54, Tr.leaf.lay 0 [.ptr c 0 0, .ptr w 0 0], [], ⟨n, n, o⟩, .no⟩ _
  have f1 := frI hcn
  have f2 := frI hwn
  have hp : PrAt ⟨n + 1, n, o.set n (prO fid g l 0)⟩ n fid g l 0 := PrAt.mk' (by omega) (by omega) (Tr.get_set_same _ _ _) (by rw [Tr.get_set_ne _ _ (by omega)]; exact hf) (by omega) hb hl (by omega)
  have hcl : orcL (L17 s0) 55 [.ptr n 0 0] ⟨n + 1, n, o.set n (obg 0 [.sl fid g 0 l.length (.room 1), .int .i64 0])⟩ = some (prRes wdP n fid g l 0 ⟨n + 1, n, o.set n (obg 0 [.sl fid g 0 l.length (.room 1), .int .i64 0])⟩) := L17_world s0 hp
  cases hx : wdN l with
  | fail j =>
    rw [prRes_fail (show wdP l 0 = .fail j by unfold wdP; rw [hx]; rfl)] at hcl
    simp +contextual +decide (maxSteps := 1000000) only [↓ wP, wQ, tf, Nat.reduceAdd, ne_eq, hc, f1, f2, frN, hcl]
    refine Lv_pan rfl ?_
    show K (.pan (wrongV j) (dclose ⟨n, lo, o⟩ (wrongV j) _))
    rw [dclose_none (by show n ≤ Nat.min _ _; exact le_min (Nat.le_refl n) (Nat.le_refl n)) rfl rfl]
    exact hF j hx
  | ok x k =>
    rw [prRes_ok (show wdP l 0 = .ok (.agg [obsA x.objs, intsA x.tasks, valsA x.outs, intsA x.ins, .int .i64 x.used]) k by unfold wdP; rw [hx]; rfl)] at hcl
    simp +contextual +decide (maxSteps := 1000000) only [↓ wP, wQ, tf, Nat.reduceAdd, ne_eq, hc, hw, f1, f2, frN, hcl, obsA_cell, intsA_cell, valsA_cell]
    refine Lv_ret rfl (vs := []) rfl ?_
    show K (.ret (.tuple []) (dclose ⟨n, lo, o⟩ (.tuple []) _))
    rw [dclose_some (Nat.lt_of_le_of_lt (Nat.min_le_left w _) hwn)]
    refine hK x k hx (n + 1) _ _ (by omega) (Nat.le_trans (Nat.min_le_right _ _) (Nat.min_le_left w _)) ?_ ?_
    · show (Tr.set _ w _).get w = _
      rw [Tr.get_set_same]; rfl
    · intro id h1 h2
      show (((_ : Tr AObj).set w _).get id) = _
      rw [Tr.get_set_ne _ _ h2, Tr.get_set_ne _ _ (by omega), Tr.get_set_ne _ _ (by omega)]
end
end Go.Proofs.YtajngkkihadgfaaGreat
/-
  The program of images: Load.
-/
namespace Go.Proofs.YtajngkkihadgfaaGreat
open Go.Abs Go Go.Abs.TryzF
noncomputable section
set_option maxRecDepth 10000
theorem counted_le' (s : List Nat) : counted s ≤ 256 := by unfold counted; split <;> omega
theorem allRight_pre {s : List Nat} {i : Nat} (h : i < counted s) (h' : right i (pageOf s i) = false) : allRight s = false := by
  unfold allRight
  rw [List.all_eq_false]
  exact ⟨i, List.mem_range.2 h, by rw [h']; simp⟩
set_option maxHeartbeats 4000000 in
theorem Load_ok (s : List Nat) (hs : s.length < 9223372036854775808) (hb : By s) : Abs.Returns Tryz.prog 17 [.str s] (LoadPV s) := by
  refine returns_lv (L := L17 s) (elist_cons (ent1_ok (counted_ok s hs)) (elist_cons (ent1_ok (pages_ok s)) (elist_cons entRt_ok (elist_cons (entS_ok world_ok) (elist_cons Save_ok.ent elist_nil))))) noHint (by kernel_rfl) Tryz.func17 Tryz.ntmps17 Tryz.results17 rfl rfl (und_all_cons und_str und_all_nil) ?_
  have hcnt := L17_cnt s
  have hpg := L17_pages s
  have hd : ((counted s : Nat) : Int) = 0 ↔ counted s = 0 := by omega
  have hc256 := counted_le' s
  by_cases h0 : counted s = 0
  · have e0 : LoadPV s = .tuple [.agg [.nils, .nils, .nils, .nils, .int .i64 0], .int .i64 2] := by unfold LoadPV; rw [if_pos h0]; rfl
    rw [e0]
    simp +contextual +decide (maxSteps := 1000000) only [↓ wP, wQ, tf, Nat.reduceAdd, ne_eq, hcnt, hd, h0, dresults_cell, Option.bind_some]
    rw [← noWd_A]
    exact .und _ (und_tuple (und_all_cons wdA_under.und (und_all_cons und_int und_all_nil)))
  simp +contextual +decide (maxSteps := 1000000) only [↓ wP, wQ, tf, Nat.reduceAdd, ne_eq, hcnt, hd, h0, hpg, isCell_str]
  refine W_range (xs := rows s) (fun i u => Acc u 2 4 ((flowTo s i).map encB) ∧ u.get 0 = some (obg 0 [.nils, .nils, .nils, .nils, .int .i64 0]) ∧ u.get 1 = some (obg 0 [.int .i64 0]) ∧ ∀ j, j < i → right j (pageOf s j) = true)
    (fun c u => c = .ret ∧ u.get 0 = some (obg 0 [.nils, .nils, .nils, .nils, .int .i64 0]) ∧ u.get 1 = some (obg 0 [.int .i64 4]) ∧ allRight s = false) (fun _ _ => False) ?_
    (fun i u u' h ⟨h1, h2, h3, h4⟩ => ⟨Acc.sim h (by decide) (by decide) h1, h.get h2 (by decide), h.get h3 (by decide), h4⟩) (fun c u u' h ⟨h1, h2, h3, h4⟩ => ⟨h1, h.get h2 (by decide), h.get h3 (by decide), h4⟩) (fun _ _ _ _ h => h) (fun c u h => .inl h.1) ⟨⟨.nils, rfl, .inl ⟨rfl, rfl⟩⟩, rfl, rfl, fun j hj => by omega⟩ ?_ ?_ ?_ (fun id u h1 h2 h3 => by cases h3.1) (fun _ _ h => h.elim)
  · simp +decide only [↓ wval]
    exact pages_iter s hs hcnt (L17_none s (by decide) (by decide) (by decide) (by decide) (by decide))
  · rintro i x hx ⟨n, low, o⟩ hn hg1 hg2 ⟨⟨v, hv, hacc⟩, hr0, hr1, hpre⟩
    have hi : i < counted s := by
      have := (List.getElem?_eq_some_iff.1 hx).1
      simpa [rows] using this
    have hx' : x = [.int .i64 (i : Nat), .agg ((pageOf s i).map encB)] := by
      simp [rows, hi] at hx; exact hx.symm
    subst hx'
    have hp := pageOf_len hi
    have hn' : 4 < n := hn
    have f0 := frI (i := 0) (n := n) (by omega)
    have f1 := frI (i := 1) (n := n) (by omega)
    have f2 := frI (i := 2) (n := n) (by omega)
    have f3 := frI (i := 3) (n := n) (by omega)
    have f4 := frI (i := 4) (n := n) (by omega)
    simp +decide only [Sto.get_mk, f0, f1, f2, f3, f4, wcell, Nat.reduceAdd] at hg1 hg2 hv hr0 hr1
    have hrt := fun σ => L17_right s (pageOf s i) i σ hp (pageOf_lt hb i) (by omega)
    have hml : ((pageOf s i).map encB).length = 32 := by rw [List.length_map, hp]
    have hz : 0 + 32 ≤ ((pageOf s i).map encB).length := by omega
    have hls : lslice ((pageOf s i).map encB) 0 32 = (pageOf s i).map encB := lslice_all (by omega)
    have hz28 : 0 + 28 ≤ ((pageOf s i).map encB).length := by omega
    have hls28 : lslice ((pageOf s i).map encB) 0 28 = ((pageOf s i).take 28).map encB := by rw [lslice_map]; rfl
    have hls28' : lslice (pageOf s i) 0 28 = (pageOf s i).take 28 := rfl
    have hcel : ((pageOf s i).map encB).all AV.isCell = true := encB_all _
    have hcel28 : (((pageOf s i).take 28).map encB).all AV.isCell = true := encB_all _
    have hl28 : (((pageOf s i).take 28).map encB).length = 28 := by rw [List.length_map, List.length_take, hp]; rfl
    have hfl := flowTo_len (s := s) (i := i) (by omega)
    have hfs := flowTo_succ s i
    refine ⟨_, rfl, ?_⟩
    cases hr : right i (pageOf s i) with
    | false =>
      rw [hr] at hrt
      simp +contextual +decide (maxSteps := 1000000) only [↓ wP, wQ, tf, Nat.reduceAdd, ne_eq, hrt, hml, hz, hls, hcel, f0, f1, f2, f3, f4, frN, hg1, hg2, hv, hr0, hr1, placeK, roundK, Env.setS, rep_all, rep_len]
      exact allRight_pre hi hr
    | true =>
      rw [hr] at hrt
      have hpre' : ∀ j, j < i + 1 → right j (pageOf s j) = true := fun j hj => by
        rcases Nat.lt_succ_iff_lt_or_eq.1 hj with hj | rfl
        · exact hpre j hj
        · exact hr
      have hmap : (flowTo s (i + 1)).map encB = (flowTo s i).map encB ++ ((pageOf s i).take 28).map encB := by rw [hfs, List.map_append]
      have hne' : ((pageOf s i).take 28).map encB ≠ [] := by intro h; rw [h] at hl28; cases hl28
      have hsmall : (2 * ((flowTo s i).length + 28) + 1024) ≤ 281474976710656 ∧ (flowTo s i).length + 28 < 4611686018427387904 := ⟨by omega, by omega⟩
      have hfm : ((flowTo s i).map encB).length = (flowTo s i).length := List.length_map _
      rcases hacc with ⟨hl, rfl⟩ | ⟨hl, id, g, rfl, hid, hk⟩
      · simp +contextual +decide (maxSteps := 1000000) only [↓ wP, wQ, tf, Nat.reduceAdd, ne_eq, hrt, hml, hz, hls, hcel, hz28, hls28, hcel28, hl28, f0, f1, f2, f3, f4, frN, hg1, hg2, hv, hr0, hr1, placeK, roundK, Env.setS, rep_all, rep_len, Nat.reduceMul, Nat.mul_one, Nat.zero_add, Int.reduceToNat, hls28']
        clear hg2
        rw [hl, List.nil_append] at hmap
        refine ⟨?_, hpre'⟩
        rw [hmap]
        refine Acc.new (id := n + 1) (g := 0) (m := 28) ?_ ?_ hl28.symm hne' (by omega)
        · simp +contextual +decide (maxSteps := 1000000) only [↓ wP, wQ, tf, Nat.reduceAdd, ne_eq, f0, f1, f2, f3, f4, frN]
        · simp +contextual +decide (maxSteps := 1000000) only [↓ wP, wQ, tf, Nat.reduceAdd, ne_eq, f0, f1, f2, f3, f4, frN]
      · have hidn : id < n := Sto.get_lt hid
        rw [Sto.get_mk hidn] at hid
        have f5 := frI hidn
        have f6 : id ≠ 2 ∧ 2 ≠ id ∧ id ≠ 0 ∧ 0 ≠ id ∧ id ≠ 1 ∧ 1 ≠ id ∧ id ≠ 3 ∧ 3 ≠ id ∧ id ≠ 4 ∧ 4 ≠ id := ⟨by omega, by omega, by omega, by omega, by omega, by omega, by omega, by omega, by omega, by omega⟩
        simp +contextual +decide (maxSteps := 1000000) only [↓ wP, wQ, tf, Nat.reduceAdd, ne_eq, hrt, hml, hz, hls, hcel, hz28, hls28, hcel28, hl28, hfm, hsmall, f0, f1, f2, f3, f4, f5, f6, frN, hg1, hg2, hv, hid, hr0, hr1, placeK, roundK, Env.setS, rep_all, rep_len, Nat.reduceMul, Nat.mul_one, Nat.zero_add, Int.reduceToNat, hls28']
        clear hg2
        refine ⟨?_, hpre'⟩
        rw [hmap]
        refine Acc.new (id := id) (g := g + 1) (m := (flowTo s i).length + 28) ?_ ?_ (by rw [List.length_append, hfm, hl28]) (by simp [hl]) hk
        · simp +contextual +decide (maxSteps := 1000000) only [↓ wP, wQ, tf, Nat.reduceAdd, ne_eq, f0, f1, f2, f3, f4, f5, f6, frN]
        · simp +contextual +decide (maxSteps := 1000000) only [↓ wP, wQ, tf, Nat.reduceAdd, ne_eq, f0, f1, f2, f3, f4, f5, f6, frN]
  · rintro ⟨n, low, o⟩ hn hg1 ⟨⟨v, hv, hacc⟩, hr0, hr1, hpre⟩
    have hn' : 4 < n := hn
    have hrow : (rows s).length = counted s := by simp [rows]
    rw [hrow] at hacc hpre
    have hall : allRight s = true := by
      unfold allRight
      rw [List.all_eq_true]
      exact fun j hj => hpre j (List.mem_range.1 hj)
    have f0 := frI (i := 0) (n := n) (by omega)
    have f1 := frI (i := 1) (n := n) (by omega)
    have f2 := frI (i := 2) (n := n) (by omega)
    have f3 := frI (i := 3) (n := n) (by omega)
    simp +decide only [Sto.get_mk, f0, f1, f2, f3, wcell, Nat.reduceAdd] at hg1 hv hr0 hr1
    have hfl := flowTo_len (s := s) (i := counted s) (Nat.le_refl _)
    have hfb := flowTo_by hb (counted s)
    obtain ⟨id, g, rfl, hid, hk⟩ : ∃ id g, v = .sl id g 0 (flowB s).length (.room 1) ∧ (Sto.mk n low o).get id = some (obg g ((flowB s).map encB)) ∧ 4 < id := by
      rcases hacc with ⟨hl, _⟩ | ⟨_, id, g, rfl, hid, hk⟩
      · exact absurd (congrArg List.length hl) (by rw [List.length_map, hfl, List.length_nil]; omega)
      · exact ⟨id, g, by rw [List.length_map]; rfl, hid, hk⟩
    have hidn : id < n := Sto.get_lt hid
    rw [Sto.get_mk hidn] at hid
    have f5 := frI hidn
    have hN1 := L17_none s (f := 40) (by decide) (by decide) (by decide) (by decide) (by decide)
    have hN2 := L17_none s (f := 92) (by decide) (by decide) (by decide) (by decide) (by decide)
    simp +contextual +decide (maxSteps := 1000000) only [↓ wP, wQ, tf, Nat.reduceAdd, ne_eq, hN1, orcK_none, frN, f0, f1, f2, f3, f5]
    have hsv0 := L17_save s (a := .agg [.nils, .nils, .nils, .nils, .int .i64 0]) (w := noWd) rfl
    have hsA0 : saveA noWd = .tuple [.str (saveO noWd).1, .int .i64 ((saveO noWd).2 : Nat)] := rfl
    rw [hsA0] at hsv0
    have e4 : (∃ k, wdN (flowB s) = .fail k) → LoadPV s = .tuple [.agg [.nils, .nils, .nils, .nils, .int .i64 0], .int .i64 4] := by
      rintro ⟨k, hk⟩
      unfold LoadPV loadPO; rw [if_neg h0, hall, if_pos rfl, hk]; rfl
    refine wrunOf (hN1 _ _) (attempt_run _ _ (n + 1) low _ _ hN1 hN2 (load1_run s (flowB s) hfb (by rw [flowB, hfl]; omega) (n + 1 + 1) _ 2 n id g ?_ ?_ ?_ (by omega) (by omega) (by omega) _ (fun x k hx n' low' o' h1 h2 h3 h4 => ?_) (fun k hx => ?_) _))
    · simp +contextual +decide (maxSteps := 1000000) only [↓ wP, wQ, tf, Nat.reduceAdd, ne_eq, f2, frN, hv]
    · simp +contextual +decide (maxSteps := 1000000) only [↓ wP, wQ, tf, Nat.reduceAdd, ne_eq, f5, frN, hid]
    · simp +contextual +decide (maxSteps := 1000000) only [↓ wP, wQ, tf, Nat.reduceAdd, ne_eq, frN]
    · left
      refine ⟨n', low', o', rfl, h1, by omega, (h4 (n + 1) (by omega) (by omega)).trans (by simp +contextual +decide (maxSteps := 1000000) only [↓ wP, wQ, tf, Nat.reduceAdd, ne_eq, frN]), fun low'' => ?_⟩
      rw [callK_put]
      have k0 : o'.get 0 = some (obg 0 [.nils, .nils, .nils, .nils, .int .i64 0]) := (h4 0 (by omega) (by omega)).trans (by simp +contextual +decide (maxSteps := 1000000) only [↓ wP, wQ, tf, Nat.reduceAdd, ne_eq, f0, frN, hr0])
      have k1 : o'.get 1 = some (obg 0 [.int .i64 0]) := (h4 1 (by omega) (by omega)).trans (by simp +contextual +decide (maxSteps := 1000000) only [↓ wP, wQ, tf, Nat.reduceAdd, ne_eq, f1, frN, hr1])
      have k3 : o'.get 3 = some (.defs (some [])) := (h4 3 (by omega) (by omega)).trans (by simp +contextual +decide (maxSteps := 1000000) only [↓ wP, wQ, tf, Nat.reduceAdd, ne_eq, f3, frN, hg1])
      have h3' : o'.get n = some (obg 0 [obsA x.objs, intsA x.tasks, valsA x.outs, intsA x.ins, .int .i64 x.used]) := h3
      have F0 := frI (show 0 < n' by omega)
      have F1 := frI (show 1 < n' by omega)
      have F3 := frI (show 3 < n' by omega)
      have Fn := frI (show n < n' by omega)
      have hX : 0 ≠ n + 1 ∧ 1 ≠ n + 1 ∧ 3 ≠ n + 1 ∧ n ≠ n + 1 ∧ n ≠ 0 ∧ n ≠ 1 ∧ n ≠ 3 := ⟨by omega, by omega, by omega, by omega, by omega, by omega, by omega⟩
      have hsv := L17_save s (a := .agg [obsA x.objs, intsA x.tasks, valsA x.outs, intsA x.ins, .int .i64 x.used]) (w := x) (wdN_dec hfb (by rw [flowTo_len (Nat.le_refl _)]; omega) hx)
      have hsA : saveA x = .tuple [.str (saveO x).1, .int .i64 ((saveO x).2 : Nat)] := rfl
      rw [hsA] at hsv
      have d2 : ((((saveO x).2 : Nat) : Int) = 0) = ((saveO x).2 = 0) := propext (by omega)
      by_cases c1 : (saveO x).2 = 0
      · by_cases c2 : (saveO x).1 = s
        · have e5 : LoadPV s = .tuple [wdA x, .int .i64 0] := by
            unfold LoadPV loadPO; rw [if_neg h0, hall, if_pos rfl, hx]; simp only
            rw [if_pos (Prod.ext c2 c1)]
          rw [e5]
          simp +contextual +decide (maxSteps := 1000000) only [↓ wP, wQ, tf, Nat.reduceAdd, ne_eq, h3', k0, k1, k3, F0, F1, F3, Fn, hX, hsv, d2, c1, c2, abin_str_neq, obsA_cell, intsA_cell, valsA_cell, dresults_cell, Option.bind_some]
          exact .und _ (und_tuple (und_all_cons (wdA_under (w := x)).und (und_all_cons und_int und_all_nil)))
        · have e5 : LoadPV s = .tuple [.agg [.nils, .nils, .nils, .nils, .int .i64 0], .int .i64 4] := by
            unfold LoadPV loadPO; rw [if_neg h0, hall, if_pos rfl, hx]; simp only
            rw [if_neg (fun h => c2 (congrArg Prod.fst h))]; rfl
          rw [e5]
          simp +contextual +decide (maxSteps := 1000000) only [↓ wP, wQ, tf, Nat.reduceAdd, ne_eq, h3', k0, k1, k3, F0, F1, F3, Fn, hX, hsv, d2, c1, c2, abin_str_neq, obsA_cell, intsA_cell, valsA_cell, dresults_cell, Option.bind_some]
          rw [← noWd_A]
          exact .und _ (und_tuple (und_all_cons wdA_under.und (und_all_cons und_int und_all_nil)))
      · have e5 : LoadPV s = .tuple [.agg [.nils, .nils, .nils, .nils, .int .i64 0], .int .i64 4] := by
          unfold LoadPV loadPO; rw [if_neg h0, hall, if_pos rfl, hx]; simp only
          rw [if_neg (fun h => c1 (congrArg Prod.snd h))]; rfl
        rw [e5]
        simp +contextual +decide (maxSteps := 1000000) only [↓ wP, wQ, tf, Nat.reduceAdd, ne_eq, h3', k0, k1, k3, F0, F1, F3, Fn, hX, hsv, d2, c1, abin_str_neq, obsA_cell, intsA_cell, valsA_cell, dresults_cell, Option.bind_some]
        rw [← noWd_A]
        exact .und _ (und_tuple (und_all_cons wdA_under.und (und_all_cons und_int und_all_nil)))
    · right
      refine ⟨k, rfl, fun n'' low'' o'' h1 h4 => ?_, ?_⟩
      · rw [callK_put]
        have k0 : o''.get 0 = some (obg 0 [.nils, .nils, .nils, .nils, .int .i64 0]) := (h4 0 (by omega)).trans (by simp +contextual +decide (maxSteps := 1000000) only [↓ wP, wQ, tf, Nat.reduceAdd, ne_eq, f0, frN, hr0])
        have k1 : o''.get 1 = some (obg 0 [.int .i64 0]) := (h4 1 (by omega)).trans (by simp +contextual +decide (maxSteps := 1000000) only [↓ wP, wQ, tf, Nat.reduceAdd, ne_eq, f1, frN, hr1])
        have k3 : o''.get 3 = some (.defs (some [])) := (h4 3 (by omega)).trans (by simp +contextual +decide (maxSteps := 1000000) only [↓ wP, wQ, tf, Nat.reduceAdd, ne_eq, f3, frN, hg1])
        have kn : o''.get n = some (obg 0 [.nils, .nils, .nils, .nils, .int .i64 0]) := (h4 n (by omega)).trans (by simp +contextual +decide (maxSteps := 1000000) only [↓ wP, wQ, tf, Nat.reduceAdd, ne_eq, frN])
        have F0 := frI (show 0 < n'' by omega)
        have F1 := frI (show 1 < n'' by omega)
        have F3 := frI (show 3 < n'' by omega)
        have Fn := frI (show n < n'' by omega)
        rw [e4 ⟨k, hx⟩]
        simp +contextual +decide (maxSteps := 1000000) only [↓ wP, wQ, tf, Nat.reduceAdd, ne_eq, kn, k0, k1, k3, F0, F1, F3, Fn, hsv0, dresults_cell, Option.bind_some]
        rw [← noWd_A]
        exact .und _ (und_tuple (und_all_cons wdA_under.und (und_all_cons und_int und_all_nil)))
      · rw [callK_put]
        rw [e4 ⟨k, hx⟩]
        simp +contextual +decide (maxSteps := 1000000) only [↓ wP, wQ, tf, Nat.reduceAdd, ne_eq, f0, f1, f3, frN, hr0, hr1, hg1, hsv0, dresults_cell, Option.bind_some]
        rw [← noWd_A]
        exact .und _ (und_tuple (und_all_cons wdA_under.und (und_all_cons und_int und_all_nil)))
  · rintro ⟨n, low, o⟩ hn hg1 ⟨_, hr0, hr1, hall⟩
    have hn' : 4 < n := hn
    have f0 := frI (i := 0) (n := n) (by omega)
    have f1 := frI (i := 1) (n := n) (by omega)
    have f3 := frI (i := 3) (n := n) (by omega)
    simp +decide only [Sto.get_mk, f0, f1, f3, wcell, Nat.reduceAdd] at hg1 hr0 hr1
    have e0 : LoadPV s = .tuple [.agg [.nils, .nils, .nils, .nils, .int .i64 0], .int .i64 4] := by
      unfold LoadPV loadPO; rw [if_neg h0, hall]; rfl
    rw [e0]
    simp +contextual +decide (maxSteps := 1000000) only [↓ wP, wQ, tf, Nat.reduceAdd, ne_eq, hg1, hr0, hr1, f0, f1, f3, dresults_cell, Option.bind_some]
    rw [← noWd_A]
    exact .und _ (und_tuple (und_all_cons wdA_under.und (und_all_cons und_int und_all_nil)))
end
end Go.Proofs.YtajngkkihadgfaaGreat
/-
  Images: a world that was saved is loaded as it was, by the program's reader; in plain words.
-/
namespace Go.Proofs.YtajngkkihadgfaaGreat
open Go.Abs Go Go.Abs.TryzF
set_option maxRecDepth 10000
theorem flat32_slice (f : Nat → List Nat) (hf : ∀ i, (f i).length = 32) : ∀ (n i : Nat), i < n → ((List.range n).flatMap f).drop (i * 32) = f i ++ ((List.range n).flatMap f).drop ((i + 1) * 32) := by
  intro n
  induction n with
  | zero => intro i h; omega
  | succ n ih =>
    intro i hi
    have hl : ((List.range n).flatMap f).length = n * 32 := by
      clear ih hi
      induction n with
      | zero => rfl
      | succ n ih => rw [List.range_succ, List.flatMap_append, List.length_append, ih]; simp [hf]; omega
    rw [List.range_succ, List.flatMap_append]
    have h1 : (([n] : List Nat).flatMap f) = f n := by simp
    rw [h1]
    rcases Nat.lt_succ_iff_lt_or_eq.1 hi with h | rfl
    · rw [List.drop_append_of_le_length (by omega), List.drop_append_of_le_length (by omega), ih i h, List.append_assoc]
    · rw [List.drop_append_of_le_length (by omega), List.drop_of_length_le (show ((List.range i).flatMap f).length ≤ i * 32 by omega), List.nil_append]
      rw [List.drop_of_length_le (by rw [List.length_append, hl, hf]; omega), List.append_nil]
theorem pagedB_len (s : List Nat) : (pagedB s).length = 32 * pagesN s := pagedTo_len s _
theorem pageOf_paged {s : List Nat} {i : Nat} (h : i < pagesN s) : pageOf (pagedB s) i = pgB s i := by
  show ((pagedB s).drop (i * 32)).take 32 = _
  rw [pagedB, pagedTo, flat32_slice (pgB s) (pgB_len s) _ i h, List.take_append_of_le_length (by rw [pgB_len]; omega), List.take_of_length_le (by rw [pgB_len]; omega)]
theorem counted_paged {s : List Nat} (h : pagesN s ≤ 256) : counted (pagedB s) = pagesN s := by
  unfold counted
  rw [pagedB_len]
  rw [if_neg (by omega)]; omega
theorem right_paged (s : List Nat) (i : Nat) : right i (pgB s i) = true := by
  have h1 : (pgB s i).drop 28 = check i (pad28 (s.drop (28 * i))) := by rw [pgB, List.drop_append_of_le_length (by rw [pad28_len]; omega), List.drop_of_length_le (by rw [pad28_len]; omega), List.nil_append]
  have h2 : (pgB s i).take 28 = pad28 (s.drop (28 * i)) := by rw [pgB, List.take_append_of_le_length (by rw [pad28_len]; omega), List.take_of_length_le (by rw [pad28_len]; omega)]
  have h3 : (pad28 (s.drop (28 * i))).take 28 = pad28 (s.drop (28 * i)) := List.take_of_length_le (by rw [pad28_len]; omega)
  unfold right
  rw [h1]
  simp only [check, h2, h3, decide_true]
theorem allRight_paged {s : List Nat} (h : pagesN s ≤ 256) : allRight (pagedB s) = true := by
  unfold allRight
  rw [counted_paged h, List.all_eq_true]
  intro i hi
  rw [pageOf_paged (List.mem_range.1 hi)]; exact right_paged s i
theorem flowTo_paged {s : List Nat} : ∀ i, i ≤ pagesN s → flowTo (pagedB s) i = s.take (28 * i) ++ List.replicate (28 * i - s.length) 0 := by
  intro i
  induction i with
  | zero => intro _; simp [flowTo]
  | succ i ih =>
    intro hi
    have h2 : (pgB s i).take 28 = pad28 (s.drop (28 * i)) := by rw [pgB, List.take_append_of_le_length (by rw [pad28_len]; omega), List.take_of_length_le (by rw [pad28_len]; omega)]
    have hlt : 28 * i < s.length := by unfold pagesN at hi; omega
    rw [flowTo_succ, ih (by omega), pageOf_paged (by omega), h2, show 28 * i - s.length = 0 by omega, List.replicate_zero, List.append_nil, pad28, ← List.append_assoc, List.length_drop]
    congr 1
    · rw [show 28 * (i + 1) = 28 * i + 28 by omega, List.take_add]
    · congr 1; omega
theorem flowB_paged {s : List Nat} (h : pagesN s ≤ 256) : flowB (pagedB s) = s ++ List.replicate (28 * pagesN s - s.length) 0 := by
  rw [flowB, counted_paged h, flowTo_paged _ (Nat.le_refl _), List.take_of_length_le (by unfold pagesN; omega)]
theorem pob_at' {l : List Nat} {Y : List Nat} {o : Ob} {p : Nat} (h : At l p (obB o ++ Y)) (hok : obOk o = true) : ∃ p', obN_ l p = .ok o p' ∧ At l p' Y := by
  rw [obOk_iff, frsOk_iff] at hok
  obtain ⟨⟨g1, g2⟩, g3, g4, g5, g6⟩ := hok
  have h : At l p ((o.form.toNat % 256) :: (sgnB o.n ++ (valsB o.vals ++ (numB o.frs.length ++ (o.frs.flatMap frB ++ Y))))) := by
    unfold obB at h
    simpa only [List.append_assoc, List.cons_append] using h
  obtain ⟨q1, h1, h2⟩ := psgn_at h.cons.2.2 g3
  obtain ⟨q2, h3, h4⟩ := pvals_at h2 g4
  obtain ⟨q3, h5, h6⟩ := plain_at h4 (by omega)
  obtain ⟨q4, h7, h8⟩ := pfrsGo_at o.frs [] q3 g6 h6
  refine ⟨q4, ?_, h8⟩
  have h9 := h6.len
  rw [List.length_append] at h9
  have h10 := flat_len (f := frB) (fun f => by have := numB_pos f.node.toNat; simp only [frB, List.length_append]; omega) o.frs
  unfold obN_
  rw [next_at h]; simp only
  rw [h1]; simp only
  rw [h3]; simp only
  unfold frsN
  rw [h5]; simp only
  rw [if_pos (by omega), h7]
  obtain ⟨fm, n, v, f⟩ := o
  simp only [List.nil_append] at *
  rw [show ((fm.toNat % 256 : Nat) : Int) = fm by omega]
theorem obsGo_at {l : List Nat} {Y : List Nat} : ∀ (os : List Ob) (acc : List Ob) (p : Nat), (∀ o ∈ os, obOk o = true) → At l p (os.flatMap obB ++ Y) → ∃ p', obsGo l os.length acc p = .ok (acc ++ os) p' ∧ At l p' Y
  | [], acc, p, _, h => ⟨p, by simp [obsGo], h⟩
  | v :: vs, acc, p, hok, h => by
    rw [List.flatMap_cons, List.append_assoc] at h
    obtain ⟨q, h1, h2⟩ := pob_at' h (hok v (List.mem_cons_self ..))
    obtain ⟨p', h3, h4⟩ := obsGo_at vs (acc ++ [v]) q (fun w hw => hok w (List.mem_cons_of_mem _ hw)) h2
    refine ⟨p', ?_, h4⟩
    show obsGo l (vs.length + 1) acc p = _
    unfold obsGo
    rw [h1]
    simp only
    rw [h3, List.append_assoc]; rfl
theorem isGoP_at {l : List Nat} {Y : List Nat} : ∀ (vs : List Int) (acc : List Int) (p : Nat), (∀ v ∈ vs, 0 ≤ v ∧ v < 34359738368) → At l p (vs.flatMap taskB ++ Y) → ∃ p', isGoP l vs.length acc p = .ok (acc ++ vs) p' ∧ At l p' Y
  | [], acc, p, _, h => ⟨p, by simp [isGoP], h⟩
  | v :: vs, acc, p, hok, h => by
    rw [List.flatMap_cons, List.append_assoc] at h
    have hv := hok v (List.mem_cons_self ..)
    obtain ⟨q, h1, h2⟩ := plain_at (m := v.toNat) h (by omega)
    obtain ⟨p', h3, h4⟩ := isGoP_at vs (acc ++ [v]) q (fun w hw => hok w (List.mem_cons_of_mem _ hw)) h2
    refine ⟨p', ?_, h4⟩
    have h5 : plnN l p = .ok v q := by
      unfold plnN; rw [h1]
      show PR.ok ((v.toNat : Nat) : Int) q = _
      rw [show ((v.toNat : Nat) : Int) = v by omega]
    show isGoP l (vs.length + 1) acc p = _
    unfold isGoP
    rw [h5]
    simp only
    rw [h3, List.append_assoc]; rfl
theorem isGoS_at {l : List Nat} {Y : List Nat} : ∀ (vs : List Int) (acc : List Int) (p : Nat), (∀ v ∈ vs, numOk v = true) → At l p (vs.flatMap sgnB ++ Y) → ∃ p', isGoS l vs.length acc p = .ok (acc ++ vs) p' ∧ At l p' Y
  | [], acc, p, _, h => ⟨p, by simp [isGoS], h⟩
  | v :: vs, acc, p, hok, h => by
    rw [List.flatMap_cons, List.append_assoc] at h
    obtain ⟨q, h1, h2⟩ := psgn_at h (hok v (List.mem_cons_self ..))
    obtain ⟨p', h3, h4⟩ := isGoS_at vs (acc ++ [v]) q (fun w hw => hok w (List.mem_cons_of_mem _ hw)) h2
    refine ⟨p', ?_, h4⟩
    show isGoS l (vs.length + 1) acc p = _
    unfold isGoS
    rw [h1]
    simp only
    rw [h3, List.append_assoc]; rfl
theorem outsGo_at {l : List Nat} {Y : List Nat} : ∀ (vs : List Val) (acc : List Val) (p : Nat), (∀ v ∈ vs, outOk v = true) → At l p (vs.flatMap outB ++ Y) → ∃ p', outsGo l vs.length acc p = .ok (acc ++ vs) p' ∧ At l p' Y
  | [], acc, p, _, h => ⟨p, by simp [outsGo], h⟩
  | v :: vs, acc, p, hok, h => by
    rw [List.flatMap_cons, List.append_assoc, outB, List.append_assoc] at h
    obtain ⟨g1, g2⟩ := outOk_and (hok v (List.mem_cons_self ..))
    obtain ⟨q0, h1, h2⟩ := psgn_at h g1
    obtain ⟨q, h1', h2'⟩ := psgn_at h2 g2
    obtain ⟨p', h3, h4⟩ := outsGo_at vs (acc ++ [v]) q (fun w hw => hok w (List.mem_cons_of_mem _ hw)) h2'
    refine ⟨p', ?_, h4⟩
    have h5 : outN l p = .ok v q := by
      unfold outN; rw [h1]; simp only
      rw [h1']; rfl
    show outsGo l (vs.length + 1) acc p = _
    unfold outsGo
    rw [h5]
    simp only
    rw [h3, List.append_assoc]; rfl
theorem taskB_pos (v : Int) : 1 ≤ (taskB v).length := numB_pos _
theorem sgnB_pos (v : Int) : 1 ≤ (sgnB v).length := numB_pos _
theorem outB_pos (v : Val) : 1 ≤ (outB v).length := by have := sgnB_pos v.1; simp only [outB, List.length_append]; omega
theorem At.shift {pre X : List Nat} : At (pre ++ X) pre.length X := ⟨pre, rfl, rfl⟩
theorem wd_at {w : Wd} (hF : WdF w) (Z : List Nat) : ∃ p', wdN (streamB w ++ Z) = .ok w p' := by
  obtain ⟨l, hl⟩ : ∃ l, l = streamB w ++ Z := ⟨_, rfl⟩
  have hst : l = (headB w ++ tableTo w (w.objs.length + 1)) ++ (w.objs.flatMap obB ++ (restB w ++ Z)) := by rw [hl, streamB, bodyB, List.append_assoc, List.append_assoc, List.append_assoc]
  have hn2 : At l 2 (w.objs.length % 256 :: (0 :: (tableTo w (w.objs.length + 1) ++ (w.objs.flatMap obB ++ (restB w ++ Z))))) := ⟨[72, 70], by rw [hst]; simp [headB], rfl⟩
  have b1 := hF.objs
  have b2 := hF.tasks
  have b3 := hF.outs
  have b4 := hF.ins
  have b5 := hF.used
  have hp4 : (headB w ++ tableTo w (w.objs.length + 1)).length = 4 + 2 * (w.objs.length % 256 + 1) := by rw [List.length_append, tableTo_len, Nat.mod_eq_of_lt (by omega)]; rfl
  have hb0 : At l (4 + 2 * (w.objs.length % 256 + 1)) (w.objs.flatMap obB ++ (restB w ++ Z)) := by rw [hst, ← hp4]; exact At.shift
  obtain ⟨q1, h1, h2⟩ := obsGo_at w.objs [] _ (fun o ho => (hF.ob o ho).1) hb0
  have hr : restB w ++ Z = numB w.tasks.length ++ (w.tasks.flatMap taskB ++ (numB w.outs.length ++ (w.outs.flatMap outB ++ (numB w.ins.length ++ (w.ins.flatMap sgnB ++ (numB w.used.toNat ++ Z)))))) := by simp only [restB, List.append_assoc]
  rw [hr] at h2
  obtain ⟨q2, h3, h4⟩ := plain_at h2 (by omega)
  obtain ⟨q3, h5, h6⟩ := isGoP_at w.tasks [] q2 (fun t ht => by have := task_and (hF.task t ht) (by omega); omega) h4
  obtain ⟨q4, h7, h8⟩ := plain_at h6 (by omega)
  obtain ⟨q5, h9, h10⟩ := outsGo_at w.outs [] q4 hF.out h8
  obtain ⟨q6, h11, h12⟩ := plain_at h10 (by omega)
  obtain ⟨q7, h13, h14⟩ := isGoS_at w.ins [] q6 hF.inn h12
  obtain ⟨q8, h15, h16⟩ := plain_at h14 (by omega)
  have l1 := h4.len
  have l2 := h8.len
  have l3 := h12.len
  rw [List.length_append] at l1 l2 l3
  have m1 := flat_len (f := taskB) taskB_pos w.tasks
  have m2 := flat_len (f := outB) outB_pos w.outs
  have m3 := flat_len (f := sgnB) sgnB_pos w.ins
  refine ⟨q8, ?_⟩
  rw [← hl]
  unfold wdN
  rw [next_at hn2]; simp only
  rw [show w.objs.length % 256 = w.objs.length by omega] at *
  rw [h1]; simp only
  unfold isNP
  rw [h3]; simp only
  rw [if_pos (by omega), h5]; simp only
  unfold outsN
  rw [h7]; simp only
  rw [if_pos (by omega), h9]; simp only
  unfold isNS
  rw [h11]; simp only
  rw [if_pos (by omega), h13]; simp only
  rw [h15]
  simp only [List.nil_append]
  obtain ⟨os, ts, us, is, u⟩ := w
  simp only at b5 ⊢
  rw [show ((u.toNat : Nat) : Int) = u by omega]
theorem saveO_ok {w : Wd} (h : (saveO w).2 = 0) : wdOk w = true ∧ (streamB w).length ≤ 7168 ∧ (saveO w).1 = pagedB (streamB w) := by
  unfold saveO at h ⊢
  split at h
  · rename_i h1
    split at h
    · rename_i h2
      rw [if_pos h1, if_pos h2]
      exact ⟨h1, h2, rfl⟩
    · simp at h
  · simp at h
theorem stream_pages {w : Wd} (h : (streamB w).length ≤ 7168) : pagesN (streamB w) ≤ 256 ∧ 0 < pagesN (streamB w) := by
  have : 4 ≤ (streamB w).length := by simp only [streamB, headB, List.length_append, List.length_cons]; omega
  unfold pagesN; omega
theorem loadPO_save {w : Wd} (h : (saveO w).2 = 0) : counted (saveO w).1 ≠ 0 ∧ loadPO (saveO w).1 = some w := by
  obtain ⟨h1, h2, h3⟩ := saveO_ok h
  obtain ⟨h4, h5⟩ := stream_pages h2
  have hs : saveO w = (pagedB (streamB w), 0) := Prod.ext h3 h
  rw [h3]
  refine ⟨by rw [counted_paged h4]; omega, ?_⟩
  obtain ⟨p, hp⟩ := wd_at (wdF h1) (List.replicate (28 * pagesN (streamB w) - (streamB w).length) 0)
  unfold loadPO
  rw [allRight_paged h4, if_pos rfl, flowB_paged h4, hp]
  simp only
  rw [if_pos hs]
theorem LoadPV_save {w : Wd} (h : (saveO w).2 = 0) : LoadPV (saveO w).1 = .tuple [wdA w, .int .i64 0] := by
  obtain ⟨h1, h2⟩ := loadPO_save h
  unfold LoadPV
  rw [if_neg h1, h2]
end Go.Proofs.YtajngkkihadgfaaGreat
/-
  The law 'ImageSaves': its function returns true.
-/
namespace Go.Proofs.YtajngkkihadgfaaGreat
open Go.Abs Go Go.Abs.TryzF
noncomputable section
set_option maxRecDepth 10000
def sameListV : List AV → Option AV
  | [a, b] => match decInts a, decInts b with
    | some l, some m => some (.bool (decide (l = m)))
    | _, _ => none
  | _ => none
theorem sameListV_eq {a b : AV} {l m : List Int} (h : decInts a = some l) (h' : decInts b = some m) : sameListV [a, b] = some (.bool (decide (l = m))) := by simp [sameListV, h, h']
theorem rsameList_ok : Abs.Ok Tryz.prog 24 sameListV := by
  intro args v hg
  unfold sameListV at hg
  split at hg
  · rename_i a b
    split at hg
    · rename_i l m hl hm
      cases hg
      have ha := decInts_sl hl
      have hb := decInts_sl hm
      have la := ha.2
      have lb := hb.2
      simp only [List.length_map] at la lb
      refine returns_wk (L := []) elist_nil noHint (by kernel_rfl) Tryz.func24 Tryz.ntmps24 Tryz.results24 rfl rfl (und_all_cons (under_ints hl).und (und_all_cons (under_ints hm).und und_all_nil)) und_bool ?_
      have hc : (((l.length : Nat) : Int) = (m.length : Nat)) = (l.length = m.length) := propext (by omega)
      by_cases hlen : l.length = m.length
      · simp +contextual +decide (maxSteps := 1000000) only [↓ wP, wQ, tf, Nat.reduceAdd, ne_eq, ha.len, hb.len, List.length_map, hc, hlen]
        refine Wk_loop (fun i e => ∃ t, e = ⟨26, none, 24, t, [], ⟨0, 0, .leaf⟩, .no⟩ ∧ t.val 0 = a ∧ t.val 1 = b ∧ t.val 5 = .int .i64 (i : Nat) ∧ i ≤ l.length ∧ ∀ j, j < i → l.getD j default = m.getD j default) (fun i => l.length - i) 0 ⟨_, rfl, by simp +decide only [↓ wval, wint, wlog], by simp +decide only [↓ wval, wint, wlog], by simp +decide only [↓ wval, wint, wlog]; rfl, Nat.zero_le _, fun j hj => by omega⟩ ?_
        rintro i _ ⟨t, rfl, t0, t1, t5, hi, hpre⟩
        by_cases hlt : i < l.length
        · have d1 : (i : Int) < (l.length : Nat) := by omega
          have d5 := wrap_succ (i := i) (by omega)
          have x1 := fun {q d} => ints_cells (l := l) i hlt (q := q) (d := d)
          have x2 := fun {q d} => ints_cells (l := m) i (by omega) (q := q) (d := d)
          by_cases he : l.getD i default = m.getD i default
          · simp +contextual +decide (maxSteps := 1000000) only [↓ wP, wQ, tf, Nat.reduceAdd, ne_eq, ha.len, ha.idx, hb.len, hb.idx, List.length_map, t0, t1, t5, d1, d5, x1, x2, encI, he]
            refine ⟨i + 1, by show _ - _ < _ - _; omega, _, rfl, by simp +decide only [↓ wval, wint, wlog, t0], by simp +decide only [↓ wval, wint, wlog, t1], by simp +decide only [↓ wval, wint, wlog], hlt, fun j hj => ?_⟩
            rcases Nat.lt_succ_iff_lt_or_eq.1 hj with hj | rfl
            · exact hpre j hj
            · exact he
          · simp +contextual +decide (maxSteps := 1000000) only [↓ wP, wQ, tf, Nat.reduceAdd, ne_eq, ha.len, ha.idx, hb.len, hb.idx, List.length_map, t0, t1, t5, d1, d5, x1, x2, encI, he]
            rw [decide_eq_false]; rintro rfl; exact he rfl
        · have d1 : ¬ (i : Int) < (l.length : Nat) := by omega
          simp +contextual +decide (maxSteps := 1000000) only [↓ wP, wQ, tf, Nat.reduceAdd, ne_eq, ha.len, hb.len, List.length_map, t0, t1, t5, d1]
          rw [decide_eq_true]
          exact list_ext_getD hlen fun j hj => hpre j (by omega)
      · simp +contextual +decide (maxSteps := 1000000) only [↓ wP, wQ, tf, Nat.reduceAdd, ne_eq, ha.len, hb.len, List.length_map, hc, hlen]
        rw [decide_eq_false]; rintro rfl; exact hlen rfl
    · cases hg
  · cases hg
def sameWdV : List AV → Option AV
  | [a, b] => match decWd a, decWd b with
    | some x, some y => if x = y then some (.bool true) else none
    | _, _ => none
  | _ => none
theorem sameWdV_eq {a b : AV} {w : Wd} (h : decWd a = some w) (h' : decWd b = some w) : sameWdV [a, b] = some (.bool true) := by simp [sameWdV, h, h']
theorem st99 : stPair Tryz.prog 99 = some (3, 3) := by kernel_rfl
abbrev LSm : List Ent := [ent 24 sameListV, ent 13 sameObV]
set_option maxHeartbeats 2000000 in
theorem rSame_ok : Abs.Ok Tryz.prog 18 sameWdV := by
  intro args v hg
  unfold sameWdV at hg
  split at hg
  rotate_left
  · cases hg
  rename_i a b
  split at hg
  rotate_left
  · cases hg
  rename_i w y hw hy
  split at hg
  rotate_left
  · cases hg
  rename_i hwy
  cases hg
  subst hwy
  have hua := (under_wd hw).und
  have hub := (under_wd hy).und
  obtain ⟨os, ts, us, is, rfl, h1, h2, h3, h4, c1, c2, c3, c4⟩ := wd_cells hw
  obtain ⟨os', ts', us', is', rfl, h1', h2', h3', h4', c1', c2', c3', c4'⟩ := wd_cells hy
  obtain ⟨xs, c, hsl, hlen, hat⟩ := obs_cells h1
  obtain ⟨xs', c', hsl', hlen', hat'⟩ := obs_cells h1'
  have s3 := decVals_sl h3
  have s3' := decVals_sl h3'
  have hll := hsl.2
  have hl3 := s3.2
  rw [List.length_map] at hl3
  refine returns_wk (L := LSm) (elist_cons rsameList_ok.ent (elist_cons rsameOb_ok.ent elist_nil)) (fun _ => ([10], [])) (by kernel_rfl) Tryz.func18 Tryz.ntmps18 Tryz.results18 rfl rfl (und_all_cons hua (und_all_cons hub und_all_nil)) und_bool ?_
  have e1 := sameListV_eq h2 h2'
  have e2 := sameListV_eq h4 h4'
  rw [decide_eq_true rfl] at e1 e2
  simp +contextual +decide (maxSteps := 1000000) only [↓ wP, wQ, tf, Nat.reduceAdd, ne_eq, c1, c2, c3, c4, c1', c2', c3', c4', hsl.len, hlen, hsl'.len, hlen', s3.len, s3'.len, List.length_map, e1, e2]
  refine Wk_loop (fun i e => ∃ t n low ob, e = ⟨83, none, 18, t, [], ⟨n, low, ob⟩, .no⟩ ∧ t.val 2 = .ptr 0 0 0 ∧ t.val 3 = .ptr 1 0 0 ∧ t.val 5 = .int .i64 (i : Nat) ∧ ob.get 0 = some (obg 0 [os, ts, us, is, .int .i64 w.used]) ∧ ob.get 1 = some (obg 0 [os', ts', us', is', .int .i64 w.used]) ∧ 1 < n ∧ i ≤ w.objs.length) (fun i => w.objs.length - i) 0
    ⟨_, 2, 0, _, rfl, by simp +decide only [↓ wval, wint, wlog], by simp +decide only [↓ wval, wint, wlog], by simp +decide only [↓ wval, wint, wlog]; rfl, by simp +decide only [↓ wval, wcell, wlog, ne_eq], by simp +decide only [↓ wval, wcell, wlog, ne_eq], by omega, Nat.zero_le _⟩ ?_
  rintro i _ ⟨t, n, low, ob, rfl, t2, t3, t5, hg0, hg1, hn, hi⟩
  have f0 := frI (i := 0) (n := n) (by omega)
  have f1 := frI (i := 1) (n := n) (by omega)
  have d1 : ((i : Int) < (w.objs.length : Nat)) = (i < w.objs.length) := propext (by omega)
  by_cases hlt : i < w.objs.length
  · have d5 := wrap_succ (i := i) (by omega)
    obtain ⟨hix, hcl, hcc, hdec⟩ := hat i hlt
    obtain ⟨hix', hcl', hcc', hdec'⟩ := hat' i hlt
    have x1 := fun {q d} => hix (q := q) (d := d)
    have x2 := fun {q d} => hix' (q := q) (d := d)
    have e3 := sameObV_eq hdec hdec'
    rw [decide_eq_true rfl] at e3
    generalize c i = cs at *
    generalize c' i = cs' at *
    simp +contextual +decide (maxSteps := 1000000) only [↓ wP, wQ, tf, Nat.reduceAdd, ne_eq, t2, t3, t5, hg0, hg1, f0, f1, frN, hsl.len, hsl.idx, hsl'.len, hsl'.idx, hlen, x1, x2, pfC_agg, hcl, hcl', d1, hlt, e3, d5]
    exact ⟨i + 1, by show _ - _ < _ - _; omega, _, _, _, _, rfl, by simp +decide only [↓ wval, wint, wlog, t2], by simp +decide only [↓ wval, wint, wlog, t3], by simp +decide only [↓ wval, wint, wlog], hg0, hg1, hn, hlt⟩
  simp +contextual +decide (maxSteps := 1000000) only [↓ wP, wQ, tf, Nat.reduceAdd, ne_eq, t2, t3, t5, hg0, f0, hsl.len, hlen, d1, hlt]
  clear hlt d1 t5 hi
  refine Wk_loop (fun i e => ∃ t n low ob, e = ⟨83, none, 18, t, [], ⟨n, low, ob⟩, .no⟩ ∧ t.val 2 = .ptr 0 0 0 ∧ t.val 3 = .ptr 1 0 0 ∧ t.val 6 = .int .i64 (i : Nat) ∧ ob.get 0 = some (obg 0 [os, ts, us, is, .int .i64 w.used]) ∧ ob.get 1 = some (obg 0 [os', ts', us', is', .int .i64 w.used]) ∧ 1 < n ∧ i ≤ w.outs.length) (fun i => w.outs.length - i) 0
    ⟨_, _, _, _, rfl, by simp +decide only [↓ wval, wint, wlog, t2], by simp +decide only [↓ wval, wint, wlog, t3], by simp +decide only [↓ wval, wint, wlog]; rfl, hg0, hg1, hn, Nat.zero_le _⟩ ?_
  clear t2 t3 hg0 hg1 f0 f1 hn t n low ob i
  rintro i _ ⟨t, n, low, ob, rfl, t2, t3, t6, hg0, hg1, hn, hi⟩
  have f0 := frI (i := 0) (n := n) (by omega)
  have f1 := frI (i := 1) (n := n) (by omega)
  have d1 : ((i : Int) < (w.outs.length : Nat)) = (i < w.outs.length) := propext (by omega)
  by_cases hlt : i < w.outs.length
  · have d5 := wrap_succ (i := i) (by omega)
    have x1 := fun {q d} => idxI w.outs hlt (q := q) (d := d)
    simp +contextual +decide (maxSteps := 1000000) only [↓ wP, wQ, tf, Nat.reduceAdd, ne_eq, t2, t3, t6, hg0, hg1, f0, f1, frN, s3.len, s3.idx, s3'.len, s3'.idx, List.length_map, x1, pfC_val, pair_neq st99, d1, hlt, d5]
    exact ⟨i + 1, by show _ - _ < _ - _; omega, _, _, _, _, rfl, by simp +decide only [↓ wval, wint, wlog, t2], by simp +decide only [↓ wval, wint, wlog, t3], by simp +decide only [↓ wval, wint, wlog], hg0, hg1, hn, hlt⟩
  simp +contextual +decide (maxSteps := 1000000) only [↓ wP, wQ, tf, Nat.reduceAdd, ne_eq, t2, t3, t6, hg0, f0, s3.len, List.length_map, d1, hlt]
abbrev BStr62 := { x : List Nat // By x ∧ x.length < 9223372036854775808 }
theorem bstr62_inj {V : List Nat → AV} : ∀ i j : BStr62, [AV.str i.1] = [AV.str j.1] → V i.1 = V j.1 := by
  rintro ⟨a, _⟩ ⟨b, _⟩ h
  simp at h; subst h; rfl
abbrev L4 : List Ent := [ent 14 SmallWorldV, ent1 8 [] (.bool true), ent 15 SaveV, ent 16 SaveV, entF 17 (fun x : BStr62 => [.str x.1]) (fun x => LoadPV x.1), ent 18 sameWdV]
theorem L4_ok (h : Abs.Returns Tryz.prog 8 [] (.bool true)) : ∀ x ∈ L4, ESound Tryz.prog x :=
  elist_cons rSmallWorld_ok.ent (elist_cons (ent1_ok h) (elist_cons Save_ok.ent (elist_cons rSave_ok.ent (elist_cons (entF_ok fun x => Load_ok x.1 x.2.2 x.2.1) (elist_cons rSame_ok.ent elist_nil)))))
theorem L4_sm {a : AV} {w : Wd} (h : decWd a = some w) (σ : Sto) : orcL L4 14 [a] σ = some (.ret (.bool (smallWd w)) none) := ent_same.trans (congrArg (Option.map _) (SmallWorldV_eq h))
theorem L4_works (σ : Sto) : orcL L4 8 [] σ = some (.ret (.bool true) none) := (ent_ne (by decide)).trans ent1_same
theorem L4_save {a : AV} {w : Wd} (h : decWd a = some w) (σ : Sto) : orcL L4 15 [a] σ = some (.ret (saveA w) none) := (ent_ne (by decide)).trans ((ent1_ne (by decide)).trans (ent_same.trans (congrArg (Option.map _) (SaveV_eq h))))
theorem L4_rsave {a : AV} {w : Wd} (h : decWd a = some w) (σ : Sto) : orcL L4 16 [a] σ = some (.ret (saveA w) none) := (ent_ne (by decide)).trans ((ent1_ne (by decide)).trans ((ent_ne (by decide)).trans (ent_same.trans (congrArg (Option.map _) (SaveV_eq h)))))
theorem L4_load {s : List Nat} (hb : By s) (hl : s.length < 9223372036854775808) (σ : Sto) : orcL L4 17 [.str s] σ = some (.ret (LoadPV s) none) :=
  (ent_ne (by decide)).trans ((ent1_ne (by decide)).trans ((ent_ne (by decide)).trans ((ent_ne (by decide)).trans (entF_same (A := fun x : BStr62 => [.str x.1]) (V := fun x => LoadPV x.1) bstr62_inj ⟨s, hb, hl⟩))))
theorem L4_same {a b : AV} {w : Wd} (h : decWd a = some w) (h' : decWd b = some w) (σ : Sto) : orcL L4 18 [a, b] σ = some (.ret (.bool true) none) :=
  (ent_ne (by decide)).trans ((ent1_ne (by decide)).trans ((ent_ne (by decide)).trans ((ent_ne (by decide)).trans ((entF_ne (by decide)).trans (ent_same.trans (congrArg (Option.map _) (sameWdV_eq h h')))))))
theorem saveO_by (w : Wd) : By (saveO w).1 := by
  unfold saveO
  split
  · split
    · rename_i h
      refine pagedTo_by (streamB_by w) ?_
      unfold pagesN; omega
    · intro b hb; cases hb
  · intro b hb; cases hb
theorem saveO_len (w : Wd) : (saveO w).1.length ≤ 8192 := by
  unfold saveO
  split
  · split
    · rename_i h
      rw [pagedB_len]
      unfold pagesN; omega
    · exact Nat.zero_le _
  · exact Nat.zero_le _
set_option maxHeartbeats 1000000 in
theorem saves_ok (hw : Abs.Returns Tryz.prog 8 [] (.bool true)) (a : AV) (w : Wd) (ha : decWd a = some w) : Abs.Returns Tryz.prog 4 [a] (.bool true) := by
  have hund := (under_wd ha).und
  have ha0 := ha
  obtain ⟨os, ts, us, is, rfl, h1, h2, h3, h4, c1, c2, c3, c4⟩ := wd_cells ha
  refine returns_wk (L := L4) (L4_ok hw) noHint (by kernel_rfl) Tryz.func4 Tryz.ntmps4 Tryz.results4 rfl rfl (und_all_cons hund und_all_nil) und_bool ?_
  have e1 := L4_sm ha0
  have e2 := L4_works
  have e3 := L4_save ha0
  have e4 := L4_rsave ha0
  have hsA : saveA w = .tuple [.str (saveO w).1, .int .i64 ((saveO w).2 : Nat)] := rfl
  rw [hsA] at e3 e4
  have d2 : ((((saveO w).2 : Nat) : Int) = 0) = ((saveO w).2 = 0) := propext (by omega)
  cases k1 : smallWd w with
  | false =>
    rw [k1] at e1
    simp +contextual +decide (maxSteps := 1000000) only [↓ wP, wQ, tf, Nat.reduceAdd, ne_eq, c1, c2, c3, c4, e1, e2]
  | true =>
    rw [k1] at e1
    by_cases k2 : (saveO w).2 = 0
    · have e5 := L4_load (saveO_by w) (by have := saveO_len w; omega)
      rw [LoadPV_save k2] at e5
      have e5' : ∀ σ, orcL L4 17 [.str (saveO w).1] σ = some (.ret (.tuple [.agg [obsA w.objs, intsA w.tasks, valsA w.outs, intsA w.ins, .int .i64 w.used], .int .i64 0]) none) := e5
      have hwd : decWd (.agg [obsA w.objs, intsA w.tasks, valsA w.outs, intsA w.ins, .int .i64 w.used]) = some w := by
        obtain ⟨g1, g2, g3⟩ := saveO_ok k2
        obtain ⟨p, hp⟩ := wd_at (wdF g1) []
        rw [List.append_nil] at hp
        exact wdN_dec (streamB_by w) (by omega) hp
      have e6 := L4_same hwd ha0
      simp +contextual +decide (maxSteps := 1000000) only [↓ wP, wQ, tf, Nat.reduceAdd, ne_eq, c1, c2, c3, c4, e1, e2, e3, e4, e5', e6, d2, k2, abin_str_neq, obsA_cell, intsA_cell, valsA_cell, frN]
    · simp +contextual +decide (maxSteps := 1000000) only [↓ wP, wQ, tf, Nat.reduceAdd, ne_eq, c1, c2, c3, c4, e1, e2, e3, e4, d2, k2, abin_str_neq]
end
end Go.Proofs.YtajngkkihadgfaaGreat
