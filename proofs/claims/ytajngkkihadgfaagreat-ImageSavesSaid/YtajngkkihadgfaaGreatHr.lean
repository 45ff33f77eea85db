/-
  The program of images: its reader reads frames.
-/
import Derived.Test.YtajngkkihadgfaaGreatHo
set_option linter.unusedVariables false
set_option linter.unusedSimpArgs false
namespace Go.Proofs.YtajngkkihadgfaaGreat
open Go.Abs Go Go.Abs.TryzF
noncomputable section
set_option maxRecDepth 10000
def frN_ (l : List Nat) (at_ : Nat) : PR Fr := match plainN l at_ with
  | .fail j => .fail j
  | .ok n a => match valsN l a with
    | .fail j => .fail j
    | .ok e b => match valsN l b with
      | .fail j => .fail j
      | .ok v d => .ok ⟨(n : Nat), e, v⟩ d
def frAgg (f : Fr) : AV := .agg (frC f)
def frP (l : List Nat) (at_ : Nat) : PR AV := (frN_ l at_).map frAgg
theorem frN_le {l : List Nat} (hb : By l) {at_ : Nat} (h : at_ ≤ l.length + 1000) : (frN_ l at_).le (l.length + 1000) ∧ ∀ x a, frN_ l at_ = .ok x a → x.env.length ≤ l.length ∧ x.vals.length ≤ l.length := by
  have h1 := (plainN_le hb h).1
  unfold frN_
  cases hx : plainN l at_ with
  | fail j => rw [hx] at h1; exact ⟨h1, fun x a e => by cases e⟩
  | ok n a =>
    rw [hx] at h1
    have h2 := valsN_le hb (show a ≤ l.length + 1000 from h1)
    simp only
    cases hy : valsN l a with
    | fail j => rw [hy] at h2; exact ⟨h2.1, fun x a e => by cases e⟩
    | ok e b =>
      rw [hy] at h2
      have h3 := valsN_le hb (show b ≤ l.length + 1000 from h2.1)
      simp only
      cases hz : valsN l b with
      | fail j => rw [hz] at h3; exact ⟨h3.1, fun x a e => by cases e⟩
      | ok v d =>
        rw [hz] at h3
        exact ⟨h3.1, fun x a e' => by cases e'; exact ⟨h2.2 e b rfl, h3.2 v d rfl⟩⟩
abbrev L98 : List Ent := [entS 117 (prR A1 plainP), entS 95 (prR A95 valsP)]
section
variable {n low : Nat} {o : Tr AObj} {r fid g : Nat} {l : List Nat} {at_ : Nat}
theorem L98_plain (h : PrAt ⟨n, low, o⟩ r fid g l at_) : orcL L98 117 [.ptr r 0 0] ⟨n, low, o⟩ = some (prRes plainP r fid g l at_ ⟨n, low, o⟩) := prR_same A1_inj h
theorem L98_read (h : PrAt ⟨n, low, o⟩ r fid g l at_) : orcL L98 95 [.ptr r 0 0, .func (.func 96) [.ptr r 0 0] []] ⟨n, low, o⟩ = some (prRes valsP r fid g l at_ ⟨n, low, o⟩) := (entS_ne (by decide)).trans (prR_same A95_inj h)
end
theorem frC_underN {n : Nat} (f : Fr) : UnderE n (.agg (frC f)) := underE_agg (n := n) (fun x hx => by
  simp only [frC, List.mem_cons, List.not_mem_nil, or_false] at hx
  rcases hx with rfl | rfl | rfl
  · exact ⟨1, rfl⟩
  · exact valsA_under
  · exact valsA_under)
set_option maxHeartbeats 1000000 in
theorem frame_ok : ∀ args s res, prR A1 frP args s res → Sound Tryz.prog 98 args s res := by
  rintro args ⟨n, low0, o0⟩ res ⟨r, fid, g, l, at0, rfl, ⟨hr, hg, hgf, hne, hby, hll, hat⟩, rfl⟩
  have hfn : fid < n := Sto.get_lt hgf
  have hr' : r < n := hr
  rw [Sto.get_mk hr'] at hg
  rw [Sto.get_mk hfn] at hgf
  have f1 := frI hr'
  have f2 := frI hfn
  refine sound_wk (L := L98) (elist_cons (entS_ok plain_ok) (elist_cons (entS_ok readV_ok) elist_nil)) noHint (by kernel_rfl) Tryz.func98 Tryz.ntmps98 Tryz.results98 rfl rfl ?_
  obtain ⟨z, hz⟩ : ∃ z, z = obg 0 [.int .i64 0, .nils, .nils] := ⟨_, rfl⟩
  have g1 : (o0.set n (obg 0 [.int .i64 0, .nils, .nils])).get r = some (prO fid g l at0) := by rw [Tr.get_set_ne _ _ (by omega)]; exact hg
  have g2 : (o0.set n (obg 0 [.int .i64 0, .nils, .nils])).get fid = some (obg g (l.map encB)) := by rw [Tr.get_set_ne _ _ (by omega)]; exact hgf
  have hc1 := L98_plain (PrAt.mk' (n := n + 1) (low := n) (by omega) (by omega) g1 g2 hne hby hll hat)
  have h1 := (plainN_le hby hat).1
  cases hx : plainN l at0 with
  | fail j =>
    rw [prRes_fail (show plainP l at0 = .fail j by unfold plainP; rw [hx]; rfl)] at hc1
    simp +contextual +decide (maxSteps := 1000000) only [↓ wP, wQ, tf, Nat.reduceAdd, ne_eq, hc1, endK_panic]
    exact prc_fail (by unfold frP frN_; rw [hx]; rfl) hr' hfn (by omega) (by repeat' first | exact Nat.le_refl _ | apply le_min | omega) (by rw [Tr.get_set_same]) (fun id h1 h2 => by rw [Tr.get_set_ne _ _ h2, Tr.get_set_ne _ _ (by omega)])
  | ok c a1 =>
    rw [hx] at h1
    have h1' : a1 ≤ l.length + 1000 := h1
    rw [prRes_ok (show plainP l at0 = .ok (.int .i64 (c : Nat)) a1 by unfold plainP; rw [hx]; rfl)] at hc1
    have hc2 := L98_read (PrAt.mk' (n := n + 1) (low := Nat.min r n) (o := (o0.set n (obg 0 [.int .i64 0, .nils, .nils])).set r (prO fid g l a1)) (by omega) (by omega) (by rw [Tr.get_set_same]) (by rw [Tr.get_set_ne _ _ hne]; exact g2) hne hby hll h1')
    have h2 := (valsN_le hby h1').1
    cases hy : valsN l a1 with
    | fail j =>
      rw [prRes_fail (show valsP l a1 = .fail j by unfold valsP; rw [hy]; rfl)] at hc2
      simp +contextual +decide (maxSteps := 1000000) only [↓ wP, wQ, tf, Nat.reduceAdd, ne_eq, hc1, hc2, endK_panic]
      exact prc_fail (by unfold frP frN_; rw [hx]; simp only [hy]; rfl) hr' hfn (by omega) (by repeat' first | exact Nat.le_refl _ | apply le_min | omega) (by rw [Tr.get_set_same]) (fun id h1 h2 => by rw [Tr.get_set_ne _ _ h2, Tr.get_set_ne _ _ h2, Tr.get_set_ne _ _ (by omega)])
    | ok e a2 =>
      rw [hy] at h2
      have h2' : a2 ≤ l.length + 1000 := h2
      rw [prRes_ok (show valsP l a1 = .ok (valsA e) a2 by unfold valsP; rw [hy]; rfl)] at hc2
      have hc3 := L98_read (PrAt.mk' (n := n + 1) (low := Nat.min r (Nat.min r n)) (o := ((o0.set n (obg 0 [.int .i64 0, .nils, .nils])).set r (prO fid g l a1)).set r (prO fid g l a2)) (by omega) (by omega) (by rw [Tr.get_set_same]) (by rw [Tr.get_set_ne _ _ hne, Tr.get_set_ne _ _ hne]; exact g2) hne hby hll h2')
      cases hw : valsN l a2 with
      | fail j =>
        rw [prRes_fail (show valsP l a2 = .fail j by unfold valsP; rw [hw]; rfl)] at hc3
        simp +contextual +decide (maxSteps := 1000000) only [↓ wP, wQ, tf, Nat.reduceAdd, ne_eq, hc1, hc2, hc3, endK_panic]
        exact prc_fail (by unfold frP frN_; rw [hx]; simp only [hy, hw]; rfl) hr' hfn (by omega) (by repeat' first | exact Nat.le_refl _ | apply le_min | omega) (by rw [Tr.get_set_same]) (fun id h1 h2 => by rw [Tr.get_set_ne _ _ h2, Tr.get_set_ne _ _ h2, Tr.get_set_ne _ _ h2, Tr.get_set_ne _ _ (by omega)])
      | ok v a3 =>
        rw [prRes_ok (show valsP l a2 = .ok (valsA v) a3 by unfold valsP; rw [hw]; rfl)] at hc3
        have gn : ((((o0.set n (obg 0 [.int .i64 0, .nils, .nils])).set r (prO fid g l a1)).set r (prO fid g l a2)).set r (prO fid g l a3)).get n = some (obg 0 [.int .i64 0, .nils, .nils]) := by rw [Tr.get_set_ne _ _ (by omega), Tr.get_set_ne _ _ (by omega), Tr.get_set_ne _ _ (by omega), Tr.get_set_same]
        simp +contextual +decide (maxSteps := 1000000) only [↓ wP, wQ, tf, Nat.reduceAdd, ne_eq, hc1, hc2, hc3, f1, frN, gn, valsA_cell, dresults_cell, Option.bind_some]
        exact prc_ok (v := .agg (frC ⟨(c : Nat), e, v⟩)) (by unfold frP frN_; rw [hx]; simp only [hy, hw]; rfl) hr' hfn (by omega) (by repeat' first | exact Nat.le_refl _ | apply le_min | omega) (by rw [Tr.get_set_ne _ _ (by omega), Tr.get_set_same]) (fun id h1 h2 => by rw [Tr.get_set_ne _ _ (by omega), Tr.get_set_ne _ _ h2, Tr.get_set_ne _ _ h2, Tr.get_set_ne _ _ h2, Tr.get_set_ne _ _ (by omega)]) (.und _ (frC_underN ⟨(c : Nat), e, v⟩).und)
end
end Go.Proofs.YtajngkkihadgfaaGreat
/-
  The program of images: its reader reads lists of frames.
-/
namespace Go.Proofs.YtajngkkihadgfaaGreat
open Go.Abs Go Go.Abs.TryzF
noncomputable section
set_option maxRecDepth 10000
def frsGoP (l : List Nat) : Nat → List Fr → Nat → PR (List Fr)
  | 0, acc, at_ => .ok acc at_
  | k + 1, acc, at_ => match frN_ l at_ with
    | .fail j => .fail j
    | .ok v a => frsGoP l k (acc ++ [v]) a
def frsN (l : List Nat) (at_ : Nat) : PR (List Fr) := match plainN l at_ with
  | .fail j => .fail j
  | .ok n a => if n ≤ l.length then frsGoP l n [] a else .fail a
def frsP (l : List Nat) (at_ : Nat) : PR AV := (frsN l at_).map frsA
theorem frsGoP_le {l : List Nat} (hb : By l) : ∀ (k : Nat) (acc : List Fr) (at_ : Nat), at_ ≤ l.length + 1000 → (frsGoP l k acc at_).le (l.length + 1000) ∧ ∀ x a, frsGoP l k acc at_ = .ok x a → x.length = acc.length + k
  | 0, acc, at_, h => ⟨h, fun x a e => by cases e; rfl⟩
  | k + 1, acc, at_, h => by
    have h1 := (frN_le hb h).1
    unfold frsGoP
    cases hx : frN_ l at_ with
    | fail j => rw [hx] at h1; exact ⟨h1, fun x a e => by cases e⟩
    | ok v a =>
      rw [hx] at h1
      have := frsGoP_le hb k (acc ++ [v]) a h1
      refine ⟨this.1, fun x b e => ?_⟩
      rw [this.2 x b e, List.length_append, List.length_singleton]; omega
theorem frsN_le {l : List Nat} (hb : By l) {at_ : Nat} (h : at_ ≤ l.length + 1000) : (frsN l at_).le (l.length + 1000) ∧ ∀ x a, frsN l at_ = .ok x a → x.length ≤ l.length := by
  have h1 := (plainN_le hb h).1
  unfold frsN
  cases hx : plainN l at_ with
  | fail j => rw [hx] at h1; exact ⟨h1, fun x a e => by cases e⟩
  | ok n a =>
    rw [hx] at h1
    simp only
    split
    · rename_i hn
      have := frsGoP_le hb n [] a h1
      exact ⟨this.1, fun x b e => by rw [this.2 x b e]; simpa using hn⟩
    · exact ⟨h1, fun x a e => by cases e⟩
abbrev A97 (r : Nat) : List AV := [.ptr r 0 0, .func (.func 98) [.ptr r 0 0] []]
theorem A97_inj : ∀ r r', A97 r = A97 r' → r = r' := fun r r' h => by simp [A97] at h; exact h
abbrev L97 : List Ent := [entS 124 wantR, entS 117 (prR A1 plainP), entS 98 (prR A1 frP)]
section
variable {n low : Nat} {o : Tr AObj} {r fid g : Nat} {l : List Nat} {at_ : Nat}
theorem L97_plain (h : PrAt ⟨n, low, o⟩ r fid g l at_) : orcL L97 117 [.ptr r 0 0] ⟨n, low, o⟩ = some (prRes plainP r fid g l at_ ⟨n, low, o⟩) := (entS_ne (by decide)).trans (prR_same A1_inj h)
theorem L97_frame (h : PrAt ⟨n, low, o⟩ r fid g l at_) : orcL L97 98 [.ptr r 0 0] ⟨n, low, o⟩ = some (prRes frP r fid g l at_ ⟨n, low, o⟩) := (entS_ne (by decide)).trans ((entS_ne (by decide)).trans (prR_same A1_inj h))
end
set_option maxHeartbeats 2000000 in
theorem readF_ok : ∀ args s res, prR A97 frsP args s res → Sound Tryz.prog 97 args s res := by
  rintro args ⟨n, low0, o0⟩ res ⟨r, fid, g, l, at0, rfl, ⟨hr, hg, hgf, hne, hby, hll, hat⟩, rfl⟩
  have hfn : fid < n := Sto.get_lt hgf
  have hr' : r < n := hr
  rw [Sto.get_mk hr'] at hg
  rw [Sto.get_mk hfn] at hgf
  have f1 := frI hr'
  have f2 := frI hfn
  refine sound_wk (L := L97) (elist_cons (entS_ok want_ok) (elist_cons (entS_ok plain_ok) (elist_cons (entS_ok frame_ok) elist_nil))) (fun _ => ([], [11])) (by kernel_rfl) Tryz.func97 Tryz.ntmps97 Tryz.results97 rfl rfl ?_
  have hcall := L97_plain (PrAt.mk' (low := n) hr' hfn hg hgf hne hby hll hat)
  obtain ⟨h1, h2⟩ := plainN_le hby hat
  cases hx : plainN l at0 with
  | fail j =>
    rw [prRes_fail (show plainP l at0 = .fail j by unfold plainP; rw [hx]; rfl)] at hcall
    simp +contextual +decide (maxSteps := 1000000) only [↓ wP, wQ, tf, Nat.reduceAdd, ne_eq, hcall, endK_panic]
    exact prc_fail (by unfold frsP frsN; rw [hx]; rfl) hr' hfn (Nat.le_refl n) (le_min (Nat.le_refl r) (by omega)) (by rw [Tr.get_set_same]) (fun id h1 h2 => by rw [Tr.get_set_ne _ _ h2])
  | ok c a1 =>
    rw [hx] at h1
    have h1' : a1 ≤ l.length + 1000 := h1
    rw [prRes_ok (show plainP l at0 = .ok (.int .i64 (c : Nat)) a1 by unfold plainP; rw [hx]; rfl)] at hcall
    have d1 : (((c : Nat) : Int) ≤ (l.length : Nat)) = (c ≤ l.length) := propext (by omega)
    have md : modeD [11] = false := rfl
    have ld0 : ∀ k, ldK (some none) (some (prO fid g l k)) 0 0 = some (.sl fid g 0 l.length (.room 1)) := fun _ => rfl
    have ld1 : ∀ k : Nat, ldK (some none) (some (prO fid g l k)) 0 1 = some (.int .i64 (k : Nat)) := fun _ => rfl
    by_cases hcl : c ≤ l.length
    rotate_left
    · have hw := want_eq (L := [entS 117 (prR A1 plainP), entS 98 (prR A1 frP)]) false a1
      simp only [Bool.false_eq_true, if_false] at hw
      simp +contextual +decide (maxSteps := 1000000) only [↓ wP, wQ, tf, Nat.reduceAdd, ne_eq, hcall, d1, hcl, md, ld0, ld1, hw, f1, f2, endK_forget]
      exact prc_fail (by unfold frsP frsN; rw [hx]; simp only [hcl, if_false]; rfl) hr' hfn (Nat.le_refl n) (le_min (Nat.le_refl r) (by omega)) (by rw [Tr.get_set_same]) (fun id h1 h2 => by rw [Tr.get_set_ne _ _ h2])
    have hw := want_eq (L := [entS 117 (prR A1 plainP), entS 98 (prR A1 frP)]) true a1
    simp only [if_true] at hw
    have hR : frsN l at0 = frsGoP l c [] a1 := by unfold frsN; rw [hx]; simp only [hcl, if_true]
    simp +contextual +decide (maxSteps := 1000000) only [↓ wP, wQ, tf, Nat.reduceAdd, ne_eq, hcall, d1, hcl, md, ld0, ld1, hw, f1, f2]
    refine Wk_loop (fun i e => ∃ t n' low o v acc at_, e = ⟨33, none, 97, t, [], ⟨n', low, o⟩, .no⟩ ∧ t.val 1 = .func (.func 98) [.ptr r 0 0] [] ∧ t.val 6 = v ∧ t.val 22 = .int .i64 (c : Nat) ∧ t.val 23 = .int .i64 (i : Nat) ∧ i ≤ c ∧ FAcc n n' o v acc ∧ acc.length = i ∧ frsGoP l (c - i) acc at_ = frsN l at0 ∧ at_ ≤ l.length + 1000 ∧ n ≤ n' ∧ r ≤ low ∧ o.get r = some (prO fid g l at_) ∧ ∀ id, id < n → id ≠ r → o.get id = o0.get id) (fun i => c - i) 0
      ⟨_, n, _, _, .nils, [], a1, rfl, by simp +decide only [↓ wval, wint, wlog], by simp +decide only [↓ wval, wint, wlog], by simp +decide only [↓ wval, wint, wlog], by simp +decide only [↓ wval, wint, wlog]; rfl, Nat.zero_le _, .inl ⟨rfl, rfl⟩, rfl, hR.symm, h1', Nat.le_refl _, le_min (Nat.le_refl r) (by omega), by rw [Tr.get_set_same], fun id h1 h2 => by rw [Tr.get_set_ne _ _ h2]⟩ ?_
    rintro i _ ⟨t, n', low, o, v, acc, at_, rfl, t1, t6, t22, t23, hi, hacc, hal, hgo, hat', hn, hlow, hgr, hoth⟩
    have f3 := frI (show r < n' by omega)
    by_cases hlt : i < c
    · have d2 : ((i : Int) < (c : Nat)) = True := eq_true (by omega)
      have d5 := wrap_succ (i := i) (by omega)
      have hc2 := L97_frame (PrAt.mk' (n := n') (low := low) (by omega) (by omega) hgr (by rw [hoth fid hfn hne]; exact hgf) hne hby hll hat')
      have hgo' : frsN l at0 = match frN_ l at_ with
          | .fail j => .fail j
          | .ok v a => frsGoP l (c - (i + 1)) (acc ++ [v]) a := by
        rw [← hgo, show c - i = (c - (i + 1)) + 1 by omega]; rfl
      have hvl := (frN_le hby hat').1
      cases hy : frN_ l at_ with
      | fail j =>
        rw [hy] at hgo'
        rw [prRes_fail (show frP l at_ = .fail j by unfold frP; rw [hy]; rfl)] at hc2
        simp +contextual +decide (maxSteps := 1000000) only [↓ wP, wQ, tf, Nat.reduceAdd, ne_eq, t1, t6, t22, t23, d2, hc2, endK_panic]
        exact prc_fail (by unfold frsP; rw [hgo']; rfl) hr' hfn hn (le_min (Nat.le_refl r) hlow) (by rw [Tr.get_set_same]) (fun id h1 h2 => by rw [Tr.get_set_ne _ _ h2]; exact hoth id h1 h2)
      | ok w a2 =>
        rw [hy] at hgo' hvl
        rw [prRes_ok (show frP l at_ = .ok (.agg [.int .i64 w.node, valsA w.env, valsA w.vals]) a2 by unfold frP; rw [hy]; rfl)] at hc2
        have hsmall : (2 * (acc.length + 1) + 1024) * 56 ≤ 281474976710656 ∧ acc.length + 1 < 4611686018427387904 := ⟨by omega, by omega⟩
        rcases hacc with ⟨hL, rfl⟩ | ⟨hL, id, g', rfl, hid, hid0, hidn⟩
        · simp +contextual +decide (maxSteps := 1000000) only [↓ wP, wQ, tf, Nat.reduceAdd, ne_eq, t1, t6, t22, t23, d2, d5, hc2, f3, frN, frM, valsA_cell, hsmall, Nat.reduceMul, Nat.mul_one, Nat.zero_mul, Nat.zero_add]
          refine ⟨i + 1, by show _ - _ < _ - _; omega, _, n' + 1 + 1 + 1, _, _, .sl (n' + 1 + 1) 0 0 1 (.room 3), acc ++ [w], a2, rfl, by simp +decide only [↓ wval, wint, wlog, t1], by simp +decide only [↓ wval, wint, wlog], by simp +decide only [↓ wval, wint, wlog, t22], by simp +decide only [↓ wval, wint, wlog], hlt, .inr ⟨by simp, n' + 1 + 1, 0, ?_, ?_, by omega, by omega⟩, by rw [List.length_append, hal]; rfl, hgo'.symm, hvl, by omega, (by repeat' first | exact Nat.le_refl _ | exact hlow | apply le_min | omega), ?_, ?_⟩
          · rw [List.length_append, hL]; rfl
          · simp +decide only [↓ wval, f3, frN, ne_eq]
            rw [hL]; rfl
          · simp +decide only [↓ wval, f3,  frN, ne_eq]
          · intro id' h1 h2
            have f5 := frI (show id' < n' by omega)
            have f7 : id' ≠ r ∧ True := ⟨h2, trivial⟩
            simp +decide only [↓ wval, f5, f7, ne_eq]
            exact hoth id' h1 h2
        · have f4 := frI hidn
          have f6 : id ≠ r ∧ r ≠ id := ⟨by omega, by omega⟩
          have hfl : (acc.map frC).flatten.length = acc.length * 3 := by rw [flatten_len _ (frC_len _), List.length_map]
          simp +contextual +decide (maxSteps := 1000000) only [↓ wP, wQ, tf, Nat.reduceAdd, ne_eq, t1, t6, t22, t23, d2, d5, hc2, f3, f4, f6, hid, hfl, frN, frM, valsA_cell, hsmall, Nat.reduceMul, Nat.mul_one, Nat.zero_mul, Nat.zero_add]
          refine ⟨i + 1, by show _ - _ < _ - _; omega, _, n' + 1 + 1, _, _, .sl id (g' + 1) 0 (acc.length + 1) (.room 3), acc ++ [w], a2, rfl, by simp +decide only [↓ wval, wint, wlog, t1], by simp +decide only [↓ wval, wint, wlog], by simp +decide only [↓ wval, wint, wlog, t22], by simp +decide only [↓ wval, wint, wlog], hlt, .inr ⟨by simp, id, g' + 1, ?_, ?_, hid0, by omega⟩, by rw [List.length_append, hal]; rfl, hgo'.symm, hvl, by omega, (by repeat' first | exact Nat.le_refl _ | exact hlow | apply le_min | omega), ?_, ?_⟩
          · rw [List.length_append]; rfl
          · simp +decide only [↓ wval, f3, f4, f6, frN, ne_eq]
            rw [List.map_append, List.flatten_append]; rfl
          · simp +decide only [↓ wval, f3, f4, f6, frN, ne_eq]
          · intro id' h1 h2
            have f5 := frI (show id' < n' by omega)
            have f7 : id' ≠ r ∧ id' ≠ id := ⟨h2, by omega⟩
            simp +decide only [↓ wval, f5, f7, ne_eq]
            exact hoth id' h1 h2
    · have : i = c := by omega
      subst this
      have d2 : (((i : Nat) : Int) < (i : Nat)) = False := eq_false (by omega)
      simp +contextual +decide (maxSteps := 1000000) only [↓ wP, wQ, tf, Nat.reduceAdd, ne_eq, t1, t6, t22, t23, d2]
      exact prc_ok (v := frsA acc) (by unfold frsP; rw [← hgo, Nat.sub_self]; rfl) hr' hfn hn hlow hgr hoth hacc.frz
end
end Go.Proofs.YtajngkkihadgfaaGreat
/-
  The program of images: its reader reads an object.
-/
namespace Go.Proofs.YtajngkkihadgfaaGreat
open Go.Abs Go Go.Abs.TryzF
noncomputable section
set_option maxRecDepth 10000
def obN_ (l : List Nat) (at_ : Nat) : PR Ob := match nextN l at_ with
  | .fail j => .fail j
  | .ok c a => match sgnN l a with
    | .fail j => .fail j
    | .ok m b => match valsN l b with
      | .fail j => .fail j
      | .ok v d => match frsN l d with
        | .fail j => .fail j
        | .ok f e => .ok ⟨(c : Nat), m, v, f⟩ e
def obP (l : List Nat) (at_ : Nat) : PR AV := (obN_ l at_).map obA
abbrev L42 : List Ent := [entS 93 (prR A1 nextP), entS 94 (prR A1 sgnP), entS 95 (prR A95 valsP), entS 97 (prR A97 frsP)]
section
variable {n low : Nat} {o : Tr AObj} {r fid g : Nat} {l : List Nat} {at_ : Nat}
theorem L42_next (h : PrAt ⟨n, low, o⟩ r fid g l at_) : orcL L42 93 [.ptr r 0 0] ⟨n, low, o⟩ = some (prRes nextP r fid g l at_ ⟨n, low, o⟩) := prR_same A1_inj h
theorem L42_sgn (h : PrAt ⟨n, low, o⟩ r fid g l at_) : orcL L42 94 [.ptr r 0 0] ⟨n, low, o⟩ = some (prRes sgnP r fid g l at_ ⟨n, low, o⟩) := (entS_ne (by decide)).trans (prR_same A1_inj h)
theorem L42_vals (h : PrAt ⟨n, low, o⟩ r fid g l at_) : orcL L42 95 [.ptr r 0 0, .func (.func 96) [.ptr r 0 0] []] ⟨n, low, o⟩ = some (prRes valsP r fid g l at_ ⟨n, low, o⟩) := (entS_ne (by decide)).trans ((entS_ne (by decide)).trans (prR_same A95_inj h))
theorem L42_frs (h : PrAt ⟨n, low, o⟩ r fid g l at_) : orcL L42 97 [.ptr r 0 0, .func (.func 98) [.ptr r 0 0] []] ⟨n, low, o⟩ = some (prRes frsP r fid g l at_ ⟨n, low, o⟩) := (entS_ne (by decide)).trans ((entS_ne (by decide)).trans ((entS_ne (by decide)).trans (prR_same A97_inj h)))
end
set_option maxHeartbeats 2000000 in
theorem object_ok : ∀ args s res, prR A1 obP args s res → Sound Tryz.prog 42 args s res := by
  rintro args ⟨n, low0, o0⟩ res ⟨r, fid, g, l, at0, rfl, ⟨hr, hg, hgf, hne, hby, hll, hat⟩, rfl⟩
  have hfn : fid < n := Sto.get_lt hgf
  have hr' : r < n := hr
  rw [Sto.get_mk hr'] at hg
  rw [Sto.get_mk hfn] at hgf
  have f1 := frI hr'
  have f2 := frI hfn
  refine sound_wk (L := L42) (elist_cons (entS_ok next_ok) (elist_cons (entS_ok sgn_ok) (elist_cons (entS_ok readV_ok) (elist_cons (entS_ok readF_ok) elist_nil)))) noHint (by kernel_rfl) Tryz.func42 Tryz.ntmps42 Tryz.results42 rfl rfl ?_
  have g1 : (o0.set n (obg 0 [.int .i64 0, .int .i64 0, .nils, .nils])).get r = some (prO fid g l at0) := by rw [Tr.get_set_ne _ _ (by omega)]; exact hg
  have g2 : (o0.set n (obg 0 [.int .i64 0, .int .i64 0, .nils, .nils])).get fid = some (obg g (l.map encB)) := by rw [Tr.get_set_ne _ _ (by omega)]; exact hgf
  have hc1 := L42_next (PrAt.mk' (n := n + 1) (low := n) (by omega) (by omega) g1 g2 hne hby hll hat)
  have h1 := nextN_ok hby hat
  cases hx : nextN l at0 with
  | fail j =>
    rw [prRes_fail (show nextP l at0 = .fail j by unfold nextP; rw [hx]; rfl)] at hc1
    simp +contextual +decide (maxSteps := 1000000) only [↓ wP, wQ, tf, Nat.reduceAdd, ne_eq, hc1, endK_panic]
    exact prc_fail (by unfold obP obN_; rw [hx]; rfl) hr' hfn (by omega) (by repeat' first | exact Nat.le_refl _ | apply le_min | omega) (by rw [Tr.get_set_same]) (fun id h1 h2 => by rw [Tr.get_set_ne _ _ h2, Tr.get_set_ne _ _ (by omega)])
  | ok c a1 =>
    rw [hx] at h1
    have h1' : a1 ≤ l.length + 1000 := h1.2
    rw [prRes_ok (show nextP l at0 = .ok (.int .i64 (c : Nat)) a1 by unfold nextP; rw [hx]; rfl)] at hc1
    have hc2 := L42_sgn (PrAt.mk' (n := n + 1) (low := Nat.min r n) (o := (o0.set n (obg 0 [.int .i64 0, .int .i64 0, .nils, .nils])).set r (prO fid g l a1)) (by omega) (by omega) (by rw [Tr.get_set_same]) (by rw [Tr.get_set_ne _ _ hne]; exact g2) hne hby hll h1')
    have h2 := sgnN_le hby h1'
    cases hy : sgnN l a1 with
    | fail j =>
      rw [prRes_fail (show sgnP l a1 = .fail j by unfold sgnP; rw [hy]; rfl)] at hc2
      simp +contextual +decide (maxSteps := 1000000) only [↓ wP, wQ, tf, Nat.reduceAdd, ne_eq, hc1, hc2, endK_panic]
      exact prc_fail (by unfold obP obN_; rw [hx]; simp only [hy]; rfl) hr' hfn (by omega) (by repeat' first | exact Nat.le_refl _ | apply le_min | omega) (by rw [Tr.get_set_same]) (fun id h1 h2 => by rw [Tr.get_set_ne _ _ h2, Tr.get_set_ne _ _ h2, Tr.get_set_ne _ _ (by omega)])
    | ok m a2 =>
      rw [hy] at h2
      have h2' : a2 ≤ l.length + 1000 := h2
      rw [prRes_ok (show sgnP l a1 = .ok (.int .i64 m) a2 by unfold sgnP; rw [hy]; rfl)] at hc2
      have hc3 := L42_vals (PrAt.mk' (n := n + 1) (low := Nat.min r (Nat.min r n)) (o := ((o0.set n (obg 0 [.int .i64 0, .int .i64 0, .nils, .nils])).set r (prO fid g l a1)).set r (prO fid g l a2)) (by omega) (by omega) (by rw [Tr.get_set_same]) (by rw [Tr.get_set_ne _ _ hne, Tr.get_set_ne _ _ hne]; exact g2) hne hby hll h2')
      have h3 := (valsN_le hby h2').1
      cases hw : valsN l a2 with
      | fail j =>
        rw [prRes_fail (show valsP l a2 = .fail j by unfold valsP; rw [hw]; rfl)] at hc3
        simp +contextual +decide (maxSteps := 1000000) only [↓ wP, wQ, tf, Nat.reduceAdd, ne_eq, hc1, hc2, hc3, endK_panic]
        exact prc_fail (by unfold obP obN_; rw [hx]; simp only [hy, hw]; rfl) hr' hfn (by omega) (by repeat' first | exact Nat.le_refl _ | apply le_min | omega) (by rw [Tr.get_set_same]) (fun id h1 h2 => by rw [Tr.get_set_ne _ _ h2, Tr.get_set_ne _ _ h2, Tr.get_set_ne _ _ h2, Tr.get_set_ne _ _ (by omega)])
      | ok v a3 =>
        rw [hw] at h3
        have h3' : a3 ≤ l.length + 1000 := h3
        rw [prRes_ok (show valsP l a2 = .ok (valsA v) a3 by unfold valsP; rw [hw]; rfl)] at hc3
        have hc4 := L42_frs (PrAt.mk' (n := n + 1) (low := Nat.min r (Nat.min r (Nat.min r n))) (o := (((o0.set n (obg 0 [.int .i64 0, .int .i64 0, .nils, .nils])).set r (prO fid g l a1)).set r (prO fid g l a2)).set r (prO fid g l a3)) (by omega) (by omega) (by rw [Tr.get_set_same]) (by rw [Tr.get_set_ne _ _ hne, Tr.get_set_ne _ _ hne, Tr.get_set_ne _ _ hne]; exact g2) hne hby hll h3')
        cases hf : frsN l a3 with
        | fail j =>
          rw [prRes_fail (show frsP l a3 = .fail j by unfold frsP; rw [hf]; rfl)] at hc4
          simp +contextual +decide (maxSteps := 1000000) only [↓ wP, wQ, tf, Nat.reduceAdd, ne_eq, hc1, hc2, hc3, hc4, endK_panic]
          exact prc_fail (by unfold obP obN_; rw [hx]; simp only [hy, hw, hf]; rfl) hr' hfn (by omega) (by repeat' first | exact Nat.le_refl _ | apply le_min | omega) (by rw [Tr.get_set_same]) (fun id h1 h2 => by rw [Tr.get_set_ne _ _ h2, Tr.get_set_ne _ _ h2, Tr.get_set_ne _ _ h2, Tr.get_set_ne _ _ h2, Tr.get_set_ne _ _ (by omega)])
        | ok f a4 =>
          rw [prRes_ok (show frsP l a3 = .ok (frsA f) a4 by unfold frsP; rw [hf]; rfl)] at hc4
          have gn : (((((o0.set n (obg 0 [.int .i64 0, .int .i64 0, .nils, .nils])).set r (prO fid g l a1)).set r (prO fid g l a2)).set r (prO fid g l a3)).set r (prO fid g l a4)).get n = some (obg 0 [.int .i64 0, .int .i64 0, .nils, .nils]) := by rw [Tr.get_set_ne _ _ (by omega), Tr.get_set_ne _ _ (by omega), Tr.get_set_ne _ _ (by omega), Tr.get_set_ne _ _ (by omega), Tr.get_set_same]
          simp +contextual +decide (maxSteps := 1000000) only [↓ wP, wQ, tf, Nat.reduceAdd, ne_eq, hc1, hc2, hc3, hc4, f1, frN, gn, valsA_cell, frsA_cell, dresults_cell, Option.bind_some]
          exact prc_ok (v := obA ⟨(c : Nat), m, v, f⟩) (by unfold obP obN_; rw [hx]; simp only [hy, hw, hf]; rfl) hr' hfn (by omega) (by repeat' first | exact Nat.le_refl _ | apply le_min | omega) (by rw [Tr.get_set_ne _ _ (by omega), Tr.get_set_same]) (fun id h1 h2 => by rw [Tr.get_set_ne _ _ (by omega), Tr.get_set_ne _ _ h2, Tr.get_set_ne _ _ h2, Tr.get_set_ne _ _ h2, Tr.get_set_ne _ _ h2, Tr.get_set_ne _ _ (by omega)]) (.und _ (obA_under (o := ⟨(c : Nat), m, v, f⟩)).und)
end
end Go.Proofs.YtajngkkihadgfaaGreat
