/-
  The reference of images: its reader reads lists of values.
-/
import Derived.Test.YtajngkkihadgfaaGreatHd
set_option linter.unusedVariables false
set_option linter.unusedSimpArgs false

namespace Go.Proofs.YtajngkkihadgfaaGreat
open Go.Abs Go Go.Abs.TryzF
noncomputable section
set_option maxRecDepth 10000

def listGo (l : List Nat) (n : Nat) : Nat → Nat → List Val → Nat × Bool → List Val × Nat × Bool
  | 0, _, acc, st => (acc, st)
  | k + 1, i, acc, st => if i < n ∧ i ≤ 30 ∧ st.2 = false then listGo l n k (i + 1) (acc ++ [((((oneF l st).1 : Nat) : Int), (sgnF l (oneF l st).2).1)]) (sgnF l (oneF l st).2).2 else (acc, st)
def listF (l : List Nat) (st : Nat × Bool) : List Val × Nat × Bool := listGo l (numF l st).1 32 0 [] (numF l st).2
/-- a list of values as it is returned -/
def valsA (l : List Val) : AV := if l = [] then .nils else .fz (l.map valI) false
def listRV (l : List Nat) (st : Nat × Bool) : AV × Nat × Bool := (valsA (listF l st).1, (listF l st).2)
def valC (v : Val) : List AV := [.int .i64 v.1, .int .i64 v.2]
theorem valC_len (l : List Val) : ∀ x ∈ l.map valC, x.length = 2 := fun x hx => by obtain ⟨y, _, rfl⟩ := List.mem_map.1 hx; rfl
theorem valC_agg (l : List Val) : (l.map valC).map .agg = l.map valI := by rw [List.map_map]; rfl
/-- values in a slice of one's own -/
def VAcc (n0 n : Nat) (o : Tr AObj) (v : AV) (l : List Val) : Prop := (l = [] ∧ v = .nils) ∨ (l ≠ [] ∧ ∃ id g, v = .sl id g 0 l.length (.room 2) ∧ o.get id = some (obg g (l.map valC).flatten) ∧ n0 ≤ id ∧ id < n)
theorem VAcc.frz {n0 n low : Nat} {o : Tr AObj} {v : AV} {l : List Val} (h : VAcc n0 n o v l) : Frz ⟨n, low, o⟩ n0 v (valsA l) := by
  rcases h with ⟨rfl, rfl⟩ | ⟨hl, id, g, rfl, hid, h1, h2⟩
  · exact .und _ und_nils
  · rw [valsA, if_neg hl, ← valC_agg]
    refine frz_slk (g := g) (k := 2) h1 (by rw [Sto.get_mk h2]; exact hid) (by simp) (valC_len _) fun x hx y hy => ?_
    obtain ⟨z, _, rfl⟩ := List.mem_map.1 hx
    simp only [valC, List.mem_cons, List.not_mem_nil, or_false] at hy
    rcases hy with rfl | rfl <;> exact und_int
theorem sgnF_ok {l : List Nat} {st : Nat × Bool} (h : rdOk l st) : rdOk l (sgnF l st).2 := (numF_ok h).2
theorem listGo_ok {l : List Nat} {n : Nat} : ∀ (k i : Nat) (acc : List Val) (st : Nat × Bool), rdOk l st → rdOk l (listGo l n k i acc st).2
  | 0, _, _, _, h => h
  | k + 1, i, acc, st, h => by
    unfold listGo
    split
    · exact listGo_ok k _ _ _ (sgnF_ok (oneF_ok h).2)
    · exact h
theorem listF_ok {l : List Nat} {st : Nat × Bool} (h : rdOk l st) : rdOk l (listF l st).2 := listGo_ok _ _ _ _ (numF_ok h).2
theorem turn1_frz {n low low' r n' : Nat} {o o' : Tr AObj} {x : AObj} {rv v : AV} (hr : r < n) (hn : n ≤ n') (hl : r ≤ low') (hx : o'.get r = some x) (ho : ∀ id, id < n → id ≠ r → o'.get id = o.get id) (hv : Frz ⟨n', low', o'⟩ n rv v) : turn1 ⟨n, low, o⟩ r x v ⟨n', low', o'⟩ rv := by
  refine ⟨hl, by rw [Sto.get_mk (by omega)]; exact hx, fun id hid hne => ?_, hv⟩
  have hid' : id < n := hid
  rw [Sto.get_mk hid', Sto.get_mk (by omega)]; exact ho id hid' hne
set_option maxHeartbeats 2000000 in
theorem rrlist_ok : ∀ args s res, rdR listRV args s res → Sound Tryz.prog 131 args s res := by
  rintro args ⟨n0, low0, o0⟩ res ⟨r, l, st0, rfl, hr, hg, hok, rfl⟩
  have hr' : r < n0 := hr
  rw [Sto.get_mk hr'] at hg
  refine sound_turn (L := [entS 121 (rdR numV), entS 120 (rdR oneV), entS 122 (rdR sgnV)]) (elist_cons (entS_ok rnum_ok) (elist_cons (entS_ok rone_ok) (elist_cons (entS_ok rsgn_ok) elist_nil))) noHint (by kernel_rfl) Tryz.func131 Tryz.ntmps131 Tryz.results131 rfl rfl hr rdO_und ?_
  have f0 := frI hr'
  have hcn := rdR_same (f := 121) (F := numV) (L := [entS 120 (rdR oneV), entS 122 (rdR sgnV)]) (low := n0) hr' hg hok
  obtain ⟨q1, q2⟩ := numF_ok hok
  have hlf : listF l st0 = listGo l (numF l st0).1 32 0 [] (numF l st0).2 := rfl
  generalize hx : numF l st0 = x at *
  obtain ⟨c, st1⟩ := x
  simp only at q1 q2 hlf
  have hv : numV l st0 = (.int .i64 (c : Nat), st1) := by rw [numV, hx]
  rw [hv] at hcn
  simp only at hcn
  simp (config := {contextual := true, decide := true, maxSteps := 1000000}) only [↓ wpre, ↓ wval, wpost, wint, wlog, wcell, wop, wop2, wdr, wdr2, wloop, wrng, wfld, tf, Nat.reduceAdd, Wop_ext, extV_tuple, ne_eq, hcn]
  refine Wk_loop (fun i e => ∃ t n low o v acc st, e = ⟨35, none, 131, t, [], ⟨n, low, o⟩, .no⟩ ∧ t.val 0 = .ptr r 0 0 ∧ t.val 3 = .int .i64 (c : Nat) ∧ t.val 4 = v ∧ t.val 5 = .int .i64 (i : Nat) ∧ i ≤ 31 ∧ VAcc n0 n o v acc ∧ acc.length = i ∧ listGo l c (32 - i) i acc st = listF l st0 ∧ rdOk l st ∧ n0 ≤ n ∧ o.get r = some (rdO l st) ∧ r ≤ low ∧ ∀ id, id < n0 → id ≠ r → o.get id = o0.get id) (fun i => 31 - i) 0
    ⟨_, n0, _, _, .nils, [], st1, rfl, by simp (config := {decide := true}) only [↓ wval, wint, wlog], by simp (config := {decide := true}) only [↓ wval, wint, wlog], by simp (config := {decide := true}) only [↓ wval, wint, wlog], by simp (config := {decide := true}) only [↓ wval, wint, wlog]; rfl, by omega, .inl ⟨rfl, rfl⟩, rfl, hlf.symm, q2, Nat.le_refl _, by rw [Tr.get_set_same], le_min (Nat.le_refl r) (by omega), fun id h1 h2 => by rw [Tr.get_set_ne _ _ h2]⟩ ?_
  rintro i _ ⟨t, n, low, o, v, acc, ⟨at_, bad⟩, rfl, t0, t3, t4, t5, hi, hacc, hal, hgo, hst, hn, hgr, hlow, hoth⟩
  have hrn : r < n := by omega
  have f1 := frI hrn
  have hgr' := hgr
  unfold rdO at hgr
  simp only at hgr
  have hgo1 : listF l st0 = if i < c ∧ i ≤ 30 ∧ bad = false then listGo l c (32 - (i + 1)) (i + 1) (acc ++ [((((oneF l (at_, bad)).1 : Nat) : Int), (sgnF l (oneF l (at_, bad)).2).1)]) (sgnF l (oneF l (at_, bad)).2).2 else (acc, at_, bad) := by
    rw [← hgo, show 32 - i = (32 - (i + 1)) + 1 by omega]; rfl
  have d1 : ((i : Int) < (c : Nat)) = (i < c) := propext (by omega)
  have d2 : ((i : Int) ≤ 30) = (i ≤ 30) := propext (by omega)
  have hstop : ¬ (i < c ∧ i ≤ 30 ∧ bad = false) → turn1 ⟨n0, low0, o0⟩ r (rdO l (listRV l st0).2) (listRV l st0).1 ⟨n, low, o⟩ v := fun h => by
    rw [if_neg h] at hgo1
    have e6 : listRV l st0 = (valsA acc, at_, bad) := by rw [listRV, hgo1]
    rw [e6]
    exact turn1_frz hr' hn hlow hgr' hoth hacc.frz
  by_cases c1 : i < c
  rotate_left
  · simp (config := {contextual := true, decide := true, maxSteps := 1000000}) only [↓ wpre, ↓ wval, wpost, wint, wlog, wcell, wop, wop2, wdr, wdr2, wloop, wrng, wfld, tf, Nat.reduceAdd, Wop_ext, extV_tuple, ne_eq, t0, t3, t4, t5, d1, c1]
    exact hstop (fun h => c1 h.1)
  by_cases c2 : i ≤ 30
  rotate_left
  · simp (config := {contextual := true, decide := true, maxSteps := 1000000}) only [↓ wpre, ↓ wval, wpost, wint, wlog, wcell, wop, wop2, wdr, wdr2, wloop, wrng, wfld, tf, Nat.reduceAdd, Wop_ext, extV_tuple, ne_eq, t0, t3, t4, t5, d1, c1, d2, c2]
    exact hstop (fun h => c2 h.2.1)
  cases bad with
  | true =>
    simp (config := {contextual := true, decide := true, maxSteps := 1000000}) only [↓ wpre, ↓ wval, wpost, wint, wlog, wcell, wop, wop2, wdr, wdr2, wloop, wrng, wfld, tf, Nat.reduceAdd, Wop_ext, extV_tuple, ne_eq, t0, t3, t4, t5, d1, c1, d2, c2, f1, hgr]
    exact hstop (fun h => by cases h.2.2)
  | false =>
    rw [if_pos ⟨c1, c2, rfl⟩] at hgo1
    have d5 := wrap_succ (i := i) (by omega)
    have hc1 := rdR_same (f := 120) (F := oneV) (L := [entS 122 (rdR sgnV)]) (low := low) hrn hgr' hst
    obtain ⟨p1, p2⟩ := oneF_ok hst
    generalize hy : oneF l (at_, false) = y at *
    obtain ⟨k, st2⟩ := y
    simp only at p1 p2 hgo1
    have hv1 : oneV l (at_, false) = (.int .i64 (k : Nat), st2) := by rw [oneV, hy]
    rw [hv1] at hc1
    simp only at hc1
    have hc2 := rdR_same (f := 122) (F := sgnV) (L := []) (low := Nat.min r low) (o := o.set r (rdO l st2)) hrn (by rw [Tr.get_set_same]) p2
    have p3 := sgnF_ok p2
    generalize hz : sgnF l st2 = z at *
    obtain ⟨m, st3⟩ := z
    simp only at p3 hgo1
    have hv2 : sgnV l st2 = (.int .i64 m, st3) := by rw [sgnV, hz]
    rw [hv2] at hc2
    simp only at hc2
    have ne1 : orcL [entS 121 (rdR numV), entS 120 (rdR oneV), entS 122 (rdR sgnV)] 120 [.ptr r 0 0] ⟨n, low, o⟩ = some (.ret (.int .i64 (k : Nat)) (some ⟨n, Nat.min r low, o.set r (rdO l st2)⟩)) := by rw [entS_ne (by decide)]; exact hc1
    have ne2 : orcL [entS 121 (rdR numV), entS 120 (rdR oneV), entS 122 (rdR sgnV)] 122 [.ptr r 0 0] ⟨n, Nat.min r low, o.set r (rdO l st2)⟩ = some (.ret (.int .i64 m) (some ⟨n, Nat.min r (Nat.min r low), (o.set r (rdO l st2)).set r (rdO l st3)⟩)) := by rw [entS_ne (by decide), entS_ne (by decide)]; exact hc2
    have hsmall : (2 * (acc.length + 1) + 1024) * 16 ≤ 281474976710656 ∧ acc.length + 1 < 4611686018427387904 := ⟨by omega, by omega⟩
    have hlow2 : r ≤ Nat.min r (Nat.min r low) := le_min (Nat.le_refl r) (le_min (Nat.le_refl r) hlow)
    rcases hacc with ⟨hL, rfl⟩ | ⟨hL, id, g, rfl, hid, hid0, hidn⟩
    · simp (config := {contextual := true, decide := true, maxSteps := 1000000}) only [↓ wpre, ↓ wval, wpost, wint, wlog, wcell, wop, wop2, wdr, wdr2, wloop, wrng, wfld, tf, Nat.reduceAdd, Wop_ext, extV_tuple, ne_eq, t0, t3, t4, t5, d1, c1, d2, c2, d5, f1, hgr, ne1, ne2, frN, hsmall, Nat.reduceMul, Nat.mul_one, Nat.zero_mul, Nat.zero_add]
      refine ⟨i + 1, by show _ - _ < _ - _; omega, _, n + 1 + 1, _, _, .sl (n + 1) 0 0 1 (.room 2), acc ++ [(((k : Nat) : Int), m)], st3, rfl, by simp (config := {decide := true}) only [↓ wval, wint, wlog, t0], by simp (config := {decide := true}) only [↓ wval, wint, wlog, t3], by simp (config := {decide := true}) only [↓ wval, wint, wlog], by simp (config := {decide := true}) only [↓ wval, wint, wlog], by omega, .inr ⟨by simp, n + 1, 0, ?_, ?_, by omega, by omega⟩, by rw [List.length_append, hal]; rfl, hgo1.symm, p3, by omega, ?_, ?_, ?_⟩
      · rw [List.length_append, hL]; rfl
      · rw [hL, Tr.get_set_same]; rfl
      · simp (config := {decide := true}) only [↓ wval, f1, ne_eq]
      · exact hlow2
      · intro id h1 h2
        have f5 := frI (show id < n by omega)
        simp (config := {decide := true}) only [↓ wval, f5, h2, ne_eq]
        exact hoth id h1 h2
    · have f3 := frI hidn
      have f4 : id ≠ r ∧ r ≠ id := ⟨by omega, by omega⟩
      have hfl : (acc.map valC).flatten.length = acc.length * 2 := by rw [flatten_len _ (valC_len _), List.length_map]
      simp (config := {contextual := true, decide := true, maxSteps := 1000000}) only [↓ wpre, ↓ wval, wpost, wint, wlog, wcell, wop, wop2, wdr, wdr2, wloop, wrng, wfld, tf, Nat.reduceAdd, Wop_ext, extV_tuple, ne_eq, t0, t3, t4, t5, d1, c1, d2, c2, d5, f1, f3, f4, hid, hgr, ne1, ne2, frN, hsmall, hfl, Nat.reduceMul, Nat.mul_one, Nat.zero_mul, Nat.zero_add]
      refine ⟨i + 1, by show _ - _ < _ - _; omega, _, n + 1, _, _, .sl id (g + 1) 0 (acc.length + 1) (.room 2), acc ++ [(((k : Nat) : Int), m)], st3, rfl, by simp (config := {decide := true}) only [↓ wval, wint, wlog, t0], by simp (config := {decide := true}) only [↓ wval, wint, wlog, t3], by simp (config := {decide := true}) only [↓ wval, wint, wlog], by simp (config := {decide := true}) only [↓ wval, wint, wlog], by omega, .inr ⟨by simp, id, g + 1, ?_, ?_, hid0, by omega⟩, by rw [List.length_append, hal]; rfl, hgo1.symm, p3, by omega, ?_, ?_, ?_⟩
      · rw [List.length_append]; rfl
      · simp (config := {decide := true}) only [↓ wval, f4, ne_eq]
        rw [List.map_append, List.flatten_append]; rfl
      · simp (config := {decide := true}) only [↓ wval, f1, f4, ne_eq]
      · exact le_min (by omega) hlow2
      · intro id' h1 h2
        have f5 := frI (show id' < n by omega)
        have f6 : id' ≠ id := by omega
        simp (config := {decide := true}) only [↓ wval, f5, f6, h2, ne_eq]
        exact hoth id' h1 h2

end
end Go.Proofs.YtajngkkihadgfaaGreat

/-
  The reference of images: its reader reads objects.
-/

namespace Go.Proofs.YtajngkkihadgfaaGreat
open Go.Abs Go Go.Abs.TryzF
noncomputable section
set_option maxRecDepth 10000

def frF (l : List Nat) (st : Nat × Bool) : Fr × Nat × Bool := (⟨((numF l st).1 : Nat), (listF l (numF l st).2).1, (listF l (listF l (numF l st).2).2).1⟩, (listF l (listF l (numF l st).2).2).2)
def frsGo (l : List Nat) (n : Nat) : Nat → Nat → List Fr → Nat × Bool → List Fr × Nat × Bool
  | 0, _, acc, st => (acc, st)
  | k + 1, i, acc, st => if i < n ∧ i ≤ 40 ∧ st.2 = false then frsGo l n k (i + 1) (acc ++ [(frF l st).1]) (frF l st).2 else (acc, st)
def frsF (l : List Nat) (st : Nat × Bool) : List Fr × Nat × Bool := frsGo l (numF l st).1 42 0 [] (numF l st).2
def obF (l : List Nat) (st : Nat × Bool) : Ob × Nat × Bool :=
  (⟨((oneF l st).1 : Nat), (sgnF l (oneF l st).2).1, (listF l (sgnF l (oneF l st).2).2).1, (frsF l (listF l (sgnF l (oneF l st).2).2).2).1⟩, (frsF l (listF l (sgnF l (oneF l st).2).2).2).2)
def frC (f : Fr) : List AV := [.int .i64 f.node, valsA f.env, valsA f.vals]
def frsA (l : List Fr) : AV := if l = [] then .nils else .fz ((l.map frC).map .agg) false
def obA (o : Ob) : AV := .agg [.int .i64 o.form, .int .i64 o.n, valsA o.vals, frsA o.frs]
def obRV (l : List Nat) (st : Nat × Bool) : AV × Nat × Bool := (obA (obF l st).1, (obF l st).2)

theorem valsA_dec {l : List Val} (h : l.length ≤ 9223372036854775807) : decVals (valsA l) = some l := by
  refine decVals_of ⟨?_, by simpa using h⟩
  unfold valsA
  by_cases h0 : l = []
  · subst h0; exact .inl ⟨by simp, rfl⟩
  · rw [if_neg h0]; exact .inr ⟨false, rfl⟩
theorem valsA_cell {l : List Val} : (valsA l).isCell = true := by unfold valsA; split <;> rfl
theorem valsA_under {n : Nat} {l : List Val} : UnderE n (valsA l) := by
  unfold valsA
  split
  · exact ⟨1, rfl⟩
  · refine underE_fz fun x hx => ?_
    obtain ⟨y, _, rfl⟩ := List.mem_map.1 hx
    exact ⟨2, rfl⟩
theorem frC_len (l : List Fr) : ∀ x ∈ l.map frC, x.length = 3 := fun x hx => by obtain ⟨y, _, rfl⟩ := List.mem_map.1 hx; rfl
/-- frames in a slice of one's own -/
def FAcc (n0 n : Nat) (o : Tr AObj) (v : AV) (l : List Fr) : Prop := (l = [] ∧ v = .nils) ∨ (l ≠ [] ∧ ∃ id g, v = .sl id g 0 l.length (.room 3) ∧ o.get id = some (obg g (l.map frC).flatten) ∧ n0 ≤ id ∧ id < n)
theorem FAcc.frz {n0 n low : Nat} {o : Tr AObj} {v : AV} {l : List Fr} (h : FAcc n0 n o v l) : Frz ⟨n, low, o⟩ n0 v (frsA l) := by
  rcases h with ⟨rfl, rfl⟩ | ⟨hl, id, g, rfl, hid, h1, h2⟩
  · exact .und _ und_nils
  · rw [frsA, if_neg hl]
    refine frz_slk (g := g) (k := 3) h1 (by rw [Sto.get_mk h2]; exact hid) (by simp) (frC_len _) fun x hx y hy => ?_
    obtain ⟨z, _, rfl⟩ := List.mem_map.1 hx
    simp only [frC, List.mem_cons, List.not_mem_nil, or_false] at hy
    rcases hy with rfl | rfl | rfl
    · exact und_int
    · exact valsA_under.und
    · exact valsA_under.und
theorem frF_ok {l : List Nat} {st : Nat × Bool} (h : rdOk l st) : rdOk l (frF l st).2 := listF_ok (listF_ok (numF_ok h).2)
theorem frsGo_ok {l : List Nat} {n : Nat} : ∀ (k i : Nat) (acc : List Fr) (st : Nat × Bool), rdOk l st → rdOk l (frsGo l n k i acc st).2
  | 0, _, _, _, h => h
  | k + 1, i, acc, st, h => by
    unfold frsGo
    split
    · exact frsGo_ok k _ _ _ (frF_ok h)
    · exact h
theorem frsF_ok {l : List Nat} {st : Nat × Bool} (h : rdOk l st) : rdOk l (frsF l st).2 := frsGo_ok _ _ _ _ (numF_ok h).2
theorem obF_ok {l : List Nat} {st : Nat × Bool} (h : rdOk l st) : rdOk l (obF l st).2 := frsF_ok (listF_ok (sgnF_ok (oneF_ok h).2))

abbrev L99 : List Ent := [entS 120 (rdR oneV), entS 122 (rdR sgnV), entS 131 (rdR listRV), entS 121 (rdR numV)]
theorem L99_ok : ∀ x ∈ L99, ESound Tryz.prog x := elist_cons (entS_ok rone_ok) (elist_cons (entS_ok rsgn_ok) (elist_cons (entS_ok rrlist_ok) (elist_cons (entS_ok rnum_ok) elist_nil)))
section
variable {n low r : Nat} {o : Tr AObj} {l : List Nat} {st : Nat × Bool}
theorem L99_one (hr : r < n) (hg : o.get r = some (rdO l st)) (hok : rdOk l st) : orcL L99 120 [.ptr r 0 0] ⟨n, low, o⟩ = some (.ret (oneV l st).1 (some ⟨n, Nat.min r low, o.set r (rdO l (oneV l st).2)⟩)) := rdR_same hr hg hok
theorem L99_sgn (hr : r < n) (hg : o.get r = some (rdO l st)) (hok : rdOk l st) : orcL L99 122 [.ptr r 0 0] ⟨n, low, o⟩ = some (.ret (sgnV l st).1 (some ⟨n, Nat.min r low, o.set r (rdO l (sgnV l st).2)⟩)) := by rw [entS_ne (by decide)]; exact rdR_same hr hg hok
theorem L99_list (hr : r < n) (hg : o.get r = some (rdO l st)) (hok : rdOk l st) : orcL L99 131 [.ptr r 0 0] ⟨n, low, o⟩ = some (.ret (listRV l st).1 (some ⟨n, Nat.min r low, o.set r (rdO l (listRV l st).2)⟩)) := by rw [entS_ne (by decide), entS_ne (by decide)]; exact rdR_same hr hg hok
theorem L99_num (hr : r < n) (hg : o.get r = some (rdO l st)) (hok : rdOk l st) : orcL L99 121 [.ptr r 0 0] ⟨n, low, o⟩ = some (.ret (numV l st).1 (some ⟨n, Nat.min r low, o.set r (rdO l (numV l st).2)⟩)) := by rw [entS_ne (by decide), entS_ne (by decide), entS_ne (by decide)]; exact rdR_same hr hg hok
end

set_option maxHeartbeats 4000000 in
theorem rob_ok : ∀ args s res, rdR obRV args s res → Sound Tryz.prog 99 args s res := by
  rintro args ⟨n0, low0, o0⟩ res ⟨r, l, st0, rfl, hr, hg, hok, rfl⟩
  have hr' : r < n0 := hr
  rw [Sto.get_mk hr'] at hg
  refine sound_turn (L := L99) L99_ok noHint (by kernel_rfl) Tryz.func99 Tryz.ntmps99 Tryz.results99 rfl rfl hr rdO_und ?_
  have f0 := frI hr'
  have w1 := (oneF_ok hok).2
  have w2 := sgnF_ok w1
  have w3 := listF_ok w2
  have w4 := (numF_ok w3).2
  have c1 := fun (o : Tr AObj) (n low : Nat) (h1 : r < n) (h2 : o.get r = some (rdO l st0)) => L99_one (low := low) h1 h2 hok
  have c2 := fun (o : Tr AObj) (n low : Nat) (h1 : r < n) (h2 : o.get r = some (rdO l (oneV l st0).2)) => L99_sgn (low := low) h1 h2 w1
  have c3 := fun (o : Tr AObj) (n low : Nat) (h1 : r < n) (h2 : o.get r = some (rdO l (sgnV l (oneV l st0).2).2)) => L99_list (low := low) h1 h2 w2
  have c4 := fun (o : Tr AObj) (n low : Nat) (h1 : r < n) (h2 : o.get r = some (rdO l (listRV l (sgnV l (oneV l st0).2).2).2)) => L99_num (low := low) h1 h2 w3
  have v1 : (oneV l st0).1 = .int .i64 ((oneF l st0).1 : Nat) := rfl
  have v2 : (sgnV l (oneV l st0).2).1 = .int .i64 (sgnF l (oneF l st0).2).1 := rfl
  have v3 : (listRV l (sgnV l (oneV l st0).2).2).1 = valsA (listF l (sgnF l (oneF l st0).2).2).1 := rfl
  have v4 : (numV l (listRV l (sgnV l (oneV l st0).2).2).2).1 = .int .i64 ((numF l (listF l (sgnF l (oneF l st0).2).2).2).1 : Nat) := rfl
  simp (config := {contextual := true, decide := true, maxSteps := 1000000}) only [↓ wpre, ↓ wval, wpost, wint, wlog, wcell, wop, wop2, wdr, wdr2, wloop, wrng, wfld, tf, Nat.reduceAdd, Wop_ext, extV_tuple, ne_eq, c1, c2, c3, c4, v1, v2, v3, v4, f0, frN, hg, valsA_cell]
  have hfsF : frsF l (listRV l (sgnV l (oneV l st0).2).2).2 = frsGo l (numF l (listRV l (sgnV l (oneV l st0).2).2).2).1 42 0 [] (numV l (listRV l (sgnV l (oneV l st0).2).2).2).2 := rfl
  have hob : obRV l st0 = (.agg [.int .i64 ((oneF l st0).1 : Nat), .int .i64 (sgnF l (oneF l st0).2).1, valsA (listF l (sgnF l (oneF l st0).2).2).1, frsA (frsF l (listRV l (sgnV l (oneV l st0).2).2).2).1], (frsF l (listRV l (sgnV l (oneV l st0).2).2).2).2) := rfl
  have hw3 : (listF l (sgnF l (oneF l st0).2).2).2 = (listRV l (sgnV l (oneV l st0).2).2).2 := rfl
  rw [hob]
  simp only [hw3]
  have w4' : rdOk l (numV l (listRV l (sgnV l (oneV l st0).2).2).2).2 := w4
  have hnl := (numF_ok w3).1
  have hnl' : (numF l (listRV l (sgnV l (oneV l st0).2).2).2).1 < 34359738368 := hnl
  generalize (numV l (listRV l (sgnV l (oneV l st0).2).2).2).2 = st4 at *
  generalize hcn : (numF l (listRV l (sgnV l (oneV l st0).2).2).2).1 = c at *
  generalize frsF l (listRV l (sgnV l (oneV l st0).2).2).2 = FF at *
  generalize (oneF l st0).1 = form at *
  generalize (sgnF l (oneF l st0).2).1 = nn at *
  generalize (listF l (sgnF l (oneF l st0).2).2).1 = vls at *
  generalize (oneV l st0).2 = s1 at *
  generalize (sgnV l s1).2 = s2 at *
  generalize (listRV l s2).2 = s3 at *
  clear c1 c2 c3 c4 v1 v2 v3 v4 w1 w2 w3 w4 hob hw3
  refine Wk_loop (fun i e => ∃ t n low o fv acc st, e = ⟨49, none, 99, t, [], ⟨n, low, o⟩, .no⟩ ∧ t.val 0 = .ptr r 0 0 ∧ t.val 2 = .ptr n0 0 0 ∧ t.val 3 = .ptr (n0 + 1) 0 0 ∧ t.val 4 = .int .i64 (c : Nat) ∧ t.val 5 = .int .i64 (i : Nat) ∧ i ≤ 41 ∧ acc.length = i ∧ FAcc (n0 + 1 + 1) n o fv acc ∧ frsGo l c (42 - i) i acc st = FF ∧ rdOk l st ∧ n0 + 1 + 1 ≤ n ∧ o.get r = some (rdO l st) ∧ o.get n0 = some (obg 0 [.int .i64 0, .int .i64 0, .nils, .nils]) ∧ o.get (n0 + 1) = some (obg 0 [.int .i64 (form : Nat), .int .i64 nn, valsA vls, fv]) ∧ r ≤ low ∧ ∀ id, id < n0 → id ≠ r → o.get id = o0.get id) (fun i => 41 - i) 0
    ⟨_, n0 + 1 + 1, _, _, .nils, [], st4, rfl, by simp (config := {decide := true}) only [↓ wval, wint, wlog], by simp (config := {decide := true}) only [↓ wval, wint, wlog], by simp (config := {decide := true}) only [↓ wval, wint, wlog], by simp (config := {decide := true}) only [↓ wval, wint, wlog], by simp (config := {decide := true}) only [↓ wval, wint, wlog]; rfl, by omega, rfl, .inl ⟨rfl, rfl⟩, hfsF.symm, w4', Nat.le_refl _, by simp (config := {decide := true}) only [↓ wval, wcell, wlog, ne_eq, f0], by simp (config := {decide := true}) only [↓ wval, wcell, wlog, ne_eq, f0, frN], by simp (config := {decide := true}) only [↓ wval, wcell, wlog, ne_eq, f0, frN], ?_, fun id h1 h2 => ?_⟩ ?_
  · repeat' first | exact Nat.le_refl _ | apply le_min | omega
  · have f5 := frI h1
    simp (config := {contextual := true, decide := true, maxSteps := 1000000}) only [↓ wpre, ↓ wval, wpost, wint, wlog, wcell, wop, wop2, wdr, wdr2, wloop, wrng, wfld, tf, Nat.reduceAdd, Wop_ext, extV_tuple, ne_eq, f5, h2]
  rintro i _ ⟨t, n, low, o, fv, acc, ⟨at_, bad⟩, rfl, t0, t2, t3, t4, t5, hi, hal, hacc, hgo, hst, hn, hgr, hg0, hg1, hlow, hoth⟩
  have hrn : r < n := by omega
  have f1 := frI hrn
  have f2 := frI (show n0 < n by omega)
  have f3 := frI (show n0 + 1 < n by omega)
  have hgr' := hgr
  unfold rdO at hgr
  simp only at hgr
  have hgo1 : FF = if i < c ∧ i ≤ 40 ∧ bad = false then frsGo l c (42 - (i + 1)) (i + 1) (acc ++ [(frF l (at_, bad)).1]) (frF l (at_, bad)).2 else (acc, at_, bad) := by
    rw [← hgo, show 42 - i = (42 - (i + 1)) + 1 by omega]; rfl
  have d1 : ((i : Int) < (c : Nat)) = (i < c) := propext (by omega)
  have d2 : ((i : Int) ≤ 40) = (i ≤ 40) := propext (by omega)
  have hne : n0 ≠ r ∧ r ≠ n0 ∧ n0 + 1 ≠ r ∧ r ≠ n0 + 1 ∧ n0 ≠ n0 + 1 ∧ n0 + 1 ≠ n0 := ⟨by omega, by omega, by omega, by omega, by omega, by omega⟩
  have hstop : ¬ (i < c ∧ i ≤ 40 ∧ bad = false) → turn1 ⟨n0, low0, o0⟩ r (rdO l FF.2) (.agg [.int .i64 (form : Nat), .int .i64 nn, valsA vls, frsA FF.1]) ⟨n, Nat.min n0 low, o.set n0 (obg 0 [.int .i64 (form : Nat), .int .i64 nn, valsA vls, fv])⟩ (.agg [.int .i64 (form : Nat), .int .i64 nn, valsA vls, fv]) := fun h => by
    rw [if_neg h] at hgo1
    rw [hgo1]
    refine turn1_frz hr' (by omega) (le_min (by omega) hlow) (by rw [Tr.get_set_ne _ _ hne.2.1]; exact hgr') (fun id h1 h2 => by rw [Tr.get_set_ne _ _ (by omega)]; exact hoth id h1 h2) ?_
    refine .agg _ _ rfl (frz_all_cons (.und _ und_int) (frz_all_cons (.und _ und_int) (frz_all_cons (.und _ valsA_under.und) (frz_all_cons ?_ frz_all_nil))))
    refine FAcc.frz ?_
    rcases hacc with h | ⟨h1, id, g, h2, h3, h4, h5⟩
    · exact .inl h
    · exact .inr ⟨h1, id, g, h2, by rw [Tr.get_set_ne _ _ (by omega)]; exact h3, by omega, h5⟩
  have hfvc : fv.isCell = true := by
    rcases hacc with ⟨_, rfl⟩ | ⟨_, _, _, rfl, _⟩ <;> rfl
  by_cases k1 : i < c
  rotate_left
  · simp (config := {contextual := true, decide := true, maxSteps := 1000000}) only [↓ wpre, ↓ wval, wpost, wint, wlog, wcell, wop, wop2, wdr, wdr2, wloop, wrng, wfld, tf, Nat.reduceAdd, Wop_ext, extV_tuple, ne_eq, t0, t2, t3, t4, t5, d1, k1, f1, f2, f3, hg0, hg1, valsA_cell, hfvc, hne, dresults_cell, Option.bind_some]
    exact hstop (fun h => k1 h.1)
  by_cases k2 : i ≤ 40
  rotate_left
  · simp (config := {contextual := true, decide := true, maxSteps := 1000000}) only [↓ wpre, ↓ wval, wpost, wint, wlog, wcell, wop, wop2, wdr, wdr2, wloop, wrng, wfld, tf, Nat.reduceAdd, Wop_ext, extV_tuple, ne_eq, t0, t2, t3, t4, t5, d1, k1, d2, k2, f1, f2, f3, hg0, hg1, valsA_cell, hfvc, hne, dresults_cell, Option.bind_some]
    exact hstop (fun h => k2 h.2.1)
  cases bad with
  | true =>
    simp (config := {contextual := true, decide := true, maxSteps := 1000000}) only [↓ wpre, ↓ wval, wpost, wint, wlog, wcell, wop, wop2, wdr, wdr2, wloop, wrng, wfld, tf, Nat.reduceAdd, Wop_ext, extV_tuple, ne_eq, t0, t2, t3, t4, t5, d1, k1, d2, k2, f1, f2, f3, hgr, hg0, hg1, valsA_cell, hfvc, hne, dresults_cell, Option.bind_some]
    exact hstop (fun h => by cases h.2.2)
  | false =>
    rw [if_pos ⟨k1, k2, rfl⟩] at hgo1
    have d5 := wrap_succ (i := i) (by omega)
    have u1 := (numF_ok hst).2
    have u2 := listF_ok u1
    have u3 := listF_ok u2
    have b1 := fun (o : Tr AObj) (n low : Nat) (h1 : r < n) (h2 : o.get r = some (rdO l (at_, false))) => L99_num (low := low) h1 h2 hst
    have b2 := fun (o : Tr AObj) (n low : Nat) (h1 : r < n) (h2 : o.get r = some (rdO l (numV l (at_, false)).2)) => L99_list (low := low) h1 h2 u1
    have b3 := fun (o : Tr AObj) (n low : Nat) (h1 : r < n) (h2 : o.get r = some (rdO l (listRV l (numV l (at_, false)).2).2)) => L99_list (low := low) h1 h2 u2
    have v1 : (numV l (at_, false)).1 = .int .i64 ((frF l (at_, false)).1.node) := rfl
    have v2 : (listRV l (numV l (at_, false)).2).1 = valsA (frF l (at_, false)).1.env := rfl
    have v3 : (listRV l (listRV l (numV l (at_, false)).2).2).1 = valsA (frF l (at_, false)).1.vals := rfl
    have v4 : (listRV l (listRV l (numV l (at_, false)).2).2).2 = (frF l (at_, false)).2 := rfl
    have u3' : rdOk l (frF l (at_, false)).2 := u3
    have ld2 : ldK (some none) (some (rdO l (at_, false))) 0 2 = some (.bool false) := rfl
    have hsmall : (2 * (acc.length + 1) + 1024) * 56 ≤ 281474976710656 ∧ acc.length + 1 < 4611686018427387904 := ⟨by omega, by omega⟩
    generalize hff : frF l (at_, false) = ff at *
    obtain ⟨f, st'⟩ := ff
    simp only at hgo1 v1 v2 v3 v4 u3'
    rcases hacc with ⟨hL, rfl⟩ | ⟨hL, id, g, rfl, hid, hid0, hidn⟩
    · simp (config := {contextual := true, decide := true, maxSteps := 1000000}) only [↓ wpre, ↓ wval, wpost, wint, wlog, wcell, wop, wop2, wdr, wdr2, wloop, wrng, wfld, tf, Nat.reduceAdd, Wop_ext, extV_tuple, ne_eq, t0, t2, t3, t4, t5, d1, k1, d2, k2, d5, f1, f2, f3, frN, hne, hgr', ld2, hg0, hg1, b1, b2, b3, v1, v2, v3, v4, valsA_cell, hsmall, Nat.reduceMul, Nat.mul_one, Nat.zero_mul, Nat.zero_add]
      refine ⟨i + 1, by show _ - _ < _ - _; omega, _, n + 1 + 1 + 1, _, _, .sl (n + 1 + 1) 0 0 1 (.room 3), acc ++ [f], st', rfl, by simp (config := {decide := true}) only [↓ wval, wint, wlog, t0], by simp (config := {decide := true}) only [↓ wval, wint, wlog, t2], by simp (config := {decide := true}) only [↓ wval, wint, wlog, t3], by simp (config := {decide := true}) only [↓ wval, wint, wlog, t4], by simp (config := {decide := true}) only [↓ wval, wint, wlog], by omega, by rw [List.length_append, hal]; rfl, .inr ⟨by simp, n + 1 + 1, 0, ?_, ?_, by omega, by omega⟩, hgo1.symm, u3', by omega, ?_, ?_, ?_, ?_, ?_⟩
      · rw [List.length_append, hL]; rfl
      · simp (config := {decide := true}) only [↓ wval, f1, f2, f3, frN, ne_eq]
        rw [hL]; rfl
      · simp (config := {decide := true}) only [↓ wval, f1, f2, f3, frN, hne,  ne_eq]
      · simp (config := {decide := true}) only [↓ wval, f1, f2, f3, frN, hne,  hg0, ne_eq]
      · simp (config := {decide := true}) only [↓ wval, f1, f2, f3, frN, hne,  ne_eq]
      · repeat' first | exact Nat.le_refl _ | apply le_min | omega
      · intro id' h1 h2
        have g5 := frI (show id' < n by omega)
        have g6 : id' ≠ n0 ∧ id' ≠ n0 + 1  := ⟨by omega, by omega⟩
        simp (config := {decide := true}) only [↓ wval, g5, g6, h2, ne_eq]
        exact hoth id' h1 h2
    · have f4 := frI hidn
      have f6 : id ≠ r ∧ r ≠ id ∧ id ≠ n0 ∧ n0 ≠ id ∧ id ≠ n0 + 1 ∧ n0 + 1 ≠ id := ⟨by omega, by omega, by omega, by omega, by omega, by omega⟩
      have hfl : (acc.map frC).flatten.length = acc.length * 3 := by rw [flatten_len _ (frC_len _), List.length_map]
      simp (config := {contextual := true, decide := true, maxSteps := 1000000}) only [↓ wpre, ↓ wval, wpost, wint, wlog, wcell, wop, wop2, wdr, wdr2, wloop, wrng, wfld, tf, Nat.reduceAdd, Wop_ext, extV_tuple, ne_eq, t0, t2, t3, t4, t5, d1, k1, d2, k2, d5, f1, f2, f3, f4, f6, hid, hfl, frN, hne, hgr', ld2, hg0, hg1, b1, b2, b3, v1, v2, v3, v4, valsA_cell, hsmall, Nat.reduceMul, Nat.mul_one, Nat.zero_mul, Nat.zero_add]
      refine ⟨i + 1, by show _ - _ < _ - _; omega, _, n + 1 + 1, _, _, .sl id (g + 1) 0 (acc.length + 1) (.room 3), acc ++ [f], st', rfl, by simp (config := {decide := true}) only [↓ wval, wint, wlog, t0], by simp (config := {decide := true}) only [↓ wval, wint, wlog, t2], by simp (config := {decide := true}) only [↓ wval, wint, wlog, t3], by simp (config := {decide := true}) only [↓ wval, wint, wlog, t4], by simp (config := {decide := true}) only [↓ wval, wint, wlog], by omega, by rw [List.length_append, hal]; rfl, .inr ⟨by simp, id, g + 1, ?_, ?_, hid0, by omega⟩, hgo1.symm, u3', by omega, ?_, ?_, ?_, ?_, ?_⟩
      · rw [List.length_append]; rfl
      · simp (config := {decide := true}) only [↓ wval, f1, f2, f3, f4, f6, frN, ne_eq]
        rw [List.map_append, List.flatten_append]; rfl
      · simp (config := {decide := true}) only [↓ wval, f1, f2, f3, frN, hne, f4, f6, ne_eq]
      · simp (config := {decide := true}) only [↓ wval, f1, f2, f3, frN, hne, f4, f6, hg0, ne_eq]
      · simp (config := {decide := true}) only [↓ wval, f1, f2, f3, frN, hne, f4, f6, ne_eq]
      · repeat' first | exact Nat.le_refl _ | apply le_min | omega
      · intro id' h1 h2
        have g5 := frI (show id' < n by omega)
        have g6 : id' ≠ n0 ∧ id' ≠ n0 + 1 ∧ id' ≠ id := ⟨by omega, by omega, by omega⟩
        simp (config := {decide := true}) only [↓ wval, g5, g6, h2, ne_eq]
        exact hoth id' h1 h2

end
end Go.Proofs.YtajngkkihadgfaaGreat

/-
  The reference of images: the object of bytes.
-/

namespace Go.Proofs.YtajngkkihadgfaaGreat
open Go.Abs Go Go.Abs.TryzF
noncomputable section
set_option maxRecDepth 10000

theorem listGo_len {l : List Nat} {n : Nat} : ∀ (k i : Nat) (acc : List Val) (st : Nat × Bool), (listGo l n k i acc st).1.length ≤ acc.length + k
  | 0, _, _, _ => Nat.le_refl _
  | k + 1, i, acc, st => by
    unfold listGo
    split
    · refine Nat.le_trans (listGo_len k _ _ _) ?_
      rw [List.length_append, List.length_singleton]; omega
    · show acc.length ≤ _; omega
theorem listF_len {l : List Nat} {st : Nat × Bool} : (listF l st).1.length ≤ 32 := by
  have := listGo_len (l := l) (n := (numF l st).1) 32 0 [] (numF l st).2
  rw [List.length_nil, Nat.zero_add] at this; exact this
def frLen (f : Fr) : Prop := f.env.length ≤ 32 ∧ f.vals.length ≤ 32
theorem frF_len {l : List Nat} {st : Nat × Bool} : frLen (frF l st).1 := ⟨listF_len, listF_len⟩
theorem frsGo_len {l : List Nat} {n : Nat} : ∀ (k i : Nat) (acc : List Fr) (st : Nat × Bool), (∀ f ∈ acc, frLen f) → (frsGo l n k i acc st).1.length ≤ acc.length + k ∧ ∀ f ∈ (frsGo l n k i acc st).1, frLen f
  | 0, _, _, _, h => ⟨Nat.le_refl _, h⟩
  | k + 1, i, acc, st, h => by
    unfold frsGo
    split
    · have := frsGo_len (l := l) (n := n) k (i + 1) (acc ++ [(frF l st).1]) (frF l st).2 (fun f hf => by
        rcases List.mem_append.1 hf with hf | hf
        · exact h f hf
        · rw [List.mem_singleton] at hf; subst hf; exact frF_len)
      refine ⟨Nat.le_trans this.1 (by rw [List.length_append, List.length_singleton]; omega), this.2⟩
    · exact ⟨show acc.length ≤ _ by omega, h⟩
theorem decL_map' {α : Type} {f : AV → Option α} {g : α → AV} : ∀ l : List α, (∀ x ∈ l, f (g x) = some x) → decL f (l.map g) = some l
  | [], _ => rfl
  | x :: l, h => by simp only [List.map_cons, decL, h x (List.mem_cons_self ..), decL_map' l fun y hy => h y (List.mem_cons_of_mem _ hy)]
theorem frA_dec {f : Fr} (h : frLen f) : decFr (.agg (frC f)) = some f := by
  have h1 := valsA_dec (l := f.env) (by have := h.1; omega)
  have h2 := valsA_dec (l := f.vals) (by have := h.2; omega)
  show (match decVals (valsA f.env), decVals (valsA f.vals) with
    | some e, some v => some (Fr.mk f.node e v)
    | _, _ => none) = _
  rw [h1, h2]
theorem frsA_dec {l : List Fr} (h : ∀ f ∈ l, frLen f) (hl : l.length ≤ 9223372036854775807) : decFrs (frsA l) = some l := by
  unfold frsA
  by_cases h0 : l = []
  · subst h0; rfl
  · rw [if_neg h0]
    show (if _ then _ else _) = _
    rw [if_pos (by simpa using hl), List.map_map]
    exact decL_map' (g := fun f => .agg (frC f)) l fun f hf => frA_dec (h f hf)
theorem obA_dec {o : Ob} (h1 : o.vals.length ≤ 32) (h2 : o.frs.length ≤ 42) (h3 : ∀ f ∈ o.frs, frLen f) : decOb (obA o) = some o := by
  show (match decVals (valsA o.vals), decFrs (frsA o.frs) with
    | some v, some f => some (Ob.mk o.form o.n v f)
    | _, _ => none) = _
  rw [valsA_dec (by omega), frsA_dec h3 (by omega)]
theorem obF_dec (l : List Nat) (st : Nat × Bool) : decOb (obA (obF l st).1) = some (obF l st).1 := by
  have h := frsGo_len (l := l) (n := (numF l (listF l (sgnF l (oneF l st).2).2).2).1) 42 0 [] (numF l (listF l (sgnF l (oneF l st).2).2).2).2 (fun f hf => nomatch hf)
  have h1 := h.1
  rw [List.length_nil, Nat.zero_add] at h1
  exact obA_dec listF_len h1 h.2
theorem frsA_cell {l : List Fr} : (frsA l).isCell = true := by unfold frsA; split <;> rfl
theorem frsA_under {n : Nat} {l : List Fr} : UnderE n (frsA l) := by
  unfold frsA
  split
  · exact ⟨1, rfl⟩
  · refine underE_fz fun x hx => ?_
    rw [List.map_map] at hx
    obtain ⟨y, _, rfl⟩ := List.mem_map.1 hx
    refine underE_agg fun z hz => ?_
    simp only [frC, List.mem_cons, List.not_mem_nil, or_false] at hz
    rcases hz with rfl | rfl | rfl
    · exact ⟨1, rfl⟩
    · exact valsA_under
    · exact valsA_under
theorem obA_under {n : Nat} {o : Ob} : UnderE n (obA o) := underE_agg fun x hx => by
  simp only [List.mem_cons, List.not_mem_nil, or_false] at hx
  rcases hx with rfl | rfl | rfl | rfl
  · exact ⟨1, rfl⟩
  · exact ⟨1, rfl⟩
  · exact valsA_under
  · exact frsA_under

/-- the object of bytes: it is written again -/
def parseO (s : List Nat) : Option Ob := if (obF s (0, false)).2.2 = false ∧ obOk (obF s (0, false)).1 = true ∧ obB (obF s (0, false)).1 = s then some (obF s (0, false)).1 else none
def noOb : Ob := ⟨0, 0, [], []⟩
theorem noOb_A : obA noOb = .agg [.int .i64 0, .int .i64 0, .nils, .nils] := rfl
def parseV (s : List Nat) : AV := match parseO s with
  | some o => .tuple [obA o, .bool true]
  | none => .tuple [obA noOb, .bool false]
def ParseV (s : List Nat) : AV := match parseO s with
  | some o => .tuple [obA o, .int .i64 0]
  | none => .tuple [obA noOb, .int .i64 4]
theorem und_ob2 {o : Ob} {v : AV} (h : Und 0 v) : Und 0 (.tuple [obA o, v]) := und_tuple (und_all_cons obA_under.und (und_all_cons h und_all_nil))
theorem und_parse {s : List Nat} : Und 0 (parseV s) := by unfold parseV; split <;> exact und_ob2 und_bool
theorem und_Parse {s : List Nat} : Und 0 (ParseV s) := by unfold ParseV; split <;> exact und_ob2 und_int
abbrev BStr := { x : List Nat // By x ∧ x.length < 4611686018427387904 }
theorem bstr_inj {V : List Nat → AV} : ∀ i j : BStr, [AV.str i.1] = [AV.str j.1] → V i.1 = V j.1 := by
  rintro ⟨a, _⟩ ⟨b, _⟩ h
  simp at h; subst h; rfl
abbrev L43 : List Ent := [entS 99 (rdR obRV), ent 38 storableV, ent 39 writeV]
set_option maxHeartbeats 1000000 in
theorem rparse_ok (s : List Nat) (hb : By s) (hl : s.length < 4611686018427387904) : Abs.Returns Tryz.prog 43 [.str s] (parseV s) := by
  refine returns_wk (L := L43) (elist_cons (entS_ok rob_ok) (elist_cons rstorable_ok.ent (elist_cons rwrite_ok.ent elist_nil))) noHint (by kernel_rfl) Tryz.func43 Tryz.ntmps43 Tryz.results43 rfl rfl (und_all_cons und_str und_all_nil) und_parse ?_
  have hok : rdOk s (0, false) := ⟨hb, hl, Nat.zero_le _⟩
  have c1 := fun (o : Tr AObj) (n low r : Nat) (h1 : r < n) (h2 : o.get r = some (obg 0 [.str s, .int .i64 0, .bool false])) => (rdR_same (f := 99) (F := obRV) (L := [ent 38 storableV, ent 39 writeV]) (low := low) h1 h2 hok : orcL L43 _ _ _ = _)
  have v1 : (obRV s (0, false)).1 = .agg [.int .i64 (obF s (0, false)).1.form, .int .i64 (obF s (0, false)).1.n, valsA (obF s (0, false)).1.vals, frsA (obF s (0, false)).1.frs] := rfl
  have v2 : (obRV s (0, false)).2 = (obF s (0, false)).2 := rfl
  have hdec := obF_dec s (0, false)
  have e1 : ∀ (σ : Sto), orcL L43 38 [.agg [.int .i64 (obF s (0, false)).1.form, .int .i64 (obF s (0, false)).1.n, valsA (obF s (0, false)).1.vals, frsA (obF s (0, false)).1.frs]] σ = some (.ret (.bool (obOk (obF s (0, false)).1)) none) := fun σ => by
    rw [entS_ne (by decide), ent_same]; exact congrArg (Option.map _) (storableV_eq hdec)
  have e2 : obOk (obF s (0, false)).1 = true → ∀ (σ : Sto), orcL L43 39 [.agg [.int .i64 (obF s (0, false)).1.form, .int .i64 (obF s (0, false)).1.n, valsA (obF s (0, false)).1.vals, frsA (obF s (0, false)).1.frs]] σ = some (.ret (.str (obB (obF s (0, false)).1)) none) := fun h σ => by
    rw [entS_ne (by decide), ent_ne (by decide), ent_same]; exact congrArg (Option.map _) (writeV_eq hdec h)
  have hz : parseV s = match parseO s with
    | some o => .tuple [obA o, .bool true]
    | none => .tuple [obA noOb, .bool false] := rfl
  unfold parseO at hz
  generalize obF s (0, false) = x at *
  obtain ⟨⟨form, n, vals, frs⟩, at_, bad⟩ := x
  simp only at v1 v2 e1 e2 hz
  have ld2 : ldK (some none) (some (rdO s (at_, bad))) 0 2 = some (.bool bad) := rfl
  cases bad with
  | true =>
    simp (config := {contextual := true, decide := true, maxSteps := 1000000}) only [↓ wpre, ↓ wval, wpost, wint, wlog, wcell, wop, wop2, wdr, wdr2, wloop, wrng, wfld, tf, Nat.reduceAdd, Wop_ext, extV_tuple, ne_eq, c1, v1, v2, e1, ld2, valsA_cell, frsA_cell, dresults_cell, Option.bind_some]
    rw [hz, if_neg (by simp)]; rfl
  | false =>
    cases h1 : obOk ⟨form, n, vals, frs⟩ with
    | false =>
      simp (config := {contextual := true, decide := true, maxSteps := 1000000}) only [↓ wpre, ↓ wval, wpost, wint, wlog, wcell, wop, wop2, wdr, wdr2, wloop, wrng, wfld, tf, Nat.reduceAdd, Wop_ext, extV_tuple, ne_eq, c1, v1, v2, e1, h1, ld2, valsA_cell, frsA_cell, dresults_cell, Option.bind_some]
      rw [hz, if_neg (by simp [h1])]; rfl
    | true =>
      have e2 := e2 h1
      by_cases h2 : obB ⟨form, n, vals, frs⟩ = s
      · simp (config := {contextual := true, decide := true, maxSteps := 1000000}) only [↓ wpre, ↓ wval, wpost, wint, wlog, wcell, wop, wop2, wdr, wdr2, wloop, wrng, wfld, tf, Nat.reduceAdd, Wop_ext, extV_tuple, ne_eq, c1, v1, v2, e1, h1, e2, ld2, valsA_cell, frsA_cell, dresults_cell, Option.bind_some, abin_str_neq, h2]
        rw [hz, if_pos ⟨rfl, h1, h2⟩]; rfl
      · simp (config := {contextual := true, decide := true, maxSteps := 1000000}) only [↓ wpre, ↓ wval, wpost, wint, wlog, wcell, wop, wop2, wdr, wdr2, wloop, wrng, wfld, tf, Nat.reduceAdd, Wop_ext, extV_tuple, ne_eq, c1, v1, v2, e1, h1, e2, ld2, valsA_cell, frsA_cell, dresults_cell, Option.bind_some, abin_str_neq, h2]
        rw [hz, if_neg (by simp [h2])]; rfl

def LP : List Ent := [entF 43 (fun x : BStr => [.str x.1]) fun x => parseV x.1]
theorem LP_eq (s : List Nat) (hb : By s) (hl : s.length < 4611686018427387904) (σ : Sto) : orcL LP 43 [.str s] σ = some (.ret (parseV s) none) := entF_same (A := fun x : BStr => [.str x.1]) (V := fun x => parseV x.1) bstr_inj ⟨s, hb, hl⟩
theorem rParse_ok (s : List Nat) (hb : By s) (hl : s.length < 4611686018427387904) : Abs.Returns Tryz.prog 12 [.str s] (ParseV s) := by
  refine returns_wk (L := LP) (elist_cons (entF_ok fun x => rparse_ok x.1 x.2.1 x.2.2) elist_nil) noHint (by kernel_rfl) Tryz.func12 Tryz.ntmps12 Tryz.results12 rfl rfl (und_all_cons und_str und_all_nil) und_Parse ?_
  have c1 := LP_eq s hb hl
  cases h : parseO s with
  | none =>
    have e1 : parseV s = .tuple [.agg [.int .i64 0, .int .i64 0, .nils, .nils], .bool false] := by unfold parseV; rw [h]; rfl
    have e2 : ParseV s = .tuple [.agg [.int .i64 0, .int .i64 0, .nils, .nils], .int .i64 4] := by unfold ParseV; rw [h]; rfl
    rw [e1] at c1
    rw [e2]
    simp (config := {contextual := true, decide := true, maxSteps := 1000000}) only [↓ wpre, ↓ wval, wpost, wint, wlog, wcell, wop, wop2, wdr, wdr2, wloop, wrng, wfld, tf, Nat.reduceAdd, Wop_ext, extV_tuple, ne_eq, c1, dresults_cell, Option.bind_some]
  | some o =>
    have e1 : parseV s = .tuple [.agg [.int .i64 o.form, .int .i64 o.n, valsA o.vals, frsA o.frs], .bool true] := by unfold parseV; rw [h]; rfl
    have e2 : ParseV s = .tuple [.agg [.int .i64 o.form, .int .i64 o.n, valsA o.vals, frsA o.frs], .int .i64 0] := by unfold ParseV; rw [h]; rfl
    rw [e1] at c1
    rw [e2]
    simp (config := {contextual := true, decide := true, maxSteps := 1000000}) only [↓ wpre, ↓ wval, wpost, wint, wlog, wcell, wop, wop2, wdr, wdr2, wloop, wrng, wfld, tf, Nat.reduceAdd, Wop_ext, extV_tuple, ne_eq, c1, valsA_cell, frsA_cell, dresults_cell, Option.bind_some]

end
end Go.Proofs.YtajngkkihadgfaaGreat
