/-
  Images: what is written is read again, by the reference and by the program.
-/
import Derived.Test.YtajngkkihadgfaaGreatHu
set_option linter.unusedVariables false
set_option linter.unusedSimpArgs false
namespace Go.Proofs.YtajngkkihadgfaaGreat
open Go.Abs Go Go.Abs.TryzF
set_option maxRecDepth 10000
def At (l : List Nat) (p : Nat) (X : List Nat) : Prop := ∃ pre, l = pre ++ X ∧ pre.length = p
theorem At.cons {l : List Nat} {p c : Nat} {X : List Nat} (h : At l p (c :: X)) : p < l.length ∧ l.getD p 0 = c ∧ At l (p + 1) X := by
  obtain ⟨pre, rfl, rfl⟩ := h
  refine ⟨by simp, by simp [List.getD], pre ++ [c], by simp, by simp⟩
theorem At.len {l : List Nat} {p : Nat} {X : List Nat} (h : At l p X) : X.length ≤ l.length := by
  obtain ⟨pre, rfl, rfl⟩ := h
  simp
theorem next_at {l : List Nat} {p c : Nat} {X : List Nat} (h : At l p (c :: X)) : nextN l p = .ok c (p + 1) := by
  obtain ⟨h1, h2, _⟩ := h.cons
  unfold nextN
  rw [if_pos h1, h2]
theorem numB_lo {m : Nat} (h : m ≤ 127) : numB m = [m] := by
  rw [numB]; exact dif_neg (by omega)
theorem numB_hi {m : Nat} (h : 127 < m) : numB m = (m % 128 + 128) :: numB (m / 128) := by
  rw [numB]; exact dif_pos h
theorem num_step (m n y : Nat) : n + (m % 128 + 128) % 128 * y + m / 128 * (y * 128) = n + m * y := by
  have h1 : (m % 128 + 128) % 128 = m % 128 := by omega
  have h2 : m * y = (m / 128 * 128 + m % 128) * y := by rw [Nat.div_add_mod']
  rw [h1, h2, Nat.add_mul]
  have h3 : m / 128 * (y * 128) = m / 128 * 128 * y := by rw [Nat.mul_comm y 128, Nat.mul_assoc]
  rw [h3]; omega
theorem plainGo_at {l : List Nat} {Y : List Nat} : ∀ (k m n i p : Nat), At l p (numB m ++ Y) → m < 128 ^ (k + 1) → ∃ p', plainGo l (k + 1) n i p = .ok (n + m * 128 ^ i) p' ∧ At l p' Y := by
  intro k
  induction k with
  | zero =>
    intro m n i p h hm
    rw [numB_lo (by omega)] at h
    refine ⟨p + 1, ?_, h.cons.2.2⟩
    unfold plainGo
    rw [next_at h]
    have : m % 128 = m := by omega
    simp only
    rw [if_pos (by omega), this]
  | succ k ih =>
    intro m n i p h hm
    by_cases hlt : 127 < m
    · rw [numB_hi hlt] at h
      obtain ⟨p', h1, h2⟩ := ih (m / 128) (n + (m % 128 + 128) % 128 * 128 ^ i) (i + 1) (p + 1) h.cons.2.2 (by rw [Nat.pow_succ] at hm; omega)
      refine ⟨p', ?_, h2⟩
      unfold plainGo
      rw [next_at h]
      simp only
      rw [if_neg (by omega), h1, Nat.pow_succ, num_step]
    · rw [numB_lo (by omega)] at h
      refine ⟨p + 1, ?_, h.cons.2.2⟩
      unfold plainGo
      rw [next_at h]
      have : m % 128 = m := by omega
      simp only
      rw [if_pos (by omega), this]
theorem plain_at {l : List Nat} {Y : List Nat} {m p : Nat} (h : At l p (numB m ++ Y)) (hm : m < 34359738368) : ∃ p', plainN l p = .ok m p' ∧ At l p' Y := by
  obtain ⟨p', h1, h2⟩ := plainGo_at 4 m 0 0 p h hm
  refine ⟨p', ?_, h2⟩
  unfold plainN
  rw [h1, Nat.zero_add, Nat.pow_zero, Nat.mul_one]
theorem numOk_iff {n : Int} : numOk n = true ↔ -1073741824 ≤ n ∧ n ≤ 1073741824 := by simp [numOk, inB]
theorem unzig_zig {n : Int} : unzig (zig n) = n := by
  unfold unzig zig
  split
  · rw [if_pos (by omega)]; omega
  · rw [if_neg (by omega)]; omega
theorem zig_lt35 {n : Int} (h : numOk n = true) : zig n < 34359738368 := by
  rw [numOk_iff] at h
  unfold zig
  split <;> omega
theorem psgn_at {l : List Nat} {Y : List Nat} {n : Int} {p : Nat} (h : At l p (sgnB n ++ Y)) (hn : numOk n = true) : ∃ p', sgnN l p = .ok n p' ∧ At l p' Y := by
  obtain ⟨p', h1, h2⟩ := plain_at h (zig_lt35 hn)
  refine ⟨p', ?_, h2⟩
  unfold sgnN
  rw [h1]
  show PR.ok (unzig (zig n)) p' = _
  rw [unzig_zig]
theorem valOk_num {v : Val} (h : valOk v = true) : 1 ≤ v.1 ∧ v.1 ≤ 5 ∧ numOk v.2 = true := by
  unfold valOk at h
  rw [numOk_iff]
  split at h
  · rw [numOk_iff] at h; omega
  · split at h
    · simp [inB] at h; omega
    · split at h
      · simp at h; omega
      · split at h
        · simp [inB] at h; omega
        · split at h
          · simp [inB] at h; omega
          · cases h
theorem valsOk_iff {vs : List Val} : valsOk vs = true ↔ vs.length ≤ 30 ∧ ∀ v ∈ vs, valOk v = true := by simp [valsOk]
theorem pval_at {l : List Nat} {Y : List Nat} {v : Val} {p : Nat} (h : At l p (valB v ++ Y)) (hok : valOk v = true) : ∃ p', valN l p = .ok v p' ∧ At l p' Y := by
  rw [valB, List.cons_append] at h
  obtain ⟨h1, h2, h3⟩ := valOk_num hok
  obtain ⟨q, h4, h5⟩ := psgn_at h.cons.2.2 h3
  refine ⟨q, ?_, h5⟩
  unfold valN
  rw [next_at h]
  simp only
  rw [h4]
  show PR.ok (((v.1.toNat % 256 : Nat) : Int), v.2) q = _
  rw [show ((v.1.toNat % 256 : Nat) : Int) = v.1 by omega]
theorem pvalsGo_at {l : List Nat} {Y : List Nat} : ∀ (vs : List Val) (acc : List Val) (p : Nat), (∀ v ∈ vs, valOk v = true) → At l p (vs.flatMap valB ++ Y) → ∃ p', valsGo l vs.length acc p = .ok (acc ++ vs) p' ∧ At l p' Y
  | [], acc, p, _, h => ⟨p, by simp [valsGo], h⟩
  | v :: vs, acc, p, hok, h => by
    rw [List.flatMap_cons, List.append_assoc] at h
    obtain ⟨q, h1, h2⟩ := pval_at h (hok v (List.mem_cons_self ..))
    obtain ⟨p', h3, h4⟩ := pvalsGo_at vs (acc ++ [v]) q (fun w hw => hok w (List.mem_cons_of_mem _ hw)) h2
    refine ⟨p', ?_, h4⟩
    show valsGo l (vs.length + 1) acc p = _
    unfold valsGo
    rw [h1]
    simp only
    rw [h3, List.append_assoc]; rfl
theorem flat_len {α : Type} {f : α → List Nat} (hf : ∀ x, 1 ≤ (f x).length) : ∀ l : List α, l.length ≤ (l.flatMap f).length
  | [] => Nat.zero_le _
  | x :: l => by
    rw [List.flatMap_cons, List.length_append, List.length_cons]
    have := hf x
    have := flat_len hf l
    omega
theorem pvals_at {l : List Nat} {Y : List Nat} {vs : List Val} {p : Nat} (h : At l p (valsB vs ++ Y)) (hok : valsOk vs = true) : ∃ p', valsN l p = .ok vs p' ∧ At l p' Y := by
  rw [valsOk_iff] at hok
  unfold valsB at h
  rw [List.append_assoc] at h
  obtain ⟨q, h1, h2⟩ := plain_at h (by omega)
  obtain ⟨p', h3, h4⟩ := pvalsGo_at vs [] q hok.2 h2
  refine ⟨p', ?_, h4⟩
  have h5 := h2.len
  rw [List.length_append] at h5
  have h6 := flat_len (f := valB) (fun v => by simp [valB]) vs
  unfold valsN
  rw [h1]
  simp only
  rw [if_pos (by omega), h3]; rfl
theorem frOk_iff {f : Fr} : frOk f = true ↔ (0 ≤ f.node ∧ f.node ≤ 1073741824) ∧ valsOk f.env = true ∧ valsOk f.vals = true := by
  simp [frOk, inB, and_assoc]
theorem pfr_at {l : List Nat} {Y : List Nat} {f : Fr} {p : Nat} (h : At l p (frB f ++ Y)) (hok : frOk f = true) : ∃ p', frN_ l p = .ok f p' ∧ At l p' Y := by
  rw [frOk_iff] at hok
  obtain ⟨⟨g1, g2⟩, g3, g4⟩ := hok
  unfold frB at h
  rw [List.append_assoc, List.append_assoc] at h
  obtain ⟨q1, h1, h2⟩ := plain_at h (by omega)
  obtain ⟨q2, h3, h4⟩ := pvals_at h2 g3
  obtain ⟨q3, h5, h6⟩ := pvals_at h4 g4
  refine ⟨q3, ?_, h6⟩
  unfold frN_
  rw [h1]; simp only
  rw [h3]; simp only
  rw [h5]
  obtain ⟨nd, e, v⟩ := f
  simp only at *
  rw [show ((nd.toNat : Nat) : Int) = nd by omega]
theorem pfrsGo_at {l : List Nat} {Y : List Nat} : ∀ (vs : List Fr) (acc : List Fr) (p : Nat), (∀ v ∈ vs, frOk v = true) → At l p (vs.flatMap frB ++ Y) → ∃ p', frsGoP l vs.length acc p = .ok (acc ++ vs) p' ∧ At l p' Y
  | [], acc, p, _, h => ⟨p, by simp [frsGoP], h⟩
  | v :: vs, acc, p, hok, h => by
    rw [List.flatMap_cons, List.append_assoc] at h
    obtain ⟨q, h1, h2⟩ := pfr_at h (hok v (List.mem_cons_self ..))
    obtain ⟨p', h3, h4⟩ := pfrsGo_at vs (acc ++ [v]) q (fun w hw => hok w (List.mem_cons_of_mem _ hw)) h2
    refine ⟨p', ?_, h4⟩
    show frsGoP l (vs.length + 1) acc p = _
    unfold frsGoP
    rw [h1]
    simp only
    rw [h3, List.append_assoc]; rfl
theorem numB_pos (n : Nat) : 1 ≤ (numB n).length := by
  rw [numB]; split <;> simp
theorem frsOk_iff {fs : List Fr} : frsOk fs = true ↔ fs.length ≤ 40 ∧ ∀ f ∈ fs, frOk f = true := by simp [frsOk]
theorem obOk_iff {o : Ob} : obOk o = true ↔ (1 ≤ o.form ∧ o.form ≤ 6) ∧ numOk o.n = true ∧ valsOk o.vals = true ∧ frsOk o.frs = true := by
  simp [obOk, inB, and_assoc]
theorem At.all (l : List Nat) : At l 0 l := ⟨[], rfl, rfl⟩
end Go.Proofs.YtajngkkihadgfaaGreat
/-
  The reference of images: what is small enough to be tried.
-/
namespace Go.Proofs.YtajngkkihadgfaaGreat
open Go.Abs Go Go.Abs.TryzF
noncomputable section
set_option maxRecDepth 10000
def smallFr (f : Fr) : Bool := decide (f.env.length ≤ 60) && decide (f.vals.length ≤ 60)
def SmallV : List AV → Option AV
  | [a] => (decOb a).map fun o => .bool (smallOb o)
  | _ => none
theorem SmallV_eq {a : AV} {o : Ob} (h : decOb a = some o) : SmallV [a] = some (.bool (smallOb o)) := by simp [SmallV, h]
theorem smallOb_bad {o : Ob} {f : Fr} (hm : f ∈ o.frs) (h : smallFr f = false) : smallOb o = false := by
  have : (o.frs.all fun f => decide (f.env.length ≤ 60) && decide (f.vals.length ≤ 60)) = false := by
    rw [List.all_eq_false]; exact ⟨f, hm, by unfold smallFr at h; rw [h]; simp⟩
  unfold smallOb
  rw [this, Bool.and_false]
set_option maxHeartbeats 1000000 in
theorem rSmall_ok : Abs.Ok Tryz.prog 7 SmallV := by
  intro args v hg
  match args, hg with
  | [a], hg =>
    obtain ⟨o, ho, rfl⟩ := Option.map_eq_some_iff.1 hg
    have hund := (under_ob ho).und
    obtain ⟨vs, fs, rfl, hvs, hfs⟩ := decOb_some ho
    obtain ⟨xs, hsl, hlen, hat⟩ := frs_sl hfs
    have cvs := decVals_cell hvs
    have cfs := hsl.cell
    have hll := hsl.2
    refine returns_wk (L := [ent 30 smallV]) (elist_cons rsmall_ok.ent elist_nil) noHint (by kernel_rfl) Tryz.func7 Tryz.ntmps7 Tryz.results7 rfl rfl (und_all_cons hund und_all_nil) und_bool ?_
    have hvv := smallV_eq hvs
    simp +contextual +decide (maxSteps := 1000000) only [↓ wP, wQ, tf, Nat.reduceAdd, ne_eq, cvs, cfs]
    refine Wk_loop (fun i e => ∃ t n low ob, e = ⟨42, none, 7, t, [], ⟨n, low, ob⟩, .no⟩ ∧ t.val 1 = .ptr 0 0 0 ∧ t.val 3 = .int .i64 (i : Nat) ∧ ob.get 0 = some (obg 0 [.int .i64 o.form, .int .i64 o.n, vs, fs]) ∧ 0 < n ∧ i ≤ o.frs.length ∧ i ≤ 60 ∧ (o.frs.take i).all smallFr = true) (fun i => o.frs.length - i) 0
      ⟨_, 1, 0, _, rfl, by simp +decide only [↓ wval, wint, wlog], by simp +decide only [↓ wval, wint, wlog]; rfl, by simp +decide only [↓ wval, wcell, wlog, ne_eq], by omega, Nat.zero_le _, by omega, rfl⟩ ?_
    rintro i _ ⟨t, n, low, ob, rfl, t1, t3, hg0, hn, hi, hi60, hall⟩
    have f0 := frI (i := 0) (n := n) hn
    have hend : ¬ (i < o.frs.length ∧ i < 60) → smallOb o = (decide (o.vals.length ≤ 60) && decide (o.frs.length ≤ 50)) := by
      intro h
      by_cases h50 : o.frs.length ≤ 50
      · have hi' : i = o.frs.length := by omega
        subst hi'
        rw [List.take_length] at hall
        have : (o.frs.all fun f => decide (f.env.length ≤ 60) && decide (f.vals.length ≤ 60)) = true := hall
        unfold smallOb
        rw [this, Bool.and_true]
      · unfold smallOb
        rw [decide_eq_false h50]; simp
    by_cases hlt : i < o.frs.length
    · have d1 : (i : Int) < (xs.length : Nat) := by omega
      by_cases h60 : i < 60
      · have d2 : (i : Int) < 60 := by omega
        have d3 : (0 : Int) ≤ i := by omega
        have d5 := wrap_succ (i := i) (by omega)
        have htk := take_snoc (d := default) hlt
        have hm : o.frs.getD i default ∈ o.frs := by rw [getD_lt hlt]; exact List.getElem_mem _
        obtain ⟨e, v, hix, he, hv⟩ := hat i hlt
        have ce := decVals_cell he
        have cv := decVals_cell hv
        have e1 := smallV_eq he
        have e2 := smallV_eq hv
        generalize hxd : o.frs.getD i default = f at *
        by_cases k1 : f.env.length ≤ 60
        · by_cases k2 : f.vals.length ≤ 60
          · simp +contextual +decide (maxSteps := 1000000) only [↓ wP, wQ, tf, Nat.reduceAdd, ne_eq, t1, t3, hg0, f0, frN, hsl.len, hsl.idx, hix, d1, d2, d5, pfC_agg, ce, cv, e1, e2, k1, k2]
            refine ⟨i + 1, by show _ - _ < _ - _; omega, _, _, _, _, rfl, by simp +decide only [↓ wval, wint, wlog, t1], by simp +decide only [↓ wval, wint, wlog], hg0, hn, hlt, h60, ?_⟩
            rw [htk, List.all_append, hall]
            simp [smallFr, k1, k2]
          · simp +contextual +decide (maxSteps := 1000000) only [↓ wP, wQ, tf, Nat.reduceAdd, ne_eq, t1, t3, hg0, f0, frN, hsl.len, hsl.idx, hix, d1, d2, pfC_agg, ce, cv, e1, e2, k1, k2]
            rw [smallOb_bad hm (by simp [smallFr, k2])]
        · simp +contextual +decide (maxSteps := 1000000) only [↓ wP, wQ, tf, Nat.reduceAdd, ne_eq, t1, t3, hg0, f0, frN, hsl.len, hsl.idx, hix, d1, d2, pfC_agg, ce, cv, e1, e2, k1]
          rw [smallOb_bad hm (by simp [smallFr, k1])]
      · have d2 : ¬ (i : Int) < 60 := by omega
        have h50 : ¬ o.frs.length ≤ 50 := by omega
        have d4 : ((xs.length : Nat) : Int) ≤ 50 ↔ o.frs.length ≤ 50 := by omega
        have he := hend (by omega)
        by_cases k : o.vals.length ≤ 60
        · simp +contextual +decide (maxSteps := 1000000) only [↓ wP, wQ, tf, Nat.reduceAdd, ne_eq, t1, t3, hg0, f0, frN, hsl.len, d1, d2, d4, hvv, k, h50]
          rw [he]; simp [k, h50]
        · simp +contextual +decide (maxSteps := 1000000) only [↓ wP, wQ, tf, Nat.reduceAdd, ne_eq, t1, t3, hg0, f0, frN, hsl.len, d1, d2, d4, hvv, k, h50]
          rw [he]; simp [k]
    · have d1 : ¬ (i : Int) < (xs.length : Nat) := by omega
      have d4 : ((xs.length : Nat) : Int) ≤ 50 ↔ o.frs.length ≤ 50 := by omega
      have he := hend (by omega)
      by_cases k : o.vals.length ≤ 60
      · by_cases h50 : o.frs.length ≤ 50
        · simp +contextual +decide (maxSteps := 1000000) only [↓ wP, wQ, tf, Nat.reduceAdd, ne_eq, t1, t3, hg0, f0, frN, hsl.len, d1, d4, hvv, k, h50]
          rw [he]; simp [k, h50]
        · simp +contextual +decide (maxSteps := 1000000) only [↓ wP, wQ, tf, Nat.reduceAdd, ne_eq, t1, t3, hg0, f0, frN, hsl.len, d1, d4, hvv, k, h50]
          rw [he]; simp [k, h50]
      · simp +contextual +decide (maxSteps := 1000000) only [↓ wP, wQ, tf, Nat.reduceAdd, ne_eq, t1, t3, hg0, f0, frN, hsl.len, d1, d4, hvv, k]
        rw [he]; simp [k]
end
end Go.Proofs.YtajngkkihadgfaaGreat
/-
  The law 'ImageObjects': its function returns true.
-/
namespace Go.Proofs.YtajngkkihadgfaaGreat
open Go.Abs Go Go.Abs.TryzF
noncomputable section
set_option maxRecDepth 10000
end
end Go.Proofs.YtajngkkihadgfaaGreat
