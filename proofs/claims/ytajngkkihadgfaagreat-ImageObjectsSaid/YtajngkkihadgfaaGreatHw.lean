/-
  Images: what is written is read again, by the reference and by the program.
-/
import Derived.Test.YtajngkkihadgfaaGreatHu
set_option linter.unusedVariables false
set_option linter.unusedSimpArgs false

namespace Go.Proofs.YtajngkkihadgfaaGreat
open Go.Abs Go Go.Abs.TryzF
set_option maxRecDepth 10000

/-- what lies at a place, to the end -/
def At (l : List Nat) (p : Nat) (X : List Nat) : Prop := ∃ pre, l = pre ++ X ∧ pre.length = p
theorem At.cons {l : List Nat} {p c : Nat} {X : List Nat} (h : At l p (c :: X)) : p < l.length ∧ l.getD p 0 = c ∧ At l (p + 1) X := by
  obtain ⟨pre, rfl, rfl⟩ := h
  refine ⟨by simp, by simp [List.getD], pre ++ [c], by simp, by simp⟩
theorem At.len {l : List Nat} {p : Nat} {X : List Nat} (h : At l p X) : X.length ≤ l.length := by
  obtain ⟨pre, rfl, rfl⟩ := h
  simp
theorem one_at {l : List Nat} {p c : Nat} {b : Bool} {X : List Nat} (h : At l p (c :: X)) : oneF l (p, b) = (c, p + 1, b) := by
  obtain ⟨h1, h2, _⟩ := h.cons
  unfold oneF
  rw [if_pos (show (p, b).1 < l.length from h1)]
  show (l.getD p 0, p + 1, b) = _
  rw [h2]
theorem next_at {l : List Nat} {p c : Nat} {X : List Nat} (h : At l p (c :: X)) : nextN l p = .ok c (p + 1) := by
  obtain ⟨h1, h2, _⟩ := h.cons
  unfold nextN
  rw [if_pos h1, h2]
theorem numB_lo {m : Nat} (h : m ≤ 127) : numB m = [m] := by
  rw [numB]; exact dif_neg (by omega)
theorem numB_hi {m : Nat} (h : 127 < m) : numB m = (m % 128 + 128) :: numB (m / 128) := by
  rw [numB]; exact dif_pos h
theorem num_step (m n y : Nat) : n + (m % 128 + 128) % 128 * y + m / 128 * (y * 128) = n + m * y := by
  have h1 : (m % 128 + 128) % 128 = m % 128 := by omega
  have h2 : m * y = (m / 128 * 128 + m % 128) * y := by rw [Nat.div_add_mod']
  rw [h1, h2, Nat.add_mul]
  have h3 : m / 128 * (y * 128) = m / 128 * 128 * y := by rw [Nat.mul_comm y 128, Nat.mul_assoc]
  rw [h3]; omega
theorem numGo_at {l : List Nat} {b : Bool} {Y : List Nat} : ∀ (k m n y p : Nat), At l p (numB m ++ Y) → m < 128 ^ (k + 1) → ∃ p', numGo l (k + 1) n y (p, b) = (n + m * y, p', b) ∧ At l p' Y := by
  intro k
  induction k with
  | zero =>
    intro m n y p h hm
    rw [numB_lo (by omega)] at h
    refine ⟨p + 1, ?_, h.cons.2.2⟩
    unfold numGo
    rw [one_at h]
    have : m % 128 = m := by omega
    simp only
    rw [if_pos (by omega), this]
  | succ k ih =>
    intro m n y p h hm
    by_cases hlt : 127 < m
    · rw [numB_hi hlt] at h
      obtain ⟨p', h1, h2⟩ := ih (m / 128) (n + (m % 128 + 128) % 128 * y) (y * 128) (p + 1) h.cons.2.2 (by rw [Nat.pow_succ] at hm; omega)
      refine ⟨p', ?_, h2⟩
      unfold numGo
      rw [one_at h]
      simp only
      rw [if_neg (by omega), h1, num_step]
    · rw [numB_lo (by omega)] at h
      refine ⟨p + 1, ?_, h.cons.2.2⟩
      unfold numGo
      rw [one_at h]
      have : m % 128 = m := by omega
      simp only
      rw [if_pos (by omega), this]
theorem num_at {l : List Nat} {b : Bool} {Y : List Nat} {m p : Nat} (h : At l p (numB m ++ Y)) (hm : m < 34359738368) : ∃ p', numF l (p, b) = (m, p', b) ∧ At l p' Y := by
  obtain ⟨p', h1, h2⟩ := numGo_at (b := b) 4 m 0 1 p h hm
  refine ⟨p', ?_, h2⟩
  unfold numF
  rw [h1, Nat.zero_add, Nat.mul_one]
theorem plainGo_at {l : List Nat} {Y : List Nat} : ∀ (k m n i p : Nat), At l p (numB m ++ Y) → m < 128 ^ (k + 1) → ∃ p', plainGo l (k + 1) n i p = .ok (n + m * 128 ^ i) p' ∧ At l p' Y := by
  intro k
  induction k with
  | zero =>
    intro m n i p h hm
    rw [numB_lo (by omega)] at h
    refine ⟨p + 1, ?_, h.cons.2.2⟩
    unfold plainGo
    rw [next_at h]
    have : m % 128 = m := by omega
    simp only
    rw [if_pos (by omega), this]
  | succ k ih =>
    intro m n i p h hm
    by_cases hlt : 127 < m
    · rw [numB_hi hlt] at h
      obtain ⟨p', h1, h2⟩ := ih (m / 128) (n + (m % 128 + 128) % 128 * 128 ^ i) (i + 1) (p + 1) h.cons.2.2 (by rw [Nat.pow_succ] at hm; omega)
      refine ⟨p', ?_, h2⟩
      unfold plainGo
      rw [next_at h]
      simp only
      rw [if_neg (by omega), h1, Nat.pow_succ, num_step]
    · rw [numB_lo (by omega)] at h
      refine ⟨p + 1, ?_, h.cons.2.2⟩
      unfold plainGo
      rw [next_at h]
      have : m % 128 = m := by omega
      simp only
      rw [if_pos (by omega), this]
theorem plain_at {l : List Nat} {Y : List Nat} {m p : Nat} (h : At l p (numB m ++ Y)) (hm : m < 34359738368) : ∃ p', plainN l p = .ok m p' ∧ At l p' Y := by
  obtain ⟨p', h1, h2⟩ := plainGo_at 4 m 0 0 p h hm
  refine ⟨p', ?_, h2⟩
  unfold plainN
  rw [h1, Nat.zero_add, Nat.pow_zero, Nat.mul_one]
theorem numOk_iff {n : Int} : numOk n = true ↔ -1073741824 ≤ n ∧ n ≤ 1073741824 := by simp [numOk, inB]
theorem unzig_zig {n : Int} : unzig (zig n) = n := by
  unfold unzig zig
  split
  · rw [if_pos (by omega)]; omega
  · rw [if_neg (by omega)]; omega
theorem zig_lt35 {n : Int} (h : numOk n = true) : zig n < 34359738368 := by
  rw [numOk_iff] at h
  unfold zig
  split <;> omega
theorem sgn_at {l : List Nat} {b : Bool} {Y : List Nat} {n : Int} {p : Nat} (h : At l p (sgnB n ++ Y)) (hn : numOk n = true) : ∃ p', sgnF l (p, b) = (n, p', b) ∧ At l p' Y := by
  obtain ⟨p', h1, h2⟩ := num_at (b := b) h (zig_lt35 hn)
  refine ⟨p', ?_, h2⟩
  unfold sgnF
  rw [h1, unzig_zig]
theorem psgn_at {l : List Nat} {Y : List Nat} {n : Int} {p : Nat} (h : At l p (sgnB n ++ Y)) (hn : numOk n = true) : ∃ p', sgnN l p = .ok n p' ∧ At l p' Y := by
  obtain ⟨p', h1, h2⟩ := plain_at h (zig_lt35 hn)
  refine ⟨p', ?_, h2⟩
  unfold sgnN
  rw [h1]
  show PR.ok (unzig (zig n)) p' = _
  rw [unzig_zig]
theorem valOk_num {v : Val} (h : valOk v = true) : 1 ≤ v.1 ∧ v.1 ≤ 5 ∧ numOk v.2 = true := by
  unfold valOk at h
  rw [numOk_iff]
  split at h
  · rw [numOk_iff] at h; omega
  · split at h
    · simp [inB] at h; omega
    · split at h
      · simp at h; omega
      · split at h
        · simp [inB] at h; omega
        · split at h
          · simp [inB] at h; omega
          · cases h
theorem listGo_at {l : List Nat} {Y : List Nat} {n : Nat} (hn : n ≤ 30) : ∀ (vs : List Val) (k i : Nat) (acc : List Val) (p : Nat), vs.length ≤ k → n = i + vs.length → (∀ v ∈ vs, valOk v = true) → At l p (vs.flatMap valB ++ Y) → ∃ p', listGo l n k i acc (p, false) = (acc ++ vs, p', false) ∧ At l p' Y
  | [], k, i, acc, p, _, hi, _, h => by
    refine ⟨p, ?_, h⟩
    cases k with
    | zero => simp [listGo]
    | succ k => 
      unfold listGo
      rw [if_neg (by simp at hi; omega), List.append_nil]
  | v :: vs, 0, _, _, _, hk, _, _, _ => by simp at hk
  | v :: vs, k + 1, i, acc, p, hk, hi, hok, h => by
    simp only [List.length_cons] at hk hi
    rw [List.flatMap_cons, valB, List.cons_append, List.cons_append, List.append_assoc] at h
    obtain ⟨h1, h2, h3⟩ := valOk_num (hok v (List.mem_cons_self ..))
    obtain ⟨q, h4, h5⟩ := sgn_at (b := false) h.cons.2.2 h3
    obtain ⟨p', h6, h7⟩ := listGo_at hn vs k (i + 1) (acc ++ [v]) q (by omega) (by omega) (fun w hw => hok w (List.mem_cons_of_mem _ hw)) h5
    refine ⟨p', ?_, h7⟩
    unfold listGo
    rw [if_pos ⟨by omega, by omega, rfl⟩, one_at h]
    simp only
    rw [h4]
    have : (((v.1.toNat % 256 : Nat) : Int), v.2) = v := by
      rw [show ((v.1.toNat % 256 : Nat) : Int) = v.1 by omega]
    simp only [this]
    rw [h6, List.append_assoc]; rfl
theorem valsOk_iff {vs : List Val} : valsOk vs = true ↔ vs.length ≤ 30 ∧ ∀ v ∈ vs, valOk v = true := by simp [valsOk]
theorem list_at {l : List Nat} {Y : List Nat} {vs : List Val} {p : Nat} (h : At l p (valsB vs ++ Y)) (hok : valsOk vs = true) : ∃ p', listF l (p, false) = (vs, p', false) ∧ At l p' Y := by
  rw [valsOk_iff] at hok
  unfold valsB at h
  rw [List.append_assoc] at h
  obtain ⟨q, h1, h2⟩ := num_at (b := false) h (by omega)
  obtain ⟨p', h3, h4⟩ := listGo_at hok.1 vs 32 0 [] q (by omega) (by omega) hok.2 h2
  refine ⟨p', ?_, h4⟩
  unfold listF
  rw [h1]
  exact h3
theorem pval_at {l : List Nat} {Y : List Nat} {v : Val} {p : Nat} (h : At l p (valB v ++ Y)) (hok : valOk v = true) : ∃ p', valN l p = .ok v p' ∧ At l p' Y := by
  rw [valB, List.cons_append] at h
  obtain ⟨h1, h2, h3⟩ := valOk_num hok
  obtain ⟨q, h4, h5⟩ := psgn_at h.cons.2.2 h3
  refine ⟨q, ?_, h5⟩
  unfold valN
  rw [next_at h]
  simp only
  rw [h4]
  show PR.ok (((v.1.toNat % 256 : Nat) : Int), v.2) q = _
  rw [show ((v.1.toNat % 256 : Nat) : Int) = v.1 by omega]
theorem pvalsGo_at {l : List Nat} {Y : List Nat} : ∀ (vs : List Val) (acc : List Val) (p : Nat), (∀ v ∈ vs, valOk v = true) → At l p (vs.flatMap valB ++ Y) → ∃ p', valsGo l vs.length acc p = .ok (acc ++ vs) p' ∧ At l p' Y
  | [], acc, p, _, h => ⟨p, by simp [valsGo], h⟩
  | v :: vs, acc, p, hok, h => by
    rw [List.flatMap_cons, List.append_assoc] at h
    obtain ⟨q, h1, h2⟩ := pval_at h (hok v (List.mem_cons_self ..))
    obtain ⟨p', h3, h4⟩ := pvalsGo_at vs (acc ++ [v]) q (fun w hw => hok w (List.mem_cons_of_mem _ hw)) h2
    refine ⟨p', ?_, h4⟩
    show valsGo l (vs.length + 1) acc p = _
    unfold valsGo
    rw [h1]
    simp only
    rw [h3, List.append_assoc]; rfl
theorem flat_len {α : Type} {f : α → List Nat} (hf : ∀ x, 1 ≤ (f x).length) : ∀ l : List α, l.length ≤ (l.flatMap f).length
  | [] => Nat.zero_le _
  | x :: l => by
    rw [List.flatMap_cons, List.length_append, List.length_cons]
    have := hf x
    have := flat_len hf l
    omega
theorem pvals_at {l : List Nat} {Y : List Nat} {vs : List Val} {p : Nat} (h : At l p (valsB vs ++ Y)) (hok : valsOk vs = true) : ∃ p', valsN l p = .ok vs p' ∧ At l p' Y := by
  rw [valsOk_iff] at hok
  unfold valsB at h
  rw [List.append_assoc] at h
  obtain ⟨q, h1, h2⟩ := plain_at h (by omega)
  obtain ⟨p', h3, h4⟩ := pvalsGo_at vs [] q hok.2 h2
  refine ⟨p', ?_, h4⟩
  have h5 := h2.len
  rw [List.length_append] at h5
  have h6 := flat_len (f := valB) (fun v => by simp [valB]) vs
  unfold valsN
  rw [h1]
  simp only
  rw [if_pos (by omega), h3]; rfl
theorem frOk_iff {f : Fr} : frOk f = true ↔ (0 ≤ f.node ∧ f.node ≤ 1073741824) ∧ valsOk f.env = true ∧ valsOk f.vals = true := by
  simp [frOk, inB, and_assoc]
theorem fr_at {l : List Nat} {Y : List Nat} {f : Fr} {p : Nat} (h : At l p (frB f ++ Y)) (hok : frOk f = true) : ∃ p', frF l (p, false) = (f, p', false) ∧ At l p' Y := by
  rw [frOk_iff] at hok
  obtain ⟨⟨g1, g2⟩, g3, g4⟩ := hok
  unfold frB at h
  rw [List.append_assoc, List.append_assoc] at h
  obtain ⟨q1, h1, h2⟩ := num_at (b := false) h (by omega)
  obtain ⟨q2, h3, h4⟩ := list_at h2 g3
  obtain ⟨q3, h5, h6⟩ := list_at h4 g4
  refine ⟨q3, ?_, h6⟩
  unfold frF
  rw [h1]; simp only
  rw [h3]; simp only
  rw [h5]
  obtain ⟨nd, e, v⟩ := f
  simp only at *
  rw [show ((nd.toNat : Nat) : Int) = nd by omega]
theorem pfr_at {l : List Nat} {Y : List Nat} {f : Fr} {p : Nat} (h : At l p (frB f ++ Y)) (hok : frOk f = true) : ∃ p', frN_ l p = .ok f p' ∧ At l p' Y := by
  rw [frOk_iff] at hok
  obtain ⟨⟨g1, g2⟩, g3, g4⟩ := hok
  unfold frB at h
  rw [List.append_assoc, List.append_assoc] at h
  obtain ⟨q1, h1, h2⟩ := plain_at h (by omega)
  obtain ⟨q2, h3, h4⟩ := pvals_at h2 g3
  obtain ⟨q3, h5, h6⟩ := pvals_at h4 g4
  refine ⟨q3, ?_, h6⟩
  unfold frN_
  rw [h1]; simp only
  rw [h3]; simp only
  rw [h5]
  obtain ⟨nd, e, v⟩ := f
  simp only at *
  rw [show ((nd.toNat : Nat) : Int) = nd by omega]
theorem frsGo_at {l : List Nat} {Y : List Nat} {n : Nat} (hn : n ≤ 40) : ∀ (vs : List Fr) (k i : Nat) (acc : List Fr) (p : Nat), vs.length ≤ k → n = i + vs.length → (∀ v ∈ vs, frOk v = true) → At l p (vs.flatMap frB ++ Y) → ∃ p', frsGo l n k i acc (p, false) = (acc ++ vs, p', false) ∧ At l p' Y
  | [], k, i, acc, p, _, hi, _, h => by
    refine ⟨p, ?_, h⟩
    cases k with
    | zero => simp [frsGo]
    | succ k => 
      unfold frsGo
      rw [if_neg (by simp at hi; omega), List.append_nil]
  | v :: vs, 0, _, _, _, hk, _, _, _ => by simp at hk
  | v :: vs, k + 1, i, acc, p, hk, hi, hok, h => by
    simp only [List.length_cons] at hk hi
    rw [List.flatMap_cons, List.append_assoc] at h
    obtain ⟨q, h4, h5⟩ := fr_at h (hok v (List.mem_cons_self ..))
    obtain ⟨p', h6, h7⟩ := frsGo_at hn vs k (i + 1) (acc ++ [v]) q (by omega) (by omega) (fun w hw => hok w (List.mem_cons_of_mem _ hw)) h5
    refine ⟨p', ?_, h7⟩
    unfold frsGo
    rw [if_pos ⟨by omega, by omega, rfl⟩, h4]
    simp only
    rw [h6, List.append_assoc]; rfl
theorem pfrsGo_at {l : List Nat} {Y : List Nat} : ∀ (vs : List Fr) (acc : List Fr) (p : Nat), (∀ v ∈ vs, frOk v = true) → At l p (vs.flatMap frB ++ Y) → ∃ p', frsGoP l vs.length acc p = .ok (acc ++ vs) p' ∧ At l p' Y
  | [], acc, p, _, h => ⟨p, by simp [frsGoP], h⟩
  | v :: vs, acc, p, hok, h => by
    rw [List.flatMap_cons, List.append_assoc] at h
    obtain ⟨q, h1, h2⟩ := pfr_at h (hok v (List.mem_cons_self ..))
    obtain ⟨p', h3, h4⟩ := pfrsGo_at vs (acc ++ [v]) q (fun w hw => hok w (List.mem_cons_of_mem _ hw)) h2
    refine ⟨p', ?_, h4⟩
    show frsGoP l (vs.length + 1) acc p = _
    unfold frsGoP
    rw [h1]
    simp only
    rw [h3, List.append_assoc]; rfl
theorem numB_pos (n : Nat) : 1 ≤ (numB n).length := by
  rw [numB]; split <;> simp
theorem frsOk_iff {fs : List Fr} : frsOk fs = true ↔ fs.length ≤ 40 ∧ ∀ f ∈ fs, frOk f = true := by simp [frsOk]
theorem obOk_iff {o : Ob} : obOk o = true ↔ (1 ≤ o.form ∧ o.form ≤ 6) ∧ numOk o.n = true ∧ valsOk o.vals = true ∧ frsOk o.frs = true := by
  simp [obOk, inB, and_assoc]
theorem At.all (l : List Nat) : At l 0 l := ⟨[], rfl, rfl⟩
theorem ob_at {o : Ob} (hok : obOk o = true) : ∃ p', obF (obB o) (0, false) = (o, p', false) := by
  rw [obOk_iff, frsOk_iff] at hok
  obtain ⟨⟨g1, g2⟩, g3, g4, g5, g6⟩ := hok
  have h : At (obB o) 0 ((o.form.toNat % 256) :: (sgnB o.n ++ (valsB o.vals ++ (numB o.frs.length ++ (o.frs.flatMap frB ++ []))))) := by
    have := At.all (obB o)
    simp only [List.append_nil]
    unfold obB at this ⊢
    simpa only [List.append_assoc] using this
  generalize obB o = l at h ⊢
  obtain ⟨q1, h1, h2⟩ := sgn_at (b := false) h.cons.2.2 g3
  obtain ⟨q2, h3, h4⟩ := list_at h2 g4
  obtain ⟨q3, h5, h6⟩ := num_at (b := false) h4 (by omega)
  obtain ⟨q4, h7, h8⟩ := frsGo_at g5 o.frs 42 0 [] q3 (by omega) (by omega) g6 h6
  refine ⟨q4, ?_⟩
  unfold obF
  rw [one_at h]; simp only
  rw [h1]; simp only
  rw [h3]; simp only
  unfold frsF
  rw [h5]; simp only
  rw [h7]
  obtain ⟨fm, n, v, f⟩ := o
  simp only [List.nil_append] at *
  rw [show ((fm.toNat % 256 : Nat) : Int) = fm by omega]
theorem pob_at {o : Ob} (hok : obOk o = true) : ∃ p', obN_ (obB o) 0 = .ok o p' := by
  rw [obOk_iff, frsOk_iff] at hok
  obtain ⟨⟨g1, g2⟩, g3, g4, g5, g6⟩ := hok
  have h : At (obB o) 0 ((o.form.toNat % 256) :: (sgnB o.n ++ (valsB o.vals ++ (numB o.frs.length ++ (o.frs.flatMap frB ++ []))))) := by
    have := At.all (obB o)
    simp only [List.append_nil]
    unfold obB at this ⊢
    simpa only [List.append_assoc] using this
  generalize obB o = l at h ⊢
  obtain ⟨q1, h1, h2⟩ := psgn_at h.cons.2.2 g3
  obtain ⟨q2, h3, h4⟩ := pvals_at h2 g4
  obtain ⟨q3, h5, h6⟩ := plain_at h4 (by omega)
  obtain ⟨q4, h7, h8⟩ := pfrsGo_at o.frs [] q3 g6 h6
  refine ⟨q4, ?_⟩
  have h9 := h6.len
  rw [List.length_append] at h9
  have h10 := flat_len (f := frB) (fun f => by have := numB_pos f.node.toNat; simp only [frB, List.length_append]; omega) o.frs
  unfold obN_
  rw [next_at h]; simp only
  rw [h1]; simp only
  rw [h3]; simp only
  unfold frsN
  rw [h5]; simp only
  rw [if_pos (by omega), h7]
  obtain ⟨fm, n, v, f⟩ := o
  simp only [List.nil_append] at *
  rw [show ((fm.toNat % 256 : Nat) : Int) = fm by omega]
/-- the program reads as the reference reads -/
theorem ParseP_eq (s : List Nat) : ParseP s = ParseV s := by
  by_cases h : ∃ o, obOk o = true ∧ obB o = s
  · obtain ⟨o, h1, rfl⟩ := h
    obtain ⟨p, h2⟩ := ob_at h1
    obtain ⟨q, h3⟩ := pob_at h1
    unfold ParseP ParseV parseO
    rw [h2, h3]
    simp [h1]
  · have e1 : parseO s = none := by
      unfold parseO
      rw [if_neg fun hc => h ⟨_, hc.2.1, hc.2.2⟩]
    have e2 : ParseP s = .tuple [obA noOb, .int .i64 4] := by
      unfold ParseP
      split
      · rename_i o k _
        rw [if_neg fun hc => h ⟨o, hc.1, hc.2⟩]
      · rfl
    rw [e2]
    unfold ParseV
    rw [e1]

end Go.Proofs.YtajngkkihadgfaaGreat

/-
  The reference of images: what is small enough to be tried.
-/

namespace Go.Proofs.YtajngkkihadgfaaGreat
open Go.Abs Go Go.Abs.TryzF
noncomputable section
set_option maxRecDepth 10000

def smallFr (f : Fr) : Bool := decide (f.env.length ≤ 60) && decide (f.vals.length ≤ 60)
def SmallV : List AV → Option AV
  | [a] => (decOb a).map fun o => .bool (smallOb o)
  | _ => none
theorem SmallV_eq {a : AV} {o : Ob} (h : decOb a = some o) : SmallV [a] = some (.bool (smallOb o)) := by simp [SmallV, h]
theorem smallOb_bad {o : Ob} {f : Fr} (hm : f ∈ o.frs) (h : smallFr f = false) : smallOb o = false := by
  have : (o.frs.all fun f => decide (f.env.length ≤ 60) && decide (f.vals.length ≤ 60)) = false := by
    rw [List.all_eq_false]; exact ⟨f, hm, by unfold smallFr at h; rw [h]; simp⟩
  unfold smallOb
  rw [this, Bool.and_false]
set_option maxHeartbeats 1000000 in
theorem rSmall_ok : Abs.Ok Tryz.prog 7 SmallV := by
  intro args v hg
  match args, hg with
  | [a], hg =>
    obtain ⟨o, ho, rfl⟩ := Option.map_eq_some_iff.1 hg
    have hund := (under_ob ho).und
    obtain ⟨vs, fs, rfl, hvs, hfs⟩ := decOb_some ho
    obtain ⟨xs, hsl, hlen, hat⟩ := frs_sl hfs
    have cvs := decVals_cell hvs
    have cfs := hsl.cell
    have hll := hsl.2
    refine returns_wk (L := [ent 30 smallV]) (elist_cons rsmall_ok.ent elist_nil) noHint (by kernel_rfl) Tryz.func7 Tryz.ntmps7 Tryz.results7 rfl rfl (und_all_cons hund und_all_nil) und_bool ?_
    have hvv := smallV_eq hvs
    simp (config := {contextual := true, decide := true, maxSteps := 1000000}) only [↓ wpre, ↓ wval, wpost, wint, wlog, wcell, wop, wop2, wdr, wdr2, wloop, wrng, wfld, tf, Nat.reduceAdd, Wop_ext, extV_tuple, ne_eq, cvs, cfs]
    refine Wk_loop (fun i e => ∃ t n low ob, e = ⟨42, none, 7, t, [], ⟨n, low, ob⟩, .no⟩ ∧ t.val 1 = .ptr 0 0 0 ∧ t.val 3 = .int .i64 (i : Nat) ∧ ob.get 0 = some (obg 0 [.int .i64 o.form, .int .i64 o.n, vs, fs]) ∧ 0 < n ∧ i ≤ o.frs.length ∧ i ≤ 60 ∧ (o.frs.take i).all smallFr = true) (fun i => o.frs.length - i) 0
      ⟨_, 1, 0, _, rfl, by simp (config := {decide := true}) only [↓ wval, wint, wlog], by simp (config := {decide := true}) only [↓ wval, wint, wlog]; rfl, by simp (config := {decide := true}) only [↓ wval, wcell, wlog, ne_eq], by omega, Nat.zero_le _, by omega, rfl⟩ ?_
    rintro i _ ⟨t, n, low, ob, rfl, t1, t3, hg0, hn, hi, hi60, hall⟩
    have f0 := frI (i := 0) (n := n) hn
    have hend : ¬ (i < o.frs.length ∧ i < 60) → smallOb o = (decide (o.vals.length ≤ 60) && decide (o.frs.length ≤ 50)) := by
      intro h
      by_cases h50 : o.frs.length ≤ 50
      · have hi' : i = o.frs.length := by omega
        subst hi'
        rw [List.take_length] at hall
        have : (o.frs.all fun f => decide (f.env.length ≤ 60) && decide (f.vals.length ≤ 60)) = true := hall
        unfold smallOb
        rw [this, Bool.and_true]
      · unfold smallOb
        rw [decide_eq_false h50]; simp
    by_cases hlt : i < o.frs.length
    · have d1 : (i : Int) < (xs.length : Nat) := by omega
      by_cases h60 : i < 60
      · have d2 : (i : Int) < 60 := by omega
        have d3 : (0 : Int) ≤ i := by omega
        have d5 := wrap_succ (i := i) (by omega)
        have htk := take_snoc (d := default) hlt
        have hm : o.frs.getD i default ∈ o.frs := by rw [getD_lt hlt]; exact List.getElem_mem _
        obtain ⟨e, v, hix, he, hv⟩ := hat i hlt
        have ce := decVals_cell he
        have cv := decVals_cell hv
        have e1 := smallV_eq he
        have e2 := smallV_eq hv
        generalize hxd : o.frs.getD i default = f at *
        by_cases k1 : f.env.length ≤ 60
        · by_cases k2 : f.vals.length ≤ 60
          · simp (config := {contextual := true, decide := true, maxSteps := 1000000}) only [↓ wpre, ↓ wval, wpost, wint, wlog, wcell, wop, wop2, wdr, wdr2, wloop, wrng, wfld, tf, Nat.reduceAdd, Wop_ext, extV_tuple, ne_eq, t1, t3, hg0, f0, frN, hsl.len, hsl.idx, hix, d1, d2, d5, pfC_agg, ce, cv, e1, e2, k1, k2]
            refine ⟨i + 1, by show _ - _ < _ - _; omega, _, _, _, _, rfl, by simp (config := {decide := true}) only [↓ wval, wint, wlog, t1], by simp (config := {decide := true}) only [↓ wval, wint, wlog], hg0, hn, hlt, h60, ?_⟩
            rw [htk, List.all_append, hall]
            simp [smallFr, k1, k2]
          · simp (config := {contextual := true, decide := true, maxSteps := 1000000}) only [↓ wpre, ↓ wval, wpost, wint, wlog, wcell, wop, wop2, wdr, wdr2, wloop, wrng, wfld, tf, Nat.reduceAdd, Wop_ext, extV_tuple, ne_eq, t1, t3, hg0, f0, frN, hsl.len, hsl.idx, hix, d1, d2, pfC_agg, ce, cv, e1, e2, k1, k2]
            rw [smallOb_bad hm (by simp [smallFr, k2])]
        · simp (config := {contextual := true, decide := true, maxSteps := 1000000}) only [↓ wpre, ↓ wval, wpost, wint, wlog, wcell, wop, wop2, wdr, wdr2, wloop, wrng, wfld, tf, Nat.reduceAdd, Wop_ext, extV_tuple, ne_eq, t1, t3, hg0, f0, frN, hsl.len, hsl.idx, hix, d1, d2, pfC_agg, ce, cv, e1, e2, k1]
          rw [smallOb_bad hm (by simp [smallFr, k1])]
      · have d2 : ¬ (i : Int) < 60 := by omega
        have h50 : ¬ o.frs.length ≤ 50 := by omega
        have d4 : ((xs.length : Nat) : Int) ≤ 50 ↔ o.frs.length ≤ 50 := by omega
        have he := hend (by omega)
        by_cases k : o.vals.length ≤ 60
        · simp (config := {contextual := true, decide := true, maxSteps := 1000000}) only [↓ wpre, ↓ wval, wpost, wint, wlog, wcell, wop, wop2, wdr, wdr2, wloop, wrng, wfld, tf, Nat.reduceAdd, Wop_ext, extV_tuple, ne_eq, t1, t3, hg0, f0, frN, hsl.len, d1, d2, d4, hvv, k, h50]
          rw [he]; simp [k, h50]
        · simp (config := {contextual := true, decide := true, maxSteps := 1000000}) only [↓ wpre, ↓ wval, wpost, wint, wlog, wcell, wop, wop2, wdr, wdr2, wloop, wrng, wfld, tf, Nat.reduceAdd, Wop_ext, extV_tuple, ne_eq, t1, t3, hg0, f0, frN, hsl.len, d1, d2, d4, hvv, k, h50]
          rw [he]; simp [k]
    · have d1 : ¬ (i : Int) < (xs.length : Nat) := by omega
      have d4 : ((xs.length : Nat) : Int) ≤ 50 ↔ o.frs.length ≤ 50 := by omega
      have he := hend (by omega)
      by_cases k : o.vals.length ≤ 60
      · by_cases h50 : o.frs.length ≤ 50
        · simp (config := {contextual := true, decide := true, maxSteps := 1000000}) only [↓ wpre, ↓ wval, wpost, wint, wlog, wcell, wop, wop2, wdr, wdr2, wloop, wrng, wfld, tf, Nat.reduceAdd, Wop_ext, extV_tuple, ne_eq, t1, t3, hg0, f0, frN, hsl.len, d1, d4, hvv, k, h50]
          rw [he]; simp [k, h50]
        · simp (config := {contextual := true, decide := true, maxSteps := 1000000}) only [↓ wpre, ↓ wval, wpost, wint, wlog, wcell, wop, wop2, wdr, wdr2, wloop, wrng, wfld, tf, Nat.reduceAdd, Wop_ext, extV_tuple, ne_eq, t1, t3, hg0, f0, frN, hsl.len, d1, d4, hvv, k, h50]
          rw [he]; simp [k, h50]
      · simp (config := {contextual := true, decide := true, maxSteps := 1000000}) only [↓ wpre, ↓ wval, wpost, wint, wlog, wcell, wop, wop2, wdr, wdr2, wloop, wrng, wfld, tf, Nat.reduceAdd, Wop_ext, extV_tuple, ne_eq, t1, t3, hg0, f0, frN, hsl.len, d1, d4, hvv, k]
        rw [he]; simp [k]

end
end Go.Proofs.YtajngkkihadgfaaGreat

/-
  The law 'ImageObjects': its function returns true.
-/

namespace Go.Proofs.YtajngkkihadgfaaGreat
open Go.Abs Go Go.Abs.TryzF
noncomputable section
set_option maxRecDepth 10000

abbrev BStr40 := { x : List Nat // By x ∧ x.length < 1099511627776 }
theorem bstr40_inj {V : List Nat → AV} : ∀ i j : BStr40, [AV.str i.1] = [AV.str j.1] → V i.1 = V j.1 := by
  rintro ⟨a, _⟩ ⟨b, _⟩ h
  simp at h; subst h; rfl
abbrev L3 : List Ent := [ent 7 SmallV, ent1 8 [] (.bool true), ent 9 rObjectV, ent 10 rObjectV, entF 11 (fun x : BStr40 => [.str x.1]) (fun x => ParseV x.1), entF 12 (fun x : BStr40 => [.str x.1]) (fun x => ParseV x.1), ent 13 sameObV]
theorem L3_ok (h : Abs.Returns Tryz.prog 8 [] (.bool true)) : ∀ x ∈ L3, ESound Tryz.prog x :=
  elist_cons rSmall_ok.ent (elist_cons (ent1_ok h) (elist_cons objectV_ok.ent (elist_cons rObject_ok.ent (elist_cons (entF_ok fun x => (ParseP_eq x.1) ▸ Parse_ok x.1 x.2.1 x.2.2) (elist_cons (entF_ok fun x => rParse_ok x.1 x.2.1 (by have := x.2.2; omega)) (elist_cons rsameOb_ok.ent elist_nil))))))
theorem L3_7 {a : AV} {o : Ob} (h : decOb a = some o) (σ : Sto) : orcL L3 7 [a] σ = some (.ret (.bool (smallOb o)) none) := ent_same.trans (congrArg (Option.map _) (SmallV_eq h))
theorem L3_8 (σ : Sto) : orcL L3 8 [] σ = some (.ret (.bool true) none) := (ent_ne (by decide)).trans ent1_same
theorem L3_9 {a : AV} {o : Ob} (h : decOb a = some o) (σ : Sto) : orcL L3 9 [a] σ = some (.ret (if obOk o = true then .tuple [.str (obB o), .int .i64 0] else .tuple [.str [], .int .i64 2]) none) :=
  (ent_ne (by decide)).trans ((ent1_ne (by decide)).trans (ent_same.trans (congrArg (Option.map _) (rObjectV_eq h))))
theorem L3_10 {a : AV} {o : Ob} (h : decOb a = some o) (σ : Sto) : orcL L3 10 [a] σ = some (.ret (if obOk o = true then .tuple [.str (obB o), .int .i64 0] else .tuple [.str [], .int .i64 2]) none) :=
  (ent_ne (by decide)).trans ((ent1_ne (by decide)).trans ((ent_ne (by decide)).trans (ent_same.trans (congrArg (Option.map _) (rObjectV_eq h)))))
theorem L3_11 {s : List Nat} (hb : By s) (hl : s.length < 1099511627776) (σ : Sto) : orcL L3 11 [.str s] σ = some (.ret (ParseV s) none) :=
  (ent_ne (by decide)).trans ((ent1_ne (by decide)).trans ((ent_ne (by decide)).trans ((ent_ne (by decide)).trans (entF_same (A := fun x : BStr40 => [.str x.1]) (V := fun x => ParseV x.1) bstr40_inj ⟨s, hb, hl⟩))))
theorem L3_12 {s : List Nat} (hb : By s) (hl : s.length < 1099511627776) (σ : Sto) : orcL L3 12 [.str s] σ = some (.ret (ParseV s) none) :=
  (ent_ne (by decide)).trans ((ent1_ne (by decide)).trans ((ent_ne (by decide)).trans ((ent_ne (by decide)).trans ((entF_ne (by decide)).trans (entF_same (A := fun x : BStr40 => [.str x.1]) (V := fun x => ParseV x.1) bstr40_inj ⟨s, hb, hl⟩)))))
theorem L3_13 {a b : AV} {o : Ob} (h : decOb a = some o) (h' : decOb b = some o) (σ : Sto) : orcL L3 13 [a, b] σ = some (.ret (.bool true) none) := by
  have hs : sameObV [a, b] = some (.bool true) := by rw [sameObV_eq h h']; simp
  exact (ent_ne (by decide)).trans ((ent1_ne (by decide)).trans ((ent_ne (by decide)).trans ((ent_ne (by decide)).trans ((entF_ne (by decide)).trans ((entF_ne (by decide)).trans (ent_same.trans (congrArg (Option.map _) hs)))))))
theorem parseO_some {s : List Nat} {o : Ob} (h : parseO s = some o) : obOk o = true ∧ obB o = s ∧ decOb (obA o) = some o := by
  unfold parseO at h
  split at h
  · rename_i hc
    cases h
    exact ⟨hc.2.1, hc.2.2, obF_dec _ _⟩
  · cases h
theorem parseO_B {o : Ob} (h : obOk o = true) : parseO (obB o) = some o := by
  obtain ⟨p, hp⟩ := ob_at h
  unfold parseO
  rw [hp]
  exact if_pos ⟨rfl, h, rfl⟩
theorem ParseV_some {s : List Nat} {o : Ob} (h : parseO s = some o) : ParseV s = .tuple [.agg [.int .i64 o.form, .int .i64 o.n, valsA o.vals, frsA o.frs], .int .i64 0] := by unfold ParseV; rw [h]; rfl
theorem ParseV_none {s : List Nat} (h : parseO s = none) : ParseV s = .tuple [.agg [.int .i64 0, .int .i64 0, .nils, .nils], .int .i64 4] := by unfold ParseV; rw [h]; rfl
theorem obB_len {o : Ob} (h : obOk o = true) : (obB o).length ≤ 20000 := by
  obtain ⟨⟨k1, k2⟩, k3, k4, k5, k6⟩ := obOk_and h
  have l1 := sgnB_len k3
  have l2 := vals_len k4
  have l3 := numB_len 1 o.frs.length (by omega) (by omega)
  have l4 : (o.frs.flatMap frB).length ≤ 40 * 375 := Nat.le_trans (flatMap_len (k := 375) _ fun x hx => fr_len (k6 x hx)) (by omega)
  simp only [obB, List.length_cons, List.length_append]; omega
set_option maxHeartbeats 1000000 in
theorem objects_ok (hw : Abs.Returns Tryz.prog 8 [] (.bool true)) (a : AV) (o : Ob) (ho : decOb a = some o) (s : List Nat) (hb : By s) (hl : s.length < 9223372036854775808) : Abs.Returns Tryz.prog 3 [a, .str s] (.bool true) := by
  have hund := (under_ob ho).und
  obtain ⟨vs, fs, rfl, hvs, hfs⟩ := decOb_some ho
  have cvs := decVals_cell hvs
  have cfs := decS_cell hfs
  refine returns_wk (L := L3) (L3_ok hw) noHint (by kernel_rfl) Tryz.func3 Tryz.ntmps3 Tryz.results3 rfl rfl (und_all_cons hund (und_all_cons und_str und_all_nil)) und_bool ?_
  have c7 := L3_7 ho
  have c8 := L3_8
  cases h7 : smallOb o with
  | false =>
    rw [h7] at c7
    simp (config := {contextual := true, decide := true, maxSteps := 1000000}) only [↓ wpre, ↓ wval, wpost, wint, wlog, wcell, wop, wop2, wdr, wdr2, wloop, wrng, wfld, tf, Nat.reduceAdd, Wop_ext, extV_tuple, ne_eq, cvs, cfs, c7, c8]
  | true =>
  rw [h7] at c7
  by_cases h3 : 3000 < s.length
  · have d3 : (3000 : Int) < (s.length : Nat) := by omega
    simp (config := {contextual := true, decide := true, maxSteps := 1000000}) only [↓ wpre, ↓ wval, wpost, wint, wlog, wcell, wop, wop2, wdr, wdr2, wloop, wrng, wfld, tf, Nat.reduceAdd, Wop_ext, extV_tuple, ne_eq, cvs, cfs, c7, c8, d3]
  have d3 : ¬ (3000 : Int) < (s.length : Nat) := by omega
  have c9 := L3_9 ho
  have c10 := L3_10 ho
  have c11 := L3_11 hb (by omega)
  have c12 := L3_12 hb (by omega)
  cases h1 : obOk o with
  | false =>
    rw [h1, if_neg (by decide)] at c9 c10
    cases h2 : parseO s with
    | none =>
      rw [ParseV_none h2] at c11 c12
      have c13 := L3_13 (a := .agg [.int .i64 0, .int .i64 0, .nils, .nils]) (b := .agg [.int .i64 0, .int .i64 0, .nils, .nils]) (o := noOb) rfl rfl
      simp (config := {contextual := true, decide := true, maxSteps := 1000000}) only [↓ wpre, ↓ wval, wpost, wint, wlog, wcell, wop, wop2, wdr, wdr2, wloop, wrng, wfld, tf, Nat.reduceAdd, Wop_ext, extV_tuple, ne_eq, cvs, cfs, c7, c8, d3, c9, c10, c11, c12, c13, frN, abin_str_neq, abin_str_eql, valsA_cell, frsA_cell]
    | some q =>
      rw [ParseV_some h2] at c11 c12
      obtain ⟨q1, q2, q3⟩ := parseO_some h2
      have c13 := L3_13 (a := .agg [.int .i64 q.form, .int .i64 q.n, valsA q.vals, frsA q.frs]) (b := .agg [.int .i64 q.form, .int .i64 q.n, valsA q.vals, frsA q.frs]) q3 q3
      have c14 := L3_9 (a := .agg [.int .i64 q.form, .int .i64 q.n, valsA q.vals, frsA q.frs]) q3
      rw [if_pos q1, q2] at c14
      simp (config := {contextual := true, decide := true, maxSteps := 1000000}) only [↓ wpre, ↓ wval, wpost, wint, wlog, wcell, wop, wop2, wdr, wdr2, wloop, wrng, wfld, tf, Nat.reduceAdd, Wop_ext, extV_tuple, ne_eq, cvs, cfs, c7, c8, d3, c9, c10, c11, c12, c13, c14, frN, abin_str_neq, abin_str_eql, valsA_cell, frsA_cell]
  | true =>
    rw [h1, if_pos rfl] at c9 c10
    have c15 := L3_11 (s := obB o) (obB_by o) (by have := obB_len h1; omega)
    rw [ParseV_some (parseO_B h1)] at c15
    have q4 := (parseO_some (parseO_B h1)).2.2
    have c16 := L3_13 (a := .agg [.int .i64 o.form, .int .i64 o.n, valsA o.vals, frsA o.frs]) q4 ho
    cases h2 : parseO s with
    | none =>
      rw [ParseV_none h2] at c11 c12
      have c13 := L3_13 (a := .agg [.int .i64 0, .int .i64 0, .nils, .nils]) (b := .agg [.int .i64 0, .int .i64 0, .nils, .nils]) (o := noOb) rfl rfl
      simp (config := {contextual := true, decide := true, maxSteps := 1000000}) only [↓ wpre, ↓ wval, wpost, wint, wlog, wcell, wop, wop2, wdr, wdr2, wloop, wrng, wfld, tf, Nat.reduceAdd, Wop_ext, extV_tuple, ne_eq, cvs, cfs, c7, c8, d3, c9, c10, c11, c12, c13, c15, c16, frN, abin_str_neq, abin_str_eql, valsA_cell, frsA_cell]
    | some q =>
      rw [ParseV_some h2] at c11 c12
      obtain ⟨q1, q2, q3⟩ := parseO_some h2
      have c13 := L3_13 (a := .agg [.int .i64 q.form, .int .i64 q.n, valsA q.vals, frsA q.frs]) (b := .agg [.int .i64 q.form, .int .i64 q.n, valsA q.vals, frsA q.frs]) q3 q3
      have c14 := L3_9 (a := .agg [.int .i64 q.form, .int .i64 q.n, valsA q.vals, frsA q.frs]) q3
      rw [if_pos q1, q2] at c14
      simp (config := {contextual := true, decide := true, maxSteps := 1000000}) only [↓ wpre, ↓ wval, wpost, wint, wlog, wcell, wop, wop2, wdr, wdr2, wloop, wrng, wfld, tf, Nat.reduceAdd, Wop_ext, extV_tuple, ne_eq, cvs, cfs, c7, c8, d3, c9, c10, c11, c12, c13, c14, c15, c16, frN, abin_str_neq, abin_str_eql, valsA_cell, frsA_cell]

end
end Go.Proofs.YtajngkkihadgfaaGreat
