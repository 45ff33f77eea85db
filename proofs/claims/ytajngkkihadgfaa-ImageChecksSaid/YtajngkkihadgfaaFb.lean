/-
  The layer of images: the pages that are not right.
-/
import Derived.Test.YtajngkkihadgfaaFa
set_option linter.unusedVariables false
set_option linter.unusedSimpArgs false
namespace Go.Proofs.Ytajngkkihadgfaa
open Go.Abs Go Go.Abs.TryF
noncomputable section
set_option maxRecDepth 10000

def badTo (s : List Nat) (i : Nat) : List Nat := (List.range i).filter fun i => !right i (pageOf s i)
def bad (s : List Nat) : List Nat := badTo s (counted s)
/-- a slice of integers that was appended to nil -/
def slOf (l : List Nat) : AV := if l = [] then .nils else .fz (l.map encN) false
theorem encN_cell (l : List Nat) : ∀ x ∈ l.map encN, x.isCell = true := by simp only [List.mem_map]; rintro x ⟨b, _, rfl⟩; rfl
def badV (s : List Nat) : AV := if counted s = 0 then .tuple [.nils, .int .i64 2] else .tuple [slOf (bad s), .int .i64 0]
theorem badTo_succ (s : List Nat) (i : Nat) : badTo s (i + 1) = badTo s i ++ (if right i (pageOf s i) then [] else [i]) := by
  simp only [badTo, List.range_succ, List.filter_append]
  cases h : right i (pageOf s i) <;> simp [h]
theorem badTo_len (s : List Nat) (i : Nat) : (badTo s i).length ≤ i := by
  have := List.length_filter_le (fun i => !right i (pageOf s i)) (List.range i)
  simpa [badTo] using this

/-- a list that is kept in a variable, appended to by and by -/
def Acc (u : Sto) (c : Nat) (k : Nat) (l : List AV) : Prop := ∃ v, u.get c = some (obg 0 [v]) ∧ (l = [] ∧ v = .nils ∨ l ≠ [] ∧ ∃ id g, v = .sl id g 0 l.length (.room 1) ∧ u.get id = some (obg g l) ∧ k < id)
theorem Acc.sim {l' : Nat} {u u' : Sto} {c k : Nat} {l : List AV} (h : SimX l' u u') (hc : c ≠ l') (hk : l' ≤ k) (ha : Acc u c k l) : Acc u' c k l := by
  obtain ⟨v, h1, h2⟩ := ha
  refine ⟨v, h.get h1 hc, ?_⟩
  rcases h2 with h2 | ⟨h0, id, g, rfl, h3, h4⟩
  · exact .inl h2
  · exact .inr ⟨h0, id, g, rfl, h.get h3 (by omega), h4⟩

theorem Acc.new {u : Sto} {c k id g m : Nat} {l : List AV} (h1 : u.get c = some (obg 0 [.sl id g 0 m (.room 1)])) (h2 : u.get id = some (obg g l)) (hm : m = l.length) (hl : l ≠ []) (hk : k < id) : Acc u c k l :=
  ⟨_, h1, .inr ⟨hl, id, g, by rw [hm], h2, hk⟩⟩
theorem Acc.nil {u : Sto} {c k : Nat} (h1 : u.get c = some (obg 0 [.nils])) : Acc u c k [] := ⟨_, h1, .inl ⟨rfl, rfl⟩⟩

def L15 (s : List Nat) : List Ent := [ent1 32 [.str s] (.int .i64 (counted s : Nat)), ent1 33 [.str s] (pagesF s),
  entF 37 (fun x : { x : List Nat × Nat // x.1.length = 32 ∧ (∀ b ∈ x.1, b < 256) ∧ x.2 < 4611686018427387904 } => [.agg (x.1.1.map encB), .int .i64 (x.1.2 : Nat)]) fun x => .bool (right x.1.2 x.1.1)]
theorem encB_inj {l m : List Nat} (h : l.map encB = m.map encB) : l = m := (List.map_inj_right (fun _ _ h => by simp only [encB, AV.int.injEq] at h; omega)).1 h
theorem L15_37 (s p : List Nat) (n : Nat) (hp : p.length = 32) (hb : ∀ b ∈ p, b < 256) (hn : n < 4611686018427387904) (u : Sto) : orcL (L15 s) 37 [.agg (p.map encB), .int .i64 (n : Nat)] u = some (.ret (.bool (right n p)) none) := by
  rw [L15, ent1_ne (show (32 : Nat) ≠ 37 by decide), ent1_ne (show (33 : Nat) ≠ 37 by decide)]
  refine entF_same (A := fun x : { x : List Nat × Nat // x.1.length = 32 ∧ (∀ b ∈ x.1, b < 256) ∧ x.2 < 4611686018427387904 } => [.agg (x.1.1.map encB), .int .i64 (x.1.2 : Nat)]) ?_ ⟨(p, n), hp, hb, hn⟩
  rintro ⟨⟨p, n⟩, _⟩ ⟨⟨q, m⟩, _⟩ h
  simp only [List.cons.injEq, AV.agg.injEq, AV.int.injEq, and_true, true_and] at h
  have h1 := encB_inj h.1
  have h2 : n = m := by omega
  subst h1; subst h2; rfl

theorem bad_ok (s : List Nat) (hs : s.length < 9223372036854775808) (hb : ∀ b ∈ s, b < 256) : Abs.Returns Try.prog 15 [.str s] (badV s) := by
  refine returns_lv (L := L15 s) (elist_cons (ent1_ok (counted_ok s hs)) (elist_cons (ent1_ok (pages_ok s)) (elist_cons (entF_ok fun x => right_ok x.1.1 x.1.2 x.2.1 x.2.2.1 x.2.2.2) elist_nil))) noHint (by kernel_rfl) Try.func15 Try.ntmps15 Try.results15 rfl rfl (und_all_cons und_str und_all_nil) ?_
  have h32 : ∀ u, orcL (L15 s) 32 [.str s] u = some (.ret (.int .i64 (counted s : Nat)) none) := fun u => ent1_same
  have h33 : ∀ u, orcL (L15 s) 33 [.str s] u = some (.ret (pagesF s) none) := fun u => by rw [L15, ent1_ne (show (32 : Nat) ≠ 33 by decide)]; exact ent1_same
  have hd : ((counted s : Nat) : Int) = 0 ↔ counted s = 0 := by omega
  simp (config := {contextual := true, decide := true}) only [↓ wpre, ↓ wval, wpost, wint, wlog, wcell, wop, wop2, wdr, wdr2, wrng, tf, Nat.reduceAdd, h32, h33, isCell_str, hd]
  refine ⟨fun h0 => ?_, fun h0 => ?_⟩
  · rw [badV, if_pos h0]
    exact .und _ (und_tuple (und_all_cons und_nils (und_all_cons und_int und_all_nil)))
  · refine W_range (xs := rows s) (fun i u => Acc u 0 2 ((badTo s i).map encN)) (fun _ _ => False) (fun _ _ => False) ?_ (fun i u u' h ha => Acc.sim h (by decide) (by decide) ha) (fun _ _ _ _ h => h) (fun _ _ _ _ h => h) (fun _ _ h => h.elim) ⟨.nils, rfl, .inl ⟨rfl, rfl⟩⟩ ?_ ?_ (fun _ _ _ h => h.elim) (fun _ _ _ _ h => h.elim) (fun _ _ h => h.elim)
    · simp (config := {decide := true}) only [↓ wval]
      exact pages_iter s hs h32 (fun a u => rfl)
    · rintro i x hx ⟨n, low, o⟩ hn hg1 hg2 ⟨v, hv, hacc⟩
      have hi : i < counted s := by
        have := (List.getElem?_eq_some_iff.1 hx).1
        simpa [rows] using this
      have hx' : x = [.int .i64 (i : Nat), .agg ((pageOf s i).map encB)] := by
        simp [rows, hi] at hx; exact hx.symm
      subst hx'
      have hp := pageOf_len hi
      have hi2 := (counted_le hi).2
      have hn' : 2 < n := hn
      have f0 := frI (i := 0) (n := n) (by omega)
      have f1 := frI (i := 1) (n := n) (by omega)
      have f2 := frI (i := 2) (n := n) (by omega)
      simp (config := {decide := true}) only [Sto.get_mk, f0, f1, f2, wcell, Nat.reduceAdd] at hg1 hg2 hv
      have h37 := L15_37 s (pageOf s i) i hp (pageOf_lt hb i) (by omega)
      have hlen : (badTo s i).length ≤ i := badTo_len s i
      have hsmall : (2 * ((badTo s i).length + 1) + 1024) * 8 ≤ 281474976710656 ∧ (badTo s i).length + 1 < 4611686018427387904 := ⟨by omega, by omega⟩
      refine ⟨_, rfl, ?_⟩
      rcases hacc with ⟨hl, rfl⟩ | ⟨hl, id, g, rfl, hid, hk⟩
      · simp (config := {contextual := true, decide := true}) only [↓ wpre, ↓ wval, wpost, wint, wlog, wcell, wop, wop2, wdr, wdr2, wrng, tf, Nat.reduceAdd, Nat.reduceMul, h37, hp, f0, f1, f2, frN, hg1, hg2, hv, placeK, roundK, rep_all, rep_len, lslice_self, Env.setS, ne_eq]
        clear hg2
        have hnil : badTo s i = [] := List.map_eq_nil_iff.1 hl
        refine ⟨fun hr => ?_, fun hr => ?_⟩
        · have e1 : (badTo s (i + 1)).map encN = [.int .i64 (i : Nat)] := by rw [badTo_succ, hr, hnil]; rfl
          rw [e1]
          refine Acc.new (id := n + 1 + 1) (g := 0) (m := 1) ?_ ?_ rfl (by simp) (by omega)
          · simp (config := {decide := true}) only [↓ wval, wcell, wlog, f0, f1, f2, frN, ne_eq]
          · simp (config := {decide := true}) only [↓ wval, wcell, wlog, f0, f1, f2, frN, ne_eq]
        · have e1 : (badTo s (i + 1)).map encN = [] := by rw [badTo_succ, hr, hnil]; rfl
          rw [e1]
          refine Acc.nil ?_
          simp (config := {decide := true}) only [↓ wval, wcell, wlog, f0, f1, f2, frN, ne_eq, hv]
      · have hidn : id < n := Sto.get_lt hid
        rw [Sto.get_mk hidn] at hid
        have f3 := frI hidn
        have f4 : id ≠ 2 ∧ 2 ≠ id ∧ id ≠ 0 ∧ 0 ≠ id ∧ id ≠ 1 ∧ 1 ≠ id := ⟨by omega, by omega, by omega, by omega, by omega, by omega⟩
        simp (config := {contextual := true, decide := true}) only [↓ wpre, ↓ wval, wpost, wint, wlog, wcell, wop, wop2, wdr, wdr2, wrng, tf, Nat.reduceAdd, Nat.reduceMul, Nat.mul_one, Nat.zero_add, h37, hp, f0, f1, f2, f3, f4, frN, hg1, hg2, hv, hid, hsmall, placeK, roundK, rep_all, rep_len, lslice_self, Env.setS, ne_eq]
        clear hg2
        refine ⟨fun hr => ?_, fun hr => ?_⟩
        · have e1 : (badTo s (i + 1)).map encN = (badTo s i).map encN ++ [.int .i64 (i : Nat)] := by rw [badTo_succ, hr, List.map_append]; rfl
          rw [e1]
          refine Acc.new (id := id) (g := g + 1) (m := (badTo s i).length + 1) ?_ ?_ (by simp) (by simp) hk
          · simp (config := {decide := true}) only [↓ wval, wcell, wlog, f0, f1, f2, f3, f4, frN, ne_eq]
          · simp (config := {decide := true}) only [↓ wval, wcell, wlog, f0, f1, f2, f3, f4, frN, ne_eq]
        · have e1 : (badTo s (i + 1)).map encN = (badTo s i).map encN := by rw [badTo_succ, hr, List.map_append]; simp
          rw [e1]
          refine Acc.new (id := id) (g := g) (m := (badTo s i).length) ?_ ?_ (by simp) hl hk
          · simp (config := {decide := true}) only [↓ wval, wcell, wlog, f0, f1, f2, f3, f4, frN, ne_eq, hv, List.length_map]
          · simp (config := {decide := true}) only [↓ wval, wcell, wlog, f0, f1, f2, f3, f4, frN, ne_eq, hid]
    · rintro ⟨n, low, o⟩ hn hg1 ⟨v, hv, hacc⟩
      have hn' : 2 < n := hn
      have f0 := frI (i := 0) (n := n) (by omega)
      have f1 := frI (i := 1) (n := n) (by omega)
      have f2 := frI (i := 2) (n := n) (by omega)
      have hrow : (rows s).length = counted s := by simp [rows]
      rw [hrow] at hacc
      simp (config := {decide := true}) only [Sto.get_mk, f0, f1, f2, wcell, Nat.reduceAdd] at hg1 hv
      simp (config := {contextual := true, decide := true}) only [↓ wpre, ↓ wval, wpost, wint, wlog, wcell, wop, wop2, wdr, wdr2, wrng, tf, Nat.reduceAdd, Nat.reduceMul, f0, f1, f2, frN, hg1, hv, ne_eq]
      rw [badV, if_neg h0]
      refine .tuple _ _ rfl (frz_all_cons ?_ (frz_all_cons (.und _ und_int) frz_all_nil))
      rcases hacc with ⟨hl, rfl⟩ | ⟨hl, id, g, rfl, hid, hk⟩
      · rw [slOf, if_pos (show bad s = [] from List.map_eq_nil_iff.1 hl)]
        exact .und _ und_nils
      · rw [slOf, if_neg (show bad s ≠ [] from fun h => hl (by rw [show badTo s (counted s) = [] from h]; rfl))]
        have hid' := Sto.get_lt hid
        rw [Sto.get_mk hid'] at hid
        refine frz_sl (g := g) (cs := (bad s).map encN) (Nat.zero_le _) ?_ rfl (by simp [bad]) (encN_cell _) fun j x y hx hy => ?_
        · rw [Sto.get_mk hid', Tr.get_set_ne _ _ (by omega)]; exact hid
        · rw [Nat.zero_add] at hx
          rw [hx] at hy
          cases hy
          simp only [List.getElem?_map, Option.map_eq_some_iff] at hx
          obtain ⟨b, _, rfl⟩ := hx
          exact .und _ und_int

end
end Go.Proofs.Ytajngkkihadgfaa
