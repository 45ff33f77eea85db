/-
  Patches, by the program.
-/
import Derived.Test.YtajngkkihadgfaaGa
import Derived.Test.YtajngkkihadgfaaEp
set_option linter.unusedVariables false
set_option linter.unusedSimpArgs false

namespace Go.Proofs.Ytajngkkihadgfaa
open Go.Abs Go Go.Abs.TryF
noncomputable section
set_option maxRecDepth 10000

theorem mp76 : mpK Try.prog 76 = some (.i64, .agg (List.replicate 32 (.int .u8 0))) := by kernel_rfl
theorem abin_arrN {P : Program} {t : TypeId} {x y : Operand} {n : Nat} {k : IntKind} (h : eqAK P t = some (n, k)) {xs ys : List Int} (hx : xs.length = n) (hy : ys.length = n) :
    abin P .neq t x y (.agg (xs.map (.int k))) (.agg (ys.map (.int k))) = some (.bool (!decide (xs = ys))) := by
  unfold eqAK at h
  split at h
  · rename_i m e hu
    split at h
    · rename_i k' hk ht
      cases hg : P.eqGuardType P.depth t with
      | true => rw [hg] at h; cases h
      | false =>
        rw [hg] at h
        simp at h
        obtain ⟨rfl, rfl⟩ := h
        have hall : ∀ d, aeq P (d + 1 + 1) t (.agg (xs.map (.int k'))) (.agg (ys.map (.int k'))) = some (decide (xs = ys)) := by
          intro d
          unfold aeq
          simp only [hu]
          simp only [(tyK_sz ht).1, szK]
          have := aeqs_ints (P := P) (f := aeq P (d + 1)) (e := e) (k := k') (fun a b => by
            unfold aeq
            simp only [hk]
            simp) ht m 0 xs ys (by omega) (by omega)
          simpa using this
        have key : aeq P 10000 t (.agg (xs.map (.int k'))) (.agg (ys.map (.int k'))) = some (decide (xs = ys)) := hall 9998
        simp only [abin, aguard, hg, key]
        rfl
    · cases h
  · cases h
theorem eq81 : eqAK Try.prog 81 = some (32, .u8) := by kernel_rfl
theorem neq_pages {p q : List Nat} (hp : p.length = 32) (hq : q.length = 32) {x y : Operand} : abin Try.prog .neq 81 x y (.agg (p.map encB)) (.agg (q.map encB)) = some (.bool (!decide (p = q))) := by
  rw [enc_ints, enc_ints, abin_arrN eq81 (by simpa using hp) (by simpa using hq)]
  simp only [map_ofNat]
def L9 : List Ent := [entF 32 (fun x : Str => [.str x.1]) fun x => .int .i64 (counted x.1 : Nat), entF 33 (fun x : Str => [.str x.1]) fun x => pagesF x.1]
theorem L9_ok : ∀ x ∈ L9, ESound Try.prog x := elist_cons (entF_ok fun x => counted_ok x.1 x.2) (elist_cons (entF_ok fun x => pages_ok x.1) elist_nil)
theorem L9_32 (s : List Nat) (hs : s.length < 9223372036854775808) (u : Sto) : orcL L9 32 [.str s] u = some (.ret (.int .i64 (counted s : Nat)) none) := by
  rw [L9]
  refine entF_same (A := fun x : Str => [.str x.1]) ?_ ⟨s, hs⟩
  rintro ⟨a, _⟩ ⟨b, _⟩ h
  simp at h; subst h; rfl
theorem L9_33 (s : List Nat) (hs : s.length < 9223372036854775808) (u : Sto) : orcL L9 33 [.str s] u = some (.ret (pagesF s) none) := by
  rw [L9, entF_ne (show (32 : Nat) ≠ 33 by decide)]
  refine entF_same (A := fun x : Str => [.str x.1]) ?_ ⟨s, hs⟩
  rintro ⟨a, _⟩ ⟨b, _⟩ h
  simp at h; subst h; rfl
theorem oKs_upd {P : Program} {s : Sto} {t : TypeId} {k : IntKind} {z : AV} {id c : Nat} {i : Int} {v : AV} {l : List (Int × AV × Nat)} {K : ORes → Prop} (h : mpK P t = some (k, z)) (hg : s.get id = some (.map (entM k l) c))
    (hK : ∀ l' c', (∀ x, getM l' x = if i = x then some v else getM l x) → K (.val' .undef (s.put id (.map (entM k l') c')))) : oKs (amapUpdate P s t (.map id) (.int k i) v) K := by
  obtain ⟨l', c', h1, h2⟩ := update_ok h hg
  exact ⟨_, h1, hK l' c' h2⟩
/-- the map of a string's first pages -/
def MapJ (s : List Nat) (i : Nat) (u : Sto) : Prop := u.get 1 = some (obg 0 [.map 0]) ∧ ∃ l c, u.get 0 = some (.map (entM .i64 l) c) ∧ ∀ q : Nat, getM l (q : Nat) = if q < i then some (.agg ((pageOf s q).map encB)) else none
theorem MapJ.sim {s : List Nat} {i l : Nat} {u u' : Sto} (h : SimX l u u') (hl : 1 < l) (hj : MapJ s i u) : MapJ s i u' := by
  obtain ⟨h1, m, c, h2, h3⟩ := hj
  exact ⟨h.get h1 (by omega), m, c, h.get h2 (by omega), h3⟩
/-- parts kept in a variable -/
def PAcc (u : Sto) (c k : Nat) (l : List (Nat × List Nat)) : Prop := ∃ v, u.get c = some (obg 0 [v]) ∧ ((l = [] ∧ v = .nils) ∨ (l ≠ [] ∧ ∃ id g, v = .sl id g 0 l.length (.room 2) ∧ u.get id = some (obg g (l.map partC).flatten) ∧ k < id))
theorem PAcc.sim {l' : Nat} {u u' : Sto} {c k : Nat} {l : List (Nat × List Nat)} (h : SimX l' u u') (hc : c ≠ l') (hk : l' ≤ k) (ha : PAcc u c k l) : PAcc u' c k l := by
  obtain ⟨v, h1, h2⟩ := ha
  refine ⟨v, h.get h1 hc, ?_⟩
  rcases h2 with h2 | ⟨h0, id, g, rfl, h3, h4⟩
  · exact .inl h2
  · exact .inr ⟨h0, id, g, rfl, h.get h3 (by omega), h4⟩
theorem frJ {i n : Nat} (h : i < n) : i < n + 1 + 1 + 1 + 1 ∧ i ≠ n + 1 + 1 + 1 ∧ n + 1 + 1 + 1 ≠ i := by refine ⟨?_, ?_, ?_⟩ <;> omega
theorem frM {n : Nat} : n < n + 1 + 1 + 1 + 1 ∧ n + 1 < n + 1 + 1 + 1 + 1 ∧ n + 1 + 1 < n + 1 + 1 + 1 + 1 ∧ n + 1 + 1 + 1 < n + 1 + 1 + 1 + 1 ∧ n ≠ n + 1 + 1 + 1 ∧ n + 1 + 1 + 1 ≠ n ∧ n + 1 ≠ n + 1 + 1 + 1 ∧ n + 1 + 1 + 1 ≠ n + 1 ∧ n + 1 + 1 ≠ n + 1 + 1 + 1 ∧ n + 1 + 1 + 1 ≠ n + 1 + 1 ∧ n + 1 + 1 ≤ n + 1 + 1 + 1 ∧ n + 1 + 1 + 1 ≤ n + 1 + 1 + 1 + 1 ∧ n + 1 + 1 ≤ n + 1 + 1 + 1 + 1 ∧ n + 1 ≤ n + 1 + 1 + 1 + 1 ∧ n ≤ n + 1 + 1 + 1 + 1 ∧ n + 1 + 1 ≤ n + 1 + 1 ∧ n + 1 + 1 + 1 ≤ n + 1 + 1 + 1 ∧ n + 1 + 1 + 1 + 1 ≤ n + 1 + 1 + 1 + 1 := by
  refine ⟨?_, ?_, ?_, ?_, ?_, ?_, ?_, ?_, ?_, ?_, ?_, ?_, ?_, ?_, ?_, ?_, ?_, ?_⟩ <;> omega
theorem simX_of {l m low : Nat} {o : Tr AObj} {S : Sto} (h1 : m ≤ S.n) (h2 : ∀ id, id < m → id ≠ l → S.o.get id = o.get id) : SimX l ⟨m, low, o⟩ S := ⟨h1, fun id hid hl => by
  have hid' : id < m := hid
  rw [Sto.get_mk hid']
  have : id < S.n := by omega
  unfold Sto.get
  rw [show Nat.blt id S.n = true by simpa using this]; exact h2 id hid' hl⟩
theorem sto_get_of {S : Sto} {id : Nat} {x : AObj} (h1 : id < S.n) (h2 : S.o.get id = some x) : S.get id = some x := by
  unfold Sto.get
  rw [show Nat.blt id S.n = true by simpa using h1]; exact h2
theorem PAcc.new {u : Sto} {c k id g : Nat} {l : List (Nat × List Nat)} (h0 : l ≠ []) (h1 : u.get c = some (obg 0 [.sl id g 0 l.length (.room 2)])) (h2 : u.get id = some (obg g (l.map partC).flatten)) (h3 : k < id) : PAcc u c k l := ⟨_, h1, .inr ⟨h0, id, g, rfl, h2, h3⟩⟩
set_option maxHeartbeats 2000000 in
theorem patch_ok (a b : List Nat) (ha : a.length < 9223372036854775808) (hb : b.length < 9223372036854775808) (ba : By a) (bb : By b) : Abs.Returns Try.prog 9 [.str a, .str b] (patchV a b) := by
  refine returns_lvs (L := L9) L9_ok noHint (by kernel_rfl) Try.func9 Try.ntmps9 Try.results9 rfl rfl (und_all_cons und_str (und_all_cons und_str und_all_nil)) ?_
  have ca := L9_32 a ha
  have cb := L9_32 b hb
  have pa := L9_33 a ha
  have pb := L9_33 b hb
  have hda : ((counted a : Nat) : Int) = 0 ↔ counted a = 0 := by omega
  have hdb : ((counted b : Nat) : Int) = 0 ↔ counted b = 0 := by omega
  simp (config := {contextual := true, decide := true}) only [↓ wpre, ↓ wval, wpost, wint, wlog, wcell, wop, wop2, wdr, wdr2, tf, Nat.reduceAdd, ca, cb, pa, pb, hda, hdb, isCell_str, Wop_makeMap]
  by_cases h0 : counted a = 0 ∨ counted b = 0
  · have e0 : patchV a b = .tuple [.nils, .int .i64 2] := by rw [patchV, if_pos h0]
    have hF : ∀ S, Frz S 0 (.tuple [.nils, .int .i64 2]) (patchV a b) := fun S => by rw [e0]; exact .und _ (und_tuple (und_all_cons und_nils (und_all_cons und_int und_all_nil)))
    refine ⟨fun hna => ⟨fun hnb => ?_, fun hnb => absurd h0 (by omega)⟩, fun hza => ?_⟩
    · refine ⟨rfl, _, rfl, _, rfl, ?_⟩
      exact hF _
    · refine ⟨rfl, _, rfl, _, rfl, ?_⟩
      exact hF _
  · refine ⟨fun hna => ⟨fun hnb => absurd hnb (by omega), fun hnb => ?_⟩, fun hza => absurd hza (by omega)⟩
    refine W_range (xs := rows a) (fun i u => MapJ a i u) (fun _ _ => False) (fun _ _ => False) ?_ (fun i u u' h ha => MapJ.sim h (by decide) ha) (fun _ _ _ _ h => h) (fun _ _ _ _ h => h) (fun _ _ h => h.elim) ⟨rfl, [], 0, rfl, fun q => by simp [getM]⟩ ?_ ?_ (fun _ _ _ h => h.elim) (fun _ _ _ _ h => h.elim) (fun _ _ h => h.elim)
    · simp (config := {decide := true}) only [↓ wval]
      exact pages_iter a ha ca (fun a u => rfl)
    · rintro i x hx ⟨n, low, o⟩ hn hg1 hg2 ⟨hv, l, c, hl, hq⟩
      have hi : i < counted a := by
        have := (List.getElem?_eq_some_iff.1 hx).1
        simpa [rows] using this
      have hx' : x = [.int .i64 (i : Nat), .agg ((pageOf a i).map encB)] := by
        simp [rows, hi] at hx; exact hx.symm
      subst hx'
      have hp := pageOf_len hi
      have hn' : 3 < n := hn
      have f0 := frI (i := 0) (n := n) (by omega)
      have f1 := frI (i := 1) (n := n) (by omega)
      have f2 := frI (i := 2) (n := n) (by omega)
      have f3 := frI (i := 3) (n := n) (by omega)
      simp (config := {decide := true}) only [Sto.get_mk, f0, f1, f2, f3, wcell, Nat.reduceAdd] at hg1 hg2 hv hl
      refine ⟨_, rfl, ?_⟩
      simp (config := {contextual := true, decide := true}) only [↓ wpre, ↓ wval, wpost, wint, wlog, wcell, wop, wop2, wdr, wdr2, wrng, tf, Nat.reduceAdd, hp, f0, f1, f2, f3, frN, hg1, hg2, hv, hl, placeK, roundK, rep_all, rep_len, lslice_self, Env.setS, ne_eq]
      clear hg2
      refine oKs_upd (l := l) (c := c) mp76 (by simp (config := {decide := true}) only [↓ wval, wcell, wlog, f0, f1, f2, f3, frN, ne_eq, hl]) fun l' c' hl' => ?_
      simp (config := {contextual := true, decide := true}) only [↓ wpre, ↓ wval, wpost, wint, wlog, wcell, wop, wop2, wloop, wrng, tf, Nat.reduceAdd, f0, f1, f2, f3, frN, hg1, hv, placeK, roundK, ne_eq]
      refine ⟨by simp (config := {decide := true}) only [↓ wval, wcell, wlog, f0, f1, f2, f3, frN, ne_eq, hv], l', c', by simp (config := {decide := true}) only [↓ wval, wcell, wlog, f0, f1, f2, f3, frN, ne_eq], fun q => ?_⟩
      rw [hl', hq]
      by_cases h1 : q = i
      · subst h1; simp
      · have h2 : ¬ ((i : Int) = (q : Nat)) := by omega
        rw [if_neg h2]
        by_cases h3 : q < i
        · rw [if_pos h3, if_pos (by omega)]
        · rw [if_neg h3, if_neg (by omega)]
    · rintro ⟨n, low, o⟩ hn hg1 ⟨hv, l, c, hl, hq⟩
      have hrow : (rows a).length = counted a := by simp [rows]
      rw [hrow] at hq
      have hn' : 3 < n := hn
      have f0 := frI (i := 0) (n := n) (by omega)
      have f1 := frI (i := 1) (n := n) (by omega)
      have f2 := frI (i := 2) (n := n) (by omega)
      have f3 := frI (i := 3) (n := n) (by omega)
      simp (config := {decide := true}) only [Sto.get_mk, f0, f1, f2, f3, wcell, Nat.reduceAdd] at hg1 hv hl
      simp (config := {contextual := true, decide := true}) only [↓ wpre, ↓ wval, wpost, wint, wlog, wcell, wop, wop2, wdr, wdr2, wrng, tf, Nat.reduceAdd, f0, f1, f2, f3, frN, hg1, hv, hl, pb, ne_eq, isCell_str]
      refine W_range (xs := rows b) (fun i u => MapJ a (counted a) u ∧ PAcc u n (n + 2) (patchTo a b i) ∧ u.get 2 = some (.defs (some []))) (fun _ _ => False) (fun _ _ => False) ?_ (fun i u u' h ⟨q1, q2, q3⟩ => ⟨MapJ.sim h (by show 1 < n + 1 + 1; omega) q1, PAcc.sim h (by show n ≠ n + 1 + 1; omega) (by show n + 1 + 1 ≤ n + 2; omega) q2, h.get q3 (by show 2 ≠ n + 1 + 1; omega)⟩) (fun _ _ _ _ h => h) (fun _ _ _ _ h => h) (fun _ _ h => h.elim) ?_ ?_ ?_ (fun _ _ _ h => h.elim) (fun _ _ _ _ h => h.elim) (fun _ _ h => h.elim)
      · simp (config := {decide := true}) only [↓ wval]
        exact pages_iter b hb cb (fun a u => rfl)
      · refine ⟨⟨by simp (config := {decide := true}) only [↓ wval, wcell, wlog, f0, f1, f2, f3, frN, ne_eq, hv], l, c, by simp (config := {decide := true}) only [↓ wval, wcell, wlog, f0, f1, f2, f3, frN, ne_eq, hl], hq⟩, ⟨.nils, by simp (config := {decide := true}) only [↓ wval, wcell, wlog, f0, f1, f2, f3, frN, ne_eq], .inl ⟨rfl, rfl⟩⟩, by simp (config := {decide := true}) only [↓ wval, wcell, wlog, f0, f1, f2, f3, frN, ne_eq, hg1]⟩
      · rintro i x hx ⟨m, low', o'⟩ hm hgd hgl ⟨⟨hv1, l', c', hl1, hq1⟩, ⟨v, hv', hacc⟩, hg2'⟩
        have hi : i < counted b := by
          have := (List.getElem?_eq_some_iff.1 hx).1
          simpa [rows] using this
        have hx' : x = [.int .i64 (i : Nat), .agg ((pageOf b i).map encB)] := by
          simp [rows, hi] at hx; exact hx.symm
        subst hx'
        have hp := pageOf_len hi
        have hm' : n + 1 + 1 < m := hm
        have k0 := frI (i := 0) (n := m) (by omega)
        have k1 := frI (i := 1) (n := m) (by omega)
        have k2 := frI (i := 2) (n := m) (by omega)
        have kn := frI (i := n) (n := m) (by omega)
        have kn1 := frI (i := n + 1) (n := m) (by omega)
        have kn2 := frI (i := n + 1 + 1) (n := m) (by omega)
        have hgd' : (Sto.mk m low' o').get (n + 1) = some (.defs (some [])) := hgd
        have hgl' := hgl
        simp (config := {decide := true}) only [Sto.get_mk, k0, k1, k2, kn, kn1, kn2, wcell, Nat.reduceAdd] at hgd' hgl' hv' hv1 hl1 hg2'
        refine ⟨_, rfl, ?_⟩
        clear hgd hgl hm hn
        have hcv : ∀ {g : Nat} {d : Option ORes}, cvO (some (obg g ((pageOf b i).map encB))) g 32 d = some (.val (.str (pageOf b i))) := fun {g d} => cvO_ok hp.symm (pageOf_lt bb i)
        by_cases hia : i < counted a
        · have hlk : ∀ s : Sto, s.get 0 = some (.map (entM .i64 l') c') → alookup Try.prog s 76 (.map 0) (.int .i64 (i : Nat)) true = some (.tuple [.agg ((pageOf a i).map encB), .bool true]) := fun s hs => by
            rw [lookup_ok mp76 hs, hq1, if_pos hia]; rfl
          have hpa := pageOf_len hia
          by_cases hpq : pageOf a i = pageOf b i
          · simp (config := {contextual := true, decide := true, maxSteps := 1000000}) only [↓ wpre, ↓ wval, wpost, wint, wlog, wcell, wop, wop2, wdr, wdr2, wrng, tf, Nat.reduceAdd, hp, hpa, hlk, neq_pages, hpq, Wop_ext, extV_tuple, cvC_ofBytes, hcv, f0, f1, f2, k0, k1, k2, kn, kn1, kn2, frN, hgd', hgl', hv', hv1, hl1, hg2', placeK, roundK, rep_all, rep_len, lslice_self, Env.setS, ne_eq]
            have hdf : differ a b i = false := by simp [differ, hpq, (counted_div hna).1, hia]
            rw [patchTo_succ, hdf]
            simp only [Bool.false_eq_true, if_false, List.append_nil]
            refine ⟨MapJ.sim (l := n + 1 + 1) (u := ⟨m, low', o'⟩) (simX_of (by show m ≤ m + 1 + 1; omega) fun id h1 h2 => ?_) (by omega) ⟨sto_get_of k1.1 hv1, l', c', sto_get_of k0.1 hl1, hq1⟩, PAcc.sim (l' := n + 1 + 1) (u := ⟨m, low', o'⟩) (simX_of (by show m ≤ m + 1 + 1; omega) fun id h1 h2 => ?_) (by omega) (by omega) ⟨v, sto_get_of kn.1 hv', hacc⟩⟩
            · have g1 := frI h1
              simp (config := {decide := true}) only [↓ wval, wcell, wlog, g1, h2, ne_eq, Ne.symm h2, not_false_iff]
            · have g1 := frI h1
              simp (config := {decide := true}) only [↓ wval, wcell, wlog, g1, h2, ne_eq]
          · have hdf : differ a b i = true := by simp [differ, hpq]
            have hlen : (patchTo a b i).length ≤ i := patchTo_len a b i
            have hi256 := (counted_le hi).2
            have hsmall : (2 * ((patchTo a b i).length + 1) + 1024) * 24 ≤ 281474976710656 ∧ (patchTo a b i).length + 1 < 4611686018427387904 := ⟨by omega, by omega⟩
            rcases hacc with ⟨hL, rfl⟩ | ⟨hL, id, g, rfl, hid, hidk⟩
            · have j0 := frJ k0.1
              have j1 := frJ k1.1
              have j2 := frJ k2.1
              have jn := frJ kn.1
              have jn1 := frJ kn1.1
              have jn2 := frJ kn2.1
              simp (config := {contextual := true, decide := true, maxSteps := 1000000}) only [↓ wpre, ↓ wval, wpost, wint, wlog, wcell, wop, wop2, wdr, wdr2, wrng, tf, Nat.reduceAdd, Nat.reduceMul, Nat.zero_mul, Nat.mul_one, Nat.zero_add, hp, hpa, hlk, neq_pages, hpq, Wop_ext, extV_tuple, cvC_ofBytes, hcv, f0, f1, f2, k0, k1, k2, kn, kn1, kn2, frN, hgd', hgl', hv', hv1, hl1, hg2', placeK, roundK, rep_all, rep_len, lslice_self, Env.setS, ne_eq, hsmall, frM, j0, j1, j2, jn, jn1, jn2]
              clear hgl'
              refine ⟨⟨by simp (config := {decide := true}) only [↓ wval, wcell, wlog, f0, f1, f2, k0, k1, k2, kn, kn1, kn2, frN, frM, j0, j1, j2, jn, jn1, jn2, ne_eq, hv1, hl1], l', c', by simp (config := {decide := true}) only [↓ wval, wcell, wlog, f0, f1, f2, k0, k1, k2, kn, kn1, kn2, frN, frM, j0, j1, j2, jn, jn1, jn2, ne_eq, hv1, hl1], hq1⟩, ?_⟩
              rw [patchTo_succ, hdf, hL]
              exact PAcc.new (id := m + 1 + 1 + 1) (g := 0) (by simp) (by simp (config := {decide := true}) only [↓ wval, wcell, wlog, f0, f1, f2, k0, k1, k2, kn, kn1, kn2, frN, frM, j0, j1, j2, jn, jn1, jn2, ne_eq, hv1, hl1]; rfl) (by simp (config := {decide := true}) only [↓ wval, wcell, wlog, f0, f1, f2, k0, k1, k2, kn, kn1, kn2, frN, frM, j0, j1, j2, jn, jn1, jn2, ne_eq, hv1, hl1]; rfl) (by omega)
            · have hidm : id < m := Sto.get_lt hid
              rw [Sto.get_mk hidm] at hid
              have f3 := frI hidm
              have f4 : id ≠ 2 ∧ 2 ≠ id ∧ id ≠ 0 ∧ 0 ≠ id ∧ id ≠ 1 ∧ 1 ≠ id ∧ id ≠ n ∧ n ≠ id ∧ id ≠ n + 1 ∧ n + 1 ≠ id ∧ id ≠ n + 1 + 1 ∧ n + 1 + 1 ≠ id := ⟨by omega, by omega, by omega, by omega, by omega, by omega, by omega, by omega, by omega, by omega, by omega, by omega⟩
              have hfl : ((patchTo a b i).map partC).flatten.length = (patchTo a b i).length * 2 := by rw [flatten_len _ (part_len _), List.length_map]
              simp (config := {contextual := true, decide := true, maxSteps := 1000000}) only [↓ wpre, ↓ wval, wpost, wint, wlog, wcell, wop, wop2, wdr, wdr2, wrng, tf, Nat.reduceAdd, Nat.reduceMul, Nat.zero_mul, Nat.mul_one, Nat.zero_add, hp, hpa, hlk, neq_pages, hpq, Wop_ext, extV_tuple, cvC_ofBytes, hcv, f0, f1, f2, k0, k1, k2, kn, kn1, kn2, frN, hgd', hgl', hv', hv1, hl1, hg2', placeK, roundK, rep_all, rep_len, lslice_self, Env.setS, ne_eq, hsmall, f3, f4, hid, hfl, frM]
              clear hgl'
              refine ⟨⟨by simp (config := {decide := true}) only [↓ wval, wcell, wlog, f0, f1, f2, k0, k1, k2, kn, kn1, kn2, frN, frM, f3, f4, ne_eq, hv1, hl1], l', c', by simp (config := {decide := true}) only [↓ wval, wcell, wlog, f0, f1, f2, k0, k1, k2, kn, kn1, kn2, frN, frM, f3, f4, ne_eq, hv1, hl1], hq1⟩, ?_⟩
              rw [patchTo_succ, hdf]
              refine PAcc.new (id := id) (g := g + 1) (by simp) ?_ ?_ hidk
              · simp (config := {decide := true}) only [↓ wval, wcell, wlog, f0, f1, f2, k0, k1, k2, kn, kn1, kn2, frN, frM, f3, f4, ne_eq, hv1, hl1]
                simp
              · simp (config := {decide := true}) only [↓ wval, wcell, wlog, f0, f1, f2, k0, k1, k2, kn, kn1, kn2, frN, frM, f3, f4, ne_eq, hv1, hl1]
                simp; rfl
        · have hlk : ∀ s : Sto, s.get 0 = some (.map (entM .i64 l') c') → alookup Try.prog s 76 (.map 0) (.int .i64 (i : Nat)) true = some (.tuple [.agg (List.replicate 32 (.int .u8 0)), .bool false]) := fun s hs => by
            rw [lookup_ok mp76 hs, hq1, if_neg hia]; rfl
          have hdf : differ a b i = true := by simp [differ, (counted_div hna).1, hia]
          have hlen : (patchTo a b i).length ≤ i := patchTo_len a b i
          have hi256 := (counted_le hi).2
          have hsmall : (2 * ((patchTo a b i).length + 1) + 1024) * 24 ≤ 281474976710656 ∧ (patchTo a b i).length + 1 < 4611686018427387904 := ⟨by omega, by omega⟩
          rcases hacc with ⟨hL, rfl⟩ | ⟨hL, id, g, rfl, hid, hidk⟩
          · have j0 := frJ k0.1
            have j1 := frJ k1.1
            have j2 := frJ k2.1
            have jn := frJ kn.1
            have jn1 := frJ kn1.1
            have jn2 := frJ kn2.1
            simp (config := {contextual := true, decide := true, maxSteps := 1000000}) only [↓ wpre, ↓ wval, wpost, wint, wlog, wcell, wop, wop2, wdr, wdr2, wrng, tf, Nat.reduceAdd, Nat.reduceMul, Nat.zero_mul, Nat.mul_one, Nat.zero_add, hp, hlk, neq_pages, Wop_ext, extV_tuple, cvC_ofBytes, hcv, f0, f1, f2, k0, k1, k2, kn, kn1, kn2, frN, hgd', hgl', hv', hv1, hl1, hg2', placeK, roundK, rep_all, rep_len, lslice_self, Env.setS, ne_eq, hsmall, frM, j0, j1, j2, jn, jn1, jn2]
            clear hgl'
            refine ⟨⟨by simp (config := {decide := true}) only [↓ wval, wcell, wlog, f0, f1, f2, k0, k1, k2, kn, kn1, kn2, frN, frM, j0, j1, j2, jn, jn1, jn2, ne_eq, hv1, hl1], l', c', by simp (config := {decide := true}) only [↓ wval, wcell, wlog, f0, f1, f2, k0, k1, k2, kn, kn1, kn2, frN, frM, j0, j1, j2, jn, jn1, jn2, ne_eq, hv1, hl1], hq1⟩, ?_⟩
            rw [patchTo_succ, hdf, hL]
            exact PAcc.new (id := m + 1 + 1 + 1) (g := 0) (by simp) (by simp (config := {decide := true}) only [↓ wval, wcell, wlog, f0, f1, f2, k0, k1, k2, kn, kn1, kn2, frN, frM, j0, j1, j2, jn, jn1, jn2, ne_eq, hv1, hl1]; rfl) (by simp (config := {decide := true}) only [↓ wval, wcell, wlog, f0, f1, f2, k0, k1, k2, kn, kn1, kn2, frN, frM, j0, j1, j2, jn, jn1, jn2, ne_eq, hv1, hl1]; rfl) (by omega)
          · have hidm : id < m := Sto.get_lt hid
            rw [Sto.get_mk hidm] at hid
            have f3 := frI hidm
            have f4 : id ≠ 2 ∧ 2 ≠ id ∧ id ≠ 0 ∧ 0 ≠ id ∧ id ≠ 1 ∧ 1 ≠ id ∧ id ≠ n ∧ n ≠ id ∧ id ≠ n + 1 ∧ n + 1 ≠ id ∧ id ≠ n + 1 + 1 ∧ n + 1 + 1 ≠ id := ⟨by omega, by omega, by omega, by omega, by omega, by omega, by omega, by omega, by omega, by omega, by omega, by omega⟩
            have hfl : ((patchTo a b i).map partC).flatten.length = (patchTo a b i).length * 2 := by rw [flatten_len _ (part_len _), List.length_map]
            simp (config := {contextual := true, decide := true, maxSteps := 1000000}) only [↓ wpre, ↓ wval, wpost, wint, wlog, wcell, wop, wop2, wdr, wdr2, wrng, tf, Nat.reduceAdd, Nat.reduceMul, Nat.zero_mul, Nat.mul_one, Nat.zero_add, hp, hlk, neq_pages, Wop_ext, extV_tuple, cvC_ofBytes, hcv, f0, f1, f2, k0, k1, k2, kn, kn1, kn2, frN, hgd', hgl', hv', hv1, hl1, hg2', placeK, roundK, rep_all, rep_len, lslice_self, Env.setS, ne_eq, hsmall, f3, f4, hid, hfl, frM]
            clear hgl'
            refine ⟨⟨by simp (config := {decide := true}) only [↓ wval, wcell, wlog, f0, f1, f2, k0, k1, k2, kn, kn1, kn2, frN, frM, f3, f4, ne_eq, hv1, hl1], l', c', by simp (config := {decide := true}) only [↓ wval, wcell, wlog, f0, f1, f2, k0, k1, k2, kn, kn1, kn2, frN, frM, f3, f4, ne_eq, hv1, hl1], hq1⟩, ?_⟩
            rw [patchTo_succ, hdf]
            refine PAcc.new (id := id) (g := g + 1) (by simp) ?_ ?_ hidk
            · simp (config := {decide := true}) only [↓ wval, wcell, wlog, f0, f1, f2, k0, k1, k2, kn, kn1, kn2, frN, frM, f3, f4, ne_eq, hv1, hl1]
              simp
            · simp (config := {decide := true}) only [↓ wval, wcell, wlog, f0, f1, f2, k0, k1, k2, kn, kn1, kn2, frN, frM, f3, f4, ne_eq, hv1, hl1]
              simp; rfl
      · rintro ⟨m, low', o'⟩ hm hgd ⟨_, ⟨v, hv', hacc⟩, hg2'⟩
        have hrowb : (rows b).length = counted b := by simp [rows]
        rw [hrowb] at hacc
        have hm' : n + 2 < m := hm
        have k0 := frI (i := n) (n := m) (by omega)
        have k1 := frI (i := n + 1) (n := m) (by omega)
        have k2 := frI (i := 2) (n := m) (by omega)
        have hgd' : (Sto.mk m low' o').get (n + 1) = some (.defs (some [])) := hgd
        have hgd0 := hgd'
        have hg20 := hg2'
        simp (config := {decide := true}) only [Sto.get_mk, k0, k1, k2, wcell, Nat.reduceAdd] at hgd' hv' hg2'
        simp (config := {contextual := true, decide := true}) only [↓ wpre, ↓ wval, wpost, wint, wlog, wcell, wop, wop2, wdr, wdr2, wrng, tf, Nat.reduceAdd, k0, k1, k2, frN, hgd', hv', hg2', ne_eq]
        refine ⟨rfl, ((Sto.mk m low' o').put (n + 1) (.defs none)).put 2 (.defs none), ?_, [v, .int .i64 0], ?_, ?_⟩
        · show leaveDs (Sto.mk m low' o') [.collected (n + 1), .collected 2] = _
          have : ((Sto.mk m low' o').put (n + 1) (.defs none)).get 2 = some (.defs (some [])) := by rw [Sto.get_put_ne _ _ (by omega)]; exact hg20
          simp only [leaveDs, hgd0, this]
        · simp (config := {decide := true}) only [↓ wval, wint, wlog]
        · have e0 : patchV a b = .tuple [partsV (patchTo a b (counted b)), .int .i64 0] := by rw [patchV, if_neg h0]
          rw [e0]
          refine .tuple _ _ rfl (frz_all_cons ?_ (frz_all_cons (.und _ und_int) frz_all_nil))
          rcases hacc with ⟨hl, rfl⟩ | ⟨hl, id, g, rfl, hid, hk⟩
          · rw [partsV, if_pos hl]; exact .und _ und_nils
          · rw [partsV, if_neg hl]
            refine frz_slk (g := g) (k := 2) (Nat.zero_le _) (by rw [Sto.get_put_ne _ _ (by omega), Sto.get_put_ne _ _ (by omega)]; exact hid) (by simp) (part_len _) fun x hx y hy => ?_
            obtain ⟨z, _, rfl⟩ := List.mem_map.1 hx
            simp only [partC, List.mem_cons, List.not_mem_nil, or_false] at hy
            rcases hy with rfl | rfl
            · exact und_int
            · exact und_str

end
end Go.Proofs.Ytajngkkihadgfaa

/-
  Patches applied, by the program.
-/

namespace Go.Proofs.Ytajngkkihadgfaa
open Go.Abs Go Go.Abs.TryF
noncomputable section
set_option maxRecDepth 10000

theorem mp86 : mpK Try.prog 86 = some (.i64, .str []) := by kernel_rfl
/-- a part as it must be -/
def partOk (x : Int × List Nat) : Bool := decide (0 ≤ x.1) && decide (x.1 < 256) && decide (x.2.length = 32)
/-- a page of a string behind parts -/
def pgAt (a : List Nat) (l : List (Int × List Nat)) (q : Int) : Option (List Nat) := l.foldl (fun c x => if x.1 = q then some x.2 else c) (if 0 ≤ q ∧ q < counted a then some (pageOf a q.toNat) else none)
/-- so many pages -/
def outTo (a : List Nat) (l : List (Int × List Nat)) : Nat → Option (List Nat)
  | 0 => some []
  | n + 1 => match outTo a l n, pgAt a l n with
    | some o, some p => some (o ++ p)
    | _, _ => none
def applyV (a : List Nat) (l : List (Int × List Nat)) (m : Int) : AV :=
  if counted a = 0 ∨ 256 < l.length ∨ m < 1 ∨ 256 < m then .tuple [.str [], .int .i64 2] else if l.all partOk = false then .tuple [.str [], .int .i64 2] else match outTo a l m.toNat with
    | some o => .tuple [.str o, .int .i64 0]
    | none => .tuple [.str [], .int .i64 5]
theorem pgAt_snoc (a : List Nat) (l : List (Int × List Nat)) (x : Int × List Nat) (q : Int) : pgAt a (l ++ [x]) q = if x.1 = q then some x.2 else pgAt a l q := by simp [pgAt, List.foldl_append]
theorem pgAt_len {a : List Nat} {l : List (Int × List Nat)} {q : Int} {p : List Nat} (hl : ∀ x ∈ l, x.2.length = 32) (h : pgAt a l q = some p) : p.length = 32 := by
  have : ∀ (l : List (Int × List Nat)) (c : Option (List Nat)), (∀ x ∈ l, x.2.length = 32) → (∀ p, c = some p → p.length = 32) → ∀ p, l.foldl (fun c x => if x.1 = q then some x.2 else c) c = some p → p.length = 32 := by
    intro l
    induction l with
    | nil => intro c _ hc p hp; exact hc p hp
    | cons x l ih =>
      intro c hl hc p hp
      refine ih _ (fun y hy => hl y (List.mem_cons_of_mem _ hy)) ?_ p hp
      intro p' hp'
      have hp2 : (if x.1 = q then some x.2 else c) = some p' := hp'
      by_cases hx : x.1 = q
      · rw [if_pos hx] at hp2; simp at hp2; subst hp2; exact hl x (List.mem_cons_self ..)
      · rw [if_neg hx] at hp2; exact hc p' hp2
  refine this l _ hl ?_ p h
  intro p hp
  split at hp
  · rename_i hq
    simp at hp; subst hp
    exact pageOf_len (by omega)
  · cases hp
theorem outTo_len {a : List Nat} {l : List (Int × List Nat)} (hl : ∀ x ∈ l, x.2.length = 32) : ∀ n o, outTo a l n = some o → o.length = n * 32
  | 0, o, h => by simp [outTo] at h; subst h; rfl
  | n + 1, o, h => by
    simp only [outTo] at h
    split at h
    · rename_i o' p h1 h2
      simp at h; subst h
      rw [List.length_append, outTo_len hl n o' h1, pgAt_len hl h2]; omega
    · cases h
theorem outTo_none {a : List Nat} {l : List (Int × List Nat)} {n : Nat} (h : outTo a l n = none) : ∀ m, n ≤ m → outTo a l m = none
  | m, hm => by
    induction m with
    | zero => have : n = 0 := by omega
              subst this; exact h
    | succ m ih =>
      by_cases he : n = m + 1
      · subst he; exact h
      · simp only [outTo, ih (by omega)]
theorem und_apply {a : List Nat} {l : List (Int × List Nat)} {m : Int} : Und 0 (applyV a l m) := by
  unfold applyV
  split
  · exact und_tuple (und_all_cons und_str (und_all_cons und_int und_all_nil))
  · split
    · exact und_tuple (und_all_cons und_str (und_all_cons und_int und_all_nil))
    · split <;> exact und_tuple (und_all_cons und_str (und_all_cons und_int und_all_nil))

/-- the map of a string's first pages, as strings -/
def MapS (s : List Nat) (i : Nat) (u : Sto) : Prop := u.get 1 = some (obg 0 [.map 0]) ∧ ∃ l c, u.get 0 = some (.map (entM .i64 l) c) ∧ ∀ q : Int, getM l q = if 0 ≤ q ∧ q < i then some (.str (pageOf s q.toNat)) else none
theorem MapS.sim {s : List Nat} {i l : Nat} {u u' : Sto} (h : SimX l u u') (hl : 1 < l) (hj : MapS s i u) : MapS s i u' := by
  obtain ⟨h1, m, c, h2, h3⟩ := hj
  exact ⟨h.get h1 (by omega), m, c, h.get h2 (by omega), h3⟩
theorem leave1 {s : Sto} {d : Nat} (h : s.get d = some (.defs (some []))) : leaveDs s [.collected d] = some (s.put d (.defs none)) := by simp [leaveDs, h]
theorem und_se {l : List Nat} {k : IntKind} {x : Int} : Und 0 (.tuple [.str l, .int k x]) := und_tuple (und_all_cons und_str (und_all_cons und_int und_all_nil))
set_option maxHeartbeats 2000000 in
theorem apply_ok (a : List Nat) (lv : AV) (l : List (Int × List Nat)) (m : Int) (ha : a.length < 9223372036854775808) (ba : By a) (hl : Sl lv (l.map partI)) : Abs.Returns Try.prog 11 [.str a, lv, .int .i64 m] (applyV a l m) := by
  refine returns_lvs (L := L9) L9_ok noHint (by kernel_rfl) Try.func11 Try.ntmps11 Try.results11 rfl rfl (und_all_cons und_str (und_all_cons (und_sl hl (und_partI _)).und (und_all_cons und_int und_all_nil))) ?_
  have ca := L9_32 a ha
  have pa := L9_33 a ha
  have hll := hl.2
  simp only [List.length_map] at hll
  have hda : ((counted a : Nat) : Int) = 0 ↔ counted a = 0 := by omega
  have hdl : (256 < ((l.length : Nat) : Int)) = (256 < l.length) := propext (by omega)
  by_cases h0 : counted a = 0
  · have e0 : applyV a l m = .tuple [.str [], .int .i64 2] := by rw [applyV, if_pos (.inl h0)]
    have h0' : (counted a = 0) = True := eq_true h0
    simp (config := {contextual := true, decide := true}) only [↓ wpre, ↓ wval, wpost, wint, wlog, wcell, wop, wop2, wdr, wdr2, tf, Nat.reduceAdd, ca, hda, h0', Wop_makeMap]
    refine ⟨rfl, _, rfl, _, rfl, ?_⟩
    rw [e0]
    exact .und _ (und_tuple (und_all_cons und_str (und_all_cons und_int und_all_nil)))
  by_cases h1 : 256 < l.length
  · have e0 : applyV a l m = .tuple [.str [], .int .i64 2] := by rw [applyV, if_pos (.inr (.inl h1))]
    simp (config := {contextual := true, decide := true}) only [↓ wpre, ↓ wval, wpost, wint, wlog, wcell, wop, wop2, wdr, wdr2, tf, Nat.reduceAdd, ca, hda, h0, hdl, h1, Wop_makeMap, hl.len, List.length_map]
    refine ⟨rfl, _, rfl, _, rfl, ?_⟩
    rw [e0]
    exact .und _ (und_tuple (und_all_cons und_str (und_all_cons und_int und_all_nil)))
  by_cases h2 : m < 1
  · have e0 : applyV a l m = .tuple [.str [], .int .i64 2] := by rw [applyV, if_pos (.inr (.inr (.inl h2)))]
    simp (config := {contextual := true, decide := true}) only [↓ wpre, ↓ wval, wpost, wint, wlog, wcell, wop, wop2, wdr, wdr2, tf, Nat.reduceAdd, ca, hda, h0, hdl, h1, h2, Wop_makeMap, hl.len, List.length_map]
    refine ⟨rfl, _, rfl, _, rfl, ?_⟩
    rw [e0]
    exact .und _ (und_tuple (und_all_cons und_str (und_all_cons und_int und_all_nil)))
  by_cases h3 : 256 < m
  · have e0 : applyV a l m = .tuple [.str [], .int .i64 2] := by rw [applyV, if_pos (.inr (.inr (.inr h3)))]
    simp (config := {contextual := true, decide := true}) only [↓ wpre, ↓ wval, wpost, wint, wlog, wcell, wop, wop2, wdr, wdr2, tf, Nat.reduceAdd, ca, hda, h0, hdl, h1, h2, h3, Wop_makeMap, hl.len, List.length_map]
    refine ⟨rfl, _, rfl, _, rfl, ?_⟩
    rw [e0]
    exact .und _ (und_tuple (und_all_cons und_str (und_all_cons und_int und_all_nil)))
  simp (config := {contextual := true, decide := true}) only [↓ wpre, ↓ wval, wpost, wint, wlog, wcell, wop, wop2, wdr, wdr2, tf, Nat.reduceAdd, ca, pa, hda, h0, hdl, h1, h2, h3, isCell_str, Wop_makeMap, hl.len, List.length_map]
  refine W_range (xs := rows a) (fun i u => MapS a i u) (fun _ _ => False) (fun _ _ => False) ?_ (fun i u u' h ha => MapS.sim h (by decide) ha) (fun _ _ _ _ h => h) (fun _ _ _ _ h => h) (fun _ _ h => h.elim) ⟨rfl, [], 0, rfl, fun q => by rw [if_neg (by omega)]; rfl⟩ ?_ ?_ (fun _ _ _ h => h.elim) (fun _ _ _ _ h => h.elim) (fun _ _ h => h.elim)
  · simp (config := {decide := true}) only [↓ wval]
    exact pages_iter a ha ca (fun a u => rfl)
  · rintro i x hx ⟨n, low, o⟩ hn hg1 hg2 ⟨hv, l', c, hl', hq⟩
    have hi : i < counted a := by
      have := (List.getElem?_eq_some_iff.1 hx).1
      simpa [rows] using this
    have hx' : x = [.int .i64 (i : Nat), .agg ((pageOf a i).map encB)] := by
      simp [rows, hi] at hx; exact hx.symm
    subst hx'
    have hp := pageOf_len hi
    have hcv : ∀ {g : Nat} {d : Option ORes}, cvO (some (obg g ((pageOf a i).map encB))) g 32 d = some (.val (.str (pageOf a i))) := fun {g d} => cvO_ok hp.symm (pageOf_lt ba i)
    have hn' : 3 < n := hn
    have f0 := frI (i := 0) (n := n) (by omega)
    have f1 := frI (i := 1) (n := n) (by omega)
    have f2 := frI (i := 2) (n := n) (by omega)
    have f3 := frI (i := 3) (n := n) (by omega)
    simp (config := {decide := true}) only [Sto.get_mk, f0, f1, f2, f3, wcell, Nat.reduceAdd] at hg1 hg2 hv hl'
    refine ⟨_, rfl, ?_⟩
    simp (config := {contextual := true, decide := true}) only [↓ wpre, ↓ wval, wpost, wint, wlog, wcell, wop, wop2, wdr, wdr2, wrng, tf, Nat.reduceAdd, hp, cvC_ofBytes, hcv, f0, f1, f2, f3, frN, hg1, hg2, hv, hl', placeK, roundK, rep_all, rep_len, lslice_self, Env.setS, ne_eq]
    clear hg2
    refine oKs_upd (l := l') (c := c) mp86 (by simp (config := {decide := true}) only [↓ wval, wcell, wlog, f0, f1, f2, f3, frN, ne_eq, hl']) fun l'' c' hl'' => ?_
    simp (config := {contextual := true, decide := true}) only [↓ wpre, ↓ wval, wpost, wint, wlog, wcell, wop, wop2, wdr, wdr2, wloop, wrng, tf, Nat.reduceAdd, f0, f1, f2, f3, frN, hg1, hv, placeK, roundK, ne_eq]
    refine ⟨Nat.le_refl _, sto_get_of (by show 1 < n + 1; omega) (by simp (config := {decide := true}) only [↓ wval, wcell, wlog, f0, f1, f2, f3, frN, ne_eq, hv]), l'', c', sto_get_of (by show 0 < n + 1; omega) (by simp (config := {decide := true}) only [↓ wval, wcell, wlog, f0, f1, f2, f3, frN, ne_eq]), fun q => ?_⟩
    rw [hl'', hq]
    by_cases h5 : (i : Int) = q
    · subst h5
      rw [if_pos rfl, if_pos (by omega)]; simp
    · rw [if_neg h5]
      by_cases h6 : 0 ≤ q ∧ q < i
      · rw [if_pos h6, if_pos (by omega)]
      · rw [if_neg h6, if_neg (by omega)]
  · rintro ⟨n, low, o⟩ hn hg1 ⟨hv, l', c, hl', hq⟩
    have hrow : (rows a).length = counted a := by simp [rows]
    rw [hrow] at hq
    have hn' : 3 < n := hn
    have f0 := frI (i := 0) (n := n) (by omega)
    have f1 := frI (i := 1) (n := n) (by omega)
    have f2 := frI (i := 2) (n := n) (by omega)
    have f3 := frI (i := 3) (n := n) (by omega)
    simp (config := {decide := true}) only [Sto.get_mk, f0, f1, f2, f3, wcell, Nat.reduceAdd] at hg1 hv hl'
    simp (config := {contextual := true, decide := true}) only [↓ wpre, ↓ wval, wpost, wint, wlog, wcell, wop, wop2, wdr, wdr2, wrng, tf, Nat.reduceAdd, f0, f1, f2, f3, frN, hg1, hv, hl', ne_eq, isCell_str, hl.len, List.length_map]
    refine Wk_loop (fun j e => ∃ t n low o l' c, e = ⟨85, none, 11, t, [.collected 2], ⟨n, low, o⟩, .no⟩ ∧ t.val 2 = .int .i64 m ∧ t.val 8 = .ptr 1 0 0 ∧ t.val 42 = lv ∧ t.val 43 = .int .i64 (l.length : Nat) ∧ t.val 44 = .int .i64 (j : Nat) ∧ o.get 1 = some (obg 0 [.map 0]) ∧ o.get 2 = some (.defs (some [])) ∧ o.get 0 = some (.map (entM .i64 l') c) ∧ (∀ q, getM l' q = (pgAt a (l.take j) q).map .str) ∧ j ≤ l.length ∧ (∀ x ∈ l.take j, partOk x = true) ∧ 3 < n) (fun j => l.length - j) 0
      ⟨_, n, _, _, l', c, rfl, by simp (config := {decide := true}) only [↓ wval, wint, wlog], by simp (config := {decide := true}) only [↓ wval, wint, wlog], by simp (config := {decide := true}) only [↓ wval, wint, wlog], by simp (config := {decide := true}) only [↓ wval, wint, wlog], by simp (config := {decide := true}) only [↓ wval, wint, wlog]; rfl,
        by simp (config := {decide := true}) only [↓ wval, wcell, wlog, f0, f1, f2, f3, frN, ne_eq, hv], by simp (config := {decide := true}) only [↓ wval, wcell, wlog, f0, f1, f2, f3, frN, ne_eq, hg1], by simp (config := {decide := true}) only [↓ wval, wcell, wlog, f0, f1, f2, f3, frN, ne_eq, hl'], fun q => ?_, Nat.zero_le _, fun x hx => by simp at hx, hn'⟩ ?_
    · rw [hq, List.take_zero, pgAt, List.foldl_nil]
      by_cases h6 : 0 ≤ q ∧ q < counted a
      · rw [if_pos h6, if_pos h6]; rfl
      · rw [if_neg h6, if_neg h6]; rfl
    clear hg1 hv hl' hq hn f0 f1 f2 f3 hn' l' c n low o hrow
    rintro j _ ⟨t, n, low, o, l', c, rfl, t2, t8, t42, t43, t44, hv, hg1, hl', hq, hj, hok, hn⟩
    have f0 := frI (i := 0) (n := n) (by omega)
    have f1 := frI (i := 1) (n := n) (by omega)
    have f2 := frI (i := 2) (n := n) (by omega)
    by_cases hlt : j < l.length
    · have d1 : (j : Int) < (l.length : Nat) := by omega
      have d3 : (0 : Int) ≤ j := by omega
      have d4 : ((j : Int)).toNat = j := by omega
      have d5 := wrap_succ (i := j) (by omega)
      have hxm : l.getD j default ∈ l := by rw [getD_lt hlt]; exact List.getElem_mem _
      have htk : l.take (j + 1) = l.take j ++ [l.getD j default] := by rw [getD_lt hlt]; exact List.take_succ_eq_append_getElem hlt
      generalize hxd : l.getD j default = x at *
      obtain ⟨at_, pg⟩ := x
      have c4 : (((pg.length : Nat) : Int) = 32) = (pg.length = 32) := propext (by omega)
      by_cases c1 : at_ < 0
      · have e0 : applyV a l m = .tuple [.str [], .int .i64 2] := by
          rw [applyV, if_neg (by omega), if_pos]
          rw [List.all_eq_false]; exact ⟨_, hxm, by simp [partOk]; omega⟩
        simp (config := {contextual := true, decide := true}) only [↓ wpre, ↓ wval, wpost, wint, wlog, wcell, wop, wop2, wdr, wdr2, wloop, wrng, tf, Nat.reduceAdd, hl.idx, t2, t8, t42, t43, t44, d1, d3, d4, d5, List.length_map, idxF_map partI_len, partI, pfC_agg, hxd, f0, f1, f2, frN, hv, hg1, c1, ne_eq]
        refine ⟨rfl, _, leave1 (sto_get_of (by show 2 < n + 1; omega) (by simp (config := {decide := true}) only [↓ wval, wcell, wlog, f0, f1, f2, frN, ne_eq, hg1])), [.str [], .int .i64 2], by simp (config := {decide := true}) only [↓ wval, wint, wlog], ?_⟩
        rw [e0]; exact .und _ und_se
      by_cases c2 : 256 ≤ at_
      · have e0 : applyV a l m = .tuple [.str [], .int .i64 2] := by
          rw [applyV, if_neg (by omega), if_pos]
          rw [List.all_eq_false]; exact ⟨_, hxm, by simp [partOk]; omega⟩
        simp (config := {contextual := true, decide := true}) only [↓ wpre, ↓ wval, wpost, wint, wlog, wcell, wop, wop2, wdr, wdr2, wloop, wrng, tf, Nat.reduceAdd, hl.idx, t2, t8, t42, t43, t44, d1, d3, d4, d5, List.length_map, idxF_map partI_len, partI, pfC_agg, hxd, f0, f1, f2, frN, hv, hg1, c1, c2, ne_eq]
        refine ⟨rfl, _, leave1 (sto_get_of (by show 2 < n + 1; omega) (by simp (config := {decide := true}) only [↓ wval, wcell, wlog, f0, f1, f2, frN, ne_eq, hg1])), [.str [], .int .i64 2], by simp (config := {decide := true}) only [↓ wval, wint, wlog], ?_⟩
        rw [e0]; exact .und _ und_se
      by_cases c3 : pg.length = 32
      · simp (config := {contextual := true, decide := true}) only [↓ wpre, ↓ wval, wpost, wint, wlog, wcell, wop, wop2, wdr, wdr2, wloop, wrng, tf, Nat.reduceAdd, hl.idx, t2, t8, t42, t43, t44, d1, d3, d4, d5, List.length_map, idxF_map partI_len, partI, pfC_agg, hxd, f0, f1, f2, frN, hv, hg1, c1, c2, c3, c4, hl', ne_eq]
        refine oKs_upd (l := l') (c := c) mp86 (by simp (config := {decide := true}) only [↓ wval, wcell, wlog, f0, f1, f2, frN, ne_eq, hl']) fun l'' c' hl'' => ?_
        simp (config := {contextual := true, decide := true}) only [↓ wpre, ↓ wval, wpost, wint, wlog, wcell, wop, wop2, wdr, wdr2, wloop, wrng, tf, Nat.reduceAdd, t44, d5, f0, f1, f2, frN, hv, hg1, ne_eq]
        refine ⟨j + 1, by show _ - _ < _ - _; omega, _, n + 1, _, _, l'', c', rfl, by simp (config := {decide := true}) only [↓ wval, t2], by simp (config := {decide := true}) only [↓ wval, t8], by simp (config := {decide := true}) only [↓ wval, t42], by simp (config := {decide := true}) only [↓ wval, t43], by simp (config := {decide := true}) only [↓ wval],
          by simp (config := {decide := true}) only [↓ wval, wcell, wlog, f0, f1, f2, frN, ne_eq, hv], by simp (config := {decide := true}) only [↓ wval, wcell, wlog, f0, f1, f2, frN, ne_eq, hg1], by simp (config := {decide := true}) only [↓ wval, wcell, wlog, f0, f1, f2, frN, ne_eq], fun q => ?_, hlt, ?_, by omega⟩
        · rw [htk, pgAt_snoc, hl'', hq]
          by_cases h5 : at_ = q
          · rw [if_pos h5, if_pos h5]; rfl
          · rw [if_neg h5, if_neg h5]
        · intro y hy
          rw [htk, List.mem_append, List.mem_singleton] at hy
          rcases hy with hy | rfl
          · exact hok y hy
          · simp [partOk, c3]; omega
      · have e0 : applyV a l m = .tuple [.str [], .int .i64 2] := by
          rw [applyV, if_neg (by omega), if_pos]
          rw [List.all_eq_false]; exact ⟨_, hxm, by simp [partOk]; omega⟩
        simp (config := {contextual := true, decide := true}) only [↓ wpre, ↓ wval, wpost, wint, wlog, wcell, wop, wop2, wdr, wdr2, wloop, wrng, tf, Nat.reduceAdd, hl.idx, t2, t8, t42, t43, t44, d1, d3, d4, d5, List.length_map, idxF_map partI_len, partI, pfC_agg, hxd, f0, f1, f2, frN, hv, hg1, c1, c2, c3, c4, ne_eq]
        refine ⟨rfl, _, leave1 (sto_get_of (by show 2 < n + 1; omega) (by simp (config := {decide := true}) only [↓ wval, wcell, wlog, f0, f1, f2, frN, ne_eq, hg1])), [.str [], .int .i64 2], by simp (config := {decide := true}) only [↓ wval, wint, wlog], ?_⟩
        rw [e0]; exact .und _ und_se
    · have hjl : j = l.length := by omega
      subst hjl
      rw [List.take_length] at hok hq
      have d1 : ¬ ((l.length : Nat) : Int) < (l.length : Nat) := by omega
      simp (config := {contextual := true, decide := true}) only [↓ wpre, ↓ wval, wpost, wint, wlog, wcell, wop, wop2, wdr, wdr2, wloop, wrng, tf, Nat.reduceAdd, t2, t8, t43, t44, d1, ne_eq]
      have hmn : ((m.toNat : Nat) : Int) = m := by omega
      have e0 : applyV a l m = match outTo a l m.toNat with
        | some o => .tuple [.str o, .int .i64 0]
        | none => .tuple [.str [], .int .i64 5] := by
        rw [applyV, if_neg (by omega), if_neg]
        rw [List.all_eq_true.2 hok]; simp
      have hlen : ∀ x ∈ l, x.2.length = 32 := fun x hx => by have := hok x hx; simp [partOk] at this; exact this.2
      refine Wk_loop (fun i e => ∃ t out, e = ⟨85, none, 11, t, [.collected 2], ⟨n, low, o⟩, .no⟩ ∧ t.val 8 = .ptr 1 0 0 ∧ t.val 68 = .int .i64 m ∧ t.val 69 = .int .i64 (i : Nat) ∧ t.val 13 = .str out ∧ outTo a l i = some out ∧ i ≤ m.toNat) (fun i => m.toNat - i) 0
        ⟨_, [], rfl, by simp (config := {decide := true}) only [↓ wval, t8], by simp (config := {decide := true}) only [↓ wval], by simp (config := {decide := true}) only [↓ wval, wint, wlog]; rfl, by simp (config := {decide := true}) only [↓ wval, wint, wlog], rfl, Nat.zero_le _⟩ ?_
      rintro i _ ⟨t, out, rfl, t8, t68, t69, t13, hout, him⟩
      have hol := outTo_len hlen i out hout
      by_cases hlt : i < m.toNat
      · have d1 : (i : Int) < m := by omega
        have d5 := wrap_succ (i := i) (by omega)
        cases hpg : pgAt a l i with
        | none =>
          have hlk : ∀ s : Sto, s.get 0 = some (.map (entM .i64 l') c) → alookup Try.prog s 86 (.map 0) (.int .i64 (i : Nat)) true = some (.tuple [.str [], .bool false]) := fun s hs => by
            rw [lookup_ok mp86 hs, hq, hpg]; rfl
          simp (config := {contextual := true, decide := true}) only [↓ wpre, ↓ wval, wpost, wint, wlog, wcell, wop, wop2, wdr, wdr2, wloop, wrng, tf, Nat.reduceAdd, t8, t13, t68, t69, d1, d5, hlk, hl', hv, f0, f1, f2, Wop_ext, extV_tuple, ne_eq]
          refine ⟨rfl, _, leave1 (sto_get_of f2.1 hg1), [.str [], .int .i64 5], by simp (config := {decide := true}) only [↓ wval, wint, wlog], ?_⟩
          have : outTo a l m.toNat = none := outTo_none (n := i + 1) (by simp only [outTo, hpg]; cases outTo a l i <;> rfl) _ hlt
          rw [e0, this]; exact .und _ und_se
        | some pg =>
          have hpl := pgAt_len hlen hpg
          have hlk : ∀ s : Sto, s.get 0 = some (.map (entM .i64 l') c) → alookup Try.prog s 86 (.map 0) (.int .i64 (i : Nat)) true = some (.tuple [.str pg, .bool true]) := fun s hs => by
            rw [lookup_ok mp86 hs, hq, hpg]; rfl
          have hadd : out.length + pg.length < 9223372036854775808 := by omega
          simp (config := {contextual := true, decide := true}) only [↓ wpre, ↓ wval, wpost, wint, wlog, wcell, wop, wop2, wdr, wdr2, wloop, wrng, tf, Nat.reduceAdd, t8, t13, t68, t69, d1, d5, hlk, hl', hv, f0, f1, f2, Wop_ext, extV_tuple, abin_str_add hadd, ne_eq]
          exact ⟨i + 1, by show _ - _ < _ - _; omega, _, out ++ pg, rfl, by simp (config := {decide := true}) only [↓ wval, t8], by simp (config := {decide := true}) only [↓ wval, t68], by simp (config := {decide := true}) only [↓ wval], by simp (config := {decide := true}) only [↓ wval], by simp only [outTo, hout, hpg], hlt⟩
      · have him' : i = m.toNat := by omega
        subst him'
        have d1 : ¬ ((m.toNat : Nat) : Int) < m := by omega
        simp (config := {contextual := true, decide := true}) only [↓ wpre, ↓ wval, wpost, wint, wlog, wcell, wop, wop2, wdr, wdr2, wloop, wrng, tf, Nat.reduceAdd, t8, t13, t68, t69, d1, ne_eq]
        refine ⟨rfl, _, leave1 (sto_get_of f2.1 hg1), [.str out, .int .i64 0], by simp (config := {decide := true}) only [↓ wval, wint, wlog], ?_⟩
        rw [e0, hout]; exact .und _ und_se

end
end Go.Proofs.Ytajngkkihadgfaa

/-
  Patches applied, by the reference.
-/

namespace Go.Proofs.Ytajngkkihadgfaa
open Go.Abs Go Go.Abs.TryF
noncomputable section
set_option maxRecDepth 10000

def L12 : List Ent := [entF 34 (fun x : Str => [.str x.1]) fun x => .bool (whole x.1), entF 35 (fun x : Str × { i : Nat // i < 4611686018427387904 } => [.str x.1.1, .int .i64 (x.2.1 : Nat)]) fun x => pageV x.1.1 x.2.1, ent 36 inV]
theorem L12_ok : ∀ x ∈ L12, ESound Try.prog x := elist_cons (entF_ok fun x => refWhole_ok x.1 x.2) (elist_cons (entF_ok fun x => refPage_ok x.1.1 x.2.1 x.1.2 x.2.2) (elist_cons refIn_ok.ent elist_nil))
theorem L12_34 (s : List Nat) (hs : s.length < 9223372036854775808) (u : Sto) : orcL L12 34 [.str s] u = some (.ret (.bool (whole s)) none) := by
  rw [L12]
  refine entF_same (A := fun x : Str => [.str x.1]) ?_ ⟨s, hs⟩
  rintro ⟨a, _⟩ ⟨b, _⟩ h
  simp at h; subst h; rfl
theorem L12_35 (s : List Nat) (i : Nat) (hs : s.length < 9223372036854775808) (hi : i < 4611686018427387904) (u : Sto) : orcL L12 35 [.str s, .int .i64 (i : Nat)] u = some (.ret (pageV s i) none) := by
  rw [L12, entF_ne (show (34 : Nat) ≠ 35 by decide)]
  refine entF_same (A := fun x : Str × { i : Nat // i < 4611686018427387904 } => [.str x.1.1, .int .i64 (x.2.1 : Nat)]) ?_ (⟨s, hs⟩, ⟨i, hi⟩)
  rintro ⟨⟨a, _⟩, ⟨i, _⟩⟩ ⟨⟨b, _⟩, ⟨j, _⟩⟩ h
  simp at h
  obtain ⟨rfl, h⟩ := h
  have : i = j := by omega
  subst this; rfl
theorem L12_36 (n l h : Int) (u : Sto) : orcL L12 36 [.int .i64 n, .int .i64 l, .int .i64 h] u = some (.ret (.bool (decide (l ≤ n) && decide (n ≤ h))) none) := by
  rw [L12, entF_ne (show (34 : Nat) ≠ 36 by decide), entF_ne (show (35 : Nat) ≠ 36 by decide), ent_same]
  rfl

set_option maxHeartbeats 2000000 in
theorem refApply_ok (a : List Nat) (lv : AV) (l : List (Int × List Nat)) (m : Int) (ha : a.length < 9223372036854775808) (hl : Sl lv (l.map partI)) : Abs.Returns Try.prog 12 [.str a, lv, .int .i64 m] (applyV a l m) := by
  refine returns_wk (L := L12) L12_ok noHint (by kernel_rfl) Try.func12 Try.ntmps12 Try.results12 rfl rfl (und_all_cons und_str (und_all_cons (und_sl hl (und_partI _)).und (und_all_cons und_int und_all_nil))) und_apply ?_
  have ca := L12_34 a ha
  have hll := hl.2
  simp only [List.length_map] at hll
  have hdl : (256 < ((l.length : Nat) : Int)) = (256 < l.length) := propext (by omega)
  have hw : whole a = !decide (counted a = 0) := by simp [whole]
  by_cases h0 : counted a = 0
  · have e0 : applyV a l m = .tuple [.str [], .int .i64 2] := by rw [applyV, if_pos (.inl h0)]
    have hw : whole a = false := by simp [whole, h0]
    simp (config := {contextual := true, decide := true}) only [↓ wpre, ↓ wval, wpost, wint, wlog, wcell, wop, wop2, wdr, wdr2, tf, Nat.reduceAdd, ca, hw, hl.len, List.length_map, e0]
  have hw : whole a = true := by simp [whole, h0]
  by_cases h1 : 256 < l.length
  · have e0 : applyV a l m = .tuple [.str [], .int .i64 2] := by rw [applyV, if_pos (.inr (.inl h1))]
    simp (config := {contextual := true, decide := true}) only [↓ wpre, ↓ wval, wpost, wint, wlog, wcell, wop, wop2, wdr, wdr2, tf, Nat.reduceAdd, ca, hw, hdl, h1, hl.len, List.length_map, e0]
  by_cases h2 : m < 1 ∨ 256 < m
  · have e0 : applyV a l m = .tuple [.str [], .int .i64 2] := by rw [applyV, if_pos (.inr (.inr h2))]
    have hin : (decide (1 ≤ m) && decide (m ≤ 256)) = false := by simp; omega
    simp (config := {contextual := true, decide := true}) only [↓ wpre, ↓ wval, wpost, wint, wlog, wcell, wop, wop2, wdr, wdr2, tf, Nat.reduceAdd, ca, hw, hdl, h1, L12_36, hin, hl.len, List.length_map, e0]
  have hin : (decide (1 ≤ m) && decide (m ≤ 256)) = true := by simp; omega
  simp (config := {contextual := true, decide := true}) only [↓ wpre, ↓ wval, wpost, wint, wlog, wcell, wop, wop2, wdr, wdr2, tf, Nat.reduceAdd, ca, hw, hdl, h1, L12_36, hin, hl.len, List.length_map]
  refine Wk_loop (fun j e => ∃ t, e = ⟨84, none, 12, t, [], ⟨0, 0, .leaf⟩, .no⟩ ∧ t.val 0 = .str a ∧ t.val 1 = lv ∧ t.val 2 = .int .i64 m ∧ t.val 8 = .int .i64 (j : Nat) ∧ j ≤ l.length ∧ (∀ x ∈ l.take j, partOk x = true)) (fun j => l.length - j) 0
    ⟨_, rfl, by simp (config := {decide := true}) only [↓ wval, wint, wlog], by simp (config := {decide := true}) only [↓ wval, wint, wlog], by simp (config := {decide := true}) only [↓ wval, wint, wlog], by simp (config := {decide := true}) only [↓ wval, wint, wlog]; rfl, Nat.zero_le _, fun x hx => by simp at hx⟩ ?_
  rintro j _ ⟨t, rfl, t0, t1, t2, t8, hj, hok⟩
  by_cases hlt : j < l.length
  · have d1 : (j : Int) < (l.length : Nat) := by omega
    have d3 : (0 : Int) ≤ j := by omega
    have d4 : ((j : Int)).toNat = j := by omega
    have d5 := wrap_succ (i := j) (by omega)
    have hxm : l.getD j default ∈ l := by rw [getD_lt hlt]; exact List.getElem_mem _
    have htk : l.take (j + 1) = l.take j ++ [l.getD j default] := by rw [getD_lt hlt]; exact List.take_succ_eq_append_getElem hlt
    generalize hxd : l.getD j default = x at *
    obtain ⟨at_, pg⟩ := x
    have c4 : (((pg.length : Nat) : Int) = 32) = (pg.length = 32) := propext (by omega)
    by_cases c1 : at_ < 0 ∨ 256 ≤ at_
    · have e0 : applyV a l m = .tuple [.str [], .int .i64 2] := by
        rw [applyV, if_neg (by omega), if_pos]
        rw [List.all_eq_false]; exact ⟨_, hxm, by simp [partOk]; omega⟩
      have hin2 : (decide (0 ≤ at_) && decide (at_ ≤ 255)) = false := by simp; omega
      simp (config := {contextual := true, decide := true}) only [↓ wpre, ↓ wval, wpost, wint, wlog, wcell, wop, wop2, wdr, wdr2, wloop, wrng, tf, Nat.reduceAdd, hl.len, hl.idx, t0, t1, t2, t8, d1, d3, d4, d5, List.length_map, idxF_map partI_len, partI, wfld, hxd, L12_36, hin2, e0, ne_eq]
    have hin2 : (decide (0 ≤ at_) && decide (at_ ≤ 255)) = true := by simp; omega
    by_cases c3 : pg.length = 32
    · simp (config := {contextual := true, decide := true}) only [↓ wpre, ↓ wval, wpost, wint, wlog, wcell, wop, wop2, wdr, wdr2, wloop, wrng, tf, Nat.reduceAdd, hl.len, hl.idx, t0, t1, t2, t8, d1, d3, d4, d5, List.length_map, idxF_map partI_len, partI, wfld, hxd, L12_36, hin2, c3, c4, ne_eq]
      refine ⟨j + 1, by show _ - _ < _ - _; omega, _, rfl, by simp (config := {decide := true}) only [↓ wval, t0], by simp (config := {decide := true}) only [↓ wval, t1], by simp (config := {decide := true}) only [↓ wval, t2], by simp (config := {decide := true}) only [↓ wval], hlt, ?_⟩
      intro y hy
      rw [htk, List.mem_append, List.mem_singleton] at hy
      rcases hy with hy | rfl
      · exact hok y hy
      · simp [partOk, c3]; omega
    · have e0 : applyV a l m = .tuple [.str [], .int .i64 2] := by
        rw [applyV, if_neg (by omega), if_pos]
        rw [List.all_eq_false]; exact ⟨_, hxm, by simp [partOk]; omega⟩
      simp (config := {contextual := true, decide := true}) only [↓ wpre, ↓ wval, wpost, wint, wlog, wcell, wop, wop2, wdr, wdr2, wloop, wrng, tf, Nat.reduceAdd, hl.len, hl.idx, t0, t1, t2, t8, d1, d3, d4, d5, List.length_map, idxF_map partI_len, partI, wfld, hxd, L12_36, hin2, c3, c4, e0, ne_eq]
  · have hjl : j = l.length := by omega
    subst hjl
    rw [List.take_length] at hok
    have d1 : ¬ ((l.length : Nat) : Int) < (l.length : Nat) := by omega
    simp (config := {contextual := true, decide := true}) only [↓ wpre, ↓ wval, wpost, wint, wlog, wcell, wop, wop2, wdr, wdr2, wloop, wrng, tf, Nat.reduceAdd, hl.len, List.length_map, t0, t1, t2, t8, d1, ne_eq]
    have hmn : ((m.toNat : Nat) : Int) = m := by omega
    have e0 : applyV a l m = match outTo a l m.toNat with
      | some o => .tuple [.str o, .int .i64 0]
      | none => .tuple [.str [], .int .i64 5] := by
      unfold applyV
      exact (if_neg (by omega)).trans (if_neg (by rw [List.all_eq_true.2 hok]; simp))
    have hlen : ∀ x ∈ l, x.2.length = 32 := fun x hx => by have := hok x hx; simp [partOk] at this; exact this.2
    refine Wk_loop (fun i e => ∃ t out, e = ⟨84, none, 12, t, [], ⟨0, 0, .leaf⟩, .no⟩ ∧ t.val 0 = .str a ∧ t.val 1 = lv ∧ t.val 2 = .int .i64 m ∧ t.val 10 = .int .i64 (i : Nat) ∧ t.val 9 = .str out ∧ outTo a l i = some out ∧ i ≤ m.toNat) (fun i => m.toNat - i) 0
      ⟨_, [], rfl, by simp (config := {decide := true}) only [↓ wval, t0], by simp (config := {decide := true}) only [↓ wval, t1], by simp (config := {decide := true}) only [↓ wval, t2], by simp (config := {decide := true}) only [↓ wval, wint, wlog]; rfl, by simp (config := {decide := true}) only [↓ wval, wint, wlog], rfl, Nat.zero_le _⟩ ?_
    rintro i _ ⟨t, out, rfl, t0, t1, t2, t10, t9, hout, him⟩
    have hol := outTo_len hlen i out hout
    by_cases hlt : i < m.toNat
    · have d1 : (i : Int) < m := by omega
      have d5 := wrap_succ (i := i) (by omega)
      have cp := L12_35 a i ha (by omega)
      let C : Nat → Option (List Nat) := fun k => (l.take k).foldl (fun c x => if x.1 = (i : Int) then some x.2 else c) (if (0 : Int) ≤ i ∧ (i : Int) < counted a then some (pageOf a i) else none)
      have hCs : ∀ k, k < l.length → C (k + 1) = if (l.getD k default).1 = (i : Int) then some (l.getD k default).2 else C k := fun k hk => by
        have htk : l.take (k + 1) = l.take k ++ [l.getD k default] := by rw [getD_lt hk]; exact List.take_succ_eq_append_getElem hk
        show (l.take (k + 1)).foldl _ _ = _
        rw [htk, List.foldl_append]; rfl
      have hCe : C l.length = pgAt a l i := by simp only [C, pgAt, List.take_length, Int.toNat_natCast]
      obtain ⟨pv, hpv, hp0⟩ : ∃ p0, pageV a i = .tuple [.str p0, .bool (C 0).isSome] ∧ ∀ p, C 0 = some p → p0 = p := by
        have hcd := (counted_div h0).1
        by_cases hia : i < counted a
        · refine ⟨pageOf a i, ?_, ?_⟩
          · rw [pageV, if_pos (by omega)]
            have : C 0 = some (pageOf a i) := by simp only [C, List.take_zero, List.foldl_nil]; rw [if_pos (by omega)]
            rw [this]; rfl
          · intro p hp
            have : C 0 = some (pageOf a i) := by simp only [C, List.take_zero, List.foldl_nil]; rw [if_pos (by omega)]
            rw [this] at hp; simpa using hp
        · have : C 0 = none := by simp only [C, List.take_zero, List.foldl_nil]; rw [if_neg (by omega)]
          refine ⟨[], ?_, ?_⟩
          · rw [pageV, if_neg (by omega), this]; rfl
          · intro p hp; rw [this] at hp; cases hp
      simp (config := {contextual := true, decide := true}) only [↓ wpre, ↓ wval, wpost, wint, wlog, wcell, wop, wop2, wdr, wdr2, wloop, wrng, tf, Nat.reduceAdd, t0, t1, t2, t9, t10, d1, d5, cp, hpv, Wop_ext, extV_tuple, ne_eq]
      refine Wk_loop (fun k e => ∃ t pv, e = ⟨84, none, 12, t, [], ⟨0, 0, .leaf⟩, .no⟩ ∧ t.val 0 = .str a ∧ t.val 1 = lv ∧ t.val 2 = .int .i64 m ∧ t.val 10 = .int .i64 (i : Nat) ∧ t.val 9 = .str out ∧ t.val 13 = .int .i64 (k : Nat) ∧ t.val 11 = .str pv ∧ t.val 12 = .bool (C k).isSome ∧ (∀ p, C k = some p → pv = p) ∧ k ≤ l.length) (fun k => l.length - k) 0
        ⟨_, pv, rfl, by simp (config := {decide := true}) only [↓ wval, t0], by simp (config := {decide := true}) only [↓ wval, t1], by simp (config := {decide := true}) only [↓ wval, t2], by simp (config := {decide := true}) only [↓ wval, t10], by simp (config := {decide := true}) only [↓ wval, t9], by simp (config := {decide := true}) only [↓ wval, wint, wlog]; rfl, by simp (config := {decide := true}) only [↓ wval], by simp (config := {decide := true}) only [↓ wval], hp0, Nat.zero_le _⟩ ?_
      rintro k _ ⟨t, pv, rfl, t0, t1, t2, t10, t9, t13, t11, t12, hpk, hk⟩
      by_cases hkl : k < l.length
      · have d1 : (k : Int) < (l.length : Nat) := by omega
        have d3 : (0 : Int) ≤ k := by omega
        have d4 : ((k : Int)).toNat = k := by omega
        have d6 := wrap_succ (i := k) (by omega)
        have hck := hCs k hkl
        generalize hxd : l.getD k default = x at *
        obtain ⟨at_, pg⟩ := x
        by_cases c1 : at_ = (i : Int)
        · rw [if_pos c1] at hck
          simp (config := {contextual := true, decide := true}) only [↓ wpre, ↓ wval, wpost, wint, wlog, wcell, wop, wop2, wdr, wdr2, wloop, wrng, tf, Nat.reduceAdd, hl.len, hl.idx, t0, t1, t2, t9, t10, t11, t12, t13, d1, d3, d4, d6, List.length_map, idxF_map partI_len, partI, wfld, hxd, c1, ne_eq]
          exact ⟨k + 1, by show _ - _ < _ - _; omega, _, pg, rfl, by simp (config := {decide := true}) only [↓ wval, t0], by simp (config := {decide := true}) only [↓ wval, t1], by simp (config := {decide := true}) only [↓ wval, t2], by simp (config := {decide := true}) only [↓ wval, t10], by simp (config := {decide := true}) only [↓ wval, t9], by simp (config := {decide := true}) only [↓ wval], by simp (config := {decide := true}) only [↓ wval], by simp (config := {decide := true}) only [↓ wval, wint]; rw [hck]; rfl, fun p hp => by rw [hck] at hp; simpa using hp, hkl⟩
        · rw [if_neg c1] at hck
          simp (config := {contextual := true, decide := true}) only [↓ wpre, ↓ wval, wpost, wint, wlog, wcell, wop, wop2, wdr, wdr2, wloop, wrng, tf, Nat.reduceAdd, hl.len, hl.idx, t0, t1, t2, t9, t10, t11, t12, t13, d1, d3, d4, d6, List.length_map, idxF_map partI_len, partI, wfld, hxd, c1, ne_eq]
          exact ⟨k + 1, by show _ - _ < _ - _; omega, _, pv, rfl, by simp (config := {decide := true}) only [↓ wval, t0], by simp (config := {decide := true}) only [↓ wval, t1], by simp (config := {decide := true}) only [↓ wval, t2], by simp (config := {decide := true}) only [↓ wval, t10], by simp (config := {decide := true}) only [↓ wval, t9], by simp (config := {decide := true}) only [↓ wval], by simp (config := {decide := true}) only [↓ wval, t11], by simp (config := {decide := true}) only [↓ wval, t12]; rw [hck], fun p hp => by rw [hck] at hp; exact hpk p hp, hkl⟩
      · have hkl' : k = l.length := by omega
        subst hkl'
        rw [hCe] at t12 hpk
        have d1 : ¬ ((l.length : Nat) : Int) < (l.length : Nat) := by omega
        cases hpg : pgAt a l i with
        | none =>
          have : outTo a l m.toNat = none := outTo_none (n := i + 1) (by simp only [outTo, hpg]; cases outTo a l i <;> rfl) _ hlt
          rw [hpg] at t12
          have t12' : t.val 12 = .bool false := t12
          simp (config := {contextual := true, decide := true}) only [↓ wpre, ↓ wval, wpost, wint, wlog, wcell, wop, wop2, wdr, wdr2, wloop, wrng, tf, Nat.reduceAdd, hl.len, List.length_map, t0, t1, t2, t9, t10, t11, t12', t13, d1, e0, this, ne_eq]
        | some pg =>
          have hpl := pgAt_len hlen hpg
          have hadd : out.length + pg.length < 9223372036854775808 := by omega
          rw [hpg] at t12
          have t12' : t.val 12 = .bool true := t12
          rw [hpk pg hpg] at t11
          simp (config := {contextual := true, decide := true}) only [↓ wpre, ↓ wval, wpost, wint, wlog, wcell, wop, wop2, wdr, wdr2, wloop, wrng, tf, Nat.reduceAdd, hl.len, List.length_map, t0, t1, t2, t9, t10, t11, t12', t13, d1, d5, abin_str_add hadd, ne_eq]
          exact ⟨i + 1, by show _ - _ < _ - _; omega, _, out ++ pg, rfl, by simp (config := {decide := true}) only [↓ wval, t0], by simp (config := {decide := true}) only [↓ wval, t1], by simp (config := {decide := true}) only [↓ wval, t2], by simp (config := {decide := true}) only [↓ wval], by simp (config := {decide := true}) only [↓ wval], by simp only [outTo, hout, hpg], hlt⟩
    · have him' : i = m.toNat := by omega
      subst him'
      have d1 : ¬ ((m.toNat : Nat) : Int) < m := by omega
      simp (config := {contextual := true, decide := true}) only [↓ wpre, ↓ wval, wpost, wint, wlog, wcell, wop, wop2, wdr, wdr2, wloop, wrng, tf, Nat.reduceAdd, t0, t1, t2, t9, t10, d1, ne_eq]
      rw [e0, hout]

end
end Go.Proofs.Ytajngkkihadgfaa

/-
  The law of patches: a patch leads to the other string; what the law's function returns.
-/

namespace Go.Proofs.Ytajngkkihadgfaa
open Go.Abs Go Go.Abs.TryF
noncomputable section
set_option maxRecDepth 10000

def castP (x : Nat × List Nat) : Int × List Nat := ((x.1 : Nat), x.2)
theorem castP_partI (l : List (Nat × List Nat)) : (l.map castP).map partI = (l.map partC).map .agg := by
  rw [List.map_map, List.map_map]; rfl
theorem parts_sl (l : List (Nat × List Nat)) (h : l.length ≤ 9223372036854775807) : Sl (partsV l) ((l.map castP).map partI) := by
  refine ⟨?_, by simpa using h⟩
  unfold partsV
  by_cases h0 : l = []
  · subst h0; exact .inl ⟨by simp, rfl⟩
  · rw [if_neg h0]; exact .inr ⟨false, by rw [castP_partI]⟩
theorem patch_pg (a b : List Nat) (q : Nat) : ∀ i, pgAt a ((patchTo a b i).map castP) q = if q < i ∧ differ a b q = true then some (pageOf b q) else if q < counted a then some (pageOf a q) else none
  | 0 => by
    simp only [patchTo, List.range_zero, List.filter_nil, List.map_nil, pgAt, List.foldl_nil, Int.toNat_natCast]
    rw [if_neg (show ¬ (q < 0 ∧ differ a b q = true) by omega)]
    by_cases h : q < counted a
    · rw [if_pos h, if_pos (by omega)]
    · rw [if_neg h, if_neg (by omega)]
  | i + 1 => by
    rw [patchTo_succ, List.map_append]
    cases hd : differ a b i with
    | false =>
      simp only [Bool.false_eq_true, if_false, List.map_nil, List.append_nil]
      rw [patch_pg a b q i]
      by_cases hq : q = i
      · subst hq; rw [hd]; simp
      · have : (q < i + 1 ∧ differ a b q = true) = (q < i ∧ differ a b q = true) := propext (by constructor <;> rintro ⟨h1, h2⟩ <;> exact ⟨by omega, h2⟩)
        simp only [this]
    | true =>
      simp only [if_true, List.map_cons, List.map_nil]
      rw [pgAt_snoc, patch_pg a b q i]
      by_cases hq : q = i
      · subst hq
        rw [if_pos (show (castP (q, pageOf b q)).1 = (q : Int) from rfl), if_pos ⟨by omega, hd⟩]; rfl
      · rw [if_neg (show ¬ (castP (i, pageOf b i)).1 = (q : Int) from fun h => hq (by have h' : (i : Int) = (q : Int) := h; omega))]
        have : (q < i + 1 ∧ differ a b q = true) = (q < i ∧ differ a b q = true) := propext (by constructor <;> rintro ⟨h1, h2⟩ <;> exact ⟨by omega, h2⟩)
        simp only [this]
theorem patch_ok' (a b : List Nat) (i : Nat) (hi : i ≤ counted b) : ((patchTo a b i).map castP).all partOk = true := by
  rw [List.all_eq_true]
  intro x hx
  obtain ⟨y, hy, rfl⟩ := List.mem_map.1 hx
  unfold patchTo at hy
  obtain ⟨q, hq, rfl⟩ := List.mem_map.1 hy
  have hq' : q < i := List.mem_range.1 (List.mem_filter.1 hq).1
  have h1 := (counted_le (s := b) (i := q) (by omega)).2
  have h2 : (pageOf b q).length = 32 := pageOf_len (Nat.lt_of_lt_of_le hq' hi)
  have h3 : (0 : Int) ≤ (q : Int) ∧ (q : Int) < 256 := ⟨by omega, by omega⟩
  show (decide ((0 : Int) ≤ (q : Int)) && decide ((q : Int) < 256) && decide ((pageOf b q).length = 32)) = true
  simp [h2, h3]
theorem patch_out (a b : List Nat) (ha : counted a ≠ 0) : ∀ n, n ≤ counted b → outTo a ((patchTo a b (counted b)).map castP) n = some (b.take (n * 32))
  | 0, _ => by simp [outTo]
  | n + 1, h => by
    have hp : pgAt a ((patchTo a b (counted b)).map castP) n = some (pageOf b n) := by
      rw [patch_pg]
      cases hd : differ a b n with
      | true => rw [if_pos ⟨by omega, rfl⟩]
      | false =>
        rw [if_neg (by simp)]
        simp only [differ, (counted_div ha).1] at hd
        have hd' : n < counted a ∧ pageOf a n = pageOf b n := by simpa using hd
        rw [if_pos hd'.1, hd'.2]
    simp only [outTo, patch_out a b ha n (by omega), hp]
    congr 1
    rw [pageOf, lslice, Nat.succ_mul, List.take_add]
/-- a patch, applied -/
theorem patch_apply (a b : List Nat) (ha : counted a ≠ 0) (hb : counted b ≠ 0) : applyV a ((patchTo a b (counted b)).map castP) (counted b : Nat) = .tuple [.str b, .int .i64 0] := by
  have h1 := counted_div hb
  have h2 := patchTo_len a b (counted b)
  rw [applyV, if_neg, if_neg]
  · rw [Int.toNat_natCast, patch_out a b ha _ (Nat.le_refl _)]
    have h3 : b.length % 32 = 0 := by
      unfold counted at hb
      split at hb
      · exact absurd rfl hb
      · rename_i h; omega
    rw [List.take_of_length_le (by omega)]
  · rw [patch_ok' a b _ (Nat.le_refl _)]; simp
  · rw [List.length_map]; omega

/-! ### the law's function -/
abbrev Parts := { x : AV × List (Int × List Nat) // Sl x.1 (x.2.map partI) }
abbrev BStr := { x : List Nat // x.length < 9223372036854775808 ∧ By x }
def L3 : List Ent := [ent1 8 [] (.bool true), entF 9 (fun x : BStr × BStr => [.str x.1.1, .str x.2.1]) fun x => patchV x.1.1 x.2.1, entF 10 (fun x : BStr × BStr => [.str x.1.1, .str x.2.1]) fun x => patchV x.1.1 x.2.1,
  entF 11 (fun x : BStr × Parts × Int => [.str x.1.1, x.2.1.1.1, .int .i64 x.2.2]) fun x => applyV x.1.1 x.2.1.1.2 x.2.2, entF 12 (fun x : BStr × Parts × Int => [.str x.1.1, x.2.1.1.1, .int .i64 x.2.2]) fun x => applyV x.1.1 x.2.1.1.2 x.2.2,
  entF 13 (fun x : Parts × Parts => [x.1.1.1, x.2.1.1]) fun x => .bool (decide (x.1.1.2 = x.2.1.2))]
theorem L3_ok (hw : Abs.Returns Try.prog 8 [] (.bool true)) : ∀ x ∈ L3, ESound Try.prog x :=
  elist_cons (ent1_ok hw) (elist_cons (entF_ok fun x => patch_ok x.1.1 x.2.1 x.1.2.1 x.2.2.1 x.1.2.2 x.2.2.2) (elist_cons (entF_ok fun x => refPatch_ok x.1.1 x.2.1 x.1.2.1 x.2.2.1)
    (elist_cons (entF_ok fun x => apply_ok x.1.1 x.2.1.1.1 x.2.1.1.2 x.2.2 x.1.2.1 x.1.2.2 x.2.1.2) (elist_cons (entF_ok fun x => refApply_ok x.1.1 x.2.1.1.1 x.2.1.1.2 x.2.2 x.1.2.1 x.2.1.2) (elist_cons (entF_ok fun x => sameParts_ok x.1.1.1 x.2.1.1 x.1.1.2 x.2.1.2 x.1.2 x.2.2) elist_nil)))))
theorem partI_inj : ∀ {l m : List (Int × List Nat)}, l.map partI = m.map partI → l = m
  | [], [], _ => rfl
  | [], _ :: _, h => by simp at h
  | _ :: _, [], h => by simp at h
  | (a, p) :: l, (b, q) :: m, h => by
    simp only [List.map_cons, List.cons.injEq, partI, AV.agg.injEq, AV.int.injEq, AV.str.injEq, and_true, true_and] at h
    obtain ⟨⟨rfl, rfl⟩, h⟩ := h
    rw [partI_inj h]
theorem sl_inj {v : AV} {l m : List (Int × List Nat)} (h : Sl v (l.map partI)) (h' : Sl v (m.map partI)) : l = m := by
  rcases h.1 with ⟨rfl, e⟩ | ⟨c, rfl⟩
  · rcases h'.1 with ⟨_, e'⟩ | ⟨c, e'⟩
    · rw [List.map_eq_nil_iff.1 e, List.map_eq_nil_iff.1 e']
    · cases e'
  · rcases h'.1 with ⟨e', _⟩ | ⟨c', e'⟩
    · cases e'
    · injection e' with e' _; exact partI_inj e'
theorem L3_8 (u : Sto) : orcL L3 8 [] u = some (.ret (.bool true) none) := ent1_same
theorem L3_9 (a b : List Nat) (ha : a.length < 9223372036854775808) (hb : b.length < 9223372036854775808) (ba : By a) (bb : By b) (u : Sto) : orcL L3 9 [.str a, .str b] u = some (.ret (patchV a b) none) := by
  rw [L3, ent1_ne (show (8 : Nat) ≠ 9 by decide)]
  refine entF_same (A := fun x : BStr × BStr => [.str x.1.1, .str x.2.1]) ?_ (⟨a, ha, ba⟩, ⟨b, hb, bb⟩)
  rintro ⟨⟨a, _⟩, ⟨b, _⟩⟩ ⟨⟨a', _⟩, ⟨b', _⟩⟩ h
  simp at h; obtain ⟨rfl, rfl⟩ := h; rfl
theorem L3_10 (a b : List Nat) (ha : a.length < 9223372036854775808) (hb : b.length < 9223372036854775808) (ba : By a) (bb : By b) (u : Sto) : orcL L3 10 [.str a, .str b] u = some (.ret (patchV a b) none) := by
  rw [L3, ent1_ne (show (8 : Nat) ≠ 10 by decide), entF_ne (show (9 : Nat) ≠ 10 by decide)]
  refine entF_same (A := fun x : BStr × BStr => [.str x.1.1, .str x.2.1]) ?_ (⟨a, ha, ba⟩, ⟨b, hb, bb⟩)
  rintro ⟨⟨a, _⟩, ⟨b, _⟩⟩ ⟨⟨a', _⟩, ⟨b', _⟩⟩ h
  simp at h; obtain ⟨rfl, rfl⟩ := h; rfl
theorem L3_inj : ∀ i j : BStr × Parts × Int, [AV.str i.1.1, i.2.1.1.1, .int .i64 i.2.2] = [AV.str j.1.1, j.2.1.1.1, .int .i64 j.2.2] → applyV i.1.1 i.2.1.1.2 i.2.2 = applyV j.1.1 j.2.1.1.2 j.2.2 := by
  rintro ⟨⟨a, _⟩, ⟨⟨v, l⟩, hl⟩, m⟩ ⟨⟨b, _⟩, ⟨⟨w, l'⟩, hl'⟩, m'⟩ h
  simp at h
  obtain ⟨rfl, rfl, rfl⟩ := h
  have := sl_inj hl hl'
  simp only at this
  subst this; rfl
theorem L3_11 (a : List Nat) (v : AV) (l : List (Int × List Nat)) (m : Int) (ha : a.length < 9223372036854775808) (ba : By a) (hl : Sl v (l.map partI)) (u : Sto) : orcL L3 11 [.str a, v, .int .i64 m] u = some (.ret (applyV a l m) none) := by
  rw [L3, ent1_ne (show (8 : Nat) ≠ 11 by decide), entF_ne (show (9 : Nat) ≠ 11 by decide), entF_ne (show (10 : Nat) ≠ 11 by decide)]
  exact entF_same (A := fun x : BStr × Parts × Int => [.str x.1.1, x.2.1.1.1, .int .i64 x.2.2]) L3_inj (⟨a, ha, ba⟩, ⟨(v, l), hl⟩, m)
theorem L3_12 (a : List Nat) (v : AV) (l : List (Int × List Nat)) (m : Int) (ha : a.length < 9223372036854775808) (ba : By a) (hl : Sl v (l.map partI)) (u : Sto) : orcL L3 12 [.str a, v, .int .i64 m] u = some (.ret (applyV a l m) none) := by
  rw [L3, ent1_ne (show (8 : Nat) ≠ 12 by decide), entF_ne (show (9 : Nat) ≠ 12 by decide), entF_ne (show (10 : Nat) ≠ 12 by decide), entF_ne (show (11 : Nat) ≠ 12 by decide)]
  exact entF_same (A := fun x : BStr × Parts × Int => [.str x.1.1, x.2.1.1.1, .int .i64 x.2.2]) L3_inj (⟨a, ha, ba⟩, ⟨(v, l), hl⟩, m)
theorem L3_13 (v w : AV) (l m : List (Int × List Nat)) (hl : Sl v (l.map partI)) (hm : Sl w (m.map partI)) (u : Sto) : orcL L3 13 [v, w] u = some (.ret (.bool (decide (l = m))) none) := by
  rw [L3, ent1_ne (show (8 : Nat) ≠ 13 by decide), entF_ne (show (9 : Nat) ≠ 13 by decide), entF_ne (show (10 : Nat) ≠ 13 by decide), entF_ne (show (11 : Nat) ≠ 13 by decide), entF_ne (show (12 : Nat) ≠ 13 by decide)]
  refine entF_same (A := fun x : Parts × Parts => [x.1.1.1, x.2.1.1]) ?_ (⟨(v, l), hl⟩, ⟨(w, m), hm⟩)
  rintro ⟨⟨⟨v, l⟩, h1⟩, ⟨⟨w, m⟩, h2⟩⟩ ⟨⟨⟨v', l'⟩, h1'⟩, ⟨⟨w', m'⟩, h2'⟩⟩ h
  simp at h
  obtain ⟨rfl, rfl⟩ := h
  have e1 := sl_inj h1 h1'
  have e2 := sl_inj h2 h2'
  simp only at e1 e2
  subst e1; subst e2; rfl

set_option maxHeartbeats 2000000 in
theorem patches_ok (hw : Abs.Returns Try.prog 8 [] (.bool true)) (a b : List Nat) (v : AV) (l : List (Int × List Nat)) (m : Int) (ha : a.length < 9223372036854775808) (hb : b.length < 9223372036854775808) (ba : By a) (bb : By b) (hl : Sl v (l.map partI)) (hx : ∀ x ∈ l, x.2.length < 9223372036854775808) : Abs.Returns Try.prog 3 [.str a, .str b, v, .int .i64 m] (.bool true) := by
  refine returns_wk (L := L3) (L3_ok hw) noHint (by kernel_rfl) Try.func3 Try.ntmps3 Try.results3 rfl rfl (und_all_cons und_str (und_all_cons und_str (und_all_cons (und_sl hl (und_partI _)).und (und_all_cons und_int und_all_nil)))) und_bool ?_
  have hll := hl.2
  simp only [List.length_map] at hll
  have hda : (9000 < ((a.length : Nat) : Int)) = (9000 < a.length) := propext (by omega)
  have hdb : (9000 < ((b.length : Nat) : Int)) = (9000 < b.length) := propext (by omega)
  have hdl : (300 < ((l.length : Nat) : Int)) = (300 < l.length) := propext (by omega)
  by_cases h1 : 9000 < a.length
  · simp (config := {contextual := true, decide := true}) only [↓ wpre, ↓ wval, wpost, wint, wlog, wcell, wop, wop2, wdr, wdr2, tf, Nat.reduceAdd, hda, h1, L3_8]
  by_cases h2 : 9000 < b.length
  · simp (config := {contextual := true, decide := true}) only [↓ wpre, ↓ wval, wpost, wint, wlog, wcell, wop, wop2, wdr, wdr2, tf, Nat.reduceAdd, hda, h1, hdb, h2, L3_8]
  by_cases h3 : 300 < l.length
  · simp (config := {contextual := true, decide := true}) only [↓ wpre, ↓ wval, wpost, wint, wlog, wcell, wop, wop2, wdr, wdr2, tf, Nat.reduceAdd, hda, h1, hdb, h2, hdl, h3, hl.len, List.length_map, L3_8]
  simp (config := {contextual := true, decide := true}) only [↓ wpre, ↓ wval, wpost, wint, wlog, wcell, wop, wop2, wdr, wdr2, tf, Nat.reduceAdd, hda, h1, hdb, h2, hdl, h3, hl.len, List.length_map, L3_8]
  refine Wk_loop (fun j e => ∃ t, e = ⟨114, none, 3, t, [], ⟨0, 0, .leaf⟩, .no⟩ ∧ t.val 0 = .str a ∧ t.val 1 = .str b ∧ t.val 2 = v ∧ t.val 3 = .int .i64 m ∧ t.val 9 = .int .i64 (j : Nat) ∧ j ≤ l.length) (fun j => l.length - j) 0
    ⟨_, rfl, by simp (config := {decide := true}) only [↓ wval, wint, wlog], by simp (config := {decide := true}) only [↓ wval, wint, wlog], by simp (config := {decide := true}) only [↓ wval, wint, wlog], by simp (config := {decide := true}) only [↓ wval, wint, wlog], by simp (config := {decide := true}) only [↓ wval, wint, wlog]; rfl, Nat.zero_le _⟩ ?_
  rintro j _ ⟨t, rfl, t0, t1, t2, t3, t9, hj⟩
  by_cases hlt : j < l.length
  · have d1 : (j : Int) < (l.length : Nat) := by omega
    have d3 : (0 : Int) ≤ j := by omega
    have d4 : ((j : Int)).toNat = j := by omega
    have d5 := wrap_succ (i := j) (by omega)
    generalize hxd : l.getD j default = x at *
    obtain ⟨at_, pg⟩ := x
    have c4 : (40 < ((pg.length : Nat) : Int)) = (40 < pg.length) := propext (by omega)
    by_cases c3 : 40 < pg.length
    · simp (config := {contextual := true, decide := true}) only [↓ wpre, ↓ wval, wpost, wint, wlog, wcell, wop, wop2, wdr, wdr2, wloop, wrng, tf, Nat.reduceAdd, hl.len, hl.idx, t0, t1, t2, t9, d1, d3, d4, d5, List.length_map, idxF_map partI_len, partI, wfld, hxd, c3, c4, L3_8, ne_eq]
    · simp (config := {contextual := true, decide := true}) only [↓ wpre, ↓ wval, wpost, wint, wlog, wcell, wop, wop2, wdr, wdr2, wloop, wrng, tf, Nat.reduceAdd, hl.len, hl.idx, t0, t1, t2, t9, d1, d3, d4, d5, List.length_map, idxF_map partI_len, partI, wfld, hxd, c3, c4, L3_8, ne_eq]
      exact ⟨j + 1, by show _ - _ < _ - _; omega, _, rfl, by simp (config := {decide := true}) only [↓ wval, t0], by simp (config := {decide := true}) only [↓ wval, t1], by simp (config := {decide := true}) only [↓ wval, t2], by simp (config := {decide := true}) only [↓ wval, t3], by simp (config := {decide := true}) only [↓ wval], hlt⟩
  · have d1 : ¬ ((j : Nat) : Int) < (l.length : Nat) := by omega
    have q9 := L3_9 a b ha hb ba bb
    have q10 := L3_10 a b ha hb ba bb
    have q11 := L3_11 a v l m ha ba hl
    have q12 := L3_12 a v l m ha ba hl
    obtain ⟨os, oe, hav⟩ : ∃ os oe, applyV a l m = .tuple [.str os, .int .i64 oe] := by
      unfold applyV
      split
      · exact ⟨_, _, rfl⟩
      · split
        · exact ⟨_, _, rfl⟩
        · split <;> exact ⟨_, _, rfl⟩
    rw [hav] at q11 q12
    by_cases h0 : counted a = 0 ∨ counted b = 0
    · have e0 : patchV a b = .tuple [.nils, .int .i64 2] := by rw [patchV, if_pos h0]
      rw [e0] at q9 q10
      have q13 := L3_13 .nils .nils [] [] ⟨.inl ⟨rfl, rfl⟩, Nat.zero_le _⟩ ⟨.inl ⟨rfl, rfl⟩, Nat.zero_le _⟩
      simp (config := {contextual := true, decide := true}) only [↓ wpre, ↓ wval, wpost, wint, wlog, wcell, wop, wop2, wdr, wdr2, wloop, wrng, tf, Nat.reduceAdd, hl.len, List.length_map, t0, t1, t2, t3, t9, d1, q9, q10, q11, q12, q13, L3_8, abin_str_neq, abin_str_eql, Wop_ext, extV_tuple, ne_eq]
    · have hnb : counted b ≠ 0 := by omega
      have e0 : patchV a b = .tuple [partsV (patchTo a b (counted b)), .int .i64 0] := by rw [patchV, if_neg h0]
      rw [e0] at q9 q10
      have hcd := counted_div hnb
      have hsl := parts_sl (patchTo a b (counted b)) (by have := patchTo_len a b (counted b); omega)
      have q13 := L3_13 _ _ _ _ hsl hsl
      have q11' := L3_11 a _ _ (counted b : Nat) ha ba hsl
      rw [patch_apply a b (by omega) hnb] at q11'
      have eb := tdiv32 hb
      rw [hcd.1] at eb
      simp (config := {contextual := true, decide := true}) only [↓ wpre, ↓ wval, wpost, wint, wlog, wcell, wop, wop2, wdr, wdr2, wloop, wrng, tf, Nat.reduceAdd, hl.len, List.length_map, t0, t1, t2, t3, t9, d1, q9, q10, q11, q12, q13, q11', eb, L3_8, abin_str_neq, abin_str_eql, Wop_ext, extV_tuple, ne_eq]

end
end Go.Proofs.Ytajngkkihadgfaa
