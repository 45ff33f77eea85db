/-
  The abstract machine: operations by facts on types that a program's own text gives.
-/
import Derived.Test.YtajngkkihadgfaaGreatEf
set_option linter.unusedVariables false
set_option linter.unusedSimpArgs false
namespace Go.Abs
noncomputable section
variable {P : Program}
def aloadX := @aload
def astoreX := @astore
def tyC (x : Option (Option Nat)) (o : Option AObj) (g off : Nat) (d : Option AV) : Option AV := match x with
  | some x => ldK (some x) o g off
  | none => d
theorem aload_t {s : Sto} {t : TypeId} {id g off : Nat} : aload P s t (.ptr id g off) = tyC (tyK P t) (s.get id) g off (aloadX P s t (.ptr id g off)) := by
  cases h : tyK P t with
  | none => rfl
  | some x => rw [aload_ptr h]; rfl
def stC (x : Option (Option Nat)) (s : Sto) (id g off : Nat) (v : AV) (o : Option AObj) (d : Option Sto) : Option Sto := match x with
  | some x => stK s (some x) id g off v o
  | none => d
theorem astore_t {s : Sto} {t : TypeId} {id g off : Nat} {v : AV} : astore P s t (.ptr id g off) v = stC (tyK P t) s id g off v (s.get id) (astoreX P s t (.ptr id g off) v) := by
  cases h : tyK P t with
  | none => rfl
  | some x => rw [astore_ptr h]; rfl
def pfC (x : Option (Option Nat)) (v : AV) (d : Option AV) : Option AV := match x with
  | some none => bif v.isCell then some v else none
  | some (some k) => (match v with
    | .agg cs => bif Nat.beq cs.length k then some (.agg cs) else none
    | _ => none)
  | none => d
theorem aload_tpf {s : Sto} {t : TypeId} {v : AV} : aload P s t (.pf v) = pfC (tyK P t) v (aloadX P s t (.pf v)) := by
  cases h : tyK P t with
  | none => rfl
  | some x =>
    obtain ⟨h1, h2⟩ := tyK_sz h
    cases x with
    | none => simp only [aload, h1, h2, pfC, szK, Option.isSome]
    | some k =>
      simp only [aload, h1, h2, pfC, szK, Option.isSome]
      cases v <;> rfl
theorem pfC_one {v : AV} {d : Option AV} (h : v.isCell = true) : pfC (some none) v d = some v := by simp [pfC, h]
theorem pfC_agg {cs : List AV} {k : Nat} {d : Option AV} (h : cs.length = k) : pfC (some (some k)) (.agg cs) d = some (.agg cs) := by simp [pfC, h]
def afieldAddrX := @afieldAddr
def afieldX := @afield
def fldC (x : Option (Nat × Option Nat)) (id g o : Nat) (d : Option AV) : Option AV := match x with
  | some (off, _) => some (.ptr id g (o + off))
  | none => d
theorem afieldAddr_t {t : TypeId} {id g o f : Nat} : afieldAddr P t (.ptr id g o) f = fldC (fldK P t f) id g o (afieldAddrX P t (.ptr id g o) f) := by
  cases h : fldK P t f with
  | none => rfl
  | some x => obtain ⟨off, y⟩ := x; rw [afieldAddr_ptr h]; rfl
def fldV (x : Option (Nat × Option Nat)) (cs : List AV) (d : Option AV) : Option AV := match x with
  | some (off, y) => ptK y cs off
  | none => d
theorem afield_t {t : TypeId} {cs : List AV} {f : Nat} : afield P t (.agg cs) f = fldV (fldK P t f) cs (afieldX P t (.agg cs) f) := by
  cases h : fldK P t f with
  | none => rfl
  | some x => obtain ⟨off, y⟩ := x; rw [afield_agg h]; rfl
theorem ptK_agg {cs : List AV} {off n : Nat} (h : off + n ≤ cs.length) : ptK (some n) cs off = some (.agg (lslice cs off n)) := by
  have : Nat.ble (off + n) cs.length = true := by simpa using h
  simp [ptK, this]
def fldP (x : Option (Nat × Option Nat)) (cs : List AV) (d : Option AV) : Option AV := match x with
  | some (off, none) => (match cs[off]? with
    | some v => bif v.isCell then some (.pf v) else none
    | none => none)
  | some (off, some n) => bif Nat.ble (off + n) cs.length then some (.pf (.agg (lslice cs off n))) else none
  | none => d
theorem afieldAddr_tpf {t : TypeId} {cs : List AV} {f : Nat} : afieldAddr P t (.pf (.agg cs)) f = fldP (fldK P t f) cs (afieldAddrX P t (.pf (.agg cs)) f) := by
  cases h : fldK P t f with
  | none => rfl
  | some x =>
    obtain ⟨off, y⟩ := x
    unfold fldK at h
    split at h
    · rename_i fields hu
      split at h
      · rename_i fd hfd
        split at h
        · rename_i z hz
          split at h
          · cases h
          · rename_i hne
            simp only [Option.some.injEq, Prod.mk.injEq] at h
            obtain ⟨rfl, rfl⟩ := h
            obtain ⟨h1, h2⟩ := tyK_sz hz
            have : ∃ m, szK z = m + 1 := by
              cases z with
              | none => exact ⟨0, rfl⟩
              | some n => cases n with
                | zero => exact absurd rfl hne
                | succ m => exact ⟨m, rfl⟩
            obtain ⟨m, hm⟩ := this
            rw [hm] at h1
            cases z with
            | none =>
              have h2' : tagg P fd.type = some false := h2
              simp only [afieldAddr, hu, hfd, h1, apfPart, apart_ptK hz, ptK, h2', fldP]
              cases cs[fd.offset]? <;> rfl
            | some n =>
              have h2' : tagg P fd.type = some true := h2
              simp only [afieldAddr, hu, hfd, h1, apfPart, apart_ptK hz, ptK, h2', fldP]
              cases Nat.ble (fd.offset + n) cs.length <;> rfl
        · cases h
      · cases h
    · cases h
theorem fldP_one {off : Nat} {cs : List AV} {d : Option AV} {v : AV} (h : cs[off]? = some v) (hc : v.isCell = true) : fldP (some (off, none)) cs d = some (.pf v) := by simp [fldP, h, hc]
def lenK (P : Program) (t : TypeId) : Option Nat := match P.underlying t with
  | some .string => some 0
  | some (.slice _) => some 1
  | some (.map _ _) => some 2
  | some (.array n _) => some (3 + n)
  | _ => none
def abuiltinX := @abuiltin
def lenC (x : Option Nat) (s : Sto) (v : AV) (d : Option ORes) : Option ORes := match x with
  | some 0 => (match v with
    | .str l => some (.val (.int .i64 (l.length : Nat)))
    | _ => none)
  | some 1 => (match v with
    | .str _ => none
    | v => (match alen v with
      | some n => some (.val (.int .i64 (n : Nat)))
      | none => none))
  | some 2 => (match v with
    | .nilm => some (.val (.int .i64 0))
    | .map id => (match s.get id with
      | some (.map es _) => some (.val (.int .i64 (es.length : Nat)))
      | _ => none)
    | _ => none)
  | some (n + 3) => some (.val (.int .i64 (n : Nat)))
  | none => d
theorem alen_t {s : Sto} {t : TypeId} {v : AV} : abuiltin P s .len [t].toArray [v] = lenC (lenK P t) s v (abuiltinX P s .len [t].toArray [v]) := by
  have h0 : ([t].toArray)[0]? = some t := rfl
  cases h : lenK P t with
  | none => rfl
  | some x =>
    unfold lenK at h
    simp only [abuiltin, h0]
    cases hu : P.underlying t with
    | none => rw [hu] at h; cases h
    | some d =>
      rw [hu] at h
      cases d with
      | string => simp only [Option.some.injEq] at h; subst h; cases v <;> rfl
      | slice e => simp only [Option.some.injEq] at h; subst h; cases v <;> rfl
      | map k e => simp only [Option.some.injEq] at h; subst h; cases v <;> rfl
      | array n e =>
        simp only [Option.some.injEq] at h
        subst h
        rw [show 3 + n = n + 3 by omega]
        cases v <;> rfl
      | _ => cases h
theorem aidx_at {k : IntKind} {i : Int} {n : Nat} (h0 : 0 ≤ i) (h1 : i < n) : aidx (.int k i) n = some i.toNat := by
  obtain ⟨m, rfl⟩ := Int.eq_ofNat_of_zero_le h0
  have : Nat.blt m n = true := by simp; omega
  show (bif Nat.blt m n then some m else none) = _
  rw [this]; rfl
theorem abnd_nil {d n : Nat} : abnd none d n = some d := rfl
theorem abnd_at {k : IntKind} {i : Int} {d n : Nat} (h0 : 0 ≤ i) (h1 : i ≤ n) : abnd (some (.int k i)) d n = some i.toNat := by
  obtain ⟨m, rfl⟩ := Int.eq_ofNat_of_zero_le h0
  have : Nat.ble m n = true := by simp; omega
  show (bif Nat.ble m n then some m else none) = _
  rw [this]; rfl
def aindexX := @aindex
def aindexAddrX := @aindexAddr
def idxS (x : Option Nat) (l : List Nat) (v : AV) (d : Option AV) : Option AV := match x with
  | some 0 => (match aidx v l.length with
    | some i => some (.int .u8 ((l.getD i 0 : Nat) : Int))
    | none => none)
  | _ => d
theorem aindex_t {t : TypeId} {l : List Nat} {v : AV} : aindex P t (.str l) v = idxS (lenK P t) l v (aindexX P t (.str l) v) := by
  unfold lenK
  cases hu : P.underlying t with
  | none => rfl
  | some d =>
    cases d <;> try rfl
    rotate_left
    · show _ = idxS (some (3 + _)) l v _
      rw [Nat.add_comm 3]
      rfl
    simp only [aindex, hu, idxS]
    cases hi : aidx v l.length with
    | none => rfl
    | some i =>
      simp only
      have : i < l.length := by
        unfold aidx at hi
        split at hi
        · rename_i j
          cases hb : Nat.blt j l.length with
          | true => rw [hb] at hi; simp at hi; subst hi; simpa using hb
          | false => rw [hb] at hi; cases hi
        · cases hi
      rw [List.getElem?_eq_getElem this]
      simp [List.getD_eq_getElem?_getD, this]
theorem idxS_ok {l : List Nat} {k : IntKind} {i : Int} {d : Option AV} (h0 : 0 ≤ i) (h1 : i < l.length) : idxS (some 0) l (.int k i) d = some (.int .u8 ((l.getD i.toNat 0 : Nat) : Int)) := by
  simp only [idxS, aidx_at h0 h1]
def idxF (x : Option Nat) (l : List AV) (v : AV) (d : Option AV) : Option AV := match x with
  | some k => (match aidx v l.length with
    | some i => (match l[i]? with
      | some a => bif Nat.beq a.cells.length k then some (.pf a) else none
      | none => none)
    | none => none)
  | none => d
theorem aindexAddr_tfz {t : TypeId} {l : List AV} {c : Bool} {v : AV} : aindexAddr P t (.fz l c) v = idxF (elK P t) l v (aindexAddrX P t (.fz l c) v) := by
  cases h : elK P t with
  | none => rfl
  | some k =>
    unfold elK at h
    split at h
    · rename_i e hu
      simp only [aindexAddr, hu, h, idxF]
      cases aidx v l.length <;> rfl
    · cases h
theorem idxF_ok {k : Nat} {l : List AV} {q : IntKind} {i : Int} {d : Option AV} {a : AV} (h0 : 0 ≤ i) (h1 : i < l.length) (ha : l[i.toNat]? = some a) (hk : a.cells.length = k) : idxF (some k) l (.int q i) d = some (.pf a) := by
  have : Nat.beq a.cells.length k = true := by rw [hk]; exact Nat.beq_refl k
  simp only [idxF, aidx_at h0 h1, ha, this, cond_true]
def idxA (x : Option Nat) (id g off len : Nat) (v : AV) (d : Option AV) : Option AV := match x with
  | some k => (match aidx v len with
    | some i => some (.ptr id g (off + i * k))
    | none => none)
  | none => d
theorem aindexAddr_tsl {t : TypeId} {id g off len : Nat} {c : ACap} {v : AV} : aindexAddr P t (.sl id g off len c) v = idxA (elK P t) id g off len v (aindexAddrX P t (.sl id g off len c) v) := by
  cases h : elK P t with
  | none => rfl
  | some k =>
    unfold elK at h
    split at h
    · rename_i e hu
      simp only [aindexAddr, hu, h, idxA]
      cases aidx v len <;> rfl
    · cases h
theorem idxA_ok {k id g off len : Nat} {q : IntKind} {i : Int} {d : Option AV} (h0 : 0 ≤ i) (h1 : i < len) : idxA (some k) id g off len (.int q i) d = some (.ptr id g (off + i.toNat * k)) := by
  simp only [idxA, aidx_at h0 h1]
def idxR (x : Option (Nat × Option Nat)) (id g off : Nat) (v : AV) (d : Option AV) : Option AV := match x with
  | some (n, k) => (match aidx v n with
    | some i => some (.ptr id g (off + i * szK k))
    | none => none)
  | none => d
theorem aindexAddr_tptr {t : TypeId} {id g off : Nat} {v : AV} : aindexAddr P t (.ptr id g off) v = idxR (arK P t) id g off v (aindexAddrX P t (.ptr id g off) v) := by
  cases h : arK P t with
  | none => rfl
  | some x =>
    obtain ⟨n, k⟩ := x
    unfold arK at h
    split at h
    · rename_i m e hu
      cases ht : tyK P e with
      | none => rw [ht] at h; cases h
      | some y =>
        rw [ht] at h
        simp only [Option.map_some, Option.some.injEq, Prod.mk.injEq] at h
        obtain ⟨rfl, rfl⟩ := h
        obtain ⟨h1, h2⟩ := tyK_sz ht
        simp only [aindexAddr, hu, h1, idxR]
        cases aidx v m <;> rfl
    · cases h
theorem idxR_ok {n id g off : Nat} {k : Option Nat} {q : IntKind} {i : Int} {d : Option AV} (h0 : 0 ≤ i) (h1 : i < n) : idxR (some (n, k)) id g off (.int q i) d = some (.ptr id g (off + i.toNat * szK k)) := by
  simp only [idxR, aidx_at h0 h1]
def asliceX := @aslice
def slcS (x : Option Nat) (l : List Nat) (lo hi : Option AV) (d : Option AV) : Option AV := match x with
  | some 0 => (match abnd hi l.length l.length with
    | some h => (match abnd lo 0 h with
      | some i => some (.str (lslice l i (h - i)))
      | none => none)
    | none => none)
  | _ => d
theorem aslice_tstr {t : TypeId} {l : List Nat} {lo hi : Option AV} : aslice P t (.str l) lo hi none = slcS (lenK P t) l lo hi (asliceX P t (.str l) lo hi none) := by
  unfold lenK
  cases hu : P.underlying t with
  | none => rfl
  | some d =>
    cases d <;> try rfl
    rotate_left
    · show _ = slcS (some (3 + _)) l lo hi _
      rw [Nat.add_comm 3]
      rfl
    simp only [aslice, hu, slcS]
    cases abnd hi l.length l.length with
    | none => rfl
    | some h => cases abnd lo 0 h <;> rfl
theorem slcS_both {l : List Nat} {j k : IntKind} {a b : Int} {d : Option AV} (h0 : 0 ≤ a) (h1 : a ≤ b) (h2 : b ≤ l.length) : slcS (some 0) l (some (.int j a)) (some (.int k b)) d = some (.str (lslice l a.toNat (b.toNat - a.toNat))) := by
  simp only [slcS, abnd_at (show 0 ≤ b by omega) h2, abnd_at h0 (show a ≤ (b.toNat : Int) by omega)]
theorem slcS_lo {l : List Nat} {j : IntKind} {a : Int} {d : Option AV} (h0 : 0 ≤ a) (h1 : a ≤ l.length) : slcS (some 0) l (some (.int j a)) none d = some (.str (l.drop a.toNat)) := by
  simp only [slcS, abnd_nil, abnd_at h0 h1]
  simp only [lslice]
  rw [List.take_of_length_le (by simp)]
theorem slcS_hi {l : List Nat} {k : IntKind} {b : Int} {d : Option AV} (h0 : 0 ≤ b) (h2 : b ≤ l.length) : slcS (some 0) l none (some (.int k b)) d = some (.str (l.take b.toNat)) := by
  simp only [slcS, abnd_at h0 h2, abnd_nil, lslice, List.drop_zero, Nat.sub_zero]
def slcC (x : Option Nat) (v : AV) (lo hi mx : Option AV) (d : Option AV) : Option AV := match x with
  | some k => asliceS k v lo hi mx
  | none => d
theorem aslice_tsl {t : TypeId} {id g off len : Nat} {c : ACap} {lo hi mx : Option AV} : aslice P t (.sl id g off len c) lo hi mx = slcC (elK P t) (.sl id g off len c) lo hi mx (asliceX P t (.sl id g off len c) lo hi mx) := by
  cases h : elK P t with
  | none => rfl
  | some k =>
    unfold elK at h
    split at h
    · rename_i e hu; simp only [aslice, hu, h, slcC]
    · cases h
inductive CvK where
  | int (k : IntKind)
  | str
  | bytes
  | ofBytes
def cvK (P : Program) (src dst : TypeId) : Option CvK := match P.underlying src, P.underlying dst with
  | some (.int _), some (.int k) => some (.int k)
  | some .string, some .string => some .str
  | some .string, some (.slice e) => (match P.underlying e with
    | some (.int .u8) => some .bytes
    | _ => none)
  | some (.slice e), some .string => (match P.underlying e with
    | some (.int .u8) => some .ofBytes
    | _ => none)
  | _, _ => none
def aconvX := @aconv
def cvC (x : Option CvK) (s : Sto) (v : AV) (d : Option ORes) : Option ORes := match x, v with
  | some (.int k), .int _ n => some (.val (.int k (k.wrap n)))
  | some .str, .str l => some (.val (.str l))
  | some .bytes, .str l => some (.val' (.sl s.n 0 0 l.length (.room 1)) (s.push (ob (toBytes l))))
  | some .ofBytes, .str l => some (.val (.str l))
  | some .ofBytes, v => (match alen v with
    | some n => (match afirst s 1 n v with
      | some l => (match Go.Abs.ofBytes l with
        | some b => some (.val (.str b))
        | none => none)
      | none => none)
    | none => none)
  | _, _ => d
theorem toBytes_cell (l : List Nat) : (toBytes l).all AV.isCell = true := by simp [toBytes, AV.isCell]
theorem aconv_t {s : Sto} {src dst : TypeId} {v : AV} : aconv P s src dst v = cvC (cvK P src dst) s v (aconvX P s src dst v) := by
  cases h : cvK P src dst with
  | none => cases v <;> rfl
  | some x =>
    unfold cvK at h
    split at h
    · rename_i k0 k h1 h2
      cases h
      cases v <;> first | rfl | (simp only [aconv, h1, h2, cvC, mkInt_eq])
    · rename_i h1 h2
      cases h
      cases v <;> first | rfl | (simp only [aconv, h1, h2, cvC])
    · rename_i e h1 h2
      split at h
      · rename_i h3
        cases h
        cases v <;> first | rfl | (simp only [aconv, h1, h2, h3, cvC, anew_ok, toBytes_cell, if_true])
      · cases h
    · rename_i e h1 h2
      split at h
      · rename_i h3
        cases h
        cases v <;> first | rfl | (simp only [aconv, h1, h2, h3, alen, cvC]; done) | (simp only [aconv, h1, h2, h3, alen, cvC]; rfl) | (simp only [aconv, h1, h2, h3, alen, cvC]; generalize afirst s 1 _ _ = q; cases q with | none => rfl | some l => rfl)
      · cases h
    · cases h
end
end Go.Abs
