/-
  The abstract machine: slices, comparisons, arithmetic.
-/
import Derived.Test.YtglnkngifepmhaaGreatUe
import Derived.Lib.Slices
set_option linter.unusedVariables false
set_option linter.unusedSimpArgs false

namespace Go.Abs

section
variable {P : Program} {σ : Sg} {S : Sto} {w : World}

def VRo (σ : Sg) : Option AV → Option Value → Prop
  | none, none => True
  | some a, some A => VR σ a A
  | _, _ => False
theorem VRo.map {α : Type} (f : α → AV) (F : α → Value) (x : Option α) (h : ∀ a, VR σ (f a) (F a)) : VRo σ (x.map f) (x.map F) := by
  cases x with
  | none => trivial
  | some a => exact h a

theorem abnd_some {x : AV} {X : Value} {d most n : Nat} (h : abnd (some x) d most = some n) (hx : VR σ x X) : ∃ k, X = .int k (n : Int) ∧ n ≤ most := by
  unfold abnd at h
  split at h
  · rename_i hh; cases hh
  · rename_i k i he
    rw [bif_ble] at h
    split at h
    · rename_i hle
      simp at h; subst h
      obtain rfl := Option.some.inj he
      cases hx with
      | int => exact ⟨_, rfl, hle⟩
    · simp at h
  · simp at h
theorem sliceBound_run (k : IntKind) (n y : Nat) (code : BoundsCode) (h : n ≤ y) (w : World) : (Instr.sliceBound (.int k (n : Int)) y code).run P w = .ok n w := by
  have : (0 : Int) ≤ (n : Int) ∧ (n : Int) ≤ (y : Int) := by omega
  simp [Instr.sliceBound, asIntOf, h]

theorem abnd_none {d most n : Nat} (h : abnd none d most = some n) : n = d := by simp [abnd] at h; exact h.symm

theorem sb_none {isS : Bool} {len cap most h l : Nat} {lo hi : Option AV} {LO HI : Option Value} (hh : abnd hi len most = some h) (hl : abnd lo 0 h = some l) (hm : most ≤ cap)
    (h1 : VRo σ hi HI) (h2 : VRo σ lo LO) (w : World) : (Instr.sliceBounds isS len cap LO HI none).run P w = .ok (l, h, cap) w ∧ l ≤ h ∧ (h ≤ most ∨ h = len) := by
  cases hi with
  | none =>
    cases HI with
    | some V => exact h1.elim
    | none =>
      obtain rfl := abnd_none hh
      cases lo with
      | none =>
        cases LO with
        | some V => exact h2.elim
        | none => obtain rfl := abnd_none hl; exact ⟨by simp [Instr.sliceBounds], Nat.zero_le _, .inr rfl⟩
      | some x =>
        cases LO with
        | none => exact h2.elim
        | some V =>
          obtain ⟨k, rfl, hle⟩ := abnd_some hl h2
          exact ⟨by simp [Instr.sliceBounds, sliceBound_run _ _ _ _ hle], hle, .inr rfl⟩
  | some y =>
    cases HI with
    | none => exact h1.elim
    | some Y =>
      obtain ⟨ky, rfl, hly⟩ := abnd_some hh h1
      have hlc : h ≤ cap := by omega
      cases lo with
      | none =>
        cases LO with
        | some V => exact h2.elim
        | none => obtain rfl := abnd_none hl; exact ⟨by simp [Instr.sliceBounds, sliceBound_run _ _ _ _ hlc], Nat.zero_le _, .inl hly⟩
      | some x =>
        cases LO with
        | none => exact h2.elim
        | some V =>
          obtain ⟨k, rfl, hle⟩ := abnd_some hl h2
          exact ⟨by simp [Instr.sliceBounds, sliceBound_run _ _ _ _ hle, sliceBound_run _ _ _ _ hlc], hle, .inl hly⟩

theorem sb_some {isS : Bool} {len cap most h l c : Nat} {m hv : AV} {lo : Option AV} {M HV : Value} {LO : Option Value} (hm : abnd (some m) 0 most = some c) (hh : abnd (some hv) 0 c = some h) (hl : abnd lo 0 h = some l)
    (hc : most ≤ cap) (h0 : VR σ m M) (h1 : VR σ hv HV) (h2 : VRo σ lo LO) (w : World) : (Instr.sliceBounds isS len cap LO (some HV) (some M)).run P w = .ok (l, h, c) w ∧ l ≤ h ∧ h ≤ c ∧ c ≤ most := by
  obtain ⟨km, rfl, hcm⟩ := abnd_some hm h0
  obtain ⟨kh, rfl, hhc⟩ := abnd_some hh h1
  have hcc : c ≤ cap := by omega
  cases lo with
  | none =>
    cases LO with
    | some V => exact h2.elim
    | none => obtain rfl := abnd_none hl; exact ⟨by simp [Instr.sliceBounds, sliceBound_run _ _ _ _ hcc, sliceBound_run _ _ _ _ hhc], Nat.zero_le _, hhc, hcm⟩
  | some x =>
    cases LO with
    | none => exact h2.elim
    | some V =>
      obtain ⟨k, rfl, hle⟩ := abnd_some hl h2
      exact ⟨by simp [Instr.sliceBounds, sliceBound_run _ _ _ _ hle, sliceBound_run _ _ _ _ hcc, sliceBound_run _ _ _ _ hhc], hle, hhc, hcm⟩

theorem ofBytesStr {l : List Nat} {V : Value} (h : VR σ (.str l) V) : ∃ bs : ByteArray, V = .string bs ∧ bs.data.toList.map (·.toNat) = l := by
  cases h with
  | str _ bs hs => exact ⟨bs, rfl, hs⟩
theorem str_size {bs : ByteArray} {l : List Nat} (h : bs.data.toList.map (·.toNat) = l) : bs.size = l.length := by
  rw [← h, List.length_map, Array.length_toList]; rfl

theorem sliceAt_slice {t e : TypeId} {k : Nat} (hu : P.underlying t = some (.slice e)) (hk : tsz P e = some k) {a : Option Addr} {len cap : Nat} {LO HI MX : Option Value} {l h m : Nat}
    (hb : (Instr.sliceBounds true len cap LO HI MX).run P w = .ok (l, h, m) w) :
    (Instr.sliceAt t (.slice a len cap) LO HI MX).run P w = .ok (.slice (if m = l then a else a.map (·.add (l * k))) (h - l) (m - l)) w := by
  simp only [Instr.sliceAt, Instr.slice, Sem.run_bind, run_underlying_of hu, Result.andThen_ok, hb, run_sizeOf_of hk, Sem.run_pure]

theorem VR.fz_slice {k : Nat} {xs : List AV} {clip clip' : Bool} {X : Value} {l h m : Nat} (hx : VR σ (.fz xs clip) X) (hall : xs.all (fun v => Nat.beq v.cells.length k) = true) (hlh : l ≤ h) (hh : h ≤ xs.length) :
    ∃ a C, X = .slice (some a) xs.length C ∧ xs.length ≤ C ∧ (clip = true → C = xs.length) ∧ (h ≤ m → (clip' = true → m = h) → VR σ (.fz (lslice xs l (h - l)) clip') (.slice (if m = l then some a else (some a).map (·.add (l * k))) (h - l) (m - l))) := by
  cases hx with
  | fz _ _ a C b o k' h1 h2 h3 h4 h5 h6 =>
    refine ⟨a, C, rfl, h2, h3, fun hm hc => ?_⟩
    have hlen : (lslice xs l (h - l)).length = h - l := by simp [lslice]; omega
    have hget : ∀ (i : Nat) x, (lslice xs l (h - l))[i]? = some x → xs[l + i]? = some x ∧ i < h - l := by
      intro i x hi
      have hi' : i < h - l := by
        rcases Nat.lt_or_ge i (h - l) with h' | h'
        · exact h'
        · rw [List.getElem?_eq_none (by omega)] at hi; cases hi
      rw [lslice, List.getElem?_take, if_pos hi', List.getElem?_drop] at hi
      exact ⟨hi, hi'⟩
    by_cases h0 : h - l = 0
    · have hnil : lslice xs l (h - l) = [] := List.eq_nil_of_length_eq_zero (by omega)
      rw [hnil, h0]
      have key : ∀ q : Addr, VR σ (.fz [] clip') (.slice (some q) 0 (m - l)) := fun q => .fz [] clip' q _ 0 0 0 (by simp) (by simp) (fun hcl => by have := hc hcl; simp; omega) (by simp) (by simp) (by simp)
      split
      · exact key a
      · exact key _
    · have hkk : k' = k := by
        have : ∃ x, x ∈ xs := ⟨xs[l]'(by omega), List.getElem_mem _⟩
        obtain ⟨x, hx⟩ := this
        have e1 := h4 x hx
        have e2 := List.all_eq_true.1 hall x hx
        rw [Nat.beq_eq] at e2
        omega
      subst hkk
      have ha := h1 (by omega)
      subst ha
      rw [if_neg (by omega)]
      have := VR.fz (σ := σ) (lslice xs l (h - l)) clip' ⟨b, o + l * k', none⟩ (m - l) b (o + l * k') k' (fun _ => rfl) (by omega) (fun hcl => by have := hc hcl; omega)
        (fun x hx => h4 x (List.mem_of_mem_drop (List.mem_of_mem_take hx)))
        (fun i j x c V hx hcx hV => h5 (l + i) j x c V (hget i x hx).1 hcx (by rw [Nat.add_mul, ← Nat.add_assoc]; exact hV))
        (fun i j hi hj => by
          have := h6 (l + i) j (by omega) hj
          rw [Nat.add_mul, ← Nat.add_assoc] at this; exact this)
      rw [hlen] at this
      simpa [addr_add] using this

theorem asliceS_ok {t e : TypeId} {k : Nat} (hu : P.underlying t = some (.slice e)) (hk : tsz P e = some k) {x v : AV} {lo hi mx : Option AV} {X : Value} {LO HI MX : Option Value} (h : asliceS k x lo hi mx = some v) (hx : VR σ x X)
    (hlo : VRo σ lo LO) (hhi : VRo σ hi HI) (hmx : VRo σ mx MX) : ∃ V, (∀ w, (Instr.sliceAt t X LO HI MX).run P w = .ok V w) ∧ VR σ v V := by
  unfold asliceS at h
  split at h
  · -- nils
    cases MX with
    | some _ => exact hmx.elim
    | none =>
      split at h
      · rename_i hh e1
        split at h
        · rename_i ll e2
          simp at h; subst h
          cases hx with
          | nils =>
            refine ⟨.slice none 0 0, fun w => ?_, .nils⟩
            obtain ⟨h3, h4, h5⟩ := sb_none (P := P) (isS := true) (cap := 0) e1 e2 (Nat.le_refl _) hhi hlo w
            have hh0 : hh = 0 := by omega
            have hl0 : ll = 0 := by omega
            subst hh0; subst hl0
            rw [sliceAt_slice hu hk h3]; rfl
        · simp at h
      · simp at h
  · cases MX with
    | none => exact hmx.elim
    | some M =>
      split at h
      · rename_i c hv e1
        cases HI with
        | none => exact hhi.elim
        | some HV =>
          split at h
          · rename_i hh e3
            split at h
            · rename_i ll e2
              simp at h; subst h
              cases hx with
              | nils =>
                refine ⟨.slice none 0 0, fun w => ?_, .nils⟩
                obtain ⟨h3, h4, h5, h6⟩ := sb_some (P := P) (isS := true) (len := 0) (cap := 0) e1 e3 e2 (Nat.le_refl _) hmx hhi hlo w
                obtain ⟨rfl, rfl, rfl⟩ : c = 0 ∧ hh = 0 ∧ ll = 0 := by omega
                rw [sliceAt_slice hu hk h3]; rfl
            · simp at h
          · simp at h
      · simp at h
  · rename_i xs c
    cases MX with
    | some _ => exact hmx.elim
    | none =>
      split at h
      · rename_i hh e1
        split at h
        · rename_i ll e2
          cases hall : xs.all (fun v => Nat.beq v.cells.length k) with
          | false => simp [hall] at h
          | true =>
            simp only [hall, cond_true, Option.some.injEq] at h; subst h
            have hb := fun (C : Nat) (hC : xs.length ≤ C) (w : World) => sb_none (P := P) (isS := true) (cap := C) e1 e2 hC hhi hlo w
            have hh1 := hb xs.length (Nat.le_refl _) default
            have hhl : hh ≤ xs.length := by omega
            obtain ⟨a, C, rfl, h2, h3, h4⟩ := VR.fz_slice (m := (match X with | .slice _ _ C => C | _ => 0)) (clip' := c && Nat.beq hh xs.length) hx hall hh1.2.1 hhl
            refine ⟨_, fun w => sliceAt_slice hu hk (hb C h2 w).1, h4 (by show hh ≤ C; omega) (fun hc => ?_)⟩
            simp only [Bool.and_eq_true, Nat.beq_eq] at hc
            show C = hh
            rw [h3 hc.1, hc.2]
        · simp at h
      · simp at h
  · rename_i xs c0 m
    cases MX with
    | none => exact hmx.elim
    | some M =>
      split at h
      · rename_i c hv e1
        cases HI with
        | none => exact hhi.elim
        | some HV =>
          split at h
          · rename_i hh e3
            split at h
            · rename_i ll e2
              cases hall : xs.all (fun v => Nat.beq v.cells.length k) with
              | false => simp [hall] at h
              | true =>
                simp only [hall, cond_true, Option.some.injEq] at h; subst h
                have hb := fun (C : Nat) (hC : xs.length ≤ C) (w : World) => sb_some (P := P) (isS := true) (len := xs.length) (cap := C) e1 e3 e2 hC hmx hhi hlo w
                obtain ⟨_, q1, q2, q3⟩ := hb xs.length (Nat.le_refl _) default
                obtain ⟨a, C, rfl, h2, h3, h4⟩ := VR.fz_slice (m := c) (clip' := Nat.beq hh c) hx hall q1 (by omega)
                exact ⟨_, fun w => sliceAt_slice hu hk (hb C h2 w).1, h4 q2 (fun hc => (Nat.eq_of_beq_eq_true hc).symm)⟩
            · simp at h
          · simp at h
      · simp at h
  · rename_i id g off len c
    cases MX with
    | some _ => exact hmx.elim
    | none =>
      split at h
      · rename_i hh e1
        split at h
        · rename_i ll e2
          simp only [Option.some.injEq] at h
          cases hx with
          | sl _ _ _ _ _ b base sz C hs hl hc =>
            have hC : C = c := hc
            subst hC
            have hb := fun (w : World) => sb_none (P := P) (isS := true) (cap := C) e1 e2 (Nat.le_refl _) hhi hlo w
            obtain ⟨_, q1, q2⟩ := hb default
            refine ⟨_, fun w => sliceAt_slice hu hk (hb w).1, ?_⟩
            rw [bif_beq] at h
            split at h
            · rename_i he; subst h
              rw [if_pos he]
              exact .sl _ _ _ _ _ _ _ _ _ hs (by omega) rfl
            · rename_i he; subst h
              rw [if_neg he]
              simp only [Option.map_some, addr_add, Nat.add_assoc]
              exact .sl _ _ _ _ _ _ _ _ _ hs (by omega) rfl
        · simp at h
      · simp at h
  · rename_i id g off len r
    cases MX with
    | some _ => exact hmx.elim
    | none =>
      split at h
      · rename_i hh e1
        split at h
        · rename_i ll e2
          rw [bif_beq] at h
          split at h
          · rename_i hkr; subst hkr
            cases hx with
            | sl _ _ _ _ _ b base sz C hs hl hc =>
              have hb := fun (w : World) => sb_none (P := P) (isS := true) (cap := C) e1 e2 hl hhi hlo w
              obtain ⟨_, q1, q2⟩ := hb default
              refine ⟨_, fun w => sliceAt_slice hu hk (hb w).1, ?_⟩
              have hroom : base + off + C * k ≤ sz := hc
              rw [bif_blt] at h
              split at h
              · rename_i hlt
                simp at h; subst h
                rw [if_neg (by omega)]
                simp only [Option.map_some, addr_add, Nat.add_assoc]
                refine .sl _ _ _ _ _ _ _ _ _ hs (by omega) (capOk_roomTo ?_ (by omega))
                have : (C - ll) * k + ll * k = C * k := by rw [← Nat.add_mul]; congr 1; omega
                omega
              · rename_i hge
                simp at h; subst h
                have h0 : hh - ll = 0 := by omega
                rw [h0]
                have key : ∀ q : Addr, VR σ (.fz [] false) (.slice (some q) 0 (C - ll)) := fun q => .fz [] false q _ 0 0 0 (by simp) (by simp) (by simp) (by simp) (by simp) (by simp)
                split
                · exact key _
                · exact key _
          · simp at h
        · simp at h
      · simp at h
  · rename_i id g off len r c
    cases MX with
    | some _ => exact hmx.elim
    | none =>
      split at h
      · rename_i hh e1
        split at h
        · rename_i ll e2
          rw [bif_beq] at h
          split at h
          · rename_i hkr; subst hkr
            cases hx with
            | sl _ _ _ _ _ b base sz C hs hl hc =>
              obtain ⟨hcC, hroom⟩ : c ≤ C ∧ base + off + C * k ≤ sz := hc
              have hb := fun (w : World) => sb_none (P := P) (isS := true) (cap := C) e1 e2 hcC hhi hlo w
              obtain ⟨_, q1, q2⟩ := hb default
              refine ⟨_, fun w => sliceAt_slice hu hk (hb w).1, ?_⟩
              rw [bif_blt] at h
              split at h
              · rename_i hlt
                simp at h; subst h
                rw [if_neg (by omega)]
                simp only [Option.map_some, addr_add, Nat.add_assoc]
                refine .sl _ _ _ _ _ _ _ _ _ hs (by rcases q2 with q2 | q2 <;> omega) (capOk_roomTo ?_ (by omega))
                have : (C - ll) * k + ll * k = C * k := by rw [← Nat.add_mul]; congr 1; omega
                omega
              ·
                simp at h
          · simp at h
        · simp at h
      · simp at h
  · rename_i id g off len cc m
    cases MX with
    | none => exact hmx.elim
    | some M =>
      split at h
      · rename_i c' hv e1
        cases HI with
        | none => exact hhi.elim
        | some HV =>
          split at h
          · rename_i hh e3
            split at h
            · rename_i ll e2
              simp only [Option.some.injEq] at h
              cases hx with
              | sl _ _ _ _ _ b base sz C hs hl hc =>
                have hmost : capMost len cc ≤ C := by
                  cases cc with
                  | is c => have : C = c := hc; simp [capMost]; omega
                  | room r => simpa [capMost] using hl
                  | least r c => exact hc.1
                have hb := fun (w : World) => sb_some (P := P) (isS := true) (len := len) (cap := C) e1 e3 e2 hmost hmx hhi hlo w
                obtain ⟨_, q1, q2, q3⟩ := hb default
                refine ⟨_, fun w => sliceAt_slice hu hk (hb w).1, ?_⟩
                rw [bif_beq] at h
                split at h
                · rename_i he; subst h
                  rw [if_pos he]
                  exact .sl _ _ _ _ _ _ _ _ _ hs (by omega) rfl
                · rename_i he; subst h
                  rw [if_neg he]
                  simp only [Option.map_some, addr_add, Nat.add_assoc]
                  exact .sl _ _ _ _ _ _ _ _ _ hs (by omega) rfl
            · simp at h
          · simp at h
      · simp at h
  · simp at h

theorem aslice_ok {t : TypeId} {x v : AV} {lo hi mx : Option AV} {X : Value} {LO HI MX : Option Value} (h : aslice P t x lo hi mx = some v) (hx : VR σ x X)
    (hlo : VRo σ lo LO) (hhi : VRo σ hi HI) (hmx : VRo σ mx MX) : ∃ V, (∀ w, (Instr.sliceAt t X LO HI MX).run P w = .ok V w) ∧ VR σ v V := by
  unfold aslice at h
  split at h
  · -- string
    rename_i hu
    split at h
    · rename_i s
      cases MX with
      | some _ => exact hmx.elim
      | none =>
        split at h
        · rename_i hh e1
          split at h
          · rename_i ll e2
            simp at h; subst h
            obtain ⟨bs, rfl, hs⟩ := ofBytesStr hx
            have hsz := str_size hs
            refine ⟨.string (bs.extract ll hh), fun w => ?_, .str _ _ ?_⟩
            · have := (sb_none (P := P) (isS := false) (cap := s.length) e1 e2 (Nat.le_refl _) hhi hlo w).1
              simp only [Instr.sliceAt, Instr.slice, Sem.run_bind, run_underlying_of hu, Result.andThen_ok, Option.isSome_none, Bool.false_eq_true, if_false, Sem.run_pure, hsz]
              simp [this]
            · rw [Lib.extract_data, ← hs, lslice, List.map_take, List.map_drop]
          · simp at h
        · simp at h
    · simp at h
  · rename_i e hu
    split at h
    · rename_i k hk
      exact asliceS_ok hu hk h hx hlo hhi hmx
    · simp at h
  · rename_i n e hu
    split at h
    · rename_i id g off k hk
      cases MX with
      | some _ => exact hmx.elim
      | none =>
        split at h
        · rename_i hh e1
          split at h
          · rename_i ll e2
            simp only [Option.some.injEq] at h
            cases hx with
            | ptr _ _ _ b base sz hs =>
              have hb := fun (w : World) => sb_none (P := P) (isS := false) (cap := n) e1 e2 (Nat.le_refl _) hhi hlo w
              obtain ⟨_, q1, q2⟩ := hb default
              refine ⟨.slice (some (if n = ll then ⟨b, base + off, none⟩ else ⟨b, base + off + ll * k, none⟩)) (hh - ll) (n - ll), fun w => ?_, ?_⟩
              · simp [Instr.sliceAt, run_underlying_of hu, Instr.sureAddr, (hb w).1, run_sizeOf_of hk, addr_add]
              · rw [bif_beq] at h
                split at h
                · rename_i he; subst h
                  rw [if_pos he]
                  exact .sl _ _ _ _ _ _ _ _ _ hs (by omega) rfl
                · rename_i he; subst h
                  rw [if_neg he, Nat.add_assoc]
                  exact .sl _ _ _ _ _ _ _ _ _ hs (by omega) rfl
          · simp at h
        · simp at h
    · simp at h
  · simp at h

end
end Go.Abs
