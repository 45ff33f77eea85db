/-
  The abstract machine: operations that ask nothing of memory.
-/
import Derived.Test.YtglnkngifepmhaaGreatUd
import Derived.Laws.StructEq
import Derived.Lib.SmallJoins
set_option linter.unusedVariables false
set_option linter.unusedSimpArgs false

namespace Go.Abs

theorem toList_extract_lslice {α : Type} (xs : Array α) (i n : Nat) : (xs.extract i (i + n)).toList = (xs.toList.drop i).take n := by
  simp [Array.toList_extract, List.extract_eq_take_drop]

section
variable {P : Program} {σ : Sg} {S : Sto} {w : World}

theorem apart_ok {t : TypeId} {cs : List AV} {Cs : Array Value} {off : Nat} {v : AV} (h : apart P t cs off = some v) (hcs : VRs σ cs Cs.toList) : ∃ V, (∀ w, (part t Cs off).run P w = .ok V w) ∧ VR σ v V := by
  unfold apart at h
  split at h
  · rename_i n hagg hsz
    rw [bif_ble] at h
    split at h
    · simp at h; subst h
      refine ⟨.agg (Cs.extract off (off + n)), fun w => ?_, VR.agg_iff.2 ⟨_, rfl, ?_⟩⟩
      · simp [part, run_isAgg_of hagg, run_sizeOf_of hsz]
      · rw [toList_extract_lslice]; exact hcs.slice off n
    · simp at h
  · rename_i hagg
    obtain ⟨V, hV, hVR⟩ := hcs.get h
    refine ⟨V, fun w => ?_, hVR⟩
    have : Cs[off]? = some V := by simpa using hV
    simp [part, run_isAgg_of hagg, this]
  · simp at h

theorem tagg_of {t : TypeId} {d : TypeDesc} (h : P.underlying t = some d) : tagg P t = some (isAggD d) := by simp [tagg, h]

theorem apfPart_ok {t : TypeId} {cs : List AV} {b o off : Nat} {v : AV} (h : apfPart P t cs off = some v) (hv : VR σ (.pf (.agg cs)) (.pointer (some ⟨b, o, none⟩))) :
    VR σ v (.pointer (some ⟨b, o + off, none⟩)) := by
  cases hv with
  | pf _ _ _ h1 h2 =>
    unfold apfPart at h
    split at h
    · rename_i u hu
      unfold apart at hu
      split at hu
      · rename_i n hagg hsz
        rw [hagg] at h
        simp at h; subst h
        rw [bif_ble] at hu
        split at hu
        · rename_i hle
          simp at hu; subst hu
          refine .pf _ _ _ (fun i c V hc hV => ?_) (fun i hi => ?_)
          · simp only [AV.cells, lslice] at hc
            have hi : i < n := by
              rcases Nat.lt_or_ge i n with h' | h'
              · exact h'
              · rw [List.getElem?_eq_none (by simp; omega)] at hc; cases hc
            rw [List.getElem?_take, if_pos hi, List.getElem?_drop] at hc
            exact h1 (off + i) c V hc (by rw [← Nat.add_assoc]; exact hV)
          · simp only [AV.cells, lslice, List.length_take, List.length_drop] at hi
            have := h2 (off + i) (by simp [AV.cells]; omega)
            rw [← Nat.add_assoc] at this; exact this
        · simp at hu
      · rename_i hagg
        rw [hagg] at h
        cases hc : u.isCell with
        | false => simp [hc] at h
        | true =>
          simp [hc] at h; subst h
          have hcs : u.cells = [u] := by cases u <;> first | (simp [AV.isCell] at hc; done) | rfl
          refine .pf _ _ _ (fun i c V hi hV => ?_) (fun i hi => ?_)
          · rw [hcs] at hi
            cases i with
            | zero => simp at hi; subst hi; exact h1 off u V (by simpa [AV.cells] using hu) (by simpa using hV)
            | succ i => simp at hi
          · rw [hcs] at hi
            have : i = 0 := by simpa using hi
            subst this
            have hlt : off < cs.length := by
              rcases Nat.lt_or_ge off cs.length with h' | h'
              · exact h'
              · rw [List.getElem?_eq_none h'] at hu; cases hu
            simpa using h2 off (by simpa [AV.cells] using hlt)
      · simp at hu
    · simp at h

theorem afield_ok {t : TypeId} {x v : AV} {X : Value} {f : Nat} (h : afield P t x f = some v) (hx : VR σ x X) : ∃ V, (∀ w, (Instr.field t X f).run P w = .ok V w) ∧ VR σ v V := by
  unfold afield at h
  split at h
  · rename_i fields cs hu
    obtain ⟨Cs, rfl, hcs⟩ := VR.agg_iff.1 hx
    split at h
    · rename_i fd hfd
      obtain ⟨V, h1, h2⟩ := apart_ok h hcs
      refine ⟨V, fun w => ?_, h2⟩
      simp [Instr.field, run_underlying_of hu, hfd, asAgg, h1]
    · simp at h
  · simp at h

theorem afieldAddr_ok {t : TypeId} {a v : AV} {A : Value} {f : Nat} (h : afieldAddr P t a f = some v) (ha : VR σ a A) : ∃ V, (∀ w, (Instr.fieldAt t A f).run P w = .ok V w) ∧ VR σ v V := by
  unfold afieldAddr at h
  split at h
  · rename_i fields hu
    split at h
    · rename_i fd hfd
      split at h
      · rename_i n id g off hsz
        cases ha with
        | ptr _ _ _ b base sz hs =>
          simp at h; subst h
          refine ⟨.pointer (some ⟨b, base + (off + fd.offset), none⟩), fun w => ?_, .ptr _ _ _ _ _ _ hs⟩
          simp [Instr.fieldAt, run_underlying_of hu, hfd, Instr.sureAddr, fieldPlace, run_sizeOf_of hsz, addr_add, Nat.add_assoc]
      · rename_i n cs hsz
        cases ha with
        | pf _ b o h1 h2 =>
          refine ⟨.pointer (some ⟨b, o + fd.offset, none⟩), fun w => ?_, apfPart_ok h (.pf _ _ _ h1 h2)⟩
          simp [Instr.fieldAt, run_underlying_of hu, hfd, Instr.sureAddr, fieldPlace, run_sizeOf_of hsz, addr_add]
      · simp at h
    · simp at h
  · simp at h

theorem aidx_ok {i : AV} {I : Value} {len n : Nat} (h : aidx i len = some n) (hi : VR σ i I) : ∃ k, I = .int k (n : Int) ∧ n < len := by
  unfold aidx at h
  split at h
  · rename_i k m
    rw [bif_blt] at h
    split at h
    · rename_i hlt
      simp at h; subst h
      cases hi with
      | int => exact ⟨k, rfl, hlt⟩
    · simp at h
  · simp at h

theorem alt_int {n len : Nat} (h : n < len) : (0 : Int) ≤ (n : Int) ∧ (n : Int) < (len : Int) := by omega

theorem aindexAddr_ok {t : TypeId} {x i v : AV} {X I : Value} (h : aindexAddr P t x i = some v) (hx : VR σ x X) (hi : VR σ i I) : ∃ V, (∀ w, (Instr.indexAt t X I).run P w = .ok V w) ∧ VR σ v V := by
  unfold aindexAddr at h
  split at h
  · rename_i len e id g off hu
    split at h
    · rename_i n k hn hsz
      obtain ⟨kk, rfl, hlt⟩ := aidx_ok hn hi
      simp at h; subst h
      cases hx with
      | ptr _ _ _ b base sz hs =>
        refine ⟨.pointer (some ⟨b, base + (off + n * k), none⟩), fun w => ?_, .ptr _ _ _ _ _ _ hs⟩
        simp [Instr.indexAt, asIntOf, run_underlying_of hu, Instr.sureAddr, hlt, run_sizeOf_of hsz, addr_add, Nat.add_assoc]
    · simp at h
  · rename_i len e cs hu
    split at h
    · rename_i n k hn hsz
      obtain ⟨kk, rfl, hlt⟩ := aidx_ok hn hi
      cases hx with
      | pf _ b o h1 h2 =>
        refine ⟨.pointer (some ⟨b, o + n * k, none⟩), fun w => ?_, apfPart_ok h (.pf _ _ _ h1 h2)⟩
        simp [Instr.indexAt, asIntOf, run_underlying_of hu, Instr.sureAddr, hlt, run_sizeOf_of hsz, addr_add]
    · simp at h
  · rename_i e id g off len cap hu
    split at h
    · rename_i n k hn hsz
      obtain ⟨kk, rfl, hlt⟩ := aidx_ok hn hi
      simp at h; subst h
      cases hx with
      | sl _ _ _ _ _ b base sz C hs hl hc =>
        refine ⟨.pointer (some ⟨b, base + (off + n * k), none⟩), fun w => ?_, .ptr _ _ _ _ _ _ hs⟩
        simp [Instr.indexAt, asIntOf, run_underlying_of hu, hlt, run_sizeOf_of hsz, addr_add, Nat.add_assoc]
    · simp at h
  · rename_i e xs clip hu
    split at h
    · rename_i n k hn hsz
      obtain ⟨kk, rfl, hlt⟩ := aidx_ok hn hi
      split at h
      · rename_i u hxu
        rw [bif_beq] at h
        split at h
        · rename_i hk
          simp at h; subst h
          cases hx with
          | fz _ _ a C b o k' h1 h2 h3 h4 h5 h6 =>
            have ha := h1 (by omega)
            subst ha
            have hk' : k' = k := by rw [← hk]; exact (h4 u (List.mem_of_getElem? hxu)).symm
            subst hk'
            refine ⟨.pointer (some ⟨b, o + n * k', none⟩), fun w => ?_, .pf _ _ _ (fun j c V hc hV => h5 n j u c V hxu hc hV) (fun j hj => h6 n j hlt (by rw [← hk]; exact hj))⟩
            simp [Instr.indexAt, asIntOf, run_underlying_of hu, hlt, run_sizeOf_of hsz, addr_add]
        · simp at h
      · simp at h
    · simp at h
  · simp at h

theorem aindex_ok {t : TypeId} {x i v : AV} {X I : Value} (h : aindex P t x i = some v) (hx : VR σ x X) (hi : VR σ i I) : ∃ V, (∀ w, (Instr.index t X I).run P w = .ok V w) ∧ VR σ v V := by
  unfold aindex at h
  split at h
  · rename_i len e cs hu
    split at h
    · rename_i n k hn hsz
      obtain ⟨kk, rfl, hlt⟩ := aidx_ok hn hi
      obtain ⟨Cs, rfl, hcs⟩ := VR.agg_iff.1 hx
      obtain ⟨V, h1, h2⟩ := apart_ok h hcs
      refine ⟨V, fun w => ?_, h2⟩
      simp [Instr.index, asIntOf, run_underlying_of hu, hlt, run_sizeOf_of hsz, h1]
    · simp at h
  · rename_i s hu
    split at h
    · rename_i n hn
      obtain ⟨kk, rfl, hlt⟩ := aidx_ok hn hi
      split at h
      · rename_i b hb
        simp at h; subst h
        cases hx with
        | str _ bs hs =>
          subst hs
          rw [List.getElem?_map] at hb
          obtain ⟨B, hB, rfl⟩ := Option.map_eq_some_iff.1 hb
          rw [List.length_map, Array.length_toList] at hlt
          have hlt' : n < bs.size := hlt
          have hg : bs[n]? = some B := by
            rw [getElem?_pos bs n hlt']
            rw [Array.getElem?_toList, Array.getElem?_eq_getElem hlt] at hB
            exact hB
          refine ⟨.int .u8 B.toNat, fun w => ?_, .int _ _⟩
          simp [Instr.index, asIntOf, run_underlying_of hu, hg]
      · simp at h
    · simp at h
  · simp at h

end
end Go.Abs
