/-
  The reference of images: its reader reads lists of values.
-/
import Derived.Test.YtajngkkihadgfaaGreatHd
set_option linter.unusedVariables false
set_option linter.unusedSimpArgs false
namespace Go.Proofs.YtajngkkihadgfaaGreat
open Go.Abs Go Go.Abs.TryzF
noncomputable section
set_option maxRecDepth 10000
def valsA (l : List Val) : AV := if l = [] then .nils else .fz (l.map valI) false
def valC (v : Val) : List AV := [.int .i64 v.1, .int .i64 v.2]
theorem valC_len (l : List Val) : ∀ x ∈ l.map valC, x.length = 2 := fun x hx => by obtain ⟨y, _, rfl⟩ := List.mem_map.1 hx; rfl
theorem valC_agg (l : List Val) : (l.map valC).map .agg = l.map valI := by rw [List.map_map]; rfl
def VAcc (n0 n : Nat) (o : Tr AObj) (v : AV) (l : List Val) : Prop := (l = [] ∧ v = .nils) ∨ (l ≠ [] ∧ ∃ id g, v = .sl id g 0 l.length (.room 2) ∧ o.get id = some (obg g (l.map valC).flatten) ∧ n0 ≤ id ∧ id < n)
theorem VAcc.frz {n0 n low : Nat} {o : Tr AObj} {v : AV} {l : List Val} (h : VAcc n0 n o v l) : Frz ⟨n, low, o⟩ n0 v (valsA l) := by
  rcases h with ⟨rfl, rfl⟩ | ⟨hl, id, g, rfl, hid, h1, h2⟩
  · exact .und _ und_nils
  · rw [valsA, if_neg hl, ← valC_agg]
    refine frz_slk (g := g) (k := 2) h1 (by rw [Sto.get_mk h2]; exact hid) (by simp) (valC_len _) fun x hx y hy => ?_
    obtain ⟨z, _, rfl⟩ := List.mem_map.1 hx
    simp only [valC, List.mem_cons, List.not_mem_nil, or_false] at hy
    rcases hy with rfl | rfl <;> exact und_int
theorem turn1_frz {n low low' r n' : Nat} {o o' : Tr AObj} {x : AObj} {rv v : AV} (hr : r < n) (hn : n ≤ n') (hl : r ≤ low') (hx : o'.get r = some x) (ho : ∀ id, id < n → id ≠ r → o'.get id = o.get id) (hv : Frz ⟨n', low', o'⟩ n rv v) : turn1 ⟨n, low, o⟩ r x v ⟨n', low', o'⟩ rv := by
  refine ⟨hl, by rw [Sto.get_mk (by omega)]; exact hx, fun id hid hne => ?_, hv⟩
  have hid' : id < n := hid
  rw [Sto.get_mk hid', Sto.get_mk (by omega)]; exact ho id hid' hne
end
end Go.Proofs.YtajngkkihadgfaaGreat
/-
  The reference of images: its reader reads objects.
-/
namespace Go.Proofs.YtajngkkihadgfaaGreat
open Go.Abs Go Go.Abs.TryzF
noncomputable section
set_option maxRecDepth 10000
def frC (f : Fr) : List AV := [.int .i64 f.node, valsA f.env, valsA f.vals]
def frsA (l : List Fr) : AV := if l = [] then .nils else .fz ((l.map frC).map .agg) false
def obA (o : Ob) : AV := .agg [.int .i64 o.form, .int .i64 o.n, valsA o.vals, frsA o.frs]
theorem valsA_dec {l : List Val} (h : l.length ≤ 9223372036854775807) : decVals (valsA l) = some l := by
  refine decVals_of ⟨?_, by simpa using h⟩
  unfold valsA
  by_cases h0 : l = []
  · subst h0; exact .inl ⟨by simp, rfl⟩
  · rw [if_neg h0]; exact .inr ⟨false, rfl⟩
theorem valsA_cell {l : List Val} : (valsA l).isCell = true := by unfold valsA; split <;> rfl
theorem valsA_under {n : Nat} {l : List Val} : UnderE n (valsA l) := by
  unfold valsA
  split
  · exact ⟨1, rfl⟩
  · refine underE_fz fun x hx => ?_
    obtain ⟨y, _, rfl⟩ := List.mem_map.1 hx
    exact ⟨2, rfl⟩
theorem frC_len (l : List Fr) : ∀ x ∈ l.map frC, x.length = 3 := fun x hx => by obtain ⟨y, _, rfl⟩ := List.mem_map.1 hx; rfl
def FAcc (n0 n : Nat) (o : Tr AObj) (v : AV) (l : List Fr) : Prop := (l = [] ∧ v = .nils) ∨ (l ≠ [] ∧ ∃ id g, v = .sl id g 0 l.length (.room 3) ∧ o.get id = some (obg g (l.map frC).flatten) ∧ n0 ≤ id ∧ id < n)
theorem FAcc.frz {n0 n low : Nat} {o : Tr AObj} {v : AV} {l : List Fr} (h : FAcc n0 n o v l) : Frz ⟨n, low, o⟩ n0 v (frsA l) := by
  rcases h with ⟨rfl, rfl⟩ | ⟨hl, id, g, rfl, hid, h1, h2⟩
  · exact .und _ und_nils
  · rw [frsA, if_neg hl]
    refine frz_slk (g := g) (k := 3) h1 (by rw [Sto.get_mk h2]; exact hid) (by simp) (frC_len _) fun x hx y hy => ?_
    obtain ⟨z, _, rfl⟩ := List.mem_map.1 hx
    simp only [frC, List.mem_cons, List.not_mem_nil, or_false] at hy
    rcases hy with rfl | rfl | rfl
    · exact und_int
    · exact valsA_under.und
    · exact valsA_under.und
section
variable {n low r : Nat} {o : Tr AObj} {l : List Nat} {st : Nat × Bool}
end
end
end Go.Proofs.YtajngkkihadgfaaGreat
/-
  The reference of images: the object of bytes.
-/
namespace Go.Proofs.YtajngkkihadgfaaGreat
open Go.Abs Go Go.Abs.TryzF
noncomputable section
set_option maxRecDepth 10000
theorem decL_map' {α : Type} {f : AV → Option α} {g : α → AV} : ∀ l : List α, (∀ x ∈ l, f (g x) = some x) → decL f (l.map g) = some l
  | [], _ => rfl
  | x :: l, h => by simp only [List.map_cons, decL, h x (List.mem_cons_self ..), decL_map' l fun y hy => h y (List.mem_cons_of_mem _ hy)]
theorem frsA_cell {l : List Fr} : (frsA l).isCell = true := by unfold frsA; split <;> rfl
theorem frsA_under {n : Nat} {l : List Fr} : UnderE n (frsA l) := by
  unfold frsA
  split
  · exact ⟨1, rfl⟩
  · refine underE_fz fun x hx => ?_
    rw [List.map_map] at hx
    obtain ⟨y, _, rfl⟩ := List.mem_map.1 hx
    refine underE_agg fun z hz => ?_
    simp only [frC, List.mem_cons, List.not_mem_nil, or_false] at hz
    rcases hz with rfl | rfl | rfl
    · exact ⟨1, rfl⟩
    · exact valsA_under
    · exact valsA_under
theorem obA_under {n : Nat} {o : Ob} : UnderE n (obA o) := underE_agg fun x hx => by
  simp only [List.mem_cons, List.not_mem_nil, or_false] at hx
  rcases hx with rfl | rfl | rfl | rfl
  · exact ⟨1, rfl⟩
  · exact ⟨1, rfl⟩
  · exact valsA_under
  · exact frsA_under
end
end Go.Proofs.YtajngkkihadgfaaGreat
