/-
  What other tasks use, in plain words: ways on which no task that goes comes, but for their beginnings.
-/
import Derived.Test.YthakciolcdlphaaGreatZa
import Derived.Test.YthakciolcdlphaaGreatMi
set_option linter.unusedVariables false
set_option linter.unusedSimpArgs false
namespace Go.Abs
section
variable {g:Nat->List Nat} {go:Nat->Bool} {rs:List Nat}
def gP (g:Nat->List Nat) (go:Nat->Bool) (x:Nat):List Nat:=(g x).filter fun y=>!go y
def gR (g:Nat->List Nat) (go:Nat->Bool) (rs:List Nat) (x:Nat):List Nat:=if x∈rs∨go x=false then g x else []
theorem Way.snoc {g:Nat->List Nat} {a b c:Nat} (h:Way g a b) (hc:c∈g b):Way g a c:=h.trans (.step hc (.refl c))
theorem aLa {r x:Nat} (h:Way (gP g go) r x) (hr:r∈rs∨go r=false):Way (gR g go rs) r x/\(x∈rs∨go x=false):=by
 induction h with
 | refl _=>exact ⟨.refl _,hr⟩
 | step h1 _ ih=>
   obtain ⟨q1,q2⟩:=List.mem_filter.1 h1
   obtain ⟨h2,h3⟩:=ih (.inr (by simpa using q2))
   exact ⟨.step (by rw [gR,if_pos hr];exact q1) h2,h3⟩
theorem aLb {r x:Nat} (h:Way (gR g go rs) r x) (hr:go r=true∨∃ q∈rs,Way (gP g go) q r) (hg:r∈rs∨go r=false->∃ q∈rs,Way (gP g go) q r):go x=true∨∃ q∈rs,Way (gP g go) q x:=by
 induction h with
 | refl _=>exact hr
 | @step a b c h1 _ ih=>
   unfold gR at h1
   split at h1
   ·rename_i ha
    obtain ⟨q,hq,hw⟩:=hg ha
    cases hb:go b with
    | true=>
      refine ih (.inl hb) fun h=>?_
      rcases h with h | h
      ·exact ⟨b,h,.refl b⟩
      ·rw [hb]at h;cases h
    | false=>
      have hn:∃ q∈rs,Way (gP g go) q b:=⟨q,hq,hw.snoc (List.mem_filter.2 ⟨h1,by rw [hb];rfl⟩)⟩
      exact ih (.inr hn) fun _=>hn
   ·cases h1
theorem aDe {c:Nat} (hc:go c=false):(∃ r∈rs,Way (gP g go) r c)↔∃ r∈rs,Way (gR g go rs) r c:=by
 refine ⟨fun ⟨r,hr,hw⟩=>⟨r,hr,(aLa hw (.inl hr)).1⟩,fun ⟨r,hr,hw⟩=>?_⟩
 rcases aLb hw (.inr ⟨r,hr,.refl r⟩) fun _=>⟨r,hr,.refl r⟩ with h | h
 ·rw [hc]at h;cases h
 ·exact h
end
end Go.Abs
/-
 Whether other tasks use a cell or a channel of a part: by the program's way of going,and by the reference's,alike.
-/
namespace Go.Proofs.YthakciolcdlphaaGreat
open Go.Abs Go Go.Abs.TryzF
noncomputable section
theorem aHr {N:Nat} {g:Nat->List Nat} (hg:∀ n,∀ y∈g n,y<N) {rs:List Nat} (hr:∀ x∈rs,x<N):∃ out,Run g (List.replicate N false) rs out/\out.length<=N/\out.Nodup/\(∀ x,x∈out↔∃ r∈rs,Abs.Way g r x)/\∀ x∈out,x<N:=by
 obtain ⟨out,ho⟩:=Run.ex (N:=N) hg _ (List.replicate N false) (by simp) (Nat.le_refl _) rs hr
 have hlt:∀ x∈out,x<N:=fun x hx=>by
  obtain ⟨r,h1,h2⟩:=ho.iff.1 hx
  exact h2.lt hg (hr r h1)
 refine ⟨out,ho,?_,ho.nodup,fun x=>ho.iff,hlt⟩
 have:=kR (bX out) (bX (List.range N)) (List.pairwise_map.2 (ho.nodup.imp fun h e=>h (by omega))) fun x hx=>by
  obtain ⟨y,hy,rfl⟩:=List.mem_map.1 hx
  exact List.mem_map.2 ⟨y,List.mem_range.2 (hlt y hy),rfl⟩
 simpa [bX] using this
theorem aDf {R rs t:List Nat} (h:R.Nodup) (hp:R=rs++t) {i n:Nat} (hi:R[i]?=some n):i<rs.length↔n∈rs:=by
 subst hp
 constructor
 ·intro hlt
  rw [List.getElem?_append_left hlt]at hi
  exact List.mem_of_getElem? hi
 ·intro hn
  rcases Nat.lt_or_ge i rs.length with hlt | hge
  ·exact hlt
  ·rw [List.getElem?_append_right hge]at hi
   exact absurd rfl ((List.nodup_append.1 h).2.2 n hn n (List.mem_of_getElem? hi))
end
end Go.Proofs.YthakciolcdlphaaGreat
