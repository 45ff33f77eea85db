/-
  Isles in plain words: tasks that share an object, directly or by others; the least of them.
-/
import Derived.Test.YtdipddlhenoglaaGreatZi
set_option linter.unusedVariables false
set_option linter.unusedSimpArgs false
namespace Go.Abs
def Both (R:Nat->List Nat) (sh:Nat->Bool) (i j:Nat):Prop:=∃ n,n∈R i/\n∈R j/\sh n=true
inductive Isle (m:Nat) (R:Nat->List Nat) (sh:Nat->Bool):Nat->Nat->Prop
 | refl (i:Nat):Isle m R sh i i
 | step {i j k:Nat}:j<m->Both R sh i j->Isle m R sh j k->Isle m R sh i k
section
variable {m:Nat} {R:Nat->List Nat} {sh:Nat->Bool} {i j k:Nat}
theorem Both.symm (h:Both R sh i j):Both R sh j i:=by obtain ⟨n,h1,h2,h3⟩:=h;exact ⟨n,h2,h1,h3⟩
theorem Isle.trans (h:Isle m R sh i j) (h':Isle m R sh j k):Isle m R sh i k:=by
 induction h with
 | refl _=>exact h'
 | step h1 h2 _ ih=>exact .step h1 h2 (ih h')
theorem Isle.one (hj:j<m) (h:Both R sh i j):Isle m R sh i j:=.step hj h (.refl j)
theorem Isle.symm (hi:i<m) (h:Isle m R sh i j):Isle m R sh j i:=by
 induction h with
 | refl _=>exact .refl _
 | step h1 h2 _ ih=>exact (ih h1).trans (.one hi h2.symm)
theorem Isle.lt (hi:i<m) (h:Isle m R sh i j):j<m:=by
 induction h with
 | refl _=>exact hi
 | step h1 _ _ ih=>exact ih h1
theorem Isle.eq {f:Nat->Nat} (hf:∀ i j,i<m->j<m->Both R sh i j->f i=f j) (hi:i<m) (h:Isle m R sh i j):f i=f j:=by
 induction h with
 | refl _=>rfl
 | step h1 h2 _ ih=>exact (hf _ _ hi h1 h2).trans (ih h1)
def cW (o:List Nat) (i:Nat):Nat:=o.getD i 0
theorem RO {o:List Nat} {v:Nat} (h:j<o.length):cW (o.set j v) i=if i=j then v else cW o i:=by
 unfold cW
 rw [List.getD_eq_getElem?_getD,List.getD_eq_getElem?_getD,List.getElem?_set]
 by_cases hij:j=i
 ·subst hij;simp [h]
 ·rw [if_neg hij,if_neg (Ne.symm hij)]
theorem qS {o:List Nat} (h:i<o.length):o[i]?=some (cW o i):=by
 unfold cW;rw [List.getD_eq_getElem?_getD,List.getElem?_eq_getElem h];rfl
def aEu (m:Nat) (R:Nat->List Nat) (sh:Nat->Bool) (o:List Nat):Prop:=
 o.length=120/\(∀ i,i<m->Isle m R sh i (cW o i)/\cW o i<=i)/\∀ i,m<=i->i<120->cW o i=i
def aLx (m:Nat) (R:Nat->List Nat) (sh:Nat->Bool) (o:List Nat):Prop:=aEu m R sh o/\∀ i j,i<m->j<m->Both R sh i j->cW o i=cW o j
open Classical in
noncomputable def AJ (m:Nat) (R:Nat->List Nat) (sh:Nat->Bool) (i:Nat):Nat:=((List.range m).filter fun j=>decide (Isle m R sh i j)).headD i
theorem yD {p:Nat->Bool} {m d:Nat} (hd:d<m) (hp:p d=true):p (((List.range m).filter p).headD d)=true/\(((List.range m).filter p).headD d)<m/\∀ j,j<m->p j=true->((List.range m).filter p).headD d<=j:=by
 have hs:((List.range m).filter p).Pairwise (·< ·):=List.pairwise_lt_range.filter _
 have hm:∀ x,x∈(List.range m).filter p↔x<m/\p x=true:=fun x=>by rw [List.mem_filter,List.mem_range]
 generalize (List.range m).filter p=l at *
 cases l with
 | nil=>exact absurd ((hm d).2 ⟨hd,hp⟩) (by simp)
 | cons a l=>
   have ha:=(hm a).1 (List.mem_cons_self ..)
   refine ⟨ha.2,ha.1,fun j h1 h2=>?_⟩
   rcases List.mem_cons.1 ((hm j).2 ⟨h1,h2⟩) with rfl | h
   ·exact Nat.le_refl _
   ·exact Nat.le_of_lt ((List.pairwise_cons.1 hs).1 j h)
theorem sI (hi:i<m):Isle m R sh i (AJ m R sh i)/\AJ m R sh i<m/\∀ j,j<m->Isle m R sh i j->AJ m R sh i<=j:=by
 have:=yD (p:=fun j=>@decide (Isle m R sh i j) (Classical.propDecidable _)) hi ((@decide_eq_true_iff _ (Classical.propDecidable _)).2 (.refl i))
 refine ⟨(@decide_eq_true_iff _ (Classical.propDecidable _)).1 this.1,this.2.1,fun j h1 h2=>this.2.2 j h1 ((@decide_eq_true_iff _ (Classical.propDecidable _)).2 h2)⟩
noncomputable def TV (m:Nat) (R:Nat->List Nat) (sh:Nat->Bool):List Nat:=(List.range 120).map fun i=>if i<m then AJ m R sh i else i
theorem AK:(TV m R sh).length=120:=by simp [TV]
theorem aEv {o:List Nat} (h:aLx m R sh o):o=TV m R sh:=by
 obtain ⟨⟨h1,h2,h3⟩,h4⟩:=h
 refine List.ext_getElem (by rw [h1,AK]) fun i hi hi'=>?_
 have e:cW o i=o[i]:=by have:=qS hi;rw [List.getElem?_eq_getElem hi]at this;exact (Option.some.inj this).symm
 rw [<-e]
 simp only [TV,List.getElem_map,List.getElem_range]
 split
 ·rename_i him
  obtain ⟨q1,q2,q3⟩:=sI (R:=R) (sh:=sh) him
  obtain ⟨p1,p2⟩:=h2 i him
  refine Nat.le_antisymm ?_ (q3 _ (p1.lt him) p1)
  rw [q1.eq (f:=cW o) h4 him]
  exact (h2 _ q2).2
 ·exact h3 i (by omega) (by omega)
def LeastP (m:Nat) (o:List Nat) (D:Nat->Nat->Prop) (L:List Nat):Prop:=L.length=120/\(∀ i n,D i n->cW L n<=cW o i)/\∀ n,n<120->cW L n=m∨∃ i,D i n/\cW L n=cW o i
def NewP (m:Nat) (o L:List Nat) (D:Nat->Nat->Prop) (o':List Nat):Prop:=o'.length=120/\(∀ i n,D i n->cW o' i<=cW L n)/\(∀ i,cW o' i<=cW o i)/\(∀ i,cW o' i=cW o i∨∃ n,D i n/\cW o' i=cW L n)/\∀ i,m<=i->cW o' i=cW o i
def iB (rows:Nat->List Nat) (sh:Nat->Bool) (k q:Nat) (i n:Nat):Prop:=sh n=true/\((i<k/\n∈rows i)∨(i=k/\n∈(rows k).take q))
theorem LeastP.mono {o L:List Nat} {D D':Nat->Nat->Prop} (h:LeastP m o D L) (hd:∀ i n,D i n↔D' i n):LeastP m o D' L:=
 ⟨h.1,fun i n hx=>h.2.1 i n ((hd i n).2 hx),fun n hn=>(h.2.2 n hn).imp (fun x=>x) fun ⟨i,h1,h2⟩=>⟨i,(hd i n).1 h1,h2⟩⟩
theorem NewP.mono {o L o':List Nat} {D D':Nat->Nat->Prop} (h:NewP m o L D o') (hd:∀ i n,D i n↔D' i n):NewP m o L D' o':=
 ⟨h.1,fun i n hx=>h.2.1 i n ((hd i n).2 hx),h.2.2.1,fun i=>(h.2.2.2.1 i).imp (fun x=>x) fun ⟨n,h1,h2⟩=>⟨n,(hd i n).1 h1,h2⟩,h.2.2.2.2⟩
theorem LeastP.step {o L:List Nat} {D:Nat->Nat->Prop} {n:Nat} (h:LeastP m o D L) (hn:n<120):LeastP m o (fun i' n'=>D i' n'∨(i'=i/\n'=n)) (L.set n (min (cW L n) (cW o i))):=by
 obtain ⟨h1,h2,h3⟩:=h
 have e:∀ x,cW (L.set n (min (cW L n) (cW o i))) x=if x=n then min (cW L n) (cW o i) else cW L x:=fun x=>RO (by omega)
 refine ⟨by rw [List.length_set];exact h1,fun i' n' hx=>?_,fun n' hn'=>?_⟩
 ·rw [e]
  rcases hx with hx | ⟨rfl,rfl⟩
  ·have:=h2 i' n' hx
   split
   ·subst ‹n'=n›;omega
   ·exact this
  ·rw [if_pos rfl];omega
 ·rw [e]
  split
  ·subst ‹n'=n›
   by_cases hle:cW L n'<=cW o i
   ·rw [Nat.min_eq_left hle]
    exact (h3 n' hn').imp (fun x=>x) fun ⟨i',q1,q2⟩=>⟨i',.inl q1,q2⟩
   ·rw [Nat.min_eq_right (by omega)]
    exact .inr ⟨i,.inr ⟨rfl,rfl⟩,rfl⟩
  ·exact (h3 n' hn').imp (fun x=>x) fun ⟨i',q1,q2⟩=>⟨i',.inl q1,q2⟩
theorem NewP.step {o L o':List Nat} {D:Nat->Nat->Prop} {n:Nat} (h:NewP m o L D o') (him:i<m) (hi:i<120):NewP m o L (fun i' n'=>D i' n'∨(i'=i/\n'=n)) (o'.set i (min (cW o' i) (cW L n))):=by
 obtain ⟨h1,h2,h3,h4,h5⟩:=h
 have e:∀ x,cW (o'.set i (min (cW o' i) (cW L n))) x=if x=i then min (cW o' i) (cW L n) else cW o' x:=fun x=>RO (by omega)
 refine ⟨by rw [List.length_set];exact h1,fun i' n' hx=>?_,fun i'=>?_,fun i'=>?_,fun i' hm=>?_⟩
 ·rw [e]
  rcases hx with hx | ⟨rfl,rfl⟩
  ·have:=h2 i' n' hx
   split
   ·subst ‹i'=i›;omega
   ·exact this
  ·rw [if_pos rfl];omega
 ·rw [e]
  have:=h3 i'
  split
  ·subst ‹i'=i›;omega
  ·exact this
 ·rw [e]
  split
  ·subst ‹i'=i›
   by_cases hle:cW o' i'<=cW L n
   ·rw [Nat.min_eq_left hle]
    exact (h4 i').imp (fun x=>x) fun ⟨n',q1,q2⟩=>⟨n',.inl q1,q2⟩
   ·rw [Nat.min_eq_right (by omega)]
    exact .inr ⟨n,.inr ⟨rfl,rfl⟩,rfl⟩
  ·exact (h4 i').imp (fun x=>x) fun ⟨n',q1,q2⟩=>⟨n',.inl q1,q2⟩
 ·rw [e,if_neg (by omega)];exact h5 i' hm
theorem EH {rows:Nat->List Nat} {i n:Nat}:¬ iB rows sh 0 0 i n:=fun h=>by
 rcases h.2 with ⟨h,_⟩ | ⟨_,h⟩
 ·omega
 ·simp at h
theorem EI {rows:Nat->List Nat} {k q x:Nat} (hx:(rows k)[q]?=some x) (hs:sh x=true) (i n:Nat):(iB rows sh k q i n∨(i=k/\n=x))↔iB rows sh k (q+1) i n:=by
 unfold iB
 rw [List.take_add_one,hx]
 simp only [Option.toList_some,List.mem_append,List.mem_singleton]
 constructor
 ·rintro (⟨h1,h2 | ⟨h2,h3⟩⟩ | ⟨rfl,rfl⟩)
  ·exact ⟨h1,.inl h2⟩
  ·exact ⟨h1,.inr ⟨h2,.inl h3⟩⟩
  ·exact ⟨hs,.inr ⟨rfl,.inr rfl⟩⟩
 ·rintro ⟨h1,h2 | ⟨h2,h3 | h3⟩⟩
  ·exact .inl ⟨h1,.inl h2⟩
  ·exact .inl ⟨h1,.inr ⟨h2,h3⟩⟩
  ·exact .inr ⟨h2,h3⟩
theorem EJ {rows:Nat->List Nat} {k q x:Nat} (hx:(rows k)[q]?=some x) (hs:sh x=false) (i n:Nat):iB rows sh k q i n↔iB rows sh k (q+1) i n:=by
 unfold iB
 rw [List.take_add_one,hx]
 simp only [Option.toList_some,List.mem_append,List.mem_singleton]
 constructor
 ·rintro ⟨h1,h2 | ⟨h2,h3⟩⟩
  ·exact ⟨h1,.inl h2⟩
  ·exact ⟨h1,.inr ⟨h2,.inl h3⟩⟩
 ·rintro ⟨h1,h2 | ⟨h2,h3 | h3⟩⟩
  ·exact ⟨h1,.inl h2⟩
  ·exact ⟨h1,.inr ⟨h2,h3⟩⟩
  ·subst h3;rw [hs]at h1;cases h1
theorem JG {rows:Nat->List Nat} {k:Nat} (i n:Nat):iB rows sh k (rows k).length i n↔iB rows sh (k+1) 0 i n:=by
 unfold iB
 rw [List.take_length,List.take_zero]
 constructor
 ·rintro ⟨h1,⟨h2,h3⟩ | ⟨rfl,h3⟩⟩
  ·exact ⟨h1,.inl ⟨by omega,h3⟩⟩
  ·exact ⟨h1,.inl ⟨by omega,h3⟩⟩
 ·rintro ⟨h1,⟨h2,h3⟩ | ⟨_,h3⟩⟩
  ·by_cases hk:i=k
   ·subst hk;exact ⟨h1,.inr ⟨rfl,h3⟩⟩
   ·exact ⟨h1,.inl ⟨by omega,h3⟩⟩
  ·cases h3
theorem JH {o:List Nat} {rows:Nat->List Nat}:LeastP m o (iB rows sh 0 0) (List.replicate 120 m):=
 ⟨by simp,fun i n h=>absurd h EH,fun n hn=>.inl (by unfold cW;rw [List.getD_eq_getElem?_getD,List.getElem?_replicate,if_pos hn];rfl)⟩
theorem TW {o L:List Nat} {rows:Nat->List Nat} (h:o.length=120):NewP m o L (iB rows sh 0 0) o:=
 ⟨h,fun i n h=>absurd h EH,fun _=>Nat.le_refl _,fun _=>.inl rfl,fun _ _=>rfl⟩
theorem YV:∀ {a b:List Nat},a.length=b.length->(∀ i,cW a i<=cW b i)->a.sum<=b.sum/\(a.sum=b.sum->a=b)
 | [],[],_,_=>⟨Nat.le_refl _,fun _=>rfl⟩
 | x::a,y::b,hl,h=>by
   have h0:x<=y:=h 0
   have ih:=YV (a:=a) (b:=b) (by simpa using hl) fun i=>h (i+1)
   simp only [List.sum_cons]
   refine ⟨by omega,fun he=>?_⟩
   rw [ih.2 (by omega),show x=y by omega]
 | [],_::_,hl,_=>by simp at hl
 | _::_,[],hl,_=>by simp at hl
theorem TX {rows:Nat->List Nat} {o L o':List Nat} (hr:∀ i,i<m->∀ n,n∈rows i↔n∈R i) (h:aEu m R sh o) (hm:m<=120) (hb:∀ i,i<m->∀ n,n∈R i->n<120) (h1:LeastP m o (iB rows sh m 0) L) (h2:NewP m o L (iB rows sh m 0) o'):
 aEu m R sh o'/\o'.sum<=o.sum/\(o'.sum=o.sum->o'=o)/\(o'=o->aLx m R sh o):=by
 obtain ⟨a1,a2,a3⟩:=h
 obtain ⟨b1,b2,b3⟩:=h1
 obtain ⟨c1,c2,c3,c4,c5⟩:=h2
 have hd:∀ i n,iB rows sh m 0 i n↔sh n=true/\i<m/\n∈R i:=fun i n=>by
  unfold iB
  rw [List.take_zero]
  constructor
  ·rintro ⟨q1,⟨q2,q3⟩ | ⟨_,q3⟩⟩
   ·exact ⟨q1,q2,(hr i q2 n).1 q3⟩
   ·cases q3
  ·rintro ⟨q1,q2,q3⟩;exact ⟨q1,.inl ⟨q2,(hr i q2 n).2 q3⟩⟩
 have hs:=YV (a:=o') (b:=o) (by rw [c1,a1]) c3
 refine ⟨⟨c1,fun i hi=>?_,fun i q1 q2=>(c5 i q1).trans (a3 i q1 q2)⟩,hs.1,hs.2,fun e=>⟨⟨a1,a2,a3⟩,?_⟩⟩
 ·obtain ⟨p1,p2⟩:=a2 i hi
  refine ⟨?_,Nat.le_trans (c3 i) p2⟩
  rcases c4 i with q | ⟨n,q1,q2⟩
  ·rw [q];exact p1
  ·obtain ⟨k1,_,k3⟩:=(hd i n).1 q1
   rcases b3 n (hb i (by assumption) n (by assumption)) with q | ⟨j,q3,q4⟩
   ·have:=c3 i
    have:cW o' i<m:=by omega
    omega
   ·obtain ⟨k4,k5,k6⟩:=(hd j n).1 q3
    rw [q2,q4]
    exact (Isle.one k5 ⟨n,k3,k6,k1⟩).trans (a2 j k5).1
 ·subst e
  have key:∀ i j,i<m->j<m->Both R sh i j->cW o' i<=cW o' j:=fun i j hi hj ⟨n,q1,q2,q3⟩=>
   Nat.le_trans (c2 i n ((hd i n).2 ⟨q3,hi,q1⟩)) (b2 j n ((hd j n).2 ⟨q3,hj,q2⟩))
  exact fun i j hi hj hb=>Nat.le_antisymm (key i j hi hj hb) (key j i hj hi hb.symm)
end
end Go.Abs
/-
 The leaders of all tasks,by the program: the walk.
-/
namespace Go.Abs
noncomputable section
theorem yE:∀ (ids:List Nat) (u:Sto),ids.Nodup->(∀ d∈ids,u.get d=some (.defs (some [])))->∃ S,fH u (ids.map .collected)=some S/\S.n=u.n/\∀ j,j∉ids->S.get j=u.get j
 | [],u,_,_=>⟨u,rfl,rfl,fun _ _=>rfl⟩
 | d::ids,u,hn,h=>by
   obtain ⟨hd,hn'⟩:=List.nodup_cons.1 hn
   have hg:=h d (List.mem_cons_self ..)
   obtain ⟨S,h1,h2,h3⟩:=yE ids (u.put d (.defs none)) hn' fun d' hd'=>by
    rw [Sto.get_put_ne _ _ (fun e=>hd (by rw [<-e];exact hd'))];exact h d' (List.mem_cons_of_mem _ hd')
   refine ⟨S,?_,h2,fun j hj=>?_⟩
   ·rw [List.map_cons,fH,hg];exact h1
   ·rw [h3 j (fun e=>hj (List.mem_cons_of_mem _ e)),Sto.get_put_ne _ _ (fun e=>hj (by rw [e];exact List.mem_cons_self ..))]
end
end Go.Abs
namespace Go.Proofs.YtdipddlhenoglaaGreat
open Go.Abs Go Go.Abs.TryzF
noncomputable section
set_option maxRecDepth 10000
def aQ (l:List Nat):List AV:=l.map fun n:Nat=>.int .i64 (n:Nat)
theorem nY {l:List Nat}:aQ l=bQ (cJ l):=by simp [aQ,bQ,cJ]
theorem bH {l:List Nat}:(aQ l).length=l.length:=by simp [aQ]
theorem fK {l:List Nat} {i v:Nat} (h:l[i]?=some v):(aQ l)[i]?=some (.int .i64 (v:Nat)):=by simp [aQ,h]
theorem sJ {l:List Nat} {i v:Nat}:(aQ l).set i (.int .i64 (v:Nat))=aQ (l.set i v):=by simp [aQ,List.map_set]
theorem fW {l:List Nat}:(aQ l).all AV.isCell=true:=List.all_eq_true.2 fun x hx=>by obtain ⟨n,_,rfl⟩:=List.mem_map.1 hx;rfl
theorem EK {n v:Nat}:List.replicate n (AV.int .i64 (v:Nat))=aQ (List.replicate n v):=by simp [aQ]
theorem aLy {a b:Nat}:(if ((b:Nat):Int)<((a:Nat):Int) then ((b:Nat):Int) else ((a:Nat):Int))=((min a b:Nat):Int):=by
 split<;>omega
def dK (f:Nat->Nat) (i:Nat):List Nat:=(List.range 120).map fun j=>if j<i then f j else 0
theorem xF {f:Nat->Nat} {i:Nat}:(dK f i).length=120:=by simp [dK]
theorem AL {f:Nat->Nat}:dK f 0=List.replicate 120 0:=by
 refine List.ext_getElem (by rw [xF,List.length_replicate]) fun i h1 h2=>?_
 rw [List.getElem_replicate]
 simp only [dK,List.getElem_map,Nat.not_lt_zero,if_false]
theorem AM {f:Nat->Nat} {i:Nat}:(dK f i).set i (f i)=dK f (i+1):=by
 refine List.ext_getElem (by simp [dK]) fun j h1 h2=>?_
 rw [List.getElem_set]
 simp only [dK,List.getElem_map,List.getElem_range]
 by_cases hij:i=j
 ·subst hij;simp
 ·rw [if_neg hij]
  by_cases hlt:j<i
  ·rw [if_pos hlt,if_pos (by omega)]
  ·rw [if_neg hlt,if_neg (by omega)]
theorem AN {f:Nat->Nat}:dK f 120=(List.range 120).map f:=by
 refine List.ext_getElem (by simp [dK]) fun j h1 h2=>?_
 have:j<120:=by simpa [dK] using h1
 simp [dK,this]
section
variable {os ts us is no:AV}
def mQ (os ts:AV) (i:Nat):List Nat:=@dite _ (bS ts i<os.els.length/\GoodA os.els) (Classical.propDecidable _) (fun h=>(NJ h.2 h.1).choose) fun _=>[]
theorem AO (h:GW os ts us is no) {i:Nat} (hi:i<ts.els.length):Run (oA os.els) (List.replicate os.els.length false) [bS ts i] (mQ os ts i)/\(∀ x,x∈mQ os ts i↔x∈bX os.els (bS ts i))/\(mQ os ts i).length<=120:=by
 have hx:bS ts i<os.els.length/\GoodA os.els:=⟨(h.task hi).1,h.a⟩
 unfold mQ
 rw [dif_pos hx]
 obtain ⟨h1,_,h2,h3,_⟩:=(NJ hx.2 hx.1).choose_spec
 exact ⟨h1,h3,Nat.le_trans h2 h.ol⟩
def DM (os:AV) (n:Nat):Bool:=shB (os.els.getD n .top)
def cN (os ts:AV):List Nat:=TV ts.els.length (fun i=>bX os.els (bS ts i)) (DM os)
theorem RP {l:List Nat} {q:Nat} {xr:List AV} (h:((bQ (cJ l)).map fun x=>[x])[q]?=some xr):∃ x:Nat,l[q]?=some x/\xr=[.int .i64 (x:Nat)]:=by
 rw [<-EN,tN,List.getElem?_map]at h
 cases hx:l[q]? with
 | none=>rw [hx]at h;cases h
 | some x=>rw [hx]at h;exact ⟨x,rfl,(Option.some.inj h).symm⟩
theorem aLz:aKc Tryz.prog 78=some (120,.i64):=by kernel_rfl
theorem EL {a b:List Nat}:(cJ a=cJ b)=(a=b):=propext (List.map_inj_right fun _ _ h=>by omega)
theorem JI {a b:List Nat} (ha:a.length=120) (hb:b.length=120) {x y:Operand}:abin Tryz.prog .eql 78 x y (.agg (aQ a)) (.agg (aQ b))=some (.bool (decide (a=b))):=by
 rw [nY,nY,bQ,bQ,aBs aLz (by simpa [cJ] using ha) (by simpa [cJ] using hb)]
 simp only [EL]
structure LI (cw:List AV) (o2 o L:List Nat) (a n:Nat) (u:Nat->Option AObj) (ids:List Nat):Prop where
 g0:u 0=some (aX 0 cw)
 g1:u 1=some (aX 0 (aQ (List.replicate 120 0)))
 g2:u 2=some (aX 0 (aQ o2))
 ga:u a=some (aX 0 (aQ o))
 gb:u (a+1)=some (aX 0 (aQ L))
 ha:3<=a/\a+1<n
 nd:ids.Nodup
 dd:∀ d∈ids,d<n/\u d=some (.defs (some []))
theorem LI.keep {cw:List AV} {o2 o L:List Nat} {a n n':Nat} {u u':Nat->Option AObj} {ids:List Nat} (h:LI cw o2 o L a n u ids) (hn:n<=n') (hk:∀ id,id<n->u' id=u id):LI cw o2 o L a n' u' ids:=by
 have ha:=h.ha
 exact ⟨(hk _ (by omega)).trans h.g0,(hk _ (by omega)).trans h.g1,(hk _ (by omega)).trans h.g2,(hk _ (by omega)).trans h.ga,(hk _ (by omega)).trans h.gb,⟨ha.1,by omega⟩,h.nd,fun d hd=>⟨by have:=(h.dd d hd).1;omega,(hk _ (h.dd d hd).1).trans (h.dd d hd).2⟩⟩
abbrev aMa (os ts:AV):List Nat->Prop:=aEu ts.els.length (fun i=>bX os.els (bS ts i)) (DM os)
set_option maxHeartbeats 16000000 in
theorem YW (h:GW os ts us is no):Abs.Returns Tryz.prog 35 [dY os ts us is no] (.agg (aQ (cN os ts))):=by
 have huw:=h.g.und
 obtain ⟨c0,c1,c2,c3,c4⟩:=h.g.cells
 refine KR RQ aM (by kernel_rfl) Tryz.func35 Tryz.ntmps35 Tryz.results35 rfl rfl (aA huw.und aF) ?_
 have hz:List.replicate 120 (AV.int .i64 0)=aQ (List.replicate 120 0):=EK (v:=0)
 have hall:=fW (l:=List.replicate 120 0)
 simp +contextual +decide (maxSteps:=1000000) only [↓ wP,wQ,tf,Nat.reduceAdd,wS,reduceCtorEq,c0,c1,c2,c3,c4,hz,hall]
 have hcells:∀ {l:List Nat} {i:Nat},i<120->l.length=120->i<(aQ l).length:=fun h1 h2=>by rw [bH,h2];exact h1
 refine aP (fun i e=>∃ t low ob,e=⟨91,none,35,t,[],⟨3,low,ob⟩,.no⟩/\t.val 1=.ptr 0 0 0/\t.val 2=.ptr 1 0 0/\t.val 3=.ptr 2 0 0/\t.val 14=.int .i64 (i:Nat)/\ob.get 0=some (aX 0 [os,ts,us,is,no])/\ob.get 1=some (aX 0 (aQ (List.replicate 120 0)))/\ob.get 2=some (aX 0 (aQ (dK (fun i=>i) i)))/\i<=120) (fun i=>120-i) 0
  ⟨_,_,_,rfl,by simp +decide only [↓ aB,aE,aC],by simp +decide only [↓ aB,aE,aC],by simp +decide only [↓ aB,aE,aC],by simp +decide only [↓ aB,aE,aC];rfl,by simp +decide only [↓ aB,aJ,aC,ne_eq],by simp +decide only [↓ aB,aJ,aC,ne_eq],by rw [AL];exact by simp +decide only [↓ aB,aJ,aC,ne_eq],Nat.zero_le _⟩ ?_
 rintro i _ ⟨t,low,ob,rfl,t1,t2,t3,t14,g0,g1,g2,hi⟩
 rcases Nat.lt_or_ge i 120 with hlt | hge
 ·have k1:(((i:Nat):Int)<120)=True:=eq_true (by omega)
  have k1':(((i:Nat):Int)<((120:Nat):Int))=True:=eq_true (by omega)
  have k2:(0<=((i:Nat):Int))=True:=eq_true (by omega)
  have k3:=hcells hlt (xF (f:=fun i=>i) (i:=i))
  have k4:(aQ (dK (fun i=>i) i)).set i (.int .i64 (i:Nat))=aQ (dK (fun i=>i) (i+1)):=by rw [sJ,AM]
  have hw:IntKind.i64.wrap ((i:Int)+1)=((i+1:Nat):Int):=by rw [IntWalk.i64_in _ (by omega)];rfl
  simp +contextual +decide (maxSteps:=1000000) only [↓ wP,wQ,tf,Nat.reduceAdd,wS,reduceCtorEq,t1,t2,t3,t14,g0,g1,g2,k1,k1',k2,k3,k4,hw,gQ,Int.toNat_natCast,Nat.mul_one,Nat.zero_add]
  exact ⟨i+1,by show _-_<_-_;omega,_,_,_,rfl,by simp +decide only [↓ aB,aE,aC,t1],by simp +decide only [↓ aB,aE,aC,t2],by simp +decide only [↓ aB,aE,aC,t3],by simp +decide only [↓ aB,aE,aC],by simp +decide only [↓ aB,aJ,aC,ne_eq,g0],by simp +decide only [↓ aB,aJ,aC,ne_eq,g1],by simp +decide only [↓ aB,aJ,aC,ne_eq],hlt⟩
 ·obtain rfl:i=120:=Nat.le_antisymm hi hge
  rw [AN,List.map_id']at g2
  simp +contextual +decide (maxSteps:=1000000) only [↓ wP,wQ,tf,Nat.reduceAdd,wS,reduceCtorEq,t1,t2,t3,t14]
  have hm:ts.els.length<=120:=Nat.le_trans h.l h.ol
  have hst:Sl ts ts.els:=by
   obtain ⟨xs,hs,_⟩:=h.g.ts
   rw [hs.els];exact hs
  have hso:Sl os os.els:=by
   obtain ⟨xs,hs,_⟩:=h.g.os
   rw [hs.els];exact hs
  have hr0:aMa os ts (List.range 120):=by
   have e:∀ i,i<120->cW (List.range 120) i=i:=fun i hi=>by
    unfold cW;rw [List.getD_eq_getElem?_getD,List.getElem?_range hi];rfl
   exact ⟨by simp,fun i hi=>by rw [e i (by omega)];exact ⟨.refl i,Nat.le_refl _⟩,fun i _ h2=>e i h2⟩
  refine aP (α:=List Nat) (fun o e=>aMa os ts o/\∃ t n low ob ids,e=⟨91,none,35,t,ids.map .collected,⟨n,low,ob⟩,.no⟩/\t.val 1=.ptr 0 0 0/\t.val 2=.ptr 1 0 0/\t.val 3=.ptr 2 0 0/\ob.get 0=some (aX 0 [os,ts,us,is,no])/\ob.get 1=some (aX 0 (aQ (List.replicate 120 0)))/\ob.get 2=some (aX 0 (aQ o))/\
   3<=n/\ids.Nodup/\∀ d∈ids,2<d/\d<n/\ob.get d=some (.defs (some []))) List.sum (List.range 120)
   ⟨hr0,_,_,_,_,[],rfl,by simp +decide only [↓ aB,aE,aC,t1],by simp +decide only [↓ aB,aE,aC,t2],by simp +decide only [↓ aB,aE,aC,t3],by simp +decide only [↓ aB,aJ,aC,ne_eq,g0],by simp +decide only [↓ aB,aJ,aC,ne_eq,g1],by simp +decide only [↓ aB,aJ,aC,ne_eq,g2],Nat.le_refl _,List.nodup_nil,fun _ h=>nomatch h⟩ ?_
  clear t1 t2 t3 t14 g0 g1 g2 hi
  rintro o _ ⟨hL,t,n,low,ob,ids,rfl,t1,t2,t3,g0,g1,g2,hn,hnd,hids⟩
  have hol:o.length=120:=hL.1
  have f0:=lO (show 0<n by omega)
  have f1:=lO (show 1<n by omega)
  have f2:=lO (show 2<n by omega)
  have hlo:(aQ o).length=120:=by rw [bH,hol]
  have hao:=fW (l:=o)
  have hspl:cY (aQ (List.replicate 120 0)) 0 (aQ o)=aQ o:=pQ (by simp [bH,hol])
  have hlz:(aQ (List.replicate 120 0)).length=120:=by simp [bH]
  have hidn:∀ d∈ids,d≠n/\d≠n+1:=fun d hd=>by have:=(hids d hd).2.1;omega
  simp +contextual +decide (maxSteps:=1000000) only [↓ wP,wQ,tf,Nat.reduceAdd,wS,reduceCtorEq,t1,t2,t3,g0,g1,g2,f0,f1,f2,dA,hz,hall,hlo,hao,hlz,hspl,fN hlo]
  refine aP (fun i e=>∃ t low ob',e=⟨91,none,35,t,ids.map .collected,⟨n+1+1,low,ob'⟩,.no⟩/\t.val 1=.ptr 0 0 0/\t.val 2=.ptr 1 0 0/\t.val 3=.ptr 2 0 0/\t.val 5=.ptr n 0 0/\t.val 6=.ptr (n+1) 0 0/\t.val 22=.int .i64 (i:Nat)/\(∀ id,id<n->ob'.get id=ob.get id)/\ob'.get n=some (aX 0 (aQ o))/\ob'.get (n+1)=some (aX 0 (aQ (dK (fun _=>ts.els.length) i)))/\i<=120) (fun i=>120-i) 0
   ⟨_,_,_,rfl,by simp +decide only [↓ aB,aE,aC,t1],by simp +decide only [↓ aB,aE,aC,t2],by simp +decide only [↓ aB,aE,aC,t3],by simp +decide only [↓ aB,aE,aC],by simp +decide only [↓ aB,aE,aC],by simp +decide only [↓ aB,aE,aC];rfl,fun id hid=>by rw [Tr.get_set_ne _ _ (by omega),Tr.get_set_ne _ _ (by omega),Tr.get_set_ne _ _ (by omega)],by rw [Tr.get_set_ne _ _ (by omega),Tr.get_set_same],by rw [AL,Tr.get_set_same],Nat.zero_le _⟩ ?_
  clear t1 t2 t3
  rintro i _ ⟨t,low,ob',rfl,t1,t2,t3,t5,t6,t22,gk,gn,gl,hi⟩
  rcases Nat.lt_or_ge i 120 with hlt | hge
  ·have k1:(((i:Nat):Int)<120)=True:=eq_true (by omega)
   have k1':(((i:Nat):Int)<((120:Nat):Int))=True:=eq_true (by omega)
   have k2:(0<=((i:Nat):Int))=True:=eq_true (by omega)
   have k3:=hcells hlt (xF (f:=fun _=>ts.els.length) (i:=i))
   have k4:(aQ (dK (fun _=>ts.els.length) i)).set i (.int .i64 (ts.els.length:Nat))=aQ (dK (fun _=>ts.els.length) (i+1)):=by
    rw [sJ];exact congrArg aQ (AM (f:=fun _=>ts.els.length))
   have hw:IntKind.i64.wrap ((i:Int)+1)=((i+1:Nat):Int):=by rw [IntWalk.i64_in _ (by omega)];rfl
   have g0':=(gk 0 (by omega)).trans g0
   simp +contextual +decide (maxSteps:=1000000) only [↓ wP,wQ,tf,Nat.reduceAdd,wS,reduceCtorEq,t1,t2,t3,t5,t6,t22,g0',gl,k1,k1',k2,k3,k4,hw,c1,hst.len,f0,dA,gQ,Int.toNat_natCast,Nat.mul_one,Nat.zero_add]
   exact ⟨i+1,by show _-_<_-_;omega,_,_,_,rfl,by simp +decide only [↓ aB,aE,aC,t1],by simp +decide only [↓ aB,aE,aC,t2],by simp +decide only [↓ aB,aE,aC,t3],by simp +decide only [↓ aB,aE,aC,t5],by simp +decide only [↓ aB,aE,aC,t6],by simp +decide only [↓ aB,aE,aC],fun id hid=>by rw [Tr.get_set_ne _ _ (by omega)];exact gk id hid,by rw [Tr.get_set_ne _ _ (by omega)];exact gn,by simp +decide only [↓ aB,aJ,aC,ne_eq],hlt⟩
  ·obtain rfl:i=120:=Nat.le_antisymm hi hge
   have hfl:dK (fun _=>ts.els.length) 120=List.replicate 120 ts.els.length:=by
    rw [AN];exact List.ext_getElem (by rw [List.length_map,List.length_range,List.length_replicate]) fun i h1 h2=>by rw [List.getElem_replicate,List.getElem_map]
   rw [hfl]at gl
   have g0':=(gk 0 (by omega)).trans g0
   have hLI:LI [os,ts,us,is,no] o o (List.replicate 120 ts.els.length) n (n+1+1) ob'.get ids:=by
    refine ⟨g0',(gk 1 (by omega)).trans g1,(gk 2 (by omega)).trans g2,gn,gl,⟨hn,by omega⟩,hnd,fun d hd=>?_⟩
    obtain ⟨q1,q2,q3⟩:=hids d hd
    exact ⟨by omega,(gk d q2).trans q3⟩
   simp +contextual +decide (maxSteps:=1000000) only [↓ wP,wQ,tf,Nat.reduceAdd,wS,reduceCtorEq,t1,t2,t3,t5,t6,t22,g0',f0,dA,c1,hst.len]
   clear gk gn gl g0' g0 g1 g2 hnd hids hidn f0 f1 f2 hi
   generalize n=a at *
   refine aP (fun k e=>∃ t n low ob ids L,e=⟨91,none,35,t,ids.map .collected,⟨n,low,ob⟩,.no⟩/\t.val 1=.ptr 0 0 0/\t.val 2=.ptr 1 0 0/\t.val 3=.ptr 2 0 0/\t.val 5=.ptr a 0 0/\t.val 6=.ptr (a+1) 0 0/\t.val 32=ts/\t.val 33=.int .i64 (ts.els.length:Nat)/\t.val 34=.int .i64 (k:Nat)/\
    LI [os,ts,us,is,no] o o L a n ob.get ids/\LeastP ts.els.length o (iB (mQ os ts) (DM os) k 0) L/\k<=ts.els.length) (fun k=>ts.els.length-k) 0
    ⟨_,_,_,_,_,_,rfl,by simp +decide only [↓ aB,aE,aC,t1],by simp +decide only [↓ aB,aE,aC,t2],by simp +decide only [↓ aB,aE,aC,t3],by simp +decide only [↓ aB,aE,aC,t5],by simp +decide only [↓ aB,aE,aC,t6],by simp +decide only [↓ aB,aE,aC],by simp +decide only [↓ aB,aE,aC],by simp +decide only [↓ aB,aE,aC];rfl,hLI,JH,Nat.zero_le _⟩ ?_
   clear t1 t2 t3 t5 t6 t22 hLI
   rintro k _ ⟨t,n,low,ob,ids,L,rfl,t1,t2,t3,t5,t6,t32,t33,t34,hI,hP,hk⟩
   have hI':=hI
   obtain ⟨g0,g1,g2,ga,gb,ha,hnd,hdd⟩:=hI'
   have f0:=lO (show 0<n by omega)
   have f2:=lO (show 2<n by omega)
   have fa:=lO (show a<n by omega)
   have fb:=lO (show a+1<n by omega)
   rcases Nat.lt_or_ge k ts.els.length with hkt | hke
   ·obtain ⟨q1,q2⟩:=h.task hkt
    obtain ⟨r1,r2,r3⟩:=AO h hkt
    have hix:=fun {q:IntKind} {d:Option AV}=>OZ (k:=1) q2 rfl (q:=q) (d:=d)
    have k2:(0<=((k:Nat):Int))=True:=eq_true (by omega)
    have k3:(((k:Nat):Int)<((ts.els.length:Nat):Int))=True:=eq_true (by omega)
    have hre:=fun {σ:Sto}=>uZ (w:=dY os ts us is no) h.g.wd (bS ts k) σ
    have hit:=uC h.g.wd hso h.a q1 r1
    simp +contextual +decide (maxSteps:=1000000) only [↓ wP,wQ,tf,Nat.reduceAdd,wS,reduceCtorEq,t1,t2,t3,t5,t6,t32,t33,t34,g0,g2,ga,gb,f0,f2,fa,fb,dA,k2,k3,hst.idx,hix,hre]
    have e0:∀ id,id<n->((ob.set n (aX 0 [.int .i64 0])).set n (aX 0 [.int .i64 (k:Nat)])).get id=ob.get id:=fun id hid=>by rw [Tr.get_set_ne _ _ (by omega),Tr.get_set_ne _ _ (by omega)]
    have e1:((ob.set n (aX 0 [.int .i64 0])).set n (aX 0 [.int .i64 (k:Nat)])).get n=some (aX 0 [.int .i64 (k:Nat)]):=Tr.get_set_same _ _ _
    generalize (ob.set n (aX 0 [.int .i64 0])).set n (aX 0 [.int .i64 (k:Nat)])=ob1 at *
    have hI1:LI [os,ts,us,is,no] o o L a (n+1) ob1.get ids:=hI.keep (Nat.le_succ n) e0
    refine vD (xs:=(bQ (cJ (mQ os ts k))).map fun x=>[x]) (fun q Y u=>(∀ id,Y id->n+1<=id)/\n+1<=u.n/\(∀ id,id<n+1->id≠a+1->u.get id=ob1.get id)/\∃ L,LeastP ts.els.length o (iB (mQ os ts) (DM os) k q) L/\u.get (a+1)=some (aX 0 (aQ L))) (fun _ _ _=>False)
     (by simp +decide only [↓ aB];exact hit) ?_ (fun _ _ _ _ _ _ h=>h) (fun _ _ _ h=>h.elim) ⟨fun _ h=>h.elim,Nat.le_refl _,fun id hid _=>Sto.get_mk hid,L,hP.mono fun i n=>.rfl,(Sto.get_mk (show a+1<n+1 by omega)).trans hI1.gb⟩ ?_ ?_ (fun _ _ _ _ _ h=>h.elim) (fun _ _ _ _ _ _ h=>h.elim)
    ·rintro q Y Y' u u' hs ⟨j1,j2,j3,L,j4,j5⟩
     have hk:∀ id,id<n+1->u'.get id=u.get id:=fun id hid=>hs.2.2.2 id (by omega) (fun hy=>by have:=j1 id hy;omega) (by show ¬ id=n+1+1;omega)
     exact ⟨fun id hy=>(hs.2.1 id hy).elim (j1 id) fun h=>Nat.le_trans j2 h.1,Nat.le_trans j2 hs.2.2.1,fun id q1 q2=>(hk id q1).trans (j3 id q1 q2),L,j4,(hk _ (by omega)).trans j5⟩
    ·rintro q xr hxr Y ⟨nu,lu,ou⟩ hun hYd hYl hYb hgd hgl ⟨j1,j2,j3,L,j4,j5⟩
     obtain ⟨x,hx,rfl⟩:=RP hxr
     have hxA:x<os.els.length:=(jD.1 ((r2 x).1 (List.mem_of_getElem? hx))).1
     have hx120:x<120:=Nat.lt_of_lt_of_le hxA h.ol
     obtain ⟨ox,hDo,hmo,hgo,_,hixo,_,_⟩:=bK (k:=4) (fun x h=>tk_ob.len h) (vE h.g.os) (show os.els.length<=9223372036854775807 by have:=h.ol;omega) hxA
     have hsho:DM os x=shB ox:=by rw [DM,List.getD_eq_getElem?_getD,hgo];rfl
     have hsv:=fun {σ:Sto}=>yF hDo σ
     obtain ⟨_,cx,rfl,hcxl,hcxc⟩:=tk_ob ox hDo
     have hnu:n+1+1<nu:=hun
     have hYl':¬ Y (n+1+1):=hYl
     have v0:=lO (show 0<nu by omega)
     have v2:=lO (show 2<nu by omega)
     have vn:=lO (show n<nu by omega)
     have vb:=lO (show a+1<nu by omega)
     have vd:=lO (show n+1<nu by omega)
     have vl:=lO hnu
     have vv:n+1+1≠a+1/\a+1≠n+1+1/\n+1≠a+1/\a+1≠n+1/\n≠a+1/\a+1≠n:=by omega
     have w0:=(j3 0 (by omega) (by omega)).trans hI1.g0
     have w2:=(j3 2 (by omega) (by omega)).trans hI1.g2
     have wn:=(j3 n (by omega) (by omega)).trans e1
     rw [Sto.get_mk (show 0<nu by omega)]at w0
     rw [Sto.get_mk (show 2<nu by omega)]at w2
     rw [Sto.get_mk (show n<nu by omega)]at wn
     rw [Sto.get_mk (show a+1<nu by omega)]at j5
     rw [show ∀ low,(Sto.mk (n+1) low ob1).n=n+1 from fun _=>rfl]at hgd hgl
     rw [Sto.get_mk (show n+1<nu by omega)]at hgd
     rw [Sto.get_mk hnu]at hgl
     have y1:(0<=((x:Nat):Int))=True:=eq_true (by omega)
     have y2:(((x:Nat):Int)<((120:Nat):Int))=True:=eq_true (by omega)
     have y3:(((k:Nat):Int)<((120:Nat):Int))=True:=eq_true (by omega)
     have y4:=fK (qS (show x<L.length by rw [j4.1];exact hx120))
     have y5:=fK (qS (show k<o.length by rw [hol];omega))
     have y6:=aLy (a:=cW L x) (b:=cW o k)
     have y7:x<(aQ L).length:=by rw [bH,j4.1];exact hx120
     have y8:=sJ (l:=L) (i:=x) (v:=min (cW L x) (cW o k))
     refine ⟨_,rfl,?_⟩
     cases hb:shB (.agg cx) with
     | false=>
       rw [hb]at hsv hsho
       simp +contextual +decide (maxSteps:=1000000) only [↓ wP,wQ,tf,Nat.reduceAdd,wS,reduceCtorEq,hgl,hgd,t1,t3,t6,w0,v0,vl,vd,vv,f0,jJ,gX,Env.setS,hso.idx,hixo,hcxl,hsv,MT]
       refine ⟨⟨Nat.le_refl nu,fun id hy=>?_⟩,j1,j2,fun id h1 h2=>?_,L,j4.mono (EJ hx hsho),?_⟩
       ·rw [Sto.get_mk (hYb id hy),Sto.get_mk (hYb id hy),Tr.get_set_ne _ _ (fun e=>hYl' (by rw [<-e];exact hy))]
       ·rw [<-j3 id h1 h2,Sto.get_mk (show id<nu by omega),Sto.get_mk (show id<nu by omega),Tr.get_set_ne _ _ (by omega)]
       ·rw [Sto.get_mk (show a+1<nu by omega),Tr.get_set_ne _ _ (by omega)];exact j5
     | true=>
       rw [hb]at hsv hsho
       simp +contextual +decide (maxSteps:=1000000) only [↓ wP,wQ,tf,Nat.reduceAdd,wS,reduceCtorEq,hgl,hgd,t1,t3,t6,w0,w2,wn,j5,v0,v2,vn,vb,vl,vd,vv,f0,f2,fb,jJ,gX,Env.setS,hso.idx,hixo,hcxl,hsv,MT,k2,y1,y2,y3,y4,y5,y6,y7,y8,PA,gQ,Int.toNat_natCast,Nat.mul_one,Nat.zero_add]
       refine ⟨⟨Nat.le_refl nu,fun id hy=>?_⟩,j1,j2,fun id h1 h2=>?_,_,(j4.step (i:=k) hx120).mono (EI hx hsho),rfl⟩
       ·have:=j1 id hy
        rw [Sto.get_mk (hYb id hy),Sto.get_mk (hYb id hy),Tr.get_set_ne _ _ (by omega),Tr.get_set_ne _ _ (fun e=>hYl' (by rw [<-e];exact hy))]
       ·rw [<-j3 id h1 h2,Sto.get_mk (show id<nu by omega),Sto.get_mk (show id<nu by omega),Tr.get_set_ne _ _ h2,Tr.get_set_ne _ _ (by omega)]
    ·rintro Y ⟨nu,lu,ou⟩ hun hlow hgd ⟨j1,j2,j3,L,j4,j5⟩
     have hnu:n+1+1<nu:=hun
     have j2':n+1<=nu:=j2
     have hkk:∀ id,id<n+1->id≠a+1->ou.get id=ob1.get id:=fun id q1 q2=>by
      rw [<-j3 id q1 q2,Sto.get_mk (show id<nu by omega)]
     rw [Sto.get_mk (show a+1<nu by omega)]at j5
     have hgd':ou.get (n+1)=some (.defs (some [])):=by rw [<-hgd];exact (Sto.get_mk (show n+1<nu by omega)).symm
     have hI2:LI [os,ts,us,is,no] o o L a nu ou.get ((n+1)::ids):=by
      refine ⟨(hkk 0 (by omega) (by omega)).trans hI1.g0,(hkk 1 (by omega) (by omega)).trans hI1.g1,(hkk 2 (by omega) (by omega)).trans hI1.g2,(hkk a (by omega) (by omega)).trans hI1.ga,j5,⟨ha.1,by omega⟩,List.nodup_cons.2 ⟨fun hm=>by have:=(hdd _ hm).1;omega,hnd⟩,fun d hd=>?_⟩
      rcases List.mem_cons.1 hd with rfl | hd
      ·exact ⟨by omega,hgd'⟩
      ·obtain ⟨p1,p2⟩:=hdd d hd
       refine ⟨by omega,(hkk d (by omega) ?_).trans ((e0 d p1).trans p2)⟩
       rintro rfl
       rw [gb]at p2;cases p2
     have hw:IntKind.i64.wrap ((k:Int)+1)=((k+1:Nat):Int):=by rw [IntWalk.i64_in _ (by omega)];rfl
     have hlen:((bQ (cJ (mQ os ts k))).map fun x=>[x]).length=(mQ os ts k).length:=by simp [bQ,cJ]
     rw [hlen]at j4
     simp +contextual +decide (maxSteps:=1000000) only [↓ wP,wQ,tf,Nat.reduceAdd,wS,reduceCtorEq,t34,hw]
     exact ⟨k+1,by show _-_<_-_;omega,_,_,_,_,(n+1)::ids,L,rfl,by simp +decide only [↓ aB,aE,aC,t1],by simp +decide only [↓ aB,aE,aC,t2],by simp +decide only [↓ aB,aE,aC,t3],by simp +decide only [↓ aB,aE,aC,t5],by simp +decide only [↓ aB,aE,aC,t6],by simp +decide only [↓ aB,aE,aC,t32],by simp +decide only [↓ aB,aE,aC,t33],by simp +decide only [↓ aB,aE,aC],hI2,j4.mono JG,hkt⟩
   ·obtain rfl:k=ts.els.length:=Nat.le_antisymm hk hke
    simp +contextual +decide (maxSteps:=1000000) only [↓ wP,wQ,tf,Nat.reduceAdd,wS,reduceCtorEq,t1,t2,t3,t5,t6,t32,t33,t34,g0,f0,c1,hst.len,bE]
    have hLI:=hI
    have hLl:L.length=120:=hP.1
    have hPL:=hP
    clear g0 g1 g2 ga gb ha hnd hdd f0 f2 fa fb hI hP hk
    refine aP (fun k e=>∃ t n low ob ids o2,e=⟨91,none,35,t,ids.map .collected,⟨n,low,ob⟩,.no⟩/\t.val 1=.ptr 0 0 0/\t.val 2=.ptr 1 0 0/\t.val 3=.ptr 2 0 0/\t.val 5=.ptr a 0 0/\t.val 6=.ptr (a+1) 0 0/\t.val 60=ts/\t.val 61=.int .i64 (ts.els.length:Nat)/\t.val 62=.int .i64 (k:Nat)/\
     LI [os,ts,us,is,no] o2 o L a n ob.get ids/\NewP ts.els.length o L (iB (mQ os ts) (DM os) k 0) o2/\k<=ts.els.length) (fun k=>ts.els.length-k) 0
     ⟨_,_,_,_,_,o,rfl,by simp +decide only [↓ aB,aE,aC,t1],by simp +decide only [↓ aB,aE,aC,t2],by simp +decide only [↓ aB,aE,aC,t3],by simp +decide only [↓ aB,aE,aC,t5],by simp +decide only [↓ aB,aE,aC,t6],by simp +decide only [↓ aB,aE,aC],by simp +decide only [↓ aB,aE,aC],by simp +decide only [↓ aB,aE,aC];rfl,hLI,TW hol,Nat.zero_le _⟩ ?_
    clear t1 t2 t3 t5 t6 t32 t33 t34 hLI
    rintro k _ ⟨t,n,low,ob,ids,o2,rfl,t1,t2,t3,t5,t6,t60,t61,t62,hI,hP,hk⟩
    have hI':=hI
    obtain ⟨g0,g1,g2,ga,gb,ha,hnd,hdd⟩:=hI'
    have f0:=lO (show 0<n by omega)
    have f2:=lO (show 2<n by omega)
    have fa:=lO (show a<n by omega)
    have fb:=lO (show a+1<n by omega)
    rcases Nat.lt_or_ge k ts.els.length with hkt | hke
    ·obtain ⟨q1,q2⟩:=h.task hkt
     obtain ⟨r1,r2,r3⟩:=AO h hkt
     have hix:=fun {q:IntKind} {d:Option AV}=>OZ (k:=1) q2 rfl (q:=q) (d:=d)
     have k2:(0<=((k:Nat):Int))=True:=eq_true (by omega)
     have k3:(((k:Nat):Int)<((ts.els.length:Nat):Int))=True:=eq_true (by omega)
     have hre:=fun {σ:Sto}=>uZ (w:=dY os ts us is no) h.g.wd (bS ts k) σ
     have hit:=uC h.g.wd hso h.a q1 r1
     simp +contextual +decide (maxSteps:=1000000) only [↓ wP,wQ,tf,Nat.reduceAdd,wS,reduceCtorEq,t1,t2,t3,t5,t6,t60,t61,t62,g0,g2,ga,gb,f0,f2,fa,fb,dA,k2,k3,hst.idx,hix,hre]
     have e0:∀ id,id<n->((ob.set n (aX 0 [.int .i64 0])).set n (aX 0 [.int .i64 (k:Nat)])).get id=ob.get id:=fun id hid=>by rw [Tr.get_set_ne _ _ (by omega),Tr.get_set_ne _ _ (by omega)]
     have e1:((ob.set n (aX 0 [.int .i64 0])).set n (aX 0 [.int .i64 (k:Nat)])).get n=some (aX 0 [.int .i64 (k:Nat)]):=Tr.get_set_same _ _ _
     generalize (ob.set n (aX 0 [.int .i64 0])).set n (aX 0 [.int .i64 (k:Nat)])=ob1 at *
     have hI1:LI [os,ts,us,is,no] o2 o L a (n+1) ob1.get ids:=hI.keep (Nat.le_succ n) e0
     refine vD (xs:=(bQ (cJ (mQ os ts k))).map fun x=>[x]) (fun q Y u=>(∀ id,Y id->n+1<=id)/\n+1<=u.n/\(∀ id,id<n+1->id≠2->u.get id=ob1.get id)/\∃ o2,NewP ts.els.length o L (iB (mQ os ts) (DM os) k q) o2/\u.get 2=some (aX 0 (aQ o2))) (fun _ _ _=>False)
      (by simp +decide only [↓ aB];exact hit) ?_ (fun _ _ _ _ _ _ h=>h) (fun _ _ _ h=>h.elim) ⟨fun _ h=>h.elim,Nat.le_refl _,fun id hid _=>Sto.get_mk hid,o2,hP.mono fun i n=>.rfl,(Sto.get_mk (show 2<n+1 by omega)).trans hI1.g2⟩ ?_ ?_ (fun _ _ _ _ _ h=>h.elim) (fun _ _ _ _ _ _ h=>h.elim)
     ·rintro q Y Y' u u' hs ⟨j1,j2,j3,o2,j4,j5⟩
      have hk:∀ id,id<n+1->u'.get id=u.get id:=fun id hid=>hs.2.2.2 id (by omega) (fun hy=>by have:=j1 id hy;omega) (by show ¬ id=n+1+1;omega)
      exact ⟨fun id hy=>(hs.2.1 id hy).elim (j1 id) fun h=>Nat.le_trans j2 h.1,Nat.le_trans j2 hs.2.2.1,fun id q1 q2=>(hk id q1).trans (j3 id q1 q2),o2,j4,(hk _ (by omega)).trans j5⟩
     ·rintro q xr hxr Y ⟨nu,lu,ou⟩ hun hYd hYl hYb hgd hgl ⟨j1,j2,j3,o2,j4,j5⟩
      obtain ⟨x,hx,rfl⟩:=RP hxr
      have hxA:x<os.els.length:=(jD.1 ((r2 x).1 (List.mem_of_getElem? hx))).1
      have hx120:x<120:=Nat.lt_of_lt_of_le hxA h.ol
      obtain ⟨ox,hDo,hmo,hgo,_,hixo,_,_⟩:=bK (k:=4) (fun x h=>tk_ob.len h) (vE h.g.os) (show os.els.length<=9223372036854775807 by have:=h.ol;omega) hxA
      have hsho:DM os x=shB ox:=by rw [DM,List.getD_eq_getElem?_getD,hgo];rfl
      have hsv:=fun {σ:Sto}=>yF hDo σ
      obtain ⟨_,cx,rfl,hcxl,hcxc⟩:=tk_ob ox hDo
      have hnu:n+1+1<nu:=hun
      have hYl':¬ Y (n+1+1):=hYl
      have v0:=lO (show 0<nu by omega)
      have v2:=lO (show 2<nu by omega)
      have vn:=lO (show n<nu by omega)
      have vb:=lO (show a+1<nu by omega)
      have vd:=lO (show n+1<nu by omega)
      have vl:=lO hnu
      have vv:n+1+1≠a+1/\a+1≠n+1+1/\n+1≠a+1/\a+1≠n+1/\n≠a+1/\a+1≠n/\a+1≠2/\2≠a+1:=by omega
      have w0:=(j3 0 (by omega) (by omega)).trans hI1.g0
      have w2:=(j3 (a+1) (by omega) (by omega)).trans hI1.gb
      have wn:=(j3 n (by omega) (by omega)).trans e1
      rw [Sto.get_mk (show 0<nu by omega)]at w0
      rw [Sto.get_mk (show a+1<nu by omega)]at w2
      rw [Sto.get_mk (show n<nu by omega)]at wn
      rw [Sto.get_mk (show 2<nu by omega)]at j5
      rw [show ∀ low,(Sto.mk (n+1) low ob1).n=n+1 from fun _=>rfl]at hgd hgl
      rw [Sto.get_mk (show n+1<nu by omega)]at hgd
      rw [Sto.get_mk hnu]at hgl
      have y1:(0<=((x:Nat):Int))=True:=eq_true (by omega)
      have y2:(((x:Nat):Int)<((120:Nat):Int))=True:=eq_true (by omega)
      have y3:(((k:Nat):Int)<((120:Nat):Int))=True:=eq_true (by omega)
      have y4:=fK (qS (show x<L.length by rw [hLl];exact hx120))
      have y5:=fK (qS (show k<o2.length by rw [j4.1];omega))
      have y6:=aLy (a:=cW o2 k) (b:=cW L x)
      have y7:k<(aQ o2).length:=by rw [bH,j4.1];omega
      have y8:=sJ (l:=o2) (i:=k) (v:=min (cW o2 k) (cW L x))
      refine ⟨_,rfl,?_⟩
      cases hb:shB (.agg cx) with
      | false=>
        rw [hb]at hsv hsho
        simp +contextual +decide (maxSteps:=1000000) only [↓ wP,wQ,tf,Nat.reduceAdd,wS,reduceCtorEq,hgl,hgd,t1,t3,t6,w0,v0,vl,vd,vv,f0,jJ,gX,Env.setS,hso.idx,hixo,hcxl,hsv,MT]
        refine ⟨⟨Nat.le_refl nu,fun id hy=>?_⟩,j1,j2,fun id h1 h2=>?_,o2,j4.mono (EJ hx hsho),?_⟩
        ·rw [Sto.get_mk (hYb id hy),Sto.get_mk (hYb id hy),Tr.get_set_ne _ _ (fun e=>hYl' (by rw [<-e];exact hy))]
        ·rw [<-j3 id h1 h2,Sto.get_mk (show id<nu by omega),Sto.get_mk (show id<nu by omega),Tr.get_set_ne _ _ (by omega)]
        ·rw [Sto.get_mk (show 2<nu by omega),Tr.get_set_ne _ _ (by omega)];exact j5
      | true=>
        rw [hb]at hsv hsho
        simp +contextual +decide (maxSteps:=1000000) only [↓ wP,wQ,tf,Nat.reduceAdd,wS,reduceCtorEq,hgl,hgd,t1,t3,t6,w0,w2,wn,j5,v0,v2,vn,vb,vl,vd,vv,f0,f2,fb,jJ,gX,Env.setS,hso.idx,hixo,hcxl,hsv,MT,k2,y1,y2,y3,y4,y5,y6,y7,y8,PA,gQ,Int.toNat_natCast,Nat.mul_one,Nat.zero_add]
        refine ⟨⟨Nat.le_refl nu,fun id hy=>?_⟩,j1,j2,fun id h1 h2=>?_,_,(j4.step (i:=k) (n:=x) hkt (by omega)).mono (EI hx hsho),rfl⟩
        ·have:=j1 id hy
         rw [Sto.get_mk (hYb id hy),Sto.get_mk (hYb id hy),Tr.get_set_ne _ _ (by omega),Tr.get_set_ne _ _ (fun e=>hYl' (by rw [<-e];exact hy))]
        ·rw [<-j3 id h1 h2,Sto.get_mk (show id<nu by omega),Sto.get_mk (show id<nu by omega),Tr.get_set_ne _ _ h2,Tr.get_set_ne _ _ (by omega)]
     ·rintro Y ⟨nu,lu,ou⟩ hun hlow hgd ⟨j1,j2,j3,o2,j4,j5⟩
      have hnu:n+1+1<nu:=hun
      have j2':n+1<=nu:=j2
      have hkk:∀ id,id<n+1->id≠2->ou.get id=ob1.get id:=fun id q1 q2=>by
       rw [<-j3 id q1 q2,Sto.get_mk (show id<nu by omega)]
      rw [Sto.get_mk (show 2<nu by omega)]at j5
      have hgd':ou.get (n+1)=some (.defs (some [])):=by rw [<-hgd];exact (Sto.get_mk (show n+1<nu by omega)).symm
      have hI2:LI [os,ts,us,is,no] o2 o L a nu ou.get ((n+1)::ids):=by
       refine ⟨(hkk 0 (by omega) (by omega)).trans hI1.g0,(hkk 1 (by omega) (by omega)).trans hI1.g1,j5,(hkk a (by omega) (by omega)).trans hI1.ga,(hkk (a+1) (by omega) (by omega)).trans hI1.gb,⟨ha.1,by omega⟩,List.nodup_cons.2 ⟨fun hm=>by have:=(hdd _ hm).1;omega,hnd⟩,fun d hd=>?_⟩
       rcases List.mem_cons.1 hd with rfl | hd
       ·exact ⟨by omega,hgd'⟩
       ·obtain ⟨p1,p2⟩:=hdd d hd
        refine ⟨by omega,(hkk d (by omega) ?_).trans ((e0 d p1).trans p2)⟩
        rintro rfl
        rw [g2]at p2;cases p2
      have hw:IntKind.i64.wrap ((k:Int)+1)=((k+1:Nat):Int):=by rw [IntWalk.i64_in _ (by omega)];rfl
      have hlen:((bQ (cJ (mQ os ts k))).map fun x=>[x]).length=(mQ os ts k).length:=by simp [bQ,cJ]
      rw [hlen]at j4
      simp +contextual +decide (maxSteps:=1000000) only [↓ wP,wQ,tf,Nat.reduceAdd,wS,reduceCtorEq,t62,hw]
      exact ⟨k+1,by show _-_<_-_;omega,_,_,_,_,(n+1)::ids,o2,rfl,by simp +decide only [↓ aB,aE,aC,t1],by simp +decide only [↓ aB,aE,aC,t2],by simp +decide only [↓ aB,aE,aC,t3],by simp +decide only [↓ aB,aE,aC,t5],by simp +decide only [↓ aB,aE,aC,t6],by simp +decide only [↓ aB,aE,aC,t60],by simp +decide only [↓ aB,aE,aC,t61],by simp +decide only [↓ aB,aE,aC],hI2,j4.mono JG,hkt⟩
    ·obtain rfl:k=ts.els.length:=Nat.le_antisymm hk hke
     have ho2:o2.length=120:=hP.1
     have hlo2:(aQ o2).length=120:=by rw [bH,ho2]
     have hao2:=fW (l:=o2)
     have hnA:∀ i,i<ts.els.length->∀ n,n∈bX os.els (bS ts i)->n<120:=fun i _ n hm=>Nat.lt_of_lt_of_le (jD.1 hm).1 h.ol
     obtain ⟨z1,z2,z3,z4⟩:=TX (fun i hi n=>(AO h hi).2.1 n) hL hm hnA hPL hP
     have hcmp:=fun {x y:Operand}=>JI ho2 hol (x:=x) (y:=y)
     have f1:=lO (show 1<n by omega)
     by_cases he:o2=o
     ·subst he
      have hled:o2=cN os ts:=aEv (z4 rfl)
      have hcmp':=fun {x y:Operand}=>(JI ho2 ho2 (x:=x) (y:=y)).trans (by rw [decide_eq_true (rfl:o2=o2)]:_=some (AV.bool true))
      have hspl:cY (aQ (List.replicate 120 0)) 0 (aQ o2)=aQ o2:=pQ (by simp [bH,ho2])
      simp +contextual +decide (maxSteps:=1000000) only [↓ wP,wQ,tf,Nat.reduceAdd,wS,reduceCtorEq,t1,t2,t3,t5,t6,t60,t61,t62,g0,g1,g2,ga,f0,f1,f2,fa,bE,hlo2,hao2,fN hlo2,hcmp',hlz,hspl]
      have h2d:∀ d∈ids,2<d/\d<n/\ob.get d=some (.defs (some [])):=fun d hd=>by
       obtain ⟨p1,p2⟩:=hdd d hd
       have d0:d≠0:=by rintro rfl;rw [g0]at p2;cases p2
       have d1:d≠1:=by rintro rfl;rw [g1]at p2;cases p2
       have d2:d≠2:=by rintro rfl;rw [g2]at p2;cases p2
       exact ⟨by omega,p1,p2⟩
      obtain ⟨S,s1,s2,s3⟩:=yE ids ⟨n,Nat.min 1 low,ob.set 1 (aX 0 (aQ o2))⟩ hnd fun d hd=>by
       obtain ⟨p0,p1,p2⟩:=h2d d hd
       rw [Sto.get_mk p1,Tr.get_set_ne _ _ (by omega)];exact p2
      have hS1:S.get 1=some (aX 0 (aQ o2)):=by
       rw [s3 1 fun hm=>by have:=(h2d 1 hm).1;omega,Sto.get_mk (show 1<n by omega),Tr.get_set_same]
      refine ⟨rfl,S,s1,[.agg (aQ o2)],by simp +contextual +decide (maxSteps:=1000000) only [↓ wP,wQ,tf,Nat.reduceAdd,wS,reduceCtorEq,t2,hS1,hlo2,fN hlo2,gI,Option.bind_some],?_⟩
      rw [<-hled]
      exact .und _ (TA fun x hx=>by obtain ⟨_,_,rfl⟩:=List.mem_map.1 hx;exact aS)
     ·have hcmp':=fun {x y:Operand}=>(hcmp (x:=x) (y:=y)).trans (by rw [decide_eq_false he]:_=some (AV.bool false))
      simp +contextual +decide (maxSteps:=1000000) only [↓ wP,wQ,tf,Nat.reduceAdd,wS,reduceCtorEq,t1,t2,t3,t5,t6,t60,t61,t62,g0,g1,g2,ga,f0,f1,f2,fa,bE,hlo2,hao2,fN hlo2,hcmp',hlo,hao,fN hlo]
      refine ⟨o2,Nat.lt_of_le_of_ne z2 fun e=>he (z3 e),z1,_,_,_,_,ids,rfl,by simp +decide only [↓ aB,aE,aC,t1],by simp +decide only [↓ aB,aE,aC,t2],by simp +decide only [↓ aB,aE,aC,t3],g0,g1,g2,by omega,hnd,fun d hd=>?_⟩
      obtain ⟨p1,p2⟩:=hdd d hd
      have d0:d≠0:=by rintro rfl;rw [g0]at p2;cases p2
      have d1:d≠1:=by rintro rfl;rw [g1]at p2;cases p2
      have d2:d≠2:=by rintro rfl;rw [g2]at p2;cases p2
      exact ⟨by omega,p1,p2⟩
end
end
end Go.Proofs.YtdipddlhenoglaaGreat
