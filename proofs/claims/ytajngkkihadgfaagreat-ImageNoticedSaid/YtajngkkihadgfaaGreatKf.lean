/-
  Images, in plain words: changes of one page are noticed.
-/
import Derived.Test.YtajngkkihadgfaaGreatJg
import Derived.Test.YtajngkkihadgfaaGreatKa
set_option linter.unusedVariables false
set_option linter.unusedSimpArgs false
namespace Go.Proofs.YtajngkkihadgfaaGreat
open Go.Abs Go
set_option maxRecDepth 10000
def oU (p:Nat) (l:List Nat):Nat->Nat
 | 0=>p+1
 | i+1=>oU p l i+l.getD i 0
def wE (p:Nat) (l:List Nat):Nat->Nat
 | 0=>28*(p+1)
 | i+1=>wE p l i+(28-i)*l.getD i 0
def LF (p:Nat) (l:List Nat):Nat->Nat
 | 0=>0
 | i+1=>LF p l i+oU p l (i+1)
theorem TP (p:Nat) (l:List Nat):∀ i,i<=28->wE p l i=LF p l i+(28-i)*oU p l i
 | 0,_=>by simp [wE,LF,oU]
 | i+1,h=>by
   have ih:=TP p l i (by omega)
   obtain ⟨k,hk⟩:∃ k,28-i=k+1:=⟨27-i,by omega⟩
   have hk':28-(i+1)=k:=by omega
   simp only [wE,LF,ih,hk,hk']
   have:oU p l (i+1)=oU p l i+l.getD i 0:=rfl
   rw [this]
   simp only [Nat.add_mul,Nat.mul_add,Nat.one_mul]
   omega
theorem LG (p:Nat) (l:List Nat):∀ i,i<l.length->(l.take (i+1)).foldl step (p+1,0)=(oU p l (i+1)%257,LF p l (i+1)%257)
 | 0,h=>by
   rw [List.take_succ_eq_append_getElem h]
   simp only [List.take_zero,List.nil_append,List.foldl_cons,List.foldl_nil,step,oU,LF,bI h]
   ext<;>simp
 | i+1,h=>by
   rw [List.take_succ_eq_append_getElem h,List.foldl_append,LG p l i (by omega)]
   simp only [List.foldl_cons,List.foldl_nil,step]
   have e1:oU p l (i+1+1)=oU p l (i+1)+l[i+1]:=by rw [oU,bI h]
   have e2:LF p l (i+1+1)=LF p l (i+1)+oU p l (i+1+1):=rfl
   rw [e2,e1]
   ext<;>simp only []<;>omega
theorem WB (p:Nat) (l:List Nat) (h:l.length=32):dL p l=[oU p l 28%257/256,oU p l 28%257%256,wE p l 28%257/256,wE p l 28%257%256]:=by
 have e1:=LG p l 27 (by omega)
 have e2:=TP p l 28 (Nat.le_refl _)
 simp only [dL,XF,e1,Nat.reduceAdd]
 rw [e2];simp
theorem aKw {l:List Nat} (h:l.length=32):l.drop 28=[l.getD 28 0,l.getD 29 0,l.getD 30 0,l.getD 31 0]:=by
 match l,h with
 | [_,_,_,_,_,_,_,_,_,_,_,_,_,_,_,_,_,_,_,_,_,_,_,_,_,_,_,_,_,_,_,_],_=>rfl
theorem GW {p:Nat} {l:List Nat} (h:l.length=32):right p l=true↔l.getD 28 0=oU p l 28%257/256/\l.getD 29 0=oU p l 28%257%256/\l.getD 30 0=wE p l 28%257/256/\l.getD 31 0=wE p l 28%257%256:=by
 unfold right
 rw [WB p l h,aKw h,decide_eq_true_eq]
 simp only [List.cons.injEq,and_true]
 constructor
 ·rintro ⟨h1,h2,h3,h4⟩;exact ⟨h1.symm,h2.symm,h3.symm,h4.symm⟩
 ·rintro ⟨h1,h2,h3,h4⟩;exact ⟨h1.symm,h2.symm,h3.symm,h4.symm⟩
theorem aKx:∀ a,a<29->0<a->∃ b,b<257/\a*b%257=1:=by decide
theorem QA {a:Nat} {d k:Int} (h1:0<a) (h2:a<29) (hd:-255<=d) (hd':d<=255) (h:(a:Int)*d=257*k):d=0:=by
 obtain ⟨b,hb,e⟩:=aKx a h2 h1
 have e1:a*b=257*(a*b/257)+1:=by omega
 generalize a*b/257=t at e1
 have e2:((a:Int)*(b:Int))=257*(t:Int)+1:=by rw [<-Int.natCast_mul,e1];simp
 have e3:((a:Int)*(b:Int))*d=(b:Int)*(257*k):=by rw [<-h,Int.mul_comm (a:Int),Int.mul_assoc]
 rw [e2,Int.add_mul,Int.one_mul,Int.mul_assoc]at e3
 have e4:(b:Int)*(257*k)=257*((b:Int)*k):=by rw [<-Int.mul_assoc,Int.mul_comm (b:Int) 257,Int.mul_assoc]
 rw [e4]at e3
 generalize (b:Int)*k=x at e3
 generalize (t:Int)*d=y at e3
 omega
section
variable {p i j:Nat} {q r:List Nat} (hD:∀ m,m≠i->m≠j->q.getD m 0=r.getD m 0)
include hD
theorem LH:∀ n,(oU p q n:Int)=oU p r n+(if i<n then (q.getD i 0:Int)-r.getD i 0 else 0)+(if j<n/\j≠i then (q.getD j 0:Int)-r.getD j 0 else 0)
 | 0=>by simp [oU]
 | n+1=>by
   have ih:=LH n
   have h:=hD n
   simp only [oU,Int.natCast_add]
   by_cases h1:n=i
   ·subst h1
    rw [if_neg (by omega)]at ih
    rw [if_pos (by omega)]
    by_cases h2:j<n/\j≠n
    ·rw [if_pos h2]at ih;rw [if_pos (by omega)];omega
    ·rw [if_neg h2]at ih;rw [if_neg (by omega)];omega
   ·by_cases h2:n=j
    ·subst h2
     rw [if_neg (show ¬(n<n/\n≠i) by omega)]at ih
     rw [if_pos (show n<n+1/\n≠i by omega)]
     by_cases h3:i<n
     ·rw [if_pos h3]at ih;rw [if_pos (by omega)];omega
     ·rw [if_neg h3]at ih;rw [if_neg (by omega)];omega
    ·have h:=h h1 h2
     rw [ite_congr (show (i<n+1)=(i<n) from propext (by omega)) (fun _=>rfl) (fun _=>rfl),ite_congr (show (j<n+1/\j≠i)=(j<n/\j≠i) from propext (by omega)) (fun _=>rfl) (fun _=>rfl)]
     omega
theorem LI:∀ n,(wE p q n:Int)=wE p r n+(if i<n then ((28-i:Nat):Int)*((q.getD i 0:Int)-r.getD i 0) else 0)+(if j<n/\j≠i then ((28-j:Nat):Int)*((q.getD j 0:Int)-r.getD j 0) else 0)
 | 0=>by simp [wE]
 | n+1=>by
   have ih:=LI n
   have h:=hD n
   simp only [wE,Int.natCast_add,Int.natCast_mul]
   by_cases h1:n=i
   ·subst h1
    rw [if_neg (by omega)]at ih
    rw [if_pos (by omega),Int.mul_sub]
    generalize ((28-n:Nat):Int)*(q.getD n 0:Int)=x
    generalize ((28-n:Nat):Int)*(r.getD n 0:Int)=y
    by_cases h2:j<n/\j≠n
    ·rw [if_pos h2]at ih;rw [if_pos (by omega)];omega
    ·rw [if_neg h2]at ih;rw [if_neg (by omega)];omega
   ·by_cases h2:n=j
    ·subst h2
     rw [if_neg (show ¬(n<n/\n≠i) by omega)]at ih
     rw [if_pos (show n<n+1/\n≠i by omega),Int.mul_sub ((28-n:Nat):Int)]
     generalize ((28-n:Nat):Int)*(q.getD n 0:Int)=x
     generalize ((28-n:Nat):Int)*(r.getD n 0:Int)=y
     by_cases h3:i<n
     ·rw [if_pos h3]at ih;rw [if_pos (by omega)];omega
     ·rw [if_neg h3]at ih;rw [if_neg (by omega)];omega
    ·have h:=h h1 h2
     rw [ite_congr (show (i<n+1)=(i<n) from propext (by omega)) (fun _=>rfl) (fun _=>rfl),ite_congr (show (j<n+1/\j≠i)=(j<n/\j≠i) from propext (by omega)) (fun _=>rfl) (fun _=>rfl),h]
     omega
end
theorem byD {l:List Nat} (h:By l) (i:Nat):l.getD i 0<256:=by
 by_cases hi:i<l.length
 ·rw [bI hi];exact h _ (List.getElem_mem _)
 ·simp [List.getD_eq_getElem?_getD,hi]
theorem aAq {p i j:Nat} {q r:List Nat} (hq:q.length=32) (hr:r.length=32) (bq:By q) (br:By r) (hD:∀ m,m≠i->m≠j->q.getD m 0=r.getD m 0) (h1:right p q=true) (h2:right p r=true):q=r:=by
 have key:∀ i j:Nat,(∀ m,m≠i->m≠j->q.getD m 0=r.getD m 0)->(i<28∨28<=j)->q.getD i 0=r.getD i 0/\q.getD j 0=r.getD j 0:=by
  intro i j hD hij
  obtain ⟨a1,a2,a3,a4⟩:=(GW hq).1 h1
  obtain ⟨b1,b2,b3,b4⟩:=(GW hr).1 h2
  have sA:=LH (p:=p) hD 28
  have sB:=LI (p:=p) hD 28
  have q1:=byD bq i
  have q2:=byD bq j
  have r1:=byD br i
  have r2:=byD br j
  have d28:=hD 28
  have d29:=hD 29
  have d30:=hD 30
  have d31:=hD 31
  obtain ⟨d,hd⟩:∃ d:Int,d=(q.getD i 0:Int)-r.getD i 0:=⟨_,rfl⟩
  obtain ⟨e,he⟩:∃ e:Int,e=(q.getD j 0:Int)-r.getD j 0:=⟨_,rfl⟩
  rw [<-hd,<-he]at sA sB
  generalize oU p q 28=Aq at *
  generalize oU p r 28=Ar at *
  generalize wE p q 28=Bq at *
  generalize wE p r 28=Br at *
  by_cases hi:i<28
  ·rw [if_pos hi]at sA sB
   by_cases hj:j<28/\j≠i
   ·rw [if_pos hj]at sA sB
    have g1:=d28 (by omega) (by omega)
    have g2:=d29 (by omega) (by omega)
    have g3:=d30 (by omega) (by omega)
    have g4:=d31 (by omega) (by omega)
    have hA:∃ k:Int,d+e=257*k:=⟨(Aq/257:Int)-Ar/257,by omega⟩
    have hB:∃ k:Int,((28-i:Nat):Int)*d+((28-j:Nat):Int)*e=257*k:=⟨(Bq/257:Int)-Br/257,by omega⟩
    obtain ⟨k,hk⟩:=hA
    obtain ⟨l,hl⟩:=hB
    have he':e=257*k-d:=by omega
    have hd0:d=0:=by
     rw [he',Int.mul_sub]at hl
     have e1:((28-j:Nat):Int)*(257*k)=257*(((28-j:Nat):Int)*k):=by rw [<-Int.mul_assoc,Int.mul_comm _ (257:Int),Int.mul_assoc]
     rw [e1]at hl
     generalize ((28-j:Nat):Int)*k=x at hl
     rcases Nat.lt_or_ge i j with h | h
     ·have e2:((j-i:Nat):Int)*d=((28-i:Nat):Int)*d-((28-j:Nat):Int)*d:=by rw [<-Int.sub_mul];congr 1;omega
      exact QA (a:=j-i) (k:=l-x) (by omega) (by omega) (by omega) (by omega) (by omega)
     ·have e2:((i-j:Nat):Int)*d=((28-j:Nat):Int)*d-((28-i:Nat):Int)*d:=by rw [<-Int.sub_mul];congr 1;omega
      exact QA (a:=i-j) (k:=x-l) (by omega) (by omega) (by omega) (by omega) (by omega)
    omega
   ·rw [if_neg hj]at sA sB
    by_cases h0:d=0
    ·subst h0
     rw [Int.mul_zero]at sB
     refine ⟨by omega,?_⟩
     by_cases hji:j=i
     ·subst hji;omega
     ·have e1:Aq=Ar:=by omega
      have e2:Bq=Br:=by omega
      subst e1;subst e2
      by_cases hj32:j<32
      ·have:j=28∨j=29∨j=30∨j=31:=by omega
       rcases this with rfl | rfl | rfl | rfl<;>omega
      ·simp [List.getD_eq_getElem?_getD,show ¬ j<q.length by omega,show ¬ j<r.length by omega]
    ·exfalso
     have hne:¬ ∃ k:Int,((28-i:Nat):Int)*d=257*k:=fun ⟨k,hk⟩=>h0 (QA (by omega) (by omega) (by omega) (by omega) hk)
     have hB:Bq%257≠Br%257:=fun h=>hne ⟨(Bq/257:Int)-Br/257,by omega⟩
     have hA:Aq%257≠Ar%257:=by omega
     have g1:q.getD 28 0≠r.getD 28 0∨q.getD 29 0≠r.getD 29 0:=by omega
     have g2:q.getD 30 0≠r.getD 30 0∨q.getD 31 0≠r.getD 31 0:=by omega
     have k1:j=28∨j=29:=by
      rcases g1 with g | g
      ·exact .inl (Classical.byContradiction fun h=>g (d28 (by omega) (by omega)))
      ·exact .inr (Classical.byContradiction fun h=>g (d29 (by omega) (by omega)))
     rcases g2 with g | g
     ·exact g (d30 (by omega) (by omega))
     ·exact g (d31 (by omega) (by omega))
  ·have hj:28<=j:=by omega
   rw [if_neg hi,if_neg (by omega)]at sA sB
   have e1:Aq=Ar:=by omega
   have e2:Bq=Br:=by omega
   subst e1;subst e2
   have all:∀ m,28<=m->q.getD m 0=r.getD m 0:=fun m hm=>by
    by_cases hm32:m<32
    ·have:m=28∨m=29∨m=30∨m=31:=by omega
     rcases this with rfl | rfl | rfl | rfl<;>omega
    ·simp [List.getD_eq_getElem?_getD,show ¬ m<q.length by omega,show ¬ m<r.length by omega]
   exact ⟨all i (by omega),all j hj⟩
 have hij:q.getD i 0=r.getD i 0/\q.getD j 0=r.getD j 0:=by
  by_cases h:i<28∨28<=j
  ·exact key i j hD h
  ·have:=key j i (fun m h1 h2=>hD m h2 h1) (by omega)
   exact ⟨this.2,this.1⟩
 refine dT (d:=0) (by omega) fun m _=>?_
 by_cases hi:m=i
 ·subst hi;exact hij.1
 ·by_cases hj:m=j
  ·subst hj;exact hij.2
  ·exact hD m hi hj
end Go.Proofs.YtajngkkihadgfaaGreat
/-
 Images,in plain words: each object of a saved world is found;what is found when a page was changed.
-/
namespace Go.Proofs.YtajngkkihadgfaaGreat
open Go.Abs Go
set_option maxRecDepth 10000
theorem mC {s:List Nat} {a k j:Nat}:(aG s a k).getD j 0=if j<k then s.getD (a+j) 0 else 0:=by
 unfold aG
 rw [List.getD_eq_getElem?_getD,List.getElem?_take]
 split
 ·rw [List.getElem?_drop,List.getD_eq_getElem?_getD]
 ·rfl
theorem BZ {s t:List Nat} {a k:Nat} (hl:s.length=t.length) (h:∀ x,a<=x->x<a+k->s.getD x 0=t.getD x 0):aG s a k=aG t a k:=by
 refine dT (d:=0) (by simp [aG,hl]) fun j _=>?_
 rw [mC,mC]
 split
 ·exact h _ (by omega) (by omega)
 ·rfl
theorem AA {s:List Nat}:∀ i,i<=aF s->∀ x,x<28*i->(eS s i).getD x 0=(aP s (x/28)).getD (x%28) 0
 | 0,_,x,hx=>by omega
 | i+1,hi,x,hx=>by
   have hl:=gU (s:=s) (i:=i) (by omega)
   rw [mG,List.getD_eq_getElem?_getD]
   by_cases h:x<28*i
   ·rw [List.getElem?_append_left (by omega),<-List.getD_eq_getElem?_getD]
    exact AA i (by omega) x h
   ·rw [List.getElem?_append_right (by omega),hl,List.getElem?_take,if_pos (by omega),show x/28=i by omega,show x%28=x-28*i by omega,<-List.getD_eq_getElem?_getD]
theorem yR (s:List Nat):(aI s).length=28*aF s:=gU (Nat.le_refl _)
theorem CA {s:List Nat} {x:Nat}:(aI s).getD x 0=if x<28*aF s then (aP s (x/28)).getD (x%28) 0 else 0:=by
 split
 ·rename_i h;exact AA _ (Nat.le_refl _) x h
 ·rename_i h
  rw [List.getD_eq_getElem?_getD,List.getElem?_eq_none (by rw [yR];omega)];rfl
theorem qW {s:List Nat} {hi:Nat} (hR:∀ i,28*i<hi->bY s i=true):∀ k i l,∃ l',needsGo s hi k i l=some l'
 | 0,_,l=>⟨l,rfl⟩
 | k+1,i,l=>by
   unfold needsGo
   by_cases h:28*i<hi
   ·rw [if_pos h,if_pos (hR i h)];exact qW hR k _ _
   ·rw [if_neg h];exact ⟨l,rfl⟩
theorem aKb {f:Nat->List Nat} (hf:∀ i,(f i).length=2):∀ n k c,k<n->c<2->((List.range n).flatMap f).getD (2*k+c) 0=(f k).getD c 0
 | 0,k,c,h,_=>by omega
 | n+1,k,c,h,hc=>by
   have hl:((List.range n).flatMap f).length=2*n:=by
    clear h
    induction n with
    | zero=>rfl
    | succ n ih=>rw [List.range_succ,List.flatMap_append,List.length_append,ih];simp [hf];omega
   rw [List.range_succ,List.flatMap_append,List.getD_eq_getElem?_getD]
   have h1:(([n]:List Nat).flatMap f)=f n:=by simp
   rw [h1]
   by_cases hk:k<n
   ·rw [List.getElem?_append_left (by omega),<-List.getD_eq_getElem?_getD];exact aKb hf n k c hk hc
   ·rw [List.getElem?_append_right (by omega),hl,show k=n by omega,show 2*n+c-2*n=c by omega,<-List.getD_eq_getElem?_getD]
theorem yS (w:Wd) (n:Nat):(cR w n).length=2*n:=by
 unfold cR
 induction n with
 | zero=>rfl
 | succ n ih=>rw [List.range_succ,List.flatMap_append,List.length_append,ih];simp [CP];omega
theorem CB {w:Wd} {k:Nat} (h:k<w.objs.length):bR w (k+1)=bR w k++lJ (w.objs.getD k default)/\jD w=bR w k++(lJ (w.objs.getD k default)++(w.objs.drop (k+1)).flatMap lJ):=by
 constructor
 ·rw [bR,bR,List.take_succ_eq_append_getElem h,List.flatMap_append,bI h];simp
 ·have e:w.objs=w.objs.take k++(w.objs[k]::w.objs.drop (k+1)):=by rw [<-List.drop_eq_getElem_cons h,List.take_append_drop]
  rw [jD]
  conv=>lhs;rw [e]
  rw [List.flatMap_append,List.flatMap_cons,bI h];rfl
theorem CC (w:Wd):(bL w).length=dQ w+(jD w).length+(jC w).length:=by
 simp only [bL,List.length_append,yS,dQ];simp [fM]
theorem CD {w:Wd} (h:(bL w).length<=7168) {Z:List Nat} {k:Nat} (hk:k<=w.objs.length):aS (bL w++Z) (4+2*k)=dQ w+(bR w k).length:=by
 have hb:(bR w k).length<=(jD w).length:=by
  have:jD w=bR w k++(w.objs.drop k).flatMap lJ:=by
   rw [jD,bR,<-List.flatMap_append,List.take_append_drop]
  rw [this,List.length_append];omega
 have hsl:=CC w
 have hat:∀ c,c<2->(bL w++Z).getD (4+2*k+c) 0=(CP (dQ w+(bR w k).length)).getD c 0:=fun c hc=>by
  rw [<-aKb (f:=fun j=>CP (dQ w+(bR w j).length)) (fun _=>rfl) (w.objs.length+1) k c (by omega) hc]
  have ht:=yS w (w.objs.length+1)
  simp only [bL,List.append_assoc]
  rw [List.getD_eq_getElem?_getD,List.getElem?_append_right (by simp [fM];omega)]
  simp only [fM,List.length_cons,List.length_nil]
  rw [List.getElem?_append_left (by omega),show 4+2*k+c-(0+1+1+1+1)=2*k+c by omega,<-List.getD_eq_getElem?_getD];rfl
 have h0:=hat 0 (by omega)
 have h1:=hat 1 (by omega)
 unfold aS
 rw [Nat.add_zero]at h0
 rw [h0,h1]
 simp only [CP,List.getD_cons_zero,List.getD_cons_succ]
 omega
theorem QB {w:Wd} {Z:List Nat} {k:Nat} (hk:k<w.objs.length):aG (bL w++Z) (dQ w+(bR w k).length) (lJ (w.objs.getD k default)).length=lJ (w.objs.getD k default):=by
 have e:bL w++Z=(fM w++(cR w (w.objs.length+1)++bR w k))++(lJ (w.objs.getD k default)++((w.objs.drop (k+1)).flatMap lJ++(jC w++Z))):=by
  simp only [bL,(CB hk).2,List.append_assoc]
 have hl:(fM w++(cR w (w.objs.length+1)++bR w k)).length=dQ w+(bR w k).length:=by
  simp only [List.length_append,yS,dQ];simp [fM];omega
 rw [e,<-hl,aG,List.drop_left' rfl,List.take_left' rfl]
theorem tU {w:Wd} (h:sO w=true):w.objs.length<=120/\∀ k,k<w.objs.length->iS (w.objs.getD k default)=true/\kL (w.objs.length:Nat) (w.objs.getD k default)=true:=by
 unfold sO at h
 simp only [Bool.and_eq_true,decide_eq_true_eq]at h
 obtain ⟨⟨⟨⟨⟨⟨⟨⟨h1,_⟩,_⟩,_⟩,_⟩,h6⟩,_⟩,_⟩,_⟩:=h
 refine ⟨h1,fun k hk=>?_⟩
 have:=List.all_eq_true.1 h6 _ (List.getElem_mem hk)
 rw [bI hk]
 simpa only [wR,Bool.and_eq_true] using this
theorem aGk (o:Ob):0<(lJ o).length:=by simp [lJ]
structure Saved (s:List Nat) (w:Wd):Prop where
 ok:sO w=true
 len:(bL w).length<=7168
 eq:s=jS (bL w)
section
variable {s:List Nat} {w:Wd} (hS:Saved s w)
include hS
theorem gK:aF s=dD (bL w)/\0<aF s/\aF s<=256:=by
 obtain ⟨h4,h5⟩:=nB hS.len
 rw [hS.eq,lV h4];exact ⟨rfl,h5,h4⟩
theorem sT {i:Nat} (h:i<aF s):bY s i=true:=by
 obtain ⟨h4,h5⟩:=nB hS.len
 have hc:=(gK hS).1
 unfold bY
 rw [decide_eq_true h,Bool.true_and,hS.eq,rC (by omega)];exact AC _ _
theorem qX:aI s=bL w++List.replicate (28*aF s-(bL w).length) 0:=by
 obtain ⟨h4,h5⟩:=nB hS.len
 rw [(gK hS).1,hS.eq,AE h4]
theorem qY:yV s=true/\(aI s).getD 2 0=w.objs.length:=by
 have h1:=(tU hS.ok).1
 have e:aI s=72::70::(w.objs.length%256)::0::(cR w (w.objs.length+1)++(jD w++(jC w++List.replicate (28*aF s-(bL w).length) 0))):=by
  rw [qX hS];simp only [bL,fM,List.append_assoc,List.cons_append,List.nil_append]
 have e2:(aI s).getD 2 0=w.objs.length:=by rw [e];simp only [List.getD_cons_succ,List.getD_cons_zero];omega
 refine ⟨?_,e2⟩
 unfold yV
 rw [sT hS (gK hS).2.1,e2,e]
 simp [h1]
theorem QC {k:Nat} (hk:k<w.objs.length):∃ l,findO s k=some (w.objs.getD k default,l):=by
 obtain ⟨h120,hob⟩:=tU hS.ok
 obtain ⟨hc,hc0,_⟩:=gK hS
 have hR:∀ hi,hi<=(bL w).length->∀ i,28*i<hi->bY s i=true:=fun hi hh i h=>sT hS (by rw [hc];unfold dD;omega)
 have hsl:=CC w
 have hbs:=CB hk
 have hb1:(bR w (k+1)).length=(bR w k).length+(lJ (w.objs.getD k default)).length:=by rw [hbs.1,List.length_append]
 have hb2:(bR w (k+1)).length<=(jD w).length:=by rw [hb1,hbs.2,List.length_append,List.length_append];omega
 have hpos:=aGk (w.objs.getD k default)
 have hbn:dQ w=4+2*(w.objs.length+1):=rfl
 obtain ⟨l1,e1⟩:=qW (hR (8+2*k) (by omega)) (3000-(4+2*k)/28) ((4+2*k)/28) [0]
 obtain ⟨l2,e2⟩:=qW (hR (dQ w+(bR w (k+1)).length) (by omega)) (3000-(dQ w+(bR w k).length)/28) ((dQ w+(bR w k).length)/28) l1
 refine ⟨l2,?_⟩
 have e1':lL s (4+2*k) (8+2*k) [0]=some l1:=e1
 have e2':lL s (dQ w+(bR w k).length) (dQ w+(bR w (k+1)).length) l1=some l2:=e2
 unfold findO
 rw [e1']
 simp only
 have hp1:aS (aI s) (4+2*k)=dQ w+(bR w k).length:=by rw [qX hS];exact CD hS.len (by omega)
 have hp2:aS (aI s) (6+2*k)=dQ w+(bR w (k+1)).length:=by rw [qX hS,show 6+2*k=4+2*(k+1) by omega];exact CD hS.len (by omega)
 rw [hp1,hp2,(qY hS).2]
 unfold vH
 rw [if_neg (by omega),e2']
 simp only
 rw [show dQ w+(bR w (k+1)).length-(dQ w+(bR w k).length)=(lJ (w.objs.getD k default)).length by omega,qX hS,QB hk,DI (hob k hk).1]
 simp only
 rw [if_pos (hob k hk).2]
theorem LJ {k:Nat} (hk:k<w.objs.length):lH s (k:Nat)=sK (findO s k):=by
 have h1:=(tU hS.ok).1
 unfold lH
 rw [if_neg (by have:=(gK hS).2.1;omega),(qY hS).1,(qY hS).2,if_neg (by simp),if_neg (by simp only [jI,Bool.and_eq_false_iff,decide_eq_false_iff_not];omega)]
 rfl
end
structure Chd (s t:List Nat) (p:Nat):Prop where
 len:t.length=s.length
 same:∀ m,(m<32*p∨32*p+32<=m)->t.getD m 0=s.getD m 0
 bad:bY t p=false
 lt:p<aF s
section
variable {s t:List Nat} {p:Nat} (hC:Chd s t p)
include hC
theorem eX:aF t=aF s:=by unfold aF;rw [hC.len]
theorem CE {i:Nat} (h:i≠p):aP t i=aP s i:=BZ hC.len fun x h1 h2=>hC.same x (by omega)
theorem GX {i:Nat} (h:i≠p):bY t i=bY s i:=by unfold bY;rw [eX hC,CE hC h]
theorem CF {x:Nat} (h:x/28≠p):(aI t).getD x 0=(aI s).getD x 0:=by rw [CA,CA,eX hC,CE hC h]
theorem aAr:fL t=.tuple [FW yZ,.int .i64 4]:=by
 have h1:jB t=false:=by
  unfold jB
  rw [List.all_eq_false]
  refine ⟨p,List.mem_range.2 (by rw [eX hC];exact hC.lt),?_⟩
  have:=hC.bad
  unfold bY at this
  rw [decide_eq_true (by rw [eX hC];exact hC.lt),Bool.true_and]at this
  rw [this];simp
 unfold fL
 rw [if_neg (by rw [eX hC];have:=hC.lt;omega)]
 unfold rB
 rw [h1];simp
omit hC in
theorem oW:∀ k i (l l':List Nat) {hi:Nat},needsGo s hi k i l=some l'->∀ x∈l,x∈l'
 | 0,_,l,l',_,h=>by cases h;exact fun _ h=>h
 | k+1,i,l,l',hi,h=>by
   unfold needsGo at h
   split at h
   ·split at h
    ·intro x hx
     exact oW k (i+1) _ l' h x (by unfold fH;split;exact List.mem_append_left _ hx;exact hx)
    ·cases h
   ·cases h;exact fun _ h=>h
theorem vD {hi:Nat}:∀ k i (l l':List Nat),needsGo s hi k i l=some l'->l≠[]->l.getD (l.length-1) 0<=i->
 ((i<=p/\p<i+k/\28*p<hi)->needsGo t hi k i l=none/\p∈l')/\(¬(i<=p/\p<i+k/\28*p<hi)->needsGo t hi k i l=some l'/\(p∈l'↔p∈l))
 | 0,i,l,l',h,_,_=>by
   cases h
   exact ⟨fun h=>by omega,fun _=>⟨rfl,Iff.rfl⟩⟩
 | k+1,i,l,l',h,hl,hlast=>by
   unfold needsGo at h ⊢
   split at h
   rotate_left
   ·rename_i hh
    cases h
    rw [if_neg hh]
    exact ⟨fun h=>by omega,fun _=>⟨rfl,Iff.rfl⟩⟩
   rename_i hh
   rw [if_pos hh]
   split at h
   rotate_left
   ·cases h
   rename_i hr
   have hmem:i∈fH l i:=by
    unfold fH
    split
    ·simp
    ·rename_i h0
     have hlen:l.length-1<l.length:=by
      have:=List.length_pos_iff.2 hl;omega
     have:l.getD (l.length-1) 0=i:=by omega
     rw [bI hlen]at this
     rw [<-this];exact List.getElem_mem _
   have hadd:fH l i≠[]:=fun e=>by rw [e]at hmem;cases hmem
   have hlast':(fH l i).getD ((fH l i).length-1) 0<=i+1:=by
    unfold fH
    split
    ·rw [List.length_append,List.length_singleton,Nat.add_sub_cancel,List.getD_eq_getElem?_getD,List.getElem?_append_right (Nat.le_refl _)];simp
    ·omega
   by_cases hip:i=p
   ·subst hip
    rw [hC.bad]
    refine ⟨fun _=>⟨by simp,oW k (i+1) _ l' h i hmem⟩,fun h=>absurd ⟨Nat.le_refl _,by omega,hh⟩ h⟩
   ·rw [GX hC hip,if_pos hr]
    obtain ⟨g1,g2⟩:=vD k (i+1) (fH l i) l' h hadd hlast'
    refine ⟨fun h=>g1 (by omega),fun h=>?_⟩
    obtain ⟨q1,q2⟩:=g2 (by omega)
    refine ⟨q1,q2.trans ?_⟩
    unfold fH
    split
    ·rw [List.mem_append,List.mem_singleton]
     exact ⟨fun h=>h.elim id fun e=>absurd e.symm hip,.inl⟩
    ·exact Iff.rfl
omit hC in
theorem needsGo_last {hi B:Nat} (hB:∀ i,28*i<hi->i<=B):∀ k i (l l':List Nat),needsGo s hi k i l=some l'->l.getD (l.length-1) 0<=B->l'.getD (l'.length-1) 0<=B
 | 0,_,l,l',h,hl=>by cases h;exact hl
 | k+1,i,l,l',h,hl=>by
   unfold needsGo at h
   split at h
   ·rename_i hh
    split at h
    ·refine needsGo_last hB k (i+1) _ l' h ?_
     unfold fH
     split
     ·rw [List.length_append,List.length_singleton,Nat.add_sub_cancel,List.getD_eq_getElem?_getD,List.getElem?_append_right (Nat.le_refl _)];simp [hB i hh]
     ·exact hl
    ·cases h
   ·cases h;exact hl
theorem aAs (hb:By s) {k:Nat} {o:Ob} {l:List Nat} (h0:yV s=true) (hk:k<(aI s).getD 2 0) (hf:findO s k=some (o,l)):
 (p∈l->lH t (k:Nat)=sK none)/\(p∉l->lH t (k:Nat)=sK (some (o,l))):=by
 have hlt:=hC.lt
 have hm:(aI s).getD 2 0<=120:=by
  unfold yV at h0
  simp only [Bool.and_eq_true,decide_eq_true_eq]at h0
  exact h0.1.2
 have hf0:=hf
 unfold findO at hf
 cases h1:lL s (4+2*k) (8+2*k) [0] with
 | none=>rw [h1]at hf;cases hf
 | some l1=>
 rw [h1]at hf
 simp only at hf
 unfold vH at hf
 split at hf
 ·cases hf
 rename_i hab
 cases h2:lL s (aS (aI s) (4+2*k)) (aS (aI s) (6+2*k)) l1 with
 | none=>rw [h2]at hf;cases hf
 | some l2=>
 rw [h2]at hf
 simp only at hf
 cases h3:hG (aG (aI s) (aS (aI s) (4+2*k)) (aS (aI s) (6+2*k)-aS (aI s) (4+2*k))) with
 | none=>rw [h3]at hf;cases hf
 | some o'=>
 rw [h3]at hf
 simp only at hf
 split at hf
 rotate_left
 ·cases hf
 rename_i hin
 cases hf
 have hsub2:=oW _ _ _ _ h2
 have hl1:l1≠[]:=((mE _ _ _ _ h1).2.1).resolve_right (by simp)
 by_cases hp0:p=0
 ·-- the first page
  have h0l:0∈l:=hsub2 0 (oW _ _ _ _ h1 0 (by simp))
  refine ⟨fun _=>?_,fun h=>absurd (by rw [hp0];exact h0l) h⟩
  unfold lH
  rw [if_neg (by rw [eX hC];omega),if_pos]
  unfold yV
  have:=hC.bad
  rw [hp0]at this
  rw [this];simp
 have hd:∀ x,x<28->(aI t).getD x 0=(aI s).getD x 0:=fun x hx=>CF hC (by omega)
 have hF:lH t (k:Nat)=sK (findO t k):=by
  have e0:yV t=true:=by
   unfold yV at h0 ⊢
   rw [GX hC (by omega),hd 0 (by omega),hd 1 (by omega),hd 2 (by omega),hd 3 (by omega)];exact h0
  unfold lH
  rw [if_neg (by rw [eX hC];omega),e0,hd 2 (by omega),if_neg (by simp),if_neg (by simp only [jI,Bool.and_eq_false_iff,decide_eq_false_iff_not];omega)]
  rfl
 rw [hF]
 obtain ⟨g1,g2⟩:=vD hC _ _ _ _ h1 (by simp) (by simp)
 by_cases v1:(4+2*k)/28<=p/\p<(4+2*k)/28+(3000-(4+2*k)/28)/\28*p<8+2*k
 ·obtain ⟨q1,q2⟩:=g1 v1
  refine ⟨fun _=>?_,fun h=>absurd (hsub2 p q2) h⟩
  unfold findO
  have q1':lL t (4+2*k) (8+2*k) [0]=none:=q1
  rw [q1']
 obtain ⟨q1,q2⟩:=g2 v1
 have q1':lL t (4+2*k) (8+2*k) [0]=some l1:=q1
 have hpl:aS (aI t) (4+2*k)=aS (aI s) (4+2*k)/\aS (aI t) (6+2*k)=aS (aI s) (6+2*k):=by
  have e:∀ x,4+2*k<=x->x<8+2*k->(aI t).getD x 0=(aI s).getD x 0:=fun x hx hx'=>CF hC fun e=>v1 (by omega)
  unfold aS
  rw [e _ (by omega) (by omega),e _ (by omega) (by omega),e (6+2*k) (by omega) (by omega),e (6+2*k+1) (by omega) (by omega)]
  exact ⟨rfl,rfl⟩
 have hpn:p∉l1:=fun h=>by
  have:=q2.1 h
  simp at this;exact hp0 this
 have hlast:l1.getD (l1.length-1) 0<=aS (aI s) (4+2*k)/28:=
  needsGo_last (fun i hi=>by omega) _ _ _ _ h1 (by simp)
 have hfo:findO t k=vH t ((aI s).getD 2 0) (aS (aI s) (4+2*k)) (aS (aI s) (6+2*k)) l1:=by
  unfold findO
  rw [q1']
  simp only
  rw [hpl.1,hpl.2,hd 2 (by omega)]
 rw [hfo]
 unfold vH
 rw [if_neg hab]
 obtain ⟨g3,g4⟩:=vD hC _ _ _ _ h2 hl1 hlast
 have hb6:aS (aI s) (6+2*k)<=28*aF s:=by
  have:=mE _ _ _ _ h2
  by_cases hbig:aS (aI s) (6+2*k)<=28*aF s
  ·exact hbig
  ·exfalso
   have hr:=this.1
   have hc:aF s<=256:=gV s
   have hsel:∃ j,aS (aI s) (4+2*k)/28<=j/\28*j<aS (aI s) (6+2*k)/\j<aS (aI s) (4+2*k)/28+(3000-aS (aI s) (4+2*k)/28)/\aF s<=j:=by
    by_cases hA:aS (aI s) (4+2*k)/28<=aF s
    ·exact ⟨aF s,hA,by omega,by omega,Nat.le_refl _⟩
    ·have:=qC (tX hb (aF s)) (4+2*k)
     have:aS (aI s) (4+2*k)<65536:=this
     exact ⟨aS (aI s) (4+2*k)/28,Nat.le_refl _,by omega,by omega,by omega⟩
   obtain ⟨j,j1,j2,j3,j4⟩:=hsel
   have:=hr j j1 j2 j3
   unfold bY at this
   rw [decide_eq_false (by omega)]at this
   simp at this
 by_cases v2:aS (aI s) (4+2*k)/28<=p/\p<aS (aI s) (4+2*k)/28+(3000-aS (aI s) (4+2*k)/28)/\28*p<aS (aI s) (6+2*k)
 ·obtain ⟨q3,q4⟩:=g3 v2
  refine ⟨fun _=>?_,fun h=>absurd q4 h⟩
  have q3':lL t (aS (aI s) (4+2*k)) (aS (aI s) (6+2*k)) l1=none:=q3
  rw [q3']
 obtain ⟨q3,q4⟩:=g4 v2
 have q3':lL t (aS (aI s) (4+2*k)) (aS (aI s) (6+2*k)) l1=some l:=q3
 refine ⟨fun h=>absurd (q4.1 h) hpn,fun _=>?_⟩
 rw [q3']
 simp only
 have hls:aG (aI t) (aS (aI s) (4+2*k)) (aS (aI s) (6+2*k)-aS (aI s) (4+2*k))=aG (aI s) (aS (aI s) (4+2*k)) (aS (aI s) (6+2*k)-aS (aI s) (4+2*k)):=by
  refine BZ (by rw [yR,yR,eX hC]) fun x h1 h2=>CF hC fun e=>v2 ?_
  have hc:aF s<=256:=gV s
  omega
 rw [hls,h3]
 simp only
 rw [if_pos hin]
end
end Go.Proofs.YtajngkkihadgfaaGreat
/-
 The law 'ImageNoticed': its function returns true.
-/
namespace Go.Proofs.YtajngkkihadgfaaGreat
open Go.Abs Go Go.Abs.TryzF
noncomputable section
set_option maxRecDepth 10000
def AZ (p:Nat) (s:List Nat) (x:Nat × Nat):List Nat:=s.set (32*p+x.1%32) ((s.getD (32*p+x.1%32) 0+x.2)%256)
def wF (p:Nat) (s:List Nat) (x y:Nat × Nat):List Nat:=AZ p (AZ p s x) y
theorem LK {l:List Nat} {i j v:Nat} (h:j≠i):(l.set i v).getD j 0=l.getD j 0:=by
 rw [List.getD_eq_getElem?_getD,List.getElem?_set_ne (by omega),List.getD_eq_getElem?_getD]
theorem LL {p:Nat} {s:List Nat} {x y:Nat × Nat}:(wF p s x y).length=s.length:=by simp [wF,AZ]
theorem TQ {p:Nat} {s:List Nat} {x:Nat × Nat} (h:By s):By (AZ p s x):=fun b hb=>by
 unfold AZ at hb
 rcases List.mem_or_eq_of_mem_set hb with h1 | rfl
 ·exact h b h1
 ·exact Nat.mod_lt _ (by omega)
theorem TR {p:Nat} {s:List Nat} {x y:Nat × Nat} (h:By s):By (wF p s x y):=TQ (TQ h)
theorem GY {p:Nat} {s:List Nat} {x y:Nat × Nat} {m:Nat} (h1:m≠32*p+x.1%32) (h2:m≠32*p+y.1%32):(wF p s x y).getD m 0=s.getD m 0:=by
 unfold wF AZ
 rw [LK h2,LK h1]
theorem LM {s:List Nat} {p:Nat} (h:p<aF s):(aP s p).length=32:=by
 have:32*(p+1)<=s.length:=by unfold aF at h;split at h<;>omega
 simp [aP,aG];omega
theorem TS {s:List Nat} {p:Nat} (h:By s):By (aP s p):=fun b hb=>h b (List.mem_of_mem_drop (List.mem_of_mem_take hb))
theorem aGl {p:Nat} {s:List Nat} {x y:Nat × Nat} (hb:By s) (hp:p<aF s) (hr:right p (aP s p)=true) (hne:wF p s x y≠s):Chd s (wF p s x y) p:=by
 have hlen:=LL (p:=p) (s:=s) (x:=x) (y:=y)
 have hsame:∀ m,(m<32*p∨32*p+32<=m)->(wF p s x y).getD m 0=s.getD m 0:=fun m hm=>GY (by omega) (by omega)
 have hc:aF (wF p s x y)=aF s:=by unfold aF;rw [hlen]
 refine ⟨hlen,hsame,?_,hp⟩
 unfold bY
 rw [decide_eq_true (by rw [hc];exact hp),Bool.true_and]
 cases h:right p (aP (wF p s x y) p) with
 | false=>rfl
 | true=>
   exfalso
   have hpg:=aAq (p:=p) (i:=x.1%32) (j:=y.1%32) (LM (by rw [hc];exact hp)) (LM hp) (TS (TR hb)) (TS hb) (fun m h1 h2=>by
    unfold aP
    rw [mC,mC]
    split
    ·exact GY (by omega) (by omega)
    ·rfl) h hr
   refine hne (dT (d:=0) hlen fun m _=>?_)
   by_cases hm:m<32*p∨32*p+32<=m
   ·exact hsame m hm
   ·have:=congrArg (fun l=>l.getD (m-32*p) 0) hpg
    simp only [aP,mC]at this
    rw [if_pos (by omega),if_pos (by omega),show p*32+(m-32*p)=m by omega]at this
    exact this
theorem CG {p:Nat} {f:Nat->Bool}:∀ n,p<n->(∀ i,i<n->i≠p->f i=false)->f p=true->(List.range n).filter f=[p]
 | 0,h,_,_=>by omega
 | n+1,h,h1,h2=>by
   rw [List.range_succ,List.filter_append]
   by_cases hp:p=n
   ·subst hp
    have e:(List.range p).filter f=[]:=by
     rw [List.filter_eq_nil_iff]
     intro i hi
     have:=List.mem_range.1 hi
     rw [h1 i (by omega) (by omega)];simp
    rw [e];simp [h2]
   ·rw [CG n (by omega) (fun i hi hn=>h1 i (by omega) hn) h2]
    simp [h1 n (by omega) (by omega)]
theorem aAt {s t:List Nat} {p:Nat} (hC:Chd s t p) (hR:∀ i,i<aF s->right i (aP s i)=true):FZ t=.tuple [mF [p],.int .i64 0]:=by
 have hc:=eX hC
 have hlt:=hC.lt
 unfold FZ
 rw [if_neg (by omega)]
 have:bad t=[p]:=by
  unfold bad iQ
  refine CG _ (by omega) (fun i hi hn=>?_) ?_
  ·rw [CE hC hn,hR i (by omega)];rfl
  ·have:=hC.bad
   unfold bY at this
   rw [decide_eq_true (by omega),Bool.true_and]at this
   rw [this];rfl
 rw [this]
theorem aAu {s:List Nat} (h:aF s≠0) (hR:∀ i,i<aF s->right i (aP s i)=true):FZ s=.tuple [.nils,.int .i64 0]:=by
 unfold FZ
 rw [if_neg h]
 have:bad s=[]:=by
  unfold bad iQ
  rw [List.filter_eq_nil_iff]
  intro i hi
  rw [hR i (List.mem_range.1 hi)];simp
 rw [this];rfl
theorem QD {O:bW} {fn:Func} {nt:Nat} {f:FuncId} {t:Tr AV} {s:Sto} {v:AV} {K:CRes->Prop} (hr:aZ Tryz.prog ⟨nt,none,f,t,[],⟨s.n,s.n,s.o⟩,.no⟩ fn.results.toList=some [v]) (hu:v.under s.n 100=true) (h:K (.ret v none)):
 bodyK Tryz.prog O fn (clR s fun res _=>K res) .ret ⟨nt,none,f,t,[],⟨s.n,s.n,s.o⟩,.no⟩:=by
 refine iU rfl hr ?_
 show K (.ret v (cX s v _))
 rw [mJ (Nat.le_refl _) hu rfl]
 exact h
theorem aAv {O:bW} {s:Sto} {a b:AV} (ho:O 26 [a,b] s=none) {xs ys:List Nat} {K:CRes->Prop} (ha:Rd Tryz.prog s 37 3 a (xs.map gS)) (hb:Rd Tryz.prog s 37 3 b (ys.map gS)) (hx:xs.length<4611686018427387904) (hy:ys.length<4611686018427387904) (hK:K (.ret (.bool (decide (xs=ys))) none)):
 Wcall Tryz.prog O (.func (.func 26) [] []) [a,b] s K:=by
 refine iN ho (by kernel_rfl) Tryz.func26 rfl (Wk.sound (H:=aQ) ?_)
 show Wk _ _ _ _ ⟨26,none,26,Tr.leaf.lay 0 [a,b],[],⟨s.n,s.n,s.o⟩,.no⟩ _
 have hc:(((xs.length:Nat):Int)=(ys.length:Nat))=(xs.length=ys.length):=propext (by omega)
 simp +contextual +decide (maxSteps:=1000000) only [↓ wP,wQ,tf,Nat.reduceAdd,ne_eq,ha.len,hb.len,List.length_map,hc]
 refine ⟨fun h=>?_,fun h=>?_⟩
 ·refine QD (v:=.bool false) (by rw [Tryz.results26];simp +decide only [↓ aB,aD,aC]) rfl ?_
  rwa [decide_eq_false]at hK
  rintro rfl;exact h rfl
 refine bU (fun i e=>∃ t,e=⟨26,none,26,t,[],⟨s.n,s.n,s.o⟩,.no⟩/\t.val 0=a/\t.val 1=b/\t.val 12=.int .i64 (xs.length:Nat)/\t.val 13=.int .i64 (i:Nat)/\i<=xs.length/\∀ j,j<i->xs.getD j 0=ys.getD j 0) (fun i=>xs.length-i) 0
  ⟨_,rfl,by simp +decide only [↓ aB,aD,aC],by simp +decide only [↓ aB,aD,aC],by simp +decide only [↓ aB,aD,aC];rw [h],by simp +decide only [↓ aB,aD,aC];rfl,Nat.zero_le _,fun j hj=>by omega⟩ ?_
 rintro i _ ⟨t,rfl,h0,h1,h12,h13,hi,hpre⟩
 by_cases hlt:i<xs.length
 ·have hlt':i<ys.length:=by omega
  have d1:(i:Int)<(xs.length:Nat):=by omega
  have d5:=aW (i:=i) (by omega)
  obtain ⟨ad,p1,p2,p3⟩:=ha.at_ i (gS (xs.getD i 0)) (by simp [hlt])
  obtain ⟨bd,q1,q2,q3⟩:=hb.at_ i (gS (ys.getD i 0)) (by simp [hlt'])
  have p2:∀ {l:List Nat} {N:List (Nat × Nat)} {i:Nat},fF (keptY s.n l N i) ad:=fun {_ _ _}=>p2 _ fun _ h=>.inl h
  have q2:∀ {l:List Nat} {N:List (Nat × Nat)} {i:Nat},fF (keptY s.n l N i) bd:=fun {_ _ _}=>q2 _ fun _ h=>.inl h
  have p4:=p3 ⟨s.n,s.n,s.o⟩ (fun _ _=>rfl)
  have q4:=q3 ⟨s.n,s.n,s.o⟩ (fun _ _=>rfl)
  have hcc:(((xs.getD i 0:Nat):Int)=(ys.getD i 0:Nat))=(xs.getD i 0=ys.getD i 0):=propext (by omega)
  simp +contextual +decide (maxSteps:=1000000) only [↓ wP,wQ,tf,Nat.reduceAdd,ne_eq,h0,h1,h12,h13,d1,d5,p1,p2,p4,q1,q2,q4,gS,hcc]
  refine ⟨fun hne=>?_,fun he=>⟨i+1,by show _-_<_-_;omega,_,rfl,by simp +decide only [↓ aB,aD,aC,h0],by simp +decide only [↓ aB,aD,aC,h1],by simp +decide only [↓ aB,aD,aC,h12],by simp only [↓ aB],hlt,fun j hj=>?_⟩⟩
  ·refine QD (v:=.bool false) (by rw [Tryz.results26];simp +decide only [↓ aB,aD,aC]) rfl ?_
   rwa [decide_eq_false]at hK
   rintro rfl;exact hne rfl
  ·rcases Nat.lt_succ_iff_lt_or_eq.1 hj with hj | rfl
   ·exact hpre j hj
   ·exact he
 ·have d1:¬ (i:Int)<(xs.length:Nat):=by omega
  simp +contextual +decide (maxSteps:=1000000) only [↓ wP,wQ,tf,Nat.reduceAdd,ne_eq,h12,h13,d1]
  refine QD (v:=.bool true) (by rw [Tryz.results26];simp +decide only [↓ aB,aD,aC]) rfl ?_
  rwa [decide_eq_true]at hK
  exact dT (d:=0) h fun j hj=>hpre j (by omega)
end
end Go.Proofs.YtajngkkihadgfaaGreat
/-
 The law 'ImageNoticed': the walk of its function.
-/
namespace Go.Proofs.YtajngkkihadgfaaGreat
open Go.Abs Go Go.Abs.TryzF
noncomputable section
set_option maxRecDepth 10000
abbrev L6 (a:AV) (w:Wd):List jK:=[vR 25 [a] (FW w),ent 15 MM,entF 17 sA (fun x=>fL x.1),entF 20 sA (fun x=>FZ x.1),entF 22 LQ (fun x=>lH x.1.1 x.2),vR 8 [] (.bool true),ent 27 zZ,ent 29 rL,ent 28 qT,ent 26 gL]
theorem aOs (h:Abs.Returns Tryz.prog 8 [] (.bool true)) {a:AV} {w:Wd} (hm:Abs.Returns Tryz.prog 25 [a] (FW w)):∀ x∈L6 a w,fQ Tryz.prog x:=
 elist_cons (kQ hm) (elist_cons Save_ok.ent (elist_cons (pE fun x=>aHh x.1 x.2.2 x.2.1) (elist_cons (pE fun x=>aLn x.1 x.2.2 x.2.1) (elist_cons (pE fun x=>aGz x.1.1 x.1.2.2 x.1.2.1 x.2) (elist_cons (kQ h) (elist_cons lsame_ok.ent (elist_cons lsameObj_ok.ent (elist_cons lcontains_ok.ent (elist_cons lEqInts_ok.ent aR)))))))))
section
variable {a:AV} {w:Wd}
theorem aGm (σ:Sto):orcL (L6 a w) 25 [a] σ=some (.ret (FW w) none):=gN
theorem aGn {b:AV} {x:Wd} (h:jE b=some x) (σ:Sto):orcL (L6 a w) 15 [b] σ=some (.ret (sN x) none):=(cN (by decide)).trans (ent_same.trans (congrArg (Option.map _) (MN h)))
theorem aGo {s:List Nat} (hb:By s) (hl:s.length<9223372036854775808) (σ:Sto):orcL (L6 a w) 17 [.str s] σ=some (.ret (fL s) none):=(cN (by decide)).trans ((eT (by decide)).trans (entF_same (A:=sA) (V:=fun x=>fL x.1) CO ⟨s,hb,hl⟩))
theorem aKy {s:List Nat} (hb:By s) (hl:s.length<9223372036854775808) (σ:Sto):orcL (L6 a w) 20 [.str s] σ=some (.ret (FZ s) none):=(cN (by decide)).trans ((eT (by decide)).trans ((gR (by decide)).trans (entF_same (A:=sA) (V:=fun x=>FZ x.1) CO ⟨s,hb,hl⟩)))
theorem TT {s:List Nat} (hb:By s) (hl:s.length<9223372036854775808) (k:Int) (σ:Sto):orcL (L6 a w) 22 [.str s,.int .i64 k] σ=some (.ret (lH s k) none):=(cN (by decide)).trans ((eT (by decide)).trans ((gR (by decide)).trans ((gR (by decide)).trans (entF_same (A:=LQ) (V:=fun x=>lH x.1.1 x.2) WL (⟨s,hb,hl⟩,k)))))
theorem wG {f:FuncId} {b:List AV} {σ:Sto} (h0:25≠f) (h1:15≠f) (h2:17≠f) (h3:20≠f) (h4:22≠f):orcL (L6 a w) f b σ=orcL [vR 8 [] (.bool true),ent 27 zZ,ent 29 rL,ent 28 qT,ent 26 gL] f b σ:=
 (cN h0).trans ((eT h1).trans ((gR h2).trans ((gR h3).trans (gR h4))))
theorem aAw (σ:Sto):orcL (L6 a w) 8 [] σ=some (.ret (.bool true) none):=(wG (by decide) (by decide) (by decide) (by decide) (by decide)).trans gN
theorem aGp {b c:AV} {x y:Wd} (h:jE b=some x) (h':jE c=some y) (σ:Sto):orcL (L6 a w) 27 [b,c] σ=some (.ret (.bool (decide (x=y))) none):=
 (wG (by decide) (by decide) (by decide) (by decide) (by decide)).trans ((cN (by decide)).trans (ent_same.trans (congrArg (Option.map _) (aAk h h'))))
theorem LN {b c:AV} {x y:Ob} (h:eD b=some x) (h':eD c=some y) (σ:Sto):orcL (L6 a w) 29 [b,c] σ=some (.ret (.bool (decide (x=y))) none):=
 (wG (by decide) (by decide) (by decide) (by decide) (by decide)).trans ((cN (by decide)).trans ((eT (by decide)).trans (ent_same.trans (congrArg (Option.map _) (DU h h')))))
theorem aKz {b:AV} {l:List Int} {x:Int} (h:cY b=some l) (σ:Sto):orcL (L6 a w) 28 [b,.int .i64 x] σ=some (.ret (.bool (l.contains x)) none):=
 (wG (by decide) (by decide) (by decide) (by decide) (by decide)).trans ((cN (by decide)).trans ((eT (by decide)).trans ((eT (by decide)).trans (ent_same.trans (congrArg (Option.map _) (LB h))))))
theorem aAx {b c:AV} (σ:Sto):orcL (L6 a w) 26 [b,c] σ=(gL [b,c]).map fun v=>.ret v none:=
 (wG (by decide) (by decide) (by decide) (by decide) (by decide)).trans ((cN (by decide)).trans ((eT (by decide)).trans ((eT (by decide)).trans ((eT (by decide)).trans ent_same))))
theorem aOt {b c:AV} {l m:List Int} (h:cY b=some l) (h':cY c=some m) (σ:Sto):orcL (L6 a w) 26 [b,c] σ=some (.ret (.bool (decide (l=m))) none):=
 (aAx σ).trans (congrArg (Option.map _) (rE h h'))
theorem QE {b:AV} {id g off n:Nat} {c:ACap} (σ:Sto):orcL (L6 a w) 26 [b,.sl id g off n c] σ=none:=by
 rw [aAx]
 have:gL [b,.sl id g off n c]=none:=by
  unfold gL
  cases h:cY b<;>simp only [h]<;>rfl
 rw [this];rfl
end
theorem WC {s:Sc} (h:aNw s):((eL (fU s)).2=3)∨(eL (fU s)).2=0:=by
 unfold eL
 rw [if_pos (IL h)]
 split
 ·exact .inr rfl
 ·exact .inl rfl
theorem aLa {w:Wd} (h:sO w=true):jE (FW w)=some w:=by
 have hob:=(tU h).2
 unfold sO at h
 simp only [Bool.and_eq_true,decide_eq_true_eq]at h
 obtain ⟨⟨⟨⟨⟨⟨⟨⟨h1,h2⟩,h3⟩,h4⟩,_⟩,_⟩,_⟩,_⟩,_⟩:=h
 refine UD (fun o ho=>?_) (by omega) (by omega) (by omega) (by omega)
 obtain ⟨i,hi,rfl⟩:=List.mem_iff_getElem.1 ho
 have:=(hob i hi).1
 rw [bI hi]at this
 exact (AH (DI this)).2.2
theorem aGq {l:List Ob} (h:l.length<=9223372036854775807):Sl (qZ l) ((l.map obC).map .agg):=by
 unfold qZ
 split
 ·rename_i h0;subst h0;exact ⟨.inl ⟨rfl,rfl⟩,Nat.zero_le _⟩
 ·exact ⟨.inr ⟨false,rfl⟩,by simpa using h⟩
theorem WD {s:List Nat} {k:Nat} {o:Ob} {l:List Nat} (h:findO s k=some (o,l)):l.length<=7000:=by
 unfold findO at h
 cases h1:lL s (4+2*k) (8+2*k) [0] with
 | none=>rw [h1]at h;cases h
 | some l1=>
   rw [h1]at h
   simp only at h
   unfold vH at h
   split at h
   ·cases h
   ·cases h2:lL s (aS (aI s) (4+2*k)) (aS (aI s) (6+2*k)) l1 with
    | none=>rw [h2]at h;cases h
    | some l2=>
      rw [h2]at h
      simp only at h
      cases h3:hG (aG (aI s) (aS (aI s) (4+2*k)) (aS (aI s) (6+2*k)-aS (aI s) (4+2*k))) with
      | none=>rw [h3]at h;cases h
      | some o'=>
        rw [h3]at h
        simp only at h
        split at h
        ·cases h
         have g1:=(mE _ _ _ _ h1).2.2.2
         have g2:=(mE _ _ _ _ h2).2.2.2
         simp only [List.length_singleton]at g1
         omega
        ·cases h
theorem aAy {l:List Nat} {i v:Nat}:(l.map encB).set i (.int .u8 (v:Nat))=(l.set i v).map encB:=by rw [List.map_set];rfl
set_option maxHeartbeats 4000000 in
theorem QF (hw:Abs.Returns Tryz.prog 8 [] (.bool true)) (a:AV) (sc:Sc) (hsc:IsSc a sc) (pg x0 x1 y0 y1:Nat) (hpg:pg<256) (hx0:x0<256) (hx1:x1<256) (hy0:y0<256) (hy1:y1<256):
 Abs.Returns Tryz.prog 6 [a,.int .u8 (pg:Nat),.agg [.int .u8 (x0:Nat),.int .u8 (x1:Nat)],.agg [.int .u8 (y0:Nat),.int .u8 (y1:Nat)]] (.bool true):=by
 have hund:=hsc.under.und
 have hok:=hsc.ok
 have hmade:=aJy a sc hsc
 have hsv:=WC hok
 have hwok:=IL hok
 obtain ⟨os,ts,us,xs,rfl,hos,_,_,hts,_,hus,_,_⟩:=hsc
 have c1:=hos.cell
 have c2:=hts.cell
 have c3:=hus.cell
 generalize hwd:fU sc=w at *
 refine bJ (L:=L6 _ w) (aOs hw hmade) aQ (by kernel_rfl) Tryz.func6 Tryz.ntmps6 Tryz.results6 rfl rfl (aE hund (aE aU (aE (pG (aE aU (aE aU aH))) (aE (pG (aE aU (aE aU aH))) aH)))) dG ?_
 have wA:FW w=.agg [qZ w.objs,cQ w.tasks,bX w.outs,cQ w.ins,.int .i64 w.used]:=rfl
 have e1:=fun σ=>aGm (a:=.agg [os,ts,us,.int .u16 (sc.used:Nat)]) (w:=w) σ
 rw [wA]at e1
 have hdw:jE (FW w)=some w:=aLa hwok
 rw [wA]at hdw
 have e2:=fun σ=>aGn (a:=.agg [os,ts,us,.int .u16 (sc.used:Nat)]) (w:=w) hdw σ
 have hsA:sN w=.tuple [.str (eL w).1,.int .i64 ((eL w).2:Nat)]:=rfl
 rw [hsA]at e2
 have e3:=fun σ=>aAw (a:=.agg [os,ts,us,.int .u16 (sc.used:Nat)]) (w:=w) σ
 rcases hsv with hsv | hsv
 ·rw [hsv]at e2
  simp +contextual +decide (maxSteps:=1000000) only [↓ wP,wQ,tf,Nat.reduceAdd,ne_eq,c1,c2,c3,e1,e2,e3,kA,dZ,bQ,bC]
 rw [hsv]at e2
 obtain ⟨_,hlen,hseq⟩:=MD hsv
 have hby:=aBv w
 have hload:=MF hsv
 generalize (eL w).1=s at *
 have hS:Saved s w:=⟨hwok,hlen,hseq⟩
 obtain ⟨hC1,hC2,hC3⟩:=gK hS
 have hsl:s.length=32*aF s:=by rw [hC1,hseq,CM]
 generalize hC:aF s=C at *
 have d1:(((s.length:Nat):Int)=0)=False:=eq_false (by omega)
 have d2:Int.tmod ((s.length:Nat):Int) 32=0:=by rw [show Int.tmod ((s.length:Nat):Int) 32=((s.length%32:Nat):Int) from dF];omega
 have d3:IntKind.i64.wrap (Int.tdiv ((s.length:Nat):Int) 32)=((C:Nat):Int):=by rw [show Int.tdiv ((s.length:Nat):Int) 32=((s.length/32:Nat):Int) from kP,cZ (by omega)];omega
 have d4:=cZ (n:=pg) (by omega)
 have d5:Int.tmod ((pg:Nat):Int) ((C:Nat):Int)=((pg%C:Nat):Int):=dF
 have d6:((C:Nat):Int)≠0:=by omega
 have hp:=Nat.mod_lt pg hC2
 generalize pg%C=p at *
 have sp1:dK [AV.int .u8 0,AV.int .u8 0,AV.int .u8 0,AV.int .u8 0] 0 [AV.int .u8 (x0:Nat),AV.int .u8 (x1:Nat)]=[AV.int .u8 (x0:Nat),AV.int .u8 (x1:Nat),AV.int .u8 0,AV.int .u8 0]:=rfl
 have sp2:dK [AV.int .u8 (x0:Nat),AV.int .u8 (x1:Nat),AV.int .u8 0,AV.int .u8 0] 2 [AV.int .u8 (y0:Nat),AV.int .u8 (y1:Nat)]=[AV.int .u8 (x0:Nat),AV.int .u8 (x1:Nat),AV.int .u8 (y0:Nat),AV.int .u8 (y1:Nat)]:=rfl
 simp +contextual +decide (maxSteps:=1000000) only [↓ wP,wQ,tf,Nat.reduceAdd,ne_eq,c1,c2,c3,e1,e2,e3,kA,dZ,bQ,bC,d1,d2,d3,d4,d5,d6,YM,Nat.reduceMul,sp1,sp2]
 refine bU (fun i e=>∃ t n low o cur,e=⟨183,none,6,t,[],⟨n,low,o⟩,.no⟩/\t.val 9=.ptr 3 0 0/\t.val 10=.str s/\t.val 12=.int .i64 (p:Nat)/\t.val 13=.sl 4 0 0 s.length (.room 1)/\t.val 60=.sl 5 0 0 2 (.is 2)/\t.val 61=.int .i64 ((2:Nat):Int)/\t.val 62=.int .i64 (i:Nat)/\i<=2/\6<=n/\o.get 3=some (aX 0 [qZ w.objs,cQ w.tasks,bX w.outs,cQ w.ins,.int .i64 w.used])/\o.get 4=some (aX 0 (cur.map encB))/\o.get 5=some (aX 0 [AV.int .u8 (x0:Nat),AV.int .u8 (x1:Nat),AV.int .u8 (y0:Nat),AV.int .u8 (y1:Nat)])/\cur=(if i=0 then s else if i=1 then AZ p s (x0,x1) else wF p s (x0,x1) (y0,y1))) (fun i=>2-i) 0
  ⟨_,6,_,_,s,rfl,by simp +decide only [↓ aB,aD,aC],by simp +decide only [↓ aB,aD,aC],by simp +decide only [↓ aB,aD,aC],by simp +decide only [↓ aB,aD,aC],by simp +decide only [↓ aB,aD,aC],by simp +decide only [↓ aB,aD,aC],by simp +decide only [↓ aB,aD,aC];rfl,Nat.zero_le _,Nat.le_refl _,by simp +decide only [↓ aB,cF,aC,ne_eq],by simp +decide only [↓ aB,cF,aC,ne_eq],by simp +decide only [↓ aB,cF,aC,ne_eq],rfl⟩ ?_
 rintro i _ ⟨t,n,low,o,cur,rfl,t9,t10,t12,t13,t60,t61,t62,hi,hn,hg3,hg4,hg5,hcur⟩
 have f3:=bK (show 3<n by omega)
 have f4:=bK (show 4<n by omega)
 have f5:=bK (show 5<n by omega)
 by_cases hlt:i<2
 ·have k1:((i:Int)<((2:Nat):Int))=True:=eq_true (by omega)
  have k2:i*2+2<=4:=by omega
  have k3:(0:Int)<=((i:Nat):Int):=by omega
  have k4:((i:Nat):Int)<2:=by omega
  have k5:=aW (i:=i) (by omega)
  obtain ⟨u,v,hu,hv,hsl2,hup⟩:∃ u v:Nat,u<256/\v<256/\aG [AV.int .u8 (x0:Nat),AV.int .u8 (x1:Nat),AV.int .u8 (y0:Nat),AV.int .u8 (y1:Nat)] (i*2) 2=[.int .u8 (u:Nat),.int .u8 (v:Nat)]/\AZ p cur (u,v)=(if i+1=0 then s else if i+1=1 then AZ p s (x0,x1) else wF p s (x0,x1) (y0,y1)):=by
   have h01:i=0∨i=1:=by omega
   rcases h01 with rfl | rfl
   ·exact ⟨x0,x1,hx0,hx1,rfl,by rw [hcur];rfl⟩
   ·exact ⟨y0,y1,hy0,hy1,rfl,by rw [hcur];rfl⟩
  have hcl:cur.length=s.length:=by rw [hcur];split;rfl;split<;>simp [wF,AZ]
  have m1:=cZ (n:=u) (by omega)
  have m2:Int.tmod ((u:Nat):Int) 32=((u%32:Nat):Int):=dF
  have m3:IntKind.i64.wrap (32*((p:Nat):Int))=((32*p:Nat):Int):=by rw [IntWalk.i64_in _ (by omega)];omega
  have m4:IntKind.i64.wrap (((32*p:Nat):Int)+((u%32:Nat):Int))=((32*p+u%32:Nat):Int):=by rw [IntWalk.i64_in _ (by omega)];omega
  have hlt:32*p+u%32<s.length:=by omega
  obtain ⟨x,hx⟩:∃ x,x=32*p+u%32:=⟨_,rfl⟩
  rw [<-hx]at m4 hlt
  have m5:(0:Int)<=((x:Nat):Int):=by omega
  have m6:((x:Nat):Int)<((s.length:Nat):Int):=by omega
  have m7:(cur.map encB)[x]?=some (.int .u8 ((cur.getD x 0:Nat):Int)):=by rw [List.getElem?_map,List.getElem?_eq_getElem (by omega),bI (show x<cur.length by omega)];rfl
  have m8:IntKind.u8.wrap (((cur.getD x 0:Nat):Int)+((v:Nat):Int))=(((cur.getD x 0+v)%256:Nat):Int):=by rw [show ((cur.getD x 0:Nat):Int)+((v:Nat):Int)=((cur.getD x 0+v:Nat):Int) by omega];exact tC
  have m9:x<cur.length:=by omega
  have hupx:AZ p cur (u,v)=cur.set x ((cur.getD x 0+v)%256):=by rw [hx];rfl
  simp +contextual +decide (maxSteps:=1000000) only [↓ wP,wQ,tf,Nat.reduceAdd,ne_eq,t9,t10,t12,t13,t60,t61,t62,k1,k2,k3,k4,k5,hsl2,m1,m2,m3,m4,m5,m6,m7,m8,m9,List.length_map,aAy,hg4,hg5,f3,f4,f5,bC,Nat.mul_one,Nat.zero_add,Int.reduceToNat,Int.toNat_natCast]
  exact ⟨i+1,by show _-_<_-_;omega,_,n+1,_,_,AZ p cur (u,v),rfl,by simp +decide only [↓ aB,aD,aC,t9],by simp +decide only [↓ aB,aD,aC,t10],by simp +decide only [↓ aB,aD,aC,t12],by simp +decide only [↓ aB,aD,aC,t13],by simp +decide only [↓ aB,aD,aC,t60],by simp +decide only [↓ aB,aD,aC,t61],by simp +decide only [↓ aB,aD,aC],by omega,by omega,by simp +decide only [↓ aB,cF,aC,ne_eq,hg3,f3],by rw [hupx];exact Tr.get_set_same _ _ _,by simp +decide only [↓ aB,cF,aC,ne_eq,hg5,f5],hup⟩
 have hi2:i=2:=by omega
 subst hi2
 have k1:(((2:Nat):Int)<((2:Nat):Int))=False:=eq_false (by omega)
 rw [if_neg (by omega),if_neg (by omega)]at hcur
 obtain ⟨T,hT⟩:∃ T,T=wF p s (x0,x1) (y0,y1):=⟨_,rfl⟩
 rw [hcur,<-hT]at hg4
 clear hcur cur
 have hTl:T.length=s.length:=by rw [hT];exact LL
 have hTb:By T:=by rw [hT];exact TR hby
 have hcv:∀ {d:Option ORes},cvO (some (aX 0 (T.map encB))) 0 s.length d=some (.val (.str T)):=fun {d}=>RP hTl.symm hTb
 have e4:=fun σ=>aKy (a:=.agg [os,ts,us,.int .u16 (sc.used:Nat)]) (w:=w) hTb (by omega) σ
 have e5:=fun σ=>aGo (a:=.agg [os,ts,us,.int .u16 (sc.used:Nat)]) (w:=w) hTb (by omega) σ
 have hR:∀ i,i<aF s->right i (aP s i)=true:=fun i hi=>by
  have:=sT hS hi
  unfold bY at this
  rw [decide_eq_true hi,Bool.true_and]at this
  exact this
 by_cases hTs:T=s
 ·rw [hTs,aAu (by omega) hR]at e4
  rw [hTs,hload,wA]at e5
  rw [hTs]at hcv hg4
  simp +contextual +decide (maxSteps:=1000000) only [↓ wP,wQ,tf,Nat.reduceAdd,ne_eq,t9,t10,t12,t13,t60,t61,t62,k1,hg3,hg4,f3,f4,f5,bC,pD,hcv,e3,e4,e5,xT,kA,dZ,bQ]
  done
 have hC:Chd s T p:=by rw [hT]at hTs ⊢;exact aGl hby (by omega) (hR p (by omega)) hTs
 rw [aAt hC hR]at e4
 rw [aAr hC]at e5
 have wN:FW yZ=.agg [.nils,.nils,.nils,.nils,.int .i64 0]:=rfl
 rw [wN]at e5
 have hsp:mF [p]=.fz [.int .i64 (p:Nat)] false:=rfl
 rw [hsp]at e4
 have e6:=fun (id:Nat) σ=>QE (a:=.agg [os,ts,us,.int .u16 (sc.used:Nat)]) (w:=w) (b:=.fz [.int .i64 (p:Nat)] false) (id:=id) (g:=0) (off:=0) (n:=1) (c:=.is 1) σ
 simp +contextual +decide (maxSteps:=1000000) only [↓ wP,wQ,tf,Nat.reduceAdd,ne_eq,t9,t10,t12,t13,t60,t61,t62,k1,hg3,hg4,f3,f4,f5,bC,pD,hcv,e3,e4,e5,e6,xT,hTs,aO,Nat.reduceMul,Nat.zero_mul,Nat.mul_one]
 refine bP (QE _) (aAv (QE _) (xs:=[p]) (ys:=[p]) (aPr (by kernel_rfl) (by kernel_rfl) ⟨.inr ⟨false,rfl⟩,by simp⟩ (tW _)) (aPq (g:=0) (cs:=[gS p]) (by kernel_rfl) (by kernel_rfl) (by rw [Sto.get_mk (by omega),Tr.get_set_same];rfl) rfl (by simp)) (by simp) (by simp) ?_)
 rw [decide_eq_true rfl,aJ]
 have e7:=fun σ=>aGp (a:=.agg [os,ts,us,.int .u16 (sc.used:Nat)]) (w:=w) (b:=FW yZ) (c:=FW yZ) (x:=yZ) (y:=yZ) rfl rfl σ
 rw [wN,decide_eq_true rfl]at e7
 have hm120:=(tU hwok).1
 have hosl:=aGq (l:=w.objs) (by omega)
 have hol:((w.objs.map obC).map AV.agg).length=w.objs.length:=by simp
 simp +contextual +decide (maxSteps:=1000000) only [↓ wP,wQ,tf,Nat.reduceAdd,ne_eq,t9,t10,t12,t13,t60,t61,t62,hg3,f3,f4,f5,bC,e3,e7,kA,dZ,bQ,hosl.len,hol]
 refine bU (fun i e=>∃ t n low o,e=⟨183,none,6,t,[],⟨n,low,o⟩,.no⟩/\t.val 10=.str s/\t.val 12=.int .i64 (p:Nat)/\t.val 16=.str T/\t.val 131=.int .i64 (w.objs.length:Nat)/\t.val 132=.int .i64 (i:Nat)/\i<=w.objs.length) (fun i=>w.objs.length-i) 0
  ⟨_,_,_,_,rfl,by simp +decide only [↓ aB,aD,aC,t10],by simp +decide only [↓ aB,aD,aC,t12],by simp +decide only [↓ aB,aD,aC],by simp +decide only [↓ aB,aD,aC],by simp +decide only [↓ aB,aD,aC];rfl,Nat.zero_le _⟩ ?_
 clear t9 t10 t12 t13 t60 t61 t62 hg3 hg4 hg5 f3 f4 f5 hn e2 e4 e5 e6 hcv k1 n low o t
 rintro i _ ⟨t,n,low,o,rfl,t10,t12,t16,t131,t132,hi⟩
 by_cases hlt:i<w.objs.length
 ·have k1:((i:Int)<((w.objs.length:Nat):Int))=True:=eq_true (by omega)
  have k5:=aW (i:=i) (by omega)
  obtain ⟨l,hf⟩:=QC hS hlt
  obtain ⟨hd1,hd2⟩:=qY hS
  have hch:=aAs hC hby hd1 (k:=i) (by rw [hd2];exact hlt) hf
  have hob:=((tU hwok).2 i hlt).1
  have hdo:=(AH (DI hob)).2.2
  have hli:=aBf (l:=l) (by have:=WD hf;omega)
  generalize w.objs.getD i default=ob at *
  have oA:sS ob=.agg [.int .i64 ob.form,.int .i64 ob.n,bX ob.vals,iR ob.frs]:=rfl
  have oN:sS pS=.agg [.int .i64 0,.int .i64 0,.nils,.nils]:=rfl
  have e8:=fun σ=>TT (a:=.agg [os,ts,us,.int .u16 (sc.used:Nat)]) (w:=w) hby (by omega) ((i:Nat):Int) σ
  have e9:=fun σ=>TT (a:=.agg [os,ts,us,.int .u16 (sc.used:Nat)]) (w:=w) hTb (by omega) ((i:Nat):Int) σ
  have e10:=fun σ=>aKz (a:=.agg [os,ts,us,.int .u16 (sc.used:Nat)]) (w:=w) (x:=((p:Nat):Int)) hli σ
  rw [LJ hS hlt,hf]at e8
  have h1:sK (some (ob,l))=.tuple [sS ob,mF l,.int .i64 0]:=rfl
  have h2:sK none=.tuple [sS pS,.nils,.int .i64 4]:=rfl
  by_cases hpl:p∈l
  ·have hc:(l.map fun n:Nat=>(n:Int)).contains ((p:Nat):Int)=true:=List.contains_iff_mem.2 (List.mem_map.2 ⟨p,hpl,rfl⟩)
   rw [hc]at e10
   rw [hch.1 hpl,h2,oN]at e9
   rw [h1,oA]at e8
   have e11:=fun σ=>LN (a:=.agg [os,ts,us,.int .u16 (sc.used:Nat)]) (w:=w) (b:=sS pS) (c:=sS pS) (x:=pS) (y:=pS) rfl rfl σ
   rw [oN,decide_eq_true rfl]at e11
   simp +contextual +decide (maxSteps:=1000000) only [↓ wP,wQ,tf,Nat.reduceAdd,ne_eq,t10,t12,t16,t131,t132,k1,k5,e8,e9,e10,e11,CJ,bQ,fN,bC]
   exact ⟨i+1,by show _-_<_-_;omega,_,_,_,_,rfl,by simp +decide only [↓ aB,aD,aC,t10],by simp +decide only [↓ aB,aD,aC,t12],by simp +decide only [↓ aB,aD,aC,t16],by simp +decide only [↓ aB,aD,aC,t131],by simp +decide only [↓ aB,aD,aC],hlt⟩
  ·have hc:(l.map fun n:Nat=>(n:Int)).contains ((p:Nat):Int)=false:=by
    cases h:(l.map fun n:Nat=>(n:Int)).contains ((p:Nat):Int) with
    | false=>rfl
    | true=>
      obtain ⟨x,hx,e⟩:=List.mem_map.1 (List.contains_iff_mem.1 h)
      have e:((x:Nat):Int)=((p:Nat):Int):=e
      have:x=p:=by omega
      rw [this]at hx;exact absurd hx hpl
   rw [hc]at e10
   rw [hch.2 hpl,h1,oA]at e9
   rw [h1,oA]at e8
   have e11:=fun σ=>LN (a:=.agg [os,ts,us,.int .u16 (sc.used:Nat)]) (w:=w) hdo hdo σ
   rw [oA,decide_eq_true rfl]at e11
   have e12:=fun σ=>aOt (a:=.agg [os,ts,us,.int .u16 (sc.used:Nat)]) (w:=w) hli hli σ
   rw [decide_eq_true rfl]at e12
   simp +contextual +decide (maxSteps:=1000000) only [↓ wP,wQ,tf,Nat.reduceAdd,ne_eq,t10,t12,t16,t131,t132,k1,k5,e8,e9,e10,e11,e12,CJ,bQ,fN,bC]
   exact ⟨i+1,by show _-_<_-_;omega,_,_,_,_,rfl,by simp +decide only [↓ aB,aD,aC,t10],by simp +decide only [↓ aB,aD,aC,t12],by simp +decide only [↓ aB,aD,aC,t16],by simp +decide only [↓ aB,aD,aC,t131],by simp +decide only [↓ aB,aD,aC],hlt⟩
 ·have k1:((i:Int)<((w.objs.length:Nat):Int))=False:=eq_false (by omega)
  simp +contextual +decide (maxSteps:=1000000) only [↓ wP,wQ,tf,Nat.reduceAdd,ne_eq,t131,t132,k1,e3]
end
end Go.Proofs.YtajngkkihadgfaaGreat
