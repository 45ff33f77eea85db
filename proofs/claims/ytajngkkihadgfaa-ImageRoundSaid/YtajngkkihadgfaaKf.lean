/-
  Images, in plain words: changes of one page are noticed.
-/
import Derived.Test.YtajngkkihadgfaaJg
import Derived.Test.YtajngkkihadgfaaKa
set_option linter.unusedVariables false
set_option linter.unusedSimpArgs false
namespace Go.Proofs.Ytajngkkihadgfaa
open Go.Abs Go
set_option maxRecDepth 10000
section
variable {p i j:Nat} {q r:List Nat} (hD:∀ m,m≠i->m≠j->q.getD m 0=r.getD m 0)
include hD
end
end Go.Proofs.Ytajngkkihadgfaa
/-
 Images,in plain words: each object of a saved world is found;what is found when a page was changed.
-/
namespace Go.Proofs.Ytajngkkihadgfaa
open Go.Abs Go
set_option maxRecDepth 10000
theorem qU {s:List Nat} {hi:Nat} (hR:∀ i,28*i<hi->cM s i=true):∀ k i l,∃ l',needsGo s hi k i l=some l'
 | 0,_,l=>⟨l,rfl⟩
 | k+1,i,l=>by
   unfold needsGo
   by_cases h:28*i<hi
   ·rw [if_pos h,if_pos (hR i h)];exact qU hR k _ _
   ·rw [if_neg h];exact ⟨l,rfl⟩
theorem aIu {f:Nat->List Nat} (hf:∀ i,(f i).length=2):∀ n k c,k<n->c<2->((List.range n).flatMap f).getD (2*k+c) 0=(f k).getD c 0
 | 0,k,c,h,_=>by omega
 | n+1,k,c,h,hc=>by
   have hl:((List.range n).flatMap f).length=2*n:=by
    clear h
    induction n with
    | zero=>rfl
    | succ n ih=>rw [List.range_succ,List.flatMap_append,List.length_append,ih];simp [hf];omega
   rw [List.range_succ,List.flatMap_append,List.getD_eq_getElem?_getD]
   have h1:(([n]:List Nat).flatMap f)=f n:=by simp
   rw [h1]
   by_cases hk:k<n
   ·rw [List.getElem?_append_left (by omega),<-List.getD_eq_getElem?_getD];exact aIu hf n k c hk hc
   ·rw [List.getElem?_append_right (by omega),hl,show k=n by omega,show 2*n+c-2*n=c by omega,<-List.getD_eq_getElem?_getD]
theorem yJ (w:Wd) (n:Nat):(cQ w n).length=2*n:=by
 unfold cQ
 induction n with
 | zero=>rfl
 | succ n ih=>rw [List.range_succ,List.flatMap_append,List.length_append,ih];simp [CE];omega
theorem BT {w:Wd} {k:Nat} (h:k<w.objs.length):bR w (k+1)=bR w k++kC (w.objs.getD k default)/\iY w=bR w k++(kC (w.objs.getD k default)++(w.objs.drop (k+1)).flatMap kC):=by
 constructor
 ·rw [bR,bR,List.take_succ_eq_append_getElem h,List.flatMap_append,bO h];simp
 ·have e:w.objs=w.objs.take k++(w.objs[k]::w.objs.drop (k+1)):=by rw [<-List.drop_eq_getElem_cons h,List.take_append_drop]
  rw [iY]
  conv=>lhs;rw [e]
  rw [List.flatMap_append,List.flatMap_cons,bO h];rfl
theorem BU (w:Wd):(bI w).length=dP w+(iY w).length+(iX w).length:=by
 simp only [bI,List.length_append,yJ,dP];simp [fJ]
theorem BV {w:Wd} (h:(bI w).length<=7168) {Z:List Nat} {k:Nat} (hk:k<=w.objs.length):bM (bI w++Z) (4+2*k)=dP w+(bR w k).length:=by
 have hb:(bR w k).length<=(iY w).length:=by
  have:iY w=bR w k++(w.objs.drop k).flatMap kC:=by
   rw [iY,bR,<-List.flatMap_append,List.take_append_drop]
  rw [this,List.length_append];omega
 have hsl:=BU w
 have hat:∀ c,c<2->(bI w++Z).getD (4+2*k+c) 0=(CE (dP w+(bR w k).length)).getD c 0:=fun c hc=>by
  rw [<-aIu (f:=fun j=>CE (dP w+(bR w j).length)) (fun _=>rfl) (w.objs.length+1) k c (by omega) hc]
  have ht:=yJ w (w.objs.length+1)
  simp only [bI,List.append_assoc]
  rw [List.getD_eq_getElem?_getD,List.getElem?_append_right (by simp [fJ];omega)]
  simp only [fJ,List.length_cons,List.length_nil]
  rw [List.getElem?_append_left (by omega),show 4+2*k+c-(0+1+1+1+1)=2*k+c by omega,<-List.getD_eq_getElem?_getD];rfl
 have h0:=hat 0 (by omega)
 have h1:=hat 1 (by omega)
 unfold bM
 rw [Nat.add_zero]at h0
 rw [h0,h1]
 simp only [CE,List.getD_cons_zero,List.getD_cons_succ]
 omega
theorem PD {w:Wd} {Z:List Nat} {k:Nat} (hk:k<w.objs.length):aG (bI w++Z) (dP w+(bR w k).length) (kC (w.objs.getD k default)).length=kC (w.objs.getD k default):=by
 have e:bI w++Z=(fJ w++(cQ w (w.objs.length+1)++bR w k))++(kC (w.objs.getD k default)++((w.objs.drop (k+1)).flatMap kC++(iX w++Z))):=by
  simp only [bI,(BT hk).2,List.append_assoc]
 have hl:(fJ w++(cQ w (w.objs.length+1)++bR w k)).length=dP w+(bR w k).length:=by
  simp only [List.length_append,yJ,dP];simp [fJ];omega
 rw [e,<-hl,aG,List.drop_left' rfl,List.take_left' rfl]
theorem tR {w:Wd} (h:sI w=true):w.objs.length<=120/\∀ k,k<w.objs.length->gR (w.objs.getD k default)=true/\kH (w.objs.length:Nat) (w.objs.getD k default)=true:=by
 unfold sI at h
 simp only [Bool.and_eq_true,decide_eq_true_eq]at h
 obtain ⟨⟨⟨⟨⟨⟨⟨⟨h1,_⟩,_⟩,_⟩,_⟩,h6⟩,_⟩,_⟩,_⟩:=h
 refine ⟨h1,fun k hk=>?_⟩
 have:=List.all_eq_true.1 h6 _ (List.getElem_mem hk)
 rw [bO hk]
 simpa only [wK,Bool.and_eq_true] using this
theorem aFc (o:Ob):0<(kC o).length:=by simp [kC]
structure Saved (s:List Nat) (w:Wd):Prop where
 ok:sI w=true
 len:(bI w).length<=7168
 eq:s=jL (bI w)
section
variable {s:List Nat} {w:Wd} (hS:Saved s w)
include hS
theorem fC:aF s=dB (bI w)/\0<aF s/\aF s<=256:=by
 obtain ⟨h4,h5⟩:=mT hS.len
 rw [hS.eq,lO h4];exact ⟨rfl,h5,h4⟩
theorem sN {i:Nat} (h:i<aF s):cM s i=true:=by
 obtain ⟨h4,h5⟩:=mT hS.len
 have hc:=(fC hS).1
 unfold cM
 rw [decide_eq_true h,Bool.true_and,hS.eq,qZ (by omega)];exact zV _ _
theorem qV:aN s=bI w++List.replicate (28*aF s-(bI w).length) 0:=by
 obtain ⟨h4,h5⟩:=mT hS.len
 rw [(fC hS).1,hS.eq,zW h4]
theorem nK:KR s=true/\(aN s).getD 2 0=w.objs.length:=by
 have h1:=(tR hS.ok).1
 have e:aN s=72::70::(w.objs.length%256)::0::(cQ w (w.objs.length+1)++(iY w++(iX w++List.replicate (28*aF s-(bI w).length) 0))):=by
  rw [qV hS];simp only [bI,fJ,List.append_assoc,List.cons_append,List.nil_append]
 have e2:(aN s).getD 2 0=w.objs.length:=by rw [e];simp only [List.getD_cons_succ,List.getD_cons_zero];omega
 refine ⟨?_,e2⟩
 unfold KR
 rw [sN hS (fC hS).2.1,e2,e]
 simp [h1]
theorem PE {k:Nat} (hk:k<w.objs.length):∃ l,findO s k=some (w.objs.getD k default,l):=by
 obtain ⟨h120,hob⟩:=tR hS.ok
 obtain ⟨hc,hc0,_⟩:=fC hS
 have hR:∀ hi,hi<=(bI w).length->∀ i,28*i<hi->cM s i=true:=fun hi hh i h=>sN hS (by rw [hc];unfold dB;omega)
 have hsl:=BU w
 have hbs:=BT hk
 have hb1:(bR w (k+1)).length=(bR w k).length+(kC (w.objs.getD k default)).length:=by rw [hbs.1,List.length_append]
 have hb2:(bR w (k+1)).length<=(iY w).length:=by rw [hb1,hbs.2,List.length_append,List.length_append];omega
 have hpos:=aFc (w.objs.getD k default)
 have hbn:dP w=4+2*(w.objs.length+1):=rfl
 obtain ⟨l1,e1⟩:=qU (hR (8+2*k) (by omega)) (3000-(4+2*k)/28) ((4+2*k)/28) [0]
 obtain ⟨l2,e2⟩:=qU (hR (dP w+(bR w (k+1)).length) (by omega)) (3000-(dP w+(bR w k).length)/28) ((dP w+(bR w k).length)/28) l1
 refine ⟨l2,?_⟩
 have e1':qX s (4+2*k) (8+2*k) [0]=some l1:=e1
 have e2':qX s (dP w+(bR w k).length) (dP w+(bR w (k+1)).length) l1=some l2:=e2
 unfold findO
 rw [e1']
 simp only
 have hp1:bM (aN s) (4+2*k)=dP w+(bR w k).length:=by rw [qV hS];exact BV hS.len (by omega)
 have hp2:bM (aN s) (6+2*k)=dP w+(bR w (k+1)).length:=by rw [qV hS,show 6+2*k=4+2*(k+1) by omega];exact BV hS.len (by omega)
 rw [hp1,hp2,(nK hS).2]
 unfold BY
 rw [if_neg (by omega),e2']
 simp only
 rw [show dP w+(bR w (k+1)).length-(dP w+(bR w k).length)=(kC (w.objs.getD k default)).length by omega,qV hS,PD hk,wS (hob k hk).1]
 simp only
 rw [if_pos (hob k hk).2]
theorem KN {k:Nat} (hk:k<w.objs.length):nN s (k:Nat)=zU (findO s k):=by
 have h1:=(tR hS.ok).1
 unfold nN
 rw [if_neg (by have:=(fC hS).2.1;omega),(nK hS).1,(nK hS).2,if_neg (by simp),if_neg (by simp only [iV,Bool.and_eq_false_iff,decide_eq_false_iff_not];omega)]
 rfl
end
structure Chd (s t:List Nat) (p:Nat):Prop where
 len:t.length=s.length
 same:∀ m,(m<32*p∨32*p+32<=m)->t.getD m 0=s.getD m 0
 bad:cM t p=false
 lt:p<aF s
section
variable {s t:List Nat} {p:Nat} (hC:Chd s t p)
include hC
omit hC in
omit hC in
end
end Go.Proofs.Ytajngkkihadgfaa
/-
 The law 'ImageNoticed': its function returns true.
-/
namespace Go.Proofs.Ytajngkkihadgfaa
open Go.Abs Go Go.Abs.TryF
noncomputable section
set_option maxRecDepth 10000
theorem ZL {s:List Nat} (h:aF s≠0) (hR:∀ i,i<aF s->right i (aR s i)=true):KW s=.tuple [.nils,.int .i64 0]:=by
 unfold KW
 rw [if_neg h]
 have:bad s=[]:=by
  unfold bad iW
  rw [List.filter_eq_nil_iff]
  intro i hi
  rw [hR i (List.mem_range.1 hi)];simp
 rw [this];rfl
end
end Go.Proofs.Ytajngkkihadgfaa
/-
 The law 'ImageNoticed': the walk of its function.
-/
namespace Go.Proofs.Ytajngkkihadgfaa
open Go.Abs Go Go.Abs.TryF
noncomputable section
set_option maxRecDepth 10000
section
variable {a:AV} {w:Wd}
end
theorem GI {s:Sc} (h:aMn s):((cW (eE s)).2=3)∨(cW (eE s)).2=0:=by
 unfold cW
 rw [if_pos (zS h)]
 split
 ·exact .inr rfl
 ·exact .inl rfl
theorem ZM {w:Wd} (h:sI w=true):jU (GL w)=some w:=by
 have hob:=(tR h).2
 unfold sI at h
 simp only [Bool.and_eq_true,decide_eq_true_eq]at h
 obtain ⟨⟨⟨⟨⟨⟨⟨⟨h1,h2⟩,h3⟩,h4⟩,_⟩,_⟩,_⟩,_⟩,_⟩:=h
 refine TD (fun o ho=>?_) (by omega) (by omega) (by omega) (by omega)
 obtain ⟨i,hi,rfl⟩:=List.mem_iff_getElem.1 ho
 have:=(hob i hi).1
 rw [bO hi]at this
 exact (zZ (wS this)).2.2
theorem VA {s:List Nat} {k:Nat} {o:Ob} {l:List Nat} (h:findO s k=some (o,l)):l.length<=7000:=by
 unfold findO at h
 cases h1:qX s (4+2*k) (8+2*k) [0] with
 | none=>rw [h1]at h;cases h
 | some l1=>
   rw [h1]at h
   simp only at h
   unfold BY at h
   split at h
   ·cases h
   ·cases h2:qX s (bM (aN s) (4+2*k)) (bM (aN s) (6+2*k)) l1 with
    | none=>rw [h2]at h;cases h
    | some l2=>
      rw [h2]at h
      simp only at h
      cases h3:gP (aG (aN s) (bM (aN s) (4+2*k)) (bM (aN s) (6+2*k)-bM (aN s) (4+2*k))) with
      | none=>rw [h3]at h;cases h
      | some o'=>
        rw [h3]at h
        simp only at h
        split at h
        ·cases h
         have g1:=(sP _ _ _ _ h1).2.2.2
         have g2:=(sP _ _ _ _ h2).2.2.2
         simp only [List.length_singleton]at g1
         omega
        ·cases h
end
end Go.Proofs.Ytajngkkihadgfaa
/-
 The law 'ImageRound': its function returns true.
-/
namespace Go.Proofs.Ytajngkkihadgfaa
open Go.Abs Go Go.Abs.TryF
noncomputable section
set_option maxRecDepth 10000
theorem pJ {s:List Nat} {hi:Nat}:∀ k i (l l':List Nat),needsGo s hi k i l=some l'->l≠[]->l'≠[]/\l'.getD 0 0=l.getD 0 0
 | 0,_,l,l',h,hl=>by cases h;exact ⟨hl,rfl⟩
 | k+1,i,l,l',h,hl=>by
   unfold needsGo at h
   split at h
   ·split at h
    ·obtain ⟨h1,h2⟩:=pJ k (i+1) _ l' h (by unfold gS;split;simp;exact hl)
     refine ⟨h1,h2.trans ?_⟩
     unfold gS
     split
     ·match l,hl with
      | x::l,_=>rfl
     ·rfl
    ·cases h
   ·cases h;exact ⟨hl,rfl⟩
theorem vA {s:List Nat} {hi:Nat}:∀ k i (l l':List Nat),needsGo s hi k i l=some l'->(∀ x∈l,x<aF s)->∀ x∈l',x<aF s
 | 0,_,l,l',h,hl=>by cases h;exact hl
 | k+1,i,l,l',h,hl=>by
   unfold needsGo at h
   split at h
   ·split at h
    ·rename_i hr
     refine vA k (i+1) _ l' h fun x hx=>?_
     unfold gS at hx
     split at hx
     ·rcases List.mem_append.1 hx with hx | hx
      ·exact hl x hx
      ·simp at hx;subst hx
       unfold cM at hr
       simp only [Bool.and_eq_true,decide_eq_true_eq]at hr
       exact hr.1
     ·exact hl x hx
    ·cases h
   ·cases h;exact hl
theorem KO {s:List Nat} {k:Nat} {o:Ob} {l:List Nat} (hc:0<aF s) (h:findO s k=some (o,l)):l≠[]/\l.getD 0 0=0/\∀ x∈l,x<aF s:=by
 unfold findO at h
 cases h1:qX s (4+2*k) (8+2*k) [0] with
 | none=>rw [h1]at h;cases h
 | some l1=>
   rw [h1]at h
   simp only at h
   unfold BY at h
   split at h
   ·cases h
   ·cases h2:qX s (bM (aN s) (4+2*k)) (bM (aN s) (6+2*k)) l1 with
    | none=>rw [h2]at h;cases h
    | some l2=>
      rw [h2]at h
      simp only at h
      cases h3:gP (aG (aN s) (bM (aN s) (4+2*k)) (bM (aN s) (6+2*k)-bM (aN s) (4+2*k))) with
      | none=>rw [h3]at h;cases h
      | some o'=>
        rw [h3]at h
        simp only at h
        split at h
        ·cases h
         obtain ⟨a1,a2⟩:=pJ _ _ _ _ h1 (by simp)
         obtain ⟨b1,b2⟩:=pJ _ _ _ _ h2 a1
         exact ⟨b1,b2.trans (a2.trans rfl),vA _ _ _ _ h2 (vA _ _ _ _ h1 (by simpa using hc))⟩
        ·cases h
theorem PF {s:List Nat} {w:Wd} (hS:Saved s w) {k:Int} (hk:k<0∨(w.objs.length:Int)<=k):nN s k=.tuple [tY sW,.nils,.int .i64 5]:=by
 unfold nN
 rw [if_neg (by have:=(fC hS).2.1;omega),(nK hS).1,(nK hS).2,if_neg (by simp),if_pos]
 cases h:iV k 0 ((w.objs.length:Int)-1) with
 | false=>rfl
 | true=>
   simp only [iV,Bool.and_eq_true,decide_eq_true_eq]at h
   omega
theorem ZN {v w:Wd} (hv:(cW v).2=0) (hw:(cW w).2=0):((cW v).1=(cW w).1)=(v=w):=by
 refine propext ⟨fun h=>?_,fun h=>by rw [h]⟩
 have h1:=(sS hv).2
 have h2:=(sS hw).2
 rw [h,h2]at h1
 cases h1;rfl
theorem aFd {l:List Nat} (h:l.length<=9223372036854775807):Sl (nP l) (l.map iN):=by
 unfold nP
 split
 ·rename_i h0;subst h0;exact ⟨.inl ⟨rfl,rfl⟩,Nat.zero_le _⟩
 ·exact ⟨.inr ⟨false,rfl⟩,by simpa using h⟩
abbrev mkA (a b:AV) (i:Bool):List AV:=[bif i then b else a]
abbrev mkV (v w:Wd) (i:Bool):AV:=GL (bif i then w else v)
abbrev L7 (a b:AV) (v w:Wd):List jE:=[entF 17 (mkA a b) (mkV v w),ent 18 LM,entF 22 sA (fun x=>gM x.1),entF 15 sA (fun x=>KW x.1),entF 20 KQ (fun x=>nN x.1.1 x.2),xD 8 [] (.bool true),ent 23 zR,ent 25 rH,ent 19 qH,entF 24 (fun x:yW=>[.str x.1]) (fun x=>pM x.1)]
theorem aNj (h:Abs.Returns Try.prog 8 [] (.bool true)) {a b:AV} {v w:Wd} (hm:Abs.Returns Try.prog 17 [a] (GL v)) (hm':Abs.Returns Try.prog 17 [b] (GL w)):∀ x∈L7 a b v w,fO Try.prog x:=
 elist_cons (lQ fun i=>by cases i;exact hm;exact hm') (elist_cons Save_ok.ent (elist_cons (lQ fun x=>aFx x.1 x.2.2 x.2.1) (elist_cons (lQ fun x=>aKf x.1 x.2.2 x.2.1) (elist_cons (lQ fun x=>aFp x.1.1 x.1.2.2 x.1.2.1 x.2) (elist_cons (lR h) (elist_cons lsame_ok.ent (elist_cons lsameObj_ok.ent (elist_cons objectV_ok.ent (elist_cons (lQ fun x=>(GV x.1) ▸ MF x.1 x.2.1 x.2.2) aQ)))))))))
section
variable {a b:AV} {v w:Wd}
theorem ZO (hab:a=b->v=w):∀ i j,mkA a b i=mkA a b j->mkV v w i=mkV v w j:=by
 intro i j h
 cases i<;>cases j<;>try rfl
 ·have h:a=b:=by simpa [mkA] using h
  simp only [mkV,cond_true,cond_false];rw [hab h]
 ·have h:b=a:=by simpa [mkA] using h
  simp only [mkV,cond_true,cond_false];rw [hab h.symm]
theorem aFe (hab:a=b->v=w) (σ:Sto):orcL (L7 a b v w) 17 [a] σ=some (.ret (GL v) none):=entF_same (A:=mkA a b) (V:=mkV v w) (ZO hab) false
theorem ZP (hab:a=b->v=w) (σ:Sto):orcL (L7 a b v w) 17 [b] σ=some (.ret (GL w) none):=entF_same (A:=mkA a b) (V:=mkV v w) (ZO hab) true
theorem SR {d:AV} {x:Wd} (h:jU d=some x) (σ:Sto):orcL (L7 a b v w) 18 [d] σ=some (.ret (qB x) none):=(eJ (by decide)).trans (ent_same.trans (congrArg (Option.map _) (LN h)))
theorem aFf {s:List Nat} (hb:By s) (hl:s.length<9223372036854775808) (σ:Sto):orcL (L7 a b v w) 22 [.str s] σ=some (.ret (gM s) none):=(eJ (by decide)).trans ((eU (by decide)).trans (entF_same (A:=sA) (V:=fun x=>gM x.1) CD ⟨s,hb,hl⟩))
theorem aJs {s:List Nat} (hb:By s) (hl:s.length<9223372036854775808) (σ:Sto):orcL (L7 a b v w) 15 [.str s] σ=some (.ret (KW s) none):=(eJ (by decide)).trans ((eU (by decide)).trans ((eJ (by decide)).trans (entF_same (A:=sA) (V:=fun x=>KW x.1) CD ⟨s,hb,hl⟩)))
theorem SS {s:List Nat} (hb:By s) (hl:s.length<9223372036854775808) (k:Int) (σ:Sto):orcL (L7 a b v w) 20 [.str s,.int .i64 k] σ=some (.ret (nN s k) none):=(eJ (by decide)).trans ((eU (by decide)).trans ((eJ (by decide)).trans ((eJ (by decide)).trans (entF_same (A:=KQ) (V:=fun x=>nN x.1.1 x.2) VJ (⟨s,hb,hl⟩,k)))))
theorem vZ {f:FuncId} {c:List AV} {σ:Sto} (h0:17≠f) (h1:18≠f) (h2:22≠f) (h3:15≠f) (h4:20≠f):orcL (L7 a b v w) f c σ=orcL [xD 8 [] (.bool true),ent 23 zR,ent 25 rH,ent 19 qH,entF 24 (fun x:yW=>[.str x.1]) (fun x=>pM x.1)] f c σ:=
 (eJ h0).trans ((eU h1).trans ((eJ h2).trans ((eJ h3).trans (eJ h4))))
theorem ZQ (σ:Sto):orcL (L7 a b v w) 8 [] σ=some (.ret (.bool true) none):=(vZ (by decide) (by decide) (by decide) (by decide) (by decide)).trans iJ
theorem ST {c d:AV} {x y:Wd} (h:jU c=some x) (h':jU d=some y) (σ:Sto):orcL (L7 a b v w) 23 [c,d] σ=some (.ret (.bool (decide (x=y))) none):=
 (vZ (by decide) (by decide) (by decide) (by decide) (by decide)).trans ((dF (by decide)).trans (ent_same.trans (congrArg (Option.map _) (ZG h h'))))
theorem ZR {c d:AV} {x y:Ob} (h:dZ c=some x) (h':dZ d=some y) (σ:Sto):orcL (L7 a b v w) 25 [c,d] σ=some (.ret (.bool (decide (x=y))) none):=
 (vZ (by decide) (by decide) (by decide) (by decide) (by decide)).trans ((dF (by decide)).trans ((eU (by decide)).trans (ent_same.trans (congrArg (Option.map _) (DI h h')))))
theorem VB {c:AV} {o:Ob} (h:dZ c=some o) (ho:gR o=true) (σ:Sto):orcL (L7 a b v w) 19 [c] σ=some (.ret (.tuple [.str (kC o),.int .i64 0]) none):=
 (vZ (by decide) (by decide) (by decide) (by decide) (by decide)).trans ((dF (by decide)).trans ((eU (by decide)).trans ((eU (by decide)).trans (ent_same.trans (by rw [AB h,if_pos ho];rfl)))))
theorem ZS {o:Ob} (ho:gR o=true) (σ:Sto):orcL (L7 a b v w) 24 [.str (kC o)] σ=some (.ret (.tuple [.agg [.int .i64 o.form,.int .i64 o.n,bV o.vals,gW o.frs],.int .i64 0]) none):=by
 refine (vZ (by decide) (by decide) (by decide) (by decide) (by decide)).trans ((dF (by decide)).trans ((eU (by decide)).trans ((eU (by decide)).trans ((eU (by decide)).trans ((entF_same (A:=fun x:yW=>[.str x.1]) (V:=fun x=>pM x.1) CX ⟨kC o,QM o,by have:=aGg ho;omega⟩).trans ?_)))))
 rw [MD (wS ho)]
end
theorem qW {n:Nat} {l:List Ob}:UnderE n (pK l):=by
 unfold pK
 split
 ·exact ⟨1,rfl⟩
 ·refine lH fun x hx=>?_
  rw [List.map_map]at hx
  obtain ⟨y,_,rfl⟩:=List.mem_map.1 hx
  exact obA_under (o:=y)
theorem ZT {x y:Operand} {c d:Bool}:abin Try.prog .neq 4 x y (.bool c) (.bool d)=some (.bool (!decide (c=d))):=by
 have:BQ Try.prog 10000 4 (.bool c) (.bool d)=some (decide (c=d)):=by cases c<;>cases d<;>kernel_rfl
 simp only [abin,mP,this,cond_true]
theorem pY {P:Program} {O:bW} {want:Bool} {op:Op} {ops:List Oper} {dst:Option Tmp} {rest:List Oper} {e:Env} {Q:Ex->Env->Prop}:guardK P O AV.undef want op ops dst rest e Q↔cG P O ops dst rest e Q (.val .undef):=.rfl
def hRd:fL:=fun r=>(bif Nat.beq r 1 then [1,3] else [],[])
theorem aFg:hRd 1=([1,3],[]):=rfl
set_option maxHeartbeats 4000000 in
theorem ZU (hw:Abs.Returns Try.prog 8 [] (.bool true)) (a b:AV) (sc sd:Sc) (hsc:IsSc a sc) (hsd:IsSc b sd) (hab:a=b->eE sc=eE sd):
 Abs.Returns Try.prog 6 [a,b] (.bool true):=by
 have hund:=hsc.under.und
 have hund':=hsd.under.und
 have hmade:=UX a sc hsc
 have hmade':=UX b sd hsd
 have hsv:=GI hsc.ok
 have hsv':=GI hsd.ok
 have hwok:=zS hsc.ok
 have hwok':=zS hsd.ok
 obtain ⟨os,ts,us,xs,rfl,hos,_,_,hts,_,hus,_,_⟩:=hsc
 obtain ⟨os',ts',us',xs',rfl,hos',_,_,hts',_,hus',_,_⟩:=hsd
 have c1:=hos.cell
 have c2:=hts.cell
 have c3:=hus.cell
 have c1':=hos'.cell
 have c2':=hts'.cell
 have c3':=hus'.cell
 generalize eE sc=v at *
 generalize eE sd=w at *
 refine bK (L:=L7 _ _ v w) (aNj hw hmade hmade') hRd (by kernel_rfl) Try.func6 Try.ntmps6 Try.results6 rfl rfl (aE hund (aE hund' aI)) dH ?_
 generalize hA:AV.agg [os,ts,us,.int .u16 (sc.used:Nat)]=A at *
 generalize hB:AV.agg [os',ts',us',.int .u16 (sd.used:Nat)]=B at *
 have wA:GL v=.agg [pK v.objs,cP v.tasks,bV v.outs,cP v.ins,.int .i64 v.used]:=rfl
 have wB:GL w=.agg [pK w.objs,cP w.tasks,bV w.outs,cP w.ins,.int .i64 w.used]:=rfl
 have e1:=fun σ=>aFe (a:=A) (b:=B) (v:=v) (w:=w) hab σ
 have e1':=fun σ=>ZP (a:=A) (b:=B) (v:=v) (w:=w) hab σ
 have hdv:=ZM hwok
 have hdw:=ZM hwok'
 have e2:=fun σ=>SR (a:=A) (b:=B) (v:=v) (w:=w) hdv σ
 have e2':=fun σ=>SR (a:=A) (b:=B) (v:=v) (w:=w) hdw σ
 have hsA:qB v=.tuple [.str (cW v).1,.int .i64 ((cW v).2:Nat)]:=rfl
 have hsB:qB w=.tuple [.str (cW w).1,.int .i64 ((cW w).2:Nat)]:=rfl
 rw [wA]at e1 e2 hdv
 rw [wB]at e1' e2' hdw
 rw [hsA]at e2
 rw [hsB]at e2'
 have e3:=fun σ=>ZQ (a:=A) (b:=B) (v:=v) (w:=w) σ
 have long:∀ x:Wd,(cW x).2=3->(cW x).1=[]:=fun x h=>by
  unfold cW at h ⊢
  split
  ·rename_i h1
   rw [if_pos h1]at h
   split
   ·rename_i h2;rw [if_pos h2]at h;simp at h
   ·rfl
  ·rename_i h1;simp [h1]at h
 by_cases hbad:(cW v).2=0/\(cW w).2=0
 rotate_left
 ·rcases hsv with h1 | h1<;>rcases hsv' with h2 | h2
  ·rw [h1,long _ h1]at e2;rw [h2,long _ h2]at e2'
   subst hA;subst hB
   simp +contextual +decide (maxSteps:=1000000) only [↓ wP,wQ,tf,Nat.reduceAdd,ne_eq,c1,c2,c3,c1',c2',c3',e1,e1',e2,e2',e3,aFg,iG,dT,bQ,bB,qW,intsA_under,valsA_under,mX,pY]
  ·rw [h1,long _ h1]at e2;rw [h2]at e2'
   subst hA;subst hB
   simp +contextual +decide (maxSteps:=1000000) only [↓ wP,wQ,tf,Nat.reduceAdd,ne_eq,c1,c2,c3,c1',c2',c3',e1,e1',e2,e2',e3,aFg,iG,dT,bQ,bB,qW,intsA_under,valsA_under,mX,pY]
  ·rw [h1]at e2;rw [h2,long _ h2]at e2'
   subst hA;subst hB
   simp +contextual +decide (maxSteps:=1000000) only [↓ wP,wQ,tf,Nat.reduceAdd,ne_eq,c1,c2,c3,c1',c2',c3',e1,e1',e2,e2',e3,aFg,iG,dT,bQ,bB,qW,intsA_under,valsA_under,mX,pY]
  ·exact absurd ⟨h1,h2⟩ hbad
 obtain ⟨hv0,hw0⟩:=hbad
 rw [hv0]at e2
 rw [hw0]at e2'
 obtain ⟨_,hlen,hseq⟩:=LE hv0
 have hby:=aAq v
 have hload:=LF hv0
 have hinj:=ZN hv0 hw0
 generalize (cW v).1=s at *
 generalize (cW w).1=s' at *
 have hS:Saved s v:=⟨hwok,hlen,hseq⟩
 obtain ⟨hC1,hC2,hC3⟩:=fC hS
 have hsl:s.length=32*aF s:=by rw [hC1,hseq,CB]
 have hR:∀ i,i<aF s->right i (aR s i)=true:=fun i hi=>by
  have:=sN hS hi
  unfold cM at this
  rw [decide_eq_true hi,Bool.true_and]at this
  exact this
 have e4:=fun σ=>aFf (a:=A) (b:=B) (v:=v) (w:=w) hby (by omega) σ
 have e5:=fun σ=>aJs (a:=A) (b:=B) (v:=v) (w:=w) hby (by omega) σ
 rw [hload,wA]at e4
 rw [ZL (by omega) hR]at e5
 have e6:=fun σ=>ST (a:=A) (b:=B) (v:=v) (w:=w) hdv hdv σ
 rw [decide_eq_true rfl]at e6
 have e7:=fun σ=>ST (a:=A) (b:=B) (v:=v) (w:=w) hdv hdw σ
 have d2:Int.tmod ((s.length:Nat):Int) 32=0:=by rw [show Int.tmod ((s.length:Nat):Int) 32=((s.length%32:Nat):Int) from dR];omega
 have d3:IntKind.i64.wrap (Int.tdiv ((s.length:Nat):Int) 32)=((aF s:Nat):Int):=by rw [show Int.tdiv ((s.length:Nat):Int) 32=((s.length/32:Nat):Int) from kL,dE (by omega)];omega
 obtain ⟨ao,bo,co,dO,hq,hdo,_⟩:=qD hdv
 simp only [AV.agg.injEq,List.cons.injEq,and_true]at hq
 obtain ⟨rfl,rfl,rfl,rfl⟩:=hq
 obtain ⟨ys,cf,hosl,hol,hat⟩:=qC hdo
 have hm120:=(tR hwok).1
 subst hA;subst hB
 have hd:decide (v=w)=decide (s=s'):=decide_eq_decide.2 (by rw [hinj])
 rw [hd]at e7
 simp +contextual +decide (maxSteps:=1000000) only [↓ wP,wQ,tf,Nat.reduceAdd,ne_eq,c1,c2,c3,c1',c2',c3',e1,e1',e2,e2',e3,e4,e5,e6,e7,aFg,iG,dT,bQ,bB,qW,intsA_under,valsA_under,mX,pY,ZT,d2,hosl.len,hol]
 refine bX (fun i e=>∃ t n low o,e=⟨210,none,6,t,[],⟨n,low,o⟩,.no⟩/\t.val 5=.ptr 2 0 0/\t.val 7=.str s/\t.val 115=pK v.objs/\t.val 116=.int .i64 (v.objs.length:Nat)/\t.val 117=.int .i64 (i:Nat)/\i<=v.objs.length/\3<n/\o.get 2=some (aU 0 [pK v.objs,cP v.tasks,bV v.outs,cP v.ins,.int .i64 v.used])) (fun i=>v.objs.length-i) 0
  ⟨_,5,_,_,rfl,by simp +decide only [↓ aB,aD,aC],by simp +decide only [↓ aB,aD,aC],by simp +decide only [↓ aB,aD,aC],by simp +decide only [↓ aB,aD,aC],by simp +decide only [↓ aB,aD,aC];rfl,Nat.zero_le _,by omega,by simp +decide only [↓ aB,cF,aC,ne_eq]⟩ ?_
 rintro i _ ⟨t,n,low,o,rfl,t5,t7,t115,t116,t117,hi,hn,hg2⟩
 have f2:=bH (show 2<n by omega)
 by_cases hlt:i<v.objs.length
 ·have k1:((i:Int)<((v.objs.length:Nat):Int))=True:=eq_true (by omega)
  have k5:=aX (i:=i) (by omega)
  obtain ⟨x1,x2,x3,x4⟩:=hat i hlt
  have x1:=fun {q d}=>x1 (q:=q) (d:=d)
  obtain ⟨l,hf⟩:=PE hS hlt
  have hob:=((tR hwok).2 i hlt).1
  have hdo:=(zZ (wS hob)).2.2
  obtain ⟨hl0,hl1,hl2⟩:=KO hC2 hf
  have hll:=VA hf
  have e8:=fun σ=>SS (a:=.agg [os,ts,us,.int .u16 (sc.used:Nat)]) (b:=.agg [os',ts',us',.int .u16 (sd.used:Nat)]) (v:=v) (w:=w) hby (by omega) ((i:Nat):Int) σ
  rw [KN hS hlt,hf]at e8
  generalize v.objs.getD i default=ob at *
  generalize cf i=cs at *
  have oA:tY ob=.agg [.int .i64 ob.form,.int .i64 ob.n,bV ob.vals,gW ob.frs]:=rfl
  have h1:zU (some (ob,l))=.tuple [tY ob,nP l,.int .i64 0]:=rfl
  rw [h1,oA]at e8
  rw [oA]at hdo
  have e9:=fun σ=>VB (a:=.agg [os,ts,us,.int .u16 (sc.used:Nat)]) (b:=.agg [os',ts',us',.int .u16 (sd.used:Nat)]) (v:=v) (w:=w) x4 hob σ
  have e10:=fun σ=>ZS (a:=.agg [os,ts,us,.int .u16 (sc.used:Nat)]) (b:=.agg [os',ts',us',.int .u16 (sd.used:Nat)]) (v:=v) (w:=w) hob σ
  have e11:=fun σ=>ZR (a:=.agg [os,ts,us,.int .u16 (sc.used:Nat)]) (b:=.agg [os',ts',us',.int .u16 (sd.used:Nat)]) (v:=v) (w:=w) hdo x4 σ
  rw [decide_eq_true rfl]at e11
  have hsl2:=aFd (l:=l) (by omega)
  have hlp:0<l.length:=List.length_pos_iff.2 hl0
  have m1:(((l.length:Nat):Int)=0)=False:=eq_false (by omega)
  have m2:∀ {q:IntKind} {d:Option AV},eS (some 1) (l.map iN) (.int q 0) d=some (.pf (.int .i64 0)):=fun {q d}=>by
   refine iK (by omega) (by rw [List.length_map];omega) ?_ rfl
   rw [show (0:Int).toNat=0 from rfl,List.getElem?_map,List.getElem?_eq_getElem hlp]
   rw [bO hlp]at hl1
   rw [hl1];rfl
  have m3:IntKind.i64.wrap (((l.length:Nat):Int)-1)=((l.length-1:Nat):Int):=by rw [IntWalk.i64_in _ (by omega)];omega
  obtain ⟨y,hy⟩:∃ y,y=l.getD (l.length-1) 0:=⟨_,rfl⟩
  have hyC:y<aF s:=by rw [hy,bO (show l.length-1<l.length by omega)];exact hl2 _ (List.getElem_mem _)
  have m4:∀ {q:IntKind} {d:Option AV},eS (some 1) (l.map iN) (.int q ((l.length-1:Nat):Int)) d=some (.pf (.int .i64 (y:Nat))):=fun {q d}=>by
   refine iK (by omega) (by rw [List.length_map];omega) ?_ rfl
   rw [Int.toNat_natCast,List.getElem?_map,List.getElem?_eq_getElem (show l.length-1<l.length by omega),hy,bO (show l.length-1<l.length by omega)];rfl
  have m5:(((aF s:Nat):Int)<=((y:Nat):Int))=False:=eq_false (by omega)
  have z1:aG cs 0 4=cs:=by unfold aG;rw [List.drop_zero,List.take_of_length_le (by omega)]
  simp +contextual +decide (maxSteps:=1000000) only [↓ wP,wQ,tf,Nat.reduceAdd,ne_eq,t5,t7,t115,t116,t117,k1,k5,hg2,f2,bB,hosl.idx,x1,x2,x3,z1,eK,dG,e8,e9,e10,e11,PL,bQ,gK,hsl2.len,hsl2.idx,List.length_map,m1,m2,m3,m4,m5,d3,pY]
  exact ⟨i+1,by show _-_<_-_;omega,_,n+1+1+1,_,_,rfl,by simp +decide only [↓ aB,aD,aC,t5],by simp +decide only [↓ aB,aD,aC,t7],by simp +decide only [↓ aB,aD,aC,t115],by simp +decide only [↓ aB,aD,aC,t116],by simp +decide only [↓ aB,aD,aC],hlt,by omega,by simp +decide only [↓ aB,cF,aC,ne_eq,hg2,f2]⟩
 have hiv:i=v.objs.length:=by omega
 subst hiv
 have k1:(((v.objs.length:Nat):Int)<((v.objs.length:Nat):Int))=False:=eq_false (by omega)
 have g1:[AV.int .i64 0,AV.int .i64 0].set 0 (AV.int .i64 (-1))=[AV.int .i64 (-1),AV.int .i64 0]:=rfl
 have g2:[AV.int .i64 (-1),AV.int .i64 0].set 1 (AV.int .i64 (v.objs.length:Nat))=[AV.int .i64 (-1),AV.int .i64 (v.objs.length:Nat)]:=rfl
 simp +contextual +decide (maxSteps:=1000000) only [↓ wP,wQ,tf,Nat.reduceAdd,ne_eq,t5,t7,t115,t116,t117,k1,hg2,f2,bB,hosl.len,hol,iG,dT,bQ,Nat.reduceMul,g1,g2]
 refine bX (fun i e=>∃ t m low o,e=⟨210,none,6,t,[],⟨m,low,o⟩,.no⟩/\t.val 7=.str s/\t.val 188=.sl n 0 0 2 (.is 2)/\t.val 189=.int .i64 ((2:Nat):Int)/\t.val 190=.int .i64 (i:Nat)/\i<=2/\n<m/\o.get n=some (aU 0 [AV.int .i64 (-1),AV.int .i64 (v.objs.length:Nat)])) (fun i=>2-i) 0
  ⟨_,n+1,_,_,rfl,by simp +decide only [↓ aB,aD,aC,t7],by simp +decide only [↓ aB,aD,aC],by simp +decide only [↓ aB,aD,aC],by simp +decide only [↓ aB,aD,aC];rfl,Nat.zero_le _,by omega,by simp +decide only [↓ aB,cF,aC,ne_eq]⟩ ?_
 clear t5 t7 t115 t116 t117 hg2 k1 e1 e1' e2 e2' e4 e5 e6 e7 t
 rintro i _ ⟨t,m,low,o,rfl,t7,t188,t189,t190,hi,hnm,hgn⟩
 have fn:=bH hnm
 have oN:tY sW=.agg [.int .i64 0,.int .i64 0,.nils,.nils]:=rfl
 by_cases hlt:i<2
 ·have k1:((i:Int)<((2:Nat):Int))=True:=eq_true (by omega)
  have k2:(0:Int)<=((i:Nat):Int):=by omega
  have k3:((i:Nat):Int)<2:=by omega
  have k5:=aX (i:=i) (by omega)
  obtain ⟨x,hx,hxn⟩:∃ x:Int,[AV.int .i64 (-1),AV.int .i64 (v.objs.length:Nat)][i]?=some (.int .i64 x)/\(x<0∨(v.objs.length:Int)<=x):=by
   have h01:i=0∨i=1:=by omega
   rcases h01 with rfl | rfl
   ·exact ⟨-1,rfl,.inl (by omega)⟩
   ·exact ⟨_,rfl,.inr (by omega)⟩
  have e8:=fun σ=>SS (a:=.agg [os,ts,us,.int .u16 (sc.used:Nat)]) (b:=.agg [os',ts',us',.int .u16 (sd.used:Nat)]) (v:=v) (w:=w) hby (by omega) x σ
  rw [PF hS hxn,oN]at e8
  simp +contextual +decide (maxSteps:=1000000) only [↓ wP,wQ,tf,Nat.reduceAdd,ne_eq,t7,t188,t189,t190,k1,k2,k3,k5,hgn,fn,bB,hx,e8,Int.toNat_natCast,Nat.mul_one,Nat.zero_add,pY]
  exact ⟨i+1,by show _-_<_-_;omega,_,m+1,_,_,rfl,by simp +decide only [↓ aB,aD,aC,t7],by simp +decide only [↓ aB,aD,aC,t188],by simp +decide only [↓ aB,aD,aC,t189],by simp +decide only [↓ aB,aD,aC],by omega,by omega,by simp +decide only [↓ aB,cF,aC,ne_eq,hgn,fn]⟩
 ·have hi2:i=2:=by omega
  subst hi2
  have k1:(((2:Nat):Int)<((2:Nat):Int))=False:=eq_false (by omega)
  simp +contextual +decide (maxSteps:=1000000) only [↓ wP,wQ,tf,Nat.reduceAdd,ne_eq,t7,t188,t189,t190,k1,e3]
end
end Go.Proofs.Ytajngkkihadgfaa
