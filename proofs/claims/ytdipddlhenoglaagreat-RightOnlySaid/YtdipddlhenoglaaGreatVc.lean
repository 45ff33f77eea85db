/-
  Rows of objects whose frames lie in the store as well.
-/
import Derived.Test.YtdipddlhenoglaaGreatVa
set_option linter.unusedVariables false
set_option linter.unusedSimpArgs false
namespace Go.Abs
noncomputable section
def qD:AV->Option Nat
 | .sl id _ _ _ _=>some id
 | _=>none
theorem aKe {S:Sto} {n id g k:Nat} {cap:ACap} {l l':List (List AV)} (B:n<=id) (A:S.get id=some (aR g l.flatten)) (u:∀ x∈l,x.length=k) (m:∀ x∈l',x.length=k) (v:l'.length=l.length) (h:∀ (i:Nat) x y,l[i]?=some x->l'[i]?=some y->∀ (j:Nat) a b,x[j]?=some a->y[j]?=some b->Frz S n a b):Frz S n (.sl id g 0 l.length cap) (.fz (l'.map .agg) false):=by
 refine .sl id g 0 l.length cap l.flatten.length k _ (l'.map .agg) (fun i j=>((l[i]?).bind fun x=>x[j]?).getD .top) B A (by simpa using v) (by rw [dJ l u];omega) (fun x o=>?_) (fun i j x y o w=>?_) (fun i j x y o w=>?_)
 ·obtain ⟨z,e,rfl⟩:=List.mem_map.1 o
  exact m z e
 ·rw [List.getElem?_map]at o
  obtain ⟨z,e,rfl⟩:=Option.map_eq_some_iff.1 o;have d:z[j]?=some y:=w
  have r:j<k:=by rw [<-m z (List.mem_of_getElem? e)];exact (List.getElem?_eq_some_iff.1 d).1
  have p:i<l.length:=by rw [<-v];exact (List.getElem?_eq_some_iff.1 e).1
  have c:=List.getElem?_eq_getElem p
  have f:j<(l[i]).length:=by rw [u _ (List.getElem_mem p)];exact r
  rw [Tr.get_row,Nat.zero_add,tI l i j u r,c];simp [f]
 ·rw [List.getElem?_map]at o
  obtain ⟨z,e,rfl⟩:=Option.map_eq_some_iff.1 o;have d:z[j]?=some y:=w
  have r:j<k:=by rw [<-m z (List.mem_of_getElem? e)];exact (List.getElem?_eq_some_iff.1 d).1
  have p:i<l.length:=by rw [<-v];exact (List.getElem?_eq_some_iff.1 e).1
  have c:=List.getElem?_eq_getElem p
  have f:j<(l[i]).length:=by rw [u _ (List.getElem_mem p)];exact r
  have q:=List.getElem?_eq_getElem f;simp only [c,Option.bind_some,q,Option.getD_some];exact h i _ z c e j _ y q d
theorem AccM.cell {k lo n:Nat} {v:AV} {o:Tr AObj} {R:List (List AV)} (h:AccM k lo v n o R):v.isCell=true:=by
 rcases h with ⟨_,rfl⟩ | ⟨_,_,_,rfl,_⟩<;>rfl
theorem AccM.own {k lo n:Nat} {v:AV} {o:Tr AObj} {R:List (List AV)} (h:AccM k lo v n o R) {j:Nat} (a:qD v=some j):lo<=j/\j<n:=by
 rcases h with ⟨_,rfl⟩ | ⟨_,id,g,rfl,_,b,c⟩
 ·cases a
 ·cases a;exact ⟨c,b⟩
theorem AccM.lo {k lo a n:Nat} {v:AV} {o:Tr AObj} {R:List (List AV)} (h:AccM k lo v n o R) (l:a<=lo):AccM k a v n o R:=
 h.imp (fun h=>h) fun ⟨b,id,g,c,d,e,f⟩=>⟨b,id,g,c,d,e,Nat.le_trans l f⟩
theorem AccM.keepO {k lo n b:Nat} {v:AV} {o o':Tr AObj} {R:List (List AV)} (h:AccM k lo v n o R) (l:n<=b) (m:∀ id,qD v=some id->o'.get id=o.get id):AccM k lo v b o' R:=
 h.imp (fun h=>h) fun ⟨c,id,g,a,d,e,f⟩=>⟨c,id,g,a,(m id (by rw [a];rfl)).trans d,Nat.lt_of_lt_of_le e l,f⟩
theorem AccM.app1 {k lo n by_:Nat} {v:AV} {o:Tr AObj} {R:List (List AV)} {cs:List AV} (h:AccM k lo v n o R) (B:cs.length=k) (y:cs.all AV.isCell=true) (w:∀ x∈R,x.length=k) (C:lo<=n) (q:(2*(R.length+1)+1024)*by_<=281474976710656/\R.length+1<4611686018427387904):
 ∃ v' b o',∃ r:Nat->Nat,(∀ low,apF ⟨n,low,o⟩ k by_ v (some (1,cs))=some (.val' v' ⟨b,r low,o'⟩))/\AccM k lo v' b o' (R++[cs])/\n<=b/\b<=n+1/\(∀ id,id<n->qD v≠some id->o'.get id=o.get id)/\(∀ j,qD v'=some j->qD v=some j∨n<=j)/\(∀ low m,m<=lo->m<=low->m<=r low):=by
 rcases h with ⟨rfl,rfl⟩ | ⟨a,id,g,rfl,c,l,p⟩
 ·have:=fun low=>yH (s:=⟨n,low,o⟩) (k:=k) (by_:=by_) (n:=1) (new:=cs) (by decide) (by simpa using q) y
  exact ⟨_,n+1,o.set n (ob cs),id,this,AccM.new (g:=0) (by rw [List.nil_append,List.flatten_singleton];exact Tr.get_set_same _ _ _) (by simp) (by simp) (Nat.lt_succ_self _) C,Nat.le_succ _,Nat.le_refl _,fun id A _=>Tr.get_set_ne _ _ aD,fun j f=>.inr (by cases f;exact Nat.le_refl _),fun _ _ _ h=>h⟩
 ·have d:R.flatten.length=R.length*k:=dJ _ w
  have:=fun low=>yI (s:=⟨n,low,o⟩) (id:=id) (g:=g) (by_:=by_) (n:=1) d (k:=k) (new:=cs) (by rw [B,Nat.one_mul]) q
  refine ⟨.sl id (g+1) 0 (R.length+1) (.room k),n,o.set id (aR (g+1) (R.flatten++cs)),fun low=>Nat.min id low,fun low=>?_,?_,Nat.le_refl _,Nat.le_succ _,fun j _ a=>Tr.get_set_ne _ _ fun e=>a (by rw [e];rfl),fun j f=>.inl (by cases f;rfl),fun _ m u c=>Nat.le_min.2 ⟨Nat.le_trans u p,c⟩⟩
  ·rw [tP,Sto.get_mk l,c,this low,Sto.put_any]
  ·exact AccM.new (g:=g+1) (by rw [List.flatten_append,List.flatten_singleton];exact Tr.get_set_same _ _ _) (by simp) (by simp) l p
theorem HJ:∀ l:List AV,(l.map fun x=>[x]).flatten=l
 | []=>rfl
 | x::l=>by rw [List.map_cons,List.flatten_cons,HJ l];rfl
theorem AccM.frz1 {lo n low:Nat} {v:AV} {o:Tr AObj} {l:List AV} (h:AccM 1 lo v n o (l.map fun x=>[x])) (m:∀ x∈l,x.isCell=true) (p:∀ x∈l,UnderE 0 x):Frz ⟨n,low,o⟩ 0 v (if l.length=0 then .nils else .fz l false):=by
 rcases h with ⟨f,rfl⟩ | ⟨a,id,g,rfl,c,k,q⟩
 ·obtain rfl:=List.map_eq_nil_iff.1 f
  exact .und _ eU
 ·rw [if_neg fun e=>a (by rw [List.eq_nil_of_length_eq_zero e];rfl)]
  rw [HJ]at c
  refine mZ (g:=g) (cs:=l) (Nat.zero_le _) ((Sto.get_mk k).trans c) (by simp) (by simp) m fun j x y b d=>?_
  rw [Nat.zero_add]at b;rw [b]at d;cases d;exact .und _ (p x (List.mem_of_getElem? b)).und
def kW (g:AV->AV) (f:AV):AV:=.agg [f.fld 0,g (f.fld 1),g (f.fld 2)]
def gQ (g:AV->AV) (x:AV):AV:=.agg [x.fld 0,x.fld 1,g (x.fld 2),bJ ((x.fld 3).els.map (kW g))]
abbrev nN (g:AV->AV) (l:List AV):List (List AV):=(l.map (kW g)).map AV.cells
def aVw (g:AV->AV) (lo:Nat) (v:AV) (n:Nat) (o:Tr AObj) (row:List AV) (x:AV):Prop:=
 ∃ w,row=[x.fld 0,x.fld 1,g (x.fld 2),w]/\AccM 3 lo w n o (nN g (x.fld 3).els)/\∀ j,qD w=some j->qD v≠some j
def NOb (g:AV->AV) (lo:Nat) (v:AV) (n:Nat) (o:Tr AObj) (xs:List AV):Prop:=
 ∃ rows,AccM 4 lo v n o rows/\rows.length=xs.length/\∀ (i:Nat) row x,rows[i]?=some row->xs[i]?=some x->aVw g lo v n o row x
theorem NOb.cell {g:AV->AV} {lo n:Nat} {v:AV} {o:Tr AObj} {xs:List AV} (h:NOb g lo v n o xs):v.isCell=true:=by
 obtain ⟨_,h,_⟩:=h;exact h.cell
theorem NOb.und {g:AV->AV} {lo n:Nat} {v:AV} {o:Tr AObj} {xs:List AV} (h:NOb g lo v n o xs) {j:Nat} (a:qD v=some j):lo<=j/\j<n:=by
 obtain ⟨_,h,_⟩:=h;exact h.own a
theorem NOb.keep {g:AV->AV} {lo n k:Nat} {v:AV} {o o':Tr AObj} {xs:List AV} (h:NOb g lo v n o xs) (e:n<=k) (f:∀ id,lo<=id->id<n->o'.get id=o.get id):NOb g lo v k o' xs:=by
 obtain ⟨b,c,l,m⟩:=h;refine ⟨b,c.keepO e fun id a=>f id (c.own a).1 (c.own a).2,l,fun i row x p q=>?_⟩;obtain ⟨w,r,d,u⟩:=m i row x p q;exact ⟨w,r,d.keepO e fun id a=>f id (d.own a).1 (d.own a).2,u⟩
theorem NOb.nil {g:AV->AV} {lo n:Nat} {o:Tr AObj}:NOb g lo .nils n o []:=⟨[],.inl ⟨rfl,rfl⟩,rfl,fun i row x h=>by simp at h⟩
theorem NOb.app {g:AV->AV} {lo n by_:Nat} {v w x:AV} {o:Tr AObj} {xs:List AV} (h:NOb g lo v n o xs) (P:AccM 3 lo w n o (nN g (x.fld 3).els)) (u:∀ j,qD w=some j->qD v≠some j) (M:[x.fld 0,x.fld 1,g (x.fld 2),w].all AV.isCell=true) (O:lo<=n) (b:(2*(xs.length+1)+1024)*by_<=281474976710656/\xs.length+1<4611686018427387904):
 ∃ v' c o',∃ l:Nat->Nat,(∀ low,apF ⟨n,low,o⟩ 4 by_ v (some (1,[x.fld 0,x.fld 1,g (x.fld 2),w]))=some (.val' v' ⟨c,l low,o'⟩))/\NOb g lo v' c o' (xs++[x])/\n<=c/\c<=n+1/\(∀ id,id<n->qD v≠some id->o'.get id=o.get id)/\(∀ low m,m<=lo->m<=low->m<=l low):=by
 obtain ⟨a,J,A,B⟩:=h
 have L:∀ y∈a,y.length=4:=fun y Q=>by
  obtain ⟨i,N,rfl⟩:=List.mem_iff_getElem.1 Q;obtain ⟨w',q,_⟩:=B i _ (xs[i]'aD) (List.getElem?_eq_getElem N) (List.getElem?_eq_getElem aD);rw [q];rfl
 obtain ⟨v',c,o',l,S,T,D,U,E,V,X⟩:=J.app1 (by_:=by_) (cs:=[x.fld 0,x.fld 1,g (x.fld 2),w]) rfl M L O (by rw [A];exact b);refine ⟨v',c,o',l,S,⟨a++[[x.fld 0,x.fld 1,g (x.fld 2),w]],T,by simp [A],fun i row y b e=>?_⟩,D,U,E,X⟩
 have f:∀ {w':AV} {R:List (List AV)},AccM 3 lo w' n o R->(∀ j,qD w'=some j->qD v≠some j)->AccM 3 lo w' c o' R/\∀ j,qD w'=some j->qD v'≠some j:=fun {w' R} a1 a2=>⟨a1.keepO D fun id d=>E id (a1.own d).2 (a2 id d),fun j C k=>by
  rcases V j k with k | k
  ·exact a2 j C k
  ·have:=(a1.own C).2;omega⟩
 rcases Nat.lt_or_ge i a.length with r | p
 ·rw [List.getElem?_append_left r]at b
  rw [List.getElem?_append_left aD]at e;obtain ⟨w',F,G,H⟩:=B i row y b e;obtain ⟨k1,k2⟩:=f G H;exact ⟨w',F,k1,k2⟩
 ·rw [List.getElem?_append_right p]at b
  rw [List.getElem?_append_right aD]at e
  have I:i-a.length=0:=by
   have:=(List.getElem?_eq_some_iff.1 b).1
   simpa using this
  rw [I]at b;rw [show i-xs.length=0 by omega]at e;cases b;cases e;obtain ⟨k1,k2⟩:=f P u;exact ⟨w,rfl,k1,k2⟩
end
end Go.Abs
namespace Go.Proofs.YtdipddlhenoglaaGreat
open Go.Abs Go Go.Abs.TryzF
noncomputable section
set_option maxRecDepth 10000
theorem WJ {g:AV->AV} {lo n low:Nat} {v:AV} {o:Tr AObj} {xs:List AV} (h:NOb g lo v n o xs) (O:∀ x∈xs,UnderE 0 (x.fld 0)/\UnderE 0 (x.fld 1)/\UnderE 0 (g (x.fld 2))/\∀ f∈(x.fld 3).els,XM (kW g f)):Frz ⟨n,low,o⟩ 0 v (bJ (xs.map (gQ g))):=by
 obtain ⟨c,G,u,C⟩:=h
 rcases G with ⟨rfl,rfl⟩ | ⟨B,id,E,rfl,H,I,V⟩
 ·obtain rfl:xs=[]:=List.eq_nil_of_length_eq_zero u.symm
  exact .und _ eU
 ·have F:¬ (xs.map (gQ g)).length=0:=by
   rw [List.length_map,<-u];exact fun e=>B (List.eq_nil_of_length_eq_zero e)
  rw [bJ,if_neg F]
  have J:∀ y∈c,y.length=4:=fun y d=>by
   obtain ⟨i,M,rfl⟩:=List.mem_iff_getElem.1 d;obtain ⟨w',q,_⟩:=C i _ (xs[i]'aD) (List.getElem?_eq_getElem M) (List.getElem?_eq_getElem aD);rw [q];rfl
  have:=aKe (S:=⟨n,low,o⟩) (n:=0) (id:=id) (g:=E) (k:=4) (cap:=.room 4) (l:=c) (l':=xs.map fun x=>[x.fld 0,x.fld 1,g (x.fld 2),bJ ((x.fld 3).els.map (kW g))]) (Nat.zero_le _) ((Sto.get_mk I).trans H) J (fun y d=>by obtain ⟨x,_,rfl⟩:=List.mem_map.1 d;rfl) (by rw [List.length_map,u]) fun i row y N d j a b m r=>by
   rw [List.getElem?_map]at d;obtain ⟨x,p,rfl⟩:=Option.map_eq_some_iff.1 d;obtain ⟨w,rfl,P,_⟩:=C i row x N p;obtain ⟨Q,R,T,U⟩:=O x (List.mem_of_getElem? p)
   match j with
   | 0=>cases m;cases r;exact .und _ Q.und
   | 1=>cases m;cases r;exact .und _ R.und
   | 2=>cases m;cases r;exact .und _ T.und
   | 3=>cases m;cases r;exact AccM.frzL tk_fr (fun f L=>by obtain ⟨D,A,rfl⟩:=List.mem_map.1 L;exact U D A) P
   | _+4=>simp at m
  rw [List.map_map]at this;exact this
theorem DA:∀ {ls:List AV} {l:AV},l∈ls->l.els.length<=(bQ ls).length
 | a::ls,l,h=>by
   rw [show bQ (a::ls)=a.els++bQ ls by simp [bQ],List.length_append]
   rcases List.mem_cons.1 h with rfl | h
   ·omega
   ·have:=DA h;omega
section
variable {os ts us is no:AV}
theorem oI (h:GW os ts us is no) {l:List Nat} (c:∀ k∈l,k<ts.els.length) {x y:Nat} (b:x∈cC os ts l) (d:y∈gY os.els x):y∈cC os ts l:=by
 obtain ⟨k,f,b⟩:=(mP h c).1 b;obtain ⟨m,e⟩:=bV.1 b;exact (mP h c).2 ⟨k,f,bV.2 ⟨h.a.lt y d,e.trans (.step d (.refl _))⟩⟩
theorem DB (h:GW os ts us is no) {L:List Nat} (e:∀ x∈L,∀ y∈gY os.els x,y∈L) {x:Nat} (o:x∈L) (c:x<os.els.length) {l:AV} (k:l∈DR (os.els.getD x .top)):mN L l.els:=fun v m d=>by
 have f:os.els.getD x .top=os.els[x]:=by rw [List.getD_eq_getElem?_getD,List.getElem?_eq_getElem c];rfl
 have b:v∈cW (os.els.getD x .top):=NP.2 ⟨l,k,m⟩;obtain ⟨r1,r2⟩:=h.a.refs _ (by rw [f];exact List.getElem_mem c) v b d;refine ⟨(v.fld 1).num.toNat,e x o _ ?_,aD⟩;exact List.mem_filterMap.2 ⟨v,b,by simp [d]⟩
abbrev JG:List AV->Option AV:=sB (fun a b=>∃ L:List Nat,L.length<=1000/\b=aQ L/\cG a/\a.els.length<=100000/\mN L a.els) fun a b=>bJ (a.els.map (oV (sK b)))
theorem movedV_ok:Abs.Ok Tryz.prog 52 JG:=ok2 fun a b ⟨L,c,e,d,f,h⟩=>by
 subst e;rw [fR c];exact aDz c d f h
def lQ (L:List Nat) (a:AV):AV:=bJ (a.els.map (oV L))
theorem zJ {L:List Nat} {a:AV} (b:L.length<=1000) (c:cG a) (d:a.els.length<=100000) (e:mN L a.els):JG [a,aQ L]=some (lQ L a):=by
 have:JG [a,aQ L]=_:=sg2_eq ⟨L,b,rfl,c,d,e⟩;rw [this,fR b];rfl
theorem iU {L:List Nat} {a:AV} (h:cG a):cG (lQ L a):=by
 obtain ⟨xs,c,d⟩:=h;rw [lQ,c.els];refine ⟨xs.map (oV L),dX (by rw [List.length_map];exact c.2),fun x b=>?_⟩;obtain ⟨y,e,rfl⟩:=List.mem_map.1 b;exact uE (d y e)
theorem RH {g:AV->AV} (b:∀ a,cG a->cG (g a)) {f:AV} (h:XM f):XM (kW g f):=by
 obtain ⟨_,_,_,rfl,⟨k,rfl⟩,c,d⟩:=h;exact ⟨_,_,_,rfl,⟨k,rfl⟩,b _ c,b _ d⟩
def eP (ts:AV) (b a:List Nat):List Nat:=a.map fun j=>b.idxOf (aZ ts j)
abbrev aKf (os ts us is no:AV):List AV->Option AV:=sB (fun w t=>w=fS os ts us is no/\∃ k:Nat,k<ts.els.length/\t=.int .i64 (k:Nat)) fun _ t=>aQ (cE os ts t.num.toNat)
theorem aKg (h:GW os ts us is no):Abs.Ok Tryz.prog 51 (aKf os ts us is no):=ok2 fun w t ⟨a,k,c,b⟩=>by
 subst a;subst b;exact YY h c
abbrev LOn (os ts us is no:AV):List mE:=[ent 51 (aKf os ts us is no),ent 41 (CE os ts us is no),ent 52 JG,ent 53 DC]
def hOn:cQ:=fun r=>if r=7 then ([],[1000]) else if r=8 then ([7],[1000]) else if r=13 then ([7,11],[1000,1000002000,14]) else if r=18 then ([11],[1000,1000002000,13]) else ([],[])
theorem aPh:hOn 7=([],[1000])/\hOn 8=([7],[1000])/\hOn 13=([7,11],[1000,1000002000,14])/\hOn 18=([11],[1000,1000002000,13]):=⟨rfl,rfl,rfl,rfl⟩
set_option maxHeartbeats 8000000 in
theorem aDx (h:GW os ts us is no) {k:Nat} (hk:k<ts.els.length) {c B:List Nat} (ab:B=cE os ts k) (ac:c=cC os ts B):
 Abs.Returns Tryz.prog 18 [fS os ts us is no,.int .i64 (k:Nat)] (.agg [bJ (c.map fun r=>gQ (lQ c) (os.els.getD r .top)),aQ (eP ts c B),us,is,no]):=by
 have c7:=h.g.und;obtain ⟨c0,c1,c2,c3,c4⟩:=h.g.cells;have hm:ts.els.length<=120:=Nat.le_trans h.l h.ol;have cx:=h.ol
 have au:B.length<=120:=by rw [ab];exact Nat.le_trans (pA os ts k) aD
 have av:∀ j∈B,j<ts.els.length:=fun j hj=>oX (os:=os) (k:=k) (by rw [<-ab];exact hj)
 have cq:aKf os ts us is no [.agg [os,ts,us,is,no],.int .i64 (k:Nat)]=some (aQ B):=by
  rw [aKf,sg2_eq (b:=.int .i64 (k:Nat)) ⟨rfl,k,hk,rfl⟩,ab];rfl
 have cr:CE os ts us is no [.agg [os,ts,us,is,no],aQ B]=some (aQ c):=by
  rw [CE,sg2_eq (b:=aQ B) ⟨rfl,_,rfl,av,au,k,by rw [ab];exact RP hk⟩,fR aD,ac]
 have M:∀ x∈c,x<os.els.length:=fun x E=>by
  rw [ac,cC,sI]at E;exact List.mem_range.1 (List.mem_filter.1 E).1
 have ci:c.length<=os.els.length:=by rw [ac];exact mO _ _ _
 have cj:∀ x∈c,∀ y∈gY os.els x,y∈c:=fun x E y S=>by rw [ac]at E ⊢;exact oI h av E S
 have b2:=fun {x:Nat} (E:x∈c) {l:AV}=>DB h cj E (M x E) (l:=l)
 clear ac ab;have bb:=dU (l:=c) aD;have ba:=dU (l:=B) aD;have dn:(aQ c).isCell=true:=cD;have dm:(aQ B).isCell=true:=cD;refine bM (L:=LOn os ts us is no) (elist_cons (aKg h).ent (elist_cons (RO h).ent (elist_cons movedV_ok.ent (elist_cons placeV_ok.ent aE)))) hOn (by kernel_rfl) Tryz.func18 Tryz.ntmps18 Tryz.results18 rfl rfl (aA c7.und (aA aS aC)) ?_;refine ap7 @c0 @c1 @c2 @c3 @c4 @cq @cr ?_;obtain ⟨V,b3,bm⟩:=h.g.os;have bn:=b3.els;have ae:=h.a.good;rw [bn]at M ci b2 cx ae ⊢
 have ck:∀ r,r<V.length->V.getD r .top∈V:=fun r hr=>by
  rw [List.getD_eq_getElem?_getD,List.getElem?_eq_getElem hr];exact List.getElem_mem hr
 refine aM (fun i e=>∃ t n low o v,e=⟨106,none,18,t,[],⟨n,low,o⟩,.no⟩/\t.val 2=.ptr 0 0 0/\t.val 4=.ptr 1 0 0/\t.val 5=aQ B/\t.val 6=aQ c/\t.val 7=.ptr 2 0 0/\t.val 8=.int .i64 (i:Nat)/\o.get 0=some (aR 0 [os,ts,us,is,no])/\o.get 1=some (aR 0 [.nils,.nils,.nils,.nils,.int .i64 0])/\o.get 2=some (aR 0 [v,.nils,us,is,no])/\3<=n/\n<=3+2000*i/\NOb (lQ c) 3 v n o ((c.take i).map fun r=>V.getD r .top)/\i<=c.length) (fun i=>c.length-i) 0
  ⟨_,_,_,_,.nils,rfl,aG,aG,aG,aG,aG,eT,qC,qC,aG,Nat.le_refl _,aD,NOb.nil,Nat.zero_le _⟩ ?_
 rintro i _ ⟨t,n,low,o,v,rfl,t2,t4,t5,U,X,t8,g0,g1,g2,hn,dr,hN,hi⟩;have f0:=fX (show 0<n by omega);have f2:=fX (show 2<n by omega)
 have fb:n<1000000000/\n+1<1000000000/\n+1+1<1000000000:=by omega
 rcases Nat.lt_or_ge i c.length with ay | cl
 ·have bp:=List.getElem?_eq_getElem ay
  have bw:=List.getElem_mem ay;have dc:=M _ bw
  have aj:(c.take (i+1)).map (fun r=>V.getD r .top)=(c.take i).map (fun r=>V.getD r .top)++[V.getD c[i] .top]:=by rw [List.take_add_one,bp,List.map_append];rfl
  have N:=fun {l:AV}=>b2 bw (l:=l)
  generalize c[i]=r at *;obtain ⟨x,ap,cv,cn,_,aw,ds,dp⟩:=bI (k:=4) (fun x h=>tk_ob.len h) bm (show V.length<=9223372036854775807 by omega) dc
  have cy:=fun {d:Option AV}=>tk_ob.pf ap (d:=d)
  have bo:V.getD r .top=x:=by rw [List.getD_eq_getElem?_getD,cn];rfl
  rw [bo]at aj N;obtain ⟨_,ai,cm⟩:=ae x cv
  have af:=fun {l:AV} (hl:l∈DR x)=>Nat.le_trans (DA hl) cm
  have c8:=fun {m:Nat}=>(tk_ob x ap).1.mono (Nat.zero_le m)
  have au:=fun {q:IntKind} {d:Option AV}=>gU (k:=1) (cP bp) rfl (q:=q) (d:=d)
  have k3:(((i:Nat):Int)<((c.length:Nat):Int))=True:=eq_true aD
  have da:IntKind.i64.wrap ((i:Int)+1)=((i+1:Nat):Int):=by rw [IntWalk.i64_in _ aD];rfl
  obtain ⟨_,_,H,fr,rfl,⟨F,rfl⟩,⟨G,rfl⟩,Q,ad⟩:=id ap;have b8:=(tu_vals _ Q).2;have b6:=(eE _ ad).2
  have dh:=fun {m:Nat}=>(tu_vals _ Q).1.mono (Nat.zero_le m)
  have dv:=fun {m:Nat}=>(eE _ ad).1.mono (Nat.zero_le m)
  have cu:=zJ (L:=c) aD Q (af (List.mem_cons_self ..)) (N (List.mem_cons_self ..));have bx:=iU (L:=c) Q;have al:=(tu_vals _ bx).2
  have dg:=fun {m:Nat}=>(tu_vals _ bx).1.mono (Nat.zero_le m)
  have bc:=hN.cell;simp +contextual +decide (maxSteps:=1000000) only [↓ wP,wQ,tf,Nat.reduceAdd,wS,aPh,t2,U,t8,g0,f0,gL,k3,aV,bb.len,bb.idx,au,b3.idx,aw,cy,c8,b8,b6,dh,cu,al,dg]
  have cw:∀ {X1 X2 X3 X4:AObj} {id:Nat},id<n->((((o.set n X1).set n X2).set (n+1) X3).set (n+1) X4).get id=o.get id:=fun {_ _ _ _ id} u=>by rw [Tr.get_set_ne _ _ aD,Tr.get_set_ne _ _ aD,Tr.get_set_ne _ _ aD,Tr.get_set_ne _ _ aD]
  obtain ⟨D,I,ar⟩:=ad
  have dk:D.length<=400:=by rw [show ((AV.agg [.int .i64 F,.int .i64 G,H,fr]).fld 3).els=D from I.els]at ai;exact ai
  have bv:∀ f∈D,f.fld 1∈DR (.agg [.int .i64 F,.int .i64 G,H,fr])/\f.fld 2∈DR (.agg [.int .i64 F,.int .i64 G,H,fr]):=fun f hf=>by
   have:∀ y,y=f.fld 1∨y=f.fld 2->y∈DR (.agg [.int .i64 F,.int .i64 G,H,fr]):=fun y S=>by
    refine List.mem_cons_of_mem _ (List.mem_flatten.2 ⟨[f.fld 1,f.fld 2],List.mem_map.2 ⟨f,?_,rfl⟩,by rcases S with rfl | rfl<;>simp⟩);rw [show ((AV.agg [.int .i64 F,.int .i64 G,H,fr]).fld 3).els=D from I.els];exact hf
   exact ⟨this _ (.inl rfl),this _ (.inr rfl)⟩
  refine aM (fun j e=>∃ t p low o' w,e=⟨106,none,18,t,[],⟨p,low,o'⟩,.no⟩/\t.val 2=.ptr 0 0 0/\t.val 4=.ptr 1 0 0/\t.val 5=aQ B/\t.val 6=aQ c/\t.val 7=.ptr 2 0 0/\t.val 8=.int .i64 (i:Nat)/\t.val 9=.ptr n 0 0/\t.val 10=.ptr (n+1) 0 0/\t.val 11=.int .i64 (j:Nat)/\(∀ id,id<n->o'.get id=o.get id)/\o'.get n=some (aR 0 [.int .i64 F,.int .i64 G,H,fr])/\o'.get (n+1)=some (aR 0 [.int .i64 F,.int .i64 G,lQ c H,w])/\n+2<=p/\p<=n+2+3*j/\AccM 3 (n+2) w p o' (nN (lQ c) (D.take j))/\j<=D.length) (fun j=>D.length-j) 0
   ⟨_,_,_,_,.nils,rfl,aN @t2,aN @t4,aN @t5,aN @U,aN @X,aN @t8,aG,aG,eT,fun id u=>cw u,LF @gL,Tr.get_set_same _ _ _,Nat.le_refl _,aD,.inl ⟨rfl,rfl⟩,Nat.zero_le _⟩ ?_
  clear t2 t4 t5 U X t8;rintro j _ ⟨t,p,low,o',w,rfl,t2,t4,t5,U,X,t8,t9,bd,b4,A,ga,gb,bz,b0,C,hj⟩;have fa:=fX (show n<p by omega);have bh:=fX (show n+1<p by omega)
  have bg:p<1000000000/\p+1<1000000000/\p+1+1<1000000000/\n<1000000000/\n+1<1000000000:=by omega
  rcases Nat.lt_or_ge j D.length with P | ax
  ·obtain ⟨f,bk,ct,ai,dq,co,c9,dj⟩:=bI (k:=3) (fun x h=>tk_fr.len h) ar I.2 P
   have b1:=fun {d:Option AV}=>tk_fr.pf bk (d:=d)
   have ak:nN (lQ c) (D.take (j+1))=nN (lQ c) (D.take j)++[(kW (lQ c) f).cells]:=by rw [nN,List.take_add_one,ai,List.map_append,List.map_append];rfl
   obtain ⟨bt,bu⟩:=bv f ct
   have ch:∀ y∈nN (lQ c) (D.take j),y.length=3:=fun y S=>by
    obtain ⟨z,hz,rfl⟩:=List.mem_map.1 S;obtain ⟨q,_,rfl⟩:=List.mem_map.1 hz;rfl
   have bl:(nN (lQ c) (D.take j)).length=j:=by rw [List.length_map,List.length_map,List.length_take];omega
   obtain ⟨_,p1,p2,rfl,⟨fm,rfl⟩,e1,e2⟩:=bk;have d1:=(tu_vals _ e1).2;have d2:=(tu_vals _ e2).2
   have dt:=fun {Y:Nat->Prop}=>e1.choose_spec.1.stab (Y:=Y)
   have du:=fun {Y:Nat->Prop}=>e2.choose_spec.1.stab (Y:=Y)
   have u1:=fun {m:Nat}=>(tu_vals _ e1).1.mono (Nat.zero_le m)
   have u2:=fun {m:Nat}=>(tu_vals _ e2).1.mono (Nat.zero_le m)
   have v1:=zJ (L:=c) aD e1 (af bt) (N bt);have v2:=zJ (L:=c) aD e2 (af bu) (N bu);have be:=(tu_vals _ (iU (L:=c) e1)).2;have bf:=(tu_vals _ (iU (L:=c) e2)).2
   have de:=fun {m:Nat}=>(tu_vals _ (iU (L:=c) e1)).1.mono (Nat.zero_le m)
   have df:=fun {m:Nat}=>(tu_vals _ (iU (L:=c) e2)).1.mono (Nat.zero_le m)
   rw [show (kW (lQ c) (.agg [.int .i64 fm,p1,p2])).cells=[.int .i64 fm,lQ c p1,lQ c p2] from rfl]at ak
   have aa:AccM 3 (n+2) w (p+1+1) (((o'.set p (aR 0 [AV.int .i64 0,AV.nils,AV.nils])).set p (aR 0 [AV.int .i64 fm,p1,p2])).set (p+1) (aR 0 [AV.int .i64 fm,lQ c p1,lQ c p2])) (nN (lQ c) (D.take j)):=C.keepO aD fun id u=>by
    have:=(C.own u).2;rw [Tr.get_set_ne _ _ aD,Tr.get_set_ne _ _ aD,Tr.get_set_ne _ _ aD]
   obtain ⟨w',n3,T,lf,q1,q2,q3,q4,q5,q6,_⟩:=aa.app1 (by_:=56) (cs:=[.int .i64 fm,lQ c p1,lQ c p2]) rfl (by simp only [List.all_cons,List.all_nil,be,bf];rfl) ch aD (by rw [bl];omega);have R:=C.cell;have ag:UnderE (p+1+1) w:=(AccM.und C).mono aD;have k4:(((j:Nat):Int)<((D.length:Nat):Int))=True:=eq_true aD;have am:=q2.cell
   have c5:T.get (n+1)=some (aR 0 [.int .i64 F,.int .i64 G,lQ c H,w]):=by
    rw [q5 _ aD (fun e=>by have:=(C.own e).1;omega),Tr.get_set_ne _ _ aD,Tr.get_set_ne _ _ aD,Tr.get_set_ne _ _ aD];exact gb
   have f3:=fX (show n+1<n3 by omega);simp +contextual +decide (maxSteps:=1000000) only [↓ wP,wQ,tf,Nat.reduceAdd,wS,aPh,bg,U,t9,bd,b4,ga,gb,fa,bh,gL,k4,I.len,I.idx,co,b1,c9,d1,d2,u1,u2,v1,v2,be,bf,de,df,ag,q1,am,c5,f3,Nat.reduceMul];have az:p+1+1<=n3:=q3
   have J:∀ id,id<n->T.get id=o.get id:=fun id u=>by
    rw [q5 id aD (fun e=>by have:=(C.own e).1;omega),Tr.get_set_ne _ _ aD,Tr.get_set_ne _ _ aD,Tr.get_set_ne _ _ aD];exact A id u
   have cb:T.get n=some (aR 0 [.int .i64 F,.int .i64 G,H,fr]):=by
    rw [q5 n aD (fun e=>by have:=(C.own e).1;omega),Tr.get_set_ne _ _ aD,Tr.get_set_ne _ _ aD,Tr.get_set_ne _ _ aD];exact ga
   have k5:IntKind.i64.wrap ((j:Int)+1)=((j+1:Nat):Int):=by rw [IntWalk.i64_in _ aD];rfl
   have ao:AccM 3 (n+2) w' n3 (T.set (n+1) (aR 0 [.int .i64 F,.int .i64 G,lQ c H,w'])) (nN (lQ c) (D.take j)++[[.int .i64 fm,lQ c p1,lQ c p2]]):=q2.keepO (Nat.le_refl _) fun id u=>by
    have:=(q2.own u).1;rw [Tr.get_set_ne _ _ aD]
   refine ⟨az,AccM.und q2,?_⟩;exact ⟨j+1,by show _-_<_-_;omega,_,_,_,_,w',rfl,aN @t2,aN @t4,aN @t5,aN @U,aN @X,aN @t8,aN @t9,aN @bd,aG,fun id u=>by rw [Tr.get_set_ne _ _ aD];exact J id u,by rw [Tr.get_set_ne _ _ aD];exact cb,Tr.get_set_same _ _ _,aD,aD,by rw [ak];exact ao,P⟩
  ·obtain rfl:j=D.length:=Nat.le_antisymm hj ax
   rw [List.take_length]at C;have k4:(((D.length:Nat):Int)<((D.length:Nat):Int))=False:=eq_false (Int.lt_irrefl _)
   have aq:NOb (lQ c) 3 v p o' ((c.take i).map fun r=>V.getD r .top):=hN.keep aD fun id _ h2=>A id h2
   have db:∀ q,qD w=some q->qD v≠some q:=fun q h1 h2=>by
    have:=(C.own h1).1;have:=(hN.und h2).2;omega
   have R:=C.cell;have O:=(A 2 aD).trans g2;have bi:=(A 0 aD).trans g0;have bj:=(A 1 aD).trans g1;have ah:=fX (show 2<p by omega)
   have ce:NOb (lQ c) 3 v (p+1) (o'.set p (aR 0 [AV.int .i64 F,AV.int .i64 G,lQ c H,w])) ((c.take i).map fun r=>V.getD r .top):=aq.keep aD fun id _ h2=>Tr.get_set_ne _ _ aD
   have cc:AccM 3 3 w (p+1) (o'.set p (aR 0 [AV.int .i64 F,AV.int .i64 G,lQ c H,w])) (nN (lQ c) D):=(C.keepO aD fun id u=>by
    have:=(C.own u).2
    rw [Tr.get_set_ne _ _ aD]).lo aD
   have cd:AccM 3 3 w (p+1) (o'.set p (aR 0 [AV.int .i64 F,AV.int .i64 G,lQ c H,w])) (nN (lQ c) ((AV.agg [.int .i64 F,.int .i64 G,H,fr]).fld 3).els):=by
    rw [show ((AV.agg [.int .i64 F,.int .i64 G,H,fr]).fld 3).els=D from I.els];exact cc
   obtain ⟨v',n3,T,lf,q1,q2,q3,q4,q5,_⟩:=ce.app (by_:=64) (x:=.agg [.int .i64 F,.int .i64 G,H,fr]) cd db (by show [AV.int .i64 F,AV.int .i64 G,lQ c H,w].all AV.isCell=true;simp only [List.all_cons,List.all_nil,al,R];rfl) aD (by rw [List.length_map,List.length_take];omega);have dd:∀ low,apF ⟨p+1,low,o'.set p (aR 0 [AV.int .i64 F,AV.int .i64 G,lQ c H,w])⟩ 4 64 v (some (1,[AV.int .i64 F,AV.int .i64 G,lQ c H,w]))=some (.val' v' ⟨n3,lf low,T⟩):=q1;have b7:=q2.cell
   have Z:T.get 2=some (aR 0 [v,.nils,us,is,no]):=by
    rw [q5 2 aD (fun e=>by have:=(hN.und e).1;omega),Tr.get_set_ne _ _ aD];exact O
   have an:=fX (show 2<n3 by omega);simp +contextual +decide (maxSteps:=1000000) only [↓ wP,wQ,tf,Nat.reduceAdd,wS,X,t8,t9,bd,b4,ga,gb,fa,bh,gL,k4,I.len,O,ah,R,al,dd,b7,Z,an,Nat.reduceMul,da]
   have bs:∀ id,id<3->id≠2->T.get id=o.get id:=fun id u _=>by
    rw [q5 id aD (fun e=>by have:=(hN.und e).1;omega),Tr.get_set_ne _ _ aD];exact A id aD
   have cf:NOb (lQ c) 3 v' n3 (T.set 2 (aR 0 [v',.nils,us,is,no])) ((c.take i).map (fun r=>V.getD r .top)++[.agg [.int .i64 F,.int .i64 G,H,fr]]):=q2.keep (Nat.le_refl _) fun id h1 _=>Tr.get_set_ne _ _ aD
   exact ⟨i+1,by show _-_<_-_;omega,_,_,_,_,v',rfl,aN @t2,aN @t4,aN @t5,aN @U,aN @X,aG,by rw [Tr.get_set_ne _ _ aD,bs 0 aD aD];exact g0,by rw [Tr.get_set_ne _ _ aD,bs 1 aD aD];exact g1,Tr.get_set_same _ _ _,aD,aD,by rw [aj];exact cf,ay⟩
 ·obtain rfl:i=c.length:=Nat.le_antisymm hi cl
  rw [List.take_length]at hN;have k3:(((c.length:Nat):Int)<((c.length:Nat):Int))=False:=eq_false (Int.lt_irrefl _);refine LB @U @t8 @k3 @aV bb.lX ?_
  have dl:∀ {j:Nat},j<ts.els.length->∃ q:Nat,ts.els[j]?=some (.int .i64 (q:Nat))/\q=aZ ts j:=fun {j} hj=>⟨aZ ts j,(h.task hj).2,rfl⟩
  have c6:Sl ts ts.els:=by
   obtain ⟨xs,hs,_⟩:=h.g.ts;rw [hs.els];exact hs
  refine aM (fun j e=>∃ t p low o' w,e=⟨106,none,18,t,[],⟨p,low,o'⟩,.no⟩/\t.val 2=.ptr 0 0 0/\t.val 4=.ptr 1 0 0/\t.val 5=aQ B/\t.val 6=aQ c/\t.val 7=.ptr 2 0 0/\t.val 13=.int .i64 (j:Nat)/\(∀ id,id<n->id≠2->o'.get id=o.get id)/\o'.get 2=some (aR 0 [v,w,us,is,no])/\n<=p/\p<=n+3*j/\AccM 1 n w p o' ((aP (eP ts c (B.take j))).map fun x=>[x])/\j<=B.length) (fun j=>B.length-j) 0
   ⟨_,_,_,_,.nils,rfl,aN @t2,aN @t4,aN @t5,aN @U,aN @X,eT,fun _ _ _=>rfl,g2,Nat.le_refl _,aD,.inl ⟨rfl,rfl⟩,Nat.zero_le _⟩ ?_
  clear t2 t4 t5 U X t8;rintro j _ ⟨t,p,low,o',w,rfl,t2,t4,t5,U,X,b5,A,O,bz,b0,C,hj⟩;have bi:=(A 0 aD aD).trans g0;have bj:=(A 1 aD aD).trans g1;have b9:=fX (show 0<p by omega);have ca:=fX (show 1<p by omega);have ah:=fX (show 2<p by omega)
  have bg:p<1000000000/\p+1<1000000000/\p+1+1<1000000000:=by omega
  rcases Nat.lt_or_ge j B.length with P | ax
  ·have bq:=List.getElem?_eq_getElem P
   have cp:=av _ (List.getElem_mem P)
   have aj:aP (eP ts c (B.take (j+1)))=aP (eP ts c (B.take j))++[.int .i64 ((c.idxOf (aZ ts B[j]):Nat):Int)]:=by
    rw [List.take_add_one,bq,eP,List.map_append,aP,List.map_append];rfl
   generalize B[j]=q at *;obtain ⟨q1,q2⟩:=h.task cp
   have aw:=fun {q:IntKind} {d:Option AV}=>gU (k:=1) q2 rfl (q:=q) (d:=d)
   have br:=fun {q:IntKind} {d:Option AV}=>gU (k:=1) (cP bq) rfl (q:=q) (d:=d)
   have cz:=HL (L:=c) aD (aZ ts q);have k4:(((j:Nat):Int)<((B.length:Nat):Int))=True:=eq_true aD
   have k5:IntKind.i64.wrap ((j:Int)+1)=((j+1:Nat):Int):=by rw [IntWalk.i64_in _ aD];rfl
   have s1:∀ {a:AV},[AV.int .i64 0].set (0*1) a=[a]:=rfl
   have cg:∀ y∈(aP (eP ts c (B.take j))).map (fun x=>[x]),y.length=1:=fun y S=>by obtain ⟨z,_,rfl⟩:=List.mem_map.1 S;rfl
   have di:((aP (eP ts c (B.take j))).map fun x=>[x]).length<=j:=by rw [List.length_map,aV,eP,List.length_map,List.length_take];omega
   have aa:AccM 1 n w (p+1) (o'.set p (aR 0 [.int .i64 ((c.idxOf (aZ ts q):Nat):Int)])) ((aP (eP ts c (B.take j))).map fun x=>[x]):=C.keepO aD fun id u=>by
    have:=(C.own u).2;rw [Tr.get_set_ne _ _ aD]
   obtain ⟨w',n3,T,lf,r1,r2,r3,r4,r5,r6,_⟩:=aa.app1 (by_:=8) (cs:=[.int .i64 ((c.idxOf (aZ ts q):Nat):Int)]) rfl rfl cg aD aD;have R:=C.cell;have ag:UnderE (p+1) w:=(AccM.und C).mono aD;have am:=r2.cell
   have Z:T.get 2=some (aR 0 [v,w,us,is,no]):=by
    rw [r5 2 aD (fun e=>by have:=(C.own e).1;omega),Tr.get_set_ne _ _ aD];exact O
   have an:=fX (show 2<n3 by omega);have az:p+1<=n3:=r3;have bc:=hN.cell;simp +contextual +decide (maxSteps:=1000000) only [↓ wP,wQ,tf,Nat.reduceAdd,wS,aPh,t2,t5,U,X,b5,bi,O,b9,ah,gL,k4,aV,ba.len,ba.idx,br,c6.idx,aw,cz,ag,r1,am,Z,an,az,s1,k5,AccM.und r2]
   have ao:AccM 1 n w' n3 (T.set 2 (aR 0 [v,w',us,is,no])) ((aP (eP ts c (B.take j))).map (fun x=>[x])++[[.int .i64 ((c.idxOf (aZ ts q):Nat):Int)]]):=r2.keepO (Nat.le_refl _) fun id u=>by
    have:=(r2.own u).1;rw [Tr.get_set_ne _ _ aD]
   have J:∀ id,id<n->id≠2->(T.set 2 (aR 0 [v,w',us,is,no])).get id=o.get id:=fun id h1 h2=>by
    rw [Tr.get_set_ne _ _ h2,r5 id aD (fun e=>by have:=(C.own e).1;omega),Tr.get_set_ne _ _ aD];exact A id h1 h2
   exact ⟨j+1,by show _-_<_-_;omega,_,_,_,_,w',rfl,aN @t2,aN @t4,aN @t5,aN @U,aN @X,aG,J,Tr.get_set_same _ _ _,aD,aD,by rw [aj,List.map_append];exact ao,P⟩
  ·obtain rfl:j=B.length:=Nat.le_antisymm hj ax
   rw [List.take_length]at C;have k4:(((B.length:Nat):Int)<((B.length:Nat):Int))=False:=eq_false (Int.lt_irrefl _);have bc:=hN.cell;have R:=C.cell;simp +contextual +decide (maxSteps:=1000000) only [↓ wP,wQ,tf,Nat.reduceAdd,wS,t4,t5,X,b5,k4,aV,ba.len,bj,O,ca,ah,bc,R,c2,c3,c4,dK,Option.bind_some]
   refine .agg _ _ rfl fun i x y E S=>?_
   have aq:NOb (lQ c) 3 v p (o'.set 1 (aR 0 [v,w,us,is,no])) (c.map fun r=>V.getD r .top):=hN.keep bz fun id h1 h2=>by rw [Tr.get_set_ne _ _ (by omega)];exact A id h2 (by omega)
   have aa:AccM 1 n w p (o'.set 1 (aR 0 [v,w,us,is,no])) ((aP (eP ts c B)).map fun x=>[x]):=C.keepO (Nat.le_refl _) fun id u=>by
    have:=(C.own u).1;rw [Tr.get_set_ne _ _ aD]
   have u2:=(dY _ h.g.us).1;have u3:=(aT _ h.g.is).1;have u4:=(tu_int _ h.g.no).1
   match i with
   | 0=>
     cases E;cases S
     have:=WJ (low:=Nat.min 1 low) aq fun x E=>by
      obtain ⟨r,hr,rfl⟩:=List.mem_map.1 E;have hT:=bm _ (ck r (M r hr));obtain ⟨_,_,H,fr,e,⟨F,rfl⟩,⟨G,rfl⟩,Q,ad⟩:=hT;rw [e];obtain ⟨D,I,ar⟩:=ad;exact ⟨⟨1,rfl⟩,⟨1,rfl⟩,(tu_vals _ (iU (L:=c) Q)).1,fun f hf=>RH (fun a ha=>iU ha) (ar f (I.els ▸ hf))⟩
     rw [List.map_map]at this;exact this
   | 1=>
     cases E;cases S;rw [sM]
     exact aa.frz1 (fun x E=>(dF x E).1) fun x E=>(dF x E).2
   | 2=>cases E;cases S;exact .und _ u2.und
   | 3=>cases E;cases S;exact .und _ u3.und
   | 4=>cases E;cases S;exact .und _ u4.und
   | _+5=>simp at E
end
end
end Go.Proofs.YtdipddlhenoglaaGreat
