/-
  Reaching: the closure that visits an object, and all that it reaches.
-/
import Derived.Test.YtdipddlhenoglaaGreatZa
set_option linter.unusedVariables false
set_option linter.unusedSimpArgs false
namespace Go.Proofs.YtdipddlhenoglaaGreat
open Go.Abs Go Go.Abs.TryzF
noncomputable section
set_option maxRecDepth 10000
abbrev aTh (w:AV) (m1 y0 v0:Nat):AV:=.func (.func 81) [] [.ptr m1 0 0,.ptr y0 0 0,.pf w,.ptr v0 0 0]
def aI (M:List Bool):List AV:=M.map .bool
theorem gS {M:List Bool} {n:Nat}:(aI M)[n]?=(M[n]?).map .bool:=by simp [aI]
theorem kJ {M:List Bool} {n:Nat}:(aI M).set n (.bool true)=aI (M.set n true):=by simp [aI,List.map_set]
theorem cZ {M:List Bool}:(aI M).length=M.length:=by simp [aI]
def kC (l:List AV):List Nat:=l.filterMap fun v=>if (v.fld 0).num=5 then some (v.fld 1).num.toNat else none
theorem TB {v:AV} {l:List AV}:kC (v::l)=if (v.fld 0).num=5 then (v.fld 1).num.toNat::kC l else kC l:=by
 unfold kC;rw [List.filterMap_cons];by_cases h:(v.fld 0).num=5<;>simp [h]
def kK (A:List AV) (n:Nat):List Nat:=kC (bS (A.getD n .top))
structure GoodA (A:List AV):Prop where
 good:∀ o∈A,vO o
 refs:∀ o∈A,∀ v∈bS o,(v.fld 0).num=5->0<=(v.fld 1).num/\(v.fld 1).num<A.length
 len:A.length<=1000
theorem GoodA.lt {A:List AV} (h:GoodA A) {n:Nat}:∀ y∈kK A n,y<A.length:=fun y b=>by
 rcases Nat.lt_or_ge n A.length with a | a
 ·have d:=List.getElem_mem a
  rw [kK,List.getD_eq_getElem?_getD,List.getElem?_eq_getElem a]at b;obtain ⟨v,e,c⟩:=List.mem_filterMap.1 b;split at c
  ·cases c
   obtain ⟨f,k⟩:=h.refs _ d v e ‹_›;omega
  ·cases c
 ·rw [kK,List.getD_eq_getElem?_getD,List.getElem?_eq_none a]at b
  simp [bS,lsO,qN,TG,bZ,AV.fld,AV.els,kC]at b
structure VS (w:AV) (l m0 g:Nat) (c0:ACap) (m1 y0 v0:Nat) (Y:Nat->Prop) (u:Sto) (M:List Bool):Prop where
 ym:Y m0/\Y m1/\Y y0/\Y v0
 ne:m1≠m0/\y0≠m0/\v0≠m0
 g0:u.get m0=some (aQ g (aI M))
 g1:u.get m1=some (aQ 0 [.sl m0 g 0 M.length c0])
 g2:u.get y0=some (aQ 0 [.func (.yield l) [] []])
 g3:u.get v0=some (aQ 0 [aTh w m1 y0 v0])
section
variable {w:AV} {l m0 g:Nat} {c0:ACap} {m1 y0 v0:Nat} {Y Y':Nat->Prop} {u u':Sto} {M M':List Bool}
theorem VS.set (h:VS w l m0 g c0 m1 y0 v0 Y u M) (a:∀ id,id=m0∨id=m1∨id=y0∨id=v0->Y' id) (b:∀ id,id=m1∨id=y0∨id=v0->u'.get id=u.get id) (d:u'.get m0=some (aQ g (aI M'))) (c:M'.length=M.length):VS w l m0 g c0 m1 y0 v0 Y' u' M':=
 ⟨⟨a _ (.inl rfl),a _ (.inr (.inl rfl)),a _ (.inr (.inr (.inl rfl))),a _ (.inr (.inr (.inr rfl)))⟩,h.ne,d,(b _ (.inl rfl)).trans (c ▸ h.g1),(b _ (.inr (.inl rfl))).trans h.g2,(b _ (.inr (.inr rfl))).trans h.g3⟩
theorem VS.keep (h:VS w l m0 g c0 m1 y0 v0 Y u M) (c:∀ id,id=m0∨id=m1∨id=y0∨id=v0->Y' id) (b:∀ id,id=m0∨id=m1∨id=y0∨id=v0->u'.get id=u.get id):VS w l m0 g c0 m1 y0 v0 Y' u' M:=
 h.set c (fun id a=>b id (.inr a)) ((b _ (.inl rfl)).trans h.g0) rfl
theorem VS.all (h:VS w l m0 g c0 m1 y0 v0 Y u M):∀ id,id=m0∨id=m1∨id=y0∨id=v0->Y id:=by
 rintro id (rfl | rfl | rfl | rfl)
 ·exact h.ym.1
 ·exact h.ym.2.1
 ·exact h.ym.2.2.1
 ·exact h.ym.2.2.2
end
def GrY (l m0:Nat) (Y Y':Nat->Prop) (u u':Sto):Prop:=(∀ id,Y id->Y' id)/\(∀ id,Y' id->(Y id∨u.n<=id)/\id<u'.n)/\u.n<=u'.n/\¬ Y' l/\∀ id,Y id->id≠m0->u'.get id=u.get id
def aAj (A:List AV) (out:List Nat) (M:List Bool) (t:List Nat) (i:Nat):Prop:=i<=out.length/\Run (kK A) M t (out.drop i)
def aTi (A:List AV) (out:List Nat) (w:AV) (l m0 g:Nat) (c0:ACap) (m1 y0 v0:Nat) (J:Nat->(Nat->Prop)->Sto->Prop) (D:(Nat->Prop)->Sto->Prop) (n:Nat) (rest:List Nat) (Y:Nat->Prop) (u:Sto) (M:List Bool):CRes->Prop
 | .ret (.bool true) a=>((a.getD u=u/\M[n]?=some true)∨(a.getD u).low<=l)/\∃ i M' Y',GrY l m0 Y Y' u (a.getD u)/\VS w l m0 g c0 m1 y0 v0 Y' (a.getD u) M'/\M'.length=M.length/\fX M'<=fX M/\J i Y' (a.getD u)/\aAj A out M' rest i
 | .ret (.bool false) a=>(a.getD u).low<=l/\∃ Y',GrY l m0 Y Y' u (a.getD u)/\D Y' (a.getD u)
 | _=>False
def YA (d:Nat) (Y Y2:Nat->Prop) (v:Sto):Nat->Prop:=fun id=>Y id∨((id=d∨id=d+1)/\id<v.n)∨Y2 id
structure Core (l m0:Nat) (Yb:Nat->Prop) (ub:Sto) (Y Y2:Nat->Prop) (v:Sto):Prop where
 ln:l<ub.n/\ub.n<=v.n
 yl:¬ Y l/\¬ Y2 l
 up:∀ id,Yb id->Y id
 dn:∀ id,Y id->(Yb id∨ub.n<=id)/\id<v.n/\¬ Y2 id/\id≠ub.n/\id≠ub.n+1
 y2:∀ id,Y2 id->ub.n<=id/\id<v.n
 kp:∀ id,Yb id->id≠m0->v.get id=ub.get id
section
variable {l m0:Nat} {Yb Y Y2 Y2':Nat->Prop} {ub v v':Sto}
theorem Core.same (h:Core l m0 Yb ub Y Y2 v) (e:StepX (fun id=>id=ub.n+1) Y2 Y2' v v'):∀ id,Y id->v'.get id=v.get id:=fun id a=>by
 obtain ⟨_,b,c,_,d⟩:=h.dn id a;exact e.2.2.2 id b c d
theorem Core.step (h:Core l m0 Yb ub Y Y2 v) (b:StepX (fun id=>id=ub.n+1) Y2 Y2' v v'):Core l m0 Yb ub Y Y2' v':=
 ⟨⟨h.ln.1,Nat.le_trans h.ln.2 b.2.2.1⟩,⟨h.yl.1,fun a=>(b.2.1 l a).elim h.yl.2 fun a=>by have:=h.ln;have:=a.1;omega⟩,h.up,
   fun id e=>by
    obtain ⟨c,d,f,k⟩:=h.dn id e
    exact ⟨c,Nat.lt_of_lt_of_le d b.2.2.1,fun a=>(b.2.1 id a).elim f fun a=>by have:=a.1;omega,k⟩,
   fun id a=>(b.2.1 id a).elim (fun a=>⟨(h.y2 id a).1,Nat.lt_of_lt_of_le (h.y2 id a).2 b.2.2.1⟩) fun a=>⟨Nat.le_trans h.ln.2 a.1,a.2⟩,fun id c d=>(h.same b id (h.up id c)).trans (h.kp id c d)⟩
theorem YA.step (h:Core l m0 Yb ub Y Y2 v) (d:StepX (fun id=>id=ub.n+1) Y2 Y2' v v'):StepX DY (YA ub.n Y Y2 v) (YA ub.n Y Y2' v') v v':=by
 refine ⟨fun id a=>?_,fun id a=>?_,d.2.2.1,fun id b c _=>d.2.2.2 id b (fun a=>c (.inr (.inr a))) fun a=>c (.inr (.inl ⟨.inr a,b⟩))⟩
 ·rcases a with a | ⟨b,c⟩ | a
  ·exact .inl a
  ·exact .inr (.inl ⟨b,Nat.lt_of_lt_of_le c d.2.2.1⟩)
  ·exact .inr (.inr (d.1 id a))
 ·rcases a with a | ⟨b,c⟩ | a
  ·exact .inl (.inl a)
  ·rcases Nat.lt_or_ge id v.n with e | e
   ·exact .inl (.inr (.inl ⟨b,e⟩))
   ·exact .inr ⟨e,c⟩
  ·rcases d.2.1 id a with a | a
   ·exact .inl (.inr (.inr a))
   ·exact .inr a
def YN (d:Nat) (a Y2:Nat->Prop):Nat->Prop:=fun id=>a id/\id≠d/\id≠d+1/\¬ Y2 id
theorem Core.next {y:Nat->Prop} {c b:Sto} (h:Core l m0 Yb ub Y Y2 v) (V:Y m0) (hd:ub.n+1<v.n) (m:v.n<=c.n) (I:∀ id,id<v.n->id≠ub.n+1->c.get id=v.get id) (H:¬ Y2 (ub.n+1)) (U:GrY l m0 (YA ub.n Y Y2 c) y c b):
 Core l m0 Yb ub (YN ub.n y Y2) Y2 b/\nJ Y2 v b/\StepX DY y (YA ub.n (YN ub.n y Y2) Y2 b) b b/\b.get ub.n=v.get ub.n/\b.get (ub.n+1)=c.get (ub.n+1)/\ub.n+1<b.n:=by
 obtain ⟨B,P,Q,S,C⟩:=U;have d:=h.dn m0 V
 have N:∀ id,Y2 id->YA ub.n Y Y2 c id:=fun id a=>.inr (.inr a)
 have k2:∀ id,Y2 id->b.get id=v.get id:=fun id a=>(C id (N id a) fun e=>d.2.2.1 (e ▸ a)).trans (I id (h.y2 id a).2 fun e=>H (e ▸ a))
 have f:YA ub.n Y Y2 c ub.n:=.inr (.inl ⟨.inl rfl,aC⟩);have k:YA ub.n Y Y2 c (ub.n+1):=.inr (.inl ⟨.inr rfl,aC⟩);refine ⟨⟨⟨h.ln.1,aC⟩,⟨fun o=>S o.1,h.yl.2⟩,fun id a=>?_,fun id a=>?_,fun id a=>⟨(h.y2 id a).1,Nat.lt_of_lt_of_le (h.y2 id a).2 (Nat.le_trans m Q)⟩,fun id E F=>?_⟩,⟨Nat.le_trans m Q,k2⟩,⟨fun id a=>?_,fun id a=>.inl ?_,Nat.le_refl _,fun _ _ _ _=>rfl⟩,?_,?_,aC⟩
 ·obtain ⟨_,_,Z,G⟩:=h.dn id (h.up id a)
  exact ⟨B id (.inl (h.up id a)),G.1,G.2,Z⟩
 ·obtain ⟨E,F,T,R⟩:=a
  obtain ⟨X,L⟩:=P id E;refine ⟨?_,L,R,F,T⟩
  rcases X with (q | ⟨q,_⟩ | q) | q
  ·exact (h.dn id q).1
  ·exact absurd q aC
  ·exact absurd q R
  ·exact .inr (by have:=h.ln.2;omega)
 ·have r:=h.up id E
  obtain ⟨_,L,_,G⟩:=h.dn id r;exact (C id (.inl r) F).trans ((I id L G.2).trans (h.kp id E F))
 ·by_cases o:id=ub.n∨id=ub.n+1
  ·exact .inr (.inl ⟨o,(P id a).2⟩)
  ·by_cases r:Y2 id
   ·exact .inr (.inr r)
   ·exact .inl ⟨a,fun e=>o (.inl e),fun e=>o (.inr e),r⟩
 ·rcases a with a | ⟨rfl | rfl,_⟩ | a
  ·exact a.1
  ·exact B _ f
  ·exact B _ k
  ·exact B _ (N id a)
 ·exact (C _ f (Ne.symm d.2.2.2.1)).trans (I _ aC aC)
 ·exact C _ k (Ne.symm d.2.2.2.2)
end
def vN (out:List Nat):List (List AV):=out.map fun n:Nat=>[.int .i64 (n:Nat)]
theorem OQ {A:List AV} {out:List Nat} {w:AV} {l m0 g:Nat} {c0:ACap} {m1 y0 v0:Nat} {J:Nat->(Nat->Prop)->Sto->Prop} {D:(Nat->Prop)->Sto->Prop} {n:Nat} {rest:List Nat} {Y:Nat->Prop} {u:Sto} {M:List Bool} {res:CRes} (h:aTi A out w l m0 g c0 m1 y0 v0 J D n rest Y u M res):
 ∃ v a u',res=.ret v a/\a.getD u=u'/\((v=.bool true/\((u'=u/\M[n]?=some true)∨u'.low<=l)/\∃ i M' Y',GrY l m0 Y Y' u u'/\VS w l m0 g c0 m1 y0 v0 Y' u' M'/\M'.length=M.length/\fX M'<=fX M/\J i Y' u'/\aAj A out M' rest i)∨(v=.bool false/\u'.low<=l/\∃ Y',GrY l m0 Y Y' u u'/\D Y' u')):=by
 cases res with
 | pan v a=>exact h.elim
 | ret v a=>cases v with
   | bool b=>cases b with
     | true=>exact ⟨_,a,_,rfl,rfl,.inl ⟨rfl,h⟩⟩
     | false=>exact ⟨_,a,_,rfl,rfl,.inr ⟨rfl,h⟩⟩
   | _=>exact h.elim
section
variable {O:cH} {os ts us is no:AV} {A:List AV} {out:List Nat} {l m0 g:Nat} {c0:ACap} {m1 y0 v0:Nat} {J:Nat->(Nat->Prop)->Sto->Prop} {D:(Nat->Prop)->Sto->Prop}
abbrev dP (os ts us is no:AV):AV:=.agg [os,ts,us,is,no]
set_option maxHeartbeats 8000000 in
theorem aAk (hs:Sl os A) (hA:GoodA A) (B:∀ a σ,O 81 a σ=none) (E:∀ o,AE o->∀ σ,O 82 [o] σ=some (.ret (EA o) none)) (h3:∀ o,vO o->BD Tryz.prog O (EA o) (pQ o))
 (hJ:∀ i Y Y' u u',StepX DY Y Y' u u'->J i Y u->J i Y' u') (hD:∀ Y Y' u u',StepX DY Y Y' u u'->D Y u->D Y' u')
 (hr:∀ i x,(vN out)[i]?=some x->∀ Y u,l<u.n->¬ Y l->(∀ id,Y id->id<u.n)->J i Y u->Wcall Tryz.prog O (.func (.yield l) [] []) x u (rX l J D i Y u)):
 ∀ (k:Nat) (M:List Bool),M.length=A.length->fX M=k->∀ (n:Nat) (rest:List Nat) (i:Nat) (Y:Nat->Prop) (u:Sto),l<u.n->¬ Y l->(∀ id,Y id->id<u.n)->VS (dP os ts us is no) l m0 g c0 m1 y0 v0 Y u M->J i Y u->n<A.length->aAj A out M (n::rest) i->
   Wcall Tryz.prog O (aTh (dP os ts us is no) m1 y0 v0) [.int .i64 (n:Nat)] u (aTi A out (dP os ts us is no) l m0 g c0 m1 y0 v0 J D n rest Y u M):=by
 intro k
 induction k using Nat.strongRecOn with
 | ind k ih=>
   intro M hM hk n rest i Y u hl cb I hV bq hn F;refine nA (first:=[]) (cap:=[.ptr m1 0 0,.ptr y0 0 0,.pf (dP os ts us is no),.ptr v0 0 0]) aN (B _ _) (by kernel_rfl) Tryz.func81 Tryz.ntmps81 Tryz.results81 rfl rfl ?_;obtain ⟨d,low,o⟩:=u;have b0:=I _ hV.ym.1;have b1:=I _ hV.ym.2.1;have b2:=I _ hV.ym.2.2.1;have b3:=I _ hV.ym.2.2.2;have q0:=hV.g0;have q1:=hV.g1;have q2:=hV.g2;have q3:=hV.g3;have b9:m0<d:=b0;have bl:m1<d:=b1;have bm:y0<d:=b2;have bn:v0<d:=b3;rw [Sto.get_mk b9]at q0;rw [Sto.get_mk bl]at q1;rw [Sto.get_mk bm]at q2;rw [Sto.get_mk bn]at q3;have f0:=dO b9;have f1:=dO bl;have f2:=dO bm;have f3:=dO bn;have di:n<M.length:=hM ▸ hn;have k1:(((n:Nat):Int)<((M.length:Nat):Int))=True:=eq_true aC;have k2:(0<=((n:Nat):Int))=True:=eq_true aC;obtain ⟨da,F⟩:=F;generalize he:out.drop i=oo at F
   cases F with
   | skip hm F=>
     have hb:(aI M)[n]?=some (.bool true):=by rw [gS,hm];rfl
     refine xY @q0 @q1 @f0 @f1 @NQ @k1 @k2 @hb @Int.toNat_natCast @Nat.mul_one @Nat.zero_add ?_;refine ⟨rfl,_,rfl,[.bool true],by simp +contextual +decide (maxSteps:=1000000) only [↓ wP,wQ,tf,wS,NQ,iE,Option.bind_some],fun e H R=>?_⟩;have c4:cO ⟨d,low,o⟩ (kH [.bool true]) e=none:=lR (by rw [H];exact Nat.le_min.2 ⟨Nat.le_refl _,Nat.le_refl _⟩) rfl R;rw [c4];exact ⟨.inl ⟨rfl,hm⟩,i,M,Y,⟨fun _ h=>h,fun id h=>⟨.inl h,I id h⟩,Nat.le_refl _,cb,fun _ _ _=>rfl⟩,hV,rfl,Nat.le_refl _,bq,da,he ▸ F⟩
   | @go _ _ _ oo hm F=>
     have hb:(aI M)[n]?=some (.bool false):=by rw [gS,hm];rfl
     have ck:(vN out)[i]?=some [.int .i64 (n:Nat)]:=by
      have h0:out[i]?=some n:=by rw [<-List.head?_drop,he];rfl
      rw [vN,List.getElem?_map,h0];rfl
     have c9:i+1<=out.length:=by have:=congrArg List.length he;rw [List.length_drop,List.length_cons]at this;omega
     have c6:out.drop (i+1)=oo:=by rw [<-List.tail_drop,he];rfl
     have dq:=iW hm;have cs:(aI M).set n (.bool true)=aI (M.set n true):=kJ
     have cr:n<(aI M).length:=by rw [cZ];exact di
     have be:=hV.ne;have df:l<d:=hl;obtain ⟨x,bo,cf,c8,_,db,_,_⟩:=bB (k:=4) (fun x h=>tk_ob.len h) (fun x h=>(hA.good x h).1) (show A.length<=9223372036854775807 by have:=hA.len;omega) hn;have cu:=hA.good x cf
     have c7:kK A n=kC (bS x):=by rw [kK,List.getD_eq_getElem?_getD,c8];rfl
     have b5:=hA.refs x cf;have cq:=E x bo;have cd:=h3 x cu;have cw:∀ v∈bS x,tJ v:=iC (nK bo);rw [c7]at F;have bb:=hs.cell;obtain ⟨_,cx,rfl,cc,dm⟩:=tk_ob x bo
     let Z:Nat->Prop:=fun id=>Y id∨id=d
     refine wV @q0 @q1 @q2 @f0 @f1 @f2 @k1 @k2 @hb @cs @cr @be @Int.toNat_natCast @Nat.mul_one @Nat.zero_add ?_
     have cl:StepX DY Y Z ⟨d,low,o⟩ ⟨d+1,m0.min d,(o.set d (aQ 0 [.bool false])).set m0 (aQ g (aI (M.set n true)))⟩:=
      ⟨fun id h=>.inl h,fun id h=>Or.imp (fun h=>h) (fun h=>⟨Nat.le_of_eq h.symm,by rw [h];exact Nat.lt_succ_self _⟩) h,Nat.le_succ _,fun id B E _=>by
       have T:id<d:=B
       rw [Sto.get_mk (show id<d+1 by omega),Sto.get_mk T,Tr.get_set_ne _ _ (fun e=>E (by rw [e];exact hV.ym.1)),Tr.get_set_ne _ _ aC]⟩
     have ah:¬ Z l:=fun h=>h.elim cb aC
     have an:=hr i _ ck Z ⟨d+1,m0.min d,(o.set d (aQ 0 [.bool false])).set m0 (aQ g (aI (M.set n true)))⟩ (Nat.lt_succ_of_lt df) ah (fun id h=>h.elim (fun h=>Nat.lt_succ_of_lt (I id h)) fun h=>by rw [h];exact Nat.lt_succ_self _) (hJ _ _ _ _ _ cl bq)
     have br:VS (dP os ts us is no) l m0 g c0 m1 y0 v0 Z ⟨d+1,m0.min d,(o.set d (aQ 0 [.bool false])).set m0 (aQ g (aI (M.set n true)))⟩ (M.set n true):=by
      refine hV.set (fun id h=>.inl (hV.all id h)) (fun id B=>?_) ?_ (by simp)
      ·have E:id<d/\id≠m0:=by rcases B with rfl | rfl | rfl<;>first | exact ⟨bl,be.1⟩ | exact ⟨bm,be.2.1⟩ | exact ⟨bn,be.2.2⟩
       rw [Sto.get_mk (show id<d+1 by omega),Sto.get_mk E.1,Tr.get_set_ne _ _ E.2,Tr.get_set_ne _ _ aC]
      ·rw [Sto.get_mk (show m0<d+1 by omega),Tr.get_set_same]
     have c3:(Sto.mk (d+1) (m0.min d) ((o.set d (aQ 0 [.bool false])).set m0 (aQ g (aI (M.set n true))))).get d=some (aQ 0 [.bool false]):=by
      rw [Sto.get_mk (Nat.lt_succ_self _),Tr.get_set_ne _ _ aC,Tr.get_set_same]
     have dd:∀ id,Y id->id≠m0->(Sto.mk (d+1) (m0.min d) ((o.set d (aQ 0 [.bool false])).set m0 (aQ g (aI (M.set n true))))).get id=(Sto.mk d low o).get id:=fun id B E=>by
      have T:id<d:=I id B;rw [Sto.get_mk (show id<d+1 by omega),Sto.get_mk T,Tr.get_set_ne _ _ E,Tr.get_set_ne _ _ aC]
     refine an.mono fun res hk=>?_
     clear an bq;have dh:d<(Sto.mk (d+1) (m0.min d) ((o.set d (aQ 0 [.bool false])).set m0 (aQ g (aI (M.set n true))))).n:=Nat.lt_succ_self _;generalize Sto.mk (d+1) (m0.min d) ((o.set d (aQ 0 [.bool false])).set m0 (aQ g (aI (M.set n true))))=u2 at *
     cases res with
     | pan v so=>exact hk.elim
     | ret v so=>
       have k:(v=.bool true/\(so.getD u2).low<=l/\nJ Z u2 (so.getD u2)/\J (i+1) Z (so.getD u2))∨(v=.bool false/\(so.getD u2).low<=l/\nJ Z u2 (so.getD u2)/\D Z (so.getD u2)):=by
        cases v with
        | bool b=>cases b with
          | true=>exact .inl ⟨rfl,hk⟩
          | false=>exact .inr ⟨rfl,hk⟩
        | _=>exact hk.elim
       rw [fA]
       have bw:nJ Z u2 (so.getD u2)/\(so.getD u2).low<=l:=k.elim (fun k=>⟨k.2.2.1,k.2.1⟩) fun k=>⟨k.2.2.1,k.2.1⟩
       generalize so.getD u2=u3 at *;obtain ⟨bc,ad⟩:=bw;have bx:d<u3.n:=Nat.lt_of_lt_of_le dh bc.1
       have bu:∀ id,Y id->id≠m0->u3.get id=(Sto.mk d low o).get id:=fun id B E=>(bc.2 id (.inl B)).trans (dd id B E)
       have cy:=br.keep br.all fun id ac=>bc.2 id (br.all id ac)
       have al:=(bc.2 d (.inr rfl)).trans c3
       have bg:∀ id,Z id->id<u3.n:=fun id h=>h.elim (fun h=>Nat.lt_trans (I id h) bx) fun h=>by rw [h];exact bx
       obtain ⟨f,G,o3⟩:=u3;have S:d<f:=bx;have g3:=dO S;rw [Sto.get_mk S]at al
       rcases k with ⟨rfl,_,_,cv⟩ | ⟨rfl,_,_,ct⟩
       ·refine EW hs.iX @db @cq @bb @cc ?_
        have bw:l<f:=by omega
        have c2:Core l m0 Z ⟨f,G,o3⟩ Z DY ⟨f,G,o3⟩:=⟨⟨bw,Nat.le_refl _⟩,⟨ah,fun h=>h⟩,fun _ h=>h,fun id h=>by
         have B:id<f:=bg id h
         exact ⟨.inl h,B,fun h=>h,by show id≠f;omega,by show id≠f+1;omega⟩,fun _ h=>h.elim,fun _ _ _=>rfl⟩
        refine sQ (xs:=pQ (.agg cx)) (fun q Y2 v=>∃ i M' Y',Core l m0 Z ⟨f,G,o3⟩ Y' Y2 v/\VS (dP os ts us is no) l m0 g c0 m1 y0 v0 Y' v M'/\M'.length=M.length/\fX M'<fX M/\J i (YA f Y' Y2 v) v/\aAj A out M' (kC ((bS (.agg cx)).drop q)++rest) i)
         (fun c Y2 v=>c=.ret/\∃ Y',Core l m0 Z ⟨f,G,o3⟩ Y' Y2 v/\D (YA f Y' Y2 v) v)
         (by simp +decide only [↓ nR];exact cd) ?_ ?_ (fun c _ _ h=>.inl h.1) ⟨i+1,M.set n true,Z,c2,cy,by simp,aC,?_,c9,by rw [List.drop_zero,c6];exact F⟩ ?_ ?_ ?_ ?_
        ·rintro q Y2 Y2' v v' N ⟨i,M',Y',C,V,e1,e2,hj,hr⟩
         exact ⟨i,M',Y',C.step N,V.keep V.all fun id ac=>C.same N id (V.all id ac),e1,e2,hJ _ _ _ _ _ (YA.step C N) hj,hr⟩
        ·rintro c Y2 Y2' v v' N ⟨e0,Y',C,hd⟩
         exact ⟨e0,Y',C.step N,hD _ _ _ _ (YA.step C N) hd⟩
        ·refine hJ _ _ _ _ _ ⟨fun id h=>.inl h,fun id h=>?_,Nat.le_refl _,fun _ _ _ _=>rfl⟩ cv
         rcases h with h | ⟨B,E⟩ | h
         ·exact .inl h
         ·rcases B with rfl | rfl
          ·exact absurd E (Nat.lt_irrefl _)
          ·exact absurd E (by show ¬ f+1<f;omega)
         ·exact h.elim
        ·rintro q xr az Y2 ⟨y,r,ov⟩ aa dp ak aj Q af ⟨i',M',Y',C,V,e1,e2,hj,R⟩
         obtain ⟨xv,b8,rfl⟩:∃ xv,(bS (.agg cx))[q]?=some xv/\[xv]=xr:=by
          rw [pQ,List.getElem?_map]at az
          cases hx:(bS (.agg cx))[q]? with
          | none=>rw [hx]at az;cases az
          | some xv=>rw [hx]at az;exact ⟨xv,rfl,by simpa using az⟩
         have dj:=(List.getElem?_eq_some_iff.1 b8).1;have ce:=List.mem_of_getElem? b8;have dl:=b5 xv ce
         have bt:(bS (.agg cx)).drop q=xv::(bS (.agg cx)).drop (q+1):=by
          rw [List.drop_eq_getElem_cons dj];congr 1;exact (List.getElem?_eq_some_iff.1 b8).2
         obtain ⟨_,_,rfl,⟨ka,rfl⟩,⟨kb,rfl⟩⟩:=cw xv ce
         have P:f<y:=by have:f+1<y:=aa;omega
         have ap:f+1<y:=aa;have w1:=dO P;have w2:=dO ap;rw [show (Sto.mk f G o3).n=f from rfl]at af Q;rw [Sto.get_mk P]at Q;rw [Sto.get_mk ap]at af;refine ⟨_,rfl,?_⟩
         have ay:∀ {ab:Nat} {X X' L:AObj} (id:Nat),id<y->id≠f+1->(Sto.mk (y+1) ab (((ov.set y X).set y X').set (f+1) L)).get id=(Sto.mk y r ov).get id:=fun id B E=>by
          rw [Sto.get_mk (show id<y+1 by omega),Sto.get_mk B,Tr.get_set_ne _ _ E,Tr.get_set_ne _ _ aC,Tr.get_set_ne _ _ aC]
         have N:∀ {ab:Nat} {X X' L:AObj},StepX (fun id=>id=f+1) Y2 Y2 (Sto.mk y r ov) (Sto.mk (y+1) ab (((ov.set y X).set y X').set (f+1) L)):=⟨fun _ h=>h,fun _ h=>.inl h,Nat.le_succ _,fun id B _ h3=>ay id B h3⟩
         have ci:=V.g3;have cn:v0<y:=(C.dn v0 V.ym.2.2.2).2.1;have co:v0≠f+1:=(C.dn v0 V.ym.2.2.2).2.2.2.2;rw [Sto.get_mk cn]at ci;have w3:=dO cn;rw [bt,TB]at R;by_cases bv:ka=5
         ·subst bv
          obtain ⟨cz,c1⟩:=dl rfl
          obtain ⟨m,rfl⟩:∃ m:Nat,kb=(m:Int):=⟨kb.toNat,(Int.toNat_of_nonneg cz).symm⟩
          have dg:m<A.length:=by have:((m:Nat):Int)<((A.length:Nat):Int):=c1;omega
          have b4:aAj A out M' (m::(kC ((bS (.agg cx)).drop (q+1))++rest)) i':=R;simp +contextual +decide (maxSteps:=1000000) only [↓ wP,wQ,tf,Nat.reduceAdd,wS,af,w2,w3,co,ci,NQ,jO,Env.setS]
          have ca:∀ {ab:Nat} {o':Tr AObj} id,YA f Y' Y2 (Sto.mk (y+1) ab o') id->id<y+1:=fun id h=>by
           rcases h with h | ⟨_,h⟩ | h
           ·exact Nat.lt_succ_of_lt (C.dn id h).2.1
           ·exact h
           ·exact Nat.lt_succ_of_lt (aj id h)
          refine (kW (first:=[]) (args:=[.int .i64 (m:Nat)]) (cap:=[.ptr m1 0 0,.ptr y0 0 0,.pf (dP os ts us is no),.ptr v0 0 0])).1 (Wcall.mono (ih (fX M') aC M' (by rw [e1,hM]) rfl m _ i' (YA f Y' Y2 _) _ (by show l<y+1;omega) (fun h=>by
           rcases h with h | ⟨h,_⟩ | h
           ·exact C.yl.1 h
           ·omega
           ·exact C.yl.2 h) ca (V.keep (fun id h=>.inl (V.all id h)) fun id h=>by
           obtain ⟨_,q2,_,q4⟩:=C.dn id (V.all id h)
           exact ay id q2 q4.2) (hJ _ _ _ _ _ (YA.step C N) hj) dg b4) fun res hk=>?_)
          obtain ⟨vr,so,u4,rfl,cm,hk⟩:=OQ hk;rw [fA,cm];clear cm
          rcases hk with ⟨rfl,_,i4,M4,Y4,U,cp,e3,e4,dc,dk⟩ | ⟨rfl,_,Y4,U,c5⟩
          ·obtain ⟨am,aq,b6,aw,ax,cg⟩:=C.next V.ym.1 ap (Nat.le_succ y) (fun id B E=>ay id B E) ak U
           have bf:=ax.trans ((Sto.get_mk (show f+1<y+1 by omega)).trans (Tr.get_set_same _ _ _));have bz:=aw.trans ((Sto.get_mk P).trans Q);clear U ax aw;simp +contextual +decide (maxSteps:=1000000) only [↓ wP,wQ,wS,iS,bf,bz];refine ⟨aq,i4,M4,YN f Y4 Y2,am,cp.keep (fun id h=>?_) fun _ _=>rfl,by rw [e3,e1],aC,hJ _ _ _ _ _ b6 dc,dk⟩;obtain ⟨_,q2,q3,q4⟩:=C.dn id (V.all id h);exact ⟨cp.all id h,q4.1,q4.2,q3⟩
          ·obtain ⟨am,aq,b6,aw,ax,cg⟩:=C.next V.ym.1 ap (Nat.le_succ y) (fun id B E=>ay id B E) ak U
           have bf:=ax.trans ((Sto.get_mk (show f+1<y+1 by omega)).trans (Tr.get_set_same _ _ _));have bz:=aw.trans ((Sto.get_mk P).trans Q);clear U ax aw;have bs:=(am.kp d (.inr rfl) aC).trans ((Sto.get_mk S).trans al);obtain ⟨n4,ba,o4⟩:=u4;have bj:f+1<n4:=cg;have x1:=dO (show d<n4 by omega);rw [Sto.get_mk (show d<n4 by omega)]at bs;rw [Sto.get_mk bj]at bf
           have ch:f<n4:=by omega
           have bk:(Sto.mk n4 ba o4).get f=some (.defs (some [])):=bz;rw [Sto.get_mk ch]at bk
           have x2:f+1≠d/\f≠d:=by omega
           have b7:Sim ⟨n4,ba,o4⟩ ⟨n4,d.min ba,o4.set d (aQ 0 [.bool false])⟩:=⟨Nat.le_refl _,fun id ac=>by
            have bi:id<n4:=ac;rw [Sto.get_mk bi,Sto.get_mk bi]
            rcases Nat.decEq id d with h | rfl
            ·exact Tr.get_set_ne _ _ h
            ·rw [Tr.get_set_same,bs]⟩
           simp +contextual +decide (maxSteps:=1000000) only [↓ wP,wQ,tf,Nat.reduceAdd,wS,iS,bf,bk,bs,x1,x2,bj,ch];refine ⟨⟨aq.1,fun id h=>(b7.2 id (Nat.lt_of_lt_of_le (aj id h) aq.1)).trans (aq.2 id h)⟩,YN f Y4 Y2,am.step (.sim b7),hD _ _ _ _ (b6.trans ?_) c5⟩;exact YA.step am (.sim b7)
         ·have de:(ka=5)=False:=eq_false bv
          have b4:aAj A out M' (kC ((bS (.agg cx)).drop (q+1))++rest) i':=by
           have e:((AV.agg [.int .i64 ka,.int .i64 kb]).fld 0).num=ka:=rfl;rw [e,if_neg bv]at R;exact R
          simp +contextual +decide (maxSteps:=1000000) only [↓ wP,wQ,tf,Nat.reduceAdd,wS,af,Q,w1,w2,NQ,jO,iS,Env.setS,de];exact ⟨⟨Nat.le_succ _,fun id h=>ay id (aj id h) fun e=>ak (e ▸ h)⟩,i',M',Y',C.step N,V.keep V.all fun id ac=>C.same N id (V.all id ac),e1,e2,hJ _ _ _ _ _ (YA.step C N) hj,b4⟩
        ·rintro Y2 ⟨y,r,ov⟩ aa bd Q ⟨i',M',Y',C,V,e1,e2,hj,R⟩
         have P:f<y:=by have:f+1<y:=aa;omega
         have ap:f+1<y:=aa;have ar:r<=G:=bd;have ao:=(C.kp d (.inr rfl) aC).trans ((Sto.get_mk S).trans al)
         have av:d<y:=by omega
         rw [Sto.get_mk av]at ao;have x1:=dO av;have ae:(Sto.mk y r ov).get f=some (.defs (some [])):=Q;rw [Sto.get_mk P]at ae
         have ag:f≠d:=by omega
         refine JA @ao @x1 ?_;refine ⟨rfl,_,sT (by rw [Sto.get_mk P,Tr.get_set_ne _ _ ag];exact ae),[.bool true],by simp +contextual +decide (maxSteps:=1000000) only [↓ wP,wQ,tf,wS,x1,ag.symm,iE,Option.bind_some],fun e H cj=>?_⟩
         have au:e.s.low<=l:=by
          rw [H,Sto.put_any];exact Nat.le_trans (Nat.min_le_right _ _) (Nat.le_trans (Nat.min_le_right _ _) (Nat.le_trans ar ad))
         rw [show kH [AV.bool true]=.bool true from rfl,jB (show e.s.low<d by omega)]
         have hF:∀ id,id<y->id≠d->id≠f->e.s.get id=(Sto.mk y r ov).get id:=fun id B E h3=>by
          rw [H,Sto.put_any,Sto.get_mk B,Sto.get_mk B,Tr.get_set_ne _ _ h3,Tr.get_set_ne _ _ E]
         have bp:e.s.n=y:=by rw [H];rfl
         have ai:YA f Y' Y2 ⟨y,r,ov⟩ f:=.inr (.inl ⟨.inl rfl,P⟩);have bh:YA f Y' Y2 ⟨y,r,ov⟩ d:=.inl (C.up d (.inr rfl))
         have U:GrY l m0 Y (YA f Y' Y2 ⟨y,r,ov⟩) ⟨d,low,o⟩ {e.s with low:=Nat.min low e.s.low}:=by
          refine ⟨fun id h=>.inl (C.up id (.inl h)),fun id h=>?_,by show d<=e.s.n;omega,fun h=>?_,fun id B E=>?_⟩
          ·show (Y id∨d<=id)/\id<e.s.n
           rw [bp]
           rcases h with h | ⟨h,h'⟩ | h
           ·obtain ⟨q1,q2,_⟩:=C.dn id h
            refine ⟨?_,q2⟩
            rcases q1 with (q | q) | q
            ·exact .inl q
            ·exact .inr aC
            ·exact .inr (by have:f<=id:=q;omega)
           ·exact ⟨.inr aC,h'⟩
           ·obtain ⟨q1,q2⟩:=C.y2 id h
            exact ⟨.inr (by have:f<=id:=q1;omega),q2⟩
          ·rcases h with h | ⟨h,_⟩ | h
           ·exact C.yl.1 h
           ·omega
           ·exact C.yl.2 h
          ·have T:id<d:=I id B
           exact (hF id aC aC aC).trans ((C.kp id (.inl B) E).trans (bu id B E))
         refine ⟨.inr (Nat.le_trans (Nat.min_le_right _ _) au),i',M',_,U,V.keep (fun id h=>.inl (V.all id h)) (fun id h=>?_),e1,aC,hJ _ _ _ _ _ ⟨fun _ h=>h,fun _ h=>.inl h,by show y<=e.s.n;omega,fun id B E _=>?_⟩ hj,?_⟩
         ·have B:id<d:=by rcases h with rfl | rfl | rfl | rfl<;>assumption
          exact hF id aC aC aC
         ·exact hF id B (fun e=>E (e ▸ bh)) fun e=>E (e ▸ ai)
         ·rw [pQ,List.length_map,List.drop_length]at R
          exact R
        ·rintro Y2 ⟨y,r,ov⟩ aa bd Q ⟨_,Y',C,hd⟩
         have P:f<y:=by have:f+1<y:=aa;omega
         have ar:r<=G:=bd;have ao:=(C.kp d (.inr rfl) aC).trans ((Sto.get_mk S).trans al)
         have av:d<y:=by omega
         rw [Sto.get_mk av]at ao;have x1:=dO av;have ae:(Sto.mk y r ov).get f=some (.defs (some [])):=Q
         have ag:f≠d:=by omega
         refine zI ?_;refine ⟨rfl,_,sT ae,[.bool false],by simp +contextual +decide (maxSteps:=1000000) only [↓ wP,wQ,tf,wS,x1,ag.symm,ao,iE,Option.bind_some],fun e H cj=>?_⟩
         have au:e.s.low<=l:=by
          rw [H,Sto.put_any];exact Nat.le_trans (Nat.min_le_right _ _) (Nat.le_trans ar ad)
         rw [show kH [AV.bool false]=.bool false from rfl,jB (show e.s.low<d by omega)]
         have hF:∀ id,id<y->id≠f->e.s.get id=(Sto.mk y r ov).get id:=fun id B h3=>by
          rw [H,Sto.put_any,Sto.get_mk B,Sto.get_mk B,Tr.get_set_ne _ _ h3]
         have bp:e.s.n=y:=by rw [H];rfl
         have ai:YA f Y' Y2 ⟨y,r,ov⟩ f:=.inr (.inl ⟨.inl rfl,P⟩);have bh:YA f Y' Y2 ⟨y,r,ov⟩ d:=.inl (C.up d (.inr rfl))
         have U:GrY l m0 Y (YA f Y' Y2 ⟨y,r,ov⟩) ⟨d,low,o⟩ {e.s with low:=Nat.min low e.s.low}:=by
          refine ⟨fun id h=>.inl (C.up id (.inl h)),fun id h=>?_,by show d<=e.s.n;omega,fun h=>?_,fun id B E=>?_⟩
          ·show (Y id∨d<=id)/\id<e.s.n
           rw [bp]
           rcases h with h | ⟨h,h'⟩ | h
           ·obtain ⟨q1,q2,_⟩:=C.dn id h
            refine ⟨?_,q2⟩
            rcases q1 with (q | q) | q
            ·exact .inl q
            ·exact .inr aC
            ·exact .inr (by have:f<=id:=q;omega)
           ·exact ⟨.inr aC,h'⟩
           ·obtain ⟨q1,q2⟩:=C.y2 id h
            exact ⟨.inr (by have:f<=id:=q1;omega),q2⟩
          ·rcases h with h | ⟨h,_⟩ | h
           ·exact C.yl.1 h
           ·omega
           ·exact C.yl.2 h
          ·have T:id<d:=I id B
           exact (hF id aC aC).trans ((C.kp id (.inl B) E).trans (bu id B E))
         refine ⟨Nat.le_trans (Nat.min_le_right _ _) au,_,U,hD _ _ _ _ ⟨fun _ h=>h,fun _ h=>.inl h,by show y<=e.s.n;omega,fun id B E _=>?_⟩ hd⟩
         exact hF id B fun e=>E (e ▸ ai)
        ·rintro id Y2 ⟨y,r,ov⟩ aa bd Q ⟨h,_⟩
         cases h
       ·refine JA @al @g3 ?_
        refine ⟨rfl,_,rfl,[.bool false],by simp +contextual +decide (maxSteps:=1000000) only [↓ wP,wQ,tf,wS,g3,iE,Option.bind_some],fun e H R=>?_⟩
        have au:e.s.low<=l:=by rw [H];exact Nat.le_trans (Nat.min_le_right _ _) ad
        rw [show kH [AV.bool false]=.bool false from rfl,jB (show e.s.low<d by omega),H];refine ⟨Nat.le_trans (Nat.min_le_right _ _) (by rw [<-H];exact au),Z,⟨fun id h=>.inl h,fun id h=>⟨Or.imp (fun h=>h) (fun h=>Nat.le_of_eq h.symm) h,bg id h⟩,Nat.le_of_lt S,ah,fun id B E=>?_⟩,?_⟩
        ·have T:id<d:=I id B
         rw [<-bu id B E];show (Sto.mk f _ _).get id=_;rw [Sto.get_mk (show id<f by omega),Sto.get_mk (show id<f by omega),Tr.get_set_ne _ _ aC]
        ·refine hD Z Z ⟨f,G,o3⟩ _ ⟨fun _ h=>h,fun _ h=>.inl h,Nat.le_refl _,fun id B E _=>?_⟩ ct
         have T:id<f:=B;show (Sto.mk f _ (o3.set d _)).get id=(Sto.mk f G o3).get id;rw [Sto.get_mk T,Sto.get_mk T,Tr.get_set_ne _ _ fun e=>E (.inr e)]
end
abbrev DX (w:AV) (n:Nat):AV:=.func (.func 80) [] [.pf w,.pf (.int .i64 (n:Nat))]
theorem TC (w:AV) (h:RZ w) (n:Nat):Abs.Returns Tryz.prog 33 [w,.int .i64 (n:Nat)] (DX w n):=by
 have a:=(pX w h).1;obtain ⟨_,cs,rfl,c,b⟩:=pX w h;refine bU (L:=[]) aE aN (by kernel_rfl) Tryz.func33 Tryz.ntmps33 Tryz.results33 rfl rfl (aA a.und (aA aV aD)) ?_;refine wU @b ?_;refine .func _ _ _ _ _ rfl rfl (fun i x y h=>by simp at h) (jQ (yB (cs:=cs) ?_ rfl (wJ a)) (jQ (yB (cs:=[.int .i64 (n:Nat)]) rfl rfl (aA aV aD)) tO));rw [Sto.get_mk aC,Tr.get_set_ne _ _ aC,Tr.get_set_same]
theorem XH {n:Nat}:kL n []=aI (List.replicate n false):=by
 simp only [kL,List.not_mem_nil,decide_false,aI,List.map_replicate]
 exact List.ext_getElem (by simp) fun i a b=>by simp
section
variable {O:cH} {os ts us is no:AV} {A:List AV} {out:List Nat}
set_option maxHeartbeats 4000000 in
theorem KN (hw:RZ (dP os ts us is no)) (d:Sl os A) (L:GoodA A) (I:∀ a σ,O 80 a σ=none) (S:∀ a σ,O 81 a σ=none) (T:∀ o,AE o->∀ σ,O 82 [o] σ=some (.ret (EA o) none)) (U:∀ o,vO o->BD Tryz.prog O (EA o) (pQ o))
 {n:Nat} (Q:n<A.length) (k:Run (kK A) (List.replicate A.length false) [n] out):BD Tryz.prog O (DX (dP os ts us is no) n) (vN out):=by
 refine ⟨BC I,fun l J D σ P B N C f=>?_⟩;refine nA (first:=[]) (cap:=[.pf (dP os ts us is no),.pf (.int .i64 (n:Nat))]) aN (I _ _) (by kernel_rfl) Tryz.func80 Tryz.ntmps80 Tryz.results80 rfl rfl ?_;have c:=d.cell;have y:A.length<=1000:=L.len;obtain ⟨n0,q,Z⟩:=σ;have X:l<n0:=P;simp +contextual +decide (maxSteps:=1000000) only [↓ wP,wQ,tf,Nat.reduceAdd,wS,d.len,c,lK (n:=A.length) y,XH,NQ]
 let Y:Nat->Prop:=fun id=>n0<=id/\id<n0+4
 refine (kW (first:=[]) (args:=[.int .i64 (n:Nat)]) (cap:=[.ptr (n0+1+1) 0 0,.ptr n0 0 0,.pf (dP os ts us is no),.ptr (n0+1+1+1) 0 0])).1 (Wcall.mono (aAk (A:=A) (out:=out) (l:=l) (m0:=n0+1) (g:=0) (c0:=.is A.length) (m1:=n0+1+1) (y0:=n0) (v0:=n0+1+1+1) (J:=J) (D:=D) d L S T U B N f (fX (List.replicate A.length false)) (List.replicate A.length false) (by simp) rfl n [] 0 Y _
  (by show l<n0+4;omega) (fun h=>by have:n0<=l:=h.1;omega) (fun id h=>h.2) ⟨⟨?_,?_,?_,?_⟩,⟨aC,aC,aC⟩,?_,?_,?_,?_⟩ (B _ DY Y ⟨n0,q,Z⟩ _ ⟨fun _ h=>h.elim,fun id h=>.inr h,Nat.le_add_right n0 4,fun id h _ _=>?_⟩ C) Q ⟨Nat.zero_le _,k⟩) fun res F=>?_)
 all_goals first | (show n0<=_/\_<n0+4;omega) | skip
 ·exact sK @NQ
 ·refine wU @NQ ?_
  rw [List.length_replicate]
 ·exact sK @NQ
 ·exact sK @NQ
 ·have R:id<n0:=h
  rw [Sto.get_mk (show id<n0+1+1+1+1 by omega),Sto.get_mk R];rw [Tr.get_set_ne _ _ aC,Tr.get_set_ne _ _ aC,Tr.get_set_ne _ _ aC,Tr.get_set_ne _ _ aC,Tr.get_set_ne _ _ aC,Tr.get_set_ne _ _ aC]
 ·obtain ⟨vr,so,H,rfl,m,F⟩:=OQ F
  rw [fA,m];clear m
  have G:(List.replicate A.length false)[n]?=some false:=by rw [List.getElem?_replicate,if_pos Q]
  have b:H.low<=l/\∃ Y,J (vN out).length Y H∨D Y H:=by
   rcases F with ⟨_,h | h,i,M',Y',_,_,_,_,V,hi,f⟩ | ⟨_,h,Y',_,E⟩
   ·rw [G]at h;cases h.2
   ·refine ⟨h,Y',.inl ?_⟩
    have r:i=out.length:=by
     generalize E:out.drop i=oo at f;cases f;have:=congrArg List.length E;rw [List.length_drop,List.length_nil]at this;omega
    rw [vN,List.length_map,<-r];exact V
   ·exact ⟨h,Y',.inr E⟩
  refine zI ?_;refine ⟨rfl,_,rfl,_,rfl,fun e r f=>?_⟩;exact qB _ _ e (fun s'=>∃ Y,J (vN out).length Y s'∨D Y s') (fun s s' d ⟨Y,h⟩=>⟨Y,h.imp (B _ _ _ _ _ (.sim d)) (N _ _ _ _ (.sim d))⟩) (r ▸ b.2) (.inl (r ▸ Nat.lt_of_le_of_lt b.1 P))
end
end
end Go.Proofs.YtdipddlhenoglaaGreat
