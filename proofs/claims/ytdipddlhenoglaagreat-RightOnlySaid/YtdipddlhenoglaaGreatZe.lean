/-
  Reaching: the closure that visits an object, and all that it reaches.
-/
import Derived.Test.YtdipddlhenoglaaGreatZa
set_option linter.unusedVariables false
set_option linter.unusedSimpArgs false
namespace Go.Proofs.YtdipddlhenoglaaGreat
open Go.Abs Go Go.Abs.TryzF
noncomputable section
set_option maxRecDepth 10000
abbrev aTd (w:AV) (m1 y0 v0:Nat):AV:=.func (.func 81) [] [.ptr m1 0 0,.ptr y0 0 0,.pf w,.ptr v0 0 0]
def bK (M:List Bool):List AV:=M.map .bool
theorem zR {M:List Bool} {n:Nat}:(bK M)[n]?=(M[n]?).map .bool:=by simp [bK]
theorem DM {M:List Bool} {n:Nat}:(bK M).set n (.bool true)=bK (M.set n true):=by simp [bK,List.map_set]
theorem kE {M:List Bool}:(bK M).length=M.length:=by simp [bK]
def jZ (l:List AV):List Nat:=l.filterMap fun v=>if (v.fld 0).num=5 then some (v.fld 1).num.toNat else none
theorem SB {v:AV} {l:List AV}:jZ (v::l)=if (v.fld 0).num=5 then (v.fld 1).num.toNat::jZ l else jZ l:=by
 unfold jZ;rw [List.filterMap_cons];by_cases h:(v.fld 0).num=5<;>simp [h]
def gY (A:List AV) (n:Nat):List Nat:=jZ (cW (A.getD n .top))
structure GoodA (A:List AV):Prop where
 good:∀ o∈A,xK o
 refs:∀ o∈A,∀ v∈cW o,(v.fld 0).num=5->0<=(v.fld 1).num/\(v.fld 1).num<A.length
 len:A.length<=1000
theorem GoodA.lt {A:List AV} (h:GoodA A) {n:Nat}:∀ y∈gY A n,y<A.length:=fun y b=>by
 rcases Nat.lt_or_ge n A.length with a | a
 ·have d:=List.getElem_mem a
  rw [gY,List.getD_eq_getElem?_getD,List.getElem?_eq_getElem a]at b;obtain ⟨v,e,c⟩:=List.mem_filterMap.1 b;split at c
  ·cases c
   obtain ⟨f,k⟩:=h.refs _ d v e ‹_›;omega
  ·cases c
 ·rw [gY,List.getD_eq_getElem?_getD,List.getElem?_eq_none a]at b
  simp [cW,DR,qB,SH,bQ,AV.fld,AV.els,jZ]at b
structure VS (w:AV) (l m0 g:Nat) (c0:ACap) (m1 y0 v0:Nat) (Y:Nat->Prop) (u:Sto) (M:List Bool):Prop where
 ym:Y m0/\Y m1/\Y y0/\Y v0
 ne:m1≠m0/\y0≠m0/\v0≠m0
 g0:u.get m0=some (aR g (bK M))
 g1:u.get m1=some (aR 0 [.sl m0 g 0 M.length c0])
 g2:u.get y0=some (aR 0 [.func (.yield l) [] []])
 g3:u.get v0=some (aR 0 [aTd w m1 y0 v0])
section
variable {w:AV} {l m0 g:Nat} {c0:ACap} {m1 y0 v0:Nat} {Y Y':Nat->Prop} {u u':Sto} {M M':List Bool}
theorem VS.set (h:VS w l m0 g c0 m1 y0 v0 Y u M) (a:∀ id,id=m0∨id=m1∨id=y0∨id=v0->Y' id) (b:∀ id,id=m1∨id=y0∨id=v0->u'.get id=u.get id) (d:u'.get m0=some (aR g (bK M'))) (c:M'.length=M.length):VS w l m0 g c0 m1 y0 v0 Y' u' M':=
 ⟨⟨a _ (.inl rfl),a _ (.inr (.inl rfl)),a _ (.inr (.inr (.inl rfl))),a _ (.inr (.inr (.inr rfl)))⟩,h.ne,d,(b _ (.inl rfl)).trans (c ▸ h.g1),(b _ (.inr (.inl rfl))).trans h.g2,(b _ (.inr (.inr rfl))).trans h.g3⟩
theorem VS.keep (h:VS w l m0 g c0 m1 y0 v0 Y u M) (c:∀ id,id=m0∨id=m1∨id=y0∨id=v0->Y' id) (b:∀ id,id=m0∨id=m1∨id=y0∨id=v0->u'.get id=u.get id):VS w l m0 g c0 m1 y0 v0 Y' u' M:=
 h.set c (fun id a=>b id (.inr a)) ((b _ (.inl rfl)).trans h.g0) rfl
theorem VS.all (h:VS w l m0 g c0 m1 y0 v0 Y u M):∀ id,id=m0∨id=m1∨id=y0∨id=v0->Y id:=by
 rintro id (rfl | rfl | rfl | rfl)
 ·exact h.ym.1
 ·exact h.ym.2.1
 ·exact h.ym.2.2.1
 ·exact h.ym.2.2.2
end
def GrY (l m0:Nat) (Y Y':Nat->Prop) (u u':Sto):Prop:=(∀ id,Y id->Y' id)/\(∀ id,Y' id->(Y id∨u.n<=id)/\id<u'.n)/\u.n<=u'.n/\¬ Y' l/\∀ id,Y id->id≠m0->u'.get id=u.get id
def ZQ (A:List AV) (out:List Nat) (M:List Bool) (t:List Nat) (i:Nat):Prop:=i<=out.length/\Run (gY A) M t (out.drop i)
def aTe (A:List AV) (out:List Nat) (w:AV) (l m0 g:Nat) (c0:ACap) (m1 y0 v0:Nat) (J:Nat->(Nat->Prop)->Sto->Prop) (D:(Nat->Prop)->Sto->Prop) (n:Nat) (rest:List Nat) (Y:Nat->Prop) (u:Sto) (M:List Bool):CRes->Prop
 | .ret (.bool true) a=>((a.getD u=u/\M[n]?=some true)∨(a.getD u).low<=l)/\∃ i M' Y',GrY l m0 Y Y' u (a.getD u)/\VS w l m0 g c0 m1 y0 v0 Y' (a.getD u) M'/\M'.length=M.length/\pG M'<=pG M/\J i Y' (a.getD u)/\ZQ A out M' rest i
 | .ret (.bool false) a=>(a.getD u).low<=l/\∃ Y',GrY l m0 Y Y' u (a.getD u)/\D Y' (a.getD u)
 | _=>False
def YA (d:Nat) (Y Y2:Nat->Prop) (v:Sto):Nat->Prop:=fun id=>Y id∨((id=d∨id=d+1)/\id<v.n)∨Y2 id
structure Core (l m0:Nat) (Yb:Nat->Prop) (ub:Sto) (Y Y2:Nat->Prop) (v:Sto):Prop where
 ln:l<ub.n/\ub.n<=v.n
 yl:¬ Y l/\¬ Y2 l
 up:∀ id,Yb id->Y id
 dn:∀ id,Y id->(Yb id∨ub.n<=id)/\id<v.n/\¬ Y2 id/\id≠ub.n/\id≠ub.n+1
 y2:∀ id,Y2 id->ub.n<=id/\id<v.n
 kp:∀ id,Yb id->id≠m0->v.get id=ub.get id
section
variable {l m0:Nat} {Yb Y Y2 Y2':Nat->Prop} {ub v v':Sto}
theorem Core.same (h:Core l m0 Yb ub Y Y2 v) (e:StepX (fun id=>id=ub.n+1) Y2 Y2' v v'):∀ id,Y id->v'.get id=v.get id:=fun id a=>by
 obtain ⟨_,b,c,_,d⟩:=h.dn id a;exact e.2.2.2 id b c d
theorem Core.step (h:Core l m0 Yb ub Y Y2 v) (b:StepX (fun id=>id=ub.n+1) Y2 Y2' v v'):Core l m0 Yb ub Y Y2' v':=
 ⟨⟨h.ln.1,Nat.le_trans h.ln.2 b.2.2.1⟩,⟨h.yl.1,fun a=>(b.2.1 l a).elim h.yl.2 fun a=>by have:=h.ln;have:=a.1;omega⟩,h.up,
   fun id e=>by
    obtain ⟨c,d,f,k⟩:=h.dn id e
    exact ⟨c,Nat.lt_of_lt_of_le d b.2.2.1,fun a=>(b.2.1 id a).elim f fun a=>by have:=a.1;omega,k⟩,
   fun id a=>(b.2.1 id a).elim (fun a=>⟨(h.y2 id a).1,Nat.lt_of_lt_of_le (h.y2 id a).2 b.2.2.1⟩) fun a=>⟨Nat.le_trans h.ln.2 a.1,a.2⟩,fun id c d=>(h.same b id (h.up id c)).trans (h.kp id c d)⟩
theorem YA.step (h:Core l m0 Yb ub Y Y2 v) (d:StepX (fun id=>id=ub.n+1) Y2 Y2' v v'):StepX DO (YA ub.n Y Y2 v) (YA ub.n Y Y2' v') v v':=by
 refine ⟨fun id a=>?_,fun id a=>?_,d.2.2.1,fun id b c _=>d.2.2.2 id b (fun a=>c (.inr (.inr a))) fun a=>c (.inr (.inl ⟨.inr a,b⟩))⟩
 ·rcases a with a | ⟨b,c⟩ | a
  ·exact .inl a
  ·exact .inr (.inl ⟨b,Nat.lt_of_lt_of_le c d.2.2.1⟩)
  ·exact .inr (.inr (d.1 id a))
 ·rcases a with a | ⟨b,c⟩ | a
  ·exact .inl (.inl a)
  ·rcases Nat.lt_or_ge id v.n with e | e
   ·exact .inl (.inr (.inl ⟨b,e⟩))
   ·exact .inr ⟨e,c⟩
  ·rcases d.2.1 id a with a | a
   ·exact .inl (.inr (.inr a))
   ·exact .inr a
def YN (d:Nat) (a Y2:Nat->Prop):Nat->Prop:=fun id=>a id/\id≠d/\id≠d+1/\¬ Y2 id
theorem Core.next {r:Nat->Prop} {c b:Sto} (h:Core l m0 Yb ub Y Y2 v) (U:Y m0) (Z:ub.n+1<v.n) (m:v.n<=c.n) (H:∀ id,id<v.n->id≠ub.n+1->c.get id=v.get id) (G:¬ Y2 (ub.n+1)) (T:GrY l m0 (YA ub.n Y Y2 c) r c b):
 Core l m0 Yb ub (YN ub.n r Y2) Y2 b/\KeepY Y2 v b/\StepX DO r (YA ub.n (YN ub.n r Y2) Y2 b) b b/\b.get ub.n=v.get ub.n/\b.get (ub.n+1)=c.get (ub.n+1)/\ub.n+1<b.n:=by
 obtain ⟨y,N,P,R,B⟩:=T;have d:=h.dn m0 U
 have L:∀ id,Y2 id->YA ub.n Y Y2 c id:=fun id a=>.inr (.inr a)
 have k2:∀ id,Y2 id->b.get id=v.get id:=fun id a=>(B id (L id a) fun e=>d.2.2.1 (e ▸ a)).trans (H id (h.y2 id a).2 fun e=>G (e ▸ a))
 have f:YA ub.n Y Y2 c ub.n:=.inr (.inl ⟨.inl rfl,aD⟩);have k:YA ub.n Y Y2 c (ub.n+1):=.inr (.inl ⟨.inr rfl,aD⟩);refine ⟨⟨⟨h.ln.1,aD⟩,⟨fun o=>R o.1,h.yl.2⟩,fun id a=>?_,fun id a=>?_,fun id a=>⟨(h.y2 id a).1,Nat.lt_of_lt_of_le (h.y2 id a).2 (Nat.le_trans m P)⟩,fun id C E=>?_⟩,⟨Nat.le_trans m P,k2⟩,⟨fun id a=>?_,fun id a=>.inl ?_,Nat.le_refl _,fun _ _ _ _=>rfl⟩,?_,?_,aD⟩
 ·obtain ⟨_,_,X,F⟩:=h.dn id (h.up id a)
  exact ⟨y id (.inl (h.up id a)),F.1,F.2,X⟩
 ·obtain ⟨C,E,S,Q⟩:=a
  obtain ⟨V,I⟩:=N id C;refine ⟨?_,I,Q,E,S⟩
  rcases V with (q | ⟨q,_⟩ | q) | q
  ·exact (h.dn id q).1
  ·exact absurd q aD
  ·exact absurd q Q
  ·exact .inr (by have:=h.ln.2;omega)
 ·have p:=h.up id C
  obtain ⟨_,I,_,F⟩:=h.dn id p;exact (B id (.inl p) E).trans ((H id I F.2).trans (h.kp id C E))
 ·by_cases o:id=ub.n∨id=ub.n+1
  ·exact .inr (.inl ⟨o,(N id a).2⟩)
  ·by_cases p:Y2 id
   ·exact .inr (.inr p)
   ·exact .inl ⟨a,fun e=>o (.inl e),fun e=>o (.inr e),p⟩
 ·rcases a with a | ⟨rfl | rfl,_⟩ | a
  ·exact a.1
  ·exact y _ f
  ·exact y _ k
  ·exact y _ (L id a)
 ·exact (B _ f (Ne.symm d.2.2.2.1)).trans (H _ aD aD)
 ·exact B _ k (Ne.symm d.2.2.2.2)
end
def vT (out:List Nat):List (List AV):=out.map fun n:Nat=>[.int .i64 (n:Nat)]
theorem NW {A:List AV} {out:List Nat} {w:AV} {l m0 g:Nat} {c0:ACap} {m1 y0 v0:Nat} {J:Nat->(Nat->Prop)->Sto->Prop} {D:(Nat->Prop)->Sto->Prop} {n:Nat} {rest:List Nat} {Y:Nat->Prop} {u:Sto} {M:List Bool} {res:CRes} (h:aTe A out w l m0 g c0 m1 y0 v0 J D n rest Y u M res):
 ∃ v a u',res=.ret v a/\a.getD u=u'/\((v=.bool true/\((u'=u/\M[n]?=some true)∨u'.low<=l)/\∃ i M' Y',GrY l m0 Y Y' u u'/\VS w l m0 g c0 m1 y0 v0 Y' u' M'/\M'.length=M.length/\pG M'<=pG M/\J i Y' u'/\ZQ A out M' rest i)∨(v=.bool false/\u'.low<=l/\∃ Y',GrY l m0 Y Y' u u'/\D Y' u')):=by
 cases res with
 | pan v a=>exact h.elim
 | ret v a=>cases v with
   | bool b=>cases b with
     | true=>exact ⟨_,a,_,rfl,rfl,.inl ⟨rfl,h⟩⟩
     | false=>exact ⟨_,a,_,rfl,rfl,.inr ⟨rfl,h⟩⟩
   | _=>exact h.elim
section
variable {O:bP} {os ts us is no:AV} {A:List AV} {out:List Nat} {l m0 g:Nat} {c0:ACap} {m1 y0 v0:Nat} {J:Nat->(Nat->Prop)->Sto->Prop} {D:(Nat->Prop)->Sto->Prop}
abbrev fS (os ts us is no:AV):AV:=.agg [os,ts,us,is,no]
set_option maxHeartbeats 8000000 in
theorem ZR (hs:Sl os A) (hA:GoodA A) (y:∀ a σ,O 81 a σ=none) (C:∀ o,vO o->∀ σ,O 82 [o] σ=some (.ret (JU o) none)) (h3:∀ o,xK o->DQ Tryz.prog O (JU o) (AZ o))
 (hJ:∀ i Y Y' u u',StepX DO Y Y' u u'->J i Y u->J i Y' u') (hD:∀ Y Y' u u',StepX DO Y Y' u u'->D Y u->D Y' u')
 (hr:∀ i x,(vT out)[i]?=some x->∀ Y u,l<u.n->¬ Y l->(∀ id,Y id->id<u.n)->J i Y u->Wcall Tryz.prog O (.func (.yield l) [] []) x u (rX l J D i Y u)):
 ∀ (k:Nat) (M:List Bool),M.length=A.length->pG M=k->∀ (n:Nat) (rest:List Nat) (i:Nat) (Y:Nat->Prop) (u:Sto),l<u.n->¬ Y l->(∀ id,Y id->id<u.n)->VS (fS os ts us is no) l m0 g c0 m1 y0 v0 Y u M->J i Y u->n<A.length->ZQ A out M (n::rest) i->
   Wcall Tryz.prog O (aTd (fS os ts us is no) m1 y0 v0) [.int .i64 (n:Nat)] u (aTe A out (fS os ts us is no) l m0 g c0 m1 y0 v0 J D n rest Y u M):=by
 intro k
 induction k using Nat.strongRecOn with
 | ind k ih=>
   intro M hM hk n rest i Y u hl ca H hV bp hn E;refine uI (first:=[]) (cap:=[.ptr m1 0 0,.ptr y0 0 0,.pf (fS os ts us is no),.ptr v0 0 0]) aL (y _ _) (by kernel_rfl) Tryz.func81 Tryz.ntmps81 Tryz.results81 rfl rfl ?_;obtain ⟨d,low,o⟩:=u;have b0:=H _ hV.ym.1;have b1:=H _ hV.ym.2.1;have b2:=H _ hV.ym.2.2.1;have b3:=H _ hV.ym.2.2.2;have q0:=hV.g0;have q1:=hV.g1;have q2:=hV.g2;have q3:=hV.g3;have b8:m0<d:=b0;have bk:m1<d:=b1;have bl:y0<d:=b2;have bm:v0<d:=b3;rw [Sto.get_mk b8]at q0;rw [Sto.get_mk bk]at q1;rw [Sto.get_mk bl]at q2;rw [Sto.get_mk bm]at q3;have f0:=fX b8;have f1:=fX bk;have f2:=fX bl;have f3:=fX bm;have dh:n<M.length:=hM ▸ hn;have k1:(((n:Nat):Int)<((M.length:Nat):Int))=True:=eq_true aD;have k2:(0<=((n:Nat):Int))=True:=eq_true aD;obtain ⟨c9,E⟩:=E;generalize he:out.drop i=oo at E
   cases E with
   | skip hm E=>
     have hb:(bK M)[n]?=some (.bool true):=by rw [zR,hm];rfl
     refine AF @q0 @q1 @f0 @f1 @SK @k1 @k2 @hb @Int.toNat_natCast @Nat.mul_one @Nat.zero_add ?_;refine ⟨rfl,_,rfl,[.bool true],by simp +contextual +decide (maxSteps:=1000000) only [↓ wP,wQ,tf,wS,SK,dK,Option.bind_some],fun e G Q=>?_⟩;have c3:dR ⟨d,low,o⟩ (jR [.bool true]) e=none:=tN (by rw [G];exact Nat.le_min.2 ⟨Nat.le_refl _,Nat.le_refl _⟩) rfl Q;rw [c3];exact ⟨.inl ⟨rfl,hm⟩,i,M,Y,⟨fun _ h=>h,fun id h=>⟨.inl h,H id h⟩,Nat.le_refl _,ca,fun _ _ _=>rfl⟩,hV,rfl,Nat.le_refl _,bp,c9,he ▸ E⟩
   | @go _ _ _ oo hm E=>
     have hb:(bK M)[n]?=some (.bool false):=by rw [zR,hm];rfl
     have cj:(vT out)[i]?=some [.int .i64 (n:Nat)]:=by
      have h0:out[i]?=some n:=by rw [<-List.head?_drop,he];rfl
      rw [vT,List.getElem?_map,h0];rfl
     have c8:i+1<=out.length:=by have:=congrArg List.length he;rw [List.length_drop,List.length_cons]at this;omega
     have c5:out.drop (i+1)=oo:=by rw [<-List.tail_drop,he];rfl
     have dp:=zS hm;have cr:(bK M).set n (.bool true)=bK (M.set n true):=DM
     have cq:n<(bK M).length:=by rw [kE];exact dh
     have bd:=hV.ne;have de:l<d:=hl;obtain ⟨x,bn,ce,c7,_,da,_,_⟩:=bI (k:=4) (fun x h=>tk_ob.len h) (fun x h=>(hA.good x h).1) (show A.length<=9223372036854775807 by have:=hA.len;omega) hn;have ct:=hA.good x ce
     have c6:gY A n=jZ (cW x):=by rw [gY,List.getD_eq_getElem?_getD,c7];rfl
     have b4:=hA.refs x ce;have cp:=C x bn;have cc:=h3 x ct;have cv:∀ v∈cW x,nP v:=kX (pH bn);rw [c6]at E;have ba:=hs.cell;obtain ⟨_,cx,rfl,cb,dl⟩:=tk_ob x bn
     let V:Nat->Prop:=fun id=>Y id∨id=d
     refine GQ @q0 @q1 @q2 @f0 @f1 @f2 @k1 @k2 @hb @cr @cq @bd @Int.toNat_natCast @Nat.mul_one @Nat.zero_add ?_
     have ck:StepX DO Y V ⟨d,low,o⟩ ⟨d+1,m0.min d,(o.set d (aR 0 [.bool false])).set m0 (aR g (bK (M.set n true)))⟩:=
      ⟨fun id h=>.inl h,fun id h=>Or.imp (fun h=>h) (fun h=>⟨Nat.le_of_eq h.symm,by rw [h];exact Nat.lt_succ_self _⟩) h,Nat.le_succ _,fun id y C _=>by
       have S:id<d:=y
       rw [Sto.get_mk (show id<d+1 by omega),Sto.get_mk S,Tr.get_set_ne _ _ (fun e=>C (by rw [e];exact hV.ym.1)),Tr.get_set_ne _ _ aD]⟩
     have ag:¬ V l:=fun h=>h.elim ca aD
     have am:=hr i _ cj V ⟨d+1,m0.min d,(o.set d (aR 0 [.bool false])).set m0 (aR g (bK (M.set n true)))⟩ (Nat.lt_succ_of_lt de) ag (fun id h=>h.elim (fun h=>Nat.lt_succ_of_lt (H id h)) fun h=>by rw [h];exact Nat.lt_succ_self _) (hJ _ _ _ _ _ ck bp)
     have bq:VS (fS os ts us is no) l m0 g c0 m1 y0 v0 V ⟨d+1,m0.min d,(o.set d (aR 0 [.bool false])).set m0 (aR g (bK (M.set n true)))⟩ (M.set n true):=by
      refine hV.set (fun id h=>.inl (hV.all id h)) (fun id y=>?_) ?_ (by simp)
      ·have C:id<d/\id≠m0:=by rcases y with rfl | rfl | rfl<;>first | exact ⟨bk,bd.1⟩ | exact ⟨bl,bd.2.1⟩ | exact ⟨bm,bd.2.2⟩
       rw [Sto.get_mk (show id<d+1 by omega),Sto.get_mk C.1,Tr.get_set_ne _ _ C.2,Tr.get_set_ne _ _ aD]
      ·rw [Sto.get_mk (show m0<d+1 by omega),Tr.get_set_same]
     have c2:(Sto.mk (d+1) (m0.min d) ((o.set d (aR 0 [.bool false])).set m0 (aR g (bK (M.set n true))))).get d=some (aR 0 [.bool false]):=by
      rw [Sto.get_mk (Nat.lt_succ_self _),Tr.get_set_ne _ _ aD,Tr.get_set_same]
     have dc:∀ id,Y id->id≠m0->(Sto.mk (d+1) (m0.min d) ((o.set d (aR 0 [.bool false])).set m0 (aR g (bK (M.set n true))))).get id=(Sto.mk d low o).get id:=fun id y C=>by
      have S:id<d:=H id y;rw [Sto.get_mk (show id<d+1 by omega),Sto.get_mk S,Tr.get_set_ne _ _ C,Tr.get_set_ne _ _ aD]
     refine am.mono fun res hk=>?_
     clear am bp;have dg:d<(Sto.mk (d+1) (m0.min d) ((o.set d (aR 0 [.bool false])).set m0 (aR g (bK (M.set n true))))).n:=Nat.lt_succ_self _;generalize Sto.mk (d+1) (m0.min d) ((o.set d (aR 0 [.bool false])).set m0 (aR g (bK (M.set n true))))=u2 at *
     cases res with
     | pan v so=>exact hk.elim
     | ret v so=>
       have k:(v=.bool true/\(so.getD u2).low<=l/\KeepY V u2 (so.getD u2)/\J (i+1) V (so.getD u2))∨(v=.bool false/\(so.getD u2).low<=l/\KeepY V u2 (so.getD u2)/\D V (so.getD u2)):=by
        cases v with
        | bool b=>cases b with
          | true=>exact .inl ⟨rfl,hk⟩
          | false=>exact .inr ⟨rfl,hk⟩
        | _=>exact hk.elim
       rw [kK]
       have bv:KeepY V u2 (so.getD u2)/\(so.getD u2).low<=l:=k.elim (fun k=>⟨k.2.2.1,k.2.1⟩) fun k=>⟨k.2.2.1,k.2.1⟩
       generalize so.getD u2=u3 at *;obtain ⟨bb,ac⟩:=bv;have bw:d<u3.n:=Nat.lt_of_lt_of_le dg bb.1
       have bt:∀ id,Y id->id≠m0->u3.get id=(Sto.mk d low o).get id:=fun id y C=>(bb.2 id (.inl y)).trans (dc id y C)
       have cw:=bq.keep bq.all fun id ab=>bb.2 id (bq.all id ab)
       have ak:=(bb.2 d (.inr rfl)).trans c2
       have bf:∀ id,V id->id<u3.n:=fun id h=>h.elim (fun h=>Nat.lt_trans (H id h) bw) fun h=>by rw [h];exact bw
       obtain ⟨f,F,o3⟩:=u3;have R:d<f:=bw;have g3:=fX R;rw [Sto.get_mk R]at ak
       rcases k with ⟨rfl,_,_,cu⟩ | ⟨rfl,_,_,cs⟩
       ·refine LB hs.iX @da @cp @ba @cb ?_
        have bv:l<f:=by omega
        have c1:Core l m0 V ⟨f,F,o3⟩ V DO ⟨f,F,o3⟩:=⟨⟨bv,Nat.le_refl _⟩,⟨ag,fun h=>h⟩,fun _ h=>h,fun id h=>by
         have y:id<f:=bf id h
         exact ⟨.inl h,y,fun h=>h,by show id≠f;omega,by show id≠f+1;omega⟩,fun _ h=>h.elim,fun _ _ _=>rfl⟩
        refine xI (xs:=AZ (.agg cx)) (fun q Y2 v=>∃ i M' Y',Core l m0 V ⟨f,F,o3⟩ Y' Y2 v/\VS (fS os ts us is no) l m0 g c0 m1 y0 v0 Y' v M'/\M'.length=M.length/\pG M'<pG M/\J i (YA f Y' Y2 v) v/\ZQ A out M' (jZ ((cW (.agg cx)).drop q)++rest) i)
         (fun c Y2 v=>c=.ret/\∃ Y',Core l m0 V ⟨f,F,o3⟩ Y' Y2 v/\D (YA f Y' Y2 v) v)
         (by simp +decide only [↓ nS];exact cc) ?_ ?_ (fun c _ _ h=>.inl h.1) ⟨i+1,M.set n true,V,c1,cw,by simp,aD,?_,c8,by rw [List.drop_zero,c5];exact E⟩ ?_ ?_ ?_ ?_
        ·rintro q Y2 Y2' v v' I ⟨i,M',Y',B,U,e1,e2,hj,hr⟩
         exact ⟨i,M',Y',B.step I,U.keep U.all fun id ab=>B.same I id (U.all id ab),e1,e2,hJ _ _ _ _ _ (YA.step B I) hj,hr⟩
        ·rintro c Y2 Y2' v v' I ⟨e0,Y',B,hd⟩
         exact ⟨e0,Y',B.step I,hD _ _ _ _ (YA.step B I) hd⟩
        ·refine hJ _ _ _ _ _ ⟨fun id h=>.inl h,fun id h=>?_,Nat.le_refl _,fun _ _ _ _=>rfl⟩ cu
         rcases h with h | ⟨y,C⟩ | h
         ·exact .inl h
         ·rcases y with rfl | rfl
          ·exact absurd C (Nat.lt_irrefl _)
          ·exact absurd C (by show ¬ f+1<f;omega)
         ·exact h.elim
        ·rintro q xr ay Y2 ⟨r,p,ov⟩ Z dm aj ai P ae ⟨i',M',Y',B,U,e1,e2,hj,Q⟩
         obtain ⟨xv,b7,rfl⟩:∃ xv,(cW (.agg cx))[q]?=some xv/\[xv]=xr:=by
          rw [AZ,List.getElem?_map]at ay
          cases hx:(cW (.agg cx))[q]? with
          | none=>rw [hx]at ay;cases ay
          | some xv=>rw [hx]at ay;exact ⟨xv,rfl,by simpa using ay⟩
         have di:=(List.getElem?_eq_some_iff.1 b7).1;have cd:=List.mem_of_getElem? b7;have dk:=b4 xv cd
         have bs:(cW (.agg cx)).drop q=xv::(cW (.agg cx)).drop (q+1):=by
          rw [List.drop_eq_getElem_cons di];congr 1;exact (List.getElem?_eq_some_iff.1 b7).2
         obtain ⟨_,_,rfl,⟨ka,rfl⟩,⟨kb,rfl⟩⟩:=cv xv cd
         have N:f<r:=by have:f+1<r:=Z;omega
         have ao:f+1<r:=Z;have w1:=fX N;have w2:=fX ao;rw [show (Sto.mk f F o3).n=f from rfl]at ae P;rw [Sto.get_mk N]at P;rw [Sto.get_mk ao]at ae;refine ⟨_,rfl,?_⟩
         have ax:∀ {aa:Nat} {X X' L:AObj} (id:Nat),id<r->id≠f+1->(Sto.mk (r+1) aa (((ov.set r X).set r X').set (f+1) L)).get id=(Sto.mk r p ov).get id:=fun id y C=>by
          rw [Sto.get_mk (show id<r+1 by omega),Sto.get_mk y,Tr.get_set_ne _ _ C,Tr.get_set_ne _ _ aD,Tr.get_set_ne _ _ aD]
         have I:∀ {aa:Nat} {X X' L:AObj},StepX (fun id=>id=f+1) Y2 Y2 (Sto.mk r p ov) (Sto.mk (r+1) aa (((ov.set r X).set r X').set (f+1) L)):=⟨fun _ h=>h,fun _ h=>.inl h,Nat.le_succ _,fun id y _ h3=>ax id y h3⟩
         have ch:=U.g3;have cm:v0<r:=(B.dn v0 U.ym.2.2.2).2.1;have cn:v0≠f+1:=(B.dn v0 U.ym.2.2.2).2.2.2.2;rw [Sto.get_mk cm]at ch;have w3:=fX cm;rw [bs,SB]at Q;by_cases bu:ka=5
         ·subst bu
          obtain ⟨cy,cz⟩:=dk rfl
          obtain ⟨m,rfl⟩:∃ m:Nat,kb=(m:Int):=⟨kb.toNat,(Int.toNat_of_nonneg cy).symm⟩
          have df:m<A.length:=by have:((m:Nat):Int)<((A.length:Nat):Int):=cz;omega
          have bz:ZQ A out M' (m::(jZ ((cW (.agg cx)).drop (q+1))++rest)) i':=Q;simp +contextual +decide (maxSteps:=1000000) only [↓ wP,wQ,tf,Nat.reduceAdd,wS,ae,w2,w3,cn,ch,SK,lL,Env.setS]
          have b9:∀ {aa:Nat} {o':Tr AObj} id,YA f Y' Y2 (Sto.mk (r+1) aa o') id->id<r+1:=fun id h=>by
           rcases h with h | ⟨_,h⟩ | h
           ·exact Nat.lt_succ_of_lt (B.dn id h).2.1
           ·exact h
           ·exact Nat.lt_succ_of_lt (ai id h)
          refine (qY (first:=[]) (args:=[.int .i64 (m:Nat)]) (cap:=[.ptr m1 0 0,.ptr y0 0 0,.pf (fS os ts us is no),.ptr v0 0 0])).1 (Wcall.mono (ih (pG M') aD M' (by rw [e1,hM]) rfl m _ i' (YA f Y' Y2 _) _ (by show l<r+1;omega) (fun h=>by
           rcases h with h | ⟨h,_⟩ | h
           ·exact B.yl.1 h
           ·omega
           ·exact B.yl.2 h) b9 (U.keep (fun id h=>.inl (U.all id h)) fun id h=>by
           obtain ⟨_,q2,_,q4⟩:=B.dn id (U.all id h)
           exact ax id q2 q4.2) (hJ _ _ _ _ _ (YA.step B I) hj) df bz) fun res hk=>?_)
          obtain ⟨vr,so,u4,rfl,cl,hk⟩:=NW hk;rw [kK,cl];clear cl
          rcases hk with ⟨rfl,_,i4,M4,Y4,T,co,e3,e4,db,dj⟩ | ⟨rfl,_,Y4,T,c4⟩
          ·obtain ⟨al,ap,b5,av,aw,cf⟩:=B.next U.ym.1 ao (Nat.le_succ r) (fun id y C=>ax id y C) aj T
           have be:=aw.trans ((Sto.get_mk (show f+1<r+1 by omega)).trans (Tr.get_set_same _ _ _));have bx:=av.trans ((Sto.get_mk N).trans P);clear T aw av;simp +contextual +decide (maxSteps:=1000000) only [↓ wP,wQ,wS,kJ,be,bx];refine ⟨ap,i4,M4,YN f Y4 Y2,al,co.keep (fun id h=>?_) fun _ _=>rfl,by rw [e3,e1],aD,hJ _ _ _ _ _ b5 db,dj⟩;obtain ⟨_,q2,q3,q4⟩:=B.dn id (U.all id h);exact ⟨co.all id h,q4.1,q4.2,q3⟩
          ·obtain ⟨al,ap,b5,av,aw,cf⟩:=B.next U.ym.1 ao (Nat.le_succ r) (fun id y C=>ax id y C) aj T
           have be:=aw.trans ((Sto.get_mk (show f+1<r+1 by omega)).trans (Tr.get_set_same _ _ _));have bx:=av.trans ((Sto.get_mk N).trans P);clear T aw av;have br:=(al.kp d (.inr rfl) aD).trans ((Sto.get_mk R).trans ak);obtain ⟨n4,az,o4⟩:=u4;have bi:f+1<n4:=cf;have x1:=fX (show d<n4 by omega);rw [Sto.get_mk (show d<n4 by omega)]at br;rw [Sto.get_mk bi]at be
           have cg:f<n4:=by omega
           have bj:(Sto.mk n4 az o4).get f=some (.defs (some [])):=bx;rw [Sto.get_mk cg]at bj
           have x2:f+1≠d/\f≠d:=by omega
           have b6:Sim ⟨n4,az,o4⟩ ⟨n4,d.min az,o4.set d (aR 0 [.bool false])⟩:=⟨Nat.le_refl _,fun id ab=>by
            have bh:id<n4:=ab;rw [Sto.get_mk bh,Sto.get_mk bh]
            rcases Nat.decEq id d with h | rfl
            ·exact Tr.get_set_ne _ _ h
            ·rw [Tr.get_set_same,br]⟩
           simp +contextual +decide (maxSteps:=1000000) only [↓ wP,wQ,tf,Nat.reduceAdd,wS,kJ,be,bj,br,x1,x2,bi,cg];refine ⟨⟨ap.1,fun id h=>(b6.2 id (Nat.lt_of_lt_of_le (ai id h) ap.1)).trans (ap.2 id h)⟩,YN f Y4 Y2,al.step (.sim b6),hD _ _ _ _ (b5.trans ?_) c4⟩;exact YA.step al (.sim b6)
         ·have dd:(ka=5)=False:=eq_false bu
          have bz:ZQ A out M' (jZ ((cW (.agg cx)).drop (q+1))++rest) i':=by
           have e:((AV.agg [.int .i64 ka,.int .i64 kb]).fld 0).num=ka:=rfl;rw [e,if_neg bu]at Q;exact Q
          simp +contextual +decide (maxSteps:=1000000) only [↓ wP,wQ,tf,Nat.reduceAdd,wS,ae,P,w1,w2,SK,lL,kJ,Env.setS,dd];exact ⟨⟨Nat.le_succ _,fun id h=>ax id (ai id h) fun e=>aj (e ▸ h)⟩,i',M',Y',B.step I,U.keep U.all fun id ab=>B.same I id (U.all id ab),e1,e2,hJ _ _ _ _ _ (YA.step B I) hj,bz⟩
        ·rintro Y2 ⟨r,p,ov⟩ Z bc P ⟨i',M',Y',B,U,e1,e2,hj,Q⟩
         have N:f<r:=by have:f+1<r:=Z;omega
         have ao:f+1<r:=Z;have aq:p<=F:=bc;have an:=(B.kp d (.inr rfl) aD).trans ((Sto.get_mk R).trans ak)
         have au:d<r:=by omega
         rw [Sto.get_mk au]at an;have x1:=fX au;have ad:(Sto.mk r p ov).get f=some (.defs (some [])):=P;rw [Sto.get_mk N]at ad
         have af:f≠d:=by omega
         refine NC @an @x1 ?_;refine ⟨rfl,_,BB (by rw [Sto.get_mk N,Tr.get_set_ne _ _ af];exact ad),[.bool true],by simp +contextual +decide (maxSteps:=1000000) only [↓ wP,wQ,tf,wS,x1,af.symm,dK,Option.bind_some],fun e G ci=>?_⟩
         have ar:e.s.low<=l:=by
          rw [G,Sto.put_any];exact Nat.le_trans (Nat.min_le_right _ _) (Nat.le_trans (Nat.min_le_right _ _) (Nat.le_trans aq ac))
         rw [show jR [AV.bool true]=.bool true from rfl,nV (show e.s.low<d by omega)]
         have hF:∀ id,id<r->id≠d->id≠f->e.s.get id=(Sto.mk r p ov).get id:=fun id y C h3=>by
          rw [G,Sto.put_any,Sto.get_mk y,Sto.get_mk y,Tr.get_set_ne _ _ h3,Tr.get_set_ne _ _ C]
         have bo:e.s.n=r:=by rw [G];rfl
         have ah:YA f Y' Y2 ⟨r,p,ov⟩ f:=.inr (.inl ⟨.inl rfl,N⟩);have bg:YA f Y' Y2 ⟨r,p,ov⟩ d:=.inl (B.up d (.inr rfl))
         have T:GrY l m0 Y (YA f Y' Y2 ⟨r,p,ov⟩) ⟨d,low,o⟩ {e.s with low:=Nat.min low e.s.low}:=by
          refine ⟨fun id h=>.inl (B.up id (.inl h)),fun id h=>?_,by show d<=e.s.n;omega,fun h=>?_,fun id y C=>?_⟩
          ·show (Y id∨d<=id)/\id<e.s.n
           rw [bo]
           rcases h with h | ⟨h,h'⟩ | h
           ·obtain ⟨q1,q2,_⟩:=B.dn id h
            refine ⟨?_,q2⟩
            rcases q1 with (q | q) | q
            ·exact .inl q
            ·exact .inr aD
            ·exact .inr (by have:f<=id:=q;omega)
           ·exact ⟨.inr aD,h'⟩
           ·obtain ⟨q1,q2⟩:=B.y2 id h
            exact ⟨.inr (by have:f<=id:=q1;omega),q2⟩
          ·rcases h with h | ⟨h,_⟩ | h
           ·exact B.yl.1 h
           ·omega
           ·exact B.yl.2 h
          ·have S:id<d:=H id y
           exact (hF id aD aD aD).trans ((B.kp id (.inl y) C).trans (bt id y C))
         refine ⟨.inr (Nat.le_trans (Nat.min_le_right _ _) ar),i',M',_,T,U.keep (fun id h=>.inl (U.all id h)) (fun id h=>?_),e1,aD,hJ _ _ _ _ _ ⟨fun _ h=>h,fun _ h=>.inl h,by show r<=e.s.n;omega,fun id y C _=>?_⟩ hj,?_⟩
         ·have y:id<d:=by rcases h with rfl | rfl | rfl | rfl<;>assumption
          exact hF id aD aD aD
         ·exact hF id y (fun e=>C (e ▸ bg)) fun e=>C (e ▸ ah)
         ·rw [AZ,List.length_map,List.drop_length]at Q
          exact Q
        ·rintro Y2 ⟨r,p,ov⟩ Z bc P ⟨_,Y',B,hd⟩
         have N:f<r:=by have:f+1<r:=Z;omega
         have aq:p<=F:=bc;have an:=(B.kp d (.inr rfl) aD).trans ((Sto.get_mk R).trans ak)
         have au:d<r:=by omega
         rw [Sto.get_mk au]at an;have x1:=fX au;have ad:(Sto.mk r p ov).get f=some (.defs (some [])):=P
         have af:f≠d:=by omega
         refine AC ?_;refine ⟨rfl,_,BB ad,[.bool false],by simp +contextual +decide (maxSteps:=1000000) only [↓ wP,wQ,tf,wS,x1,af.symm,an,dK,Option.bind_some],fun e G ci=>?_⟩
         have ar:e.s.low<=l:=by
          rw [G,Sto.put_any];exact Nat.le_trans (Nat.min_le_right _ _) (Nat.le_trans aq ac)
         rw [show jR [AV.bool false]=.bool false from rfl,nV (show e.s.low<d by omega)]
         have hF:∀ id,id<r->id≠f->e.s.get id=(Sto.mk r p ov).get id:=fun id y h3=>by
          rw [G,Sto.put_any,Sto.get_mk y,Sto.get_mk y,Tr.get_set_ne _ _ h3]
         have bo:e.s.n=r:=by rw [G];rfl
         have ah:YA f Y' Y2 ⟨r,p,ov⟩ f:=.inr (.inl ⟨.inl rfl,N⟩);have bg:YA f Y' Y2 ⟨r,p,ov⟩ d:=.inl (B.up d (.inr rfl))
         have T:GrY l m0 Y (YA f Y' Y2 ⟨r,p,ov⟩) ⟨d,low,o⟩ {e.s with low:=Nat.min low e.s.low}:=by
          refine ⟨fun id h=>.inl (B.up id (.inl h)),fun id h=>?_,by show d<=e.s.n;omega,fun h=>?_,fun id y C=>?_⟩
          ·show (Y id∨d<=id)/\id<e.s.n
           rw [bo]
           rcases h with h | ⟨h,h'⟩ | h
           ·obtain ⟨q1,q2,_⟩:=B.dn id h
            refine ⟨?_,q2⟩
            rcases q1 with (q | q) | q
            ·exact .inl q
            ·exact .inr aD
            ·exact .inr (by have:f<=id:=q;omega)
           ·exact ⟨.inr aD,h'⟩
           ·obtain ⟨q1,q2⟩:=B.y2 id h
            exact ⟨.inr (by have:f<=id:=q1;omega),q2⟩
          ·rcases h with h | ⟨h,_⟩ | h
           ·exact B.yl.1 h
           ·omega
           ·exact B.yl.2 h
          ·have S:id<d:=H id y
           exact (hF id aD aD).trans ((B.kp id (.inl y) C).trans (bt id y C))
         refine ⟨Nat.le_trans (Nat.min_le_right _ _) ar,_,T,hD _ _ _ _ ⟨fun _ h=>h,fun _ h=>.inl h,by show r<=e.s.n;omega,fun id y C _=>?_⟩ hd⟩
         exact hF id y fun e=>C (e ▸ ah)
        ·rintro id Y2 ⟨r,p,ov⟩ Z bc P ⟨h,_⟩
         cases h
       ·refine NC @ak @g3 ?_
        refine ⟨rfl,_,rfl,[.bool false],by simp +contextual +decide (maxSteps:=1000000) only [↓ wP,wQ,tf,wS,g3,dK,Option.bind_some],fun e G Q=>?_⟩
        have ar:e.s.low<=l:=by rw [G];exact Nat.le_trans (Nat.min_le_right _ _) ac
        rw [show jR [AV.bool false]=.bool false from rfl,nV (show e.s.low<d by omega),G];refine ⟨Nat.le_trans (Nat.min_le_right _ _) (by rw [<-G];exact ar),V,⟨fun id h=>.inl h,fun id h=>⟨Or.imp (fun h=>h) (fun h=>Nat.le_of_eq h.symm) h,bf id h⟩,Nat.le_of_lt R,ag,fun id y C=>?_⟩,?_⟩
        ·have S:id<d:=H id y
         rw [<-bt id y C];show (Sto.mk f _ _).get id=_;rw [Sto.get_mk (show id<f by omega),Sto.get_mk (show id<f by omega),Tr.get_set_ne _ _ aD]
        ·refine hD V V ⟨f,F,o3⟩ _ ⟨fun _ h=>h,fun _ h=>.inl h,Nat.le_refl _,fun id y C _=>?_⟩ cs
         have S:id<f:=y;show (Sto.mk f _ (o3.set d _)).get id=(Sto.mk f F o3).get id;rw [Sto.get_mk S,Sto.get_mk S,Tr.get_set_ne _ _ fun e=>C (.inr e)]
end
abbrev DN (w:AV) (n:Nat):AV:=.func (.func 80) [] [.pf w,.pf (.int .i64 (n:Nat))]
theorem SC (w:AV) (h:NE w) (n:Nat):Abs.Returns Tryz.prog 33 [w,.int .i64 (n:Nat)] (DN w n):=by
 have a:=(mX w h).1;obtain ⟨_,cs,rfl,c,b⟩:=mX w h;refine bM (L:=[]) aE aL (by kernel_rfl) Tryz.func33 Tryz.ntmps33 Tryz.results33 rfl rfl (aA a.und (aA aS aC)) ?_;refine AE @b ?_;refine .func _ _ _ _ _ rfl rfl (fun i x y h=>by simp at h) (jO (yC (cs:=cs) ?_ rfl (wK a)) (jO (yC (cs:=[.int .i64 (n:Nat)]) rfl rfl (aA aS aC)) tK));rw [Sto.get_mk aD,Tr.get_set_ne _ _ aD,Tr.get_set_same]
theorem aOd {n:Nat}:kF n []=bK (List.replicate n false):=by
 simp only [kF,List.not_mem_nil,decide_false,bK,List.map_replicate]
 exact List.ext_getElem (by simp) fun i a b=>by simp
section
variable {O:bP} {os ts us is no:AV} {A:List AV} {out:List Nat}
set_option maxHeartbeats 4000000 in
theorem JR (hw:NE (fS os ts us is no)) (d:Sl os A) (L:GoodA A) (I:∀ a σ,O 80 a σ=none) (S:∀ a σ,O 81 a σ=none) (T:∀ o,vO o->∀ σ,O 82 [o] σ=some (.ret (JU o) none)) (U:∀ o,xK o->DQ Tryz.prog O (JU o) (AZ o))
 {n:Nat} (Q:n<A.length) (k:Run (gY A) (List.replicate A.length false) [n] out):DQ Tryz.prog O (DN (fS os ts us is no) n) (vT out):=by
 refine ⟨AY I,fun l J D σ P y N B f=>?_⟩;refine uI (first:=[]) (cap:=[.pf (fS os ts us is no),.pf (.int .i64 (n:Nat))]) aL (I _ _) (by kernel_rfl) Tryz.func80 Tryz.ntmps80 Tryz.results80 rfl rfl ?_;have c:=d.cell;have r:A.length<=1000:=L.len;obtain ⟨n0,p,Z⟩:=σ;have X:l<n0:=P;simp +contextual +decide (maxSteps:=1000000) only [↓ wP,wQ,tf,Nat.reduceAdd,wS,d.len,c,sU (n:=A.length) r,aOd,SK]
 let Y:Nat->Prop:=fun id=>n0<=id/\id<n0+4
 refine (qY (first:=[]) (args:=[.int .i64 (n:Nat)]) (cap:=[.ptr (n0+1+1) 0 0,.ptr n0 0 0,.pf (fS os ts us is no),.ptr (n0+1+1+1) 0 0])).1 (Wcall.mono (ZR (A:=A) (out:=out) (l:=l) (m0:=n0+1) (g:=0) (c0:=.is A.length) (m1:=n0+1+1) (y0:=n0) (v0:=n0+1+1+1) (J:=J) (D:=D) d L S T U y N f (pG (List.replicate A.length false)) (List.replicate A.length false) (by simp) rfl n [] 0 Y _
  (by show l<n0+4;omega) (fun h=>by have:n0<=l:=h.1;omega) (fun id h=>h.2) ⟨⟨?_,?_,?_,?_⟩,⟨aD,aD,aD⟩,?_,?_,?_,?_⟩ (y _ DO Y ⟨n0,p,Z⟩ _ ⟨fun _ h=>h.elim,fun id h=>.inr h,Nat.le_add_right n0 4,fun id h _ _=>?_⟩ B) Q ⟨Nat.zero_le _,k⟩) fun res E=>?_)
 all_goals first | (show n0<=_/\_<n0+4;omega) | skip
 ·exact uQ @SK
 ·refine AE @SK ?_
  rw [List.length_replicate]
 ·exact uQ @SK
 ·exact uQ @SK
 ·have R:id<n0:=h
  rw [Sto.get_mk (show id<n0+1+1+1+1 by omega),Sto.get_mk R];rw [Tr.get_set_ne _ _ aD,Tr.get_set_ne _ _ aD,Tr.get_set_ne _ _ aD,Tr.get_set_ne _ _ aD,Tr.get_set_ne _ _ aD,Tr.get_set_ne _ _ aD]
 ·obtain ⟨vr,so,H,rfl,m,E⟩:=NW E
  rw [kK,m];clear m
  have F:(List.replicate A.length false)[n]?=some false:=by rw [List.getElem?_replicate,if_pos Q]
  have b:H.low<=l/\∃ Y,J (vT out).length Y H∨D Y H:=by
   rcases E with ⟨_,h | h,i,M',Y',_,_,_,_,V,hi,f⟩ | ⟨_,h,Y',_,C⟩
   ·rw [F]at h;cases h.2
   ·refine ⟨h,Y',.inl ?_⟩
    have q:i=out.length:=by
     generalize C:out.drop i=oo at f;cases f;have:=congrArg List.length C;rw [List.length_drop,List.length_nil]at this;omega
    rw [vT,List.length_map,<-q];exact V
   ·exact ⟨h,Y',.inr C⟩
  refine AC ?_;refine ⟨rfl,_,rfl,_,rfl,fun e q f=>?_⟩;exact mY _ _ e (fun G=>∃ Y,J (vT out).length Y G∨D Y G) (fun s G d ⟨Y,h⟩=>⟨Y,h.imp (y _ _ _ _ _ (.sim d)) (N _ _ _ _ (.sim d))⟩) (q ▸ b.2) (.inl (q ▸ Nat.lt_of_le_of_lt b.1 P))
end
end
end Go.Proofs.YtdipddlhenoglaaGreat
