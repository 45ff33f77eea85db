/-
  The world with an isle alone, by the program.
-/
import Derived.Test.YtdipddlhenoglaaGreatVc
set_option linter.unusedVariables false
set_option linter.unusedSimpArgs false
namespace Go.Proofs.YtdipddlhenoglaaGreat
open Go.Abs Go Go.Abs.TryzF
noncomputable section
set_option maxRecDepth 10000
def WH (L:List Nat) (args:List AV) (s:Sto) (res:CRes):Prop:=∃ r,aSs L args s (.ret r none)/\res=.ret r (some s)
theorem aDu {L:List Nat}:bY Tryz.prog (dC 44 (WH L)):=mB fun _ _ _ h=>by
 obtain ⟨r,h,rfl⟩:=h;obtain ⟨_,_,_,_,_,_,_,_,h⟩:=h;exact AU h
theorem aDv {L:List Nat} {a:AV} {p:Nat} {s:Sto} (q:aPl L p s) (o:cG a) (b:a.els.length<=100000) (u:mN L a.els) (E:List mE):orcL (dC 44 (WH L)::E) 44 [a,.ptr p 0 0] s=some (.ret (jF L a) (some s)):=by
 obtain ⟨res,c⟩:=YX q o b u
 have h:res=.ret (jF L a) none:=by
  obtain ⟨d,v,e,_,_,_,_,rfl,_⟩:=c;simp only [List.cons.injEq,AV.ptr.injEq,and_true]at e;rw [e.1]
 subst h;obtain ⟨res,⟨r,l,rfl⟩,m⟩:=kY (f:=44) (R:=WH L) ⟨_,_,c,rfl⟩;obtain ⟨d,v,e,_,_,_,_,k,_⟩:=l;simp only [List.cons.injEq,AV.ptr.injEq,and_true]at e;obtain ⟨rfl,rfl⟩:=e;cases k;exact m E
theorem iT {L:List Nat} {a:AV} (h:cG a):cG (jF L a):=by
 obtain ⟨xs,b,d⟩:=h
 rcases b.1 with ⟨rfl,rfl⟩ | ⟨c,rfl⟩
 ·exact ⟨[],⟨.inl ⟨rfl,rfl⟩,b.2⟩,fun x d=>(nomatch d)⟩
 ·refine ⟨xs.map (oV L),⟨.inr ⟨false,rfl⟩,by rw [List.length_map];exact b.2⟩,fun x e=>?_⟩
  obtain ⟨y,f,rfl⟩:=List.mem_map.1 e;exact uE (d y f)
section
variable {p os ts us is no:AV}
abbrev LOp (p os ts us is no:AV) (a b:List Nat):List mE:=[ent 31 aEr,ent 36 (WP os ts us is no),ent 43 (WK os ts us is no),jG 42 [.fz (bK (jH os ts b)) false] (aQ a),ent 46 JY,ent 47 JX,dC 44 (WH a)]
def hOp:cQ:=fun r=>if r=12 then ([2,5],[1000]) else if r=17 then ([],[1000]) else if r=21 then ([],[1000,1000002000,14]) else if r=28 then ([],[1000,1000002000,10]) else ([],[])
theorem WI:hOp 12=([2,5],[1000])/\hOp 17=([],[1000])/\hOp 21=([],[1000,1000002000,14])/\hOp 28=([],[1000,1000002000,10]):=⟨rfl,rfl,rfl,rfl⟩
set_option maxHeartbeats 16000000 in
theorem aDw (hp:gC p) (h:GW os ts us is no) {k:Nat} (hk:k<ts.els.length) {u C:List Nat} (ax:C=cE os ts k) (aa:u=cC os ts C) (ch:JP p (fS os ts us is no) (k:Nat)=true) (en:us.els.length<=1000) (cy:is.els.length<=1000):
 Abs.Returns Tryz.prog 16 [p,fS os ts us is no,.int .i64 (k:Nat)] (.tuple [.agg [bJ (u.map fun r=>gQ (jF u) (os.els.getD r .top)),aQ (eP ts u C),aY us,aY is,no],lY true]):=by
 have eo:=(cH p hp).1;have ep:=h.g.und;obtain ⟨c0,c1,c2,c3,c4⟩:=h.g.cells;have hm:ts.els.length<=120:=Nat.le_trans h.l h.ol;have ed:=h.ol
 have ba:C.length<=120:=by rw [ax];exact Nat.le_trans (pA os ts k) aD
 have ao:∀ j∈C,j<ts.els.length:=fun j hj=>oX (os:=os) (k:=k) (by rw [<-ax];exact hj)
 have e1:aEr [p,fS os ts us is no,.int .i64 (k:Nat)]=some (.bool true):=by rw [<-ch];exact kI ⟨hp,h.g.wd,_,rfl⟩
 have d0:WP os ts us is no [.agg [os,ts,us,is,no],.int .i64 (k:Nat)]=some (aQ C):=by
  rw [WP,sg2_eq (b:=.int .i64 (k:Nat)) ⟨rfl,k,hk,rfl⟩,ax];rfl
 have d4:WK os ts us is no [.agg [os,ts,us,is,no],aQ C]=some (.fz (bK (jH os ts C)) false):=by
  rw [WK,sg2_eq (b:=aQ C) ⟨rfl,_,rfl,ao,aD,by have:=h.l;omega⟩,fR aD]
 have d3:=zL (os:=os) (ts:=ts) C;have bw:=YZ (M:=jH os ts C) aD;rw [d3,<-cC,<-aa]at bw
 have af:∀ x∈u,x<os.els.length:=fun x F=>by
  rw [aa,cC,sI]at F;exact List.mem_range.1 (List.mem_filter.1 F).1
 have ds:u.Nodup:=by rw [aa];exact List.nodup_range.filter _
 have dr:u.length<=os.els.length:=by rw [aa];exact mO _ _ _
 have dt:∀ x∈u,∀ y∈gY os.els x,y∈u:=fun x F y V=>by rw [aa]at F ⊢;exact oI h ao F V
 have cw:=fun {x:Nat} (F:x∈u) {l:AV}=>DB h dt F (af x F) (l:=l)
 have el:∀ j∈C,aZ ts j∈u:=fun j hj=>by
  rw [aa];exact (mP h ao).2 ⟨j,hj,bV.2 ⟨(h.task (ao j hj)).1,.refl _⟩⟩
 clear aa ax;have bc:=dU (l:=u) aD;have cx:=dU (l:=C) aD;have e9:(aQ u).isCell=true:=cD;have e7:(aQ C).isCell=true:=cD;have e8:(AV.fz (bK (jH os ts C)) false).isCell=true:=rfl;have ee:JY [us]=some (aY us):=cI ⟨h.g.us,en⟩;have dz:JX [is]=some (aY is):=cI ⟨h.g.is,cy⟩
 have bg:(aY us).isCell=true:=by unfold aY;split<;>rfl
 have bf:(aY is).isCell=true:=by unfold aY;split<;>rfl
 have bm:TSl qP (aY us):=by obtain ⟨xs,hs,F⟩:=h.g.us;exact ⟨xs,mJ hs,F⟩
 have bl:fZ (aY is):=by obtain ⟨xs,hs,F⟩:=h.g.is;exact ⟨xs,mJ hs,F⟩
 refine bM (L:=LOp p os ts us is no u C) (elist_cons asked_ok.ent (elist_cons (aEm h).ent (elist_cons (aEa h).ent (elist_cons (bX bw) (elist_cons cloneO_ok.ent (elist_cons cloneI_ok.ent (elist_cons aDu aE))))))) hOp (by kernel_rfl) Tryz.func16 Tryz.ntmps16 Tryz.results16 rfl rfl (aA eo.und (aA ep.und (aA aS aC))) ?_;clear bw;obtain ⟨xo,cz,cf⟩:=h.g.os;have ci:=cz.els;have an:=h.a.good;rw [ci]at af dr cw ed an ⊢
 have du:∀ r,r<xo.length->xo.getD r .top∈xo:=fun r hr=>by
  rw [List.getD_eq_getElem?_getD,List.getElem?_eq_getElem hr];exact List.getElem_mem hr
 obtain ⟨_,ps,rfl,eh,ef⟩:=cH p hp;refine LC @c0 @c1 @c2 @c3 @c4 @eh @ef @e1 @d0 @d4 @fU bc.lX @aV @tH ?_
 refine aM (fun i e=>∃ t low o em c,e=⟨129,none,16,t,[],⟨5,low,o⟩,.no⟩/\t.val 3=.ptr 0 0 0/\t.val 4=.ptr 1 0 0/\t.val 6=.ptr 2 0 0/\t.val 8=aQ C/\t.val 9=aQ u/\t.val 10=.ptr 4 0 0/\t.val 37=aQ u/\t.val 38=.int .i64 (u.length:Nat)/\t.val 39=.int .i64 (i:Nat)/\o.get 1=some (aR 0 [os,ts,us,is,no])/\o.get 2=some (aR 0 [.nils,.nils,.nils,.nils,.int .i64 0])/\o.get 3=some (.map (sC .i64 em) c)/\o.get 4=some (aR 0 [.map 3])/\(∀ (a x:Nat),a<i->u[a]?=some x->nR em x=some (.int .i64 (a:Nat)))/\i<=u.length) (fun i=>u.length-i) 0
  ⟨_,_,_,[],0,rfl,aG,aG,aG,aG,aG,aG,aG,aG,eT,qC,qC,by rw [show sC .i64 []=[] from rfl];exact qC,aG,fun a x h=>(Nat.not_lt_zero _ h).elim,Nat.zero_le _⟩ ?_
 rintro i _ ⟨t,low,o,em,c,rfl,t3,Z,t6,t8,t9,G,b4,be,b5,g1,g2,g3,g4,ap,hi⟩
 rcases Nat.lt_or_ge i u.length with ac | ay
 ·have ah:=List.getElem?_eq_getElem ac
  have ba:=fun {q:IntKind} {d:Option AV}=>gU (k:=1) (cP ah) rfl (q:=q) (d:=d)
  have k3:(((i:Nat):Int)<((u.length:Nat):Int))=True:=eq_true aD
  have b2:IntKind.i64.wrap ((i:Int)+1)=((i+1:Nat):Int):=by rw [IntWalk.i64_in _ aD];rfl
  obtain ⟨b9,c',u1,u2⟩:=aAw (P:=Tryz.prog) (s:=⟨5,low,o⟩) (i:=((u[i]:Nat):Int)) (v:=.int .i64 (i:Nat)) aPm ((Sto.get_mk (show 3<5 by omega)).trans g3);rw [Sto.put_any]at u1
  have eb:∀ (a x:Nat),a<i+1->u[a]?=some x->nR b9 x=some (.int .i64 (a:Nat)):=fun a x ha F=>by
   rw [u2]
   rcases Nat.lt_or_ge a i with cg | cg
   ·have b0:¬ ((u[i]:Nat):Int)=((x:Nat):Int):=fun e=>by
     have e':u[i]=x:=by omega
     have h1:u[i]?=some x:=by rw [ah,e']
     have h2:=(List.getElem?_inj ac ds).1 (h1.trans F.symm);omega
    rw [if_neg b0];exact ap a x cg F
   ·obtain rfl:a=i:=by omega
    rw [ah]at F;cases F;rw [if_pos rfl]
  generalize u[i]=r at *;refine wW @G @b4 @be @b5 @k3 bc.iX @ba @g4 @u1 @b2 ?_;exact ⟨i+1,by show _-_<_-_;omega,_,_,_,b9,c',rfl,aN @t3,aN @Z,aN @t6,aN @t8,aN @t9,aN @G,aN @b4,aN @be,aG,LF @g1,LF @g2,Tr.get_set_same _ _ _,LF @g4,eb,ac⟩
 ·obtain rfl:i=u.length:=Nat.le_antisymm hi ay
  have k3:(((u.length:Nat):Int)<((u.length:Nat):Int))=False:=eq_false (Int.lt_irrefl _)
  have cq:∀ (a x:Nat),u[a]?=some x->nR em x=some (.int .i64 (a:Nat)):=fun a x F=>ap a x (List.getElem?_eq_some_iff.1 F).1 F
  clear ap hi ay
  have c8:=fun {m:Nat}=>(dY _ bm).1.mono (Nat.zero_le m)
  have c7:=fun {m:Nat}=>(aT _ bl).1.mono (Nat.zero_le m)
  have e0:=fun {m:Nat}=>(tu_int _ h.g.no).1.mono (Nat.zero_le m)
  refine aGj @WI @Z @t9 @G @be @b5 @k3 @g1 @ee @dz @bg @bf @c8 @c7 @e0 @c4 @yF bc.lX @aV ?_
  have cm:∀ {m:Nat} {s:Sto},kM m s s:=fun _ _=>rfl
  refine aM (fun i e=>∃ t n low o v,e=⟨129,none,16,t,[],⟨n,low,o⟩,.no⟩/\t.val 4=.ptr 1 0 0/\t.val 6=.ptr 2 0 0/\t.val 8=aQ C/\t.val 10=.ptr 4 0 0/\t.val 13=.func (.func 44) [] [.ptr 4 0 0]/\t.val 14=.ptr 5 0 0/\t.val 58=aQ u/\t.val 59=.int .i64 (u.length:Nat)/\t.val 60=.int .i64 (i:Nat)/\o.get 1=some (aR 0 [os,ts,us,is,no])/\o.get 2=some (aR 0 [.nils,.nils,.nils,.nils,.int .i64 0])/\o.get 3=some (.map (sC .i64 em) c)/\o.get 4=some (aR 0 [.map 3])/\o.get 5=some (aR 0 [v,.nils,aY us,aY is,no])/\6<=n/\n<=6+2000*i/\NOb (jF u) 6 v n o ((u.take i).map fun r=>xo.getD r .top)/\i<=u.length) (fun i=>u.length-i) 0
   ⟨_,_,_,_,.nils,rfl,aN @Z,aN @t6,aN @t8,aN @G,aG,aG,aG,aG,eT,LF @g1,LF @g2,by rw [Tr.get_set_ne _ _ aD,Tr.get_set_ne _ _ aD];exact g3,LF @g4,Tr.get_set_same _ _ _,Nat.le_refl _,aD,NOb.nil,Nat.zero_le _⟩ ?_
  clear t3 Z t6 t8 t9 G b4 be b5 g1 g2 g3 g4;rintro i _ ⟨t,n,low,o,v,rfl,Z,t6,t8,G,S,H,ae,T,U,g1,g2,g3,g4,g5,hn,fe,hN,hi⟩;have f1:=fX (show 1<n by omega);have f5:=fX (show 5<n by omega)
  have fb:n<1000000000/\n+1<1000000000/\n+1+1<1000000000:=by omega
  rcases Nat.lt_or_ge i u.length with ac | ay
  ·have ah:=List.getElem?_eq_getElem ac
   have cp:=List.getElem_mem ac;have et:=af _ cp
   have bd:(u.take (i+1)).map (fun r=>xo.getD r .top)=(u.take i).map (fun r=>xo.getD r .top)++[xo.getD u[i] .top]:=by rw [List.take_add_one,ah,List.map_append];rfl
   have bh:=fun {l:AV}=>cw cp (l:=l)
   generalize u[i]=r at *;obtain ⟨x,br,ea,dw,_,bu,fg,fc⟩:=bI (k:=4) (fun x h=>tk_ob.len h) cf (show xo.length<=9223372036854775807 by omega) et
   have eg:=fun {d:Option AV}=>tk_ob.pf br (d:=d)
   have cj:xo.getD r .top=x:=by rw [List.getD_eq_getElem?_getD,dw];rfl
   rw [cj]at bd bh;obtain ⟨_,az,dv⟩:=an x ea
   have cn:=fun {l:AV} (hl:l∈DR x)=>Nat.le_trans (DA hl) dv
   have ff:=fun {m:Nat}=>(tk_ob x br).1.mono (Nat.zero_le m)
   have ba:=fun {q:IntKind} {d:Option AV}=>gU (k:=1) (cP ah) rfl (q:=q) (d:=d)
   have k3:(((i:Nat):Int)<((u.length:Nat):Int))=True:=eq_true aD
   have b2:IntKind.i64.wrap ((i:Int)+1)=((i+1:Nat):Int):=by rw [IntWalk.i64_in _ aD];rfl
   obtain ⟨_,_,I,fr,rfl,⟨O,rfl⟩,⟨Q,rfl⟩,ai,am⟩:=id br;have db:=(tu_vals _ ai).2;have c9:=(eE _ am).2
   have e3:=fun {m:Nat}=>(tu_vals _ ai).1.mono (Nat.zero_le m)
   have fj:=fun {m:Nat}=>(eE _ am).1.mono (Nat.zero_le m)
   have bx:∀ {B:Nat} {o':Tr AObj} {A:Nat},6<=A->o'.get 4=some (aR 0 [.map 3])->o'.get 3=some (.map (sC .i64 em) c)->∀ {a:AV},cG a->a∈DR (.agg [.int .i64 O,.int .i64 Q,I,fr])->orcL (LOp (.agg ps) os ts us is no u C) 44 [a,.ptr 4 0 0] ⟨A,B,o'⟩=some (.ret (jF u a) (some ⟨A,B,o'⟩)):=fun {B o' A} h6 h4 h3 {a} ha hl=>aDv (L:=u) (a:=a) (p:=4) (s:=⟨A,B,o'⟩) ⟨3,em,c,(Sto.get_mk aD).trans h4,(Sto.get_mk aD).trans h3,cq⟩ ha (cn hl) (bh hl) []
   have cr:=iT (L:=u) ai;have bn:=(tu_vals _ cr).2
   have ez:=fun {m:Nat}=>(tu_vals _ cr).1.mono (Nat.zero_le m)
   have b1:=hN.cell
   have d8:∀ {B:Nat} {X Y:AObj},orcL (LOp (.agg ps) os ts us is no u C) 44 [I,.ptr 4 0 0] ⟨n+1,B,(o.set n X).set n Y⟩=some (.ret (jF u I) (some ⟨n+1,B,(o.set n X).set n Y⟩)):=fun {B X Y}=>bx aD (by rw [Tr.get_set_ne _ _ aD,Tr.get_set_ne _ _ aD];exact g4) (by rw [Tr.get_set_ne _ _ aD,Tr.get_set_ne _ _ aD];exact g3) ai (List.mem_cons_self ..)
   have dj:4<n+1:=by omega
   obtain ⟨N,R,bt⟩:=am;simp +contextual +decide (maxSteps:=1000000) only [↓ wP,wQ,tf,Nat.reduceAdd,wS,WI,Z,S,ae,T,U,g1,f1,gL,k3,bc.idx,ba,cz.idx,bu,eg,db,c9,e3,d8,bn,ez,cm,dj,R.len]
   have ec:∀ {X1 X2 X3 X4:AObj} {id:Nat},id<n->((((o.set n X1).set n X2).set (n+1) X3).set (n+1) X4).get id=o.get id:=fun {_ _ _ _ id} E=>by rw [Tr.get_set_ne _ _ aD,Tr.get_set_ne _ _ aD,Tr.get_set_ne _ _ aD,Tr.get_set_ne _ _ aD]
   have e6:N.length<=400:=by rw [show ((AV.agg [.int .i64 O,.int .i64 Q,I,fr]).fld 3).els=N from R.els]at az;exact az
   have co:∀ f∈N,f.fld 1∈DR (.agg [.int .i64 O,.int .i64 Q,I,fr])/\f.fld 2∈DR (.agg [.int .i64 O,.int .i64 Q,I,fr]):=fun f hf=>by
    have:∀ y,y=f.fld 1∨y=f.fld 2->y∈DR (.agg [.int .i64 O,.int .i64 Q,I,fr]):=fun y V=>by
     refine List.mem_cons_of_mem _ (List.mem_flatten.2 ⟨[f.fld 1,f.fld 2],List.mem_map.2 ⟨f,?_,rfl⟩,by rcases V with rfl | rfl<;>simp⟩);rw [show ((AV.agg [.int .i64 O,.int .i64 Q,I,fr]).fld 3).els=N from R.els];exact hf
    exact ⟨this _ (.inl rfl),this _ (.inr rfl)⟩
   refine aM (fun j e=>∃ t A low o' w,e=⟨129,none,16,t,[],⟨A,low,o'⟩,.no⟩/\t.val 4=.ptr 1 0 0/\t.val 6=.ptr 2 0 0/\t.val 8=aQ C/\t.val 10=.ptr 4 0 0/\t.val 13=.func (.func 44) [] [.ptr 4 0 0]/\t.val 14=.ptr 5 0 0/\t.val 58=aQ u/\t.val 59=.int .i64 (u.length:Nat)/\t.val 60=.int .i64 (i:Nat)/\t.val 17=.ptr n 0 0/\t.val 18=.ptr (n+1) 0 0/\t.val 79=fr/\t.val 80=.int .i64 (N.length:Nat)/\t.val 81=.int .i64 (j:Nat)/\(∀ id,id<n->o'.get id=o.get id)/\o'.get n=some (aR 0 [.int .i64 O,.int .i64 Q,I,fr])/\o'.get (n+1)=some (aR 0 [.int .i64 O,.int .i64 Q,jF u I,w])/\n+2<=A/\A<=n+2+3*j/\AccM 3 (n+2) w A o' (nN (jF u) (N.take j))/\j<=N.length) (fun j=>N.length-j) 0
    ⟨_,_,_,_,.nils,rfl,aN @Z,aN @t6,aN @t8,aN @G,aN @S,aN @H,aN @ae,aN @T,aN @U,aG,aG,aG,aG,eT,fun id E=>ec E,LF @gL,Tr.get_set_same _ _ _,Nat.le_refl _,aD,.inl ⟨rfl,rfl⟩,Nat.zero_le _⟩ ?_
   clear Z t6 t8 G S H ae T U;rintro j _ ⟨t,A,low,o',w,rfl,Z,t6,t8,G,S,H,ae,T,U,ev,b3,c5,b6,c6,D,ga,gb,ct,cu,J,hj⟩;have fa:=fX (show n<A by omega);have cb:=fX (show n+1<A by omega)
   have ca:A<1000000000/\A+1<1000000000/\A+1+1<1000000000/\n<1000000000/\n+1<1000000000:=by omega
   rcases Nat.lt_or_ge j N.length with ab | bv
   ·obtain ⟨f,cd,d9,az,fd,dx,er,e5⟩:=bI (k:=3) (fun x h=>tk_fr.len h) bt R.2 ab
    have cv:=fun {d:Option AV}=>tk_fr.pf cd (d:=d)
    have bi:nN (jF u) (N.take (j+1))=nN (jF u) (N.take j)++[(kW (jF u) f).cells]:=by rw [nN,List.take_add_one,az,List.map_append,List.map_append];rfl
    obtain ⟨d5,d6⟩:=co f d9
    have dq:∀ y∈nN (jF u) (N.take j),y.length=3:=fun y V=>by
     obtain ⟨z,hz,rfl⟩:=List.mem_map.1 V;obtain ⟨q,_,rfl⟩:=List.mem_map.1 hz;rfl
    have ce:(nN (jF u) (N.take j)).length=j:=by rw [List.length_map,List.length_map,List.length_take];omega
    obtain ⟨_,p1,p2,rfl,⟨fm,rfl⟩,e1,e2⟩:=cd;have d1:=(tu_vals _ e1).2;have d2:=(tu_vals _ e2).2
    have fh:=fun {Y:Nat->Prop}=>e1.choose_spec.1.stab (Y:=Y)
    have fi:=fun {Y:Nat->Prop}=>e2.choose_spec.1.stab (Y:=Y)
    have u1:=fun {m:Nat}=>(tu_vals _ e1).1.mono (Nat.zero_le m)
    have u2:=fun {m:Nat}=>(tu_vals _ e2).1.mono (Nat.zero_le m)
    have aw:=(D 4 aD).trans g4;have av:=(D 3 aD).trans g3
    have v1:∀ {B:Nat} {X Y:AObj},orcL (LOp (.agg ps) os ts us is no u C) 44 [p1,.ptr 4 0 0] ⟨A+1,B,(o'.set A X).set A Y⟩=some (.ret (jF u p1) (some ⟨A+1,B,(o'.set A X).set A Y⟩)):=fun {B X Y}=>bx aD (by rw [Tr.get_set_ne _ _ aD,Tr.get_set_ne _ _ aD];exact aw) (by rw [Tr.get_set_ne _ _ aD,Tr.get_set_ne _ _ aD];exact av) e1 d5
    have v2:∀ {B:Nat} {X Y:AObj},orcL (LOp (.agg ps) os ts us is no u C) 44 [p2,.ptr 4 0 0] ⟨A+1,B,(o'.set A X).set A Y⟩=some (.ret (jF u p2) (some ⟨A+1,B,(o'.set A X).set A Y⟩)):=fun {B X Y}=>bx aD (by rw [Tr.get_set_ne _ _ aD,Tr.get_set_ne _ _ aD];exact aw) (by rw [Tr.get_set_ne _ _ aD,Tr.get_set_ne _ _ aD];exact av) e2 d6
    have b7:=(tu_vals _ (iT (L:=u) e1)).2;have b8:=(tu_vals _ (iT (L:=u) e2)).2
    have ew:=fun {m:Nat}=>(tu_vals _ (iT (L:=u) e1)).1.mono (Nat.zero_le m)
    have ey:=fun {m:Nat}=>(tu_vals _ (iT (L:=u) e2)).1.mono (Nat.zero_le m)
    rw [show (kW (jF u) (.agg [.int .i64 fm,p1,p2])).cells=[.int .i64 fm,jF u p1,jF u p2] from rfl]at bi
    have al:AccM 3 (n+2) w (A+1+1) (((o'.set A (aR 0 [AV.int .i64 0,AV.nils,AV.nils])).set A (aR 0 [AV.int .i64 fm,p1,p2])).set (A+1) (aR 0 [AV.int .i64 fm,jF u p1,jF u p2])) (nN (jF u) (N.take j)):=J.keepO aD fun id E=>by
     have:=(J.own E).2;rw [Tr.get_set_ne _ _ aD,Tr.get_set_ne _ _ aD,Tr.get_set_ne _ _ aD]
    obtain ⟨w',n3,o3,lf,q1,q2,q3,q4,q5,q6,_⟩:=al.app1 (by_:=56) (cs:=[.int .i64 fm,jF u p1,jF u p2]) rfl (by simp only [List.all_cons,List.all_nil,b7,b8];rfl) dq aD (by rw [ce];omega);have aj:=J.cell;have aq:UnderE (A+1+1) w:=(AccM.und J).mono aD;have k4:(((j:Nat):Int)<((N.length:Nat):Int))=True:=eq_true aD;have bo:=q2.cell
    have ei:o3.get (n+1)=some (aR 0 [.int .i64 O,.int .i64 Q,jF u I,w]):=by
     rw [q5 _ aD (fun e=>by have:=(J.own e).1;omega),Tr.get_set_ne _ _ aD,Tr.get_set_ne _ _ aD,Tr.get_set_ne _ _ aD];exact gb
    have f3:=fX (show n+1<n3 by omega)
    have cc:4<A+1:=by omega
    have bz:A+1+1<=n3:=q3;simp +contextual +decide (maxSteps:=1000000) only [↓ wP,wQ,tf,Nat.reduceAdd,wS,WI,ca,S,b3,c5,b6,c6,gb,cb,gL,k4,R.idx,dx,cv,er,d1,d2,u1,u2,v1,v2,b7,b8,ew,ey,aq,q1,bo,ei,f3,Nat.reduceMul,cm,cc,bz,AccM.und q2]
    have ad:∀ id,id<n->o3.get id=o.get id:=fun id E=>by
     rw [q5 id aD (fun e=>by have:=(J.own e).1;omega),Tr.get_set_ne _ _ aD,Tr.get_set_ne _ _ aD,Tr.get_set_ne _ _ aD];exact D id E
    have di:o3.get n=some (aR 0 [.int .i64 O,.int .i64 Q,I,fr]):=by
     rw [q5 n aD (fun e=>by have:=(J.own e).1;omega),Tr.get_set_ne _ _ aD,Tr.get_set_ne _ _ aD,Tr.get_set_ne _ _ aD];exact ga
    have bq:AccM 3 (n+2) w' n3 (o3.set (n+1) (aR 0 [.int .i64 O,.int .i64 Q,jF u I,w'])) (nN (jF u) (N.take j)++[[.int .i64 fm,jF u p1,jF u p2]]):=q2.keepO (Nat.le_refl _) fun id E=>by
     have:=(q2.own E).1;rw [Tr.get_set_ne _ _ aD]
    exact ⟨j+1,by show _-_<_-_;omega,_,_,_,_,w',rfl,aN @Z,aN @t6,aN @t8,aN @G,aN @S,aN @H,aN @ae,aN @T,aN @U,aN @ev,aN @b3,aN @c5,aN @b6,aG,fun id E=>by rw [Tr.get_set_ne _ _ aD];exact ad id E,by rw [Tr.get_set_ne _ _ aD];exact di,Tr.get_set_same _ _ _,aD,aD,by rw [bi];exact bq,ab⟩
   ·obtain rfl:j=N.length:=Nat.le_antisymm hj bv
    rw [List.take_length]at J;have k4:(((N.length:Nat):Int)<((N.length:Nat):Int))=False:=eq_false (Int.lt_irrefl _)
    have bs:NOb (jF u) 6 v A o' ((u.take i).map fun r=>xo.getD r .top):=hN.keep aD fun id _ h2=>D id h2
    have es:∀ q,qD w=some q->qD v≠some q:=fun q h1 h2=>by
     have:=(J.own h1).1;have:=(hN.und h2).2;omega
    have aj:=J.cell;have ag:=(D 5 aD).trans g5;have au:=fX (show 5<A by omega)
    have dm:NOb (jF u) 6 v (A+1) (o'.set A (aR 0 [AV.int .i64 O,AV.int .i64 Q,jF u I,w])) ((u.take i).map fun r=>xo.getD r .top):=bs.keep aD fun id _ h2=>Tr.get_set_ne _ _ aD
    have dk:AccM 3 6 w (A+1) (o'.set A (aR 0 [AV.int .i64 O,AV.int .i64 Q,jF u I,w])) (nN (jF u) N):=(J.keepO aD fun id E=>by
     have:=(J.own E).2
     rw [Tr.get_set_ne _ _ aD]).lo aD
    have dl:AccM 3 6 w (A+1) (o'.set A (aR 0 [AV.int .i64 O,AV.int .i64 Q,jF u I,w])) (nN (jF u) ((AV.agg [.int .i64 O,.int .i64 Q,I,fr]).fld 3).els):=by
     rw [show ((AV.agg [.int .i64 O,.int .i64 Q,I,fr]).fld 3).els=N from R.els];exact dk
    obtain ⟨v',n3,o3,lf,q1,q2,q3,q4,q5,_⟩:=dm.app (by_:=64) (x:=.agg [.int .i64 O,.int .i64 Q,I,fr]) dl es (by show [AV.int .i64 O,AV.int .i64 Q,jF u I,w].all AV.isCell=true;simp only [List.all_cons,List.all_nil,bn,aj];rfl) aD (by rw [List.length_map,List.length_take];omega);have eu:∀ low,apF ⟨A+1,low,o'.set A (aR 0 [AV.int .i64 O,AV.int .i64 Q,jF u I,w])⟩ 4 64 v (some (1,[AV.int .i64 O,AV.int .i64 Q,jF u I,w]))=some (.val' v' ⟨n3,lf low,o3⟩):=q1;have da:=q2.cell
    have ak:o3.get 5=some (aR 0 [v,.nils,aY us,aY is,no]):=by
     rw [q5 5 aD (fun e=>by have:=(hN.und e).1;omega),Tr.get_set_ne _ _ aD];exact ag
    have bp:=fX (show 5<n3 by omega);refine EP @H @U @b3 @b6 @c6 @gb @cb @gL @k4 @ag @au @aj @bn @eu @da @ak @bp @b2 ?_
    have bb:∀ id,id<6->id≠5->(o3.set 5 (aR 0 [v',.nils,aY us,aY is,no])).get id=o.get id:=fun id E b0=>by
     rw [Tr.get_set_ne _ _ b0,q5 id aD (fun e=>by have:=(hN.und e).1;omega),Tr.get_set_ne _ _ aD];exact D id aD
    have dn:NOb (jF u) 6 v' n3 (o3.set 5 (aR 0 [v',.nils,aY us,aY is,no])) ((u.take i).map (fun r=>xo.getD r .top)++[.agg [.int .i64 O,.int .i64 Q,I,fr]]):=q2.keep (Nat.le_refl _) fun id h1 _=>Tr.get_set_ne _ _ aD
    exact ⟨i+1,by show _-_<_-_;omega,_,_,_,_,v',rfl,aN @Z,aN @t6,aN @t8,aN @G,aN @S,aN @H,aN @ae,aN @T,aG,(bb 1 aD aD).trans g1,(bb 2 aD aD).trans g2,(bb 3 aD aD).trans g3,(bb 4 aD aD).trans g4,Tr.get_set_same _ _ _,aD,aD,by rw [bd];exact dn,ac⟩
  ·obtain rfl:i=u.length:=Nat.le_antisymm hi ay
   rw [List.take_length]at hN;have k3:(((u.length:Nat):Int)<((u.length:Nat):Int))=False:=eq_false (Int.lt_irrefl _);refine XK @t8 @T @U @k3 cx.lX @aV ?_
   have ej:Sl ts ts.els:=by
    obtain ⟨xs,hs,_⟩:=h.g.ts;rw [hs.els];exact hs
   refine aM (fun j e=>∃ t A low o' w,e=⟨129,none,16,t,[],⟨A,low,o'⟩,.no⟩/\t.val 4=.ptr 1 0 0/\t.val 6=.ptr 2 0 0/\t.val 10=.ptr 4 0 0/\t.val 14=.ptr 5 0 0/\t.val 109=aQ C/\t.val 110=.int .i64 (C.length:Nat)/\t.val 111=.int .i64 (j:Nat)/\(∀ id,id<n->id≠5->o'.get id=o.get id)/\o'.get 5=some (aR 0 [v,w,aY us,aY is,no])/\n<=A/\A<=n+3*j/\AccM 1 n w A o' ((aP (eP ts u (C.take j))).map fun x=>[x])/\j<=C.length) (fun j=>C.length-j) 0
    ⟨_,_,_,_,.nils,rfl,aN @Z,aN @t6,aN @G,aN @H,aG,aG,eT,fun _ _ _=>rfl,g5,Nat.le_refl _,aD,.inl ⟨rfl,rfl⟩,Nat.zero_le _⟩ ?_
   clear Z t6 t8 G S H ae T U;rintro j _ ⟨t,A,low,o',w,rfl,Z,t6,G,H,bj,ar,bk,D,ag,ct,cu,J,hj⟩;have dg:=(D 1 aD aD).trans g1;have dh:=(D 2 aD aD).trans g2;have av:=(D 3 aD aD).trans g3;have aw:=(D 4 aD aD).trans g4;have dc:=fX (show 1<A by omega);have dd:=fX (show 2<A by omega);have de:=fX (show 3<A by omega);have df:=fX (show 4<A by omega);have au:=fX (show 5<A by omega)
   have ca:A<1000000000/\A+1<1000000000/\A+1+1<1000000000:=by omega
   rcases Nat.lt_or_ge j C.length with ab | bv
   ·have ck:=List.getElem?_eq_getElem ab
    have dy:=ao _ (List.getElem_mem ab);have ek:=el _ (List.getElem_mem ab)
    have bd:aP (eP ts u (C.take (j+1)))=aP (eP ts u (C.take j))++[.int .i64 ((u.idxOf (aZ ts C[j]):Nat):Int)]:=by
     rw [List.take_add_one,ck,eP,List.map_append,aP,List.map_append];rfl
    generalize C[j]=q at *;obtain ⟨q1,q2⟩:=h.task dy
    have bu:=fun {q:IntKind} {d:Option AV}=>gU (k:=1) q2 rfl (q:=q) (d:=d)
    have cl:=fun {q:IntKind} {d:Option AV}=>gU (k:=1) (cP ck) rfl (q:=q) (d:=d)
    have d7:∀ {B:Nat},alookup Tryz.prog ⟨A,B,o'⟩ 85 (.map 3) (.int .i64 ((aZ ts q:Nat):Int)) false=some (.int .i64 ((u.idxOf (aZ ts q):Nat):Int)):=fun {B}=>by
     rw [IL aPm ((Sto.get_mk (show 3<A by omega)).trans av),cq _ _ (oW ek)];rfl
    have k4:(((j:Nat):Int)<((C.length:Nat):Int))=True:=eq_true aD
    have k5:IntKind.i64.wrap ((j:Int)+1)=((j+1:Nat):Int):=by rw [IntWalk.i64_in _ aD];rfl
    have s1:∀ {a:AV},[AV.int .i64 0].set (0*1) a=[a]:=rfl
    have dp:∀ y∈(aP (eP ts u (C.take j))).map (fun x=>[x]),y.length=1:=fun y V=>by obtain ⟨z,_,rfl⟩:=List.mem_map.1 V;rfl
    have e4:((aP (eP ts u (C.take j))).map fun x=>[x]).length<=j:=by rw [List.length_map,aV,eP,List.length_map,List.length_take];omega
    have al:AccM 1 n w (A+1) (o'.set A (aR 0 [.int .i64 ((u.idxOf (aZ ts q):Nat):Int)])) ((aP (eP ts u (C.take j))).map fun x=>[x]):=J.keepO aD fun id E=>by
     have:=(J.own E).2;rw [Tr.get_set_ne _ _ aD]
    obtain ⟨w',n3,o3,lf,r1,r2,r3,r4,r5,r6,_⟩:=al.app1 (by_:=8) (cs:=[.int .i64 ((u.idxOf (aZ ts q):Nat):Int)]) rfl rfl dp aD aD;have aj:=J.cell;have aq:UnderE (A+1) w:=(AccM.und J).mono aD;have bo:=r2.cell
    have ak:o3.get 5=some (aR 0 [v,w,aY us,aY is,no]):=by
     rw [r5 5 aD (fun e=>by have:=(J.own e).1;omega),Tr.get_set_ne _ _ aD];exact ag
    have bp:=fX (show 5<n3 by omega);have bz:A+1<=n3:=r3;have b1:=hN.cell;simp +contextual +decide (maxSteps:=1000000) only [↓ wP,wQ,tf,Nat.reduceAdd,wS,WI,Z,G,H,bj,ar,bk,dg,aw,ag,dc,de,df,au,gL,k4,cx.idx,cl,ej.idx,bu,d7,aq,r1,bo,ak,bp,bz,s1,k5,AccM.und r2]
    have bq:AccM 1 n w' n3 (o3.set 5 (aR 0 [v,w',aY us,aY is,no])) ((aP (eP ts u (C.take j))).map (fun x=>[x])++[[.int .i64 ((u.idxOf (aZ ts q):Nat):Int)]]):=r2.keepO (Nat.le_refl _) fun id E=>by
     have:=(r2.own E).1;rw [Tr.get_set_ne _ _ aD]
    have ad:∀ id,id<n->id≠5->(o3.set 5 (aR 0 [v,w',aY us,aY is,no])).get id=o.get id:=fun id h1 h2=>by
     rw [Tr.get_set_ne _ _ h2,r5 id aD (fun e=>by have:=(J.own e).1;omega),Tr.get_set_ne _ _ aD];exact D id h1 h2
    exact ⟨j+1,by show _-_<_-_;omega,_,_,_,_,w',rfl,aN @Z,aN @t6,aN @G,aN @H,aN @bj,aN @ar,aG,ad,Tr.get_set_same _ _ _,aD,aD,by rw [bd,List.map_append];exact bq,ab⟩
   ·obtain rfl:j=C.length:=Nat.le_antisymm hj bv
    rw [List.take_length]at J;have k4:(((C.length:Nat):Int)<((C.length:Nat):Int))=False:=eq_false (Int.lt_irrefl _);have b1:=hN.cell;have aj:=J.cell;simp +contextual +decide (maxSteps:=1000000) only [↓ wP,wQ,tf,Nat.reduceAdd,wS,t6,H,ar,bk,k4,dh,ag,dd,au,b1,aj,bg,bf,c4,dK,Option.bind_some]
    have bs:NOb (jF u) 6 v A (o'.set 2 (aR 0 [v,w,aY us,aY is,no])) (u.map fun r=>xo.getD r .top):=hN.keep ct fun id h1 h2=>by rw [Tr.get_set_ne _ _ (by omega)];exact D id h2 (by omega)
    have al:AccM 1 n w A (o'.set 2 (aR 0 [v,w,aY us,aY is,no])) ((aP (eP ts u C)).map fun x=>[x]):=J.keepO (Nat.le_refl _) fun id E=>by
     have:=(J.own E).1;rw [Tr.get_set_ne _ _ (by omega)]
    have u4:=(tu_int _ h.g.no).1
    refine .tuple _ _ rfl fun i x y F V=>?_
    match i with
    | 1=>cases F;cases V;exact .und _ aS
    | _+2=>simp at F
    | 0=>
      cases F;cases V
      refine .agg _ _ rfl fun i x y F V=>?_
      match i with
      | 0=>
        cases F;cases V
        have:=WJ (low:=Nat.min 2 low) bs fun x F=>by
         obtain ⟨r,hr,rfl⟩:=List.mem_map.1 F;have hT:=cf _ (du r (af r hr));obtain ⟨_,_,I,fr,e,⟨O,rfl⟩,⟨Q,rfl⟩,ai,am⟩:=hT;rw [e];obtain ⟨N,R,bt⟩:=am;exact ⟨⟨1,rfl⟩,⟨1,rfl⟩,(tu_vals _ (iT (L:=u) ai)).1,fun f hf=>RH (fun a ha=>iT ha) (bt f (R.els ▸ hf))⟩
        rw [List.map_map]at this;exact this
      | 1=>
        cases F;cases V;rw [sM]
        exact al.frz1 (fun x F=>(dF x F).1) fun x F=>(dF x F).2
      | 2=>cases F;cases V;exact .und _ (dY _ bm).1.und
      | 3=>cases F;cases V;exact .und _ (aT _ bl).1.und
      | 4=>cases F;cases V;exact .und _ u4.und
      | _+5=>simp at F
end
end
end Go.Proofs.YtdipddlhenoglaaGreat
