/-.-/
import Derived.Test.YtafciejiffjknaaGreatOf
set_option maxHeartbeats 4000000
namespace Go
abbrev f2:=@Bool.decide_and
end Go
namespace Go.Proofs.YtafciejiffjknaaGreat
open Go.Abs Go Go.Abs.TryzF Tryz
noncomputable section
set_option maxRecDepth 10000
def wg(os ts us is no:AV):AV:=.agg [os,ts,us,is,no]
structure WG (os ts us is no:AV):Prop where
 os:TSl PJ os
 ts:lY ts
 us:TSl qD us
 is:lY is
 no:dR no
section
variable {os ts us is no:AV}
theorem WG.wd(h:WG os ts us is no):TWd (wg os ts us is no):=⟨_,_,_,_,_,rfl,h.os,h.ts,h.us,h.is,h.no⟩
theorem WG.cells(h:WG os ts us is no):os.isCell=true/\ts.isCell=true/\us.isCell=true/\is.isCell=true/\no.isCell=true:=⟨(pK _ h.os).2,(aV _ h.ts).2,(gP _ h.us).2,(aV _ h.is).2,(tu_int _ h.no).2⟩
theorem WG.und(h:WG os ts us is no):UnderE 0 (wg os ts us is no):=(xA _ h.wd).1
end
abbrev aDm:=TSl aUf
theorem CS:Tu aDm:=jM (BP aJg)
def stg(os ts us is no os' ts' us' is' no' d g:AV):AV:=.agg [os,ts,us,is,no,os',ts',us',is',no',d,g]
structure SG (os ts us is no os' ts' us' is' no' d g:AV):Prop where
 w:WG os ts us is no
 s:WG os' ts' us' is' no'
 d:aDm d
 g:aDm g
section
variable {os ts us is no os' ts' us' is' no' d g:AV}
theorem SG.cells(h:SG os ts us is no os' ts' us' is' no' d g):d.isCell=true/\g.isCell=true:=⟨(CS _ h.d).2,(CS _ h.g).2⟩
theorem SG.und(h:SG os ts us is no os' ts' us' is' no' d g):UnderE 0 (stg os ts us is no os' ts' us' is' no' d g):=by refine cL λx a=>?_;simp only[cp,List.not_mem_nil,eb]at a;rcases a with rfl|rfl|rfl|rfl|rfl|rfl|rfl|rfl|rfl|rfl|rfl|rfl;exact(pK _ h.w.os).1;exact(aV _ h.w.ts).1;exact(gP _ h.w.us).1;exact(aV _ h.w.is).1;exact(tu_int _ h.w.no).1;exact(pK _ h.s.os).1;exact(aV _ h.s.ts).1;exact(gP _ h.s.us).1;exact(aV _ h.s.is).1;exact(tu_int _ h.s.no).1;exact(CS _ h.d).1;exact(CS _ h.g).1
end
def a6s(v:AV):Int × Int:=((v.fld 0).num,(v.fld 1).num)
def eI(a b:List AV):Bool:=decide (a.map a6s=b.map a6s)
theorem KV{k n c e:Int}{a b:List AV}:eI (.agg [.int .i64 k,.int .i64 n]::a) (.agg [.int .i64 c,.int .i64 e]::b)=(decide (k=c/\n=e)&&eI a b):=by simp only[eI,ci,d6];rw[f2];congr 1;exact ej.2 (by simp[a6s,AV.fld,AV.num])
theorem QO{a b:List AV}(h:¬a.length=b.length):eI a b=false:=by simp only[eI,d5];intro e;have:=de List.length e;simp at this;exact h this
theorem bDz{x y:Operand}{k n a b:Int}:pN prog .neq 161 x y (.agg [.int .i64 k,.int .i64 n]) (.agg [.int .i64 a,.int .i64 b])=true:=iv
theorem bBa{k n c e:Int}:IT prog 10000 161 (.agg [.int .i64 k,.int .i64 n]) (.agg [.int .i64 c,.int .i64 e])=some (decide (k=c/\n=e)):=by
 have h:IT prog 10000 161 (.agg [.int .i64 k,.int .i64 n]) (.agg [.int .i64 c,.int .i64 e])=aeqs prog (IT prog 9999) [.int .i64 k,.int .i64 n] [.int .i64 c,.int .i64 e] [(159,0),(3,1)]:=iv
 have l:∀{k c:Int},IT prog 9999 159 (.int .i64 k) (.int .i64 c)=some (lO k c):=by intro _ _;kernel_rfl
 have m:∀{k c:Int},IT prog 9999 3 (.int .i64 k) (.int .i64 c)=some (lO k c):=by intro _ _;kernel_rfl
 have o:∀{k c:AV},nO prog 159 [k,c] 0=some k:=by intro _ _;kernel_rfl
 have p:∀{k c:AV},nO prog 3 [k,c] 1=some c:=by intro _ _;kernel_rfl
 rw[h];simp only[aeqs,l,m,o,p,fL];have f:∀a b:Int,(a==b)=decide (a=b):=λa b=>rfl;rw[f,f,f2];cases decide (k=c)<;>cases decide (n=e)<;>rfl
theorem aSg{x y:Operand}{k n a b:Int}:abin prog .neq 161 x y (.agg [.int .i64 k,.int .i64 n]) (.agg [.int .i64 a,.int .i64 b])=some (.bool (!decide (k=a/\n=b))):=by simp only[abin,bDz,b5,bBa]
abbrev KW:List AV->Option AV:=zN (λa b=>yA a/\yA b) λa b=>.bool (eI a.els b.els)
theorem rsameVals_ok:Abs.Ok prog 54 KW:=ok2 λa b ⟨O,P⟩=>by have F:=(bU a O).1;have G:=(bU b P).1;obtain⟨xs,f,H⟩:=O;obtain⟨q,r,J⟩:=P;rw[f.els,r.els];refine aF (L:=[]) aD aG iv func54 ntmps54 results54 rfl rfl (aA F.und (aA G.und aC)) aI ?_;have c:eI xs q=eI xs q:=rfl;by_cases k0:((xs.length:Nat):Int)=((q.length:Nat):Int);rotate_left;rw[QO aO];exact az3 f.lX r.lX @k0;have k1:xs.length=q.length:=iu;have c:∃W,W=eI xs q:=⟨_,rfl⟩;obtain⟨W,c⟩:=c;rw[<-c];refine UD f.lX r.lX @k0 ?_;refine aN (λi e=>∃t n low o,e=⟨26,none,54,t,[],⟨n,low,o⟩,.no⟩/\t.val 0=a/\t.val 1=b/\t.val 5=.int .i64 (i:Nat)/\0<=n/\i<=xs.length/\W=eI (xs.drop i) (q.drop i)) (λi=>xs.length-i) 0 ⟨_,_,_,_,rfl,aS,aS,oS,aO,μ _,c⟩ ?_;rintro i _ ⟨t,n,low,o,rfl,C,M,N,hn,U,p⟩;rcases Γ i xs.length with w|E;obtain⟨y,u,hm,hg,S,v,X,Q⟩:=cN (λx h=>tk_val.len h) H f.2 w;obtain⟨y',l,V,T,D,m,Y,R⟩:=cN (λx h=>tk_val.len h) J r.2 (iu:i<q.length);have A:=λ{d:Option AV}=>tk_val.pf u (d:=d);have B:=λ{d:Option AV}=>tk_val.pf l (d:=d);obtain⟨_,_,rfl,⟨k,rfl⟩,⟨n',rfl⟩⟩:=u;obtain⟨_,_,rfl,⟨Z,rfl⟩,⟨m',rfl⟩⟩:=l;rw[S,D,KV]at p;by_cases k2:k=Z/\n'=m';rw[Ξ k2,ι]at p;obtain⟨rfl,rfl⟩:=k2;refine GA @C @M @N f.lX f.iX r.iX @v @m @Q @A @aSg @X ?_;exact⟨i+1,by show _-_<_-_;omega,_,_,_,_,rfl,bR @C,bR @M,aS,aO,w,p⟩;rw[φ k2,θ]at p;exact UI @C @M @N f.lX f.iX r.iX @v @m @Q @A @B @aSg @k2 @p;obtain rfl:i=xs.length:=bq U E;rw[b6,k1,b6]at p;rw[show eI [] []=true from rfl]at p;exact az5 @C @N f.lX @cQ @p
def QP(f g:AV):Bool:=decide ((f.fld 0).num=(g.fld 0).num)&&(eI (f.fld 1).els (g.fld 1).els&&eI (f.fld 2).els (g.fld 2).els)
def pF:List AV->List AV->Bool|[],[]=>true|f::l,g::m=>QP f g&&pF l m|_,_=>false
theorem KX:∀{a b:List AV},¬a.length=b.length->pF a b=false|[],[],h=>absurd rfl h|_::_,[],_=>rfl|[],_::_,_=>rfl|x::l,y::m,h=>by rw[pF,KX (a:=l) (b:=m) (λe=>h (by simp[e])),bu]
def wX(a b:AV):Bool:=decide ((a.fld 0).num=(b.fld 0).num)&&(decide ((a.fld 1).num=(b.fld 1).num)&&(eI (a.fld 2).els (b.fld 2).els&&pF (a.fld 3).els (b.fld 3).els))
abbrev aDn:List AV->Option AV:=zN (λa b=>PJ a/\PJ b) λa b=>.bool (wX a b)
theorem rsameObj_ok:Abs.Ok prog 26 aDn:=ok2 λa b ⟨ha,hb⟩=>by have ag:=(tk_ob a ha).1;have ah:=(tk_ob b hb).1;obtain⟨_,_,U,fr,rfl,⟨k,rfl⟩,⟨Z,rfl⟩,ad,ab⟩:=ha;obtain⟨_,_,l,T,rfl,⟨k',rfl⟩,⟨M,rfl⟩,R,Q⟩:=hb;have cv:=(bU _ ad).2;have cf:=(nQ _ ab).2;have A:=(bU _ R).2;have w:=(nQ _ Q).2;have hv:KW [U,l]=some (.bool (eI U.els l.els)):=sg2_eq ⟨ad,R⟩;obtain⟨S,v,ai⟩:=ab;obtain⟨yr,f,aj⟩:=Q;refine aF (L:=[ent 54 KW]) (elist_cons rsameVals_ok.ent aD) (λr=>([],[1000])) iv func26 ntmps26 results26 rfl rfl (aA ag.und (aA ah.und aC)) aI ?_;have c:wX (.agg [.int .i64 k,.int .i64 Z,U,fr]) (.agg [.int .i64 k',.int .i64 M,l,T])=(decide (k=k')&&(decide (Z=M)&&(eI U.els l.els&&pF S yr))):=by{rw[<-v.els,<-f.els];rfl};generalize wX (.agg [.int .i64 k,.int .i64 Z,U,fr]) (.agg [.int .i64 k',.int .i64 M,l,T])=W at *;by_cases k1:k=k';rotate_left;rw[φ k1,θ]at c;exact az6 @cv @cf @A @w @k1 @c;rw[Ξ k1,ι]at c;subst k1;by_cases k2:Z=M;rotate_left;rw[φ k2,θ]at c;exact az6 @cv @cf @A @w @k2 @c;rw[Ξ k2,ι]at c;subst k2;cases k3:eI U.els l.els with|false=>rw[k3,θ]at c;exact az7 @cv @cf @A @w @hv @k3 @c|true=>rw[k3,ι]at c;by_cases k4:((S.length:Nat):Int)=((yr.length:Nat):Int);rotate_left;rw[KX aO]at c;exact UG @cv @cf @A @w @hv @k3 v.lX f.lX @k4 @c;have k5:S.length=yr.length:=iu;refine ap9 @cv @cf @A @w @hv @k3 v.lX f.lX @k4 ?_;refine aN (λi e=>∃t n low o,e=⟨75,none,26,t,[],⟨n,low,o⟩,.no⟩/\t.val 2=.ptr 0 0 0/\t.val 3=.ptr 1 0 0/\t.val 5=.int .i64 (i:Nat)/\o.get 0=some (aR 0 [.int .i64 k,.int .i64 Z,U,fr])/\o.get 1=some (aR 0 [.int .i64 k,.int .i64 Z,l,T])/\2<=n/\i<=S.length/\W=pF (S.drop i) (yr.drop i)) (λi=>S.length-i) 0 ⟨_,_,_,_,rfl,aS,aS,oS,xZ,aS,aO,μ _,c⟩ ?_;rintro i _ ⟨t,n,low,o,rfl,t2,t3,t5,X,g1,hn,hi,u⟩;have V:=aY (show 0<n by omega);have f1:=aY (show 1<n by omega);rcases Γ i S.length with ac|af;{obtain⟨y,aa,hm,hg,hd,H,hw,hc⟩:=cN (λx h=>tk_fr.len h) ai v.2 ac;obtain⟨y',P,am,al,ae,p,an,ak⟩:=cN (λx h=>tk_fr.len h) aj f.2 (iu:i<yr.length);have J:=λ{d:Option AV}=>tk_fr.pf aa (d:=d);have q:=λ{d:Option AV}=>tk_fr.pf P (d:=d);obtain⟨_,p1,p2,rfl,⟨m,rfl⟩,e1,e2⟩:=aa;obtain⟨_,B,C,rfl,⟨m',rfl⟩,F,G⟩:=P;have s1:=λ{Y:Nat->Prop}=>e1.choose_spec.1.stab (Y:=Y);have s2:=λ{Y:Nat->Prop}=>e2.choose_spec.1.stab (Y:=Y);have ao:=λ{Y:Nat->Prop}=>F.choose_spec.1.stab (Y:=Y);have ap:=λ{Y:Nat->Prop}=>G.choose_spec.1.stab (Y:=Y);have u1:=λ{m:Nat}=>(bU _ e1).1.mono (μ m);have d1:=(bU _ e1).2;have u2:=λ{m:Nat}=>(bU _ e2).1.mono (μ m);have d2:=(bU _ e2).2;have N:=λ{m:Nat}=>(bU _ F).1.mono (μ m);have D:=(bU _ F).2;have O:=λ{m:Nat}=>(bU _ G).1.mono (μ m);have E:=(bU _ G).2;have v1:KW [p1,B]=some (.bool (eI p1.els B.els)):=sg2_eq ⟨e1,F⟩;have v2:KW [p2,C]=some (.bool (eI p2.els C.els)):=sg2_eq ⟨e2,G⟩;rw[hd,ae,pF,show QP (.agg [.int .i64 m,p1,p2]) (.agg [.int .i64 m',B,C])=(decide (m=m')&&(eI p1.els B.els&&eI p2.els C.els))from rfl]at u;by_cases j1:m=m';rotate_left;rw[φ j1,θ,θ]at u;simp+contextual+decide(maxSteps:=9^9)only[↓wP,wQ,tf,Nat.reduceAdd,wS,t2,t3,t5,X,g1,V,f1,v.len,v.idx,f.idx,H,p,hc,J,q,d1,d2,D,E,u1,u2,N,O,cX,j1,u];rw[Ξ j1,ι]at u;subst j1;cases j2:eI p1.els B.els with|false=>rw[j2,θ,θ]at u;simp+contextual+decide(maxSteps:=9^9)only[↓wP,wQ,tf,Nat.reduceAdd,wS,t2,t3,t5,X,g1,V,f1,v.len,v.idx,f.idx,H,p,hc,J,q,d1,d2,D,E,u1,u2,N,O,cX,v1,j2,u]|true=>rw[j2,ι]at u;cases j3:eI p2.els C.els with|false=>rw[j3,θ]at u;simp+contextual+decide(maxSteps:=9^9)only[↓wP,wQ,tf,Nat.reduceAdd,wS,t2,t3,t5,X,g1,V,f1,v.len,v.idx,f.idx,H,p,hc,J,q,d1,d2,D,E,u1,u2,N,O,cX,v1,j2,v2,j3,u]|true=>rw[j3,ι]at u;simp+contextual+decide(maxSteps:=9^9)only[↓wP,wQ,tf,Nat.reduceAdd,wS,t2,t3,t5,X,g1,V,f1,v.len,v.idx,f.idx,H,p,hc,J,q,d1,d2,D,E,u1,u2,N,O,cX,v1,j2,v2,j3,hw];exact⟨i+1,by show _-_<_-_;omega,_,_,_,_,rfl,bR @t2,bR @t3,aS,BN @X @V,BN @g1 @f1,aO,ac,u⟩};obtain rfl:i=S.length:=bq hi af;rw[b6,k5,b6,pF]at u;exact az7 @t2 @t5 @X @V v.lX @cQ @u
def bBb:AV:=.agg [.int .i64 0,.int .i64 0,.nils,.nils]
def bBc(o:AV):Bool:=wX o bBb
