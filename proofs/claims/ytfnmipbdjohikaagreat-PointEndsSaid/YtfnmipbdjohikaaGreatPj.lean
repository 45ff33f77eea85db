/- Lemmas. -/
import Derived.Test.YtfnmipbdjohikaaGreatPa
set_option linter.unusedVariables false
set_option maxHeartbeats 4000000
namespace Go.Abs
noncomputable section
def jF(K:Nat):Nat:=2000+K
theorem aIa{K i t:Nat}{l:List Nat}(hi:i<2000):(1000::jF K::t::l).elem i=(1000::2000::t::l).elem i:=by
 have b:(i==jF K)=false:=by simp[jF];omega
 have c:(i==2000)=false:=by simp;omega
 simp only[List.elem_cons,b,c]
theorem gD{qs:List Nat}{K i t:Nat}{l:List Nat}{op:Op}(hi:i<2000):eC qs (1000::jF K::t::l) i op=eC qs (1000::2000::t::l) i op:=by unfold eC;rw[aIa hi]
theorem GI{qs d:List Nat}{K t:Nat}{l:List Nat}:∀(ops:List Oper)(i:Nat),i+ops.length<=2000->yC qs (1000::jF K::t::l) d ops i=yC qs (1000::2000::t::l) d ops i|[],_,_=>rfl|o::rest,i,h=>by rw[cj]at h;rw[yC,yC,GI rest (i+1) il,gD il];congr 1;rw[ay,μ,μ];have e:∀q∈rest.zipIdx (i+1),q.2<2000:=λq b=>by{have:=List.snd_lt_of_mem_zipIdx b;omega};exact⟨λc q b=>by have:=c q b;rw[gD (e q b)]at this;exact this,λc q b=>by have:=c q b;rw[gD (e q b)];exact this⟩
theorem qN{qs:List Nat}{K t:Nat}{l:List Nat}{ops:List Oper}(h:Nat.ble ops.length 2000=true):sOk qs (1000::jF K::t::l) ops=sOk qs (1000::2000::t::l) ops:=by rw[sOk,sOk,GI ops 0 (by have:=aq h;omega)]
theorem fJ{n K:Nat}:rC n (jF K-2000)=rC n K:=by rw[jF,Nat.add_sub_cancel_left]
end
end Go.Abs
namespace Go.Proofs.YtfnmipbdjohikaaGreat
open Go.Abs Go Go.Abs.TryzF Tryz
noncomputable section
set_option maxRecDepth 10000
def aYi(args:List AV)(s:Sto)(res:CRes):Prop:=∃a S v,args=[a]/\res=.ret v (some S)/\bR prog 93 args s res/\Nat.min s.low s.n<=S.low/\Sim s S/\AccM 4 s.n v S.n S.o ((a.els.map bZ).map AV.cells)
theorem aAc{a:AV}(l:TSl mS a)(b:a.els.length<=1000)(d:∀o∈a.els,EW o)(s:Sto):∃res,aYi [a] s res:=by obtain⟨S,v,⟨f,e,h⟩,k⟩:=VE l b d s;refine⟨_,a,_,v,rfl,rfl,k,?_,⟨e.1,λid c=>e.2 id c⟩,h⟩;exact dq.2 ⟨dc _ _,cy (di _ _) f⟩
abbrev AI:List iA:=[jK 93 aYi,ent 94 lH,ent 95 pR]
theorem aNl:∀x∈AI,cH prog x:=elist_cons (eY λ_ _ _ h=>by obtain⟨_,_,_,_,_,h,_⟩:=h;exact h) (elist_cons cloneI_ok.ent (elist_cons cloneO_ok.ent aF))
theorem a6o{n K:Nat}:nD [1000,jF K,15] n=rC n K/\(∀{i:Nat},rD [1000,jF K,15] i n=rC n K):=⟨fJ,fJ⟩
theorem aNm{os ts us is no:AV}(U:WG os ts us is no)(C:SmW (wg os ts us is no))(s:Sto):∃S v,(s.n<=S.low/\Sim s S/\∃l,v=.agg [l,aD ts,aD us,aD is,no]/\AccM 4 s.n l S.n S.o ((os.els.map bZ).map AV.cells))/\bR prog 51 [wg os ts us is no] s (.ret v (some {S with low:=Nat.min s.low S.low})):=by
 obtain⟨⟨s1,s2⟩,s3,s4,s5⟩:=C;obtain⟨X,Y,Z,c4,c5⟩:=U.cells;obtain⟨M,N,Q,R,h5⟩:=U;have e2:∀S,aW AI 94 [ts] S=some (.ret (aD ts) none):=λS=>by rw[AI,cB iq];have:lH [ts]=some (aD ts):=bY ⟨N,s3⟩;simp[aW,ent,this]<;>rfl
 have e3:∀S,aW AI 95 [us] S=some (.ret (aD us) none):=λS=>by rw[AI,cB iq];have:pR [us]=some (aD us):=bY ⟨Q,s4⟩;simp[aW,ent,this]<;>rfl
 have e4:∀S,aW AI 94 [is] S=some (.ret (aD is) none):=λS=>by rw[AI,cB iq];have:lH [is]=some (aD is):=bY ⟨R,s5⟩;simp[aW,ent,this]<;>rfl
 have u0:=λ{m:Nat}=>(eT _ M).1.mono (γ m);have k2:=(aL _ (aT N));have k3:=(bX _ (aT Q));have k4:=(aL _ (aT R));have u2:=λ{m:Nat}=>k2.1.mono (γ m);have u3:=λ{m:Nat}=>k3.1.mono (γ m);have u4:=λ{m:Nat}=>k4.1.mono (γ m);have u5:=λ{m:Nat}=>(tu_int _ h5).1.mono (γ m);obtain⟨n0,V,F⟩:=s;refine kC (L:=AI) aNl (λ_=>([5,8,11],[1000,jF (n0+1),15])) im func51 ntmps51 results51 rfl rfl ?_;obtain⟨_,⟨_,⟨d,c,G⟩,l,ea,rfl,_,hl,⟨B,e⟩,b⟩,T⟩:=xC (f:=93) (L:=[ent 94 lH,ent 95 pR]) (aAc M s1 s2 ⟨n0+1+1,n0,(F.set n0 (aP 0 [os,ts,us,is,no])).set (n0+1) (aP 0 [.nils,.nils,.nils,.nils,.int .i64 0])⟩);cases ea
 unfold wg;have w:aW AI 93 [os] ⟨n0+1+1,n0,(F.set n0 (aP 0 [os,ts,us,is,no])).set (n0+1) (aP 0 [.nils,.nils,.nils,.nils,.int .i64 0])⟩=_:=T;clear T;have q:n0+1+1<=d:=B;have r:G.get n0=some (aP 0 [os,ts,us,is,no]):=by have:=e n0 (show n0<n0+1+1 by omega);rw[g8 (show n0<d by omega),g8 (show n0<n0+1+1 by omega)]at this;rw[this];exact by simp+decide only[↓aB,bC,ne_eq,dT]
 have u:G.get (n0+1)=some (aP 0 [.nils,.nils,.nils,.nils,.int .i64 0]):=by have:=e (n0+1) (show n0+1<n0+1+1 by omega);rw[g8 (show n0+1<d by omega),g8 (show n0+1<n0+1+1 by omega)]at this;rw[this];exact io
 have y:oD (rC (n0+1+1) (n0+1)) ⟨n0+1+1,n0,(F.set n0 (aP 0 [os,ts,us,is,no])).set (n0+1) (aP 0 [.nils,.nils,.nils,.nils,.int .i64 0])⟩ ⟨d,c,G⟩:=λid k=>e id (du k (dc _ _));have f0:n0<d/\n0+1<d:=il
 have E:l.isCell=true:=by rcases b with⟨_,rfl⟩|⟨_,id,g,rfl,_⟩<;>rfl
 have D:UnderE d l:=by rcases b with⟨_,rfl⟩|⟨_,id,g,rfl,_,h,_⟩;exact⟨1,rfl⟩;exact⟨1,by simpa[AV.under]using h⟩
 generalize aa:AI=LL at *;simp+contextual+decide(maxSteps:=1000000)only[↓wP,wQ,tf,Nat.reduceAdd,wS,X,Y,Z,c4,c5,e2,e3,e4,w,u0,u2,u3,u4,u5,k2.2,k3.2,k4.2,fJ,qN,gD,q,r,u,y,f0,E,D,dT,aY,dw];have ab:Nat.min n0 (n0+1+1)<=c:=hl;have A:n0<=c:=by have:Nat.min n0 (n0+1+1)=n0:=Nat.min_eq_left il;omega
 refine⟨dq.2 ⟨il,A⟩,⟨by show n0<=d;omega,λid k=>?_⟩,l,rfl,?_⟩;have p:id<n0:=k;have:=e id (show id<n0+1+1 by omega);rw[g8 (show id<d by omega),g8 (show id<n0+1+1 by omega)]at this;rw[g8 (show id<d by omega),g8 p,g7 _ _ il,this,g7 _ _ il,g7 _ _ il];rcases b with⟨J,rfl⟩|⟨J,id,g,rfl,q2,q3,q4⟩;exact .inl ⟨J,rfl⟩;have ac:n0+1+1<=id:=q4;exact .inr ⟨J,id,g,rfl,by rw[g7 _ _ il];exact q2,q3,il⟩
def kJ:AV:=.iface 119 (.agg [])
def UW(args:List AV)(_s:Sto)(res:CRes):Prop:=∃b:Bool,args=[.bool b]/\res=(if b=true then .ret (.tuple []) none else .pan kJ none)
theorem aFc:ifK prog 119=true:=im
theorem tK{n:Nat}:Und n kJ:=(mW (eV (λx b=>nomatch b)):UnderE n kJ).und
theorem JH(args:List AV)(s:Sto)(res:CRes)(h:UW args s res):bR prog 59 args s res:=by obtain⟨b,rfl,rfl⟩:=h;refine KF (L:=[]) aF aI im func59 ntmps59 results59 rfl rfl ?_;cases b with|true=>simp+contextual+decide(maxSteps:=1000000)only[↓wP,wQ,wS,reduceCtorEq];exact⟨_,_,rfl,cJ (κ _) (cI λx c=>nomatch c)⟩|false=>simp+contextual+decide(maxSteps:=1000000)only[↓wP,wQ,tf,wS,reduceCtorEq,WB,ID aFc,aIw,a0r];refine⟨kJ,none,rfl,?_⟩;exact cJ (S:=⟨s.n,s.n,s.o⟩) (κ s.n) tK
theorem UX{b:Bool}{s:Sto}{L:List iA}:aW (jK 59 UW::L) 59 [.bool b] s=some (if b=true then .ret (.tuple []) none else .pan kJ none):=entS_same ⟨b,rfl,rfl⟩ λc ⟨b',e,d⟩=>by cases e;exact d
end
end Go.Proofs.YtfnmipbdjohikaaGreat
namespace Go.Abs
noncomputable section
def StN(lo hi:Nat)(s:Sto)(a:AV)(xs:List AV):Prop:=(a=.nils/\xs=[])∨∃id g c,a=.sl id g 0 xs.length c/\s.get id=some (aP g (xs.map AV.cells).flatten)/\lo<=id/\id<hi
section
variable {lo hi:Nat} {s:Sto} {a:AV} {xs:List AV}
theorem StN.len(h:StN lo hi s a xs){s':Sto}{d:Option ORes}:HK (some 1) s' a d=some (.val (.int .i64 (xs.length:Nat))):=by rcases h with⟨rfl,rfl⟩|⟨id,g,c,rfl,_,_⟩<;>rfl
theorem StN.cell(h:StN lo hi s a xs):a.isCell=true:=by rcases h with⟨rfl,rfl⟩|⟨id,g,c,rfl,_,_⟩<;>rfl
theorem StN.under(h:StN lo hi s a xs):UnderE s.n a:=by rcases h with⟨rfl,_⟩|⟨id,g,c,rfl,h,_⟩;exact⟨1,rfl⟩;exact⟨1,by simpa[AV.under]using g9 h⟩
theorem StN.le{d b:Nat}(h:StN lo hi s a xs)(m:d<=lo)(l:hi<=b):StN d b s a xs:=by rcases h with h|⟨id,g,c,f,k,e⟩;exact .inl h;exact .inr ⟨id,g,c,f,k,cy m e.1,du e.2 l⟩
theorem StN.sim(h:StN lo hi s a xs){s':Sto}(f:Sim s s'):StN lo hi s' a xs:=by rcases h with h|⟨id,g,c,b,d,e⟩;exact .inl h;exact .inr ⟨id,g,c,b,f.get d,e⟩
theorem StN.keep(h:StN lo hi s a xs){s':Sto}(f:∀id,id<s.n->lo<=id->id<hi->s'.get id=s.get id):StN lo hi s' a xs:=by rcases h with h|⟨id,g,c,e,d,b⟩;exact .inl h;exact .inr ⟨id,g,c,e,by rw[f id (g9 d) b.1 b.2];exact d,b⟩
theorem _root_.Go.iv{p:Prop}(h:p:=by rw [ρ]):p:=h
theorem hG{k n low:Nat}{o:Tr AObj}(h:AccM k lo a n o (xs.map AV.cells)):StN lo n ⟨n,low,o⟩ a xs:=by rcases h with⟨b,rfl⟩|⟨_,id,g,rfl,b,c,d⟩;exact .inl ⟨rfl,List.map_eq_nil_iff.1 b⟩;exact .inr ⟨id,g,.room k,iv,by rw[g8 c];exact b,d,c⟩
theorem StN.at_(h:StN lo hi s a xs){i:Nat}(b:i<xs.length):∃id g c,a=.sl id g 0 xs.length c/\s.get id=some (aP g (xs.map AV.cells).flatten)/\lo<=id/\id<hi/\id<s.n:=by rcases h with⟨_,rfl⟩|⟨id,g,c,f,d,e⟩;simp at b;exact⟨id,g,c,f,d,e.1,e.2,g9 d⟩
theorem wW{k:Nat}(c:∀x∈xs,x.cells.length=k){i:Nat}{x:AV}(b:xs[i]?=some x):aS (xs.map AV.cells).flatten (i*k) k=x.cells/\i*k+k<=(xs.map AV.cells).flatten.length:=by induction xs generalizing i with|nil=>simp at b|cons y l h=>have d:=c y (ψ ..);cases i with|zero=>simp only[List.getElem?_cons_zero,Ω]at b;subst b;rw[cu,bc,aS,ax,c8,eu il,ck il,ι];exact⟨rfl,il⟩|succ i=>simp only[gc]at b;obtain⟨e,m⟩:=h (λz f=>c z (ν _ f)) b;rw[cu,bc,aS,ap,e1 (i*k) k,<-d,<-gb,List.drop_left,ι,d];exact⟨e,il⟩
theorem dH(h:∀x∈xs,x.isCell=true):(xs.map AV.cells).flatten=xs:=by rw[<-fg];exact VD h
theorem QM{k:Nat}(c:∀x∈xs,x.cells.length=k){i:Nat}(hi:i<xs.length){x:AV}(f:x.cells.length=k):cG (xs.map AV.cells).flatten (i*k) x.cells=((xs.set i x).map AV.cells).flatten:=by induction xs generalizing i with|nil=>simp at hi|cons y l o=>have h:=c y (ψ ..);cases i with|zero=>rw[List.set_cons_zero,cu,cu,bc,bc,cG,ax,List.take_zero,cq,φ,f,<-h,List.drop_left]|succ i=>have b:=o (λz m=>c z (ν _ m)) (show i<l.length by simpa using hi);rw[List.set_cons_succ,cu,cu,bc,bc,<-b];have d:List.take (k+i*k) (y.cells++(l.map AV.cells).flatten)=y.cells++List.take (i*k) (l.map AV.cells).flatten:=by{rw[List.take_append,ck (show y.cells.length<=k+i*k by omega),show k+i*k-y.cells.length=i*k by omega]};have e:List.drop (k+i*k+x.cells.length) (y.cells++(l.map AV.cells).flatten)=List.drop (i*k+x.cells.length) (l.map AV.cells).flatten:=by{rw[List.drop_append,List.drop_of_length_le (show y.cells.length<=k+i*k+x.cells.length by omega),cq,show k+i*k+x.cells.length-y.cells.length=i*k+x.cells.length by omega]};rw[cG,cG,ap,e1 (i*k) k,d,e];simp only[cm]
end
end
end Go.Abs
namespace Go.Proofs.YtfnmipbdjohikaaGreat
open Go.Abs Go Go.Abs.TryzF Tryz
noncomputable section
set_option maxRecDepth 10000
def aYj(a:AV)(s S:Sto)(v:AV):Prop:=s.n<=S.low/\Sim s S/\StN s.n S.n S v a.els
theorem aAd{a:AV}(C:mO a)(u:a.els.length<=1000)(s:Sto):∃S v,aYj a s S v/\bR prog 60 [a] s (.ret v (some {S with low:=Nat.min s.low S.low})):=by
 obtain⟨xs,B,m⟩:=C;unfold aYj;rw[B.els]at u ⊢;refine kC (L:=[]) aF aI im func60 ntmps60 results60 rfl rfl ?_;obtain⟨n0,f,q⟩:=s;rcases B.1 with⟨rfl,rfl⟩|⟨c,rfl⟩;simp+contextual+decide(maxSteps:=1000000)only[↓wP,wQ,wS,a0e];exact⟨⟨κ _,λid e=>rfl⟩,.inl ⟨rfl,rfl⟩⟩;have b:∀x∈xs,x.cells.length=1/\x.cells.all AV.isCell=true:=λx o=>by rw[fF (tu_bool x (m x o)).2];exact⟨rfl,by simp[(tu_bool x (m x o)).2]⟩
 have D:∀x∈xs,x.isCell=true:=λx o=>(tu_bool x (m x o)).2;have p:=λ{s:Sto}=>SH (s:=s) (c:=c) b;have r:(xs.flatMap AV.cells).all AV.isCell=true:=μ.2 λy p=>by obtain⟨x,o,p⟩:=bj.1 p;exact μ.1 (b x o).2 y p
 have w:∀{low:Nat}{x y:AObj},Sim ⟨n0,f,q⟩ ⟨n0+1+1,low,(q.set n0 x).set (n0+1) y⟩:=λ{low x y}=>⟨show n0<=n0+1+1 by omega,λid e=>by have d:id<n0:=e;rw[g8 (show id<n0+1+1 by omega),g8 d,g7 _ _ il,g7 _ _ il]⟩;have l:∀{low:Nat}{x y:AObj},Sim ⟨n0,f,q⟩ ⟨n0+1,low,(q.set n0 x).set n0 y⟩:=λ{low x y}=>⟨show n0<=n0+1 by omega,λid e=>by have d:id<n0:=e;rw[g8 (show id<n0+1 by omega),g8 d,g7 _ _ il,g7 _ _ il]⟩;by_cases A:xs.length=0;have:xs=[]:=db.1 A;subst this;have h:=BI (s:=⟨n0+1,n0,q.set n0 (aP 0 [])⟩) (k:=1) (by_:=1) (id:=n0) (by rw[g8 (d5 n0)];exact hE _ _ _);simp+contextual+decide(maxSteps:=1000000)only[↓wP,wQ,tf,wS,aYm,p,h,List.flatMap_nil,dT]
 refine⟨dq.2 ⟨κ _,κ _⟩,l,.inr ⟨n0,0,.is 0,rfl,?_,κ _,d5 _⟩⟩;rw[g8 (d5 n0)];exact hE _ _ _;have h:=EX (s:=⟨n0+1,n0,q.set n0 (aP 0 [])⟩) (k:=1) (by_:=1) (id:=n0) (n:=xs.length) (new:=xs.flatMap AV.cells) (by rw[g8 (d5 n0)];exact hE _ _ _) A il r;simp+contextual+decide(maxSteps:=1000000)only[↓wP,wQ,tf,wS,aYm,p,h,dT];refine⟨w,.inr ⟨n0+1,0,.room 1,rfl,?_,ej _,d5 _⟩⟩;rw[g8 (d5 _),<-fg];exact hE _ _ _
def aAe(args:List AV)(s:Sto)(res:CRes):Prop:=∃a S v,args=[a]/\res=.ret v (some S)/\bR prog 60 args s res/\Nat.min s.low s.n<=S.low/\Sim s S/\StN s.n S.n S v a.els
theorem UY{a:AV}(k:mO a)(b:a.els.length<=1000)(s:Sto):∃res,aAe [a] s res:=by obtain⟨S,v,⟨e,d,f⟩,h⟩:=aAd k b s;refine⟨_,a,_,v,rfl,rfl,h,?_,⟨d.1,λid c=>d.2 id c⟩,f.keep λ_ _ _ _=>rfl⟩;exact dq.2 ⟨dc _ _,cy (di _ _) e⟩
theorem QN{a:AV}{xs:List AV}{lo hi:Nat}(s:Sto)(V:StN lo hi s a xs)(G:∀x∈xs,mS x)(ah:xs.length<=1000)(ag:∀o∈xs,EW o):∃S v,(s.n<=S.low/\Sim s S/\AccM 4 s.n v S.n S.o ((xs.map bZ).map AV.cells))/\bR prog 93 [a] s (.ret v (some {S with low:=Nat.min s.low S.low})):=by
 have f:=λ{s':Sto}{d:Option ORes}=>V.len (s':=s') (d:=d);have F:=V.cell;refine kC (L:=[ent 101 mM]) (elist_cons copied_ok.ent aF) aI im func93 ntmps93 results93 rfl rfl ?_;obtain⟨n0,ai,o0⟩:=s;simp+contextual+decide(maxSteps:=1000000)only[↓wP,wQ,tf,wS,f];refine aO (λi e=>∃t n low o v,e=⟨19,none,93,t,[],⟨n,low,o⟩,.no⟩/\t.val 3=v/\t.val 6=a/\t.val 7=.int .i64 (xs.length:Nat)/\t.val 8=.int .i64 (i:Nat)/\i<=xs.length/\n0<=low/\n0<=n/\(∀id,id<n0->o.get id=o0.get id)/\AccM 4 n0 v n o (((xs.take i).map bZ).map AV.cells)) (λi=>xs.length-i) 0 ⟨_,_,_,_,_,rfl,io,io,io,by simp+decide only[↓aB];rfl,γ _,κ _,κ _,λ_ _=>rfl,.inl ⟨rfl,rfl⟩⟩ ?_;rintro i _ ⟨t,n,low,o,v,rfl,t3,X,U,t8,hi,C,N,b,c⟩
 rcases ω i xs.length with q|ac;obtain⟨x,E,hm,hg,hd,aj,hw,hc⟩:=bL (λx h=>tk_ob.len h) G (show xs.length<=9223372036854775807 by omega) q;obtain⟨ia,ga,ca,rfl,p,_,_,Z⟩:=V.at_ q;obtain⟨l,Q⟩:=wW (λx hx=>tk_ob.len (G x hx)) hg;have D:ia<n0:=Z;rw[g8 D]at p;rw[<-b ia D]at p;have fa:=bQ (du D N);have k4:(0<=((i:Nat):Int))=True:=d9 il;clear V f F;generalize(xs.map AV.cells).flatten=Ra at *;have he:mM [x]=some (bZ x):=bY ⟨E,ag x hm⟩;have af:=kU tk_ob (xs:=(xs.take i).map bZ) λx hx=>by obtain⟨y,hy,rfl⟩:=cw.1 hx;exact cS (G y (da hy))
 have u:((xs.take (i+1)).map bZ).map AV.cells=((xs.take i).map bZ).map AV.cells++[(bZ x).cells]:=by rw[dk,hg];simp
 obtain⟨_,J,aa,A,T⟩:=tk_ob _ (cS E);rw[aa]at he u;rw[show(AV.agg J).cells=J from rfl]at u;obtain⟨ys,rfl,w,R⟩:=(tk_ob x E).2;rw[show(AV.agg ys).cells=ys from rfl]at l;have hz:0+4<=ys.length:=il
 have ak:0+4<=J.length:=il
 have r:(2*((((xs.take i).map bZ).map AV.cells).length+1)+1024)*64<=281474976710656/\(((xs.take i).map bZ).map AV.cells).length+1<4611686018427387904:=by simp;omega
 have ab:(((xs.take i).map bZ).map AV.cells).flatten.length=(((xs.take i).map bZ).map AV.cells).length*4:=fX _ af;generalize((xs.take i).map bZ).map AV.cells=L at *;have k:∀id,n0<=id->n0<=Nat.min id low:=λid h=>dq.2 ⟨h,C⟩;rcases c with⟨hL,rfl⟩|⟨hL,id,g,rfl,ad,M,ae⟩;simp+contextual+decide(maxSteps:=1000000)only[↓wP,wQ,tf,Nat.reduceAdd,wS,t3,X,U,t8,p,fa,k4,hc,l,Q,Ξ,w,R,bU w,he,A,T,bU A,dT,hw,Nat.reduceMul,φ];refine⟨i+1,by show _-_<_-_;omega,_,_,_,_,.sl (n+1+1) 0 0 1 (.room 4),rfl,io,ih @X,ih @U,io,q,k _ N,il,λid h=>?_,?_⟩;have Y:=bQ (show id<n by omega);simp+decide only[↓aB,Y,ne_eq];exact b id h;rw[u,hL];refine AccM.new (g:=0) (m:=1) ?_ rfl ip il il
 rw[show(([]:List (List AV))++[J]).flatten=J by simp];exact io
 have f3:=bQ M;simp+contextual+decide(maxSteps:=1000000)only[↓wP,wQ,tf,Nat.reduceAdd,wS,t3,X,U,t8,p,fa,k4,hc,l,Q,Ξ,w,R,bU w,he,A,T,bU A,dT,f3,ad,r,ab,hw,Nat.reduceMul,φ];refine⟨i+1,by show _-_<_-_;omega,_,_,_,_,.sl id (g+1) 0 (L.length+1) (.room 4),rfl,io,ih @X,ih @U,io,q,?_,il,λB h=>?_,?_⟩;exact dq.2 ⟨ae,k _ N⟩;have Y:=bQ (show B<n by omega);have f8:B≠id/\id≠B:=il
 simp+decide only[↓aB,Y,f8,ne_eq];exact b B h;rw[u];refine AccM.new (g:=g+1) ?_ ip ip il il;rw[d6,show[J].flatten=J by simp];exact io
 obtain rfl:i=xs.length:=dt hi ac;rw[cx]at c;simp+contextual+decide(maxSteps:=1000000)only[↓wP,wQ,wS,t3,U,t8,bP];refine⟨C,⟨N,λid h=>?_⟩,c⟩;rw[g8 (du h N),g8 h];exact b id h
end
end Go.Proofs.YtfnmipbdjohikaaGreat
namespace Go.Abs
noncomputable section
variable {P:Program} {O:bW} {H:dZ}
theorem UZ{s:Sto}{d:Nat}(h:s.get d=some (.defs (some []))):pV s [.collected d]=some (s.put d (.defs none)):=by simp only[pV,h]
def a5w(P:Program)(c:List ResultVar)(R:Sto->AV->Prop)(b:Ex)(e:Env):Prop:=match b with| .normal| .ret=>e.r=.no/\∃S,pV e.s e.ds=some S/\AM (bA P {e with ds:=[],s:=S} c) R S|_=>False
theorem aIb{L:List iA}(A:∀x∈L,cH P x)(H:dZ){f:FuncId}{fn:Func}{c:Code}{N:Nat}{m:List ResultVar}{args:List AV}{s:Sto}{v:AV}(k:okFn P f=true)(D:P.funcs[f]?=some fn)(V:fn.ntmps=N)(X:fn.results=m.toArray)(B:fn.body=some c)(T:Nat.ble args.length N=true)(h:Wk P (aW L) H c ⟨N,none,f,Tr.leaf.lay 0 args,[],⟨s.n,s.n,s.o⟩,.no⟩ (a5w P m λS r=>(∀id,id<s.n->S.get id=s.get id)/\Frz S s.n r v)):∃low,bR P f args s (.ret v (some ⟨s.n,low,s.o⟩)):=by
 have E:=h.sound;rw[<-jU V T]at E;obtain⟨n,G,e,C,p⟩:=E;have u:fn.results.toList=m:=by rw[X]
 have l:(e.r=.no/\∃S,pV e.s e.ds=some S/\AM (bA P {e with ds:=[],s:=S} m) (λS r=>(∀id,id<s.n->S.get id=s.get id)/\Frz S s.n r v) S)->∃low,Lv P (aW L) fn none e (aJh s (.ret v (some ⟨s.n,low,s.o⟩))):=by rintro⟨J,S,M,vs,Q,y,R⟩;refine⟨Nat.min s.low S.low,aYw _ e S rfl M (mV rfl (by rw[u];exact Q) ⟨J,?_⟩)⟩;obtain⟨w,d,F⟩:=s;have U:∀id,id<w->(Sto.mk w (Nat.min d S.low) F).get id=S.get id:=λid b=>by{rw[y id b,g8 b,g8 b]};exact WA (S:=S) (s':=⟨w,Nat.min d S.low,F⟩) rfl (dc _ _) (di _ _) (λh=>h) U (λid b=>.inl (y id b)) R
 cases G with|normal=>obtain⟨low,q⟩:=l p;exact⟨low,tS (O:=aW L) (mZ A) k D B ⟨n,_,e,C,q⟩⟩|ret=>obtain⟨low,q⟩:=l p;exact⟨low,tS (O:=aW L) (mZ A) k D B ⟨n,_,e,C,q⟩⟩|_=>exact p.elim
theorem aAf{L:List iA}(y:∀x∈L,cH P x)(H:dZ){f:FuncId}{fn:Func}{c:Code}{N:Nat}{args:List AV}{s:Sto}{C:Sto->AV->Prop}(k:okFn P f=true)(D:P.funcs[f]?=some fn)(R:fn.ntmps=N)(A:fn.body=some c)(M:Nat.ble args.length N=true)(h:Wk P (aW L) H c ⟨N,none,f,Tr.leaf.lay 0 args,[],⟨s.n,s.n,s.o⟩,.no⟩ (bodyK P (aW L) fn λw e=>e.r=.no/\∃v,w=.ret v/\C e.s v)):∃S v,C S v/\bR P f args s (.ret v (some {S with low:=Nat.min s.low S.low})):=by
 have E:=h.sound;rw[<-jU R M]at E;obtain⟨n,F,e,B,u⟩:=E;have l:∀d,Lv P (aW L) fn d e (λw e=>e.r=.no/\∃v,w=.ret v/\C e.s v)->∃S v,C S v/\Lv P (aW L) fn d e (aJh s (.ret v (some {S with low:=Nat.min s.low S.low}))):=by rintro d ⟨m,w,e',Q,G,v,rfl,J⟩;exact⟨e'.s,v,J,m,_,e',Q,G,GX⟩
 cases F with|normal=>obtain⟨S,v,q,b⟩:=l none u;exact⟨S,v,q,tS (O:=aW L) (mZ y) k D A ⟨n,_,e,B,b⟩⟩|ret=>obtain⟨S,v,q,b⟩:=l none u;exact⟨S,v,q,tS (O:=aW L) (mZ y) k D A ⟨n,_,e,B,b⟩⟩|panic p=>obtain⟨S,v,q,b⟩:=l (some p) u;exact⟨S,v,q,tS (O:=aW L) (mZ y) k D A ⟨n,_,e,B,b⟩⟩|_=>exact u.elim
end
end Go.Abs
namespace Go.Proofs.YtfnmipbdjohikaaGreat
open Go.Abs Go Go.Abs.TryzF Tryz
noncomputable section
set_option maxRecDepth 10000
def aNn(xs:List AV)(args:List AV)(s:Sto)(res:CRes):Prop:=∃a S v,args=[a]/\res=.ret v (some S)/\bR prog 93 args s res/\Nat.min s.low s.n<=S.low/\Sim s S/\AccM 4 s.n v S.n S.o ((xs.map bZ).map AV.cells)
theorem VA{a:AV}{xs:List AV}{lo hi:Nat}(e:∀x∈xs,mS x)(b:xs.length<=1000)(d:∀o∈xs,EW o)(s:Sto)(m:StN lo hi s a xs):∃res,aNn xs [a] s res:=by obtain⟨S,v,⟨h,f,k⟩,l⟩:=QN s m e b d;refine⟨_,a,_,v,rfl,rfl,l,?_,⟨f.1,λid c=>f.2 id c⟩,k⟩;exact dq.2 ⟨dc _ _,cy (di _ _) h⟩
abbrev sU(xs:List AV):List iA:=[jK 93 (aNn xs),ent 94 lH,ent 95 pR]
theorem aIc{xs:List AV}:∀x∈sU xs,cH prog x:=elist_cons (eY λ_ _ _ h=>by obtain⟨_,_,_,_,_,h,_⟩:=h;exact h) (elist_cons cloneI_ok.ent (elist_cons cloneO_ok.ent aF))
theorem aId{os ts us is no:AV}{xs:List AV}{lo hi:Nat}(s:Sto)(p:StN lo hi s os xs)(h1:∀x∈xs,mS x)(s1:xs.length<=1000)(s2:∀o∈xs,EW o)(B:dJ ts)(C:TSl mT us)(D:dJ is)(V:dF no)(s3:ts.els.length<=1000)(s4:us.els.length<=1000)(s5:is.els.length<=1000):∃S v,(s.n<=S.low/\Sim s S/\∃q,v=.agg [q,aD ts,aD us,aD is,no]/\AccM 4 s.n q S.n S.o ((xs.map bZ).map AV.cells))/\bR prog 51 [wg os ts us is no] s (.ret v (some {S with low:=Nat.min s.low S.low})):=by
 have Z:=p.cell;have c2:=(aL _ B).2;have c3:=(bX _ C).2;have c4:=(aL _ D).2;have c5:=(tu_int _ V).2;have e2:∀S,aW (sU xs) 94 [ts] S=some (.ret (aD ts) none):=λS=>by rw[sU,cB iq];have:lH [ts]=some (aD ts):=bY ⟨B,s3⟩;simp[aW,ent,this]<;>rfl
 have e3:∀S,aW (sU xs) 95 [us] S=some (.ret (aD us) none):=λS=>by rw[sU,cB iq];have:pR [us]=some (aD us):=bY ⟨C,s4⟩;simp[aW,ent,this]<;>rfl
 have e4:∀S,aW (sU xs) 94 [is] S=some (.ret (aD is) none):=λS=>by rw[sU,cB iq];have:lH [is]=some (aD is):=bY ⟨D,s5⟩;simp[aW,ent,this]<;>rfl
 have k2:=(aL _ (aT B));have k3:=(bX _ (aT C));have k4:=(aL _ (aT D));have u2:=λ{m:Nat}=>k2.1.mono (γ m);have u3:=λ{m:Nat}=>k3.1.mono (γ m);have u4:=λ{m:Nat}=>k4.1.mono (γ m);have u5:=λ{m:Nat}=>(tu_int _ V).1.mono (γ m);obtain⟨n0,Y,w⟩:=s;refine kC (L:=sU xs) aIc (λ_=>([5,8,11],[1000,jF (n0+1),15])) im func51 ntmps51 results51 rfl rfl ?_;have r:StN lo hi ⟨n0+1+1,n0,(w.set n0 (aP 0 [os,ts,us,is,no])).set (n0+1) (aP 0 [.nils,.nils,.nils,.nils,.int .i64 0])⟩ os xs:=p.keep λid c _ _=>by have d:id<n0:=c;rw[g8 (show id<n0+1+1 by omega),g8 d,g7 _ _ il,g7 _ _ il]
 have u0:UnderE n0 os:=p.under;have M:UnderE (n0+1) os:=u0.mono (ej _);have N:UnderE (n0+1+1) os:=M.mono (ej _);obtain⟨_,⟨_,⟨k,e,T⟩,q,ea,rfl,_,hl,⟨J,l⟩,b⟩,X⟩:=xC (f:=93) (L:=[ent 94 lH,ent 95 pR]) (VA h1 s1 s2 ⟨n0+1+1,n0,(w.set n0 (aP 0 [os,ts,us,is,no])).set (n0+1) (aP 0 [.nils,.nils,.nils,.nils,.int .i64 0])⟩ r);cases ea;unfold wg;have E:aW (sU xs) 93 [os] ⟨n0+1+1,n0,(w.set n0 (aP 0 [os,ts,us,is,no])).set (n0+1) (aP 0 [.nils,.nils,.nils,.nils,.int .i64 0])⟩=_:=X;clear X;have u:n0+1+1<=k:=J;have y:T.get n0=some (aP 0 [os,ts,us,is,no]):=by have:=l n0 (show n0<n0+1+1 by omega);rw[g8 (show n0<k by omega),g8 (show n0<n0+1+1 by omega)]at this;rw[this];exact by simp+decide only[↓aB,bC,ne_eq,dT]
 have A:T.get (n0+1)=some (aP 0 [.nils,.nils,.nils,.nils,.int .i64 0]):=by have:=l (n0+1) (show n0+1<n0+1+1 by omega);rw[g8 (show n0+1<k by omega),g8 (show n0+1<n0+1+1 by omega)]at this;rw[this];exact io
 have F:oD (rC (n0+1+1) (n0+1)) ⟨n0+1+1,n0,(w.set n0 (aP 0 [os,ts,us,is,no])).set (n0+1) (aP 0 [.nils,.nils,.nils,.nils,.int .i64 0])⟩ ⟨k,e,T⟩:=λid c=>l id (du c (dc _ _));have f0:n0<k/\n0+1<k:=il
 have R:q.isCell=true:=by rcases b with⟨_,rfl⟩|⟨_,id,g,rfl,_⟩<;>rfl
 have Q:UnderE k q:=by rcases b with⟨_,rfl⟩|⟨_,id,g,rfl,_,h,_⟩;exact⟨1,rfl⟩;exact⟨1,by simpa[AV.under]using h⟩
 generalize aa:(sU xs)=LL at *;simp+contextual+decide(maxSteps:=1000000)only[↓wP,wQ,tf,Nat.reduceAdd,wS,Z,c2,c3,c4,c5,e2,e3,e4,E,N,u2,u3,u4,u5,k2.2,k3.2,k4.2,fJ,qN,gD,u,y,A,F,f0,R,Q,dT,aY,dw];have ab:Nat.min n0 (n0+1+1)<=e:=hl;have G:n0<=e:=by have:Nat.min n0 (n0+1+1)=n0:=Nat.min_eq_left il;omega
 refine⟨dq.2 ⟨il,G⟩,⟨by show n0<=k;omega,λid c=>?_⟩,q,rfl,?_⟩;have d:id<n0:=c;have:=l id (show id<n0+1+1 by omega);rw[g8 (show id<k by omega),g8 (show id<n0+1+1 by omega)]at this;rw[g8 (show id<k by omega),g8 d,g7 _ _ il,this,g7 _ _ il,g7 _ _ il];rcases b with⟨U,rfl⟩|⟨U,id,g,rfl,q2,q3,q4⟩;exact .inl ⟨U,rfl⟩;have ac:n0+1+1<=id:=q4;exact .inr ⟨U,id,g,rfl,by rw[g7 _ _ il];exact q2,q3,il⟩
