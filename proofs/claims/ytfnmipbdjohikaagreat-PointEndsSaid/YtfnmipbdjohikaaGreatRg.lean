/- Lemmas. -/
import Derived.Test.YtfnmipbdjohikaaGreatRe
set_option maxHeartbeats 8000000
namespace Go.Proofs.YtfnmipbdjohikaaGreat
open Go.Abs Go Go.Abs.TryzF Tryz
noncomputable section
set_option maxRecDepth 10000
section
variable {p os ts us is no ns fs mm cs os' ts' us' is' no' d g:AV}
end
end
end Go.Proofs.YtfnmipbdjohikaaGreat
namespace Go.Abs
noncomputable section
def exG(P:Program)(f:FuncId)(Q:List AV->AV->Prop)(args:List AV):Option AV:=@dite _ (∃r,Returns P f args r/\Q args r) (Classical.propDecidable _) (λh=>some h.choose) λ_=>none
theorem exG_ok{P:Program}{f:FuncId}{Q:List AV->AV->Prop}:Ok P f (exG P f Q):=λargs v h=>by unfold exG at h;split at h;rename_i a;cases h;exact a.choose_spec.1;cases h
theorem aMl{P:Program}{f:FuncId}{Q:List AV->AV->Prop}{args:List AV}(h:∃r,Returns P f args r/\Q args r):∃r,exG P f Q args=some r/\Q args r:=⟨h.choose,fm h,h.choose_spec.2⟩
end
end Go.Abs
namespace Go.Proofs.YtfnmipbdjohikaaGreat
open Go.Abs Go Go.Abs.TryzF Tryz
noncomputable section
set_option maxRecDepth 10000
section
variable {os ts us is no os' ts' us' is' no' d g:AV}
theorem ZK{o:AV}{i:Nat}(h:SGL os ts us is no os' ts' us' is' no' d g)(ho:mS o)(hi:i<os'.els.length)(hd:i<d.els.length):∃r,Abs.Returns prog 36 [hH os ts us is no os' ts' us' is' no' d g,o,.int .i64 (i:Nat)] r/\IsS r os.els ts.els us.els is.els no (os'.els.set i o) ts'.els us'.els is'.els no' (d.els.set i (.bool true)) g.els:=by
 have aj:=(tk_ob o ho).1;have hu:=aA h.und.und (aA aj.und (aA (aQ (k:=.i64) (x:=(i:Nat))) aE));obtain⟨c1,c2,c3,c4,c5⟩:=h.w.cells;obtain⟨c6,c7,c8,c9,am⟩:=h.s.cells;obtain⟨an,ao⟩:=h.cells;obtain⟨_,N,rfl,ab,be⟩:=tk_ob o ho;have bg:∀{n:Nat},jD n N:=λ{n}=>yU (eJ aj);have ah:=h.ld;have bf:=h.lo';obtain⟨xd,al,B⟩:=h.d;rw[al.els]at hd ah ⊢;have ax:=nX tu_bool B;have G:∀{s:Sto},HM s 1 d=some (xd.length,xd):=λ{s}=>by have:=(ApY.sl (s:=s) al (fM _ h.d).1 ax).2.2.1 s (Sim.refl s);rw[this,dH λx u=>(tu_bool x (B x u)).2]
 have af:xd.all AV.isCell=true:=μ.2 λx u=>(tu_bool x (B x u)).2;have aw:∀{s:Sto},apF s 1 1 .nils (some (xd.length,xd))=some (.val' (.sl s.n 0 0 xd.length (.room 1)) (s.push (ob xd))):=λ{s}=>WP il il af;have k3:(((i:Nat):Int)<((xd.length:Nat):Int))=True:=d9 il;have k4:(0<=((i:Nat):Int))=True:=d9 il;generalize hX:(((((Tr.leaf.set 0 (aP 0 [os,ts,us,is,no,os',ts',us',is',no',d,g])).set 1 (aP 0 N)).set 2 (aP 0 [.nils,.nils,.nils,.nils,.int .i64 0,.nils,.nils,.nils,.nils,.int .i64 0,.nils,.nils])).set 3 (aP 0 xd)).set 0 (aP 0 [os,ts,us,is,no,os',ts',us',is',no',.sl 3 0 0 xd.length (.room 1),g])).set 3 (aP 0 (xd.set i (.bool true)))=X;have ae:X.get 0=some (aP 0 [os,ts,us,is,no,os',ts',us',is',no',.sl 3 0 0 xd.length (.room 1),g]):=by rw[<-hX];rfl
 have ap:X.get 1=some (aP 0 N):=by rw[<-hX];rfl
 have aq:X.get 2=some (aP 0 [.nils,.nils,.nils,.nils,.int .i64 0,.nils,.nils,.nils,.nils,.int .i64 0,.nils,.nils]):=by rw[<-hX];rfl
 have ar:X.get 3=some (aP 0 (xd.set i (.bool true))):=by rw[<-hX];rfl
 have f':∀{T:AV->Prop}{a:AV},TSl T a->Sl a a.els:=λ⟨xs,hs,_⟩=>by rw[hs.els];exact hs
 have S:ApW ⟨4,Nat.min 3 (Nat.min 0 0),X⟩ os' ts' us' is' os'.els ts'.els us'.els is'.els:=⟨ApY.sl (f' h.s.os) (eT _ h.s.os).1 (nY tk_ob (aV h.s.os)),ApY.sl (f' h.s.ts) (aL _ h.s.ts).1 (nX tu_int (aV h.s.ts)),ApY.sl (f' h.s.us) (bX _ h.s.us).1 (nY tk_out (aV h.s.us)),ApY.sl (f' h.s.is) (aL _ h.s.is).1 (nX tu_int (aV h.s.is)),h.lo',h.lt',h.lu',h.li',aV h.s.os,aV h.s.ts,aV h.s.us,aV h.s.is⟩;obtain⟨res,C,R⟩:=kT (f:=67) (UC _ S h.s.no);obtain⟨⟨m,q,J⟩,a,b,c,e,rfl,ai,A1,A2,A3,A4⟩:=aMm S C;have ay:aW [jK 67 RRG] 67 [.agg [os',ts',us',is',no']] ⟨4,Nat.min 3 (Nat.min 0 0),X⟩=some (.ret (.agg [a,b,c,e,no']) (some ⟨m,q,J⟩)):=R _;clear C R;have hm:4<=m:=ai.1;have D:∀{i:Nat}{x:AObj},i<4->X.get i=some x->J.get i=some x:=λ{i x} hi u=>by have C:=ai.2 i hi;rw[g8 (show i<m by omega),g8 hi]at C;exact C.trans u
 have g0:=D il ae;have g1:=D il ap;have g2:=D il aq;have g3:=D il ar;have b1:StN 4 m ⟨m,q,J⟩ a os'.els:=hG A1;have b2:StN 4 m ⟨m,q,J⟩ b ts'.els:=hG A2;have b3:StN 4 m ⟨m,q,J⟩ c us'.els:=hG A3;have b4:StN 4 m ⟨m,q,J⟩ e is'.els:=hG A4;have yc:=And.intro b2.cell (And.intro b3.cell b4.cell);obtain⟨A,ga,ca,rfl,ac,az,E,_⟩:=b1.at_ hi;have ad:J.get A=some (aP ga (os'.els.map AV.cells).flatten):=by rw[g8 E]at ac;exact ac
 have bb:i*4+4<=(os'.els.map AV.cells).flatten.length:=(wW (λx u=>tk_ob.len (aV h.s.os x u)) (δ hi)).2;have V:=QM (λx u=>tk_ob.len (aV h.s.os x u)) hi (x:=.agg N) ab;rw[show(AV.agg N).cells=N from rfl]at V;have k5:(((i:Nat):Int)<((os'.els.length:Nat):Int))=True:=d9 il;have f0:=nP (show 0<m by omega);have f1:=nP (show 1<m by omega);have f2:=nP (show 2<m by omega);have fa:=nP E;have fb:A≠0/\A≠1/\A≠2/\A≠3/\0≠A/\1≠A/\2≠A/\3≠A:=il
 generalize hF:(os'.els.map AV.cells).flatten=F at *;obtain⟨va,ak,bc⟩:∃va,va∈F/\jP va:=by have u:=δ hi;obtain⟨hr,_⟩:=wW (λx u=>tk_ob.len (aV h.s.os x u)) u;rw[hF]at hr;obtain⟨_,_,va,fr,bd,_,_,hv,_⟩:=aV h.s.os _ (dz hi);rw[bd]at hr;have:va∈aS F (i*4) 4:=by{rw[hr];simp[AV.cells]};exact⟨va,eo (da this),hv⟩
 generalize hY:((J.set 0 (aP 0 [os,ts,us,is,no,.sl A ga 0 os'.els.length ca,b,c,e,no',.sl 3 0 0 xd.length (.room 1),g])).set A (aP ga (cG F (i*4) N))).set 2 (aP 0 [os,ts,us,is,no,.sl A ga 0 os'.els.length ca,b,c,e,no',.sl 3 0 0 xd.length (.room 1),g])=Y;have aa:∀{v:AV}{xs:List AV},StN 4 m ⟨m,q,J⟩ v xs->(∀y∈(xs.map AV.cells).flatten,∃n,y=.int .i64 n)->StN 4 m ⟨m,Nat.min 2 (Nat.min A (Nat.min 0 q)),Y⟩ v xs:=λhs ag=>by rcases hs with hs|⟨id,gg,cc,rfl,hg,C,R⟩;exact .inl hs;rw[g8 R]at hg;have ba:id≠A:=λe=>by{subst e;rw[ad]at hg;have:=(aFq (ew hg)).2;rw[this]at ak;obtain⟨n,hn⟩:=ag va ak;subst hn;obtain⟨_,⟨h|⟨_,h⟩,_⟩,_⟩:=bc;cases h.1;cases h};refine .inr ⟨id,gg,cc,rfl,?_,C,R⟩;rw[g8 R,<-hY,g7 _ _ il,g7 _ _ ba,g7 _ _ il];exact hg
 have au:StN 4 m ⟨m,Nat.min 2 (Nat.min A (Nat.min 0 q)),Y⟩ (.sl A ga 0 os'.els.length ca) (os'.els.set i (.agg N)):=by refine .inr ⟨A,ga,ca,by rw[d4],?_,az,E⟩;rw[g8 E,<-hY,g7 _ _ il,hE,V]
 have av:StN 3 4 ⟨m,Nat.min 2 (Nat.min A (Nat.min 0 q)),Y⟩ (.sl 3 0 0 xd.length (.room 1)) (xd.set i (.bool true)):=by refine .inr ⟨3,0,.room 1,by rw[d4],?_,κ _,d5 _⟩;rw[g8 (show 3<m by omega),<-hY,g7 _ _ il,g7 _ _ il,g7 _ _ il,g3,dH λx u=>?_];rcases ef u with u|rfl;exact(tu_bool x (B x u)).2;rfl
 have iI:∀{l:List AV},(∀x∈l,dF x)->∀y∈(l.map AV.cells).flatten,∃n,y=.int .i64 n:=λhl y G=>by rw[dH λx u=>(tu_int x (hl x u)).2]at G;exact hl y G
 have iO:∀{l:List AV},(∀x∈l,mT x)->∀y∈(l.map AV.cells).flatten,∃n,y=.int .i64 n:=λhl y G=>by obtain⟨r,hr,G⟩:=f6.1 G;obtain⟨x,u,rfl⟩:=cw.1 hr;obtain⟨_,_,rfl,⟨n,rfl⟩,⟨n',rfl⟩⟩:=hl x u;simp[AV.cells]at G;rcases G with rfl|rfl;exact⟨_,rfl⟩;exact⟨_,rfl⟩
 have Z:∀x∈os'.els.set i (.agg N),mS x:=λx u=>by rcases ef u with u|rfl;exact aV h.s.os x u;exact ho
 have Q:∀x∈xd.set i (.bool true),jR x:=λx u=>by rcases ef u with u|rfl;exact B x u;exact⟨_,rfl⟩
 obtain⟨r1,s1,t1⟩:=mJ (n:=0) au (γ _) tk_ob Z (by rw[d4];exact h.lo');obtain⟨r2,s2,t2⟩:=iF (n:=0) (aa b2 (iI (aV h.s.ts))) (γ _) tu_int (aV h.s.ts) h.lt';obtain⟨r3,s3,t3⟩:=mJ (n:=0) (aa b3 (iO (aV h.s.us))) (γ _) tk_out (aV h.s.us) h.lu';obtain⟨r4,s4,t4⟩:=iF (n:=0) (aa b4 (iI (aV h.s.is))) (γ _) tu_int (aV h.s.is) h.li';obtain⟨r5,s5,t5⟩:=iF (n:=0) av (γ _) tu_bool Q (by rw[d4];exact ah);have M:∀{T:AV->Prop}{r:AV}{xs:List AV},Sl r xs->(∀x∈xs,T x)->TSl T r:=λC R=>⟨_,C,R⟩;refine⟨hH os ts us is no r1 r2 r3 r4 no' r5 g,?_,?_⟩;rotate_left;exact⟨os,ts,us,is,r1,r2,r3,r4,r5,g,rfl,⟨h.w,⟨M s1 Z,M s2 (aV h.s.ts),M s3 (aV h.s.us),M s4 (aV h.s.is),h.s.no⟩,M s5 Q,h.g⟩,rfl,rfl,rfl,rfl,s1.els,s2.els,s3.els,s4.els,s5.els,rfl⟩;refine bV (L:=[jK 67 RRG]) (elist_cons (eY λ_ _ _ h=>by obtain⟨_,_,_,_,_,_,_,_,_,_,_,_,_,_,_,_,_,_,_,_,_,_,_,_,_,_,_,_,_,h⟩:=h;exact h) aF) aI im func36 ntmps36 results36 rfl rfl hu ?_
 unfold hH;simp+contextual+decide(maxSteps:=1000000)only[↓wP,wQ,tf,Nat.reduceAdd,wS,c1,c2,c3,c4,c5,c6,c7,c8,c9,am,an,ao,ab,be,bU ab,G,aw,k3,k4,hd,QS,Ξ,dy,φ,hX,ae,ay,g0,g1,g2,f0,f1,f2,fa,fb,yc,ad,bb,k5,aZo,aY,dw];rw[hY];have U:∀{x:AV},UnderE 0 x->Frz ⟨m,Nat.min 2 (Nat.min A (Nat.min 0 q)),Y⟩ 0 x x:=λh=>.und _ h.und;exact .agg _ _ rfl (aH (U (eT _ h.w.os).1) (aH (U (aL _ h.w.ts).1) (aH (U (bX _ h.w.us).1) (aH (U (aL _ h.w.is).1) (aH (U (tu_int _ h.w.no).1) (aH t1 (aH t2 (aH t3 (aH t4 (aH (U (tu_int _ h.s.no).1) (aH t5 (aH (U (fM _ h.g).1) dB))))))))))))
end
end
end Go.Proofs.YtfnmipbdjohikaaGreat
namespace Go.Abs
noncomputable section
variable {P:Program}
theorem GE{L:List iA}(B:∀x∈L,cH P x)(H:dZ){f:FuncId}{fn:Func}{c:Code}{N:Nat}{m:List ResultVar}{args:List AV}{Q:AV->Prop}(l:okFn P f=true)(F:P.funcs[f]?=some fn)(G:fn.ntmps=N)(J:fn.results=m.toArray)(D:fn.body=some c)(C:Nat.ble args.length N=true)(M:∀x∈args,Und 0 x)(h:Wk P (aW L) H c ⟨N,none,f,Tr.leaf.lay 0 args,[],⟨0,0,.leaf⟩,.no⟩ (kO P m (λS r=>∃v,Frz S 0 r v/\Q v) λ_ _=>False)):∃v,Q v/\Returns P f args v:=by
 obtain⟨n,k,e,E,a⟩:=h.sound;have b:e.ds=[]/\e.r=.no/\AM (bA P e m) (λS r=>∃v,Frz S 0 r v/\Q v) e.s/\(k=.normal∨k=.ret):=by cases k with|normal=>exact⟨a.1,a.2.1,a.2.2,.inl rfl⟩|ret=>exact⟨a.1,a.2.1,a.2.2,.inr rfl⟩|panic v=>exact a.2.2.elim|exit id=>exact a.elim|_=>exact a.elim
 obtain⟨o,q,⟨vs,u,v,w,A⟩,y⟩:=b;refine⟨v,A,AO B l F G J D C M ⟨n,k,e,E,?_⟩⟩;rcases y with rfl|rfl;exact⟨o,q,vs,u,w⟩;exact⟨o,q,vs,u,w⟩
end
end Go.Abs
namespace Go.Proofs.YtfnmipbdjohikaaGreat
open Go.Abs Go Go.Abs.TryzF Tryz
noncomputable section
set_option maxRecDepth 10000
def AG(xo:List AV):List AV->List Nat->List AV|l,[]=>l|l,i::ks=>AG xo (l.set i (xo.getD i .top)) ks
def jJ:List AV->List Nat->List AV|l,[]=>l|l,i::ks=>jJ (l.set i (.bool true)) ks
theorem CB{xo:List AV}:∀(ks:List Nat)(l:List AV),(AG xo l ks).length=l.length|[],l=>rfl|i::ks,l=>by rw[AG,CB ks,d4]
theorem tJ:∀(ks:List Nat)(l:List AV),(jJ l ks).length=l.length|[],l=>rfl|i::ks,l=>by rw[jJ,tJ ks,d4]
theorem OC{xo:List AV}{i:Nat}:∀(ks:List Nat)(l:List AV),AG xo l (ks++[i])=(AG xo l ks).set i (xo.getD i .top)|[],l=>rfl|k::ks,l=>by rw[dn,AG,AG,OC ks]
theorem EP{i:Nat}:∀(ks:List Nat)(l:List AV),jJ l (ks++[i])=(jJ l ks).set i (.bool true)|[],l=>rfl|k::ks,l=>by rw[dn,jJ,jJ,EP ks]
theorem CC{i:Nat}:∀(ks:List Nat)(l:List AV),i∉ks->(jJ l ks)[i]?=l[i]?|[],l,_=>rfl|k::ks,l,h=>by rw[jJ,CC ks _ λa=>h (ν _ a),List.getElem?_set_ne];exact λe=>h (by rw[e];exact ψ ..)
theorem IU{xd:List AV}{m:Nat}:mI xd (m+1)=mI xd m++(if lG xd m=true then[]else[m]):=by simp only[mI,ec,el,ce,ft];cases lG xd m<;>simp
def eI(ks:List Nat):List AV:=ks.map λi:Nat=>.int .i64 (i:Nat)
theorem qD{ks:List Nat}:∀x∈eI ks,dF x:=λx a=>by obtain⟨i,_,rfl⟩:=cw.1 a;exact⟨_,rfl⟩
section
variable {p os ts us is no os' ts' us' is' no' d g:AV}
def aUa(args:List AV)(r:AV):Prop:=∃(os ts us is no os' ts' us' is' no' d g o:AV) (i:Nat),args=[hH os ts us is no os' ts' us' is' no' d g,o,.int .i64 (i:Nat)]/\IsS r os.els ts.els us.els is.els no (os'.els.set i o) ts'.els us'.els is'.els no' (d.els.set i (.bool true)) g.els
theorem aHm{o:AV}{i:Nat}(h:SGL os ts us is no os' ts' us' is' no' d g)(m:mS o)(hi:i<os'.els.length)(l:i<d.els.length):∃r,exG prog 36 aUa [hH os ts us is no os' ts' us' is' no' d g,o,.int .i64 (i:Nat)]=some r/\IsS r os.els ts.els us.els is.els no (os'.els.set i o) ts'.els us'.els is'.els no' (d.els.set i (.bool true)) g.els:=by
 obtain⟨r,a,b⟩:=ZK h m hi l;obtain⟨v,c,q⟩:=aMl (P:=prog) (f:=36) (Q:=aUa) ⟨r,a,⟨_,_,_,_,_,_,_,_,_,_,_,_,o,i,rfl,b⟩⟩;obtain⟨_,_,_,_,_,_,_,_,_,_,_,_,_,u,e,k⟩:=q;simp only[hH,eh,AV.agg.injEq,AV.int.injEq,e9,fc]at e;obtain⟨⟨rfl,rfl,rfl,rfl,rfl,rfl,rfl,rfl,rfl,rfl,rfl,rfl⟩,rfl,w⟩:=e;have:i=u:=il
 subst this;exact⟨v,c,k⟩
end
end
end Go.Proofs.YtfnmipbdjohikaaGreat
namespace Go.Abs
noncomputable section
variable {P:Program}
variable {O:bW} {H:dZ}
end
end Go.Abs
namespace Go.Proofs.YtfnmipbdjohikaaGreat
open Go.Abs Go Go.Abs.TryzF Tryz
noncomputable section
set_option maxRecDepth 10000
section
variable {p os ts us is no os' ts' us' is' no' d g:AV}
def AcI(lo:Nat)(v:AV)(u:Sto)(R:List AV):Prop:=(R=[]/\v=.nils)∨(R≠[]/\∃id g,v=.sl id g 0 R.length (.room 1)/\u.get id=some (aP g R)/\lo<=id)
theorem AcI.keep{lo:Nat}{v:AV}{u c:Sto}{R:List AV}(h:AcI lo v u R)(k:∀id,lo<=id->id<u.n->c.get id=u.get id):AcI lo v c R:=by rcases h with h|⟨e,id,g,f,a,b⟩;exact .inl h;exact .inr ⟨e,id,g,f,by rw[k id b (g9 a)];exact a,b⟩
theorem AcI.stn{lo:Nat}{v:AV}{u:Sto}{R:List AV}(h:AcI lo v u R)(e:∀x∈R,dF x):StN lo u.n u v R:=by rcases h with⟨b,a⟩|⟨k,id,g,b,a,c⟩;exact .inl ⟨a,b⟩;exact .inr ⟨id,g,.room 1,b,by rw[dH λx f=>(tu_int x (e x f)).2];exact a,c,g9 a⟩
end
theorem rnumbers5_ok:Abs.Ok prog 15 uG:=ok2 λa b ⟨c,e⟩=>by have f:uG [a,b]=some (.bool (jE a.els b.els)):=sg2_eq ⟨c,e⟩;refine aG (L:=[ent 41 uG]) (elist_cons rsame5_ok.ent aF) aI im func15 ntmps15 results15 rfl rfl (aA (aL _ c).1.und (aA (aL _ e).1.und aE)) aJ ?_;simp+contextual+decide(maxSteps:=1000000)only[↓wP,wQ,wS,f]
section
variable {p os ts us is no os' ts' us' is' no' d g:AV}
