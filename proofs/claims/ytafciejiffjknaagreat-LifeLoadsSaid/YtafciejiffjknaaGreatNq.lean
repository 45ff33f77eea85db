/-.-/
import Derived.Test.YtafciejiffjknaaGreatNm
set_option maxHeartbeats 4000000
namespace Go
abbrev fe:=@List.any_eq_true
end Go
namespace Go.Abs
open Classical
noncomputable section
variable {P:Program}
def YA(d:TypeDesc)(K:AV->Prop):Prop:=(∀a b,K a->K b->RR a b=some (decide (a=b)))/\∀a,K a->oY d a=true
def aEc(K:AV->Prop)(a:List AV)(x:AObj):Prop:=∃es c,x=.map es c/\es.map (·.1)=a/\∀e∈es,K e.1/\e.2.1=.bool true
theorem LG:YA (.int .i64) dR:=⟨λa b ⟨n,c⟩ ⟨m,d⟩=>by subst c;subst d;by_cases h:n=m<;>simp[RR,fL,VF,h],λa ⟨n,c⟩=>by subst c;rfl⟩
theorem QQ:∀(a b:List Nat),fV Nat.beq a b=decide (a=b)|[],[]=>rfl|[],_::_=>rfl|_::_,[]=>rfl|x::a,y::b=>by have h:=QQ a b;simp only[fV,h];by_cases c:x=y;subst c;simp;have:Nat.beq x y=false:=by{cases d:Nat.beq x y with|false=>rfl|true=>exact absurd (bl d) c};simp[this,c]
theorem aSw:YA .string nR:=⟨λa b ⟨n,c,_⟩ ⟨m,d,_⟩=>by subst c;subst d;by_cases h:n=m<;>simp[RR,QQ,h],λa ⟨n,c,_⟩=>by subst c;rfl⟩
theorem FW{d:TypeDesc}{K:AV->Prop}(r:YA d K){k:AV}(u:K k):∀(a:List (AV × AV × Nat))(i:Nat),(∀e∈a,K e.1/\e.2.1=.bool true)->(k∉a.map (·.1)/\uJ k a i=some none)∨(k∈a.map (·.1)/\∃j,uJ k a i=some (some (i+j,.bool true))/\aXg a j k (.bool true)=a)|[],i,_=>.inl ⟨iw,rfl⟩|(l,v,b)::a,i,h=>by obtain⟨p,q⟩:=h _ (χ ..);simp only at p q;subst q;have f:=r.1 k l u p;by_cases c:k=l;subst c;refine .inr ⟨iw,0,?_,rfl⟩;simp only[uJ,f,ew,dt];have y:=FW r u a (i+1) λe f=>h e (ν _ f);have w:uJ k ((l,.bool true,b)::a) i=uJ k a (i+1):=by{simp only[uJ,f,φ c]};rw[w];rcases y with⟨m,o⟩|⟨m,j,o,A⟩;exact .inl ⟨by simp only[ci,cp,not_or];exact⟨c,m⟩,o⟩;exact .inr ⟨by simp only[ci,cp];exact .inr m,j+1,by rw[o,show i+1+j=i+(j+1) by omega],by simp only[aXg,A]⟩
theorem LH{d:TypeDesc}{e:TypeId}{K:AV->Prop}(o:YA d K){k:AV}(h:K k){s:Sto}{t:TypeId}{id:Nat}{a:List AV}{x:AObj}(r:mZ P t=some (d,e))(q:s.get id=some x)(u:aEc K a x):∃x',gJ P s t (.map id) k (.bool true)=some (s.put id x')/\aEc K (if k∈a then a else a++[k]) x':=by obtain⟨m,c,rfl,rfl,b⟩:=u;rcases FW o h m 0 b with⟨p,l⟩|⟨p,j,l,v⟩;refine⟨.map (m++[(k,.bool true,c)]) (c+1),?_,_,_,rfl,by rw[Δ p];simp,λe f=>?_⟩;simp only[gJ,r,o.2 k h,b5,q,l];rcases da.1 f with f|f;exact b e f;simp at f;subst f;exact⟨h,rfl⟩;refine⟨.map m c,?_,_,_,rfl,by rw[cm p],b⟩;rw[ξ]at l;simp only[gJ,r,o.2 k h,b5,q,l,v]
theorem LI{d:TypeDesc}{e:TypeId}{K:AV->Prop}(b:YA d K){k:AV}(h:K k){s:Sto}{t:TypeId}{id:Nat}{a:List AV}{x:AObj}(p:mZ P t=some (d,e))(u:bI P e=some (.bool false))(o:s.get id=some x)(r:aEc K a x): alookup P s t (.map id) k false=some (.bool (decide (k∈a))):=by obtain⟨q,c,rfl,rfl,f⟩:=r;rcases FW b h q 0 f with⟨l,m⟩|⟨l,j,m,v⟩;simp only[alookup,p,b.2 k h,b5,o,m,u,cd,φ l];simp only[alookup,p,b.2 k h,b5,o,m,cd,Ξ l]
end
end Go.Abs
namespace Go.Proofs.YtafciejiffjknaaGreat
open Go.Abs Go Go.Abs.TryzF Tryz
noncomputable section
set_option maxRecDepth 10000
theorem aEd:mZ prog 393=some (.int .i64,4):=iv
theorem a5c:bI prog 4=some (.bool false):=iv
theorem TR{a:List AV}(d:∀y∈a,dR y){z:Int}:AV.int .i64 z∈a↔(a.any λy=>decide (y.num=z))=true:=by rw[fe];constructor;intro h;exact⟨_,h,Ξ rfl⟩;rintro⟨y,b,c⟩;obtain⟨n,rfl⟩:=d y b;have:n=z:=ba c;subst this;exact b
def lW(os ts:List AV)(x:AV):Bool:=(ts.any λy=>decide (y.num=x.num))|| !decide (((os.getD x.num.toNat .top).fld 0).num=6)
def uT(os ts:List AV):Bool:=rI os [] ts&&(jG os.length).all (lW os ts)
section
variable {ns fs mm cs os ts us is uu:AV}
def S3(R:AV)(a:List AV)(s:Sto):Prop:=s.get 0=some (aR 0 [R])/\s.get 2=some (aR 0 [.map 1])/\∃x,s.get 1=some x/\aEc dR a x
theorem S3.sim{R:AV}{b:List AV}(s a:Sto)(h:Sim s a)(k:S3 R b s):S3 R b a:=by obtain⟨c,d,x,e,f⟩:=k;exact⟨h.get c,h.get d,x,h.get e,f⟩
theorem aMe(h:RW ns fs mm cs os ts us is uu)(x:AV)(T:x∈jG os.els.length)(s:Sto)(R:S3 (rn ns fs mm cs os ts us is uu) ts.els s): bY prog 315 (x::[.ptr 2 0 0,.ptr 0 0 0]) s (.ret (.bool (lW os.els ts.els x)) none):=by
 obtain⟨i,p,rfl⟩:=cn.1 T;have p:=cc.1 p;obtain⟨A,e,r⟩:=h.os;obtain⟨f,E,u⟩:=h.ts;obtain⟨V,Y,Z,c4,B,c6,c7,c8,c9⟩:=h.cells;obtain⟨d,b,X,H,D⟩:=R;rw[e.els]at p;rw[E.els]at D;rw[e.els,E.els];have q:inR ((i:Nat):Int) 0 ((A.length:Int)-1)=true:=by simp only[inR,ε,Ω];omega
 obtain⟨y,J,_,U,c,Q,_,_⟩:=rJ tk_ob r q;obtain⟨_,_,v,g,rfl,⟨k,rfl⟩,⟨m,rfl⟩,S,M⟩:=J;have cv:=(bU _ S).2;have cg:=(nQ _ M).2;refine tV (L:=[]) aD aG iv func315 ntmps315 results315 rfl rfl aI ?_;obtain⟨n0,F,G⟩:=s;have C:=aY (hE d);have f1:=aY (hE H);have l:=aY (hE b);have a:∀{low:Nat},alookup prog ⟨n0,low,G⟩ 393 (.map 1) (.int .i64 (i:Nat)) false=some (.bool (f.any λy=>decide (y.num=((i:Nat):Int)))):=λ{low}=>by rw[LI (s:=⟨n0,low,G⟩) LG ⟨_,rfl⟩ aEd a5c H D];congr 2;exact ay.2 (by simp only[Ω];exact TR u)
 rw[hH (hE d)]at d;rw[hH (hE b)]at b;have N:lW A f (.int .i64 (i:Nat))=((f.any λy=>decide (y.num=((i:Nat):Int)))|| !decide (k=6)):=by have w:A.getD (AV.int .i64 ((i:Nat):Int)).num.toNat .top=.agg [.int .i64 k,.int .i64 m,v,g]:=U;rw[lW,w];rfl
 rw[N];cases o:f.any λy=>decide (y.num=((i:Nat):Int))with|true=>exact az5 @b @l @a @o @δ|false=>by_cases k6:k=6;exact UH @d @b @C @l @a @o @B e.iX @c @k6 @δ;exact UH @d @b @C @l @a @o @B e.iX @c @k6 @δ
abbrev JG:AV:=.func (.func 315) [] [.ptr 2 0 0,.ptr 0 0 0]
theorem aSx(h:RW ns fs mm cs os ts us is uu)(C:os.els.length<=1000):Abs.Returns prog 229 [rn ns fs mm cs os ts us is uu] (.bool (uT os.els ts.els)):=by
 have R:∀args s,(args=[tW os.els.length,JG]/\S3 (rn ns fs mm cs os ts us is uu) ts.els s)->bY prog 129 args s (.ret (.bool ((jG os.els.length).all (lW os.els ts.els))) none):=λargs s ⟨e,hs⟩=>by subst e;have:=a0y (g:=315) (cap:=[.ptr 2 0 0,.ptr 0 0 0]) (D:=λx=>x∈jG os.els.length) (S:=S3 (rn ns fs mm cs os ts us is uu) ts.els) (p:=lW os.els ts.els) S3.sim (λx hx=>zK _ x hx) (λx hx s hs=>aMe h x hx s hs) (a:=tW os.els.length) ⟨_,LM aO,λx hx=>hx⟩ s hs;rwa[(LM aO).els]at this
 obtain⟨c1,c2,c3,c4,H,c6,c7,c8,c9⟩:=h.cells;obtain⟨l,w,ah⟩:=h.os;obtain⟨b,F,aa⟩:=h.ts;have V:=F.2;refine aF (L:=[ent 197 kJ,mQ 314 [.int .i64 (os.els.length:Nat)] (HO os.els.length),mQ 313 [HO os.els.length] (tW os.els.length),entB 129 (λargs s=>args=[tW os.els.length,JG]/\S3 (rn ns fs mm cs os ts us is uu) ts.els s) λ_=>.bool ((jG os.els.length).all (lW os.els ts.els))]) (elist_cons within_ok.ent (elist_cons (dF (aEj _)) (elist_cons (dF (aEk _ C)) (elist_cons (entB_ok R) aD)))) aG iv func229 ntmps229 results229 rfl rfl (aA h.und.und aC) aI ?_;have w1:=cY w.2;rw[w.els]at C ⊢;rw[F.els]at⊢;refine ap4 @c6 F.lX @HT @cX ?_;refine aN (λi e=>∃t n low o,e=⟨57,none,229,t,[],⟨n,low,o⟩,.no⟩/\t.val 1=.ptr 0 0 0/\t.val 3=.ptr 2 0 0/\t.val 11=ts/\t.val 12=.int .i64 (b.length:Nat)/\t.val 13=.int .i64 (i:Nat)/\o.get 0=some (aR 0 [rn ns fs mm cs os ts us is uu])/\o.get 2=some (aR 0 [.map 1])/\3<=n/\i<=b.length/\(∃x,o.get 1=some x/\aEc dR (b.take i) x)/\uT l b=(rI l (b.take i) (b.drop i)&&(jG l.length).all (lW l b))) (λi=>b.length-i) 0 ⟨_,_,_,_,rfl,aS,aS,aS,aS,oS,xZ,aS,aO,μ _,⟨⟨.map [] 0,xZ,[],0,rfl,rfl,λe he=>by cases he⟩,rfl⟩⟩ ?_;rintro i _ ⟨t,n,low,o,rfl,G,t3,r,f,u,E,g2,hn,hi,c⟩
 have J:=aY (show 0<n by omega);have f2:=aY (show 2<n by omega);rcases Γ i b.length with U|ae;obtain⟨⟨X,g1,N⟩,c⟩:=c;have f1:=aY (show 1<n by omega);obtain⟨y,M,hm,hg,hd,A,hw,hc⟩:=cN (λx h=>tu_int.len h) aa V U;have B:=λ{d:Option AV}=>tu_int.pf M (d:=d);have Y:b.take (i+1)=b.take i++[y]:=by rw[dn,hg];rfl
 have Z:∀y∈b.take i,dR y:=λy hy=>aa y (bv hy);obtain⟨z,rfl⟩:=M;rw[hd,rI,show(AV.int .i64 z).num=z from rfl,<-Y]at c;cases k2:inR z 0 ((l.length:Int)-1)with|false=>rw[pL,k2,θ,θ,θ,θ]at c;exact aTn @G @r @f @u @E @J @H F.iX @A @B @hc w.lX @w1 @aJ @k2 @c|true=>obtain⟨o',ab,_,ag,q,ak,_,_⟩:=rJ tk_ob ah k2;obtain⟨_,_,v,g,rfl,⟨k,rfl⟩,⟨m,rfl⟩,aj,ad⟩:=ab;have cv:=(bU _ aj).2;have cg:=(nQ _ ad).2;have hit:pL l z=decide (k=6):=by{rw[pL,k2,ι,ag];rfl};rw[hit]at c;have T:alookup prog ⟨n,low,o⟩ 393 (.map 1) (.int .i64 z) false=some (.bool ((b.take i).any λy=>decide (y.num=z))):=by{rw[LI (s:=⟨n,low,o⟩) LG ⟨_,rfl⟩ aEd a5c (by rw[hH aO];exact g1) N];congr 2;exact ay.2 (by simp only[Ω];exact TR Z)};by_cases k6:k=6;rw[Ξ k6,ι]at c;cases k3:(b.take i).any λx=>decide (x.num=z)with|true=>rw[k3,d2,θ,θ]at c;simp+contextual+decide(maxSteps:=9^9)only[↓wP,wQ,tf,wS,G,t3,r,f,u,E,g2,J,f2,H,F.idx,A,B,hc,w.len,w.idx,w1,aJ,k2,q,k6,T,k3,c]|false=>{rw[k3,be,ι]at c;obtain⟨X',ai,Q⟩:=LH (P:=prog) (s:=⟨n,low,o⟩) (id:=1) LG ⟨z,rfl⟩ aEd (by rw[hH aO];exact g1) N;have af:AV.int .i64 z∉b.take i:=λh=>by{rw[(TR Z).1 h]at k3;cases k3};rw[Δ af,<-Y]at Q;simp+contextual+decide(maxSteps:=9^9)only[↓wP,wQ,tf,wS,G,t3,r,f,u,E,g2,J,f2,H,F.idx,A,B,hc,w.len,w.idx,w1,aJ,k2,q,k6,T,k3,ai,hw];exact⟨i+1,by show _-_<_-_;omega,_,_,_,_,rfl,bR @G,bR @t3,bR @r,bR @f,aS,ag1 @E,ag1 @g2,aO,U,⟨⟨X',aS,Q⟩,c⟩⟩};rw[φ k6,θ,θ,θ]at c;exact a1f @G @r @f @u @E @J @H F.iX @A @B @hc w.lX w.iX @w1 @aJ @k2 @q @k6 @c
 obtain rfl:i=b.length:=bq hi ae;obtain⟨⟨X,g1,N⟩,c⟩:=c;rw[ct]at N;rw[b6,rI,ι]at c;have ac:∀{low:Nat},S3 (rn ns fs mm cs os ts us is uu) b ⟨n,low,o⟩:=λ{low}=>⟨by rw[hH aO];exact E,by rw[hH aO];exact g2,X,by rw[hH aO];exact g1,N⟩;have he:∀{low:Nat},orcL [entB 129 (λargs s=>args=[tW l.length,JG]/\S3 (rn ns fs mm cs os ts us is uu) b s) λ_=>.bool ((jG l.length).all (lW l b))] 129 [tW l.length,JG] ⟨n,low,o⟩=some (.ret (.bool ((jG l.length).all (lW l b))) none):=λ{low}=>jX ⟨rfl,ac⟩;exact a7c @G @t3 @f @u @E @J @H @cQ w.lX @bW @gQ @he @c
end
abbrev YB:AV:=.func (.func 130) [] []
theorem und_fn{f:FuncId}:UnderE 0 (.func (.func f) [] []):=jP (by intro x a;cases a) (by intro x a;cases a)
abbrev TS(p:AV->Bool):List AV->Option AV:=zN (λa b=>lY a/\b=YB) λa _=>.bool (a.els.all p)
theorem allInts_ok:Abs.Ok prog 129 (TS λx=>tY x.num):=ok2 λa b ⟨c,e⟩=>by subst e;exact a1p (first:=[]) (cap:=[]) (λ_ h=>h) _ und_fn (λx d=>by obtain⟨n,rfl⟩:=d;exact integer_ok _ _ rfl) c
abbrev TT:List AV->Option AV:=xK lY λa=>.bool (mP 50 a.els)
theorem inputs_ok:Abs.Ok prog 76 TT:=DB λa b=>by have d:=(aV a b).1;have e:TS (λx=>tY x.num) [a,YB]=some (.bool (a.els.all λx=>tY x.num)):=sg2_eq ⟨b,rfl⟩;obtain⟨xs,c,f⟩:=b;refine aF (L:=[ent 129 (TS λx=>tY x.num)]) (elist_cons allInts_ok.ent aD) aG iv func76 ntmps76 results76 rfl rfl (aA d.und aC) aI ?_;rw[c.els]at e ⊢;by_cases k1:((xs.length:Nat):Int)<=50;refine UD c.lX @k1 @e ?_;rw[mP,Ξ k1,ι];refine ap2 c.lX @k1 ?_;rw[mP,φ k1];rfl
theorem aMf(x:AV)(b:qD x):Abs.Returns prog 231 ([]++[x]++[]) (.bool (GD x)):=by have a:=(tk_out x b).1;obtain⟨_,_,rfl,⟨p,rfl⟩,⟨v,rfl⟩⟩:=b;show Abs.Returns _ _ [.agg [.int .i64 p,.int .i64 v]] _;have c:GD (.agg [.int .i64 p,.int .i64 v])=(inR p 0 3&&tY v):=rfl;refine aF (L:=[ent 197 kJ,ent 130 CZ]) (elist_cons within_ok.ent (elist_cons integer_ok.ent aD)) aG iv func231 ntmps231 results231 rfl rfl (aA a.und aC) aI ?_;rw[c];cases k1:inR p 0 3 with|false=>exact az2 @aJ @k1|true=>exact az3 @aJ @xY @k1
section
variable {ns fs mm cs os ts us is uu:AV}
def YC(ns cs:List AV)(a no:Int)(o:AV):Bool:=pJ ns cs a no (o.fld 0).num (o.fld 1).num (o.fld 2).els (o.fld 3).els
def BL(ns cs:List AV)(a:Int)(os ts us is:List AV)(n:Int):Bool:=decide ((os.length:Int)<=120)&&(os.all (YC ns cs a os.length)&&(uT os ts&&(decide ((us.length:Int)<=100)&&(us.all GD&&(mP 50 is&&inR n 0 1000000000)))))
abbrev aIx(r:AV):AV:=.func (.func 228) [r] []
abbrev aIy:AV:=.func (.func 231) [] []
abbrev aEe(r:AV)(p:AV->Bool):List AV->Option AV:=zN (λa b=>TSl PJ a/\b=aIx r) λa _=>.bool (a.els.all p)
theorem aMg(h:RW ns fs mm cs os ts us is uu):Abs.Ok prog 227 (aEe (rn ns fs mm cs os ts us is uu) (YC ns.els cs.els fs.els.length os.els.length)):=ok2 λa b ⟨c,e⟩=>by subst e;exact a7e (λ_ h=>h) _ (tX h.und) (λx l=>by obtain⟨_,_,v,g,rfl,⟨k,rfl⟩,⟨n,rfl⟩,f,d⟩:=l;exact FZ h k n v g f d) c
abbrev TU:List AV->Option AV:=zN (λa b=>TSl qD a/\b=aIy) λa _=>.bool (a.els.all GD)
theorem allOuts_ok:Abs.Ok prog 230 TU:=ok2 λa b ⟨c,e⟩=>by subst e;exact a1o (first:=[]) (cap:=[]) (λ_ h=>h) _ und_fn (λx d=>aMf x d) c
abbrev aEf(os ts r:AV):List AV->Option AV:=xK (λa=>a=r/\os.els.length<=1000) λ_=>.bool (uT os.els ts.els)
theorem aMh(h:RW ns fs mm cs os ts us is uu):Abs.Ok prog 229 (aEf os ts (rn ns fs mm cs os ts us is uu)):=DB λa ⟨e,b⟩=>by subst e;exact aSx h b
theorem LJ(h:RW ns fs mm cs os ts us is uu):Abs.Returns prog 142 [rn ns fs mm cs os ts us is uu] (.bool (BL ns.els cs.els fs.els.length os.els ts.els us.els is.els uu.num)):=by
 obtain⟨w,y,A,B,c,C,e,f,o⟩:=h.cells;obtain⟨m,r⟩:=h.uu;have a1:aEe (rn ns fs mm cs os ts us is uu) (YC ns.els cs.els fs.els.length os.els.length) [os,aIx (rn ns fs mm cs os ts us is uu)]=some (.bool (os.els.all (YC ns.els cs.els fs.els.length os.els.length))):=sg2_eq ⟨h.os,rfl⟩;have a2:TU [us,aIy]=some (.bool (us.els.all GD)):=sg2_eq ⟨h.us,rfl⟩;have a3:TT [is]=some (.bool (mP 50 is.els)):=dS h.is;have q:∀x∈[ent 197 kJ,ent 227 (aEe (rn ns fs mm cs os ts us is uu) (YC ns.els cs.els fs.els.length os.els.length)),ent 230 TU,ent 76 TT,ent 229 (aEf os ts (rn ns fs mm cs os ts us is uu))],eB prog x:=elist_cons within_ok.ent (elist_cons (aMg h).ent (elist_cons allOuts_ok.ent (elist_cons inputs_ok.ent (elist_cons (aMh h).ent aD))));refine aF q aG iv func142 ntmps142 results142 rfl rfl (aA h.und.und aC) aI ?_
 have a:BL ns.els cs.els fs.els.length os.els ts.els us.els is.els uu.num=(decide ((os.els.length:Int)<=120)&&(os.els.all (YC ns.els cs.els fs.els.length os.els.length)&&(uT os.els ts.els&&(decide ((us.els.length:Int)<=100)&&(us.els.all GD&&(mP 50 is.els&&inR uu.num 0 1000000000)))))):=rfl;generalize BL ns.els cs.els fs.els.length os.els ts.els us.els is.els uu.num=W at *;subst r;rw[show(AV.int .i64 m).num=m from rfl]at a;obtain⟨k,b,u⟩:=h.os;obtain⟨l,d,v⟩:=h.us;have D:(os.els.length:Int)=k.length:=by rw[b.els]
 have p:(us.els.length:Int)=l.length:=by rw[d.els]
 rw[p]at a;by_cases k1:((k.length:Nat):Int)<=120;have a4:aEf os ts (rn ns fs mm cs os ts us is (.int .i64 m)) [rn ns fs mm cs os ts us is (.int .i64 m)]=some (.bool (uT os.els ts.els)):=dS ⟨rfl,aO⟩;rw[Ξ (show(os.els.length:Int)<=120 by omega),ι]at a;cases k2:os.els.all (YC ns.els cs.els fs.els.length os.els.length)with|false=>rw[k2,θ]at a;simp+contextual+decide(maxSteps:=9^9)only[↓wP,wQ,tf,wS,c,b.len,k1,a1,k2,a]|true=>rw[k2,ι]at a;cases k3:uT os.els ts.els with|false=>rw[k3,θ]at a;simp+contextual+decide(maxSteps:=9^9)only[↓wP,wQ,tf,wS,c,b.len,k1,a1,k2,a4,k3,a]|true=>rw[k3,ι]at a;by_cases k4:((l.length:Nat):Int)<=100;rw[Ξ k4,ι]at a;cases k5:us.els.all GD with|false=>rw[k5,θ]at a;simp+contextual+decide(maxSteps:=9^9)only[↓wP,wQ,tf,wS,c,e,b.len,d.len,k1,a1,k2,a4,k3,k4,a2,k5,a]|true=>{rw[k5,ι]at a;cases k6:mP 50 is.els with|false=>rw[k6,θ]at a;simp+contextual+decide(maxSteps:=9^9)only[↓wP,wQ,tf,wS,c,e,f,b.len,d.len,k1,a1,k2,a4,k3,k4,a2,k5,a3,k6,a]|true=>rw[k6,ι]at a;simp+contextual+decide(maxSteps:=9^9)only[↓wP,wQ,tf,wS,c,e,f,o,b.len,d.len,k1,a1,k2,a4,k3,k4,a2,k5,a3,k6,aJ,a]};rw[φ k4,θ]at a;simp+contextual+decide(maxSteps:=9^9)only[↓wP,wQ,tf,wS,c,e,b.len,d.len,k1,a1,k2,a4,k3,k4,a]
 rw[φ (show¬(os.els.length:Int)<=120 by omega),θ]at a;exact az4 @c b.lX @k1 @a
end
end
end Go.Proofs.YtafciejiffjknaaGreat
namespace Go.Abs
noncomputable section
variable {P:Program} {O:Orc}
theorem xW{b:Operand}{str:Bool}{e:Env}{K:ORes->Prop}:fQ P O (.next b str) e K↔xL (anext e.s (e.eval b) str) K:=by have d:∀n,gO P (aT P O n) (.next b str) e=anext e.s (e.eval b) str:=λ_=>rfl;constructor;rintro⟨n,r,a,c⟩;rw[d]at a;exact⟨r,a,c⟩;rintro⟨r,a,c⟩;exact⟨0,r,by rw[d];exact a,c⟩
theorem LK{t:TypeId}{x:Operand}{e:Env}{K:ORes->Prop}{b:List Nat}(f:P.underlying t=some .string)(k:e.eval x=.str b):fQ P O (.range t x) e K↔K (.val' (.ptr e.s.n 0 0) (e.s.push (.siter b 0))):=by
 have c:∀n,gO P (aT P O n) (.range t x) e=some (.val' (.ptr e.s.n 0 0) (e.s.push (.siter b 0))):=λ_=>by simp only[gO,kR,f,k]
 constructor;rintro⟨n,r,a,d⟩;rw[c]at a;cases a;exact d;intro h;exact⟨0,_,c 0,h⟩
theorem aSy{s:Sto}{id a:Nat}{b:List Nat}(c:s.get id=some (.siter b a))(d:a<b.length): anext s (.ptr id 0 0) true=some (.val' (.tuple [.bool true,.int .i64 (a:Nat),.int .i32 ((Utf8.decode (rX b) a).1:Nat)]) (s.put id (.siter b (a+(Utf8.decode (rX b) a).2)))):=by
 have:Nat.blt a b.length=true:=by simpa using d
 simp only[anext,b5,c,this];rfl
theorem aEg{s:Sto}{id a:Nat}{b:List Nat}(c:s.get id=some (.siter b a))(d:¬a<b.length):anext s (.ptr id 0 0) true=some (.val (.tuple [.bool false])):=by
 have:Nat.blt a b.length=false:=by cases h:Nat.blt a b.length with|false=>rfl|true=>exact absurd (by simpa using h) d
 simp only[anext,b5,c,this,cd]
theorem aMi{b:List Nat}{i:Nat}(e:∀x∈b,x<256)(a:i<b.length):((rX b).get! i).toNat=b.getD i 0:=by
 have c:b.getD i 0=b[i]:=by simp[a]
 have d:(rX b).get! i=UInt8.ofNat b[i]:=by show((b.map UInt8.ofNat).toArray)[i]! = _;simp[a]
 rw[c,d];have:=e _ (bt a);simp;omega
theorem aMj{b:List Nat}{i:Nat}(c:∀x∈b,x<256)(d:i<b.length):(b.getD i 0<128->Utf8.decode (rX b) i=(b.getD i 0,1))/\(128<=b.getD i 0->128<=(Utf8.decode (rX b) i).1):=by have a:=aMi c d;constructor;intro h;simp only[Utf8.decode,dt,a];rw[cm aO];intro h;simp only[Utf8.decode,dt,a];rw[Δ aO];split;split;rename_i h;exact h;simp[Utf8.runeError];split;split;rename_i h;simp only[ε,Ω]at h;simp only;omega;simp[Utf8.runeError];split;split;rename_i h;simp only[ε,Ω]at h;simp only;omega;simp[Utf8.runeError];simp[Utf8.runeError]
end
end Go.Abs
namespace Go.Proofs.YtafciejiffjknaaGreat
open Go.Abs Go Go.Abs.TryzF Tryz
noncomputable section
set_option maxRecDepth 10000
def kH(c:Nat):Bool:=decide (97<=c)&&decide (c<=122)
def iI(l:List Nat):Bool:=l.all kH
theorem HN{c:Nat}{l:List Nat}:iI (c::l)=(kH c&&iI l):=rfl
def iJ(l:List Nat):Bool:=decide (0<l.length)&&decide (l.length<=8)&&decide (65<=l.getD 0 0)&&decide (l.getD 0 0<=90)&&iI (l.drop 1)
theorem bBn:prog.underlying 9=some .string:=iv
abbrev FX(p:List Nat->Bool):List AV->Option AV:=xK nR λa=>.bool (p a.txt)
theorem JH{p:List Nat->Bool}{l:List Nat}(h:nR (.str l)):FX p [.str l]=some (.bool (p l)):=dS h
theorem tsmall_ok:Abs.Ok prog 318 (FX iI):=DB λa F=>by obtain⟨l,rfl,R,G⟩:=F;refine aF (L:=[]) aD aG iv func318 ntmps318 results318 rfl rfl (aA bV aC) aI ?_;show Wk _ _ _ _ _ (jY _ _ (λ_ r=>r=.bool (iI l)) _);have S:∀{t:TypeId}{x:Operand}{e:Env}{K:ORes->Prop},prog.underlying t=some .string->e.eval x=.str l->(fQ prog (orcL []) (.range t x) e K↔K (.val' (.ptr e.s.n 0 0) (e.s.push (.siter l 0)))):=λD E=>LK D E;simp+contextual+decide(maxSteps:=9^9)only[↓wP,wQ,Nat.reduceAdd,ne_eq,LK bBn (b:=l)];refine aN (λi e=>∃t n low o,e=⟨16,none,318,t,[],⟨n,low,o⟩,.no⟩/\t.val 6=.ptr 0 0 0/\o.get 0=some (.siter l i)/\1<=n/\i<=l.length/\iI l=iI (l.drop i)) (λi=>l.length-i) 0 ⟨_,_,_,_,rfl,aS,aS,aO,μ _,rfl⟩ ?_;rintro i _ ⟨t,n,low,o,rfl,k,C,N,M,h⟩;have Q:=aY (show 0<n by omega);have v:(Sto.mk n low o).get 0=some (.siter l i):=by{rw[hH aO];exact C};rcases Γ i l.length with f|u;have d:=aSy v f;obtain⟨A,B⟩:=aMj G f;have J:l.drop i=l.getD i 0::l.drop (i+1):=by{rw[dp f];congr 1;simp[f]};rw[J,HN]at h;by_cases H:l.getD i 0<128;rw[A H]at d;generalize l.getD i 0=c at *;by_cases m:((c:Nat):Int)<97;rw[show kH c=false by simp[kH];omega,θ]at h;exact az5 @k @xW @d @m @h;by_cases q:((c:Nat):Int)> 122;rw[show kH c=false by simp[kH];omega,θ]at h;exact az6 @k @xW @d @m @q @h;rw[show kH c=true by simp[kH];omega,ι]at h;refine ap5 @k @xW @d @m @q ?_;exact⟨i+1,by show _-_<_-_;omega,_,_,_,_,rfl,bR @k,aS,N,f,h⟩;have p:=B aO;rw[show kH (l.getD i 0)=false by unfold kH;rw[φ (show¬l.getD i 0<=122 by omega),bu],θ]at h;generalize(Utf8.decode (rX l) i)=y at *;obtain⟨c,w⟩:=y;simp only at p d;have m:¬((c:Nat):Int)<97:=iu;have q:((c:Nat):Int)> 122:=iu;exact az6 @k @xW @d @m @q @h;obtain rfl:i=l.length:=bq M u;have d:=aEg v (f5 _);rw[b6]at h;refine ap4 @k @xW @d @h ?_;rfl
theorem bIn_ok:Abs.Ok prog 143 kJ:=by intro args v b;unfold kJ at b;split at b<;>cases b;rename_i n l h;refine aF (L:=[]) aD aG iv func143 ntmps143 results143 rfl rfl (aA aH (aA aH (aA aH aC))) aI ?_;by_cases a:l<=n;refine ap1 @a ?_;simp[inR,a];refine ap1 @a ?_;simp[inR,a]
theorem bInteger_ok:Abs.Ok prog 320 CZ:=by intro args v a;unfold CZ at a;split at a<;>cases a;rename_i n;refine aF (L:=[ent 143 kJ]) (elist_cons bIn_ok.ent aD) aG iv func320 ntmps320 results320 rfl rfl (aA aH aC) aI ?_;refine ap1 @aJ ?_;rfl
theorem tgreat_ok:Abs.Ok prog 234 (FX iJ):=DB λa k=>by have p:=k;obtain⟨l,rfl,u,m⟩:=k;refine aF (L:=[ent 318 (FX iI)]) (elist_cons tsmall_ok.ent aD) aG iv func234 ntmps234 results234 rfl rfl (aA bV aC) aI ?_;show Wk _ _ _ _ _ (jY _ _ (λ_ r=>r=.bool (iJ l)) _);cases l with|nil=>refine ap0 ?_;rfl|cons c l=>have A:=m c (χ ..);have v:FX iI [.str l]=some (.bool (iI l)):=JH ⟨l,rfl,by simp at u;omega,λx w=>m x (ν _ w)⟩;have q:iJ (c::l)=(decide (l.length+1<=8)&&decide (65<=c)&&decide (c<=90)&&iI l):=by{simp[iJ]};rw[q];have b:∀{d:Option AV},PL (some 0) (c::l) (.int .i64 0) d=some (.int .u8 (c:Nat)):=JQ aO iw;have f:∀{d:Option AV},BU (some 0) (c::l) (some (.int .i64 1)) none d=some (.str l):=UX aO (by rw[cj];omega);have e:(((l.length+1:Nat):Int)<=8)=(l.length+1<=8):=propext aO;have h:(((c:Nat):Int) ≥ 65)=(65<=c):=propext aO;have y:((65:Int)<=((c:Nat):Int))=(65<=c):=propext aO;have o:(((c:Nat):Int)<=90)=(c<=90):=propext aO;by_cases k1:l.length+1<=8;by_cases k2:65<=c;by_cases k3:c<=90;exact az9 @b @f @e @h @o @k1 @k2 @k3 @v;exact az7 @b @e @h @o @k1 @k2 @k3;exact az5 @b @e @h @k1 @k2;exact az2 @e @k1
