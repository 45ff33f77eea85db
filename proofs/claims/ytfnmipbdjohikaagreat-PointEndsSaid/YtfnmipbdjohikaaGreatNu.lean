/- Lemmas. -/
import Derived.Test.YtfnmipbdjohikaaGreatNq
set_option maxHeartbeats 8000000
namespace Go
abbrev db:=@List.length_eq_zero_iff
end Go
namespace Go.Abs
noncomputable section
def AccV(v:AV)(n:Nat)(o:Tr AObj)(l:List AV):Prop:=(l=[]/\v=.nils)∨(l≠[]/\∃id g,v=.sl id g 0 l.length (.room 1)/\o.get id=some (aP g l)/\id<n)
theorem AccV.new{n id g m:Nat}{o:Tr AObj}{l:List AV}(a:o.get id=some (aP g l))(d:m=l.length)(c:l≠[])(b:id<n):AccV (.sl id g 0 m (.room 1)) n o l:=.inr ⟨c,id,g,by rw[d],a,b⟩
theorem AccV.frz{v:AV}{n low:Nat}{o:Tr AObj}{l:List AV}(h:AccV v n o l)(d:∀x∈l,x.isCell=true)(k:∀x∈l,Und 0 x):Frz ⟨n,low,o⟩ 0 v (if l.length=0 then .nils else .fz l false):=by rcases h with⟨rfl,rfl⟩|⟨f,id,g,rfl,e,a⟩;exact .und _ eM;rw[Φ (λh=>f (db.1 h))];refine xS (g:=g) (cs:=l) (γ _) (by rw[g8 a];exact e) rfl ip d λj x y b c=>?_;rw[φ]at b;rw[b]at c;cases c;exact .und _ (k x (Ψ b))
def bI(l:List AV):AV:=if l.length=0 then .nils else .fz l false
theorem kV{l:List AV}(h:l.length<=9223372036854775807):Sl (bI l) l:=by unfold bI;split;rename_i a;rw[db]at a;subst a;exact⟨.inl ⟨rfl,rfl⟩,γ _⟩;exact⟨.inr ⟨false,rfl⟩,h⟩
open Classical in def lQ:List AV->List AV->List AV|ks,[]=>ks|ks,x::l=>lQ (if x∈ks then ks else ks++[x]) l
theorem aOk{s:Sto}{id:Nat}{K:AV->Prop}{a:List AV}{x:AObj}{d:Option ORes}(b:s.get id=some x)(e:aBa K a x):HK (some 2) s (.map id) d=some (.val (.int .i64 (a.length:Nat))):=by obtain⟨f,c,rfl,rfl,_⟩:=e;simp only[HK,b,ρ]
end
end Go.Abs
namespace Go.Proofs.YtfnmipbdjohikaaGreat
open Go.Abs Go Go.Abs.TryzF Tryz
noncomputable section
set_option maxRecDepth 10000
abbrev aOl:AV:=.func (.func 241) [] []
theorem aAy(x:AV)(b:FD x):Abs.Returns prog 241 ([]++[x]++[]) (x.fld 0):=by have a:=(tk_con x b).1;obtain⟨_,_,rfl,⟨s,rfl,c⟩,⟨n,rfl⟩⟩:=b;show Abs.Returns _ _ [.agg [.str s,.int .i64 n]] (.str s);refine aG (L:=[]) aF aI im func241 ntmps241 results241 rfl rfl (aA a.und aE) eG ?_;simp+contextual+decide(maxSteps:=1000000)only[↓wP,wQ,tf,Nat.reduceAdd,wS]
abbrev aAz:List AV->Option AV:=vX (λa b=>vV a/\a.els.length<=1000/\b=aOl) λa _=>bI (a.els.map (AV.fld 0))
theorem mapped_ok:Abs.Ok prog 240 aAz:=ok2 λa b ⟨V,C,e⟩=>by subst e;have R:=(dA a V).1;obtain⟨xs,E,F⟩:=V;rw[E.els]at C ⊢;have hl:=E.2;refine bV (L:=[NA 241 [] [] FD (AV.fld 0)]) (elist_cons (zE aAy) aF) aI im func240 ntmps240 results240 rfl rfl (aA R.und (aA und_fn.und aE)) ?_;simp+contextual+decide(maxSteps:=1000000)only[↓wP,wQ,tf,wS,E.len];refine aO (λi e=>∃t n low o v,e=⟨22,none,240,t,[],⟨n,low,o⟩,.no⟩/\t.val 1=aOl/\t.val 5=v/\t.val 8=a/\t.val 9=.int .i64 (xs.length:Nat)/\t.val 10=.int .i64 (i:Nat)/\i<=xs.length/\AccV v n o ((xs.take i).map (AV.fld 0))) (λi=>xs.length-i) 0 ⟨_,_,_,_,_,rfl,ir,io,io,io,by simp+decide only[↓aB];rfl,γ _,.inl ⟨rfl,rfl⟩⟩ ?_;rintro i _ ⟨t,n,low,o,v,rfl,H,T,J,G,r,hi,c⟩;rcases ω i xs.length with l|M;obtain⟨x,k,hm,hg,hd,B,Z,X⟩:=bL (λx h=>tk_con.len h) F hl l;have D:=λ{d:Option AV}=>tk_con.pf k (d:=d);have u:=k;have q:(xs.take (i+1)).map (AV.fld 0)=(xs.take i).map (AV.fld 0)++[x.fld 0]:=by{rw[dk,hg];simp};obtain⟨_,_,rfl,⟨s,rfl,Q⟩,⟨m,rfl⟩⟩:=k;have f:(2*(((xs.take i).map (AV.fld 0)).length+1)+1024)*16<=281474976710656/\((xs.take i).map (AV.fld 0)).length+1<4611686018427387904:=by{simp;omega};have w:(AV.agg [.str s,.int .i64 m]).fld 0=.str s:=rfl;have Y:∀{S:Sto},aW [NA 241 [] [] FD (AV.fld 0)] 241 [.agg [.str s,.int .i64 m]] S=some (.ret (.str s) none):=λ{S}=>oB (first:=[]) (cap:=[]) (p:=AV.fld 0) (L:=[]) u;rw[w]at q;generalize(xs.take i).map (AV.fld 0)=L at *;rcases c with⟨U,rfl⟩|⟨U,id,g,rfl,N,A⟩;simp+contextual+decide(maxSteps:=1000000)only[↓wP,wQ,tf,Nat.reduceAdd,wS,H,T,J,G,r,E.idx,B,X,D,Y,dT,Z,Nat.reduceMul];refine⟨i+1,by show _-_<_-_;omega,_,_,_,_,_,rfl,ih @H,by simp+decide only[↓aB];rfl,ih @J,ih @G,io,l,?_⟩;rw[q,U];exact AccV.new (g:=0) (m:=1) (by simp+decide only[↓aB,bC]) rfl ip il;have f3:=bQ A;simp+contextual+decide(maxSteps:=1000000)only[↓wP,wQ,tf,Nat.reduceAdd,wS,H,T,J,G,r,E.idx,B,X,D,Y,dT,f3,N,f,Z,dy,φ];refine⟨i+1,by show _-_<_-_;omega,_,_,_,_,_,rfl,ih @H,by simp+decide only[↓aB];rfl,ih @J,ih @G,io,l,?_⟩;rw[q];exact AccV.new (g:=g+1) io ip ip il;obtain rfl:i=xs.length:=dt hi M;rw[cx]at c;simp+contextual+decide(maxSteps:=1000000)only[↓wP,wQ,wS,T,G,r,bP];refine AccV.frz c (λy hy=>?_) λy hy=>?_;(all_goals obtain⟨z,hz,rfl⟩:=cw.1 hy;obtain⟨_,_,rfl,⟨s,rfl,Q⟩,⟨m,rfl⟩⟩:=F z hz);rfl;exact eG
theorem a0m:nI prog 334=some (.string,4):=im
abbrev aOm:=TSl wE
abbrev HX:List AV->Option AV:=vW aOm λa=>.bool (decide ((lQ [] a.els).length=a.els.length))
theorem differ_ok:Abs.Ok prog 239 HX:=BQ λa D=>by have u:=(kW (FF tu_str) a D).1;obtain⟨xs,f,w⟩:=D;have N:=f.2;refine aG (L:=[]) aF aI im func239 ntmps239 results239 rfl rfl (aA u.und aE) aJ ?_;rw[f.els];simp+contextual+decide(maxSteps:=1000000)only[↓wP,wQ,tf,Nat.reduceAdd,wS,GR,f.len];refine aO (λi e=>∃t n low o X ks,e=⟨21,none,239,t,[],⟨n,low,o⟩,.no⟩/\t.val 0=a/\t.val 3=.map 0/\t.val 7=a/\t.val 8=.int .i64 (xs.length:Nat)/\t.val 9=.int .i64 (i:Nat)/\i<=xs.length/\1<=n/\o.get 0=some X/\aBa wE ks X/\lQ [] xs=lQ ks (xs.drop i)) (λi=>xs.length-i) 0 ⟨_,_,_,_,_,[],rfl,ir,io,io,io,by simp+decide only[↓aB];rfl,γ _,il,io,⟨[],0,rfl,rfl,λe M=>by cases M⟩,rfl⟩ ?_;rintro i _ ⟨t,n,low,o,X,ks,rfl,E,y,F,A,G,hi,Q,B,C,k⟩;have S:=bQ (show 0<n by omega);rcases ω i xs.length with c|m;obtain⟨x,b,U,T,J,p,R,H⟩:=bL (λx h=>tu_str.len h) w N c;have r:=λ{d:Option AV}=>tu_str.pf b (d:=d);obtain⟨X',v,l⟩:=JR (P:=prog) (s:=⟨n,low,o⟩) (id:=0) aOn b a0m (by rw[g8 il];exact B) C;rw[J,lQ]at k;obtain⟨s,rfl,_⟩:=b;simp+contextual+decide(maxSteps:=1000000)only[↓wP,wQ,tf,wS,y,F,A,G,f.idx,p,H,r,v,R];exact⟨i+1,by show _-_<_-_;omega,_,_,_,_,_,_,rfl,ih @E,ih @y,ih @F,ih @A,io,c,Q,io,l,k⟩;obtain rfl:i=xs.length:=dt hi m;rw[Θ,lQ]at k;have q:=λ{d:Option ORes}{low:Nat}=>aOk (s:=⟨n,low,o⟩) (id:=0) (d:=d) (by rw[g8 il];exact B) C;simp+contextual+decide(maxSteps:=1000000)only[↓wP,wQ,tf,wS,E,y,A,G,bP,q,f.len];rw[k];exact ey AV.bool (decide_eq_decide.2 il)
end
end Go.Proofs.YtfnmipbdjohikaaGreat
namespace Go.Abs
noncomputable section
variable {P:Program} {O:bW}
theorem xL{g:FuncId}{args:List AV}{s:Sto}{v:AV}{K:CRes->Prop}{fn:Func}{c:Code}{N:Nat}{f:List ResultVar}(H:dZ)(E:O g args s=none)(d:okFn P g=true)(C:P.funcs[g]?=some fn)(D:fn.ntmps=N)(F:fn.results=f.toArray)(A:fn.body=some c)(y:Nat.ble args.length N=true)(G:v.under s.n 100=true)(h:Wk P O H c ⟨N,none,g,Tr.leaf.lay 0 args,[],⟨s.n,s.n,s.o⟩,.no⟩ (kO P f (λS r=>s.n<=S.low/\r=v) λ_ _=>False))(w:K (.ret v none)):Wcall P O (.func (.func g) [] []) args s K:=by
 have k:([]:List AV)++args++[]=args:=ip
 refine tT (first:=[]) (cap:=[]) (by rw[k];exact E) d C A ?_;rw[k];have B:KK fn g args s .no=⟨N,none,g,Tr.leaf.lay 0 args,[],⟨s.n,s.n,s.o⟩,.no⟩:=jU D y;rw[B];refine h.sound.mono λl e b=>?_;have a:e.ds=[]/\e.r=.no/\AM (bA P e f) (λS r=>s.n<=S.low/\r=v) e.s->Lv P O fn none e (clR s λres _=>K res):=by rintro⟨m,p,vs,q,u,rfl⟩;refine mV m (by rw[F];exact q) ?_;show K (.ret _ (gG s _ e));rw[xW u G p];exact w
 cases l with|normal=>exact a b|ret=>exact a b|panic v=>exact b.2.2.elim|_=>exact b.elim
theorem uI{a:String}{b r:AV}{args:List AV}{s:Sto}{f:FuncId}{K:CRes->Prop}(m:kF P s (.func (.method a) [b] []) args=some (.fn f (r::args)))(l:O f (r::args) s=none)(h:Wcall P O (.func (.func f) [] []) (r::args) s K):Wcall P O (.func (.method a) [b] []) args s K:=by obtain⟨n,res,o,c,k⟩:=h;cases n with|zero=>cases c|succ n=>refine⟨n+1,res,o,?_,k⟩;have d:FU O (.func (.func f) [] []) (r::args) s .no=none:=by{show O f ([]++(r::args)++[]) s=none;simpa using l};have e:FU O (.func (.method a) [b] []) args s .no=none:=rfl;simp only[aU,d,kF]at c;simp only[aU,e,m];simpa using c
theorem tM:NP .nilIface=.nili:=rfl
theorem JO{x:Operand}{a:String}{args:Array Operand}{ts:Array TypeId}{e:Env}{K:ORes->Prop}:fP P O (.call {callee:=.invoke x a,args:=args,argTypes:=ts}) e K↔Wcall P O (.func (.method a) [e.eval x] []) (args.toList.map e.eval) e.s (callK e.s K):=by
 have h:∀n,fR P (aU P O n) (.call {callee:=.invoke x a,args:=args,argTypes:=ts}) e=iT e.s (aU P O n (.func (.method a) [e.eval x] []) (args.toList.map e.eval) e.s .no):=λ_=>rfl;constructor;rintro⟨n,r,b,d⟩;rw[h]at b;cases c:aU P O n (.func (.method a) [e.eval x] []) (args.toList.map e.eval) e.s .no with|none=>rw[c]at b;cases b|some y=>obtain⟨res,k⟩:=y;rw[c]at b;refine⟨n,res,k,c,?_⟩;cases res with|ret v f=>cases f<;>(simp only[iT]at b;cases b;exact d)|pan v f=>cases f<;>(simp only[iT]at b;cases b;exact d)
 rintro⟨n,res,k,c,d⟩;cases res with|ret v f=>{cases f with|none=>exact⟨n,_,by rw[h,c];rfl,d⟩|some s'=>exact⟨n,_,by rw[h,c];rfl,d⟩}|pan v f=>cases f with|none=>exact⟨n,_,by rw[h,c];rfl,d⟩|some s'=>exact⟨n,_,by rw[h,c];rfl,d⟩
end
end Go.Abs
namespace Go.Proofs.YtfnmipbdjohikaaGreat
open Go.Abs Go Go.Abs.TryzF Tryz
noncomputable section
set_option maxRecDepth 10000
inductive KidsK
 | fixed (k:Int)
 | con
 | mat
 | none
def cD(op:Int):KidsK:=if op∈[1,2,3,4,21,25,28]then .fixed 0 else if op∈[5,27,16,17,19,20,23,24,26]then .fixed 1 else if op∈[6,7,9,10,11,12,13,18,22]then .fixed 2 else if op=8 then .fixed 3 else if op=14 then .con else if op=15 then .mat else .none
def vU:KidsK->AV| .fixed k=>.iface 357 (.int .i64 k)| .con=>.iface 358 (.agg [])| .mat=>.iface 338 (.agg [])| .none=>.nili
theorem aVa:ifK prog 357=true:=im
theorem a3u:ifK prog 358=true:=im
theorem aYr:ifK prog 338=true:=im
theorem JP(k:Int):k=1∨k=2∨k=3∨k=4∨k=5∨k=6∨k=7∨k=8∨k=9∨k=10∨k=11∨k=12∨k=13∨k=14∨k=15∨k=16∨k=17∨k=18∨k=19∨k=20∨k=21∨k=22∨k=23∨k=24∨k=25∨k=26∨k=27∨k=28∨(k≠1/\k≠2/\k≠3/\k≠4/\k≠5/\k≠6/\k≠7/\k≠8/\k≠9/\k≠10/\k≠11/\k≠12/\k≠13/\k≠14/\k≠15/\k≠16/\k≠17/\k≠18/\k≠19/\k≠20/\k≠21/\k≠22/\k≠23/\k≠24/\k≠25/\k≠26/\k≠27/\k≠28):=il
theorem aIi(k:KidsK):Und 0 (vU k):=by cases k with|fixed k=>exact(mW ⟨1,rfl⟩:UnderE 0 _).und|con=>exact(mW ⟨2,rfl⟩:UnderE 0 _).und|mat=>exact(mW ⟨2,rfl⟩:UnderE 0 _).und|none=>intro σ V h;cases h;exact .nili
abbrev RC:List AV->Option AV:=vW dF λa=>vU (cD a.num)
theorem kidsOf_ok:Abs.Ok prog 293 RC:=BQ λa b=>by obtain⟨k,rfl⟩:=b;refine aG (L:=[]) aF aI im func293 ntmps293 results293 rfl rfl (aA aQ aE) (aIi _) ?_;show Wk _ _ _ _ _ (kO _ _ (λ_ r=>r=vU (cD k)) _);rcases JP k with rfl|rfl|rfl|rfl|rfl|rfl|rfl|rfl|rfl|rfl|rfl|rfl|rfl|rfl|rfl|rfl|rfl|rfl|rfl|rfl|rfl|rfl|rfl|rfl|rfl|rfl|rfl|rfl|h;(case inr.inr.inr.inr.inr.inr.inr.inr.inr.inr.inr.inr.inr.inr.inr.inr.inr.inr.inr.inr.inr.inr.inr.inr.inr.inr.inr.inr=>simp+contextual+decide(maxSteps:=1000000)only[↓wP,wQ,wS,h,tM];simp[cD,h,vU]);all_goals simp+contextual+decide(maxSteps:=1000000)only[↓wP,wQ,tf,wS,tM,WB,ID aVa,ID a3u,ID aYr];rfl
theorem aVb{s:Sto}{k:Int}{args:List AV}:kF prog s (.func (.method "hearth/bind.fine") [.iface 357 (.int .i64 k)] []) args=some (.fn 400 (.int .i64 k::args)):=im
theorem a3v{s:Sto}{args:List AV}:kF prog s (.func (.method "hearth/bind.fine") [.iface 358 (.agg [])] []) args=some (.fn 401 (.agg []::args)):=im
theorem a3w{s:Sto}{args:List AV}:kF prog s (.func (.method "hearth/bind.fine") [.iface 338 (.agg [])] []) args=some (.fn 399 (.agg []::args)):=im
def oW(cs:List AV)(n a pl:Int):KidsK->Bool| .fixed k=>decide (a=k)| .con=>inR n 0 ((cs.length:Int)-1)&&decide (a=((cs.getD n.toNat .top).fld 1).num)| .mat=>inR pl 1 5&&decide (a=1+pl)| .none=>false
section
variable {ns fs mm cs ki pa:AV} {op n:Int}
structure PG (ns fs mm cs:AV):Prop where
 ns:TSl gI ns
 fs:dJ fs
 mm:dF mm
 cs:vV cs
theorem PG.cells(h:PG ns fs mm cs):ns.isCell=true/\fs.isCell=true/\mm.isCell=true/\cs.isCell=true:=⟨(cT _ h.ns).2,(aL _ h.fs).2,(tu_int _ h.mm).2,(dA _ h.cs).2⟩
theorem PG.und(h:PG ns fs mm cs):UnderE 0 (pg ns fs mm cs):=(eF _ ⟨_,_,_,_,rfl,h.ns,h.fs,h.mm,h.cs⟩).1
theorem aIj{L:List iA}(C:∀a s,aW L 400 a s=none)(D:∀a s,aW L 401 a s=none)(E:∀a s,aW L 399 a s=none)(e:∀{n l h:Int}{s:Sto},aW L 236 [.int .i64 n,.int .i64 l,.int .i64 h] s=some (.ret (.bool (inR n l h)) none))(h:PG ns fs mm cs)(N:dJ ki)(Q:TSl BP pa)(k:KidsK)(M:k≠.none)(s:Sto){K:CRes->Prop}(G:K (.ret (.bool (oW cs.els n ki.els.length pa.els.length k)) none)):Wcall prog (aW L) (.func (.method "hearth/bind.fine") [vU k] []) [pg ns fs mm cs,.agg [.int .i64 op,.int .i64 n,ki,pa]] s K:=by
 obtain⟨q,u,v,w⟩:=h.cells;have A:=(aL _ N).2;have B:=(iN _ Q).2;obtain⟨xk,d,_⟩:=N;obtain⟨F,f,_⟩:=Q;obtain⟨Z,c,H⟩:=h.cs;have S:=cP c.2;have U:=f.2;rw[d.els,f.els,c.els]at G
 cases k with|none=>exact absurd rfl M|fixed k=>refine uI aVb (C _ _) (xL aI (C _ _) im func400 ntmps400 results400 rfl rfl rfl ?_ G);obtain⟨n0,o,R⟩:=s;simp+contextual+decide(maxSteps:=1000000)only[↓wP,wQ,tf,Nat.reduceAdd,wS,q,u,v,w,A,B,dT,d.len,κ,oW]|con=>{refine uI a3v (D _ _) (xL (λr=>(bif Nat.beq r 1 then[7]else[],[])) (D _ _) im func401 ntmps401 results401 rfl rfl rfl ?_ G);obtain⟨n0,o,R⟩:=s;cases p:inR n 0 ((Z.length:Int)-1)with|false=>simp+contextual+decide(maxSteps:=1000000)only[↓wP,wQ,tf,Nat.reduceAdd,wS,q,u,v,w,A,B,dT,c.len,c.stab,S,e,p,κ,oW]|true=>obtain⟨y,T,_,X,J,V,_,_⟩:=qU tk_con H p;obtain⟨_,_,rfl,⟨b,rfl,_⟩,⟨m,rfl⟩⟩:=T;simp+contextual+decide(maxSteps:=1000000)only[↓wP,wQ,tf,Nat.reduceAdd,wS,q,u,v,w,A,B,dT,c.len,c.idx,c.stab,S,e,p,J,d.len,d.stab,κ,oW,X,AV.fld,AV.num,ae,af]}|mat=>refine uI a3w (E _ _) (xL aI (E _ _) im func399 ntmps399 results399 rfl rfl rfl ?_ G);obtain⟨n0,o,R⟩:=s;cases p:inR (F.length:Nat) 1 5 with|false=>simp+contextual+decide(maxSteps:=1000000)only[↓wP,wQ,tf,Nat.reduceAdd,wS,q,u,v,w,A,B,dT,f.len,e,p,κ,oW]|true=>have hb:1<=((F.length:Nat):Int)/\((F.length:Nat):Int)<=5:=by{simpa[inR]using p};have Y:IntKind.i64.wrap (1+((F.length:Nat):Int))=1+((F.length:Nat):Int):=dv _ il;simp+contextual+decide(maxSteps:=1000000)only[↓wP,wQ,tf,Nat.reduceAdd,wS,q,u,v,w,A,B,dT,f.len,d.len,e,p,Y,κ,oW]
def bK(nf op n:Int):Bool:=if op=1 then tR n else if op=2 then inR n 0 1 else if op=24 then inR n 0 3 else if op=4 then inR n (-nf) 29 else if op=14 then true else decide (n=0)
abbrev lJ:List AV->Option AV:=vX (λa b=>gJ a/\gI b) λa b=>.bool (bK (a.fld 1).els.length (b.fld 0).num (b.fld 1).num)
theorem number_ok:Abs.Ok prog 297 lJ:=ok2 λa b ⟨p,q⟩=>by have m:=(eF a p).1;have o:=(tk_node b q).1;obtain⟨ns,fs,mm,cs,rfl,a1,a2,a3,a4⟩:=p;obtain⟨_,_,_,_,rfl,⟨op,rfl⟩,⟨n,rfl⟩,v,w⟩:=q;have c:=(cT _ a1).2;have d:=(aL _ a2).2;have e:=(tu_int _ a3).2;have f:=(dA _ a4).2;have h:=(aL _ v).2;have k:=(iN _ w).2;obtain⟨u,l,_⟩:=a2;have A:=l.2;refine aG (L:=[ent 236 kM,ent 350 CU]) (elist_cons bIn_ok.ent (elist_cons bInteger_ok.ent aF)) aI im func297 ntmps297 results297 rfl rfl (aA m.und (aA o.und aE)) aJ ?_;show Wk _ _ _ _ _ (kO _ _ (λ_ r=>r=.bool (bK fs.els.length op n)) _);rw[l.els];have y:IntKind.i64.wrap (0-((u.length:Nat):Int))=-((u.length:Nat):Int):=by{rw[dv _ il];omega};by_cases k1:op=1;simp+contextual+decide(maxSteps:=1000000)only[↓wP,wQ,tf,Nat.reduceAdd,wS,c,d,e,f,h,k,k1,xO];simp+decide only[wT,bK];by_cases k2:op=2;simp+contextual+decide(maxSteps:=1000000)only[↓wP,wQ,tf,Nat.reduceAdd,wS,c,d,e,f,h,k,k2,aM];simp+decide only[wT,bK];by_cases k3:op=24;simp+contextual+decide(maxSteps:=1000000)only[↓wP,wQ,tf,Nat.reduceAdd,wS,c,d,e,f,h,k,k3,aM];simp+decide only[wT,bK];by_cases k4:op=4;simp+contextual+decide(maxSteps:=1000000)only[↓wP,wQ,tf,Nat.reduceAdd,wS,c,d,e,f,h,k,k4,aM,l.len,y];simp+decide only[wT,bK];by_cases k5:op=14;simp+contextual+decide(maxSteps:=1000000)only[↓wP,wQ,tf,Nat.reduceAdd,wS,c,d,e,f,h,k,k5];simp+decide only[wT,bK];simp+contextual+decide(maxSteps:=1000000)only[↓wP,wQ,tf,Nat.reduceAdd,wS,c,d,e,f,h,k,k1,k2,k3,k4,k5];simp+decide only[wT,bK,k1,k2,k3,k4,k5]
