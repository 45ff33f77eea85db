/-.-/
import Derived.Test.YtafciejiffjknaaGreatNq
set_option maxHeartbeats 8000000
namespace Go
abbrev az:=@List.length_eq_zero_iff
abbrev ej:=@decide_eq_decide
end Go
namespace Go.Abs
noncomputable section
def AccV(v:AV)(n:Nat)(o:Tr AObj)(l:List AV):Prop:=(l=[]/\v=.nils)∨(l≠[]/\∃id g,v=.sl id g 0 l.length (.room 1)/\o.get id=some (aR g l)/\id<n)
theorem AccV.new{n id g m:Nat}{o:Tr AObj}{l:List AV}(a:o.get id=some (aR g l))(d:m=l.length)(c:l≠[])(b:id<n):AccV (.sl id g 0 m (.room 1)) n o l:=.inr ⟨c,id,g,by rw[d],a,b⟩
theorem AccV.frz{v:AV}{n low:Nat}{o:Tr AObj}{l:List AV}(h:AccV v n o l)(d:∀x∈l,x.isCell=true)(k:∀x∈l,Und 0 x):Frz ⟨n,low,o⟩ 0 v (if l.length=0 then .nils else .fz l false):=by rcases h with⟨rfl,rfl⟩|⟨f,id,g,rfl,e,a⟩;exact .und _ fC;rw[Δ (λh=>f (az.1 h))];refine yF (g:=g) (cs:=l) (μ _) (by rw[hH a];exact e) rfl iw d λj x y b c=>?_;rw[ξ]at b;rw[b]at c;cases c;exact .und _ (k x (Θ b))
def pV(l:List AV):AV:=if l.length=0 then .nils else .fz l false
theorem XZ{l:List AV}(h:l.length<=9223372036854775807):Sl (pV l) l:=by unfold pV;split;rename_i a;rw[az]at a;subst a;exact⟨.inl ⟨rfl,rfl⟩,μ _⟩;exact⟨.inr ⟨false,rfl⟩,h⟩
open Classical in def lJ:List AV->List AV->List AV|ks,[]=>ks|ks,x::l=>lJ (if x∈ks then ks else ks++[x]) l
theorem aSu{s:Sto}{id:Nat}{K:AV->Prop}{a:List AV}{x:AObj}{d:Option ORes}(b:s.get id=some x)(e:aEc K a x):DK (some 2) s (.map id) d=some (.val (.int .i64 (a.length:Nat))):=by obtain⟨f,c,rfl,rfl,_⟩:=e;simp only[DK,b,ψ]
end
end Go.Abs
namespace Go.Proofs.YtafciejiffjknaaGreat
open Go.Abs Go Go.Abs.TryzF Tryz
noncomputable section
set_option maxRecDepth 10000
abbrev aSv:AV:=.func (.func 148) [] []
theorem aEa(x:AV)(b:GC x):Abs.Returns prog 148 ([]++[x]++[]) (x.fld 0):=by have a:=(tk_con x b).1;obtain⟨_,_,rfl,⟨s,rfl,c⟩,⟨n,rfl⟩⟩:=b;show Abs.Returns _ _ [.agg [.str s,.int .i64 n]] (.str s);refine aF (L:=[]) aD aG iv func148 ntmps148 results148 rfl rfl (aA a.und aC) bV ?_;exact az0
abbrev aEb:List AV->Option AV:=zN (λa b=>wZ a/\a.els.length<=1000/\b=aSv) λa _=>pV (a.els.map (AV.fld 0))
theorem mapped_ok:Abs.Ok prog 147 aEb:=ok2 λa b ⟨V,C,e⟩=>by subst e;have R:=(dZ a V).1;obtain⟨xs,E,F⟩:=V;rw[E.els]at C ⊢;have hl:=E.2;refine jO (L:=[aUh 148 [] [] GC (AV.fld 0)]) (elist_cons (DC aEa) aD) aG iv func147 ntmps147 results147 rfl rfl (aA R.und (aA und_fn.und aC)) ?_;refine ap1 E.lX ?_;refine aN (λi e=>∃t n low o v,e=⟨22,none,147,t,[],⟨n,low,o⟩,.no⟩/\t.val 1=aSv/\t.val 5=v/\t.val 8=a/\t.val 9=.int .i64 (xs.length:Nat)/\t.val 10=.int .i64 (i:Nat)/\i<=xs.length/\AccV v n o ((xs.take i).map (AV.fld 0))) (λi=>xs.length-i) 0 ⟨_,_,_,_,_,rfl,aS,aS,aS,aS,oS,μ _,.inl ⟨rfl,rfl⟩⟩ ?_;rintro i _ ⟨t,n,low,o,v,rfl,H,T,J,G,r,hi,c⟩;rcases Γ i xs.length with l|M;obtain⟨x,k,hm,hg,hd,B,Z,X⟩:=cN (λx h=>tk_con.len h) F hl l;have D:=λ{d:Option AV}=>tk_con.pf k (d:=d);have u:=k;have q:(xs.take (i+1)).map (AV.fld 0)=(xs.take i).map (AV.fld 0)++[x.fld 0]:=by{rw[dn,hg];simp};obtain⟨_,_,rfl,⟨s,rfl,Q⟩,⟨m,rfl⟩⟩:=k;have f:(2*(((xs.take i).map (AV.fld 0)).length+1)+1024)*16<=281474976710656/\((xs.take i).map (AV.fld 0)).length+1<4611686018427387904:=by{simp;omega};have w:(AV.agg [.str s,.int .i64 m]).fld 0=.str s:=rfl;have Y:∀{S:Sto},orcL [aUh 148 [] [] GC (AV.fld 0)] 148 [.agg [.str s,.int .i64 m]] S=some (.ret (.str s) none):=λ{S}=>qQ (first:=[]) (cap:=[]) (p:=AV.fld 0) (L:=[]) u;rw[w]at q;generalize(xs.take i).map (AV.fld 0)=L at *;rcases c with⟨U,rfl⟩|⟨U,id,g,rfl,N,A⟩;refine GA @H @T @J @G @r E.iX @B @X @D @Y @cX @Z ?_;refine⟨i+1,by show _-_<_-_;omega,_,_,_,_,_,rfl,bR @H,oS,bR @J,bR @G,aS,l,?_⟩;rw[q,U];exact AccV.new (g:=0) (m:=1) (aS) rfl iw aO;have f3:=aY A;refine aTj @H @T @J @G @r E.iX @B @X @D @Y @cX @f3 @N @f @Z @co @ξ ?_;refine⟨i+1,by show _-_<_-_;omega,_,_,_,_,_,rfl,bR @H,oS,bR @J,bR @G,aS,l,?_⟩;rw[q];exact AccV.new (g:=g+1) (aS) iw iw aO;obtain rfl:i=xs.length:=bq hi M;rw[ct]at c;refine ap4 @T @G @r @cQ ?_;refine AccV.frz c (λy hy=>?_) λy hy=>?_;(all_goals obtain⟨z,hz,rfl⟩:=cn.1 hy;obtain⟨_,_,rfl,⟨s,rfl,Q⟩,⟨m,rfl⟩⟩:=F z hz);rfl;exact bV
theorem a6x:mZ prog 330=some (.string,4):=iv
abbrev pW:=TSl nR
abbrev JF:List AV->Option AV:=xK pW λa=>.bool (decide ((lJ [] a.els).length=a.els.length))
theorem differ_ok:Abs.Ok prog 146 JF:=DB λa D=>by have u:=(jM (BP tu_str) a D).1;obtain⟨xs,f,w⟩:=D;have Q:=f.2;refine aF (L:=[]) aD aG iv func146 ntmps146 results146 rfl rfl (aA u.und aC) aI ?_;rw[f.els];refine ap2 @HT f.lX ?_;refine aN (λi e=>∃t n low o X ks,e=⟨21,none,146,t,[],⟨n,low,o⟩,.no⟩/\t.val 0=a/\t.val 3=.map 0/\t.val 7=a/\t.val 8=.int .i64 (xs.length:Nat)/\t.val 9=.int .i64 (i:Nat)/\i<=xs.length/\1<=n/\o.get 0=some X/\aEc nR ks X/\lJ [] xs=lJ ks (xs.drop i)) (λi=>xs.length-i) 0 ⟨_,_,_,_,_,[],rfl,aS,aS,aS,aS,oS,μ _,aO,aS,⟨[],0,rfl,rfl,λe M=>by cases M⟩,rfl⟩ ?_;rintro i _ ⟨t,n,low,o,X,ks,rfl,E,y,F,A,G,N,R,B,C,k⟩;have T:=aY (show 0<n by omega);rcases Γ i xs.length with c|m;obtain⟨x,b,V,U,J,p,S,H⟩:=cN (λx h=>tu_str.len h) w Q c;have r:=λ{d:Option AV}=>tu_str.pf b (d:=d);obtain⟨X',v,l⟩:=LH (P:=prog) (s:=⟨n,low,o⟩) (id:=0) aSw b a6x (by rw[hH aO];exact B) C;rw[J,lJ]at k;obtain⟨s,rfl,_⟩:=b;refine LU @y @F @A @G f.iX @p @H @r @v @S ?_;exact⟨i+1,by show _-_<_-_;omega,_,_,_,_,_,_,rfl,bR @E,bR @y,bR @F,bR @A,aS,c,R,aS,l,k⟩;obtain rfl:i=xs.length:=bq N m;rw[b6,lJ]at k;have q:=λ{d:Option ORes}{low:Nat}=>aSu (s:=⟨n,low,o⟩) (id:=0) (d:=d) (by rw[hH aO];exact B) C;refine ap7 @E @y @A @G @cQ @q f.lX ?_;rw[k];exact de AV.bool (ej.2 aO)
end
end Go.Proofs.YtafciejiffjknaaGreat
namespace Go.Abs
noncomputable section
variable {P:Program} {O:Orc}
theorem xV{g:FuncId}{args:List AV}{s:Sto}{v:AV}{K:CRes->Prop}{fn:Func}{c:Code}{N:Nat}{f:List ResultVar}(H:eY)(E:O g args s=none)(d:okFn P g=true)(C:P.funcs[g]?=some fn)(D:fn.ntmps=N)(F:fn.results=f.toArray)(A:fn.body=some c)(y:Nat.ble args.length N=true)(G:v.under s.n 100=true)(h:Wk P O H c ⟨N,none,g,Tr.leaf.lay 0 args,[],⟨s.n,s.n,s.o⟩,.no⟩ (jY P f (λS r=>s.n<=S.low/\r=v) λ_ _=>False))(w:K (.ret v none)):Wcall P O (.func (.func g) [] []) args s K:=by
 have k:([]:List AV)++args++[]=args:=iw
 refine nU (first:=[]) (cap:=[]) (by rw[k];exact E) d C A ?_;rw[k];have B:MH fn g args s .no=⟨N,none,g,Tr.leaf.lay 0 args,[],⟨s.n,s.n,s.o⟩,.no⟩:=mS D y;rw[B];refine h.sound.mono λl e b=>?_;have a:e.ds=[]/\e.r=.no/\DQ (bA P e f) (λS r=>s.n<=S.low/\r=v) e.s->Lv P O fn none e (clR s λres _=>K res):=by rintro⟨m,p,vs,q,u,rfl⟩;refine mR m (by rw[F];exact q) ?_;show K (.ret _ (eN s _ e));rw[sJ u G p];exact w
 cases l with|normal=>exact a b|ret=>exact a b|panic v=>exact b.2.2.elim|_=>exact b.elim
theorem uS{a:String}{b r:AV}{args:List AV}{s:Sto}{f:FuncId}{K:CRes->Prop}(m:kB P s (.func (.method a) [b] []) args=some (.fn f (r::args)))(l:O f (r::args) s=none)(h:Wcall P O (.func (.func f) [] []) (r::args) s K):Wcall P O (.func (.method a) [b] []) args s K:=by obtain⟨n,res,o,c,k⟩:=h;cases n with|zero=>cases c|succ n=>refine⟨n+1,res,o,?_,k⟩;have d:GP O (.func (.func f) [] []) (r::args) s .no=none:=by{show O f ([]++(r::args)++[]) s=none;simpa using l};have e:GP O (.func (.method a) [b] []) args s .no=none:=rfl;simp only[aT,d,kB]at c;simp only[aT,e,m];simpa using c
theorem tU:RQ .nilIface=.nili:=rfl
theorem LE{x:Operand}{a:String}{args:Array Operand}{l:Array TypeId}{e:Env}{K:ORes->Prop}:fQ P O (.call {callee:=.invoke x a,args:=args,argTypes:=l}) e K↔Wcall P O (.func (.method a) [e.eval x] []) (args.toList.map e.eval) e.s (callK e.s K):=by
 have h:∀n,gO P (aT P O n) (.call {callee:=.invoke x a,args:=args,argTypes:=l}) e=iN e.s (aT P O n (.func (.method a) [e.eval x] []) (args.toList.map e.eval) e.s .no):=λ_=>rfl;constructor;rintro⟨n,r,b,d⟩;rw[h]at b;cases c:aT P O n (.func (.method a) [e.eval x] []) (args.toList.map e.eval) e.s .no with|none=>rw[c]at b;cases b|some y=>obtain⟨res,k⟩:=y;rw[c]at b;refine⟨n,res,k,c,?_⟩;cases res with|ret v f=>cases f<;>(simp only[iN]at b;cases b;exact d)|pan v f=>cases f<;>(simp only[iN]at b;cases b;exact d)
 rintro⟨n,res,k,c,d⟩;cases res with|ret v f=>{cases f with|none=>exact⟨n,_,by rw[h,c];rfl,d⟩|some m=>exact⟨n,_,by rw[h,c];rfl,d⟩}|pan v f=>cases f with|none=>exact⟨n,_,by rw[h,c];rfl,d⟩|some m=>exact⟨n,_,by rw[h,c];rfl,d⟩
end
end Go.Abs
namespace Go.Proofs.YtafciejiffjknaaGreat
open Go.Abs Go Go.Abs.TryzF Tryz
noncomputable section
set_option maxRecDepth 10000
inductive KidsK
 | fixed (k:Int)
 | con
 | mat
 | none
def cG(op:Int):KidsK:=if op∈[1,2,3,4,21,25,28]then .fixed 0 else if op∈[5,27,16,17,19,20,23,24,26]then .fixed 1 else if op∈[6,7,9,10,11,12,13,18,22]then .fixed 2 else if op=8 then .fixed 3 else if op=14 then .con else if op=15 then .mat else .none
def wY:KidsK->AV| .fixed k=>.iface 398 (.int .i64 k)| .con=>.iface 399 (.agg [])| .mat=>.iface 334 (.agg [])| .none=>.nili
theorem a0t:ifK prog 398=true:=iv
theorem bBk:ifK prog 399=true:=iv
theorem a5b:ifK prog 334=true:=iv
theorem LF(k:Int):k=1∨k=2∨k=3∨k=4∨k=5∨k=6∨k=7∨k=8∨k=9∨k=10∨k=11∨k=12∨k=13∨k=14∨k=15∨k=16∨k=17∨k=18∨k=19∨k=20∨k=21∨k=22∨k=23∨k=24∨k=25∨k=26∨k=27∨k=28∨(k≠1/\k≠2/\k≠3/\k≠4/\k≠5/\k≠6/\k≠7/\k≠8/\k≠9/\k≠10/\k≠11/\k≠12/\k≠13/\k≠14/\k≠15/\k≠16/\k≠17/\k≠18/\k≠19/\k≠20/\k≠21/\k≠22/\k≠23/\k≠24/\k≠25/\k≠26/\k≠27/\k≠28):=iu
theorem aMc(k:KidsK):Und 0 (wY k):=by cases k with|fixed k=>exact(qF ⟨1,rfl⟩:UnderE 0 _).und|con=>exact(qF ⟨2,rfl⟩:UnderE 0 _).und|mat=>exact(qF ⟨2,rfl⟩:UnderE 0 _).und|none=>intro σ V h;cases h;exact .nili
abbrev TQ:List AV->Option AV:=xK dR λa=>wY (cG a.num)
theorem kidsOf_ok:Abs.Ok prog 237 TQ:=DB λa b=>by obtain⟨k,rfl⟩:=b;refine aF (L:=[]) aD aG iv func237 ntmps237 results237 rfl rfl (aA aH aC) (aMc _) ?_;show Wk _ _ _ _ _ (jY _ _ (λ_ r=>r=wY (cG k)) _);rcases LF k with rfl|rfl|rfl|rfl|rfl|rfl|rfl|rfl|rfl|rfl|rfl|rfl|rfl|rfl|rfl|rfl|rfl|rfl|rfl|rfl|rfl|rfl|rfl|rfl|rfl|rfl|rfl|rfl|h;(case inr.inr.inr.inr.inr.inr.inr.inr.inr.inr.inr.inr.inr.inr.inr.inr.inr.inr.inr.inr.inr.inr.inr.inr.inr.inr.inr.inr=>refine ap2 @h @tU ?_;simp[cG,h,wY]);all_goals simp+contextual+decide(maxSteps:=9^9)only[↓wP,wQ,tf,wS,tU,YO,JM a0t,JM bBk,JM a5b];rfl
theorem a0u{s:Sto}{k:Int}{args:List AV}:kB prog s (.func (.method "hearth/bind.fine") [.iface 398 (.int .i64 k)] []) args=some (.fn 447 (.int .i64 k::args)):=iv
theorem bBl{s:Sto}{args:List AV}:kB prog s (.func (.method "hearth/bind.fine") [.iface 399 (.agg [])] []) args=some (.fn 448 (.agg []::args)):=iv
theorem bBm{s:Sto}{args:List AV}:kB prog s (.func (.method "hearth/bind.fine") [.iface 334 (.agg [])] []) args=some (.fn 446 (.agg []::args)):=iv
def oQ(cs:List AV)(n a pl:Int):KidsK->Bool| .fixed k=>decide (a=k)| .con=>inR n 0 ((cs.length:Int)-1)&&decide (a=((cs.getD n.toNat .top).fld 1).num)| .mat=>inR pl 1 5&&decide (a=1+pl)| .none=>false
section
variable {ns fs mm cs ki pa:AV} {op n:Int}
structure PG (ns fs mm cs:AV):Prop where
 ns:TSl gM ns
 fs:lY fs
 mm:dR mm
 cs:wZ cs
theorem PG.cells(h:PG ns fs mm cs):ns.isCell=true/\fs.isCell=true/\mm.isCell=true/\cs.isCell=true:=⟨(dU _ h.ns).2,(aV _ h.fs).2,(tu_int _ h.mm).2,(dZ _ h.cs).2⟩
theorem PG.und(h:PG ns fs mm cs):UnderE 0 (pg ns fs mm cs):=(eA _ ⟨_,_,_,_,rfl,h.ns,h.fs,h.mm,h.cs⟩).1
theorem aMd{L:List jF}(C:∀a s,orcL L 447 a s=none)(D:∀a s,orcL L 448 a s=none)(E:∀a s,orcL L 446 a s=none)(e:∀{n l h:Int}{s:Sto},orcL L 143 [.int .i64 n,.int .i64 l,.int .i64 h] s=some (.ret (.bool (inR n l h)) none))(h:PG ns fs mm cs)(N:lY ki)(Q:TSl BO pa)(k:KidsK)(M:k≠.none)(s:Sto){K:CRes->Prop}(G:K (.ret (.bool (oQ cs.els n ki.els.length pa.els.length k)) none)):Wcall prog (orcL L) (.func (.method "hearth/bind.fine") [wY k] []) [pg ns fs mm cs,.agg [.int .i64 op,.int .i64 n,ki,pa]] s K:=by
 obtain⟨q,u,v,w⟩:=h.cells;have A:=(aV _ N).2;have B:=(iK _ Q).2;obtain⟨xk,d,_⟩:=N;obtain⟨F,f,_⟩:=Q;obtain⟨Z,c,H⟩:=h.cs;have S:=cY c.2;have U:=f.2;rw[d.els,f.els,c.els]at G
 cases k with|none=>exact absurd rfl M|fixed k=>refine uS a0u (C _ _) (xV aG (C _ _) iv func447 ntmps447 results447 rfl rfl rfl ?_ G);obtain⟨n0,o,R⟩:=s;simp+contextual+decide(maxSteps:=9^9)only[↓wP,wQ,tf,Nat.reduceAdd,wS,q,u,v,w,A,B,cX,d.len,δ,oQ]|con=>{refine uS bBl (D _ _) (xV (λr=>(bif Nat.beq r 1 then[7]else[],[])) (D _ _) iv func448 ntmps448 results448 rfl rfl rfl ?_ G);obtain⟨n0,o,R⟩:=s;cases p:inR n 0 ((Z.length:Int)-1)with|false=>simp+contextual+decide(maxSteps:=9^9)only[↓wP,wQ,tf,Nat.reduceAdd,wS,q,u,v,w,A,B,cX,c.len,c.stab,S,e,p,δ,oQ]|true=>obtain⟨y,T,_,X,J,V,_,_⟩:=rJ tk_con H p;obtain⟨_,_,rfl,⟨b,rfl,_⟩,⟨m,rfl⟩⟩:=T;simp+contextual+decide(maxSteps:=9^9)only[↓wP,wQ,tf,Nat.reduceAdd,wS,q,u,v,w,A,B,cX,c.len,c.idx,c.stab,S,e,p,J,d.len,d.stab,δ,oQ,X,AV.fld,AV.num,bd,eg]}|mat=>refine uS bBm (E _ _) (xV aG (E _ _) iv func446 ntmps446 results446 rfl rfl rfl ?_ G);obtain⟨n0,o,R⟩:=s;cases p:inR (F.length:Nat) 1 5 with|false=>simp+contextual+decide(maxSteps:=9^9)only[↓wP,wQ,tf,Nat.reduceAdd,wS,q,u,v,w,A,B,cX,f.len,e,p,δ,oQ]|true=>have hb:1<=((F.length:Nat):Int)/\((F.length:Nat):Int)<=5:=by{simpa[inR]using p};have Y:IntKind.i64.wrap (1+((F.length:Nat):Int))=1+((F.length:Nat):Int):=ω _ aO;simp+contextual+decide(maxSteps:=9^9)only[↓wP,wQ,tf,Nat.reduceAdd,wS,q,u,v,w,A,B,cX,f.len,d.len,e,p,Y,δ,oQ]
def bC(nf op n:Int):Bool:=if op=1 then tY n else if op=2 then inR n 0 1 else if op=24 then inR n 0 3 else if op=4 then inR n (-nf) 29 else if op=14 then true else decide (n=0)
abbrev lC:List AV->Option AV:=zN (λa b=>fR a/\gM b) λa b=>.bool (bC (a.fld 1).els.length (b.fld 0).num (b.fld 1).num)
theorem number_ok:Abs.Ok prog 241 lC:=ok2 λa b ⟨p,q⟩=>by have m:=(eA a p).1;have o:=(tk_node b q).1;obtain⟨ns,fs,mm,cs,rfl,a1,a2,a3,a4⟩:=p;obtain⟨_,_,_,_,rfl,⟨op,rfl⟩,⟨n,rfl⟩,v,w⟩:=q;have c:=(dU _ a1).2;have d:=(aV _ a2).2;have e:=(tu_int _ a3).2;have f:=(dZ _ a4).2;have h:=(aV _ v).2;have k:=(iK _ w).2;obtain⟨u,l,_⟩:=a2;have A:=l.2;refine aF (L:=[ent 143 kJ,ent 320 CZ]) (elist_cons bIn_ok.ent (elist_cons bInteger_ok.ent aD)) aG iv func241 ntmps241 results241 rfl rfl (aA m.und (aA o.und aC)) aI ?_;show Wk _ _ _ _ _ (jY _ _ (λ_ r=>r=.bool (bC fs.els.length op n)) _);rw[l.els];have y:IntKind.i64.wrap (0-((u.length:Nat):Int))=-((u.length:Nat):Int):=by{rw[ω _ aO];omega};by_cases k1:op=1;refine ap8 @c @d @e @f @h @k @k1 @xY ?_;simp+decide only[wT,bC];by_cases k2:op=2;refine ap8 @c @d @e @f @h @k @k2 @aJ ?_;simp+decide only[wT,bC];by_cases k3:op=24;refine ap8 @c @d @e @f @h @k @k3 @aJ ?_;simp+decide only[wT,bC];by_cases k4:op=4;refine LU @c @d @e @f @h @k @k4 @aJ l.lX @y ?_;simp+decide only[wT,bC];by_cases k5:op=14;refine ap7 @c @d @e @f @h @k @k5 ?_;simp+decide only[wT,bC];refine aEn @c @d @e @f @h @k @k1 @k2 @k3 @k4 @k5 ?_;simp+decide only[wT,bC,k1,k2,k3,k4,k5]
