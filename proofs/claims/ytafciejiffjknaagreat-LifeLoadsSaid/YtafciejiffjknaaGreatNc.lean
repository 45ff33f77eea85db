/-.-/
import Derived.Test.YtafciejiffjknaaGreatNa
set_option maxHeartbeats 4000000
namespace Go.Proofs.YtafciejiffjknaaGreat
open Go.Abs Go Go.Abs.TryzF Tryz
noncomputable section
set_option maxRecDepth 10000
def kJ:List AV->Option AV|[.int .i64 n,.int .i64 l,.int .i64 h]=>some (.bool (inR n l h))|_=>none
theorem aJ{n l h:Int}:kJ [.int .i64 n,.int .i64 l,.int .i64 h]=some (.bool (inR n l h)):=rfl
def CZ:List AV->Option AV|[.int .i64 n]=>some (.bool (tY n))|_=>none
theorem xY{n:Int}:CZ [.int .i64 n]=some (.bool (tY n)):=rfl
theorem within_ok:Abs.Ok prog 197 kJ:=by intro args v b;unfold kJ at b;split at b<;>cases b;rename_i n l h;refine aF (L:=[]) aD aG iv func197 ntmps197 results197 rfl rfl (aA aH (aA aH (aA aH aC))) aI ?_;by_cases a:l<=n;refine ap1 @a ?_;simp[inR,a];refine ap1 @a ?_;simp[inR,a]
theorem integer_ok:Abs.Ok prog 130 CZ:=by intro args v a;unfold CZ at a;split at a<;>cases a;rename_i n;refine aF (L:=[ent 197 kJ]) (elist_cons within_ok.ent aD) aG iv func130 ntmps130 results130 rfl rfl (aA aH aC) aI ?_;refine ap1 @aJ ?_;rfl
theorem cY{n:Nat}(h:n<=9223372036854775807):IntKind.i64.wrap ((n:Int)-1)=(n:Int)-1:=ω _ aO
structure RW (ns fs mm cs os ts us is uu:AV):Prop where
 ns:TSl gM ns
 fs:lY fs
 mm:dR mm
 cs:wZ cs
 os:TSl PJ os
 ts:lY ts
 us:TSl qD us
 is:lY is
 uu:dR uu
abbrev rn(ns fs mm cs os ts us is uu:AV):AV:=.pf (.agg [ns,fs,mm,cs,os,ts,us,is,uu])
section
variable {ns fs mm cs os ts us is uu:AV}
theorem RW.und(h:RW ns fs mm cs os ts us is uu):UnderE 0 (rn ns fs mm cs os ts us is uu):=mC (cL λx a=>by simp at a;rcases a with rfl|rfl|rfl|rfl|rfl|rfl|rfl|rfl|rfl;exact(dU _ h.ns).1;exact(aV _ h.fs).1;exact(tu_int _ h.mm).1;exact(dZ _ h.cs).1;exact(pK _ h.os).1;exact(aV _ h.ts).1;exact(gP _ h.us).1;exact(aV _ h.is).1;exact(tu_int _ h.uu).1)
theorem RW.cells(h:RW ns fs mm cs os ts us is uu):ns.isCell=true/\fs.isCell=true/\mm.isCell=true/\cs.isCell=true/\os.isCell=true/\ts.isCell=true/\us.isCell=true/\is.isCell=true/\uu.isCell=true:=⟨(dU _ h.ns).2,(aV _ h.fs).2,(tu_int _ h.mm).2,(dZ _ h.cs).2,(pK _ h.os).2,(aV _ h.ts).2,(gP _ h.us).2,(aV _ h.is).2,(tu_int _ h.uu).2⟩
theorem YF{a no k n:Int}:tA a no (.agg [.int .i64 k,.int .i64 n])=if k=1 then tY n else if k=2 then inR n 0 1 else if k=3 then decide (n=0)else if k=4 then inR n 0 (a-1)else if k=5 then inR n 0 (no-1)else false:=rfl
theorem aTf(h:RW ns fs mm cs os ts us is uu)(x:AV)(o:UJ x):Abs.Returns prog 310 [rn ns fs mm cs os ts us is uu,x] (.bool (tA fs.els.length os.els.length x)):=by
 have c:=(tk_val x o).1;obtain⟨_,_,rfl,⟨k,rfl⟩,⟨n,rfl⟩⟩:=o;obtain⟨F,a,_⟩:=h.fs;obtain⟨G,b,_⟩:=h.os;obtain⟨w,p,y,A,q,B,C,D,E⟩:=h.cells;have u:=cY a.2;have v:=cY b.2;refine aF (L:=[ent 197 kJ,ent 130 CZ]) (elist_cons within_ok.ent (elist_cons integer_ok.ent aD)) (λr=>(bif Nat.beq r 9 then[9]else bif Nat.beq r 11 then[9]else[],[])) iv func310 ntmps310 results310 rfl rfl (aA h.und.und (aA c.und aC)) aI ?_;rw[a.els,b.els,YF];by_cases d:k=1;subst d;exact zM @xY;by_cases e:k=2;subst e;exact zM @aJ;by_cases f:k=3;subst f
 exact az0;by_cases l:k=4;subst l;exact az5 @aJ a.lX a.sX @u @p;by_cases m:k=5;subst m;exact az5 @aJ b.lX b.sX @v @q;exact az5 @d @e @f @l @m
end
theorem LP(k:Int):k=6∨k=9∨k=10∨k=11∨k=12∨k=13∨k=18∨k=22∨k=14∨k=7∨k=8∨k=15∨k=16∨k=17∨k=19∨k=20∨k=23∨k=24∨k=26∨(k≠6/\k≠9/\k≠10/\k≠11/\k≠12/\k≠13/\k≠18/\k≠22/\k≠14/\k≠7/\k≠8/\k≠15/\k≠16/\k≠17/\k≠19/\k≠20/\k≠23/\k≠24/\k≠26):=iu
theorem asks_ok:Abs.Ok prog 292 (xK gM λn=>.int .i64 (gN n)):=DB λx f=>by have d:=(tk_node x f).1;obtain⟨_,_,ki,pa,rfl,⟨k,rfl⟩,⟨n,rfl⟩,e,l⟩:=f;have b:=(aV _ e).2;have c:=(iK _ l).2;obtain⟨xs,a,_⟩:=e;refine aF (L:=[]) aD aG iv func292 ntmps292 results292 rfl rfl (aA d.und aC) aH ?_;rcases LP k with rfl|rfl|rfl|rfl|rfl|rfl|rfl|rfl|rfl|rfl|rfl|rfl|rfl|rfl|rfl|rfl|rfl|rfl|rfl|h;(case inr.inr.inr.inr.inr.inr.inr.inr.inl=>refine UD @b @c a.lX ?_;simp[gN,AV.fld,AV.num,a.els]);(case inr.inr.inr.inr.inr.inr.inr.inr.inr.inr.inr.inr.inr.inr.inr.inr.inr.inr.inr=>refine UD @b @c @h ?_;simp[gN,AV.fld,AV.num,h]);all_goals refine ap2 @b @c ?_;rfl
abbrev zL(c:AV)(p:AV->Bool):List AV->Option AV:=zN (λa b=>yA a/\b=c) λa _=>.bool (a.els.all p)
section
variable {ns fs mm cs os ts us is uu:AV}
abbrev uV(r:AV):AV:=.func (.func 310) [r] []
abbrev UC(r:AV):AV:=.func (.func 390) [r] []
abbrev aTg(r:AV):AV:=.func (.func 391) [r] []
theorem tX{f:FuncId}{r:AV}(h:UnderE 0 r):UnderE 0 (.func (.func f) [r] []):=jP (by intro x a;simp at a;subst a;exact h) (λ_ h=>nomatch h)
theorem aJa(h:RW ns fs mm cs os ts us is uu):Abs.Ok prog 309 (zL (uV (rn ns fs mm cs os ts us is uu)) (tA fs.els.length os.els.length)):=ok2 λa b ⟨c,e⟩=>by subst e;exact a1l (λ_ h=>h) _ (tX h.und) (λx d=>aTf h x d) c
theorem LQ(h:RW ns fs mm cs os ts us is uu)(x:AV)(P:TFr x):Abs.Returns prog 390 [rn ns fs mm cs os ts us is uu,x] (.bool (frR ns.els fs.els.length os.els.length x)):=by
 have H:=(tk_fr x P).1;obtain⟨_,e,v,rfl,⟨n,rfl⟩,E,J⟩:=P;have o:=(bU _ E).2;have p:=(bU _ J).2;obtain⟨l,c,G⟩:=h.ns;obtain⟨m,Q,R,S,T,U,V,X,Y⟩:=h.cells;have w:=cY c.2;have a1:zL (uV (rn ns fs mm cs os ts us is uu)) (tA fs.els.length os.els.length) [e,uV (rn ns fs mm cs os ts us is uu)]=_:=sg2_eq ⟨E,rfl⟩;have a2:zL (uV (rn ns fs mm cs os ts us is uu)) (tA fs.els.length os.els.length) [v,uV (rn ns fs mm cs os ts us is uu)]=_:=sg2_eq ⟨J,rfl⟩;obtain⟨A,a,_⟩:=E;obtain⟨M,b,_⟩:=J;refine aF (L:=[ent 197 kJ,ent 292 (xK gM λn=>.int .i64 (gN n)),ent 309 (zL (uV (rn ns fs mm cs os ts us is uu)) (tA fs.els.length os.els.length))]) (elist_cons within_ok.ent (elist_cons asks_ok.ent (elist_cons (aJa h).ent aD))) (λr=>(bif Nat.beq r 1 then[9,29,37,44]else[],[])) iv func390 ntmps390 results390 rfl rfl (aA h.und.und (aA H.und aC)) aI ?_;have F:frR ns.els fs.els.length os.els.length (.agg [.int .i64 n,e,v])=(inR n 0 ((l.length:Int)-1)&&(decide (((A.length:Nat):Int)<=30)&&A.all (tA fs.els.length os.els.length))&&(decide (((M.length:Nat):Int)<=gN (gG l n))&&M.all (tA fs.els.length os.els.length))):=by rw[c.els];simp only[frR,iE,AV.fld,AV.num,bd,eg,a.els,b.els]
 rw[F];rw[a.els]at a1;rw[b.els]at a2;cases k1:inR n 0 ((l.length:Int)-1)with|false=>exact az8 @aJ c.lX c.sX @w @m @o @p @k1|true=>have N:=k1;simp only[inR,ε,Ω]at N;have u:n.toNat<l.length:=iu;have O:=η u;have D:gG l n=l[n.toNat]:=by{simp[gG,O]};have B:=G _ (bt u);rw[D];generalize l[n.toNat]=y at *;have f:=λ{q d}=>JJ N.1 O (tk_node.len B) (q:=q) (d:=d);have k:=λ{d}=>tk_node.pf B (d:=d);have C:xK gM (λn=>.int .i64 (gN n)) [y]=_:=dS B;by_cases k2:((A.length:Nat):Int)<=30;by_cases k3:((M.length:Nat):Int)<=gN y;cases k4:A.all (tA fs.els.length os.els.length)with|false=>simp+contextual+decide(maxSteps:=9^9)only[↓wP,wQ,tf,Nat.reduceAdd,wS,aJ,c.len,c.stab,c.idx,a.len,a.stab,b.len,b.stab,w,m,o,p,k1,f,k,C,k2,k3,a1,k4]|true=>{simp+contextual+decide(maxSteps:=9^9)only[↓wP,wQ,tf,Nat.reduceAdd,wS,aJ,c.len,c.stab,c.idx,a.len,a.stab,b.len,b.stab,w,m,o,p,k1,f,k,C,k2,k3,a1,k4,a2]};exact aTo @aJ c.lX c.sX c.iX a.lX a.sX b.lX b.sX @w @m @o @p @k1 @f @k @C @k2 @k3;exact UH @aJ c.lX c.sX a.lX a.sX @w @m @o @p @k1 @k2
end
section
variable {ns fs mm cs os ts us is uu:AV}
def TFn(ns x:AV):Prop:=TFr x/\inR (x.fld 0).num 0 ((ns.els.length:Int)-1)=true
theorem a1b(h:RW ns fs mm cs os ts us is uu)(x:AV)(k:TFn ns x):Abs.Returns prog 391 [rn ns fs mm cs os ts us is uu,x] (.bool (oT ns.els x)):=by
 obtain⟨k,c⟩:=k;have B:=(tk_fr x k).1;obtain⟨_,e,v,rfl,⟨n,rfl⟩,M,D⟩:=k;have F:=(bU _ M).2;have G:=(bU _ D).2;obtain⟨b,u,w⟩:=h.ns;obtain⟨E,O,P,Q,R,S,T,U,V⟩:=h.cells;obtain⟨N,a,_⟩:=D;refine aF (L:=[ent 292 (xK gM λn=>.int .i64 (gN n))]) (elist_cons asks_ok.ent aD) (λr=>(bif Nat.beq r 1 then[12]else[],[])) iv func391 ntmps391 results391 rfl rfl (aA h.und.und (aA B.und aC)) aI ?_;have o:oT ns.els (.agg [.int .i64 n,e,v])=decide (((N.length:Nat):Int)<gN (gG b n)):=by rw[u.els];simp only[oT,AV.fld,AV.num,bd,eg,a.els]
 rw[o];rw[u.els]at c;have J:0<=n/\n<=(b.length:Int)-1:=by simpa[inR,AV.fld,AV.num]using c
 have f:n.toNat<b.length:=iu
 have C:=η f;have m:gG b n=b[n.toNat]:=by simp[gG,C]
 have l:=w _ (bt f);rw[m];generalize b[n.toNat]=y at *;have p:=λ{q d}=>JJ J.1 C (tk_node.len l) (q:=q) (d:=d);have A:=λ{d}=>tk_node.pf l (d:=d);have H:xK gM (λn=>.int .i64 (gN n)) [y]=_:=dS l;exact az9 u.iX a.lX a.sX @E @F @G @p @A @H
abbrev QT(ns fs os r:AV):List AV->Option AV:=zN (λa b=>(PK a/\b=UC r)∨(TSl (TFn ns) a/\b=aTg r)) λa b=>.bool (@ite _ (b=UC r) (Classical.propDecidable _) (a.els.all (frR ns.els fs.els.length os.els.length)) (a.els.all (oT ns.els)))
theorem aJb{r:AV}:aTg r≠UC r:=by intro h;injection h with a;injection a with a;revert a;decide
theorem aTh(h:RW ns fs mm cs os ts us is uu):Abs.Ok prog 389 (QT ns fs os (rn ns fs mm cs os ts us is uu)):=ok2 λa b d=>by rcases d with⟨c,e⟩|⟨c,e⟩;subst e;rw[cm rfl];exact aUc (λ_ h=>h) _ (tX h.und) (λx f=>LQ h x f) c;subst e;rw[Δ aJb];exact aUc (λ_ h=>h.1) _ (tX h.und) (λx f=>a1b h x f) c
def jW(ns:List AV)(b no:Int)(l:List AV)(a:Int):Bool:=tZ ns b no l&&(l.take (max 0 ((l.length:Int)-a)).toNat).all (oT ns)
theorem DA{ns:List AV}{a no:Int}{x:AV}(h:frR ns a no x=true):inR (x.fld 0).num 0 ((ns.length:Int)-1)=true:=by simp only[frR,ε]at h;exact h.1.1
theorem aMm(h:RW ns fs mm cs os ts us is uu)(a:AV)(f:PK a)(c:Int)(v:0<=c)(w:c<=1):Abs.Returns prog 311 [rn ns fs mm cs os ts us is uu,a,.int .i64 c] (.bool (jW ns.els fs.els.length os.els.length a.els c)):=by
 have o:=(nQ a f).1;have a1:QT ns fs os (rn ns fs mm cs os ts us is uu) [a,UC (rn ns fs mm cs os ts us is uu)]=some (.bool (a.els.all (frR ns.els fs.els.length os.els.length))):=by rw[QT,sg2_eq (.inl ⟨f,rfl⟩),cm rfl]
 obtain⟨xs,e,r⟩:=f;have y:=e.2;refine aF (L:=[ent 389 (QT ns fs os (rn ns fs mm cs os ts us is uu))]) (elist_cons (aTh h).ent aD) aG iv func311 ntmps311 results311 rfl rfl (aA h.und.und (aA o.und (aA aH aC))) aI ?_;rw[e.els]at a1 ⊢;by_cases k1:((xs.length:Nat):Int)<=40;have p:xs.length<=40:=iu
 cases k2:xs.all (frR ns.els fs.els.length os.els.length)with|false=>simp+contextual+decide(maxSteps:=9^9)only[↓wP,wQ,tf,wS,e.len,k1,a1,k2];simp[jW,tZ,k2]|true=>have u:IntKind.i64.wrap (((xs.length:Nat):Int)-c)=((xs.length:Nat):Int)-c:=ω _ aO;obtain⟨b,q,m⟩:=e.upto (k:=3) (λx d=>tk_fr.len (r x d)) (n:=max 0 (((xs.length:Nat):Int)-c)) aO aO;have l:TSl (TFn ns) b:=⟨_,q,λx d=>⟨r x (bv d),DA (κ.1 k2 x (bv d))⟩⟩;have a2:QT ns fs os (rn ns fs mm cs os ts us is uu) [b,aTg (rn ns fs mm cs os ts us is uu)]=some (.bool (b.els.all (oT ns.els))):=by{rw[QT,sg2_eq (.inr ⟨l,rfl⟩),Δ aJb]};rw[q.els]at a2;have d:(if((xs.length:Nat):Int)-c > 0 then((xs.length:Nat):Int)-c else 0)=max 0 (((xs.length:Nat):Int)-c):=i9;simp+contextual+decide(maxSteps:=9^9)only[↓wP,wQ,tf,wS,e.len,k1,a1,k2,u,aUm,d,m,a2];simp[jW,tZ,p,k2]
 refine ap2 e.lX @k1 ?_;have:¬xs.length<=40:=iu
 simp[jW,tZ,this]
end
section
variable {ns fs mm cs os ts us is uu:AV}
def rL(ns:List AV)(a no:Int)(n:Int)(vs fs:List AV):Bool:=if n=0 then !(decide (1<(vs.length:Int))||(decide ((fs.length:Int)=0)&&decide ((vs.length:Int)=0)))&&jW ns a no fs (1-(vs.length:Int))else if n=1 then decide ((vs.length:Int)=1)&&decide ((fs.length:Int)=0)else if n=2 then decide ((vs.length:Int)=0)&&decide ((fs.length:Int)=0)else if n=3 then decide ((vs.length:Int)=0)&&decide ((fs.length:Int)=0)else if n=4 then decide ((vs.length:Int)=0)&&decide ((fs.length:Int)=0)else false
def pJ(ns cs:List AV)(a no:Int)(k n:Int)(vs fs:List AV):Bool:=vs.all (tA a no)&&(if k=1 then decide ((fs.length:Int)=0)&&inR n 0 ((cs.length:Int)-1)&&decide ((vs.length:Int)=((cs.getD n.toNat .top).fld 1).num)else if k=2 then decide ((fs.length:Int)=0)&&inR n 0 ((ns.length:Int)-1)&&decide (((gG ns n).fld 0).num=5)&&decide ((vs.length:Int)<=30)else if k=3 then decide ((fs.length:Int)=0)&&decide (n=0)&&decide ((vs.length:Int)=1)else if k=4 then decide ((fs.length:Int)=0)&&decide (n=0)&&decide ((vs.length:Int)<=4)else if k=5 then decide (n=0)&&decide ((vs.length:Int)=0)&&decide (0<(fs.length:Int))&&jW ns a no fs 0&&decide (((gG ns ((fs.getD 0 .top).fld 0).num).fld 0).num=26)else if k=6 then rL ns a no n vs fs else false)
def JI(ns fs os r:AV):List AV->Option AV:=sg3 (λa b c=>a=r/\PK b/\∃l,c=.int .i64 l/\0<=l/\l<=1) λ_ b c=>.bool (jW ns.els fs.els.length os.els.length b.els c.num)
theorem LR(h:RW ns fs mm cs os ts us is uu):Abs.Ok prog 311 (JI ns fs os (rn ns fs mm cs os ts us is uu)):=ok3 λa b c ⟨e,k,l,e',d,f⟩=>by subst e;subst e';exact aMm h b k l d f
theorem LS{ns fs os r b:AV}{l:Int}(d:PK b)(a:0<=l)(c:l<=1):JI ns fs os r [r,b,.int .i64 l]=some (.bool (jW ns.els fs.els.length os.els.length b.els l)):=nS ⟨rfl,d,l,rfl,a,c⟩
theorem a1c(h:RW ns fs mm cs os ts us is uu)(k n:Int)(vs m:AV)(q:yA vs)(o:PK m): Abs.Returns prog 312 [rn ns fs mm cs os ts us is uu,.agg [.int .i64 k,.int .i64 n,vs,m]] (.bool (rL ns.els fs.els.length os.els.length n vs.els m.els)):=by
 have p:UnderE 0 (.agg [.int .i64 k,.int .i64 n,vs,m]):=(tk_ob _ ⟨_,_,_,_,rfl,⟨_,rfl⟩,⟨_,rfl⟩,q,o⟩).1;have d:=(bU _ q).2;have c:=(nQ _ o).2;obtain⟨e,a,_⟩:=q;have f:=λ{l}=>LS (ns:=ns) (fs:=fs) (os:=os) (r:=rn ns fs mm cs os ts us is uu) (l:=l) o;obtain⟨B,b,_⟩:=o;have C:=a.2;rw[a.els,b.els];rw[b.els]at f;refine aF (L:=[ent 311 (JI ns fs os (rn ns fs mm cs os ts us is uu))]) (elist_cons (LR h).ent aD) aG iv func312 ntmps312 results312 rfl rfl (aA h.und.und (aA p.und aC)) aI ?_;have A:(((e.length:Nat):Int)> 1)=(1<((e.length:Nat):Int)):=rfl
 by_cases k0:n=0;subst k0;by_cases k1:1<((e.length:Nat):Int);refine ap4 @d @c a.lX @k1 ?_;simp+decide only[wT,rL,k1];have y:IntKind.i64.wrap (1-((e.length:Nat):Int))=1-((e.length:Nat):Int):=ω _ aO;have f:=f (l:=1-((e.length:Nat):Int)) aO aO;by_cases k2:((B.length:Nat):Int)=0;by_cases k3:((e.length:Nat):Int)=0;refine ap6 @d @c a.lX b.lX @k2 @k3 ?_;simp+decide only[wT,rL,k2,k3];refine ap9 @d @c a.lX b.lX @k1 @k2 @k3 @y @f ?_;simp+decide only[wT,rL,k1,k2,k3];refine ap8 @d @c a.lX b.lX @k1 @k2 @y @f ?_;simp+decide only[wT,rL,k1,k2];by_cases k1:n=1;subst k1;by_cases k3:((e.length:Nat):Int)=1;refine ap5 @d @c a.lX b.lX @k3 ?_;simp+decide only[wT,rL,k3];refine ap4 @d @c a.lX @k3 ?_;simp+decide only[wT,rL,k3]
 by_cases k2:n=2∨n=3∨n=4;{rcases k2 with rfl|rfl|rfl;all_goals by_cases k3:((e.length:Nat):Int)=0;refine ap5 @d @c a.lX b.lX @k3 ?_;simp+decide only[wT,rL,k3];refine ap4 @d @c a.lX @k3 ?_;simp+decide only[wT,rL,k3]}
 have u:n≠2:=iu
 have v:n≠3:=iu
 have w:n≠4:=iu
 refine ap7 @d @c @k0 @k1 @u @v @w ?_;simp+decide only[wT,rL,k0,k1,u,v,w]
