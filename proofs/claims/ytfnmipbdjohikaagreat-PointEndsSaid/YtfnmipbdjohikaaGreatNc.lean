/- Lemmas. -/
import Derived.Test.YtfnmipbdjohikaaGreatNa
set_option linter.unusedSimpArgs false
set_option maxHeartbeats 4000000
namespace Go.Proofs.YtfnmipbdjohikaaGreat
open Go.Abs Go Go.Abs.TryzF Tryz
noncomputable section
set_option maxRecDepth 10000
def kM:List AV->Option AV|[.int .i64 n,.int .i64 l,.int .i64 h]=>some (.bool (inR n l h))|_=>none
theorem aM{n l h:Int}:kM [.int .i64 n,.int .i64 l,.int .i64 h]=some (.bool (inR n l h)):=rfl
def CU:List AV->Option AV|[.int .i64 n]=>some (.bool (tR n))|_=>none
theorem xO{n:Int}:CU [.int .i64 n]=some (.bool (tR n)):=rfl
theorem within_ok:Abs.Ok prog 195 kM:=by intro args v b;unfold kM at b;split at b<;>cases b;rename_i n l h;refine aG (L:=[]) aF aI im func195 ntmps195 results195 rfl rfl (aA aQ (aA aQ (aA aQ aE))) aJ ?_;by_cases a:l<=n;simp+contextual+decide(maxSteps:=1000000)only[↓wP,wQ,wS,a];simp[inR,a];simp+contextual+decide(maxSteps:=1000000)only[↓wP,wQ,wS,a];simp[inR,a]
theorem integer_ok:Abs.Ok prog 196 CU:=by intro args v a;unfold CU at a;split at a<;>cases a;rename_i n;refine aG (L:=[ent 195 kM]) (elist_cons within_ok.ent aF) aI im func196 ntmps196 results196 rfl rfl (aA aQ aE) aJ ?_;simp+contextual+decide(maxSteps:=1000000)only[↓wP,wQ,wS,aM];rfl
theorem cP{n:Nat}(h:n<=9223372036854775807):IntKind.i64.wrap ((n:Int)-1)=(n:Int)-1:=dv _ il
structure RW (ns fs mm cs os ts us is uu:AV):Prop where
 ns:TSl gI ns
 fs:dJ fs
 mm:dF mm
 cs:vV cs
 os:TSl mS os
 ts:dJ ts
 us:TSl mT us
 is:dJ is
 uu:dF uu
abbrev rn(ns fs mm cs os ts us is uu:AV):AV:=.pf (.agg [ns,fs,mm,cs,os,ts,us,is,uu])
section
variable {ns fs mm cs os ts us is uu:AV}
theorem RW.und(h:RW ns fs mm cs os ts us is uu):UnderE 0 (rn ns fs mm cs os ts us is uu):=oC (eV λx a=>by simp at a;rcases a with rfl|rfl|rfl|rfl|rfl|rfl|rfl|rfl|rfl;exact(cT _ h.ns).1;exact(aL _ h.fs).1;exact(tu_int _ h.mm).1;exact(dA _ h.cs).1;exact(eT _ h.os).1;exact(aL _ h.ts).1;exact(bX _ h.us).1;exact(aL _ h.is).1;exact(tu_int _ h.uu).1)
theorem RW.cells(h:RW ns fs mm cs os ts us is uu):ns.isCell=true/\fs.isCell=true/\mm.isCell=true/\cs.isCell=true/\os.isCell=true/\ts.isCell=true/\us.isCell=true/\is.isCell=true/\uu.isCell=true:=⟨(cT _ h.ns).2,(aL _ h.fs).2,(tu_int _ h.mm).2,(dA _ h.cs).2,(eT _ h.os).2,(aL _ h.ts).2,(bX _ h.us).2,(aL _ h.is).2,(tu_int _ h.uu).2⟩
theorem VS{a no k n:Int}:sW a no (.agg [.int .i64 k,.int .i64 n])=if k=1 then tR n else if k=2 then inR n 0 1 else if k=3 then decide (n=0)else if k=4 then inR n 0 (a-1)else if k=5 then inR n 0 (no-1)else false:=rfl
theorem aOx(h:RW ns fs mm cs os ts us is uu)(x:AV)(o:CW x):Abs.Returns prog 248 [rn ns fs mm cs os ts us is uu,x] (.bool (sW fs.els.length os.els.length x)):=by
 have c:=(tk_val x o).1;obtain⟨_,_,rfl,⟨k,rfl⟩,⟨n,rfl⟩⟩:=o;obtain⟨F,a,_⟩:=h.fs;obtain⟨xo,b,_⟩:=h.os;obtain⟨w,p,y,A,q,B,C,D,E⟩:=h.cells;have u:=cP a.2;have v:=cP b.2;refine aG (L:=[ent 195 kM,ent 196 CU]) (elist_cons within_ok.ent (elist_cons integer_ok.ent aF)) (λr=>(bif Nat.beq r 9 then[9]else bif Nat.beq r 11 then[9]else[],[])) im func248 ntmps248 results248 rfl rfl (aA h.und.und (aA c.und aE)) aJ ?_;rw[a.els,b.els,VS];by_cases d:k=1;subst d;simp+contextual+decide(maxSteps:=1000000)only[↓wP,wQ,tf,Nat.reduceAdd,wS,xO];by_cases e:k=2
 subst e;simp+contextual+decide(maxSteps:=1000000)only[↓wP,wQ,tf,Nat.reduceAdd,wS,aM];by_cases f:k=3;subst f;simp+contextual+decide(maxSteps:=1000000)only[↓wP,wQ,tf,Nat.reduceAdd,wS];by_cases l:k=4;subst l;simp+contextual+decide(maxSteps:=1000000)only[↓wP,wQ,tf,Nat.reduceAdd,wS,aM,a.len,a.stab,u,p];by_cases m:k=5;subst m;simp+contextual+decide(maxSteps:=1000000)only[↓wP,wQ,tf,Nat.reduceAdd,wS,aM,b.len,b.stab,v,q];simp+contextual+decide(maxSteps:=1000000)only[↓wP,wQ,tf,Nat.reduceAdd,wS,d,e,f,l,m]
end
theorem JX(k:Int):k=6∨k=9∨k=10∨k=11∨k=12∨k=13∨k=18∨k=22∨k=14∨k=7∨k=8∨k=15∨k=16∨k=17∨k=19∨k=20∨k=23∨k=24∨k=26∨(k≠6/\k≠9/\k≠10/\k≠11/\k≠12/\k≠13/\k≠18/\k≠22/\k≠14/\k≠7/\k≠8/\k≠15/\k≠16/\k≠17/\k≠19/\k≠20/\k≠23/\k≠24/\k≠26):=il
theorem asks_ok:Abs.Ok prog 283 (vW gI λn=>.int .i64 (gK n)):=BQ λx f=>by have d:=(tk_node x f).1;obtain⟨_,_,ki,pa,rfl,⟨k,rfl⟩,⟨n,rfl⟩,e,l⟩:=f;have b:=(aL _ e).2;have c:=(iN _ l).2;obtain⟨xs,a,_⟩:=e;refine aG (L:=[]) aF aI im func283 ntmps283 results283 rfl rfl (aA d.und aE) aQ ?_;rcases JX k with rfl|rfl|rfl|rfl|rfl|rfl|rfl|rfl|rfl|rfl|rfl|rfl|rfl|rfl|rfl|rfl|rfl|rfl|rfl|h;(case inr.inr.inr.inr.inr.inr.inr.inr.inl=>simp+contextual+decide(maxSteps:=1000000)only[↓wP,wQ,tf,Nat.reduceAdd,wS,b,c,a.len];simp[gK,AV.fld,AV.num,a.els]);(case inr.inr.inr.inr.inr.inr.inr.inr.inr.inr.inr.inr.inr.inr.inr.inr.inr.inr.inr=>simp+contextual+decide(maxSteps:=1000000)only[↓wP,wQ,tf,Nat.reduceAdd,wS,b,c,h];simp[gK,AV.fld,AV.num,h]);all_goals simp+contextual+decide(maxSteps:=1000000)only[↓wP,wQ,tf,Nat.reduceAdd,wS,b,c];rfl
abbrev zD(c:AV)(p:AV->Bool):List AV->Option AV:=vX (λa b=>jP a/\b=c) λa _=>.bool (a.els.all p)
section
variable {ns fs mm cs os ts us is uu:AV}
abbrev uK(r:AV):AV:=.func (.func 248) [r] []
abbrev RO(r:AV):AV:=.func (.func 302) [r] []
abbrev aOy(r:AV):AV:=.func (.func 303) [r] []
theorem tQ{f:FuncId}{r:AV}(h:UnderE 0 r):UnderE 0 (.func (.func f) [r] []):=mC (by intro x a;simp at a;subst a;exact h) (λ_ h=>nomatch h)
theorem aFn(h:RW ns fs mm cs os ts us is uu):Abs.Ok prog 247 (zD (uK (rn ns fs mm cs os ts us is uu)) (sW fs.els.length os.els.length)):=ok2 λa b ⟨c,e⟩=>by subst e;exact aVo (λ_ h=>h) _ (tQ h.und) (λx d=>aOx h x d) c
theorem aOz(h:RW ns fs mm cs os ts us is uu)(x:AV)(O:ZE x):Abs.Returns prog 302 [rn ns fs mm cs os ts us is uu,x] (.bool (VT ns.els fs.els.length os.els.length x)):=by
 have G:=(tk_fr x O).1;obtain⟨_,e,v,rfl,⟨n,rfl⟩,D,H⟩:=O;have o:=(aZ _ D).2;have cv:=(aZ _ H).2;obtain⟨l,c,F⟩:=h.ns;obtain⟨m,P,Q,R,S,T,U,V,X⟩:=h.cells;have u:=cP c.2;have a1:zD (uK (rn ns fs mm cs os ts us is uu)) (sW fs.els.length os.els.length) [e,uK (rn ns fs mm cs os ts us is uu)]=_:=sg2_eq ⟨D,rfl⟩;have a2:zD (uK (rn ns fs mm cs os ts us is uu)) (sW fs.els.length os.els.length) [v,uK (rn ns fs mm cs os ts us is uu)]=_:=sg2_eq ⟨H,rfl⟩;obtain⟨w,a,_⟩:=D;obtain⟨J,b,_⟩:=H;refine aG (L:=[ent 195 kM,ent 283 (vW gI λn=>.int .i64 (gK n)),ent 247 (zD (uK (rn ns fs mm cs os ts us is uu)) (sW fs.els.length os.els.length))]) (elist_cons within_ok.ent (elist_cons asks_ok.ent (elist_cons (aFn h).ent aF))) (λr=>(bif Nat.beq r 1 then[9,29,37,44]else[],[])) im func302 ntmps302 results302 rfl rfl (aA h.und.und (aA G.und aE)) aJ ?_;have E:VT ns.els fs.els.length os.els.length (.agg [.int .i64 n,e,v])=(inR n 0 ((l.length:Int)-1)&&(decide (((w.length:Nat):Int)<=30)&&w.all (sW fs.els.length os.els.length))&&(decide (((J.length:Nat):Int)<=gK (gE l n))&&J.all (sW fs.els.length os.els.length))):=by rw[c.els];simp only[VT,iB,AV.fld,AV.num,ae,af,a.els,b.els]
 rw[E];rw[a.els]at a1;rw[b.els]at a2;cases k1:inR n 0 ((l.length:Int)-1)with|false=>simp+contextual+decide(maxSteps:=1000000)only[↓wP,wQ,tf,Nat.reduceAdd,wS,aM,c.len,c.stab,u,m,o,cv,k1]|true=>have M:=k1;simp only[inR,ε,Γ]at M;have p:n.toNat<l.length:=il;have N:=δ p;have C:gE l n=l[n.toNat]:=by{simp[gE,ξ,N]};have A:=F _ (dz p);rw[C];generalize l[n.toNat]=y at *;have f:=λ{q d}=>RU M.1 N (tk_node.len A) (q:=q) (d:=d);have k:=λ{d}=>tk_node.pf A (d:=d);have B:vW gI (λn=>.int .i64 (gK n)) [y]=_:=bY A;by_cases k2:((w.length:Nat):Int)<=30;by_cases k3:((J.length:Nat):Int)<=gK y;cases k4:w.all (sW fs.els.length os.els.length)with|false=>simp+contextual+decide(maxSteps:=1000000)only[↓wP,wQ,tf,Nat.reduceAdd,wS,aM,c.len,c.stab,c.idx,a.len,a.stab,b.len,b.stab,u,m,o,cv,k1,f,k,B,k2,k3,a1,k4]|true=>{simp+contextual+decide(maxSteps:=1000000)only[↓wP,wQ,tf,Nat.reduceAdd,wS,aM,c.len,c.stab,c.idx,a.len,a.stab,b.len,b.stab,u,m,o,cv,k1,f,k,B,k2,k3,a1,k4,a2]};simp+contextual+decide(maxSteps:=1000000)only[↓wP,wQ,tf,Nat.reduceAdd,wS,aM,c.len,c.stab,c.idx,a.len,a.stab,b.len,b.stab,u,m,o,cv,k1,f,k,B,k2,k3];simp+contextual+decide(maxSteps:=1000000)only[↓wP,wQ,tf,Nat.reduceAdd,wS,aM,c.len,c.stab,a.len,a.stab,u,m,o,cv,k1,k2]
end
section
variable {ns fs mm cs os ts us is uu:AV}
def TFn(ns x:AV):Prop:=ZE x/\inR (x.fld 0).num 0 ((ns.els.length:Int)-1)=true
theorem aVi(h:RW ns fs mm cs os ts us is uu)(x:AV)(k:TFn ns x):Abs.Returns prog 303 [rn ns fs mm cs os ts us is uu,x] (.bool (jQ ns.els x)):=by
 obtain⟨k,c⟩:=k;have B:=(tk_fr x k).1;obtain⟨_,e,v,rfl,⟨n,rfl⟩,J,D⟩:=k;have F:=(aZ _ J).2;have cv:=(aZ _ D).2;obtain⟨b,u,w⟩:=h.ns;obtain⟨E,N,O,P,Q,R,S,T,U⟩:=h.cells;obtain⟨M,a,_⟩:=D;refine aG (L:=[ent 283 (vW gI λn=>.int .i64 (gK n))]) (elist_cons asks_ok.ent aF) (λr=>(bif Nat.beq r 1 then[12]else[],[])) im func303 ntmps303 results303 rfl rfl (aA h.und.und (aA B.und aE)) aJ ?_;have o:jQ ns.els (.agg [.int .i64 n,e,v])=decide (((M.length:Nat):Int)<gK (gE b n)):=by rw[u.els];simp only[jQ,AV.fld,AV.num,ae,af,a.els]
 rw[o];rw[u.els]at c;have H:0<=n/\n<=(b.length:Int)-1:=by simpa[inR,AV.fld,AV.num]using c
 have f:n.toNat<b.length:=il
 have C:=δ f;have m:gE b n=b[n.toNat]:=by simp[gE,ξ,C]
 have l:=w _ (dz f);rw[m];generalize b[n.toNat]=y at *;have p:=λ{q d}=>RU H.1 C (tk_node.len l) (q:=q) (d:=d);have A:=λ{d}=>tk_node.pf l (d:=d);have G:vW gI (λn=>.int .i64 (gK n)) [y]=_:=bY l;simp+contextual+decide(maxSteps:=1000000)only[↓wP,wQ,tf,Nat.reduceAdd,wS,u.idx,a.len,a.stab,E,F,cv,p,A,G]
abbrev OR(ns fs os r:AV):List AV->Option AV:=vX (λa b=>(CX a/\b=RO r)∨(TSl (TFn ns) a/\b=aOy r)) λa b=>.bool (@ite _ (b=RO r) (Classical.propDecidable _) (a.els.all (VT ns.els fs.els.length os.els.length)) (a.els.all (jQ ns.els)))
theorem aFo{r:AV}:aOy r≠RO r:=by intro h;injection h with a;injection a with a;revert a;decide
theorem aPa(h:RW ns fs mm cs os ts us is uu):Abs.Ok prog 301 (OR ns fs os (rn ns fs mm cs os ts us is uu)):=ok2 λa b d=>by rcases d with⟨c,e⟩|⟨c,e⟩;subst e;rw[dx rfl];exact aPn (λ_ h=>h) _ (tQ h.und) (λx f=>aOz h x f) c;subst e;rw[Φ aFo];exact aPn (λ_ h=>h.1) _ (tQ h.und) (λx f=>aVi h x f) c
def fW(ns:List AV)(b no:Int)(l:List AV)(a:Int):Bool:=rW ns b no l&&(l.take (max 0 ((l.length:Int)-a)).toNat).all (jQ ns)
theorem CV{ns:List AV}{a no:Int}{x:AV}(h:VT ns a no x=true):inR (x.fld 0).num 0 ((ns.length:Int)-1)=true:=by simp only[VT,ε]at h;exact h.1.1
theorem aIt(h:RW ns fs mm cs os ts us is uu)(a:AV)(f:CX a)(c:Int)(v:0<=c)(w:c<=1):Abs.Returns prog 249 [rn ns fs mm cs os ts us is uu,a,.int .i64 c] (.bool (fW ns.els fs.els.length os.els.length a.els c)):=by
 have o:=(iM a f).1;have a1:OR ns fs os (rn ns fs mm cs os ts us is uu) [a,RO (rn ns fs mm cs os ts us is uu)]=some (.bool (a.els.all (VT ns.els fs.els.length os.els.length))):=by rw[OR,sg2_eq (.inl ⟨f,rfl⟩),dx rfl]
 obtain⟨xs,e,r⟩:=f;have y:=e.2;refine aG (L:=[ent 301 (OR ns fs os (rn ns fs mm cs os ts us is uu))]) (elist_cons (aPa h).ent aF) aI im func249 ntmps249 results249 rfl rfl (aA h.und.und (aA o.und (aA aQ aE))) aJ ?_;rw[e.els]at a1 ⊢;by_cases k1:((xs.length:Nat):Int)<=40;have p:xs.length<=40:=il
 cases k2:xs.all (VT ns.els fs.els.length os.els.length)with|false=>simp+contextual+decide(maxSteps:=1000000)only[↓wP,wQ,tf,wS,e.len,k1,a1,k2];simp[fW,rW,k2]|true=>have u:IntKind.i64.wrap (((xs.length:Nat):Int)-c)=((xs.length:Nat):Int)-c:=dv _ il;obtain⟨b,q,m⟩:=e.upto (k:=3) (λx d=>tk_fr.len (r x d)) (n:=max 0 (((xs.length:Nat):Int)-c)) il il;have l:TSl (TFn ns) b:=⟨_,q,λx d=>⟨r x (da d),CV (μ.1 k2 x (da d))⟩⟩;have a2:OR ns fs os (rn ns fs mm cs os ts us is uu) [b,aOy (rn ns fs mm cs os ts us is uu)]=some (.bool (b.els.all (jQ ns.els))):=by{rw[OR,sg2_eq (.inr ⟨l,rfl⟩),Φ aFo]};rw[q.els]at a2;have d:(if((xs.length:Nat):Int)-c > 0 then((xs.length:Nat):Int)-c else 0)=max 0 (((xs.length:Nat):Int)-c):=iz;simp+contextual+decide(maxSteps:=1000000)only[↓wP,wQ,tf,wS,e.len,k1,a1,k2,u,aPv,d,m,a2];simp[fW,rW,p,k2]
 simp+contextual+decide(maxSteps:=1000000)only[↓wP,wQ,tf,wS,e.len,k1];have:¬xs.length<=40:=il
 simp[fW,rW,this]
end
section
variable {ns fs mm cs os ts us is uu:AV}
def nT(ns:List AV)(a no:Int)(n:Int)(vs fs:List AV):Bool:=if n=0 then !(decide (1<(vs.length:Int))||(decide ((fs.length:Int)=0)&&decide ((vs.length:Int)=0)))&&fW ns a no fs (1-(vs.length:Int))else if n=1 then decide ((vs.length:Int)=1)&&decide ((fs.length:Int)=0)else if n=2 then decide ((vs.length:Int)=0)&&decide ((fs.length:Int)=0)else if n=3 then decide ((vs.length:Int)=0)&&decide ((fs.length:Int)=0)else if n=4 then decide ((vs.length:Int)=0)&&decide ((fs.length:Int)=0)else false
def nQ(ns cs:List AV)(a no:Int)(k n:Int)(vs fs:List AV):Bool:=vs.all (sW a no)&&(if k=1 then decide ((fs.length:Int)=0)&&inR n 0 ((cs.length:Int)-1)&&decide ((vs.length:Int)=((cs.getD n.toNat .top).fld 1).num)else if k=2 then decide ((fs.length:Int)=0)&&inR n 0 ((ns.length:Int)-1)&&decide (((gE ns n).fld 0).num=5)&&decide ((vs.length:Int)<=30)else if k=3 then decide ((fs.length:Int)=0)&&decide (n=0)&&decide ((vs.length:Int)=1)else if k=4 then decide ((fs.length:Int)=0)&&decide (n=0)&&decide ((vs.length:Int)<=4)else if k=5 then decide (n=0)&&decide ((vs.length:Int)=0)&&decide (0<(fs.length:Int))&&fW ns a no fs 0&&decide (((gE ns ((fs.getD 0 .top).fld 0).num).fld 0).num=26)else if k=6 then nT ns a no n vs fs else false)
def IA(ns fs os r:AV):List AV->Option AV:=sg3 (λa b c=>a=r/\CX b/\∃l,c=.int .i64 l/\0<=l/\l<=1) λ_ b c=>.bool (fW ns.els fs.els.length os.els.length b.els c.num)
theorem JY(h:RW ns fs mm cs os ts us is uu):Abs.Ok prog 249 (IA ns fs os (rn ns fs mm cs os ts us is uu)):=ok3 λa b c ⟨e,k,l,e',d,f⟩=>by subst e;subst e';exact aIt h b k l d f
theorem JZ{ns fs os r b:AV}{l:Int}(d:CX b)(a:0<=l)(c:l<=1):IA ns fs os r [r,b,.int .i64 l]=some (.bool (fW ns.els fs.els.length os.els.length b.els l)):=sX ⟨rfl,d,l,rfl,a,c⟩
theorem aVj(h:RW ns fs mm cs os ts us is uu)(k n:Int)(vs f:AV)(p:jP vs)(m:CX f): Abs.Returns prog 250 [rn ns fs mm cs os ts us is uu,.agg [.int .i64 k,.int .i64 n,vs,f]] (.bool (nT ns.els fs.els.length os.els.length n vs.els f.els)):=by
 have o:UnderE 0 (.agg [.int .i64 k,.int .i64 n,vs,f]):=(tk_ob _ ⟨_,_,_,_,rfl,⟨_,rfl⟩,⟨_,rfl⟩,p,m⟩).1;have cv:=(aZ _ p).2;have c:=(iM _ m).2;obtain⟨d,a,_⟩:=p;have e:=λ{l}=>JZ (ns:=ns) (fs:=fs) (os:=os) (r:=rn ns fs mm cs os ts us is uu) (l:=l) m;obtain⟨xg,b,_⟩:=m;have A:=a.2;rw[a.els,b.els];rw[b.els]at e;refine aG (L:=[ent 249 (IA ns fs os (rn ns fs mm cs os ts us is uu))]) (elist_cons (JY h).ent aF) aI im func250 ntmps250 results250 rfl rfl (aA h.und.und (aA o.und aE)) aJ ?_;have y:(((d.length:Nat):Int)> 1)=(1<((d.length:Nat):Int)):=rfl
 by_cases k0:n=0;subst k0;by_cases k1:1<((d.length:Nat):Int);simp+contextual+decide(maxSteps:=1000000)only[↓wP,wQ,tf,Nat.reduceAdd,wS,cv,c,a.len,k1];simp+decide only[wT,nT,k1];have w:IntKind.i64.wrap (1-((d.length:Nat):Int))=1-((d.length:Nat):Int):=dv _ il;have e:=e (l:=1-((d.length:Nat):Int)) il il;by_cases k2:((xg.length:Nat):Int)=0;by_cases k3:((d.length:Nat):Int)=0;simp+contextual+decide(maxSteps:=1000000)only[↓wP,wQ,tf,Nat.reduceAdd,wS,cv,c,a.len,b.len,k2,k3];simp+decide only[wT,nT,k2,k3];simp+contextual+decide(maxSteps:=1000000)only[↓wP,wQ,tf,Nat.reduceAdd,wS,cv,c,a.len,b.len,k1,k2,k3,w,e];simp+decide only[wT,nT,k1,k2,k3];simp+contextual+decide(maxSteps:=1000000)only[↓wP,wQ,tf,Nat.reduceAdd,wS,cv,c,a.len,b.len,k1,k2,w,e];simp+decide only[wT,nT,k1,k2]
 by_cases k1:n=1;subst k1;by_cases k3:((d.length:Nat):Int)=1;simp+contextual+decide(maxSteps:=1000000)only[↓wP,wQ,tf,Nat.reduceAdd,wS,cv,c,a.len,b.len,k3];simp+decide only[wT,nT,k3];simp+contextual+decide(maxSteps:=1000000)only[↓wP,wQ,tf,Nat.reduceAdd,wS,cv,c,a.len,k3];simp+decide only[wT,nT,k3];by_cases k2:n=2∨n=3∨n=4;{rcases k2 with rfl|rfl|rfl;all_goals by_cases k3:((d.length:Nat):Int)=0;simp+contextual+decide(maxSteps:=1000000)only[↓wP,wQ,tf,Nat.reduceAdd,wS,cv,c,a.len,b.len,k3];simp+decide only[wT,nT,k3];simp+contextual+decide(maxSteps:=1000000)only[↓wP,wQ,tf,Nat.reduceAdd,wS,cv,c,a.len,k3];simp+decide only[wT,nT,k3]}
 have q:n≠2:=il
 have u:n≠3:=il
 have v:n≠4:=il
 simp+contextual+decide(maxSteps:=1000000)only[↓wP,wQ,tf,Nat.reduceAdd,wS,cv,c,k0,k1,q,u,v];simp+decide only[wT,nT,k0,k1,q,u,v]
