/- Lemmas. -/
import Derived.Test.YtfnmipbdjohikaaGreatEy
import Derived.Test.YtfnmipbdjohikaaGreatTf
namespace Go
abbrev dt:=@Nat.le_antisymm
abbrev ct:=@Bool.and_false
abbrev ae:=@List.getD_cons_zero
abbrev af:=@List.getD_cons_succ
end Go
namespace Go.Abs
noncomputable section
theorem wS:type_of% (And.intro @ne_eq.{1} (And.intro @d3.{1} (And.intro @d3.{0} (And.intro @dl.{1} (And.intro @dl.{0} (And.intro @a4c (And.intro @wgu (And.intro @uT (And.intro @DH (And.intro @η (And.intro @θ (And.intro @ct (And.intro @az (And.intro @ar (@be))))))))))))))):=And.intro @ne_eq.{1} (And.intro @d3.{1} (And.intro @d3.{0} (And.intro @dl.{1} (And.intro @dl.{0} (And.intro @a4c (And.intro @wgu (And.intro @uT (And.intro @DH (And.intro @η (And.intro @θ (And.intro @ct (And.intro @az (And.intro @ar (@be))))))))))))))
theorem wT:type_of% (And.intro @d3.{1} (And.intro @d3.{0} (And.intro @dl.{1} (And.intro @dl.{0} (And.intro @ar (And.intro @be (And.intro @η (And.intro @θ (And.intro @ct (And.intro @az (And.intro @d7 (And.intro @eg (And.intro @f0 (And.intro @e5 (And.intro @fk (And.intro @Bool.or_true (And.intro @ae.{0} (@af.{0})))))))))))))))))):=And.intro @d3.{1} (And.intro @d3.{0} (And.intro @dl.{1} (And.intro @dl.{0} (And.intro @ar (And.intro @be (And.intro @η (And.intro @θ (And.intro @ct (And.intro @az (And.intro @d7 (And.intro @eg (And.intro @f0 (And.intro @e5 (And.intro @fk (And.intro @Bool.or_true (And.intro @ae.{0} (@af.{0})))))))))))))))))
end
end Go.Abs
namespace Go.Proofs.YtfnmipbdjohikaaGreat
open Go.Abs Go
noncomputable section
set_option maxRecDepth 10000
abbrev dJ:=TSl dF
abbrev CW:=T2 dF dF
abbrev jP:=TSl CW
abbrev ZE:=T3 dF jP jP
abbrev CX:=TSl ZE
abbrev mS:=T4 dF dF jP CX
abbrev mT:=T2 dF dF
abbrev IB:=T5 (TSl mS) dJ (TSl mT) dJ dF
def TPatN:Nat->AV->Prop|0,_=>False|d+1,a=>T4 dF dF wE (TSl (TPatN d)) a
def BP(a:AV):Prop:=∃d,TPatN d a
abbrev gI:=T4 dF dF dJ (TSl BP)
abbrev FD:=T2 wE dF
abbrev vV:=TSl FD
abbrev gJ:=T4 (TSl gI) dJ dF vV
theorem TSl.mono{A B:AV->Prop}(h:∀a,A a->B a){a:AV}(d:TSl A a):TSl B a:=by obtain⟨xs,b,c⟩:=d;exact⟨xs,b,λx e=>h x (c x e)⟩
theorem ic:∀(d:Nat)(a:AV),TPatN d a->TPatN (d+1) a|0,_,h=>h.elim|d+1,_,⟨x,y,z,u,e,b,c,f,k⟩=>⟨x,y,z,u,e,b,c,f,TSl.mono (ic d) k⟩
theorem TPatN.le{d b:Nat}(c:d<=b){a:AV}(h:TPatN d a):TPatN b a:=by induction c with|refl=>exact h|step _ e=>exact ic _ _ e
theorem aL:Tu dJ:=kW (FF tu_int)
theorem tk_val:Tk 2 CW:=tk2 tu_int tu_int
theorem aZ:Tu jP:=kW (mU tk_val)
theorem tk_fr:Tk 3 ZE:=tk3 tu_int aZ aZ
theorem iM:Tu CX:=kW (mU tk_fr)
theorem tk_ob:Tk 4 mS:=tk4 tu_int tu_int aZ iM
theorem eT:Tu (TSl mS):=kW (mU tk_ob)
theorem tk_out:Tk 2 mT:=tk2 tu_int tu_int
theorem bX:Tu (TSl mT):=kW (mU tk_out)
theorem qV:Tk 5 IB:=tk5 eT aL bX aL tu_int
theorem dE:∀d,Tk 4 (TPatN d)|0=>λ_ h=>h.elim|d+1=>tk4 tu_int tu_int tu_str (kW (mU (dE d)))
theorem tk_pat:Tk 4 BP:=λa ⟨d,h⟩=>dE d a h
theorem iN:Tu (TSl BP):=kW (mU tk_pat)
theorem tk_node:Tk 4 gI:=tk4 tu_int tu_int aL iN
theorem cT:Tu (TSl gI):=kW (mU tk_node)
theorem tk_con:Tk 2 FD:=tk2 tu_str tu_int
theorem dA:Tu vV:=kW (mU tk_con)
theorem eF:Tk 4 gJ:=tk4 cT aL tu_int dA
def inR(n l h:Int):Bool:=decide (l<=n)&&decide (n<=h)
def tR(n:Int):Bool:=inR n (-1000000000) 1000000000
def sW(b no:Int)(v:AV):Bool:=if(v.fld 0).num=1 then tR (v.fld 1).num else if(v.fld 0).num=2 then inR (v.fld 1).num 0 1 else if(v.fld 0).num=3 then decide ((v.fld 1).num=0)else if(v.fld 0).num=4 then inR (v.fld 1).num 0 (b-1)else if(v.fld 0).num=5 then inR (v.fld 1).num 0 (no-1)else false
def iB(c no:Int)(b:Int)(l:List AV):Bool:=decide ((l.length:Int)<=b)&&l.all (sW c no)
def gK(n:AV):Int:=if(n.fld 0).num∈[6,9,10,11,12,13,18,22]then 2 else if(n.fld 0).num=14 then(n.fld 2).els.length else if(n.fld 0).num∈[7,8,16,17,15,19,20,23,24,26]then 1 else 0
def gE(ns:List AV)(n:Int):AV:=ns.getD n.toNat .top
def VT(ns:List AV)(b no:Int)(f:AV):Bool:=inR (f.fld 0).num 0 ((ns.length:Int)-1)&&iB b no 30 (f.fld 1).els&&iB b no (gK (gE ns (f.fld 0).num)) (f.fld 2).els
def rW(ns:List AV)(b no:Int)(l:List AV):Bool:=decide (l.length<=40)&&l.all (VT ns b no)
def jQ(ns:List AV)(f:AV):Bool:=decide (((f.fld 2).els.length:Int)<gK (gE ns (f.fld 0).num))
def kN(os:List AV)(k:Int):Bool:=inR k 0 ((os.length:Int)-1)&&decide (((os.getD k.toNat .top).fld 0).num=6)
def eU(os:List AV):Nat:=(os.filter λo=>decide ((o.fld 0).num=6)).length
def FE(o:AV):Bool:=inR (o.fld 0).num 0 3&&tR (o.fld 1).num
end
end Go.Proofs.YtfnmipbdjohikaaGreat
namespace Go.Abs
noncomputable section
theorem aPb{P:Program}{O:bW}{H:dZ}{c:Code}{nt:Nat}{fn:FuncId}{b:Tr AV}{s:Sto}{Q:Ex->Env->Prop}(I:Nat->Tr AV->Prop)(m:Nat->Nat)(d:I 0 b)(k:∀i t,I i t->Wk P O H c ⟨nt,none,fn,t,[],s,.no⟩ (KP (λi e=>∃t,e=⟨nt,none,fn,t,[],s,.no⟩/\I i t) m i Q)):Wk P O H (.loop c) ⟨nt,none,fn,b,[],s,.no⟩ Q:=aO (λi e=>∃t,e=⟨nt,none,fn,t,[],s,.no⟩/\I i t) m 0 ⟨_,rfl,d⟩ λi e ⟨t,f,h⟩=>by subst f;exact k i t h
end
end Go.Abs
namespace Go.Proofs.YtfnmipbdjohikaaGreat
open Go.Abs Go Go.Abs.TryzF Tryz
noncomputable section
set_option maxRecDepth 10000
def VU(F:FuncId)(T:AV->Prop):Prop:=∀{g:FuncId}{first cap:List AV}{D:AV->Prop},(∀x,D x->T x)->∀(p:AV->Bool),UnderE 0 (.func (.func g) first cap)->(∀x,D x->Abs.Returns prog g (first++[x]++cap) (.bool (p x)))->∀{a:AV},TSl D a->Abs.Returns prog F [a,.func (.func g) first cap] (.int .i64 (xQ p a.els 0))
def VV(F:FuncId)(T:AV->Prop):Prop:=∀{g:FuncId}{first cap:List AV}{D:AV->Prop},(∀x,D x->T x)->∀(p:AV->Bool),UnderE 0 (.func (.func g) first cap)->(∀x,D x->Abs.Returns prog g (first++[x]++cap) (.bool (p x)))->∀{a:AV},TSl D a->Abs.Returns prog F [a,.func (.func g) first cap] (.bool (a.els.any p))
def RP(F:FuncId)(T:AV->Prop):Prop:=∀{g:FuncId}{first cap:List AV}{D:AV->Prop},(∀x,D x->T x)->∀(p:AV->Bool),UnderE 0 (.func (.func g) first cap)->(∀x,D x->Abs.Returns prog g (first++[x]++cap) (.bool (p x)))->∀{a:AV},TSl D a->Abs.Returns prog F [a,.func (.func g) first cap] (.bool (a.els.all p))
def RQ(F:FuncId)(T:AV->Prop):Prop:=∀{g:FuncId}{first cap:List AV}{D:AV->Prop},(∀x,D x->T x)->∀(p:AV->Bool),UnderE 0 (.func (.func g) first cap)->(∀x,D x->Abs.Returns prog g (first++[x]++cap) (.bool (p x)))->∀x,D x->Abs.Returns prog F ([]++[x]++[.pf (.func (.func g) first cap)]) (.bool (!p x))
theorem GO{A B C D p:Prop}(x:A)(y:B)(z:C)(w:D)(h:A->B->C->D->p:=by rename_i g first cap D;intro O P Q H v p U h a R;obtain⟨xs,e,N⟩:=R;have T:=e.2;refine aG (L:=[NA g first cap D λx=>.bool (p x)]) (elist_cons (zE h) aF) aI im O P Q rfl rfl (aA (uO e λx M=>(H x (v x (N x M))).1).und (aA U.und aE)) aQ ?_;rw[e.els];simp+contextual+decide(maxSteps:=1000000)only[↓wP,wQ,tf,Nat.reduceAdd,wS,reduceCtorEq,e.len];refine aPb (λi t=>t.val 0=a/\t.val 1=.func (.func g) first cap/\t.val 7=.int .i64 (xs.length:Nat)/\t.val 8=.int .i64 (i:Nat)/\i<=xs.length/\xQ p xs 0=xQ p (xs.drop i) i) (λi=>xs.length-i) ⟨ir,ir,ir,by simp+decide only[↓aB,cA,bC];rfl,γ _,rfl⟩ ?_;rintro i t ⟨o,q,u,G,hi,c⟩;rcases ω i xs.length with k|E;obtain⟨x,b,M,X,S,f,V,J⟩:=bL (λx h=>H.len (v x h)) N T k;rw[S,xQ]at c;have l:=λ{d:Option AV}=>H.pf (v x b) (d:=d);cases m:p x with|true=>rw[m,dx rfl]at c;simp+contextual+decide(maxSteps:=1000000)only[↓wP,wQ,tf,Nat.reduceAdd,wS,reduceCtorEq,o,q,u,G,e.idx,f,J,l,oB b,m,c]|false=>{rw[m,Φ iq]at c;simp+contextual+decide(maxSteps:=1000000)only[↓wP,wQ,tf,Nat.reduceAdd,wS,reduceCtorEq,o,q,u,G,e.idx,f,J,l,oB b,m,V];exact⟨i+1,by show _-_<_-_;omega,_,rfl,by simp+decide only[↓aB,cA,bC,o],by simp+decide only[↓aB,cA,bC,q],by simp+decide only[↓aB,cA,bC,u],ir,k,c⟩};obtain rfl:i=xs.length:=dt hi E;rw[Θ,xQ]at c;simp+contextual+decide(maxSteps:=1000000)only[↓wP,wQ,tf,Nat.reduceAdd,wS,reduceCtorEq,o,q,u,G,bP,c]):p:=h x y z w
theorem GP{A B C D E p:Prop}(x:A)(y:B)(z:C)(w:D)(v:E)(h:A->B->C->D->E->p:=by rename_i g first cap D;intro l e f k u b p d h a c;have q:=l b p d h c;obtain⟨xs,o,m⟩:=c;refine aG (elist_cons (jH q) aF) aI im e f k rfl rfl (aA (uO o λx h=>(u x (b x (m x h))).1).und (aA d.und aE)) aJ ?_;simp+contextual+decide(maxSteps:=1000000)only[↓wP,wQ,tf,Nat.reduceAdd,wS,reduceCtorEq,mB];rw[KB]):p:=h x y z w v
theorem KA{A B C D p:Prop}(x:A)(y:B)(z:C)(w:D)(h:A->B->C->D->p:=by rename_i g first cap D;intro k l m f e p q h x b;refine aG (elist_cons (zE h) aF) aI im k l m rfl rfl (aA (f x (e x b)).1.und (aA (oC q).und aE)) aJ ?_;have o:=λ{s:Sto}=>oB (g:=g) (first:=first) (cap:=cap) (D:=D) (p:=λx=>.bool (p x)) (L:=[]) (s:=s) b;obtain⟨_,cs,rfl,c,d⟩:=f x (e x b);have u:=ge ((φ _).trans c.symm);simp+contextual+decide(maxSteps:=1000000)only[↓wP,wQ,tf,Nat.reduceAdd,wS,reduceCtorEq,o,c,d,bU c,u]):p:=h x y z w
theorem aPc{A B C p:Prop}(x:A)(y:B)(z:C)(h:A->B->C->p:=by rename_i g first cap D;intro e f k d p m h x b;refine aG (elist_cons (zE h) aF) aI im e f k rfl rfl (aA (tu_int x (d x b)).1.und (aA (oC m).und aE)) aJ ?_;have l:=λ{s:Sto}=>oB (g:=g) (first:=first) (cap:=cap) (D:=D) (p:=λx=>.bool (p x)) (L:=[]) (s:=s) b;have c:=(tu_int x (d x b)).2;simp+contextual+decide(maxSteps:=1000000)only[↓wP,wQ,tf,Nat.reduceAdd,wS,reduceCtorEq,l,c]):p:=h x y z
section
variable {F C g:FuncId} {first cap:List AV} {a:AV} {r:Bool}
theorem a3y(c:UnderE 0 a)(o:UnderE 0 (.func (.func g) first cap))(l:Abs.Returns prog C [a,.func (.func F) [] [.pf (.func (.func g) first cap)]] (.bool r)):∀args s,onL (.func (.func F) [] [.ptr 0 0 0]) (λb=>b=a) (λs=>s.get 0=some (aP 0 [.func (.func g) first cap])) args s->bR prog C args s (.ret (.bool r) none):=λargs s m=>by match args,m with|[b,f],⟨e,h,k⟩=>subst e;subst h;exact CZ l xP ⟨.und _ c.und,uL k rfl (by intro x d;simp at d;subst d;exact o.und),e7⟩
theorem a3z{s:Sto}(c:s.get 0=some (aP 0 [.func (.func g) first cap])):aW [entB C (onL (.func (.func F) [] [.ptr 0 0 0]) (λb=>b=a) λs=>s.get 0=some (aP 0 [.func (.func g) first cap])) λ_=>.bool r] C [a,.func (.func F) [] [.ptr 0 0 0]] s=some (.ret (.bool r) none):=jC ⟨rfl,rfl,c⟩
end
theorem CY{A B C D E F p:Prop}(x:A)(y:B)(z:C)(w:D)(v:E)(u:F)(h:A->B->C->D->E->F->p:=by rename_i g first cap D;intro q G l m o M d p c h a e;have H:=q (first:=[]) (cap:=[.pf (.func (.func g) first cap)]) d (λx=>!p x) (mC (λ_ h=>nomatch h) (by intro x k;simp at k;subst k;exact oC c)) (G d p c h) e;obtain⟨xs,f,J⟩:=e;have b:=uO f λx h=>(M x (d x (J x h))).1;refine aG (L:=[entB _ _ λ_=>.bool (a.els.any λx=>!p x)]) (elist_cons (entB_ok (a3y b c H)) aF) aI im l m o rfl rfl (aA b.und (aA c.und aE)) aJ ?_;simp+contextual+decide(maxSteps:=1000000)only[↓wP,wQ,tf,Nat.reduceAdd,wS,reduceCtorEq,a3z,f.cell];rw[<-List.not_all_eq_any_not,Bool.not_not]):p:=h x y z w v u
theorem aPd:VU 286 CW:=GO func286 ntmps286 results286 @tk_val
theorem VW:VV 227 CW:=GP @aPd func227 ntmps227 results227 @tk_val
theorem aVk:VU 287 ZE:=GO func287 ntmps287 results287 @tk_fr
theorem aBl:VV 229 ZE:=GP @aVk func229 ntmps229 results229 @tk_fr
theorem aVl:VU 231 mS:=GO func231 ntmps231 results231 @tk_ob
theorem aBm:VV 175 mS:=GP @aVl func175 ntmps175 results175 @tk_ob
theorem aPe:VU 233 mT:=GO func233 ntmps233 results233 @tk_out
theorem VX:VV 179 mT:=GP @aPe func179 ntmps179 results179 @tk_out
theorem aPf:VU 232 dF:=GO func232 ntmps232 results232 @tu_int
theorem GQ:VV 177 dF:=GP @aPf func177 ntmps177 results177 @tu_int
theorem aPg:VU 347 FD:=GO func347 ntmps347 results347 @tk_con
theorem VY:VV 288 FD:=GP @aPg func288 ntmps288 results288 @tk_con
theorem aIu:VU 349 gI:=GO func349 ntmps349 results349 @tk_node
theorem RR:VV 291 gI:=GP @aIu func291 ntmps291 results291 @tk_node
theorem aPh:VU 370 BP:=GO func370 ntmps370 results370 @tk_pat
theorem VZ:VV 351 BP:=GP @aPh func351 ntmps351 results351 @tk_pat
theorem aPi:RQ 289 FD:=KA func289 ntmps289 results289 @tk_con
theorem aVm:RP 237 FD:=CY @VY @aPi func237 ntmps237 results237 @tk_con
theorem aIv:RQ 292 gI:=KA func292 ntmps292 results292 @tk_node
theorem aPj:RP 242 gI:=CY @RR @aIv func242 ntmps242 results242 @tk_node
theorem aPk:RQ 352 BP:=KA func352 ntmps352 results352 @tk_pat
theorem aFp:RP 298 BP:=CY @VZ @aPk func298 ntmps298 results298 @tk_pat
theorem aPl:RQ 299 dF:=aPc func299 ntmps299 results299
theorem aVn:RP 244 dF:=CY @GQ @aPl func244 ntmps244 results244 @tu_int
theorem aPm:RQ 300 CW:=KA func300 ntmps300 results300 @tk_val
theorem aVo:RP 247 CW:=CY @VW @aPm func247 ntmps247 results247 @tk_val
theorem aVp:RQ 353 ZE:=KA func353 ntmps353 results353 @tk_fr
theorem aPn:RP 301 ZE:=CY @aBl @aVp func301 ntmps301 results301 @tk_fr
theorem aVq:RQ 246 mS:=KA func246 ntmps246 results246 @tk_ob
theorem a0o:RP 190 mS:=CY @aBm @aVq func190 ntmps190 results190 @tk_ob
theorem aPo:RQ 255 mT:=KA func255 ntmps255 results255 @tk_out
theorem aVr:RP 193 mT:=CY @VX @aPo func193 ntmps193 results193 @tk_out
theorem aPp:RQ 304 dF:=aPc func304 ntmps304 results304
theorem aVs:RP 251 dF:=CY @GQ @aPp func251 ntmps251 results251 @tu_int
