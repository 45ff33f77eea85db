/- Lemmas. -/
import Derived.Test.YtfnmipbdjohikaaGreatEj
set_option linter.unusedSimpArgs false
set_option linter.unusedVariables false
namespace Go
abbrev ee:=@List.length_replicate
abbrev ax:=@Nat.zero_mul
end Go
namespace Go.Abs
noncomputable section
variable {P:Program} {O:bW} {H:dZ}
def SimX(l:Nat)(s s':Sto):Prop:=s.n<=s'.n/\∀id,id<s.n->id≠l->s'.get id=s.get id
def Sim(s s':Sto):Prop:=s.n<=s'.n/\∀id,id<s.n->s'.get id=s.get id
theorem Sim.refl(s:Sto):Sim s s:=⟨κ _,λ_ _=>rfl⟩
theorem Sim.trans{a b c:Sto}(h:Sim a b)(f:Sim b c):Sim a c:=⟨cy h.1 f.1,λid e=>(f.2 id (du e h.1)).trans (h.2 id e)⟩
theorem Sim.x{l:Nat}{a b:Sto}(h:Sim a b):SimX l a b:=⟨h.1,λid c _=>h.2 id c⟩
theorem SimX.trans{l:Nat}{a b c:Sto}(h:SimX l a b)(f:SimX l b c):SimX l a c:=⟨cy h.1 f.1,λid e k=>(f.2 id (du e h.1) k).trans (h.2 id e k)⟩
theorem SimX.get{l:Nat}{a b:Sto}(h:SimX l a b){id:Nat}{x:AObj}(c:a.get id=some x)(e:id≠l):b.get id=some x:=(h.2 id (g9 c) e).trans c
theorem Sim.get{a b:Sto}(h:Sim a b){id:Nat}{x:AObj}(c:a.get id=some x):b.get id=some x:=(h.2 id (g9 c)).trans c
theorem Sim.low(s:Sto)(k:Nat):Sim s {s with low:=k}:=⟨κ _,λ_ _=>rfl⟩
theorem Sim.push(s:Sto)(x:AObj):Sim s (s.push x):=⟨ej _,λid a=>by rw[ha,Φ il]⟩
theorem SimX.put(s:Sto)(l:Nat)(x:AObj):SimX l s (s.put l x):=⟨κ _,λid _ a=>by rw[he,Φ (λh=>a h.1)]⟩
theorem hC{n low:Nat}{o:Tr AObj}{i:Nat}{x:AObj}:(Sto.mk n low o).put i x=⟨n,Nat.min i low,o.set i x⟩:=by have h:=hn (Sto.mk n low o) i x;have:(Sto.mk n low o).put i x=⟨n,((Sto.mk n low o).put i x).low,o.set i x⟩:=rfl;rw[this,h]
theorem hl(s:Sto)(i:Nat)(x:AObj):(s.put i x).low<=i:=by rw[hn];exact dc _ _
theorem hj(s:Sto){i:Nat}(x:AObj)(h:i<s.n):(s.put i x).get i=some x:=by rw[he,dx ⟨rfl,h⟩]
theorem hf(s:Sto)(x:AObj):(s.push x).get s.n=some x:=by rw[ha,dx rfl]
theorem hM(s:Sto)(x:AObj){i:Nat}(h:i<s.n):(s.push x).get i=s.get i:=(Sim.push s x).2 i h
theorem Wcall.mono{b:AV}{args:List AV}{s:Sto}{K a:CRes->Prop}(h:Wcall P O b args s K)(f:∀res,K res->a res):Wcall P O b args s a:=by obtain⟨n,res,k,c,e⟩:=h;exact⟨n,res,k,c,f _ e⟩
def rK(l:Nat)(J:Nat->Sto->Prop)(D:Sto->Prop)(X:AV->Sto->Prop)(i:Nat)(s:Sto):CRes->Prop| .ret (.bool true) a=>(a.getD s).low<=l/\l<(a.getD s).n/\J (i+1) (a.getD s)| .ret (.bool false) a=>(a.getD s).low<=l/\D (a.getD s)| .pan v a=>(a.getD s).low<=l/\X v (a.getD s)|_=>False
def aYx(n:Nat)(J:Nat->Sto->Prop)(D:Sto->Prop)(X:AV->Sto->Prop)(s:Sto):CRes->Prop| .ret _ a=>J n (a.getD s)∨D (a.getD s)| .pan v a=>X v (a.getD s)
def a4e(P:Program)(O:bW)(a:AV)(xs:List (List AV)):Prop:=∀(l:Nat)(J:Nat->Sto->Prop)(D:Sto->Prop)(X:AV->Sto->Prop)(s:Sto),l<s.n->(∀i s s',Sim s s'->J i s->J i s')->(∀s s',Sim s s'->D s->D s')->(∀v s s',Sim s s'->X v s->X v s')->J 0 s->(∀i x,xs[i]?=some x->∀s,l<s.n->J i s->Wcall P O (.func (.yield l) [] []) x s (rK l J D X i s))-> Wcall P O a [.func (.yield l) [] []] s (aYx xs.length J D X s)
theorem qW(s:Sto)(v:AV)(e:Env)(G:Sto->Prop)(c:∀s s',Sim s s'->G s->G s')(h:G e.s)(b:e.s.low<s.n∨G s):G ((gG s v e).getD s):=by cases a:gG s v e with|none=>rcases b with b|b;rw[xV b]at a;cases a;exact b|some s'=>have:s' ={e.s with low:=Nat.min s.low e.s.low}:=by{unfold gG at a;cases f:(Nat.ble s.n e.s.low&&(v.under s.n 100&&TL s.n e.r))with|true=>rw[f]at a;cases a|false=>rw[f]at a;simp at a;exact a.symm};rw[this];exact c _ _ (Sim.low _ _) h
def FG(P:Program)(l:Nat)(lo:LoopState->Option Code->AObj)(J:Nat->Sto->Prop)(D:Code->Sto->Prop)(X:AV->Sto->Prop)(i:Nat):Ex->Env->Prop| .normal,e=>e.ds=[]/\e.s.get l=some (lo .busy none)/\J (i+1) e.s| .ret,e=>e.ds=[]/\e.s.get l=some (lo .busy none)/\D .ret e.s| .exit id,e=>e.ds=[]/\e.s.get l=some (lo .busy none)/\D (.exit id) e.s| .panic v,e=>e.ds=[]/\okFn P e.fn=true/\e.s.low<=l/\X v e.s|_,_=>False
def FH(P:Program)(O:bW)(H:dZ)(l:Nat)(lo:LoopState->Option Code->AObj)(b:Code)(R:Ex->Env->Prop):Ex->Env->Prop| .normal,e=>e.s.get l=some (lo .ready none)/\Wk P O H b (e.setS (e.s.put l (lo .busy none))) R|_,_=>False
theorem GU{l:Nat}{fn:FuncId}{nt d i:Nat}{t U:Tr AV}{ps:List Nat}{a b:Code}{args:List AV}{s:Sto}{J L:Nat->Sto->Prop}{D:Sto->Prop}{E:Code->Sto->Prop}{X:AV->Sto->Prop}(hg:s.get l=some (.loop .ready none fn nt t ps a b d))(G:AT nt t ps args=some U)(hJ:∀e:Sto,l<e.n->∀k,J (i+1) e->L (i+1) {e.put l (.loop .ready none fn nt t ps a b d)with low:=k})(V:∀(e:Sto) c,l<e.n->∀k,E c e->D {e.put l (.loop .done (some c) fn nt t ps a b d)with low:=k})(hX:∀(e:Sto) v k,X v e->X v {e with low:=k})(h:Wk P O H a ⟨nt,some l,fn,U,[],⟨s.n,s.n,s.o⟩,.no⟩ (FH P O H l (λst p=>.loop st p fn nt t ps a b d) b (FG P l (λst p=>.loop st p fn nt t ps a b d) J E X i))): Wcall P O (.func (.yield l) [] []) args s (rK l L D X i s):=by
 obtain⟨S,N,M,h1,Y⟩:=h.sound
 cases N with|normal=>{obtain⟨hr,hb⟩:=Y;obtain⟨T,w,q,h2,F⟩:=hb.sound;have y:∀res,(∀m,S<=m->T<=m->pM P (aU P O m) m l args s=some (res,.no))->rK l L D X i s res->Wcall P O (.func (.yield l) [] []) args s (rK l L D X i s):=by{intro res hm hk;refine⟨max S T+1,res,.no,?_,hk⟩;have:FU O (.func (.yield l) [] []) args s .no=none:=rfl;simp only[aU,this,kF,cq];exact hm _ (b3 _ _) (c1 _ _)};have f:∀m,S<=m->T<=m->pM P (aU P O m) m l args s=match(w,q)with|(.normal,e)=>fK s l none e|(.ret,e)=>fK s l (some .ret) e|(.exit id,e)=>fK s l (some (.exit id)) e|(.panic v,e)=>(match e.ds with|[]=>bif okFn P e.fn then some (.pan v (some {e.s with low:=Nat.min s.low e.s.low}),.no)else none|_=>none)|_=>none:=by{intro m Q R;have Z:bM P (aU P O m) m a {nt:=nt,ro:=some l,fn:=fn,t:=U,ds:=[],s:={s with low:=s.n},r:=.no}= some (.normal,M):=sG Q h1;have c2:bM P (aU P O m) m b {M with s:=M.s.put l (.loop .busy none fn nt t ps a b d)}= some (w,q):=sG R h2;simp only[pM,hg,G,Z,hr,c2];cases w<;>rfl};cases w with|normal=>obtain⟨A,u,B⟩:=F;have C:=g9 u;refine y (.ret (.bool true) (some {q.s.put l (.loop .ready none fn nt t ps a b d)with low:=Nat.min s.low (q.s.put l (.loop .ready none fn nt t ps a b d)).low})) (λm a1 a2=>by rw[f m a1 a2];simp only[fK,u,A];rfl) (And.intro ?_ (And.intro C (hJ _ C _ B)));exact cy (di _ _) (hl _ _ _)|ret=>obtain⟨A,u,B⟩:=F;have C:=g9 u;refine y (.ret (.bool false) (some {q.s.put l (.loop .done (some .ret) fn nt t ps a b d)with low:=Nat.min s.low (q.s.put l (.loop .ready none fn nt t ps a b d)).low})) (λm a1 a2=>by rw[f m a1 a2];simp only[fK,u,A];rfl) (And.intro ?_ (V _ _ C _ B));exact cy (di _ _) (hl _ _ _)|exit id=>obtain⟨A,u,B⟩:=F;have C:=g9 u;refine y (.ret (.bool false) (some {q.s.put l (.loop .done (some (.exit id)) fn nt t ps a b d)with low:=Nat.min s.low (q.s.put l (.loop .ready none fn nt t ps a b d)).low})) (λm a1 a2=>by rw[f m a1 a2];simp only[fK,u,A];rfl) (And.intro ?_ (V _ _ C _ B));exact cy (di _ _) (hl _ _ _)|panic v=>obtain⟨A,u,B,q4⟩:=F;exact y (.pan v (some {q.s with low:=Nat.min s.low q.s.low})) (λm a1 a2=>by rw[f m a1 a2];simp only[A,u,cr]) (And.intro (cy (di _ _) B) (hX _ _ _ q4))|_=>exact F.elim}|_=>exact Y.elim
theorem aVy{xs:List (List AV)}{f:Operand}{ps:Array Tmp}{a b:Code}{nt:Nat}{fn:FuncId}{t:Tr AV}{ds:List ADef}{s:Sto}{r:ARec}{Q:Ex->Env->Prop}(J:Nat->Sto->Prop)(E:Code->Sto->Prop)(X:AV->Sto->Prop)(hI:a4e P O ((Env.mk nt none fn t ds s r).eval f) xs)(N:∀i u q,SimX (s.n+1) u q->J i u->J i q)(M:∀c u q,SimX (s.n+1) u q->E c u->E c q)(Y:∀v u q,Sim u q->X v u->X v q)(hc:∀c u,E c u->c=.ret∨∃id,c=.exit id)(h0:J 0 s)(hr:∀i x,xs[i]?=some x->∀u:Sto,s.n+1<u.n->u.get s.n=some (.defs (some []))->u.get (s.n+1)=some (.loop .ready none fn nt t ps.toList a b s.n)->J i u->∃U,AT nt t ps.toList x=some U/\Wk P O H a ⟨nt,some (s.n+1),fn,U,[],⟨u.n,u.n,u.o⟩,.no⟩ (FH P O H (s.n+1) (λst p=>.loop st p fn nt t ps.toList a b s.n) b (FG P (s.n+1) (λst p=>.loop st p fn nt t ps.toList a b s.n) (λi u=>J i u/\u.get s.n=some (.defs (some []))) (λc u=>E c u/\u.get s.n=some (.defs (some []))) X i)))(C:∀u:Sto,s.n+1<u.n->u.get s.n=some (.defs (some []))->J xs.length u->Q .normal ⟨nt,none,fn,t,.collected s.n::ds,u,r⟩)(F:∀u:Sto,s.n+1<u.n->u.get s.n=some (.defs (some []))->E .ret u->Q .ret ⟨nt,none,fn,t,.collected s.n::ds,u,r⟩)(y:∀id(u:Sto),s.n+1<u.n->u.get s.n=some (.defs (some []))->E (.exit id) u->Q (.exit id) ⟨nt,none,fn,t,.collected s.n::ds,u,r⟩)(D:∀v(u:Sto),X v u->Q (.panic v) ⟨nt,none,fn,t,.collected s.n::ds,u,r⟩): Wk P O H (.rangeFunc f ps a b) ⟨nt,none,fn,t,ds,s,r⟩ Q:=by
 let lo:LoopState->Option Code->AObj:=λst p=>.loop st p fn nt t ps.toList a b s.n
 let Z:=s.push (.defs (some []));let l:=Z.push (lo .ready none);let J':Nat->Sto->Prop:=λi u=>u.get s.n=some (.defs (some []))/\u.get (s.n+1)=some (lo .ready none)/\J i u;let D':Sto->Prop:=λu=>u.get s.n=some (.defs (some []))/\∃c,u.get (s.n+1)=some (lo .done (some c))/\E c u;have m:∀(u:Sto) k,SimX (s.n+1) u {u with low:=k}:=λu k=>(Sim.low u k).x;have e0:l.get s.n=some (.defs (some [])):=by rw[hM _ _ (d5 _)];exact hf _ _
 have e1:l.get (s.n+1)=some (lo .ready none):=hf Z _;obtain⟨n,res,rr,w,V⟩:=hI (s.n+1) J' D' X l (d5 _) (λi u q A ⟨k1,k2,k3⟩=>⟨A.get k1,A.get k2,N _ _ _ A.x k3⟩) (λu q A ⟨k1,c,k2,k3⟩=>⟨A.get k1,c,A.get k2,M _ _ _ A.x k3⟩) Y ⟨e0,e1,N 0 s l ((Sim.push _ _).trans (Sim.push _ _)).x h0⟩ (λi x L u hu ⟨k1,k2,k3⟩=>by obtain⟨U,ht,hw⟩:=hr i x L u hu k1 k2 k3;refine GU (H:=H) (J:=λi u=>J i u/\u.get s.n=some (.defs (some []))) (E:=λc u=>E c u/\u.get s.n=some (.defs (some []))) k2 ht ?_ ?_ ?_ hw;rintro e R k ⟨T,S⟩;exact⟨(((SimX.put e (s.n+1) _).trans (m _ k)).get S il),(Sim.low _ k).get (hj _ _ R),N _ _ _ ((SimX.put e (s.n+1) _).trans (m _ k)) T⟩;rintro e c R k ⟨S,T⟩;exact⟨(((SimX.put e (s.n+1) _).trans (m _ k)).get T il),c,(Sim.low _ k).get (hj _ _ R),M _ _ _ ((SimX.put e (s.n+1) _).trans (m _ k)) S⟩;exact λe v k L=>Y _ _ _ (Sim.low _ k) L);show W P O (.rangeFunc f ps a b) ⟨nt,none,fn,t,ds,s,r⟩ Q
 have B:∀x,(match res with| .ret _ h=>eA ⟨nt,none,fn,t,ds,s,r⟩ (.collected s.n::ds) (s.n+1) (match h with|some s=>s|none=>l)| .pan v h=>some (.panic v,{(Env.mk nt none fn t ds s r)with s:=(match h with|some s=>s|none=>l),ds:=.collected s.n::ds}))=some x->bM P (aU P O n) n (.rangeFunc f ps a b) ⟨nt,none,fn,t,ds,s,r⟩=some x:=by intro x L;show(match aU P O n ((Env.mk nt none fn t ds s r).eval f) [.func (.yield (s.n+1)) [] []] l .no with|some (.ret _ h,_)=>eA ⟨nt,none,fn,t,ds,s,r⟩ (.collected s.n::ds) (s.n+1) (match h with|some s=>s|none=>l)|some (.pan v h,_)=>some (.panic v,{(Env.mk nt none fn t ds s r)with s:=(match h with|some s=>s|none=>l),ds:=.collected s.n::ds})|none=>none)=some x;rw[w];cases res<;>exact L
 have G:∀h:Option Sto,(match h with|some s=>s|none=>l)=h.getD l:=λh=>by cases h<;>rfl
 cases res with|ret v h=>simp only[G]at B;rcases V with⟨k1,k2,k3⟩|⟨k1,c,k2,k3⟩;refine⟨n,.normal,_,B _ (by simp only[eA,k2,lo]),C ((h.getD l).put (s.n+1) (lo .exhausted none)) (show s.n+1<(h.getD l).n from g9 k2) ((SimX.put _ (s.n+1) _).get k1 il) (N _ _ _ (SimX.put _ (s.n+1) _) k3)⟩;rcases hc c _ k3 with rfl|⟨id,rfl⟩;exact⟨n,.ret,_,B _ (by simp only[eA,k2,lo]),F ((h.getD l).put (s.n+1) (lo .exhausted (some .ret))) (show s.n+1<(h.getD l).n from g9 k2) ((SimX.put _ (s.n+1) _).get k1 il) (M _ _ _ (SimX.put _ (s.n+1) _) k3)⟩;exact⟨n,.exit id,_,B _ (by simp only[eA,k2,lo]),y id ((h.getD l).put (s.n+1) (lo .exhausted (some (.exit id)))) (show s.n+1<(h.getD l).n from g9 k2) ((SimX.put _ (s.n+1) _).get k1 il) (M _ _ _ (SimX.put _ (s.n+1) _) k3)⟩|pan v h=>simp only[G]at B;exact⟨n,.panic v,_,B _ rfl,D v _ V⟩
def DB(P:Program)(rs:List ResultVar)(v:AV)(a:Ex)(e:Env):Prop:=match a with| .normal| .ret=>(match e.ds with|[]=>e.r=.no/\AM (bA P e rs) (λS r=>Frz S 0 r v) e.s|[.collected d]=>e.r=.no/\e.s.get d=some (.defs (some []))/\AM (bA P {e with ds:=[],s:=e.s.put d (.defs none)} rs) (λS r=>Frz S 0 r v) (e.s.put d (.defs none))|_=>False)|_=>False
theorem aVz{fn:Func}{rs:List ResultVar}(p:fn.results=rs.toArray){v:AV}{c:Ex}{e:Env}(h:DB P rs v c e):bodyK P O fn (aJh .empty (.ret v none)) c e:=by
 have a:fn.results.toList=rs:=by rw[p]
 have b:(match e.ds with|[]=>e.r=.no/\AM (bA P e rs) (λS r=>Frz S 0 r v) e.s|[.collected d]=>e.r=.no/\e.s.get d=some (.defs (some []))/\AM (bA P {e with ds:=[],s:=e.s.put d (.defs none)} rs) (λS r=>Frz S 0 r v) (e.s.put d (.defs none))|_=>False)->Lv P O fn none e (aJh .empty (.ret v none)):=by intro h;split at h;rename_i m;obtain⟨f,vs,k,l⟩:=h;exact mV m (by rw[a];exact k) ⟨f,uQ (γ _) l⟩;rename_i d m;obtain⟨f,o,vs,k,l⟩:=h;refine aFx m o ?_;exact mV rfl (by rw[a];exact k) ⟨f,uQ (γ _) l⟩;exact h.elim
 cases c with|normal=>exact b h|ret=>exact b h|_=>exact h.elim
theorem aBo{L:List iA}(b:∀x∈L,cH P x)(H:dZ){f:FuncId}{fn:Func}{c:Code}{N:Nat}{rs:List ResultVar}{args:List AV}{v:AV}(a:okFn P f=true)(o:P.funcs[f]?=some fn)(p:fn.ntmps=N)(q:fn.results=rs.toArray)(l:fn.body=some c)(k:Nat.ble args.length N=true)(r:∀x∈args,Und 0 x)(h:Wk P (aW L) H c ⟨N,none,f,Tr.leaf.lay 0 args,[],⟨0,0,.leaf⟩,.no⟩ (DB P rs v)):Returns P f args v:=by refine gR r (tS (O:=aW L) (mZ b) a o l ?_);rw[jU p k];exact h.sound.mono λu e m=>aVz q m
section
variable {rs:List ResultVar} {v:AV} {nt:Nat} {ro:Option Nat} {fn:FuncId} {t:Tr AV} {s:Sto} {d:Nat}
theorem aJb:DB P rs v .ret ⟨nt,ro,fn,t,[],s,.no⟩↔AM (bA P ⟨nt,ro,fn,t,[],s,.no⟩ rs) (λS r=>Frz S 0 r v) s:=by simp[DB]
theorem RY:DB P rs v .normal ⟨nt,ro,fn,t,[],s,.no⟩↔AM (bA P ⟨nt,ro,fn,t,[],s,.no⟩ rs) (λS r=>Frz S 0 r v) s:=by simp[DB]
theorem aJc:DB P rs v .ret ⟨nt,ro,fn,t,[.collected d],s,.no⟩↔s.get d=some (.defs (some []))/\AM (bA P ⟨nt,ro,fn,t,[],s.put d (.defs none),.no⟩ rs) (λS r=>Frz S 0 r v) (s.put d (.defs none)):=by simp[DB]
theorem RZ:DB P rs v .normal ⟨nt,ro,fn,t,[.collected d],s,.no⟩↔s.get d=some (.defs (some []))/\AM (bA P ⟨nt,ro,fn,t,[],s.put d (.defs none),.no⟩ rs) (λS r=>Frz S 0 r v) (s.put d (.defs none)):=by simp[DB]
end
end
noncomputable section
variable {P:Program} {O:bW} {H:dZ}
def HJ(x:Option (Nat × Option Nat))(id g off:Nat)(lo hi:Option AV)(d:Option AV):Option AV:=match x with|some (n,k)=>(match gM hi n n with|some h=>(match gM lo 0 h with|some l=>some (bif Nat.beq n l then .sl id g off (h-l) (.is (n-l))else .sl id g (off+l*nR k) (h-l) (.is (n-l)))|none=>none)|none=>none)|none=>d
theorem aBp{t:TypeId}{id g off:Nat}{lo hi:Option AV}:iR P t (.ptr id g off) lo hi none=HJ (ZF P t) id g off lo hi (uN P t (.ptr id g off) lo hi none):=by cases h:ZF P t with|none=>rfl|some y=>unfold ZF at h;split at h;rename_i n e b;cases a:tyK P e with|none=>rw[a]at h;cases h|some x=>{rw[a]at h;simp at h;subst h;simp only[iR,b,(uS a).1,HJ];rfl};cases h
theorem aWa{n id g off:Nat}{k:Option Nat}{j:IntKind}{a:Int}{d:Option AV}(c:0<=a)(f:a<n):HJ (some (n,k)) id g off (some (.int j a)) none d=some (.sl id g (off+a.toNat*nR k) (n-a.toNat) (.is (n-a.toNat))):=by
 have b:Nat.beq n a.toNat=false:=by cases e:Nat.beq n a.toNat with|false=>rfl|true=>have:=bk e;omega
 simp only[HJ,qY,pX c (show a<=(n:Int) by omega),b,b7]
theorem aWb{n id g off:Nat}{k:Option Nat}{j:IntKind}{b:Int}{d:Option AV}(c:0<=b)(e:b<=n)(f:n≠0):HJ (some (n,k)) id g off none (some (.int j b)) d=some (.sl id g off b.toNat (.is n)):=by
 have a:Nat.beq n 0=false:=by cases n with|zero=>exact absurd rfl f|succ n=>rfl
 simp only[HJ,qY,pX c e,a,b7,ax,bo,ev]
theorem aPw{n id g off:Nat}{k:Option Nat}{d:Option AV}(b:n≠0):HJ (some (n,k)) id g off none none d=some (.sl id g off n (.is n)):=by
 have a:Nat.beq n 0=false:=by cases n with|zero=>exact absurd rfl b|succ n=>rfl
 simp only[HJ,qY,a,b7,ax,bo,ev]
def SA(P:Program)(t:TypeId)(v:AV):Option AV:=match P.underlying t,v with|some (.array n _),.sl id g off len _=>bif Nat.ble n len then some (.ptr id g off)else none|_,_=>none
def aBq(x:Option (Nat × Option Nat))(v d:Option AV):Option AV:=match x,v with|some (n,_),some (.sl id g off len _)=>bif Nat.ble n len then some (.ptr id g off)else none|_,_=>d
theorem aWc{t:TypeId}{x:Operand}{e:Env}{K:ORes->Prop}:fP P O (.sliceToArrayPointer t x) e K↔rF (aBq (ZF P t) (some (e.eval x)) (SA P t (e.eval x))) K:=by
 have w:fP P O (.sliceToArrayPointer t x) e K↔rF (SA P t (e.eval x)) K:=by have o:∀n,fR P (aU P O n) (.sliceToArrayPointer t x) e=(match SA P t (e.eval x)with|some v=>some (ORes.val v)|none=>none):=by{intro n;show(match P.underlying t,e.eval x with|some (.array n _),.sl id g off len _=>bif Nat.ble n len then some (ORes.val (.ptr id g off))else none|_,_=>none)=_;unfold SA;cases P.underlying t with|none=>rfl|some d=>cases d<;>first|rfl|(cases e.eval x<;>first|rfl|(rename_i n _ _ _ _ len _;cases m:Nat.ble n len<;>rfl)|(dsimp only;split<;>rfl)|(simp only[];rename_i a _ _ _ b _ _;cases m:Nat.ble a b<;>rfl)|(rename_i a b c d e f g;cases m:Nat.ble a f<;>simp[m]))};constructor;rintro⟨n,r,k,l⟩;rw[o]at k;cases q:SA P t (e.eval x)with|none=>rw[q]at k;cases k|some v=>{rw[q]at k;simp at k;subst k;exact XH.2 l};rintro⟨v,k,l⟩;exact⟨0,_,by rw[o,k],l⟩
 rw[w];have:SA P t (e.eval x)=aBq (ZF P t) (some (e.eval x)) (SA P t (e.eval x)):=by cases h:ZF P t with|none=>rfl|some y=>unfold ZF at h;split at h;rename_i n u A;cases p:tyK P u with|none=>rw[p]at h;cases h|some z=>{rw[p]at h;simp at h;subst h;simp only[SA,A,aBq];cases e.eval x<;>rfl};cases h
 rw[<-this]
theorem aWd{n id g off len:Nat}{k:Option Nat}{c:ACap}{d:Option AV}(h:n<=len):aBq (some (n,k)) (some (.sl id g off len c)) d=some (.ptr id g off):=by
 have:Nat.ble n len=true:=by simpa using h
 simp[aBq,this]
def cC(b:Nat):AV:=.int .u8 (b:Nat)
theorem WF(l:List Nat):iS l=l.map cC:=rfl
theorem aJd(b:Nat):(cC b).isCell=true:=rfl
theorem oY(l:List Nat):(l.map cC).all AV.isCell=true:=by simp[μ,aJd]
theorem WH{n:Nat}(b:Nat):Und n (cC b):=aQ
theorem qX{α β:Type}(f:α->β)(l:List α)(i n:Nat):aS (l.map f) i n=(aS l i n).map f:=by simp[aS,ga,fd]
theorem a0u:(∀{P:Program}{t:TypeId}{id g off:Nat}{lo hi:Option AV},iR P t (.ptr id g off) lo hi none=HJ (ZF P t) id g off lo hi (uN P t (.ptr id g off) lo hi none))/\(∀{n id g off:Nat}{k:Option Nat}{j:IntKind}{a:Int}{d:Option AV},0<=a->a<n->HJ (some (n,k)) id g off (some (.int j a)) none d=some (.sl id g (off+a.toNat*nR k) (n-a.toNat) (.is (n-a.toNat))))/\(∀{n id g off:Nat}{k:Option Nat}{j:IntKind}{b:Int}{d:Option AV},0<=b->b<=n->n≠0->HJ (some (n,k)) id g off none (some (.int j b)) d=some (.sl id g off b.toNat (.is n)))/\(∀{n id g off:Nat}{k:Option Nat}{d:Option AV},n≠0->HJ (some (n,k)) id g off none none d=some (.sl id g off n (.is n)))/\(∀{P:Program}{O:bW}{t:TypeId}{x:Operand}{e:Env}{K:ORes->Prop},fP P O (.sliceToArrayPointer t x) e K↔rF (aBq (ZF P t) (some (e.eval x)) (SA P t (e.eval x))) K)/\(∀{n id g off len:Nat}{k:Option Nat}{c:ACap}{d:Option AV},n<=len->aBq (some (n,k)) (some (.sl id g off len c)) d=some (.ptr id g off))/\(nR none=1)/\(∀{n:Nat},nR (some n)=n)/\(∀{l:List Nat},iS l=l.map cC)/\(∀{l:List Nat},(l.map cC).all AV.isCell=true)/\(∀{α β:Type}{f:α->β}{l:List α}{i n:Nat},aS (l.map f) i n=(aS l i n).map f)/\(∀{α β:Type}{f:α->β}{l:List α},(l.map f).length=l.length):=⟨aBp,aWa,aWb,aPw,aWc,aWd,rfl,rfl,WF _,oY _,qX _ _ _ _,ρ _⟩
theorem aPx:(∀{P:Program}{rs:List ResultVar}{v:AV}{nt:Nat}{ro:Option Nat}{fn:FuncId}{t:Tr AV}{s:Sto},DB P rs v .ret ⟨nt,ro,fn,t,[],s,.no⟩↔AM (bA P ⟨nt,ro,fn,t,[],s,.no⟩ rs) (λS r=>Frz S 0 r v) s)/\(∀{P:Program}{rs:List ResultVar}{v:AV}{nt:Nat}{ro:Option Nat}{fn:FuncId}{t:Tr AV}{s:Sto},DB P rs v .normal ⟨nt,ro,fn,t,[],s,.no⟩↔AM (bA P ⟨nt,ro,fn,t,[],s,.no⟩ rs) (λS r=>Frz S 0 r v) s)/\(∀{P:Program}{rs:List ResultVar}{v:AV}{nt:Nat}{ro:Option Nat}{fn:FuncId}{t:Tr AV}{s:Sto}{d:Nat},DB P rs v .ret ⟨nt,ro,fn,t,[.collected d],s,.no⟩↔s.get d=some (.defs (some []))/\AM (bA P ⟨nt,ro,fn,t,[],s.put d (.defs none),.no⟩ rs) (λS r=>Frz S 0 r v) (s.put d (.defs none)))/\(∀{P:Program}{rs:List ResultVar}{v:AV}{nt:Nat}{ro:Option Nat}{fn:FuncId}{t:Tr AV}{s:Sto}{d:Nat},DB P rs v .normal ⟨nt,ro,fn,t,[.collected d],s,.no⟩↔s.get d=some (.defs (some []))/\AM (bA P ⟨nt,ro,fn,t,[],s.put d (.defs none),.no⟩ rs) (λS r=>Frz S 0 r v) (s.put d (.defs none)))/\(∀{C:Sto->AV->Prop}{l:List AV}{s:Sto},AM (some l) C s↔C s (rH l))/\(∀{n low:Nat}{o:Tr AObj}{i:Nat}{x:AObj},(Sto.mk n low o).put i x=⟨n,Nat.min i low,o.set i x⟩):=⟨aJb,RY,aJc,RZ,WZ,hC⟩
open Classical in def WI{ι:Type}(f:FuncId)(A:ι->List AV)(V:ι->AV):iA:=(f,λargs _=>if h:∃i,A i=args then some (.ret (V h.choose) none)else none)
theorem SB{ι:Type}{f:FuncId}{A:ι->List AV}{V:ι->AV}(h:∀i,Returns P f (A i) (V i)):cH P (WI f A V):=by intro args s res a;simp only[WI]at a;split at a;rename_i b;simp at a;subst a;have:=h b.choose s;rwa[b.choose_spec]at this;cases a
theorem entF_same{ι:Type}{f:FuncId}{A:ι->List AV}{V:ι->AV}{L:List iA}{s:Sto}(a:∀i j,A i=A j->V i=V j)(i:ι):aW (WI f A V::L) f (A i) s=some (.ret (V i) none):=by rw[WI,oG];have b:∃j,A j=A i:=⟨i,rfl⟩;rw[fm b,a _ _ b.choose_spec]
theorem aFv{ι:Type}{f h:FuncId}{A:ι->List AV}{V:ι->AV}{L:List iA}{args:List AV}{s:Sto}(a:h≠f):aW (WI h A V::L) f args s=aW L f args s:=zJ a
def pW(f:FuncId)(a:List AV)(v:AV):iA:=WI f (λ_:Unit=>a) λ_=>v
theorem jH{f:FuncId}{a:List AV}{v:AV}(h:Returns P f a v):cH P (pW f a v):=SB λ_=>h
theorem mB{f:FuncId}{a:List AV}{v:AV}{L:List iA}{s:Sto}:aW (pW f a v::L) f a s=some (.ret v none):=entF_same (λ_ _ _=>rfl) ()
theorem DC{f h:FuncId}{a:List AV}{v:AV}{L:List iA}{args:List AV}{s:Sto}(b:h≠f):aW (pW h a v::L) f args s=aW L f args s:=zJ b
theorem dB{S:Sto}{n:Nat}:∀(i:Nat)(x y:AV),([]:List AV)[i]?=some x->([]:List AV)[i]?=some y->Frz S n x y:=λ_ _ _ h=>by simp at h
theorem aH{S:Sto}{n:Nat}{a e:AV}{l f:List AV}(h:Frz S n a e)(k:∀(i:Nat)(x y:AV),l[i]?=some x->f[i]?=some y->Frz S n x y):∀(i:Nat)(x y:AV),(a::l)[i]?=some x->(e::f)[i]?=some y->Frz S n x y:=λi x y b c=>by cases i with|zero=>simp at b c;subst b;subst c;exact h|succ i=>exact k i x y (by simpa using b) (by simpa using c)
theorem SC{S:Sto}{n id g off:Nat}{cs:List AV}{v:AV}(k:n<=id)(c:S.get id=some (aP g cs))(f:off+v.cells.length<=cs.length)(h:∀(j:Nat)(x y:AV),cs[off+j]?=some x->v.cells[j]?=some y->Frz S n x y):Frz S n (.ptr id g off) (.pf v):=by
 refine .ptr id g off cs.length _ v (λj=>cs.getD (off+j) .top) k c f (λj y b=>?_) (λj y b=>?_);have e:=(ζ.1 b).1;have a:off+j<cs.length:=il
 rw[hv,δ a];simp[ξ,a];have e:=(ζ.1 b).1;have a:off+j<cs.length:=il
 refine h j _ y ?_ b;simp[ξ,a]
theorem xS{S:Sto}{n id g off len:Nat}{cap:ACap}{cs l:List AV}(o:n<=id)(m:S.get id=some (aP g cs))(e:l.length=len)(p:off+len<=cs.length)(f:∀x∈l,x.isCell=true)(h:∀(j:Nat)(x y:AV),cs[off+j]?=some x->l[j]?=some y->Frz S n x y):Frz S n (.sl id g off len cap) (.fz l false):=by
 refine .sl id g off len cap cs.length 1 _ l (λi _=>cs.getD (off+i) .top) o m e il (λx b=>by rw[fF (f x b)];rfl) (λi j x y b c=>?_) (λi j x y b c=>?_);have hi:=(ζ.1 b).1;rw[fF (f x (Ψ b))]at c;have k:j=0:=by have:=(ζ.1 c).1;simp at this;exact this
 subst k;have a:off+i<cs.length:=il
 rw[hv,dy,bo,δ a];simp[ξ,a];have hi:=(ζ.1 b).1;rw[fF (f x (Ψ b))]at c;have k:j=0:=by have:=(ζ.1 c).1;simp at this;exact this
 subst k;simp at c;subst c;have a:off+i<cs.length:=il
 exact h i _ x (by simp[ξ,a]) b
theorem aN{ops rest:List Oper}{dst:Option Tmp}{nt:Nat}{ro:Option Nat}{fn:FuncId}{t:Tr AV}{ds:List ADef}{s:Sto}{r:ARec}{Q:Ex->Env->Prop}{v:AV}{a:Option Sto}: callK s (cL P O ops dst rest ⟨nt,ro,fn,t,ds,s,r⟩ Q) (.ret v a)=cL P O ops dst rest ⟨nt,ro,fn,t,ds,s,r⟩ Q (.val' v (a.getD s)):=by cases a<;>rfl
theorem KH{ops rest:List Oper}{dst:Option Tmp}{nt:Nat}{ro:Option Nat}{fn:FuncId}{t:Tr AV}{ds:List ADef}{s:Sto}{r:ARec}{Q:Ex->Env->Prop}{v:AV}{a:Option Sto}: callK s (cL P O ops dst rest ⟨nt,ro,fn,t,ds,s,r⟩ Q) (.pan v a)=cL P O ops dst rest ⟨nt,ro,fn,t,ds,s,r⟩ Q (.pan v (a.getD s)):=by cases a<;>rfl
theorem dT{n:Nat}:(n<n+1)/\(n<n+1+1)/\(n<n+1+1+1)/\(n+1<n+1+1)/\(n+1<n+1+1+1)/\(n+1+1<n+1+1+1)/\n≠n+1/\n+1≠n/\n≠n+1+1/\n+1+1≠n/\n+1≠n+1+1/\n+1+1≠n+1/\n<=n+1/\n<=n+1+1/\n<=n+1+1+1/\n+1<=n+1+1/\n+1<=n+1+1+1:=by refine⟨?_,?_,?_,?_,?_,?_,?_,?_,?_,?_,?_,?_,?_,?_,?_,?_,?_⟩<;>omega
theorem bQ{i n:Nat}(h:i<n):i<n/\i<n+1/\i<n+1+1/\i<n+1+1+1/\i≠n/\n≠i/\i≠n+1/\n+1≠i/\i≠n+1+1/\n+1+1≠i:=by refine⟨?_,?_,?_,?_,?_,?_,?_,?_,?_,?_⟩<;>omega
theorem aFw{a:AV}{n:Nat}(h:a.isCell=true):(List.replicate n a).all AV.isCell=true:=by simp[h]
theorem a5h{α:Type}{a:α}{n:Nat}:(List.replicate n a).length=n:=ee
end
noncomputable section
variable {P:Program} {O:bW} {H:dZ}
def msK(P:Program)(t:TypeId):Option (Nat × Nat × List AV):=match P.underlying t with|some (.slice a)=>(match wC P a,rM P a,bN P a with|some k,some b,some z=>bif Nat.beq z.cells.length k then some (k,b,z.cells)else none|_,_,_=>none)|_=>none
theorem oQ{t:TypeId}{lo a:Operand}{e:Env}{K:ORes->Prop}{k b:Nat}{z:List AV}{i j:IntKind}{l c:Nat}(h:msK P t=some (k,b,z))(D:e.eval lo=.int i (l:Nat))(C:e.eval a=.int j (c:Nat))(w:l<=c)(y:b*c<=140737488355328)(A:c<=4611686018427387904)(F:(fD z c).all AV.isCell=true)(B:K (.val' (.sl e.s.n 0 0 l (.is c)) (e.s.push (ob (fD z c))))):fP P O (.makeSlice t lo a) e K:=by
 refine⟨0,_,?_,B⟩;unfold msK at h;split at h;rename_i f E;split at h;rename_i G b' N J L M;cases m:Nat.beq N.cells.length G with|false=>rw[m]at h;cases h|true=>rw[m]at h;simp at h;obtain⟨rfl,rfl,rfl⟩:=h;show(match P.underlying t,e.eval lo,e.eval a with|some (.slice f),.int _ (.ofNat l),.int _ (.ofNat c)=>(match wC P f,rM P f,bN P f with|some k,some by_,some z=>bif Nat.ble l c&&Nat.ble (by_*c) (2 ^ 47)&&Nat.ble c (2 ^ 62)&&Nat.beq z.cells.length k then(match rX e.s (fD z.cells c)with|some (id,s)=>some (ORes.val' (.sl id 0 0 l (.is c)) s)|none=>none)else none|_,_,_=>none)|_,_,_=>none)=_;have p:e.eval lo=.int i (.ofNat l):=D;have o:e.eval a=.int j (.ofNat c):=C;have q:Nat.ble l c=true:=by{simpa using w};have r:Nat.ble (b'*c) (2 ^ 47)=true:=by{simpa using y};have u:Nat.ble c (2 ^ 62)=true:=by{simpa using A};simp only[E,p,o,J,L,M,q,r,u,m,bl,cr,uV,F,d3]
 cases h;cases h
theorem QR{s:Sto}{t u:TypeId}{id g off len f g' b a:Nat}{c o:ACap}{cs cs':List AV}(h:uR P t=some 1)(y:s.get id=some (aP g cs))(A:s.get f=some (aP g' cs'))(k:off+Nat.min a len<=cs.length)(m:b+Nat.min a len<=cs'.length)(B:(aS cs' b (Nat.min a len)).all AV.isCell=true): abuiltin P s .copy #[t,u] [.sl id g off len c,.sl f g' b a o]=some (.val' (.int .i64 ((Nat.min a len:Nat):Int)) (s.put id (aP g (cG cs off (aS cs' b (Nat.min a len)))))):=by
 unfold uR at h;split at h;rename_i e C;have p:Nat.ble (Nat.min a len) a=true:=by simpa using dc _ _
 have q:Nat.ble (b+Nat.min a len*1) cs'.length=true:=by simpa using m
 have r:Nat.ble (off+Nat.min a len*1) cs.length=true:=by simpa using k
 have w:(Tr.leaf.lay 0 cs').row b (Nat.min a len*1)=some (aS cs' b (Nat.min a len)):=by rw[dy];exact hL _ _ _ m
 have l:(aS cs' b (Nat.min a len)).length=Nat.min a len:=by simp only[aS,c6,c7];omega
 show YF P s t _ _=_;simp only[YF,C,h,rY,fE,p,A,aP,dd,q,bl,cr,w];rw[y];simp only[aP,dd,r,B,bl,cr];rw[hx _ _ _ (by rw[l];exact k),AN _ _ _ (by rw[l];exact k)];rfl;cases h
def By(l:List Nat):Prop:=∀b∈l,b<256
theorem WJ{l:List Nat}(h:By l):ofBytes (l.map cC)=some l:=by induction l with|nil=>rfl|cons b l c=>have e:b<256:=h b (ψ ..);show(match ofBytes (l.map cC)with|some r=>some ((Int.toNat ((b:Nat):Int)%256)::r)|none=>none)=_;rw[c λx a=>h x (ν _ a)];simp;omega
def cvO(o:Option AObj)(g len:Nat)(d:Option ORes):Option ORes:=match o with|some (.cells h m cs)=>bif Nat.beq g h&&Nat.ble len m then(match cs.row 0 len with|some l=>(match ofBytes l with|some b=>some (.val (.str b))|none=>none)|none=>none)else none|_=>none
theorem iC{s:Sto}{id g len:Nat}{c:ACap}{d:Option ORes}:cvC (some .ofBytes) s (.sl id g 0 len c) d=cvO (s.get id) g len d:=by
 have b:Nat.ble len len=true:=ip
 simp only[cvC,rY,fE,b,cr,cvO,dy,φ];cases s.get id with|none=>rfl|some o=>cases o with|cells h m cs=>{cases a:(Nat.beq g h&&Nat.ble len m)with|false=>simp only[b7,a]|true=>simp only[cr,a];cases cs.row 0 len with|none=>rfl|some l=>cases ofBytes l<;>rfl}|_=>rfl
theorem KI{g len:Nat}{l:List Nat}{d:Option ORes}(e:len=l.length)(c:By l):cvO (some (aP g (l.map cC))) g len d=some (.val (.str l)):=by
 subst e;have a:Nat.ble l.length (l.map cC).length=true:=ip
 have b:(Tr.leaf.lay 0 (l.map cC)).row 0 l.length=some (l.map cC):=by rw[hL _ _ _ ip,lR ip]
 simp only[cvO,aP,dd,a,bl,cr,b,WJ c]
structure Rd (P:Program) (s:Sto) (ts te:TypeId) (a:AV) (xs:List AV):Prop where
 len:∀ {s':Sto} {d:Option ORes},HK (some 1) s' a d=some (.val (.int .i64 (xs.length:Nat)))
 at_:∀ (i:Nat) x,xs[i]?=some x->∃ ad,cN P ts a (.int .i64 (i:Nat))=some ad/\(∀ Y:Nat->Prop,(∀ id,id<s.n->Y id)->fN Y ad)/\∀ s':Sto,(∀ id,id<s.n->s'.get id=s.get id)->gU P s' te ad=some x
theorem aX{K:CRes->Prop}{R:Prop}:KZ none K R=R:=rfl
