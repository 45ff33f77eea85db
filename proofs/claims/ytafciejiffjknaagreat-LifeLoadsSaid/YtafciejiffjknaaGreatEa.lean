/-.-/
import Derived.Test.YtafciejiffjknaaGreatUx
namespace Go
abbrev c3:=@Nat.le_max_left
abbrev et:=@Nat.le_max_right
abbrev gk:=@Nat.le_succ
abbrev gm:=@exists_eq_left'
end Go
namespace Go.Abs
section
variable {P:Program}
def CLe(c d:cP):Prop:=∀fv args s r x,c fv args s r=some x->d fv args s r=some x
theorem CLe.refl(c:cP):CLe c c:=λ_ _ _ _ _ h=>h
theorem CLe.trans{a b c:cP}(h:CLe a b)(f:CLe b c):CLe a c:=λ_ _ _ _ _ x=>f _ _ _ _ _ (h _ _ _ _ _ x)
variable {c d:cP}
theorem IC(h:CLe c d){s:Sto}{a:AV}{args:List AV}{r:ORes}(f:iN s (c a args s .no)=some r):iN s (d a args s .no)=some r:=by cases b:c a args s .no with|none=>rw[b]at f;cases f|some x=>rw[h _ _ _ _ _ b,<-b];exact f
theorem mT(h:CLe c d){o:Oper}{e:Env}{r:ORes}(k:kR P c o e=some r):kR P d o e=some r:=by
 unfold kR at k ⊢;cases m:o.op<;>simp only[m]at k ⊢<;>first|exact k|skip
 rename_i l;obtain⟨a,args,p⟩:=l;cases a with|builtin b=>exact k|value f=>exact IC h k|invoke f n=>exact IC h k
theorem RC(h:CLe c d){ops:List Oper}:∀(rest:List Oper)(e:Env)(x:Ex × Env),kN P c ops rest e=some x->kN P d ops rest e=some x:=by intro rest;induction rest with|nil=>intro e x a;exact a|cons o rest b=>intro e x a;simp only[kN]at a ⊢;split at a;cases a;rename_i k;split at a;exact b _ _ a;cases a;rename_i k;cases f:kR P c o e with|none=>rw[f]at a;cases a|some r=>rw[mT h f];rw[f]at a;cases r with|val v=>{simp only at a ⊢;split at a<;>first|exact b _ _ a|cases a}|val' v s=>{simp only at a ⊢;split at a<;>first|exact b _ _ a|cases a}|pan v s=>exact a|defer q=>{simp only at a ⊢;split at a<;>first|exact b _ _ a|cases a}|recov=>simp only at a ⊢;split at a;(split at a<;>first|exact b _ _ a|cases a);(split at a<;>first|exact b _ _ a|cases a);cases a
theorem ZM{x:TrE}{y:Option TrR}{z:TrR}(h:tK x y=some z):∃l f p,y=some (l,f,p)/\z=(x::l,f,p):=by cases y with|none=>cases h|some y=>obtain⟨l,f,p⟩:=y;simp only[tK,Φ]at h;exact⟨l,f,p,rfl,h.symm⟩
theorem ZN(h:CLe c d){ops:List Oper}:∀(rest:List Oper)(i:Nat)(e:Env)(x:TrR),JY P c ops rest i e=some x->JY P d ops rest i e=some x:=by intro rest;induction rest with|nil=>intro i e x a;exact a|cons o rest w=>intro i e x a;have b:∀{y:TrE}{e':Env}{z:TrR},tK y (JY P c ops rest (i+1) e')=some z->tK y (JY P d ops rest (i+1) e')=some z:=by{intro y e' z u;obtain⟨l,f,p,m,A⟩:=ZM u;rw[w _ _ _ m,<-u,m]};simp only[JY]at a ⊢;split at a;cases a;split at a;exact b a;cases a;cases k:kR P c o e with|none=>rw[k]at a;cases a|some r=>rw[mT h k];rw[k]at a;cases r with|val v=>{simp only at a ⊢;split at a<;>first|exact b a|cases a}|val' v s=>{simp only at a ⊢;split at a<;>first|exact b a|cases a}|pan v s=>exact a|defer q=>cases a|recov=>cases a
theorem MU(h:CLe c d){v:AV}{o:Oper}{e:Env}(b:isVal v (kR P c o e)=true):isVal v (kR P d o e)=true:=by cases a:kR P c o e with|none=>rw[a]at b;cases b|some r=>rw[mT h a,<-a];exact b
theorem VH(h:CLe c d){n:Nat}{as:List Nat}{ns:List (Nat × Nat)}{x:TrE}:∀(cs:List Nat)(a:List Sto),lE P c n as ns x cs a=true->lE P d n as ns x cs a=true:=by intro cs;induction cs with|nil=>{intro a b;cases a with|nil=>simp[lE]at b|cons s a=>cases a with|nil=>exact MU h b|cons m a=>simp[lE]at b}|cons k cs l=>intro a b;cases a with|nil=>simp[lE]at b|cons s a=>simp only[lE,ε]at b ⊢;refine⟨?_,?_⟩;have:=b.1;cases f:(as.getD x.i 0).testBit k with|true=>rfl|false=>{rw[f]at this;exact MU h this};have:=b.2;cases f:(as.getD k 0).testBit x.i with|true=>rfl|false=>rw[f]at this;exact l _ this
theorem VI(h:CLe c d){n0:Nat}{ns:List (Nat × Nat)}{as cs:List Nat}{x:TrE}(a:sS P c as n0 ns cs x=true):sS P d as n0 ns cs x=true:=by simp only[sS,ε,Ω]at a ⊢;exact⟨a.1,λf b=>mT h (a.2 f b)⟩
theorem VJ(h:CLe c d){n0:Nat}{as cs:List Nat}{f:List Sto}{x:TrE}(b:vW P c as n0 cs f x=true):vW P d as n0 cs f x=true:=by simp only[vW,Ω]at b ⊢;obtain⟨m,o,k,l⟩:=b;exact⟨m,o,k,λp a=>mT h (l p a)⟩
theorem PP(h:CLe c d){n n0:Nat}{as:List Nat}{l:List TrE}{s:Sto}(f:gY P c n n0 as l s=true):gY P d n n0 as l s=true:=by
 have k:∀(ns:List (Nat × Nat))(cs:List Nat)(o:List Sto)(m:List TrE),oN P c n n0 as ns cs o m=true->oN P d n n0 as ns cs o m=true:=by intro ns cs o m;induction m with|nil=>intro _;rfl|cons x m p=>intro b;simp only[oN,ε,cf]at b ⊢;refine⟨?_,p b.2⟩;rcases b.1 with(((a|a)|a)|a)|a;exact .inl (.inl (.inl (.inl a)));exact .inl (.inl (.inl (.inr a)));exact .inl (.inl (.inr (VH h _ _ a)));exact .inl (.inr (VI h a));exact .inr (VJ h a)
 unfold gY at f ⊢;split at f;rfl;exact k _ _ _ _ f
theorem aFi(h:CLe c d){ops:List Oper}{e:Env}{x:Ex × Env}(a:EI P c ops e=some x):EI P d ops e=some x:=by unfold EI at a ⊢;cases k:JY P c ops ops 0 e with|none=>rw[k]at a;cases a|some y=>obtain⟨l,f,p⟩:=y;rw[ZN h _ _ _ _ k];rw[k]at a;simp only at a ⊢;cases b:gY P c f.s.n e.s.n (dQ ops) l f.s with|false=>rw[b]at a;simp at a|true=>rw[PP h b,<-b];exact a
theorem VK(h:CLe c d){ops:List Oper}{a:Bool}{e:Env}{x:Ex × Env}(b:sT P c ops a e=some x):sT P d ops a e=some x:=by cases a with|true=>exact aFi h b|false=>exact RC h _ _ _ b
theorem ID{f g:Env->Option (Ex × Env)}(h:∀e x,f e=some x->g e=some x):∀(n m:Nat)(e:Env)(x:Ex × Env),n<=m->loopGo f n e=some x->loopGo g m e=some x:=by intro n;induction n with|zero=>intro m e x _ a;cases a|succ n o=>intro m e x p a;obtain⟨m,rfl⟩:∃k,m=k+1:=⟨m-1,iu⟩;simp only[loopGo]at a ⊢;cases b:f e with|none=>rw[b]at a;cases a|some y=>rw[h _ _ b];rw[b]at a;obtain⟨l,e'⟩:=y;cases l with|normal=>exact o m e' x iu a|_=>exact a
theorem ZO(h:CLe c d){f:Operand}{ps:Array Tmp}{a b:Code}{e:Env}{x:Ex × Env}(k:BY c f ps a b e=some x):BY d f ps a b e=some x:=by unfold BY at k ⊢;split at k;cases k;simp only at k ⊢;rename_i q m o ds p;cases l:c (e.eval f) [.func (.yield m.n) [] []] (m.push (.loop .ready none e.fn e.nt e.t ps.toList a b o)) .no with|none=>rw[l]at k;cases k|some y=>rw[h _ _ _ _ _ l,<-l];exact k
theorem vE(h:CLe c d){n m:Nat}(A:n<=m):∀(k:Code)(e:Env)(x:Ex × Env),bN P c n k e=some x->bN P d m k e=some x:=by intro k;induction k with|region id ops v=>intro e x l;exact VK h l|seq a b o u=>{intro e x l;simp only[bN]at l ⊢;cases p:bN P c n a e with|none=>rw[p]at l;cases l|some y=>rw[o _ _ p];rw[p]at l;obtain⟨w,e'⟩:=y;cases w with|normal=>exact u _ _ l|_=>exact l}|cond q a b o u=>intro e x l;simp only[bN]at l ⊢;split at l;exact o _ _ l;exact u _ _ l;cases l|block id a o=>{intro e x l;simp only[bN]at l ⊢;cases p:bN P c n a e with|none=>rw[p]at l;cases l|some y=>rw[o _ _ p,<-p];exact l}|loop a o=>intro e x l;exact ID o _ _ _ _ A l|scope a o=>{intro e x l;simp only[bN]at l ⊢;cases p:bN P c n a e with|none=>rw[p]at l;cases l|some y=>rw[o _ _ p,<-p];exact l}|rangeFunc f ps a b=>intro e x l;exact ZO h l|_=>intro e x l;exact l
theorem jR(h:CLe c d){fn:Func}:∀(n m:Nat)(b:Option AV)(e:Env)(x:LRes × Env),n<=m->dleave P c fn n b e=some x->dleave P d fn m b e=some x:=by intro n;induction n with|zero=>intro m b e x _ a;cases a|succ n q=>intro m b e x w a;obtain⟨m,rfl⟩:∃k,m=k+1:=⟨m-1,iu⟩;have l:n<=m:=iu;simp only[dleave]at a ⊢;split at a;exact a;split at a;exact q _ _ _ _ l a;cases a;rename_i o args ds _;cases v:vX o with|true=>rw[v]at a;cases a|false=>rw[v]at a;simp only[cd]at a ⊢;cases b with|none=>{simp only at a ⊢;cases f:c o args e.s .no with|none=>rw[f]at a;cases a|some y=>rw[h _ _ _ _ _ f];rw[f]at a;obtain⟨res,u⟩:=y;cases res<;>cases u<;>first|exact q _ _ _ _ l a|cases a}|some p=>simp only at a ⊢;cases f:c o args e.s (.pan p)with|none=>rw[f]at a;cases a|some y=>rw[h _ _ _ _ _ f];rw[f]at a;obtain⟨res,u⟩:=y;cases res<;>cases u<;>first|exact q _ _ _ _ l a|cases a
theorem aFj(h:CLe c d){n m:Nat}(l:n<=m){f:FuncId}{args:List AV}{s:Sto}{r:ARec}{x:CRes × ARec}(a:uL P c n f args s r=some x):uL P d m f args s r=some x:=by unfold uL at a ⊢;cases o:okFn P f with|false=>rw[o]at a;cases a|true=>rw[o]at a;simp only[b5]at a ⊢;split at a;rename_i fn v;split at a;rename_i k A;cases b:bN P c n k {nt:=Nat.max args.length fn.ntmps,ro:=none,fn:=f,t:=Tr.leaf.lay 0 args,ds:=[],s:={s with low:=s.n},r:=r}with|none=>rw[b]at a;cases a|some y=>{rw[vE h l _ _ _ b];rw[b]at a;obtain⟨q,e'⟩:=y;cases q<;>first|(obtain⟨B,p,w,u⟩:=zW a;simp only[jR h _ _ _ _ _ l w];exact u)|cases a};cases a;cases a
theorem ZP(h:CLe c d){n m:Nat}(A:n<=m){l:Nat}{args:List AV}{s:Sto}{x:CRes × ARec}(f:pP P c n l args s=some x):pP P d m l args s=some x:=by
 unfold pP at f ⊢;split at f;rename_i st B fn nt t ps a b H J;split at f;rename_i G L;cases q:bN P c n a {nt:=nt,ro:=some l,fn:=fn,t:=G,ds:=[],s:={s with low:=s.n},r:=.no}with|none=>rw[q]at f;cases f|some y=>rw[vE h A _ _ _ q];rw[q]at f;obtain⟨E,e'⟩:=y;cases E with|normal=>simp only at f ⊢;split at f;rename_i o p u w v C b' D F;cases k:bN P c n b {e' with s:=e'.s.put l (.loop .busy o p u w v C b' D)}with|none=>rw[k]at f;cases f|some y=>{rw[vE h A _ _ _ k,<-k];exact f};cases f|_=>cases f
 cases f;cases f
theorem dI{O:Orc}:∀(n m:Nat),n<=m->CLe (aT P O n) (aT P O m):=by intro n;induction n with|zero=>intro m _ h args s r x a;cases a|succ n f=>intro m l h args s r x a;obtain⟨m,rfl⟩:∃k,m=k+1:=⟨m-1,iu⟩;have b:n<=m:=iu;simp only[aT]at a ⊢;split at a;exact a;split at a;exact aFj (f m b) b a;(cases r<;>first|exact ZP (f m b) b a|cases a);cases a
end
noncomputable section
def Tr.val(t:Tr AV)(i:Nat):AV:=(t.get i).getD .top
theorem hm(t:Tr AV)(i:Nat)(a:AV):(t.set i a).val i=a:=by simp[Tr.val,hJ]
theorem h0(t:Tr AV)(i j:Nat)(a:AV)(h:j≠i):(t.set i a).val j=t.val j:=by simp[Tr.val,hJ,h]
theorem h1(e:Env)(i:Nat):e.eval (.tmp i)=e.t.val i:=by simp only[Env.eval,Tr.val];cases e.t.get i<;>rfl
def rQ(o:Option AV)(K:ORes->Prop):Prop:=∃v,o=some v/\K (.val v)
def ZQ(o:Option Sto)(K:ORes->Prop):Prop:=∃s,o=some s/\K (.val' .undef s)
def xL(o:Option ORes)(K:ORes->Prop):Prop:=∃r,o=some r/\K r
theorem ZR{v:AV}{K:ORes->Prop}:rQ (some v) K↔K (.val v):=by simp[rQ]
theorem aWb{s:Sto}{K:ORes->Prop}:ZQ (some s) K↔K (.val' .undef s):=by simp[ZQ]
theorem aWc{r:ORes}{K:ORes->Prop}:xL (some r) K↔K r:=by simp[xL]
@[congr] theorem bAa{o o':Option AV}{K:ORes->Prop}(h:o=o'):rQ o K=rQ o' K:=by rw[h]
@[congr] theorem bAb{o o':Option Sto}{K:ORes->Prop}(h:o=o'):ZQ o K=ZQ o' K:=by rw[h]
@[congr] theorem bAc{o o':Option ORes}{K:ORes->Prop}(h:o=o'):xL o K=xL o' K:=by rw[h]
section
variable (P:Program) (O:Orc)
def W(c:Code)(e:Env)(Q:Ex->Env->Prop):Prop:=∃n a e',bN P (aT P O n) n c e=some (a,e')/\Q a e'
def Wo(ops rest:List Oper)(e:Env)(Q:Ex->Env->Prop):Prop:=∃n a e',kN P (aT P O n) ops rest e=some (a,e')/\Q a e'
def gO(call:cP)(op:Op)(e:Env):Option ORes:=kR P call {dst:=none,op:=op,type:=0,pos:= "",after:=#[],guard:=none} e
def fQ(op:Op)(e:Env)(K:ORes->Prop):Prop:=∃n r,gO P (aT P O n) op e=some r/\K r
def Wcall(a:AV)(args:List AV)(s:Sto)(K:CRes->Prop):Prop:=∃n res rr,aT P O n a args s .no=some (res,rr)/\K res
variable {P O}
theorem W.mono{c:Code}{e:Env}{Q b:Ex->Env->Prop}(h:W P O c e Q)(l:∀a e',Q a e'->b a e'):W P O c e b:=by obtain⟨n,a,e',f,k⟩:=h;exact⟨n,a,e',f,l _ _ k⟩
@[congr] theorem bDk{c:Code}{e e':Env}{Q:Ex->Env->Prop}(h:e=e'):W P O c e Q=W P O c e' Q:=by rw[h]
@[congr] theorem bCe{ops rest:List Oper}{e e':Env}{Q:Ex->Env->Prop}(h:e=e'):Wo P O ops rest e Q=Wo P O ops rest e' Q:=by rw[h]
@[congr] theorem bAd{op:Op}{e e':Env}{K:ORes->Prop}(h:e=e'):fQ P O op e K=fQ P O op e' K:=by rw[h]
@[congr] theorem a5k{fv fv':AV}{args args':List AV}{s s':Sto}{K:CRes->Prop}(h:fv=fv')(h':args=args')(h'':s=s'):Wcall P O fv args s K=Wcall P O fv' args' s' K:=by rw[h,h',h'']
theorem sM{n m:Nat}(h:n<=m){c:Code}{e:Env}{x:Ex × Env}(a:bN P (aT P O n) n c e=some x):bN P (aT P O m) m c e=some x:=vE (dI n m h) h c e x a
def a7w(P:Program)(O:Orc)(b:Code)(Q:Ex->Env->Prop):Ex->Env->Prop| .normal,e=>W P O b e Q|ex,e=>Q ex e
theorem bCf{a b:Code}{e:Env}{Q:Ex->Env->Prop}:W P O (.seq a b) e Q↔W P O a e (a7w P O b Q):=by
 constructor;rintro⟨n,l,e',h,k⟩;simp only[bN]at h;cases q:bN P (aT P O n) n a e with|none=>rw[q]at h;cases h|some y=>obtain⟨f,u⟩:=y;rw[q]at h;refine⟨n,f,u,q,?_⟩;cases f with|normal=>exact⟨n,l,e',h,k⟩|_=>simp at h;obtain⟨rfl,rfl⟩:=h;exact k
 rintro⟨n,l,e',h,k⟩;cases l with|normal=>obtain⟨m,o,v,w,p⟩:=k;refine⟨max n m,o,v,?_,p⟩;simp only[bN,sM (c3 n m) h,sM (et n m) w]|_=>exact⟨n,_,e',by simp only[bN,h],k⟩
def iL(id:Nat)(Q:Ex->Env->Prop):Ex->Env->Prop| .exit i,e=>bif Nat.beq i id then Q .normal e else Q (.exit i) e|ex,e=>Q ex e
theorem a3b{id:Nat}{c:Code}{e:Env}{Q:Ex->Env->Prop}:W P O (.block id c) e Q↔W P O c e (iL id Q):=by
 constructor;rintro⟨n,l,e',h,a⟩;simp only[bN]at h;cases k:bN P (aT P O n) n c e with|none=>rw[k]at h;cases h|some y=>obtain⟨b,m⟩:=y;rw[k]at h;refine⟨n,b,m,k,?_⟩;cases b with|exit i=>simp only[iL]at h ⊢;cases f:Nat.beq i id<;>rw[f]at h<;>simp at h<;>obtain⟨rfl,rfl⟩:=h<;>exact a|_=>simp at h;obtain⟨rfl,rfl⟩:=h;exact a
 rintro⟨n,l,e',h,a⟩;cases l with|exit i=>simp only[iL]at a;cases f:Nat.beq i id<;>rw[f]at a;exact⟨n,_,e',by simp only[bN,h,f,cd],a⟩;exact⟨n,_,e',by simp only[bN,h,f,b5],a⟩|_=>exact⟨n,_,e',by simp only[bN,h],a⟩
theorem PQ{id:Nat}{Q:Ex->Env->Prop}{e:Env}:iL id Q .normal e=Q .normal e:=rfl
theorem ZS{id:Nat}{Q:Ex->Env->Prop}{e:Env}:iL id Q (.exit id) e=Q .normal e:=by simp[iL]
theorem aNp{id i:Nat}{Q:Ex->Env->Prop}{e:Env}(h:i≠id):iL id Q (.exit i) e=Q (.exit i) e:=by
 simp only[iL];have:Nat.beq i id=false:=by cases a:Nat.beq i id with|false=>rfl|true=>exact absurd (bl a) h
 rw[this];rfl
theorem aFk{id:Nat}{Q:Ex->Env->Prop}{e:Env}:iL id Q .ret e=Q .ret e:=rfl
theorem VL{id:Nat}{Q:Ex->Env->Prop}{e:Env}{v:AV}:iL id Q (.panic v) e=Q (.panic v) e:=rfl
def aWd(P:Program)(O:Orc)(v:AV)(x y:Code)(e:Env)(Q:Ex->Env->Prop):Prop:=(v=.bool true/\W P O x e Q)∨(v=.bool false/\W P O y e Q)
@[congr] theorem a5l{v v':AV}{x y:Code}{e:Env}{Q:Ex->Env->Prop}(h:v=v'):aWd P O v x y e Q=aWd P O v' x y e Q:=by rw[h]
theorem a7x{c:Operand}{x y:Code}{e:Env}{Q:Ex->Env->Prop}:W P O (.cond c x y) e Q↔aWd P O (e.eval c) x y e Q:=by constructor;rintro⟨n,b,e',h,f⟩;simp only[bN]at h;split at h;rename_i a;exact .inl ⟨a,n,b,e',h,f⟩;rename_i a;exact .inr ⟨a,n,b,e',h,f⟩;cases h;rintro(⟨a,n,b,e',h,f⟩|⟨a,n,b,e',h,f⟩);exact⟨n,b,e',by simp only[bN,a,h],f⟩;exact⟨n,b,e',by simp only[bN,a,h],f⟩
theorem a7y{e:Env}{Q:Ex->Env->Prop}:W P O .skip e Q↔Q .normal e:=⟨λ⟨n,b,e',h,a⟩=>by simp[bN]at h;obtain⟨rfl,rfl⟩:=h;exact a,λh=>⟨0,_,_,rfl,h⟩⟩
theorem a3c{l:Nat}{e:Env}{Q:Ex->Env->Prop}:W P O (.label l) e Q↔Q .normal e:=⟨λ⟨n,b,e',h,a⟩=>by simp[bN]at h;obtain⟨rfl,rfl⟩:=h;exact a,λh=>⟨0,_,_,rfl,h⟩⟩
theorem a7z{i:Nat}{e:Env}{Q:Ex->Env->Prop}:W P O (.exit i) e Q↔Q (.exit i) e:=⟨λ⟨n,b,e',h,a⟩=>by simp[bN]at h;obtain⟨rfl,rfl⟩:=h;exact a,λh=>⟨0,_,_,rfl,h⟩⟩
theorem bCg{e:Env}{Q:Ex->Env->Prop}:W P O .ret e Q↔Q .ret e:=⟨λ⟨n,b,e',h,a⟩=>by simp[bN]at h;obtain⟨rfl,rfl⟩:=h;exact a,λh=>⟨0,_,_,rfl,h⟩⟩
theorem ZT{f:Env->Option (Ex × Env)}(a:∀e l e',f e≠some (.goto l,e')):∀(n:Nat)(e:Env)(l:Nat)(e':Env),loopGo f n e≠some (.goto l,e'):=by intro n;induction n with|zero=>intro e l e' h;cases h|succ n b=>intro e l e' h;simp only[loopGo]at h;split at h;exact b _ _ _ h;exact a _ _ _ h
theorem aNq{call:cP}{ops:List Oper}:∀(rest:List Oper)(e:Env)(l:Nat)(e':Env),kN P call ops rest e≠some (.goto l,e'):=by intro rest;induction rest with|nil=>intro e l e' h;cases h|cons o rest a=>intro e l e' h;simp only[kN]at h;split at h;cases h;split at h;exact a _ _ _ h;cases h;split at h;cases h;(split at h<;>first|exact a _ _ _ h|cases h);(split at h<;>first|exact a _ _ _ h|cases h);cases h;(split at h<;>first|exact a _ _ _ h|cases h);split at h;(split at h<;>first|exact a _ _ _ h|cases h);(split at h<;>first|exact a _ _ _ h|cases h);cases h
theorem aFl{call:cP}{n:Nat}:∀(c:Code)(e:Env)(l:Nat)(e':Env),bN P call n c e≠some (.goto l,e'):=by intro c;induction c with|region id ops v=>{intro e l e' h;cases v with|false=>exact aNq _ _ _ _ h|true=>simp only[bN,sT,b5,EI]at h;split at h;cases h;rename_i m f p y;cases o:(P.follows .mixedOrders&&rY ops.toList&&iP (dQ ops.toList) (fD m)&&yV (dQ ops.toList) (oE m) (fD m)&&kO m f.s.n&&mE m&&gY P call f.s.n e.s.n (dQ ops.toList) m f.s)with|false=>rw[o]at h;cases h|true=>rw[o]at h;simp only[b5]at h;split at h;cases h;cases w:nA (dQ ops.toList) (m.length-1) ops.toList 0<;>rw[w]at h<;>cases h}|seq a b k u=>intro e l e' h;simp only[bN]at h;split at h;exact u _ _ _ h;exact k _ _ _ h|cond q a b k u=>intro e l e' h;simp only[bN]at h;split at h;exact k _ _ _ h;exact u _ _ _ h;cases h|block id a k=>intro e l e' h;simp only[bN]at h;split at h;simp only[Bool.cond_eq_ite]at h;split at h<;>cases h;exact k _ _ _ h|loop a k=>intro e l e' h;exact ZT k _ _ _ _ h|scope a k=>intro e l e' h;simp only[bN]at h;split at h;cases h;exact k _ _ _ h|rangeFunc f ps a b=>intro e l e' h;simp only[bN,BY]at h;split at h;cases h;(try simp only at h);split at h;simp only[jD]at h;split at h;split at h;cases h;(try simp only at h);split at h<;>cases h;cases h;cases h;cases h|_=>intro e l e' h;cases h
theorem a3d{c:Code}{e:Env}{Q:Ex->Env->Prop}:W P O (.scope c) e Q↔W P O c e Q:=by constructor;rintro⟨n,a,e',h,b⟩;simp only[bN]at h;split at h;cases h;exact⟨n,a,e',h,b⟩;rintro⟨n,a,e',h,b⟩;refine⟨n,a,e',?_,b⟩;simp only[bN,h];split;rename_i f;simp at f;obtain⟨rfl,_⟩:=f;exact absurd h (aFl _ _ _ _);rfl
theorem a8a{α:Type}(I:α->Env->Prop)(m:α->Nat)(a:α){c:Code}{e:Env}{Q:Ex->Env->Prop}(y:I a e)(C:∀a e,I a e->W P O c e λb e'=>match b with| .normal=>∃f,m f<m a/\I f e'|b=>Q b e'):W P O (.loop c) e Q:=by generalize G:m a=k;induction k using Nat.strongRecOn generalizing a e with|_ k E=>obtain⟨n,b,e',h,l⟩:=C a e y;have u:∀b,b≠.normal->bN P (aT P O n) n c e=some (b,e')->Q b e'->W P O (.loop c) e Q:=by{intro b q h l;refine⟨n+1,b,e',?_,l⟩;simp only[bN,loopGo];rw[sM (gk n) h];cases b<;>first|rfl|exact absurd rfl q};cases b with|normal=>obtain⟨f,B,A⟩:=l;obtain⟨F,o,w,v,p⟩:=E (m f) iu f A rfl;refine⟨max n F+1,o,w,?_,p⟩;simp only[bN,loopGo];rw[sM iu h];simp only[bN]at v;exact ID (λe x D=>sM iu D) _ _ _ _ iu v|_=>exact u _ iw h l
theorem aWe{i:Nat}{l:List Oper}{e:Env}{Q:Ex->Env->Prop}:W P O (.region i l.toArray false) e Q↔Wo P O l l e Q:=by simp only[W,Wo,bN,sT,cd]
def cR(P:Program)(O:Orc)(ops:List Oper)(dst:Option Tmp)(rest:List Oper)(e:Env)(Q:Ex->Env->Prop):ORes->Prop| .val v=>∃e',e.put dst v=some e'/\Wo P O ops rest e' Q| .val' v s=>∃e',(e.setS s).put dst v=some e'/\Wo P O ops rest e' Q| .pan v s=>Q (.panic v) {e with s:=s}| .defer d=>∃e',(e.setDs (d::e.ds)).put dst .undef=some e'/\Wo P O ops rest e' Q| .recov=>match e.ro,e.r with|none,.pan v=>∃e',(e.setR (.recd v)).put dst v=some e'/\Wo P O ops rest e' Q|none,_=>∃e',e.put dst .nili=some e'/\Wo P O ops rest e' Q|some _,_=>False
@[congr] theorem a8b{ops:List Oper}{dst:Option Tmp}{rest:List Oper}{e:Env}{Q:Ex->Env->Prop}{r r':ORes}(h':r=r'):cR P O ops dst rest e Q r=cR P O ops dst rest e Q r':=by rw[h']
@[congr] theorem a8c{b:Code}{Q:Ex->Env->Prop}{x x':Ex}{e e':Env}(h:x=x')(h':e=e'):a7w P O b Q x e=a7w P O b Q x' e':=by rw[h,h']
@[congr] theorem a3e{i:Nat}{Q:Ex->Env->Prop}{x x':Ex}{e e':Env}(h:x=x')(h':e=e'):iL i Q x e=iL i Q x' e':=by rw[h,h']
theorem a8d{ops:List Oper}{e:Env}{Q:Ex->Env->Prop}:Wo P O ops [] e Q↔Q .normal e:=⟨λ⟨n,b,e',h,a⟩=>by simp[kN]at h;obtain⟨rfl,rfl⟩:=h;exact a,λh=>⟨0,_,_,rfl,h⟩⟩
theorem aWf{ops:List Oper}{o:Oper}{rest:List Oper}{e:Env}{Q:Ex->Env->Prop}(C:eD ops o e=some true):Wo P O ops (o::rest) e Q↔fQ P O o.op e (cR P O ops o.dst rest e Q):=by
 have G:∀{n m:Nat},n<=m->∀{l:List Oper}{e:Env}{x:Ex × Env},kN P (aT P O n) ops l e=some x->kN P (aT P O m) ops l e=some x:=λh _ _ _ L=>RC (dI _ _ h) _ _ _ L;have H:∀{n m:Nat},n<=m->∀{r:ORes},kR P (aT P O n) o e=some r->kR P (aT P O m) o e=some r:=λh _ L=>mT (dI _ _ h) L;constructor;rintro⟨n,a,e',h,D⟩;simp only[kN,C]at h;cases E:kR P (aT P O n) o e with|none=>rw[E]at h;cases h|some r=>rw[E]at h;refine⟨n,r,E,?_⟩;cases r with|val v=>{simp only at h;split at h<;>first|exact⟨_,h3,n,a,e',h,D⟩|cases h}|val' v s=>{simp only at h;split at h<;>first|exact⟨_,h3,n,a,e',h,D⟩|cases h}|pan v s=>simp at h;obtain⟨rfl,rfl⟩:=h;exact D|defer q=>{simp only at h;split at h<;>first|exact⟨_,h3,n,a,e',h,D⟩|cases h}|recov=>simp only at h;simp only[cR];split at h;rename_i b f;simp only[b,f];(split at h<;>first|exact⟨_,h3,n,a,e',h,D⟩|cases h);rename_i b f;have:∃e',e.put o.dst .nili=some e'/\Wo P O ops rest e' Q:=by{split at h<;>first|exact⟨_,h3,n,a,e',h,D⟩|cases h};rw[b];cases J:e.r with|pan v=>exact absurd J (f v)|_=>{exact this};cases h
 rintro⟨n,r,E,y⟩;have F:kR P (aT P O n) o e=some r:=E;have p:∀{m:Nat}{a:Ex}{B e':Env},kN P (aT P O m) ops rest B=some (a,e')->Q a e'->(∀k,max n m=k->kR P (aT P O k) o e=some r->kN P (aT P O k) ops rest B=some (a,e')->kN P (aT P O k) ops (o::rest) e=some (a,e'))->Wo P O ops (o::rest) e Q:=λb f R=>⟨_,_,_,R _ rfl (H (c3 _ _) F) (G (et _ _) b),f⟩;cases r with|val v=>obtain⟨B,A,m,a,e',b,f⟩:=y;exact p b f λk _ u w=>by simp only[kN,C,u,A,w]|val' v s=>obtain⟨B,A,m,a,e',b,f⟩:=y;exact p b f λk _ u w=>by simp only[kN,C,u,A,w]|pan v s=>exact⟨n,_,_,by simp only[kN,C,F],y⟩|defer q=>obtain⟨B,A,m,a,e',b,f⟩:=y;exact p b f λk _ u w=>by simp only[kN,C,u,A,w]|recov=>simp only[cR]at y;split at y;rename_i M N;obtain⟨B,A,m,a,e',b,f⟩:=y;exact p b f λk _ u w=>by{simp only[kN,C,u,M,N,A,w]};rename_i M N;obtain⟨B,A,m,a,e',b,f⟩:=y;refine p b f λk _ u w=>?_;simp only[kN,C,u,M];cases J:e.r with|pan v=>exact absurd J (N v)|_=>{simp only[A,w]};exact y.elim
theorem VM{ops:List Oper}{o:Oper}{rest:List Oper}{e:Env}{Q:Ex->Env->Prop}(k:eD ops o e=some false):Wo P O ops (o::rest) e Q↔∃e',e.put o.dst .undef=some e'/\Wo P O ops rest e' Q:=by constructor;rintro⟨n,a,e',h,b⟩;simp only[kN,k]at h;split at h;rename_i f;exact⟨_,f,n,a,e',h,b⟩;cases h;rintro⟨l,f,n,a,e',h,b⟩;exact⟨n,a,e',by simp only[kN,k,f,h],b⟩
theorem a3f{ops:List Oper}{dst:Option Tmp}{op:Op}{ty:TypeId}{pos:String}{after:Array Edge}{rest:List Oper}{e:Env}{Q:Ex->Env->Prop}: Wo P O ops ({dst:=dst,op:=op,type:=ty,pos:=pos,after:=after,guard:=none}::rest) e Q↔fQ P O op e (cR P O ops dst rest e Q):=aWf rfl
def guardK(P:Program)(O:Orc)(v:AV)(want:Bool)(op:Op)(ops:List Oper)(dst:Option Tmp)(rest:List Oper)(e:Env)(Q:Ex->Env->Prop):Prop:=match v with| .bool b=>(b=want->fQ P O op e (cR P O ops dst rest e Q))/\(b = !want->cR P O ops dst rest e Q (.val .undef))| .tuple _=>cR P O ops dst rest e Q (.val .undef)|_=>False
section
variable {want:Bool} {op:Op} {ops:List Oper} {dst:Option Tmp} {rest:List Oper} {e:Env} {Q:Ex->Env->Prop}
@[congr] theorem a3g{v v':AV}(h:v=v'):guardK P O v want op ops dst rest e Q=guardK P O v' want op ops dst rest e Q:=by rw[h]
theorem _root_.Go.i6{p:Prop}(h:p:=by simp [guardK]):p:=h
theorem aNr:guardK P O (.bool true) true op ops dst rest e Q↔fQ P O op e (cR P O ops dst rest e Q):=i6
theorem aNs:guardK P O (.bool true) false op ops dst rest e Q↔cR P O ops dst rest e Q (.val .undef):=i6
theorem aNt:guardK P O (.bool false) true op ops dst rest e Q↔cR P O ops dst rest e Q (.val .undef):=i6
theorem aNu:guardK P O (.bool false) false op ops dst rest e Q↔fQ P O op e (cR P O ops dst rest e Q):=i6
theorem aNv{b:Bool}:guardK P O (.bool b) true op ops dst rest e Q↔(b=true->fQ P O op e (cR P O ops dst rest e Q))/\(b=false->cR P O ops dst rest e Q (.val .undef)):=.rfl
theorem aNw{b:Bool}:guardK P O (.bool b) false op ops dst rest e Q↔(b=false->fQ P O op e (cR P O ops dst rest e Q))/\(b=true->cR P O ops dst rest e Q (.val .undef)):=.rfl
theorem VN{l:List AV}:guardK P O (.tuple l) want op ops dst rest e Q↔cR P O ops dst rest e Q (.val .undef):=.rfl
end
def PT:List Oper->Nat->Option Nat|[],_=>none|o::_,0=>o.dst|_::l,n+1=>PT l n
theorem VO:∀(ops:List Oper)(j:Nat),PT ops j=ops[j]?.bind (·.dst)|[],_=>rfl|o::_,0=>rfl|_::l,n+1=>by simp only[PT,List.getElem?_cons_succ];exact VO l n
def aNx(t:Tr AV):Option Nat->AV|some d=>t.val d|none=>.tuple []
theorem aWg{ops:List Oper}{dst:Option Tmp}{op:Op}{ty:TypeId}{pos:String}{after:Array Edge}{j:Nat}{want:Bool}{rest:List Oper}{e:Env}{Q:Ex->Env->Prop}: Wo P O ops ({dst:=dst,op:=op,type:=ty,pos:=pos,after:=after,guard:=some (j,want)}::rest) e Q↔guardK P O (aNx e.t (PT ops j)) want op ops dst rest e Q:=by rw[VO];cases f:ops[j]?.bind (·.dst)with|none=>have a:eD ops {dst:=dst,op:=op,type:=ty,pos:=pos,after:=after,guard:=some (j,want)} e=some false:=by{simp only[eD];cases o:ops[j]? with|none=>rfl|some g=>rw[o]at f;simp only[Ψ]at f;simp only[f]};rw[VM a];rfl|some d=>show _↔guardK P O (e.t.val d) want op ops dst rest e Q;have a:eD ops {dst:=dst,op:=op,type:=ty,pos:=pos,after:=after,guard:=some (j,want)} e=match e.t.get d with|some (.bool b)=>some (b==want)|some (.tuple _)=>some false|_=>none:=by{simp only[eD];cases o:ops[j]? with|none=>rw[o]at f;cases f|some g=>rw[o]at f;simp only[Ψ]at f;simp only[f];cases e.t.get d with|none=>rfl|some v=>cases v<;>rfl};cases k:e.t.get d with|none=>have p:e.t.val d=.top:=by{simp[Tr.val,k]};rw[p];rw[k]at a;refine⟨λ⟨n,q,e',h,w⟩=>?_,λh=>h.elim⟩;simp only[kN,a]at h;cases h|some v=>have p:e.t.val d=v:=by{simp[Tr.val,k]};rw[p];rw[k]at a;clear p k;cases v with|bool b=>{simp only at a;cases m:(b==want)with|true=>rw[m]at a;have:b=want:=by{simpa using m};subst this;rw[aWf a];simp[guardK]|false=>rw[m]at a;rw[VM a];have:b≠want:=by{simpa using m};have u:b = !want:=by{cases b<;>cases want<;>simp_all};simp[guardK,u];rfl}|tuple l=>rw[VM a];rfl|_=>exact⟨λ⟨n,q,e',h,w⟩=>by(simp only[kN,a]at h;cases h),λh=>h.elim⟩
theorem DT{nt:Nat}{ro:Option Nat}{fn:FuncId}{t:Tr AV}{ds:List ADef}{s:Sto}{r:ARec}{d:Nat}{v:AV}{R:Env->Prop}(h:d<nt):(∃e',(Env.mk nt ro fn t ds s r).put (some d) v=some e'/\R e')↔R ⟨nt,ro,fn,t.set d v,ds,s,r⟩:=by
 have:(Env.mk nt ro fn t ds s r).put (some d) v=some ⟨nt,ro,fn,t.set d v,ds,s,r⟩:=by simp only[Env.put];have:Nat.blt d nt=true:=by{simpa using h};rw[this];rfl
 rw[this];simp
theorem DU{e:Env}{v:AV}{R:Env->Prop}:(∃e',e.put none v=some e'/\R e')↔R e:=by simp[Env.put]
variable {nt:Nat} {ro:Option Nat} {fn:FuncId} {t:Tr AV} {ds:List ADef} {s:Sto} {r:ARec} {ops rest:List Oper} {Q:Ex->Env->Prop}
theorem aWh{d:Nat}{v:AV}(h:d<nt):cR P O ops (some d) rest ⟨nt,ro,fn,t,ds,s,r⟩ Q (.val v)↔Wo P O ops rest ⟨nt,ro,fn,t.set d v,ds,s,r⟩ Q:=DT h
theorem aNy{e:Env}{v:AV}:cR P O ops none rest e Q (.val v)↔Wo P O ops rest e Q:=DU
theorem aNz{d:Nat}{v:AV}{a:Sto}(h:d<nt):cR P O ops (some d) rest ⟨nt,ro,fn,t,ds,s,r⟩ Q (.val' v a)↔Wo P O ops rest ⟨nt,ro,fn,t.set d v,ds,a,r⟩ Q:=DT h
theorem aFm{v:AV}{a:Sto}:cR P O ops none rest ⟨nt,ro,fn,t,ds,s,r⟩ Q (.val' v a)↔Wo P O ops rest ⟨nt,ro,fn,t,ds,a,r⟩ Q:=DU
theorem aWi{dst:Option Tmp}{v:AV}{a:Sto}:cR P O ops dst rest ⟨nt,ro,fn,t,ds,s,r⟩ Q (.pan v a)↔Q (.panic v) ⟨nt,ro,fn,t,ds,a,r⟩:=.rfl
theorem tF{op:Op}{e:Env}{K:ORes->Prop}{r:Option ORes}(h:∀call,gO P call op e=r):fQ P O op e K↔xL r K:=by constructor;rintro⟨n,x,a,b⟩;exact⟨x,by rw[<-a,h],b⟩;rintro⟨x,a,b⟩;exact⟨0,x,by rw[h,a],b⟩
theorem gU{op:Op}{e:Env}{K:ORes->Prop}{x:Option AV}(h:∀call,gO P call op e=valO x):fQ P O op e K↔rQ (x) K:=by rw[tF h];cases x<;>simp[valO,rQ,xL]
theorem RD{op:Op}{e:Env}{K:ORes->Prop}{x:Option Sto}(h:∀call,gO P call op e=skipO x):fQ P O op e K↔ZQ (x) K:=by rw[tF h];cases x<;>simp[skipO,ZQ,xL]
variable {e:Env} {K:ORes->Prop}
theorem aWj{x:Operand}:fQ P O (.move x) e K↔K (.val (e.eval x)):=by rw[tF (r:=some (.val (e.eval x))) λ_=>rfl];simp[xL]
theorem aFn{x:Operand}:fQ P O (.assign x) e K↔K (.val (e.eval x)):=by rw[tF (r:=some (.val (e.eval x))) λ_=>rfl];simp[xL]
def aJx(c a b:AV):Option AV:=match c with| .bool true=>some a| .bool false=>some b|_=>none
theorem aWk{c a b:Operand}:fQ P O (.pick c a b) e K↔rQ (aJx (e.eval c) (e.eval a) (e.eval b)) K:=by refine gU λcall=>?_;show gO P call (.pick c a b) e=_;simp only[gO,kR];cases h:e.eval c with|bool b=>cases b<;>rfl|_=>rfl
theorem aOa{op:BinOp}{ty a:TypeId}{x y:Operand}:fQ P O (.binOp op ty x y a) e K↔rQ (abin P op ty x y (e.eval x) (e.eval y)) K:=gU λ_=>rfl
theorem aWl{op:UnOp}{ty:TypeId}{x:Operand}:fQ P O (.unOp op ty x) e K↔rQ (aun op (e.eval x)) K:=gU λ_=>rfl
theorem aWm{ty:TypeId}{a:Operand}:fQ P O (.load ty a) e K↔rQ (gV P e.s ty (e.eval a)) K:=gU λ_=>rfl
theorem aOb{ty:TypeId}{a x:Operand}:fQ P O (.store ty a x) e K↔ZQ (pM P e.s ty (e.eval a) (e.eval x)) K:=RD λ_=>rfl
theorem aOc{ty:TypeId}{x:Operand}{b a f:Option Operand}:fQ P O (.slice ty x b a f) e K↔rQ (gI P ty (e.eval x) (b.map e.eval) (a.map e.eval) (f.map e.eval)) K:=gU λ_=>rfl
theorem PU{ty:TypeId}{x:Operand}{f:Nat}:fQ P O (.fieldAddr ty x f) e K↔rQ (cS P ty (e.eval x) f) K:=gU λ_=>rfl
theorem aOd{ty:TypeId}{x:Operand}{f:Nat}:fQ P O (.field ty x f) e K↔rQ (tJ P ty (e.eval x) f) K:=gU λ_=>rfl
theorem PV{ty:TypeId}{x i:Operand}:fQ P O (.indexAddr ty x i) e K↔rQ (cM P ty (e.eval x) (e.eval i)) K:=gU λ_=>rfl
theorem aOe{ty:TypeId}{x i:Operand}:fQ P O (.index ty x i) e K↔rQ (vR P ty (e.eval x) (e.eval i)) K:=gU λ_=>rfl
theorem aFo{ty:TypeId}{m k:Operand}{ok:Bool}:fQ P O (.lookup ty m k ok) e K↔rQ (alookup P e.s ty (e.eval m) (e.eval k) ok) K:=gU λ_=>rfl
theorem PW{ty:TypeId}{m k x:Operand}:fQ P O (.mapUpdate ty m k x) e K↔ZQ (gJ P e.s ty (e.eval m) (e.eval k) (e.eval x)) K:=RD λ_=>rfl
theorem aOf{ty:TypeId}{a:Array (Nat × Operand)}:fQ P O (.build ty a) e K↔rQ (tI P ty (a.toList.map λp=>(p.1,e.eval p.2))) K:=gU λ_=>rfl
theorem ZU{a dst:TypeId}{x:Operand}:fQ P O (.convert a dst x) e K↔xL (mD P e.s a dst (e.eval x)) K:=tF λ_=>rfl
def zS:AV->Option AV| .ptr i g o=>some (.ptr i g o)| .pf v=>some (.pf v)| .func (.func f) a c=>some (.func (.func f) a c)| .iface t v=>some (.iface t v)|_=>none
theorem VP{x:Operand}:fQ P O (.nilCheck x) e K↔rQ (zS (e.eval x)) K:=by refine gU λcall=>?_;show gO P call (.nilCheck x) e=_;simp only[gO,kR];cases h:e.eval x with|func f a c=>cases f<;>rfl|_=>rfl
theorem VQ{f:FuncId}{first cap:Array Operand}:fQ P O (.makeFunc (.func f) first cap) e K↔K (.val (.func (.func f) (first.toList.map e.eval) (cap.toList.map e.eval))):=by rw[tF (r:=some (.val (.func (.func f) (first.toList.map e.eval) (cap.toList.map e.eval)))) λ_=>rfl];simp[xL]
theorem ZV{x:Operand}{i:Nat}:fQ P O (.extract x i) e K↔rQ ((match e.eval x with| .tuple vs=>vs[i]?|_=>none)) K:=by refine gU λcall=>?_;show gO P call (.extract x i) e=_;simp only[gO,kR];cases h:e.eval x<;>rfl
theorem ZW{b:Builtin}{args:Array Operand}{a:Array TypeId}:fQ P O (.call {callee:=.builtin b,args:=args,argTypes:=a}) e K↔xL (abuiltin P e.s b a (args.toList.map e.eval)) K:=tF λ_=>rfl
def ob(cs:List AV):AObj:=.cells 0 cs.length (Tr.leaf.lay 0 cs)
theorem vF{s:Sto}{cs:List AV}:sG s cs=if cs.all AV.isCell=true then some (s.n,s.push (ob cs))else none:=by unfold sG;cases cs.all AV.isCell<;>rfl
def AV.isTop:AV->Bool| .top=>true|_=>false
def aK(b:Bool)(A:Prop):Prop:=b=true/\A
theorem a3h{A:Prop}:aK true A↔A:=by simp[aK]
@[congr] theorem bCh{b b':Bool}{A:Prop}(h:b=b'):aK b A=aK b' A:=by rw[h]
def DV(v:AV)(s:Sto)(K:ORes->Prop):Prop:=v.isTop=false/\v.cells.all AV.isCell=true/\K (.val' (.ptr s.n 0 0) (s.push (ob v.cells)))
@[congr] theorem a8e{v v':AV}{s s':Sto}{K:ORes->Prop}(h:v=v')(h':s=s'):DV v s K=DV v' s' K:=by rw[h,h']
theorem aWn{l:List AV}{s:Sto}{K:ORes->Prop}:DV (.agg l) s K↔aK (l.all AV.isCell) (K (.val' (.ptr s.n 0 0) (s.push (ob l)))):=by simp[DV,AV.isTop,AV.cells,aK]
theorem aOg{v:AV}{s:Sto}{K:ORes->Prop}(h:v.isCell=true):DV v s K↔K (.val' (.ptr s.n 0 0) (s.push (ob [v]))):=by
 have a:v.isTop=false:=by cases v<;>first|rfl|cases h
 have b:v.cells=[v]:=by cases v<;>first|rfl|cases h
 simp[DV,a,b,h]
def mU(z:Option AV)(s:Sto)(K:ORes->Prop):Prop:=∃v,z=some v/\v.cells.all AV.isCell=true/\K (.val' (.ptr s.n 0 0) (s.push (ob v.cells)))
@[congr] theorem a3i{z z':Option AV}{s s':Sto}{K:ORes->Prop}(h:z=z')(h':s=s'):mU z s K=mU z' s' K:=by rw[h,h']
theorem aFp{l:List AV}{s:Sto}{K:ORes->Prop}:mU (some (.agg l)) s K↔aK (l.all AV.isCell) (K (.val' (.ptr s.n 0 0) (s.push (ob l)))):=by simp[mU,AV.cells,aK]
theorem ZX{v:AV}{s:Sto}{K:ORes->Prop}(h:v.isCell=true):mU (some v) s K↔K (.val' (.ptr s.n 0 0) (s.push (ob [v]))):=by
 have a:v.cells=[v]:=by cases v<;>first|rfl|cases h
 simp[mU,a,h]
theorem RE{ty:TypeId}:fQ P O (.alloc ty) e K↔mU (bI P ty) e.s K:=by rw[tF (r:=match bI P ty with|some z=>(match sG e.s z.cells with|some (id,s)=>some (.val' (.ptr id 0 0) s)|none=>none)|none=>none) λ_=>rfl];cases h:bI P ty with|none=>simp[xL,mU]|some z=>simp only[xL,mU,Φ,gm,vF];by_cases a:z.cells.all AV.isCell=true<;>simp[a]
theorem aJy{ty:TypeId}{x:Operand}:fQ P O (.box ty x) e K↔DV (e.eval x) e.s K:=by
 have:∀call,gO P call (.box ty x) e=match e.eval x with| .top=>none|v=>(match sG e.s v.cells with|some (id,s)=>some (.val' (.ptr id 0 0) s)|none=>none):=λ_=>rfl;rw[tF this];generalize e.eval x=v;by_cases a:v=.top;subst a;simp[AV.isTop,DV,xL];have b:v.isTop=false:=by cases v<;>first|rfl|exact absurd rfl a
 have:(match v with| .top=>none|v=>(match sG e.s v.cells with|some (id,s)=>some (ORes.val' (.ptr id 0 0) s)|none=>none))=(match sG e.s v.cells with|some (id,s)=>some (ORes.val' (.ptr id 0 0) s)|none=>none):=by cases v<;>first|rfl|exact absurd rfl a
 rw[this,vF];by_cases f:v.cells.all AV.isCell=true<;>simp[f,DV,xL,b]
def callK(s:Sto)(K:ORes->Prop):CRes->Prop| .ret v none=>K (.val v)| .ret v (some a)=>K (.val' v a)| .pan v none=>K (.pan v s)| .pan v (some a)=>K (.pan v a)
theorem aOh{s:Sto}{v:AV}:callK s K (.ret v none)=K (.val v):=rfl
theorem aFq{s a:Sto}{v:AV}:callK s K (.ret v (some a))=K (.val' v a):=rfl
theorem aOi{s:Sto}{v:AV}:callK s K (.pan v none)=K (.pan v s):=rfl
theorem aFr{s a:Sto}{v:AV}:callK s K (.pan v (some a))=K (.pan v a):=rfl
theorem aWo{f:Operand}{args:Array Operand}{o:Array TypeId}:fQ P O (.call {callee:=.value f,args:=args,argTypes:=o}) e K↔Wcall P O (e.eval f) (args.toList.map e.eval) e.s (callK e.s K):=by
 have k:∀n,gO P (aT P O n) (.call {callee:=.value f,args:=args,argTypes:=o}) e=iN e.s (aT P O n (e.eval f) (args.toList.map e.eval) e.s .no):=λ_=>rfl;constructor;rintro⟨n,r,a,b⟩;rw[k]at a;cases l:aT P O n (e.eval f) (args.toList.map e.eval) e.s .no with|none=>rw[l]at a;cases a|some y=>obtain⟨res,m⟩:=y;rw[l]at a;refine⟨n,res,m,l,?_⟩;cases res with|ret v h=>cases h<;>simp[iN]at a<;>subst a<;>exact b|pan v h=>cases h<;>simp[iN]at a<;>subst a<;>exact b
 rintro⟨n,res,m,a,b⟩;cases res with|ret v h=>{cases h with|none=>exact⟨n,_,by rw[k,a];rfl,b⟩|some p=>exact⟨n,_,by rw[k,a];rfl,b⟩}|pan v h=>cases h with|none=>exact⟨n,_,by rw[k,a];rfl,b⟩|some p=>exact⟨n,_,by rw[k,a];rfl,b⟩
def MV(o:Option CRes)(K:CRes->Prop)(R:Prop):Prop:=match o with|some r=>K r|none=>R
theorem aOj{c:CRes}{K:CRes->Prop}{R:Prop}:MV (some c) K R=K c:=rfl
@[congr] theorem a8f{o o':Option CRes}{K:CRes->Prop}{R:Prop}(h:o=o'):MV o K R=MV o' K R:=by rw[h]
def aWp(P:Program)(O:Orc)(a:AV)(args:List AV)(s:Sto)(K:CRes->Prop):Prop:=∃n res b,(match kB P s a args with|some (.fn f args)=>uL P (aT P O n) n f args s .no|some (.round l args)=>pP P (aT P O n) n l args s|none=>none)=some (res,b)/\K res
theorem dT{g:FuncId}{first cap args:List AV}{s:Sto}{K:CRes->Prop}: Wcall P O (.func (.func g) first cap) args s K↔MV (O g (first++args++cap) s) K (aWp P O (.func (.func g) first cap) args s K):=by have f:GP O (.func (.func g) first cap) args s .no=O g (first++args++cap) s:=rfl;cases k:O g (first++args++cap) s with|some c=>simp only[MV];constructor;rintro⟨n,res,l,a,b⟩;cases n with|zero=>cases a|succ n=>{simp only[aT,f,k]at a;simp at a;obtain⟨rfl,rfl⟩:=a;exact b};intro h;exact⟨1,c,.no,by simp only[aT,f,k],h⟩|none=>simp only[MV];constructor;rintro⟨n,res,l,a,b⟩;cases n with|zero=>cases a|succ n=>{simp only[aT,f,k]at a;exact⟨n,res,l,a,b⟩};rintro⟨n,res,l,a,b⟩;exact⟨n+1,res,l,by simp only[aT,f,k];exact a,b⟩
end
abbrev jF:=FuncId × (List AV->Sto->Option CRes)
def orcL:List jF->Orc|[],_,_,_=>none|x::L,f,args,s=>bif Nat.beq x.1 f then x.2 args s else orcL L f args s
theorem zT{f:FuncId}{F:List AV->Sto->Option CRes}{L:List jF}{args:List AV}{s:Sto}:orcL ((f,F)::L) f args s=F args s:=by simp[orcL]
theorem JT{f g:FuncId}{F:List AV->Sto->Option CRes}{L:List jF}{args:List AV}{s:Sto}(h:g≠f):orcL ((g,F)::L) f args s=orcL L f args s:=by
 have:Nat.beq g f=false:=by cases a:Nat.beq g f with|false=>rfl|true=>exact absurd (bl a) h
 simp[orcL,this]
def eB(P:Program)(x:jF):Prop:=∀args s res,x.2 args s=some res->bY P x.1 args s res
theorem zU{P:Program}{L:List jF}(h:∀x∈L,eB P x):lN P (orcL L):=by intro f args s res a;induction L with|nil=>cases a|cons x L l=>unfold orcL at a;cases b:Nat.beq x.1 f with|true=>rw[b]at a;have:=h x (χ ..) args s res a;rw[bl b]at this;exact this|false=>rw[b]at a;exact l (λx k=>h x (ν _ k)) a
theorem aD{P:Program}:∀x∈([]:List jF),eB P x:=λ_ h=>nomatch h
theorem elist_cons{P:Program}{x:jF}{L:List jF}(h:eB P x)(b:∀x∈L,eB P x):∀y∈x::L,eB P y:=λy a=>by rcases cp.1 a with rfl|a;exact h;exact b y a
