/- Lemmas. -/
import Derived.Test.YtfnmipbdjohikaaGreatUx
namespace Go
abbrev ej:=@Nat.le_succ
abbrev b3:=@Nat.le_max_left
abbrev c1:=@Nat.le_max_right
abbrev ag:=@exists_eq_left'
abbrev gc:=@List.getElem?_cons_succ
end Go
namespace Go.Abs
section
variable {P:Program}
def CLe(c d:cE):Prop:=∀fv args s r x,c fv args s r=some x->d fv args s r=some x
theorem CLe.refl(c:cE):CLe c c:=λ_ _ _ _ _ h=>h
theorem CLe.trans{a b c:cE}(h:CLe a b)(f:CLe b c):CLe a c:=λ_ _ _ _ _ x=>f _ _ _ _ _ (h _ _ _ _ _ x)
variable {c d:cE}
theorem GZ(h:CLe c d){s:Sto}{a:AV}{args:List AV}{r:ORes}(f:iT s (c a args s .no)=some r):iT s (d a args s .no)=some r:=by cases b:c a args s .no with|none=>rw[b]at f;cases f|some x=>rw[h _ _ _ _ _ b,<-b];exact f
theorem mX(h:CLe c d){o:Oper}{e:Env}{r:ORes}(k:kS P c o e=some r):kS P d o e=some r:=by
 unfold kS at k ⊢;cases m:o.op<;>simp only[m]at k ⊢<;>first|exact k|skip
 rename_i l;obtain⟨a,args,ts⟩:=l;cases a with|builtin b=>exact k|value f=>exact GZ h k|invoke f n=>exact GZ h k
theorem OU(h:CLe c d){ops:List Oper}:∀(rest:List Oper)(e:Env)(x:Ex × Env),kQ P c ops rest e=some x->kQ P d ops rest e=some x:=by intro rest;induction rest with|nil=>intro e x a;exact a|cons o rest b=>intro e x a;simp only[kQ]at a ⊢;split at a;cases a;rename_i k;split at a;exact b _ _ a;cases a;rename_i k;cases f:kS P c o e with|none=>rw[f]at a;cases a|some r=>rw[mX h f];rw[f]at a;cases r with|val v=>{simp only at a ⊢;split at a<;>first|exact b _ _ a|cases a}|val' v s=>{simp only at a ⊢;split at a<;>first|exact b _ _ a|cases a}|pan v s=>exact a|defer q=>{simp only at a ⊢;split at a<;>first|exact b _ _ a|cases a}|recov=>simp only at a ⊢;split at a;(split at a<;>first|exact b _ _ a|cases a);(split at a<;>first|exact b _ _ a|cases a);cases a
theorem XC{x:TrE}{y:Option TrR}{z:TrR}(h:tG x y=some z):∃l f p,y=some (l,f,p)/\z=(x::l,f,p):=by cases y with|none=>cases h|some y=>obtain⟨l,f,p⟩:=y;simp only[tG,Ω]at h;exact⟨l,f,p,rfl,h.symm⟩
theorem XD(h:CLe c d){ops:List Oper}:∀(rest:List Oper)(i:Nat)(e:Env)(x:TrR),IM P c ops rest i e=some x->IM P d ops rest i e=some x:=by intro rest;induction rest with|nil=>intro i e x a;exact a|cons o rest w=>intro i e x a;have b:∀{y:TrE}{e':Env}{z:TrR},tG y (IM P c ops rest (i+1) e')=some z->tG y (IM P d ops rest (i+1) e')=some z:=by{intro y e' z u;obtain⟨l,f,p,m,A⟩:=XC u;rw[w _ _ _ m,<-u,m]};simp only[IM]at a ⊢;split at a;cases a;split at a;exact b a;cases a;cases k:kS P c o e with|none=>rw[k]at a;cases a|some r=>rw[mX h k];rw[k]at a;cases r with|val v=>{simp only at a ⊢;split at a<;>first|exact b a|cases a}|val' v s=>{simp only at a ⊢;split at a<;>first|exact b a|cases a}|pan v s=>exact a|defer q=>cases a|recov=>cases a
theorem KY(h:CLe c d){v:AV}{o:Oper}{e:Env}(b:isVal v (kS P c o e)=true):isVal v (kS P d o e)=true:=by cases a:kS P c o e with|none=>rw[a]at b;cases b|some r=>rw[mX h a,<-a];exact b
theorem SP(h:CLe c d){n:Nat}{as:List Nat}{ns:List (Nat × Nat)}{x:TrE}:∀(cs:List Nat)(a:List Sto),lL P c n as ns x cs a=true->lL P d n as ns x cs a=true:=by intro cs;induction cs with|nil=>{intro a b;cases a with|nil=>simp[lL]at b|cons s a=>cases a with|nil=>exact KY h b|cons s' a=>simp[lL]at b}|cons k cs l=>intro a b;cases a with|nil=>simp[lL]at b|cons s a=>simp only[lL,ε]at b ⊢;refine⟨?_,?_⟩;have:=b.1;cases f:(as.getD x.i 0).testBit k with|true=>rfl|false=>{rw[f]at this;exact KY h this};have:=b.2;cases f:(as.getD k 0).testBit x.i with|true=>rfl|false=>rw[f]at this;exact l _ this
theorem SQ(h:CLe c d){n0:Nat}{ns:List (Nat × Nat)}{as cs:List Nat}{x:TrE}(a:sN P c as n0 ns cs x=true):sN P d as n0 ns cs x=true:=by simp only[sN,ε,Γ]at a ⊢;exact⟨a.1,λs' b=>mX h (a.2 s' b)⟩
theorem SR(h:CLe c d){n0:Nat}{as cs:List Nat}{f:List Sto}{x:TrE}(b:vJ P c as n0 cs f x=true):vJ P d as n0 cs f x=true:=by simp only[vJ,Γ]at b ⊢;obtain⟨m,o,k,l⟩:=b;exact⟨m,o,k,λs' a=>mX h (l s' a)⟩
theorem NF(h:CLe c d){n n0:Nat}{as:List Nat}{l:List TrE}{s:Sto}(f:gX P c n n0 as l s=true):gX P d n n0 as l s=true:=by
 have k:∀(ns:List (Nat × Nat))(cs:List Nat)(o:List Sto)(m:List TrE),oS P c n n0 as ns cs o m=true->oS P d n n0 as ns cs o m=true:=by intro ns cs o m;induction m with|nil=>intro _;rfl|cons x m p=>intro b;simp only[oS,ε,b9]at b ⊢;refine⟨?_,p b.2⟩;rcases b.1 with(((a|a)|a)|a)|a;exact .inl (.inl (.inl (.inl a)));exact .inl (.inl (.inl (.inr a)));exact .inl (.inl (.inr (SP h _ _ a)));exact .inl (.inr (SQ h a));exact .inr (SR h a)
 unfold gX at f ⊢;split at f;rfl;exact k _ _ _ _ f
theorem aCe(h:CLe c d){ops:List Oper}{e:Env}{x:Ex × Env}(a:DX P c ops e=some x):DX P d ops e=some x:=by unfold DX at a ⊢;cases k:IM P c ops ops 0 e with|none=>rw[k]at a;cases a|some y=>obtain⟨l,f,p⟩:=y;rw[XD h _ _ _ _ k];rw[k]at a;simp only at a ⊢;cases b:gX P c f.s.n e.s.n (dG ops) l f.s with|false=>rw[b]at a;simp at a|true=>rw[NF h b,<-b];exact a
theorem SS(h:CLe c d){ops:List Oper}{a:Bool}{e:Env}{x:Ex × Env}(b:sP P c ops a e=some x):sP P d ops a e=some x:=by cases a with|true=>exact aCe h b|false=>exact OU h _ _ _ b
theorem HA{f g:Env->Option (Ex × Env)}(h:∀e x,f e=some x->g e=some x):∀(n m:Nat)(e:Env)(x:Ex × Env),n<=m->loopGo f n e=some x->loopGo g m e=some x:=by intro n;induction n with|zero=>intro m e x _ a;cases a|succ n o=>intro m e x p a;obtain⟨m,rfl⟩:∃k,m=k+1:=⟨m-1,il⟩;simp only[loopGo]at a ⊢;cases b:f e with|none=>rw[b]at a;cases a|some y=>rw[h _ _ b];rw[b]at a;obtain⟨l,e'⟩:=y;cases l with|normal=>exact o m e' x il a|_=>exact a
theorem XE(h:CLe c d){f:Operand}{ps:Array Tmp}{a b:Code}{e:Env}{x:Ex × Env}(k:BW c f ps a b e=some x):BW d f ps a b e=some x:=by unfold BW at k ⊢;split at k;cases k;simp only at k ⊢;rename_i q m o ds p;cases l:c (e.eval f) [.func (.yield m.n) [] []] (m.push (.loop .ready none e.fn e.nt e.t ps.toList a b o)) .no with|none=>rw[l]at k;cases k|some y=>rw[h _ _ _ _ _ l,<-l];exact k
theorem uU(h:CLe c d){n m:Nat}(A:n<=m):∀(k:Code)(e:Env)(x:Ex × Env),bM P c n k e=some x->bM P d m k e=some x:=by intro k;induction k with|region id ops v=>intro e x l;exact SS h l|seq a b o u=>{intro e x l;simp only[bM]at l ⊢;cases p:bM P c n a e with|none=>rw[p]at l;cases l|some y=>rw[o _ _ p];rw[p]at l;obtain⟨w,e'⟩:=y;cases w with|normal=>exact u _ _ l|_=>exact l}|cond q a b o u=>intro e x l;simp only[bM]at l ⊢;split at l;exact o _ _ l;exact u _ _ l;cases l|block id a o=>{intro e x l;simp only[bM]at l ⊢;cases p:bM P c n a e with|none=>rw[p]at l;cases l|some y=>rw[o _ _ p,<-p];exact l}|loop a o=>intro e x l;exact HA o _ _ _ _ A l|scope a o=>{intro e x l;simp only[bM]at l ⊢;cases p:bM P c n a e with|none=>rw[p]at l;cases l|some y=>rw[o _ _ p,<-p];exact l}|rangeFunc f ps a b=>intro e x l;exact XE h l|_=>intro e x l;exact l
theorem jV(h:CLe c d){fn:Func}:∀(n m:Nat)(b:Option AV)(e:Env)(x:LRes × Env),n<=m->dleave P c fn n b e=some x->dleave P d fn m b e=some x:=by intro n;induction n with|zero=>intro m b e x _ a;cases a|succ n q=>intro m b e x w a;obtain⟨m,rfl⟩:∃k,m=k+1:=⟨m-1,il⟩;have l:n<=m:=il;simp only[dleave]at a ⊢;split at a;exact a;split at a;exact q _ _ _ _ l a;cases a;rename_i o args ds _;cases v:vL o with|true=>rw[v]at a;cases a|false=>rw[v]at a;simp only[b7]at a ⊢;cases b with|none=>{simp only at a ⊢;cases f:c o args e.s .no with|none=>rw[f]at a;cases a|some y=>rw[h _ _ _ _ _ f];rw[f]at a;obtain⟨res,u⟩:=y;cases res<;>cases u<;>first|exact q _ _ _ _ l a|cases a}|some p=>simp only at a ⊢;cases f:c o args e.s (.pan p)with|none=>rw[f]at a;cases a|some y=>rw[h _ _ _ _ _ f];rw[f]at a;obtain⟨res,u⟩:=y;cases res<;>cases u<;>first|exact q _ _ _ _ l a|cases a
theorem aCf(h:CLe c d){n m:Nat}(l:n<=m){f:FuncId}{args:List AV}{s:Sto}{r:ARec}{x:CRes × ARec}(a:uD P c n f args s r=some x):uD P d m f args s r=some x:=by unfold uD at a ⊢;cases o:okFn P f with|false=>rw[o]at a;cases a|true=>rw[o]at a;simp only[cr]at a ⊢;split at a;rename_i fn v;split at a;rename_i k A;cases b:bM P c n k {nt:=Nat.max args.length fn.ntmps,ro:=none,fn:=f,t:=Tr.leaf.lay 0 args,ds:=[],s:={s with low:=s.n},r:=r}with|none=>rw[b]at a;cases a|some y=>{rw[uU h l _ _ _ b];rw[b]at a;obtain⟨q,e'⟩:=y;cases q<;>first|(obtain⟨B,p,w,u⟩:=zM a;simp only[jV h _ _ _ _ _ l w];exact u)|cases a};cases a;cases a
theorem XF(h:CLe c d){n m:Nat}(A:n<=m){l:Nat}{args:List AV}{s:Sto}{x:CRes × ARec}(f:pM P c n l args s=some x):pM P d m l args s=some x:=by
 unfold pM at f ⊢;split at f;rename_i st B fn nt t ps a b H J;split at f;rename_i G L;cases q:bM P c n a {nt:=nt,ro:=some l,fn:=fn,t:=G,ds:=[],s:={s with low:=s.n},r:=.no}with|none=>rw[q]at f;cases f|some y=>rw[uU h A _ _ _ q];rw[q]at f;obtain⟨E,e'⟩:=y;cases E with|normal=>simp only at f ⊢;split at f;rename_i o p u w v C b' D F;cases k:bM P c n b {e' with s:=e'.s.put l (.loop .busy o p u w v C b' D)}with|none=>rw[k]at f;cases f|some y=>{rw[uU h A _ _ _ k,<-k];exact f};cases f|_=>cases f
 cases f;cases f
theorem cY{O:bW}:∀(n m:Nat),n<=m->CLe (aU P O n) (aU P O m):=by intro n;induction n with|zero=>intro m _ h args s r x a;cases a|succ n f=>intro m l h args s r x a;obtain⟨m,rfl⟩:∃k,m=k+1:=⟨m-1,il⟩;have b:n<=m:=il;simp only[aU]at a ⊢;split at a;exact a;split at a;exact aCf (f m b) b a;(cases r<;>first|exact XF (f m b) b a|cases a);cases a
end
noncomputable section
def Tr.val(t:Tr AV)(i:Nat):AV:=(t.get i).getD .top
theorem hP(t:Tr AV)(i:Nat)(a:AV):(t.set i a).val i=a:=by simp[Tr.val,hK]
theorem hc(t:Tr AV)(i j:Nat)(a:AV)(h:j≠i):(t.set i a).val j=t.val j:=by simp[Tr.val,hK,h]
theorem hW(e:Env)(i:Nat):e.eval (.tmp i)=e.t.val i:=by simp only[Env.eval,Tr.val];cases e.t.get i<;>rfl
def rF(o:Option AV)(K:ORes->Prop):Prop:=∃v,o=some v/\K (.val v)
def XG(o:Option Sto)(K:ORes->Prop):Prop:=∃s,o=some s/\K (.val' .undef s)
def wH(o:Option ORes)(K:ORes->Prop):Prop:=∃r,o=some r/\K r
theorem XH{v:AV}{K:ORes->Prop}:rF (some v) K↔K (.val v):=by simp[rF]
theorem aRj{s:Sto}{K:ORes->Prop}:XG (some s) K↔K (.val' .undef s):=by simp[XG]
theorem aRk{r:ORes}{K:ORes->Prop}:wH (some r) K↔K r:=by simp[wH]
@[congr] theorem a2p{o o':Option AV}{K:ORes->Prop}(h:o=o'):rF o K=rF o' K:=by rw[h]
@[congr] theorem a2q{o o':Option Sto}{K:ORes->Prop}(h:o=o'):XG o K=XG o' K:=by rw[h]
@[congr] theorem a2r{o o':Option ORes}{K:ORes->Prop}(h:o=o'):wH o K=wH o' K:=by rw[h]
section
variable (P:Program) (O:bW)
def W(c:Code)(e:Env)(Q:Ex->Env->Prop):Prop:=∃n a e',bM P (aU P O n) n c e=some (a,e')/\Q a e'
def Wo(ops rest:List Oper)(e:Env)(Q:Ex->Env->Prop):Prop:=∃n a e',kQ P (aU P O n) ops rest e=some (a,e')/\Q a e'
def fR(call:cE)(op:Op)(e:Env):Option ORes:=kS P call {dst:=none,op:=op,type:=0,pos:= "",after:=#[],guard:=none} e
def fP(op:Op)(e:Env)(K:ORes->Prop):Prop:=∃n r,fR P (aU P O n) op e=some r/\K r
def Wcall(a:AV)(args:List AV)(s:Sto)(K:CRes->Prop):Prop:=∃n res rr,aU P O n a args s .no=some (res,rr)/\K res
variable {P O}
theorem W.mono{c:Code}{e:Env}{Q b:Ex->Env->Prop}(h:W P O c e Q)(l:∀a e',Q a e'->b a e'):W P O c e b:=by obtain⟨n,a,e',f,k⟩:=h;exact⟨n,a,e',f,l _ _ k⟩
@[congr] theorem a5j{c:Code}{e e':Env}{Q:Ex->Env->Prop}(h:e=e'):W P O c e Q=W P O c e' Q:=by rw[h]
@[congr] theorem a4p{ops rest:List Oper}{e e':Env}{Q:Ex->Env->Prop}(h:e=e'):Wo P O ops rest e Q=Wo P O ops rest e' Q:=by rw[h]
@[congr] theorem a2s{op:Op}{e e':Env}{K:ORes->Prop}(h:e=e'):fP P O op e K=fP P O op e' K:=by rw[h]
@[congr] theorem aZd{fv fv':AV}{args args':List AV}{s s':Sto}{K:CRes->Prop}(h:fv=fv')(h':args=args')(h'':s=s'):Wcall P O fv args s K=Wcall P O fv' args' s' K:=by rw[h,h',h'']
theorem sG{n m:Nat}(h:n<=m){c:Code}{e:Env}{x:Ex × Env}(a:bM P (aU P O n) n c e=some x):bM P (aU P O m) m c e=some x:=uU (cY n m h) h c e x a
def a1f(P:Program)(O:bW)(b:Code)(Q:Ex->Env->Prop):Ex->Env->Prop| .normal,e=>W P O b e Q|ex,e=>Q ex e
theorem a4q{a b:Code}{e:Env}{Q:Ex->Env->Prop}:W P O (.seq a b) e Q↔W P O a e (a1f P O b Q):=by
 constructor;rintro⟨n,l,e',h,k⟩;simp only[bM]at h;cases q:bM P (aU P O n) n a e with|none=>rw[q]at h;cases h|some y=>obtain⟨f,u⟩:=y;rw[q]at h;refine⟨n,f,u,q,?_⟩;cases f with|normal=>exact⟨n,l,e',h,k⟩|_=>simp at h;obtain⟨rfl,rfl⟩:=h;exact k
 rintro⟨n,l,e',h,k⟩;cases l with|normal=>obtain⟨m,o,v,w,p⟩:=k;refine⟨max n m,o,v,?_,p⟩;simp only[bM,sG (b3 n m) h,sG (c1 n m) w]|_=>exact⟨n,_,e',by simp only[bM,h],k⟩
def iP(id:Nat)(Q:Ex->Env->Prop):Ex->Env->Prop| .exit i,e=>bif Nat.beq i id then Q .normal e else Q (.exit i) e|ex,e=>Q ex e
theorem aXd{id:Nat}{c:Code}{e:Env}{Q:Ex->Env->Prop}:W P O (.block id c) e Q↔W P O c e (iP id Q):=by
 constructor;rintro⟨n,l,e',h,a⟩;simp only[bM]at h;cases k:bM P (aU P O n) n c e with|none=>rw[k]at h;cases h|some y=>obtain⟨b,m⟩:=y;rw[k]at h;refine⟨n,b,m,k,?_⟩;cases b with|exit i=>simp only[iP]at h ⊢;cases f:Nat.beq i id<;>rw[f]at h<;>simp at h<;>obtain⟨rfl,rfl⟩:=h<;>exact a|_=>simp at h;obtain⟨rfl,rfl⟩:=h;exact a
 rintro⟨n,l,e',h,a⟩;cases l with|exit i=>simp only[iP]at a;cases f:Nat.beq i id<;>rw[f]at a;exact⟨n,_,e',by simp only[bM,h,f,b7],a⟩;exact⟨n,_,e',by simp only[bM,h,f,cr],a⟩|_=>exact⟨n,_,e',by simp only[bM,h],a⟩
theorem NG{id:Nat}{Q:Ex->Env->Prop}{e:Env}:iP id Q .normal e=Q .normal e:=rfl
theorem XI{id:Nat}{Q:Ex->Env->Prop}{e:Env}:iP id Q (.exit id) e=Q .normal e:=by simp[iP]
theorem aJv{id i:Nat}{Q:Ex->Env->Prop}{e:Env}(h:i≠id):iP id Q (.exit i) e=Q (.exit i) e:=by
 simp only[iP];have:Nat.beq i id=false:=by cases a:Nat.beq i id with|false=>rfl|true=>exact absurd (bk a) h
 rw[this];rfl
theorem aCg{id:Nat}{Q:Ex->Env->Prop}{e:Env}:iP id Q .ret e=Q .ret e:=rfl
theorem ST{id:Nat}{Q:Ex->Env->Prop}{e:Env}{v:AV}:iP id Q (.panic v) e=Q (.panic v) e:=rfl
def aRl(P:Program)(O:bW)(v:AV)(x y:Code)(e:Env)(Q:Ex->Env->Prop):Prop:=(v=.bool true/\W P O x e Q)∨(v=.bool false/\W P O y e Q)
@[congr] theorem aZe{v v':AV}{x y:Code}{e:Env}{Q:Ex->Env->Prop}(h:v=v'):aRl P O v x y e Q=aRl P O v' x y e Q:=by rw[h]
theorem a1g{c:Operand}{x y:Code}{e:Env}{Q:Ex->Env->Prop}:W P O (.cond c x y) e Q↔aRl P O (e.eval c) x y e Q:=by constructor;rintro⟨n,b,e',h,f⟩;simp only[bM]at h;split at h;rename_i a;exact .inl ⟨a,n,b,e',h,f⟩;rename_i a;exact .inr ⟨a,n,b,e',h,f⟩;cases h;rintro(⟨a,n,b,e',h,f⟩|⟨a,n,b,e',h,f⟩);exact⟨n,b,e',by simp only[bM,a,h],f⟩;exact⟨n,b,e',by simp only[bM,a,h],f⟩
theorem a1h{e:Env}{Q:Ex->Env->Prop}:W P O .skip e Q↔Q .normal e:=⟨λ⟨n,b,e',h,a⟩=>by simp[bM]at h;obtain⟨rfl,rfl⟩:=h;exact a,λh=>⟨0,_,_,rfl,h⟩⟩
theorem aXe{l:Nat}{e:Env}{Q:Ex->Env->Prop}:W P O (.label l) e Q↔Q .normal e:=⟨λ⟨n,b,e',h,a⟩=>by simp[bM]at h;obtain⟨rfl,rfl⟩:=h;exact a,λh=>⟨0,_,_,rfl,h⟩⟩
theorem a1i{i:Nat}{e:Env}{Q:Ex->Env->Prop}:W P O (.exit i) e Q↔Q (.exit i) e:=⟨λ⟨n,b,e',h,a⟩=>by simp[bM]at h;obtain⟨rfl,rfl⟩:=h;exact a,λh=>⟨0,_,_,rfl,h⟩⟩
theorem a4r{e:Env}{Q:Ex->Env->Prop}:W P O .ret e Q↔Q .ret e:=⟨λ⟨n,b,e',h,a⟩=>by simp[bM]at h;obtain⟨rfl,rfl⟩:=h;exact a,λh=>⟨0,_,_,rfl,h⟩⟩
theorem XJ{f:Env->Option (Ex × Env)}(a:∀e l e',f e≠some (.goto l,e')):∀(n:Nat)(e:Env)(l:Nat)(e':Env),loopGo f n e≠some (.goto l,e'):=by intro n;induction n with|zero=>intro e l e' h;cases h|succ n b=>intro e l e' h;simp only[loopGo]at h;split at h;exact b _ _ _ h;exact a _ _ _ h
theorem aJw{call:cE}{ops:List Oper}:∀(rest:List Oper)(e:Env)(l:Nat)(e':Env),kQ P call ops rest e≠some (.goto l,e'):=by intro rest;induction rest with|nil=>intro e l e' h;cases h|cons o rest a=>intro e l e' h;simp only[kQ]at h;split at h;cases h;split at h;exact a _ _ _ h;cases h;split at h;cases h;(split at h<;>first|exact a _ _ _ h|cases h);(split at h<;>first|exact a _ _ _ h|cases h);cases h;(split at h<;>first|exact a _ _ _ h|cases h);split at h;(split at h<;>first|exact a _ _ _ h|cases h);(split at h<;>first|exact a _ _ _ h|cases h);cases h
theorem aCh{call:cE}{n:Nat}:∀(c:Code)(e:Env)(l:Nat)(e':Env),bM P call n c e≠some (.goto l,e'):=by intro c;induction c with|region id ops v=>{intro e l e' h;cases v with|false=>exact aJw _ _ _ _ h|true=>simp only[bM,sP,cr,DX]at h;split at h;cases h;rename_i m f p y;cases o:(P.follows .mixedOrders&&rP ops.toList&&iV (dG ops.toList) (eX m)&&yN (dG ops.toList) (oK m) (eX m)&&kR m f.s.n&&mE m&&gX P call f.s.n e.s.n (dG ops.toList) m f.s)with|false=>rw[o]at h;cases h|true=>rw[o]at h;simp only[cr]at h;split at h;cases h;cases w:nJ (dG ops.toList) (m.length-1) ops.toList 0<;>rw[w]at h<;>cases h}|seq a b k u=>intro e l e' h;simp only[bM]at h;split at h;exact u _ _ _ h;exact k _ _ _ h|cond q a b k u=>intro e l e' h;simp only[bM]at h;split at h;exact k _ _ _ h;exact u _ _ _ h;cases h|block id a k=>intro e l e' h;simp only[bM]at h;split at h;simp only[Bool.cond_eq_ite]at h;split at h<;>cases h;exact k _ _ _ h|loop a k=>intro e l e' h;exact XJ k _ _ _ _ h|scope a k=>intro e l e' h;simp only[bM]at h;split at h;cases h;exact k _ _ _ h|rangeFunc f ps a b=>intro e l e' h;simp only[bM,BW]at h;split at h;cases h;(try simp only at h);split at h;simp only[eA]at h;split at h;split at h;cases h;(try simp only at h);split at h<;>cases h;cases h;cases h;cases h|_=>intro e l e' h;cases h
theorem aXf{c:Code}{e:Env}{Q:Ex->Env->Prop}:W P O (.scope c) e Q↔W P O c e Q:=by constructor;rintro⟨n,a,e',h,b⟩;simp only[bM]at h;split at h;cases h;exact⟨n,a,e',h,b⟩;rintro⟨n,a,e',h,b⟩;refine⟨n,a,e',?_,b⟩;simp only[bM,h];split;rename_i f;simp at f;obtain⟨rfl,_⟩:=f;exact absurd h (aCh _ _ _ _);rfl
theorem a1j{α:Type}(I:α->Env->Prop)(m:α->Nat)(a:α){c:Code}{e:Env}{Q:Ex->Env->Prop}(y:I a e)(C:∀a e,I a e->W P O c e λb e'=>match b with| .normal=>∃f,m f<m a/\I f e'|b=>Q b e'):W P O (.loop c) e Q:=by generalize G:m a=k;induction k using Nat.strongRecOn generalizing a e with|_ k E=>obtain⟨n,b,e',h,l⟩:=C a e y;have u:∀b,b≠.normal->bM P (aU P O n) n c e=some (b,e')->Q b e'->W P O (.loop c) e Q:=by{intro b q h l;refine⟨n+1,b,e',?_,l⟩;simp only[bM,loopGo];rw[sG (ej n) h];cases b<;>first|rfl|exact absurd rfl q};cases b with|normal=>obtain⟨f,B,A⟩:=l;obtain⟨F,o,w,v,p⟩:=E (m f) il f A rfl;refine⟨max n F+1,o,w,?_,p⟩;simp only[bM,loopGo];rw[sG il h];simp only[bM]at v;exact HA (λe x D=>sG il D) _ _ _ _ il v|_=>exact u _ ip h l
theorem aRm{i:Nat}{l:List Oper}{e:Env}{Q:Ex->Env->Prop}:W P O (.region i l.toArray false) e Q↔Wo P O l l e Q:=by simp only[W,Wo,bM,sP,b7]
def cL(P:Program)(O:bW)(ops:List Oper)(dst:Option Tmp)(rest:List Oper)(e:Env)(Q:Ex->Env->Prop):ORes->Prop| .val v=>∃e',e.put dst v=some e'/\Wo P O ops rest e' Q| .val' v s=>∃e',(e.setS s).put dst v=some e'/\Wo P O ops rest e' Q| .pan v s=>Q (.panic v) {e with s:=s}| .defer d=>∃e',(e.setDs (d::e.ds)).put dst .undef=some e'/\Wo P O ops rest e' Q| .recov=>match e.ro,e.r with|none,.pan v=>∃e',(e.setR (.recd v)).put dst v=some e'/\Wo P O ops rest e' Q|none,_=>∃e',e.put dst .nili=some e'/\Wo P O ops rest e' Q|some _,_=>False
@[congr] theorem a1k{ops:List Oper}{dst:Option Tmp}{rest:List Oper}{e:Env}{Q:Ex->Env->Prop}{r r':ORes}(h':r=r'):cL P O ops dst rest e Q r=cL P O ops dst rest e Q r':=by rw[h']
@[congr] theorem a1l{b:Code}{Q:Ex->Env->Prop}{x x':Ex}{e e':Env}(h:x=x')(h':e=e'):a1f P O b Q x e=a1f P O b Q x' e':=by rw[h,h']
@[congr] theorem aXg{i:Nat}{Q:Ex->Env->Prop}{x x':Ex}{e e':Env}(h:x=x')(h':e=e'):iP i Q x e=iP i Q x' e':=by rw[h,h']
theorem a1m{ops:List Oper}{e:Env}{Q:Ex->Env->Prop}:Wo P O ops [] e Q↔Q .normal e:=⟨λ⟨n,b,e',h,a⟩=>by simp[kQ]at h;obtain⟨rfl,rfl⟩:=h;exact a,λh=>⟨0,_,_,rfl,h⟩⟩
theorem aRn{ops:List Oper}{o:Oper}{rest:List Oper}{e:Env}{Q:Ex->Env->Prop}(C:dQ ops o e=some true):Wo P O ops (o::rest) e Q↔fP P O o.op e (cL P O ops o.dst rest e Q):=by
 have G:∀{n m:Nat},n<=m->∀{l:List Oper}{e:Env}{x:Ex × Env},kQ P (aU P O n) ops l e=some x->kQ P (aU P O m) ops l e=some x:=λh _ _ _ L=>OU (cY _ _ h) _ _ _ L;have H:∀{n m:Nat},n<=m->∀{r:ORes},kS P (aU P O n) o e=some r->kS P (aU P O m) o e=some r:=λh _ L=>mX (cY _ _ h) L;constructor;rintro⟨n,a,e',h,D⟩;simp only[kQ,C]at h;cases E:kS P (aU P O n) o e with|none=>rw[E]at h;cases h|some r=>rw[E]at h;refine⟨n,r,E,?_⟩;cases r with|val v=>{simp only at h;split at h<;>first|exact⟨_,h1,n,a,e',h,D⟩|cases h}|val' v s=>{simp only at h;split at h<;>first|exact⟨_,h1,n,a,e',h,D⟩|cases h}|pan v s=>simp at h;obtain⟨rfl,rfl⟩:=h;exact D|defer q=>{simp only at h;split at h<;>first|exact⟨_,h1,n,a,e',h,D⟩|cases h}|recov=>simp only at h;simp only[cL];split at h;rename_i b f;simp only[b,f];(split at h<;>first|exact⟨_,h1,n,a,e',h,D⟩|cases h);rename_i b f;have:∃e',e.put o.dst .nili=some e'/\Wo P O ops rest e' Q:=by{split at h<;>first|exact⟨_,h1,n,a,e',h,D⟩|cases h};rw[b];cases J:e.r with|pan v=>exact absurd J (f v)|_=>{exact this};cases h
 rintro⟨n,r,E,y⟩;have F:kS P (aU P O n) o e=some r:=E;have p:∀{m:Nat}{a:Ex}{B e':Env},kQ P (aU P O m) ops rest B=some (a,e')->Q a e'->(∀k,max n m=k->kS P (aU P O k) o e=some r->kQ P (aU P O k) ops rest B=some (a,e')->kQ P (aU P O k) ops (o::rest) e=some (a,e'))->Wo P O ops (o::rest) e Q:=λb f R=>⟨_,_,_,R _ rfl (H (b3 _ _) F) (G (c1 _ _) b),f⟩;cases r with|val v=>obtain⟨B,A,m,a,e',b,f⟩:=y;exact p b f λk _ u w=>by simp only[kQ,C,u,A,w]|val' v s=>obtain⟨B,A,m,a,e',b,f⟩:=y;exact p b f λk _ u w=>by simp only[kQ,C,u,A,w]|pan v s=>exact⟨n,_,_,by simp only[kQ,C,F],y⟩|defer q=>obtain⟨B,A,m,a,e',b,f⟩:=y;exact p b f λk _ u w=>by simp only[kQ,C,u,A,w]|recov=>simp only[cL]at y;split at y;rename_i M N;obtain⟨B,A,m,a,e',b,f⟩:=y;exact p b f λk _ u w=>by{simp only[kQ,C,u,M,N,A,w]};rename_i M N;obtain⟨B,A,m,a,e',b,f⟩:=y;refine p b f λk _ u w=>?_;simp only[kQ,C,u,M];cases J:e.r with|pan v=>exact absurd J (N v)|_=>{simp only[A,w]};exact y.elim
theorem SU{ops:List Oper}{o:Oper}{rest:List Oper}{e:Env}{Q:Ex->Env->Prop}(k:dQ ops o e=some false):Wo P O ops (o::rest) e Q↔∃e',e.put o.dst .undef=some e'/\Wo P O ops rest e' Q:=by constructor;rintro⟨n,a,e',h,b⟩;simp only[kQ,k]at h;split at h;rename_i f;exact⟨_,f,n,a,e',h,b⟩;cases h;rintro⟨l,f,n,a,e',h,b⟩;exact⟨n,a,e',by simp only[kQ,k,f,h],b⟩
theorem aXh{ops:List Oper}{dst:Option Tmp}{op:Op}{ty:TypeId}{pos:String}{after:Array Edge}{rest:List Oper}{e:Env}{Q:Ex->Env->Prop}: Wo P O ops ({dst:=dst,op:=op,type:=ty,pos:=pos,after:=after,guard:=none}::rest) e Q↔fP P O op e (cL P O ops dst rest e Q):=aRn rfl
def guardK(P:Program)(O:bW)(v:AV)(want:Bool)(op:Op)(ops:List Oper)(dst:Option Tmp)(rest:List Oper)(e:Env)(Q:Ex->Env->Prop):Prop:=match v with| .bool b=>(b=want->fP P O op e (cL P O ops dst rest e Q))/\(b = !want->cL P O ops dst rest e Q (.val .undef))| .tuple _=>cL P O ops dst rest e Q (.val .undef)|_=>False
section
variable {want:Bool} {op:Op} {ops:List Oper} {dst:Option Tmp} {rest:List Oper} {e:Env} {Q:Ex->Env->Prop}
@[congr] theorem aXi{v v':AV}(h:v=v'):guardK P O v want op ops dst rest e Q=guardK P O v' want op ops dst rest e Q:=by rw[h]
theorem _root_.Go.h2{p:Prop}(h:p:=by simp [guardK]):p:=h
theorem aJx:guardK P O (.bool true) true op ops dst rest e Q↔fP P O op e (cL P O ops dst rest e Q):=h2
theorem aJy:guardK P O (.bool true) false op ops dst rest e Q↔cL P O ops dst rest e Q (.val .undef):=h2
theorem aJz:guardK P O (.bool false) true op ops dst rest e Q↔cL P O ops dst rest e Q (.val .undef):=h2
theorem aKa:guardK P O (.bool false) false op ops dst rest e Q↔fP P O op e (cL P O ops dst rest e Q):=h2
theorem aKb{b:Bool}:guardK P O (.bool b) true op ops dst rest e Q↔(b=true->fP P O op e (cL P O ops dst rest e Q))/\(b=false->cL P O ops dst rest e Q (.val .undef)):=.rfl
theorem aKc{b:Bool}:guardK P O (.bool b) false op ops dst rest e Q↔(b=false->fP P O op e (cL P O ops dst rest e Q))/\(b=true->cL P O ops dst rest e Q (.val .undef)):=.rfl
theorem SV{l:List AV}:guardK P O (.tuple l) want op ops dst rest e Q↔cL P O ops dst rest e Q (.val .undef):=.rfl
end
def NH:List Oper->Nat->Option Nat|[],_=>none|o::_,0=>o.dst|_::l,n+1=>NH l n
theorem SW:∀(ops:List Oper)(j:Nat),NH ops j=ops[j]?.bind (·.dst)|[],_=>rfl|o::_,0=>rfl|_::l,n+1=>by simp only[NH,gc];exact SW l n
def aKd(t:Tr AV):Option Nat->AV|some d=>t.val d|none=>.tuple []
theorem aRo{ops:List Oper}{dst:Option Tmp}{op:Op}{ty:TypeId}{pos:String}{after:Array Edge}{j:Nat}{want:Bool}{rest:List Oper}{e:Env}{Q:Ex->Env->Prop}: Wo P O ops ({dst:=dst,op:=op,type:=ty,pos:=pos,after:=after,guard:=some (j,want)}::rest) e Q↔guardK P O (aKd e.t (NH ops j)) want op ops dst rest e Q:=by rw[SW];cases f:ops[j]?.bind (·.dst)with|none=>have a:dQ ops {dst:=dst,op:=op,type:=ty,pos:=pos,after:=after,guard:=some (j,want)} e=some false:=by{simp only[dQ];cases o:ops[j]? with|none=>rfl|some g=>rw[o]at f;simp only[dw]at f;simp only[f]};rw[SU a];rfl|some d=>show _↔guardK P O (e.t.val d) want op ops dst rest e Q;have a:dQ ops {dst:=dst,op:=op,type:=ty,pos:=pos,after:=after,guard:=some (j,want)} e=match e.t.get d with|some (.bool b)=>some (b==want)|some (.tuple _)=>some false|_=>none:=by{simp only[dQ];cases o:ops[j]? with|none=>rw[o]at f;cases f|some g=>rw[o]at f;simp only[dw]at f;simp only[f];cases e.t.get d with|none=>rfl|some v=>cases v<;>rfl};cases k:e.t.get d with|none=>have p:e.t.val d=.top:=by{simp[Tr.val,k]};rw[p];rw[k]at a;refine⟨λ⟨n,q,e',h,w⟩=>?_,λh=>h.elim⟩;simp only[kQ,a]at h;cases h|some v=>have p:e.t.val d=v:=by{simp[Tr.val,k]};rw[p];rw[k]at a;clear p k;cases v with|bool b=>{simp only at a;cases m:(b==want)with|true=>rw[m]at a;have:b=want:=by{simpa using m};subst this;rw[aRn a];simp[guardK]|false=>rw[m]at a;rw[SU a];have:b≠want:=by{simpa using m};have u:b = !want:=by{cases b<;>cases want<;>simp_all};simp[guardK,u];rfl}|tuple l=>rw[SU a];rfl|_=>exact⟨λ⟨n,q,e',h,w⟩=>by(simp only[kQ,a]at h;cases h),λh=>h.elim⟩
theorem DI{nt:Nat}{ro:Option Nat}{fn:FuncId}{t:Tr AV}{ds:List ADef}{s:Sto}{r:ARec}{d:Nat}{v:AV}{R:Env->Prop}(h:d<nt):(∃e',(Env.mk nt ro fn t ds s r).put (some d) v=some e'/\R e')↔R ⟨nt,ro,fn,t.set d v,ds,s,r⟩:=by
 have:(Env.mk nt ro fn t ds s r).put (some d) v=some ⟨nt,ro,fn,t.set d v,ds,s,r⟩:=by simp only[Env.put];have:Nat.blt d nt=true:=by{simpa using h};rw[this];rfl
 rw[this];simp
theorem DJ{e:Env}{v:AV}{R:Env->Prop}:(∃e',e.put none v=some e'/\R e')↔R e:=by simp[Env.put]
variable {nt:Nat} {ro:Option Nat} {fn:FuncId} {t:Tr AV} {ds:List ADef} {s:Sto} {r:ARec} {ops rest:List Oper} {Q:Ex->Env->Prop}
theorem aRp{d:Nat}{v:AV}(h:d<nt):cL P O ops (some d) rest ⟨nt,ro,fn,t,ds,s,r⟩ Q (.val v)↔Wo P O ops rest ⟨nt,ro,fn,t.set d v,ds,s,r⟩ Q:=DI h
theorem aKe{e:Env}{v:AV}:cL P O ops none rest e Q (.val v)↔Wo P O ops rest e Q:=DJ
theorem aKf{d:Nat}{v:AV}{s':Sto}(h:d<nt):cL P O ops (some d) rest ⟨nt,ro,fn,t,ds,s,r⟩ Q (.val' v s')↔Wo P O ops rest ⟨nt,ro,fn,t.set d v,ds,s',r⟩ Q:=DI h
theorem aCi{v:AV}{s':Sto}:cL P O ops none rest ⟨nt,ro,fn,t,ds,s,r⟩ Q (.val' v s')↔Wo P O ops rest ⟨nt,ro,fn,t,ds,s',r⟩ Q:=DJ
theorem aRq{dst:Option Tmp}{v:AV}{s':Sto}:cL P O ops dst rest ⟨nt,ro,fn,t,ds,s,r⟩ Q (.pan v s')↔Q (.panic v) ⟨nt,ro,fn,t,ds,s',r⟩:=.rfl
theorem sY{op:Op}{e:Env}{K:ORes->Prop}{r:Option ORes}(h:∀call,fR P call op e=r):fP P O op e K↔wH r K:=by constructor;rintro⟨n,x,a,b⟩;exact⟨x,by rw[<-a,h],b⟩;rintro⟨x,a,b⟩;exact⟨0,x,by rw[h,a],b⟩
theorem gS{op:Op}{e:Env}{K:ORes->Prop}{x:Option AV}(h:∀call,fR P call op e=valO x):fP P O op e K↔rF (x) K:=by rw[sY h];cases x<;>simp[valO,rF,wH]
theorem OV{op:Op}{e:Env}{K:ORes->Prop}{x:Option Sto}(h:∀call,fR P call op e=skipO x):fP P O op e K↔XG (x) K:=by rw[sY h];cases x<;>simp[skipO,XG,wH]
variable {e:Env} {K:ORes->Prop}
theorem aRr{x:Operand}:fP P O (.move x) e K↔K (.val (e.eval x)):=by rw[sY (r:=some (.val (e.eval x))) λ_=>rfl];simp[wH]
theorem aCj{x:Operand}:fP P O (.assign x) e K↔K (.val (e.eval x)):=by rw[sY (r:=some (.val (e.eval x))) λ_=>rfl];simp[wH]
def aGh(c a b:AV):Option AV:=match c with| .bool true=>some a| .bool false=>some b|_=>none
theorem aRs{c a b:Operand}:fP P O (.pick c a b) e K↔rF (aGh (e.eval c) (e.eval a) (e.eval b)) K:=by refine gS λcall=>?_;show fR P call (.pick c a b) e=_;simp only[fR,kS];cases h:e.eval c with|bool b=>cases b<;>rfl|_=>rfl
theorem aKg{op:BinOp}{ty a:TypeId}{x y:Operand}:fP P O (.binOp op ty x y a) e K↔rF (dC P op ty x y (e.eval x) (e.eval y)) K:=gS λ_=>rfl
theorem aRt{op:UnOp}{ty:TypeId}{x:Operand}:fP P O (.unOp op ty x) e K↔rF (aun op (e.eval x)) K:=gS λ_=>rfl
theorem aRu{ty:TypeId}{a:Operand}:fP P O (.load ty a) e K↔rF (gU P e.s ty (e.eval a)) K:=gS λ_=>rfl
theorem aKh{ty:TypeId}{a x:Operand}:fP P O (.store ty a x) e K↔XG (pK P e.s ty (e.eval a) (e.eval x)) K:=OV λ_=>rfl
theorem aKi{ty:TypeId}{x:Operand}{lo hi a:Option Operand}:fP P O (.slice ty x lo hi a) e K↔rF (iR P ty (e.eval x) (lo.map e.eval) (hi.map e.eval) (a.map e.eval)) K:=gS λ_=>rfl
theorem NI{ty:TypeId}{x:Operand}{f:Nat}:fP P O (.fieldAddr ty x f) e K↔rF (cM P ty (e.eval x) f) K:=gS λ_=>rfl
theorem aKj{ty:TypeId}{x:Operand}{f:Nat}:fP P O (.field ty x f) e K↔rF (tF P ty (e.eval x) f) K:=gS λ_=>rfl
theorem NJ{ty:TypeId}{x i:Operand}:fP P O (.indexAddr ty x i) e K↔rF (cN P ty (e.eval x) (e.eval i)) K:=gS λ_=>rfl
theorem aKk{ty:TypeId}{x i:Operand}:fP P O (.index ty x i) e K↔rF (vG P ty (e.eval x) (e.eval i)) K:=gS λ_=>rfl
theorem aCk{ty:TypeId}{m k:Operand}{ok:Bool}:fP P O (.lookup ty m k ok) e K↔rF (alookup P e.s ty (e.eval m) (e.eval k) ok) K:=gS λ_=>rfl
theorem NK{ty:TypeId}{m k x:Operand}:fP P O (.mapUpdate ty m k x) e K↔XG (gF P e.s ty (e.eval m) (e.eval k) (e.eval x)) K:=OV λ_=>rfl
theorem aKl{ty:TypeId}{a:Array (Nat × Operand)}:fP P O (.build ty a) e K↔rF (tE P ty (a.toList.map λp=>(p.1,e.eval p.2))) K:=gS λ_=>rfl
theorem XK{a dst:TypeId}{x:Operand}:fP P O (.convert a dst x) e K↔wH (mD P e.s a dst (e.eval x)) K:=sY λ_=>rfl
def zI:AV->Option AV| .ptr i g o=>some (.ptr i g o)| .pf v=>some (.pf v)| .func (.func f) a c=>some (.func (.func f) a c)| .iface t v=>some (.iface t v)|_=>none
theorem SX{x:Operand}:fP P O (.nilCheck x) e K↔rF (zI (e.eval x)) K:=by refine gS λcall=>?_;show fR P call (.nilCheck x) e=_;simp only[fR,kS];cases h:e.eval x with|func f a c=>cases f<;>rfl|_=>rfl
theorem SY{f:FuncId}{first cap:Array Operand}:fP P O (.makeFunc (.func f) first cap) e K↔K (.val (.func (.func f) (first.toList.map e.eval) (cap.toList.map e.eval))):=by rw[sY (r:=some (.val (.func (.func f) (first.toList.map e.eval) (cap.toList.map e.eval)))) λ_=>rfl];simp[wH]
theorem XL{x:Operand}{i:Nat}:fP P O (.extract x i) e K↔rF ((match e.eval x with| .tuple vs=>vs[i]?|_=>none)) K:=by refine gS λcall=>?_;show fR P call (.extract x i) e=_;simp only[fR,kS];cases h:e.eval x<;>rfl
theorem XM{b:Builtin}{args:Array Operand}{ts:Array TypeId}:fP P O (.call {callee:=.builtin b,args:=args,argTypes:=ts}) e K↔wH (abuiltin P e.s b ts (args.toList.map e.eval)) K:=sY λ_=>rfl
def ob(cs:List AV):AObj:=.cells 0 cs.length (Tr.leaf.lay 0 cs)
theorem uV{s:Sto}{cs:List AV}:rX s cs=if cs.all AV.isCell=true then some (s.n,s.push (ob cs))else none:=by unfold rX;cases cs.all AV.isCell<;>rfl
def AV.isTop:AV->Bool| .top=>true|_=>false
def aK(b:Bool)(A:Prop):Prop:=b=true/\A
theorem aXj{A:Prop}:aK true A↔A:=by simp[aK]
@[congr] theorem a4s{b b':Bool}{A:Prop}(h:b=b'):aK b A=aK b' A:=by rw[h]
def DK(v:AV)(s:Sto)(K:ORes->Prop):Prop:=v.isTop=false/\v.cells.all AV.isCell=true/\K (.val' (.ptr s.n 0 0) (s.push (ob v.cells)))
@[congr] theorem a1n{v v':AV}{s s':Sto}{K:ORes->Prop}(h:v=v')(h':s=s'):DK v s K=DK v' s' K:=by rw[h,h']
theorem aRv{l:List AV}{s:Sto}{K:ORes->Prop}:DK (.agg l) s K↔aK (l.all AV.isCell) (K (.val' (.ptr s.n 0 0) (s.push (ob l)))):=by simp[DK,AV.isTop,AV.cells,aK]
theorem aKm{v:AV}{s:Sto}{K:ORes->Prop}(h:v.isCell=true):DK v s K↔K (.val' (.ptr s.n 0 0) (s.push (ob [v]))):=by
 have a:v.isTop=false:=by cases v<;>first|rfl|cases h
 have b:v.cells=[v]:=by cases v<;>first|rfl|cases h
 simp[DK,a,b,h]
def mY(z:Option AV)(s:Sto)(K:ORes->Prop):Prop:=∃v,z=some v/\v.cells.all AV.isCell=true/\K (.val' (.ptr s.n 0 0) (s.push (ob v.cells)))
@[congr] theorem aXk{z z':Option AV}{s s':Sto}{K:ORes->Prop}(h:z=z')(h':s=s'):mY z s K=mY z' s' K:=by rw[h,h']
theorem aCl{l:List AV}{s:Sto}{K:ORes->Prop}:mY (some (.agg l)) s K↔aK (l.all AV.isCell) (K (.val' (.ptr s.n 0 0) (s.push (ob l)))):=by simp[mY,AV.cells,aK]
theorem XN{v:AV}{s:Sto}{K:ORes->Prop}(h:v.isCell=true):mY (some v) s K↔K (.val' (.ptr s.n 0 0) (s.push (ob [v]))):=by
 have a:v.cells=[v]:=by cases v<;>first|rfl|cases h
 simp[mY,a,h]
theorem OW{ty:TypeId}:fP P O (.alloc ty) e K↔mY (bN P ty) e.s K:=by rw[sY (r:=match bN P ty with|some z=>(match rX e.s z.cells with|some (id,s)=>some (.val' (.ptr id 0 0) s)|none=>none)|none=>none) λ_=>rfl];cases h:bN P ty with|none=>simp[wH,mY]|some z=>simp only[wH,mY,Ω,ag,uV];by_cases a:z.cells.all AV.isCell=true<;>simp[a]
theorem aGi{ty:TypeId}{x:Operand}:fP P O (.box ty x) e K↔DK (e.eval x) e.s K:=by
 have:∀call,fR P call (.box ty x) e=match e.eval x with| .top=>none|v=>(match rX e.s v.cells with|some (id,s)=>some (.val' (.ptr id 0 0) s)|none=>none):=λ_=>rfl;rw[sY this];generalize e.eval x=v;by_cases a:v=.top;subst a;simp[AV.isTop,DK,wH];have b:v.isTop=false:=by cases v<;>first|rfl|exact absurd rfl a
 have:(match v with| .top=>none|v=>(match rX e.s v.cells with|some (id,s)=>some (ORes.val' (.ptr id 0 0) s)|none=>none))=(match rX e.s v.cells with|some (id,s)=>some (ORes.val' (.ptr id 0 0) s)|none=>none):=by cases v<;>first|rfl|exact absurd rfl a
 rw[this,uV];by_cases f:v.cells.all AV.isCell=true<;>simp[f,DK,wH,b]
def callK(s:Sto)(K:ORes->Prop):CRes->Prop| .ret v none=>K (.val v)| .ret v (some s')=>K (.val' v s')| .pan v none=>K (.pan v s)| .pan v (some s')=>K (.pan v s')
theorem aKn{s:Sto}{v:AV}:callK s K (.ret v none)=K (.val v):=rfl
theorem aCm{s s':Sto}{v:AV}:callK s K (.ret v (some s'))=K (.val' v s'):=rfl
theorem aKo{s:Sto}{v:AV}:callK s K (.pan v none)=K (.pan v s):=rfl
theorem aCn{s s':Sto}{v:AV}:callK s K (.pan v (some s'))=K (.pan v s'):=rfl
theorem aRw{f:Operand}{args:Array Operand}{ts:Array TypeId}:fP P O (.call {callee:=.value f,args:=args,argTypes:=ts}) e K↔Wcall P O (e.eval f) (args.toList.map e.eval) e.s (callK e.s K):=by
 have k:∀n,fR P (aU P O n) (.call {callee:=.value f,args:=args,argTypes:=ts}) e=iT e.s (aU P O n (e.eval f) (args.toList.map e.eval) e.s .no):=λ_=>rfl;constructor;rintro⟨n,r,a,b⟩;rw[k]at a;cases l:aU P O n (e.eval f) (args.toList.map e.eval) e.s .no with|none=>rw[l]at a;cases a|some y=>obtain⟨res,m⟩:=y;rw[l]at a;refine⟨n,res,m,l,?_⟩;cases res with|ret v h=>cases h<;>simp[iT]at a<;>subst a<;>exact b|pan v h=>cases h<;>simp[iT]at a<;>subst a<;>exact b
 rintro⟨n,res,m,a,b⟩;cases res with|ret v h=>{cases h with|none=>exact⟨n,_,by rw[k,a];rfl,b⟩|some s'=>exact⟨n,_,by rw[k,a];rfl,b⟩}|pan v h=>cases h with|none=>exact⟨n,_,by rw[k,a];rfl,b⟩|some s'=>exact⟨n,_,by rw[k,a];rfl,b⟩
def KZ(o:Option CRes)(K:CRes->Prop)(R:Prop):Prop:=match o with|some r=>K r|none=>R
theorem aKp{c:CRes}{K:CRes->Prop}{R:Prop}:KZ (some c) K R=K c:=rfl
@[congr] theorem a1o{o o':Option CRes}{K:CRes->Prop}{R:Prop}(h:o=o'):KZ o K R=KZ o' K R:=by rw[h]
def aRx(P:Program)(O:bW)(a:AV)(args:List AV)(s:Sto)(K:CRes->Prop):Prop:=∃n res b,(match kF P s a args with|some (.fn f args)=>uD P (aU P O n) n f args s .no|some (.round l args)=>pM P (aU P O n) n l args s|none=>none)=some (res,b)/\K res
theorem dO{g:FuncId}{first cap args:List AV}{s:Sto}{K:CRes->Prop}: Wcall P O (.func (.func g) first cap) args s K↔KZ (O g (first++args++cap) s) K (aRx P O (.func (.func g) first cap) args s K):=by have f:FU O (.func (.func g) first cap) args s .no=O g (first++args++cap) s:=rfl;cases k:O g (first++args++cap) s with|some c=>simp only[KZ];constructor;rintro⟨n,res,l,a,b⟩;cases n with|zero=>cases a|succ n=>{simp only[aU,f,k]at a;simp at a;obtain⟨rfl,rfl⟩:=a;exact b};intro h;exact⟨1,c,.no,by simp only[aU,f,k],h⟩|none=>simp only[KZ];constructor;rintro⟨n,res,l,a,b⟩;cases n with|zero=>cases a|succ n=>{simp only[aU,f,k]at a;exact⟨n,res,l,a,b⟩};rintro⟨n,res,l,a,b⟩;exact⟨n+1,res,l,by simp only[aU,f,k];exact a,b⟩
end
abbrev iA:=FuncId × (List AV->Sto->Option CRes)
def aW:List iA->bW|[],_,_,_=>none|x::L,f,args,s=>bif Nat.beq x.1 f then x.2 args s else aW L f args s
theorem oG{f:FuncId}{F:List AV->Sto->Option CRes}{L:List iA}{args:List AV}{s:Sto}:aW ((f,F)::L) f args s=F args s:=by simp[aW]
theorem zJ{f g:FuncId}{F:List AV->Sto->Option CRes}{L:List iA}{args:List AV}{s:Sto}(h:g≠f):aW ((g,F)::L) f args s=aW L f args s:=by
 have:Nat.beq g f=false:=by cases a:Nat.beq g f with|false=>rfl|true=>exact absurd (bk a) h
 simp[aW,this]
def cH(P:Program)(x:iA):Prop:=∀args s res,x.2 args s=some res->bR P x.1 args s res
theorem mZ{P:Program}{L:List iA}(h:∀x∈L,cH P x):uW P (aW L):=by intro f args s res a;induction L with|nil=>cases a|cons x L l=>unfold aW at a;cases b:Nat.beq x.1 f with|true=>rw[b]at a;have:=h x (ψ ..) args s res a;rw[bk b]at this;exact this|false=>rw[b]at a;exact l (λx k=>h x (ν _ k)) a
theorem aF{P:Program}:∀x∈([]:List iA),cH P x:=λ_ h=>nomatch h
theorem elist_cons{P:Program}{x:iA}{L:List iA}(h:cH P x)(b:∀x∈L,cH P x):∀y∈x::L,cH P y:=λy a=>by rcases d8.1 a with rfl|a;exact h;exact b y a
