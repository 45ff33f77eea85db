/-.-/
import Derived.Test.YtafciejiffjknaaGreatEg
import Derived.OpenShut
import Derived.ChangeStays
namespace Go
abbrev cu:=@List.flatMap_append
abbrev di:=@List.range_succ
abbrev bj:=@List.drop_append_of_le_length
abbrev dw:=@List.take_append_of_le_length
abbrev fa:=@Nat.sub_self
abbrev fy:=@List.drop_eq_nil_of_le
abbrev ah:=@List.sum_cons
abbrev gf:=@List.length_range
abbrev gg:=@dif_pos
end Go
namespace Go.Abs
noncomputable section
def sigW(W:World):Sg:=⟨λb off=>W.cell? ⟨b,off,none⟩,λ_ _=>none⟩
def yG(k:Option Nat)(cs:List AV):AV:=match k with|some _=>.agg cs|none=>cs.headD .top
theorem HX{k:Option Nat}{cs:List AV}(b:cs.length=nN k)(a:cs.all AV.isCell=true):(yG k cs).cells=cs:=by cases k with|some n=>rfl|none=>obtain⟨v,rfl⟩:=ey.1 b;simp only[yG,List.headD_cons];have:v.isCell=true:=by{simpa using a};cases v<;>first|rfl|cases this
def jN(P:Program):Nat->TypeId->List AV->Prop|0,_,_=>False|d+1,t,as=>match P.underlying t with|some .bool=>∃b,as=[.bool b]|some (.int k)=>∃n,as=[.int k n]/\(Lit.int k n).wf=true|some .string=>∃l,as=[.str l]/\l.length<=9223372036854775807/\∀x∈l,x<256|some (.slice e)=>∃k,tyK P e=some k/\(as=[.nils]∨∃(xs:List (List AV)) (c:Bool),as=[.fz (xs.map (yG k)) c]/\xs.length<=9223372036854775807/\∀x∈xs,jN P d e x/\x.length=nN k/\x.all AV.isCell=true)|some (.struct fs)=>∀f∈fs.toList,∃k,tyK P f.type=some k/\jN P d f.type (aQ as f.offset (nN k))|some (.array n e)=>∃k,tyK P e=some k/\∀i,i<n->jN P d e (aQ as (i*nN k) (nN k))|_=>False
def yH(P:Program):Nat->List Field->Option Nat|off,[]=>some off|off,f::l=>match tyK P f.type with|some k=>bif Nat.beq f.offset off&&Nat.beq (P.cellsOf f.type) (nN k)then yH P (off+nN k) l else none|none=>none
theorem aNc{α β:Type}{f:α->Option β}:∀(l:List α)(c:List β),l.mapM f=some c->c.length=l.length/\∀(i:Nat) x,l[i]?=some x->∃y,c[i]?=some y/\f x=some y:=by intro l;induction l with|nil=>intro c h;simp at h;subst h;simp|cons a l q=>intro c h;rw[gs]at h;cases d:f a with|none=>rw[d]at h;simp at h|some b=>rw[d]at h;cases e:l.mapM f with|none=>rw[e]at h;simp at h|some m=>rw[e]at h;simp at h;subst h;obtain⟨o,p⟩:=q m e;refine⟨by simp[o],λi x k=>?_⟩;cases i with|zero=>simp at k;subst k;exact⟨b,rfl,d⟩|succ i=>simpa using p i x (by simpa using k)
theorem MG{W:World}{base:Nat}{a:Addr}{n:Nat}{cs:List Value}(h:W.cells? base a n=some cs):cs.length=n/\∀i,i<n->W.cell? (a.add i)=cs[i]?:=by unfold World.cells? at h;split at h;obtain⟨b,c⟩:=aNc _ _ h;rw[gf]at b;refine⟨b,λi f=>?_⟩;obtain⟨y,d,e⟩:=c i i (by simp[f]);rw[e,d];cases h
theorem aNd{W:World}{a:Addr}{V:Value}(h:W.cell? a=some V):a=⟨a.block,a.off,none⟩:=by
 unfold World.cell? at h;split at h;split at h;cases h;rename_i c;obtain⟨b,o,s⟩:=a;cases s with|none=>rfl|some s=>simp at c
 cases h
theorem aUr(b o n:Nat):(⟨b,o,none⟩:Addr).add n=⟨b,o+n,none⟩:=by unfold Addr.add;split;rename_i h;subst h;rfl;rfl
theorem YV{α β:Type}[Inhabited α]{Q:Nat->α->β->Prop}{n:Nat}(h:∀i,i<n->∃x y,Q i x y):∃g:Nat->α,∀i,i<n->∃y,Q i (g i) y:=by classical refine⟨λi=>if a:i<n then(h i a).choose else default,λi a=>?_⟩;simp only[a,gg];exact(h i a).choose_spec
theorem im{σ:Sg}{k:Nat}{cs:List Value}(g:Nat->List AV):∀(n:Nat),(∀i,i<n->VRs σ (g i) ((cs.drop (i*k)).take k))->(∀i,i<n->(g i).length=k)->n*k<=cs.length-> VRs σ ((List.range n).flatMap g) (cs.take (n*k))/\∀i,i<n->aQ ((List.range n).flatMap g) (i*k) k=g i:=by intro n;induction n with|zero=>intro _ _ _;exact⟨by simpa using VRs.nil σ,λi b=>iu⟩|succ n p=>intro h e m;rw[aq]at m;obtain⟨d,f⟩:=p (λi b=>h i iu) (λi b=>e i iu) iu;have a:((List.range n).flatMap g).length=n*k:=by{have:=d.1;rw[this];simp;omega};have o:(List.range (n+1)).flatMap g=(List.range n).flatMap g++g n:=by{rw[di,cu];simp};rw[o];refine⟨?_,λi b=>?_⟩;have:=d.append (h n iu);rw[aq];have l:cs.take (n*k)++(cs.drop (n*k)).take k=cs.take (n*k+k):=by{rw[List.take_add]};rw[<-l];exact this;rcases bn.1 b with c|rfl;have:(i+1)*k<=n*k:=bx k iu;rw[aq]at this;rw[<-f i c];simp only[aQ];rw[bj iu,dw (by rw[d8,a];omega)];simp only[aQ];rw[bj iu,<-a,b6,c0,<-e i iu,ct]
theorem ii{P:Program}{σ:Sg}{cs:List Value}(Q:Field->List AV->Prop):∀(fs:List Field)(off N:Nat),yH P off fs=some N->N=cs.length->(∀f∈fs,∃as,VRs σ as ((cs.drop f.offset).take (P.cellsOf f.type))/\as.all AV.isCell=true/\Q f as)->∃as,VRs σ as (cs.drop off)/\as.all AV.isCell=true/\off<=N/\∀f∈fs,∃k,tyK P f.type=some k/\off<=f.offset/\Q f (aQ as (f.offset-off) (nN k)):=by intro fs;induction fs with|nil=>intro off N h l _;simp only[yH,Φ]at h;subst h;exact⟨[],by rw[l,b6];exact VRs.nil σ,rfl,δ _,iw⟩|cons f fs A=>intro off N h l q;simp only[yH]at h;split at h;rename_i k y;cases d:(Nat.beq f.offset off&&Nat.beq (P.cellsOf f.type) (nN k))with|false=>rw[d]at h;cases h|true=>{rw[d]at h;simp only[b5]at h;simp only[ε]at d;have p:=bl d.1;have r:=bl d.2;obtain⟨e,u,v,F,w⟩:=A (off+nN k) N h l λb a=>q b (ν _ a);obtain⟨as,o,B,C⟩:=q f (χ ..);rw[p,r]at o;have c:as.length=nN k:=by{have:=o.1;rw[this];simp;omega};refine⟨as++e,?_,by simp only[d0,B,v,bp],iu,λb a=>?_⟩;have:=o.append u;rw[show cs.drop (off+nN k)=(cs.drop off).drop (nN k) by rw[List.drop_drop],eo]at this;exact this;rcases cp.1 a with rfl|a;refine⟨k,y,iu,?_⟩;rw[p,fa,<-c];simp only[aQ,c9,List.take_left'];exact C;obtain⟨m,D,G,E⟩:=w b a;refine⟨m,D,iu,?_⟩;have:aQ (as++e) (b.offset-off) (nN m)=aQ e (b.offset-(off+nN k)) (nN m):=by{simp only[aQ];rw[List.drop_append,fy iu,c0,c];congr 2;omega};rw[this];exact E};cases h
end
end Go.Abs
namespace Go.Abs
open Go.ChangeShapes
noncomputable section
theorem YW{P:Program}:∀(fs:List Field)(off N:Nat),yH P off fs=some N-> N=off+(fs.map λf=>P.cellsOf f.type).sum/\∀(j:Nat) f,fs[j]?=some f->f.offset=off+((fs.take j).map λf=>P.cellsOf f.type).sum:=by intro fs;induction fs with|nil=>intro off N h;simp only[yH,Φ]at h;subst h;simp|cons f fs l=>intro off N h;simp only[yH]at h;split at h;rename_i k p;cases b:(Nat.beq f.offset off&&Nat.beq (P.cellsOf f.type) (nN k))with|false=>rw[b]at h;cases h|true=>{rw[b]at h;simp only[b5]at h;simp only[ε]at b;have c:=bl b.1;have m:=bl b.2;obtain⟨o,e⟩:=l _ _ h;refine⟨by simp only[ci,ah];omega,λj d a=>?_⟩;cases j with|zero=>simp at a;subst a;simp[c]|succ j=>have:=e j d (by simpa using a);simp only[ak,ci,ah];omega};cases h
section
variable {P:Program} {H:Type} {enc:TypeId × Value->H} {W W':World}
end
end
end Go.Abs
namespace Go.Abs
noncomputable section
variable {P:Program} {O:Orc}
def Lv(P:Program)(O:Orc)(fn:Func)(a:Option AV)(e:Env)(R:LRes->Env->Prop):Prop:=∃n b e',dleave P (aT P O n) fn n a e=some (b,e')/\R b e'
def WcallR(P:Program)(O:Orc)(a:AV)(args:List AV)(s:Sto)(r:ARec)(K:CRes->ARec->Prop):Prop:=∃n res rr,aT P O n a args s r=some (res,rr)/\K res rr
theorem mR{fn:Func}{e:Env}{R:LRes->Env->Prop}(a:e.ds=[]){vs:List AV}(b:bA P e fn.results.toList=some vs)(h:R (.ret (uD vs)) e):Lv P O fn none e R:=by refine⟨1,.ret (uD vs),e,?_,h⟩;simp only[dleave,a,b];match vs with|[]=>rfl|[v]=>rfl|_::_::_=>rfl
theorem aEy{fn:Func}{e:Env}{R:LRes->Env->Prop}{v:AV}(a:e.ds=[])(h:R (.pan v) e):Lv P O fn (some v) e R:=⟨1,.pan v,e,by simp only[dleave,a],h⟩
theorem bBv{fn:Func}{n m:Nat}(h:n<=m){a:Option AV}{e:Env}{x:LRes × Env}(b:dleave P (aT P O n) fn n a e=some x):dleave P (aT P O m) fn m a e=some x:=jR (dI n m h) n m a e x h b
theorem a2a{fn:Func}{a:Option AV}{e:Env}{R:LRes->Env->Prop}{id:Nat}{ds l:List ADef}(d:e.ds=.collected id::ds)(f:e.s.get id=some (.defs (some l)))(h:Lv P O fn a {e with ds:=l++ds,s:=e.s.put id (.defs none)} R):Lv P O fn a e R:=by obtain⟨n,k,e',b,c⟩:=h;refine⟨n+1,k,e',?_,c⟩;simp only[dleave,d,f];exact jR (dI n (n+1) iu) n n _ _ _ (δ n) b
theorem a2b{fn:Func}{e:Env}{R:LRes->Env->Prop}{b:AV}{args:List AV}{ds:List ADef}(o:e.ds=.call b args::ds)(p:vX b=false)(h:WcallR P O b args e.s .no λres q=>q=.no/\match res with| .ret _ a=>Lv P O fn none {e with ds:=ds,s:=a.getD e.s} R| .pan v a=>Lv P O fn (some v) {e with ds:=ds,s:=a.getD e.s} R):Lv P O fn none e R:=by obtain⟨n,res,q,k,rfl,l⟩:=h;cases res with|ret v a=>obtain⟨m,f,e',c,d⟩:=l;refine⟨max n m+1,f,e',?_,d⟩;simp only[dleave,o,p,cd,dI n (max n m+1) iu _ _ _ _ _ k];have:=jR (dI m (max n m+1) iu) m (max n m) _ _ _ iu c;cases a<;>exact this|pan v a=>obtain⟨m,f,e',c,d⟩:=l;refine⟨max n m+1,f,e',?_,d⟩;simp only[dleave,o,p,cd,dI n (max n m+1) iu _ _ _ _ _ k];have:=jR (dI m (max n m+1) iu) m (max n m) _ _ _ iu c;cases a<;>exact this
theorem aUs{fn:Func}{e:Env}{R:LRes->Env->Prop}{c p:AV}{args:List AV}{ds:List ADef}(r:e.ds=.call c args::ds)(u:vX c=false)(h:WcallR P O c args e.s (.pan p) λres l=>match res,l with| .ret _ a,.recd _=>Lv P O fn none {e with ds:=ds,s:=a.getD e.s} R| .ret _ a,.pan w=>Lv P O fn (some w) {e with ds:=ds,s:=a.getD e.s} R|_,_=>False):Lv P O fn (some p) e R:=by obtain⟨n,res,l,o,b⟩:=h;cases res with|ret v a=>{cases l with|no=>exact b.elim|recd q=>obtain⟨m,k,e',d,f⟩:=b;refine⟨max n m+1,k,e',?_,f⟩;simp only[dleave,r,u,cd,dI n (max n m+1) iu _ _ _ _ _ o];have:=jR (dI m (max n m+1) iu) m (max n m) _ _ _ iu d;cases a<;>exact this|pan q=>obtain⟨m,k,e',d,f⟩:=b;refine⟨max n m+1,k,e',?_,f⟩;simp only[dleave,r,u,cd,dI n (max n m+1) iu _ _ _ _ _ o];have:=jR (dI m (max n m+1) iu) m (max n m) _ _ _ iu d;cases a<;>exact this}|pan v a=>exact b.elim
def aJo(P:Program)(O:Orc)(fn:Func)(R:LRes->Env->Prop):Ex->Env->Prop| .normal,e=>Lv P O fn none e R| .ret,e=>Lv P O fn none e R| .panic v,e=>Lv P O fn (some v) e R|_,_=>False
def a2c(s:Sto)(res:CRes)(b:LRes)(e:Env):Prop:=e.r=.no/\match b,res with| .ret v,.ret v' a=>kK s e.s v v' a| .pan v,.pan v' a=>kK s e.s v v' a|_,_=>False
theorem aUt(E:lN P O){f:FuncId}{fn:Func}{c:Code}{args:List AV}{s:Sto}{res:CRes}(R:okFn P f=true)(U:P.funcs[f]?=some fn)(hb:fn.body=some c)(h:W P O c (MQ fn f args s) (aJo P O fn (a2c s res))):bY P f args s res:=by
 obtain⟨n0,ex,e,hc,F⟩:=h;refine⟨R,fn,U,λσ w A kd stk m b ha C S=>?_⟩;have p:Rel σ {s with low:=s.n} w:=b.low rfl rfl;have he:ER σ {(default:Frame)with fn:=f,kind:=kd} (MQ fn f args s) {tmps:=A++Array.replicate (fn.ntmps-A.size) undef,defers:=[]} m:=⟨NA ha _,.nil,S,rfl,rfl⟩;have l:Frame.enter P f A kd=({(default:Frame)with fn:=f,kind:=kd}:Frame).atR {tmps:=A++Array.replicate (fn.ntmps-A.size) undef,defers:=[]} [.code c]:=by simp[Frame.enter,Frame.atR,U,hb];rfl
 rw[l];have a:∀{d:LRes}{e':Env}{M:Machine},LeftE P σ {s with low:=s.n} w M {(default:Frame)with fn:=f,kind:=kd} stk fn d e'->a2c s res d e'->a8g P σ s w kd f fn stk M res:=by rintro d e' M ⟨τ,D,q,w',todo,q1,X,Y,Z⟩ ⟨hr,k⟩;have B:∀ρ,RM ρ kd .no q:=λρ=>by{have:=q1.rc;rw[hr]at this;cases this with|normal m=>exact .normal _|quiet=>exact .quiet};cases d with|ret v=>{cases res with|ret v' T=>obtain⟨ρ,G,J⟩:=k σ τ w w' b X;obtain⟨V,L,N,g4⟩:=Z;exact⟨ρ,V,w',_,q,J V L,G,B ρ,g4,rfl,Y,rfl,rfl,N⟩|pan v' T=>exact k.elim}|pan v=>cases res with|ret v' T=>exact k.elim|pan v' T=>obtain⟨ρ,G,J⟩:=k σ τ w w' b X;obtain⟨V,L,N⟩:=Z;exact⟨ρ,V,w',_,q,J V L,G,B ρ,N,rfl,Y,rfl,rfl⟩
 obtain⟨τ,D,q,w',Q,r,o⟩:=kU (rR E n0).1 (zV n0) n0 c σ w _ stk [] _ _ m _ _ C hc p he;cases ex with|normal=>obtain⟨n,d,e',y,u⟩:=F;exact a ((qV (rR E n).2 (todo:=[]) n none e d e' τ w' D q .returning y r.rel Q .ret).of (c4 o (.one (stepR_end rfl))) r) u|ret=>obtain⟨n,d,e',y,u⟩:=F;obtain⟨k₁,o⟩:=o;exact a ((qV (rR E n).2 n none e d e' τ w' D q .returning y r.rel Q .ret).of (c4 o (.one (stepR_ret rfl))) r) u|panic v=>obtain⟨n,d,e',y,u⟩:=F;obtain⟨V,todo,hV,o⟩:=o;exact a ((qV (rR E n).2 n (some v) e d e' τ w' D q _ y r.rel Q (.pan v V hV)).of o r) u|_=>exact F.elim
def MH(fn:Func)(f:FuncId)(args:List AV)(s:Sto)(r:ARec):Env:=⟨Nat.max args.length fn.ntmps,none,f,Tr.leaf.lay 0 args,[],{s with low:=s.n},r⟩
def clR(s:Sto)(K:CRes->ARec->Prop)(a:LRes)(e:Env):Prop:=match a with| .ret v=>K (.ret v (eN s v e)) e.r| .pan v=>K (.pan v (eN s v e)) e.r
theorem BT{g:FuncId}{first cap args:List AV}{s:Sto}{r:ARec}{K:CRes->ARec->Prop}{fn:Func}{c:Code}(J:GP O (.func (.func g) first cap) args s r=none)(u:okFn P g=true)(F:P.funcs[g]?=some fn)(D:fn.body=some c)(h:W P O c (MH fn g (first++args++cap) s r) (aJo P O fn (clR s K))):WcallR P O (.func (.func g) first cap) args s r K:=by
 obtain⟨n,l,e,E,o⟩:=h;have k:∀a,(∀m,n<=m->∀x,dleave P (aT P O m) fn m a e=some x->uL P (aT P O m) m g (first++args++cap) s r=GO s (some x))->Lv P O fn a e (clR s K)->WcallR P O (.func (.func g) first cap) args s r K:=by rintro a q ⟨m,w,e',G,B⟩;have C:=q (max n m) (c3 _ _) (w,e') (bBv (et _ _) G);have A:∀res y,GO s (some (w,e'))=some (res,y)->aT P O (max n m+1) (.func (.func g) first cap) args s r=some (res,y):=by{intro res y f;simp only[aT,J,kB];rw[C,f]};cases w with|ret v=>exact⟨_,_,_,A _ _ rfl,B⟩|pan v=>exact⟨_,_,_,A _ _ rfl,B⟩
 have b:∀m,n<=m->uL P (aT P O m) m g (first++args++cap) s r=match(l,e)with|(.normal,e)=>GO s (dleave P (aT P O m) fn m none e)|(.ret,e)=>GO s (dleave P (aT P O m) fn m none e)|(.panic v,e)=>GO s (dleave P (aT P O m) fn m (some v) e)|_=>none:=by intro m d;have p:bN P (aT P O m) m c {nt:=Nat.max (first++args++cap).length fn.ntmps,ro:=none,fn:=g,t:=Tr.leaf.lay 0 (first++args++cap),ds:=[],s:={s with low:=s.n},r:=r}= some (l,e):=sM d E;simp only[uL,u,b5,F,D,p];cases l<;>rfl
 cases l with|normal=>exact k none (λm d x f=>by rw[b m d];simp only[f]) o|ret=>exact k none (λm d x f=>by rw[b m d];simp only[f]) o|panic v=>exact k (some v) (λm d x f=>by rw[b m d];simp only[f]) o|_=>exact o.elim
theorem WcallR.call{a:AV}{args:List AV}{s:Sto}{K:CRes->Prop}(h:WcallR P O a args s .no λres _=>K res):Wcall P O a args s K:=h
theorem nU{g:FuncId}{first cap args:List AV}{s:Sto}{K:CRes->Prop}{fn:Func}{c:Code}(e:O g (first++args++cap) s=none)(a:okFn P g=true)(d:P.funcs[g]?=some fn)(b:fn.body=some c)(h:W P O c (MH fn g (first++args++cap) s .no) (aJo P O fn (clR s λres _=>K res))):Wcall P O (.func (.func g) first cap) args s K:=(BT (r:=.no) (by simpa[GP]using e) a d b h).call
theorem mA{s:Sto}{v:AV}{e:Env}(h:e.s.low<s.n):eN s v e=some {e.s with low:=Nat.min s.low e.s.low}:=by
 have:Nat.ble s.n e.s.low=false:=by cases a:Nat.ble s.n e.s.low with|false=>rfl|true=>have:=av a;omega
 simp[eN,this]
theorem sJ{s:Sto}{v:AV}{e:Env}(h:s.n<=e.s.low)(b:v.under s.n 100=true)(a:e.r=.no):eN s v e=none:=by
 have:Nat.ble s.n e.s.low=true:=by simpa using h
 simp[eN,this,b,a,NR]
