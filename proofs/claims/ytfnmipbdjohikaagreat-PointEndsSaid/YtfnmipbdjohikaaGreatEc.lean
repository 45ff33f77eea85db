/- Lemmas. -/
import Derived.Test.YtfnmipbdjohikaaGreatEa
import Derived.IntWalk
set_option linter.unusedVariables false
namespace Go
abbrev c0:=@List.all_cons
abbrev de:=@List.all_nil
abbrev d4:=@List.length_set
abbrev ap:=@Nat.succ_mul
abbrev bl:=@Bool.and_self
abbrev bp:=@List.mem_singleton
abbrev aq:=@Nat.le_of_ble_eq_true
abbrev ep:=@List.ext_getElem?
abbrev e2:=@List.getElem?_set
abbrev ah:=@Nat.ne_of_beq_eq_false
abbrev fA:=@List.take_succ_cons
end Go
namespace Go.Abs
noncomputable section
def pI(s S:Sto)(v v':AV)(c:Option Sto):Prop:=∀(σ τ:Sg)(w w':World),Rel σ s w->Stp σ {s with low:=s.n} w τ S w'->∃ρ,CStp σ s w ρ c w'/\∀V,VR τ v V->VR ρ v' V
def Und(n:Nat)(v:AV):Prop:=∀(σ:Sg) V,VR σ v V->VR (σ.cut n) v V
theorem aWv{n:Nat}:Und n .top:=λ_ V _=>.top V
theorem aJ{n:Nat}{b:Bool}:Und n (.bool b):=λ_ _ h=>by cases h;exact .bool b
theorem aQ{n:Nat}{k:IntKind}{x:Int}:Und n (.int k x):=λ_ _ h=>by cases h;exact .int k x
theorem eG{n:Nat}{l:List Nat}:Und n (.str l):=λ_ _ h=>by cases h;rename_i c;exact .str _ _ c
theorem eM{n:Nat}:Und n .nils:=λ_ _ h=>by cases h;exact .nils
theorem WX{n:Nat}:Und n .nilp:=λ_ _ h=>by cases h;exact .nilp
theorem aQv{n:Nat}:Und n .nilm:=λ_ _ h=>by cases h;exact .nilm
theorem aQw{n:Nat}:Und n .nilf:=λ_ _ h=>by cases h;exact .nilf
theorem aJt{n:Nat}{t:TypeId}{v:AV}(h:Und n v):Und n (.iface t v):=λσ _ d=>by cases d with|iface _ _ V c=>exact .iface _ _ _ (h σ V c)
theorem IH{n:Nat}{l:List AV}(h:∀x∈l,Und n x):Und n (.agg l):=λσ _ m=>by cases m with|agg _ o f e=>exact .agg _ _ f λi x X c d=>h x (Ψ c) σ X (e i x X c d)
theorem cI{n:Nat}{l:List AV}(h:∀x∈l,Und n x):Und n (.tuple l):=λσ _ m=>by cases m with|tuple _ o f e=>exact .tuple _ _ f λi x X c d=>h x (Ψ c) σ X (e i x X c d)
theorem a1e{n:Nat}{l:List AV}{c:Bool}(h:∀x∈l,∀y∈x.cells,Und n y):Und n (.fz l c):=λσ _ v=>by cases v with|fz _ _ a C b off k m o p q r u=>exact .fz _ _ _ _ _ _ _ m o p q (λi j x y V d e f=>h x (Ψ d) y (Ψ e) σ V (r i j x y V d e f)) u
theorem aBy{n:Nat}{v:AV}(h:∀y∈v.cells,Und n y):Und n (.pf v):=λσ _ m=>by cases m with|pf _ b off f l=>exact .pf _ _ _ (λi c V d e=>h c (Ψ d) σ V (f i c V d e)) l
theorem aE{n:Nat}:∀x∈([]:List AV),Und n x:=λ_ h=>nomatch h
theorem aA{n:Nat}{a:AV}{l:List AV}(h:Und n a)(d:∀x∈l,Und n x):∀x∈a::l,Und n x:=λx c=>by rcases d8.1 c with rfl|c;exact h;exact d x c
theorem Und.cells{n:Nat}{v:AV}(h:∀y∈v.cells,Und n y)(c:∀l,v≠.tuple l):Und n v:=by cases v with|agg l=>exact IH h|_=>exact h _ (bp.2 rfl)
theorem WY{σ τ:Sg}{s S:Sto}{w w':World}(h:Rel σ s w)(e:Stp σ {s with low:=s.n} w τ S w')(B:s.n<=S.low):(τ.cut s.n).s=σ.s/\Quiet w w'/\σ.le (τ.cut s.n)/\(∀b off V,τ.m b off=some V->σ.m b off=some V∨(w.heap.size<=b/\w'.cell? ⟨b,off,none⟩=some V))/\(∀id x b base sz,s.n<=id->S.get id=some x->τ id (eP x)=some (b,base,sz)->w.heap.size<=b):=by
 have f:(τ.cut s.n).s=σ.s:=by funext id g;simp only[Sg.cut];split;rename_i c;exact(e.keep id c il).2.1 g;rename_i c;cases C:σ id g with|none=>rfl|some y=>exact absurd (h.bnd id g y C) c
 refine⟨f,⟨e.size,λb r=>?_,e.os,e.out,e.tape⟩,⟨λid g x u=>by rw[f];exact u,e.ext.m⟩,λb off V v=>?_,λid x b base sz c u r=>?_⟩;by_cases A:Has σ s b;obtain⟨id,x,base,sz,d,o⟩:=A;have c:=g9 d;exact(e.keep id c il).2.2 x b base sz d o;exact e.frame b r A;have q:=e.rel.mu b off V v;rcases e.mnew b off V v with d|⟨id,x,base,sz,d,o⟩|d;exact .inl d;exfalso;have c:id<s.n:=g9 d;obtain⟨k1,k2,_⟩:=e.keep id c il;exact q.2 ⟨id,x,base,sz,by rw[k1];exact d,by rw[k2];exact o⟩;exact .inr ⟨d,q.1⟩;rcases e.own b ⟨id,x,base,sz,u,r⟩with⟨l,D,base',sz',d,o⟩|d;exfalso;have p:l<s.n:=g9 d;obtain⟨k1,k2,_⟩:=e.keep l p il;have:=e.rel.inj id x l D b base sz base' sz' u (by rw[k1];exact d) r (by rw[k2];exact o);omega
 exact d
theorem cJ{s S:Sto}{v:AV}(c:s.n<=S.low)(p:Und s.n v):pI s S v v none:=by intro σ τ w w' h o;obtain⟨d,e,f,l,_⟩:=WY h o c;exact⟨τ.cut s.n,⟨e,f,d,l⟩,λV m=>p τ V m⟩
theorem GX{s S:Sto}{v:AV}:pI s S v v (some {S with low:=Nat.min s.low S.low}):=by intro σ τ w w' h c;refine⟨τ,?_,λV f=>f⟩;exact⟨c.rel.low rfl rfl,c.ext,c.size,c.frame,c.own,c.sn,dc _ _,λid d e=>c.keep id d (du e (di _ _)),c.os,c.out,c.tape,c.hole,c.mnew⟩
inductive Frz (S:Sto) (n:Nat):AV->AV->Prop
 | und (v:AV):Und n v->Frz S n v v
 | agg (l l':List AV):l.length=l'.length->(∀ (i:Nat) x y,l[i]?=some x->l'[i]?=some y->Frz S n x y)->Frz S n (.agg l) (.agg l')
 | tuple (l l':List AV):l.length=l'.length->(∀ (i:Nat) x y,l[i]?=some x->l'[i]?=some y->Frz S n x y)->Frz S n (.tuple l) (.tuple l')
 | sl (id g off len:Nat) (cap:ACap) (m k:Nat) (c:Tr AV) (l:List AV) (a:Nat->Nat->AV):n<=id->S.get id=some (.cells g m c)->l.length=len->off+len*k<=m->(∀ x∈l,x.cells.length=k)->
  (∀ (i j:Nat) x y,l[i]?=some x->x.cells[j]?=some y->c.get (off+i*k+j)=some (a i j))->(∀ (i j:Nat) x y,l[i]?=some x->x.cells[j]?=some y->Frz S n (a i j) y)->Frz S n (.sl id g off len cap) (.fz l false)
 | ptr (id g off m:Nat) (c:Tr AV) (v:AV) (a:Nat->AV):n<=id->S.get id=some (.cells g m c)->off+v.cells.length<=m->(∀ (j:Nat) y,v.cells[j]?=some y->c.get (off+j)=some (a j))->(∀ (j:Nat) y,v.cells[j]?=some y->Frz S n (a j) y)->Frz S n (.ptr id g off) (.pf v)
 | func (f:FuncId) (a a' c c':List AV):a.length=a'.length->c.length=c'.length->(∀ (i:Nat) x y,a[i]?=some x->a'[i]?=some y->Frz S n x y)->(∀ (i:Nat) x y,c[i]?=some x->c'[i]?=some y->Frz S n x y)->Frz S n (.func (.func f) a c) (.func (.func f) a' c')
theorem uQ{s S:Sto}{v v':AV}(ad:s.n<=S.low)(hf:Frz S s.n v v'):pI s S v v' none:=by
 intro σ τ w w' h hs;obtain⟨h1,h2,h3,h4,h5⟩:=WY h hs ad;let M:Nat->Nat->Option Value:=λb off=>match τ.m b off with|some V=>some V|none=>if w.heap.size<=b then w'.cell? ⟨b,off,none⟩else none;have hM:∀b off V,τ.m b off=some V->M b off=some V:=λb off V p=>by simp[M,p]
 have G:∀b off,w.heap.size<=b->M b off=w'.cell? ⟨b,off,none⟩:=λb off H=>by simp only[M];cases hc:τ.m b off with|some V=>simp only;exact(hs.rel.mu b off V hc).1.symm|none=>simp[H]
 let ρ:Sg:=⟨M,(τ.cut s.n).s⟩;have ab:(τ.cut s.n).le ρ:=⟨λ_ _ _ h=>h,hM⟩;refine⟨ρ,⟨h2,Sg.le_trans h3 ab,h1,λb off V p=>?_⟩,?_⟩;have r:M b off=some V:=p;simp only[M]at r;split at r;rename_i W hW;cases r;exact h4 b off _ hW;split at r;rename_i H;exact .inr ⟨H,r⟩;cases r;induction hf with|und v hu=>exact λV p=>(hu τ V p).mono ab|agg l l' N _ Q=>{intro V p;cases p with|agg _ ys D q=>refine .agg _ _ (by rw[<-N];exact D) λi y Y e B=>?_;have hi:i<l.length:=by{rw[N];exact(ζ.1 e).1};exact Q i l[i] y (δ hi) e Y (q i _ Y (δ hi) B)}|tuple l l' N _ Q=>{intro V p;cases p with|tuple _ ys D q=>refine .tuple _ _ (by rw[<-N];exact D) λi y Y e B=>?_;have hi:i<l.length:=by{rw[N];exact(ζ.1 e).1};exact Q i l[i] y (δ hi) e Y (q i _ Y (δ hi) B)}|func f a a' c c' Z aa _ _ ae af=>{intro V p;cases p with|func _ F _ _ A C hF D q R T=>refine .func _ _ _ _ _ _ (by cases hF;exact .func f) (by rw[<-Z];exact D) (by rw[<-aa];exact q) (λi y Y e B=>?_) (λi y Y e B=>?_);have hi:i<a.length:=by{rw[Z];exact(ζ.1 e).1};exact ae i a[i] y (δ hi) e Y (R i _ Y (δ hi) B);have hi:i<c.length:=by{rw[aa];exact(ζ.1 e).1};exact af i c[i] y (δ hi) e Y (T i _ Y (δ hi) B)}|sl id g off len cap m k c l a L X N hm hk ha _ Q=>{intro V p;cases p with|sl _ _ _ _ _ b base sz C O ac ag=>obtain⟨b',base',sz',o,e,B,g3⟩:=hs.rel.obj id _ X;have u:τ id g=some (b',base',sz'):=e;rw[O]at u;obtain⟨rfl,rfl,rfl⟩:b=b'/\base=base'/\sz=sz':=by{simpa using u};have H:=h5 id _ b base sz L X e;cases g3 with|cells _ _ _ arr el fr q1 q2 q3 q4=>have d:∀j,j<m->w'.cell? ⟨b,base+j,none⟩=arr[base+j]?:=λj E=>by{simp[World.cell?,B]};have J:∀i j,i<l.length->j<k->off+i*k+j<m:=by{intro i j hi E;have:i*k+k<=len*k:=by{rw[<-ap];exact bu k il};omega};subst N;refine .fz l false ⟨b,base+off,none⟩ C b (base+off) k (λ_=>rfl) ac (λhc=>by cases hc) hk (λi j x y W D q R=>?_) (λi j hi E=>?_);have hi:=(ζ.1 D).1;have E:j<k:=by{rw[<-hk x (Ψ D)];exact(ζ.1 q).1};obtain⟨W',T,e5⟩:=q3 _ (a i j) (J i j hi E) (ha i j x y D q);have U:M b (base+off+i*k+j)=some W:=R;rw[G _ _ H,show base+off+i*k+j=base+(off+i*k+j) by omega,d _ (J i j hi E),T]at U;cases U;exact Q i j x y D q W e5;show(M b (base+off+i*k+j)).isSome=true;rw[G _ _ H,show base+off+i*k+j=base+(off+i*k+j) by omega,d _ (J i j hi E)];have:=J i j hi E;rw[b5 (show base+(off+i*k+j)<arr.size by omega)];rfl}|ptr id g off m c v a L X hm ha _ Q=>intro V p;cases p with|ptr _ _ _ b base sz O=>obtain⟨b',base',sz',o,e,B,g3⟩:=hs.rel.obj id _ X;have u:τ id g=some (b',base',sz'):=e;rw[O]at u;obtain⟨rfl,rfl,rfl⟩:b=b'/\base=base'/\sz=sz':=by{simpa using u};have H:=h5 id _ b base sz L X e;cases g3 with|cells _ _ _ arr el fr q1 q2 q3 q4=>have d:∀j,j<m->w'.cell? ⟨b,base+j,none⟩=arr[base+j]?:=λj E=>by{simp[World.cell?,B]};refine .pf v b (base+off) (λj y W q R=>?_) (λj E=>?_);have E:=(ζ.1 q).1;obtain⟨W',T,e5⟩:=q3 _ (a j) il (ha j y q);have U:M b (base+off+j)=some W:=R;rw[G _ _ H,show base+off+j=base+(off+j) by omega,d _ il,T]at U;cases U;exact Q j y q W e5;show(M b (base+off+j)).isSome=true;rw[G _ _ H,show base+off+j=base+(off+j) by omega,d _ il];rw[b5 (show base+(off+j)<arr.size by omega)];rfl
section
variable {P:Program}
def AM(o:Option (List AV))(C:Sto->AV->Prop)(s:Sto):Prop:=∃vs,o=some vs/\C s (rH vs)
theorem WZ{l:List AV}{C:Sto->AV->Prop}{s:Sto}:AM (some l) C s↔C s (rH l):=by simp[AM]
def kO(P:Program)(c:List ResultVar)(C D:Sto->AV->Prop):Ex->Env->Prop| .normal,e=>e.ds=[]/\e.r=.no/\AM (bA P e c) C e.s| .ret,e=>e.ds=[]/\e.r=.no/\AM (bA P e c) C e.s| .panic v,e=>e.ds=[]/\e.r=.no/\D e.s v|_,_=>False
def KS(fn:Func)(f:FuncId)(args:List AV)(s:Sto):Env:=⟨Nat.max args.length fn.ntmps,none,f,Tr.leaf.lay 0 args,[],{s with low:=s.n},.no⟩
theorem sound_end{O:bW}(hO:uW P O){f:FuncId}{fn:Func}{c:Code}{args:List AV}{s:Sto}{res:CRes}{C D:Sto->AV->Prop}(T:okFn P f=true)(hf:P.funcs[f]?=some fn)(hb:fn.body=some c)(hC:∀S v,C S v->∃v' F,res=.ret v' F/\pI s S v v' F)(hD:∀S v,D S v->∃v' F,res=.pan v' F/\pI s S v v' F)(h:W P O c (KS fn f args s) (kO P fn.results.toList C D)):bR P f args s res:=by
 obtain⟨n,ex,e,hc,M⟩:=h;refine⟨T,fn,hf,λσ w A kd stk m l ha J U=>?_⟩;have E:Rel σ {s with low:=s.n} w:=l.low rfl rfl;have he:ER σ {(default:Frame)with fn:=f,kind:=kd} (KS fn f args s) {tmps:=A++Array.replicate (fn.ntmps-A.size) undef,defers:=[]} m:=⟨LD ha _,.nil,U,rfl,rfl⟩;have o:Frame.enter P f A kd=({(default:Frame)with fn:=f,kind:=kd}:Frame).atR {tmps:=A++Array.replicate (fn.ntmps-A.size) undef,defers:=[]} [.code c]:=by simp[Frame.enter,Frame.atR,hf,hb];rfl
 rw[o];obtain⟨τ,G,L,w',H,R,q⟩:=kZ (rG hO n).1 (zK n) n c σ w _ stk [] _ _ m _ _ J hc E he;have p:e.ds=[]/\e.r=.no/\(∃vs,bA P e fn.results.toList=some vs/\C e.s (rH vs))->(∃todo,Steps P (lone (({(default:Frame)with fn:=f,kind:=kd}:Frame).atR {tmps:=A++Array.replicate (fn.ntmps-A.size) undef,defers:=[]} [.code c]) (stk m) w) (lone {({(default:Frame)with fn:=f,kind:=kd}:Frame).atR G todo with mode:=.returning} (stk L) w'))-> a1p P σ s w kd f fn stk (lone (({(default:Frame)with fn:=f,kind:=kd}:Frame).atR {tmps:=A++Array.replicate (fn.ntmps-A.size) undef,defers:=[]} [.code c]) (stk m) w) res:=by rintro⟨Y,Z,vs,q3,q4⟩ ⟨todo,X⟩;obtain⟨v',F,rfl,u⟩:=hC _ _ q4;obtain⟨V,r1,r2⟩:=BU R.rel H.tm q3;obtain⟨ρ,N,Q⟩:=u σ τ w w' l R;have d:=H.df;rw[Y]at d;have B:RM ρ kd .no L:=by{have:=H.rc;rw[Z]at this;cases this with|normal m=>exact .normal _|quiet=>exact .quiet};refine⟨ρ,V,w',_,L,Q V r2,N,B,X,rfl,?_,rfl,rfl,r1⟩;show G.defers=[];generalize G.defers=ad at d;cases d;rfl
 cases ex with|normal=>exact p M ⟨[],b4 q (.one (stepR_end rfl))⟩|ret=>obtain⟨k₁,q⟩:=q;exact p M ⟨_,b4 q (.one (stepR_ret rfl))⟩|panic v=>obtain⟨Y,Z,q4⟩:=M;obtain⟨V,todo,hV,q⟩:=q;obtain⟨v',F,rfl,u⟩:=hD _ _ q4;obtain⟨ρ,N,Q⟩:=u σ τ w w' l R;have d:=H.df;rw[Y]at d;have B:RM ρ kd .no L:=by{have:=H.rc;rw[Z]at this;cases this with|normal m=>exact .normal _|quiet=>exact .quiet};refine⟨ρ,V,w',_,L,Q V hV,N,B,q,rfl,?_,rfl,rfl⟩;show G.defers=[];generalize G.defers=ad at d;cases d;rfl|_=>exact M.elim
theorem aBz{O:bW}(l:uW P O){f:FuncId}{fn:Func}{c:Code}{args:List AV}{s:Sto}{v:AV}(d:okFn P f=true)(o:P.funcs[f]?=some fn)(m:fn.body=some c)(p:Und s.n v)(h:W P O c (KS fn f args s) (kO P fn.results.toList (λS r=>s.n<=S.low/\r=v) λ_ _=>False)):bR P f args s (.ret v none):=sound_end l d o m (λS r e=>⟨v,none,rfl,by rw[e.2];exact cJ e.1 p⟩) (λ_ _ h=>h.elim) h
theorem gR{f:FuncId}{args:List AV}{v:AV}(l:∀x∈args,Und 0 x)(h:bR P f args .empty (.ret v none)):Returns P f args v:=λs=>sound_empty (λσ A d=>⟨d.1,λi x X c e=>l x (Ψ c) σ X (d.2 i x X c e)⟩) h ⟨_,.inl rfl⟩ s
theorem aQx{c:List ResultVar}{C D:Sto->AV->Prop}{nt:Nat}{ro:Option Nat}{fn:FuncId}{t:Tr AV}{s:Sto}:kO P c C D .ret ⟨nt,ro,fn,t,[],s,.no⟩↔AM (bA P ⟨nt,ro,fn,t,[],s,.no⟩ c) C s:=by simp[kO]
theorem XA{c:List ResultVar}{C D:Sto->AV->Prop}{nt:Nat}{ro:Option Nat}{fn:FuncId}{t:Tr AV}{s:Sto}:kO P c C D .normal ⟨nt,ro,fn,t,[],s,.no⟩↔AM (bA P ⟨nt,ro,fn,t,[],s,.no⟩ c) C s:=by simp[kO]
theorem aCa{c:List ResultVar}{C D:Sto->AV->Prop}{nt:Nat}{ro:Option Nat}{fn:FuncId}{t:Tr AV}{s:Sto}{v:AV}:kO P c C D (.panic v) ⟨nt,ro,fn,t,[],s,.no⟩↔D s v:=by simp[kO]
theorem SM{e:Env}{d:Nat}{l:List ResultVar}:bA P e (.tmp d::l)=(bA P e l).map (e.t.val d::·):=by simp only[bA,Tr.val];cases h:bA P e l with|none=>rfl|some r=>simp only[d1];cases e.t.get d<;>rfl
theorem aY{e:Env}{a:Nat}{ty:TypeId}{l:List ResultVar}:bA P e (.cell a ty::l)=(gU P e.s ty (e.t.val a)).bind λv=>(bA P e l).map (v::·):=by simp only[bA,Tr.val];cases e.t.get a with|none=>{simp only[Option.getD_none];cases gU P e.s ty .top with|none=>rfl|some v=>cases bA P e l<;>rfl}|some x=>simp only[d2];cases gU P e.s ty x with|none=>rfl|some v=>cases bA P e l<;>rfl
end
def ie{α:Type}(t:Tr α)(i:Nat)(a:Option α):Tr α:=hg (i+1) t i a
theorem hh{α:Type}(f i:Nat)(t:Tr α)(a:Option α):hg (f+1) t i a=match t with| .leaf=>if i=0 then .node a .leaf .leaf else if i%2=1 then .node none (hg f .leaf (i/2) a) .leaf else .node none .leaf (hg f .leaf (i/2-1) a)| .node v l r=>if i=0 then .node a l r else if i%2=1 then .node v (hg f l (i/2) a) r else .node v l (hg f r (i/2-1) a):=by
 have c:∀{β:Type}(x y:β),@Bool.rec (λ_=>β) x y (Nat.beq i 0)=if i=0 then y else x:=by intro β x y;cases h:Nat.beq i 0 with|true=>simp[bk h]|false=>simp[ah h]
 have d:∀{β:Type}(x y:β),@Bool.rec (λ_=>β) x y (Nat.beq (Nat.mod i 2) 1)=if i%2=1 then y else x:=by intro β x y;show@Bool.rec (λ_=>β) x y (Nat.beq (i%2) 1)=_;cases h:Nat.beq (i%2) 1 with|true=>simp[bk h]|false=>simp[ah h]
 cases t with|leaf=>exact(c _ _).trans (by rw[d];rfl)|node v l r=>exact(c _ _).trans (by rw[d];rfl)
theorem hT{α:Type}:∀(f g i:Nat)(t:Tr α)(a b:Option α),i<f->i<g->hg g (hg f t i a) i b=hg g t i b:=by intro f;induction f with|zero=>intro g i t a b h;omega|succ f e=>intro g i t a b m o;obtain⟨g,rfl⟩:∃k,g=k+1:=⟨g-1,il⟩;by_cases c:i=0;subst c;cases t<;>simp[hh];by_cases d:i%2=1;cases t with|leaf=>simp only[hh,Φ c,dx d];rw[e g _ _ _ _ il il]|node v l r=>{simp only[hh,Φ c,dx d];rw[e g _ _ _ _ il il]};cases t with|leaf=>simp only[hh,Φ c,Φ d];rw[e g _ _ _ _ il il]|node v l r=>simp only[hh,Φ c,Φ d];rw[e g _ _ _ _ il il]
theorem hX{α:Type}:∀(f g i j:Nat)(t:Tr α)(a b:Option α),i<f->j<g->i≠j->hg g (hg f t i a) j b=hg f (hg g t j b) i a:=by intro f;induction f with|zero=>intro g i j t a b h;omega|succ f o=>intro g i j t a b p q m;obtain⟨g,rfl⟩:∃k,g=k+1:=⟨g-1,il⟩;by_cases d:i=0;subst d;have c:j≠0:=λh=>m h.symm;by_cases l:j%2=1<;>cases t<;>simp[hh,c,l];by_cases c:j=0;subst c;by_cases e:i%2=1<;>cases t<;>simp[hh,d,e];by_cases e:i%2=1<;>by_cases l:j%2=1;cases t<;>(simp only[hh,Φ d,dx e,Φ c,dx l];rw[o g _ _ _ _ _ il il il]);cases t<;>simp only[hh,Φ d,dx e,Φ c,Φ l];cases t<;>simp only[hh,Φ d,Φ e,Φ c,dx l];cases t<;>(simp only[hh,Φ d,Φ e,Φ c,Φ l];rw[o g _ _ _ _ _ il il il])
theorem h6{α:Type}(t:Tr α)(i:Nat)(a b:α):(t.set i a).set i b=t.set i b:=hT _ _ _ _ _ _ il il
theorem hY{α:Type}(t:Tr α){i j:Nat}(a b:α)(h:i≠j):(t.set i a).set j b=(t.set j b).set i a:=hX _ _ _ _ _ _ _ il il h
theorem hQ{α:Type}(l:List α):∀(t:Tr α)(k i:Nat)(a:α),i<k->(t.lay k l).set i a=(t.set i a).lay k l:=by induction l with|nil=>intro t k i a h;rfl|cons x l c=>intro t k i a h;simp only[Tr.lay];rw[c _ _ _ _ il,hY _ _ _ il]
theorem h8{α:Type}(l:List α):∀(t:Tr α)(k i:Nat)(a:α),i<l.length->(t.lay k l).set (k+i) a=t.lay k (l.set i a):=by induction l with|nil=>intro t k i a h;simp at h|cons x l c=>intro t k i a h;cases i with|zero=>simp only[Tr.lay,List.set_cons_zero,bo];rw[hQ _ _ _ _ _ il,h6]|succ i=>simp only[Tr.lay,List.set_cons_succ];rw[<-c _ _ _ _ (by simpa using h)];congr 1;omega
theorem hR{α:Type}(l m:List α):∀(t:Tr α)(k:Nat),(t.lay k l).lay (k+l.length) m=t.lay k (l++m):=by induction l with|nil=>intro t k;rfl|cons x l c=>intro t k;simp only[Tr.lay,dn,cj];rw[<-c];congr 1;omega
def cG{α:Type}(l:List α)(off:Nat)(m:List α):List α:=l.take off++m++l.drop (off+m.length)
theorem KU{α:Type}(l:List α)(off:Nat):cG l off []=l:=by simp[cG]
theorem AN{α:Type}(l m:List α)(off:Nat)(h:off+m.length<=l.length):(cG l off m).length=l.length:=by simp[cG];omega
theorem GY{α:Type}(l m:List α)(off:Nat)(a:α)(h:off+(a::m).length<=l.length):cG l off (a::m)=cG (l.set off a) (off+1) m:=by
 simp only[cj]at h;apply ep;intro i;simp only[cG,cj];simp only[fv,c6,ι,cj,ek,ci,d4,e2];have q:min off l.length=off:=il
 have r:min (off+1) l.length=off+1:=il
 rw[q,r];by_cases c:i<off;have:off≠i:=il
 simp[c,show i<off+1 by omega,show i<off+(m.length+1) by omega,show i<off+1+m.length by omega,this];by_cases f:i=off;subst f;simp[show i<l.length by omega,show i<i+1+m.length by omega];by_cases e:i<off+(m.length+1);obtain⟨d,rfl⟩:∃d,i=off+1+d:=⟨i-off-1,il⟩;rw[Φ c,dx e,Φ (show¬off+1+d<off+1 by omega),dx (show off+1+d<off+1+m.length by omega)];simp[show off+1+d-off=d+1 by omega];have o:off+(m.length+1)+(i-(off+(m.length+1)))=i:=il
 have p:off+1+m.length+(i-(off+1+m.length))=i:=il
 simp[e,show¬i<off+1+m.length by omega,o,p,show off≠i by omega]
theorem hx{α:Type}(m:List α):∀(l:List α)(off:Nat),off+m.length<=l.length->((Tr.leaf.lay 0 l).lay off m)=Tr.leaf.lay 0 (cG l off m):=by induction m with|nil=>intro l off _;rw[KU];rfl|cons a m c=>intro l off h;simp only[Tr.lay];have d:off+m.length+1<=l.length:=by{simpa[bf]using h};have:=h8 l .leaf 0 off a il;rw[φ]at this;rw[this,c _ _ (by simp;omega),GY _ _ _ _ h]
theorem hv{α:Type}(l:List α)(i:Nat):(Tr.leaf.lay 0 l).get i=l[i]?:=by rw[hI];by_cases h:i<l.length;simp[h];rw[Φ il,cv il];rfl
theorem h0(l:List AV)(i:Nat):(Tr.leaf.lay 0 l).val i=l[i]?.getD .top:=by rw[Tr.val,hv]
theorem hL{α:Type}(l:List α):∀(k off:Nat),off+k<=l.length->(Tr.leaf.lay 0 l).row off k=some (aS l off k):=by intro k;induction k with|zero=>intro off _;simp[Tr.row,aS]|succ k c=>intro off h;simp only[Tr.row,hv];rw[δ (show off<l.length by omega),c (off+1) il];simp only[aS];rw[<-gf (show off<l.length by omega),fA]
def aP(g:Nat)(cs:List AV):AObj:=.cells g cs.length (Tr.leaf.lay 0 cs)
theorem ia{n low:Nat}{o:Tr AObj}{x:AObj}:(Sto.mk n low o).push x=⟨n+1,low,o.set n x⟩:=rfl
theorem g8{n low:Nat}{o:Tr AObj}{i:Nat}(h:i<n):(Sto.mk n low o).get i=o.get i:=by rw[hz];exact dx h
theorem hZ{n:Nat}{o:Tr AObj}{i:Nat}{x:AObj}:(Sto.mk n 0 o).put i x=⟨n,0,o.set i x⟩:=by
 simp only[Sto.put];have:Nat.blt i 0=false:=by cases h:Nat.blt i 0<;>simp_all
 rw[this];rfl
theorem hE{α:Type}(t:Tr α)(i:Nat)(a:α):(t.set i a).get i=some a:=by simp[hK]
theorem g7{α:Type}(t:Tr α){i j:Nat}(a:α)(h:j≠i):(t.set i a).get j=t.get j:=by simp[hK,h]
theorem _root_.Go.it{p:Prop}(h:p:=by rw [g7 _ _ (by omega)]):p:=h
section
variable {P:Program}
def tyK(P:Program)(t:TypeId):Option (Option Nat):=match HN P t,wC P t with|some true,some n=>some (some n)|some false,some 1=>some none|_,_=>none
def bT(P:Program)(t:TypeId)(f:Nat):Option (Nat × Option Nat):=match P.underlying t with|some (.struct fields)=>(match fields[f]? with|some c=>(match tyK P c.type with|some x=>(match x with|some 0=>none|_=>some (c.offset,x))|none=>none)|none=>none)|_=>none
def uR(P:Program)(t:TypeId):Option Nat:=match P.underlying t with|some (.slice e)=>wC P e|_=>none
def ZF(P:Program)(t:TypeId):Option (Nat × Option Nat):=match P.underlying t with|some (.array n e)=>(tyK P e).map λx=>(n,x)|_=>none
def apK(P:Program)(t:TypeId):Option (Nat × Nat):=match P.underlying t with|some (.slice e)=>(match wC P e,rM P e,bN P e with|some k,some b,some z=>bif Nat.beq z.cells.length k then some (k,b)else none|_,_,_=>none)|_=>none
def nR:Option Nat->Nat|none=>1|some n=>n
theorem uS{t:TypeId}{x:Option Nat}(h:tyK P t=some x):wC P t=some (nR x)/\HN P t=some x.isSome:=by unfold tyK at h;split at h;rename_i c d;cases h;exact⟨d,c⟩;rename_i c d;cases h;exact⟨d,c⟩;cases h
def ldK(x:Option (Option Nat))(o:Option AObj)(g off:Nat):Option AV:=match x,o with|some none,some (.cells g' n c)=>bif Nat.beq g g' then(bif Nat.blt off n then c.get off else none)else none|some (some k),some (.cells g' n c)=>bif Nat.beq g g' then(bif Nat.ble (off+k) n then(match c.row off k with|some l=>some (.agg l)|none=>none)else none)else none|_,_=>none
theorem aJu{s:Sto}{t:TypeId}{id g off:Nat}{x:Option Nat}(h:tyK P t=some x):gU P s t (.ptr id g off)=ldK (some x) (s.get id) g off:=by obtain⟨d,e⟩:=uS h;simp only[gU,d,e];cases s.get id with|none=>cases x<;>rfl|some o=>cases o with|cells g' n c=>cases x<;>rfl|_=>cases x<;>rfl
theorem aWx{g off:Nat}{cs:List AV}:ldK (some none) (some (aP g cs)) g off=cs[off]?:=by simp only[ldK,aP,dd,cr,gB,hv];split;rfl;rename_i h;rw[cv il]
theorem aWy{g off k:Nat}{cs:List AV}(h:off+k<=cs.length):ldK (some (some k)) (some (aP g cs)) g off=some (.agg (aS cs off k)):=by
 have:Nat.ble (off+k) cs.length=true:=by simpa using h
 simp only[ldK,aP,dd,cr,this,hL _ _ _ h]
theorem KV{cs:List AV}{off:Nat}{a:AV}(h:off<cs.length):cG cs off [a]=cs.set off a:=by rw[GY _ _ _ _ (by simp;omega),KU]
def stK(s:Sto)(x:Option (Option Nat))(id g off:Nat)(v:AV)(o:Option AObj):Option Sto:=match x,o with|some x,some (.cells g' n c)=>bif Nat.beq g g'&&Nat.ble (off+nR x) n&&Nat.beq v.cells.length (nR x)&&v.cells.all AV.isCell then some (s.put id (.cells g' n (c.lay off v.cells)))else none|_,_=>none
theorem aCb{s:Sto}{t:TypeId}{id g off:Nat}{v:AV}{x:Option Nat}(h:tyK P t=some x):pK P s t (.ptr id g off) v=stK s (some x) id g off v (s.get id):=by obtain⟨c,d⟩:=uS h;simp only[pK,c];cases s.get id with|none=>rfl|some o=>cases o<;>rfl
theorem aXa{s:Sto}{id g off:Nat}{v:AV}{cs:List AV}(c:v.isCell=true)(e:off<cs.length):stK s (some none) id g off v (some (aP g cs))=some (s.put id (aP g (cs.set off v))):=by
 have f:v.cells=[v]:=by cases v<;>first|rfl|cases c
 have d:Nat.ble (off+1) cs.length=true:=by simp;omega
 simp only[stK,aP,dd,nR,d,f,cj,cp,c0,de,c,bl,cr];rw[hx _ _ _ (by simp;omega),KV e,d4]
theorem aXb{s:Sto}{id g off k:Nat}{vs cs:List AV}(f:vs.length=k)(e:vs.all AV.isCell=true)(c:off+k<=cs.length):stK s (some (some k)) id g off (.agg vs) (some (aP g cs))=some (s.put id (aP g (cG cs off vs))):=by
 subst f;have d:Nat.ble (off+vs.length) cs.length=true:=by simpa using c
 simp only[stK,aP,dd,nR,d,AV.cells,e,bl,cr];rw[hx _ _ _ c,AN _ _ _ c]
theorem aCc{cs vs:List AV}(h:vs.length=cs.length):cG cs 0 vs=vs:=by simp[cG,h]
theorem KW{t:TypeId}{id g o f off:Nat}{x:Option Nat}(h:bT P t f=some (off,x)):cM P t (.ptr id g o) f=some (.ptr id g (o+off)):=by
 unfold bT at h;split at h;rename_i fields p;split at h;rename_i r c;split at h;rename_i y q;obtain⟨e,_⟩:=uS q;unfold cM;rw[p];simp only[c,e];split at h;cases h;rename_i d;simp only[Ω,cc]at h;obtain⟨rfl,rfl⟩:=h;have:∃m,nR y=m+1:=by cases y with|none=>exact⟨0,rfl⟩|some n=>cases n with|zero=>exact absurd rfl d|succ m=>exact⟨m,rfl⟩
 obtain⟨m,l⟩:=this;rw[l];cases h;cases h;cases h
def ptK(x:Option Nat)(cs:List AV)(off:Nat):Option AV:=match x with|none=>cs[off]?|some n=>bif Nat.ble (off+n) cs.length then some (.agg (aS cs off n))else none
theorem FJ{t:TypeId}{x:Option Nat}{cs:List AV}{off:Nat}(h:tyK P t=some x):nU P t cs off=ptK x cs off:=by obtain⟨c,d⟩:=uS h;simp only[nU,c,d];cases x<;>rfl
theorem aCd{t:TypeId}{cs:List AV}{f off:Nat}{x:Option Nat}(h:bT P t f=some (off,x)):tF P t (.agg cs) f=ptK x cs off:=by unfold bT at h;split at h;rename_i fields d;split at h;rename_i l c;split at h;rename_i y e;split at h;cases h;simp only[Ω,cc]at h;obtain⟨rfl,rfl⟩:=h;simp only[tF,d,c,FJ e];cases h;cases h;cases h
variable {t:TypeId} {x y:Operand} {k:IntKind} {a b:Int}
theorem SN{a b:Int}:(a==b)=decide (a=b):=by rw[ay];simp
theorem aQy:dC P .add t x y (.int k a) (.int k b)=some (.int k (k.wrap (a+b))):=iI
theorem aQz:dC P .sub t x y (.int k a) (.int k b)=some (.int k (k.wrap (a-b))):=iI
theorem aRa:dC P .mul t x y (.int k a) (.int k b)=some (.int k (k.wrap (a*b))):=iI
theorem aRb(h:b≠0):dC P .quo t x y (.int k a) (.int k b)=some (.int k (k.wrap (a.tdiv b))):=by simp[dC,nH,gA,h]
theorem aRc(h:b≠0):dC P .rem t x y (.int k a) (.int k b)=some (.int k (a.tmod b)):=by simp[dC,nH,gA,h]
theorem aRd:dC P .eql t x y (.int k a) (.int k b)=some (.bool (decide (a=b))):=by simp[dC,nH,oI,gT,SN]
theorem aRe:dC P .neq t x y (.int k a) (.int k b)=some (.bool (!decide (a=b))):=by simp[dC,nH,oI,gT,SN]
theorem aRf:dC P .lss t x y (.int k a) (.int k b)=some (.bool (decide (a<b))):=iy
theorem aRg:dC P .leq t x y (.int k a) (.int k b)=some (.bool (decide (a<=b))):=iy
theorem aRh:dC P .gtr t x y (.int k a) (.int k b)=some (.bool (decide (b<a))):=iy
theorem aRi:dC P .geq t x y (.int k a) (.int k b)=some (.bool (decide (b<=a))):=iy
theorem KX{c:IntKind}(h:¬b<0):dC P .shr t x y (.int k a) (.int c b)=some (.int k (a.fdiv (2 ^ (min b.toNat k.bits)))):=by simp[dC,gA,h]
theorem aXc:aun .neg (.int k a)=some (.int k (k.wrap (0-a))):=by simp[aun,gA]
theorem XB{a b:List Nat}:iQ Nat.beq a b=decide (a=b):=by induction a generalizing b with|nil=>cases b<;>simp[iQ]|cons x a c=>cases b with|nil=>simp[iQ]|cons y b=>simp only[iQ,c];cases h:Nat.beq x y with|true=>have:=bk h;simp[this]|false=>have:=ah h;simp[this]
theorem uT{a b:List Nat}:dC P .eql t x y (.str a) (.str b)=some (.bool (decide (a=b))):=by simp[dC,FQ,XB]
theorem DH{a b:List Nat}:dC P .neq t x y (.str a) (.str b)=some (.bool (!decide (a=b))):=by simp[dC,FQ,XB]
theorem bB{a b:List Nat}(h:a.length+b.length<9223372036854775808):dC P .add t x y (.str a) (.str b)=some (.str (a++b)):=by
 have:Nat.blt (a.length+b.length) 9223372036854775808=true:=by simpa using h
 simp[dC,FQ,this]
theorem fF{v:AV}(h:v.isCell=true):v.cells=[v]:=by cases v<;>first|rfl|cases h
end
section
variable {P:Program}
def Ok(P:Program)(f:FuncId)(g:List AV->Option AV):Prop:=∀args v,g args=some v->Returns P f args v
def ent(f:FuncId)(g:List AV->Option AV):iA:=(f,λargs _=>(g args).map λv=>.ret v none)
theorem Ok.ent{f:FuncId}{g:List AV->Option AV}(h:Ok P f g):cH P (ent f g):=by intro args s res c;simp only[Go.Abs.ent]at c;cases d:g args with|none=>rw[d]at c;cases c|some v=>rw[d]at c;simp only[d1,Ω]at c;subst c;exact h args v d s
theorem ent_same{f:FuncId}{g:List AV->Option AV}{L:List iA}{args:List AV}{s:Sto}:aW (ent f g::L) f args s=(g args).map λv=>.ret v none:=oG
theorem jT{f h:FuncId}{g:List AV->Option AV}{L:List iA}{args:List AV}{s:Sto}(c:h≠f):aW (ent h g::L) f args s=aW L f args s:=zJ c
theorem jU{fn:Func}{f:FuncId}{args:List AV}{s:Sto}{N:Nat}(d:fn.ntmps=N)(c:Nat.ble args.length N=true):KS fn f args s=⟨N,none,f,Tr.leaf.lay 0 args,[],⟨s.n,s.n,s.o⟩,.no⟩:=by
 have:Nat.max args.length fn.ntmps=N:=by rw[d];have:=aq c;exact Nat.max_eq_right this
 simp only[KS,this]
theorem SO{L:List iA}(m:∀x∈L,cH P x){f:FuncId}{fn:Func}{c:Code}{N:Nat}{l:List ResultVar}{args:List AV}{v:AV}(d:okFn P f=true)(q:P.funcs[f]?=some fn)(u:fn.ntmps=N)(e:fn.results=l.toArray)(p:fn.body=some c)(o:Nat.ble args.length N=true)(w:∀x∈args,Und 0 x)(A:Und 0 v)(h:W P (aW L) c ⟨N,none,f,Tr.leaf.lay 0 args,[],⟨0,0,.leaf⟩,.no⟩ (kO P l (λ_ r=>r=v) λ_ _=>False)):Returns P f args v:=by refine gR w (sound_end (O:=aW L) (mZ m) d q p (C:=λ_ r=>r=v) (D:=λ_ _=>False) (λS r e=>⟨v,none,rfl,by rw[e];exact cJ (γ _) A⟩) (λ_ _ h=>h.elim) ?_);rw[jU u o,e];exact h
theorem AO{L:List iA}(m:∀x∈L,cH P x){f:FuncId}{fn:Func}{c:Code}{N:Nat}{l:List ResultVar}{args:List AV}{v:AV}(d:okFn P f=true)(q:P.funcs[f]?=some fn)(u:fn.ntmps=N)(e:fn.results=l.toArray)(p:fn.body=some c)(o:Nat.ble args.length N=true)(w:∀x∈args,Und 0 x)(h:W P (aW L) c ⟨N,none,f,Tr.leaf.lay 0 args,[],⟨0,0,.leaf⟩,.no⟩ (kO P l (λS r=>Frz S 0 r v) λ_ _=>False)):Returns P f args v:=by refine gR w (sound_end (O:=aW L) (mZ m) d q p (C:=λS r=>Frz S 0 r v) (D:=λ_ _=>False) (λS r e=>⟨v,none,rfl,uQ (γ _) e⟩) (λ_ _ h=>h.elim) ?_);rw[jU u o,e];exact h
