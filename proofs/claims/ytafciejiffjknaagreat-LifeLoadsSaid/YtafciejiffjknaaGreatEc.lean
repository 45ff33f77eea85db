/-.-/
import Derived.Test.YtafciejiffjknaaGreatEa
import Derived.IntWalk
set_option linter.unusedVariables false
namespace Go
abbrev bw:=@List.all_cons
abbrev b4:=@List.all_nil
abbrev bm:=@List.mem_singleton
abbrev bp:=@Bool.and_self
abbrev aq:=@Nat.succ_mul
abbrev av:=@Nat.le_of_ble_eq_true
abbrev fp:=@List.ext_getElem?
abbrev aj:=@Nat.ne_of_beq_eq_false
abbrev ak:=@List.take_succ_cons
abbrev f7:=@List.getElem?_set
abbrev gn:=@List.length_set
end Go
namespace Go.Abs
noncomputable section
def kK(s S:Sto)(v v':AV)(c:Option Sto):Prop:=∀(σ τ:Sg)(w w':World),Rel σ s w->Stp σ {s with low:=s.n} w τ S w'->∃ρ,CStp σ s w ρ c w'/\∀V,VR τ v V->VR ρ v' V
def Und(n:Nat)(v:AV):Prop:=∀(σ:Sg) V,VR σ v V->VR (σ.cut n) v V
theorem a2t{n:Nat}:Und n .top:=λ_ V _=>.top V
theorem aI{n:Nat}{b:Bool}:Und n (.bool b):=λ_ _ h=>by cases h;exact .bool b
theorem aH{n:Nat}{k:IntKind}{x:Int}:Und n (.int k x):=λ_ _ h=>by cases h;exact .int k x
theorem bV{n:Nat}{l:List Nat}:Und n (.str l):=λ_ _ h=>by cases h;rename_i c;exact .str _ _ c
theorem fC{n:Nat}:Und n .nils:=λ_ _ h=>by cases h;exact .nils
theorem ZG{n:Nat}:Und n .nilp:=λ_ _ h=>by cases h;exact .nilp
theorem aVl{n:Nat}:Und n .nilm:=λ_ _ h=>by cases h;exact .nilm
theorem aVm{n:Nat}:Und n .nilf:=λ_ _ h=>by cases h;exact .nilf
theorem RB{n:Nat}{t:TypeId}{v:AV}(h:Und n v):Und n (.iface t v):=λσ _ d=>by cases d with|iface _ _ V c=>exact .iface _ _ _ (h σ V c)
theorem zQ{n:Nat}{l:List AV}(h:∀x∈l,Und n x):Und n (.agg l):=λσ _ m=>by cases m with|agg _ o f e=>exact .agg _ _ f λi x X c d=>h x (Θ c) σ X (e i x X c d)
theorem cE{n:Nat}{l:List AV}(h:∀x∈l,Und n x):Und n (.tuple l):=λσ _ m=>by cases m with|tuple _ o f e=>exact .tuple _ _ f λi x X c d=>h x (Θ c) σ X (e i x X c d)
theorem a7t{n:Nat}{l:List AV}{c:Bool}(h:∀x∈l,∀y∈x.cells,Und n y):Und n (.fz l c):=λσ _ v=>by cases v with|fz _ _ a C b off k m o p q r u=>exact .fz _ _ _ _ _ _ _ m o p q (λi j x y V d e f=>h x (Θ d) y (Θ e) σ V (r i j x y V d e f)) u
theorem a7u{n:Nat}{v:AV}(h:∀y∈v.cells,Und n y):Und n (.pf v):=λσ _ m=>by cases m with|pf _ b off f l=>exact .pf _ _ _ (λi c V d e=>h c (Θ d) σ V (f i c V d e)) l
theorem aC{n:Nat}:∀x∈([]:List AV),Und n x:=λ_ h=>nomatch h
theorem aA{n:Nat}{a:AV}{l:List AV}(h:Und n a)(d:∀x∈l,Und n x):∀x∈a::l,Und n x:=λx c=>by rcases cp.1 c with rfl|c;exact h;exact d x c
theorem Und.cells{n:Nat}{v:AV}(h:∀y∈v.cells,Und n y)(c:∀l,v≠.tuple l):Und n v:=by cases v with|agg l=>exact zQ h|_=>exact h _ (bm.2 rfl)
theorem ZH{σ τ:Sg}{s S:Sto}{w w':World}(h:Rel σ s w)(e:Stp σ {s with low:=s.n} w τ S w')(B:s.n<=S.low):(τ.cut s.n).s=σ.s/\Quiet w w'/\σ.le (τ.cut s.n)/\(∀b off V,τ.m b off=some V->σ.m b off=some V∨(w.heap.size<=b/\w'.cell? ⟨b,off,none⟩=some V))/\(∀id x b base sz,s.n<=id->S.get id=some x->τ id (eR x)=some (b,base,sz)->w.heap.size<=b):=by
 have f:(τ.cut s.n).s=σ.s:=by funext id g;simp only[Sg.cut];split;rename_i c;exact(e.keep id c iu).2.1 g;rename_i c;cases C:σ id g with|none=>rfl|some y=>exact absurd (h.bnd id g y C) c
 refine⟨f,⟨e.size,λb r=>?_,e.os,e.out,e.tape⟩,⟨λid g x u=>by rw[f];exact u,e.ext.m⟩,λb off V v=>?_,λid x b base sz c u r=>?_⟩;by_cases A:Has σ s b;obtain⟨id,x,base,sz,d,o⟩:=A;have c:=hE d;exact(e.keep id c iu).2.2 x b base sz d o;exact e.frame b r A;have q:=e.rel.mu b off V v;rcases e.mnew b off V v with d|⟨id,x,base,sz,d,o⟩|d;exact .inl d;exfalso;have c:id<s.n:=hE d;obtain⟨k1,k2,_⟩:=e.keep id c iu;exact q.2 ⟨id,x,base,sz,by rw[k1];exact d,by rw[k2];exact o⟩;exact .inr ⟨d,q.1⟩;rcases e.own b ⟨id,x,base,sz,u,r⟩with⟨l,D,base',sz',d,o⟩|d;exfalso;have p:l<s.n:=hE d;obtain⟨k1,k2,_⟩:=e.keep l p iu;have:=e.rel.inj id x l D b base sz base' sz' u (by rw[k1];exact d) r (by rw[k2];exact o);omega
 exact d
theorem yL{s S:Sto}{v:AV}(c:s.n<=S.low)(p:Und s.n v):kK s S v v none:=by intro σ τ w w' h o;obtain⟨d,e,f,l,_⟩:=ZH h o c;exact⟨τ.cut s.n,⟨e,f,d,l⟩,λV m=>p τ V m⟩
inductive Frz (S:Sto) (n:Nat):AV->AV->Prop
 | und (v:AV):Und n v->Frz S n v v
 | agg (l l':List AV):l.length=l'.length->(∀ (i:Nat) x y,l[i]?=some x->l'[i]?=some y->Frz S n x y)->Frz S n (.agg l) (.agg l')
 | tuple (l l':List AV):l.length=l'.length->(∀ (i:Nat) x y,l[i]?=some x->l'[i]?=some y->Frz S n x y)->Frz S n (.tuple l) (.tuple l')
 | sl (id g off len:Nat) (cap:ACap) (m k:Nat) (c:Tr AV) (l:List AV) (a:Nat->Nat->AV):n<=id->S.get id=some (.cells g m c)->l.length=len->off+len*k<=m->(∀ x∈l,x.cells.length=k)->
  (∀ (i j:Nat) x y,l[i]?=some x->x.cells[j]?=some y->c.get (off+i*k+j)=some (a i j))->(∀ (i j:Nat) x y,l[i]?=some x->x.cells[j]?=some y->Frz S n (a i j) y)->Frz S n (.sl id g off len cap) (.fz l false)
 | ptr (id g off m:Nat) (c:Tr AV) (v:AV) (a:Nat->AV):n<=id->S.get id=some (.cells g m c)->off+v.cells.length<=m->(∀ (j:Nat) y,v.cells[j]?=some y->c.get (off+j)=some (a j))->(∀ (j:Nat) y,v.cells[j]?=some y->Frz S n (a j) y)->Frz S n (.ptr id g off) (.pf v)
 | func (f:FuncId) (a a' c c':List AV):a.length=a'.length->c.length=c'.length->(∀ (i:Nat) x y,a[i]?=some x->a'[i]?=some y->Frz S n x y)->(∀ (i:Nat) x y,c[i]?=some x->c'[i]?=some y->Frz S n x y)->Frz S n (.func (.func f) a c) (.func (.func f) a' c')
theorem vD{s S:Sto}{v v':AV}(ae:s.n<=S.low)(hf:Frz S s.n v v'):kK s S v v' none:=by
 intro σ τ w w' h hs;obtain⟨h1,h2,h3,h4,h5⟩:=ZH h hs ae;let M:Nat->Nat->Option Value:=λb off=>match τ.m b off with|some V=>some V|none=>if w.heap.size<=b then w'.cell? ⟨b,off,none⟩else none;have hM:∀b off V,τ.m b off=some V->M b off=some V:=λb off V q=>by simp[M,q]
 have H:∀b off,w.heap.size<=b->M b off=w'.cell? ⟨b,off,none⟩:=λb off J=>by simp only[M];cases hc:τ.m b off with|some V=>simp only;exact(hs.rel.mu b off V hc).1.symm|none=>simp[J]
 let ρ:Sg:=⟨M,(τ.cut s.n).s⟩;have ac:(τ.cut s.n).le ρ:=⟨λ_ _ _ h=>h,hM⟩;refine⟨ρ,⟨h2,Sg.le_trans h3 ac,h1,λb off V q=>?_⟩,?_⟩;have u:M b off=some V:=q;simp only[M]at u;split at u;rename_i W hW;cases u;exact h4 b off _ hW;split at u;rename_i J;exact .inr ⟨J,u⟩;cases u;induction hf with|und v hu=>exact λV q=>(hu τ V q).mono ac|agg l l' O _ R=>{intro V q;cases q with|agg _ ys E r=>refine .agg _ _ (by rw[<-O];exact E) λi y Y p D=>?_;have e:i<l.length:=by{rw[O];exact(ζ.1 p).1};exact R i l[i] y (η e) p Y (r i _ Y (η e) D)}|tuple l l' O _ R=>{intro V q;cases q with|tuple _ ys E r=>refine .tuple _ _ (by rw[<-O];exact E) λi y Y p D=>?_;have e:i<l.length:=by{rw[O];exact(ζ.1 p).1};exact R i l[i] y (η e) p Y (r i _ Y (η e) D)}|func f a a' c c' aa ab _ _ af ag=>{intro V q;cases q with|func _ F _ _ A C hF E r T U=>refine .func _ _ _ _ _ _ (by cases hF;exact .func f) (by rw[<-aa];exact E) (by rw[<-ab];exact r) (λi y Y p D=>?_) (λi y Y p D=>?_);have e:i<a.length:=by{rw[aa];exact(ζ.1 p).1};exact af i a[i] y (η e) p Y (T i _ Y (η e) D);have e:i<c.length:=by{rw[ab];exact(ζ.1 p).1};exact ag i c[i] y (η e) p Y (U i _ Y (η e) D)}|sl id g off len cap m k c l a N Z O hm hk ha _ R=>{intro V q;cases q with|sl _ _ _ _ _ b base sz C Q ad ah=>obtain⟨b',base',sz',o,p,D,g3⟩:=hs.rel.obj id _ Z;have B:τ id g=some (b',base',sz'):=p;rw[Q]at B;obtain⟨rfl,rfl,rfl⟩:b=b'/\base=base'/\sz=sz':=by{simpa using B};have J:=h5 id _ b base sz N Z p;cases g3 with|cells _ _ _ arr el fr q1 q2 q3 q4=>have d:∀j,j<m->w'.cell? ⟨b,base+j,none⟩=arr[base+j]?:=λj G=>by{simp[World.cell?,D]};have L:∀i j,i<l.length->j<k->off+i*k+j<m:=by{intro i j e G;have:i*k+k<=len*k:=by{rw[<-aq];exact bx k iu};omega};subst O;refine .fz l false ⟨b,base+off,none⟩ C b (base+off) k (λ_=>rfl) ad (λhc=>by cases hc) hk (λi j x y W E r T=>?_) (λi j e G=>?_);have e:=(ζ.1 E).1;have G:j<k:=by{rw[<-hk x (Θ E)];exact(ζ.1 r).1};obtain⟨W',U,e5⟩:=q3 _ (a i j) (L i j e G) (ha i j x y E r);have X:M b (base+off+i*k+j)=some W:=T;rw[H _ _ J,show base+off+i*k+j=base+(off+i*k+j) by omega,d _ (L i j e G),U]at X;cases X;exact R i j x y E r W e5;show(M b (base+off+i*k+j)).isSome=true;rw[H _ _ J,show base+off+i*k+j=base+(off+i*k+j) by omega,d _ (L i j e G)];have:=L i j e G;rw[b8 (show base+(off+i*k+j)<arr.size by omega)];rfl}|ptr id g off m c v a N Z hm ha _ R=>intro V q;cases q with|ptr _ _ _ b base sz Q=>obtain⟨b',base',sz',o,p,D,g3⟩:=hs.rel.obj id _ Z;have B:τ id g=some (b',base',sz'):=p;rw[Q]at B;obtain⟨rfl,rfl,rfl⟩:b=b'/\base=base'/\sz=sz':=by{simpa using B};have J:=h5 id _ b base sz N Z p;cases g3 with|cells _ _ _ arr el fr q1 q2 q3 q4=>have d:∀j,j<m->w'.cell? ⟨b,base+j,none⟩=arr[base+j]?:=λj G=>by{simp[World.cell?,D]};refine .pf v b (base+off) (λj y W r T=>?_) (λj G=>?_);have G:=(ζ.1 r).1;obtain⟨W',U,e5⟩:=q3 _ (a j) iu (ha j y r);have X:M b (base+off+j)=some W:=T;rw[H _ _ J,show base+off+j=base+(off+j) by omega,d _ iu,U]at X;cases X;exact R j y r W e5;show(M b (base+off+j)).isSome=true;rw[H _ _ J,show base+off+j=base+(off+j) by omega,d _ iu];rw[b8 (show base+(off+j)<arr.size by omega)];rfl
section
variable {P:Program}
def DQ(o:Option (List AV))(C:Sto->AV->Prop)(s:Sto):Prop:=∃vs,o=some vs/\C s (uD vs)
theorem ZI{l:List AV}{C:Sto->AV->Prop}{s:Sto}:DQ (some l) C s↔C s (uD l):=by simp[DQ]
def jY(P:Program)(c:List ResultVar)(C D:Sto->AV->Prop):Ex->Env->Prop| .normal,e=>e.ds=[]/\e.r=.no/\DQ (bA P e c) C e.s| .ret,e=>e.ds=[]/\e.r=.no/\DQ (bA P e c) C e.s| .panic v,e=>e.ds=[]/\e.r=.no/\D e.s v|_,_=>False
def MQ(fn:Func)(f:FuncId)(args:List AV)(s:Sto):Env:=⟨Nat.max args.length fn.ntmps,none,f,Tr.leaf.lay 0 args,[],{s with low:=s.n},.no⟩
theorem sound_end{O:Orc}(hO:lN P O){f:FuncId}{fn:Func}{c:Code}{args:List AV}{s:Sto}{res:CRes}{C D:Sto->AV->Prop}(T:okFn P f=true)(hf:P.funcs[f]?=some fn)(hb:fn.body=some c)(hC:∀S v,C S v->∃v' F,res=.ret v' F/\kK s S v v' F)(hD:∀S v,D S v->∃v' F,res=.pan v' F/\kK s S v v' F)(h:W P O c (MQ fn f args s) (jY P fn.results.toList C D)):bY P f args s res:=by
 obtain⟨n,ex,e,hc,M⟩:=h;refine⟨T,fn,hf,λσ w A kd stk m l ha J U=>?_⟩;have E:Rel σ {s with low:=s.n} w:=l.low rfl rfl;have he:ER σ {(default:Frame)with fn:=f,kind:=kd} (MQ fn f args s) {tmps:=A++Array.replicate (fn.ntmps-A.size) undef,defers:=[]} m:=⟨NA ha _,.nil,U,rfl,rfl⟩;have o:Frame.enter P f A kd=({(default:Frame)with fn:=f,kind:=kd}:Frame).atR {tmps:=A++Array.replicate (fn.ntmps-A.size) undef,defers:=[]} [.code c]:=by simp[Frame.enter,Frame.atR,hf,hb];rfl
 rw[o];obtain⟨τ,G,L,w',H,R,q⟩:=kU (rR hO n).1 (zV n) n c σ w _ stk [] _ _ m _ _ J hc E he;have p:e.ds=[]/\e.r=.no/\(∃vs,bA P e fn.results.toList=some vs/\C e.s (uD vs))->(∃todo,Steps P (lone (({(default:Frame)with fn:=f,kind:=kd}:Frame).atR {tmps:=A++Array.replicate (fn.ntmps-A.size) undef,defers:=[]} [.code c]) (stk m) w) (lone {({(default:Frame)with fn:=f,kind:=kd}:Frame).atR G todo with mode:=.returning} (stk L) w'))-> a8g P σ s w kd f fn stk (lone (({(default:Frame)with fn:=f,kind:=kd}:Frame).atR {tmps:=A++Array.replicate (fn.ntmps-A.size) undef,defers:=[]} [.code c]) (stk m) w) res:=by rintro⟨Y,Z,vs,q3,q4⟩ ⟨todo,X⟩;obtain⟨v',F,rfl,u⟩:=hC _ _ q4;obtain⟨V,r1,r2⟩:=BW R.rel H.tm q3;obtain⟨ρ,N,Q⟩:=u σ τ w w' l R;have d:=H.df;rw[Y]at d;have B:RM ρ kd .no L:=by{have:=H.rc;rw[Z]at this;cases this with|normal m=>exact .normal _|quiet=>exact .quiet};refine⟨ρ,V,w',_,L,Q V r2,N,B,X,rfl,?_,rfl,rfl,r1⟩;show G.defers=[];generalize G.defers=ad at d;cases d;rfl
 cases ex with|normal=>exact p M ⟨[],c4 q (.one (stepR_end rfl))⟩|ret=>obtain⟨k₁,q⟩:=q;exact p M ⟨_,c4 q (.one (stepR_ret rfl))⟩|panic v=>obtain⟨Y,Z,q4⟩:=M;obtain⟨V,todo,hV,q⟩:=q;obtain⟨v',F,rfl,u⟩:=hD _ _ q4;obtain⟨ρ,N,Q⟩:=u σ τ w w' l R;have d:=H.df;rw[Y]at d;have B:RM ρ kd .no L:=by{have:=H.rc;rw[Z]at this;cases this with|normal m=>exact .normal _|quiet=>exact .quiet};refine⟨ρ,V,w',_,L,Q V hV,N,B,q,rfl,?_,rfl,rfl⟩;show G.defers=[];generalize G.defers=ad at d;cases d;rfl|_=>exact M.elim
theorem aFe{O:Orc}(l:lN P O){f:FuncId}{fn:Func}{c:Code}{args:List AV}{s:Sto}{v:AV}(d:okFn P f=true)(o:P.funcs[f]?=some fn)(m:fn.body=some c)(p:Und s.n v)(h:W P O c (MQ fn f args s) (jY P fn.results.toList (λS r=>s.n<=S.low/\r=v) λ_ _=>False)):bY P f args s (.ret v none):=sound_end l d o m (λS r e=>⟨v,none,rfl,by rw[e.2];exact yL e.1 p⟩) (λ_ _ h=>h.elim) h
theorem gT{f:FuncId}{args:List AV}{v:AV}(l:∀x∈args,Und 0 x)(h:bY P f args .empty (.ret v none)):Returns P f args v:=λs=>sound_empty (λσ A d=>⟨d.1,λi x X c e=>l x (Θ c) σ X (d.2 i x X c e)⟩) h ⟨_,.inl rfl⟩ s
theorem aVn{c:List ResultVar}{C D:Sto->AV->Prop}{nt:Nat}{ro:Option Nat}{fn:FuncId}{t:Tr AV}{s:Sto}:jY P c C D .ret ⟨nt,ro,fn,t,[],s,.no⟩↔DQ (bA P ⟨nt,ro,fn,t,[],s,.no⟩ c) C s:=by simp[jY]
theorem ZJ{c:List ResultVar}{C D:Sto->AV->Prop}{nt:Nat}{ro:Option Nat}{fn:FuncId}{t:Tr AV}{s:Sto}:jY P c C D .normal ⟨nt,ro,fn,t,[],s,.no⟩↔DQ (bA P ⟨nt,ro,fn,t,[],s,.no⟩ c) C s:=by simp[jY]
theorem bG{c:List ResultVar}{C D:Sto->AV->Prop}{nt:Nat}{ro:Option Nat}{fn:FuncId}{t:Tr AV}{s:Sto}{v:AV}:jY P c C D (.panic v) ⟨nt,ro,fn,t,[],s,.no⟩↔D s v:=by simp[jY]
theorem VE{e:Env}{d:Nat}{l:List ResultVar}:bA P e (.tmp d::l)=(bA P e l).map (e.t.val d::·):=by simp only[bA,Tr.val];cases h:bA P e l with|none=>rfl|some r=>simp only[ai];cases e.t.get d<;>rfl
theorem aM{e:Env}{a:Nat}{ty:TypeId}{l:List ResultVar}:bA P e (.cell a ty::l)=(gV P e.s ty (e.t.val a)).bind λv=>(bA P e l).map (v::·):=by simp only[bA,Tr.val];cases e.t.get a with|none=>{simp only[Option.getD_none];cases gV P e.s ty .top with|none=>rfl|some v=>cases bA P e l<;>rfl}|some x=>simp only[eh];cases gV P e.s ty x with|none=>rfl|some v=>cases bA P e l<;>rfl
end
def Tr.wr{α:Type}(t:Tr α)(i:Nat)(a:Option α):Tr α:=hr (i+1) t i a
theorem hl{α:Type}(f i:Nat)(t:Tr α)(a:Option α):hr (f+1) t i a=match t with| .leaf=>if i=0 then .node a .leaf .leaf else if i%2=1 then .node none (hr f .leaf (i/2) a) .leaf else .node none .leaf (hr f .leaf (i/2-1) a)| .node v l r=>if i=0 then .node a l r else if i%2=1 then .node v (hr f l (i/2) a) r else .node v l (hr f r (i/2-1) a):=by
 have c:∀{β:Type}(x y:β),@Bool.rec (λ_=>β) x y (Nat.beq i 0)=if i=0 then y else x:=by intro β x y;cases h:Nat.beq i 0 with|true=>simp[bl h]|false=>simp[aj h]
 have d:∀{β:Type}(x y:β),@Bool.rec (λ_=>β) x y (Nat.beq (Nat.mod i 2) 1)=if i%2=1 then y else x:=by intro β x y;show@Bool.rec (λ_=>β) x y (Nat.beq (i%2) 1)=_;cases h:Nat.beq (i%2) 1 with|true=>simp[bl h]|false=>simp[aj h]
 cases t with|leaf=>exact(c _ _).trans (by rw[d];rfl)|node v l r=>exact(c _ _).trans (by rw[d];rfl)
theorem h8{α:Type}:∀(f g i:Nat)(t:Tr α)(a b:Option α),i<f->i<g->hr g (hr f t i a) i b=hr g t i b:=by intro f;induction f with|zero=>intro g i t a b h;omega|succ f e=>intro g i t a b m o;obtain⟨g,rfl⟩:∃k,g=k+1:=⟨g-1,iu⟩;by_cases c:i=0;subst c;cases t<;>simp[hl];by_cases d:i%2=1;cases t with|leaf=>simp only[hl,Δ c,cm d];rw[e g _ _ _ _ iu iu]|node v l r=>{simp only[hl,Δ c,cm d];rw[e g _ _ _ _ iu iu]};cases t with|leaf=>simp only[hl,Δ c,Δ d];rw[e g _ _ _ _ iu iu]|node v l r=>simp only[hl,Δ c,Δ d];rw[e g _ _ _ _ iu iu]
theorem ic{α:Type}:∀(f g i j:Nat)(t:Tr α)(a b:Option α),i<f->j<g->i≠j->hr g (hr f t i a) j b=hr f (hr g t j b) i a:=by intro f;induction f with|zero=>intro g i j t a b h;omega|succ f o=>intro g i j t a b p q m;obtain⟨g,rfl⟩:∃k,g=k+1:=⟨g-1,iu⟩;by_cases d:i=0;subst d;have c:j≠0:=λh=>m h.symm;by_cases l:j%2=1<;>cases t<;>simp[hl,c,l];by_cases c:j=0;subst c;by_cases e:i%2=1<;>cases t<;>simp[hl,d,e];by_cases e:i%2=1<;>by_cases l:j%2=1;cases t<;>(simp only[hl,Δ d,cm e,Δ c,cm l];rw[o g _ _ _ _ _ iu iu iu]);cases t<;>simp only[hl,Δ d,cm e,Δ c,Δ l];cases t<;>simp only[hl,Δ d,Δ e,Δ c,cm l];cases t<;>(simp only[hl,Δ d,Δ e,Δ c,Δ l];rw[o g _ _ _ _ _ iu iu iu])
theorem ij{α:Type}(t:Tr α)(i:Nat)(a b:α):(t.set i a).set i b=t.set i b:=h8 _ _ _ _ _ _ iu iu
theorem ie{α:Type}(t:Tr α){i j:Nat}(a b:α)(h:i≠j):(t.set i a).set j b=(t.set j b).set i a:=ic _ _ _ _ _ _ _ iu iu h
theorem h6{α:Type}(l:List α):∀(t:Tr α)(k i:Nat)(a:α),i<k->(t.lay k l).set i a=(t.set i a).lay k l:=by induction l with|nil=>intro t k i a h;rfl|cons x l c=>intro t k i a h;simp only[Tr.lay];rw[c _ _ _ _ iu,ie _ _ _ iu]
theorem ik{α:Type}(l:List α):∀(t:Tr α)(k i:Nat)(a:α),i<l.length->(t.lay k l).set (k+i) a=t.lay k (l.set i a):=by induction l with|nil=>intro t k i a h;simp at h|cons x l c=>intro t k i a h;cases i with|zero=>simp only[Tr.lay,List.set_cons_zero,dt];rw[h6 _ _ _ _ _ iu,ij]|succ i=>simp only[Tr.lay,List.set_cons_succ];rw[<-c _ _ _ _ (by simpa using h)];congr 1;omega
theorem h7{α:Type}(l m:List α):∀(t:Tr α)(k:Nat),(t.lay k l).lay (k+l.length) m=t.lay k (l++m):=by induction l with|nil=>intro t k;rfl|cons x l c=>intro t k;simp only[Tr.lay,c8,cj];rw[<-c];congr 1;omega
def dL{α:Type}(l:List α)(off:Nat)(m:List α):List α:=l.take off++m++l.drop (off+m.length)
theorem MR{α:Type}(l:List α)(off:Nat):dL l off []=l:=by simp[dL]
theorem tC{α:Type}(l m:List α)(off:Nat)(h:off+m.length<=l.length):(dL l off m).length=l.length:=by simp[dL];omega
theorem IB{α:Type}(l m:List α)(off:Nat)(a:α)(h:off+(a::m).length<=l.length):dL l off (a::m)=dL (l.set off a) (off+1) m:=by
 simp only[cj]at h;apply fp;intro i;simp only[dL,cj];simp only[f1,c6,γ,cj,ek,d1,gn,f7];have q:min off l.length=off:=iu
 have r:min (off+1) l.length=off+1:=iu
 rw[q,r];by_cases c:i<off;have:off≠i:=iu
 simp[c,show i<off+1 by omega,show i<off+(m.length+1) by omega,show i<off+1+m.length by omega,this];by_cases f:i=off;subst f;simp[show i<l.length by omega,show i<i+1+m.length by omega];by_cases e:i<off+(m.length+1);obtain⟨d,rfl⟩:∃d,i=off+1+d:=⟨i-off-1,iu⟩;rw[Δ c,cm e,Δ (show¬off+1+d<off+1 by omega),cm (show off+1+d<off+1+m.length by omega)];simp[show off+1+d-off=d+1 by omega];have o:off+(m.length+1)+(i-(off+(m.length+1)))=i:=iu
 have p:off+1+m.length+(i-(off+1+m.length))=i:=iu
 simp[e,show¬i<off+1+m.length by omega,o,p,show off≠i by omega]
theorem hS{α:Type}(m:List α):∀(l:List α)(off:Nat),off+m.length<=l.length->((Tr.leaf.lay 0 l).lay off m)=Tr.leaf.lay 0 (dL l off m):=by induction m with|nil=>intro l off _;rw[MR];rfl|cons a m c=>intro l off h;simp only[Tr.lay];have d:off+m.length+1<=l.length:=by{simpa[bf]using h};have:=ik l .leaf 0 off a iu;rw[ξ]at this;rw[this,c _ _ (by simp;omega),IB _ _ _ _ h]
theorem ho{α:Type}(l:List α)(i:Nat):(Tr.leaf.lay 0 l).get i=l[i]?:=by rw[hP];by_cases h:i<l.length;simp[h];rw[Δ iu,b2 iu];rfl
theorem ih(l:List AV)(i:Nat):(Tr.leaf.lay 0 l).val i=l[i]?.getD .top:=by rw[Tr.val,ho]
theorem hN{α:Type}(l:List α):∀(k off:Nat),off+k<=l.length->(Tr.leaf.lay 0 l).row off k=some (aQ l off k):=by intro k;induction k with|zero=>intro off _;simp[Tr.row,aQ]|succ k c=>intro off h;simp only[Tr.row,ho];rw[η (show off<l.length by omega),c (off+1) iu];simp only[aQ];rw[<-gx (show off<l.length by omega),ak]
def aR(g:Nat)(cs:List AV):AObj:=.cells g cs.length (Tr.leaf.lay 0 cs)
theorem ip{n low:Nat}{o:Tr AObj}{x:AObj}:(Sto.mk n low o).push x=⟨n+1,low,o.set n x⟩:=rfl
theorem hH{n low:Nat}{o:Tr AObj}{i:Nat}(h:i<n):(Sto.mk n low o).get i=o.get i:=by rw[hG];exact cm h
theorem ig{n:Nat}{o:Tr AObj}{i:Nat}{x:AObj}:(Sto.mk n 0 o).put i x=⟨n,0,o.set i x⟩:=by
 simp only[Sto.put];have:Nat.blt i 0=false:=by cases h:Nat.blt i 0<;>simp_all
 rw[this];rfl
theorem hA{α:Type}(t:Tr α)(i:Nat)(a:α):(t.set i a).get i=some a:=by simp[hJ]
theorem _root_.Go.it{p:Prop}(h:p:=by rw [hA]):p:=h
theorem hB{α:Type}(t:Tr α){i j:Nat}(a:α)(h:j≠i):(t.set i a).get j=t.get j:=by simp[hJ,h]
theorem _root_.Go.i1{p:Prop}(h:p:=by rw [hB _ _ (by omega)]):p:=h
theorem _root_.Go.i5{p:Prop}(h:p:=by rw [hB _ _ (by omega),hA]):p:=h
theorem _root_.Go.jb{p:Prop}(h:p:=by rw [hB _ _ (by omega),hB _ _ (by omega),hA]):p:=h
section
variable {P:Program}
def tyK(P:Program)(t:TypeId):Option (Option Nat):=match IS P t,xF P t with|some true,some n=>some (some n)|some false,some 1=>some none|_,_=>none
def bL(P:Program)(t:TypeId)(f:Nat):Option (Nat × Option Nat):=match P.underlying t with|some (.struct fields)=>(match fields[f]? with|some c=>(match tyK P c.type with|some x=>(match x with|some 0=>none|_=>some (c.offset,x))|none=>none)|none=>none)|_=>none
def qU(P:Program)(t:TypeId):Option Nat:=match P.underlying t with|some (.slice e)=>xF P e|_=>none
def ZK(P:Program)(t:TypeId):Option (Nat × Option Nat):=match P.underlying t with|some (.array n e)=>(tyK P e).map λx=>(n,x)|_=>none
def apK(P:Program)(t:TypeId):Option (Nat × Nat):=match P.underlying t with|some (.slice e)=>(match xF P e,rV P e,bI P e with|some k,some b,some z=>bif Nat.beq z.cells.length k then some (k,b)else none|_,_,_=>none)|_=>none
def nN:Option Nat->Nat|none=>1|some n=>n
theorem tE{t:TypeId}{x:Option Nat}(h:tyK P t=some x):xF P t=some (nN x)/\IS P t=some x.isSome:=by unfold tyK at h;split at h;rename_i c d;cases h;exact⟨d,c⟩;rename_i c d;cases h;exact⟨d,c⟩;cases h
def PO(x:Option (Option Nat))(o:Option AObj)(g off:Nat):Option AV:=match x,o with|some none,some (.cells g' n c)=>bif Nat.beq g g' then(bif Nat.blt off n then c.get off else none)else none|some (some k),some (.cells g' n c)=>bif Nat.beq g g' then(bif Nat.ble (off+k) n then(match c.row off k with|some l=>some (.agg l)|none=>none)else none)else none|_,_=>none
theorem aNo{s:Sto}{t:TypeId}{id g off:Nat}{x:Option Nat}(h:tyK P t=some x):gV P s t (.ptr id g off)=PO (some x) (s.get id) g off:=by obtain⟨d,e⟩:=tE h;simp only[gV,d,e];cases s.get id with|none=>cases x<;>rfl|some o=>cases o with|cells g' n c=>cases x<;>rfl|_=>cases x<;>rfl
theorem a2u{g off:Nat}{cs:List AV}:PO (some none) (some (aR g cs)) g off=cs[off]?:=by simp only[PO,aR,bk,b5,gE,ho];split;rfl;rename_i h;rw[b2 iu]
theorem a2v{g off k:Nat}{cs:List AV}(h:off+k<=cs.length):PO (some (some k)) (some (aR g cs)) g off=some (.agg (aQ cs off k)):=by
 have:Nat.ble (off+k) cs.length=true:=by simpa using h
 simp only[PO,aR,bk,b5,this,hN _ _ _ h]
theorem MS{cs:List AV}{off:Nat}{a:AV}(h:off<cs.length):dL cs off [a]=cs.set off a:=by rw[IB _ _ _ _ (by simp;omega),MR]
def stK(s:Sto)(x:Option (Option Nat))(id g off:Nat)(v:AV)(o:Option AObj):Option Sto:=match x,o with|some x,some (.cells g' n c)=>bif Nat.beq g g'&&Nat.ble (off+nN x) n&&Nat.beq v.cells.length (nN x)&&v.cells.all AV.isCell then some (s.put id (.cells g' n (c.lay off v.cells)))else none|_,_=>none
theorem aFf{s:Sto}{t:TypeId}{id g off:Nat}{v:AV}{x:Option Nat}(h:tyK P t=some x):pM P s t (.ptr id g off) v=stK s (some x) id g off v (s.get id):=by obtain⟨c,d⟩:=tE h;simp only[pM,c];cases s.get id with|none=>rfl|some o=>cases o<;>rfl
theorem a2x{s:Sto}{id g off:Nat}{v:AV}{cs:List AV}(c:v.isCell=true)(e:off<cs.length):stK s (some none) id g off v (some (aR g cs))=some (s.put id (aR g (cs.set off v))):=by
 have f:v.cells=[v]:=by cases v<;>first|rfl|cases c
 have d:Nat.ble (off+1) cs.length=true:=by simp;omega
 simp only[stK,aR,bk,nN,d,f,cj,cz,bw,b4,c,bp,b5];rw[hS _ _ _ (by simp;omega),MS e,gn]
theorem a2y{s:Sto}{id g off k:Nat}{vs cs:List AV}(f:vs.length=k)(e:vs.all AV.isCell=true)(c:off+k<=cs.length):stK s (some (some k)) id g off (.agg vs) (some (aR g cs))=some (s.put id (aR g (dL cs off vs))):=by
 subst f;have d:Nat.ble (off+vs.length) cs.length=true:=by simpa using c
 simp only[stK,aR,bk,nN,d,AV.cells,e,bp,b5];rw[hS _ _ _ c,tC _ _ _ c]
theorem aFg{cs vs:List AV}(h:vs.length=cs.length):dL cs 0 vs=vs:=by simp[dL,h]
theorem MT{t:TypeId}{id g o f off:Nat}{x:Option Nat}(h:bL P t f=some (off,x)):cS P t (.ptr id g o) f=some (.ptr id g (o+off)):=by
 unfold bL at h;split at h;rename_i fields p;split at h;rename_i r c;split at h;rename_i y q;obtain⟨e,_⟩:=tE q;unfold cS;rw[p];simp only[c,e];split at h;cases h;rename_i d;simp only[Φ,dl]at h;obtain⟨rfl,rfl⟩:=h;have:∃m,nN y=m+1:=by cases y with|none=>exact⟨0,rfl⟩|some n=>cases n with|zero=>exact absurd rfl d|succ m=>exact⟨m,rfl⟩
 obtain⟨m,l⟩:=this;rw[l];cases h;cases h;cases h
def ptK(x:Option Nat)(cs:List AV)(off:Nat):Option AV:=match x with|none=>cs[off]?|some n=>bif Nat.ble (off+n) cs.length then some (.agg (aQ cs off n))else none
theorem zR{t:TypeId}{x:Option Nat}{cs:List AV}{off:Nat}(h:tyK P t=some x):nO P t cs off=ptK x cs off:=by obtain⟨c,d⟩:=tE h;simp only[nO,c,d];cases x<;>rfl
theorem aFh{t:TypeId}{cs:List AV}{f off:Nat}{x:Option Nat}(h:bL P t f=some (off,x)):tJ P t (.agg cs) f=ptK x cs off:=by unfold bL at h;split at h;rename_i fields d;split at h;rename_i l c;split at h;rename_i y e;split at h;cases h;simp only[Φ,dl]at h;obtain⟨rfl,rfl⟩:=h;simp only[tJ,d,c,zR e];cases h;cases h;cases h
variable {t:TypeId} {x y:Operand} {k:IntKind} {a b:Int}
theorem VF{a b:Int}:(a==b)=decide (a=b):=by rw[ay];simp
theorem aVp:abin P .add t x y (.int k a) (.int k b)=some (.int k (k.wrap (a+b))):=i7
theorem aVq:abin P .sub t x y (.int k a) (.int k b)=some (.int k (k.wrap (a-b))):=i7
theorem aVr:abin P .mul t x y (.int k a) (.int k b)=some (.int k (k.wrap (a*b))):=i7
theorem aVs(h:b≠0):abin P .quo t x y (.int k a) (.int k b)=some (.int k (k.wrap (a.tdiv b))):=by simp[abin,kL,eL,h]
theorem aVt(h:b≠0):abin P .rem t x y (.int k a) (.int k b)=some (.int k (a.tmod b)):=by simp[abin,kL,eL,h]
theorem aVu:abin P .eql t x y (.int k a) (.int k b)=some (.bool (decide (a=b))):=by simp[abin,kL,nY,fL,VF]
theorem aVv:abin P .neq t x y (.int k a) (.int k b)=some (.bool (!decide (a=b))):=by simp[abin,kL,nY,fL,VF]
theorem aVw:abin P .lss t x y (.int k a) (.int k b)=some (.bool (decide (a<b))):=i8
theorem aVx:abin P .leq t x y (.int k a) (.int k b)=some (.bool (decide (a<=b))):=i8
theorem aVy:abin P .gtr t x y (.int k a) (.int k b)=some (.bool (decide (b<a))):=i8
theorem aVz:abin P .geq t x y (.int k a) (.int k b)=some (.bool (decide (b<=a))):=i8
theorem a2z:abin P .or t x y (.int k a) (.int k b)=some (.int k (k.wrap (BitVec.ofInt k.bits a ||| BitVec.ofInt k.bits b).toNat)):=i7
theorem aWa{c:IntKind}(h:¬b<0):abin P .shl t x y (.int k a) (.int c b)=some (.int k (k.wrap (a*2 ^ (min b.toNat k.bits)))):=by simp[abin,eL,h]
theorem DR{c:IntKind}(h:¬b<0):abin P .shr t x y (.int k a) (.int c b)=some (.int k (a.fdiv (2 ^ (min b.toNat k.bits)))):=by simp[abin,eL,h]
theorem a3a:aun .neg (.int k a)=some (.int k (k.wrap (0-a))):=by simp[aun,eL]
theorem ZL{a b:List Nat}:fV Nat.beq a b=decide (a=b):=by induction a generalizing b with|nil=>cases b<;>simp[fV]|cons x a c=>cases b with|nil=>simp[fV]|cons y b=>simp only[fV,c];cases h:Nat.beq x y with|true=>have:=bl h;simp[this]|false=>have:=aj h;simp[this]
theorem DS{a b:List Nat}:abin P .eql t x y (.str a) (.str b)=some (.bool (decide (a=b))):=by simp[abin,GL,ZL]
theorem jZ{a b:List Nat}:abin P .neq t x y (.str a) (.str b)=some (.bool (!decide (a=b))):=by simp[abin,GL,ZL]
theorem aW{a b:List Nat}(h:a.length+b.length<9223372036854775808):abin P .add t x y (.str a) (.str b)=some (.str (a++b)):=by
 have:Nat.blt (a.length+b.length) 9223372036854775808=true:=by simpa using h
 simp[abin,GL,this]
theorem a7v{l:List Nat}:(AV.str l).isCell=true:=rfl
theorem fI{v:AV}(h:v.isCell=true):v.cells=[v]:=by cases v<;>first|rfl|cases h
end
section
variable {P:Program}
def Ok(P:Program)(f:FuncId)(g:List AV->Option AV):Prop:=∀args v,g args=some v->Returns P f args v
def ent(f:FuncId)(g:List AV->Option AV):jF:=(f,λargs _=>(g args).map λv=>.ret v none)
theorem Ok.ent{f:FuncId}{g:List AV->Option AV}(h:Ok P f g):eB P (ent f g):=by intro args s res c;simp only[Go.Abs.ent]at c;cases d:g args with|none=>rw[d]at c;cases c|some v=>rw[d]at c;simp only[ai,Φ]at c;subst c;exact h args v d s
theorem ent_same{f:FuncId}{g:List AV->Option AV}{L:List jF}{args:List AV}{s:Sto}:orcL (ent f g::L) f args s=(g args).map λv=>.ret v none:=zT
theorem nW{f h:FuncId}{g:List AV->Option AV}{L:List jF}{args:List AV}{s:Sto}(c:h≠f):orcL (ent h g::L) f args s=orcL L f args s:=JT c
theorem mS{fn:Func}{f:FuncId}{args:List AV}{s:Sto}{N:Nat}(d:fn.ntmps=N)(c:Nat.ble args.length N=true):MQ fn f args s=⟨N,none,f,Tr.leaf.lay 0 args,[],⟨s.n,s.n,s.o⟩,.no⟩:=by
 have:Nat.max args.length fn.ntmps=N:=by rw[d];have:=av c;exact Nat.max_eq_right this
 simp only[MQ,this]
theorem VG{L:List jF}(m:∀x∈L,eB P x){f:FuncId}{fn:Func}{c:Code}{N:Nat}{l:List ResultVar}{args:List AV}{v:AV}(d:okFn P f=true)(q:P.funcs[f]?=some fn)(u:fn.ntmps=N)(e:fn.results=l.toArray)(p:fn.body=some c)(o:Nat.ble args.length N=true)(w:∀x∈args,Und 0 x)(A:Und 0 v)(h:W P (orcL L) c ⟨N,none,f,Tr.leaf.lay 0 args,[],⟨0,0,.leaf⟩,.no⟩ (jY P l (λ_ r=>r=v) λ_ _=>False)):Returns P f args v:=by refine gT w (sound_end (O:=orcL L) (zU m) d q p (C:=λ_ r=>r=v) (D:=λ_ _=>False) (λS r e=>⟨v,none,rfl,by rw[e];exact yL (μ _) A⟩) (λ_ _ h=>h.elim) ?_);rw[mS u o,e];exact h
theorem AY{L:List jF}(m:∀x∈L,eB P x){f:FuncId}{fn:Func}{c:Code}{N:Nat}{l:List ResultVar}{args:List AV}{v:AV}(d:okFn P f=true)(q:P.funcs[f]?=some fn)(u:fn.ntmps=N)(e:fn.results=l.toArray)(p:fn.body=some c)(o:Nat.ble args.length N=true)(w:∀x∈args,Und 0 x)(h:W P (orcL L) c ⟨N,none,f,Tr.leaf.lay 0 args,[],⟨0,0,.leaf⟩,.no⟩ (jY P l (λS r=>Frz S 0 r v) λ_ _=>False)):Returns P f args v:=by refine gT w (sound_end (O:=orcL L) (zU m) d q p (C:=λS r=>Frz S 0 r v) (D:=λ_ _=>False) (λS r e=>⟨v,none,rfl,vD (μ _) e⟩) (λ_ _ h=>h.elim) ?_);rw[mS u o,e];exact h
