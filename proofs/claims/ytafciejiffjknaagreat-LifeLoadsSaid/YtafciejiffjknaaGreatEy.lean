/-.-/
import Derived.Test.YtafciejiffjknaaGreatEt
set_option linter.unusedVariables false
namespace Go
abbrev db:=@eq_true
end Go
namespace Go.Abs
noncomputable section
variable {P:Program}
def sgA(w:World):Sg:=⟨λb off=>w.cell? ⟨b,off,none⟩,λ_ _=>none⟩
theorem bBr{σ:Sg}{S:Sto}{w:World}(B:Rel σ S w){v v':AV}(hf:Frz S 0 v v'):∀V,VR σ v V->VR (sgA w) v' V:=by have ab:(σ.cut 0).le (sgA w):=⟨λid g x hx=>(by have:(σ.cut 0).s id g=some x:=hx;simp only[Sg.cut]at this;rw[Δ iu]at this;cases this),λb off V q=>(B.mu b off V q).1⟩;induction hf with|und v hu=>exact λV q=>(hu σ V q).mono ab|agg l l' H _ L=>{intro V q;cases q with|agg _ ys D p=>refine .agg _ _ (by rw[<-H];exact D) λi y Y h u=>?_;have e:i<l.length:=by{rw[H];exact(ζ.1 h).1};exact L i l[i] y (η e) h Y (p i _ Y (η e) u)}|tuple l l' H _ L=>{intro V q;cases q with|tuple _ ys D p=>refine .tuple _ _ (by rw[<-H];exact D) λi y Y h u=>?_;have e:i<l.length:=by{rw[H];exact(ζ.1 h).1};exact L i l[i] y (η e) h Y (p i _ Y (η e) u)}|func f a a' c c' Q R _ _ ac ad=>{intro V q;cases q with|func _ F _ _ A C hF D p M N=>refine .func _ _ _ _ _ _ (by cases hF;exact .func f) (by rw[<-Q];exact D) (by rw[<-R];exact p) (λi y Y h u=>?_) (λi y Y h u=>?_);have e:i<a.length:=by{rw[Q];exact(ζ.1 h).1};exact ac i a[i] y (η e) h Y (M i _ Y (η e) u);have e:i<c.length:=by{rw[R];exact(ζ.1 h).1};exact ad i c[i] y (η e) h Y (N i _ Y (η e) u)}|sl id g off len cap m k c l a aa hg H hm hk Z _ L=>{intro V q;cases q with|sl _ _ _ _ _ b base sz C J T ae=>obtain⟨b',base',sz',o,h,u,X⟩:=B.obj id _ hg;have r:σ id g=some (b',base',sz'):=h;rw[J]at r;obtain⟨rfl,rfl,rfl⟩:b=b'/\base=base'/\sz=sz':=by{simpa using r};cases X with|cells _ _ _ arr el fr q1 q2 q3 q4=>have d:∀j,j<m->w.cell? ⟨b,base+j,none⟩=arr[base+j]?:=λj E=>by{simp[World.cell?,u]};have G:∀i j,i<l.length->j<k->off+i*k+j<m:=by{intro i j e E;have:i*k+k<=len*k:=by{rw[<-aq];exact bx k iu};omega};subst H;refine .fz l false ⟨b,base+off,none⟩ C b (base+off) k (λ_=>rfl) T (λhc=>by cases hc) hk (λi j x y W D p M=>?_) (λi j e E=>?_);have e:=(ζ.1 D).1;have E:j<k:=by{rw[<-hk x (Θ D)];exact(ζ.1 p).1};obtain⟨W',N,U⟩:=q3 _ (a i j) (G i j e E) (Z i j x y D p);have O:w.cell? ⟨b,base+off+i*k+j,none⟩=some W:=M;rw[show base+off+i*k+j=base+(off+i*k+j) by omega,d _ (G i j e E),N]at O;cases O;exact L i j x y D p W U;show(w.cell? ⟨b,base+off+i*k+j,none⟩).isSome=true;rw[show base+off+i*k+j=base+(off+i*k+j) by omega,d _ (G i j e E)];have:=G i j e E;rw[b8 (show base+(off+i*k+j)<arr.size by omega)];rfl}|ptr id g off m c v a aa hg hm Z _ L=>intro V q;cases q with|ptr _ _ _ b base sz J=>obtain⟨b',base',sz',o,h,u,X⟩:=B.obj id _ hg;have r:σ id g=some (b',base',sz'):=h;rw[J]at r;obtain⟨rfl,rfl,rfl⟩:b=b'/\base=base'/\sz=sz':=by{simpa using r};cases X with|cells _ _ _ arr el fr q1 q2 q3 q4=>have d:∀j,j<m->w.cell? ⟨b,base+j,none⟩=arr[base+j]?:=λj E=>by{simp[World.cell?,u]};refine .pf v b (base+off) (λj y W p M=>?_) (λj E=>?_);have E:=(ζ.1 p).1;obtain⟨W',N,U⟩:=q3 _ (a j) iu (Z j y p);have O:w.cell? ⟨b,base+off+j,none⟩=some W:=M;rw[show base+off+j=base+(off+j) by omega,d _ iu,N]at O;cases O;exact L j y p W U;show(w.cell? ⟨b,base+off+j,none⟩).isSome=true;rw[show base+off+j=base+(off+j) by omega,d _ iu];rw[b8 (show base+(off+j)<arr.size by omega)];rfl
def aEt(v:AV):Prop:=∀(σ τ:Sg) V,VR σ v V->VR τ v V
theorem aJf{l:List Nat}:aEt (.str l):=λ_ _ _ h=>by cases h;rename_i a;exact .str _ _ a
theorem a1q{k:IntKind}{n:Int}:aEt (.int k n):=λ_ _ _ h=>by cases h;exact .int k n
theorem uA{b:Bool}:aEt (.bool b):=λ_ _ _ h=>by cases h;exact .bool b
theorem aMs{l:List AV}(h:∀x∈l,aEt x):aEt (.tuple l):=λσ τ _ e=>by cases e with|tuple _ f d c=>exact .tuple _ _ d λi x X a b=>h x (Θ a) σ τ X (c i x X a b)
def FrzL(s:Sto):List AV->List AV->Prop|[],[]=>True|a::l,b::c=>Frz s 0 a b/\FrzL s l c|_,_=>False
theorem FrzL.get{s:Sto}:∀{l b:List AV},FrzL s l b->l.length=b.length/\∀(i:Nat) x y,l[i]?=some x->b[i]?=some y->Frz s 0 x y|[],[],_=>⟨rfl,λi x y h=>by simp at h⟩|[],_::_,h=>h.elim|_::_,[],h=>h.elim|a::l,k::b,h=>by obtain⟨e,f⟩:=FrzL.get h.2;refine⟨by simp[e],λi x y c d=>?_⟩;cases i with|zero=>simp at c d;subst c;subst d;exact h.1|succ i=>exact f i x y (by simpa using c) (by simpa using d)
theorem uW{f:FuncId}{args a:List AV}{v:AV}(h:Returns P f a v)(M:aEt v){s:Sto}(J:FrzL s args a):bY P f args s (.ret v none):=by
 obtain⟨F,L⟩:=J.get;obtain⟨u,fn,r,H⟩:=h .empty;refine⟨u,fn,r,λσ w A kd stk m d D l B=>?_⟩;have e:Rel (sgA w) Sto.empty w:={obj:=λid x c=>(by rw[hi]at c;cases c),inj:=λid x N U b base sz base' sz' c=>(by rw[hi]at c;cases c),mu:=λb off V o=>⟨o,λ⟨id,x,base,sz,c,_⟩=>(by rw[hi]at c;cases c)⟩,bnd:=λid g x c=>(by cases c),gen:=λid x g y c=>(by rw[hi]at c;cases c),top:=λid _=>rfl};have k:RM (sgA w) kd .no m:=by cases B with|normal m=>exact .normal m|quiet=>exact .quiet
 have p:VRs (sgA w) a A.toList:=⟨by rw[<-F];exact D.1,λi x X C G=>by have E:i<args.length:=by{rw[F];exact(ζ.1 C).1};exact bBr d (L i args[i] x (η E) C) X (D.2 i _ X (η E) G)⟩;obtain⟨τ,V,w',fr,O,Q,R,T,S⟩:=H (sgA w) w A kd stk m e p l k;refine⟨σ,V,w',fr,O,M τ σ V Q,⟨R.q,⟨λ_ _ _ h=>h,λ_ _ _ h=>h⟩,rfl,λb off V o=>.inl o⟩,?_,S⟩;cases T with|normal m=>exact .normal _|quiet=>exact .quiet
theorem UL{S:Sto}{c:Nat}{v:AV}{cs:List AV}(e:S.get c=some (aR 0 cs))(b:v.cells=cs)(f:∀x∈cs,Und 0 x):Frz S 0 (.ptr c 0 0) (.pf v):=by refine aJm (μ _) e (by rw[b];omega) λj x y d a=>?_;rw[b]at a;rw[ξ,a]at d;cases d;exact .und _ (f _ (Θ a))
theorem uX{S:Sto}{c:Nat}{v:AV}{cs:List AV}{f:FuncId}(a:S.get c=some (aR 0 cs))(d:v.cells=cs)(b:∀x∈cs,Und 0 x):Frz S 0 (.func (.func f) [] [.ptr c 0 0]) (.func (.func f) [] [.pf v]):=.func f _ _ _ _ rfl rfl (λi x y h=>by simp at h) (bS (UL a d b) iF)
theorem uB{cs:List AV}{k:Nat}(h:cs.length=k):aQ cs 0 k=cs:=by unfold aQ;rw[c9,ck iu]
def entB(f:FuncId)(D:List AV->Sto->Prop)(g:List AV->AV):jF:=(f,λargs s=>@ite _ (D args s) (Classical.propDecidable _) (some (.ret (g args) none)) none)
theorem entB_ok{f:FuncId}{D:List AV->Sto->Prop}{g:List AV->AV}(h:∀args s,D args s->bY P f args s (.ret (g args) none)):eB P (entB f D g):=by intro args s res a;simp only[entB]at a;split at a;rename_i b;cases a;exact h _ _ b;cases a
theorem jX{f:FuncId}{D:List AV->Sto->Prop}{g:List AV->AV}{L:List jF}{args:List AV}{s:Sto}(h:D args s):orcL (entB f D g::L) f args s=some (.ret (g args) none):=by rw[entB,zT];exact cm h
def onL(c:AV)(D:AV->Prop)(S:Sto->Prop):List AV->Sto->Prop|[a,b],s=>b=c/\D a/\S s|_,_=>False
def _root_.Go.Abs.AV.els:AV->List AV| .fz xs _=>xs|_=>[]
def _root_.Go.Abs.AV.num:AV->Int| .int _ n=>n|_=>0
def _root_.Go.Abs.AV.fld(k:Nat):AV->AV| .agg l=>l.getD k .top|_=>.top
def _root_.Go.Abs.AV.txt:AV->List Nat| .str l=>l|_=>[]
theorem Sl.els{a:AV}{xs:List AV}(h:Sl a xs):a.els=xs:=by rcases h.1 with⟨rfl,rfl⟩|⟨c,rfl⟩<;>rfl
def dR(a:AV):Prop:=∃n,a=.int .i64 n
def aUf(a:AV):Prop:=∃b,a=.bool b
def nR(a:AV):Prop:=∃l,a=.str l/\l.length<9223372036854775808/\By l
def TSl(T:AV->Prop)(a:AV):Prop:=∃xs,Sl a xs/\∀x∈xs,T x
def T2(A B:AV->Prop)(a:AV):Prop:=∃x y,a=.agg [x,y]/\A x/\B y
def T3(A B C:AV->Prop)(a:AV):Prop:=∃x y z,a=.agg [x,y,z]/\A x/\B y/\C z
def T4(A B C D:AV->Prop)(a:AV):Prop:=∃x y z u,a=.agg [x,y,z,u]/\A x/\B y/\C z/\D u
def T5(A B C D E:AV->Prop)(a:AV):Prop:=∃x y z u v,a=.agg [x,y,z,u,v]/\A x/\B y/\C z/\D u/\E v
def Tu(T:AV->Prop):Prop:=∀a,T a->UnderE 0 a/\a.isCell=true
def Tk(k:Nat)(T:AV->Prop):Prop:=∀a,T a->UnderE 0 a/\∃cs,a=.agg cs/\cs.length=k/\cs.all AV.isCell=true
theorem tu_int:Tu dR:=λa ⟨n,h⟩=>by subst h;exact⟨⟨1,rfl⟩,rfl⟩
theorem aJg:Tu aUf:=λa ⟨n,h⟩=>by subst h;exact⟨⟨1,rfl⟩,rfl⟩
theorem tu_str:Tu nR:=λa ⟨n,h,_⟩=>by subst h;exact⟨⟨1,rfl⟩,rfl⟩
theorem jM{T:AV->Prop}(h:∀a,T a->UnderE 0 a):Tu (TSl T):=λa ⟨xs,b,d⟩=>⟨vC b λx c=>h x (d x c),b.cell⟩
theorem BP{T:AV->Prop}(h:Tu T):∀a,T a->UnderE 0 a:=λa b=>(h a b).1
theorem lK{T:AV->Prop}{k:Nat}(h:Tk k T):∀a,T a->UnderE 0 a:=λa b=>(h a b).1
theorem tk2{A B:AV->Prop}(d:Tu A)(e:Tu B):Tk 2 (T2 A B):=λa ⟨x,y,h,b,c⟩=>by subst h;refine⟨cL λz f=>?_,_,rfl,rfl,?_⟩;simp at f;rcases f with rfl|rfl;exact(d _ b).1;exact(e _ c).1;simp[(d _ b).2,(e _ c).2]
theorem tk3{A B C:AV->Prop}(e:Tu A)(f:Tu B)(k:Tu C):Tk 3 (T3 A B C):=λa ⟨x,y,z,h,b,c,d⟩=>by subst h;refine⟨cL λz l=>?_,_,rfl,rfl,?_⟩;simp at l;rcases l with rfl|rfl|rfl;exact(e _ b).1;exact(f _ c).1;exact(k _ d).1;simp[(e _ b).2,(f _ c).2,(k _ d).2]
theorem tk4{A B C D:AV->Prop}(f:Tu A)(k:Tu B)(l:Tu C)(m:Tu D):Tk 4 (T4 A B C D):=λa ⟨x,y,z,u,h,b,c,d,e⟩=>by subst h;refine⟨cL λz o=>?_,_,rfl,rfl,?_⟩;simp at o;rcases o with rfl|rfl|rfl|rfl;exact(f _ b).1;exact(k _ c).1;exact(l _ d).1;exact(m _ e).1;simp[(f _ b).2,(k _ c).2,(l _ d).2,(m _ e).2]
theorem tk5{A B C D E:AV->Prop}(k:Tu A)(l:Tu B)(m:Tu C)(o:Tu D)(p:Tu E):Tk 5 (T5 A B C D E):=λa ⟨x,y,z,u,v,h,b,c,d,e,f⟩=>by subst h;refine⟨cL λz q=>?_,_,rfl,rfl,?_⟩;simp at q;rcases q with rfl|rfl|rfl|rfl|rfl;exact(k _ b).1;exact(l _ c).1;exact(m _ d).1;exact(o _ e).1;exact(p _ f).1;simp[(k _ b).2,(l _ c).2,(m _ d).2,(o _ e).2,(p _ f).2]
def xK(A:AV->Prop)(g:AV->AV):List AV->Option AV|[a]=>@ite _ (A a) (Classical.propDecidable _) (some (g a)) none|_=>none
def zN(R:AV->AV->Prop)(g:AV->AV->AV):List AV->Option AV|[a,b]=>@ite _ (R a b) (Classical.propDecidable _) (some (g a b)) none|_=>none
def sg3(R:AV->AV->AV->Prop)(g:AV->AV->AV->AV):List AV->Option AV|[a,b,c]=>@ite _ (R a b c) (Classical.propDecidable _) (some (g a b c)) none|_=>none
def sg4(R:AV->AV->AV->AV->Prop)(g:AV->AV->AV->AV->AV):List AV->Option AV|[a,b,c,d]=>@ite _ (R a b c d) (Classical.propDecidable _) (some (g a b c d)) none|_=>none
theorem dS{A:AV->Prop}{g:AV->AV}{a:AV}(h:A a):xK A g [a]=some (g a):=cm h
theorem sg2_eq{R:AV->AV->Prop}{g:AV->AV->AV}{a b:AV}(h:R a b):zN R g [a,b]=some (g a b):=cm h
theorem nS{R:AV->AV->AV->Prop}{g:AV->AV->AV->AV}{a b c:AV}(h:R a b c):sg3 R g [a,b,c]=some (g a b c):=cm h
theorem UN{R:AV->AV->AV->AV->Prop}{g:AV->AV->AV->AV->AV}{a b c d:AV}(h:R a b c d):sg4 R g [a,b,c,d]=some (g a b c d):=cm h
theorem DB{f:FuncId}{A:AV->Prop}{g:AV->AV}(h:∀a,A a->Returns P f [a] (g a)):Ok P f (xK A g):=λargs v b=>by match args,b with|[a],b=>simp only[xK]at b;split at b;rename_i c;cases b;exact h _ c;cases b
theorem ok2{f:FuncId}{R:AV->AV->Prop}{g:AV->AV->AV}(h:∀a b,R a b->Returns P f [a,b] (g a b)):Ok P f (zN R g):=λargs v c=>by match args,c with|[a,b],c=>simp only[zN]at c;split at c;rename_i d;cases c;exact h _ _ d;cases c
theorem ok3{f:FuncId}{R:AV->AV->AV->Prop}{g:AV->AV->AV->AV}(h:∀a b c,R a b c->Returns P f [a,b,c] (g a b c)):Ok P f (sg3 R g):=λargs v d=>by match args,d with|[a,b,c],d=>simp only[sg3]at d;split at d;rename_i e;cases d;exact h _ _ _ e;cases d
theorem ok4{f:FuncId}{R:AV->AV->AV->AV->Prop}{g:AV->AV->AV->AV->AV}(h:∀a b c d,R a b c d->Returns P f [a,b,c,d] (g a b c d)):Ok P f (sg4 R g):=λargs v e=>by match args,e with|[a,b,c,d],e=>simp only[sg4]at e;split at e;rename_i k;cases e;exact h _ _ _ _ k;cases e
theorem Tk.len{k:Nat}{D:AV->Prop}(h:Tk k D){x:AV}(b:D x):x.cells.length=k:=by obtain⟨_,cs,rfl,a,_⟩:=h x b;exact a
theorem Tu.len{D:AV->Prop}(h:Tu D){x:AV}(a:D x):x.cells.length=1:=by rw[fI (h x a).2];rfl
theorem Tk.pf{k:Nat}{D:AV->Prop}(h:Tk k D){x:AV}(b:D x){d:Option AV}:pfC (some (some k)) x d=some x:=by obtain⟨_,cs,rfl,a,_⟩:=h x b;exact aJr a
theorem Tu.pf{D:AV->Prop}(h:Tu D){x:AV}(a:D x){d:Option AV}:pfC (some none) x d=some x:=aJq (h x a).2
theorem LX{k:Nat}{xs:List AV}{i:Nat}{x:AV}(a:xs[i]?=some x)(b:x.cells.length=k){q:IntKind}{d:Option AV}:fA (some k) xs (.int q ((i:Nat):Int)) d=some (.pf x):=by have c:=(ζ.1 a).1;exact zP iu iu (by rw[cq];exact a) b
theorem JJ{k:Nat}{xs:List AV}{n:Int}{x:AV}(b:0<=n)(a:xs[n.toNat]?=some x)(c:x.cells.length=k){q:IntKind}{d:Option AV}:fA (some k) xs (.int q n) d=some (.pf x):=by have e:=(ζ.1 a).1;exact zP b iu a c
theorem cN{k:Nat}{D:AV->Prop}{xs:List AV}(f:∀x,D x->x.cells.length=k)(e:∀x∈xs,D x)(h:xs.length<=9223372036854775807){i:Nat}(a:i<xs.length):∃x,D x/\x∈xs/\xs[i]?=some x/\xs.drop i=x::xs.drop (i+1)/\(∀{q:IntKind}{d:Option AV},fA (some k) xs (.int q ((i:Nat):Int)) d=some (.pf x))/\IntKind.i64.wrap ((i:Int)+1)=((i+1:Nat):Int)/\(((i:Nat):Int)<((xs.length:Nat):Int))=True:=by have b:=bt a;have c:=η a;exact⟨xs[i],e _ b,b,c,dp a,λ{q d}=>LX c (f _ (e _ b)),by rw[ω _ iu];rfl,db iu⟩
theorem cQ{xs:List AV}:(((xs.length:Nat):Int)<((xs.length:Nat):Int))=False:=eq_false iu
def aUh(g:FuncId)(first cap:List AV)(D:AV->Prop)(p:AV->AV):jF:=UT (ι:={x // D x}) g (λx=>first++[x.1]++cap) λx=>p x.1
theorem DC{g:FuncId}{first cap:List AV}{D:AV->Prop}{p:AV->AV}(h:∀x,D x->Returns P g (first++[x]++cap) (p x)):eB P (aUh g first cap D p):=JO λx=>h x.1 x.2
theorem qQ{g:FuncId}{first cap:List AV}{D:AV->Prop}{p:AV->AV}{L:List jF}{x:AV}{s:Sto}(b:D x):orcL (aUh g first cap D p::L) g (first++[x]++cap) s=some (.ret (p x) none):=entF_same (A:=λx:{x // D x}=>first++[x.1]++cap) (V:=λx=>p x.1) (λi j h=>by have a:first++[i.1]++cap=first++[j.1]++cap:=h;have:=List.append_cancel_left (List.append_cancel_right a);simp only[d6,fq]at this;show p i.1=p j.1;rw[this]) ⟨x,b⟩
def yD(p:AV->Bool):List AV->Nat->Int|[],_=>-1|x::l,i=>if p x=true then(i:Nat)else yD p l (i+1)
theorem LY(p:AV->Bool):∀(l:List AV)(i:Nat),decide (0<=yD p l i)=l.any p|[],i=>by simp[yD]|x::l,i=>by by_cases h:p x=true;simp[yD,h];have a:p x=false:=by{simpa using h};simp[yD,a,LY p l (i+1)]
theorem Sl.upto{a:AV}{xs:List AV}(o:Sl a xs){k:Nat}(q:∀x∈xs,x.cells.length=k){n:Int}(m:0<=n)(h:n<=(xs.length:Nat)):∃b,Sl b (xs.take n.toNat)/\∀{P:Program}{t:TypeId}{j:IntKind},qU P t=some k->gI P t a none (some (.int j n)) none=some b:=by
 have p:gH (some (.int .i64 n)) xs.length xs.length=some n.toNat:=oL m h;have f:(xs.all λv=>Nat.beq v.cells.length k)=true:=κ.2 λx u=>by rw[q x u];exact bk k
 have d:(xs.take n.toNat).length<=9223372036854775807:=by have:=o.2;simp;omega
 rcases o.1 with⟨rfl,rfl⟩|⟨c,rfl⟩;refine⟨.nils,⟨.inl ⟨rfl,iw⟩,d⟩,λ{P t j} l=>?_⟩;have r:n=0:=by simp at h;omega
 subst r;rw[HY,l];rfl;refine⟨_,⟨.inr ⟨c&&Nat.beq n.toNat xs.length,rfl⟩,d⟩,λ{P t j} l=>?_⟩;rw[ML,l];show qH k (.fz xs c) none (some (.int j n)) none=_;have e:gH (some (.int j n)) xs.length xs.length=some n.toNat:=oL m h;simp only[qH,e,oU,f,b5,aQ,c9,e5]
theorem bBs:(∀{n k:Nat}{v:AV}{cs:List AV}{d:Option AV},vA (some (n+1,some k)) (v::cs) d=vA (some (n,some k)) cs d)/\(∀{a b:AV}{l:List AV}{d:Option AV},vA (some (0,some 2)) (a::b::l) d=some (.pf (.agg [a,b])))/\(∀{a b c:AV}{l:List AV}{d:Option AV},vA (some (0,some 3)) (a::b::c::l) d=some (.pf (.agg [a,b,c])))/\(∀{a b c e:AV}{l:List AV}{d:Option AV},vA (some (0,some 4)) (a::b::c::e::l) d=some (.pf (.agg [a,b,c,e])))/\(∀{a b c e f:AV}{l:List AV}{d:Option AV},vA (some (0,some 5)) (a::b::c::e::f::l) d=some (.pf (.agg [a,b,c,e,f]))):=by
 refine⟨λ{n k v cs d}=>?_,λ{a b l d}=>?_,λ{a b c l d}=>?_,λ{a b c e l d}=>?_,λ{a b c e f l d}=>?_⟩;have h:Nat.ble (n+1+k) (v::cs).length=Nat.ble (n+k) cs.length:=by rw[cj,show n+1+k=(n+k)+1 by omega];rfl
 simp only[vA,h,aQ,List.drop_succ_cons];all_goals rw[aUx iw];rfl
theorem Sl.stab{a:AV}{l:List AV}(h:Sl a l){Y:Nat->Prop}:gC Y a:=by rcases h.1 with⟨rfl,_⟩|⟨c,rfl⟩<;>trivial
theorem wgu:(∀{P:Program}{O:Orc}{a:Bool}{op:Op}{ops:List Oper}{dst:Option Tmp}{rest:List Oper}{e:Env}{Q:Ex->Env->Prop},guardK P O AV.undef a op ops dst rest e Q↔cR P O ops dst rest e Q (.val .undef))/\(∀{P:Program}{O:Orc}{kd:Nat}{Y:Nat->Prop}{op:Op}{e:Env}{K:ORes->Prop}{w:Bool},jQ P O AV.undef w kd Y op e K↔K (.val .undef)):=⟨.rfl,.rfl⟩
