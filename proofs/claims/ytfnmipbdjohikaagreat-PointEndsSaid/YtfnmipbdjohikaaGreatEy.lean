/- Lemmas. -/
import Derived.Test.YtfnmipbdjohikaaGreatEt
set_option linter.unusedVariables false
namespace Go
abbrev d9:=@eq_true
abbrev ed:=@eq_false
abbrev eh:=@List.cons.injEq
end Go
namespace Go.Abs
noncomputable section
variable {P:Program}
def sgA(w:World):Sg:=⟨λb off=>w.cell? ⟨b,off,none⟩,λ_ _=>none⟩
theorem a4a{σ:Sg}{S:Sto}{w:World}(u:Rel σ S w){v v':AV}(hf:Frz S 0 v v'):∀V,VR σ v V->VR (sgA w) v' V:=by have ab:(σ.cut 0).le (sgA w):=⟨λid g x hx=>(by have:(σ.cut 0).s id g=some x:=hx;simp only[Sg.cut]at this;rw[Φ il]at this;cases this),λb off V p=>(u.mu b off V p).1⟩;induction hf with|und v hu=>exact λV p=>(hu σ V p).mono ab|agg l l' G _ J=>{intro V p;cases p with|agg _ ys B h=>refine .agg _ _ (by rw[<-G];exact B) λi y Y e r=>?_;have hi:i<l.length:=by{rw[G];exact(ζ.1 e).1};exact J i l[i] y (δ hi) e Y (h i _ Y (δ hi) r)}|tuple l l' G _ J=>{intro V p;cases p with|tuple _ ys B h=>refine .tuple _ _ (by rw[<-G];exact B) λi y Y e r=>?_;have hi:i<l.length:=by{rw[G];exact(ζ.1 e).1};exact J i l[i] y (δ hi) e Y (h i _ Y (δ hi) r)}|func f a a' c c' O Q _ _ ac ad=>{intro V p;cases p with|func _ F _ _ A C hF B h L M=>refine .func _ _ _ _ _ _ (by cases hF;exact .func f) (by rw[<-O];exact B) (by rw[<-Q];exact h) (λi y Y e r=>?_) (λi y Y e r=>?_);have hi:i<a.length:=by{rw[O];exact(ζ.1 e).1};exact ac i a[i] y (δ hi) e Y (L i _ Y (δ hi) r);have hi:i<c.length:=by{rw[Q];exact(ζ.1 e).1};exact ad i c[i] y (δ hi) e Y (M i _ Y (δ hi) r)}|sl id g off len cap m k c l a aa Z G hm hk X _ J=>{intro V p;cases p with|sl _ _ _ _ _ b base sz C H R ae=>obtain⟨b',base',sz',o,e,r,U⟩:=u.obj id _ Z;have q:σ id g=some (b',base',sz'):=e;rw[H]at q;obtain⟨rfl,rfl,rfl⟩:b=b'/\base=base'/\sz=sz':=by{simpa using q};cases U with|cells _ _ _ arr el fr q1 q2 q3 q4=>have d:∀j,j<m->w.cell? ⟨b,base+j,none⟩=arr[base+j]?:=λj D=>by{simp[World.cell?,r]};have E:∀i j,i<l.length->j<k->off+i*k+j<m:=by{intro i j hi D;have:i*k+k<=len*k:=by{rw[<-ap];exact bu k il};omega};subst G;refine .fz l false ⟨b,base+off,none⟩ C b (base+off) k (λ_=>rfl) R (λhc=>by cases hc) hk (λi j x y W B h L=>?_) (λi j hi D=>?_);have hi:=(ζ.1 B).1;have D:j<k:=by{rw[<-hk x (Ψ B)];exact(ζ.1 h).1};obtain⟨W',M,T⟩:=q3 _ (a i j) (E i j hi D) (X i j x y B h);have N:w.cell? ⟨b,base+off+i*k+j,none⟩=some W:=L;rw[show base+off+i*k+j=base+(off+i*k+j) by omega,d _ (E i j hi D),M]at N;cases N;exact J i j x y B h W T;show(w.cell? ⟨b,base+off+i*k+j,none⟩).isSome=true;rw[show base+off+i*k+j=base+(off+i*k+j) by omega,d _ (E i j hi D)];have:=E i j hi D;rw[b5 (show base+(off+i*k+j)<arr.size by omega)];rfl}|ptr id g off m c v a aa Z hm X _ J=>intro V p;cases p with|ptr _ _ _ b base sz H=>obtain⟨b',base',sz',o,e,r,U⟩:=u.obj id _ Z;have q:σ id g=some (b',base',sz'):=e;rw[H]at q;obtain⟨rfl,rfl,rfl⟩:b=b'/\base=base'/\sz=sz':=by{simpa using q};cases U with|cells _ _ _ arr el fr q1 q2 q3 q4=>have d:∀j,j<m->w.cell? ⟨b,base+j,none⟩=arr[base+j]?:=λj D=>by{simp[World.cell?,r]};refine .pf v b (base+off) (λj y W h L=>?_) (λj D=>?_);have D:=(ζ.1 h).1;obtain⟨W',M,T⟩:=q3 _ (a j) il (X j y h);have N:w.cell? ⟨b,base+off+j,none⟩=some W:=L;rw[show base+off+j=base+(off+j) by omega,d _ il,M]at N;cases N;exact J j y h W T;show(w.cell? ⟨b,base+off+j,none⟩).isSome=true;rw[show base+off+j=base+(off+j) by omega,d _ il];rw[b5 (show base+(off+j)<arr.size by omega)];rfl
def a4b(v:AV):Prop:=∀(σ τ:Sg) V,VR σ v V->VR τ v V
theorem xP{b:Bool}:a4b (.bool b):=λ_ _ _ h=>by cases h;exact .bool b
def FrzL(s:Sto):List AV->List AV->Prop|[],[]=>True|a::l,b::c=>Frz s 0 a b/\FrzL s l c|_,_=>False
theorem FrzL.get{s:Sto}:∀{l b:List AV},FrzL s l b->l.length=b.length/\∀(i:Nat) x y,l[i]?=some x->b[i]?=some y->Frz s 0 x y|[],[],_=>⟨rfl,λi x y h=>by simp at h⟩|[],_::_,h=>h.elim|_::_,[],h=>h.elim|a::l,k::b,h=>by obtain⟨e,f⟩:=FrzL.get h.2;refine⟨by simp[e],λi x y c d=>?_⟩;cases i with|zero=>simp at c d;subst c;subst d;exact h.1|succ i=>exact f i x y (by simpa using c) (by simpa using d)
theorem CZ{f:FuncId}{args a:List AV}{v:AV}(h:Returns P f a v)(L:a4b v){s:Sto}(H:FrzL s args a):bR P f args s (.ret v none):=by
 obtain⟨E,J⟩:=H.get;obtain⟨u,fn,r,G⟩:=h .empty;refine⟨u,fn,r,λσ w A kd stk m d D l B=>?_⟩;have e:Rel (sgA w) Sto.empty w:={obj:=λid x c=>(by rw[hd]at c;cases c),inj:=λid x M T b base sz base' sz' c=>(by rw[hd]at c;cases c),mu:=λb off V o=>⟨o,λ⟨id,x,base,sz,c,_⟩=>(by rw[hd]at c;cases c)⟩,bnd:=λid g x c=>(by cases c),gen:=λid x g y c=>(by rw[hd]at c;cases c),top:=λid _=>rfl};have k:RM (sgA w) kd .no m:=by cases B with|normal m=>exact .normal m|quiet=>exact .quiet
 have p:VRs (sgA w) a A.toList:=⟨by rw[<-E];exact D.1,λi x X C F=>by have hi:i<args.length:=by{rw[E];exact(ζ.1 C).1};exact a4a d (J i args[i] x (δ hi) C) X (D.2 i _ X (δ hi) F)⟩;obtain⟨τ,V,w',fr,N,O,Q,S,R⟩:=G (sgA w) w A kd stk m e p l k;refine⟨σ,V,w',fr,N,L τ σ V O,⟨Q.q,⟨λ_ _ _ h=>h,λ_ _ _ h=>h⟩,rfl,λb off V o=>.inl o⟩,?_,R⟩;cases S with|normal m=>exact .normal _|quiet=>exact .quiet
theorem RS{S:Sto}{c:Nat}{v:AV}{cs:List AV}(e:S.get c=some (aP 0 cs))(b:v.cells=cs)(f:∀x∈cs,Und 0 x):Frz S 0 (.ptr c 0 0) (.pf v):=by refine SC (γ _) e (by rw[b];omega) λj x y d a=>?_;rw[b]at a;rw[φ,a]at d;cases d;exact .und _ (f _ (Ψ a))
theorem uL{S:Sto}{c:Nat}{v:AV}{cs:List AV}{f:FuncId}(a:S.get c=some (aP 0 cs))(d:v.cells=cs)(b:∀x∈cs,Und 0 x):Frz S 0 (.func (.func f) [] [.ptr c 0 0]) (.func (.func f) [] [.pf v]):=.func f _ _ _ _ rfl rfl (λi x y h=>by simp at h) (aH (RS a d b) dB)
theorem bU{cs:List AV}{k:Nat}(h:cs.length=k):aS cs 0 k=cs:=by unfold aS;rw[c8,ck il]
def entB(f:FuncId)(D:List AV->Sto->Prop)(g:List AV->AV):iA:=(f,λargs s=>@ite _ (D args s) (Classical.propDecidable _) (some (.ret (g args) none)) none)
theorem entB_ok{f:FuncId}{D:List AV->Sto->Prop}{g:List AV->AV}(h:∀args s,D args s->bR P f args s (.ret (g args) none)):cH P (entB f D g):=by intro args s res a;simp only[entB]at a;split at a;rename_i b;cases a;exact h _ _ b;cases a
theorem jC{f:FuncId}{D:List AV->Sto->Prop}{g:List AV->AV}{L:List iA}{args:List AV}{s:Sto}(h:D args s):aW (entB f D g::L) f args s=some (.ret (g args) none):=by rw[entB,oG];exact dx h
theorem aVt{f h:FuncId}{D:List AV->Sto->Prop}{g:List AV->AV}{L:List iA}{args:List AV}{s:Sto}(a:h≠f):aW (entB h D g::L) f args s=aW L f args s:=zJ a
def onL(c:AV)(D:AV->Prop)(S:Sto->Prop):List AV->Sto->Prop|[a,b],s=>b=c/\D a/\S s|_,_=>False
def _root_.Go.Abs.AV.els:AV->List AV| .fz xs _=>xs|_=>[]
def _root_.Go.Abs.AV.num:AV->Int| .int _ n=>n|_=>0
def _root_.Go.Abs.AV.fld(k:Nat):AV->AV| .agg l=>l.getD k .top|_=>.top
def _root_.Go.Abs.AV.txt:AV->List Nat| .str l=>l|_=>[]
theorem Sl.els{a:AV}{xs:List AV}(h:Sl a xs):a.els=xs:=by rcases h.1 with⟨rfl,rfl⟩|⟨c,rfl⟩<;>rfl
def dF(a:AV):Prop:=∃n,a=.int .i64 n
def jR(a:AV):Prop:=∃b,a=.bool b
def wE(a:AV):Prop:=∃l,a=.str l/\l.length<9223372036854775808/\By l
def TSl(T:AV->Prop)(a:AV):Prop:=∃xs,Sl a xs/\∀x∈xs,T x
def T2(A B:AV->Prop)(a:AV):Prop:=∃x y,a=.agg [x,y]/\A x/\B y
def T3(A B C:AV->Prop)(a:AV):Prop:=∃x y z,a=.agg [x,y,z]/\A x/\B y/\C z
def T4(A B C D:AV->Prop)(a:AV):Prop:=∃x y z u,a=.agg [x,y,z,u]/\A x/\B y/\C z/\D u
def T5(A B C D E:AV->Prop)(a:AV):Prop:=∃x y z u v,a=.agg [x,y,z,u,v]/\A x/\B y/\C z/\D u/\E v
def Tu(T:AV->Prop):Prop:=∀a,T a->UnderE 0 a/\a.isCell=true
def Tk(k:Nat)(T:AV->Prop):Prop:=∀a,T a->UnderE 0 a/\∃cs,a=.agg cs/\cs.length=k/\cs.all AV.isCell=true
theorem tu_int:Tu dF:=λa ⟨n,h⟩=>by subst h;exact⟨⟨1,rfl⟩,rfl⟩
theorem tu_bool:Tu jR:=λa ⟨n,h⟩=>by subst h;exact⟨⟨1,rfl⟩,rfl⟩
theorem tu_str:Tu wE:=λa ⟨n,h,_⟩=>by subst h;exact⟨⟨1,rfl⟩,rfl⟩
theorem kW{T:AV->Prop}(h:∀a,T a->UnderE 0 a):Tu (TSl T):=λa ⟨xs,b,d⟩=>⟨uO b λx c=>h x (d x c),b.cell⟩
theorem FF{T:AV->Prop}(h:Tu T):∀a,T a->UnderE 0 a:=λa b=>(h a b).1
theorem mU{T:AV->Prop}{k:Nat}(h:Tk k T):∀a,T a->UnderE 0 a:=λa b=>(h a b).1
theorem tk2{A B:AV->Prop}(d:Tu A)(e:Tu B):Tk 2 (T2 A B):=λa ⟨x,y,h,b,c⟩=>by subst h;refine⟨eV λz f=>?_,_,rfl,rfl,?_⟩;simp at f;rcases f with rfl|rfl;exact(d _ b).1;exact(e _ c).1;simp[(d _ b).2,(e _ c).2]
theorem tk3{A B C:AV->Prop}(e:Tu A)(f:Tu B)(k:Tu C):Tk 3 (T3 A B C):=λa ⟨x,y,z,h,b,c,d⟩=>by subst h;refine⟨eV λz l=>?_,_,rfl,rfl,?_⟩;simp at l;rcases l with rfl|rfl|rfl;exact(e _ b).1;exact(f _ c).1;exact(k _ d).1;simp[(e _ b).2,(f _ c).2,(k _ d).2]
theorem tk4{A B C D:AV->Prop}(f:Tu A)(k:Tu B)(l:Tu C)(m:Tu D):Tk 4 (T4 A B C D):=λa ⟨x,y,z,u,h,b,c,d,e⟩=>by subst h;refine⟨eV λz o=>?_,_,rfl,rfl,?_⟩;simp at o;rcases o with rfl|rfl|rfl|rfl;exact(f _ b).1;exact(k _ c).1;exact(l _ d).1;exact(m _ e).1;simp[(f _ b).2,(k _ c).2,(l _ d).2,(m _ e).2]
theorem tk5{A B C D E:AV->Prop}(k:Tu A)(l:Tu B)(m:Tu C)(o:Tu D)(p:Tu E):Tk 5 (T5 A B C D E):=λa ⟨x,y,z,u,v,h,b,c,d,e,f⟩=>by subst h;refine⟨eV λz q=>?_,_,rfl,rfl,?_⟩;simp at q;rcases q with rfl|rfl|rfl|rfl|rfl;exact(k _ b).1;exact(l _ c).1;exact(m _ d).1;exact(o _ e).1;exact(p _ f).1;simp[(k _ b).2,(l _ c).2,(m _ d).2,(o _ e).2,(p _ f).2]
def vW(A:AV->Prop)(g:AV->AV):List AV->Option AV|[a]=>@ite _ (A a) (Classical.propDecidable _) (some (g a)) none|_=>none
def vX(R:AV->AV->Prop)(g:AV->AV->AV):List AV->Option AV|[a,b]=>@ite _ (R a b) (Classical.propDecidable _) (some (g a b)) none|_=>none
def sg3(R:AV->AV->AV->Prop)(g:AV->AV->AV->AV):List AV->Option AV|[a,b,c]=>@ite _ (R a b c) (Classical.propDecidable _) (some (g a b c)) none|_=>none
def sg4(R:AV->AV->AV->AV->Prop)(g:AV->AV->AV->AV->AV):List AV->Option AV|[a,b,c,d]=>@ite _ (R a b c d) (Classical.propDecidable _) (some (g a b c d)) none|_=>none
theorem bY{A:AV->Prop}{g:AV->AV}{a:AV}(h:A a):vW A g [a]=some (g a):=dx h
theorem sg2_eq{R:AV->AV->Prop}{g:AV->AV->AV}{a b:AV}(h:R a b):vX R g [a,b]=some (g a b):=dx h
theorem sX{R:AV->AV->AV->Prop}{g:AV->AV->AV->AV}{a b c:AV}(h:R a b c):sg3 R g [a,b,c]=some (g a b c):=dx h
theorem RT{R:AV->AV->AV->AV->Prop}{g:AV->AV->AV->AV->AV}{a b c d:AV}(h:R a b c d):sg4 R g [a,b,c,d]=some (g a b c d):=dx h
theorem BQ{f:FuncId}{A:AV->Prop}{g:AV->AV}(h:∀a,A a->Returns P f [a] (g a)):Ok P f (vW A g):=λargs v b=>by match args,b with|[a],b=>simp only[vW]at b;split at b;rename_i c;cases b;exact h _ c;cases b
theorem ok2{f:FuncId}{R:AV->AV->Prop}{g:AV->AV->AV}(h:∀a b,R a b->Returns P f [a,b] (g a b)):Ok P f (vX R g):=λargs v c=>by match args,c with|[a,b],c=>simp only[vX]at c;split at c;rename_i d;cases c;exact h _ _ d;cases c
theorem ok3{f:FuncId}{R:AV->AV->AV->Prop}{g:AV->AV->AV->AV}(h:∀a b c,R a b c->Returns P f [a,b,c] (g a b c)):Ok P f (sg3 R g):=λargs v d=>by match args,d with|[a,b,c],d=>simp only[sg3]at d;split at d;rename_i e;cases d;exact h _ _ _ e;cases d
theorem ok4{f:FuncId}{R:AV->AV->AV->AV->Prop}{g:AV->AV->AV->AV->AV}(h:∀a b c d,R a b c d->Returns P f [a,b,c,d] (g a b c d)):Ok P f (sg4 R g):=λargs v e=>by match args,e with|[a,b,c,d],e=>simp only[sg4]at e;split at e;rename_i k;cases e;exact h _ _ _ _ k;cases e
theorem Tk.len{k:Nat}{D:AV->Prop}(h:Tk k D){x:AV}(b:D x):x.cells.length=k:=by obtain⟨_,cs,rfl,a,_⟩:=h x b;exact a
theorem Tu.len{D:AV->Prop}(h:Tu D){x:AV}(a:D x):x.cells.length=1:=by rw[fF (h x a).2];rfl
theorem Tk.pf{k:Nat}{D:AV->Prop}(h:Tk k D){x:AV}(b:D x){d:Option AV}:pfC (some (some k)) x d=some x:=by obtain⟨_,cs,rfl,a,_⟩:=h x b;exact aGa a
theorem Tu.pf{D:AV->Prop}(h:Tu D){x:AV}(a:D x){d:Option AV}:pfC (some none) x d=some x:=aFz (h x a).2
theorem a0p{k:Nat}{xs:List AV}{i:Nat}{x:AV}(a:xs[i]?=some x)(b:x.cells.length=k){q:IntKind}{d:Option AV}:eZ (some k) xs (.int q ((i:Nat):Int)) d=some (.pf x):=by have hi:=(ζ.1 a).1;exact zH il il (by rw[Ξ];exact a) b
theorem RU{k:Nat}{xs:List AV}{n:Int}{x:AV}(b:0<=n)(a:xs[n.toNat]?=some x)(c:x.cells.length=k){q:IntKind}{d:Option AV}:eZ (some k) xs (.int q n) d=some (.pf x):=by have hi:=(ζ.1 a).1;exact zH b il a c
theorem bL{k:Nat}{D:AV->Prop}{xs:List AV}(e:∀x,D x->x.cells.length=k)(c:∀x∈xs,D x)(f:xs.length<=9223372036854775807){i:Nat}(hi:i<xs.length):∃x,D x/\x∈xs/\xs[i]?=some x/\xs.drop i=x::xs.drop (i+1)/\(∀{q:IntKind}{d:Option AV},eZ (some k) xs (.int q ((i:Nat):Int)) d=some (.pf x))/\IntKind.i64.wrap ((i:Int)+1)=((i+1:Nat):Int)/\(((i:Nat):Int)<((xs.length:Nat):Int))=True:=by have a:=dz hi;have b:=δ hi;exact⟨xs[i],c _ a,a,b,ea hi,λ{q d}=>a0p b (e _ (c _ a)),by rw[dv _ il];rfl,d9 il⟩
theorem bP{xs:List AV}:(((xs.length:Nat):Int)<((xs.length:Nat):Int))=False:=ed il
def NA(g:FuncId)(first cap:List AV)(D:AV->Prop)(p:AV->AV):iA:=WI (ι:={x // D x}) g (λx=>first++[x.1]++cap) λx=>p x.1
theorem zE{g:FuncId}{first cap:List AV}{D:AV->Prop}{p:AV->AV}(h:∀x,D x->Returns P g (first++[x]++cap) (p x)):cH P (NA g first cap D p):=SB λx=>h x.1 x.2
theorem oB{g:FuncId}{first cap:List AV}{D:AV->Prop}{p:AV->AV}{L:List iA}{x:AV}{s:Sto}(b:D x):aW (NA g first cap D p::L) g (first++[x]++cap) s=some (.ret (p x) none):=entF_same (A:=λx:{x // D x}=>first++[x.1]++cap) (V:=λx=>p x.1) (λi j h=>by have a:first++[i.1]++cap=first++[j.1]++cap:=h;have:=List.append_cancel_left (List.append_cancel_right a);simp only[eh,fc]at this;show p i.1=p j.1;rw[this]) ⟨x,b⟩
def xQ(p:AV->Bool):List AV->Nat->Int|[],_=>-1|x::l,i=>if p x=true then(i:Nat)else xQ p l (i+1)
theorem KB(p:AV->Bool):∀(l:List AV)(i:Nat),decide (0<=xQ p l i)=l.any p|[],i=>by simp[xQ]|x::l,i=>by by_cases h:p x=true;simp[xQ,h];have a:p x=false:=by{simpa using h};simp[xQ,a,KB p l (i+1)]
theorem Sl.upto{a:AV}{xs:List AV}(o:Sl a xs){k:Nat}(q:∀x∈xs,x.cells.length=k){n:Int}(m:0<=n)(h:n<=(xs.length:Nat)):∃b,Sl b (xs.take n.toNat)/\∀{P:Program}{t:TypeId}{j:IntKind},uR P t=some k->iR P t a none (some (.int j n)) none=some b:=by
 have p:gM (some (.int .i64 n)) xs.length xs.length=some n.toNat:=pX m h;have f:(xs.all λv=>Nat.beq v.cells.length k)=true:=μ.2 λx u=>by rw[q x u];exact dd k
 have d:(xs.take n.toNat).length<=9223372036854775807:=by have:=o.2;simp;omega
 rcases o.1 with⟨rfl,rfl⟩|⟨c,rfl⟩;refine⟨.nils,⟨.inl ⟨rfl,ip⟩,d⟩,λ{P t j} l=>?_⟩;have r:n=0:=by simp at h;omega
 subst r;rw[WO,l];rfl;refine⟨_,⟨.inr ⟨c&&Nat.beq n.toNat xs.length,rfl⟩,d⟩,λ{P t j} l=>?_⟩;rw[aBr,l];show vF k (.fz xs c) none (some (.int j n)) none=_;have e:gM (some (.int j n)) xs.length xs.length=some n.toNat:=pX m h;simp only[vF,e,qY,f,cr,aS,c8,ev]
theorem a4c:(∀{n k:Nat}{v:AV}{cs:List AV}{d:Option AV},uM (some (n+1,some k)) (v::cs) d=uM (some (n,some k)) cs d)/\(∀{a b:AV}{l:List AV}{d:Option AV},uM (some (0,some 2)) (a::b::l) d=some (.pf (.agg [a,b])))/\(∀{a b c:AV}{l:List AV}{d:Option AV},uM (some (0,some 3)) (a::b::c::l) d=some (.pf (.agg [a,b,c])))/\(∀{a b c e:AV}{l:List AV}{d:Option AV},uM (some (0,some 4)) (a::b::c::e::l) d=some (.pf (.agg [a,b,c,e])))/\(∀{a b c e f:AV}{l:List AV}{d:Option AV},uM (some (0,some 5)) (a::b::c::e::f::l) d=some (.pf (.agg [a,b,c,e,f]))):=by
 refine⟨λ{n k v cs d}=>?_,λ{a b l d}=>?_,λ{a b c l d}=>?_,λ{a b c e l d}=>?_,λ{a b c e f l d}=>?_⟩;have h:Nat.ble (n+1+k) (v::cs).length=Nat.ble (n+k) cs.length:=by rw[cj,show n+1+k=(n+k)+1 by omega];rfl
 simp only[uM,h,aS,List.drop_succ_cons];all_goals rw[aQe ip];rfl
theorem Sl.stab{a:AV}{l:List AV}(h:Sl a l){Y:Nat->Prop}:fN Y a:=by rcases h.1 with⟨rfl,_⟩|⟨c,rfl⟩<;>trivial
theorem wgu:(∀{P:Program}{O:bW}{a:Bool}{op:Op}{ops:List Oper}{dst:Option Tmp}{rest:List Oper}{e:Env}{Q:Ex->Env->Prop},guardK P O AV.undef a op ops dst rest e Q↔cL P O ops dst rest e Q (.val .undef))/\(∀{P:Program}{O:bW}{kd:Nat}{Y:Nat->Prop}{op:Op}{e:Env}{K:ORes->Prop}{w:Bool},jS P O AV.undef w kd Y op e K↔K (.val .undef)):=⟨.rfl,.rfl⟩
