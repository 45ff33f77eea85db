/- Lemmas. -/
import Derived.Test.YtfnmipbdjohikaaGreatEy
namespace Go.Abs
noncomputable section
def FrzN(s:Sto)(K:Nat):List AV->List AV->Prop|[],[]=>True|a::l,b::c=>Frz s K a b/\FrzN s K l c|_,_=>False
theorem FrzN.get{s:Sto}{K:Nat}:∀{l b:List AV},FrzN s K l b->l.length=b.length/\∀(i:Nat) x y,l[i]?=some x->b[i]?=some y->Frz s K x y|[],[],_=>⟨rfl,λi x y h=>by simp at h⟩|[],_::_,h=>h.elim|_::_,[],h=>h.elim|a::l,k::b,h=>by obtain⟨e,f⟩:=FrzN.get h.2;refine⟨by simp[e],λi x y c d=>?_⟩;cases i with|zero=>simp at c d;subst c;subst d;exact h.1|succ i=>exact f i x y (by simpa using c) (by simpa using d)
section
variable {P:Program}
theorem PK{s:Sto}{K:Nat}{a b:AV}{l c:List AV}(h:Frz s K a b)(d:FrzN s K l c):FrzN s K (a::l) (b::c):=⟨h,d⟩
theorem aSs{s:Sto}{K:Nat}:FrzN s K [] []:=e7
end
end
noncomputable section
variable {P:Program}
def AU(w:World):Sg:=⟨λb off=>w.cell? ⟨b,off,none⟩,λ_ _=>none⟩
theorem aSt{σ:Sg}{S:Sto}{w:World}(u:Rel σ S w){v v':AV}(hf:Frz S 0 v v'):∀V,VR σ v V->VR (AU w) v' V:=by have ab:(σ.cut 0).le (AU w):=⟨λid g x hx=>(by have:(σ.cut 0).s id g=some x:=hx;simp only[Sg.cut]at this;rw[Φ il]at this;cases this),λb off V p=>(u.mu b off V p).1⟩;induction hf with|und v hu=>exact λV p=>(hu σ V p).mono ab|agg l l' G _ J=>{intro V p;cases p with|agg _ ys B h=>refine .agg _ _ (by rw[<-G];exact B) λi y Y e r=>?_;have hi:i<l.length:=by{rw[G];exact(ζ.1 e).1};exact J i l[i] y (δ hi) e Y (h i _ Y (δ hi) r)}|tuple l l' G _ J=>{intro V p;cases p with|tuple _ ys B h=>refine .tuple _ _ (by rw[<-G];exact B) λi y Y e r=>?_;have hi:i<l.length:=by{rw[G];exact(ζ.1 e).1};exact J i l[i] y (δ hi) e Y (h i _ Y (δ hi) r)}|func f a a' c c' O Q _ _ ac ad=>{intro V p;cases p with|func _ F _ _ A C hF B h L M=>refine .func _ _ _ _ _ _ (by cases hF;exact .func f) (by rw[<-O];exact B) (by rw[<-Q];exact h) (λi y Y e r=>?_) (λi y Y e r=>?_);have hi:i<a.length:=by{rw[O];exact(ζ.1 e).1};exact ac i a[i] y (δ hi) e Y (L i _ Y (δ hi) r);have hi:i<c.length:=by{rw[Q];exact(ζ.1 e).1};exact ad i c[i] y (δ hi) e Y (M i _ Y (δ hi) r)}|sl id g off len cap m k c l a aa Z G hm hk X _ J=>{intro V p;cases p with|sl _ _ _ _ _ b base sz C H R ae=>obtain⟨b',base',sz',o,e,r,U⟩:=u.obj id _ Z;have q:σ id g=some (b',base',sz'):=e;rw[H]at q;obtain⟨rfl,rfl,rfl⟩:b=b'/\base=base'/\sz=sz':=by{simpa using q};cases U with|cells _ _ _ arr el fr q1 q2 q3 q4=>have d:∀j,j<m->w.cell? ⟨b,base+j,none⟩=arr[base+j]?:=λj D=>by{simp[World.cell?,r]};have E:∀i j,i<l.length->j<k->off+i*k+j<m:=by{intro i j hi D;have:i*k+k<=len*k:=by{rw[<-ap];exact bu k il};omega};subst G;refine .fz l false ⟨b,base+off,none⟩ C b (base+off) k (λ_=>rfl) R (λhc=>by cases hc) hk (λi j x y W B h L=>?_) (λi j hi D=>?_);have hi:=(ζ.1 B).1;have D:j<k:=by{rw[<-hk x (Ψ B)];exact(ζ.1 h).1};obtain⟨W',M,T⟩:=q3 _ (a i j) (E i j hi D) (X i j x y B h);have N:w.cell? ⟨b,base+off+i*k+j,none⟩=some W:=L;rw[show base+off+i*k+j=base+(off+i*k+j) by omega,d _ (E i j hi D),M]at N;cases N;exact J i j x y B h W T;show(w.cell? ⟨b,base+off+i*k+j,none⟩).isSome=true;rw[show base+off+i*k+j=base+(off+i*k+j) by omega,d _ (E i j hi D)];have:=E i j hi D;rw[b5 (show base+(off+i*k+j)<arr.size by omega)];rfl}|ptr id g off m c v a aa Z hm X _ J=>intro V p;cases p with|ptr _ _ _ b base sz H=>obtain⟨b',base',sz',o,e,r,U⟩:=u.obj id _ Z;have q:σ id g=some (b',base',sz'):=e;rw[H]at q;obtain⟨rfl,rfl,rfl⟩:b=b'/\base=base'/\sz=sz':=by{simpa using q};cases U with|cells _ _ _ arr el fr q1 q2 q3 q4=>have d:∀j,j<m->w.cell? ⟨b,base+j,none⟩=arr[base+j]?:=λj D=>by{simp[World.cell?,r]};refine .pf v b (base+off) (λj y W h L=>?_) (λj D=>?_);have D:=(ζ.1 h).1;obtain⟨W',M,T⟩:=q3 _ (a j) il (X j y h);have N:w.cell? ⟨b,base+off+j,none⟩=some W:=L;rw[show base+off+j=base+(off+j) by omega,d _ il,M]at N;cases N;exact J j y h W T;show(w.cell? ⟨b,base+off+j,none⟩).isSome=true;rw[show base+off+j=base+(off+j) by omega,d _ il];rw[b5 (show base+(off+j)<arr.size by omega)];rfl
def aGr(v:AV):Prop:=∀(σ τ:Sg) V,VR σ v V->VR τ v V
theorem aSu{f:FuncId}{a o v:AV}(h:Returns P f [o] v)(J:aGr v){s:Sto}(H:Frz s 0 a o):bR P f [a] s (.ret v none):=by
 obtain⟨C,fn,B,G⟩:=h .empty;refine⟨C,fn,B,λσ w A kd stk m d E l D=>?_⟩;have e:Rel (AU w) Sto.empty w:={obj:=λid x c=>(by rw[hd]at c;cases c),inj:=λid x L S b base sz base' sz' c=>(by rw[hd]at c;cases c),mu:=λb off V r=>⟨r,λ⟨id,x,base,sz,c,_⟩=>(by rw[hd]at c;cases c)⟩,bnd:=λid g x c=>(by cases c),gen:=λid x g y c=>(by rw[hd]at c;cases c),top:=λid _=>rfl};have k:RM (AU w) kd .no m:=by cases D with|normal m=>exact .normal m|quiet=>exact .quiet
 have u:VRs (AU w) [o] A.toList:=⟨E.1,λi x X p F=>by cases i with|zero=>simp at p;subst p;exact aSt d H X (E.2 0 a X rfl F)|succ i=>simp at p⟩;obtain⟨τ,V,w',fr,M,N,O,R,Q⟩:=G (AU w) w A kd stk m e u l k;refine⟨σ,V,w',fr,M,J τ σ V N,⟨O.q,⟨λ_ _ _ h=>h,λ_ _ _ h=>h⟩,rfl,λb off V r=>.inl r⟩,?_,Q⟩;cases R with|normal m=>exact .normal _|quiet=>exact .quiet
end
noncomputable section
variable {P:Program}
def NQ(f:FuncId)(a b v:AV):iA:=(f,λargs s=>@ite _ (args=[a]/\Frz s 0 a b) (Classical.propDecidable _) (some (.ret v none)) none)
theorem aGs{f:FuncId}{a c v:AV}(h:Returns P f [c] v)(e:aGr v):cH P (NQ f a c v):=by intro args s res b;simp only[NQ]at b;split at b;rename_i d;cases b;rw[d.1];exact aSu h e d.2;cases b
theorem PL{f:FuncId}{a b v:AV}{L:List iA}{s:Sto}(h:Frz s 0 a b):aW (NQ f a b v::L) f [a] s=some (.ret v none):=by rw[NQ,oG];exact dx ⟨rfl,h⟩
theorem aGt{f h:FuncId}{a b v:AV}{L:List iA}{args:List AV}{s:Sto}(c:h≠f):aW (NQ h a b v::L) f args s=aW L f args s:=zJ c
theorem FW{b:Bool}:aGr (.bool b):=λ_ _ _ h=>by cases h;exact .bool b
