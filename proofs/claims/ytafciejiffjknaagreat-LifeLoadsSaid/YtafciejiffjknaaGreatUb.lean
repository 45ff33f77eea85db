/-.-/
import Derived.Test.YtafciejiffjknaaGreatUa
import Derived.Laws.Sem
import Derived.Laws.World
set_option linter.unusedVariables false
namespace Go
abbrev δ:=@Nat.le_refl
abbrev ε:=@Bool.and_eq_true
abbrev ζ:=@List.getElem?_eq_some_iff
abbrev η:=@List.getElem?_eq_getElem
abbrev κ:=@List.all_eq_true
abbrev μ:=@Nat.zero_le
abbrev Γ:=@Nat.lt_or_ge
abbrev Δ:=@if_neg
abbrev Θ:=@List.mem_of_getElem?
abbrev Φ:=@Option.some.injEq
abbrev bl:=@Nat.eq_of_beq_eq_true
abbrev cm:=@if_pos
abbrev b7:=@Nat.lt_of_lt_of_le
abbrev cr:=@Nat.le_trans
abbrev b2:=@List.getElem?_eq_none
abbrev cU:=@Array.getElem?_eq_some_iff
abbrev dd:=@Nat.ble_eq
abbrev dg:=@Nat.blt_eq
abbrev d1:=@List.getElem?_drop
abbrev ek:=@List.getElem?_take
abbrev ad:=@World.block_lt_of_cell?
abbrev ae:=@Bool.eq_false_iff
abbrev f5:=@Nat.lt_irrefl
end Go
namespace Go.Abs
theorem gR{α:Type}(n m:Nat)(x y:α):(bif Nat.beq n m then x else y)=if n=m then x else y:=by
 by_cases h:n=m;subst h;simp;have:Nat.beq n m=false:=by rw[ae];intro a;exact h (bl a)
 simp[this,h]
theorem gE{α:Type}(n m:Nat)(x y:α):(bif Nat.blt n m then x else y)=if n<m then x else y:=by
 by_cases h:n<m;have:Nat.blt n m=true:=by simpa[dg]using h
 simp[this,h];have:Nat.blt n m=false:=by rw[ae];simpa[dg]using h
 simp[this,h]
theorem oM{α:Type}(n m:Nat)(x y:α):(bif Nat.ble n m then x else y)=if n<=m then x else y:=by
 by_cases h:n<=m;have:Nat.ble n m=true:=by rw[dd];exact h
 simp[this,h];have:Nat.ble n m=false:=by rw[ae];intro a;rw[dd]at a;exact h a
 simp[this,h]
theorem uI{α:Type}(n m:Nat)(x y:α):@Bool.rec (λ_=>α) x y (Nat.beq n m)=if n=m then y else x:=by rw[<-gR];cases Nat.beq n m<;>rfl
theorem hx{α:Type}(v:Option α)(l r:Tr α)(i:Nat):(Tr.node v l r).get i=if i=0 then v else if i%2=1 then l.get (i/2)else r.get (i/2-1):=by show@Bool.rec (λ_=>Option α) (@Bool.rec (λ_=>Option α) (r.get (Nat.sub (Nat.div i 2) 1)) (l.get (Nat.div i 2)) (Nat.beq (Nat.mod i 2) 1)) v (Nat.beq i 0)=_;rw[uI,uI];rfl
theorem h9{α:Type}(f i:Nat)(a:Option α):hr (f+1) .leaf i a=if i=0 then .node a .leaf .leaf else if i%2=1 then .node none (hr f .leaf (i/2) a) .leaf else .node none .leaf (hr f .leaf (i/2-1) a):=by show@Bool.rec (λ_=>Tr α) (@Bool.rec (λ_=>Tr α) (.node none .leaf (hr f .leaf (Nat.sub (Nat.div i 2) 1) a)) (.node none (hr f .leaf (Nat.div i 2) a) .leaf) (Nat.beq (Nat.mod i 2) 1)) (.node a .leaf .leaf) (Nat.beq i 0)=_;rw[uI,uI];rfl
theorem h5{α:Type}(f i:Nat)(v:Option α)(l r:Tr α)(a:Option α):hr (f+1) (.node v l r) i a=if i=0 then .node a l r else if i%2=1 then .node v (hr f l (i/2) a) r else .node v l (hr f r (i/2-1) a):=by show@Bool.rec (λ_=>Tr α) (@Bool.rec (λ_=>Tr α) (.node v l (hr f r (Nat.sub (Nat.div i 2) 1) a)) (.node v (hr f l (Nat.div i 2) a) r) (Nat.beq (Nat.mod i 2) 1)) (.node a l r) (Nat.beq i 0)=_;rw[uI,uI];rfl
theorem hW{α:Type}:∀(f:Nat)(t:Tr α)(i j:Nat)(a:Option α),i<f->(hr f t i a).get j=if j=i then a else t.get j:=by intro f;induction f with|zero=>intro t i j a h;omega|succ f m=>intro t i j a h;cases t with|leaf=>rw[h9];split;rename_i k;subst k;rw[hx];by_cases b:j=0;simp[b];simp[b,Tr.get];rename_i k;split;rename_i e;rw[hx,m .leaf (i/2) (j/2) a iu];by_cases b:j=0;have:¬j=i:=iu;simp[b,Tr.get];intro o;omega;by_cases d:j%2=1;by_cases c:j=i;simp[c,k,e];have:¬j/2=i/2:=iu;simp[b,d,c,this,Tr.get];have:¬j=i:=by{intro c;subst c;exact d e};simp[b,d,this,Tr.get];rename_i e;rw[hx,m .leaf (i/2-1) (j/2-1) a iu];by_cases b:j=0;simp[b,Tr.get];intro o;omega;by_cases d:j%2=1;have:¬j=i:=by{intro c;subst c;exact e d};simp[b,d,this,Tr.get];by_cases c:j=i;simp[c,k,e];have:¬j/2-1=i/2-1:=iu;simp[b,d,c,this,Tr.get]|node v l r=>rw[h5];split;rename_i k;subst k;rw[hx,hx];by_cases b:j=0;simp[b];simp[b];rename_i k;split;rename_i e;rw[hx,hx,m l (i/2) (j/2) a iu];by_cases b:j=0;simp[b];intro o;omega;by_cases d:j%2=1;by_cases c:j=i;simp[c,k,e];have:¬j/2=i/2:=iu;simp[b,d,c,this];have:¬j=i:=by{intro c;subst c;exact d e};simp[b,d,this];rename_i e;rw[hx,hx,m r (i/2-1) (j/2-1) a iu];by_cases b:j=0;simp[b];intro o;omega;by_cases d:j%2=1;have:¬j=i:=by{intro c;subst c;exact e d};simp[b,d,this];by_cases c:j=i;simp[c,k,e];have:¬j/2-1=i/2-1:=iu;simp[b,d,c,this]
theorem hJ{α:Type}(t:Tr α)(i j:Nat)(a:α):(t.set i a).get j=if j=i then some a else t.get j:=hW _ _ _ _ _ iu
theorem hX{α:Type}(t:Tr α)(i j:Nat):(t.del i).get j=if j=i then none else t.get j:=hW _ _ _ _ _ iu
theorem hP{α:Type}:∀(l:List α)(t:Tr α)(i j:Nat),(t.lay i l).get j=if i<=j/\j<i+l.length then l[j-i]? else t.get j:=by intro l;induction l with|nil=>intro t i j;simp[Tr.lay];intro d b;omega|cons a l e=>intro t i j;rw[Tr.lay,e,hJ];by_cases d:j=i;subst d;have c:¬(j+1<=j/\j<j+1+l.length):=iu;rw[Δ c];simp;by_cases b:i<=j/\j<i+(a::l).length;have c:i+1<=j/\j<i+1+l.length:=by{simp at b;omega};rw[cm c,cm b];have:j-i=(j-(i+1))+1:=iu;rw[this];simp;have c:¬(i+1<=j/\j<i+1+l.length):=by{simp at b;omega};rw[Δ c,Δ d,Δ b]
theorem hQ{α:Type}(t:Tr α):∀(n i:Nat)(l:List α),t.row i n=some l->l.length=n/\∀k,k<n->t.get (i+k)=l[k]?:=by intro n;induction n with|zero=>intro i l h;simp[Tr.row]at h;subst h;simp|succ n m=>intro i l h;simp only[Tr.row]at h;cases b:t.get i with|none=>simp[b]at h|some a=>simp only[b]at h;cases c:t.row (i+1) n with|none=>simp[c]at h|some r=>simp only[c,Φ]at h;subst h;obtain⟨f,d⟩:=m (i+1) r c;refine⟨by simp[f],λk e=>?_⟩;cases k with|zero=>simpa using b|succ k=>have:=d k iu;rw[show i+(k+1)=i+1+k by omega,this];simp
theorem hG(s:Sto)(i:Nat):s.get i=if i<s.n then s.o.get i else none:=gE _ _ _ _
theorem hE{s:Sto}{i:Nat}{x:AObj}(h:s.get i=some x):i<s.n:=by rw[hG]at h;split at h<;>simp_all
theorem hC(s:Sto)(x:AObj)(i:Nat):(s.push x).get i=if i=s.n then some x else s.get i:=by
 simp only[hG,Sto.push,hJ];by_cases h:i=s.n;simp[h];by_cases a:i<s.n;simp[h,a,Nat.lt_succ_of_lt a];have:¬i<s.n+1:=iu
 simp[a,this];intro b;omega
theorem hK(s:Sto)(j:Nat)(x:AObj)(i:Nat):(s.put j x).get i=if i=j/\i<s.n then some x else s.get i:=by simp only[hG,Sto.put,hJ];by_cases h:i=j<;>by_cases a:i<s.n<;>simp[a]<;>simp_all
@[simp] theorem hT(s:Sto)(x:AObj):(s.push x).n=s.n+1:=rfl
@[simp] theorem h4(s:Sto)(j:Nat)(x:AObj):(s.put j x).n=s.n:=rfl
@[simp] theorem io(s:Sto)(x:AObj):(s.push x).low=s.low:=rfl
theorem hL(s:Sto)(j:Nat)(x:AObj):(s.put j x).low=min j s.low:=by simp only[Sto.put,gE];split<;>omega
structure Sg where
 m:Nat->Nat->Option Value
 s:Nat->Nat->Option (Nat × Nat × Nat)
instance:CoeFun Sg fun _=>Nat->Nat->Option (Nat × Nat × Nat):=⟨Sg.s⟩
inductive FnR (σ:Sg):Fn->Fn->Prop
 | func (f:FuncId):FnR σ (.func f) (.func f)
 | method (n:String):FnR σ (.method n) (.method n)
 | methodOf (t:TypeId) (n:String):FnR σ (.methodOf t n) (.methodOf t n)
 | via (t:TypeId) (p:Array FieldStep) (f:FuncId) (b:Bool):FnR σ (.via t p f b) (.via t p f b)
 | yield (l b base sz:Nat):σ l 0=some (b,base,sz)->FnR σ (.yield l) (.yield b)
def a5m(base off len C sz:Nat):ACap->Prop| .is c=>C=c| .room k=>base+off+C*k<=sz| .least k c=>c<=C/\base+off+C*k<=sz
theorem vN{base off len C sz k n c:Nat}(a:base+off+C*k<=sz)(b:c<=C):a5m base off len C sz (yU k n c):=by unfold yU;cases Nat.beq n c with|true=>exact a|false=>exact⟨b,a⟩
inductive VR (σ:Sg):AV->Value->Prop
 | top (V:Value):VR σ .top V
 | bool (b:Bool):VR σ (.bool b) (.bool b)
 | int (k:IntKind) (n:Int):VR σ (.int k n) (.int k n)
 | str (l:List Nat) (s:ByteArray):s.data.toList.map (·.toNat)=l->VR σ (.str l) (.string s)
 | nilp:VR σ .nilp (.pointer none)
 | ptr (id g off b base sz:Nat):σ id g=some (b,base,sz)->VR σ (.ptr id g off) (.pointer (some ⟨b,base+off,none⟩))
 | pf (v:AV) (b off:Nat):(∀ i c V,v.cells[i]?=some c->σ.m b (off+i)=some V->VR σ c V)->(∀ i,i<v.cells.length->(σ.m b (off+i)).isSome=true)->
  VR σ (.pf v) (.pointer (some ⟨b,off,none⟩))
 | nils:VR σ .nils (.slice none 0 0)
 | sl (id g off len:Nat) (cap:ACap) (b base sz C:Nat):σ id g=some (b,base,sz)->len<=C->a5m base off len C sz cap->
  VR σ (.sl id g off len cap) (.slice (some ⟨b,base+off,none⟩) len C)
 | fz (l:List AV) (clip:Bool) (a:Addr) (C:Nat) (b off k:Nat):(0<l.length->a=⟨b,off,none⟩)->l.length<=C->(clip=true->C=l.length)->
  (∀ x,x∈l->x.cells.length=k)->
  (∀ i j x c V,l[i]?=some x->x.cells[j]?=some c->σ.m b (off+i*k+j)=some V->VR σ c V)->
  (∀ i j,i<l.length->j<k->(σ.m b (off+i*k+j)).isSome=true)->
  VR σ (.fz l clip) (.slice (some a) l.length C)
 | nilm:VR σ .nilm (.map none)
 | map (id b base sz:Nat):σ id 0=some (b,base,sz)->VR σ (.map id) (.map (some b))
 | func (f F:Fn) (a c:List AV) (A C:Array Value):FnR σ f F->a.length=A.size->c.length=C.size->
  (∀ (i:Nat) x X,a[i]?=some x->A[i]?=some X->VR σ x X)->(∀ (i:Nat) x X,c[i]?=some x->C[i]?=some X->VR σ x X)->
  VR σ (.func f a c) (.func F A C)
 | nilf:VR σ .nilf .nilFunc
 | iface (t:TypeId) (v:AV) (V:Value):VR σ v V->VR σ (.iface t v) (.iface t V)
 | nili:VR σ .nili .nilIface
 | agg (xs:List AV) (ys:Array Value):xs.length=ys.size->(∀ (i:Nat) x X,xs[i]?=some x->ys[i]?=some X->VR σ x X)->VR σ (.agg xs) (.agg ys)
 | tuple (xs:List AV) (ys:Array Value):xs.length=ys.size->(∀ (i:Nat) x X,xs[i]?=some x->ys[i]?=some X->VR σ x X)->VR σ (.tuple xs) (.tuple ys)
def VRs(σ:Sg)(xs:List AV)(a:List Value):Prop:=xs.length=a.length/\∀(i:Nat) x X,xs[i]?=some x->a[i]?=some X->VR σ x X
structure Sg.le (σ τ:Sg):Prop where
 s:∀ id g x,σ id g=some x->τ id g=some x
 m:∀ b o V,σ.m b o=some V->τ.m b o=some V
instance {σ τ:Sg}:CoeFun (Sg.le σ τ) fun _=>∀ id g x,σ id g=some x->τ id g=some x:=⟨Sg.le.s⟩
theorem Sg.le_refl(σ:Sg):σ.le σ:=⟨λ_ _ _ h=>h,λ_ _ _ h=>h⟩
theorem Sg.le_trans{σ τ ρ:Sg}(h:σ.le τ)(a:τ.le ρ):σ.le ρ:=⟨λ_ _ _ x=>a _ _ _ (h _ _ _ x),λ_ _ _ x=>a.m _ _ _ (h.m _ _ _ x)⟩
theorem Sg.le.some{σ τ:Sg}(h:σ.le τ){b o:Nat}{V:Value}(c:(σ.m b o).isSome=true)(d:τ.m b o=some V):σ.m b o=some V:=by cases a:σ.m b o with|none=>rw[a]at c;cases c|some W=>rw[<-d,h.m _ _ _ a]
theorem Sg.le.isSome{σ τ:Sg}(h:σ.le τ){b o:Nat}(c:(σ.m b o).isSome=true):(τ.m b o).isSome=true:=by cases a:σ.m b o with|none=>rw[a]at c;cases c|some W=>rw[h.m _ _ _ a];rfl
def Sg.nil:Sg:=⟨λ_ _=>none,λ_ _=>none⟩
theorem FnR.mono{σ τ:Sg}(h:σ.le τ){f F:Fn}(a:FnR σ f F):FnR τ f F:=by cases a with|func f=>exact .func f|method n=>exact .method n|methodOf t n=>exact .methodOf t n|via t p f b=>exact .via t p f b|yield l b base sz c=>exact .yield l b base sz (h _ _ _ c)
theorem VR.mono{σ τ:Sg}(h:σ.le τ){v:AV}{V:Value}(J:VR σ v V):VR τ v V:=by induction J with|top V=>exact .top V|bool b=>exact .bool b|int k n=>exact .int k n|str l s m=>exact .str l s m|nilp=>exact .nilp|ptr id g off b base sz m=>exact .ptr _ _ _ _ _ _ (h _ _ _ m)|pf v b off o p d=>exact .pf v b off (λi c V e w=>d i c V e (h.some (p i (ζ.1 e).1) w)) λi y=>h.isSome (p i y)|nils=>exact .nils|sl id g off len cap b base sz C m r e=>exact .sl _ _ _ _ _ _ _ _ _ (h _ _ _ m) r e|fz l q a C b off k o p G u O H d=>refine .fz l q a C b off k o p G u (λi j x c V B e w=>d i j x c V B e (h.some (H i j (ζ.1 B).1 ?_) w)) λi j y M=>h.isSome (H i j y M);rw[<-u x (Θ B)];exact(ζ.1 e).1|nilm=>exact .nilm|map id b base sz m=>exact .map _ _ _ _ (h _ _ _ m)|func f F a c A C L o p G u D E=>exact .func _ _ _ _ _ _ (L.mono h) o p D E|nilf=>exact .nilf|iface t v V J d=>exact .iface _ _ _ d|nili=>exact .nili|agg xs N r o d=>exact .agg _ _ r d|tuple xs N r o d=>exact .tuple _ _ r d
theorem VRs.mono{σ τ:Sg}(h:σ.le τ){xs:List AV}{b:List Value}(a:VRs σ xs b):VRs τ xs b:=⟨a.1,λi x X c d=>(a.2 i x X c d).mono h⟩
theorem VRs.nil(σ:Sg):VRs σ [] []:=⟨rfl,λi x X h=>by simp at h⟩
theorem VRs.cons{σ:Sg}{x:AV}{X:Value}{xs:List AV}{d:List Value}(h:VR σ x X)(c:VRs σ xs d):VRs σ (x::xs) (X::d):=by refine⟨by simp[c.1],λi y Y a b=>?_⟩;cases i with|zero=>simp at a b;subst a;subst b;exact h|succ i=>simp at a b;exact c.2 i y Y a b
theorem VRs.head{σ:Sg}{x:AV}{xs:List AV}{b:List Value}(h:VRs σ (x::xs) b):∃X a,b=X::a/\VR σ x X/\VRs σ xs a:=by cases b with|nil=>have:=h.1;simp at this|cons X a=>refine⟨X,a,rfl,h.2 0 x X rfl rfl,by have:=h.1;simpa using this,λi y Y c d=>h.2 (i+1) y Y (by simpa using c) (by simpa using d)⟩
theorem VRs.nil_inv{σ:Sg}{a:List Value}(h:VRs σ [] a):a=[]:=by have:=h.1;cases a<;>simp_all
theorem VRs.append{σ:Sg}{xs a:List AV}{c b:List Value}(h:VRs σ xs c)(d:VRs σ a b):VRs σ (xs++a) (c++b):=by induction xs generalizing c with|nil=>rw[h.nil_inv];simpa using d|cons x xs k=>obtain⟨X,l,rfl,f,e⟩:=h.head;exact VRs.cons f (k e)
theorem VRs.take{σ:Sg}{xs:List AV}{c:List Value}(h:VRs σ xs c)(n:Nat):VRs σ (xs.take n) (c.take n):=by refine⟨by simp[h.1],λi x X a b=>?_⟩;rw[ek]at a b;split at a;rename_i d;rw[cm d]at b;exact h.2 i x X a b;simp at a
theorem VRs.drop{σ:Sg}{xs:List AV}{c:List Value}(h:VRs σ xs c)(n:Nat):VRs σ (xs.drop n) (c.drop n):=by refine⟨by simp[h.1],λi x X a b=>?_⟩;rw[d1]at a b;exact h.2 _ x X a b
theorem VRs.slice{σ:Sg}{xs:List AV}{a:List Value}(h:VRs σ xs a)(i n:Nat):VRs σ (aQ xs i n) ((a.drop i).take n):=(h.drop i).take n
theorem VRs.get{σ:Sg}{xs:List AV}{b:List Value}(h:VRs σ xs b){i:Nat}{x:AV}(d:xs[i]?=some x):∃X,b[i]?=some X/\VR σ x X:=by
 have e:i<xs.length:=by rcases Γ i xs.length with c|c;exact c;rw[b2 c]at d;simp at d
 have a:i<b.length:=by rw[<-h.1];exact e
 exact⟨b[i],η a,h.2 i x _ d (η a)⟩
theorem VRs.map{σ:Sg}{α:Type}(f:α->AV)(F:α->Value)(l:List α)(h:∀x∈l,VR σ (f x) (F x)):VRs σ (l.map f) (l.map F):=by induction l with|nil=>exact VRs.nil σ|cons a l c=>exact VRs.cons (h a iw) (c λx b=>h x (by simp[b]))
theorem hD{σ:Sg}{xs:List AV}{V:Value}:VR σ (.agg xs) V↔∃a,V=.agg a/\VRs σ xs a.toList:=by
 constructor;intro h;cases h with|agg _ a d b=>exact⟨a,rfl,by simpa using d,λi x X e c=>b i x X e (by simpa using c)⟩
 rintro⟨a,rfl,d,b⟩;exact .agg _ _ (by simpa using d) λi x X e c=>b i x X e (by simpa using c)
theorem hI{σ:Sg}{xs:List AV}{V:Value}:VR σ (.tuple xs) V↔∃a,V=.tuple a/\VRs σ xs a.toList:=by
 constructor;intro h;cases h with|tuple _ a d b=>exact⟨a,rfl,by simpa using d,λi x X e c=>b i x X e (by simpa using c)⟩
 rintro⟨a,rfl,d,b⟩;exact .tuple _ _ (by simpa using d) λi x X e c=>b i x X e (by simpa using c)
theorem VR.isCell{σ:Sg}{v:AV}{V:Value}(h:VR σ v V)(a:v.isCell=true):V.cells =#[V]/\V.oneCell'=true/\v.cells=[v]:=by cases h<;>first|(simp[AV.isCell]at a;done)|exact⟨rfl,rfl,rfl⟩
theorem VR.cells{σ:Sg}{v:AV}{V:Value}(h:VR σ v V)(e:v.isCell=true∨∃cs,v=.agg cs):VRs σ v.cells V.cells.toList:=by rcases e with c|⟨cs,rfl⟩;obtain⟨a,_,b⟩:=h.isCell c;rw[a,b];exact VRs.cons h (VRs.nil σ);obtain⟨f,rfl,d⟩:=hD.1 h;exact d
theorem nZ{v:AV}(h:v.cells.all AV.isCell=true):v.isCell=true∨∃cs,v=.agg cs:=by cases v<;>first|exact .inr ⟨_,rfl⟩|(left;simpa[AV.cells]using h)
def Sg.cut(σ:Sg)(n:Nat):Sg:=⟨σ.m,λid g=>if id<n then σ id g else none⟩
theorem il(σ:Sg)(n:Nat):(σ.cut n).le σ:=by refine⟨λid g x h=>?_,λ_ _ _ h=>h⟩;simp only[Sg.cut]at h;split at h<;>simp_all
theorem VR.cut{σ:Sg}{n:Nat}:∀(d:Nat)(v:AV)(V:Value),v.under n d=true->VR σ v V->VR (σ.cut n) v V:=by intro d;induction d with|zero=>intro v V h;simp[AV.under]at h|succ d G=>intro v V w h;have o:∀{l:List AV},l.all (AV.under n d)=true->∀(i:Nat) x,l[i]?=some x->x.under n d=true:=by{intro l u i x q;exact κ.1 u x (Θ q)};cases h with|top V=>exact .top V|bool b=>exact .bool b|int k m=>exact .int k m|str l s L=>exact .str l s L|nilp=>exact .nilp|ptr id g off b base sz L=>have:id<n:=by{simpa[AV.under,dg]using w};exact .ptr _ _ _ _ _ _ (show σ.cut n id g=some (b,base,sz) by simp[Sg.cut,this,L])|pf v b off E B=>{have P:v.under n d=true:=by{simpa[AV.under]using w};refine .pf v b off (λi c V r R=>?_) B;have D:=E i c V r R;cases d with|zero=>simp[AV.under]at P|succ d=>by_cases e:∃cs,v=.agg cs;obtain⟨cs,rfl⟩:=e;have J:cs.all (AV.under n d)=true:=by{simpa[AV.under]using P};have H:c.under n d=true:=κ.1 J c (Θ r);exact G c V (by have:∀(m:Nat)(x:AV),x.under n m=true->x.under n (m+1)=true:=by{intro m;induction m with|zero=>intro x h;simp[AV.under]at h|succ m N=>intro x q;have u:∀{l:List AV},l.all (AV.under n m)=true->l.all (AV.under n (m+1))=true:=λh=>κ.2 λy T=>N y (κ.1 h y T);cases x<;>simp_all [AV.under]};exact this d c H) D;have:v.cells=[v]:=by{cases v<;>first|rfl|exact absurd ⟨_,rfl⟩ e};rw[this]at r;cases i with|zero=>simp at r;subst r;exact G _ V P D|succ i=>simp at r}|nils=>exact .nils|sl id g off len cap b base sz C L u r=>have:id<n:=by{simpa[AV.under,dg]using w};exact .sl _ _ _ _ _ _ _ _ _ (show σ.cut n id g=some (b,base,sz) by simp[Sg.cut,this,L]) u r|fz l O a C b off k E B D Q Y Z=>{have u:l.all (AV.under n d)=true:=by{simpa[AV.under]using w};refine .fz l O a C b off k E B D Q (λi j x c V q r R=>?_) Z;have M:=o u i x q;have U:=Y i j x c V q r R;cases d with|zero=>simp[AV.under]at M|succ d=>by_cases e:∃cs,x=.agg cs;obtain⟨cs,rfl⟩:=e;have J:cs.all (AV.under n d)=true:=by{simpa[AV.under]using M};have H:c.under n d=true:=κ.1 J c (Θ r);exact G c V (by have:∀(m:Nat)(x:AV),x.under n m=true->x.under n (m+1)=true:=by{intro m;induction m with|zero=>intro x h;simp[AV.under]at h|succ m N=>intro x q;have u:∀{l:List AV},l.all (AV.under n m)=true->l.all (AV.under n (m+1))=true:=λh=>κ.2 λy T=>N y (κ.1 h y T);cases x<;>simp_all [AV.under]};exact this d c H) U;have:x.cells=[x]:=by{cases x<;>first|rfl|exact absurd ⟨_,rfl⟩ e};rw[this]at r;cases j with|zero=>simp at r;subst r;exact G _ V M U|succ j=>simp at r}|nilm=>exact .nilm|map id b base sz L=>have:id<n:=by{simpa[AV.under,dg]using w};exact .map _ _ _ _ (show σ.cut n id 0=some (b,base,sz) by simp[Sg.cut,this,L])|func f F a c A C hf E B D Q=>{simp only[AV.under,ε]at w;refine .func _ _ _ _ _ _ ?_ E B (λi x X q S=>G x X (o w.1.2 i x q) (D i x X q S)) (λi x X q S=>G x X (o w.2 i x q) (Q i x X q S));cases hf with|func f=>exact .func f|method n=>exact .method n|methodOf t n=>exact .methodOf t n|via t p f b=>exact .via t p f b|yield l b base sz u=>have:l<n:=by{simpa[dg]using w.1.1};exact .yield l b base sz (by simp[Sg.cut,this,u])}|nilf=>exact .nilf|iface t v V P=>exact .iface _ _ _ (G v V (by simpa[AV.under]using w) P)|nili=>exact .nili|agg xs ys u E=>have q:xs.all (AV.under n d)=true:=by{simpa[AV.under]using w};exact .agg _ _ u λi x X B D=>G x X (o q i x B) (E i x X B D)|tuple xs ys u E=>have q:xs.all (AV.under n d)=true:=by{simpa[AV.under]using w};exact .tuple _ _ u λi x X B D=>G x X (o q i x B) (E i x X B D)
def eR:AObj->Nat| .cells g _ _=>g|_=>0
def TmR(σ:Sg)(nt:Nat)(t:Tr AV)(T:Array Value):Prop:=T.size=nt/\∀i v,t.get i=some v->i<nt/\VR σ v (T.getD i undef)
inductive DefR (σ:Sg):ADef->Deferred->Prop
 | call (f F:Fn) (first cap args:List AV) (A C:Array Value):FnR σ f F->VRs σ cap C.toList->VRs σ (first++args) A.toList->
  DefR σ (.call (.func f first cap) args) {target:=.fn F C,args:=A}
 | collected (id b base sz:Nat):σ id 0=some (b,base,sz)->DefR σ (.collected id) {target:=.collected b,args:=#[]}
inductive DefsR (σ:Sg):List ADef->List Deferred->Prop
 | nil:DefsR σ [] []
 | cons (d:ADef) (D:Deferred) (ds:List ADef) (Ds:List Deferred):DefR σ d D->DefsR σ ds Ds->DefsR σ (d::ds) (D::Ds)
inductive ObjR (σ:Sg) (base sz:Nat):AObj->Obj->Prop
 | cells (g n:Nat) (c:Tr AV) (arr:Array Value) (el:TypeId) (fr:Nat × Nat):arr.size=sz->base+n<=sz->
  (∀ i a,i<n->c.get i=some a->∃ V,arr[base+i]?=some V/\VR σ a V)->(∀ o,o<sz->¬ (fr.1<=o/\o<fr.2))->
  ObjR σ base sz (.cells g n c) (.cells arr el fr)
 | map (es:List (AV × AV × Nat)) (ck:Nat) (ES:Array MapEntry):es.length=ES.size->
  (∀ (i:Nat) k v b E,es[i]?=some (k,v,b)->ES[i]?=some E->VR σ k E.key/\VR σ v E.val/\E.born=b)->
  ObjR σ base sz (.map es ck) (.map ES ck)
 | siter (s:List Nat) (pos:Nat) (bs:ByteArray):bs.data.toList.map (·.toNat)=s->base=0->ObjR σ base sz (.siter s pos) (.stringIter bs pos)
 | loop (st:LoopState) (pe:Option Code) (fn:FuncId) (nt:Nat) (t:Tr AV) (ps:List Nat) (a b:Code) (d:Nat) (T:Array Value) (PS:Array Nat) (db dbase dsz:Nat):
  TmR σ nt t T->PS.toList=ps->σ d 0=some (db,dbase,dsz)->
  ObjR σ base sz (.loop st pe fn nt t ps a b d) (.loop {state:=st,pending:=pe,fn:=fn,tmps:=T,params:=PS,assign:=a,body:=b,defers:=db})
 | defsN:ObjR σ base sz (.defs none) (.deferred none)
 | defsS (ds:List ADef) (Ds:List Deferred):DefsR σ ds Ds->ObjR σ base sz (.defs (some ds)) (.deferred (some Ds))
theorem TmR.mono{σ τ:Sg}(h:σ.le τ){nt:Nat}{t:Tr AV}{T:Array Value}(a:TmR σ nt t T):TmR τ nt t T:=⟨a.1,λi v b=>⟨(a.2 i v b).1,(a.2 i v b).2.mono h⟩⟩
theorem DefR.mono{σ τ:Sg}(h:σ.le τ){d:ADef}{D:Deferred}(k:DefR σ d D):DefR τ d D:=by cases k with|call f F first cap args A C a c e=>exact .call _ _ _ _ _ _ _ (a.mono h) (c.mono h) (e.mono h)|collected id b base sz a=>exact .collected _ _ _ _ (h _ _ _ a)
theorem DefsR.mono{σ τ:Sg}(h:σ.le τ){d:List ADef}{D:List Deferred}(b:DefsR σ d D):DefsR τ d D:=by induction b with|nil=>exact .nil|cons d D ds e a f c=>exact .cons _ _ _ _ (a.mono h) c
theorem DefsR.append{σ:Sg}{a b:List ADef}{A B:List Deferred}(h:DefsR σ a A)(c:DefsR σ b B):DefsR σ (a++b) (A++B):=by induction h with|nil=>exact c|cons d D ds k e l f=>exact .cons _ _ _ _ e f
theorem ObjR.mono{σ τ:Sg}(h:σ.le τ){base sz:Nat}{x:AObj}{o:Obj}(F:ObjR σ base sz x o):ObjR τ base sz x o:=by cases F with|cells g n c arr y fr f m p r=>exact .cells g n c arr y fr f m (λi a C B=>let ⟨V,e,D⟩:=p i a C B;⟨V,e,D.mono h⟩) r|map A w u f m=>exact .map A w u f λi k v b E p r=>let ⟨a,b,c⟩:=m i k v b E p r;⟨a.mono h,b.mono h,c⟩|siter s H L f m=>exact .siter _ _ _ f m|loop st G fn nt t ps a b d T PS db l q f m p=>exact .loop st G fn nt t ps a b d T PS db l q (f.mono h) m (h _ _ _ p)|defsN=>exact .defsN|defsS ds J f=>exact .defsS _ _ (f.mono h)
def Has(σ:Sg)(S:Sto)(b:Nat):Prop:=∃id x base sz,S.get id=some x/\σ id (eR x)=some (b,base,sz)
structure Rel (σ:Sg) (S:Sto) (w:World):Prop where
 obj:∀ id x,S.get id=some x->∃ b base sz o,σ id (eR x)=some (b,base,sz)/\w.heap[b]?=some o/\ObjR σ base sz x o
 inj:∀ id x id' x' b base sz base' sz',S.get id=some x->S.get id'=some x'->σ id (eR x)=some (b,base,sz)->σ id' (eR x')=some (b,base',sz')->id=id'
 mu:∀ b off V,σ.m b off=some V->w.cell? ⟨b,off,none⟩=some V/\¬ Has σ S b
 bnd:∀ id g x,σ id g=some x->id<S.n
 gen:∀ id x g y,S.get id=some x->σ id g=some y->g<=eR x
 top:∀ id,S.n<=id->S.o.get id=none
structure Stp (σ:Sg) (S:Sto) (w:World) (τ:Sg) (S':Sto) (w':World):Prop where
 rel:Rel τ S' w'
 ext:σ.le τ
 size:w.heap.size<=w'.heap.size
 frame:∀ b,b<w.heap.size->¬ Has σ S b->w'.heap[b]?=w.heap[b]?
 own:∀ b,Has τ S' b->Has σ S b∨w.heap.size<=b
 sn:S.n<=S'.n
 low:S'.low<=S.low
 keep:∀ id,id<S.n->id<S'.low->S'.get id=S.get id/\(∀ g,τ id g=σ id g)/\∀ x b base sz,S.get id=some x->σ id (eR x)=some (b,base,sz)->w'.heap[b]?=w.heap[b]?
 os:w'.os=w.os
 out:w'.output=w.output
 tape:w'.tape=w.tape
 hole:∀ id,id<S.n->S.get id=none->S'.get id=none/\∀ g,τ id g=σ id g
 mnew:∀ b off V,τ.m b off=some V->σ.m b off=some V∨Has σ S b∨w.heap.size<=b
theorem Rel.lt{σ:Sg}{S:Sto}{w:World}(h:Rel σ S w){b:Nat}(d:Has σ S b):b<w.heap.size:=by
 obtain⟨id,x,base,sz,f,e⟩:=d;obtain⟨b',base',sz',o,a,c,_⟩:=h.obj id x f;rw[e]at a;obtain⟨rfl,-,-⟩:b=b'/\base=base'/\sz=sz':=by simpa using a
 exact(cU.1 c).1
theorem Stp.refl{σ:Sg}{S:Sto}{w:World}(h:Rel σ S w):Stp σ S w σ S w:=⟨h,σ.le_refl,δ _,λ_ _ _=>rfl,λ_ h=>.inl h,δ _,δ _,λ_ _ _=>⟨rfl,λ_=>rfl,λ_ _ _ _ _ _=>rfl⟩,rfl,rfl,rfl,λ_ _ h=>⟨h,λ_=>rfl⟩,λ_ _ _ h=>.inl h⟩
theorem Stp.trans {σ τ ρ:Sg} {S l d:Sto} {w w' f:World} (h:Stp σ S w τ l w') (a:Stp τ l w' ρ d f):Stp σ S w ρ d f where
 rel:=a.rel
 ext:=Sg.le_trans h.ext a.ext
 size:=cr h.size a.size
 frame:=fun b k o=>by
  rw [a.frame b (b7 k h.size) (fun E=>?_),h.frame b k o]
  rcases h.own b E with c | c
  ·exact o c
  ·omega
 own:=fun b k=>by
  rcases a.own b k with c | c
  ·exact h.own b c
  ·exact .inr (cr h.size c)
 sn:=cr h.sn a.sn
 low:=cr a.low h.low
 keep:=fun id e m=>by
  obtain ⟨a1,a2,a3⟩:=h.keep id e (b7 m a.low);obtain ⟨r,u,v⟩:=a.keep id (b7 e h.sn) m;exact ⟨by rw [r,a1],fun g=>by rw [u,a2],fun x b base sz q p=>by rw [v x b base sz (by rw [a1];exact q) (by rw [a2];exact p),a3 x b base sz q p]⟩
 os:=a.os.trans h.os
 out:=a.out.trans h.out
 tape:=a.tape.trans h.tape
 hole:=fun id e D=>by
  obtain ⟨c,y⟩:=h.hole id e D;obtain ⟨A,B⟩:=a.hole id (b7 e h.sn) c;exact ⟨A,fun g=>by rw [B,y]⟩
 mnew:=fun b off V C=>by
  rcases a.mnew b off V C with c | c | c
  ·exact h.mnew b off V c
  ·exact .inr (h.own b c)
  ·exact .inr (.inr (cr h.size c))
theorem Rel.world {σ:Sg} {S:Sto} {w w':World} (h:Rel σ S w) (a:w'.heap=w.heap):Rel σ S w' where
 obj:=fun id x d=>by rw [a];exact h.obj id x d
 inj:=h.inj
 mu:=fun b off V c=>by
  have:=h.mu b off V c;refine ⟨?_,this.2⟩;rw [<-this.1];simp [World.cell?,a]
 bnd:=h.bnd
 gen:=h.gen
 top:=h.top
theorem Stp.world{σ:Sg}{S:Sto}{w w':World}(h:Rel σ S w)(a:w'.heap=w.heap)(b:w'.os=w.os)(c:w'.output=w.output)(d:w'.tape=w.tape):Stp σ S w σ S w':=⟨h.world a,σ.le_refl,by rw[a];exact δ _,λ_ _ _=>by rw[a],λ_ h=>.inl h,δ _,δ _,λ_ _ _=>⟨rfl,λ_=>rfl,λ_ _ _ _ _ _=>by rw[a]⟩,b,c,d,λ_ _ h=>⟨h,λ_=>rfl⟩,λ_ _ _ h=>.inl h⟩
structure Quiet (w w':World):Prop where
 size:w.heap.size<=w'.heap.size
 heap:∀ b,b<w.heap.size->w'.heap[b]?=w.heap[b]?
 os:w'.os=w.os
 out:w'.output=w.output
 tape:w'.tape=w.tape
theorem Quiet.refl(w:World):Quiet w w:=⟨δ _,λ_ _=>rfl,rfl,rfl,rfl⟩
theorem Quiet.rel {σ:Sg} {S:Sto} {w w':World} (q:Quiet w w') (h:Rel σ S w):Rel σ S w' where
 obj:=fun id x k=>by
  obtain ⟨b,base,sz,o,c,a,d⟩:=h.obj id x k;exact ⟨b,base,sz,o,c,by rw [q.heap b (cU.1 a).1];exact a,d⟩
 inj:=h.inj
 mu:=fun b off V f=>by
  have:=h.mu b off V f;have e:=ad _ _ this.1;refine ⟨?_,this.2⟩;rw [<-this.1];simp [World.cell?,q.heap b e]
 bnd:=h.bnd
 gen:=h.gen
 top:=h.top
theorem Quiet.stp{σ:Sg}{S:Sto}{w w':World}(q:Quiet w w')(h:Rel σ S w):Stp σ S w σ S w':=⟨q.rel h,σ.le_refl,q.size,λb a _=>q.heap b a,λ_ h=>.inl h,δ _,δ _,λid _ _=>⟨rfl,λ_=>rfl,λx b base sz d c=>q.heap b (h.lt ⟨id,x,base,sz,d,c⟩)⟩,q.os,q.out,q.tape,λ_ _ h=>⟨h,λ_=>rfl⟩,λ_ _ _ h=>.inl h⟩
structure QStp (σ:Sg) (w:World) (τ:Sg) (w':World):Prop where
 q:Quiet w w'
 le:σ.le τ
 s:τ.s=σ.s
 m:∀ b off V,τ.m b off=some V->σ.m b off=some V∨(w.heap.size<=b/\w'.cell? ⟨b,off,none⟩=some V)
theorem QStp.refl{σ:Sg}{w w':World}(q:Quiet w w'):QStp σ w σ w':=⟨q,σ.le_refl,rfl,λ_ _ _ h=>.inl h⟩
theorem Has.same{σ τ:Sg}{S:Sto}{b:Nat}(h:τ.s=σ.s)(d:Has τ S b):Has σ S b:=by obtain⟨id,x,base,sz,a,c⟩:=d;exact⟨id,x,base,sz,a,by rw[<-h];exact c⟩
theorem QStp.rel {σ τ:Sg} {S:Sto} {w w':World} (q:QStp σ w τ w') (h:Rel σ S w):Rel τ S w' where
 obj:=fun id x f=>by
  obtain ⟨b,base,sz,o,a,c,d⟩:=(q.q.rel h).obj id x f;exact ⟨b,base,sz,o,q.le _ _ _ a,c,d.mono q.le⟩
 inj:=fun id x k r b base sz base' sz' a c d l=>h.inj id x k r b base sz base' sz' a c (by rw [<-q.s];exact d) (by rw [<-q.s];exact l)
 mu:=fun b off V p=>by
  rcases q.m b off V p with a | ⟨a,c⟩
  ·have:=(q.q.rel h).mu b off V a
   exact ⟨this.1,fun e=>this.2 (e.same q.s)⟩
  ·exact ⟨c,fun e=>by have:=h.lt (e.same q.s);omega⟩
 bnd:=fun id g x f=>h.bnd id g x (by rw [<-q.s];exact f)
 gen:=fun id x g y a c=>h.gen id x g y a (by rw [<-q.s];exact c)
 top:=h.top
theorem QStp.stp{σ τ:Sg}{S:Sto}{w w':World}(q:QStp σ w τ w')(h:Rel σ S w):Stp σ S w τ S w':=⟨q.rel h,q.le,q.q.size,λb c _=>q.q.heap b c,λ_ h=>.inl (h.same q.s),δ _,δ _,λid _ _=>⟨rfl,λg=>by rw[q.s],λx b base sz e d=>q.q.heap b (h.lt ⟨id,x,base,sz,e,d⟩)⟩,q.q.os,q.q.out,q.q.tape,λ_ _ h=>⟨h,λg=>by rw[q.s]⟩,λb off V a=>(q.m b off V a).imp id λh=>.inr h.1⟩
theorem Stp.drew{σ:Sg}{S:Sto}{w:World}(h:Rel σ S w):Stp σ S w σ S w.drew:=Stp.world h rfl rfl rfl rfl
theorem Rel.low{σ:Sg}{S e:Sto}{w:World}(h:Rel σ S w)(p:e.o=S.o)(f:e.n=S.n):Rel σ e w:=have d:∀id,e.get id=S.get id:=λid=>by{unfold Sto.get;rw[p,f]};{obj:=λid x k=>h.obj id x (by rw[<-d];exact k),inj:=λid x l r b base sz base' sz' a c=>h.inj id x l r b base sz base' sz' (by rw[<-d];exact a) (by rw[<-d];exact c),mu:=λb off V m=>⟨(h.mu b off V m).1,λ⟨id,x,base,sz,a,c⟩=>(h.mu b off V m).2 ⟨id,x,base,sz,by rw[<-d];exact a,c⟩⟩,bnd:=λid g x k=>by rw[f];exact h.bnd id g x k,gen:=λid x g y a c=>h.gen id x g y (by rw[<-d];exact a) c,top:=λid q=>by rw[p];exact h.top id (by rw[<-f];exact q)}
def Sg.upd(σ:Sg)(id g:Nat)(x:Nat × Nat × Nat):Sg:=⟨σ.m,λi h=>if i=id/\h=g then some x else σ i h⟩
theorem hw(σ:Sg)(id g:Nat)(x:Nat × Nat × Nat):σ.upd id g x id g=some x:=by simp[Sg.upd]
theorem hO{σ:Sg}{id g:Nat}(x:Nat × Nat × Nat)(h:σ id g=none):σ.le (σ.upd id g x):=by refine⟨λi g' y a=>?_,λ_ _ _ h=>h⟩;simp only[Sg.upd];split;rename_i b;obtain⟨rfl,rfl⟩:=b;rw[h]at a;cases a;exact a
theorem qG(w:World)(o:Obj){b:Nat}(h:b<w.heap.size):(w.alloc o).heap[b]?=w.heap[b]?:=by
 simp only[World.alloc,Array.getElem?_push];have:b≠w.heap.size:=iu
 simp[this]
theorem tH(w:World)(o:Obj):(w.alloc o).heap[w.heap.size]?=some o:=by show(w.heap.push o)[w.heap.size]?=some o;simp
theorem yT{σ:Sg}{S:Sto}{w:World}(h:Rel σ S w){x:AObj}{o:Obj}{base sz:Nat}(E:eR x=0)(O:ObjR (σ.upd S.n 0 (w.heap.size,base,sz)) base sz x o):Stp σ S w (σ.upd S.n 0 (w.heap.size,base,sz)) (S.push x) (w.alloc o):=by
 have m:∀g,σ S.n g=none:=λg=>by cases J:σ S.n g with|none=>rfl|some y=>exact absurd (h.bnd _ _ _ J) (f5 _)
 have A:σ.le (σ.upd S.n 0 (w.heap.size,base,sz)):=hO _ (m 0);have a:∀id l,S.get id=some l->∀g,(σ.upd S.n 0 (w.heap.size,base,sz)) id g=σ id g:=λid l k g=>by have:=hE k;simp only[Sg.upd];rw[Δ iu]
 have u:∀b,Has (σ.upd S.n 0 (w.heap.size,base,sz)) (S.push x) b->Has σ S b∨b=w.heap.size:=by rintro b ⟨id,l,base',sz',c,d⟩;rw[hC]at c;split at c;rename_i q;subst q;obtain rfl:x=l:=by{simpa using c};rw[E,hw]at d;right;simp at d;exact d.1.symm;rw[a id l c]at d;exact .inl ⟨id,l,base',sz',c,d⟩
 refine⟨⟨?_,?_,?_,?_,?_,?_⟩,A,iw,?_,?_,iw,iw,?_,rfl,rfl,rfl,?_,λ_ _ _ h=>.inl h⟩;intro id l k;rw[hC]at k;split at k;rename_i q;subst q;obtain rfl:x=l:=by simpa using k
 exact⟨_,_,_,o,by rw[E];exact hw _ _ _ _,tH w o,O⟩;obtain⟨b,base',sz',o',c,d,D⟩:=h.obj id l k;refine⟨b,base',sz',o',by rw[a id l k];exact c,?_,D.mono A⟩;rw[qG _ _ (cU.1 d).1];exact d;intro id F v G b P R Q T e f c d;rw[hC]at e f;split at e<;>split at f;rename_i B C;rw[B,C];rename_i B C;exfalso;subst B;obtain rfl:x=F:=by simpa using e
 rw[E,hw]at c;rw[a v G f]at d;have r:b=w.heap.size:=by simp at c;exact c.1.symm
 have:=h.lt ⟨v,G,_,_,f,d⟩;omega;rename_i B C;exfalso;subst C;obtain rfl:x=G:=by simpa using f
 rw[E,hw]at d;rw[a id F e]at c;have r:b=w.heap.size:=by simp at d;exact d.1.symm
 have:=h.lt ⟨id,F,_,_,e,c⟩;omega;rw[a id F e]at c;rw[a v G f]at d;exact h.inj _ _ _ _ _ _ _ _ _ e f c d;intro b off V M;obtain⟨c,d⟩:=h.mu b off V M;have r:=ad _ _ c;refine⟨?_,λL=>?_⟩;rw[World.cell?_alloc_lt _ _ _ r];exact c;rcases u b L with D|D;exact d D;simp at r;omega;intro id g y p;simp only[Sg.upd]at p;split at p;rename_i q;rw[q.1];simp;have:=h.bnd _ _ _ p;simp;omega;intro id l g y k p;rw[hC]at k;split at k;rename_i q;subst q;simp only[Sg.upd]at p;split at p;rename_i q;rw[q.2];exact μ _;rw[m]at p;cases p;rw[a id l k]at p;exact h.gen _ _ _ _ k p;intro id H;show(S.o.set S.n x).get id=none;simp only[hT]at H;rw[hJ,Δ iu];exact h.top id iu;intro b r _;exact qG w o r
 intro b r;rcases u b r with c|c;exact .inl c;right;omega;intro id H _;refine⟨by rw[hC,Δ iu],λg=>by simp only[Sg.upd];rw[Δ iu],λl b base sz k J=>?_⟩;exact qG w o (h.lt ⟨id,l,base,sz,k,J⟩);intro id H N;refine⟨by rw[hC,Δ iu];exact N,λg=>?_⟩;simp only[Sg.upd];rw[Δ iu]
theorem stp_put{σ:Sg}{S:Sto}{w w':World}(h:Rel σ S w){id:Nat}{x y:AObj}{b base sz:Nat}{o:Obj}(r:S.get id=some x)(D:σ id (eR x)=some (b,base,sz))(N:eR y=eR x)(ho:w'.heap[b]?=some o)(hy:ObjR σ base sz y o)(L:w'.heap.size=w.heap.size)(l:∀b',b'≠b->w'.heap[b']?=w.heap[b']?)(Y:w'.os=w.os)(Z:w'.output=w.output)(h3:w'.tape=w.tape): Stp σ S w σ (S.put id y) w':=by
 have H:=hE r;have a:∀i z,(S.put id y).get i=some z->∃f,S.get i=some f/\eR z=eR f/\(i≠id->z=f)/\(i=id->z=y):=by intro i z d;rw[hK]at d;split at d;rename_i B;obtain⟨rfl,_⟩:=B;obtain rfl:y=z:=by{simpa using d};exact⟨x,r,N,λq=>absurd rfl q,λ_=>rfl⟩;rename_i B;refine⟨z,d,rfl,λ_=>rfl,λe=>?_⟩;subst e;exact absurd ⟨rfl,H⟩ B
 have p:∀b',Has σ (S.put id y) b'->Has σ S b':=by rintro b' ⟨i,z,base',sz',d,E⟩;obtain⟨f,c,m,_,_⟩:=a i z d;exact⟨i,f,base',sz',c,by rw[<-m];exact E⟩
 refine⟨⟨?_,?_,?_,?_,?_,?_⟩,σ.le_refl,by rw[L];exact δ _,?_,λb' k=>.inl (p b' k),δ _,by rw[hL];omega,?_,Y,Z,h3,?_,λ_ _ _ h=>.inl h⟩;intro i z d;obtain⟨f,c,m,q,G⟩:=a i z d;by_cases e:i=id;subst e;rw[G rfl];exact⟨b,base,sz,o,by rw[N];exact D,ho,hy⟩;rw[q e];obtain⟨b',base',sz',o',u,A,F⟩:=h.obj i f c;refine⟨b',base',sz',o',u,?_,F⟩;rw[l b' (λk=>e ?_)];exact A;subst k;exact h.inj i f id x b' base' sz' base sz c r u D;intro O z1 P z2 b' Q s1 R s2 u A F T;obtain⟨y1,U,k1,_,_⟩:=a O z1 u;obtain⟨y2,X,k2,_,_⟩:=a P z2 A;exact h.inj O y1 P y2 b' Q s1 R s2 U X (by rw[<-k1];exact F) (by rw[<-k2];exact T);intro b' off V hm;obtain⟨u,A⟩:=h.mu b' off V hm;refine⟨?_,λhh=>A (p b' hh)⟩
 have:b'≠b:=λk=>A ⟨id,x,base,sz,r,by rw[k];exact D⟩;rw[<-u];simp[World.cell?,l b' this];exact λi g z d=>h.bnd i g z d;intro i z g v d hv;obtain⟨f,c,m,_,_⟩:=a i z d;rw[m];exact h.gen i f g v c hv;intro i e;show(S.o.set id y).get i=none;simp only[h4]at e;rw[hJ,Δ iu];exact h.top i e;intro b' aa C;exact l b' λk=>C ⟨id,x,base,sz,r,by rw[k];exact D⟩;intro i e hl;rw[hL]at hl;refine⟨by rw[hK,Δ iu],λ_=>rfl,λx' b' base' sz' M J=>?_⟩;refine l b' λk=>?_;subst k;have:=h.inj i x' id x b' base' sz' base sz M r J D;omega;intro i e C;refine⟨?_,λ_=>rfl⟩;rw[hK,Δ (λB=>?_)];exact C;rw[B.1,r]at C;cases C
theorem RP{σ:Sg}{S:Sto}{w w':World}(h:Rel σ S w){id:Nat}{x y:AObj}{b base sz b' base' sz':Nat}{o:Obj}(D:S.get id=some x)(Q:σ id (eR x)=some (b,base,sz))(T:eR y=eR x+1)(ho:w'.heap[b']?=some o)(hy:ObjR (σ.upd id (eR x+1) (b',base',sz')) base' sz' y o)(q:b'=b∨w.heap.size<=b')(aa:w.heap.size<=w'.heap.size)(F:∀c,c<w.heap.size->c≠b'->w'.heap[c]?=w.heap[c]?)(h1:w'.os=w.os)(h2:w'.output=w.output)(h3:w'.tape=w.tape): Stp σ S w (σ.upd id (eR x+1) (b',base',sz')) (S.put id y) w':=by
 have U:=hE D;have N:σ id (eR x+1)=none:=by cases m:σ id (eR x+1)with|none=>rfl|some v=>have:=h.gen id x _ v D m;omega
 have X:=hO (b',base',sz') N;have l:∀i z,(S.put id y).get i=some z->(i≠id/\S.get i=some z)∨(i=id/\z=y):=by intro i z A;rw[hK]at A;split at A;rename_i E;exact .inr ⟨E.1,by simpa using A.symm⟩;rename_i E;refine .inl ⟨λp=>E ⟨p,by rw[p];exact U⟩,A⟩
 have f:∀i g,i≠id->(σ.upd id (eR x+1) (b',base',sz')) i g=σ i g:=λi g p=>by simp only[Sg.upd];rw[Δ iu]
 have J:∀c,Has (σ.upd id (eR x+1) (b',base',sz')) (S.put id y) c->(Has σ S c/\c≠b)∨c=b':=by rintro c ⟨i,z,a,B,A,e⟩;rcases l i z A with⟨p,u⟩|⟨rfl,rfl⟩;rw[f i _ p]at e;refine .inl ⟨⟨i,z,a,B,u,e⟩,λm=>p ?_⟩;subst m;exact h.inj i z id x c a B base sz u D e Q;rw[T,hw]at e;right;simp at e;exact e.1.symm
 have r:Has σ S b:=⟨id,x,base,sz,D,Q⟩;refine⟨⟨?_,?_,?_,?_,?_,?_⟩,X,aa,?_,?_,δ _,by rw[hL];omega,?_,h1,h2,h3,?_,λ_ _ _ h=>.inl h⟩;intro i z A;rcases l i z A with⟨p,u⟩|⟨rfl,rfl⟩;obtain⟨c,a,B,o1,L,M,C⟩:=h.obj i z u;refine⟨c,a,B,o1,by rw[f i _ p];exact L,?_,C.mono X⟩;have m:=(cU.1 M).1;rw[F c m (λk=>?_)];exact M;subst k;rcases q with d|d;subst d;exact p (h.inj i z id x c a B base sz u D L Q);omega;exact⟨b',base',sz',o,by rw[T];exact hw _ _ _ _,ho,hy⟩;intro i1 z1 i2 z2 c P R c2 s2 L M C G;rcases l i1 z1 L with⟨n1,g1⟩|⟨rfl,rfl⟩<;>rcases l i2 z2 M with⟨n2,g2⟩|⟨rfl,rfl⟩;rw[f _ _ n1]at C;rw[f _ _ n2]at G;exact h.inj i1 z1 i2 z2 c P R c2 s2 g1 g2 C G;exfalso
 rw[f _ _ n1]at C;rw[T,hw]at G;have m:b'=c:=by simp at G;exact G.1
 rcases q with d|d;exact n1 (h.inj i1 z1 i2 x c P R base sz g1 D C (by rw[<-m,d];exact Q));have:=h.lt ⟨i1,z1,_,_,g1,C⟩;omega;exfalso;rw[f _ _ n2]at G;rw[T,hw]at C;have m:b'=c:=by simp at C;exact C.1
 rcases q with d|d;exact n2 (h.inj i2 z2 i1 x c c2 s2 base sz g2 D G (by rw[<-m,d];exact Q));have:=h.lt ⟨i2,z2,_,_,g2,G⟩;omega;rfl;intro c off V hm;obtain⟨L,M⟩:=h.mu c off V hm;have m:=ad _ _ L;have k:c≠b':=by rintro rfl;rcases q with d|d;subst d;exact M r;simp at m;omega
 refine⟨?_,λhh=>?_⟩;rw[<-L];simp[World.cell?,F c m k];rcases J c hh with H|H;exact M H.1;exact k H;intro i g z A;simp only[Sg.upd]at A;split at A;rename_i E;rw[E.1];exact U;exact h.bnd i g z A;intro i z g v A hv;rcases l i z A with⟨p,u⟩|⟨rfl,rfl⟩;rw[f i _ p]at hv;exact h.gen i z g v u hv;simp only[Sg.upd]at hv;split at hv;rename_i E;rw[T,E.2];exact δ _;have:=h.gen i x g v D hv;omega;intro i p;show(S.o.set id y).get i=none;simp only[h4]at p;rw[hJ,Δ iu];exact h.top i p;intro c m Y;refine F c m λk=>?_;subst k;rcases q with d|d;subst d;exact Y r;omega;intro c m;rcases J c m with H|H;exact .inl H.1;rcases q with d|d;left;rw[H,d];exact r;right;rw[H];exact d;intro i p hl;rw[hL]at hl;refine⟨by rw[hK,Δ iu],λg=>f i g iu,λx1 c P R O e=>?_⟩
 refine F c (h.lt ⟨i,x1,P,R,O,e⟩) λk=>?_;subst k;rcases q with d|d;subst d;have:=h.inj i x1 id x c P R base sz O D e Q;omega;have:=h.lt ⟨i,x1,P,R,O,e⟩;omega;intro i p Y;have Z:i≠id:=λE=>by rw[E,D]at Y;cases Y
 exact⟨by rw[hK,Δ iu];exact Y,λg=>f i g Z⟩
