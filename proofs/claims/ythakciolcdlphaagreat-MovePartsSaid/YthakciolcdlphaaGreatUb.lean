/-
  The abstract machine: what an abstract value, a store say of real ones; laws of tries.
-/
import Derived.Test.YthakciolcdlphaaGreatUa
import Derived.Laws.Sem
import Derived.Laws.World
set_option linter.unusedVariables false
set_option linter.unusedSimpArgs false
namespace Go.Abs
theorem dU {α:Type} (n m:Nat) (x y:α):(bif Nat.beq n m then x else y)=if n=m then x else y:=by
 by_cases h:n=m
 ·subst h;simp
 ·have:Nat.beq n m=false:=by rw [Bool.eq_false_iff];intro h';exact h (Nat.eq_of_beq_eq_true h')
  simp [this,h]
theorem dL {α:Type} (n m:Nat) (x y:α):(bif Nat.blt n m then x else y)=if n<m then x else y:=by
 by_cases h:n<m
 ·have:Nat.blt n m=true:=by simpa [Nat.blt_eq] using h
  simp [this,h]
 ·have:Nat.blt n m=false:=by rw [Bool.eq_false_iff];simpa [Nat.blt_eq] using h
  simp [this,h]
theorem jQ {α:Type} (n m:Nat) (x y:α):(bif Nat.ble n m then x else y)=if n<=m then x else y:=by
 by_cases h:n<=m
 ·have:Nat.ble n m=true:=by rw [Nat.ble_eq];exact h
  simp [this,h]
 ·have:Nat.ble n m=false:=by rw [Bool.eq_false_iff];intro h';rw [Nat.ble_eq]at h';exact h h'
  simp [this,h]
theorem oK {α:Type} (n m:Nat) (x y:α):@Bool.rec (fun _=>α) x y (Nat.beq n m)=if n=m then y else x:=by
 rw [<-dU];cases Nat.beq n m<;>rfl
theorem Tr.get_node {α:Type} (v:Option α) (l r:Tr α) (i:Nat):(Tr.node v l r).get i=if i=0 then v else if i%2=1 then l.get (i/2) else r.get (i/2-1):=by
 show @Bool.rec (fun _=>Option α) (@Bool.rec (fun _=>Option α) (r.get (Nat.sub (Nat.div i 2) 1)) (l.get (Nat.div i 2)) (Nat.beq (Nat.mod i 2) 1)) v (Nat.beq i 0)=_
 rw [oK,oK];rfl
theorem Tr.setF_leaf {α:Type} (f i:Nat) (a:Option α):Tr.setF (f+1) .leaf i a=if i=0 then .node a .leaf .leaf else if i%2=1 then .node none (Tr.setF f .leaf (i/2) a) .leaf else .node none .leaf (Tr.setF f .leaf (i/2-1) a):=by
 show @Bool.rec (fun _=>Tr α) (@Bool.rec (fun _=>Tr α) (.node none .leaf (Tr.setF f .leaf (Nat.sub (Nat.div i 2) 1) a)) (.node none (Tr.setF f .leaf (Nat.div i 2) a) .leaf) (Nat.beq (Nat.mod i 2) 1)) (.node a .leaf .leaf) (Nat.beq i 0)=_
 rw [oK,oK];rfl
theorem Tr.setF_node {α:Type} (f i:Nat) (v:Option α) (l r:Tr α) (a:Option α):Tr.setF (f+1) (.node v l r) i a=if i=0 then .node a l r else if i%2=1 then .node v (Tr.setF f l (i/2) a) r else .node v l (Tr.setF f r (i/2-1) a):=by
 show @Bool.rec (fun _=>Tr α) (@Bool.rec (fun _=>Tr α) (.node v l (Tr.setF f r (Nat.sub (Nat.div i 2) 1) a)) (.node v (Tr.setF f l (Nat.div i 2) a) r) (Nat.beq (Nat.mod i 2) 1)) (.node a l r) (Nat.beq i 0)=_
 rw [oK,oK];rfl
theorem Tr.get_setF {α:Type}:∀ (f:Nat) (t:Tr α) (i j:Nat) (a:Option α),i<f->(Tr.setF f t i a).get j=if j=i then a else t.get j:=by
 intro f
 induction f with
 | zero=>intro t i j a h;omega
 | succ f ih=>
   intro t i j a h
   cases t with
   | leaf=>
     rw [Tr.setF_leaf]
     split
     ·rename_i hi;subst hi
      rw [Tr.get_node];by_cases hj:j=0
      ·simp [hj]
      ·simp [hj,Tr.get]
     ·rename_i hi
      split
      ·rename_i hp
       rw [Tr.get_node,ih .leaf (i/2) (j/2) a (by omega)]
       by_cases hj:j=0
       ·have:¬ j=i:=by omega
        simp [hj,Tr.get];intro h0;omega
       ·by_cases hq:j%2=1
        ·by_cases he:j=i
         ·simp [he,hi,hp]
         ·have:¬ j/2=i/2:=by omega
          simp [hj,hq,he,this,Tr.get]
        ·have:¬ j=i:=by intro he;subst he;exact hq hp
         simp [hj,hq,this,Tr.get]
      ·rename_i hp
       rw [Tr.get_node,ih .leaf (i/2-1) (j/2-1) a (by omega)]
       by_cases hj:j=0
       ·simp [hj,Tr.get];intro h0;omega
       ·by_cases hq:j%2=1
        ·have:¬ j=i:=by intro he;subst he;exact hp hq
         simp [hj,hq,this,Tr.get]
        ·by_cases he:j=i
         ·simp [he,hi,hp]
         ·have:¬ j/2-1=i/2-1:=by omega
          simp [hj,hq,he,this,Tr.get]
   | node v l r=>
     rw [Tr.setF_node]
     split
     ·rename_i hi;subst hi
      rw [Tr.get_node,Tr.get_node];by_cases hj:j=0
      ·simp [hj]
      ·simp [hj]
     ·rename_i hi
      split
      ·rename_i hp
       rw [Tr.get_node,Tr.get_node,ih l (i/2) (j/2) a (by omega)]
       by_cases hj:j=0
       ·simp [hj];intro h0;omega
       ·by_cases hq:j%2=1
        ·by_cases he:j=i
         ·simp [he,hi,hp]
         ·have:¬ j/2=i/2:=by omega
          simp [hj,hq,he,this]
        ·have:¬ j=i:=by intro he;subst he;exact hq hp
         simp [hj,hq,this]
      ·rename_i hp
       rw [Tr.get_node,Tr.get_node,ih r (i/2-1) (j/2-1) a (by omega)]
       by_cases hj:j=0
       ·simp [hj];intro h0;omega
       ·by_cases hq:j%2=1
        ·have:¬ j=i:=by intro he;subst he;exact hp hq
         simp [hj,hq,this]
        ·by_cases he:j=i
         ·simp [he,hi,hp]
         ·have:¬ j/2-1=i/2-1:=by omega
          simp [hj,hq,he,this]
theorem Tr.get_set {α:Type} (t:Tr α) (i j:Nat) (a:α):(t.set i a).get j=if j=i then some a else t.get j:=Tr.get_setF _ _ _ _ _ (by omega)
theorem Tr.get_del {α:Type} (t:Tr α) (i j:Nat):(t.del i).get j=if j=i then none else t.get j:=Tr.get_setF _ _ _ _ _ (by omega)
theorem Tr.get_lay {α:Type}:∀ (l:List α) (t:Tr α) (i j:Nat),(t.lay i l).get j=if i<=j/\j<i+l.length then l[j-i]? else t.get j:=by
 intro l
 induction l with
 | nil=>intro t i j;simp [Tr.lay];intro h1 h2;omega
 | cons a l ih=>
   intro t i j
   rw [Tr.lay,ih,Tr.get_set]
   by_cases h1:j=i
   ·subst h1
    have h3:¬ (j+1<=j/\j<j+1+l.length):=by omega
    rw [if_neg h3]
    simp
   ·by_cases h2:i<=j/\j<i+(a::l).length
    ·have h3:i+1<=j/\j<i+1+l.length:=by simp at h2;omega
     rw [if_pos h3,if_pos h2]
     have:j-i=(j-(i+1))+1:=by omega
     rw [this];simp
    ·have h3:¬ (i+1<=j/\j<i+1+l.length):=by simp at h2;omega
     rw [if_neg h3,if_neg h1,if_neg h2]
theorem Tr.row_spec {α:Type} (t:Tr α):∀ (n i:Nat) (l:List α),t.row i n=some l->l.length=n/\∀ k,k<n->t.get (i+k)=l[k]?:=by
 intro n
 induction n with
 | zero=>intro i l h;simp [Tr.row]at h;subst h;simp
 | succ n ih=>
   intro i l h
   simp only [Tr.row]at h
   cases hg:t.get i with
   | none=>simp [hg]at h
   | some a=>
     simp only [hg]at h
     cases hr:t.row (i+1) n with
     | none=>simp [hr]at h
     | some r=>
       simp only [hr,Option.some.injEq]at h
       subst h
       obtain ⟨hl,hk⟩:=ih (i+1) r hr
       refine ⟨by simp [hl],fun k hkn=>?_⟩
       cases k with
       | zero=>simpa using hg
       | succ k=>
         have:=hk k (by omega)
         rw [show i+(k+1)=i+1+k by omega,this]
         simp
theorem Sto.get_eq (s:Sto) (i:Nat):s.get i=if i<s.n then s.o.get i else none:=dL _ _ _ _
theorem Sto.get_lt {s:Sto} {i:Nat} {x:AObj} (h:s.get i=some x):i<s.n:=by
 rw [Sto.get_eq]at h;split at h<;>simp_all
theorem Sto.get_push (s:Sto) (x:AObj) (i:Nat):(s.push x).get i=if i=s.n then some x else s.get i:=by
 simp only [Sto.get_eq,Sto.push,Tr.get_set]
 by_cases h:i=s.n
 ·simp [h]
 ·by_cases h2:i<s.n
  ·simp [h,h2,Nat.lt_succ_of_lt h2]
  ·have:¬ i<s.n+1:=by omega
   simp [h2,this]
   intro h3;omega
theorem Sto.get_put (s:Sto) (j:Nat) (x:AObj) (i:Nat):(s.put j x).get i=if i=j/\i<s.n then some x else s.get i:=by
 simp only [Sto.get_eq,Sto.put,Tr.get_set]
 by_cases h:i=j<;>by_cases h2:i<s.n<;>simp [h2]<;>simp_all
@[simp] theorem Sto.n_push (s:Sto) (x:AObj):(s.push x).n=s.n+1:=rfl
@[simp] theorem Sto.n_put (s:Sto) (j:Nat) (x:AObj):(s.put j x).n=s.n:=rfl
@[simp] theorem Sto.low_push (s:Sto) (x:AObj):(s.push x).low=s.low:=rfl
theorem Sto.low_put (s:Sto) (j:Nat) (x:AObj):(s.put j x).low=min j s.low:=by
 simp only [Sto.put,dL]
 split<;>omega
structure Sg where
 m:Nat->Nat->Option Value
 s:Nat->Nat->Option (Nat × Nat × Nat)
instance:CoeFun Sg fun _=>Nat->Nat->Option (Nat × Nat × Nat):=⟨Sg.s⟩
inductive FnR (σ:Sg):Fn->Fn->Prop
 | func (f:FuncId):FnR σ (.func f) (.func f)
 | method (n:String):FnR σ (.method n) (.method n)
 | methodOf (t:TypeId) (n:String):FnR σ (.methodOf t n) (.methodOf t n)
 | via (t:TypeId) (p:Array FieldStep) (f:FuncId) (b:Bool):FnR σ (.via t p f b) (.via t p f b)
 | yield (l b base sz:Nat):σ l 0=some (b,base,sz)->FnR σ (.yield l) (.yield b)
def aIj (base off len C sz:Nat):ACap->Prop
 | .is c=>C=c
 | .room k=>base+off+C*k<=sz
 | .least k c=>c<=C/\base+off+C*k<=sz
theorem pN {base off len C sz k n c:Nat} (h1:base+off+C*k<=sz) (h2:c<=C):aIj base off len C sz (eP k n c):=by
 unfold eP
 cases Nat.beq n c with
 | true=>exact h1
 | false=>exact ⟨h2,h1⟩
inductive VR (σ:Sg):AV->Value->Prop
 | top (V:Value):VR σ .top V
 | bool (b:Bool):VR σ (.bool b) (.bool b)
 | int (k:IntKind) (n:Int):VR σ (.int k n) (.int k n)
 | str (l:List Nat) (s:ByteArray):s.data.toList.map (·.toNat)=l->VR σ (.str l) (.string s)
 | nilp:VR σ .nilp (.pointer none)
 | ptr (id g off b base sz:Nat):σ id g=some (b,base,sz)->VR σ (.ptr id g off) (.pointer (some ⟨b,base+off,none⟩))
 | pf (v:AV) (b off:Nat):(∀ i c V,v.cells[i]?=some c->σ.m b (off+i)=some V->VR σ c V)->(∀ i,i<v.cells.length->(σ.m b (off+i)).isSome=true)->
  VR σ (.pf v) (.pointer (some ⟨b,off,none⟩))
 | nils:VR σ .nils (.slice none 0 0)
 | sl (id g off len:Nat) (cap:ACap) (b base sz C:Nat):σ id g=some (b,base,sz)->len<=C->aIj base off len C sz cap->
  VR σ (.sl id g off len cap) (.slice (some ⟨b,base+off,none⟩) len C)
 | fz (l:List AV) (clip:Bool) (a:Addr) (C:Nat) (b off k:Nat):(0<l.length->a=⟨b,off,none⟩)->l.length<=C->(clip=true->C=l.length)->
  (∀ x,x∈l->x.cells.length=k)->
  (∀ i j x c V,l[i]?=some x->x.cells[j]?=some c->σ.m b (off+i*k+j)=some V->VR σ c V)->
  (∀ i j,i<l.length->j<k->(σ.m b (off+i*k+j)).isSome=true)->
  VR σ (.fz l clip) (.slice (some a) l.length C)
 | nilm:VR σ .nilm (.map none)
 | map (id b base sz:Nat):σ id 0=some (b,base,sz)->VR σ (.map id) (.map (some b))
 | func (f F:Fn) (a c:List AV) (A C:Array Value):FnR σ f F->a.length=A.size->c.length=C.size->
  (∀ (i:Nat) x X,a[i]?=some x->A[i]?=some X->VR σ x X)->(∀ (i:Nat) x X,c[i]?=some x->C[i]?=some X->VR σ x X)->
  VR σ (.func f a c) (.func F A C)
 | nilf:VR σ .nilf .nilFunc
 | iface (t:TypeId) (v:AV) (V:Value):VR σ v V->VR σ (.iface t v) (.iface t V)
 | nili:VR σ .nili .nilIface
 | agg (xs:List AV) (ys:Array Value):xs.length=ys.size->(∀ (i:Nat) x X,xs[i]?=some x->ys[i]?=some X->VR σ x X)->VR σ (.agg xs) (.agg ys)
 | tuple (xs:List AV) (ys:Array Value):xs.length=ys.size->(∀ (i:Nat) x X,xs[i]?=some x->ys[i]?=some X->VR σ x X)->VR σ (.tuple xs) (.tuple ys)
def VRs (σ:Sg) (xs:List AV) (ys:List Value):Prop:=xs.length=ys.length/\∀ (i:Nat) x X,xs[i]?=some x->ys[i]?=some X->VR σ x X
structure Sg.le (σ τ:Sg):Prop where
 s:∀ id g x,σ id g=some x->τ id g=some x
 m:∀ b o V,σ.m b o=some V->τ.m b o=some V
instance {σ τ:Sg}:CoeFun (Sg.le σ τ) fun _=>∀ id g x,σ id g=some x->τ id g=some x:=⟨Sg.le.s⟩
theorem Sg.le_refl (σ:Sg):σ.le σ:=⟨fun _ _ _ h=>h,fun _ _ _ h=>h⟩
theorem Sg.le_trans {σ τ ρ:Sg} (h:σ.le τ) (h':τ.le ρ):σ.le ρ:=⟨fun _ _ _ x=>h' _ _ _ (h _ _ _ x),fun _ _ _ x=>h'.m _ _ _ (h.m _ _ _ x)⟩
theorem Sg.le.some {σ τ:Sg} (h:σ.le τ) {b o:Nat} {V:Value} (hs:(σ.m b o).isSome=true) (hV:τ.m b o=some V):σ.m b o=some V:=by
 cases hc:σ.m b o with
 | none=>rw [hc]at hs;cases hs
 | some W=>rw [<-hV,h.m _ _ _ hc]
theorem Sg.le.isSome {σ τ:Sg} (h:σ.le τ) {b o:Nat} (hs:(σ.m b o).isSome=true):(τ.m b o).isSome=true:=by
 cases hc:σ.m b o with
 | none=>rw [hc]at hs;cases hs
 | some W=>rw [h.m _ _ _ hc];rfl
def Sg.nil:Sg:=⟨fun _ _=>none,fun _ _=>none⟩
theorem FnR.mono {σ τ:Sg} (h:σ.le τ) {f F:Fn} (hf:FnR σ f F):FnR τ f F:=by
 cases hf with
 | func f=>exact .func f
 | method n=>exact .method n
 | methodOf t n=>exact .methodOf t n
 | via t p f b=>exact .via t p f b
 | yield l b base sz hl=>exact .yield l b base sz (h _ _ _ hl)
theorem VR.mono {σ τ:Sg} (h:σ.le τ) {v:AV} {V:Value} (hv:VR σ v V):VR τ v V:=by
 induction hv with
 | top V=>exact .top V
 | bool b=>exact .bool b
 | int k n=>exact .int k n
 | str l s hs=>exact .str l s hs
 | nilp=>exact .nilp
 | ptr id g off b base sz hs=>exact .ptr _ _ _ _ _ _ (h _ _ _ hs)
 | pf v b off h1 h2 ih=>exact .pf v b off (fun i c V hc hV=>ih i c V hc (h.some (h2 i (List.getElem?_eq_some_iff.1 hc).1) hV)) fun i hi=>h.isSome (h2 i hi)
 | nils=>exact .nils
 | sl id g off len cap b base sz C hs hl hc=>exact .sl _ _ _ _ _ _ _ _ _ (h _ _ _ hs) hl hc
 | fz l clip a C b off k h1 h2 h3 h4 h5 h6 ih=>
   refine .fz l clip a C b off k h1 h2 h3 h4 (fun i j x c V hx hc hV=>ih i j x c V hx hc (h.some (h6 i j (List.getElem?_eq_some_iff.1 hx).1 ?_) hV)) fun i j hi hj=>h.isSome (h6 i j hi hj)
   rw [<-h4 x (List.mem_of_getElem? hx)]
   exact (List.getElem?_eq_some_iff.1 hc).1
 | nilm=>exact .nilm
 | map id b base sz hs=>exact .map _ _ _ _ (h _ _ _ hs)
 | func f F a c A C hf h1 h2 h3 h4 ih1 ih2=>exact .func _ _ _ _ _ _ (hf.mono h) h1 h2 ih1 ih2
 | nilf=>exact .nilf
 | iface t v V hv ih=>exact .iface _ _ _ ih
 | nili=>exact .nili
 | agg xs ys hl h1 ih=>exact .agg _ _ hl ih
 | tuple xs ys hl h1 ih=>exact .tuple _ _ hl ih
theorem VRs.mono {σ τ:Sg} (h:σ.le τ) {xs:List AV} {ys:List Value} (hv:VRs σ xs ys):VRs τ xs ys:=⟨hv.1,fun i x X h1 h2=>(hv.2 i x X h1 h2).mono h⟩
theorem VRs.nil (σ:Sg):VRs σ [] []:=⟨rfl,fun i x X h=>by simp at h⟩
theorem VRs.cons {σ:Sg} {x:AV} {X:Value} {xs:List AV} {ys:List Value} (h:VR σ x X) (hs:VRs σ xs ys):VRs σ (x::xs) (X::ys):=by
 refine ⟨by simp [hs.1],fun i y Y h1 h2=>?_⟩
 cases i with
 | zero=>simp at h1 h2;subst h1;subst h2;exact h
 | succ i=>simp at h1 h2;exact hs.2 i y Y h1 h2
theorem VRs.head {σ:Sg} {x:AV} {xs:List AV} {ys:List Value} (h:VRs σ (x::xs) ys):∃ X zs,ys=X::zs/\VR σ x X/\VRs σ xs zs:=by
 cases ys with
 | nil=>have:=h.1;simp at this
 | cons X zs=>
   refine ⟨X,zs,rfl,h.2 0 x X rfl rfl,by have:=h.1;simpa using this,fun i y Y h1 h2=>h.2 (i+1) y Y (by simpa using h1) (by simpa using h2)⟩
theorem VRs.nil_inv {σ:Sg} {ys:List Value} (h:VRs σ [] ys):ys=[]:=by
 have:=h.1;cases ys<;>simp_all
theorem VRs.append {σ:Sg} {xs xs':List AV} {ys ys':List Value} (h:VRs σ xs ys) (h':VRs σ xs' ys'):VRs σ (xs++xs') (ys++ys'):=by
 induction xs generalizing ys with
 | nil=>rw [h.nil_inv];simpa using h'
 | cons x xs ih=>
   obtain ⟨X,zs,rfl,hx,hr⟩:=h.head
   exact VRs.cons hx (ih hr)
theorem VRs.take {σ:Sg} {xs:List AV} {ys:List Value} (h:VRs σ xs ys) (n:Nat):VRs σ (xs.take n) (ys.take n):=by
 refine ⟨by simp [h.1],fun i x X h1 h2=>?_⟩
 rw [List.getElem?_take]at h1 h2
 split at h1
 ·rename_i hi;rw [if_pos hi]at h2;exact h.2 i x X h1 h2
 ·simp at h1
theorem VRs.drop {σ:Sg} {xs:List AV} {ys:List Value} (h:VRs σ xs ys) (n:Nat):VRs σ (xs.drop n) (ys.drop n):=by
 refine ⟨by simp [h.1],fun i x X h1 h2=>?_⟩
 rw [List.getElem?_drop]at h1 h2
 exact h.2 _ x X h1 h2
theorem VRs.slice {σ:Sg} {xs:List AV} {ys:List Value} (h:VRs σ xs ys) (i n:Nat):VRs σ (aZ xs i n) ((ys.drop i).take n):=(h.drop i).take n
theorem VRs.get {σ:Sg} {xs:List AV} {ys:List Value} (h:VRs σ xs ys) {i:Nat} {x:AV} (hx:xs[i]?=some x):∃ X,ys[i]?=some X/\VR σ x X:=by
 have hi:i<xs.length:=by
  rcases Nat.lt_or_ge i xs.length with h' | h'
  ·exact h'
  ·rw [List.getElem?_eq_none h']at hx;simp at hx
 have hi':i<ys.length:=by rw [<-h.1];exact hi
 exact ⟨ys[i],List.getElem?_eq_getElem hi',h.2 i x _ hx (List.getElem?_eq_getElem hi')⟩
theorem VRs.map {σ:Sg} {α:Type} (f:α->AV) (F:α->Value) (l:List α) (h:∀ x∈l,VR σ (f x) (F x)):VRs σ (l.map f) (l.map F):=by
 induction l with
 | nil=>exact VRs.nil σ
 | cons a l ih=>exact VRs.cons (h a (by simp)) (ih fun x hx=>h x (by simp [hx]))
theorem VR.agg_iff {σ:Sg} {xs:List AV} {V:Value}:VR σ (.agg xs) V↔∃ ys,V=.agg ys/\VRs σ xs ys.toList:=by
 constructor
 ·intro h
  cases h with
  | agg _ ys hl h1=>exact ⟨ys,rfl,by simpa using hl,fun i x X hx hX=>h1 i x X hx (by simpa using hX)⟩
 ·rintro ⟨ys,rfl,hl,h1⟩
  exact .agg _ _ (by simpa using hl) fun i x X hx hX=>h1 i x X hx (by simpa using hX)
theorem VR.tuple_iff {σ:Sg} {xs:List AV} {V:Value}:VR σ (.tuple xs) V↔∃ ys,V=.tuple ys/\VRs σ xs ys.toList:=by
 constructor
 ·intro h
  cases h with
  | tuple _ ys hl h1=>exact ⟨ys,rfl,by simpa using hl,fun i x X hx hX=>h1 i x X hx (by simpa using hX)⟩
 ·rintro ⟨ys,rfl,hl,h1⟩
  exact .tuple _ _ (by simpa using hl) fun i x X hx hX=>h1 i x X hx (by simpa using hX)
theorem VR.isCell {σ:Sg} {v:AV} {V:Value} (h:VR σ v V) (hc:v.isCell=true):V.cells = #[V]/\V.oneCell'=true/\v.cells=[v]:=by
 cases h<;>first | (simp [AV.isCell]at hc;done) | exact ⟨rfl,rfl,rfl⟩
theorem VR.cells {σ:Sg} {v:AV} {V:Value} (h:VR σ v V) (hv:v.isCell=true∨∃ cs,v=.agg cs):VRs σ v.cells V.cells.toList:=by
 rcases hv with hc | ⟨cs,rfl⟩
 ·obtain ⟨h1,_,h3⟩:=h.isCell hc
  rw [h1,h3]
  exact VRs.cons h (VRs.nil σ)
 ·obtain ⟨ys,rfl,hs⟩:=VR.agg_iff.1 h
  exact hs
theorem jK {v:AV} (h:v.cells.all AV.isCell=true):v.isCell=true∨∃ cs,v=.agg cs:=by
 cases v<;>first | exact .inr ⟨_,rfl⟩ | (left;simpa [AV.cells] using h)
def Sg.cut (σ:Sg) (n:Nat):Sg:=⟨σ.m,fun id g=>if id<n then σ id g else none⟩
theorem Sg.cut_le (σ:Sg) (n:Nat):(σ.cut n).le σ:=by
 refine ⟨fun id g x h=>?_,fun _ _ _ h=>h⟩
 simp only [Sg.cut]at h;split at h<;>simp_all
theorem VR.cut {σ:Sg} {n:Nat}:∀ (d:Nat) (v:AV) (V:Value),v.under n d=true->VR σ v V->VR (σ.cut n) v V:=by
 intro d
 induction d with
 | zero=>intro v V h;simp [AV.under]at h
 | succ d ih=>
   intro v V hu h
   have hall:∀ {l:List AV},l.all (AV.under n d)=true->∀ (i:Nat) x,l[i]?=some x->x.under n d=true:=by
    intro l hl i x hx
    exact List.all_eq_true.1 hl x (List.mem_of_getElem? hx)
   cases h with
   | top V=>exact .top V
   | bool b=>exact .bool b
   | int k m=>exact .int k m
   | str l s hs=>exact .str l s hs
   | nilp=>exact .nilp
   | ptr id g off b base sz hs=>
     have:id<n:=by simpa [AV.under,Nat.blt_eq] using hu
     exact .ptr _ _ _ _ _ _ (show σ.cut n id g=some (b,base,sz) by simp [Sg.cut,this,hs])
   | pf v b off h1 h2=>
     have hv:v.under n d=true:=by simpa [AV.under] using hu
     refine .pf v b off (fun i c V hc hV=>?_) h2
     have h3:=h1 i c V hc hV
     cases d with
     | zero=>simp [AV.under]at hv
     | succ d=>
       by_cases hagg:∃ cs,v=.agg cs
       ·obtain ⟨cs,rfl⟩:=hagg
        have hcs:cs.all (AV.under n d)=true:=by simpa [AV.under] using hv
        have hc':c.under n d=true:=List.all_eq_true.1 hcs c (List.mem_of_getElem? hc)
        exact ih c V (by
         have:∀ (m:Nat) (x:AV),x.under n m=true->x.under n (m+1)=true:=by
          intro m
          induction m with
          | zero=>intro x h;simp [AV.under]at h
          | succ m ihm=>
            intro x hx
            have hl:∀ {l:List AV},l.all (AV.under n m)=true->l.all (AV.under n (m+1))=true:=fun h=>List.all_eq_true.2 fun y hy=>ihm y (List.all_eq_true.1 h y hy)
            cases x<;>simp_all [AV.under]
         exact this d c hc') h3
       ·have:v.cells=[v]:=by cases v<;>first | rfl | exact absurd ⟨_,rfl⟩ hagg
        rw [this]at hc
        cases i with
        | zero=>simp at hc;subst hc;exact ih _ V hv h3
        | succ i=>simp at hc
   | nils=>exact .nils
   | sl id g off len cap b base sz C hs hl hc=>
     have:id<n:=by simpa [AV.under,Nat.blt_eq] using hu
     exact .sl _ _ _ _ _ _ _ _ _ (show σ.cut n id g=some (b,base,sz) by simp [Sg.cut,this,hs]) hl hc
   | fz l clip a C b off k h1 h2 h3 h4 h5 h6=>
     have hl:l.all (AV.under n d)=true:=by simpa [AV.under] using hu
     refine .fz l clip a C b off k h1 h2 h3 h4 (fun i j x c V hx hc hV=>?_) h6
     have hxu:=hall hl i x hx
     have h7:=h5 i j x c V hx hc hV
     cases d with
     | zero=>simp [AV.under]at hxu
     | succ d=>
       by_cases hagg:∃ cs,x=.agg cs
       ·obtain ⟨cs,rfl⟩:=hagg
        have hcs:cs.all (AV.under n d)=true:=by simpa [AV.under] using hxu
        have hc':c.under n d=true:=List.all_eq_true.1 hcs c (List.mem_of_getElem? hc)
        exact ih c V (by
         have:∀ (m:Nat) (x:AV),x.under n m=true->x.under n (m+1)=true:=by
          intro m
          induction m with
          | zero=>intro x h;simp [AV.under]at h
          | succ m ihm=>
            intro x hx
            have hl:∀ {l:List AV},l.all (AV.under n m)=true->l.all (AV.under n (m+1))=true:=fun h=>List.all_eq_true.2 fun y hy=>ihm y (List.all_eq_true.1 h y hy)
            cases x<;>simp_all [AV.under]
         exact this d c hc') h7
       ·have:x.cells=[x]:=by cases x<;>first | rfl | exact absurd ⟨_,rfl⟩ hagg
        rw [this]at hc
        cases j with
        | zero=>simp at hc;subst hc;exact ih _ V hxu h7
        | succ j=>simp at hc
   | nilm=>exact .nilm
   | map id b base sz hs=>
     have:id<n:=by simpa [AV.under,Nat.blt_eq] using hu
     exact .map _ _ _ _ (show σ.cut n id 0=some (b,base,sz) by simp [Sg.cut,this,hs])
   | func f F a c A C hf h1 h2 h3 h4=>
     simp only [AV.under,Bool.and_eq_true]at hu
     refine .func _ _ _ _ _ _ ?_ h1 h2 (fun i x X hx hX=>ih x X (hall hu.1.2 i x hx) (h3 i x X hx hX)) (fun i x X hx hX=>ih x X (hall hu.2 i x hx) (h4 i x X hx hX))
     cases hf with
     | func f=>exact .func f
     | method n=>exact .method n
     | methodOf t n=>exact .methodOf t n
     | via t p f b=>exact .via t p f b
     | yield l b base sz hl=>
       have:l<n:=by simpa [Nat.blt_eq] using hu.1.1
       exact .yield l b base sz (by simp [Sg.cut,this,hl])
   | nilf=>exact .nilf
   | iface t v V hv=>exact .iface _ _ _ (ih v V (by simpa [AV.under] using hu) hv)
   | nili=>exact .nili
   | agg xs ys hl h1=>
     have hx:xs.all (AV.under n d)=true:=by simpa [AV.under] using hu
     exact .agg _ _ hl fun i x X h2 h3=>ih x X (hall hx i x h2) (h1 i x X h2 h3)
   | tuple xs ys hl h1=>
     have hx:xs.all (AV.under n d)=true:=by simpa [AV.under] using hu
     exact .tuple _ _ hl fun i x X h2 h3=>ih x X (hall hx i x h2) (h1 i x X h2 h3)
end Go.Abs
/-
 The abstract machine: what a store says of memory,and how both go on.
-/
namespace Go.Abs
def cN:AObj->Nat
 | .cells g _ _=>g
 | _=>0
def TmR (σ:Sg) (nt:Nat) (t:Tr AV) (T:Array Value):Prop:=T.size=nt/\∀ i v,t.get i=some v->i<nt/\VR σ v (T.getD i undef)
inductive DefR (σ:Sg):ADef->Deferred->Prop
 | call (f F:Fn) (first cap args:List AV) (A C:Array Value):FnR σ f F->VRs σ cap C.toList->VRs σ (first++args) A.toList->
  DefR σ (.call (.func f first cap) args) {target:=.fn F C,args:=A}
 | collected (id b base sz:Nat):σ id 0=some (b,base,sz)->DefR σ (.collected id) {target:=.collected b,args:=#[]}
inductive DefsR (σ:Sg):List ADef->List Deferred->Prop
 | nil:DefsR σ [] []
 | cons (d:ADef) (D:Deferred) (ds:List ADef) (Ds:List Deferred):DefR σ d D->DefsR σ ds Ds->DefsR σ (d::ds) (D::Ds)
inductive ObjR (σ:Sg) (base sz:Nat):AObj->Obj->Prop
 | cells (g n:Nat) (c:Tr AV) (arr:Array Value) (el:TypeId) (fr:Nat × Nat):arr.size=sz->base+n<=sz->
  (∀ i a,i<n->c.get i=some a->∃ V,arr[base+i]?=some V/\VR σ a V)->(∀ o,o<sz->¬ (fr.1<=o/\o<fr.2))->
  ObjR σ base sz (.cells g n c) (.cells arr el fr)
 | map (es:List (AV × AV × Nat)) (ck:Nat) (ES:Array MapEntry):es.length=ES.size->
  (∀ (i:Nat) k v b E,es[i]?=some (k,v,b)->ES[i]?=some E->VR σ k E.key/\VR σ v E.val/\E.born=b)->
  ObjR σ base sz (.map es ck) (.map ES ck)
 | siter (s:List Nat) (pos:Nat) (bs:ByteArray):bs.data.toList.map (·.toNat)=s->base=0->ObjR σ base sz (.siter s pos) (.stringIter bs pos)
 | loop (st:LoopState) (pe:Option Code) (fn:FuncId) (nt:Nat) (t:Tr AV) (ps:List Nat) (a b:Code) (d:Nat) (T:Array Value) (PS:Array Nat) (db dbase dsz:Nat):
  TmR σ nt t T->PS.toList=ps->σ d 0=some (db,dbase,dsz)->
  ObjR σ base sz (.loop st pe fn nt t ps a b d) (.loop {state:=st,pending:=pe,fn:=fn,tmps:=T,params:=PS,assign:=a,body:=b,defers:=db})
 | defsN:ObjR σ base sz (.defs none) (.deferred none)
 | defsS (ds:List ADef) (Ds:List Deferred):DefsR σ ds Ds->ObjR σ base sz (.defs (some ds)) (.deferred (some Ds))
theorem TmR.mono {σ τ:Sg} (h:σ.le τ) {nt:Nat} {t:Tr AV} {T:Array Value} (ht:TmR σ nt t T):TmR τ nt t T:=⟨ht.1,fun i v hv=>⟨(ht.2 i v hv).1,(ht.2 i v hv).2.mono h⟩⟩
theorem DefR.mono {σ τ:Sg} (h:σ.le τ) {d:ADef} {D:Deferred} (hd:DefR σ d D):DefR τ d D:=by
 cases hd with
 | call f F first cap args A C h1 h2 h3=>exact .call _ _ _ _ _ _ _ (h1.mono h) (h2.mono h) (h3.mono h)
 | collected id b base sz h1=>exact .collected _ _ _ _ (h _ _ _ h1)
theorem DefsR.mono {σ τ:Sg} (h:σ.le τ) {d:List ADef} {D:List Deferred} (hd:DefsR σ d D):DefsR τ d D:=by
 induction hd with
 | nil=>exact .nil
 | cons d D ds Ds h1 h2 ih=>exact .cons _ _ _ _ (h1.mono h) ih
theorem DefsR.append {σ:Sg} {a b:List ADef} {A B:List Deferred} (h:DefsR σ a A) (h':DefsR σ b B):DefsR σ (a++b) (A++B):=by
 induction h with
 | nil=>exact h'
 | cons d D ds Ds h1 h2 ih=>exact .cons _ _ _ _ h1 ih
theorem ObjR.mono {σ τ:Sg} (h:σ.le τ) {base sz:Nat} {x:AObj} {o:Obj} (hx:ObjR σ base sz x o):ObjR τ base sz x o:=by
 cases hx with
 | cells g n c arr el fr h1 h2 h3 h4=>exact .cells g n c arr el fr h1 h2 (fun i a hi ha=>let ⟨V,e,hv⟩:=h3 i a hi ha;⟨V,e,hv.mono h⟩) h4
 | map es ck ES h1 h2=>exact .map es ck ES h1 fun i k v b E h3 h4=>let ⟨a,b,c⟩:=h2 i k v b E h3 h4;⟨a.mono h,b.mono h,c⟩
 | siter s pos bs h1 h2=>exact .siter _ _ _ h1 h2
 | loop st pe fn nt t ps a b d T PS db dbase dsz h1 h2 h3=>exact .loop st pe fn nt t ps a b d T PS db dbase dsz (h1.mono h) h2 (h _ _ _ h3)
 | defsN=>exact .defsN
 | defsS ds Ds h1=>exact .defsS _ _ (h1.mono h)
def Has (σ:Sg) (S:Sto) (b:Nat):Prop:=∃ id x base sz,S.get id=some x/\σ id (cN x)=some (b,base,sz)
structure Rel (σ:Sg) (S:Sto) (w:World):Prop where
 obj:∀ id x,S.get id=some x->∃ b base sz o,σ id (cN x)=some (b,base,sz)/\w.heap[b]?=some o/\ObjR σ base sz x o
 inj:∀ id x id' x' b base sz base' sz',S.get id=some x->S.get id'=some x'->σ id (cN x)=some (b,base,sz)->σ id' (cN x')=some (b,base',sz')->id=id'
 mu:∀ b off V,σ.m b off=some V->w.cell? ⟨b,off,none⟩=some V/\¬ Has σ S b
 bnd:∀ id g x,σ id g=some x->id<S.n
 gen:∀ id x g y,S.get id=some x->σ id g=some y->g<=cN x
 top:∀ id,S.n<=id->S.o.get id=none
structure Stp (σ:Sg) (S:Sto) (w:World) (τ:Sg) (S':Sto) (w':World):Prop where
 rel:Rel τ S' w'
 ext:σ.le τ
 size:w.heap.size<=w'.heap.size
 frame:∀ b,b<w.heap.size->¬ Has σ S b->w'.heap[b]?=w.heap[b]?
 own:∀ b,Has τ S' b->Has σ S b∨w.heap.size<=b
 sn:S.n<=S'.n
 low:S'.low<=S.low
 keep:∀ id,id<S.n->id<S'.low->S'.get id=S.get id/\(∀ g,τ id g=σ id g)/\∀ x b base sz,S.get id=some x->σ id (cN x)=some (b,base,sz)->w'.heap[b]?=w.heap[b]?
 os:w'.os=w.os
 out:w'.output=w.output
 tape:w'.tape=w.tape
 hole:∀ id,id<S.n->S.get id=none->S'.get id=none/\∀ g,τ id g=σ id g
 mnew:∀ b off V,τ.m b off=some V->σ.m b off=some V∨Has σ S b∨w.heap.size<=b
theorem Rel.lt {σ:Sg} {S:Sto} {w:World} (h:Rel σ S w) {b:Nat} (hb:Has σ S b):b<w.heap.size:=by
 obtain ⟨id,x,base,sz,hx,hs⟩:=hb
 obtain ⟨b',base',sz',o,h1,h2,_⟩:=h.obj id x hx
 rw [hs]at h1
 obtain ⟨rfl,-,-⟩:b=b'/\base=base'/\sz=sz':=by simpa using h1
 exact (Array.getElem?_eq_some_iff.1 h2).1
theorem Stp.refl {σ:Sg} {S:Sto} {w:World} (h:Rel σ S w):Stp σ S w σ S w:=
 ⟨h,σ.le_refl,Nat.le_refl _,fun _ _ _=>rfl,fun _ h=>.inl h,Nat.le_refl _,Nat.le_refl _,fun _ _ _=>⟨rfl,fun _=>rfl,fun _ _ _ _ _ _=>rfl⟩,rfl,rfl,rfl,fun _ _ h=>⟨h,fun _=>rfl⟩,fun _ _ _ h=>.inl h⟩
theorem Stp.trans {σ τ ρ:Sg} {S S' S'':Sto} {w w' w'':World} (h:Stp σ S w τ S' w') (h':Stp τ S' w' ρ S'' w''):Stp σ S w ρ S'' w'' where
 rel:=h'.rel
 ext:=Sg.le_trans h.ext h'.ext
 size:=Nat.le_trans h.size h'.size
 frame:=fun b hb hn=>by
  rw [h'.frame b (Nat.lt_of_lt_of_le hb h.size) (fun hh=>?_),h.frame b hb hn]
  rcases h.own b hh with h1 | h1
  ·exact hn h1
  ·omega
 own:=fun b hb=>by
  rcases h'.own b hb with h1 | h1
  ·exact h.own b h1
  ·exact .inr (Nat.le_trans h.size h1)
 sn:=Nat.le_trans h.sn h'.sn
 low:=Nat.le_trans h'.low h.low
 keep:=fun id hi hl=>by
  obtain ⟨a1,a2,a3⟩:=h.keep id hi (Nat.lt_of_lt_of_le hl h'.low)
  obtain ⟨b1,b2,b3⟩:=h'.keep id (Nat.lt_of_lt_of_le hi h.sn) hl
  exact ⟨by rw [b1,a1],fun g=>by rw [b2,a2],fun x b base sz hx hs=>by rw [b3 x b base sz (by rw [a1];exact hx) (by rw [a2];exact hs),a3 x b base sz hx hs]⟩
 os:=h'.os.trans h.os
 out:=h'.out.trans h.out
 tape:=h'.tape.trans h.tape
 hole:=fun id hi hg=>by
  obtain ⟨h1,h2⟩:=h.hole id hi hg
  obtain ⟨h3,h4⟩:=h'.hole id (Nat.lt_of_lt_of_le hi h.sn) h1
  exact ⟨h3,fun g=>by rw [h4,h2]⟩
 mnew:=fun b off V hV=>by
  rcases h'.mnew b off V hV with h1 | h1 | h1
  ·exact h.mnew b off V h1
  ·exact .inr (h.own b h1)
  ·exact .inr (.inr (Nat.le_trans h.size h1))
theorem Rel.world {σ:Sg} {S:Sto} {w w':World} (h:Rel σ S w) (hh:w'.heap=w.heap):Rel σ S w' where
 obj:=fun id x hx=>by rw [hh];exact h.obj id x hx
 inj:=h.inj
 mu:=fun b off V hm=>by
  have:=h.mu b off V hm
  refine ⟨?_,this.2⟩
  rw [<-this.1];simp [World.cell?,hh]
 bnd:=h.bnd
 gen:=h.gen
 top:=h.top
theorem Stp.world {σ:Sg} {S:Sto} {w w':World} (h:Rel σ S w) (hh:w'.heap=w.heap) (h1:w'.os=w.os) (h2:w'.output=w.output) (h3:w'.tape=w.tape):Stp σ S w σ S w':=
 ⟨h.world hh,σ.le_refl,by rw [hh];exact Nat.le_refl _,fun _ _ _=>by rw [hh],fun _ h=>.inl h,Nat.le_refl _,Nat.le_refl _,fun _ _ _=>⟨rfl,fun _=>rfl,fun _ _ _ _ _ _=>by rw [hh]⟩,h1,h2,h3,fun _ _ h=>⟨h,fun _=>rfl⟩,fun _ _ _ h=>.inl h⟩
structure Quiet (w w':World):Prop where
 size:w.heap.size<=w'.heap.size
 heap:∀ b,b<w.heap.size->w'.heap[b]?=w.heap[b]?
 os:w'.os=w.os
 out:w'.output=w.output
 tape:w'.tape=w.tape
theorem Quiet.refl (w:World):Quiet w w:=⟨Nat.le_refl _,fun _ _=>rfl,rfl,rfl,rfl⟩
theorem Quiet.rel {σ:Sg} {S:Sto} {w w':World} (q:Quiet w w') (h:Rel σ S w):Rel σ S w' where
 obj:=fun id x hx=>by
  obtain ⟨b,base,sz,o,h1,h2,h3⟩:=h.obj id x hx
  exact ⟨b,base,sz,o,h1,by rw [q.heap b (Array.getElem?_eq_some_iff.1 h2).1];exact h2,h3⟩
 inj:=h.inj
 mu:=fun b off V hm=>by
  have:=h.mu b off V hm
  have hb:=World.block_lt_of_cell? _ _ this.1
  refine ⟨?_,this.2⟩
  rw [<-this.1];simp [World.cell?,q.heap b hb]
 bnd:=h.bnd
 gen:=h.gen
 top:=h.top
theorem Quiet.stp {σ:Sg} {S:Sto} {w w':World} (q:Quiet w w') (h:Rel σ S w):Stp σ S w σ S w':=
 ⟨q.rel h,σ.le_refl,q.size,fun b hb _=>q.heap b hb,fun _ h=>.inl h,Nat.le_refl _,Nat.le_refl _,
  fun id _ _=>⟨rfl,fun _=>rfl,fun x b base sz hx hs=>q.heap b (h.lt ⟨id,x,base,sz,hx,hs⟩)⟩,q.os,q.out,q.tape,fun _ _ h=>⟨h,fun _=>rfl⟩,fun _ _ _ h=>.inl h⟩
structure QStp (σ:Sg) (w:World) (τ:Sg) (w':World):Prop where
 q:Quiet w w'
 le:σ.le τ
 s:τ.s=σ.s
 m:∀ b off V,τ.m b off=some V->σ.m b off=some V∨(w.heap.size<=b/\w'.cell? ⟨b,off,none⟩=some V)
theorem QStp.refl {σ:Sg} {w w':World} (q:Quiet w w'):QStp σ w σ w':=⟨q,σ.le_refl,rfl,fun _ _ _ h=>.inl h⟩
theorem Has.same {σ τ:Sg} {S:Sto} {b:Nat} (h:τ.s=σ.s) (hb:Has τ S b):Has σ S b:=by
 obtain ⟨id,x,base,sz,h1,h2⟩:=hb
 exact ⟨id,x,base,sz,h1,by rw [<-h];exact h2⟩
theorem QStp.rel {σ τ:Sg} {S:Sto} {w w':World} (q:QStp σ w τ w') (h:Rel σ S w):Rel τ S w' where
 obj:=fun id x hx=>by
  obtain ⟨b,base,sz,o,h1,h2,h3⟩:=(q.q.rel h).obj id x hx
  exact ⟨b,base,sz,o,q.le _ _ _ h1,h2,h3.mono q.le⟩
 inj:=fun id x id' x' b base sz base' sz' h1 h2 h3 h4=>h.inj id x id' x' b base sz base' sz' h1 h2 (by rw [<-q.s];exact h3) (by rw [<-q.s];exact h4)
 mu:=fun b off V hV=>by
  rcases q.m b off V hV with h1 | ⟨h1,h2⟩
  ·have:=(q.q.rel h).mu b off V h1
   exact ⟨this.1,fun hh=>this.2 (hh.same q.s)⟩
  ·exact ⟨h2,fun hh=>by have:=h.lt (hh.same q.s);omega⟩
 bnd:=fun id g x hx=>h.bnd id g x (by rw [<-q.s];exact hx)
 gen:=fun id x g y h1 h2=>h.gen id x g y h1 (by rw [<-q.s];exact h2)
 top:=h.top
theorem QStp.stp {σ τ:Sg} {S:Sto} {w w':World} (q:QStp σ w τ w') (h:Rel σ S w):Stp σ S w τ S w':=
 ⟨q.rel h,q.le,q.q.size,fun b hb _=>q.q.heap b hb,fun _ h=>.inl (h.same q.s),Nat.le_refl _,Nat.le_refl _,
  fun id _ _=>⟨rfl,fun g=>by rw [q.s],fun x b base sz hx hs=>q.q.heap b (h.lt ⟨id,x,base,sz,hx,hs⟩)⟩,q.q.os,q.q.out,q.q.tape,fun _ _ h=>⟨h,fun g=>by rw [q.s]⟩,
  fun b off V hV=>(q.m b off V hV).imp id fun h=>.inr h.1⟩
theorem Stp.drew {σ:Sg} {S:Sto} {w:World} (h:Rel σ S w):Stp σ S w σ S w.drew:=Stp.world h rfl rfl rfl rfl
theorem Rel.low {σ:Sg} {S S':Sto} {w:World} (h:Rel σ S w) (ho:S'.o=S.o) (hn:S'.n=S.n):Rel σ S' w:=
 have hg:∀ id,S'.get id=S.get id:=fun id=>by unfold Sto.get;rw [ho,hn]
 {
 obj:=fun id x hx=>h.obj id x (by rw [<-hg];exact hx)
 inj:=fun id x id' x' b base sz base' sz' h1 h2=>h.inj id x id' x' b base sz base' sz' (by rw [<-hg];exact h1) (by rw [<-hg];exact h2)
 mu:=fun b off V hm=>⟨(h.mu b off V hm).1,fun ⟨id,x,base,sz,h1,h2⟩=>(h.mu b off V hm).2 ⟨id,x,base,sz,by rw [<-hg];exact h1,h2⟩⟩
 bnd:=fun id g x hx=>by rw [hn];exact h.bnd id g x hx
 gen:=fun id x g y h1 h2=>h.gen id x g y (by rw [<-hg];exact h1) h2
 top:=fun id hi=>by rw [ho];exact h.top id (by rw [<-hn];exact hi)}
def Sg.upd (σ:Sg) (id g:Nat) (x:Nat × Nat × Nat):Sg:=⟨σ.m,fun i h=>if i=id/\h=g then some x else σ i h⟩
theorem Sg.upd_same (σ:Sg) (id g:Nat) (x:Nat × Nat × Nat):σ.upd id g x id g=some x:=by simp [Sg.upd]
theorem Sg.le_upd {σ:Sg} {id g:Nat} (x:Nat × Nat × Nat) (h:σ id g=none):σ.le (σ.upd id g x):=by
 refine ⟨fun i g' y hy=>?_,fun _ _ _ h=>h⟩
 simp only [Sg.upd]
 split
 ·rename_i he;obtain ⟨rfl,rfl⟩:=he;rw [h]at hy;cases hy
 ·exact hy
theorem kZ (w:World) (o:Obj) {b:Nat} (h:b<w.heap.size):(w.alloc o).heap[b]?=w.heap[b]?:=by
 simp only [World.alloc,Array.getElem?_push]
 have:b≠w.heap.size:=by omega
 simp [this]
theorem nJ (w:World) (o:Obj):(w.alloc o).heap[w.heap.size]?=some o:=by
 show (w.heap.push o)[w.heap.size]?=some o
 simp
theorem rQ {σ:Sg} {S:Sto} {w:World} (h:Rel σ S w) {x:AObj} {o:Obj} {base sz:Nat} (hg:cN x=0)
 (ho:ObjR (σ.upd S.n 0 (w.heap.size,base,sz)) base sz x o):Stp σ S w (σ.upd S.n 0 (w.heap.size,base,sz)) (S.push x) (w.alloc o):=by
 have hnone:∀ g,σ S.n g=none:=fun g=>by
  cases hs:σ S.n g with
  | none=>rfl
  | some y=>exact absurd (h.bnd _ _ _ hs) (Nat.lt_irrefl _)
 have hle:σ.le (σ.upd S.n 0 (w.heap.size,base,sz)):=Sg.le_upd _ (hnone 0)
 have hold:∀ id x',S.get id=some x'->∀ g,(σ.upd S.n 0 (w.heap.size,base,sz)) id g=σ id g:=fun id x' hx g=>by
  have:=Sto.get_lt hx
  simp only [Sg.upd]
  rw [if_neg (by omega)]
 have hhas:∀ b,Has (σ.upd S.n 0 (w.heap.size,base,sz)) (S.push x) b->Has σ S b∨b=w.heap.size:=by
  rintro b ⟨id,x',base',sz',h1,h2⟩
  rw [Sto.get_push]at h1
  split at h1
  ·rename_i he;subst he
   obtain rfl:x=x':=by simpa using h1
   rw [hg,Sg.upd_same]at h2
   right;simp at h2;exact h2.1.symm
  ·rw [hold id x' h1]at h2
   exact .inl ⟨id,x',base',sz',h1,h2⟩
 refine ⟨⟨?_,?_,?_,?_,?_,?_⟩,hle,by simp,?_,?_,by simp,by simp,?_,rfl,rfl,rfl,?_,fun _ _ _ h=>.inl h⟩
 ·intro id x' hx
  rw [Sto.get_push]at hx
  split at hx
  ·rename_i he;subst he
   obtain rfl:x=x':=by simpa using hx
   exact ⟨_,_,_,o,by rw [hg];exact Sg.upd_same _ _ _ _,nJ w o,ho⟩
  ·obtain ⟨b,base',sz',o',h1,h2,h3⟩:=h.obj id x' hx
   refine ⟨b,base',sz',o',by rw [hold id x' hx];exact h1,?_,h3.mono hle⟩
   rw [kZ _ _ (Array.getElem?_eq_some_iff.1 h2).1];exact h2
 ·intro id x1 id' x2 b b1 s1 b2 s2 hx1 hx2 h1 h2
  rw [Sto.get_push]at hx1 hx2
  split at hx1<;>split at hx2
  ·rename_i e1 e2;rw [e1,e2]
  ·rename_i e1 e2
   exfalso
   subst e1
   obtain rfl:x=x1:=by simpa using hx1
   rw [hg,Sg.upd_same]at h1
   rw [hold id' x2 hx2]at h2
   have hb:b=w.heap.size:=by simp at h1;exact h1.1.symm
   have:=h.lt ⟨id',x2,_,_,hx2,h2⟩
   omega
  ·rename_i e1 e2
   exfalso
   subst e2
   obtain rfl:x=x2:=by simpa using hx2
   rw [hg,Sg.upd_same]at h2
   rw [hold id x1 hx1]at h1
   have hb:b=w.heap.size:=by simp at h2;exact h2.1.symm
   have:=h.lt ⟨id,x1,_,_,hx1,h1⟩
   omega
  ·rw [hold id x1 hx1]at h1
   rw [hold id' x2 hx2]at h2
   exact h.inj _ _ _ _ _ _ _ _ _ hx1 hx2 h1 h2
 ·intro b off V hm
  obtain ⟨h1,h2⟩:=h.mu b off V hm
  have hb:=World.block_lt_of_cell? _ _ h1
  refine ⟨?_,fun hh=>?_⟩
  ·rw [World.cell?_alloc_lt _ _ _ hb];exact h1
  ·rcases hhas b hh with h3 | h3
   ·exact h2 h3
   ·simp at hb;omega
 ·intro id g y hy
  simp only [Sg.upd]at hy
  split at hy
  ·rename_i he;rw [he.1];simp
  ·have:=h.bnd _ _ _ hy;simp;omega
 ·intro id x' g y hx hy
  rw [Sto.get_push]at hx
  split at hx
  ·rename_i he;subst he
   simp only [Sg.upd]at hy
   split at hy
   ·rename_i he;rw [he.2];exact Nat.zero_le _
   ·rw [hnone]at hy;cases hy
  ·rw [hold id x' hx]at hy
   exact h.gen _ _ _ _ hx hy
 ·intro id hi
  show (S.o.set S.n x).get id=none
  simp only [Sto.n_push]at hi
  rw [Tr.get_set,if_neg (by omega)]
  exact h.top id (by omega)
 ·intro b hb _
  exact kZ w o hb
 ·intro b hb
  rcases hhas b hb with h1 | h1
  ·exact .inl h1
  ·right;omega
 ·intro id hi _
  refine ⟨by rw [Sto.get_push,if_neg (by omega)],fun g=>by simp only [Sg.upd];rw [if_neg (by omega)],fun x' b base sz hx hs=>?_⟩
  exact kZ w o (h.lt ⟨id,x',base,sz,hx,hs⟩)
 ·intro id hi hn
  refine ⟨by rw [Sto.get_push,if_neg (by omega)];exact hn,fun g=>?_⟩
  simp only [Sg.upd]
  rw [if_neg (by omega)]
theorem stp_put {σ:Sg} {S:Sto} {w w':World} (h:Rel σ S w) {id:Nat} {x y:AObj} {b base sz:Nat} {o:Obj}
 (hx:S.get id=some x) (hs:σ id (cN x)=some (b,base,sz)) (hg:cN y=cN x) (ho:w'.heap[b]?=some o) (hy:ObjR σ base sz y o)
 (hsz:w'.heap.size=w.heap.size) (hfr:∀ b',b'≠b->w'.heap[b']?=w.heap[b']?) (h1:w'.os=w.os) (h2:w'.output=w.output) (h3:w'.tape=w.tape):
 Stp σ S w σ (S.put id y) w':=by
 have hid:=Sto.get_lt hx
 have hget:∀ i z,(S.put id y).get i=some z->∃ z',S.get i=some z'/\cN z=cN z'/\(i≠id->z=z')/\(i=id->z=y):=by
  intro i z hz
  rw [Sto.get_put]at hz
  split at hz
  ·rename_i he;obtain ⟨rfl,_⟩:=he
   obtain rfl:y=z:=by simpa using hz
   exact ⟨x,hx,hg,fun hne=>absurd rfl hne,fun _=>rfl⟩
  ·rename_i he
   refine ⟨z,hz,rfl,fun _=>rfl,fun hi=>?_⟩
   subst hi;exact absurd ⟨rfl,hid⟩ he
 have hhas:∀ b',Has σ (S.put id y) b'->Has σ S b':=by
  rintro b' ⟨i,z,base',sz',hz,hsz'⟩
  obtain ⟨z',hz',hgz,_,_⟩:=hget i z hz
  exact ⟨i,z',base',sz',hz',by rw [<-hgz];exact hsz'⟩
 refine ⟨⟨?_,?_,?_,?_,?_,?_⟩,σ.le_refl,by rw [hsz];exact Nat.le_refl _,?_,fun b' hb=>.inl (hhas b' hb),Nat.le_refl _,by rw [Sto.low_put];omega,?_,h1,h2,h3,?_,fun _ _ _ h=>.inl h⟩
 ·intro i z hz
  obtain ⟨z',hz',hgz,hne,heq⟩:=hget i z hz
  by_cases hi:i=id
  ·subst hi
   rw [heq rfl]
   exact ⟨b,base,sz,o,by rw [hg];exact hs,ho,hy⟩
  ·rw [hne hi]
   obtain ⟨b',base',sz',o',e1,e2,e3⟩:=h.obj i z' hz'
   refine ⟨b',base',sz',o',e1,?_,e3⟩
   rw [hfr b' (fun hb=>hi ?_)];exact e2
   subst hb
   exact h.inj i z' id x b' base' sz' base sz hz' hx e1 hs
 ·intro i1 z1 i2 z2 b' b1 s1 b2 s2 e1 e2 e3 e4
  obtain ⟨y1,g1,k1,_,_⟩:=hget i1 z1 e1
  obtain ⟨y2,g2,k2,_,_⟩:=hget i2 z2 e2
  exact h.inj i1 y1 i2 y2 b' b1 s1 b2 s2 g1 g2 (by rw [<-k1];exact e3) (by rw [<-k2];exact e4)
 ·intro b' off V hm
  obtain ⟨e1,e2⟩:=h.mu b' off V hm
  refine ⟨?_,fun hh=>e2 (hhas b' hh)⟩
  have:b'≠b:=fun hb=>e2 ⟨id,x,base,sz,hx,by rw [hb];exact hs⟩
  rw [<-e1];simp [World.cell?,hfr b' this]
 ·exact fun i g z hz=>h.bnd i g z hz
 ·intro i z g v hz hv
  obtain ⟨z',hz',hgz,_,_⟩:=hget i z hz
  rw [hgz];exact h.gen i z' g v hz' hv
 ·intro i hi
  show (S.o.set id y).get i=none
  simp only [Sto.n_put]at hi
  rw [Tr.get_set,if_neg (by omega)]
  exact h.top i hi
 ·intro b' hb' hn
  exact hfr b' fun hb=>hn ⟨id,x,base,sz,hx,by rw [hb];exact hs⟩
 ·intro i hi hl
  rw [Sto.low_put]at hl
  refine ⟨by rw [Sto.get_put,if_neg (by omega)],fun _=>rfl,fun x' b' base' sz' hx' hs'=>?_⟩
  refine hfr b' fun hb=>?_
  subst hb
  have:=h.inj i x' id x b' base' sz' base sz hx' hx hs' hs
  omega
 ·intro i hi hn
  refine ⟨?_,fun _=>rfl⟩
  rw [Sto.get_put,if_neg (fun he=>?_)]
  ·exact hn
  ·rw [he.1,hx]at hn;cases hn
theorem EH {σ:Sg} {S:Sto} {w w':World} (h:Rel σ S w) {id:Nat} {x y:AObj} {b base sz b' base' sz':Nat} {o:Obj}
 (hx:S.get id=some x) (hs:σ id (cN x)=some (b,base,sz)) (hg:cN y=cN x+1) (ho:w'.heap[b']?=some o)
 (hy:ObjR (σ.upd id (cN x+1) (b',base',sz')) base' sz' y o)
 (hb':b'=b∨w.heap.size<=b')
 (hsz:w.heap.size<=w'.heap.size) (hfr:∀ c,c<w.heap.size->c≠b'->w'.heap[c]?=w.heap[c]?) (h1:w'.os=w.os) (h2:w'.output=w.output) (h3:w'.tape=w.tape):
 Stp σ S w (σ.upd id (cN x+1) (b',base',sz')) (S.put id y) w':=by
 have hid:=Sto.get_lt hx
 have hnone:σ id (cN x+1)=none:=by
  cases hc:σ id (cN x+1) with
  | none=>rfl
  | some v=>have:=h.gen id x _ v hx hc;omega
 have hle:=Sg.le_upd (b',base',sz') hnone
 have hget:∀ i z,(S.put id y).get i=some z->(i≠id/\S.get i=some z)∨(i=id/\z=y):=by
  intro i z hz
  rw [Sto.get_put]at hz
  split at hz
  ·rename_i he;exact .inr ⟨he.1,by simpa using hz.symm⟩
  ·rename_i he
   refine .inl ⟨fun hi=>he ⟨hi,by rw [hi];exact hid⟩,hz⟩
 have hne:∀ i g,i≠id->(σ.upd id (cN x+1) (b',base',sz')) i g=σ i g:=fun i g hi=>by simp only [Sg.upd];rw [if_neg (by omega)]
 have hhas:∀ c,Has (σ.upd id (cN x+1) (b',base',sz')) (S.put id y) c->(Has σ S c/\c≠b)∨c=b':=by
  rintro c ⟨i,z,base1,sz1,hz,hs1⟩
  rcases hget i z hz with ⟨hi,hz'⟩ | ⟨rfl,rfl⟩
  ·rw [hne i _ hi]at hs1
   refine .inl ⟨⟨i,z,base1,sz1,hz',hs1⟩,fun hc=>hi ?_⟩
   subst hc
   exact h.inj i z id x c base1 sz1 base sz hz' hx hs1 hs
  ·rw [hg,Sg.upd_same]at hs1
   right;simp at hs1;exact hs1.1.symm
 have hbold:Has σ S b:=⟨id,x,base,sz,hx,hs⟩
 refine ⟨⟨?_,?_,?_,?_,?_,?_⟩,hle,hsz,?_,?_,Nat.le_refl _,by rw [Sto.low_put];omega,?_,h1,h2,h3,?_,fun _ _ _ h=>.inl h⟩
 ·intro i z hz
  rcases hget i z hz with ⟨hi,hz'⟩ | ⟨rfl,rfl⟩
  ·obtain ⟨c,base1,sz1,o1,e1,e2,e3⟩:=h.obj i z hz'
   refine ⟨c,base1,sz1,o1,by rw [hne i _ hi];exact e1,?_,e3.mono hle⟩
   have hc:=(Array.getElem?_eq_some_iff.1 e2).1
   rw [hfr c hc (fun hcb=>?_)];exact e2
   subst hcb
   rcases hb' with hb | hb
   ·subst hb;exact hi (h.inj i z id x c base1 sz1 base sz hz' hx e1 hs)
   ·omega
  ·exact ⟨b',base',sz',o,by rw [hg];exact Sg.upd_same _ _ _ _,ho,hy⟩
 ·intro i1 z1 i2 z2 c c1 s1 c2 s2 e1 e2 e3 e4
  rcases hget i1 z1 e1 with ⟨n1,g1⟩ | ⟨rfl,rfl⟩<;>rcases hget i2 z2 e2 with ⟨n2,g2⟩ | ⟨rfl,rfl⟩
  ·rw [hne _ _ n1]at e3;rw [hne _ _ n2]at e4
   exact h.inj i1 z1 i2 z2 c c1 s1 c2 s2 g1 g2 e3 e4
  ·exfalso
   rw [hne _ _ n1]at e3
   rw [hg,Sg.upd_same]at e4
   have hc:b'=c:=by simp at e4;exact e4.1
   rcases hb' with hb | hb
   ·exact n1 (h.inj i1 z1 i2 x c c1 s1 base sz g1 hx e3 (by rw [<-hc,hb];exact hs))
   ·have:=h.lt ⟨i1,z1,_,_,g1,e3⟩;omega
  ·exfalso
   rw [hne _ _ n2]at e4
   rw [hg,Sg.upd_same]at e3
   have hc:b'=c:=by simp at e3;exact e3.1
   rcases hb' with hb | hb
   ·exact n2 (h.inj i2 z2 i1 x c c2 s2 base sz g2 hx e4 (by rw [<-hc,hb];exact hs))
   ·have:=h.lt ⟨i2,z2,_,_,g2,e4⟩;omega
  ·rfl
 ·intro c off V hm
  obtain ⟨e1,e2⟩:=h.mu c off V hm
  have hc:=World.block_lt_of_cell? _ _ e1
  have hcb:c≠b':=by
   rintro rfl
   rcases hb' with hb | hb
   ·subst hb;exact e2 hbold
   ·simp at hc;omega
  refine ⟨?_,fun hh=>?_⟩
  ·rw [<-e1];simp [World.cell?,hfr c hc hcb]
  ·rcases hhas c hh with h4 | h4
   ·exact e2 h4.1
   ·exact hcb h4
 ·intro i g z hz
  simp only [Sg.upd]at hz
  split at hz
  ·rename_i he;rw [he.1];exact hid
  ·exact h.bnd i g z hz
 ·intro i z g v hz hv
  rcases hget i z hz with ⟨hi,hz'⟩ | ⟨rfl,rfl⟩
  ·rw [hne i _ hi]at hv;exact h.gen i z g v hz' hv
  ·simp only [Sg.upd]at hv
   split at hv
   ·rename_i he;rw [hg,he.2];exact Nat.le_refl _
   ·have:=h.gen i x g v hx hv;omega
 ·intro i hi
  show (S.o.set id y).get i=none
  simp only [Sto.n_put]at hi
  rw [Tr.get_set,if_neg (by omega)]
  exact h.top i hi
 ·intro c hc hn
  refine hfr c hc fun hcb=>?_
  subst hcb
  rcases hb' with hb | hb
  ·subst hb;exact hn hbold
  ·omega
 ·intro c hc
  rcases hhas c hc with h4 | h4
  ·exact .inl h4.1
  ·rcases hb' with hb | hb
   ·left;rw [h4,hb];exact hbold
   ·right;rw [h4];exact hb
 ·intro i hi hl
  rw [Sto.low_put]at hl
  refine ⟨by rw [Sto.get_put,if_neg (by omega)],fun g=>hne i g (by omega),fun x1 c c1 s1 hx1 hs1=>?_⟩
  refine hfr c (h.lt ⟨i,x1,c1,s1,hx1,hs1⟩) fun hcb=>?_
  subst hcb
  rcases hb' with hb | hb
  ·subst hb
   have:=h.inj i x1 id x c c1 s1 base sz hx1 hx hs1 hs
   omega
  ·have:=h.lt ⟨i,x1,c1,s1,hx1,hs1⟩;omega
 ·intro i hi hn
  have hne':i≠id:=fun he=>by rw [he,hx]at hn;cases hn
  exact ⟨by rw [Sto.get_put,if_neg (by omega)];exact hn,fun g=>hne i g hne'⟩
end Go.Abs
