/-
  The abstract machine: a function's contract out of a walk of its body; what is left behind may be frozen.
-/
import Derived.Test.YtpmccfnfikkkbaaGreatEa
import Derived.IntWalk
set_option linter.unusedVariables false
set_option linter.unusedSimpArgs false
namespace Go.Abs
noncomputable section
def zN (s S:Sto) (v v':AV) (c:Option Sto):Prop:=
 ∀ (σ τ:Sg) (w w':World),Rel σ s w->Stp σ {s with low:=s.n} w τ S w'->∃ ρ,CStp σ s w ρ c w'/\∀ V,VR τ v V->VR ρ v' V
def Und (n:Nat) (v:AV):Prop:=∀ (σ:Sg) V,VR σ v V->VR (σ.cut n) v V
theorem aI {n:Nat} {b:Bool}:Und n (.bool b):=fun _ _ h=>by cases h;exact .bool b
theorem aO {n:Nat} {k:IntKind} {x:Int}:Und n (.int k x):=fun _ _ h=>by cases h;exact .int k x
theorem bQ {n:Nat} {l:List Nat}:Und n (.str l):=fun _ _ h=>by cases h;rename_i c;exact .str _ _ c
theorem dH {n:Nat}:Und n .nils:=fun _ _ h=>by cases h;exact .nils
theorem aEo {n:Nat}:Und n .nilp:=fun _ _ h=>by cases h;exact .nilp
theorem JV {n:Nat} {l:List AV} (h:∀ x∈l,Und n x):Und n (.agg l):=fun σ _ m=>by
 cases m with | agg _ o f e=>exact .agg _ _ f fun i x X c d=>h x (List.mem_of_getElem? c) σ X (e i x X c d)
theorem eJ {n:Nat} {l:List AV} (h:∀ x∈l,Und n x):Und n (.tuple l):=fun σ _ m=>by
 cases m with | tuple _ o f e=>exact .tuple _ _ f fun i x X c d=>h x (List.mem_of_getElem? c) σ X (e i x X c d)
theorem aD {n:Nat}:∀ x∈([]:List AV),Und n x:=fun _ h=>nomatch h
theorem aA {n:Nat} {a:AV} {l:List AV} (h:Und n a) (d:∀ x∈l,Und n x):∀ x∈a::l,Und n x:=fun x c=>by
 rcases List.mem_cons.1 c with rfl | c
 ·exact h
 ·exact d x c
theorem Und.cells {n:Nat} {v:AV} (h:∀ y∈v.cells,Und n y) (c:∀ l,v≠.tuple l):Und n v:=by
 cases v with
 | agg l=>exact JV h
 | _=>exact h _ (List.mem_singleton.2 rfl)
theorem OJ {σ τ:Sg} {s S:Sto} {w w':World} (h:Rel σ s w) (e:Stp σ {s with low:=s.n} w τ S w') (B:s.n<=S.low):(τ.cut s.n).s=σ.s/\Quiet w w'/\σ.le (τ.cut s.n)/\
 (∀ b off V,τ.m b off=some V->σ.m b off=some V∨(w.heap.size<=b/\w'.cell? ⟨b,off,none⟩=some V))/\(∀ id x b base sz,s.n<=id->S.get id=some x->τ id (dK x)=some (b,base,sz)->w.heap.size<=b):=by
 have f:(τ.cut s.n).s=σ.s:=by
  funext id g
  simp only [Sg.cut];split
  ·rename_i c
   exact (e.keep id c (by omega)).2.1 g
  ·rename_i c
   cases C:σ id g with
   | none=>rfl
   | some y=>exact absurd (h.bnd id g y C) c
 refine ⟨f,⟨e.size,fun b r=>?_,e.os,e.out,e.tape⟩,⟨fun id g x u=>by rw [f];exact u,e.ext.m⟩,fun b off V v=>?_,fun id x b base sz c u r=>?_⟩
 ·by_cases A:Has σ s b
  ·obtain ⟨id,x,base,sz,d,o⟩:=A
   have c:=Sto.get_lt d;exact (e.keep id c (by omega)).2.2 x b base sz d o
  ·exact e.frame b r A
 ·have q:=e.rel.mu b off V v
  rcases e.mnew b off V v with d | ⟨id,x,base,sz,d,o⟩ | d
  ·exact .inl d
  ·exfalso
   have c:id<s.n:=Sto.get_lt d;obtain ⟨k1,k2,_⟩:=e.keep id c (by omega);exact q.2 ⟨id,x,base,sz,by rw [k1];exact d,by rw [k2];exact o⟩
  ·exact .inr ⟨d,q.1⟩
 ·rcases e.own b ⟨id,x,base,sz,u,r⟩ with ⟨l,D,base',sz',d,o⟩ | d
  ·exfalso
   have p:l<s.n:=Sto.get_lt d;obtain ⟨k1,k2,_⟩:=e.keep l p (by omega);have:=e.rel.inj id x l D b base sz base' sz' u (by rw [k1];exact d) r (by rw [k2];exact o);omega
  ·exact d
theorem AQ {s S:Sto} {v:AV} (c:s.n<=S.low) (p:Und s.n v):zN s S v v none:=by
 intro σ τ w w' h o;obtain ⟨d,e,f,l,_⟩:=OJ h o c;exact ⟨τ.cut s.n,⟨e,f,d,l⟩,fun V m=>p τ V m⟩
inductive Frz (S:Sto) (n:Nat):AV->AV->Prop
 | und (v:AV):Und n v->Frz S n v v
 | agg (l l':List AV):l.length=l'.length->(∀ (i:Nat) x y,l[i]?=some x->l'[i]?=some y->Frz S n x y)->Frz S n (.agg l) (.agg l')
 | tuple (l l':List AV):l.length=l'.length->(∀ (i:Nat) x y,l[i]?=some x->l'[i]?=some y->Frz S n x y)->Frz S n (.tuple l) (.tuple l')
 | sl (id g off len:Nat) (cap:ACap) (m k:Nat) (c:Tr AV) (l:List AV) (a:Nat->Nat->AV):n<=id->S.get id=some (.cells g m c)->l.length=len->off+len*k<=m->(∀ x∈l,x.cells.length=k)->
  (∀ (i j:Nat) x y,l[i]?=some x->x.cells[j]?=some y->c.get (off+i*k+j)=some (a i j))->(∀ (i j:Nat) x y,l[i]?=some x->x.cells[j]?=some y->Frz S n (a i j) y)->Frz S n (.sl id g off len cap) (.fz l false)
 | ptr (id g off m:Nat) (c:Tr AV) (v:AV) (a:Nat->AV):n<=id->S.get id=some (.cells g m c)->off+v.cells.length<=m->(∀ (j:Nat) y,v.cells[j]?=some y->c.get (off+j)=some (a j))->(∀ (j:Nat) y,v.cells[j]?=some y->Frz S n (a j) y)->Frz S n (.ptr id g off) (.pf v)
 | func (f:FuncId) (a a' c c':List AV):a.length=a'.length->c.length=c'.length->(∀ (i:Nat) x y,a[i]?=some x->a'[i]?=some y->Frz S n x y)->(∀ (i:Nat) x y,c[i]?=some x->c'[i]?=some y->Frz S n x y)->Frz S n (.func (.func f) a c) (.func (.func f) a' c')
theorem nQ {s S:Sto} {v v':AV} (ad:s.n<=S.low) (hf:Frz S s.n v v'):zN s S v v' none:=by
 intro σ τ w w' h hs;obtain ⟨h1,h2,h3,h4,h5⟩:=OJ h hs ad
 let M:Nat->Nat->Option Value:=fun b off=>match τ.m b off with
  | some V=>some V
  | none=>if w.heap.size<=b then w'.cell? ⟨b,off,none⟩ else none
 have hM:∀ b off V,τ.m b off=some V->M b off=some V:=fun b off V q=>by simp [M,q]
 have H:∀ b off,w.heap.size<=b->M b off=w'.cell? ⟨b,off,none⟩:=fun b off I=>by
  simp only [M]
  cases hc:τ.m b off with
  | some V=>simp only;exact (hs.rel.mu b off V hc).1.symm
  | none=>simp [I]
 let ρ:Sg:=⟨M,(τ.cut s.n).s⟩
 have ab:(τ.cut s.n).le ρ:=⟨fun _ _ _ h=>h,hM⟩
 refine ⟨ρ,⟨h2,Sg.le_trans h3 ab,h1,fun b off V q=>?_⟩,?_⟩
 ·have u:M b off=some V:=q
  simp only [M]at u;split at u
  ·rename_i W hW
   cases u;exact h4 b off _ hW
  ·split at u
   ·rename_i I;exact .inr ⟨I,u⟩
   ·cases u
 ·induction hf with
  | und v hu=>exact fun V q=>(hu τ V q).mono ab
  | agg l l' N _ Q=>
    intro V q
    cases q with
    | agg _ ys E r=>
      refine .agg _ _ (by rw [<-N];exact E) fun i y Y p D=>?_
      have e:i<l.length:=by rw [N];exact (List.getElem?_eq_some_iff.1 p).1
      exact Q i l[i] y (List.getElem?_eq_getElem e) p Y (r i _ Y (List.getElem?_eq_getElem e) D)
  | tuple l l' N _ Q=>
    intro V q
    cases q with
    | tuple _ ys E r=>
      refine .tuple _ _ (by rw [<-N];exact E) fun i y Y p D=>?_
      have e:i<l.length:=by rw [N];exact (List.getElem?_eq_some_iff.1 p).1
      exact Q i l[i] y (List.getElem?_eq_getElem e) p Y (r i _ Y (List.getElem?_eq_getElem e) D)
  | func f a a' c c' Z aa _ _ ae af=>
    intro V q
    cases q with
    | func _ F _ _ A C hF E r R T=>
      refine .func _ _ _ _ _ _ (by cases hF;exact .func f) (by rw [<-Z];exact E) (by rw [<-aa];exact r) (fun i y Y p D=>?_) (fun i y Y p D=>?_)
      ·have e:i<a.length:=by rw [Z];exact (List.getElem?_eq_some_iff.1 p).1
       exact ae i a[i] y (List.getElem?_eq_getElem e) p Y (R i _ Y (List.getElem?_eq_getElem e) D)
      ·have e:i<c.length:=by rw [aa];exact (List.getElem?_eq_some_iff.1 p).1
       exact af i c[i] y (List.getElem?_eq_getElem e) p Y (T i _ Y (List.getElem?_eq_getElem e) D)
  | sl id g off len cap m k c l a L X N hm hk ha _ Q=>
    intro V q
    cases q with
    | sl _ _ _ _ _ b base sz C O ac ag=>
      obtain ⟨b',base',sz',o,p,D,g3⟩:=hs.rel.obj id _ X;have B:τ id g=some (b',base',sz'):=p;rw [O]at B
      obtain ⟨rfl,rfl,rfl⟩:b=b'/\base=base'/\sz=sz':=by simpa using B
      have I:=h5 id _ b base sz L X p
      cases g3 with
      | cells _ _ _ arr el fr q1 q2 q3 q4=>
        have d:∀ j,j<m->w'.cell? ⟨b,base+j,none⟩=arr[base+j]?:=fun j G=>by simp [World.cell?,D]
        have J:∀ i j,i<l.length->j<k->off+i*k+j<m:=by
         intro i j e G
         have:i*k+k<=len*k:=by
          rw [<-Nat.succ_mul];exact Nat.mul_le_mul_right k (by omega)
         omega
        subst N;refine .fz l false ⟨b,base+off,none⟩ C b (base+off) k (fun _=>rfl) ac (fun hc=>by cases hc) hk (fun i j x y W E r R=>?_) (fun i j e G=>?_)
        ·have e:=(List.getElem?_eq_some_iff.1 E).1
         have G:j<k:=by rw [<-hk x (List.mem_of_getElem? E)];exact (List.getElem?_eq_some_iff.1 r).1
         obtain ⟨W',T,e5⟩:=q3 _ (a i j) (J i j e G) (ha i j x y E r);have U:M b (base+off+i*k+j)=some W:=R;rw [H _ _ I,show base+off+i*k+j=base+(off+i*k+j) by omega,d _ (J i j e G),T]at U;cases U;exact Q i j x y E r W e5
        ·show (M b (base+off+i*k+j)).isSome=true
         rw [H _ _ I,show base+off+i*k+j=base+(off+i*k+j) by omega,d _ (J i j e G)];have:=J i j e G;rw [Array.getElem?_eq_getElem (show base+(off+i*k+j)<arr.size by omega)];rfl
  | ptr id g off m c v a L X hm ha _ Q=>
    intro V q
    cases q with
    | ptr _ _ _ b base sz O=>
      obtain ⟨b',base',sz',o,p,D,g3⟩:=hs.rel.obj id _ X;have B:τ id g=some (b',base',sz'):=p;rw [O]at B
      obtain ⟨rfl,rfl,rfl⟩:b=b'/\base=base'/\sz=sz':=by simpa using B
      have I:=h5 id _ b base sz L X p
      cases g3 with
      | cells _ _ _ arr el fr q1 q2 q3 q4=>
        have d:∀ j,j<m->w'.cell? ⟨b,base+j,none⟩=arr[base+j]?:=fun j G=>by simp [World.cell?,D]
        refine .pf v b (base+off) (fun j y W r R=>?_) (fun j G=>?_)
        ·have G:=(List.getElem?_eq_some_iff.1 r).1
         obtain ⟨W',T,e5⟩:=q3 _ (a j) (by omega) (ha j y r);have U:M b (base+off+j)=some W:=R;rw [H _ _ I,show base+off+j=base+(off+j) by omega,d _ (by omega),T]at U;cases U;exact Q j y r W e5
        ·show (M b (base+off+j)).isSome=true
         rw [H _ _ I,show base+off+j=base+(off+j) by omega,d _ (by omega)];rw [Array.getElem?_eq_getElem (show base+(off+j)<arr.size by omega)];rfl
section
variable {P:Program}
def wJ (o:Option (List AV)) (C:Sto->AV->Prop) (s:Sto):Prop:=∃ vs,o=some vs/\C s (pW vs)
theorem OK {l:List AV} {C:Sto->AV->Prop} {s:Sto}:wJ (some l) C s↔C s (pW l):=by simp [wJ]
def jM (P:Program) (c:List ResultVar) (C D:Sto->AV->Prop):Ex->Env->Prop
 | .normal,e=>e.ds=[]/\e.r=.no/\wJ (aS P e c) C e.s
 | .ret,e=>e.ds=[]/\e.r=.no/\wJ (aS P e c) C e.s
 | .panic v,e=>e.ds=[]/\e.r=.no/\D e.s v
 | _,_=>False
def ED (fn:Func) (f:FuncId) (args:List AV) (s:Sto):Env:=⟨Nat.max args.length fn.ntmps,none,f,Tr.leaf.lay 0 args,[],{s with low:=s.n},.no⟩
theorem sound_end {O:Orc} (hO:jY P O) {f:FuncId} {fn:Func} {c:Code} {args:List AV} {s:Sto} {res:CRes} {C D:Sto->AV->Prop} (R:okFn P f=true) (hf:P.funcs[f]?=some fn) (hb:fn.body=some c)
 (hC:∀ S v,C S v->∃ v' F,res=.ret v' F/\zN s S v v' F) (hD:∀ S v,D S v->∃ v' F,res=.pan v' F/\zN s S v v' F)
 (h:W P O c (ED fn f args s) (jM P fn.results.toList C D)):dE P f args s res:=by
 obtain ⟨n,ex,e,hc,L⟩:=h;refine ⟨R,fn,hf,fun σ w A kd stk m l ha I T=>?_⟩;have E:Rel σ {s with low:=s.n} w:=l.low rfl rfl
 have he:ER σ {(default:Frame) with fn:=f,kind:=kd} (ED fn f args s) {tmps:=A++Array.replicate (fn.ntmps-A.size) undef,defers:=[]} m:=
  ⟨EO ha _,.nil,T,rfl,rfl⟩
 have o:Frame.enter P f A kd=({(default:Frame) with fn:=f,kind:=kd}:Frame).atR {tmps:=A++Array.replicate (fn.ntmps-A.size) undef,defers:=[]} [.code c]:=by
  simp [Frame.enter,Frame.atR,hf,hb];rfl
 rw [o];obtain ⟨τ,G,J,w',H,Q,q⟩:=iH (nS hO n).1 (uN n) n c σ w _ stk [] _ _ m _ _ I hc E he
 have p:e.ds=[]/\e.r=.no/\(∃ vs,aS P e fn.results.toList=some vs/\C e.s (pW vs))->(∃ todo,Steps P (lone (({(default:Frame) with fn:=f,kind:=kd}:Frame).atR {tmps:=A++Array.replicate (fn.ntmps-A.size) undef,defers:=[]} [.code c]) (stk m) w) (lone {({(default:Frame) with fn:=f,kind:=kd}:Frame).atR G todo with mode:=.returning} (stk J) w'))->
  aPp P σ s w kd f fn stk (lone (({(default:Frame) with fn:=f,kind:=kd}:Frame).atR {tmps:=A++Array.replicate (fn.ntmps-A.size) undef,defers:=[]} [.code c]) (stk m) w) res:=by
  rintro ⟨X,Y,vs,q3,Z⟩ ⟨todo,U⟩;obtain ⟨v',F,rfl,u⟩:=hC _ _ Z;obtain ⟨V,r1,r2⟩:=vV Q.rel H.tm q3;obtain ⟨ρ,M,N⟩:=u σ τ w w' l Q;have d:=H.df;rw [X]at d
  have B:RM ρ kd .no J:=by
   have:=H.rc;rw [Y]at this
   cases this with
   | normal m=>exact .normal _
   | quiet=>exact .quiet
  refine ⟨ρ,V,w',_,J,N V r2,M,B,U,rfl,?_,rfl,rfl,r1⟩
  show G.defers=[]
  generalize G.defers=ad at d;cases d;rfl
 cases ex with
 | normal=>exact p L ⟨[],Steps.trans q (.one (stepR_end rfl))⟩
 | ret=>obtain ⟨k₁,q⟩:=q;exact p L ⟨_,Steps.trans q (.one (stepR_ret rfl))⟩
 | panic v=>
   obtain ⟨X,Y,Z⟩:=L;obtain ⟨V,todo,hV,q⟩:=q;obtain ⟨v',F,rfl,u⟩:=hD _ _ Z;obtain ⟨ρ,M,N⟩:=u σ τ w w' l Q;have d:=H.df;rw [X]at d
   have B:RM ρ kd .no J:=by
    have:=H.rc;rw [Y]at this
    cases this with
    | normal m=>exact .normal _
    | quiet=>exact .quiet
   refine ⟨ρ,V,w',_,J,N V hV,M,B,q,rfl,?_,rfl,rfl⟩
   show G.defers=[]
   generalize G.defers=ad at d;cases d;rfl
 | _=>exact L.elim
theorem SP {O:Orc} (l:jY P O) {f:FuncId} {fn:Func} {c:Code} {args:List AV} {s:Sto} {v:AV} (d:okFn P f=true) (o:P.funcs[f]?=some fn) (m:fn.body=some c) (p:Und s.n v)
 (h:W P O c (ED fn f args s) (jM P fn.results.toList (fun S r=>s.n<=S.low/\r=v) fun _ _=>False)):dE P f args s (.ret v none):=
 sound_end l d o m (fun S r e=>⟨v,none,rfl,by rw [e.2];exact AQ e.1 p⟩) (fun _ _ h=>h.elim) h
theorem eC {f:FuncId} {args:List AV} {v:AV} (l:∀ x∈args,Und 0 x) (h:dE P f args .empty (.ret v none)):Returns P f args v:=fun s=>
 sound_empty (fun σ A d=>⟨d.1,fun i x X c e=>l x (List.mem_of_getElem? c) σ X (d.2 i x X c e)⟩) h ⟨_,.inl rfl⟩ s
theorem aEp {c:List ResultVar} {C D:Sto->AV->Prop} {nt:Nat} {ro:Option Nat} {fn:FuncId} {t:Tr AV} {s:Sto}:jM P c C D .ret ⟨nt,ro,fn,t,[],s,.no⟩↔wJ (aS P ⟨nt,ro,fn,t,[],s,.no⟩ c) C s:=by simp [jM]
theorem OL {c:List ResultVar} {C D:Sto->AV->Prop} {nt:Nat} {ro:Option Nat} {fn:FuncId} {t:Tr AV} {s:Sto}:jM P c C D .normal ⟨nt,ro,fn,t,[],s,.no⟩↔wJ (aS P ⟨nt,ro,fn,t,[],s,.no⟩ c) C s:=by simp [jM]
theorem SQ {c:List ResultVar} {C D:Sto->AV->Prop} {nt:Nat} {ro:Option Nat} {fn:FuncId} {t:Tr AV} {s:Sto} {v:AV}:jM P c C D (.panic v) ⟨nt,ro,fn,t,[],s,.no⟩↔D s v:=by simp [jM]
theorem JW {e:Env} {d:Nat} {l:List ResultVar}:aS P e (.tmp d::l)=(aS P e l).map (e.t.val d::·):=by
 simp only [aS,Tr.val]
 cases h:aS P e l with
 | none=>rfl
 | some r=>simp only [Option.map_some];cases e.t.get d<;>rfl
theorem iG {e:Env} {a:Nat} {ty:TypeId} {l:List ResultVar}:aS P e (.cell a ty::l)=(fD P e.s ty (e.t.val a)).bind fun v=>(aS P e l).map (v::·):=by
 simp only [aS,Tr.val]
 cases e.t.get a with
 | none=>
   simp only [Option.getD_none]
   cases fD P e.s ty .top with
   | none=>rfl
   | some v=>cases aS P e l<;>rfl
 | some x=>
   simp only [Option.getD_some]
   cases fD P e.s ty x with
   | none=>rfl
   | some v=>cases aS P e l<;>rfl
end
end
end Go.Abs
/-
 The abstract machine: operations on values and stores,for a walk by 'simp'.
-/
namespace Go.Abs
noncomputable section
def Tr.wr {α:Type} (t:Tr α) (i:Nat) (a:Option α):Tr α:=Tr.setF (i+1) t i a
theorem Tr.setF_succ {α:Type} (f i:Nat) (t:Tr α) (a:Option α):Tr.setF (f+1) t i a=match t with
 | .leaf=>if i=0 then .node a .leaf .leaf else if i%2=1 then .node none (Tr.setF f .leaf (i/2) a) .leaf else .node none .leaf (Tr.setF f .leaf (i/2-1) a)
 | .node v l r=>if i=0 then .node a l r else if i%2=1 then .node v (Tr.setF f l (i/2) a) r else .node v l (Tr.setF f r (i/2-1) a):=by
 have c:∀ {β:Type} (x y:β),@Bool.rec (fun _=>β) x y (Nat.beq i 0)=if i=0 then y else x:=by
  intro β x y
  cases h:Nat.beq i 0 with
  | true=>simp [Nat.eq_of_beq_eq_true h]
  | false=>simp [Nat.ne_of_beq_eq_false h]
 have d:∀ {β:Type} (x y:β),@Bool.rec (fun _=>β) x y (Nat.beq (Nat.mod i 2) 1)=if i%2=1 then y else x:=by
  intro β x y;show @Bool.rec (fun _=>β) x y (Nat.beq (i%2) 1)=_
  cases h:Nat.beq (i%2) 1 with
  | true=>simp [Nat.eq_of_beq_eq_true h]
  | false=>simp [Nat.ne_of_beq_eq_false h]
 cases t with
 | leaf=>exact (c _ _).trans (by rw [d];rfl)
 | node v l r=>exact (c _ _).trans (by rw [d];rfl)
theorem Tr.setF_setF {α:Type}:∀ (f g i:Nat) (t:Tr α) (a b:Option α),i<f->i<g->Tr.setF g (Tr.setF f t i a) i b=Tr.setF g t i b:=by
 intro f
 induction f with
 | zero=>intro g i t a b h;omega
 | succ f e=>
   intro g i t a b m o
   obtain ⟨g,rfl⟩:∃ k,g=k+1:=⟨g-1,by omega⟩
   by_cases c:i=0
   ·subst c;cases t<;>simp [Tr.setF_succ]
   ·by_cases d:i%2=1
    ·cases t with
     | leaf=>simp only [Tr.setF_succ,if_neg c,if_pos d];rw [e g _ _ _ _ (by omega) (by omega)]
     | node v l r=>simp only [Tr.setF_succ,if_neg c,if_pos d];rw [e g _ _ _ _ (by omega) (by omega)]
    ·cases t with
     | leaf=>simp only [Tr.setF_succ,if_neg c,if_neg d];rw [e g _ _ _ _ (by omega) (by omega)]
     | node v l r=>simp only [Tr.setF_succ,if_neg c,if_neg d];rw [e g _ _ _ _ (by omega) (by omega)]
theorem Tr.setF_comm {α:Type}:∀ (f g i j:Nat) (t:Tr α) (a b:Option α),i<f->j<g->i≠j->Tr.setF g (Tr.setF f t i a) j b=Tr.setF f (Tr.setF g t j b) i a:=by
 intro f
 induction f with
 | zero=>intro g i j t a b h;omega
 | succ f o=>
   intro g i j t a b p q m
   obtain ⟨g,rfl⟩:∃ k,g=k+1:=⟨g-1,by omega⟩
   by_cases d:i=0
   ·subst d
    have c:j≠0:=fun h=>m h.symm
    by_cases l:j%2=1<;>cases t<;>simp [Tr.setF_succ,c,l]
   ·by_cases c:j=0
    ·subst c
     by_cases e:i%2=1<;>cases t<;>simp [Tr.setF_succ,d,e]
    ·by_cases e:i%2=1<;>by_cases l:j%2=1
     ·cases t<;>(simp only [Tr.setF_succ,if_neg d,if_pos e,if_neg c,if_pos l];rw [o g _ _ _ _ _ (by omega) (by omega) (by omega)])
     ·cases t<;>simp only [Tr.setF_succ,if_neg d,if_pos e,if_neg c,if_neg l]
     ·cases t<;>simp only [Tr.setF_succ,if_neg d,if_neg e,if_neg c,if_pos l]
     ·cases t<;>(simp only [Tr.setF_succ,if_neg d,if_neg e,if_neg c,if_neg l];rw [o g _ _ _ _ _ (by omega) (by omega) (by omega)])
theorem Tr.set_set {α:Type} (t:Tr α) (i:Nat) (a b:α):(t.set i a).set i b=t.set i b:=Tr.setF_setF _ _ _ _ _ _ (by omega) (by omega)
theorem Tr.set_comm {α:Type} (t:Tr α) {i j:Nat} (a b:α) (h:i≠j):(t.set i a).set j b=(t.set j b).set i a:=Tr.setF_comm _ _ _ _ _ _ _ (by omega) (by omega) h
theorem Tr.lay_set_lt {α:Type} (l:List α):∀ (t:Tr α) (k i:Nat) (a:α),i<k->(t.lay k l).set i a=(t.set i a).lay k l:=by
 induction l with
 | nil=>intro t k i a h;rfl
 | cons x l c=>
   intro t k i a h;simp only [Tr.lay];rw [c _ _ _ _ (by omega),Tr.set_comm _ _ _ (by omega)]
theorem Tr.lay_set {α:Type} (l:List α):∀ (t:Tr α) (k i:Nat) (a:α),i<l.length->(t.lay k l).set (k+i) a=t.lay k (l.set i a):=by
 induction l with
 | nil=>intro t k i a h;simp at h
 | cons x l c=>
   intro t k i a h
   cases i with
   | zero=>
     simp only [Tr.lay,List.set_cons_zero,Nat.add_zero];rw [Tr.lay_set_lt _ _ _ _ _ (by omega),Tr.set_set]
   | succ i=>
     simp only [Tr.lay,List.set_cons_succ];rw [<-c _ _ _ _ (by simpa using h)]
     congr 1;omega
theorem Tr.lay_append {α:Type} (l m:List α):∀ (t:Tr α) (k:Nat),(t.lay k l).lay (k+l.length) m=t.lay k (l++m):=by
 induction l with
 | nil=>intro t k;rfl
 | cons x l c=>
   intro t k;simp only [Tr.lay,List.cons_append,List.length_cons];rw [<-c]
   congr 1;omega
def cL {α:Type} (l:List α) (off:Nat) (m:List α):List α:=l.take off++m++l.drop (off+m.length)
theorem EE {α:Type} (l:List α) (off:Nat):cL l off []=l:=by simp [cL]
theorem vH {α:Type} (l m:List α) (off:Nat) (h:off+m.length<=l.length):(cL l off m).length=l.length:=by
 simp [cL];omega
theorem AR {α:Type} (l m:List α) (off:Nat) (a:α) (h:off+(a::m).length<=l.length):cL l off (a::m)=cL (l.set off a) (off+1) m:=by
 simp only [List.length_cons]at h;apply List.ext_getElem?;intro i;simp only [cL,List.length_cons];simp only [List.getElem?_append,List.length_take,List.length_append,List.length_cons,List.getElem?_take,List.getElem?_drop,List.length_set,List.getElem?_set]
 have q:min off l.length=off:=by omega
 have r:min (off+1) l.length=off+1:=by omega
 rw [q,r];by_cases c:i<off
 ·have:off≠i:=by omega
  simp [c,show i<off+1 by omega,show i<off+(m.length+1) by omega,show i<off+1+m.length by omega,this]
 ·by_cases f:i=off
  ·subst f
   simp [show i<l.length by omega,show i<i+1+m.length by omega]
  ·by_cases e:i<off+(m.length+1)
   ·obtain ⟨d,rfl⟩:∃ d,i=off+1+d:=⟨i-off-1,by omega⟩
    rw [if_neg c,if_pos e,if_neg (show ¬ off+1+d<off+1 by omega),if_pos (show off+1+d<off+1+m.length by omega)];simp [show off+1+d-off=d+1 by omega]
   ·have o:off+(m.length+1)+(i-(off+(m.length+1)))=i:=by omega
    have p:off+1+m.length+(i-(off+1+m.length))=i:=by omega
    simp [e,show ¬ i<off+1+m.length by omega,o,p,show off≠i by omega]
theorem Tr.lay_lay {α:Type} (m:List α):∀ (l:List α) (off:Nat),off+m.length<=l.length->((Tr.leaf.lay 0 l).lay off m)=Tr.leaf.lay 0 (cL l off m):=by
 induction m with
 | nil=>intro l off _;rw [EE];rfl
 | cons a m c=>
   intro l off h;simp only [Tr.lay]
   have d:off+m.length+1<=l.length:=by simpa [Nat.add_assoc] using h
   have:=Tr.lay_set l .leaf 0 off a (by omega);rw [Nat.zero_add]at this;rw [this,c _ _ (by simp;omega),AR _ _ _ _ h]
theorem Tr.get_row {α:Type} (l:List α) (i:Nat):(Tr.leaf.lay 0 l).get i=l[i]?:=by
 rw [Tr.get_lay];by_cases h:i<l.length
 ·simp [h]
 ·rw [if_neg (by omega),List.getElem?_eq_none (by omega)];rfl
theorem Tr.val_lay (l:List AV) (i:Nat):(Tr.leaf.lay 0 l).val i=l[i]?.getD .top:=by rw [Tr.val,Tr.get_row]
theorem Tr.row_lay {α:Type} (l:List α):∀ (k off:Nat),off+k<=l.length->(Tr.leaf.lay 0 l).row off k=some (aM l off k):=by
 intro k
 induction k with
 | zero=>intro off _;simp [Tr.row,aM]
 | succ k c=>
   intro off h;simp only [Tr.row,Tr.get_row];rw [List.getElem?_eq_getElem (show off<l.length by omega),c (off+1) (by omega)];simp only [aM];rw [<-List.getElem_cons_drop (show off<l.length by omega),List.take_succ_cons]
def aW (g:Nat) (cs:List AV):AObj:=.cells g cs.length (Tr.leaf.lay 0 cs)
theorem Sto.push_mk {n low:Nat} {o:Tr AObj} {x:AObj}:(Sto.mk n low o).push x=⟨n+1,low,o.set n x⟩:=rfl
theorem Sto.get_mk {n low:Nat} {o:Tr AObj} {i:Nat} (h:i<n):(Sto.mk n low o).get i=o.get i:=by rw [Sto.get_eq];exact if_pos h
theorem Sto.put_mk0 {n:Nat} {o:Tr AObj} {i:Nat} {x:AObj}:(Sto.mk n 0 o).put i x=⟨n,0,o.set i x⟩:=by
 simp only [Sto.put]
 have:Nat.blt i 0=false:=by cases h:Nat.blt i 0<;>simp_all
 rw [this];rfl
theorem Tr.get_set_same {α:Type} (t:Tr α) (i:Nat) (a:α):(t.set i a).get i=some a:=by simp [Tr.get_set]
theorem Tr.get_set_ne {α:Type} (t:Tr α) {i j:Nat} (a:α) (h:j≠i):(t.set i a).get j=t.get j:=by simp [Tr.get_set,h]
section
variable {P:Program}
def tyK (P:Program) (t:TypeId):Option (Option Nat):=match BO P t,rX P t with
 | some true,some n=>some (some n)
 | some false,some 1=>some none
 | _,_=>none
def bF (P:Program) (t:TypeId) (f:Nat):Option (Nat × Option Nat):=match P.underlying t with
 | some (.struct fields)=>match fields[f]? with
   | some c=>match tyK P c.type with
     | some x=>(match x with | some 0=>none | _=>some (c.offset,x))
     | none=>none
   | none=>none
 | _=>none
def pG (P:Program) (t:TypeId):Option Nat:=match P.underlying t with
 | some (.slice e)=>rX P e
 | _=>none
def QY (P:Program) (t:TypeId):Option (Nat × Option Nat):=match P.underlying t with
 | some (.array n e)=>(tyK P e).map fun x=>(n,x)
 | _=>none
def apK (P:Program) (t:TypeId):Option (Nat × Nat):=match P.underlying t with
 | some (.slice e)=>match rX P e,nW P e,bB P e with
   | some k,some b,some z=>bif Nat.beq z.cells.length k then some (k,b) else none
   | _,_,_=>none
 | _=>none
def kL:Option Nat->Nat
 | none=>1
 | some n=>n
theorem pH {t:TypeId} {x:Option Nat} (h:tyK P t=some x):rX P t=some (kL x)/\BO P t=some x.isSome:=by
 unfold tyK at h;split at h
 ·rename_i c d;cases h;exact ⟨d,c⟩
 ·rename_i c d;cases h;exact ⟨d,c⟩
 ·cases h
def ldK (x:Option (Option Nat)) (o:Option AObj) (g off:Nat):Option AV:=match x,o with
 | some none,some (.cells g' n c)=>bif Nat.beq g g' then (bif Nat.blt off n then c.get off else none) else none
 | some (some k),some (.cells g' n c)=>bif Nat.beq g g' then (bif Nat.ble (off+k) n then (match c.row off k with | some l=>some (.agg l) | none=>none) else none) else none
 | _,_=>none
theorem ZR {s:Sto} {t:TypeId} {id g off:Nat} {x:Option Nat} (h:tyK P t=some x):fD P s t (.ptr id g off)=ldK (some x) (s.get id) g off:=by
 obtain ⟨d,e⟩:=pH h;simp only [fD,d,e]
 cases s.get id with
 | none=>cases x<;>rfl
 | some o=>
   cases o with
   | cells g' n c=>cases x<;>rfl
   | _=>cases x<;>rfl
theorem aKm {g off:Nat} {cs:List AV}:ldK (some none) (some (aW g cs)) g off=cs[off]?:=by
 simp only [ldK,aW,Nat.beq_refl,cond_true,eP,Tr.get_row];split
 ·rfl
 ·rename_i h;rw [List.getElem?_eq_none (by omega)]
theorem aKn {g off k:Nat} {cs:List AV} (h:off+k<=cs.length):ldK (some (some k)) (some (aW g cs)) g off=some (.agg (aM cs off k)):=by
 have:Nat.ble (off+k) cs.length=true:=by simpa using h
 simp only [ldK,aW,Nat.beq_refl,cond_true,this,Tr.row_lay _ _ _ h]
theorem EF {cs:List AV} {off:Nat} {a:AV} (h:off<cs.length):cL cs off [a]=cs.set off a:=by
 rw [AR _ _ _ _ (by simp;omega),EE]
def stK (s:Sto) (x:Option (Option Nat)) (id g off:Nat) (v:AV) (o:Option AObj):Option Sto:=match x,o with
 | some x,some (.cells g' n c)=>bif Nat.beq g g'&&Nat.ble (off+kL x) n&&Nat.beq v.cells.length (kL x)&&v.cells.all AV.isCell then some (s.put id (.cells g' n (c.lay off v.cells))) else none
 | _,_=>none
theorem SR {s:Sto} {t:TypeId} {id g off:Nat} {v:AV} {x:Option Nat} (h:tyK P t=some x):mB P s t (.ptr id g off) v=stK s (some x) id g off v (s.get id):=by
 obtain ⟨c,d⟩:=pH h;simp only [mB,c]
 cases s.get id with
 | none=>rfl
 | some o=>cases o<;>rfl
theorem aKp {s:Sto} {id g off:Nat} {v:AV} {cs:List AV} (c:v.isCell=true) (e:off<cs.length):stK s (some none) id g off v (some (aW g cs))=some (s.put id (aW g (cs.set off v))):=by
 have f:v.cells=[v]:=by cases v<;>first | rfl | cases c
 have d:Nat.ble (off+1) cs.length=true:=by simp;omega
 simp only [stK,aW,Nat.beq_refl,kL,d,f,List.length_cons,List.length_nil,List.all_cons,List.all_nil,c,Bool.and_self,cond_true];rw [Tr.lay_lay _ _ _ (by simp;omega),EF e,List.length_set]
theorem aKq {s:Sto} {id g off k:Nat} {vs cs:List AV} (f:vs.length=k) (e:vs.all AV.isCell=true) (c:off+k<=cs.length):stK s (some (some k)) id g off (.agg vs) (some (aW g cs))=some (s.put id (aW g (cL cs off vs))):=by
 subst f
 have d:Nat.ble (off+vs.length) cs.length=true:=by simpa using c
 simp only [stK,aW,Nat.beq_refl,kL,d,AV.cells,e,Bool.and_self,cond_true];rw [Tr.lay_lay _ _ _ c,vH _ _ _ c]
theorem SS {cs vs:List AV} (h:vs.length=cs.length):cL cs 0 vs=vs:=by simp [cL,h]
theorem EG {t:TypeId} {id g o f off:Nat} {x:Option Nat} (h:bF P t f=some (off,x)):bS P t (.ptr id g o) f=some (.ptr id g (o+off)):=by
 unfold bF at h;split at h
 ·rename_i fields p
  split at h
  ·rename_i r c
   split at h
   ·rename_i y q
    obtain ⟨e,_⟩:=pH q;unfold bS;rw [p];simp only [c,e];split at h
    ·cases h
    ·rename_i d
     simp only [Option.some.injEq,Prod.mk.injEq]at h;obtain ⟨rfl,rfl⟩:=h
     have:∃ m,kL y=m+1:=by
      cases y with
      | none=>exact ⟨0,rfl⟩
      | some n=>cases n with
        | zero=>exact absurd rfl d
        | succ m=>exact ⟨m,rfl⟩
     obtain ⟨m,l⟩:=this;rw [l]
   ·cases h
  ·cases h
 ·cases h
def ptK (x:Option Nat) (cs:List AV) (off:Nat):Option AV:=match x with
 | none=>cs[off]?
 | some n=>bif Nat.ble (off+n) cs.length then some (.agg (aM cs off n)) else none
theorem mZ {t:TypeId} {x:Option Nat} {cs:List AV} {off:Nat} (h:tyK P t=some x):oV P t cs off=ptK x cs off:=by
 obtain ⟨c,d⟩:=pH h;simp only [oV,c,d];cases x<;>rfl
theorem ST {t:TypeId} {cs:List AV} {f off:Nat} {x:Option Nat} (h:bF P t f=some (off,x)):pM P t (.agg cs) f=ptK x cs off:=by
 unfold bF at h;split at h
 ·rename_i fields d
  split at h
  ·rename_i l c
   split at h
   ·rename_i y e
    split at h
    ·cases h
    ·simp only [Option.some.injEq,Prod.mk.injEq]at h
     obtain ⟨rfl,rfl⟩:=h;simp only [pM,d,c,mZ e]
   ·cases h
  ·cases h
 ·cases h
variable {t:TypeId} {x y:Operand} {k:IntKind} {a b:Int}
theorem uL {a b:Int}:(a==b)=decide (a=b):=by rw [Bool.eq_iff_iff];simp
theorem aEq:abin P .add t x y (.int k a) (.int k b)=some (.int k (k.wrap (a+b))):=by simp [abin,kD,eO]
theorem aEr:abin P .sub t x y (.int k a) (.int k b)=some (.int k (k.wrap (a-b))):=by simp [abin,kD,eO]
theorem aEs:abin P .mul t x y (.int k a) (.int k b)=some (.int k (k.wrap (a*b))):=by simp [abin,kD,eO]
theorem aEt (h:b≠0):abin P .quo t x y (.int k a) (.int k b)=some (.int k (k.wrap (a.tdiv b))):=by simp [abin,kD,eO,h]
theorem aEu (h:b≠0):abin P .rem t x y (.int k a) (.int k b)=some (.int k (a.tmod b)):=by simp [abin,kD,eO,h]
theorem aEv:abin P .eql t x y (.int k a) (.int k b)=some (.bool (decide (a=b))):=by simp [abin,kD,lA,dJ,uL]
theorem aEw:abin P .neq t x y (.int k a) (.int k b)=some (.bool (!decide (a=b))):=by simp [abin,kD,lA,dJ,uL]
theorem aEx:abin P .lss t x y (.int k a) (.int k b)=some (.bool (decide (a<b))):=by simp [abin,kD,lA]
theorem aEy:abin P .leq t x y (.int k a) (.int k b)=some (.bool (decide (a<=b))):=by simp [abin,kD,lA]
theorem aEz:abin P .gtr t x y (.int k a) (.int k b)=some (.bool (decide (b<a))):=by simp [abin,kD,lA]
theorem aFa:abin P .geq t x y (.int k a) (.int k b)=some (.bool (decide (b<=a))):=by simp [abin,kD,lA]
theorem EH {c:IntKind} (h:¬ b<0):abin P .shr t x y (.int k a) (.int c b)=some (.int k (a.fdiv (2 ^ (min b.toNat k.bits)))):=by simp [abin,eO,h]
theorem aKr:aun .neg (.int k a)=some (.int k (k.wrap (0-a))):=by simp [aun,eO]
theorem EI {a b:List Nat}:fO Nat.beq a b=decide (a=b):=by
 induction a generalizing b with
 | nil=>cases b<;>simp [fO]
 | cons x a c=>
   cases b with
   | nil=>simp [fO]
   | cons y b=>
     simp only [fO,c]
     cases h:Nat.beq x y with
     | true=>have:=Nat.eq_of_beq_eq_true h;simp [this]
     | false=>have:=Nat.ne_of_beq_eq_false h;simp [this]
theorem xM {a b:List Nat}:abin P .eql t x y (.str a) (.str b)=some (.bool (decide (a=b))):=by simp [abin,zV,EI]
theorem jV {a b:List Nat}:abin P .neq t x y (.str a) (.str b)=some (.bool (!decide (a=b))):=by simp [abin,zV,EI]
theorem aR {a b:List Nat} (h:a.length+b.length<9223372036854775808):abin P .add t x y (.str a) (.str b)=some (.str (a++b)):=by
 have:Nat.blt (a.length+b.length) 9223372036854775808=true:=by simpa using h
 simp [abin,zV,this]
theorem aPe {l:List Nat}:(AV.str l).isCell=true:=rfl
theorem gC {v:AV} (h:v.isCell=true):v.cells=[v]:=by cases v<;>first | rfl | cases h
end
section
variable {P:Program}
def Ok (P:Program) (f:FuncId) (g:List AV->Option AV):Prop:=∀ args v,g args=some v->Returns P f args v
def ent (f:FuncId) (g:List AV->Option AV):lX:=(f,fun args _=>(g args).map fun v=>.ret v none)
theorem Ok.ent {f:FuncId} {g:List AV->Option AV} (h:Ok P f g):dU P (ent f g):=by
 intro args s res c;simp only [Go.Abs.ent]at c
 cases d:g args with
 | none=>rw [d]at c;cases c
 | some v=>
   rw [d]at c;simp only [Option.map_some,Option.some.injEq]at c;subst c;exact h args v d s
theorem ent_same {f:FuncId} {g:List AV->Option AV} {L:List lX} {args:List AV} {s:Sto}:bJ (ent f g::L) f args s=(g args).map fun v=>.ret v none:=zO
theorem sU {f h:FuncId} {g:List AV->Option AV} {L:List lX} {args:List AV} {s:Sto} (c:h≠f):bJ (ent h g::L) f args s=bJ L f args s:=KI c
theorem lP {fn:Func} {f:FuncId} {args:List AV} {s:Sto} {N:Nat} (d:fn.ntmps=N) (c:Nat.ble args.length N=true):ED fn f args s=⟨N,none,f,Tr.leaf.lay 0 args,[],⟨s.n,s.n,s.o⟩,.no⟩:=by
 have:Nat.max args.length fn.ntmps=N:=by
  rw [d];have:=Nat.le_of_ble_eq_true c;exact Nat.max_eq_right this
 simp only [ED,this]
theorem JX {L:List lX} (m:∀ x∈L,dU P x) {f:FuncId} {fn:Func} {c:Code} {N:Nat} {l:List ResultVar} {args:List AV} {v:AV} (d:okFn P f=true) (q:P.funcs[f]?=some fn) (u:fn.ntmps=N) (e:fn.results=l.toArray) (p:fn.body=some c)
 (o:Nat.ble args.length N=true) (w:∀ x∈args,Und 0 x) (A:Und 0 v)
 (h:W P (bJ L) c ⟨N,none,f,Tr.leaf.lay 0 args,[],⟨0,0,.leaf⟩,.no⟩ (jM P l (fun _ r=>r=v) fun _ _=>False)):Returns P f args v:=by
 refine eC w (sound_end (O:=bJ L) (xQ m) d q p (C:=fun _ r=>r=v) (D:=fun _ _=>False) (fun S r e=>⟨v,none,rfl,by rw [e];exact AQ (Nat.zero_le _) A⟩) (fun _ _ h=>h.elim) ?_);rw [lP u o,e];exact h
theorem GX {L:List lX} (m:∀ x∈L,dU P x) {f:FuncId} {fn:Func} {c:Code} {N:Nat} {l:List ResultVar} {args:List AV} {v:AV} (d:okFn P f=true) (q:P.funcs[f]?=some fn) (u:fn.ntmps=N) (e:fn.results=l.toArray) (p:fn.body=some c)
 (o:Nat.ble args.length N=true) (w:∀ x∈args,Und 0 x)
 (h:W P (bJ L) c ⟨N,none,f,Tr.leaf.lay 0 args,[],⟨0,0,.leaf⟩,.no⟩ (jM P l (fun S r=>Frz S 0 r v) fun _ _=>False)):Returns P f args v:=by
 refine eC w (sound_end (O:=bJ L) (xQ m) d q p (C:=fun S r=>Frz S 0 r v) (D:=fun _ _=>False) (fun S r e=>⟨v,none,rfl,nQ (Nat.zero_le _) e⟩) (fun _ _ h=>h.elim) ?_);rw [lP u o,e];exact h
end
end
end Go.Abs
