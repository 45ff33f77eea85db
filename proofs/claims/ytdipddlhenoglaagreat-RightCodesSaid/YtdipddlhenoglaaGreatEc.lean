/-
  The abstract machine: a function's contract out of a walk of its body; what is left behind may be frozen.
-/
import Derived.Test.YtdipddlhenoglaaGreatEa
import Derived.IntWalk
set_option linter.unusedVariables false
set_option linter.unusedSimpArgs false
namespace Go.Abs
noncomputable section
def pF (s S:Sto) (v v':AV) (c:Option Sto):Prop:=
 ∀ (σ τ:Sg) (w w':World),Rel σ s w->Stp σ {s with low:=s.n} w τ S w'->∃ ρ,CStp σ s w ρ c w'/\∀ V,VR τ v V->VR ρ v' V
def nE (n:Nat) (v:AV):Prop:=∀ (σ:Sg) V,VR σ v V->VR (σ.cut n) v V
theorem aNu {n:Nat}:nE n .top:=fun _ V _=>.top V
theorem aJ {n:Nat} {b:Bool}:nE n (.bool b):=fun _ _ h=>by cases h;exact .bool b
theorem aV {n:Nat} {k:IntKind} {x:Int}:nE n (.int k x):=fun _ _ h=>by cases h;exact .int k x
theorem oL {n:Nat} {l:List Nat}:nE n (.str l):=fun _ _ h=>by cases h;rename_i c;exact .str _ _ c
theorem fB {n:Nat}:nE n .nils:=fun _ _ h=>by cases h;exact .nils
theorem QN {n:Nat}:nE n .nilp:=fun _ _ h=>by cases h;exact .nilp
theorem aIn {n:Nat}:nE n .nilm:=fun _ _ h=>by cases h;exact .nilm
theorem aIo {n:Nat}:nE n .nilf:=fun _ _ h=>by cases h;exact .nilf
theorem aCh {n:Nat} {t:TypeId} {v:AV} (h:nE n v):nE n (.iface t v):=fun σ _ d=>by
 cases d with | iface _ _ V c=>exact .iface _ _ _ (h σ V c)
theorem YU {n:Nat} {l:List AV} (h:∀ x∈l,nE n x):nE n (.agg l):=fun σ _ m=>by
 cases m with | agg _ o f e=>exact .agg _ _ f fun i x X c d=>h x (List.mem_of_getElem? c) σ X (e i x X c d)
theorem kU {n:Nat} {l:List AV} (h:∀ x∈l,nE n x):nE n (.tuple l):=fun σ _ m=>by
 cases m with | tuple _ o f e=>exact .tuple _ _ f fun i x X c d=>h x (List.mem_of_getElem? c) σ X (e i x X c d)
theorem aIp {n:Nat} {l:List AV} {c:Bool} (h:∀ x∈l,∀ y∈x.cells,nE n y):nE n (.fz l c):=fun σ _ w=>by
 cases w with | fz _ _ a C b off k m o q r u v=>
  exact .fz _ _ _ _ _ _ _ m o q r (fun i j x y V d e f=>h x (List.mem_of_getElem? d) y (List.mem_of_getElem? e) σ V (u i j x y V d e f)) v
theorem aRh {n:Nat} {v:AV} (h:∀ y∈v.cells,nE n y):nE n (.pf v):=fun σ _ m=>by
 cases m with | pf _ b off f l=>exact .pf _ _ _ (fun i c V d e=>h c (List.mem_of_getElem? d) σ V (f i c V d e)) l
theorem aD {n:Nat}:∀ x∈([]:List AV),nE n x:=fun _ h=>nomatch h
theorem aA {n:Nat} {a:AV} {l:List AV} (h:nE n a) (d:∀ x∈l,nE n x):∀ x∈a::l,nE n x:=fun x c=>by
 rcases List.mem_cons.1 c with rfl | c
 ·exact h
 ·exact d x c
theorem QO {σ τ:Sg} {s S:Sto} {w w':World} (h:Rel σ s w) (e:Stp σ {s with low:=s.n} w τ S w') (C:s.n<=S.low):(τ.cut s.n).s=σ.s/\Quiet w w'/\σ.le (τ.cut s.n)/\
 (∀ b off V,τ.m b off=some V->σ.m b off=some V∨(w.heap.size<=b/\w'.cell? ⟨b,off,none⟩=some V))/\(∀ id x b base sz,s.n<=id->S.get id=some x->τ id (dF x)=some (b,base,sz)->w.heap.size<=b):=by
 have f:(τ.cut s.n).s=σ.s:=by
  funext id g
  simp only [Sg.cut];split
  ·rename_i c
   exact (e.keep id c (by omega)).2.1 g
  ·rename_i c
   cases D:σ id g with
   | none=>rfl
   | some y=>exact absurd (h.bnd id g y D) c
 refine ⟨f,⟨e.size,fun b u=>?_,e.os,e.out,e.tape⟩,⟨fun id g x v=>by rw [f];exact v,e.ext.m⟩,fun b off V A=>?_,fun id x b base sz c v u=>?_⟩
 ·by_cases B:Has σ s b
  ·obtain ⟨id,x,base,sz,d,o⟩:=B
   have c:=Sto.get_lt d;exact (e.keep id c (by omega)).2.2 x b base sz d o
  ·exact e.frame b u B
 ·have r:=e.rel.mu b off V A
  rcases e.mnew b off V A with d | ⟨id,x,base,sz,d,o⟩ | d
  ·exact .inl d
  ·exfalso
   have c:id<s.n:=Sto.get_lt d;obtain ⟨k1,k2,_⟩:=e.keep id c (by omega);exact r.2 ⟨id,x,base,sz,by rw [k1];exact d,by rw [k2];exact o⟩
  ·exact .inr ⟨d,r.1⟩
 ·rcases e.own b ⟨id,x,base,sz,v,u⟩ with ⟨l,E,base',sz',d,o⟩ | d
  ·exfalso
   have q:l<s.n:=Sto.get_lt d;obtain ⟨k1,k2,_⟩:=e.keep l q (by omega);have:=e.rel.inj id x l E b base sz base' sz' v (by rw [k1];exact d) u (by rw [k2];exact o);omega
  ·exact d
theorem BT {s S:Sto} {v:AV} (c:s.n<=S.low) (q:nE s.n v):pF s S v v none:=by
 intro σ τ w w' h o;obtain ⟨d,e,f,l,_⟩:=QO h o c;exact ⟨τ.cut s.n,⟨e,f,d,l⟩,fun V m=>q τ V m⟩
theorem QP {s S:Sto} {v:AV}:pF s S v v (some {S with low:=Nat.min s.low S.low}):=by
 intro σ τ w w' h c;refine ⟨τ,?_,fun V f=>f⟩;exact ⟨c.rel.low rfl rfl,c.ext,c.size,c.frame,c.own,c.sn,Nat.min_le_left _ _,fun id d e=>c.keep id d (Nat.lt_of_lt_of_le e (Nat.min_le_right _ _)),c.os,c.out,c.tape,c.hole,c.mnew⟩
inductive Frz (S:Sto) (n:Nat):AV->AV->Prop
 | und (v:AV):nE n v->Frz S n v v
 | agg (l l':List AV):l.length=l'.length->(∀ (i:Nat) x y,l[i]?=some x->l'[i]?=some y->Frz S n x y)->Frz S n (.agg l) (.agg l')
 | tuple (l l':List AV):l.length=l'.length->(∀ (i:Nat) x y,l[i]?=some x->l'[i]?=some y->Frz S n x y)->Frz S n (.tuple l) (.tuple l')
 | sl (id g off len:Nat) (cap:ACap) (m k:Nat) (c:Tr AV) (l:List AV) (a:Nat->Nat->AV):n<=id->S.get id=some (.cells g m c)->l.length=len->off+len*k<=m->(∀ x∈l,x.cells.length=k)->
  (∀ (i j:Nat) x y,l[i]?=some x->x.cells[j]?=some y->c.get (off+i*k+j)=some (a i j))->(∀ (i j:Nat) x y,l[i]?=some x->x.cells[j]?=some y->Frz S n (a i j) y)->Frz S n (.sl id g off len cap) (.fz l false)
 | ptr (id g off m:Nat) (c:Tr AV) (v:AV) (a:Nat->AV):n<=id->S.get id=some (.cells g m c)->off+v.cells.length<=m->(∀ (j:Nat) y,v.cells[j]?=some y->c.get (off+j)=some (a j))->(∀ (j:Nat) y,v.cells[j]?=some y->Frz S n (a j) y)->Frz S n (.ptr id g off) (.pf v)
 | func (f:FuncId) (a a' c c':List AV):a.length=a'.length->c.length=c'.length->(∀ (i:Nat) x y,a[i]?=some x->a'[i]?=some y->Frz S n x y)->(∀ (i:Nat) x y,c[i]?=some x->c'[i]?=some y->Frz S n x y)->Frz S n (.func (.func f) a c) (.func (.func f) a' c')
theorem kV {s S:Sto} {v v':AV} (ae:s.n<=S.low) (hf:Frz S s.n v v'):pF s S v v' none:=by
 intro σ τ w w' h hs;obtain ⟨h1,h2,h3,h4,h5⟩:=QO h hs ae
 let M:Nat->Nat->Option Value:=fun b off=>match τ.m b off with
  | some V=>some V
  | none=>if w.heap.size<=b then w'.cell? ⟨b,off,none⟩ else none
 have hM:∀ b off V,τ.m b off=some V->M b off=some V:=fun b off V r=>by simp [M,r]
 have I:∀ b off,w.heap.size<=b->M b off=w'.cell? ⟨b,off,none⟩:=fun b off J=>by
  simp only [M]
  cases hc:τ.m b off with
  | some V=>simp only;exact (hs.rel.mu b off V hc).1.symm
  | none=>simp [J]
 let ρ:Sg:=⟨M,(τ.cut s.n).s⟩
 have ac:(τ.cut s.n).le ρ:=⟨fun _ _ _ h=>h,hM⟩
 refine ⟨ρ,⟨h2,Sg.le_trans h3 ac,h1,fun b off V r=>?_⟩,?_⟩
 ·have B:M b off=some V:=r
  simp only [M]at B;split at B
  ·rename_i W hW
   cases B;exact h4 b off _ hW
  ·split at B
   ·rename_i J;exact .inr ⟨J,B⟩
   ·cases B
 ·induction hf with
  | und v hu=>exact fun V r=>(hu τ V r).mono ac
  | agg l l' O _ R=>
    intro V r
    cases r with
    | agg _ ys G u=>
      refine .agg _ _ (by rw [<-O];exact G) fun i y Y q E=>?_
      have e:i<l.length:=by rw [O];exact (List.getElem?_eq_some_iff.1 q).1
      exact R i l[i] y (List.getElem?_eq_getElem e) q Y (u i _ Y (List.getElem?_eq_getElem e) E)
  | tuple l l' O _ R=>
    intro V r
    cases r with
    | tuple _ ys G u=>
      refine .tuple _ _ (by rw [<-O];exact G) fun i y Y q E=>?_
      have e:i<l.length:=by rw [O];exact (List.getElem?_eq_some_iff.1 q).1
      exact R i l[i] y (List.getElem?_eq_getElem e) q Y (u i _ Y (List.getElem?_eq_getElem e) E)
  | func f a a' c c' aa ab _ _ af ag=>
    intro V r
    cases r with
    | func _ F _ _ A C hF G u T U=>
      refine .func _ _ _ _ _ _ (by cases hF;exact .func f) (by rw [<-aa];exact G) (by rw [<-ab];exact u) (fun i y Y q E=>?_) (fun i y Y q E=>?_)
      ·have e:i<a.length:=by rw [aa];exact (List.getElem?_eq_some_iff.1 q).1
       exact af i a[i] y (List.getElem?_eq_getElem e) q Y (T i _ Y (List.getElem?_eq_getElem e) E)
      ·have e:i<c.length:=by rw [ab];exact (List.getElem?_eq_some_iff.1 q).1
       exact ag i c[i] y (List.getElem?_eq_getElem e) q Y (U i _ Y (List.getElem?_eq_getElem e) E)
  | sl id g off len cap m k c l a N Z O hm hk ha _ R=>
    intro V r
    cases r with
    | sl _ _ _ _ _ b base sz C Q ad ah=>
      obtain ⟨b',base',sz',o,q,E,g3⟩:=hs.rel.obj id _ Z;have D:τ id g=some (b',base',sz'):=q;rw [Q]at D
      obtain ⟨rfl,rfl,rfl⟩:b=b'/\base=base'/\sz=sz':=by simpa using D
      have J:=h5 id _ b base sz N Z q
      cases g3 with
      | cells _ _ _ arr el fr q1 q2 q3 q4=>
        have d:∀ j,j<m->w'.cell? ⟨b,base+j,none⟩=arr[base+j]?:=fun j H=>by simp [World.cell?,E]
        have L:∀ i j,i<l.length->j<k->off+i*k+j<m:=by
         intro i j e H
         have:i*k+k<=len*k:=by
          rw [<-Nat.succ_mul];exact Nat.mul_le_mul_right k (by omega)
         omega
        subst O;refine .fz l false ⟨b,base+off,none⟩ C b (base+off) k (fun _=>rfl) ad (fun hc=>by cases hc) hk (fun i j x y W G u T=>?_) (fun i j e H=>?_)
        ·have e:=(List.getElem?_eq_some_iff.1 G).1
         have H:j<k:=by rw [<-hk x (List.mem_of_getElem? G)];exact (List.getElem?_eq_some_iff.1 u).1
         obtain ⟨W',U,e5⟩:=q3 _ (a i j) (L i j e H) (ha i j x y G u);have X:M b (base+off+i*k+j)=some W:=T;rw [I _ _ J,show base+off+i*k+j=base+(off+i*k+j) by omega,d _ (L i j e H),U]at X;cases X;exact R i j x y G u W e5
        ·show (M b (base+off+i*k+j)).isSome=true
         rw [I _ _ J,show base+off+i*k+j=base+(off+i*k+j) by omega,d _ (L i j e H)];have:=L i j e H;rw [Array.getElem?_eq_getElem (show base+(off+i*k+j)<arr.size by omega)];rfl
  | ptr id g off m c v a N Z hm ha _ R=>
    intro V r
    cases r with
    | ptr _ _ _ b base sz Q=>
      obtain ⟨b',base',sz',o,q,E,g3⟩:=hs.rel.obj id _ Z;have D:τ id g=some (b',base',sz'):=q;rw [Q]at D
      obtain ⟨rfl,rfl,rfl⟩:b=b'/\base=base'/\sz=sz':=by simpa using D
      have J:=h5 id _ b base sz N Z q
      cases g3 with
      | cells _ _ _ arr el fr q1 q2 q3 q4=>
        have d:∀ j,j<m->w'.cell? ⟨b,base+j,none⟩=arr[base+j]?:=fun j H=>by simp [World.cell?,E]
        refine .pf v b (base+off) (fun j y W u T=>?_) (fun j H=>?_)
        ·have H:=(List.getElem?_eq_some_iff.1 u).1
         obtain ⟨W',U,e5⟩:=q3 _ (a j) (by omega) (ha j y u);have X:M b (base+off+j)=some W:=T;rw [I _ _ J,show base+off+j=base+(off+j) by omega,d _ (by omega),U]at X;cases X;exact R j y u W e5
        ·show (M b (base+off+j)).isSome=true
         rw [I _ _ J,show base+off+j=base+(off+j) by omega,d _ (by omega)];rw [Array.getElem?_eq_getElem (show base+(off+j)<arr.size by omega)];rfl
section
variable {P:Program}
def GV (o:Option (List AV)) (C:Sto->AV->Prop) (s:Sto):Prop:=∃ vs,o=some vs/\C s (kH vs)
theorem aIq {l:List AV} {C:Sto->AV->Prop} {s:Sto}:GV (some l) C s↔C s (kH l):=by simp [GV]
def jR (P:Program) (c:List ResultVar) (C D:Sto->AV->Prop):Ex->Env->Prop
 | .normal,e=>e.ds=[]/\e.r=.no/\GV (aZ P e c) C e.s
 | .ret,e=>e.ds=[]/\e.r=.no/\GV (aZ P e c) C e.s
 | .panic v,e=>e.ds=[]/\e.r=.no/\D e.s v
 | _,_=>False
def FP (fn:Func) (f:FuncId) (args:List AV) (s:Sto):Env:=⟨Nat.max args.length fn.ntmps,none,f,Tr.leaf.lay 0 args,[],{s with low:=s.n},.no⟩
theorem sound_end {O:cH} (hO:rN P O) {f:FuncId} {fn:Func} {c:Code} {args:List AV} {s:Sto} {res:CRes} {C D:Sto->AV->Prop} (T:okFn P f=true) (hf:P.funcs[f]?=some fn) (hb:fn.body=some c)
 (hC:∀ S v,C S v->∃ v' G,res=.ret v' G/\pF s S v v' G) (hD:∀ S v,D S v->∃ v' G,res=.pan v' G/\pF s S v v' G)
 (h:W P O c (FP fn f args s) (jR P fn.results.toList C D)):bO P f args s res:=by
 obtain ⟨n,ex,e,hc,M⟩:=h;refine ⟨T,fn,hf,fun σ w A kd stk m l ha J U=>?_⟩;have F:Rel σ {s with low:=s.n} w:=l.low rfl rfl
 have he:ER σ {(default:Frame) with fn:=f,kind:=kd} (FP fn f args s) {tmps:=A++Array.replicate (fn.ntmps-A.size) undef,defers:=[]} m:=
  ⟨FZ ha _,.nil,U,rfl,rfl⟩
 have o:Frame.enter P f A kd=({(default:Frame) with fn:=f,kind:=kd}:Frame).atR {tmps:=A++Array.replicate (fn.ntmps-A.size) undef,defers:=[]} [.code c]:=by
  simp [Frame.enter,Frame.atR,hf,hb];rfl
 rw [o];obtain ⟨τ,H,L,w',I,R,u⟩:=iF (nU hO n).1 (uX n) n c σ w _ stk [] _ _ m _ _ J hc F he
 have q:e.ds=[]/\e.r=.no/\(∃ vs,aZ P e fn.results.toList=some vs/\C e.s (kH vs))->(∃ todo,Steps P (lone (({(default:Frame) with fn:=f,kind:=kd}:Frame).atR {tmps:=A++Array.replicate (fn.ntmps-A.size) undef,defers:=[]} [.code c]) (stk m) w) (lone {({(default:Frame) with fn:=f,kind:=kd}:Frame).atR H todo with mode:=.returning} (stk L) w'))->
  aRt P σ s w kd f fn stk (lone (({(default:Frame) with fn:=f,kind:=kd}:Frame).atR {tmps:=A++Array.replicate (fn.ntmps-A.size) undef,defers:=[]} [.code c]) (stk m) w) res:=by
  rintro ⟨Y,Z,vs,q3,q4⟩ ⟨todo,X⟩;obtain ⟨v',G,rfl,B⟩:=hC _ _ q4;obtain ⟨V,r1,r2⟩:=wZ R.rel I.tm q3;obtain ⟨ρ,N,Q⟩:=B σ τ w w' l R;have d:=I.df;rw [Y]at d
  have E:RM ρ kd .no L:=by
   have:=I.rc;rw [Z]at this
   cases this with
   | normal m=>exact .normal _
   | quiet=>exact .quiet
  refine ⟨ρ,V,w',_,L,Q V r2,N,E,X,rfl,?_,rfl,rfl,r1⟩
  show H.defers=[]
  generalize H.defers=ad at d;cases d;rfl
 cases ex with
 | normal=>exact q M ⟨[],Steps.trans u (.one (stepR_end rfl))⟩
 | ret=>obtain ⟨k₁,u⟩:=u;exact q M ⟨_,Steps.trans u (.one (stepR_ret rfl))⟩
 | panic v=>
   obtain ⟨Y,Z,q4⟩:=M;obtain ⟨V,todo,hV,u⟩:=u;obtain ⟨v',G,rfl,B⟩:=hD _ _ q4;obtain ⟨ρ,N,Q⟩:=B σ τ w w' l R;have d:=I.df;rw [Y]at d
   have E:RM ρ kd .no L:=by
    have:=I.rc;rw [Z]at this
    cases this with
    | normal m=>exact .normal _
    | quiet=>exact .quiet
   refine ⟨ρ,V,w',_,L,Q V hV,N,E,u,rfl,?_,rfl,rfl⟩
   show H.defers=[]
   generalize H.defers=ad at d;cases d;rfl
 | _=>exact M.elim
theorem VF {O:cH} (l:rN P O) {f:FuncId} {fn:Func} {c:Code} {args:List AV} {s:Sto} {v:AV} (d:okFn P f=true) (o:P.funcs[f]?=some fn) (m:fn.body=some c) (q:nE s.n v)
 (h:W P O c (FP fn f args s) (jR P fn.results.toList (fun S r=>s.n<=S.low/\r=v) fun _ _=>False)):bO P f args s (.ret v none):=
 sound_end l d o m (fun S r e=>⟨v,none,rfl,by rw [e.2];exact BT e.1 q⟩) (fun _ _ h=>h.elim) h
theorem dV {f:FuncId} {args:List AV} {v:AV} (l:∀ x∈args,nE 0 x) (h:bO P f args .empty (.ret v none)):Returns P f args v:=fun s=>
 sound_empty (fun σ A d=>⟨d.1,fun i x X c e=>l x (List.mem_of_getElem? c) σ X (d.2 i x X c e)⟩) h ⟨_,.inl rfl⟩ s
theorem aIr {e:List ResultVar} {C D:Sto->AV->Prop} {c:Nat} {d:Option Nat} {fn:FuncId} {t:Tr AV} {s:Sto}:jR P e C D .ret ⟨c,d,fn,t,[],s,.no⟩↔GV (aZ P ⟨c,d,fn,t,[],s,.no⟩ e) C s:=by simp [jR]
theorem QQ {e:List ResultVar} {C D:Sto->AV->Prop} {c:Nat} {d:Option Nat} {fn:FuncId} {t:Tr AV} {s:Sto}:jR P e C D .normal ⟨c,d,fn,t,[],s,.no⟩↔GV (aZ P ⟨c,d,fn,t,[],s,.no⟩ e) C s:=by simp [jR]
theorem MO {e:Env} {d:Nat} {l:List ResultVar}:aZ P e (.tmp d::l)=(aZ P e l).map (e.t.val d::·):=by
 simp only [aZ,Tr.val]
 cases h:aZ P e l with
 | none=>rfl
 | some r=>simp only [Option.map_some];cases e.t.get d<;>rfl
theorem iE {e:Env} {a:Nat} {ty:TypeId} {l:List ResultVar}:aZ P e (.cell a ty::l)=(fE P e.s ty (e.t.val a)).bind fun v=>(aZ P e l).map (v::·):=by
 simp only [aZ,Tr.val]
 cases e.t.get a with
 | none=>
   simp only [Option.getD_none]
   cases fE P e.s ty .top with
   | none=>rfl
   | some v=>cases aZ P e l<;>rfl
 | some x=>
   simp only [Option.getD_some]
   cases fE P e.s ty x with
   | none=>rfl
   | some v=>cases aZ P e l<;>rfl
end
end
end Go.Abs
/-
 The abstract machine: operations on values and stores,for a walk by 'simp'.
-/
namespace Go.Abs
noncomputable section
theorem Tr.setF_succ {α:Type} (f i:Nat) (t:Tr α) (a:Option α):Tr.setF (f+1) t i a=match t with
 | .leaf=>if i=0 then .node a .leaf .leaf else if i%2=1 then .node none (Tr.setF f .leaf (i/2) a) .leaf else .node none .leaf (Tr.setF f .leaf (i/2-1) a)
 | .node v l r=>if i=0 then .node a l r else if i%2=1 then .node v (Tr.setF f l (i/2) a) r else .node v l (Tr.setF f r (i/2-1) a):=by
 have c:∀ {β:Type} (x y:β),@Bool.rec (fun _=>β) x y (Nat.beq i 0)=if i=0 then y else x:=by
  intro β x y
  cases h:Nat.beq i 0 with
  | true=>simp [Nat.eq_of_beq_eq_true h]
  | false=>simp [Nat.ne_of_beq_eq_false h]
 have d:∀ {β:Type} (x y:β),@Bool.rec (fun _=>β) x y (Nat.beq (Nat.mod i 2) 1)=if i%2=1 then y else x:=by
  intro β x y;show @Bool.rec (fun _=>β) x y (Nat.beq (i%2) 1)=_
  cases h:Nat.beq (i%2) 1 with
  | true=>simp [Nat.eq_of_beq_eq_true h]
  | false=>simp [Nat.ne_of_beq_eq_false h]
 cases t with
 | leaf=>exact (c _ _).trans (by rw [d];rfl)
 | node v l r=>exact (c _ _).trans (by rw [d];rfl)
theorem Tr.setF_setF {α:Type}:∀ (f g i:Nat) (t:Tr α) (a b:Option α),i<f->i<g->Tr.setF g (Tr.setF f t i a) i b=Tr.setF g t i b:=by
 intro f
 induction f with
 | zero=>intro g i t a b h;omega
 | succ f e=>
   intro g i t a b m o
   obtain ⟨g,rfl⟩:∃ k,g=k+1:=⟨g-1,by omega⟩
   by_cases c:i=0
   ·subst c;cases t<;>simp [Tr.setF_succ]
   ·by_cases d:i%2=1
    ·cases t with
     | leaf=>simp only [Tr.setF_succ,if_neg c,if_pos d];rw [e g _ _ _ _ (by omega) (by omega)]
     | node v l r=>simp only [Tr.setF_succ,if_neg c,if_pos d];rw [e g _ _ _ _ (by omega) (by omega)]
    ·cases t with
     | leaf=>simp only [Tr.setF_succ,if_neg c,if_neg d];rw [e g _ _ _ _ (by omega) (by omega)]
     | node v l r=>simp only [Tr.setF_succ,if_neg c,if_neg d];rw [e g _ _ _ _ (by omega) (by omega)]
theorem Tr.setF_comm {α:Type}:∀ (f g i j:Nat) (t:Tr α) (a b:Option α),i<f->j<g->i≠j->Tr.setF g (Tr.setF f t i a) j b=Tr.setF f (Tr.setF g t j b) i a:=by
 intro f
 induction f with
 | zero=>intro g i j t a b h;omega
 | succ f o=>
   intro g i j t a b q r m
   obtain ⟨g,rfl⟩:∃ k,g=k+1:=⟨g-1,by omega⟩
   by_cases d:i=0
   ·subst d
    have c:j≠0:=fun h=>m h.symm
    by_cases l:j%2=1<;>cases t<;>simp [Tr.setF_succ,c,l]
   ·by_cases c:j=0
    ·subst c
     by_cases e:i%2=1<;>cases t<;>simp [Tr.setF_succ,d,e]
    ·by_cases e:i%2=1<;>by_cases l:j%2=1
     ·cases t<;>(simp only [Tr.setF_succ,if_neg d,if_pos e,if_neg c,if_pos l];rw [o g _ _ _ _ _ (by omega) (by omega) (by omega)])
     ·cases t<;>simp only [Tr.setF_succ,if_neg d,if_pos e,if_neg c,if_neg l]
     ·cases t<;>simp only [Tr.setF_succ,if_neg d,if_neg e,if_neg c,if_pos l]
     ·cases t<;>(simp only [Tr.setF_succ,if_neg d,if_neg e,if_neg c,if_neg l];rw [o g _ _ _ _ _ (by omega) (by omega) (by omega)])
theorem Tr.set_set {α:Type} (t:Tr α) (i:Nat) (a b:α):(t.set i a).set i b=t.set i b:=Tr.setF_setF _ _ _ _ _ _ (by omega) (by omega)
theorem Tr.set_comm {α:Type} (t:Tr α) {i j:Nat} (a b:α) (h:i≠j):(t.set i a).set j b=(t.set j b).set i a:=Tr.setF_comm _ _ _ _ _ _ _ (by omega) (by omega) h
theorem Tr.lay_set_lt {α:Type} (l:List α):∀ (t:Tr α) (k i:Nat) (a:α),i<k->(t.lay k l).set i a=(t.set i a).lay k l:=by
 induction l with
 | nil=>intro t k i a h;rfl
 | cons x l c=>
   intro t k i a h;simp only [Tr.lay];rw [c _ _ _ _ (by omega),Tr.set_comm _ _ _ (by omega)]
theorem Tr.lay_set {α:Type} (l:List α):∀ (t:Tr α) (k i:Nat) (a:α),i<l.length->(t.lay k l).set (k+i) a=t.lay k (l.set i a):=by
 induction l with
 | nil=>intro t k i a h;simp at h
 | cons x l c=>
   intro t k i a h
   cases i with
   | zero=>
     simp only [Tr.lay,List.set_cons_zero,Nat.add_zero];rw [Tr.lay_set_lt _ _ _ _ _ (by omega),Tr.set_set]
   | succ i=>
     simp only [Tr.lay,List.set_cons_succ];rw [<-c _ _ _ _ (by simpa using h)]
     congr 1;omega
theorem Tr.lay_append {α:Type} (l m:List α):∀ (t:Tr α) (k:Nat),(t.lay k l).lay (k+l.length) m=t.lay k (l++m):=by
 induction l with
 | nil=>intro t k;rfl
 | cons x l c=>
   intro t k;simp only [Tr.lay,List.cons_append,List.length_cons];rw [<-c]
   congr 1;omega
def cA {α:Type} (l:List α) (off:Nat) (m:List α):List α:=l.take off++m++l.drop (off+m.length)
theorem FQ {α:Type} (l:List α) (off:Nat):cA l off []=l:=by simp [cA]
theorem eK {α:Type} (l m:List α) (off:Nat) (h:off+m.length<=l.length):(cA l off m).length=l.length:=by
 simp [cA];omega
theorem BU {α:Type} (l m:List α) (off:Nat) (a:α) (h:off+(a::m).length<=l.length):cA l off (a::m)=cA (l.set off a) (off+1) m:=by
 simp only [List.length_cons]at h;apply List.ext_getElem?;intro i;simp only [cA,List.length_cons];simp only [List.getElem?_append,List.length_take,List.length_append,List.length_cons,List.getElem?_take,List.getElem?_drop,List.length_set,List.getElem?_set]
 have r:min off l.length=off:=by omega
 have u:min (off+1) l.length=off+1:=by omega
 rw [r,u];by_cases c:i<off
 ·have:off≠i:=by omega
  simp [c,show i<off+1 by omega,show i<off+(m.length+1) by omega,show i<off+1+m.length by omega,this]
 ·by_cases f:i=off
  ·subst f
   simp [show i<l.length by omega,show i<i+1+m.length by omega]
  ·by_cases e:i<off+(m.length+1)
   ·obtain ⟨d,rfl⟩:∃ d,i=off+1+d:=⟨i-off-1,by omega⟩
    rw [if_neg c,if_pos e,if_neg (show ¬ off+1+d<off+1 by omega),if_pos (show off+1+d<off+1+m.length by omega)];simp [show off+1+d-off=d+1 by omega]
   ·have o:off+(m.length+1)+(i-(off+(m.length+1)))=i:=by omega
    have q:off+1+m.length+(i-(off+1+m.length))=i:=by omega
    simp [e,show ¬ i<off+1+m.length by omega,o,q,show off≠i by omega]
theorem Tr.lay_lay {α:Type} (m:List α):∀ (l:List α) (off:Nat),off+m.length<=l.length->((Tr.leaf.lay 0 l).lay off m)=Tr.leaf.lay 0 (cA l off m):=by
 induction m with
 | nil=>intro l off _;rw [FQ];rfl
 | cons a m c=>
   intro l off h;simp only [Tr.lay]
   have d:off+m.length+1<=l.length:=by simpa [Nat.add_assoc] using h
   have:=Tr.lay_set l .leaf 0 off a (by omega);rw [Nat.zero_add]at this;rw [this,c _ _ (by simp;omega),BU _ _ _ _ h]
theorem Tr.get_row {α:Type} (l:List α) (i:Nat):(Tr.leaf.lay 0 l).get i=l[i]?:=by
 rw [Tr.get_lay];by_cases h:i<l.length
 ·simp [h]
 ·rw [if_neg (by omega),List.getElem?_eq_none (by omega)];rfl
theorem Tr.val_lay (l:List AV) (i:Nat):(Tr.leaf.lay 0 l).val i=l[i]?.getD .top:=by rw [Tr.val,Tr.get_row]
theorem Tr.row_lay {α:Type} (l:List α):∀ (k off:Nat),off+k<=l.length->(Tr.leaf.lay 0 l).row off k=some (bJ l off k):=by
 intro k
 induction k with
 | zero=>intro off _;simp [Tr.row,bJ]
 | succ k c=>
   intro off h;simp only [Tr.row,Tr.get_row];rw [List.getElem?_eq_getElem (show off<l.length by omega),c (off+1) (by omega)];simp only [bJ];rw [<-List.getElem_cons_drop (show off<l.length by omega),List.take_succ_cons]
def aQ (g:Nat) (cs:List AV):AObj:=.cells g cs.length (Tr.leaf.lay 0 cs)
theorem Sto.get_mk {n low:Nat} {o:Tr AObj} {i:Nat} (h:i<n):(Sto.mk n low o).get i=o.get i:=by rw [Sto.get_eq];exact if_pos h
theorem Tr.get_set_same {α:Type} (t:Tr α) (i:Nat) (a:α):(t.set i a).get i=some a:=by simp [Tr.get_set]
theorem Tr.get_set_ne {α:Type} (t:Tr α) {i j:Nat} (a:α) (h:j≠i):(t.set i a).get j=t.get j:=by simp [Tr.get_set,h]
section
variable {P:Program}
def tyK (P:Program) (t:TypeId):Option (Option Nat):=match CI P t,qP P t with
 | some true,some n=>some (some n)
 | some false,some 1=>some none
 | _,_=>none
def bI (P:Program) (t:TypeId) (f:Nat):Option (Nat × Option Nat):=match P.underlying t with
 | some (.struct fields)=>match fields[f]? with
   | some c=>match tyK P c.type with
     | some x=>(match x with | some 0=>none | _=>some (c.offset,x))
     | none=>none
   | none=>none
 | _=>none
def qD (P:Program) (t:TypeId):Option Nat:=match P.underlying t with
 | some (.slice e)=>qP P e
 | _=>none
def arK (P:Program) (t:TypeId):Option (Nat × Option Nat):=match P.underlying t with
 | some (.array n e)=>(tyK P e).map fun x=>(n,x)
 | _=>none
def apK (P:Program) (t:TypeId):Option (Nat × Nat):=match P.underlying t with
 | some (.slice e)=>match qP P e,nY P e,bF P e with
   | some k,some b,some z=>bif Nat.beq z.cells.length k then some (k,b) else none
   | _,_,_=>none
 | _=>none
def jS:Option Nat->Nat
 | none=>1
 | some n=>n
theorem rH {t:TypeId} {x:Option Nat} (h:tyK P t=some x):qP P t=some (jS x)/\CI P t=some x.isSome:=by
 unfold tyK at h;split at h
 ·rename_i c d;cases h;exact ⟨d,c⟩
 ·rename_i c d;cases h;exact ⟨d,c⟩
 ·cases h
def ldK (x:Option (Option Nat)) (o:Option AObj) (g off:Nat):Option AV:=match x,o with
 | some none,some (.cells d n c)=>bif Nat.beq g d then (bif Nat.blt off n then c.get off else none) else none
 | some (some k),some (.cells d n c)=>bif Nat.beq g d then (bif Nat.ble (off+k) n then (match c.row off k with | some l=>some (.agg l) | none=>none) else none) else none
 | _,_=>none
theorem aCi {s:Sto} {t:TypeId} {id g off:Nat} {x:Option Nat} (h:tyK P t=some x):fE P s t (.ptr id g off)=ldK (some x) (s.get id) g off:=by
 obtain ⟨d,e⟩:=rH h;simp only [fE,d,e]
 cases s.get id with
 | none=>cases x<;>rfl
 | some o=>
   cases o with
   | cells f n c=>cases x<;>rfl
   | _=>cases x<;>rfl
theorem aNw {g off:Nat} {cs:List AV}:ldK (some none) (some (aQ g cs)) g off=cs[off]?:=by
 simp only [ldK,aQ,Nat.beq_refl,cond_true,eI,Tr.get_row];split
 ·rfl
 ·rename_i h;rw [List.getElem?_eq_none (by omega)]
theorem aNx {g off k:Nat} {cs:List AV} (h:off+k<=cs.length):ldK (some (some k)) (some (aQ g cs)) g off=some (.agg (bJ cs off k)):=by
 have:Nat.ble (off+k) cs.length=true:=by simpa using h
 simp only [ldK,aQ,Nat.beq_refl,cond_true,this,Tr.row_lay _ _ _ h]
theorem FR {cs:List AV} {off:Nat} {a:AV} (h:off<cs.length):cA cs off [a]=cs.set off a:=by
 rw [BU _ _ _ _ (by simp;omega),FQ]
def stK (s:Sto) (x:Option (Option Nat)) (id g off:Nat) (v:AV) (o:Option AObj):Option Sto:=match x,o with
 | some x,some (.cells d n c)=>bif Nat.beq g d&&Nat.ble (off+jS x) n&&Nat.beq v.cells.length (jS x)&&v.cells.all AV.isCell then some (s.put id (.cells d n (c.lay off v.cells))) else none
 | _,_=>none
theorem VG {s:Sto} {t:TypeId} {id g off:Nat} {v:AV} {x:Option Nat} (h:tyK P t=some x):mD P s t (.ptr id g off) v=stK s (some x) id g off v (s.get id):=by
 obtain ⟨c,d⟩:=rH h;simp only [mD,c]
 cases s.get id with
 | none=>rfl
 | some o=>cases o<;>rfl
theorem aNz {s:Sto} {id g off:Nat} {v:AV} {cs:List AV} (c:v.isCell=true) (e:off<cs.length):stK s (some none) id g off v (some (aQ g cs))=some (s.put id (aQ g (cs.set off v))):=by
 have f:v.cells=[v]:=by cases v<;>first | rfl | cases c
 have d:Nat.ble (off+1) cs.length=true:=by simp;omega
 simp only [stK,aQ,Nat.beq_refl,jS,d,f,List.length_cons,List.length_nil,List.all_cons,List.all_nil,c,Bool.and_self,cond_true];rw [Tr.lay_lay _ _ _ (by simp;omega),FR e,List.length_set]
theorem aOa {s:Sto} {id g off k:Nat} {vs cs:List AV} (f:vs.length=k) (e:vs.all AV.isCell=true) (c:off+k<=cs.length):stK s (some (some k)) id g off (.agg vs) (some (aQ g cs))=some (s.put id (aQ g (cA cs off vs))):=by
 subst f
 have d:Nat.ble (off+vs.length) cs.length=true:=by simpa using c
 simp only [stK,aQ,Nat.beq_refl,jS,d,AV.cells,e,Bool.and_self,cond_true];rw [Tr.lay_lay _ _ _ c,eK _ _ _ c]
theorem rI {cs vs:List AV} (h:vs.length=cs.length):cA cs 0 vs=vs:=by simp [cA,h]
theorem FS {t:TypeId} {id g o f off:Nat} {x:Option Nat} (h:bI P t f=some (off,x)):bV P t (.ptr id g o) f=some (.ptr id g (o+off)):=by
 unfold bI at h;split at h
 ·rename_i fields q
  split at h
  ·rename_i u c
   split at h
   ·rename_i y r
    obtain ⟨e,_⟩:=rH r;unfold bV;rw [q];simp only [c,e];split at h
    ·cases h
    ·rename_i d
     simp only [Option.some.injEq,Prod.mk.injEq]at h;obtain ⟨rfl,rfl⟩:=h
     have:∃ m,jS y=m+1:=by
      cases y with
      | none=>exact ⟨0,rfl⟩
      | some n=>cases n with
        | zero=>exact absurd rfl d
        | succ m=>exact ⟨m,rfl⟩
     obtain ⟨m,l⟩:=this;rw [l]
   ·cases h
  ·cases h
 ·cases h
def ptK (x:Option Nat) (cs:List AV) (off:Nat):Option AV:=match x with
 | none=>cs[off]?
 | some n=>bif Nat.ble (off+n) cs.length then some (.agg (bJ cs off n)) else none
theorem AL {t:TypeId} {x:Option Nat} {cs:List AV} {off:Nat} (h:tyK P t=some x):oR P t cs off=ptK x cs off:=by
 obtain ⟨c,d⟩:=rH h;simp only [oR,c,d];cases x<;>rfl
variable {t:TypeId} {x y:Operand} {k:IntKind} {a b:Int}
theorem MP {a b:Int}:(a==b)=decide (a=b):=by rw [Bool.eq_iff_iff];simp
theorem aIs:abin P .add t x y (.int k a) (.int k b)=some (.int k (k.wrap (a+b))):=by simp [abin,nZ,jY]
theorem aIt:abin P .sub t x y (.int k a) (.int k b)=some (.int k (k.wrap (a-b))):=by simp [abin,nZ,jY]
theorem aIu:abin P .eql t x y (.int k a) (.int k b)=some (.bool (decide (a=b))):=by simp [abin,nZ,kY,fD,MP]
theorem aIv:abin P .neq t x y (.int k a) (.int k b)=some (.bool (!decide (a=b))):=by simp [abin,nZ,kY,fD,MP]
theorem aIw:abin P .lss t x y (.int k a) (.int k b)=some (.bool (decide (a<b))):=by simp [abin,nZ,kY]
theorem aIx:abin P .leq t x y (.int k a) (.int k b)=some (.bool (decide (a<=b))):=by simp [abin,nZ,kY]
theorem aIy:abin P .gtr t x y (.int k a) (.int k b)=some (.bool (decide (b<a))):=by simp [abin,nZ,kY]
theorem aIz:abin P .geq t x y (.int k a) (.int k b)=some (.bool (decide (b<=a))):=by simp [abin,nZ,kY]
theorem aOb:aun .neg (.int k a)=some (.int k (k.wrap (0-a))):=by simp [aun,jY]
theorem QR {a b:List Nat}:fP Nat.beq a b=decide (a=b):=by
 induction a generalizing b with
 | nil=>cases b<;>simp [fP]
 | cons x a c=>
   cases b with
   | nil=>simp [fP]
   | cons y b=>
     simp only [fP,c]
     cases h:Nat.beq x y with
     | true=>have:=Nat.eq_of_beq_eq_true h;simp [this]
     | false=>have:=Nat.ne_of_beq_eq_false h;simp [this]
theorem yM {a b:List Nat}:abin P .eql t x y (.str a) (.str b)=some (.bool (decide (a=b))):=by simp [abin,GQ,QR]
theorem yN {a b:List Nat}:abin P .neq t x y (.str a) (.str b)=some (.bool (!decide (a=b))):=by simp [abin,GQ,QR]
theorem lE {v:AV} (h:v.isCell=true):v.cells=[v]:=by cases v<;>first | rfl | cases h
end
section
variable {P:Program}
def Ok (P:Program) (f:FuncId) (g:List AV->Option AV):Prop:=∀ args v,g args=some v->Returns P f args v
def ent (f:FuncId) (g:List AV->Option AV):kG:=(f,fun args _=>(g args).map fun v=>.ret v none)
theorem Ok.ent {f:FuncId} {g:List AV->Option AV} (h:Ok P f g):bM P (ent f g):=by
 intro args s res c;simp only [Go.Abs.ent]at c
 cases d:g args with
 | none=>rw [d]at c;cases c
 | some v=>
   rw [d]at c;simp only [Option.map_some,Option.some.injEq]at c;subst c;exact h args v d s
theorem yO {f:FuncId} {g:List AV->Option AV} {L:List kG} {args:List AV} {s:Sto}:orcL (ent f g::L) f args s=(g args).map fun v=>.ret v none:=uW
theorem aRi {f h:FuncId} {g:List AV->Option AV} {L:List kG} {args:List AV} {s:Sto} (c:h≠f):orcL (ent h g::L) f args s=orcL L f args s:=YX c
theorem gN {fn:Func} {f:FuncId} {args:List AV} {s:Sto} {N:Nat} (d:fn.ntmps=N) (c:Nat.ble args.length N=true):FP fn f args s=⟨N,none,f,Tr.leaf.lay 0 args,[],⟨s.n,s.n,s.o⟩,.no⟩:=by
 have:Nat.max args.length fn.ntmps=N:=by
  rw [d];have:=Nat.le_of_ble_eq_true c;exact Nat.max_eq_right this
 simp only [FP,this]
theorem MQ {L:List kG} (m:∀ x∈L,bM P x) {f:FuncId} {fn:Func} {c:Code} {N:Nat} {l:List ResultVar} {args:List AV} {v:AV} (d:okFn P f=true) (u:P.funcs[f]?=some fn) (w:fn.ntmps=N) (e:fn.results=l.toArray) (q:fn.body=some c)
 (o:Nat.ble args.length N=true) (A:∀ x∈args,nE 0 x) (B:nE 0 v)
 (h:W P (orcL L) c ⟨N,none,f,Tr.leaf.lay 0 args,[],⟨0,0,.leaf⟩,.no⟩ (jR P l (fun _ r=>r=v) fun _ _=>False)):Returns P f args v:=by
 refine dV A (sound_end (O:=orcL L) (mT m) d u q (C:=fun _ r=>r=v) (D:=fun _ _=>False) (fun S r e=>⟨v,none,rfl,by rw [e];exact BT (Nat.zero_le _) B⟩) (fun _ _ h=>h.elim) ?_);rw [gN w o,e];exact h
theorem HD {L:List kG} (m:∀ x∈L,bM P x) {f:FuncId} {fn:Func} {c:Code} {N:Nat} {l:List ResultVar} {args:List AV} {v:AV} (d:okFn P f=true) (u:P.funcs[f]?=some fn) (w:fn.ntmps=N) (e:fn.results=l.toArray) (q:fn.body=some c)
 (o:Nat.ble args.length N=true) (A:∀ x∈args,nE 0 x)
 (h:W P (orcL L) c ⟨N,none,f,Tr.leaf.lay 0 args,[],⟨0,0,.leaf⟩,.no⟩ (jR P l (fun S r=>Frz S 0 r v) fun _ _=>False)):Returns P f args v:=by
 refine dV A (sound_end (O:=orcL L) (mT m) d u q (C:=fun S r=>Frz S 0 r v) (D:=fun _ _=>False) (fun S r e=>⟨v,none,rfl,kV (Nat.zero_le _) e⟩) (fun _ _ h=>h.elim) ?_);rw [gN w o,e];exact h
end
end
end Go.Abs
