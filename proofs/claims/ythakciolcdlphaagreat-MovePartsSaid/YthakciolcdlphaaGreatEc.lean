/-
  The abstract machine: a function's contract out of a walk of its body; what is left behind may be frozen.
-/
import Derived.Test.YthakciolcdlphaaGreatEa
import Derived.IntWalk
set_option linter.unusedVariables false
set_option linter.unusedSimpArgs false
namespace Go.Abs
noncomputable section
def pE (s S:Sto) (v v':AV) (so:Option Sto):Prop:=
 ∀ (σ τ:Sg) (w w':World),Rel σ s w->Stp σ {s with low:=s.n} w τ S w'->∃ ρ,CStp σ s w ρ so w'/\∀ V,VR τ v V->VR ρ v' V
def Und (n:Nat) (v:AV):Prop:=∀ (σ:Sg) V,VR σ v V->VR (σ.cut n) v V
theorem aGk {n:Nat}:Und n .top:=fun _ V _=>.top V
theorem aJ {n:Nat} {b:Bool}:Und n (.bool b):=fun _ _ h=>by cases h;exact .bool b
theorem aT {n:Nat} {k:IntKind} {x:Int}:Und n (.int k x):=fun _ _ h=>by cases h;exact .int k x
theorem mO {n:Nat} {l:List Nat}:Und n (.str l):=fun _ _ h=>by cases h;rename_i hs;exact .str _ _ hs
theorem fA {n:Nat}:Und n .nils:=fun _ _ h=>by cases h;exact .nils
theorem JW {n:Nat}:Und n .nilp:=fun _ _ h=>by cases h;exact .nilp
theorem aAy {n:Nat}:Und n .nilm:=fun _ _ h=>by cases h;exact .nilm
theorem aAz {n:Nat}:Und n .nilf:=fun _ _ h=>by cases h;exact .nilf
theorem UZ {n:Nat} {t:TypeId} {v:AV} (h:Und n v):Und n (.iface t v):=fun σ _ hv=>by
 cases hv with | iface _ _ V h1=>exact .iface _ _ _ (h σ V h1)
theorem RN {n:Nat} {l:List AV} (h:∀ x∈l,Und n x):Und n (.agg l):=fun σ _ hv=>by
 cases hv with | agg _ ys hl h1=>exact .agg _ _ hl fun i x X e1 e2=>h x (List.mem_of_getElem? e1) σ X (h1 i x X e1 e2)
theorem lH {n:Nat} {l:List AV} (h:∀ x∈l,Und n x):Und n (.tuple l):=fun σ _ hv=>by
 cases hv with | tuple _ ys hl h1=>exact .tuple _ _ hl fun i x X e1 e2=>h x (List.mem_of_getElem? e1) σ X (h1 i x X e1 e2)
theorem aBa {n:Nat} {l:List AV} {c:Bool} (h:∀ x∈l,∀ y∈x.cells,Und n y):Und n (.fz l c):=fun σ _ hv=>by
 cases hv with | fz _ _ a C b off k h1 h2 h3 h4 h5 h6=>
  exact .fz _ _ _ _ _ _ _ h1 h2 h3 h4 (fun i j x y V e1 e2 e3=>h x (List.mem_of_getElem? e1) y (List.mem_of_getElem? e2) σ V (h5 i j x y V e1 e2 e3)) h6
theorem aKc {n:Nat} {v:AV} (h:∀ y∈v.cells,Und n y):Und n (.pf v):=fun σ _ hv=>by
 cases hv with | pf _ b off h1 h2=>exact .pf _ _ _ (fun i c V e1 e2=>h c (List.mem_of_getElem? e1) σ V (h1 i c V e1 e2)) h2
theorem aF {n:Nat}:∀ x∈([]:List AV),Und n x:=fun _ h=>nomatch h
theorem aC {n:Nat} {a:AV} {l:List AV} (h:Und n a) (h':∀ x∈l,Und n x):∀ x∈a::l,Und n x:=fun x hx=>by
 rcases List.mem_cons.1 hx with rfl | hx
 ·exact h
 ·exact h' x hx
theorem Und.cells {n:Nat} {v:AV} (h:∀ y∈v.cells,Und n y) (ht:∀ l,v≠.tuple l):Und n v:=by
 cases v with
 | agg l=>exact RN h
 | _=>exact h _ (List.mem_singleton.2 rfl)
theorem JX {σ τ:Sg} {s S:Sto} {w w':World} (h:Rel σ s w) (hs:Stp σ {s with low:=s.n} w τ S w') (hlow:s.n<=S.low):(τ.cut s.n).s=σ.s/\Quiet w w'/\σ.le (τ.cut s.n)/\
 (∀ b off V,τ.m b off=some V->σ.m b off=some V∨(w.heap.size<=b/\w'.cell? ⟨b,off,none⟩=some V))/\(∀ id x b base sz,s.n<=id->S.get id=some x->τ id (cN x)=some (b,base,sz)->w.heap.size<=b):=by
 have hcut:(τ.cut s.n).s=σ.s:=by
  funext id g
  simp only [Sg.cut]
  split
  ·rename_i hid
   exact (hs.keep id hid (by omega)).2.1 g
  ·rename_i hid
   cases hg:σ id g with
   | none=>rfl
   | some y=>exact absurd (h.bnd id g y hg) hid
 refine ⟨hcut,⟨hs.size,fun b hb=>?_,hs.os,hs.out,hs.tape⟩,⟨fun id g x hx=>by rw [hcut];exact hx,hs.ext.m⟩,fun b off V hV=>?_,fun id x b base sz hid hx hb=>?_⟩
 ·by_cases hh:Has σ s b
  ·obtain ⟨id,x,base,sz,h1,h2⟩:=hh
   have hid:=Sto.get_lt h1
   exact (hs.keep id hid (by omega)).2.2 x b base sz h1 h2
  ·exact hs.frame b hb hh
 ·have hmu:=hs.rel.mu b off V hV
  rcases hs.mnew b off V hV with h1 | ⟨id,x,base,sz,h1,h2⟩ | h1
  ·exact .inl h1
  ·exfalso
   have hid:id<s.n:=Sto.get_lt h1
   obtain ⟨k1,k2,_⟩:=hs.keep id hid (by omega)
   exact hmu.2 ⟨id,x,base,sz,by rw [k1];exact h1,by rw [k2];exact h2⟩
  ·exact .inr ⟨h1,hmu.1⟩
 ·rcases hs.own b ⟨id,x,base,sz,hx,hb⟩ with ⟨id',x',base',sz',h1,h2⟩ | h1
  ·exfalso
   have hid':id'<s.n:=Sto.get_lt h1
   obtain ⟨k1,k2,_⟩:=hs.keep id' hid' (by omega)
   have:=hs.rel.inj id x id' x' b base sz base' sz' hx (by rw [k1];exact h1) hb (by rw [k2];exact h2)
   omega
  ·exact h1
theorem yI {s S:Sto} {v:AV} (hlow:s.n<=S.low) (hu:Und s.n v):pE s S v v none:=by
 intro σ τ w w' h hs
 obtain ⟨h1,h2,h3,h4,_⟩:=JX h hs hlow
 exact ⟨τ.cut s.n,⟨h2,h3,h1,h4⟩,fun V hV=>hu τ V hV⟩
theorem JY {s S:Sto} {v:AV}:pE s S v v (some {S with low:=Nat.min s.low S.low}):=by
 intro σ τ w w' h hs
 refine ⟨τ,?_,fun V hV=>hV⟩
 exact ⟨hs.rel.low rfl rfl,hs.ext,hs.size,hs.frame,hs.own,hs.sn,Nat.min_le_left _ _,fun id h1 h2=>hs.keep id h1 (Nat.lt_of_lt_of_le h2 (Nat.min_le_right _ _)),hs.os,hs.out,hs.tape,hs.hole,hs.mnew⟩
inductive Frz (S:Sto) (n:Nat):AV->AV->Prop
 | und (v:AV):Und n v->Frz S n v v
 | agg (l l':List AV):l.length=l'.length->(∀ (i:Nat) x y,l[i]?=some x->l'[i]?=some y->Frz S n x y)->Frz S n (.agg l) (.agg l')
 | tuple (l l':List AV):l.length=l'.length->(∀ (i:Nat) x y,l[i]?=some x->l'[i]?=some y->Frz S n x y)->Frz S n (.tuple l) (.tuple l')
 | sl (id g off len:Nat) (cap:ACap) (m k:Nat) (c:Tr AV) (l:List AV) (a:Nat->Nat->AV):n<=id->S.get id=some (.cells g m c)->l.length=len->off+len*k<=m->(∀ x∈l,x.cells.length=k)->
  (∀ (i j:Nat) x y,l[i]?=some x->x.cells[j]?=some y->c.get (off+i*k+j)=some (a i j))->(∀ (i j:Nat) x y,l[i]?=some x->x.cells[j]?=some y->Frz S n (a i j) y)->Frz S n (.sl id g off len cap) (.fz l false)
 | ptr (id g off m:Nat) (c:Tr AV) (v:AV) (a:Nat->AV):n<=id->S.get id=some (.cells g m c)->off+v.cells.length<=m->(∀ (j:Nat) y,v.cells[j]?=some y->c.get (off+j)=some (a j))->(∀ (j:Nat) y,v.cells[j]?=some y->Frz S n (a j) y)->Frz S n (.ptr id g off) (.pf v)
 | func (f:FuncId) (a a' c c':List AV):a.length=a'.length->c.length=c'.length->(∀ (i:Nat) x y,a[i]?=some x->a'[i]?=some y->Frz S n x y)->(∀ (i:Nat) x y,c[i]?=some x->c'[i]?=some y->Frz S n x y)->Frz S n (.func (.func f) a c) (.func (.func f) a' c')
theorem jH {s S:Sto} {v v':AV} (hlow:s.n<=S.low) (hf:Frz S s.n v v'):pE s S v v' none:=by
 intro σ τ w w' h hs
 obtain ⟨h1,h2,h3,h4,h5⟩:=JX h hs hlow
 let M:Nat->Nat->Option Value:=fun b off=>match τ.m b off with
  | some V=>some V
  | none=>if w.heap.size<=b then w'.cell? ⟨b,off,none⟩ else none
 have hM:∀ b off V,τ.m b off=some V->M b off=some V:=fun b off V hV=>by simp [M,hV]
 have hMn:∀ b off,w.heap.size<=b->M b off=w'.cell? ⟨b,off,none⟩:=fun b off hb=>by
  simp only [M]
  cases hc:τ.m b off with
  | some V=>simp only;exact (hs.rel.mu b off V hc).1.symm
  | none=>simp [hb]
 let ρ:Sg:=⟨M,(τ.cut s.n).s⟩
 have hle:(τ.cut s.n).le ρ:=⟨fun _ _ _ h=>h,hM⟩
 refine ⟨ρ,⟨h2,Sg.le_trans h3 hle,h1,fun b off V hV=>?_⟩,?_⟩
 ·have hV':M b off=some V:=hV
  simp only [M]at hV'
  split at hV'
  ·rename_i W hW
   cases hV'
   exact h4 b off _ hW
  ·split at hV'
   ·rename_i hb;exact .inr ⟨hb,hV'⟩
   ·cases hV'
 ·induction hf with
  | und v hu=>exact fun V hV=>(hu τ V hV).mono hle
  | agg l l' hl _ ih=>
    intro V hV
    cases hV with
    | agg _ ys e1 e2=>
      refine .agg _ _ (by rw [<-hl];exact e1) fun i y Y g1 g2=>?_
      have hi:i<l.length:=by rw [hl];exact (List.getElem?_eq_some_iff.1 g1).1
      exact ih i l[i] y (List.getElem?_eq_getElem hi) g1 Y (e2 i _ Y (List.getElem?_eq_getElem hi) g2)
  | tuple l l' hl _ ih=>
    intro V hV
    cases hV with
    | tuple _ ys e1 e2=>
      refine .tuple _ _ (by rw [<-hl];exact e1) fun i y Y g1 g2=>?_
      have hi:i<l.length:=by rw [hl];exact (List.getElem?_eq_some_iff.1 g1).1
      exact ih i l[i] y (List.getElem?_eq_getElem hi) g1 Y (e2 i _ Y (List.getElem?_eq_getElem hi) g2)
  | func f a a' c c' hla hlc _ _ iha ihc=>
    intro V hV
    cases hV with
    | func _ F _ _ A C hF e1 e2 e3 e4=>
      refine .func _ _ _ _ _ _ (by cases hF;exact .func f) (by rw [<-hla];exact e1) (by rw [<-hlc];exact e2) (fun i y Y g1 g2=>?_) (fun i y Y g1 g2=>?_)
      ·have hi:i<a.length:=by rw [hla];exact (List.getElem?_eq_some_iff.1 g1).1
       exact iha i a[i] y (List.getElem?_eq_getElem hi) g1 Y (e3 i _ Y (List.getElem?_eq_getElem hi) g2)
      ·have hi:i<c.length:=by rw [hlc];exact (List.getElem?_eq_some_iff.1 g1).1
       exact ihc i c[i] y (List.getElem?_eq_getElem hi) g1 Y (e4 i _ Y (List.getElem?_eq_getElem hi) g2)
  | sl id g off len cap m k c l a hid hg hl hm hk ha _ ih=>
    intro V hV
    cases hV with
    | sl _ _ _ _ _ b base sz C hsg hlen hcap=>
      obtain ⟨b',base',sz',o,g1,g2,g3⟩:=hs.rel.obj id _ hg
      have g1':τ id g=some (b',base',sz'):=g1
      rw [hsg]at g1'
      obtain ⟨rfl,rfl,rfl⟩:b=b'/\base=base'/\sz=sz':=by simpa using g1'
      have hb:=h5 id _ b base sz hid hg g1
      cases g3 with
      | cells _ _ _ arr el fr q1 q2 q3 q4=>
        have hcell:∀ j,j<m->w'.cell? ⟨b,base+j,none⟩=arr[base+j]?:=fun j hj=>by simp [World.cell?,g2]
        have hin:∀ i j,i<l.length->j<k->off+i*k+j<m:=by
         intro i j hi hj
         have:i*k+k<=len*k:=by
          rw [<-Nat.succ_mul];exact Nat.mul_le_mul_right k (by omega)
         omega
        subst hl
        refine .fz l false ⟨b,base+off,none⟩ C b (base+off) k (fun _=>rfl) hlen (fun hc=>by cases hc) hk (fun i j x y W e1 e2 e3=>?_) (fun i j hi hj=>?_)
        ·have hi:=(List.getElem?_eq_some_iff.1 e1).1
         have hj:j<k:=by rw [<-hk x (List.mem_of_getElem? e1)];exact (List.getElem?_eq_some_iff.1 e2).1
         obtain ⟨W',e4,e5⟩:=q3 _ (a i j) (hin i j hi hj) (ha i j x y e1 e2)
         have e6:M b (base+off+i*k+j)=some W:=e3
         rw [hMn _ _ hb,show base+off+i*k+j=base+(off+i*k+j) by omega,hcell _ (hin i j hi hj),e4]at e6
         cases e6
         exact ih i j x y e1 e2 W e5
        ·show (M b (base+off+i*k+j)).isSome=true
         rw [hMn _ _ hb,show base+off+i*k+j=base+(off+i*k+j) by omega,hcell _ (hin i j hi hj)]
         have:=hin i j hi hj
         rw [Array.getElem?_eq_getElem (show base+(off+i*k+j)<arr.size by omega)];rfl
  | ptr id g off m c v a hid hg hm ha _ ih=>
    intro V hV
    cases hV with
    | ptr _ _ _ b base sz hsg=>
      obtain ⟨b',base',sz',o,g1,g2,g3⟩:=hs.rel.obj id _ hg
      have g1':τ id g=some (b',base',sz'):=g1
      rw [hsg]at g1'
      obtain ⟨rfl,rfl,rfl⟩:b=b'/\base=base'/\sz=sz':=by simpa using g1'
      have hb:=h5 id _ b base sz hid hg g1
      cases g3 with
      | cells _ _ _ arr el fr q1 q2 q3 q4=>
        have hcell:∀ j,j<m->w'.cell? ⟨b,base+j,none⟩=arr[base+j]?:=fun j hj=>by simp [World.cell?,g2]
        refine .pf v b (base+off) (fun j y W e2 e3=>?_) (fun j hj=>?_)
        ·have hj:=(List.getElem?_eq_some_iff.1 e2).1
         obtain ⟨W',e4,e5⟩:=q3 _ (a j) (by omega) (ha j y e2)
         have e6:M b (base+off+j)=some W:=e3
         rw [hMn _ _ hb,show base+off+j=base+(off+j) by omega,hcell _ (by omega),e4]at e6
         cases e6
         exact ih j y e2 W e5
        ·show (M b (base+off+j)).isSome=true
         rw [hMn _ _ hb,show base+off+j=base+(off+j) by omega,hcell _ (by omega)]
         rw [Array.getElem?_eq_getElem (show base+(off+j)<arr.size by omega)];rfl
section
variable {P:Program}
def sX (o:Option (List AV)) (C:Sto->AV->Prop) (s:Sto):Prop:=∃ vs,o=some vs/\C s (iA vs)
theorem JZ {l:List AV} {C:Sto->AV->Prop} {s:Sto}:sX (some l) C s↔C s (iA l):=by simp [sX]
def gQ (P:Program) (rs:List ResultVar) (C D:Sto->AV->Prop):Ex->Env->Prop
 | .normal,e=>e.ds=[]/\e.r=.no/\sX (aP P e rs) C e.s
 | .ret,e=>e.ds=[]/\e.r=.no/\sX (aP P e rs) C e.s
 | .panic v,e=>e.ds=[]/\e.r=.no/\D e.s v
 | _,_=>False
def BM (fn:Func) (f:FuncId) (args:List AV) (s:Sto):Env:=⟨Nat.max args.length fn.ntmps,none,f,Tr.leaf.lay 0 args,[],{s with low:=s.n},.no⟩
theorem sound_end {O:bN} (hO:pH P O) {f:FuncId} {fn:Func} {c:Code} {args:List AV} {s:Sto} {res:CRes} {C D:Sto->AV->Prop} (hok:okFn P f=true) (hf:P.funcs[f]?=some fn) (hb:fn.body=some c)
 (hC:∀ S v,C S v->∃ v' so,res=.ret v' so/\pE s S v v' so) (hD:∀ S v,D S v->∃ v' so,res=.pan v' so/\pE s S v v' so)
 (h:W P O c (BM fn f args s) (gQ P fn.results.toList C D)):bH P f args s res:=by
 obtain ⟨n,ex,e,hc,hQ⟩:=h
 refine ⟨hok,fn,hf,fun σ w A kd stk m hrel ha hstk hrm=>?_⟩
 have hrel':Rel σ {s with low:=s.n} w:=hrel.low rfl rfl
 have he:ER σ {(default:Frame) with fn:=f,kind:=kd} (BM fn f args s) {tmps:=A++Array.replicate (fn.ntmps-A.size) undef,defers:=[]} m:=
  ⟨BV ha _,.nil,hrm,rfl,rfl⟩
 have henter:Frame.enter P f A kd=({(default:Frame) with fn:=f,kind:=kd}:Frame).atR {tmps:=A++Array.replicate (fn.ntmps-A.size) undef,defers:=[]} [.code c]:=by
  simp [Frame.enter,Frame.atR,hf,hb]
  rfl
 rw [henter]
 obtain ⟨τ,a',m',w',h1,h2,h3⟩:=gE (lW hO n).1 (sK n) n c σ w _ stk [] _ _ m _ _ hstk hc hrel' he
 have hret:e.ds=[]/\e.r=.no/\(∃ vs,aP P e fn.results.toList=some vs/\C e.s (iA vs))->(∃ todo,Steps P (lone (({(default:Frame) with fn:=f,kind:=kd}:Frame).atR {tmps:=A++Array.replicate (fn.ntmps-A.size) undef,defers:=[]} [.code c]) (stk m) w) (lone {({(default:Frame) with fn:=f,kind:=kd}:Frame).atR a' todo with mode:=.returning} (stk m') w'))->
  aKo P σ s w kd f fn stk (lone (({(default:Frame) with fn:=f,kind:=kd}:Frame).atR {tmps:=A++Array.replicate (fn.ntmps-A.size) undef,defers:=[]} [.code c]) (stk m) w) res:=by
  rintro ⟨q1,q2,vs,q3,q4⟩ ⟨todo,hst⟩
  obtain ⟨v',so,rfl,hcl⟩:=hC _ _ q4
  obtain ⟨V,r1,r2⟩:=tX h2.rel h1.tm q3
  obtain ⟨ρ,c1,c2⟩:=hcl σ τ w w' hrel h2
  have hdf:=h1.df
  rw [q1]at hdf
  have hrc:RM ρ kd .no m':=by
   have:=h1.rc
   rw [q2]at this
   cases this with
   | normal m=>exact .normal _
   | quiet=>exact .quiet
  refine ⟨ρ,V,w',_,m',c2 V r2,c1,hrc,hst,rfl,?_,rfl,rfl,r1⟩
  show a'.defers=[]
  generalize a'.defers=ad at hdf
  cases hdf;rfl
 cases ex with
 | normal=>exact hret hQ ⟨[],Steps.trans h3 (.one (stepR_end rfl))⟩
 | ret=>obtain ⟨k₁,h3⟩:=h3;exact hret hQ ⟨_,Steps.trans h3 (.one (stepR_ret rfl))⟩
 | panic v=>
   obtain ⟨q1,q2,q4⟩:=hQ
   obtain ⟨V,todo,hV,h3⟩:=h3
   obtain ⟨v',so,rfl,hcl⟩:=hD _ _ q4
   obtain ⟨ρ,c1,c2⟩:=hcl σ τ w w' hrel h2
   have hdf:=h1.df
   rw [q1]at hdf
   have hrc:RM ρ kd .no m':=by
    have:=h1.rc
    rw [q2]at this
    cases this with
    | normal m=>exact .normal _
    | quiet=>exact .quiet
   refine ⟨ρ,V,w',_,m',c2 V hV,c1,hrc,h3,rfl,?_,rfl,rfl⟩
   show a'.defers=[]
   generalize a'.defers=ad at hdf
   cases hdf;rfl
 | _=>exact hQ.elim
theorem OI {O:bN} (hO:pH P O) {f:FuncId} {fn:Func} {c:Code} {args:List AV} {s:Sto} {v:AV} (hok:okFn P f=true) (hf:P.funcs[f]?=some fn) (hb:fn.body=some c) (hu:Und s.n v)
 (h:W P O c (BM fn f args s) (gQ P fn.results.toList (fun S r=>s.n<=S.low/\r=v) fun _ _=>False)):bH P f args s (.ret v none):=
 sound_end hO hok hf hb (fun S r hr=>⟨v,none,rfl,by rw [hr.2];exact yI hr.1 hu⟩) (fun _ _ h=>h.elim) h
theorem dC {f:FuncId} {args:List AV} {v:AV} (hu:∀ x∈args,Und 0 x) (h:bH P f args .empty (.ret v none)):Returns P f args v:=fun s=>
 sound_empty (fun σ A ha=>⟨ha.1,fun i x X h1 h2=>hu x (List.mem_of_getElem? h1) σ X (ha.2 i x X h1 h2)⟩) h ⟨_,.inl rfl⟩ s
theorem aBb {rs:List ResultVar} {C D:Sto->AV->Prop} {nt:Nat} {ro:Option Nat} {fn:FuncId} {t:Tr AV} {s:Sto}:gQ P rs C D .ret ⟨nt,ro,fn,t,[],s,.no⟩↔sX (aP P ⟨nt,ro,fn,t,[],s,.no⟩ rs) C s:=by simp [gQ]
theorem KA {rs:List ResultVar} {C D:Sto->AV->Prop} {nt:Nat} {ro:Option Nat} {fn:FuncId} {t:Tr AV} {s:Sto}:gQ P rs C D .normal ⟨nt,ro,fn,t,[],s,.no⟩↔sX (aP P ⟨nt,ro,fn,t,[],s,.no⟩ rs) C s:=by simp [gQ]
theorem OJ {rs:List ResultVar} {C D:Sto->AV->Prop} {nt:Nat} {ro:Option Nat} {fn:FuncId} {t:Tr AV} {s:Sto} {v:AV}:gQ P rs C D (.panic v) ⟨nt,ro,fn,t,[],s,.no⟩↔D s v:=by simp [gQ]
theorem GS {e:Env} {d:Nat} {l:List ResultVar}:aP P e (.tmp d::l)=(aP P e l).map (e.t.val d::·):=by
 simp only [aP,Tr.val]
 cases h:aP P e l with
 | none=>rfl
 | some r=>simp only [Option.map_some];cases e.t.get d<;>rfl
theorem dA {e:Env} {a:Nat} {ty:TypeId} {l:List ResultVar}:aP P e (.cell a ty::l)=(eB P e.s ty (e.t.val a)).bind fun v=>(aP P e l).map (v::·):=by
 simp only [aP,Tr.val]
 cases e.t.get a with
 | none=>
   simp only [Option.getD_none]
   cases eB P e.s ty .top with
   | none=>rfl
   | some v=>cases aP P e l<;>rfl
 | some x=>
   simp only [Option.getD_some]
   cases eB P e.s ty x with
   | none=>rfl
   | some v=>cases aP P e l<;>rfl
end
end
end Go.Abs
/-
 The abstract machine: operations on values and stores,for a walk by 'simp'.
-/
namespace Go.Abs
noncomputable section
def Tr.wr {α:Type} (t:Tr α) (i:Nat) (a:Option α):Tr α:=Tr.setF (i+1) t i a
theorem Tr.setF_succ {α:Type} (f i:Nat) (t:Tr α) (a:Option α):Tr.setF (f+1) t i a=match t with
 | .leaf=>if i=0 then .node a .leaf .leaf else if i%2=1 then .node none (Tr.setF f .leaf (i/2) a) .leaf else .node none .leaf (Tr.setF f .leaf (i/2-1) a)
 | .node v l r=>if i=0 then .node a l r else if i%2=1 then .node v (Tr.setF f l (i/2) a) r else .node v l (Tr.setF f r (i/2-1) a):=by
 have h0:∀ {β:Type} (x y:β),@Bool.rec (fun _=>β) x y (Nat.beq i 0)=if i=0 then y else x:=by
  intro β x y
  cases h:Nat.beq i 0 with
  | true=>simp [Nat.eq_of_beq_eq_true h]
  | false=>simp [Nat.ne_of_beq_eq_false h]
 have h1:∀ {β:Type} (x y:β),@Bool.rec (fun _=>β) x y (Nat.beq (Nat.mod i 2) 1)=if i%2=1 then y else x:=by
  intro β x y
  show @Bool.rec (fun _=>β) x y (Nat.beq (i%2) 1)=_
  cases h:Nat.beq (i%2) 1 with
  | true=>simp [Nat.eq_of_beq_eq_true h]
  | false=>simp [Nat.ne_of_beq_eq_false h]
 cases t with
 | leaf=>exact (h0 _ _).trans (by rw [h1];rfl)
 | node v l r=>exact (h0 _ _).trans (by rw [h1];rfl)
theorem Tr.setF_setF {α:Type}:∀ (f g i:Nat) (t:Tr α) (a b:Option α),i<f->i<g->Tr.setF g (Tr.setF f t i a) i b=Tr.setF g t i b:=by
 intro f
 induction f with
 | zero=>intro g i t a b h;omega
 | succ f ih=>
   intro g i t a b hf hg
   obtain ⟨g,rfl⟩:∃ k,g=k+1:=⟨g-1,by omega⟩
   by_cases h0:i=0
   ·subst h0;cases t<;>simp [Tr.setF_succ]
   ·by_cases h1:i%2=1
    ·cases t with
     | leaf=>simp only [Tr.setF_succ,if_neg h0,if_pos h1];rw [ih g _ _ _ _ (by omega) (by omega)]
     | node v l r=>simp only [Tr.setF_succ,if_neg h0,if_pos h1];rw [ih g _ _ _ _ (by omega) (by omega)]
    ·cases t with
     | leaf=>simp only [Tr.setF_succ,if_neg h0,if_neg h1];rw [ih g _ _ _ _ (by omega) (by omega)]
     | node v l r=>simp only [Tr.setF_succ,if_neg h0,if_neg h1];rw [ih g _ _ _ _ (by omega) (by omega)]
theorem Tr.setF_comm {α:Type}:∀ (f g i j:Nat) (t:Tr α) (a b:Option α),i<f->j<g->i≠j->Tr.setF g (Tr.setF f t i a) j b=Tr.setF f (Tr.setF g t j b) i a:=by
 intro f
 induction f with
 | zero=>intro g i j t a b h;omega
 | succ f ih=>
   intro g i j t a b hf hg hij
   obtain ⟨g,rfl⟩:∃ k,g=k+1:=⟨g-1,by omega⟩
   by_cases hi0:i=0
   ·subst hi0
    have hj0:j≠0:=fun h=>hij h.symm
    by_cases hj1:j%2=1<;>cases t<;>simp [Tr.setF_succ,hj0,hj1]
   ·by_cases hj0:j=0
    ·subst hj0
     by_cases hi1:i%2=1<;>cases t<;>simp [Tr.setF_succ,hi0,hi1]
    ·by_cases hi1:i%2=1<;>by_cases hj1:j%2=1
     ·cases t<;>(simp only [Tr.setF_succ,if_neg hi0,if_pos hi1,if_neg hj0,if_pos hj1];rw [ih g _ _ _ _ _ (by omega) (by omega) (by omega)])
     ·cases t<;>simp only [Tr.setF_succ,if_neg hi0,if_pos hi1,if_neg hj0,if_neg hj1]
     ·cases t<;>simp only [Tr.setF_succ,if_neg hi0,if_neg hi1,if_neg hj0,if_pos hj1]
     ·cases t<;>(simp only [Tr.setF_succ,if_neg hi0,if_neg hi1,if_neg hj0,if_neg hj1];rw [ih g _ _ _ _ _ (by omega) (by omega) (by omega)])
theorem Tr.set_set {α:Type} (t:Tr α) (i:Nat) (a b:α):(t.set i a).set i b=t.set i b:=Tr.setF_setF _ _ _ _ _ _ (by omega) (by omega)
theorem Tr.set_comm {α:Type} (t:Tr α) {i j:Nat} (a b:α) (h:i≠j):(t.set i a).set j b=(t.set j b).set i a:=Tr.setF_comm _ _ _ _ _ _ _ (by omega) (by omega) h
theorem Tr.lay_set_lt {α:Type} (l:List α):∀ (t:Tr α) (k i:Nat) (a:α),i<k->(t.lay k l).set i a=(t.set i a).lay k l:=by
 induction l with
 | nil=>intro t k i a h;rfl
 | cons x l ih=>
   intro t k i a h
   simp only [Tr.lay]
   rw [ih _ _ _ _ (by omega),Tr.set_comm _ _ _ (by omega)]
theorem Tr.lay_set {α:Type} (l:List α):∀ (t:Tr α) (k i:Nat) (a:α),i<l.length->(t.lay k l).set (k+i) a=t.lay k (l.set i a):=by
 induction l with
 | nil=>intro t k i a h;simp at h
 | cons x l ih=>
   intro t k i a h
   cases i with
   | zero=>
     simp only [Tr.lay,List.set_cons_zero,Nat.add_zero]
     rw [Tr.lay_set_lt _ _ _ _ _ (by omega),Tr.set_set]
   | succ i=>
     simp only [Tr.lay,List.set_cons_succ]
     rw [<-ih _ _ _ _ (by simpa using h)]
     congr 1;omega
theorem Tr.lay_append {α:Type} (l m:List α):∀ (t:Tr α) (k:Nat),(t.lay k l).lay (k+l.length) m=t.lay k (l++m):=by
 induction l with
 | nil=>intro t k;rfl
 | cons x l ih=>
   intro t k
   simp only [Tr.lay,List.cons_append,List.length_cons]
   rw [<-ih]
   congr 1;omega
def dF {α:Type} (l:List α) (off:Nat) (m:List α):List α:=l.take off++m++l.drop (off+m.length)
theorem BN {α:Type} (l:List α) (off:Nat):dF l off []=l:=by simp [dF]
theorem nG {α:Type} (l m:List α) (off:Nat) (h:off+m.length<=l.length):(dF l off m).length=l.length:=by
 simp [dF];omega
theorem yJ {α:Type} (l m:List α) (off:Nat) (a:α) (h:off+(a::m).length<=l.length):dF l off (a::m)=dF (l.set off a) (off+1) m:=by
 simp only [List.length_cons]at h
 apply List.ext_getElem?
 intro i
 simp only [dF,List.length_cons]
 simp only [List.getElem?_append,List.length_take,List.length_append,List.length_cons,List.getElem?_take,List.getElem?_drop,List.length_set,List.getElem?_set]
 have h1:min off l.length=off:=by omega
 have h2:min (off+1) l.length=off+1:=by omega
 rw [h1,h2]
 by_cases c1:i<off
 ·have:off≠i:=by omega
  simp [c1,show i<off+1 by omega,show i<off+(m.length+1) by omega,show i<off+1+m.length by omega,this]
 ·by_cases c2:i=off
  ·subst c2
   simp [show i<l.length by omega,show i<i+1+m.length by omega]
  ·by_cases c3:i<off+(m.length+1)
   ·obtain ⟨d,rfl⟩:∃ d,i=off+1+d:=⟨i-off-1,by omega⟩
    rw [if_neg c1,if_pos c3,if_neg (show ¬ off+1+d<off+1 by omega),if_pos (show off+1+d<off+1+m.length by omega)]
    simp [show off+1+d-off=d+1 by omega]
   ·have e1:off+(m.length+1)+(i-(off+(m.length+1)))=i:=by omega
    have e2:off+1+m.length+(i-(off+1+m.length))=i:=by omega
    simp [c3,show ¬ i<off+1+m.length by omega,e1,e2,show off≠i by omega]
theorem Tr.lay_lay {α:Type} (m:List α):∀ (l:List α) (off:Nat),off+m.length<=l.length->((Tr.leaf.lay 0 l).lay off m)=Tr.leaf.lay 0 (dF l off m):=by
 induction m with
 | nil=>intro l off _;rw [BN];rfl
 | cons a m ih=>
   intro l off h
   simp only [Tr.lay]
   have h':off+m.length+1<=l.length:=by simpa [Nat.add_assoc] using h
   have:=Tr.lay_set l .leaf 0 off a (by omega)
   rw [Nat.zero_add]at this
   rw [this,ih _ _ (by simp;omega),yJ _ _ _ _ h]
theorem Tr.get_row {α:Type} (l:List α) (i:Nat):(Tr.leaf.lay 0 l).get i=l[i]?:=by
 rw [Tr.get_lay]
 by_cases h:i<l.length
 ·simp [h]
 ·rw [if_neg (by omega),List.getElem?_eq_none (by omega)];rfl
theorem Tr.val_lay (l:List AV) (i:Nat):(Tr.leaf.lay 0 l).val i=l[i]?.getD .top:=by rw [Tr.val,Tr.get_row]
theorem Tr.row_lay {α:Type} (l:List α):∀ (k off:Nat),off+k<=l.length->(Tr.leaf.lay 0 l).row off k=some (aZ l off k):=by
 intro k
 induction k with
 | zero=>intro off _;simp [Tr.row,aZ]
 | succ k ih=>
   intro off h
   simp only [Tr.row,Tr.get_row]
   rw [List.getElem?_eq_getElem (show off<l.length by omega),ih (off+1) (by omega)]
   simp only [aZ]
   rw [<-List.getElem_cons_drop (show off<l.length by omega),List.take_succ_cons]
def aU (g:Nat) (cs:List AV):AObj:=.cells g cs.length (Tr.leaf.lay 0 cs)
theorem Sto.push_mk {n low:Nat} {o:Tr AObj} {x:AObj}:(Sto.mk n low o).push x=⟨n+1,low,o.set n x⟩:=rfl
theorem Sto.get_mk {n low:Nat} {o:Tr AObj} {i:Nat} (h:i<n):(Sto.mk n low o).get i=o.get i:=by rw [Sto.get_eq];exact if_pos h
theorem Sto.put_mk0 {n:Nat} {o:Tr AObj} {i:Nat} {x:AObj}:(Sto.mk n 0 o).put i x=⟨n,0,o.set i x⟩:=by
 simp only [Sto.put]
 have:Nat.blt i 0=false:=by cases h:Nat.blt i 0<;>simp_all
 rw [this];rfl
theorem Tr.get_set_same {α:Type} (t:Tr α) (i:Nat) (a:α):(t.set i a).get i=some a:=by simp [Tr.get_set]
theorem Tr.get_set_ne {α:Type} (t:Tr α) {i j:Nat} (a:α) (h:j≠i):(t.set i a).get j=t.get j:=by simp [Tr.get_set,h]
section
variable {P:Program}
def tyK (P:Program) (t:TypeId):Option (Option Nat):=match yW P t,qE P t with
 | some true,some n=>some (some n)
 | some false,some 1=>some none
 | _,_=>none
def aY (P:Program) (t:TypeId) (f:Nat):Option (Nat × Option Nat):=match P.underlying t with
 | some (.struct fields)=>match fields[f]? with
   | some fd=>match tyK P fd.type with
     | some x=>(match x with | some 0=>none | _=>some (fd.offset,x))
     | none=>none
   | none=>none
 | _=>none
def qC (P:Program) (t:TypeId):Option Nat:=match P.underlying t with
 | some (.slice e)=>qE P e
 | _=>none
def LU (P:Program) (t:TypeId):Option (Nat × Option Nat):=match P.underlying t with
 | some (.array n e)=>(tyK P e).map fun x=>(n,x)
 | _=>none
def apK (P:Program) (t:TypeId):Option (Nat × Nat):=match P.underlying t with
 | some (.slice e)=>match qE P e,mA P e,aX P e with
   | some k,some b,some z=>bif Nat.beq z.cells.length k then some (k,b) else none
   | _,_,_=>none
 | _=>none
def iU:Option Nat->Nat
 | none=>1
 | some n=>n
theorem pF {t:TypeId} {x:Option Nat} (h:tyK P t=some x):qE P t=some (iU x)/\yW P t=some x.isSome:=by
 unfold tyK at h
 split at h
 ·rename_i h1 h2;cases h;exact ⟨h2,h1⟩
 ·rename_i h1 h2;cases h;exact ⟨h2,h1⟩
 ·cases h
def ldK (x:Option (Option Nat)) (o:Option AObj) (g off:Nat):Option AV:=match x,o with
 | some none,some (.cells g' n c)=>bif Nat.beq g g' then (bif Nat.blt off n then c.get off else none) else none
 | some (some k),some (.cells g' n c)=>bif Nat.beq g g' then (bif Nat.ble (off+k) n then (match c.row off k with | some l=>some (.agg l) | none=>none) else none) else none
 | _,_=>none
theorem VA {s:Sto} {t:TypeId} {id g off:Nat} {x:Option Nat} (h:tyK P t=some x):eB P s t (.ptr id g off)=ldK (some x) (s.get id) g off:=by
 obtain ⟨h1,h2⟩:=pF h
 simp only [eB,h1,h2]
 cases s.get id with
 | none=>cases x<;>rfl
 | some o=>
   cases o with
   | cells g' n c=>cases x<;>rfl
   | _=>cases x<;>rfl
theorem aGm {g off:Nat} {cs:List AV}:ldK (some none) (some (aU g cs)) g off=cs[off]?:=by
 simp only [ldK,aU,Nat.beq_refl,cond_true,dL,Tr.get_row]
 split
 ·rfl
 ·rename_i h;rw [List.getElem?_eq_none (by omega)]
theorem aGn {g off k:Nat} {cs:List AV} (h:off+k<=cs.length):ldK (some (some k)) (some (aU g cs)) g off=some (.agg (aZ cs off k)):=by
 have:Nat.ble (off+k) cs.length=true:=by simpa using h
 simp only [ldK,aU,Nat.beq_refl,cond_true,this,Tr.row_lay _ _ _ h]
theorem BO {cs:List AV} {off:Nat} {a:AV} (h:off<cs.length):dF cs off [a]=cs.set off a:=by
 rw [yJ _ _ _ _ (by simp;omega),BN]
def stK (s:Sto) (x:Option (Option Nat)) (id g off:Nat) (v:AV) (o:Option AObj):Option Sto:=match x,o with
 | some x,some (.cells g' n c)=>bif Nat.beq g g'&&Nat.ble (off+iU x) n&&Nat.beq v.cells.length (iU x)&&v.cells.all AV.isCell then some (s.put id (.cells g' n (c.lay off v.cells))) else none
 | _,_=>none
theorem OK {s:Sto} {t:TypeId} {id g off:Nat} {v:AV} {x:Option Nat} (h:tyK P t=some x):kM P s t (.ptr id g off) v=stK s (some x) id g off v (s.get id):=by
 obtain ⟨h1,h2⟩:=pF h
 simp only [kM,h1]
 cases s.get id with
 | none=>rfl
 | some o=>cases o<;>rfl
theorem aGp {s:Sto} {id g off:Nat} {v:AV} {cs:List AV} (hc:v.isCell=true) (hl:off<cs.length):stK s (some none) id g off v (some (aU g cs))=some (s.put id (aU g (cs.set off v))):=by
 have hv:v.cells=[v]:=by cases v<;>first | rfl | cases hc
 have e1:Nat.ble (off+1) cs.length=true:=by simp;omega
 simp only [stK,aU,Nat.beq_refl,iU,e1,hv,List.length_cons,List.length_nil,List.all_cons,List.all_nil,hc,Bool.and_self,cond_true]
 rw [Tr.lay_lay _ _ _ (by simp;omega),BO hl,List.length_set]
theorem aGq {s:Sto} {id g off k:Nat} {vs cs:List AV} (hv:vs.length=k) (hc:vs.all AV.isCell=true) (hl:off+k<=cs.length):stK s (some (some k)) id g off (.agg vs) (some (aU g cs))=some (s.put id (aU g (dF cs off vs))):=by
 subst hv
 have e1:Nat.ble (off+vs.length) cs.length=true:=by simpa using hl
 simp only [stK,aU,Nat.beq_refl,iU,e1,AV.cells,hc,Bool.and_self,cond_true]
 rw [Tr.lay_lay _ _ _ hl,nG _ _ _ hl]
theorem OL {cs vs:List AV} (h:vs.length=cs.length):dF cs 0 vs=vs:=by simp [dF,h]
theorem BP {t:TypeId} {id g o f off:Nat} {x:Option Nat} (h:aY P t f=some (off,x)):bO P t (.ptr id g o) f=some (.ptr id g (o+off)):=by
 unfold aY at h
 split at h
 ·rename_i fields hu
  split at h
  ·rename_i fd hfd
   split at h
   ·rename_i y hy
    obtain ⟨h1,_⟩:=pF hy
    unfold bO
    rw [hu]
    simp only [hfd,h1]
    split at h
    ·cases h
    ·rename_i hne
     simp only [Option.some.injEq,Prod.mk.injEq]at h
     obtain ⟨rfl,rfl⟩:=h
     have:∃ m,iU y=m+1:=by
      cases y with
      | none=>exact ⟨0,rfl⟩
      | some n=>cases n with
        | zero=>exact absurd rfl hne
        | succ m=>exact ⟨m,rfl⟩
     obtain ⟨m,hm⟩:=this
     rw [hm]
   ·cases h
  ·cases h
 ·cases h
def ptK (x:Option Nat) (cs:List AV) (off:Nat):Option AV:=match x with
 | none=>cs[off]?
 | some n=>bif Nat.ble (off+n) cs.length then some (.agg (aZ cs off n)) else none
theorem wZ {t:TypeId} {x:Option Nat} {cs:List AV} {off:Nat} (h:tyK P t=some x):mU P t cs off=ptK x cs off:=by
 obtain ⟨h1,h2⟩:=pF h
 simp only [mU,h1,h2]
 cases x<;>rfl
theorem OM {t:TypeId} {cs:List AV} {f off:Nat} {x:Option Nat} (h:aY P t f=some (off,x)):nL P t (.agg cs) f=ptK x cs off:=by
 unfold aY at h
 split at h
 ·rename_i fields hu
  split at h
  ·rename_i fd hfd
   split at h
   ·rename_i y hy
    split at h
    ·cases h
    ·simp only [Option.some.injEq,Prod.mk.injEq]at h
     obtain ⟨rfl,rfl⟩:=h
     simp only [nL,hu,hfd,wZ hy]
   ·cases h
  ·cases h
 ·cases h
variable {t:TypeId} {x y:Operand} {k:IntKind} {a b:Int}
theorem GT {a b:Int}:(a==b)=decide (a=b):=by rw [Bool.eq_iff_iff];simp
theorem aBc:cX P .add t x y (.int k a) (.int k b)=some (.int k (k.wrap (a+b))):=by simp [cX,iR,eA]
theorem aBd:cX P .sub t x y (.int k a) (.int k b)=some (.int k (k.wrap (a-b))):=by simp [cX,iR,eA]
theorem aBe:cX P .mul t x y (.int k a) (.int k b)=some (.int k (k.wrap (a*b))):=by simp [cX,iR,eA]
theorem aBf (h:b≠0):cX P .quo t x y (.int k a) (.int k b)=some (.int k (k.wrap (a.tdiv b))):=by simp [cX,iR,eA,h]
theorem aBg (h:b≠0):cX P .rem t x y (.int k a) (.int k b)=some (.int k (a.tmod b)):=by simp [cX,iR,eA,h]
theorem aBh:cX P .eql t x y (.int k a) (.int k b)=some (.bool (decide (a=b))):=by simp [cX,iR,jJ,fV,GT]
theorem aBi:cX P .neq t x y (.int k a) (.int k b)=some (.bool (!decide (a=b))):=by simp [cX,iR,jJ,fV,GT]
theorem aBj:cX P .lss t x y (.int k a) (.int k b)=some (.bool (decide (a<b))):=by simp [cX,iR,jJ]
theorem aBk:cX P .leq t x y (.int k a) (.int k b)=some (.bool (decide (a<=b))):=by simp [cX,iR,jJ]
theorem aBl:cX P .gtr t x y (.int k a) (.int k b)=some (.bool (decide (b<a))):=by simp [cX,iR,jJ]
theorem aBm:cX P .geq t x y (.int k a) (.int k b)=some (.bool (decide (b<=a))):=by simp [cX,iR,jJ]
theorem aGr:aun .neg (.int k a)=some (.int k (k.wrap (0-a))):=by simp [aun,eA]
theorem KB {a b:List Nat}:eO Nat.beq a b=decide (a=b):=by
 induction a generalizing b with
 | nil=>cases b<;>simp [eO]
 | cons x a ih=>
   cases b with
   | nil=>simp [eO]
   | cons y b=>
     simp only [eO,ih]
     cases h:Nat.beq x y with
     | true=>have:=Nat.eq_of_beq_eq_true h;simp [this]
     | false=>have:=Nat.ne_of_beq_eq_false h;simp [this]
theorem vD {a b:List Nat}:cX P .eql t x y (.str a) (.str b)=some (.bool (decide (a=b))):=by simp [cX,CL,KB]
theorem vE {a b:List Nat}:cX P .neq t x y (.str a) (.str b)=some (.bool (!decide (a=b))):=by simp [cX,CL,KB]
theorem jO {v:AV} (h:v.isCell=true):v.cells=[v]:=by cases v<;>first | rfl | cases h
end
section
variable {P:Program}
def Ok (P:Program) (f:FuncId) (g:List AV->Option AV):Prop:=∀ args v,g args=some v->Returns P f args v
def ent (f:FuncId) (g:List AV->Option AV):kL:=(f,fun args _=>(g args).map fun v=>.ret v none)
theorem Ok.ent {f:FuncId} {g:List AV->Option AV} (h:Ok P f g):bS P (ent f g):=by
 intro args s res hr
 simp only [Go.Abs.ent]at hr
 cases hg:g args with
 | none=>rw [hg]at hr;cases hr
 | some v=>
   rw [hg]at hr
   simp only [Option.map_some,Option.some.injEq]at hr
   subst hr
   exact h args v hg s
theorem vF {f:FuncId} {g:List AV->Option AV} {L:List kL} {args:List AV} {s:Sto}:orcL (ent f g::L) f args s=(g args).map fun v=>.ret v none:=sJ
theorem aKd {f h:FuncId} {g:List AV->Option AV} {L:List kL} {args:List AV} {s:Sto} (hn:h≠f):orcL (ent h g::L) f args s=orcL L f args s:=RQ hn
theorem fN {fn:Func} {f:FuncId} {args:List AV} {s:Sto} {N:Nat} (hn:fn.ntmps=N) (ha:Nat.ble args.length N=true):BM fn f args s=⟨N,none,f,Tr.leaf.lay 0 args,[],⟨s.n,s.n,s.o⟩,.no⟩:=by
 have:Nat.max args.length fn.ntmps=N:=by
  rw [hn]
  have:=Nat.le_of_ble_eq_true ha
  exact Nat.max_eq_right this
 simp only [BM,this]
theorem GU {L:List kL} (hL:∀ x∈L,bS P x) {f:FuncId} {fn:Func} {c:Code} {N:Nat} {rs:List ResultVar} {args:List AV} {v:AV} (hok:okFn P f=true) (hf:P.funcs[f]?=some fn) (hn:fn.ntmps=N) (hr:fn.results=rs.toArray) (hb:fn.body=some c)
 (ha:Nat.ble args.length N=true) (hu:∀ x∈args,Und 0 x) (hv:Und 0 v)
 (h:W P (orcL L) c ⟨N,none,f,Tr.leaf.lay 0 args,[],⟨0,0,.leaf⟩,.no⟩ (gQ P rs (fun _ r=>r=v) fun _ _=>False)):Returns P f args v:=by
 refine dC hu (sound_end (O:=orcL L) (kY hL) hok hf hb (C:=fun _ r=>r=v) (D:=fun _ _=>False) (fun S r hr=>⟨v,none,rfl,by rw [hr];exact yI (Nat.zero_le _) hv⟩) (fun _ _ h=>h.elim) ?_)
 rw [fN hn ha,hr]
 exact h
theorem CV {L:List kL} (hL:∀ x∈L,bS P x) {f:FuncId} {fn:Func} {c:Code} {N:Nat} {rs:List ResultVar} {args:List AV} {v:AV} (hok:okFn P f=true) (hf:P.funcs[f]?=some fn) (hn:fn.ntmps=N) (hr:fn.results=rs.toArray) (hb:fn.body=some c)
 (ha:Nat.ble args.length N=true) (hu:∀ x∈args,Und 0 x)
 (h:W P (orcL L) c ⟨N,none,f,Tr.leaf.lay 0 args,[],⟨0,0,.leaf⟩,.no⟩ (gQ P rs (fun S r=>Frz S 0 r v) fun _ _=>False)):Returns P f args v:=by
 refine dC hu (sound_end (O:=orcL L) (kY hL) hok hf hb (C:=fun S r=>Frz S 0 r v) (D:=fun _ _=>False) (fun S r hr=>⟨v,none,rfl,jH (Nat.zero_le _) hr⟩) (fun _ _ h=>h.elim) ?_)
 rw [fN hn ha,hr]
 exact h
end
end
end Go.Abs
