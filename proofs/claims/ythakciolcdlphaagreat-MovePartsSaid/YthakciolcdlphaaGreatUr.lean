/-
  The abstract machine: the trace of a drawn region.
-/
import Derived.Test.YthakciolcdlphaaGreatUn
set_option linter.unusedVariables false
set_option linter.unusedSimpArgs false
namespace Go.Abs
theorem BZ {e e':Env} {dst:Option Tmp} {v:AV} (h:e.put dst v=some e'):e'.nt=e.nt/\e'.ro=e.ro/\e'.fn=e.fn/\e'.ds=e.ds/\e'.s=e.s/\e'.r=e.r/\
 (∀ d,e'.t.get d=if dst=some d then some v else e.t.get d)/\∀ d,dst=some d->d<e.nt:=by
 unfold Env.put at h
 cases dst with
 | none=>simp at h;subst h;simp
 | some d=>
   simp only at h
   rw [dL]at h
   split at h
   ·rename_i hlt
    simp at h;subst h
    refine ⟨rfl,rfl,rfl,rfl,rfl,rfl,fun d'=>?_,fun d' h=>by cases h;exact hlt⟩
    rw [Tr.get_set]
    by_cases hd:d'=d
    ·subst hd;simp
    ·rw [if_neg hd,if_neg (fun h=>hd (by simpa using h.symm))]
   ·simp at h
def aM (l:List TrE) (f:Env) (i:Nat):Sto:=match l[i]? with
 | some x=>x.e.s
 | none=>f.s
@[simp] theorem EA (x:TrE) (l:List TrE) (f:Env) (i:Nat):aM (x::l) f (i+1)=aM l f i:=by simp [aM]
@[simp] theorem aNu (f:Env) (i:Nat):aM [] f i=f.s:=by simp [aM]
@[simp] theorem WE (x:TrE) (l:List TrE) (f:Env):aM (x::l) f 0=x.e.s:=by simp [aM]
theorem zH {l:List TrE} {f:Env} {i:Nat} {x:TrE} (h:l[i]?=some x):aM l f i=x.e.s:=by simp [aM,h]
def tabT (d:Nat) (l:List TrE) (v:Option AV):Option AV:=l.foldl (fun v x=>if x.o.dst=some d then some x.v else v) v
structure RowOk (P:Program) (call:bL) (ops:List Oper) (nt0:Nat) (ro0:Option Nat) (x:TrE) (s s':Sto) (last:Prop) (p:Option (AV × Sto)):Prop where
 want:cD ops x.o x.e=some x.run
 nt:x.e.nt=nt0
 ro:x.e.ro=ro0
 st:x.e.s=s
 out:(x.run=false/\x.chg=false/\x.v=.undef/\s'=s)∨(x.run=true/\x.chg=false/\gC P call x.o x.e=some (.val x.v)/\s'=s)∨
  (x.run=true/\x.chg=true/\gC P call x.o x.e=some (.val' x.v s')/\(last->p=none))∨(x.run=true/\x.chg=true/\last/\p=some (x.v,s')/\gC P call x.o x.e=some (.pan x.v s'))
 dst:∀ d,x.o.dst=some d->d<nt0∨(last/\∃ q,p=some q)
structure Traced (P:Program) (call:bL) (ops rest:List Oper) (i:Nat) (e:Env) (l:List TrE) (f:Env) (p:Option (AV × Sto)):Prop where
 i:∀ (q:Nat) x,l[q]?=some x->x.i=i+q
 o:∀ (q:Nat) x,l[q]?=some x->rest[q]?=some x.o
 t:∀ (q:Nat) x,l[q]?=some x->∀ d,x.e.t.get d=tabT d (l.take q) (e.t.get d)
 row:∀ (q:Nat) x,l[q]?=some x->RowOk P call ops e.nt e.ro x (aM l f q) (aM l f (q+1)) (q+1=l.length) p
 first:aM l f 0=e.s
 fin:p=none->l.length=rest.length/\f.nt=e.nt/\f.ro=e.ro/\f.fn=e.fn/\f.ds=e.ds/\f.r=e.r/\∀ d,f.t.get d=tabT d l (e.t.get d)
 pan:∀ v s,p=some (v,s)->s=f.s/\0<l.length/\∀ x,l[l.length-1]?=some x->x.chg=true
theorem aCg {P:Program} {call:bL} {ops:List Oper}:∀ (rest:List Oper) (i:Nat) (e:Env) (l:List TrE) (f:Env) (p:Option (AV × Sto)),zL P call ops rest i e=some (l,f,p)->Traced P call ops rest i e l f p:=by
 intro rest
 induction rest with
 | nil=>
   intro i e l f p h
   simp [zL]at h
   obtain ⟨rfl,rfl,rfl⟩:=h
   exact ⟨by simp,by simp,by simp,by simp,by simp,fun _=>by simp [tabT],fun v s h=>by cases h⟩
 | cons o rest ih=>
   intro i e l f p h
   have cons:∀ (x:TrE) (e':Env),nM x (zL P call ops rest (i+1) e')=some (l,f,p)->x.i=i->x.o=o->x.e=e->e'.nt=e.nt->e'.ro=e.ro->e'.fn=e.fn->e'.ds=e.ds->e'.r=e.r->
    (∀ d,e'.t.get d=if o.dst=some d then some x.v else e.t.get d)->(∀ d,o.dst=some d->d<e.nt)->cD ops o e=some x.run->
    ((x.run=false/\x.chg=false/\x.v=.undef/\e'.s=e.s)∨(x.run=true/\x.chg=false/\gC P call o e=some (.val x.v)/\e'.s=e.s)∨(x.run=true/\x.chg=true/\gC P call o e=some (.val' x.v e'.s)))->
    Traced P call ops (o::rest) i e l f p:=by
    intro x e' hc hi ho he hnt hro hfn hds hr ht hd hw hout
    unfold nM at hc
    split at hc
    ·rename_i l' f' p' hrest
     simp at hc
     obtain ⟨rfl,rfl,rfl⟩:=hc
     have T:=ih (i+1) e' l' f' p' hrest
     have hs1:aM (x::l') f' 1=e'.s:=by rw [EA];exact T.first
     refine ⟨?_,?_,?_,?_,by simp [he],?_,?_⟩
     ·intro q y hy
      cases q with
      | zero=>simp at hy;subst hy;simpa using hi
      | succ q=>simp at hy;rw [T.i q y hy];omega
     ·intro q y hy
      cases q with
      | zero=>simp at hy;subst hy;simp [ho]
      | succ q=>simp at hy;simpa using T.o q y hy
     ·intro q y hy d
      cases q with
      | zero=>simp at hy;subst hy;simp [tabT,he]
      | succ q=>
        simp at hy
        rw [T.t q y hy d,ht d]
        simp [tabT,ho]
     ·intro q y hy
      cases q with
      | zero=>
        simp at hy;subst hy
        simp only [Nat.zero_add,WE,hs1]
        refine ⟨by rw [ho,he];exact hw,by rw [he],by rw [he],rfl,?_,fun d hd'=>.inl (hd d (by rw [<-ho];exact hd'))⟩
        rw [ho,he]
        rcases hout with h1 | h1 | h1
        ·exact .inl h1
        ·exact .inr (.inl h1)
        ·refine .inr (.inr (.inl ⟨h1.1,h1.2.1,h1.2.2,fun hl=>?_⟩))
         cases hp:p' with
         | none=>rfl
         | some vs=>
           have:=(T.pan vs.1 vs.2 hp).2.1
           simp at hl
           simp [hl]at this
      | succ q=>
        simp at hy
        have R:=T.row q y hy
        simp only [EA]
        rw [hnt,hro]at R
        refine ⟨R.want,R.nt,R.ro,R.st,?_,?_⟩
        ·rcases R.out with h1 | h1 | h1 | h1
         ·exact .inl h1
         ·exact .inr (.inl h1)
         ·exact .inr (.inr (.inl ⟨h1.1,h1.2.1,h1.2.2.1,fun hl=>h1.2.2.2 (by simpa using hl)⟩))
         ·exact .inr (.inr (.inr ⟨h1.1,h1.2.1,by simpa using h1.2.2.1,h1.2.2.2⟩))
        ·intro d hd'
         rcases R.dst d hd' with h1 | h1
         ·exact .inl h1
         ·exact .inr ⟨by simpa using h1.1,h1.2⟩
     ·intro hp
      obtain ⟨h1,h2,h3,h4,h5,h6,h7⟩:=T.fin hp
      refine ⟨by simp [h1],by rw [h2,hnt],by rw [h3,hro],by rw [h4,hfn],by rw [h5,hds],by rw [h6,hr],fun d=>?_⟩
      rw [h7 d,ht d];simp [tabT,ho]
     ·intro v s hp
      obtain ⟨g1,g2,g3⟩:=T.pan v s hp
      refine ⟨g1,by simp,fun y hy=>g3 y ?_⟩
      rw [<-hy]
      have:(x::l').length-1=(l'.length-1)+1:=by simp;omega
      rw [this];simp
    ·cases hc
   simp only [zL]at h
   split at h
   ·cases h
   ·rename_i hw
    split at h
    ·rename_i e' hp
     obtain ⟨a1,a2,a3,a4,a5,a6,a7,a8⟩:=BZ hp
     exact cons _ e' h rfl rfl rfl a1 a2 a3 a4 a6 a7 a8 hw (.inl ⟨rfl,rfl,rfl,a5⟩)
    ·cases h
   ·rename_i hw
    split at h
    ·rename_i v hop
     split at h
     ·rename_i e' hp
      obtain ⟨a1,a2,a3,a4,a5,a6,a7,a8⟩:=BZ hp
      exact cons _ e' h rfl rfl rfl a1 a2 a3 a4 a6 a7 a8 hw (.inr (.inl ⟨rfl,rfl,hop,a5⟩))
     ·cases h
    ·rename_i v s hop
     split at h
     ·rename_i e' hp
      obtain ⟨a1,a2,a3,a4,a5,a6,a7,a8⟩:=BZ hp
      exact cons _ e' h rfl rfl rfl a1 a2 a3 a4 a6 a7 a8 hw (.inr (.inr ⟨rfl,rfl,by rw [a5];exact hop⟩))
     ·cases h
    ·rename_i v s hop
     simp at h
     obtain ⟨rfl,rfl,rfl⟩:=h
     refine ⟨?_,?_,?_,?_,by simp,fun hp=>(by cases hp),fun v' s' hp=>(by cases hp;simp)⟩
     ·intro q x hx;cases q with
      | zero=>simp at hx;subst hx;rfl
      | succ q=>simp at hx
     ·intro q x hx;cases q with
      | zero=>simp at hx;subst hx;rfl
      | succ q=>simp at hx
     ·intro q x hx;cases q with
      | zero=>simp at hx;subst hx;simp [tabT]
      | succ q=>simp at hx
     ·intro q x hx
      cases q with
      | zero=>
        simp at hx;subst hx
        refine ⟨hw,rfl,rfl,by simp,.inr (.inr (.inr ⟨rfl,rfl,rfl,rfl,hop⟩)),fun d _=>.inr ⟨rfl,_,rfl⟩⟩
      | succ q=>simp at hx
    ·cases h
theorem WF (acc:List Nat) (o:Oper) (i:Nat) (h:(LI acc o).testBit i=true):∃ e∈o.after,Region.binds .any e=true/\(e.on=i∨(acc.getD e.on 0).testBit i=true):=by
 unfold LI at h
 have:∀ (l:List Edge) (m:Nat),(l.foldl (fun m e=>bif Region.binds .any e then m ||| (2 ^ e.on ||| acc.getD e.on 0) else m) m).testBit i=true->
  m.testBit i=true∨∃ e∈l,Region.binds .any e=true/\(e.on=i∨(acc.getD e.on 0).testBit i=true):=by
  intro l
  induction l with
  | nil=>intro m h;exact .inl h
  | cons e l ih=>
    intro m h
    rw [List.foldl_cons]at h
    rcases ih _ h with h1 | ⟨e',h1,h2⟩
    ·cases hb:Region.binds .any e with
     | false=>rw [hb]at h1;exact .inl h1
     | true=>
       rw [hb]at h1
       simp only [cond_true,Nat.testBit_or,Bool.or_eq_true,Nat.testBit_two_pow,decide_eq_true_eq]at h1
       rcases h1 with h1 | h1
       ·exact .inl h1
       ·exact .inr ⟨e,by simp,hb,h1⟩
    ·exact .inr ⟨e',by simp [h1],h2⟩
 rcases this _ 0 h with h1 | ⟨e,h1,h2⟩
 ·simp at h1
 ·exact ⟨e,by simpa using h1,h2⟩
theorem CA:∀ (l:List Oper) (acc:List Nat) (j:Nat),j<acc.length->(pV l acc).getD j 0=acc.getD j 0:=by
 intro l
 induction l with
 | nil=>intro acc j h;rfl
 | cons o l ih=>
   intro acc j h
   rw [pV,ih _ _ (by simp;omega)]
   simp [List.getD_eq_getElem?_getD,List.getElem?_append,h]
theorem OZ:∀ (l:List Oper) (acc:List Nat) (q:Nat) (o:Oper),l[q]?=some o->∃ pre:List Nat,(∀ j i,(pre.getD j 0).testBit i=true->((pV l acc).getD j 0).testBit i=true)/\(pV l acc).getD (acc.length+q) 0=LI pre o:=by
 intro l
 induction l with
 | nil=>intro acc q o h;simp at h
 | cons a l ih=>
   intro acc q o h
   cases q with
   | zero=>
     simp at h;subst h
     refine ⟨acc,fun j i hb=>?_,?_⟩
     ·by_cases hj:j<acc.length
      ·rw [pV,CA _ _ _ (by simp;omega)]
       simp only [List.getD_eq_getElem?_getD,List.getElem?_append,hj,if_true]at hb ⊢
       exact hb
      ·simp [List.getD_eq_getElem?_getD,List.getElem?_eq_none (Nat.le_of_not_lt hj)]at hb
     ·rw [pV,CA _ _ _ (by simp)]
      simp
   | succ q=>
     simp at h
     obtain ⟨pre,h1,h2⟩:=ih (acc++[LI acc a]) q o h
     refine ⟨pre,h1,?_⟩
     rw [pV]
     rw [<-h2]
     congr 1
     simp;omega
theorem KX {ops:List Oper} {j i:Nat} {o:Oper} (ho:ops[j]?=some o) (h:((cA ops).getD j 0).testBit i=true):∃ e∈o.after,Region.binds .any e=true/\(e.on=i∨((cA ops).getD e.on 0).testBit i=true):=by
 obtain ⟨pre,h1,h2⟩:=OZ ops [] j o ho
 simp only [List.length_nil,Nat.zero_add]at h2
 unfold cA at h ⊢
 rw [h2]at h
 obtain ⟨e,e1,e2,e3⟩:=WF _ _ _ h
 exact ⟨e,e1,e2,e3.imp id (h1 _ _)⟩
theorem HL {ops:List Oper} {as:List Nat}:∀ (l:List Oper) (i:Nat),zK ops as l i=true->∀ (q q':Nat) oi oj,q<q'->l[q]?=some oi->l[q']?=some oj->PW ops as (i+q) oi (i+q') oj=true:=by
 intro l
 induction l with
 | nil=>intro i h q q' oi oj _ h1;simp at h1
 | cons o l ih=>
   intro i h q q' oi oj hq h1 h2
   simp only [zK,Bool.and_eq_true,List.all_eq_true]at h
   obtain ⟨q',rfl⟩:∃ z,q'=z+1:=⟨q'-1,by omega⟩
   simp at h2
   cases q with
   | zero=>
     simp at h1;subst h1
     have:=h.1 (oj,i+1+q') (List.mk_mem_zipIdx_iff_le_and_getElem?_sub.2 ⟨by omega,by rw [show i+1+q'-(i+1)=q' by omega];exact h2⟩)
     simpa [Nat.add_assoc,Nat.add_comm 1] using this
   | succ q=>
     simp at h1
     have:=ih (i+1) h.2 q q' oi oj (by omega) h1 h2
     rw [show i+(q+1)=i+1+q by omega,show i+(q'+1)=i+1+q' by omega]
     exact this
theorem vJ {ops:List Oper} {i j d:Nat} {oi oj:Oper} (h:mC ops=true) (hij:i<j) (h1:ops[i]?=some oi) (h2:ops[j]?=some oj) (hd:(oi.dst=some d/\d∈kN ops oj)∨(oj.dst=some d/\d∈kN ops oi)):
 ((cA ops).getD j 0).testBit i=true:=by
 simp only [mC,Bool.and_eq_true]at h
 have hp:=HL ops 0 h.2 i j oi oj hij h1 h2
 simp only [Nat.zero_add,PW,Bool.or_eq_true,Bool.not_eq_true']at hp
 rcases hp with hp | hp
 ·simp only [Bool.or_eq_false_iff]at hp
  exfalso
  rcases hd with ⟨hd1,hd2⟩ | ⟨hd1,hd2⟩
  ·have:=hp.1
   simp [HU,hd1]at this
   exact this hd2
  ·have:=hp.2
   simp [HU,hd1]at this
   exact this hd2
 ·exact hp
theorem RV {ops:List Oper} {j:Nat} {o:Oper} {e:Edge} (h:mC ops=true) (ho:ops[j]?=some o) (he:e∈o.after) (hb:Region.binds .any e=true):e.on<j:=by
 simp only [mC,Bool.and_eq_true]at h
 have:=h.1.2
 simp only [RZ,List.all_eq_true]at this
 have:=this (o,j) (List.mk_mem_zipIdx_iff_getElem?.2 ho) e (by simpa using he)
 simp [hb,Nat.blt_eq]at this
 exact this
theorem HM {as:List Nat}:∀ (pre:List Nat) (c:Nat) (rest:List Nat),eV as (pre++c::rest)=true->eV as (c::rest)=true:=by
 intro pre
 induction pre with
 | nil=>intro c rest h;exact h
 | cons a pre ih=>
   intro c rest h
   apply ih c rest
   cases pre with
   | nil=>simp only [List.nil_append,List.cons_append,eV,Bool.and_eq_true]at h ⊢;exact h.2
   | cons b pre=>simp only [List.cons_append,eV,Bool.and_eq_true]at h ⊢;exact h.2
theorem PB {as:List Nat} {done:Nat->Prop} (hC:∀ j,done j->∀ i,(as.getD j 0).testBit i=true->done i):∀ (rest:List Nat) (c:Nat),eV as (c::rest)=true->∀ j∈rest,(∀ i,(as.getD j 0).testBit i=true->done i)->done c:=by
 intro rest
 induction rest with
 | nil=>intro c _ j hj;simp at hj
 | cons d rest ih=>
   intro c h j hj hr
   simp only [eV,Bool.and_eq_true]at h
   rcases List.mem_cons.1 hj with rfl | hj
   ·exact hr c h.1
   ·exact hC d (ih d h.2 j hj hr) c h.1
end Go.Abs
/-
 The abstract machine: the store of a drawn region.
-/
namespace Go.Abs
structure Drawn (P:Program) (call:bL) (ops:List Oper) (e0:Env) (l:List TrE) (f:Env) (p:Option (AV × Sto)):Prop where
 T:Traced P call ops ops 0 e0 l f p
 dr:mC ops=true
 ch:eV (cA ops) (cY l)=true
 nw:rS (cA ops) (jL l) (cY l)=true
 gr:gB l f.s.n=true
 un:iC l=true
section
variable {P:Program} {call:bL} {ops:List Oper} {e0:Env} {l:List TrE} {f:Env} {p:Option (AV × Sto)}
theorem Drawn.ix (D:Drawn P call ops e0 l f p) {j:Nat} {x:TrE} (h:l[j]?=some x):x.i=j:=by simpa using D.T.i j x h
theorem KY:∀ (l:List TrE) (f:Env),gB l f.s.n=true->∀ i,i<l.length->(aM l f i).n<=(aM l f (i+1)).n:=by
 intro l
 induction l with
 | nil=>intro f _ i h;simp at h
 | cons x l ih=>
   intro f h i hi
   cases l with
   | nil=>
     simp only [gB]at h
     simp at hi;subst hi
     simp [Nat.ble_eq]at h
     simpa using h
   | cons y l=>
     simp only [gB,Bool.and_eq_true,Nat.ble_eq]at h
     cases i with
     | zero=>simpa using h.1
     | succ i=>simpa using ih f h.2 i (by simpa using hi)
theorem Drawn.mono (D:Drawn P call ops e0 l f p) {i q:Nat} (h:i<=q) (hq:q<=l.length):(aM l f i).n<=(aM l f q).n:=by
 obtain ⟨d,rfl⟩:=Nat.exists_eq_add_of_le h
 clear h
 induction d with
 | zero=>exact Nat.le_refl _
 | succ d ih=>exact Nat.le_trans (ih (by omega)) (KY l f D.gr (i+d) (by omega))
theorem iN (l:List TrE) (f:Env):aM l f l.length=f.s:=by simp [aM]
theorem Drawn.newRow (D:Drawn P call ops e0 l f p) {j:Nat} {x:TrE} (h:l[j]?=some x) (hn:x.isNew=true):(x.run=true/\(j+1=l.length->p=none))/\∃ y,aM l f (j+1)=(aM l f j).push y/\
 ∀ s:Sto,s.n=(aM l f j).n->gC P call x.o {x.e with s:=s} = some (.val' x.v (s.push y)):=by
 have R:=D.T.row j x h
 simp only [TrE.isNew,Bool.and_eq_true]at hn
 rcases R.out with h1 | h1 | h1 | h1
 ·rw [h1.2.1]at hn;cases hn.1
 ·rw [h1.2.1]at hn;cases hn.1
 ·obtain ⟨v,y,h2,h3⟩:=HO hn.2 h1.2.2.1
  simp only [ORes.val'.injEq]at h2
  obtain ⟨rfl,h2⟩:=h2
  rw [<-R.st]
  exact ⟨⟨h1.1,h1.2.2.2⟩,y,h2,h3⟩
 ·obtain ⟨v,y,h2,h3⟩:=HO hn.2 h1.2.2.2.2
  cases h2
theorem Drawn.step (D:Drawn P call ops e0 l f p) {j:Nat} {x:TrE} (h:l[j]?=some x) (hc:x.isChg=false):(x.isNew=false/\aM l f (j+1)=aM l f j)∨(x.isNew=true/\∃ y,aM l f (j+1)=(aM l f j).push y):=by
 cases hn:x.isNew with
 | true=>obtain ⟨_,y,h1,_⟩:=D.newRow h hn;exact .inr ⟨rfl,y,h1⟩
 | false=>
   have hch:x.chg=false:=by
    cases hc':x.chg with
    | false=>rfl
    | true=>
      simp only [TrE.isChg,TrE.isNew,hc',Bool.true_and]at hc hn
      rw [hn]at hc;cases hc
   have R:=D.T.row j x h
   rcases R.out with h1 | h1 | h1 | h1
   ·exact .inl ⟨rfl,h1.2.2.2⟩
   ·exact .inl ⟨rfl,h1.2.2.2⟩
   ·rw [h1.2.1]at hch;cases hch
   ·rw [h1.2.1]at hch;cases hch
structure Seg (l:List TrE) (f:Env) (i q:Nat):Prop where
 n:(aM l f i).n<=(aM l f q).n
 low:(aM l f q).low=(aM l f i).low
 get:∀ id,id<(aM l f i).n->(aM l f q).get id=(aM l f i).get id
 new:∀ id,(aM l f i).n<=id->id<(aM l f q).n->∃ j y,i<=j/\j<q/\l[j]?=some y/\y.isNew=true/\(aM l f j).n=id/\(aM l f (j+1)).get id=(aM l f q).get id
 top:(∀ id,(aM l f i).n<=id->(aM l f i).o.get id=none)->∀ id,(aM l f q).n<=id->(aM l f q).o.get id=none
theorem Drawn.seg (D:Drawn P call ops e0 l f p) {i:Nat}:∀ (d:Nat),i+d<=l.length->(∀ j x,i<=j->j<i+d->l[j]?=some x->x.isChg=false)->Seg l f i (i+d):=by
 intro d
 induction d with
 | zero=>intro _ _;exact ⟨Nat.le_refl _,rfl,fun _ _=>rfl,fun id h1 h2=>(by simp at h2;omega),fun h=>h⟩
 | succ d ih=>
   intro hl hc
   have S:=ih (by omega) fun j x h1 h2=>hc j x h1 (by omega)
   obtain ⟨x,hx⟩:∃ x,l[i+d]?=some x:=⟨l[i+d],by rw [List.getElem?_eq_getElem]⟩
   rw [show i+(d+1)=i+d+1 by omega]
   rcases D.step hx (hc (i+d) x (by omega) (by omega) hx) with ⟨h1,h2⟩ | ⟨h1,y,h2⟩
   ·refine ⟨by rw [h2];exact S.n,by rw [h2];exact S.low,by rw [h2];exact S.get,?_,by rw [h2];exact S.top⟩
    intro id g1 g2
    rw [h2]at g2
    obtain ⟨j,z,a1,a2,a3⟩:=S.new id g1 g2
    exact ⟨j,z,a1,by omega,by rw [h2];exact a3⟩
   ·refine ⟨by rw [h2];have:=S.n;simp;omega,by rw [h2];exact S.low,?_,?_,?_⟩
    ·intro id hid
     have:=S.n
     rw [h2,Sto.get_push,if_neg (by omega)]
     exact S.get id hid
    ·intro id g1 g2
     rw [h2]at g2
     simp only [Sto.n_push]at g2
     by_cases hid:id=(aM l f (i+d)).n
     ·exact ⟨i+d,x,by omega,by omega,hx,h1,hid.symm,rfl⟩
     ·obtain ⟨j,z,a1,a2,a3,a4,a5,a6⟩:=S.new id g1 (by omega)
      refine ⟨j,z,a1,by omega,a3,a4,a5,?_⟩
      rw [a6,h2,Sto.get_push,if_neg hid]
    ·intro ht id hid
     rw [h2]at hid ⊢
     simp only [Sto.n_push]at hid
     show ((aM l f (i+d)).o.set _ y).get id=none
     rw [Tr.get_set,if_neg (by omega)]
     exact S.top ht id (by omega)
theorem Drawn.seg' (D:Drawn P call ops e0 l f p) {i q:Nat} (hi:i<=q) (hq:q<=l.length) (hc:∀ j x,i<=j->j<q->l[j]?=some x->x.isChg=false):Seg l f i q:=by
 obtain ⟨d,rfl⟩:=Nat.exists_eq_add_of_le hi
 exact D.seg d hq hc
structure InvS (e0:Env) (l:List TrE) (f:Env) (σ0:Sg) (w0:World) (done:Nat->Bool) (pt:Nat) (σ:Sg) (X:Sto) (w:World):Prop where
 ptl:pt<=l.length
 chg:∀ (j:Nat) x,l[j]?=some x->x.isChg=true->(done j=true↔j<pt)
 nwd:∀ (j:Nat) x,l[j]?=some x->x.isNew=true->j<pt->done j=true
 rel:Rel σ X w
 xn:X.n=f.s.n
 x1:∀ id x,X.get id=some x->(id<(aM l f pt).n/\(aM l f pt).get id=some x)∨
  ((aM l f pt).n<=id/\∃ (j:Nat) (y:TrE),pt<=j/\l[j]?=some y/\y.isNew=true/\done j=true/\(aM l f j).n=id/\(aM l f (j+1)).get id=some x)
 x2:∀ id,id<(aM l f pt).n->X.get id=(aM l f pt).get id
 x3:∀ (j:Nat) y,l[j]?=some y->y.isNew=true->done j=true->pt<=j->X.get (aM l f j).n=(aM l f (j+1)).get (aM l f j).n
 ob:∀ id x b base sz o,X.get id=some x->σ id (cN x)=some (b,base,sz)->w.heap[b]?=some o->ObjR (σ.cut (max (aM l f pt).n (id+1))) base sz x o
 dm:∀ id g x,σ id g=some x->id<(aM l f pt).n∨∃ (j:Nat) (y:TrE),pt<=j/\l[j]?=some y/\y.isNew=true/\done j=true/\(aM l f j).n=id
 ext:σ0.le σ
 size:w0.heap.size<=w.heap.size
 frame:∀ b,b<w0.heap.size->¬ Has σ0 e0.s b->w.heap[b]?=w0.heap[b]?
 own:∀ b,Has σ X b->Has σ0 e0.s b∨w0.heap.size<=b
 low:(aM l f pt).low<=e0.s.low
 keep:∀ id,id<e0.s.n->id<(aM l f pt).low->(aM l f pt).get id=e0.s.get id/\(∀ g,σ id g=σ0 id g)/\∀ x b base sz,e0.s.get id=some x->σ0 id (cN x)=some (b,base,sz)->w.heap[b]?=w0.heap[b]?
 hole:∀ id,id<e0.s.n->e0.s.get id=none->(aM l f pt).get id=none/\∀ g,σ id g=σ0 id g
 os:w.os=w0.os
 out:w.output=w0.output
 tape:w.tape=w0.tape
 top:∀ id,(aM l f pt).n<=id->(aM l f pt).o.get id=none
 mnew:∀ b off V,σ.m b off=some V->σ0.m b off=some V∨Has σ0 e0.s b∨w0.heap.size<=b
variable {σ0 σ:Sg} {w0 w w':World} {done done':Nat->Bool} {pt:Nat} {X:Sto}
theorem InvS.congr (I:InvS e0 l f σ0 w0 done pt σ X w) (h:∀ (j:Nat) x,l[j]?=some x->x.chg=true->done' j=done j):InvS e0 l f σ0 w0 done' pt σ X w:=by
 have hn:∀ {x:TrE},x.isNew=true->x.chg=true:=fun hx=>by simp only [TrE.isNew,Bool.and_eq_true]at hx;exact hx.1
 have hc:∀ {x:TrE},x.isChg=true->x.chg=true:=fun hx=>by simp only [TrE.isChg,Bool.and_eq_true]at hx;exact hx.1
 refine {I with chg:=?_,nwd:=?_,x1:=?_,x3:=?_,dm:=?_}
 ·intro j x hx hch;rw [h j x hx (hc hch)];exact I.chg j x hx hch
 ·intro j x hx hne hj;rw [h j x hx (hn hne)];exact I.nwd j x hx hne hj
 ·intro id x hx
  rcases I.x1 id x hx with h1 | ⟨h1,j,y,a1,a2,a3,a4,a5⟩
  ·exact .inl h1
  ·exact .inr ⟨h1,j,y,a1,a2,a3,by rw [h j y a2 (hn a3)];exact a4,a5⟩
 ·intro j y hy hne hd hj;rw [h j y hy (hn hne)]at hd;exact I.x3 j y hy hne hd hj
 ·intro id g x hx
  rcases I.dm id g x hx with h1 | ⟨j,y,a1,a2,a3,a4,a5⟩
  ·exact .inl h1
  ·exact .inr ⟨j,y,a1,a2,a3,by rw [h j y a2 (hn a3)];exact a4,a5⟩
theorem vL {σ τ:Sg} (h:σ.le τ) {n m:Nat} (hn:n<=m):(σ.cut n).le (τ.cut m):=by
 refine ⟨fun id g x hx=>?_,h.m⟩
 simp only [Sg.cut]at hx ⊢
 split at hx
 ·rename_i hlt
  rw [if_pos (by omega)];exact h _ _ _ hx
 ·cases hx
theorem InvS.quiet {τ:Sg} (I:InvS e0 l f σ0 w0 done pt σ X w) (Q:QStp σ w τ w'):InvS e0 l f σ0 w0 done pt τ X w':=by
 have q:=Q.q
 have hlt:∀ {b:Nat},Has σ X b->w'.heap[b]?=w.heap[b]?:=fun hb=>q.heap _ (I.rel.lt hb)
 refine {I with rel:=Q.rel I.rel,ob:=?_,dm:=fun id g x hx=>I.dm id g x (by rw [<-Q.s];exact hx),ext:=Sg.le_trans I.ext Q.le,size:=Nat.le_trans I.size q.size,frame:=?_,own:=fun b hb=>I.own b (hb.same Q.s),keep:=?_,hole:=fun id h1 h2=>⟨(I.hole id h1 h2).1,fun g=>by rw [Q.s];exact (I.hole id h1 h2).2 g⟩,os:=by rw [q.os,I.os],out:=by rw [q.out,I.out],tape:=by rw [q.tape,I.tape],mnew:=?_}
 ·intro id x b base sz o h1 h2 h3
  rw [Q.s]at h2
  rw [hlt ⟨id,x,base,sz,h1,h2⟩]at h3
  exact (I.ob id x b base sz o h1 h2 h3).mono (vL Q.le (Nat.le_refl _))
 ·intro b hb hn
  rw [q.heap b (Nat.lt_of_lt_of_le hb I.size)];exact I.frame b hb hn
 ·intro id h1 h2
  obtain ⟨a1,a2,a3⟩:=I.keep id h1 h2
  refine ⟨a1,fun g=>by rw [Q.s];exact a2 g,fun x b base sz h3 h4=>?_⟩
  have hX:X.get id=some x:=by rw [I.x2 id (Sto.get_lt (by rw [a1];exact h3)),a1];exact h3
  rw [hlt ⟨id,x,base,sz,hX,by rw [a2];exact h4⟩]
  exact a3 x b base sz h3 h4
 ·intro b off V hV
  rcases Q.m b off V hV with h1 | h1
  ·exact I.mnew b off V h1
  ·exact .inr (.inr (Nat.le_trans I.size h1.1))
theorem InvS.fin (D:Drawn P call ops e0 l f p) (I:InvS e0 l f σ0 w0 done pt σ X w) (hc:∀ (j:Nat) x,pt<=j->l[j]?=some x->x.isChg=false) (hn:∀ (j:Nat) x,l[j]?=some x->x.isNew=true->done j=true):
 Stp σ0 e0.s w0 σ f.s w:=by
 have S:=D.seg' I.ptl (Nat.le_refl _) fun j x h1 _ hx=>hc j x h1 hx
 have hfs:=iN l f
 have hget:∀ id,f.s.get id=X.get id:=by
  intro id
  by_cases h1:id<(aM l f pt).n
  ·rw [I.x2 id h1,<-hfs,S.get id h1]
  ·by_cases h2:id<f.s.n
   ·obtain ⟨j,y,a1,a2,a3,a4,a5,a6⟩:=S.new id (by omega) (by rw [hfs];exact h2)
    rw [hfs]at a6
    rw [<-a6,<-a5,I.x3 j y a3 a4 (hn j y a3 a4) a1]
   ·rw [Sto.get_eq,if_neg h2,Sto.get_eq,if_neg (by rw [I.xn];exact h2)]
 have htop:=S.top I.top
 rw [hfs]at htop
 have hn0:e0.s.n<=f.s.n:=by
  have:=D.mono (Nat.zero_le l.length) (Nat.le_refl _)
  rw [hfs,D.T.first]at this
  exact this
 have hlt:∀ {id},id<e0.s.n->id<(aM l f pt).n:=fun {id} h=>by
  have:=D.mono (Nat.zero_le pt) I.ptl
  rw [D.T.first]at this
  omega
 refine ⟨I.rel.same hget I.xn.symm htop,I.ext,I.size,I.frame,?_,hn0,?_,?_,I.os,I.out,I.tape,?_,I.mnew⟩
 ·rintro b ⟨id,x,base,sz,h1,h2⟩
  exact I.own b ⟨id,x,base,sz,by rw [<-hget];exact h1,h2⟩
 ·rw [<-hfs,S.low];exact I.low
 ·intro id h1 h2
  rw [<-hfs,S.low]at h2
  obtain ⟨a1,a2,a3⟩:=I.keep id h1 h2
  refine ⟨?_,a2,a3⟩
  rw [hget,I.x2 id (hlt h1),a1]
 ·intro id h1 h2
  obtain ⟨a1,a2⟩:=I.hole id h1 h2
  refine ⟨?_,a2⟩
  rw [hget,I.x2 id (hlt h1),a1]
theorem EB {τ:Sg} (I:InvS e0 l f σ0 w0 done pt σ X w) (h:∀ b off V,τ.m b off=some V->σ.m b off=some V∨Has σ X b∨w.heap.size<=b):
 ∀ b off V,τ.m b off=some V->σ0.m b off=some V∨Has σ0 e0.s b∨w0.heap.size<=b:=by
 intro b off V hV
 rcases h b off V hV with h1 | h1 | h1
 ·exact I.mnew b off V h1
 ·exact .inr (I.own b h1)
 ·exact .inr (.inr (Nat.le_trans I.size h1))
theorem InvS.new (D:Drawn P call ops e0 l f p) (I:InvS e0 l f σ0 w0 done pt σ X w) {j:Nat} {x:TrE} (hx:l[j]?=some x) (hn:x.isNew=true) (hnd:done j=false) {y:AObj} (hy:aM l f (j+1)=(aM l f j).push y)
 {τ:Sg} (h:Stp (σ.cut (aM l f j).n) {n:=(aM l f j).n,low:=0,o:=.leaf} w τ (({n:=(aM l f j).n,low:=0,o:=.leaf}:Sto).push y) w'):
 ∃ X',InvS e0 l f σ0 w0 (fun i=>done i||i==j) pt (τ.join σ) X' w'/\τ.le (τ.join σ)/\σ.le (τ.join σ):=by
 have hjl:j<l.length:=(List.getElem?_eq_some_iff.1 hx).1
 have hpj:pt<=j:=by
  rcases Nat.lt_or_ge j pt with h1 | h1
  ·rw [I.nwd j x hx hn h1]at hnd;cases hnd
  ·exact h1
 have hnn:(aM l f j).n<f.s.n:=by
  have:=D.mono (i:=j+1) (by omega) (Nat.le_refl l.length)
  rw [iN,hy]at this
  simp at this;omega
 have hpn:(aM l f pt).n<=(aM l f j).n:=D.mono hpj (by omega)
 have hother:∀ (i:Nat) (z:TrE),l[i]?=some z->z.isNew=true->(aM l f i).n=(aM l f j).n->i=j:=by
  intro i z hz hzn he
  have hil:=(List.getElem?_eq_some_iff.1 hz).1
  obtain ⟨_,y',hy',_⟩:=D.newRow hz hzn
  rcases Nat.lt_trichotomy i j with h1 | h1 | h1
  ·have:=D.mono (i:=i+1) (q:=j) (by omega) (by omega)
   rw [hy']at this;simp at this;omega
  ·exact h1
  ·have:=D.mono (i:=j+1) (q:=i) (by omega) (by omega)
   rw [hy]at this;simp at this;omega
 have hfree:∀ g,σ (aM l f j).n g=none:=by
  intro g
  cases hs:σ (aM l f j).n g with
  | none=>rfl
  | some z=>
    rcases I.dm _ g z hs with h1 | ⟨i,z',a1,a2,a3,a4,a5⟩
    ·omega
    ·rw [hother i z' a2 a3 a5]at a4
     rw [a4]at hnd;cases hnd
 have hXn:X.get (aM l f j).n=none:=by
  cases hg:X.get (aM l f j).n with
  | none=>rfl
  | some z=>
    obtain ⟨b,base,sz,o,h1,_⟩:=I.rel.obj _ z hg
    rw [hfree]at h1;cases h1
 have hRg:∀ id,({n:=(aM l f j).n,low:=0,o:=.leaf}:Sto).get id=none:=fun id=>by rw [Sto.get_eq];split<;>rfl
 let X':Sto:={n:=X.n,low:=X.low,o:=X.o.set (aM l f j).n y}
 have hX'g:∀ id,X'.get id=if id=(aM l f j).n then some y else X.get id:=by
  intro id
  show (X'.get id)=_
  rw [Sto.get_eq,Sto.get_eq]
  show (if id<X.n then (X.o.set _ y).get id else none)=_
  rw [Tr.get_set]
  by_cases h1:id=(aM l f j).n
  ·subst h1;simp [I.xn,hnn]
  ·simp [h1]
 have F:=aCj (X':=X') I.rel (show (σ.cut (aM l f j).n).m=σ.m from rfl) (fun id g hi=>by simp only [Sg.cut];exact if_pos hi) (fun id z hz=>by rw [hRg]at hz;cases hz) h
  (fun id g h1 h2=>by
    have:id=(aM l f j).n:=by simp at h1 h2;omega
    rw [this];exact hfree g) (Nat.le_refl _) (by show _<=X.n;rw [I.xn];simp;omega)
  (fun id z hz=>by
    rw [hX'g]at hz
    split at hz
    ·rename_i he;left;rw [Sto.get_push,if_pos he];exact hz
    ·exact .inr ⟨hz,hRg id⟩)
  (fun id hid=>by
    show (X.o.set _ y).get id=none
    have hid':X.n<=id:=hid
    rw [Tr.get_set,if_neg (by rw [I.xn]at hid';omega)]
    exact I.rel.top id hid')
 have hheap:∀ b,b<w.heap.size->w'.heap[b]?=w.heap[b]?:=fun b hb=>h.frame b hb fun ⟨id,z,_,_,hz,_⟩=>by rw [hRg]at hz;cases hz
 have hold:∀ id g,id≠(aM l f j).n->(τ.join σ) id g=σ id g:=by
  intro id g hid
  simp only [Sg.join]
  split
  ·rename_i z hz
   have hb:=h.rel.bnd id g z hz
   simp at hb
   have:id<(aM l f j).n:=by omega
   have:=(h.hole id this (hRg id)).2 g
   rw [hz]at this
   simp only [Sg.cut]at this
   rw [if_pos (by omega)]at this
   exact this
  ·rfl
 have hdone:∀ i,(done i||i==j)=true->i≠j->done i=true:=by
  intro i h1 h2
  simpa [h2] using h1
 refine ⟨X',⟨I.ptl,?_,?_,F.rel,I.xn,?_,?_,?_,?_,?_,Sg.le_trans I.ext F.ext,Nat.le_trans I.size F.size,?_,?_,I.low,?_,?_,by rw [h.os,I.os],by rw [h.out,I.out],by rw [h.tape,I.tape],I.top,EB I F.mnew⟩,Sg.le_join τ σ,F.ext⟩
 ·intro i z hz hc
  rw [<-I.chg i z hz hc]
  have hij:i≠j:=by
   rintro rfl
   rw [hx]at hz;cases hz
   simp only [TrE.isNew,TrE.isChg,Bool.and_eq_true,Bool.not_eq_true']at hn hc
   rw [hn.2]at hc;cases hc.2
  simp [hij]
 ·intro i z hz hzn hi
  simp [I.nwd i z hz hzn hi]
 ·intro id z hz
  rw [hX'g]at hz
  split at hz
  ·rename_i he
   subst he
   refine .inr ⟨hpn,j,x,hpj,hx,hn,by simp,rfl,?_⟩
   rw [hy,Sto.get_push,if_pos rfl];exact hz
  ·rcases I.x1 id z hz with h1 | ⟨h1,i,z',a1,a2,a3,a4,a5⟩
   ·exact .inl h1
   ·exact .inr ⟨h1,i,z',a1,a2,a3,by simp [a4],a5⟩
 ·intro id hid
  rw [hX'g,if_neg (by omega)]
  exact I.x2 id hid
 ·intro i z hz hzn hd hi
  by_cases hij:i=j
  ·subst hij
   rw [hX'g,if_pos rfl,hy,Sto.get_push,if_pos rfl]
  ·rw [hX'g,if_neg (fun he=>hij (hother i z hz hzn he))]
   exact I.x3 i z hz hzn (hdone i hd hij) hi
 ·intro id z b base sz o h1 h2 h3
  rw [hX'g]at h1
  split at h1
  ·rename_i he
   subst he
   cases h1
   obtain ⟨b',base',sz',o',g1,g2,g3⟩:=h.rel.obj (aM l f j).n y (by rw [Sto.get_push,if_pos rfl])
   have:=Sg.le_join τ σ _ _ _ g1
   rw [h2]at this
   obtain ⟨rfl,rfl,rfl⟩:b=b'/\base=base'/\sz=sz':=by simpa using this
   rw [h3]at g2;cases g2
   refine g3.mono ⟨fun id' g' z' hz'=>?_,by exact fun _ _ _ h=>h⟩
   have hb:=h.rel.bnd id' g' z' hz'
   simp at hb
   simp only [Sg.cut]
   rw [if_pos (by omega)]
   exact Sg.le_join τ σ _ _ _ hz'
  ·rename_i he
   rw [hold id _ he]at h2
   rw [hheap b (I.rel.lt ⟨id,z,base,sz,h1,h2⟩)]at h3
   exact (I.ob id z b base sz o h1 h2 h3).mono (vL F.ext (Nat.le_refl _))
 ·intro id g z hz
  by_cases hid:id=(aM l f j).n
  ·exact .inr ⟨j,x,hpj,hx,hn,by simp,hid.symm⟩
  ·rw [hold id g hid]at hz
   rcases I.dm id g z hz with h1 | ⟨i,z',a1,a2,a3,a4,a5⟩
   ·exact .inl h1
   ·exact .inr ⟨i,z',a1,a2,a3,by simp [a4],a5⟩
 ·intro b hb hnb
  rw [hheap b (Nat.lt_of_lt_of_le hb I.size)]
  exact I.frame b hb hnb
 ·intro b hb
  rcases F.own b hb with h1 | h1
  ·exact I.own b h1
  ·exact .inr (Nat.le_trans I.size h1)
 ·intro id h1 h2
  obtain ⟨a1,a2,a3⟩:=I.keep id h1 h2
  have hlt:id<(aM l f pt).n:=by
   have:=D.mono (Nat.zero_le pt) I.ptl
   rw [D.T.first]at this
   omega
  refine ⟨a1,fun g=>by rw [hold id g (by omega),a2],fun z b base sz h3 h4=>?_⟩
  have hX:X.get id=some z:=by rw [I.x2 id hlt,a1];exact h3
  rw [hheap b (I.rel.lt ⟨id,z,base,sz,hX,by rw [a2];exact h4⟩)]
  exact a3 z b base sz h3 h4
 ·intro id h1 h2
  obtain ⟨a1,a2⟩:=I.hole id h1 h2
  have hlt:id<(aM l f pt).n:=by
   have:=D.mono (Nat.zero_le pt) I.ptl
   rw [D.T.first]at this
   omega
  exact ⟨a1,fun g=>by rw [hold id g (by omega),a2]⟩
theorem InvS.turn (D:Drawn P call ops e0 l f p) (I:InvS e0 l f σ0 w0 done pt σ X w) {j:Nat} {x:TrE} (hx:l[j]?=some x) (hc:x.isChg=true) (hnd:done j=false)
 (hold':∀ (i:Nat) z,l[i]?=some z->z.isChg=true->i<j->done i=true) (hnews:∀ (i:Nat) z,l[i]?=some z->z.isNew=true->i<j->done i=true):
 Rel (σ.cut (aM l f j).n) (aM l f j) w/\∀ {τ:Sg} {w':World},Stp (σ.cut (aM l f j).n) (aM l f j) w τ (aM l f (j+1)) w'->
 ∃ X',InvS e0 l f σ0 w0 (fun i=>done i||i==j) (j+1) (τ.join σ) X' w'/\τ.le (τ.join σ)/\σ.le (τ.join σ):=by
 have hjl:j<l.length:=(List.getElem?_eq_some_iff.1 hx).1
 have hpj:pt<=j:=by
  rcases Nat.lt_or_ge j pt with h1 | h1
  ·rw [(I.chg j x hx hc).2 h1]at hnd;cases hnd
  ·exact h1
 have S:=D.seg' hpj (by omega) fun i z h1 h2 hz=>by
  cases hzc:z.isChg with
  | false=>rfl
  | true=>
    have:=(I.chg i z hz hzc).1 (hold' i z hz hzc h2)
    omega
 have hjn:x.isNew=false:=by
  cases hn:x.isNew with
  | false=>rfl
  | true=>
    simp only [TrE.isNew,TrE.isChg,Bool.and_eq_true,Bool.not_eq_true']at hn hc
    rw [hn.2]at hc;cases hc.2
 have hn1:(aM l f j).n<=(aM l f (j+1)).n:=D.mono (by omega) (by omega)
 have hn2:(aM l f (j+1)).n<=f.s.n:=by
  have:=D.mono (i:=j+1) (by omega) (Nat.le_refl l.length)
  rw [iN]at this;exact this
 have hget:∀ id,id<(aM l f j).n->X.get id=(aM l f j).get id:=by
  intro id hid
  by_cases h1:id<(aM l f pt).n
  ·rw [I.x2 id h1,S.get id h1]
  ·obtain ⟨i,y,a1,a2,a3,a4,a5,a6⟩:=S.new id (by omega) hid
   rw [<-a6,<-a5,I.x3 i y a3 a4 (hnews i y a3 a4 a2) a1]
 have hR:∀ id z,(aM l f j).get id=some z->X.get id=some z:=fun id z hz=>by rw [hget id (Sto.get_lt hz)];exact hz
 have hrel:Rel (σ.cut (aM l f j).n) (aM l f j) w:=by
  refine I.rel.part (show (σ.cut (aM l f j).n).m=σ.m from rfl) (fun id g hi=>by simp only [Sg.cut];exact if_pos hi) (fun id g z hz=>?_) hR ?_ (S.top I.top)
  ·simp only [Sg.cut]at hz
   split at hz
   ·assumption
   ·cases hz
  ·intro id z hz b base sz o ho hs hb
   have hlt:=Sto.get_lt hz
   refine (I.ob id z b base sz o (hR id z hz) hs hb).mono (vL (Sg.le_refl σ) ?_)
   have:=S.n
   omega
 refine ⟨hrel,fun {τ w'} h=>?_⟩
 have hfree:∀ id g,(aM l f j).n<=id->id<(aM l f (j+1)).n->σ id g=none:=by
  intro id g h1 h2
  cases hs:σ id g with
  | none=>rfl
  | some z=>
    rcases I.dm _ g z hs with h3 | ⟨i,z',a1,a2,a3,a4,a5⟩
    ·have:=S.n;omega
    ·exfalso
     have hil:=(List.getElem?_eq_some_iff.1 a2).1
     obtain ⟨_,y',hy',_⟩:=D.newRow a2 a3
     rcases Nat.lt_trichotomy i j with h4 | h4 | h4
     ·have:=D.mono (i:=i+1) (q:=j) (by omega) (by omega)
      rw [hy']at this;simp at this;omega
     ·subst h4
      rw [hx]at a2;cases a2
      rw [hjn]at a3;cases a3
     ·have:=D.mono (i:=j+1) (q:=i) (by omega) (by omega)
      omega
 obtain ⟨X',hX'n,hX'g,hX't⟩:∃ X':Sto,X'.n=f.s.n/\(∀ id,X'.get id=if id<(aM l f (j+1)).n then (aM l f (j+1)).get id else X.get id)/\(∀ id,X'.n<=id->X'.o.get id=none):=by
  have hX'top:=h.rel.top
  have key:∀ d:Nat,∃ X':Sto,X'.n=(aM l f (j+1)).n+d/\(∀ id,X'.o.get id=if id<(aM l f (j+1)).n then (aM l f (j+1)).o.get id else if id<(aM l f (j+1)).n+d then X.o.get id else none):=by
   intro d
   induction d with
   | zero=>
     refine ⟨aM l f (j+1),rfl,fun id=>?_⟩
     by_cases h1:id<(aM l f (j+1)).n
     ·simp [h1]
     ·rw [if_neg h1,if_neg (by omega)];exact hX'top id (by omega)
   | succ d ih=>
     obtain ⟨Y,y1,y2⟩:=ih
     cases hg:X.o.get ((aM l f (j+1)).n+d) with
     | none=>
       refine ⟨{Y with n:=(aM l f (j+1)).n+(d+1)},rfl,fun id=>?_⟩
       show Y.o.get id=_
       rw [y2]
       by_cases h1:id<(aM l f (j+1)).n
       ·simp [h1]
       ·rw [if_neg h1,if_neg h1]
        by_cases h2:id<(aM l f (j+1)).n+d
        ·rw [if_pos h2,if_pos (by omega)]
        ·rw [if_neg h2]
         by_cases h3:id=(aM l f (j+1)).n+d
         ·subst h3;rw [if_pos (by omega),hg]
         ·rw [if_neg (by omega)]
     | some z=>
       refine ⟨{n:=(aM l f (j+1)).n+(d+1),low:=0,o:=Y.o.set ((aM l f (j+1)).n+d) z},rfl,fun id=>?_⟩
       show (Y.o.set ((aM l f (j+1)).n+d) z).get id=_
       rw [Tr.get_set,y2]
       by_cases h3:id=(aM l f (j+1)).n+d
       ·subst h3
        rw [if_pos rfl,if_neg (by omega),if_pos (by omega),hg]
       ·rw [if_neg h3]
        by_cases h1:id<(aM l f (j+1)).n
        ·simp [h1]
        ·rw [if_neg h1,if_neg h1]
         by_cases h2:id<(aM l f (j+1)).n+d
         ·rw [if_pos h2,if_pos (by omega)]
         ·rw [if_neg h2,if_neg (by omega)]
  obtain ⟨X',a1,a2⟩:=key (f.s.n-(aM l f (j+1)).n)
  have hSn:(aM l f (j+1)).n+(f.s.n-(aM l f (j+1)).n)=f.s.n:=by omega
  rw [hSn]at a1 a2
  refine ⟨X',a1,fun id=>?_,fun id hid=>?_⟩
  ·rw [Sto.get_eq,a1,a2]
   by_cases h1:id<(aM l f (j+1)).n
   ·rw [if_pos h1,if_pos (by omega),if_pos h1,Sto.get_eq,if_pos h1]
   ·rw [if_neg h1,if_neg h1,Sto.get_eq,I.xn]
    by_cases h2:id<f.s.n
    ·simp [h2]
    ·simp [h2]
  ·rw [a1]at hid
   have:(aM l f (j+1)).n<=f.s.n:=hn2
   rw [a2,if_neg (by omega),if_neg (by omega)]
 have hRnone:∀ id,¬ id<(aM l f (j+1)).n->(aM l f j).get id=none:=fun id hid=>by
  have:(aM l f j).n<=(aM l f (j+1)).n:=hn1
  rw [Sto.get_eq,if_neg (by omega)]
 have F:=aCj (X':=X') I.rel (show (σ.cut (aM l f j).n).m=σ.m from rfl) (fun id g hi=>by simp only [Sg.cut];exact if_pos hi) hR h hfree (by rw [hX'n,I.xn];exact Nat.le_refl _) (by rw [hX'n];exact hn2)
  (fun id z hz=>by
    rw [hX'g]at hz
    split at hz
    ·exact .inl hz
    ·rename_i he;exact .inr ⟨hz,hRnone id he⟩) hX't
 have hσ:∀ id g,(aM l f (j+1)).n<=id->(τ.join σ) id g=σ id g:=by
  intro id g hid
  simp only [Sg.join]
  split
  ·rename_i z hz
   have:=h.rel.bnd id g z hz
   exact absurd this (by show ¬ id<(aM l f (j+1)).n;omega)
  ·rfl
 have hσ2:∀ id g,id<(aM l f j).n->τ id g=σ id g->(τ.join σ) id g=σ id g:=by
  intro id g _ he
  simp only [Sg.join]
  split
  ·rename_i z hz;rw [<-he,hz]
  ·rfl
 have hcut:∀ id g,id<(aM l f j).n->(σ.cut (aM l f j).n) id g=σ id g:=fun id g h=>by simp only [Sg.cut];exact if_pos h
 have hout:∀ id z b base sz,X.get id=some z->(aM l f (j+1)).n<=id->σ id (cN z)=some (b,base,sz)->w'.heap[b]?=w.heap[b]?:=by
  intro id z b base sz h1 h2 h3
  refine h.frame b (I.rel.lt ⟨id,z,base,sz,h1,h3⟩) ?_
  rintro ⟨id',z',base',sz',h4,h5⟩
  rw [hcut id' _ (Sto.get_lt h4)]at h5
  have:=I.rel.inj id z id' z' b base sz base' sz' h1 (hR _ _ h4) h3 h5
  subst this
  rw [hRnone id (by omega)]at h4;cases h4
 have h0n:∀ {id},id<e0.s.n->id<(aM l f pt).n:=fun {id} h=>by
  have:=D.mono (Nat.zero_le pt) I.ptl
  rw [D.T.first]at this
  omega
 refine ⟨X',⟨by omega,?_,?_,F.rel,hX'n,?_,?_,?_,?_,?_,Sg.le_trans I.ext F.ext,Nat.le_trans I.size F.size,?_,?_,?_,?_,?_,by rw [h.os,I.os],by rw [h.out,I.out],by rw [h.tape,I.tape],h.rel.top,EB I F.mnew⟩,Sg.le_join τ σ,F.ext⟩
 ·intro i z hz hzc
  by_cases hij:i=j
  ·subst hij;simp
  ·have:=I.chg i z hz hzc
   simp only [Bool.or_eq_true,beq_iff_eq,hij,or_false]
   constructor
   ·intro hd;have:=this.1 hd;omega
   ·intro hi;exact hold' i z hz hzc (by omega)
 ·intro i z hz hzn hi
  have hij:i≠j:=by
   rintro rfl
   rw [hx]at hz;cases hz
   rw [hjn]at hzn;cases hzn
  simp [hnews i z hz hzn (by omega)]
 ·intro id z hz
  rw [hX'g]at hz
  split at hz
  ·rename_i he;exact .inl ⟨he,hz⟩
  ·rename_i he
   have he':(aM l f (j+1)).n<=id:=by omega
   rcases I.x1 id z hz with h1 | ⟨h1,i,z',a1,a2,a3,a4,a5,a6⟩
   ·have:=S.n
    have:(aM l f j).n<=(aM l f (j+1)).n:=hn1
    omega
   ·refine .inr ⟨he',i,z',?_,a2,a3,by simp [a4],a5,a6⟩
    have hil:=(List.getElem?_eq_some_iff.1 a2).1
    obtain ⟨_,y',hy',_⟩:=D.newRow a2 a3
    rcases Nat.lt_or_ge j i with h4 | h4
    ·omega
    ·exfalso
     rcases Nat.lt_or_ge i j with h5 | h5
     ·have:=D.mono (i:=i+1) (q:=j) (by omega) (by omega)
      rw [hy']at this;simp at this
      have:(aM l f j).n<=(aM l f (j+1)).n:=hn1
      omega
     ·have:i=j:=by omega
      subst this
      rw [hx]at a2;cases a2
      rw [hjn]at a3;cases a3
 ·intro id hid
  rw [hX'g,if_pos hid]
 ·intro i z hz hzn hd hi
  have hij:i≠j:=by omega
  have hil:=(List.getElem?_eq_some_iff.1 hz).1
  have:=D.mono (i:=j+1) (q:=i) (by omega) (by omega)
  rw [hX'g,if_neg (by show ¬ _<(aM l f (j+1)).n;omega)]
  exact I.x3 i z hz hzn (by simpa [hij] using hd) (by omega)
 ·intro id z b base sz o h1 h2 h3
  rw [hX'g]at h1
  split at h1
  ·rename_i he
   obtain ⟨b',base',sz',o',g1,g2,g3⟩:=h.rel.obj id z h1
   have:=Sg.le_join τ σ _ _ _ g1
   rw [h2]at this
   obtain ⟨rfl,rfl,rfl⟩:b=b'/\base=base'/\sz=sz':=by simpa using this
   rw [h3]at g2;cases g2
   refine g3.mono ⟨fun id' g' z' hz'=>?_,by exact fun _ _ _ h=>h⟩
   have hb:=h.rel.bnd id' g' z' hz'
   simp only [Sg.cut]
   rw [if_pos (by omega)]
   exact Sg.le_join τ σ _ _ _ hz'
  ·rename_i he
   rw [hσ id _ (by omega)]at h2
   rw [hout id z b base sz h1 (by omega) h2]at h3
   refine (I.ob id z b base sz o h1 h2 h3).mono (vL F.ext ?_)
   have:=S.n
   have:(aM l f j).n<=(aM l f (j+1)).n:=hn1
   omega
 ·intro id g z hz
  by_cases hid:id<(aM l f (j+1)).n
  ·exact .inl hid
  ·rw [hσ id g (by show (aM l f (j+1)).n<=id;omega)]at hz
   rcases I.dm id g z hz with h1 | ⟨i,z',a1,a2,a3,a4,a5⟩
   ·have:=S.n;omega
   ·refine .inr ⟨i,z',?_,a2,a3,by simp [a4],a5⟩
    have hil:=(List.getElem?_eq_some_iff.1 a2).1
    rcases Nat.lt_or_ge j i with h4 | h4
    ·omega
    ·exfalso
     obtain ⟨_,y',hy',_⟩:=D.newRow a2 a3
     rcases Nat.lt_or_ge i j with h5 | h5
     ·have:=D.mono (i:=i+1) (q:=j) (by omega) (by omega)
      rw [hy']at this;simp at this
      omega
     ·have:i=j:=by omega
      subst this
      rw [hx]at a2;cases a2
      rw [hjn]at a3;cases a3
 ·intro b hb hnb
  by_cases hh:Has (σ.cut (aM l f j).n) (aM l f j) b
  ·exfalso
   obtain ⟨id,z,base,sz,h1,h2⟩:=hh
   rw [hcut id _ (Sto.get_lt h1)]at h2
   rcases I.own b ⟨id,z,base,sz,hR _ _ h1,h2⟩ with h3 | h3
   ·exact hnb h3
   ·omega
  ·rw [h.frame b (Nat.lt_of_lt_of_le hb I.size) hh]
   exact I.frame b hb hnb
 ·intro b hb
  rcases F.own b hb with h1 | h1
  ·exact I.own b h1
  ·exact .inr (Nat.le_trans I.size h1)
 ·exact Nat.le_trans h.low (by rw [S.low];exact I.low)
 ·intro id h1 h2
  have hl:=h0n h1
  have hlj:id<(aM l f j).n:=Nat.lt_of_lt_of_le hl S.n
  obtain ⟨c1,c2,c3⟩:=h.keep id hlj h2
  obtain ⟨a1,a2,a3⟩:=I.keep id h1 (by rw [<-S.low];exact Nat.lt_of_lt_of_le h2 h.low)
  refine ⟨by rw [c1,S.get id hl,a1],fun g=>?_,fun z b base sz h3 h4=>?_⟩
  ·rw [hσ2 id g hlj (by rw [c2,hcut id g hlj]),a2]
  ·rw [c3 z b base sz (by rw [S.get id hl,a1];exact h3) (by rw [hcut id _ hlj,a2];exact h4)]
   exact a3 z b base sz h3 h4
 ·intro id h1 h2
  have hl:=h0n h1
  have hlj:id<(aM l f j).n:=Nat.lt_of_lt_of_le hl S.n
  obtain ⟨a1,a2⟩:=I.hole id h1 h2
  obtain ⟨c1,c2⟩:=h.hole id hlj (by rw [S.get id hl];exact a1)
  refine ⟨c1,fun g=>?_⟩
  rw [hσ2 id g hlj (by rw [c2,hcut id g hlj]),a2]
end
end Go.Abs
