/-
  The abstract machine: the trace of a drawn region.
-/
import Derived.Test.YtpmccfnfikkkbaaGreatUn
set_option linter.unusedVariables false
set_option linter.unusedSimpArgs false
namespace Go.Abs
theorem EU {e e':Env} {dst:Option Tmp} {v:AV} (h:e.put dst v=some e'):e'.nt=e.nt/\e'.ro=e.ro/\e'.fn=e.fn/\e'.ds=e.ds/\e'.s=e.s/\e'.r=e.r/\
 (∀ d,e'.t.get d=if dst=some d then some v else e.t.get d)/\∀ d,dst=some d->d<e.nt:=by
 unfold Env.put at h
 cases dst with
 | none=>simp at h;subst h;simp
 | some d=>
   simp only at h;rw [eP]at h;split at h
   ·rename_i b
    simp at h;subst h;refine ⟨rfl,rfl,rfl,rfl,rfl,rfl,fun c=>?_,fun c h=>by cases h;exact b⟩;rw [Tr.get_set];by_cases a:c=d
    ·subst a;simp
    ·rw [if_neg a,if_neg (fun h=>a (by simpa using h.symm))]
   ·simp at h
def aL (l:List TrE) (f:Env) (i:Nat):Sto:=match l[i]? with
 | some x=>x.e.s
 | none=>f.s
@[simp] theorem IE (x:TrE) (l:List TrE) (f:Env) (i:Nat):aL (x::l) f (i+1)=aL l f i:=by simp [aL]
@[simp] theorem aSv (f:Env) (i:Nat):aL [] f i=f.s:=by simp [aL]
@[simp] theorem aAu (x:TrE) (l:List TrE) (f:Env):aL (x::l) f 0=x.e.s:=by simp [aL]
theorem CB {l:List TrE} {f:Env} {i:Nat} {x:TrE} (h:l[i]?=some x):aL l f i=x.e.s:=by simp [aL,h]
def tabT (d:Nat) (l:List TrE) (v:Option AV):Option AV:=l.foldl (fun v x=>if x.o.dst=some d then some x.v else v) v
structure RowOk (P:Program) (call:bR) (ops:List Oper) (nt0:Nat) (ro0:Option Nat) (x:TrE) (s s':Sto) (last:Prop) (p:Option (AV × Sto)):Prop where
 want:cV ops x.o x.e=some x.run
 nt:x.e.nt=nt0
 ro:x.e.ro=ro0
 st:x.e.s=s
 out:(x.run=false/\x.chg=false/\x.v=.undef/\s'=s)∨(x.run=true/\x.chg=false/\iD P call x.o x.e=some (.val x.v)/\s'=s)∨
  (x.run=true/\x.chg=true/\iD P call x.o x.e=some (.val' x.v s')/\(last->p=none))∨(x.run=true/\x.chg=true/\last/\p=some (x.v,s')/\iD P call x.o x.e=some (.pan x.v s'))
 dst:∀ d,x.o.dst=some d->d<nt0∨(last/\∃ q,p=some q)
structure Traced (P:Program) (call:bR) (ops rest:List Oper) (i:Nat) (e:Env) (l:List TrE) (f:Env) (p:Option (AV × Sto)):Prop where
 i:∀ (q:Nat) x,l[q]?=some x->x.i=i+q
 o:∀ (q:Nat) x,l[q]?=some x->rest[q]?=some x.o
 t:∀ (q:Nat) x,l[q]?=some x->∀ d,x.e.t.get d=tabT d (l.take q) (e.t.get d)
 row:∀ (q:Nat) x,l[q]?=some x->RowOk P call ops e.nt e.ro x (aL l f q) (aL l f (q+1)) (q+1=l.length) p
 first:aL l f 0=e.s
 fin:p=none->l.length=rest.length/\f.nt=e.nt/\f.ro=e.ro/\f.fn=e.fn/\f.ds=e.ds/\f.r=e.r/\∀ d,f.t.get d=tabT d l (e.t.get d)
 pan:∀ v s,p=some (v,s)->s=f.s/\0<l.length/\∀ x,l[l.length-1]?=some x->x.chg=true
theorem aFw {P:Program} {call:bR} {ops:List Oper}:∀ (rest:List Oper) (i:Nat) (e:Env) (l:List TrE) (f:Env) (p:Option (AV × Sto)),CF P call ops rest i e=some (l,f,p)->Traced P call ops rest i e l f p:=by
 intro rest
 induction rest with
 | nil=>
   intro i e l f p h;simp [CF]at h;obtain ⟨rfl,rfl,rfl⟩:=h;exact ⟨by simp,by simp,by simp,by simp,by simp,fun _=>by simp [tabT],fun v s h=>by cases h⟩
 | cons o rest ih=>
   intro i e l f p h
   have cons:∀ (x:TrE) (e':Env),pN x (CF P call ops rest (i+1) e')=some (l,f,p)->x.i=i->x.o=o->x.e=e->e'.nt=e.nt->e'.ro=e.ro->e'.fn=e.fn->e'.ds=e.ds->e'.r=e.r->
    (∀ d,e'.t.get d=if o.dst=some d then some x.v else e.t.get d)->(∀ d,o.dst=some d->d<e.nt)->cV ops o e=some x.run->
    ((x.run=false/\x.chg=false/\x.v=.undef/\e'.s=e.s)∨(x.run=true/\x.chg=false/\iD P call o e=some (.val x.v)/\e'.s=e.s)∨(x.run=true/\x.chg=true/\iD P call o e=some (.val' x.v e'.s)))->
    Traced P call ops (o::rest) i e l f p:=by
    intro x e' E hi D C F H L J hr O hd B G;unfold pN at E;split at E
    ·rename_i l' N Q A
     simp at E;obtain ⟨rfl,rfl,rfl⟩:=E;have T:=ih (i+1) e' l' N Q A
     have M:aL (x::l') N 1=e'.s:=by rw [IE];exact T.first
     refine ⟨?_,?_,?_,?_,by simp [C],?_,?_⟩
     ·intro q y b
      cases q with
      | zero=>simp at b;subst b;simpa using hi
      | succ q=>simp at b;rw [T.i q y b];omega
     ·intro q y b
      cases q with
      | zero=>simp at b;subst b;simp [D]
      | succ q=>simp at b;simpa using T.o q y b
     ·intro q y b d
      cases q with
      | zero=>simp at b;subst b;simp [tabT,C]
      | succ q=>
        simp at b;rw [T.t q y b d,O d];simp [tabT,D]
     ·intro q y b
      cases q with
      | zero=>
        simp at b;subst b;simp only [Nat.zero_add,aAu,M];refine ⟨by rw [D,C];exact B,by rw [C],by rw [C],rfl,?_,fun d u=>.inl (hd d (by rw [<-D];exact u))⟩;rw [D,C]
        rcases G with a | a | a
        ·exact .inl a
        ·exact .inr (.inl a)
        ·refine .inr (.inr (.inl ⟨a.1,a.2.1,a.2.2,fun I=>?_⟩))
         cases c:Q with
         | none=>rfl
         | some vs=>
           have:=(T.pan vs.1 vs.2 c).2.1;simp at I;simp [I]at this
      | succ q=>
        simp at b;have R:=T.row q y b;simp only [IE];rw [F,H]at R;refine ⟨R.want,R.nt,R.ro,R.st,?_,?_⟩
        ·rcases R.out with a | a | a | a
         ·exact .inl a
         ·exact .inr (.inl a)
         ·exact .inr (.inr (.inl ⟨a.1,a.2.1,a.2.2.1,fun I=>a.2.2.2 (by simpa using I)⟩))
         ·exact .inr (.inr (.inr ⟨a.1,a.2.1,by simpa using a.2.2.1,a.2.2.2⟩))
        ·intro d u
         rcases R.dst d u with a | a
         ·exact .inl a
         ·exact .inr ⟨by simpa using a.1,a.2⟩
     ·intro c
      obtain ⟨a,V,Y,Z,h5,h6,h7⟩:=T.fin c;refine ⟨by simp [a],by rw [V,F],by rw [Y,H],by rw [Z,L],by rw [h5,J],by rw [h6,hr],fun d=>?_⟩;rw [h7 d,O d];simp [tabT,D]
     ·intro v s c
      obtain ⟨S,g2,U⟩:=T.pan v s c;refine ⟨S,by simp,fun y b=>U y ?_⟩;rw [<-b]
      have:(x::l').length-1=(l'.length-1)+1:=by simp;omega
      rw [this];simp
    ·cases E
   simp only [CF]at h;split at h
   ·cases h
   ·rename_i B
    split at h
    ·rename_i e' c
     obtain ⟨a1,a2,a3,a4,a5,a6,a7,a8⟩:=EU c;exact cons _ e' h rfl rfl rfl a1 a2 a3 a4 a6 a7 a8 B (.inl ⟨rfl,rfl,rfl,a5⟩)
    ·cases h
   ·rename_i B
    split at h
    ·rename_i v m
     split at h
     ·rename_i e' c
      obtain ⟨a1,a2,a3,a4,a5,a6,a7,a8⟩:=EU c;exact cons _ e' h rfl rfl rfl a1 a2 a3 a4 a6 a7 a8 B (.inr (.inl ⟨rfl,rfl,m,a5⟩))
     ·cases h
    ·rename_i v s m
     split at h
     ·rename_i e' c
      obtain ⟨a1,a2,a3,a4,a5,a6,a7,a8⟩:=EU c;exact cons _ e' h rfl rfl rfl a1 a2 a3 a4 a6 a7 a8 B (.inr (.inr ⟨rfl,rfl,by rw [a5];exact m⟩))
     ·cases h
    ·rename_i v s m
     simp at h;obtain ⟨rfl,rfl,rfl⟩:=h;refine ⟨?_,?_,?_,?_,by simp,fun c=>(by cases c),fun v' s' c=>(by cases c;simp)⟩
     ·intro q x k;cases q with
      | zero=>simp at k;subst k;rfl
      | succ q=>simp at k
     ·intro q x k;cases q with
      | zero=>simp at k;subst k;rfl
      | succ q=>simp at k
     ·intro q x k;cases q with
      | zero=>simp at k;subst k;simp [tabT]
      | succ q=>simp at k
     ·intro q x k
      cases q with
      | zero=>
        simp at k;subst k;refine ⟨B,rfl,rfl,by simp,.inr (.inr (.inr ⟨rfl,rfl,rfl,rfl,m⟩)),fun d _=>.inr ⟨rfl,_,rfl⟩⟩
      | succ q=>simp at k
    ·cases h
theorem aAv (acc:List Nat) (o:Oper) (i:Nat) (h:(PU acc o).testBit i=true):∃ e∈o.after,Region.binds .any e=true/\(e.on=i∨(acc.getD e.on 0).testBit i=true):=by
 unfold PU at h
 have:∀ (l:List Edge) (m:Nat),(l.foldl (fun m e=>bif Region.binds .any e then m ||| (2 ^ e.on ||| acc.getD e.on 0) else m) m).testBit i=true->
  m.testBit i=true∨∃ e∈l,Region.binds .any e=true/\(e.on=i∨(acc.getD e.on 0).testBit i=true):=by
  intro l
  induction l with
  | nil=>intro m h;exact .inl h
  | cons e l d=>
    intro m h;rw [List.foldl_cons]at h
    rcases d _ h with a | ⟨e',a,b⟩
    ·cases c:Region.binds .any e with
     | false=>rw [c]at a;exact .inl a
     | true=>
       rw [c]at a;simp only [cond_true,Nat.testBit_or,Bool.or_eq_true,Nat.testBit_two_pow,decide_eq_true_eq]at a
       rcases a with a | a
       ·exact .inl a
       ·exact .inr ⟨e,by simp,c,a⟩
    ·exact .inr ⟨e',by simp [a],b⟩
 rcases this _ 0 h with a | ⟨e,a,b⟩
 ·simp at a
 ·exact ⟨e,by simpa using a,b⟩
theorem EV:∀ (l:List Oper) (acc:List Nat) (j:Nat),j<acc.length->(rN l acc).getD j 0=acc.getD j 0:=by
 intro l
 induction l with
 | nil=>intro acc j h;rfl
 | cons o l a=>
   intro acc j h;rw [rN,a _ _ (by simp;omega)];simp [List.getD_eq_getElem?_getD,List.getElem?_append,h]
theorem TH:∀ (l:List Oper) (acc:List Nat) (q:Nat) (o:Oper),l[q]?=some o->∃ b:List Nat,(∀ j i,(b.getD j 0).testBit i=true->((rN l acc).getD j 0).testBit i=true)/\(rN l acc).getD (acc.length+q) 0=PU b o:=by
 intro l
 induction l with
 | nil=>intro acc q o h;simp at h
 | cons a l m=>
   intro acc q o h
   cases q with
   | zero=>
     simp at h;subst h;refine ⟨acc,fun j i c=>?_,?_⟩
     ·by_cases d:j<acc.length
      ·rw [rN,EV _ _ _ (by simp;omega)]
       simp only [List.getD_eq_getElem?_getD,List.getElem?_append,d,if_true]at c ⊢;exact c
      ·simp [List.getD_eq_getElem?_getD,List.getElem?_eq_none (Nat.le_of_not_lt d)]at c
     ·rw [rN,EV _ _ _ (by simp)]
      simp
   | succ q=>
     simp at h;obtain ⟨b,e,k⟩:=m (acc++[PU acc a]) q o h;refine ⟨b,e,?_⟩;rw [rN];rw [<-k]
     congr 1
     simp;omega
theorem PE {ops:List Oper} {j i:Nat} {o:Oper} (m:ops[j]?=some o) (h:((cI ops).getD j 0).testBit i=true):∃ e∈o.after,Region.binds .any e=true/\(e.on=i∨((cI ops).getD e.on 0).testBit i=true):=by
 obtain ⟨q,k,a⟩:=TH ops [] j o m;simp only [List.length_nil,Nat.zero_add]at a;unfold cI at h ⊢;rw [a]at h;obtain ⟨e,b,c,d⟩:=aAv _ _ _ h;exact ⟨e,b,c,d.imp id (k _ _)⟩
theorem KM {ops:List Oper} {as:List Nat}:∀ (l:List Oper) (i:Nat),CE ops as l i=true->∀ (q a:Nat) d c,q<a->l[q]?=some d->l[a]?=some c->UB ops as (i+q) d (i+a) c=true:=by
 intro l
 induction l with
 | nil=>intro i h q a d c _ b;simp at b
 | cons o l k=>
   intro i h q a d c m b e;simp only [CE,Bool.and_eq_true,List.all_eq_true]at h
   obtain ⟨a,rfl⟩:∃ z,a=z+1:=⟨a-1,by omega⟩
   simp at e
   cases q with
   | zero=>
     simp at b;subst b;have:=h.1 (c,i+1+a) (List.mk_mem_zipIdx_iff_le_and_getElem?_sub.2 ⟨by omega,by rw [show i+1+a-(i+1)=a by omega];exact e⟩)
     simpa [Nat.add_assoc,Nat.add_comm 1] using this
   | succ q=>
     simp at b;have:=k (i+1) h.2 q a d c (by omega) b e;rw [show i+(q+1)=i+1+q by omega,show i+(a+1)=i+1+a by omega];exact this
theorem xR {ops:List Oper} {i j d:Nat} {e k:Oper} (h:nZ ops=true) (m:i<j) (o:ops[i]?=some e) (q:ops[j]?=some k) (r:(e.dst=some d/\d∈mC ops k)∨(k.dst=some d/\d∈mC ops e)):
 ((cI ops).getD j 0).testBit i=true:=by
 simp only [nZ,Bool.and_eq_true]at h;have a:=KM ops 0 h.2 i j e k m o q;simp only [Nat.zero_add,UB,Bool.or_eq_true,Bool.not_eq_true']at a
 rcases a with a | a
 ·simp only [Bool.or_eq_false_iff]at a
  exfalso
  rcases r with ⟨b,c⟩ | ⟨b,c⟩
  ·have:=a.1
   simp [zW,b]at this;exact this c
  ·have:=a.2
   simp [zW,b]at this;exact this c
 ·exact a
theorem XC {ops:List Oper} {j:Nat} {o:Oper} {e:Edge} (h:nZ ops=true) (c:ops[j]?=some o) (b:e∈o.after) (a:Region.binds .any e=true):e.on<j:=by
 simp only [nZ,Bool.and_eq_true]at h;have:=h.1.2;simp only [XF,List.all_eq_true]at this;have:=this (o,j) (List.mk_mem_zipIdx_iff_getElem?.2 c) e (by simpa using b);simp [a,Nat.blt_eq]at this;exact this
theorem KN {as:List Nat}:∀ (d:List Nat) (c:Nat) (rest:List Nat),fS as (d++c::rest)=true->fS as (c::rest)=true:=by
 intro d
 induction d with
 | nil=>intro c rest h;exact h
 | cons a d e=>
   intro c rest h;apply e c rest
   cases d with
   | nil=>simp only [List.nil_append,List.cons_append,fS,Bool.and_eq_true]at h ⊢;exact h.2
   | cons b d=>simp only [List.cons_append,fS,Bool.and_eq_true]at h ⊢;exact h.2
theorem TI {as:List Nat} {done:Nat->Prop} (e:∀ j,done j->∀ i,(as.getD j 0).testBit i=true->done i):∀ (rest:List Nat) (c:Nat),fS as (c::rest)=true->∀ j∈rest,(∀ i,(as.getD j 0).testBit i=true->done i)->done c:=by
 intro rest
 induction rest with
 | nil=>intro c _ j a;simp at a
 | cons d rest k=>
   intro c h j a b;simp only [fS,Bool.and_eq_true]at h
   rcases List.mem_cons.1 a with rfl | a
   ·exact b c h.1
   ·exact e d (k d h.2 j a b) c h.1
end Go.Abs
/-
 The abstract machine: the store of a drawn region.
-/
namespace Go.Abs
structure Drawn (P:Program) (call:bR) (ops:List Oper) (e0:Env) (l:List TrE) (f:Env) (p:Option (AV × Sto)):Prop where
 T:Traced P call ops ops 0 e0 l f p
 dr:nZ ops=true
 ch:fS (cI ops) (dQ l)=true
 nw:tG (cI ops) (lD l) (dQ l)=true
 gr:gZ l f.s.n=true
 un:jG l=true
section
variable {P:Program} {call:bR} {ops:List Oper} {e0:Env} {l:List TrE} {f:Env} {p:Option (AV × Sto)}
theorem Drawn.ix (D:Drawn P call ops e0 l f p) {j:Nat} {x:TrE} (h:l[j]?=some x):x.i=j:=by simpa using D.T.i j x h
theorem PF:∀ (l:List TrE) (f:Env),gZ l f.s.n=true->∀ i,i<l.length->(aL l f i).n<=(aL l f (i+1)).n:=by
 intro l
 induction l with
 | nil=>intro f _ i h;simp at h
 | cons x l b=>
   intro f h i a
   cases l with
   | nil=>
     simp only [gZ]at h;simp at a;subst a;simp [Nat.ble_eq]at h
     simpa using h
   | cons y l=>
     simp only [gZ,Bool.and_eq_true,Nat.ble_eq]at h
     cases i with
     | zero=>simpa using h.1
     | succ i=>simpa using b f h.2 i (by simpa using a)
theorem Drawn.mono (D:Drawn P call ops e0 l f p) {i q:Nat} (h:i<=q) (b:q<=l.length):(aL l f i).n<=(aL l f q).n:=by
 obtain ⟨d,rfl⟩:=Nat.exists_eq_add_of_le h;clear h
 induction d with
 | zero=>exact Nat.le_refl _
 | succ d a=>exact Nat.le_trans (a (by omega)) (PF l f D.gr (i+d) (by omega))
theorem jZ (l:List TrE) (f:Env):aL l f l.length=f.s:=by simp [aL]
theorem Drawn.newRow (D:Drawn P call ops e0 l f p) {j:Nat} {x:TrE} (h:l[j]?=some x) (b:x.isNew=true):(x.run=true/\(j+1=l.length->p=none))/\∃ y,aL l f (j+1)=(aL l f j).push y/\
 ∀ s:Sto,s.n=(aL l f j).n->iD P call x.o {x.e with s:=s} = some (.val' x.v (s.push y)):=by
 have R:=D.T.row j x h;simp only [TrE.isNew,Bool.and_eq_true]at b
 rcases R.out with a | a | a | a
 ·rw [a.2.1]at b;cases b.1
 ·rw [a.2.1]at b;cases b.1
 ·obtain ⟨v,y,c,d⟩:=KP b.2 a.2.2.1
  simp only [ORes.val'.injEq]at c;obtain ⟨rfl,c⟩:=c;rw [<-R.st];exact ⟨⟨a.1,a.2.2.2⟩,y,c,d⟩
 ·obtain ⟨v,y,c,d⟩:=KP b.2 a.2.2.2.2
  cases c
theorem Drawn.step (D:Drawn P call ops e0 l f p) {j:Nat} {x:TrE} (h:l[j]?=some x) (c:x.isChg=false):(x.isNew=false/\aL l f (j+1)=aL l f j)∨(x.isNew=true/\∃ y,aL l f (j+1)=(aL l f j).push y):=by
 cases e:x.isNew with
 | true=>obtain ⟨_,y,a,_⟩:=D.newRow h e;exact .inr ⟨rfl,y,a⟩
 | false=>
   have b:x.chg=false:=by
    cases d:x.chg with
    | false=>rfl
    | true=>
      simp only [TrE.isChg,TrE.isNew,d,Bool.true_and]at c e;rw [e]at c;cases c
   have R:=D.T.row j x h
   rcases R.out with a | a | a | a
   ·exact .inl ⟨rfl,a.2.2.2⟩
   ·exact .inl ⟨rfl,a.2.2.2⟩
   ·rw [a.2.1]at b;cases b
   ·rw [a.2.1]at b;cases b
structure Seg (l:List TrE) (f:Env) (i q:Nat):Prop where
 n:(aL l f i).n<=(aL l f q).n
 low:(aL l f q).low=(aL l f i).low
 get:∀ id,id<(aL l f i).n->(aL l f q).get id=(aL l f i).get id
 new:∀ id,(aL l f i).n<=id->id<(aL l f q).n->∃ j y,i<=j/\j<q/\l[j]?=some y/\y.isNew=true/\(aL l f j).n=id/\(aL l f (j+1)).get id=(aL l f q).get id
 top:(∀ id,(aL l f i).n<=id->(aL l f i).o.get id=none)->∀ id,(aL l f q).n<=id->(aL l f q).o.get id=none
theorem Drawn.seg (D:Drawn P call ops e0 l f p) {i:Nat}:∀ (d:Nat),i+d<=l.length->(∀ j x,i<=j->j<i+d->l[j]?=some x->x.isChg=false)->Seg l f i (i+d):=by
 intro d
 induction d with
 | zero=>intro _ _;exact ⟨Nat.le_refl _,rfl,fun _ _=>rfl,fun id e a=>(by simp at a;omega),fun h=>h⟩
 | succ d u=>
   intro v q
   have S:=u (by omega) fun j x e a=>q j x e (by omega)
   obtain ⟨x,m⟩:∃ x,l[i+d]?=some x:=⟨l[i+d],by rw [List.getElem?_eq_getElem]⟩
   rw [show i+(d+1)=i+d+1 by omega]
   rcases D.step m (q (i+d) x (by omega) (by omega) m) with ⟨e,a⟩ | ⟨e,y,a⟩
   ·refine ⟨by rw [a];exact S.n,by rw [a];exact S.low,by rw [a];exact S.get,?_,by rw [a];exact S.top⟩
    intro id k c;rw [a]at c;obtain ⟨j,z,a1,a2,a3⟩:=S.new id k c;exact ⟨j,z,a1,by omega,by rw [a];exact a3⟩
   ·refine ⟨by rw [a];have:=S.n;simp;omega,by rw [a];exact S.low,?_,?_,?_⟩
    ·intro id b
     have:=S.n;rw [a,Sto.get_push,if_neg (by omega)];exact S.get id b
    ·intro id k c
     rw [a]at c;simp only [Sto.n_push]at c;by_cases b:id=(aL l f (i+d)).n
     ·exact ⟨i+d,x,by omega,by omega,m,e,b.symm,rfl⟩
     ·obtain ⟨j,z,a1,a2,a3,a4,a5,a6⟩:=S.new id k (by omega)
      refine ⟨j,z,a1,by omega,a3,a4,a5,?_⟩;rw [a6,a,Sto.get_push,if_neg b]
    ·intro r id b
     rw [a]at b ⊢;simp only [Sto.n_push]at b;show ((aL l f (i+d)).o.set _ y).get id=none;rw [Tr.get_set,if_neg (by omega)];exact S.top r id (by omega)
theorem Drawn.seg' (D:Drawn P call ops e0 l f p) {i q:Nat} (b:i<=q) (c:q<=l.length) (a:∀ j x,i<=j->j<q->l[j]?=some x->x.isChg=false):Seg l f i q:=by
 obtain ⟨d,rfl⟩:=Nat.exists_eq_add_of_le b;exact D.seg d c a
structure InvS (e0:Env) (l:List TrE) (f:Env) (σ0:Sg) (w0:World) (done:Nat->Bool) (pt:Nat) (σ:Sg) (X:Sto) (w:World):Prop where
 ptl:pt<=l.length
 chg:∀ (j:Nat) x,l[j]?=some x->x.isChg=true->(done j=true↔j<pt)
 nwd:∀ (j:Nat) x,l[j]?=some x->x.isNew=true->j<pt->done j=true
 rel:Rel σ X w
 xn:X.n=f.s.n
 x1:∀ id x,X.get id=some x->(id<(aL l f pt).n/\(aL l f pt).get id=some x)∨
  ((aL l f pt).n<=id/\∃ (j:Nat) (y:TrE),pt<=j/\l[j]?=some y/\y.isNew=true/\done j=true/\(aL l f j).n=id/\(aL l f (j+1)).get id=some x)
 x2:∀ id,id<(aL l f pt).n->X.get id=(aL l f pt).get id
 x3:∀ (j:Nat) y,l[j]?=some y->y.isNew=true->done j=true->pt<=j->X.get (aL l f j).n=(aL l f (j+1)).get (aL l f j).n
 ob:∀ id x b base sz o,X.get id=some x->σ id (dK x)=some (b,base,sz)->w.heap[b]?=some o->ObjR (σ.cut (max (aL l f pt).n (id+1))) base sz x o
 dm:∀ id g x,σ id g=some x->id<(aL l f pt).n∨∃ (j:Nat) (y:TrE),pt<=j/\l[j]?=some y/\y.isNew=true/\done j=true/\(aL l f j).n=id
 ext:σ0.le σ
 size:w0.heap.size<=w.heap.size
 frame:∀ b,b<w0.heap.size->¬ Has σ0 e0.s b->w.heap[b]?=w0.heap[b]?
 own:∀ b,Has σ X b->Has σ0 e0.s b∨w0.heap.size<=b
 low:(aL l f pt).low<=e0.s.low
 keep:∀ id,id<e0.s.n->id<(aL l f pt).low->(aL l f pt).get id=e0.s.get id/\(∀ g,σ id g=σ0 id g)/\∀ x b base sz,e0.s.get id=some x->σ0 id (dK x)=some (b,base,sz)->w.heap[b]?=w0.heap[b]?
 hole:∀ id,id<e0.s.n->e0.s.get id=none->(aL l f pt).get id=none/\∀ g,σ id g=σ0 id g
 os:w.os=w0.os
 out:w.output=w0.output
 tape:w.tape=w0.tape
 top:∀ id,(aL l f pt).n<=id->(aL l f pt).o.get id=none
 mnew:∀ b off V,σ.m b off=some V->σ0.m b off=some V∨Has σ0 e0.s b∨w0.heap.size<=b
variable {σ0 σ:Sg} {w0 w w':World} {done done':Nat->Bool} {pt:Nat} {X:Sto}
theorem InvS.congr (I:InvS e0 l f σ0 w0 done pt σ X w) (h:∀ (j:Nat) x,l[j]?=some x->x.chg=true->done' j=done j):InvS e0 l f σ0 w0 done' pt σ X w:=by
 have e:∀ {x:TrE},x.isNew=true->x.chg=true:=fun a=>by simp only [TrE.isNew,Bool.and_eq_true]at a;exact a.1
 have q:∀ {x:TrE},x.isChg=true->x.chg=true:=fun a=>by simp only [TrE.isChg,Bool.and_eq_true]at a;exact a.1
 refine {I with chg:=?_,nwd:=?_,x1:=?_,x3:=?_,dm:=?_}
 ·intro j x a d;rw [h j x a (q d)];exact I.chg j x a d
 ·intro j x a b k;rw [h j x a (e b)];exact I.nwd j x a b k
 ·intro id x a
  rcases I.x1 id x a with c | ⟨c,j,y,a1,a2,a3,a4,a5⟩
  ·exact .inl c
  ·exact .inr ⟨c,j,y,a1,a2,a3,by rw [h j y a2 (e a3)];exact a4,a5⟩
 ·intro j y o b m k;rw [h j y o (e b)]at m;exact I.x3 j y o b m k
 ·intro id g x a
  rcases I.dm id g x a with c | ⟨j,y,a1,a2,a3,a4,a5⟩
  ·exact .inl c
  ·exact .inr ⟨j,y,a1,a2,a3,by rw [h j y a2 (e a3)];exact a4,a5⟩
theorem xS {σ τ:Sg} (h:σ.le τ) {n m:Nat} (c:n<=m):(σ.cut n).le (τ.cut m):=by
 refine ⟨fun id g x a=>?_,h.m⟩;simp only [Sg.cut]at a ⊢;split at a
 ·rename_i b
  rw [if_pos (by omega)];exact h _ _ _ a
 ·cases a
theorem InvS.quiet {τ:Sg} (I:InvS e0 l f σ0 w0 done pt σ X w) (Q:QStp σ w τ w'):InvS e0 l f σ0 w0 done pt τ X w':=by
 have q:=Q.q
 have h:∀ {b:Nat},Has σ X b->w'.heap[b]?=w.heap[b]?:=fun e=>q.heap _ (I.rel.lt e)
 refine {I with rel:=Q.rel I.rel,ob:=?_,dm:=fun id g x y=>I.dm id g x (by rw [<-Q.s];exact y),ext:=Sg.le_trans I.ext Q.le,size:=Nat.le_trans I.size q.size,frame:=?_,own:=fun b e=>I.own b (e.same Q.s),keep:=?_,hole:=fun id a c=>⟨(I.hole id a c).1,fun g=>by rw [Q.s];exact (I.hole id a c).2 g⟩,os:=by rw [q.os,I.os],out:=by rw [q.out,I.out],tape:=by rw [q.tape,I.tape],mnew:=?_}
 ·intro id x b base sz o a c d
  rw [Q.s]at c;rw [h ⟨id,x,base,sz,a,c⟩]at d;exact (I.ob id x b base sz o a c d).mono (xS Q.le (Nat.le_refl _))
 ·intro b e v
  rw [q.heap b (Nat.lt_of_lt_of_le e I.size)];exact I.frame b e v
 ·intro id a c
  obtain ⟨a1,a2,a3⟩:=I.keep id a c;refine ⟨a1,fun g=>by rw [Q.s];exact a2 g,fun x b base sz d k=>?_⟩
  have u:X.get id=some x:=by rw [I.x2 id (Sto.get_lt (by rw [a1];exact d)),a1];exact d
  rw [h ⟨id,x,base,sz,u,by rw [a2];exact k⟩];exact a3 x b base sz d k
 ·intro b off V r
  rcases Q.m b off V r with a | a
  ·exact I.mnew b off V a
  ·exact .inr (.inr (Nat.le_trans I.size a.1))
theorem InvS.fin (D:Drawn P call ops e0 l f p) (I:InvS e0 l f σ0 w0 done pt σ X w) (q:∀ (j:Nat) x,pt<=j->l[j]?=some x->x.isChg=false) (r:∀ (j:Nat) x,l[j]?=some x->x.isNew=true->done j=true):
 Stp σ0 e0.s w0 σ f.s w:=by
 have S:=D.seg' I.ptl (Nat.le_refl _) fun j x d _ u=>q j x d u
 have a:=jZ l f
 have c:∀ id,f.s.get id=X.get id:=by
  intro id;by_cases d:id<(aL l f pt).n
  ·rw [I.x2 id d,<-a,S.get id d]
  ·by_cases e:id<f.s.n
   ·obtain ⟨j,y,a1,a2,a3,a4,a5,a6⟩:=S.new id (by omega) (by rw [a];exact e)
    rw [a]at a6;rw [<-a6,<-a5,I.x3 j y a3 a4 (r j y a3 a4) a1]
   ·rw [Sto.get_eq,if_neg e,Sto.get_eq,if_neg (by rw [I.xn];exact e)]
 have k:=S.top I.top;rw [a]at k
 have o:e0.s.n<=f.s.n:=by
  have:=D.mono (Nat.zero_le l.length) (Nat.le_refl _);rw [a,D.T.first]at this;exact this
 have m:∀ {id},id<e0.s.n->id<(aL l f pt).n:=fun {id} h=>by
  have:=D.mono (Nat.zero_le pt) I.ptl;rw [D.T.first]at this;omega
 refine ⟨I.rel.same c I.xn.symm k,I.ext,I.size,I.frame,?_,o,?_,?_,I.os,I.out,I.tape,?_,I.mnew⟩
 ·rintro b ⟨id,x,base,sz,d,e⟩
  exact I.own b ⟨id,x,base,sz,by rw [<-c];exact d,e⟩
 ·rw [<-a,S.low];exact I.low
 ·intro id d e
  rw [<-a,S.low]at e;obtain ⟨a1,a2,a3⟩:=I.keep id d e;refine ⟨?_,a2,a3⟩;rw [c,I.x2 id (m d),a1]
 ·intro id d e
  obtain ⟨a1,a2⟩:=I.hole id d e;refine ⟨?_,a2⟩;rw [c,I.x2 id (m d),a1]
theorem IF {τ:Sg} (I:InvS e0 l f σ0 w0 done pt σ X w) (h:∀ b off V,τ.m b off=some V->σ.m b off=some V∨Has σ X b∨w.heap.size<=b):
 ∀ b off V,τ.m b off=some V->σ0.m b off=some V∨Has σ0 e0.s b∨w0.heap.size<=b:=by
 intro b off V c
 rcases h b off V c with a | a | a
 ·exact I.mnew b off V a
 ·exact .inr (I.own b a)
 ·exact .inr (.inr (Nat.le_trans I.size a))
theorem InvS.new (D:Drawn P call ops e0 l f p) (I:InvS e0 l f σ0 w0 done pt σ X w) {j:Nat} {x:TrE} (V:l[j]?=some x) (U:x.isNew=true) (J:done j=false) {y:AObj} (hy:aL l f (j+1)=(aL l f j).push y)
 {τ:Sg} (h:Stp (σ.cut (aL l f j).n) {n:=(aL l f j).n,low:=0,o:=.leaf} w τ (({n:=(aL l f j).n,low:=0,o:=.leaf}:Sto).push y) w'):
 ∃ X',InvS e0 l f σ0 w0 (fun i=>done i||i==j) pt (τ.join σ) X' w'/\τ.le (τ.join σ)/\σ.le (τ.join σ):=by
 have ah:j<l.length:=(List.getElem?_eq_some_iff.1 V).1
 have N:pt<=j:=by
  rcases Nat.lt_or_ge j pt with a | a
  ·rw [I.nwd j x V U a]at J;cases J
  ·exact a
 have ab:(aL l f j).n<f.s.n:=by
  have:=D.mono (i:=j+1) (by omega) (Nat.le_refl l.length);rw [jZ,hy]at this;simp at this;omega
 have ac:(aL l f pt).n<=(aL l f j).n:=D.mono N (by omega)
 have u:∀ (i:Nat) (z:TrE),l[i]?=some z->z.isNew=true->(aL l f i).n=(aL l f j).n->i=j:=by
  intro i z c v G;have ag:=(List.getElem?_eq_some_iff.1 c).1;obtain ⟨_,y',ad,_⟩:=D.newRow c v
  rcases Nat.lt_trichotomy i j with a | a | a
  ·have:=D.mono (i:=i+1) (q:=j) (by omega) (by omega)
   rw [ad]at this;simp at this;omega
  ·exact a
  ·have:=D.mono (i:=j+1) (q:=i) (by omega) (by omega)
   rw [hy]at this;simp at this;omega
 have B:∀ g,σ (aL l f j).n g=none:=by
  intro g
  cases hs:σ (aL l f j).n g with
  | none=>rfl
  | some z=>
    rcases I.dm _ g z hs with a | ⟨i,O,a1,a2,a3,a4,a5⟩
    ·omega
    ·rw [u i O a2 a3 a5]at a4
     rw [a4]at J;cases J
 have af:X.get (aL l f j).n=none:=by
  cases hg:X.get (aL l f j).n with
  | none=>rfl
  | some z=>
    obtain ⟨b,base,sz,o,a,_⟩:=I.rel.obj _ z hg;rw [B]at a;cases a
 have H:∀ id,({n:=(aL l f j).n,low:=0,o:=.leaf}:Sto).get id=none:=fun id=>by rw [Sto.get_eq];split<;>rfl
 let X':Sto:={n:=X.n,low:=X.low,o:=X.o.set (aL l f j).n y}
 have d:∀ id,X'.get id=if id=(aL l f j).n then some y else X.get id:=by
  intro id;show (X'.get id)=_;rw [Sto.get_eq,Sto.get_eq];show (if id<X.n then (X.o.set _ y).get id else none)=_;rw [Tr.get_set];by_cases a:id=(aL l f j).n
  ·subst a;simp [I.xn,ab]
  ·simp [a]
 have F:=aFz (X':=X') I.rel (show (σ.cut (aL l f j).n).m=σ.m from rfl) (fun id g R=>by simp only [Sg.cut];exact if_pos R) (fun id z c=>by rw [H]at c;cases c) h
  (fun id g a A=>by
    have:id=(aL l f j).n:=by simp at a A;omega
    rw [this];exact B g) (Nat.le_refl _) (by show _<=X.n;rw [I.xn];simp;omega)
  (fun id z c=>by
    rw [d]at c;split at c
    ·rename_i G;left;rw [Sto.get_push,if_pos G];exact c
    ·exact .inr ⟨c,H id⟩)
  (fun id k=>by
    show (X.o.set _ y).get id=none;have L:X.n<=id:=k;rw [Tr.get_set,if_neg (by rw [I.xn]at L;omega)]
    exact I.rel.top id L)
 have e:∀ b,b<w.heap.size->w'.heap[b]?=w.heap[b]?:=fun b E=>h.frame b E fun ⟨id,z,_,_,c,_⟩=>by rw [H]at c;cases c
 have r:∀ id g,id≠(aL l f j).n->(τ.join σ) id g=σ id g:=by
  intro id g k;simp only [Sg.join];split
  ·rename_i z c
   have E:=h.rel.bnd id g z c;simp at E
   have:id<(aL l f j).n:=by omega
   have:=(h.hole id this (H id)).2 g;rw [c]at this;simp only [Sg.cut]at this;rw [if_pos (by omega)]at this;exact this
  ·rfl
 have M:∀ i,(done i||i==j)=true->i≠j->done i=true:=by
  intro i a A
  simpa [A] using a
 refine ⟨X',⟨I.ptl,?_,?_,F.rel,I.xn,?_,?_,?_,?_,?_,Sg.le_trans I.ext F.ext,Nat.le_trans I.size F.size,?_,?_,I.low,?_,?_,by rw [h.os,I.os],by rw [h.out,I.out],by rw [h.tape,I.tape],I.top,IF I F.mnew⟩,Sg.le_join τ σ,F.ext⟩
 ·intro i z c Z
  rw [<-I.chg i z c Z]
  have C:i≠j:=by
   rintro rfl;rw [V]at c;cases c;simp only [TrE.isNew,TrE.isChg,Bool.and_eq_true,Bool.not_eq_true']at U Z;rw [U.2]at Z;cases Z.2
  simp [C]
 ·intro i z c v R
  simp [I.nwd i z c v R]
 ·intro id z c
  rw [d]at c;split at c
  ·rename_i G
   subst G;refine .inr ⟨ac,j,x,N,V,U,by simp,rfl,?_⟩;rw [hy,Sto.get_push,if_pos rfl];exact c
  ·rcases I.x1 id z c with a | ⟨a,i,O,a1,a2,a3,a4,a5⟩
   ·exact .inl a
   ·exact .inr ⟨a,i,O,a1,a2,a3,by simp [a4],a5⟩
 ·intro id k
  rw [d,if_neg (by omega)];exact I.x2 id k
 ·intro i z c v hd R
  by_cases C:i=j
  ·subst C
   rw [d,if_pos rfl,hy,Sto.get_push,if_pos rfl]
  ·rw [d,if_neg (fun G=>C (u i z c v G))]
   exact I.x3 i z c v (M i hd C) R
 ·intro id z b base sz o a A Q
  rw [d]at a;split at a
  ·rename_i G
   subst G;cases a;obtain ⟨b',base',sz',o',g1,g2,g3⟩:=h.rel.obj (aL l f j).n y (by rw [Sto.get_push,if_pos rfl]);have:=Sg.le_join τ σ _ _ _ g1;rw [A]at this
   obtain ⟨rfl,rfl,rfl⟩:b=b'/\base=base'/\sz=sz':=by simpa using this
   rw [Q]at g2;cases g2;refine g3.mono ⟨fun ae g' O Y=>?_,by exact fun _ _ _ h=>h⟩;have E:=h.rel.bnd ae g' O Y;simp at E;simp only [Sg.cut];rw [if_pos (by omega)];exact Sg.le_join τ σ _ _ _ Y
  ·rename_i G
   rw [r id _ G]at A;rw [e b (I.rel.lt ⟨id,z,base,sz,a,A⟩)]at Q;exact (I.ob id z b base sz o a A Q).mono (xS F.ext (Nat.le_refl _))
 ·intro id g z c
  by_cases k:id=(aL l f j).n
  ·exact .inr ⟨j,x,N,V,U,by simp,k.symm⟩
  ·rw [r id g k]at c
   rcases I.dm id g z c with a | ⟨i,O,a1,a2,a3,a4,a5⟩
   ·exact .inl a
   ·exact .inr ⟨i,O,a1,a2,a3,by simp [a4],a5⟩
 ·intro b E aa
  rw [e b (Nat.lt_of_lt_of_le E I.size)];exact I.frame b E aa
 ·intro b E
  rcases F.own b E with a | a
  ·exact I.own b a
  ·exact .inr (Nat.le_trans I.size a)
 ·intro id a A
  obtain ⟨a1,a2,a3⟩:=I.keep id a A
  have S:id<(aL l f pt).n:=by
   have:=D.mono (Nat.zero_le pt) I.ptl;rw [D.T.first]at this;omega
  refine ⟨a1,fun g=>by rw [r id g (by omega),a2],fun z b base sz Q h4=>?_⟩
  have hX:X.get id=some z:=by rw [I.x2 id S,a1];exact Q
  rw [e b (I.rel.lt ⟨id,z,base,sz,hX,by rw [a2];exact h4⟩)];exact a3 z b base sz Q h4
 ·intro id a A
  obtain ⟨a1,a2⟩:=I.hole id a A
  have S:id<(aL l f pt).n:=by
   have:=D.mono (Nat.zero_le pt) I.ptl;rw [D.T.first]at this;omega
  exact ⟨a1,fun g=>by rw [r id g (by omega),a2]⟩
theorem InvS.turn (D:Drawn P call ops e0 l f p) (I:InvS e0 l f σ0 w0 done pt σ X w) {j:Nat} {x:TrE} (hx:l[j]?=some x) (hc:x.isChg=true) (ah:done j=false)
 (J:∀ (i:Nat) z,l[i]?=some z->z.isChg=true->i<j->done i=true) (H:∀ (i:Nat) z,l[i]?=some z->z.isNew=true->i<j->done i=true):
 Rel (σ.cut (aL l f j).n) (aL l f j) w/\∀ {τ:Sg} {w':World},Stp (σ.cut (aL l f j).n) (aL l f j) w τ (aL l f (j+1)) w'->
 ∃ X',InvS e0 l f σ0 w0 (fun i=>done i||i==j) (j+1) (τ.join σ) X' w'/\τ.le (τ.join σ)/\σ.le (τ.join σ):=by
 have aq:j<l.length:=(List.getElem?_eq_some_iff.1 hx).1
 have ao:pt<=j:=by
  rcases Nat.lt_or_ge j pt with a | a
  ·rw [(I.chg j x hx hc).2 a]at ah;cases ah
  ·exact a
 have S:=D.seg' ao (by omega) fun i z a e c=>by
  cases M:z.isChg with
  | false=>rfl
  | true=>
    have:=(I.chg i z c M).1 (J i z c M e);omega
 have Q:x.isNew=false:=by
  cases hn:x.isNew with
  | false=>rfl
  | true=>
    simp only [TrE.isNew,TrE.isChg,Bool.and_eq_true,Bool.not_eq_true']at hn hc;rw [hn.2]at hc;cases hc.2
 have R:(aL l f j).n<=(aL l f (j+1)).n:=D.mono (by omega) (by omega)
 have af:(aL l f (j+1)).n<=f.s.n:=by
  have:=D.mono (i:=j+1) (by omega) (Nat.le_refl l.length);rw [jZ]at this;exact this
 have ae:∀ id,id<(aL l f j).n->X.get id=(aL l f j).get id:=by
  intro id k;by_cases a:id<(aL l f pt).n
  ·rw [I.x2 id a,S.get id a]
  ·obtain ⟨i,y,a1,a2,a3,a4,a5,a6⟩:=S.new id (by omega) k
   rw [<-a6,<-a5,I.x3 i y a3 a4 (H i y a3 a4 a2) a1]
 have hR:∀ id z,(aL l f j).get id=some z->X.get id=some z:=fun id z c=>by rw [ae id (Sto.get_lt c)];exact c
 have aj:Rel (σ.cut (aL l f j).n) (aL l f j) w:=by
  refine I.rel.part (show (σ.cut (aL l f j).n).m=σ.m from rfl) (fun id g hi=>by simp only [Sg.cut];exact if_pos hi) (fun id g z c=>?_) hR ?_ (S.top I.top)
  ·simp only [Sg.cut]at c
   split at c
   ·assumption
   ·cases c
  ·intro id z c b base sz o ho hs hb
   have ar:=Sto.get_lt c;refine (I.ob id z b base sz o (hR id z c) hs hb).mono (xS (Sg.le_refl σ) ?_);have:=S.n;omega
 refine ⟨aj,fun {τ w'} h=>?_⟩
 have aa:∀ id g,(aL l f j).n<=id->id<(aL l f (j+1)).n->σ id g=none:=by
  intro id g a e
  cases hs:σ id g with
  | none=>rfl
  | some z=>
    rcases I.dm _ g z hs with r | ⟨i,Z,a1,a2,a3,a4,a5⟩
    ·have:=S.n;omega
    ·exfalso
     have ab:=(List.getElem?_eq_some_iff.1 a2).1;obtain ⟨_,y',L,_⟩:=D.newRow a2 a3
     rcases Nat.lt_trichotomy i j with B | B | B
     ·have:=D.mono (i:=i+1) (q:=j) (by omega) (by omega)
      rw [L]at this;simp at this;omega
     ·subst B
      rw [hx]at a2;cases a2;rw [Q]at a3;cases a3
     ·have:=D.mono (i:=j+1) (q:=i) (by omega) (by omega)
      omega
 obtain ⟨X',E,u,ad⟩:∃ X':Sto,X'.n=f.s.n/\(∀ id,X'.get id=if id<(aL l f (j+1)).n then (aL l f (j+1)).get id else X.get id)/\(∀ id,X'.n<=id->X'.o.get id=none):=by
  have O:=h.rel.top
  have ap:∀ d:Nat,∃ X':Sto,X'.n=(aL l f (j+1)).n+d/\(∀ id,X'.o.get id=if id<(aL l f (j+1)).n then (aL l f (j+1)).o.get id else if id<(aL l f (j+1)).n+d then X.o.get id else none):=by
   intro d
   induction d with
   | zero=>
     refine ⟨aL l f (j+1),rfl,fun id=>?_⟩;by_cases a:id<(aL l f (j+1)).n
     ·simp [a]
     ·rw [if_neg a,if_neg (by omega)];exact O id (by omega)
   | succ d ih=>
     obtain ⟨Y,y1,y2⟩:=ih
     cases hg:X.o.get ((aL l f (j+1)).n+d) with
     | none=>
       refine ⟨{Y with n:=(aL l f (j+1)).n+(d+1)},rfl,fun id=>?_⟩;show Y.o.get id=_;rw [y2];by_cases a:id<(aL l f (j+1)).n
       ·simp [a]
       ·rw [if_neg a,if_neg a]
        by_cases e:id<(aL l f (j+1)).n+d
        ·rw [if_pos e,if_pos (by omega)]
        ·rw [if_neg e]
         by_cases r:id=(aL l f (j+1)).n+d
         ·subst r;rw [if_pos (by omega),hg]
         ·rw [if_neg (by omega)]
     | some z=>
       refine ⟨{n:=(aL l f (j+1)).n+(d+1),low:=0,o:=Y.o.set ((aL l f (j+1)).n+d) z},rfl,fun id=>?_⟩;show (Y.o.set ((aL l f (j+1)).n+d) z).get id=_;rw [Tr.get_set,y2];by_cases r:id=(aL l f (j+1)).n+d
       ·subst r
        rw [if_pos rfl,if_neg (by omega),if_pos (by omega),hg]
       ·rw [if_neg r]
        by_cases a:id<(aL l f (j+1)).n
        ·simp [a]
        ·rw [if_neg a,if_neg a]
         by_cases e:id<(aL l f (j+1)).n+d
         ·rw [if_pos e,if_pos (by omega)]
         ·rw [if_neg e,if_neg (by omega)]
  obtain ⟨X',a1,a2⟩:=ap (f.s.n-(aL l f (j+1)).n)
  have am:(aL l f (j+1)).n+(f.s.n-(aL l f (j+1)).n)=f.s.n:=by omega
  rw [am]at a1 a2;refine ⟨X',a1,fun id=>?_,fun id k=>?_⟩
  ·rw [Sto.get_eq,a1,a2]
   by_cases a:id<(aL l f (j+1)).n
   ·rw [if_pos a,if_pos (by omega),if_pos a,Sto.get_eq,if_pos a]
   ·rw [if_neg a,if_neg a,Sto.get_eq,I.xn]
    by_cases e:id<f.s.n
    ·simp [e]
    ·simp [e]
  ·rw [a1]at k
   have:(aL l f (j+1)).n<=f.s.n:=af;rw [a2,if_neg (by omega),if_neg (by omega)]
 have C:∀ id,¬ id<(aL l f (j+1)).n->(aL l f j).get id=none:=fun id k=>by
  have:(aL l f j).n<=(aL l f (j+1)).n:=R;rw [Sto.get_eq,if_neg (by omega)]
 have F:=aFz (X':=X') I.rel (show (σ.cut (aL l f j).n).m=σ.m from rfl) (fun id g hi=>by simp only [Sg.cut];exact if_pos hi) hR h aa (by rw [E,I.xn];exact Nat.le_refl _) (by rw [E];exact af)
  (fun id z c=>by
    rw [u]at c;split at c
    ·exact .inl c
    ·rename_i V;exact .inr ⟨c,C id V⟩) ad
 have hσ:∀ id g,(aL l f (j+1)).n<=id->(τ.join σ) id g=σ id g:=by
  intro id g k;simp only [Sg.join];split
  ·rename_i z c
   have:=h.rel.bnd id g z c;exact absurd this (by show ¬ id<(aL l f (j+1)).n;omega)
  ·rfl
 have al:∀ id g,id<(aL l f j).n->τ id g=σ id g->(τ.join σ) id g=σ id g:=by
  intro id g _ V;simp only [Sg.join];split
  ·rename_i z c;rw [<-V,c]
  ·rfl
 have v:∀ id g,id<(aL l f j).n->(σ.cut (aL l f j).n) id g=σ id g:=fun id g h=>by simp only [Sg.cut];exact if_pos h
 have ai:∀ id z b base sz,X.get id=some z->(aL l f (j+1)).n<=id->σ id (dK z)=some (b,base,sz)->w'.heap[b]?=w.heap[b]?:=by
  intro id z b base sz a e r;refine h.frame b (I.rel.lt ⟨id,z,base,sz,a,r⟩) ?_;rintro ⟨U,Z,base',sz',B,h5⟩;rw [v U _ (Sto.get_lt B)]at h5;have:=I.rel.inj id z U Z b base sz base' sz' a (hR _ _ B) r h5;subst this;rw [C id (by omega)]at B;cases B
 have ac:∀ {id},id<e0.s.n->id<(aL l f pt).n:=fun {id} h=>by
  have:=D.mono (Nat.zero_le pt) I.ptl;rw [D.T.first]at this;omega
 refine ⟨X',⟨by omega,?_,?_,F.rel,E,?_,?_,?_,?_,?_,Sg.le_trans I.ext F.ext,Nat.le_trans I.size F.size,?_,?_,?_,?_,?_,by rw [h.os,I.os],by rw [h.out,I.out],by rw [h.tape,I.tape],h.rel.top,IF I F.mnew⟩,Sg.le_join τ σ,F.ext⟩
 ·intro i z c M
  by_cases G:i=j
  ·subst G;simp
  ·have:=I.chg i z c M
   simp only [Bool.or_eq_true,beq_iff_eq,G,or_false];constructor
   ·intro hd;have:=this.1 hd;omega
   ·intro hi;exact J i z c M (by omega)
 ·intro i z c N hi
  have G:i≠j:=by
   rintro rfl;rw [hx]at c;cases c;rw [Q]at N;cases N
  simp [H i z c N (by omega)]
 ·intro id z c
  rw [u]at c;split at c
  ·rename_i V;exact .inl ⟨V,c⟩
  ·rename_i V
   have an:(aL l f (j+1)).n<=id:=by omega
   rcases I.x1 id z c with a | ⟨a,i,Z,a1,a2,a3,a4,a5,a6⟩
   ·have:=S.n
    have:(aL l f j).n<=(aL l f (j+1)).n:=R;omega
   ·refine .inr ⟨an,i,Z,?_,a2,a3,by simp [a4],a5,a6⟩
    have ab:=(List.getElem?_eq_some_iff.1 a2).1;obtain ⟨_,y',L,_⟩:=D.newRow a2 a3
    rcases Nat.lt_or_ge j i with B | B
    ·omega
    ·exfalso
     rcases Nat.lt_or_ge i j with h5 | h5
     ·have:=D.mono (i:=i+1) (q:=j) (by omega) (by omega)
      rw [L]at this;simp at this;have:(aL l f j).n<=(aL l f (j+1)).n:=R;omega
     ·have:i=j:=by omega
      subst this;rw [hx]at a2;cases a2;rw [Q]at a3;cases a3
 ·intro id k
  rw [u,if_pos k]
 ·intro i z c N hd hi
  have G:i≠j:=by omega
  have ab:=(List.getElem?_eq_some_iff.1 c).1;have:=D.mono (i:=j+1) (q:=i) (by omega) (by omega);rw [u,if_neg (by show ¬ _<(aL l f (j+1)).n;omega)];exact I.x3 i z c N (by simpa [G] using hd) (by omega)
 ·intro id z b base sz o a e r
  rw [u]at a;split at a
  ·rename_i V
   obtain ⟨b',base',sz',o',g1,g2,g3⟩:=h.rel.obj id z a;have:=Sg.le_join τ σ _ _ _ g1;rw [e]at this
   obtain ⟨rfl,rfl,rfl⟩:b=b'/\base=base'/\sz=sz':=by simpa using this
   rw [r]at g2;cases g2;refine g3.mono ⟨fun U g' Z ak=>?_,by exact fun _ _ _ h=>h⟩;have hb:=h.rel.bnd U g' Z ak;simp only [Sg.cut];rw [if_pos (by omega)];exact Sg.le_join τ σ _ _ _ ak
  ·rename_i V
   rw [hσ id _ (by omega)]at e;rw [ai id z b base sz a (by omega) e]at r;refine (I.ob id z b base sz o a e r).mono (xS F.ext ?_);have:=S.n;have:(aL l f j).n<=(aL l f (j+1)).n:=R;omega
 ·intro id g z c
  by_cases k:id<(aL l f (j+1)).n
  ·exact .inl k
  ·rw [hσ id g (by show (aL l f (j+1)).n<=id;omega)]at c
   rcases I.dm id g z c with a | ⟨i,Z,a1,a2,a3,a4,a5⟩
   ·have:=S.n;omega
   ·refine .inr ⟨i,Z,?_,a2,a3,by simp [a4],a5⟩
    have ab:=(List.getElem?_eq_some_iff.1 a2).1
    rcases Nat.lt_or_ge j i with B | B
    ·omega
    ·exfalso
     obtain ⟨_,y',L,_⟩:=D.newRow a2 a3
     rcases Nat.lt_or_ge i j with h5 | h5
     ·have:=D.mono (i:=i+1) (q:=j) (by omega) (by omega)
      rw [L]at this;simp at this;omega
     ·have:i=j:=by omega
      subst this;rw [hx]at a2;cases a2;rw [Q]at a3;cases a3
 ·intro b hb ag
  by_cases hh:Has (σ.cut (aL l f j).n) (aL l f j) b
  ·exfalso
   obtain ⟨id,z,base,sz,a,e⟩:=hh;rw [v id _ (Sto.get_lt a)]at e
   rcases I.own b ⟨id,z,base,sz,hR _ _ a,e⟩ with r | r
   ·exact ag r
   ·omega
  ·rw [h.frame b (Nat.lt_of_lt_of_le hb I.size) hh]
   exact I.frame b hb ag
 ·intro b hb
  rcases F.own b hb with a | a
  ·exact I.own b a
  ·exact .inr (Nat.le_trans I.size a)
 ·exact Nat.le_trans h.low (by rw [S.low];exact I.low)
 ·intro id a e
  have hl:=ac a;have A:id<(aL l f j).n:=Nat.lt_of_lt_of_le hl S.n;obtain ⟨c1,c2,c3⟩:=h.keep id A e;obtain ⟨a1,a2,a3⟩:=I.keep id a (by rw [<-S.low];exact Nat.lt_of_lt_of_le e h.low);refine ⟨by rw [c1,S.get id hl,a1],fun g=>?_,fun z b base sz r B=>?_⟩
  ·rw [al id g A (by rw [c2,v id g A]),a2]
  ·rw [c3 z b base sz (by rw [S.get id hl,a1];exact r) (by rw [v id _ A,a2];exact B)]
   exact a3 z b base sz r B
 ·intro id a e
  have hl:=ac a;have A:id<(aL l f j).n:=Nat.lt_of_lt_of_le hl S.n;obtain ⟨a1,a2⟩:=I.hole id a e;obtain ⟨c1,c2⟩:=h.hole id A (by rw [S.get id hl];exact a1);refine ⟨c1,fun g=>?_⟩;rw [al id g A (by rw [c2,v id g A]),a2]
end
end Go.Abs
