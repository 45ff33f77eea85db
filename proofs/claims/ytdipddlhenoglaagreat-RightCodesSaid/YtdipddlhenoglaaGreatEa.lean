/-
  The abstract machine: more fuel, and more that is known of calls, come to the same.
-/
import Derived.Test.YtdipddlhenoglaaGreatUx
set_option linter.unusedVariables false
set_option linter.unusedSimpArgs false
namespace Go.Abs
section
variable {P:Program}
def JF (c d:bX):Prop:=∀ fv args s r x,c fv args s r=some x->d fv args s r=some x
variable {c d:bX}
theorem BV (h:JF c d) {s:Sto} {a:AV} {args:List AV} {r:ORes} (f:fT s (c a args s .no)=some r):fT s (d a args s .no)=some r:=by
 cases b:c a args s .no with
 | none=>rw [b]at f;cases f
 | some x=>rw [h _ _ _ _ _ b,<-b];exact f
theorem lU (h:JF c d) {o:Oper} {e:Env} {r:ORes} (k:iB P c o e=some r):iB P d o e=some r:=by
 unfold iB at k ⊢
 cases m:o.op<;>simp only [m]at k ⊢<;>first | exact k | skip
 rename_i l;obtain ⟨a,args,ts⟩:=l
 cases a with
 | builtin b=>exact k
 | value f=>exact BV h k
 | invoke f n=>exact BV h k
theorem JG (h:JF c d) {ops:List Oper}:∀ (rest:List Oper) (e:Env) (x:Ex × Env),hG P c ops rest e=some x->hG P d ops rest e=some x:=by
 intro rest
 induction rest with
 | nil=>intro e x a;exact a
 | cons o rest b=>
   intro e x a;simp only [hG]at a ⊢;split at a
   ·cases a
   ·rename_i k
    split at a
    ·exact b _ _ a
    ·cases a
   ·rename_i k
    cases f:iB P c o e with
    | none=>rw [f]at a;cases a
    | some r=>
      rw [lU h f];rw [f]at a
      cases r with
      | val v=>simp only at a ⊢;split at a<;>first | exact b _ _ a | cases a
      | val' v s=>simp only at a ⊢;split at a<;>first | exact b _ _ a | cases a
      | pan v s=>exact a
      | defer q=>simp only at a ⊢;split at a<;>first | exact b _ _ a | cases a
      | recov=>
        simp only at a ⊢;split at a
        ·split at a<;>first | exact b _ _ a | cases a
        ·split at a<;>first | exact b _ _ a | cases a
        ·cases a
theorem QS {x:TrE} {y:Option TrR} {z:TrR} (h:pK x y=some z):∃ l f p,y=some (l,f,p)/\z=(x::l,f,p):=by
 cases y with
 | none=>cases h
 | some y=>obtain ⟨l,f,p⟩:=y;simp only [pK,Option.some.injEq]at h;exact ⟨l,f,p,rfl,h.symm⟩
theorem QT (h:JF c d) {ops:List Oper}:∀ (rest:List Oper) (i:Nat) (e:Env) (x:TrR),DC P c ops rest i e=some x->DC P d ops rest i e=some x:=by
 intro rest
 induction rest with
 | nil=>intro i e x a;exact a
 | cons o rest w=>
   intro i e x a
   have b:∀ {y:TrE} {e':Env} {z:TrR},pK y (DC P c ops rest (i+1) e')=some z->pK y (DC P d ops rest (i+1) e')=some z:=by
    intro y e' z u;obtain ⟨l,f,p,m,A⟩:=QS u;rw [w _ _ _ m,<-u,m]
   simp only [DC]at a ⊢;split at a
   ·cases a
   ·split at a
    ·exact b a
    ·cases a
   ·cases k:iB P c o e with
    | none=>rw [k]at a;cases a
    | some r=>
      rw [lU h k];rw [k]at a
      cases r with
      | val v=>simp only at a ⊢;split at a<;>first | exact b a | cases a
      | val' v s=>simp only at a ⊢;split at a<;>first | exact b a | cases a
      | pan v s=>exact a
      | defer q=>cases a
      | recov=>cases a
theorem FT (h:JF c d) {v:AV} {o:Oper} {e:Env} (b:isVal v (iB P c o e)=true):isVal v (iB P d o e)=true:=by
 cases a:iB P c o e with
 | none=>rw [a]at b;cases b
 | some r=>rw [lU h a,<-a];exact b
theorem MR (h:JF c d) {n:Nat} {as:List Nat} {ns:List (Nat × Nat)} {x:TrE}:∀ (cs:List Nat) (a:List Sto),iL P c n as ns x cs a=true->iL P d n as ns x cs a=true:=by
 intro cs
 induction cs with
 | nil=>
   intro a b
   cases a with
   | nil=>simp [iL]at b
   | cons s a=>
     cases a with
     | nil=>exact FT h b
     | cons s' a=>simp [iL]at b
 | cons k cs l=>
   intro a b
   cases a with
   | nil=>simp [iL]at b
   | cons s a=>
     simp only [iL,Bool.and_eq_true]at b ⊢;refine ⟨?_,?_⟩
     ·have:=b.1
      cases f:(as.getD x.i 0).testBit k with
      | true=>rfl
      | false=>rw [f]at this;exact FT h this
     ·have:=b.2
      cases f:(as.getD k 0).testBit x.i with
      | true=>rfl
      | false=>rw [f]at this;exact l _ this
theorem MS (h:JF c d) {n0:Nat} {ns:List (Nat × Nat)} {as cs:List Nat} {x:TrE} (a:oU P c as n0 ns cs x=true):oU P d as n0 ns cs x=true:=by
 simp only [oU,Bool.and_eq_true,decide_eq_true_eq]at a ⊢;exact ⟨a.1,fun s' b=>lU h (a.2 s' b)⟩
theorem MT (h:JF c d) {n0:Nat} {as cs:List Nat} {f:List Sto} {x:TrE} (b:sB P c as n0 cs f x=true):sB P d as n0 cs f x=true:=by
 simp only [sB,decide_eq_true_eq]at b ⊢;obtain ⟨m,o,k,l⟩:=b;exact ⟨m,o,k,fun s' a=>lU h (l s' a)⟩
theorem HE (h:JF c d) {n n0:Nat} {as:List Nat} {l:List TrE} {s:Sto} (f:fH P c n n0 as l s=true):fH P d n n0 as l s=true:=by
 have k:∀ (ns:List (Nat × Nat)) (cs:List Nat) (o:List Sto) (m:List TrE),lG P c n n0 as ns cs o m=true->lG P d n n0 as ns cs o m=true:=by
  intro ns cs o m
  induction m with
  | nil=>intro _;rfl
  | cons x m q=>
    intro b;simp only [lG,Bool.and_eq_true,Bool.or_eq_true]at b ⊢;refine ⟨?_,q b.2⟩
    rcases b.1 with (((a | a) | a) | a) | a
    ·exact .inl (.inl (.inl (.inl a)))
    ·exact .inl (.inl (.inl (.inr a)))
    ·exact .inl (.inl (.inr (MR h _ _ a)))
    ·exact .inl (.inr (MS h a))
    ·exact .inr (MT h a)
 unfold fH at f ⊢;split at f
 ·rfl
 ·exact k _ _ _ _ f
theorem VH (h:JF c d) {ops:List Oper} {e:Env} {x:Ex × Env} (a:zF P c ops e=some x):zF P d ops e=some x:=by
 unfold zF at a ⊢
 cases k:DC P c ops ops 0 e with
 | none=>rw [k]at a;cases a
 | some y=>
   obtain ⟨l,f,p⟩:=y;rw [QT h _ _ _ _ k];rw [k]at a;simp only at a ⊢
   cases b:fH P c f.s.n e.s.n (cN ops) l f.s with
   | false=>rw [b]at a;simp at a
   | true=>rw [HE h b,<-b];exact a
theorem MU (h:JF c d) {ops:List Oper} {a:Bool} {e:Env} {x:Ex × Env} (b:oV P c ops a e=some x):oV P d ops a e=some x:=by
 cases a with
 | true=>exact VH h b
 | false=>exact JG h _ _ _ b
theorem BW {f g:Env->Option (Ex × Env)} (h:∀ e x,f e=some x->g e=some x):∀ (n m:Nat) (e:Env) (x:Ex × Env),n<=m->loopGo f n e=some x->loopGo g m e=some x:=by
 intro n
 induction n with
 | zero=>intro m e x _ a;cases a
 | succ n l=>
   intro m e x o a
   obtain ⟨m,rfl⟩:∃ k,m=k+1:=⟨m-1,by omega⟩
   simp only [loopGo]at a ⊢
   cases b:f e with
   | none=>rw [b]at a;cases a
   | some y=>
     rw [h _ _ b];rw [b]at a;obtain ⟨ex,e'⟩:=y
     cases ex with
     | normal=>exact l m e' x (by omega) a
     | _=>exact a
theorem QU (h:JF c d) {f:Operand} {ps:Array Tmp} {a b:Code} {e:Env} {x:Ex × Env} (k:xC c f ps a b e=some x):xC d f ps a b e=some x:=by
 unfold xC at k ⊢;split at k
 ·cases k
 ·simp only at k ⊢
  rename_i q m o ds u
  cases l:c (e.eval f) [.func (.yield m.n) [] []] (m.push (.loop .ready none e.fn e.nt e.t ps.toList a b o)) .no with
  | none=>rw [l]at k;cases k
  | some y=>rw [h _ _ _ _ _ l,<-l];exact k
theorem rJ (h:JF c d) {n m:Nat} (A:n<=m):∀ (k:Code) (e:Env) (x:Ex × Env),bE P c n k e=some x->bE P d m k e=some x:=by
 intro k
 induction k with
 | region id ops w=>intro e x l;exact MU h l
 | seq a b o v=>
   intro e x l;simp only [bE]at l ⊢
   cases u:bE P c n a e with
   | none=>rw [u]at l;cases l
   | some y=>
     rw [o _ _ u];rw [u]at l;obtain ⟨ex,e'⟩:=y
     cases ex with
     | normal=>exact v _ _ l
     | _=>exact l
 | cond q a b o v=>
   intro e x l;simp only [bE]at l ⊢;split at l
   ·exact o _ _ l
   ·exact v _ _ l
   ·cases l
 | block id a o=>
   intro e x l;simp only [bE]at l ⊢
   cases u:bE P c n a e with
   | none=>rw [u]at l;cases l
   | some y=>rw [o _ _ u,<-u];exact l
 | loop a o=>intro e x l;exact BW o _ _ _ _ A l
 | scope a o=>
   intro e x l;simp only [bE]at l ⊢
   cases u:bE P c n a e with
   | none=>rw [u]at l;cases l
   | some y=>rw [o _ _ u,<-u];exact l
 | rangeFunc f ps a b=>intro e x l;exact QU h l
 | _=>intro e x l;exact l
theorem tX (h:JF c d) {fn:Func}:∀ (n m:Nat) (b:Option AV) (e:Env) (x:LRes × Env),n<=m->dleave P c fn n b e=some x->dleave P d fn m b e=some x:=by
 intro n
 induction n with
 | zero=>intro m b e x _ a;cases a
 | succ n q=>
   intro m b e x w a
   obtain ⟨m,rfl⟩:∃ k,m=k+1:=⟨m-1,by omega⟩
   have l:n<=m:=by omega
   simp only [dleave]at a ⊢;split at a
   ·exact a
   ·split at a
    ·exact q _ _ _ _ l a
    ·cases a
   ·rename_i o args ds _
    cases v:zG o with
    | true=>rw [v]at a;cases a
    | false=>
      rw [v]at a;simp only [cond_false]at a ⊢
      cases b with
      | none=>
        simp only at a ⊢
        cases f:c o args e.s .no with
        | none=>rw [f]at a;cases a
        | some y=>
          rw [h _ _ _ _ _ f];rw [f]at a;obtain ⟨res,u⟩:=y
          cases res<;>cases u<;>first | exact q _ _ _ _ l a | cases a
      | some p=>
        simp only at a ⊢
        cases f:c o args e.s (.pan p) with
        | none=>rw [f]at a;cases a
        | some y=>
          rw [h _ _ _ _ _ f];rw [f]at a;obtain ⟨res,u⟩:=y
          cases res<;>cases u<;>first | exact q _ _ _ _ l a | cases a
theorem VI (h:JF c d) {n m:Nat} (l:n<=m) {f:FuncId} {args:List AV} {s:Sto} {r:ARec} {x:CRes × ARec} (a:oW P c n f args s r=some x):oW P d m f args s r=some x:=by
 unfold oW at a ⊢
 cases o:okFn P f with
 | false=>rw [o]at a;cases a
 | true=>
   rw [o]at a;simp only [cond_true]at a ⊢;split at a
   ·rename_i fn v
    split at a
    ·rename_i k A
     cases b:bE P c n k {nt:=Nat.max args.length fn.ntmps,ro:=none,fn:=f,t:=Tr.leaf.lay 0 args,ds:=[],s:={s with low:=s.n},r:=r} with
     | none=>rw [b]at a;cases a
     | some y=>
       rw [rJ h l _ _ _ b];rw [b]at a;obtain ⟨ex,e'⟩:=y
       cases ex<;>first | (obtain ⟨B,q,w,u⟩:=qF a;simp only [tX h _ _ _ _ _ l w];exact u) | cases a
    ·cases a
   ·cases a
theorem QV (h:JF c d) {n m:Nat} (B:n<=m) {l:Nat} {args:List AV} {s:Sto} {x:CRes × ARec} (f:mF P c n l args s=some x):mF P d m l args s=some x:=by
 unfold mF at f ⊢;split at f
 ·rename_i L C fn nt t ps a b H I
  split at f
  ·rename_i G J
   cases u:bE P c n a {nt:=nt,ro:=some l,fn:=fn,t:=G,ds:=[],s:={s with low:=s.n},r:=.no} with
   | none=>rw [u]at f;cases f
   | some y=>
     rw [rJ h B _ _ _ u];rw [u]at f;obtain ⟨ex,e'⟩:=y
     cases ex with
     | normal=>
       simp only at f ⊢;split at f
       ·rename_i o q v A w D b' E F
        cases k:bE P c n b {e' with s:=e'.s.put l (.loop .busy o q v A w D b' E)} with
        | none=>rw [k]at f;cases f
        | some y=>
          rw [rJ h B _ _ _ k,<-k];exact f
       ·cases f
     | _=>cases f
  ·cases f
 ·cases f
theorem gO {O:cH}:∀ (n m:Nat),n<=m->JF (aR P O n) (aR P O m):=by
 intro n
 induction n with
 | zero=>intro m _ h args s r x a;cases a
 | succ n f=>
   intro m l h args s r x a
   obtain ⟨m,rfl⟩:∃ k,m=k+1:=⟨m-1,by omega⟩
   have b:n<=m:=by omega
   simp only [aR]at a ⊢;split at a
   ·exact a
   ·split at a
    ·exact VI (f m b) b a
    ·cases r<;>first | exact QV (f m b) b a | cases a
    ·cases a
end
end Go.Abs
/-
 The abstract machine: what must hold for a piece of code to end so;rules for a walk by 'simp'.
-/
namespace Go.Abs
noncomputable section
def Tr.val (t:Tr AV) (i:Nat):AV:=(t.get i).getD .top
theorem Tr.val_set_same (t:Tr AV) (i:Nat) (a:AV):(t.set i a).val i=a:=by simp [Tr.val,Tr.get_set]
theorem Tr.val_set_ne (t:Tr AV) (i j:Nat) (a:AV) (h:j≠i):(t.set i a).val j=t.val j:=by simp [Tr.val,Tr.get_set,h]
theorem Env.eval_tmp (e:Env) (i:Nat):e.eval (.tmp i)=e.t.val i:=by
 simp only [Env.eval,Tr.val];cases e.t.get i<;>rfl
def qE (o:Option AV) (K:ORes->Prop):Prop:=∃ v,o=some v/\K (.val v)
def SA (o:Option Sto) (K:ORes->Prop):Prop:=∃ s,o=some s/\K (.val' .undef s)
def vS (o:Option ORes) (K:ORes->Prop):Prop:=∃ r,o=some r/\K r
theorem aJa {v:AV} {K:ORes->Prop}:qE (some v) K↔K (.val v):=by simp [qE]
theorem aJb {s:Sto} {K:ORes->Prop}:SA (some s) K↔K (.val' .undef s):=by simp [SA]
theorem aJc {r:ORes} {K:ORes->Prop}:vS (some r) K↔K r:=by simp [vS]
@[congr] theorem aSp {o o':Option AV} {K:ORes->Prop} (h:o=o'):qE o K=qE o' K:=by rw [h]
@[congr] theorem aSq {o o':Option Sto} {K:ORes->Prop} (h:o=o'):SA o K=SA o' K:=by rw [h]
@[congr] theorem aSr {o o':Option ORes} {K:ORes->Prop} (h:o=o'):vS o K=vS o' K:=by rw [h]
section
variable (P:Program) (O:cH)
def W (c:Code) (e:Env) (Q:Ex->Env->Prop):Prop:=∃ n ex e',bE P (aR P O n) n c e=some (ex,e')/\Q ex e'
def Wo (ops rest:List Oper) (e:Env) (Q:Ex->Env->Prop):Prop:=∃ n ex e',hG P (aR P O n) ops rest e=some (ex,e')/\Q ex e'
def fC (call:bX) (op:Op) (e:Env):Option ORes:=iB P call {dst:=none,op:=op,type:=0,pos:= "",after:=#[],guard:=none} e
def fW (op:Op) (e:Env) (K:ORes->Prop):Prop:=∃ n r,fC P (aR P O n) op e=some r/\K r
def Wcall (a:AV) (args:List AV) (s:Sto) (K:CRes->Prop):Prop:=∃ n res rr,aR P O n a args s .no=some (res,rr)/\K res
variable {P O}
theorem W.mono {c:Code} {e:Env} {Q a:Ex->Env->Prop} (h:W P O c e Q) (k:∀ ex e',Q ex e'->a ex e'):W P O c e a:=by
 obtain ⟨n,ex,e',b,f⟩:=h;exact ⟨n,ex,e',b,k _ _ f⟩
@[congr] theorem aVv {c:Code} {e e':Env} {Q:Ex->Env->Prop} (h:e=e'):W P O c e Q=W P O c e' Q:=by rw [h]
@[congr] theorem aVa {ops rest:List Oper} {e e':Env} {Q:Ex->Env->Prop} (h:e=e'):Wo P O ops rest e Q=Wo P O ops rest e' Q:=by rw [h]
@[congr] theorem aSs {op:Op} {e e':Env} {K:ORes->Prop} (h:e=e'):fW P O op e K=fW P O op e' K:=by rw [h]
@[congr] theorem aPf {fv fv':AV} {args args':List AV} {s s':Sto} {K:CRes->Prop} (h:fv=fv') (h':args=args') (h'':s=s'):Wcall P O fv args s K=Wcall P O fv' args' s' K:=by rw [h,h',h'']
theorem oM {n m:Nat} (h:n<=m) {c:Code} {e:Env} {x:Ex × Env} (a:bE P (aR P O n) n c e=some x):bE P (aR P O m) m c e=some x:=rJ (gO n m h) h c e x a
def aRj (P:Program) (O:cH) (b:Code) (Q:Ex->Env->Prop):Ex->Env->Prop
 | .normal,e=>W P O b e Q
 | ex,e=>Q ex e
theorem aVb {a b:Code} {e:Env} {Q:Ex->Env->Prop}:W P O (.seq a b) e Q↔W P O a e (aRj P O b Q):=by
 constructor
 ·rintro ⟨n,ex,e',h,k⟩
  simp only [bE]at h
  cases q:bE P (aR P O n) n a e with
  | none=>rw [q]at h;cases h
  | some y=>
    obtain ⟨f,u⟩:=y;rw [q]at h;refine ⟨n,f,u,q,?_⟩
    cases f with
    | normal=>exact ⟨n,ex,e',h,k⟩
    | _=>simp at h;obtain ⟨rfl,rfl⟩:=h;exact k
 ·rintro ⟨n,ex,e',h,k⟩
  cases ex with
  | normal=>
    obtain ⟨m,l,v,w,o⟩:=k;refine ⟨max n m,l,v,?_,o⟩;simp only [bE,oM (Nat.le_max_left n m) h,oM (Nat.le_max_right n m) w]
  | _=>exact ⟨n,_,e',by simp only [bE,h],k⟩
def fO (id:Nat) (Q:Ex->Env->Prop):Ex->Env->Prop
 | .exit i,e=>bif Nat.beq i id then Q .normal e else Q (.exit i) e
 | ex,e=>Q ex e
theorem aOc {id:Nat} {c:Code} {e:Env} {Q:Ex->Env->Prop}:W P O (.block id c) e Q↔W P O c e (fO id Q):=by
 constructor
 ·rintro ⟨n,ex,e',h,a⟩
  simp only [bE]at h
  cases k:bE P (aR P O n) n c e with
  | none=>rw [k]at h;cases h
  | some y=>
    obtain ⟨b,l⟩:=y;rw [k]at h;refine ⟨n,b,l,k,?_⟩
    cases b with
    | exit i=>
      simp only [fO]at h ⊢;cases f:Nat.beq i id<;>rw [f]at h<;>simp at h<;>obtain ⟨rfl,rfl⟩:=h<;>exact a
    | _=>simp at h;obtain ⟨rfl,rfl⟩:=h;exact a
 ·rintro ⟨n,ex,e',h,a⟩
  cases ex with
  | exit i=>
    simp only [fO]at a;cases f:Nat.beq i id<;>rw [f]at a
    ·exact ⟨n,_,e',by simp only [bE,h,f,cond_false],a⟩
    ·exact ⟨n,_,e',by simp only [bE,h,f,cond_true],a⟩
  | _=>exact ⟨n,_,e',by simp only [bE,h],a⟩
theorem HF {id:Nat} {Q:Ex->Env->Prop} {e:Env}:fO id Q .normal e=Q .normal e:=rfl
theorem QW {id:Nat} {Q:Ex->Env->Prop} {e:Env}:fO id Q (.exit id) e=Q .normal e:=by simp [fO]
theorem aCj {id i:Nat} {Q:Ex->Env->Prop} {e:Env} (h:i≠id):fO id Q (.exit i) e=Q (.exit i) e:=by
 simp only [fO]
 have:Nat.beq i id=false:=by
  cases a:Nat.beq i id with
  | false=>rfl
  | true=>exact absurd (Nat.eq_of_beq_eq_true a) h
 rw [this];rfl
theorem VJ {id:Nat} {Q:Ex->Env->Prop} {e:Env}:fO id Q .ret e=Q .ret e:=rfl
theorem MV {id:Nat} {Q:Ex->Env->Prop} {e:Env} {v:AV}:fO id Q (.panic v) e=Q (.panic v) e:=rfl
def aJd (P:Program) (O:cH) (v:AV) (x y:Code) (e:Env) (Q:Ex->Env->Prop):Prop:=(v=.bool true/\W P O x e Q)∨(v=.bool false/\W P O y e Q)
@[congr] theorem aPg {v v':AV} {x y:Code} {e:Env} {Q:Ex->Env->Prop} (h:v=v'):aJd P O v x y e Q=aJd P O v' x y e Q:=by rw [h]
theorem aRk {c:Operand} {x y:Code} {e:Env} {Q:Ex->Env->Prop}:W P O (.cond c x y) e Q↔aJd P O (e.eval c) x y e Q:=by
 constructor
 ·rintro ⟨n,ex,e',h,b⟩
  simp only [bE]at h;split at h
  ·rename_i a;exact .inl ⟨a,n,ex,e',h,b⟩
  ·rename_i a;exact .inr ⟨a,n,ex,e',h,b⟩
  ·cases h
 ·rintro (⟨a,n,ex,e',h,b⟩ | ⟨a,n,ex,e',h,b⟩)
  ·exact ⟨n,ex,e',by simp only [bE,a,h],b⟩
  ·exact ⟨n,ex,e',by simp only [bE,a,h],b⟩
theorem aRl {e:Env} {Q:Ex->Env->Prop}:W P O .skip e Q↔Q .normal e:=⟨fun ⟨n,ex,e',h,a⟩=>by simp [bE]at h;obtain ⟨rfl,rfl⟩:=h;exact a,fun h=>⟨0,_,_,rfl,h⟩⟩
theorem aOd {l:Nat} {e:Env} {Q:Ex->Env->Prop}:W P O (.label l) e Q↔Q .normal e:=⟨fun ⟨n,ex,e',h,a⟩=>by simp [bE]at h;obtain ⟨rfl,rfl⟩:=h;exact a,fun h=>⟨0,_,_,rfl,h⟩⟩
theorem aRm {i:Nat} {e:Env} {Q:Ex->Env->Prop}:W P O (.exit i) e Q↔Q (.exit i) e:=⟨fun ⟨n,ex,e',h,a⟩=>by simp [bE]at h;obtain ⟨rfl,rfl⟩:=h;exact a,fun h=>⟨0,_,_,rfl,h⟩⟩
theorem aVc {e:Env} {Q:Ex->Env->Prop}:W P O .ret e Q↔Q .ret e:=⟨fun ⟨n,ex,e',h,a⟩=>by simp [bE]at h;obtain ⟨rfl,rfl⟩:=h;exact a,fun h=>⟨0,_,_,rfl,h⟩⟩
theorem QX {f:Env->Option (Ex × Env)} (a:∀ e l e',f e≠some (.goto l,e')):∀ (n:Nat) (e:Env) (l:Nat) (e':Env),loopGo f n e≠some (.goto l,e'):=by
 intro n
 induction n with
 | zero=>intro e l e' h;cases h
 | succ n b=>
   intro e l e' h;simp only [loopGo]at h;split at h
   ·exact b _ _ _ h
   ·exact a _ _ _ h
theorem aCk {call:bX} {ops:List Oper}:∀ (rest:List Oper) (e:Env) (l:Nat) (e':Env),hG P call ops rest e≠some (.goto l,e'):=by
 intro rest
 induction rest with
 | nil=>intro e l e' h;cases h
 | cons o rest a=>
   intro e l e' h;simp only [hG]at h;split at h
   ·cases h
   ·split at h
    ·exact a _ _ _ h
    ·cases h
   ·split at h
    ·cases h
    ·split at h<;>first | exact a _ _ _ h | cases h
    ·split at h<;>first | exact a _ _ _ h | cases h
    ·cases h
    ·split at h<;>first | exact a _ _ _ h | cases h
    ·split at h
     ·split at h<;>first | exact a _ _ _ h | cases h
     ·split at h<;>first | exact a _ _ _ h | cases h
     ·cases h
theorem VK {call:bX} {n:Nat}:∀ (c:Code) (e:Env) (l:Nat) (e':Env),bE P call n c e≠some (.goto l,e'):=by
 intro c
 induction c with
 | region id ops v=>
   intro e l e' h
   cases v with
   | false=>exact aCk _ _ _ _ h
   | true=>
     simp only [bE,oV,cond_true,zF]at h;split at h
     ·cases h
     ·rename_i m f p y
      cases o:(P.follows .mixedOrders&&oC ops.toList&&fV (cN ops.toList) (dN m)&&uH (cN ops.toList) (lB m) (dN m)&&iA m f.s.n&&jE m&&fH P call f.s.n e.s.n (cN ops.toList) m f.s) with
      | false=>rw [o]at h;cases h
      | true=>
        rw [o]at h;simp only [cond_true]at h;split at h
        ·cases h
        ·cases w:lC (cN ops.toList) (m.length-1) ops.toList 0<;>rw [w]at h<;>cases h
 | seq a b k u=>
   intro e l e' h;simp only [bE]at h;split at h
   ·exact u _ _ _ h
   ·exact k _ _ _ h
 | cond q a b k u=>
   intro e l e' h;simp only [bE]at h;split at h
   ·exact k _ _ _ h
   ·exact u _ _ _ h
   ·cases h
 | block id a k=>
   intro e l e' h;simp only [bE]at h;split at h
   ·simp only [Bool.cond_eq_ite]at h
    split at h<;>cases h
   ·exact k _ _ _ h
 | loop a k=>intro e l e' h;exact QX k _ _ _ _ h
 | scope a k=>
   intro e l e' h;simp only [bE]at h;split at h
   ·cases h
   ·exact k _ _ _ h
 | rangeFunc f ps a b=>
   intro e l e' h;simp only [bE,xC]at h;split at h
   ·cases h
   ·try simp only at h
    split at h
    ·simp only [dB]at h
     split at h
     ·split at h
      ·cases h
      ·try simp only at h
       split at h<;>cases h
     ·cases h
    ·cases h
    ·cases h
 | _=>intro e l e' h;cases h
theorem aOe {c:Code} {e:Env} {Q:Ex->Env->Prop}:W P O (.scope c) e Q↔W P O c e Q:=by
 constructor
 ·rintro ⟨n,ex,e',h,a⟩
  simp only [bE]at h;split at h
  ·cases h
  ·exact ⟨n,ex,e',h,a⟩
 ·rintro ⟨n,ex,e',h,a⟩
  refine ⟨n,ex,e',?_,a⟩;simp only [bE,h];split
  ·rename_i b;simp at b;obtain ⟨rfl,_⟩:=b;exact absurd h (VK _ _ _ _)
  ·rfl
theorem aRn {α:Type} (I:α->Env->Prop) (m:α->Nat) (a:α) {c:Code} {e:Env} {Q:Ex->Env->Prop} (y:I a e)
 (C:∀ a e,I a e->W P O c e fun ex e'=>match ex with | .normal=>∃ b,m b<m a/\I b e' | ex=>Q ex e'):W P O (.loop c) e Q:=by
 generalize G:m a=k
 induction k using Nat.strongRecOn generalizing a e with
 | _ k E=>
   obtain ⟨n,ex,e',h,f⟩:=C a e y
   have u:∀ ex,ex≠.normal->bE P (aR P O n) n c e=some (ex,e')->Q ex e'->W P O (.loop c) e Q:=by
    intro ex q h f;refine ⟨n+1,ex,e',?_,f⟩;simp only [bE,loopGo];rw [oM (Nat.le_succ n) h]
    cases ex<;>first | rfl | exact absurd rfl q
   cases ex with
   | normal=>
     obtain ⟨b,B,A⟩:=f;obtain ⟨F,l,w,v,o⟩:=E (m b) (by omega) b A rfl;refine ⟨max n F+1,l,w,?_,o⟩;simp only [bE,loopGo];rw [oM (by omega) h];simp only [bE]at v;exact BW (fun e x D=>oM (by omega) D) _ _ _ _ (by omega) v
   | _=>exact u _ (by simp) h f
theorem aJe {i:Nat} {l:List Oper} {e:Env} {Q:Ex->Env->Prop}:W P O (.region i l.toArray false) e Q↔Wo P O l l e Q:=by
 simp only [W,Wo,bE,oV,cond_false]
def iT (P:Program) (O:cH) (ops:List Oper) (dst:Option Tmp) (rest:List Oper) (e:Env) (Q:Ex->Env->Prop):ORes->Prop
 | .val v=>∃ e',e.put dst v=some e'/\Wo P O ops rest e' Q
 | .val' v s=>∃ e',(e.setS s).put dst v=some e'/\Wo P O ops rest e' Q
 | .pan v s=>Q (.panic v) {e with s:=s}
 | .defer d=>∃ e',(e.setDs (d::e.ds)).put dst .undef=some e'/\Wo P O ops rest e' Q
 | .recov=>match e.ro,e.r with
   | none,.pan v=>∃ e',(e.setR (.recd v)).put dst v=some e'/\Wo P O ops rest e' Q
   | none,_=>∃ e',e.put dst .nili=some e'/\Wo P O ops rest e' Q
   | some _,_=>False
@[congr] theorem aRo {ops:List Oper} {dst:Option Tmp} {rest:List Oper} {e:Env} {Q:Ex->Env->Prop} {r r':ORes} (h':r=r'):iT P O ops dst rest e Q r=iT P O ops dst rest e Q r':=by rw [h']
@[congr] theorem aRp {b:Code} {Q:Ex->Env->Prop} {x x':Ex} {e e':Env} (h:x=x') (h':e=e'):aRj P O b Q x e=aRj P O b Q x' e':=by rw [h,h']
@[congr] theorem aOf {i:Nat} {Q:Ex->Env->Prop} {x x':Ex} {e e':Env} (h:x=x') (h':e=e'):fO i Q x e=fO i Q x' e':=by rw [h,h']
theorem aRq {ops:List Oper} {e:Env} {Q:Ex->Env->Prop}:Wo P O ops [] e Q↔Q .normal e:=⟨fun ⟨n,ex,e',h,a⟩=>by simp [hG]at h;obtain ⟨rfl,rfl⟩:=h;exact a,fun h=>⟨0,_,_,rfl,h⟩⟩
theorem aJf {ops:List Oper} {o:Oper} {rest:List Oper} {e:Env} {Q:Ex->Env->Prop} (C:cU ops o e=some true):Wo P O ops (o::rest) e Q↔fW P O o.op e (iT P O ops o.dst rest e Q):=by
 have G:∀ {n m:Nat},n<=m->∀ {l:List Oper} {e:Env} {x:Ex × Env},hG P (aR P O n) ops l e=some x->hG P (aR P O m) ops l e=some x:=fun h _ _ _ J=>JG (gO _ _ h) _ _ _ J
 have H:∀ {n m:Nat},n<=m->∀ {r:ORes},iB P (aR P O n) o e=some r->iB P (aR P O m) o e=some r:=fun h _ J=>lU (gO _ _ h) J
 constructor
 ·rintro ⟨n,ex,e',h,D⟩
  simp only [hG,C]at h
  cases E:iB P (aR P O n) o e with
  | none=>rw [E]at h;cases h
  | some r=>
    rw [E]at h;refine ⟨n,r,E,?_⟩
    cases r with
    | val v=>simp only at h;split at h<;>first | exact ⟨_,by assumption,n,ex,e',h,D⟩ | cases h
    | val' v s=>simp only at h;split at h<;>first | exact ⟨_,by assumption,n,ex,e',h,D⟩ | cases h
    | pan v s=>simp at h;obtain ⟨rfl,rfl⟩:=h;exact D
    | defer q=>simp only at h;split at h<;>first | exact ⟨_,by assumption,n,ex,e',h,D⟩ | cases h
    | recov=>
      simp only at h;simp only [iT];split at h
      ·rename_i a b;simp only [a,b]
       split at h<;>first | exact ⟨_,by assumption,n,ex,e',h,D⟩ | cases h
      ·rename_i a b
       have:∃ e',e.put o.dst .nili=some e'/\Wo P O ops rest e' Q:=by
        split at h<;>first | exact ⟨_,by assumption,n,ex,e',h,D⟩ | cases h
       rw [a]
       cases I:e.r with
       | pan v=>exact absurd I (b v)
       | _=>exact this
      ·cases h
 ·rintro ⟨n,r,E,y⟩
  have F:iB P (aR P O n) o e=some r:=E
  have f:∀ {m:Nat} {ex:Ex} {B e':Env},hG P (aR P O m) ops rest B=some (ex,e')->Q ex e'->(∀ k,max n m=k->iB P (aR P O k) o e=some r->hG P (aR P O k) ops rest B=some (ex,e')->hG P (aR P O k) ops (o::rest) e=some (ex,e'))->Wo P O ops (o::rest) e Q:=
   fun a b N=>⟨_,_,_,N _ rfl (H (Nat.le_max_left _ _) F) (G (Nat.le_max_right _ _) a),b⟩
  cases r with
  | val v=>obtain ⟨B,A,m,ex,e',a,b⟩:=y;exact f a b fun k _ u w=>by simp only [hG,C,u,A,w]
  | val' v s=>obtain ⟨B,A,m,ex,e',a,b⟩:=y;exact f a b fun k _ u w=>by simp only [hG,C,u,A,w]
  | pan v s=>exact ⟨n,_,_,by simp only [hG,C,F],y⟩
  | defer q=>obtain ⟨B,A,m,ex,e',a,b⟩:=y;exact f a b fun k _ u w=>by simp only [hG,C,u,A,w]
  | recov=>
    simp only [iT]at y;split at y
    ·rename_i L M
     obtain ⟨B,A,m,ex,e',a,b⟩:=y;exact f a b fun k _ u w=>by simp only [hG,C,u,L,M,A,w]
    ·rename_i L M
     obtain ⟨B,A,m,ex,e',a,b⟩:=y
     refine f a b fun k _ u w=>?_
     simp only [hG,C,u,L]
     cases I:e.r with
     | pan v=>exact absurd I (M v)
     | _=>simp only [A,w]
    ·exact y.elim
theorem MW {ops:List Oper} {o:Oper} {rest:List Oper} {e:Env} {Q:Ex->Env->Prop} (f:cU ops o e=some false):Wo P O ops (o::rest) e Q↔∃ e',e.put o.dst .undef=some e'/\Wo P O ops rest e' Q:=by
 constructor
 ·rintro ⟨n,ex,e',h,a⟩
  simp only [hG,f]at h;split at h
  ·rename_i b;exact ⟨_,b,n,ex,e',h,a⟩
  ·cases h
 ·rintro ⟨k,b,n,ex,e',h,a⟩
  exact ⟨n,ex,e',by simp only [hG,f,b,h],a⟩
theorem aOg {ops:List Oper} {dst:Option Tmp} {op:Op} {ty:TypeId} {pos:String} {after:Array Edge} {rest:List Oper} {e:Env} {Q:Ex->Env->Prop}:
 Wo P O ops ({dst:=dst,op:=op,type:=ty,pos:=pos,after:=after,guard:=none}::rest) e Q↔fW P O op e (iT P O ops dst rest e Q):=aJf rfl
def guardK (P:Program) (O:cH) (v:AV) (want:Bool) (op:Op) (ops:List Oper) (dst:Option Tmp) (rest:List Oper) (e:Env) (Q:Ex->Env->Prop):Prop:=match v with
 | .bool b=>(b=want->fW P O op e (iT P O ops dst rest e Q))/\(b = !want->iT P O ops dst rest e Q (.val .undef))
 | .tuple _=>iT P O ops dst rest e Q (.val .undef)
 | _=>False
section
variable {want:Bool} {op:Op} {ops:List Oper} {dst:Option Tmp} {rest:List Oper} {e:Env} {Q:Ex->Env->Prop}
@[congr] theorem aOh {v v':AV} (h:v=v'):guardK P O v want op ops dst rest e Q=guardK P O v' want op ops dst rest e Q:=by rw [h]
theorem aCl {b:Bool}:guardK P O (.bool b) true op ops dst rest e Q↔(b=true->fW P O op e (iT P O ops dst rest e Q))/\(b=false->iT P O ops dst rest e Q (.val .undef)):=.rfl
theorem aCm {b:Bool}:guardK P O (.bool b) false op ops dst rest e Q↔(b=false->fW P O op e (iT P O ops dst rest e Q))/\(b=true->iT P O ops dst rest e Q (.val .undef)):=.rfl
end
def HG:List Oper->Nat->Option Nat
 | [],_=>none
 | o::_,0=>o.dst
 | _::l,n+1=>HG l n
theorem MY:∀ (ops:List Oper) (j:Nat),HG ops j=ops[j]?.bind (·.dst)
 | [],_=>rfl
 | o::_,0=>rfl
 | _::l,n+1=>by simp only [HG,List.getElem?_cons_succ];exact MY l n
def aCn (t:Tr AV):Option Nat->AV
 | some d=>t.val d
 | none=>.tuple []
theorem aJg {ops:List Oper} {dst:Option Tmp} {op:Op} {ty:TypeId} {pos:String} {after:Array Edge} {j:Nat} {want:Bool} {rest:List Oper} {e:Env} {Q:Ex->Env->Prop}:
 Wo P O ops ({dst:=dst,op:=op,type:=ty,pos:=pos,after:=after,guard:=some (j,want)}::rest) e Q↔
  guardK P O (aCn e.t (HG ops j)) want op ops dst rest e Q:=by
 rw [MY]
 cases f:ops[j]?.bind (·.dst) with
 | none=>
   have a:cU ops {dst:=dst,op:=op,type:=ty,pos:=pos,after:=after,guard:=some (j,want)} e=some false:=by
    simp only [cU]
    cases o:ops[j]? with
    | none=>rfl
    | some g=>rw [o]at f;simp only [Option.bind_some]at f;simp only [f]
   rw [MW a];rfl
 | some d=>
 show _↔guardK P O (e.t.val d) want op ops dst rest e Q
 have a:cU ops {dst:=dst,op:=op,type:=ty,pos:=pos,after:=after,guard:=some (j,want)} e=match e.t.get d with | some (.bool b)=>some (b==want) | some (.tuple _)=>some false | _=>none:=by
  simp only [cU]
  cases o:ops[j]? with
  | none=>rw [o]at f;cases f
  | some g=>rw [o]at f;simp only [Option.bind_some]at f;simp only [f];cases e.t.get d with | none=>rfl | some v=>cases v<;>rfl
 cases k:e.t.get d with
 | none=>
   have q:e.t.val d=.top:=by simp [Tr.val,k]
   rw [q];rw [k]at a;refine ⟨fun ⟨n,ex,e',h,w⟩=>?_,fun h=>h.elim⟩;simp only [hG,a]at h;cases h
 | some v=>
   have q:e.t.val d=v:=by simp [Tr.val,k]
   rw [q];rw [k]at a;clear q k
   cases v with
   | bool b=>
     simp only at a
     cases m:(b==want) with
     | true=>
       rw [m]at a
       have:b=want:=by simpa using m
       subst this;rw [aJf a];simp [guardK]
     | false=>
       rw [m]at a;rw [MW a]
       have:b≠want:=by simpa using m
       have u:b = !want:=by cases b<;>cases want<;>simp_all
       simp [guardK,u];rfl
   | tuple l=>rw [MW a];rfl
   | _=>exact ⟨fun ⟨n,ex,e',h,w⟩=>by (simp only [hG,a]at h;cases h),fun h=>h.elim⟩
theorem yP {nt:Nat} {ro:Option Nat} {fn:FuncId} {t:Tr AV} {ds:List ADef} {s:Sto} {r:ARec} {d:Nat} {v:AV} {R:Env->Prop} (h:d<nt):
 (∃ e',(Env.mk nt ro fn t ds s r).put (some d) v=some e'/\R e')↔R ⟨nt,ro,fn,t.set d v,ds,s,r⟩:=by
 have:(Env.mk nt ro fn t ds s r).put (some d) v=some ⟨nt,ro,fn,t.set d v,ds,s,r⟩:=by
  simp only [Env.put]
  have:Nat.blt d nt=true:=by simpa using h
  rw [this];rfl
 rw [this];simp
theorem QY {e:Env} {v:AV} {R:Env->Prop}:(∃ e',e.put none v=some e'/\R e')↔R e:=by simp [Env.put]
variable {nt:Nat} {ro:Option Nat} {fn:FuncId} {t:Tr AV} {ds:List ADef} {s:Sto} {r:ARec} {ops rest:List Oper} {Q:Ex->Env->Prop}
theorem aJh {d:Nat} {v:AV} (h:d<nt):iT P O ops (some d) rest ⟨nt,ro,fn,t,ds,s,r⟩ Q (.val v)↔Wo P O ops rest ⟨nt,ro,fn,t.set d v,ds,s,r⟩ Q:=yP h
theorem aCo {d:Nat} {v:AV} {s':Sto} (h:d<nt):iT P O ops (some d) rest ⟨nt,ro,fn,t,ds,s,r⟩ Q (.val' v s')↔Wo P O ops rest ⟨nt,ro,fn,t.set d v,ds,s',r⟩ Q:=yP h
theorem VL {v:AV} {s':Sto}:iT P O ops none rest ⟨nt,ro,fn,t,ds,s,r⟩ Q (.val' v s')↔Wo P O ops rest ⟨nt,ro,fn,t,ds,s',r⟩ Q:=QY
theorem aJi {dst:Option Tmp} {v:AV} {s':Sto}:iT P O ops dst rest ⟨nt,ro,fn,t,ds,s,r⟩ Q (.pan v s')↔Q (.panic v) ⟨nt,ro,fn,t,ds,s',r⟩:=.rfl
theorem rL {op:Op} {e:Env} {K:ORes->Prop} {r:Option ORes} (h:∀ call,fC P call op e=r):fW P O op e K↔vS r K:=by
 constructor
 ·rintro ⟨n,x,a,b⟩;exact ⟨x,by rw [<-a,h],b⟩
 ·rintro ⟨x,a,b⟩;exact ⟨0,x,by rw [h,a],b⟩
theorem fY {op:Op} {e:Env} {K:ORes->Prop} {x:Option AV} (h:∀ call,fC P call op e=valO x):fW P O op e K↔qE (x) K:=by
 rw [rL h];cases x<;>simp [valO,qE,vS]
theorem JH {op:Op} {e:Env} {K:ORes->Prop} {x:Option Sto} (h:∀ call,fC P call op e=skipO x):fW P O op e K↔SA (x) K:=by
 rw [rL h];cases x<;>simp [skipO,SA,vS]
variable {e:Env} {K:ORes->Prop}
theorem aJj {x:Operand}:fW P O (.move x) e K↔K (.val (e.eval x)):=by rw [rL (r:=some (.val (e.eval x))) fun _=>rfl];simp [vS]
theorem VM {x:Operand}:fW P O (.assign x) e K↔K (.val (e.eval x)):=by rw [rL (r:=some (.val (e.eval x))) fun _=>rfl];simp [vS]
def YV (c a b:AV):Option AV:=match c with
 | .bool true=>some a
 | .bool false=>some b
 | _=>none
theorem aJk {c a b:Operand}:fW P O (.pick c a b) e K↔qE (YV (e.eval c) (e.eval a) (e.eval b)) K:=by
 refine fY fun call=>?_
 show fC P call (.pick c a b) e=_;simp only [fC,iB]
 cases h:e.eval c with
 | bool b=>cases b<;>rfl
 | _=>rfl
theorem aCp {op:BinOp} {ty a:TypeId} {x y:Operand}:fW P O (.binOp op ty x y a) e K↔qE (abin P op ty x y (e.eval x) (e.eval y)) K:=fY fun _=>rfl
theorem aJl {op:UnOp} {ty:TypeId} {x:Operand}:fW P O (.unOp op ty x) e K↔qE (aun op (e.eval x)) K:=fY fun _=>rfl
theorem aJm {ty:TypeId} {a:Operand}:fW P O (.load ty a) e K↔qE (fE P e.s ty (e.eval a)) K:=fY fun _=>rfl
theorem aCq {ty:TypeId} {a x:Operand}:fW P O (.store ty a x) e K↔SA (mD P e.s ty (e.eval a) (e.eval x)) K:=JH fun _=>rfl
theorem aCr {ty:TypeId} {x:Operand} {lo a b:Option Operand}:fW P O (.slice ty x lo a b) e K↔qE (dQ P ty (e.eval x) (lo.map e.eval) (a.map e.eval) (b.map e.eval)) K:=fY fun _=>rfl
theorem HJ {ty:TypeId} {x:Operand} {f:Nat}:fW P O (.fieldAddr ty x f) e K↔qE (bV P ty (e.eval x) f) K:=fY fun _=>rfl
theorem HK {ty:TypeId} {x i:Operand}:fW P O (.indexAddr ty x i) e K↔qE (bW P ty (e.eval x) (e.eval i)) K:=fY fun _=>rfl
theorem aCs {ty:TypeId} {x i:Operand}:fW P O (.index ty x i) e K↔qE (rW P ty (e.eval x) (e.eval i)) K:=fY fun _=>rfl
theorem VN {ty:TypeId} {m k:Operand} {a:Bool}:fW P O (.lookup ty m k a) e K↔qE (alookup P e.s ty (e.eval m) (e.eval k) a) K:=fY fun _=>rfl
theorem HL {ty:TypeId} {m k x:Operand}:fW P O (.mapUpdate ty m k x) e K↔SA (fS P e.s ty (e.eval m) (e.eval k) (e.eval x)) K:=JH fun _=>rfl
theorem aCt {ty:TypeId} {a:Array (Nat × Operand)}:fW P O (.build ty a) e K↔qE (pI P ty (a.toList.map fun p=>(p.1,e.eval p.2))) K:=fY fun _=>rfl
def uV:AV->Option AV
 | .ptr i g o=>some (.ptr i g o)
 | .pf v=>some (.pf v)
 | .func (.func f) a c=>some (.func (.func f) a c)
 | .iface t v=>some (.iface t v)
 | _=>none
theorem MZ {x:Operand}:fW P O (.nilCheck x) e K↔qE (uV (e.eval x)) K:=by
 refine fY fun call=>?_
 show fC P call (.nilCheck x) e=_;simp only [fC,iB]
 cases h:e.eval x with
 | func f a c=>cases f<;>rfl
 | _=>rfl
theorem NA {f:FuncId} {first cap:Array Operand}:fW P O (.makeFunc (.func f) first cap) e K↔K (.val (.func (.func f) (first.toList.map e.eval) (cap.toList.map e.eval))):=by
 rw [rL (r:=some (.val (.func (.func f) (first.toList.map e.eval) (cap.toList.map e.eval)))) fun _=>rfl];simp [vS]
theorem QZ {x:Operand} {i:Nat}:fW P O (.extract x i) e K↔qE ((match e.eval x with | .tuple vs=>vs[i]? | _=>none)) K:=by
 refine fY fun call=>?_
 show fC P call (.extract x i) e=_;simp only [fC,iB];cases h:e.eval x<;>rfl
theorem RA {b:Builtin} {args:Array Operand} {ts:Array TypeId}:fW P O (.call {callee:=.builtin b,args:=args,argTypes:=ts}) e K↔vS (aY P e.s b ts (args.toList.map e.eval)) K:=rL fun _=>rfl
def ob (cs:List AV):AObj:=.cells 0 cs.length (Tr.leaf.lay 0 cs)
theorem rM {s:Sto} {cs:List AV}:oF s cs=if cs.all AV.isCell=true then some (s.n,s.push (ob cs)) else none:=by
 unfold oF;cases cs.all AV.isCell<;>rfl
def AV.isTop:AV->Bool
 | .top=>true
 | _=>false
def aK (b:Bool) (A:Prop):Prop:=b=true/\A
theorem aOi {A:Prop}:aK true A↔A:=by simp [aK]
@[congr] theorem aVd {b b':Bool} {A:Prop} (h:b=b'):aK b A=aK b' A:=by rw [h]
def yQ (v:AV) (s:Sto) (K:ORes->Prop):Prop:=v.isTop=false/\v.cells.all AV.isCell=true/\K (.val' (.ptr s.n 0 0) (s.push (ob v.cells)))
@[congr] theorem aRr {v v':AV} {s s':Sto} {K:ORes->Prop} (h:v=v') (h':s=s'):yQ v s K=yQ v' s' K:=by rw [h,h']
theorem aJn {l:List AV} {s:Sto} {K:ORes->Prop}:yQ (.agg l) s K↔aK (l.all AV.isCell) (K (.val' (.ptr s.n 0 0) (s.push (ob l)))):=by simp [yQ,AV.isTop,AV.cells,aK]
theorem aCu {v:AV} {s:Sto} {K:ORes->Prop} (h:v.isCell=true):yQ v s K↔K (.val' (.ptr s.n 0 0) (s.push (ob [v]))):=by
 have a:v.isTop=false:=by cases v<;>first | rfl | cases h
 have b:v.cells=[v]:=by cases v<;>first | rfl | cases h
 simp [yQ,a,b,h]
def jT (z:Option AV) (s:Sto) (K:ORes->Prop):Prop:=∃ v,z=some v/\v.cells.all AV.isCell=true/\K (.val' (.ptr s.n 0 0) (s.push (ob v.cells)))
@[congr] theorem aOj {z z':Option AV} {s s':Sto} {K:ORes->Prop} (h:z=z') (h':s=s'):jT z s K=jT z' s' K:=by rw [h,h']
theorem VO {l:List AV} {s:Sto} {K:ORes->Prop}:jT (some (.agg l)) s K↔aK (l.all AV.isCell) (K (.val' (.ptr s.n 0 0) (s.push (ob l)))):=by simp [jT,AV.cells,aK]
theorem RB {v:AV} {s:Sto} {K:ORes->Prop} (h:v.isCell=true):jT (some v) s K↔K (.val' (.ptr s.n 0 0) (s.push (ob [v]))):=by
 have a:v.cells=[v]:=by cases v<;>first | rfl | cases h
 simp [jT,a,h]
theorem JI {ty:TypeId}:fW P O (.alloc ty) e K↔jT (bF P ty) e.s K:=by
 rw [rL (r:=match bF P ty with | some z=>(match oF e.s z.cells with | some (id,s)=>some (.val' (.ptr id 0 0) s) | none=>none) | none=>none) fun _=>rfl]
 cases h:bF P ty with
 | none=>simp [vS,jT]
 | some z=>
   simp only [vS,jT,Option.some.injEq,exists_eq_left',rM];by_cases a:z.cells.all AV.isCell=true<;>simp [a]
theorem YW {ty:TypeId} {x:Operand}:fW P O (.box ty x) e K↔yQ (e.eval x) e.s K:=by
 have:∀ call,fC P call (.box ty x) e=match e.eval x with | .top=>none | v=>(match oF e.s v.cells with | some (id,s)=>some (.val' (.ptr id 0 0) s) | none=>none):=fun _=>rfl
 rw [rL this];generalize e.eval x=v;by_cases a:v=.top
 ·subst a;simp [AV.isTop,yQ,vS]
 ·have b:v.isTop=false:=by cases v<;>first | rfl | exact absurd rfl a
  have:(match v with | .top=>none | v=>(match oF e.s v.cells with | some (id,s)=>some (ORes.val' (.ptr id 0 0) s) | none=>none))=(match oF e.s v.cells with | some (id,s)=>some (ORes.val' (.ptr id 0 0) s) | none=>none):=by
   cases v<;>first | rfl | exact absurd rfl a
  rw [this,rM];by_cases f:v.cells.all AV.isCell=true<;>simp [f,yQ,vS,b]
def callK (s:Sto) (K:ORes->Prop):CRes->Prop
 | .ret v none=>K (.val v)
 | .ret v (some s')=>K (.val' v s')
 | .pan v none=>K (.pan v s)
 | .pan v (some s')=>K (.pan v s')
theorem JJ {s:Sto} {v:AV}:callK s K (.ret v none)=K (.val v):=rfl
theorem FU {s s':Sto} {v:AV}:callK s K (.ret v (some s'))=K (.val' v s'):=rfl
theorem aJo {f:Operand} {args:Array Operand} {ts:Array TypeId}:fW P O (.call {callee:=.value f,args:=args,argTypes:=ts}) e K↔Wcall P O (e.eval f) (args.toList.map e.eval) e.s (callK e.s K):=by
 have k:∀ n,fC P (aR P O n) (.call {callee:=.value f,args:=args,argTypes:=ts}) e=fT e.s (aR P O n (e.eval f) (args.toList.map e.eval) e.s .no):=fun _=>rfl
 constructor
 ·rintro ⟨n,r,a,b⟩
  rw [k]at a
  cases l:aR P O n (e.eval f) (args.toList.map e.eval) e.s .no with
  | none=>rw [l]at a;cases a
  | some y=>
    obtain ⟨res,m⟩:=y;rw [l]at a;refine ⟨n,res,m,l,?_⟩
    cases res with
    | ret v h=>cases h<;>simp [fT]at a<;>subst a<;>exact b
    | pan v h=>cases h<;>simp [fT]at a<;>subst a<;>exact b
 ·rintro ⟨n,res,m,a,b⟩
  cases res with
  | ret v h=>cases h with
    | none=>exact ⟨n,_,by rw [k,a];rfl,b⟩
    | some s'=>exact ⟨n,_,by rw [k,a];rfl,b⟩
  | pan v h=>cases h with
    | none=>exact ⟨n,_,by rw [k,a];rfl,b⟩
    | some s'=>exact ⟨n,_,by rw [k,a];rfl,b⟩
def HM (o:Option CRes) (K:CRes->Prop) (R:Prop):Prop:=match o with
 | some r=>K r
 | none=>R
theorem aCv {c:CRes} {K:CRes->Prop} {R:Prop}:HM (some c) K R=K c:=rfl
@[congr] theorem aRs {o o':Option CRes} {K:CRes->Prop} {R:Prop} (h:o=o'):HM o K R=HM o' K R:=by rw [h]
def aOk (P:Program) (O:cH) (a:AV) (args:List AV) (s:Sto) (K:CRes->Prop):Prop:=∃ n res b,(match gV P s a args with
    | some (.fn f args)=>oW P (aR P O n) n f args s .no
    | some (.round l args)=>mF P (aR P O n) n l args s
    | none=>none)=some (res,b)/\K res
theorem kW {g:FuncId} {first cap args:List AV} {s:Sto} {K:CRes->Prop}:
 Wcall P O (.func (.func g) first cap) args s K↔HM (O g (first++args++cap) s) K (aOk P O (.func (.func g) first cap) args s K):=by
 have f:GS O (.func (.func g) first cap) args s .no=O g (first++args++cap) s:=rfl
 cases k:O g (first++args++cap) s with
 | some c=>
   simp only [HM];constructor
   ·rintro ⟨n,res,l,a,b⟩
    cases n with
    | zero=>cases a
    | succ n=>
      simp only [aR,f,k]at a;simp at a;obtain ⟨rfl,rfl⟩:=a;exact b
   ·intro h
    exact ⟨1,c,.no,by simp only [aR,f,k],h⟩
 | none=>
   simp only [HM];constructor
   ·rintro ⟨n,res,l,a,b⟩
    cases n with
    | zero=>cases a
    | succ n=>
      simp only [aR,f,k]at a;exact ⟨n,res,l,a,b⟩
   ·rintro ⟨n,res,l,a,b⟩
    exact ⟨n+1,res,l,by simp only [aR,f,k];exact a,b⟩
end
abbrev kG:=FuncId × (List AV->Sto->Option CRes)
def orcL:List kG->cH
 | [],_,_,_=>none
 | x::L,f,args,s=>bif Nat.beq x.1 f then x.2 args s else orcL L f args s
theorem uW {f:FuncId} {F:List AV->Sto->Option CRes} {L:List kG} {args:List AV} {s:Sto}:orcL ((f,F)::L) f args s=F args s:=by simp [orcL]
theorem YX {f g:FuncId} {F:List AV->Sto->Option CRes} {L:List kG} {args:List AV} {s:Sto} (h:g≠f):orcL ((g,F)::L) f args s=orcL L f args s:=by
 have:Nat.beq g f=false:=by
  cases a:Nat.beq g f with
  | false=>rfl
  | true=>exact absurd (Nat.eq_of_beq_eq_true a) h
 simp [orcL,this]
def bM (P:Program) (x:kG):Prop:=∀ args s res,x.2 args s=some res->bO P x.1 args s res
theorem mT {P:Program} {L:List kG} (h:∀ x∈L,bM P x):rN P (orcL L):=by
 intro f args s res a
 induction L with
 | nil=>cases a
 | cons x L l=>
   unfold orcL at a
   cases b:Nat.beq x.1 f with
   | true=>
     rw [b]at a;have:=h x (List.mem_cons_self ..) args s res a;rw [Nat.eq_of_beq_eq_true b]at this;exact this
   | false=>rw [b]at a;exact l (fun x k=>h x (List.mem_cons_of_mem _ k)) a
theorem aE {P:Program}:∀ x∈([]:List kG),bM P x:=fun _ h=>nomatch h
theorem elist_cons {P:Program} {x:kG} {L:List kG} (h:bM P x) (b:∀ x∈L,bM P x):∀ y∈x::L,bM P y:=fun y a=>by
 rcases List.mem_cons.1 a with rfl | a
 ·exact h
 ·exact b y a
end
end Go.Abs
