/-
  The abstract machine: more fuel, and more that is known of calls, come to the same.
-/
import Derived.Test.YtpmccfnfikkkbaaGreatUx
set_option linter.unusedVariables false
set_option linter.unusedSimpArgs false
namespace Go.Abs
section
variable {P:Program}
def CLe (c d:bR):Prop:=∀ fv args s r x,c fv args s r=some x->d fv args s r=some x
theorem CLe.refl (c:bR):CLe c c:=fun _ _ _ _ _ h=>h
theorem CLe.trans {a b c:bR} (h:CLe a b) (f:CLe b c):CLe a c:=fun _ _ _ _ _ x=>f _ _ _ _ _ (h _ _ _ _ _ x)
variable {c d:bR}
theorem AS (h:CLe c d) {s:Sto} {a:AV} {args:List AV} {r:ORes} (f:fQ s (c a args s .no)=some r):fQ s (d a args s .no)=some r:=by
 cases b:c a args s .no with
 | none=>rw [b]at f;cases f
 | some x=>rw [h _ _ _ _ _ b,<-b];exact f
theorem jW (h:CLe c d) {o:Oper} {e:Env} {r:ORes} (k:iD P c o e=some r):iD P d o e=some r:=by
 unfold iD at k ⊢
 cases m:o.op<;>simp only [m]at k ⊢<;>first | exact k | skip
 rename_i l;obtain ⟨a,args,p⟩:=l
 cases a with
 | builtin b=>exact k
 | value f=>exact AS h k
 | invoke f n=>exact AS h k
theorem IA (h:CLe c d) {ops:List Oper}:∀ (rest:List Oper) (e:Env) (x:Ex × Env),gY P c ops rest e=some x->gY P d ops rest e=some x:=by
 intro rest
 induction rest with
 | nil=>intro e x a;exact a
 | cons o rest b=>
   intro e x a;simp only [gY]at a ⊢;split at a
   ·cases a
   ·rename_i k
    split at a
    ·exact b _ _ a
    ·cases a
   ·rename_i k
    cases f:iD P c o e with
    | none=>rw [f]at a;cases a
    | some r=>
      rw [jW h f];rw [f]at a
      cases r with
      | val v=>simp only at a ⊢;split at a<;>first | exact b _ _ a | cases a
      | val' v s=>simp only at a ⊢;split at a<;>first | exact b _ _ a | cases a
      | pan v s=>exact a
      | defer q=>simp only at a ⊢;split at a<;>first | exact b _ _ a | cases a
      | recov=>
        simp only at a ⊢;split at a
        ·split at a<;>first | exact b _ _ a | cases a
        ·split at a<;>first | exact b _ _ a | cases a
        ·cases a
theorem OM {x:TrE} {y:Option TrR} {z:TrR} (h:pN x y=some z):∃ l f p,y=some (l,f,p)/\z=(x::l,f,p):=by
 cases y with
 | none=>cases h
 | some y=>obtain ⟨l,f,p⟩:=y;simp only [pN,Option.some.injEq]at h;exact ⟨l,f,p,rfl,h.symm⟩
theorem OO (h:CLe c d) {ops:List Oper}:∀ (rest:List Oper) (i:Nat) (e:Env) (x:TrR),CF P c ops rest i e=some x->CF P d ops rest i e=some x:=by
 intro rest
 induction rest with
 | nil=>intro i e x a;exact a
 | cons o rest w=>
   intro i e x a
   have b:∀ {y:TrE} {e':Env} {z:TrR},pN y (CF P c ops rest (i+1) e')=some z->pN y (CF P d ops rest (i+1) e')=some z:=by
    intro y e' z u;obtain ⟨l,f,p,m,A⟩:=OM u;rw [w _ _ _ m,<-u,m]
   simp only [CF]at a ⊢;split at a
   ·cases a
   ·split at a
    ·exact b a
    ·cases a
   ·cases k:iD P c o e with
    | none=>rw [k]at a;cases a
    | some r=>
      rw [jW h k];rw [k]at a
      cases r with
      | val v=>simp only at a ⊢;split at a<;>first | exact b a | cases a
      | val' v s=>simp only at a ⊢;split at a<;>first | exact b a | cases a
      | pan v s=>exact a
      | defer q=>cases a
      | recov=>cases a
theorem EJ (h:CLe c d) {v:AV} {o:Oper} {e:Env} (b:isVal v (iD P c o e)=true):isVal v (iD P d o e)=true:=by
 cases a:iD P c o e with
 | none=>rw [a]at b;cases b
 | some r=>rw [jW h a,<-a];exact b
theorem JY (h:CLe c d) {n:Nat} {as:List Nat} {ns:List (Nat × Nat)} {x:TrE}:∀ (cs:List Nat) (a:List Sto),iQ P c n as ns x cs a=true->iQ P d n as ns x cs a=true:=by
 intro cs
 induction cs with
 | nil=>
   intro a b
   cases a with
   | nil=>simp [iQ]at b
   | cons s a=>
     cases a with
     | nil=>exact EJ h b
     | cons m a=>simp [iQ]at b
 | cons k cs l=>
   intro a b
   cases a with
   | nil=>simp [iQ]at b
   | cons s a=>
     simp only [iQ,Bool.and_eq_true]at b ⊢;refine ⟨?_,?_⟩
     ·have:=b.1
      cases f:(as.getD x.i 0).testBit k with
      | true=>rfl
      | false=>rw [f]at this;exact EJ h this
     ·have:=b.2
      cases f:(as.getD k 0).testBit x.i with
      | true=>rfl
      | false=>rw [f]at this;exact l _ this
theorem JZ (h:CLe c d) {n0:Nat} {ns:List (Nat × Nat)} {as cs:List Nat} {x:TrE} (a:oX P c as n0 ns cs x=true):oX P d as n0 ns cs x=true:=by
 simp only [oX,Bool.and_eq_true,decide_eq_true_eq]at a ⊢;exact ⟨a.1,fun f b=>jW h (a.2 f b)⟩
theorem KA (h:CLe c d) {n0:Nat} {as cs:List Nat} {f:List Sto} {x:TrE} (b:rO P c as n0 cs f x=true):rO P d as n0 cs f x=true:=by
 simp only [rO,decide_eq_true_eq]at b ⊢;obtain ⟨m,o,k,l⟩:=b;exact ⟨m,o,k,fun p a=>jW h (l p a)⟩
theorem GY (h:CLe c d) {n n0:Nat} {as:List Nat} {l:List TrE} {s:Sto} (f:fI P c n n0 as l s=true):fI P d n n0 as l s=true:=by
 have k:∀ (ns:List (Nat × Nat)) (cs:List Nat) (o:List Sto) (m:List TrE),lI P c n n0 as ns cs o m=true->lI P d n n0 as ns cs o m=true:=by
  intro ns cs o m
  induction m with
  | nil=>intro _;rfl
  | cons x m p=>
    intro b;simp only [lI,Bool.and_eq_true,Bool.or_eq_true]at b ⊢;refine ⟨?_,p b.2⟩
    rcases b.1 with (((a | a) | a) | a) | a
    ·exact .inl (.inl (.inl (.inl a)))
    ·exact .inl (.inl (.inl (.inr a)))
    ·exact .inl (.inl (.inr (JY h _ _ a)))
    ·exact .inl (.inr (JZ h a))
    ·exact .inr (KA h a)
 unfold fI at f ⊢;split at f
 ·rfl
 ·exact k _ _ _ _ f
theorem SU (h:CLe c d) {ops:List Oper} {e:Env} {x:Ex × Env} (a:yD P c ops e=some x):yD P d ops e=some x:=by
 unfold yD at a ⊢
 cases k:CF P c ops ops 0 e with
 | none=>rw [k]at a;cases a
 | some y=>
   obtain ⟨l,f,p⟩:=y;rw [OO h _ _ _ _ k];rw [k]at a;simp only at a ⊢
   cases b:fI P c f.s.n e.s.n (cI ops) l f.s with
   | false=>rw [b]at a;simp at a
   | true=>rw [GY h b,<-b];exact a
theorem KB (h:CLe c d) {ops:List Oper} {a:Bool} {e:Env} {x:Ex × Env} (b:oY P c ops a e=some x):oY P d ops a e=some x:=by
 cases a with
 | true=>exact SU h b
 | false=>exact IA h _ _ _ b
theorem AT {f g:Env->Option (Ex × Env)} (h:∀ e x,f e=some x->g e=some x):∀ (n m:Nat) (e:Env) (x:Ex × Env),n<=m->loopGo f n e=some x->loopGo g m e=some x:=by
 intro n
 induction n with
 | zero=>intro m e x _ a;cases a
 | succ n o=>
   intro m e x p a
   obtain ⟨m,rfl⟩:∃ k,m=k+1:=⟨m-1,by omega⟩
   simp only [loopGo]at a ⊢
   cases b:f e with
   | none=>rw [b]at a;cases a
   | some y=>
     rw [h _ _ b];rw [b]at a;obtain ⟨l,e'⟩:=y
     cases l with
     | normal=>exact o m e' x (by omega) a
     | _=>exact a
theorem OP (h:CLe c d) {f:Operand} {ps:Array Tmp} {a b:Code} {e:Env} {x:Ex × Env} (k:vY c f ps a b e=some x):vY d f ps a b e=some x:=by
 unfold vY at k ⊢;split at k
 ·cases k
 ·simp only at k ⊢
  rename_i q m o ds p
  cases l:c (e.eval f) [.func (.yield m.n) [] []] (m.push (.loop .ready none e.fn e.nt e.t ps.toList a b o)) .no with
  | none=>rw [l]at k;cases k
  | some y=>rw [h _ _ _ _ _ l,<-l];exact k
theorem qZ (h:CLe c d) {n m:Nat} (A:n<=m):∀ (k:Code) (e:Env) (x:Ex × Env),bE P c n k e=some x->bE P d m k e=some x:=by
 intro k
 induction k with
 | region id ops v=>intro e x l;exact KB h l
 | seq a b o u=>
   intro e x l;simp only [bE]at l ⊢
   cases p:bE P c n a e with
   | none=>rw [p]at l;cases l
   | some y=>
     rw [o _ _ p];rw [p]at l;obtain ⟨w,e'⟩:=y
     cases w with
     | normal=>exact u _ _ l
     | _=>exact l
 | cond q a b o u=>
   intro e x l;simp only [bE]at l ⊢;split at l
   ·exact o _ _ l
   ·exact u _ _ l
   ·cases l
 | block id a o=>
   intro e x l;simp only [bE]at l ⊢
   cases p:bE P c n a e with
   | none=>rw [p]at l;cases l
   | some y=>rw [o _ _ p,<-p];exact l
 | loop a o=>intro e x l;exact AT o _ _ _ _ A l
 | scope a o=>
   intro e x l;simp only [bE]at l ⊢
   cases p:bE P c n a e with
   | none=>rw [p]at l;cases l
   | some y=>rw [o _ _ p,<-p];exact l
 | rangeFunc f ps a b=>intro e x l;exact OP h l
 | _=>intro e x l;exact l
theorem sV (h:CLe c d) {fn:Func}:∀ (n m:Nat) (b:Option AV) (e:Env) (x:LRes × Env),n<=m->dleave P c fn n b e=some x->dleave P d fn m b e=some x:=by
 intro n
 induction n with
 | zero=>intro m b e x _ a;cases a
 | succ n q=>
   intro m b e x w a
   obtain ⟨m,rfl⟩:∃ k,m=k+1:=⟨m-1,by omega⟩
   have l:n<=m:=by omega
   simp only [dleave]at a ⊢;split at a
   ·exact a
   ·split at a
    ·exact q _ _ _ _ l a
    ·cases a
   ·rename_i o args ds _
    cases v:yE o with
    | true=>rw [v]at a;cases a
    | false=>
      rw [v]at a;simp only [cond_false]at a ⊢
      cases b with
      | none=>
        simp only at a ⊢
        cases f:c o args e.s .no with
        | none=>rw [f]at a;cases a
        | some y=>
          rw [h _ _ _ _ _ f];rw [f]at a;obtain ⟨res,u⟩:=y
          cases res<;>cases u<;>first | exact q _ _ _ _ l a | cases a
      | some p=>
        simp only at a ⊢
        cases f:c o args e.s (.pan p) with
        | none=>rw [f]at a;cases a
        | some y=>
          rw [h _ _ _ _ _ f];rw [f]at a;obtain ⟨res,u⟩:=y
          cases res<;>cases u<;>first | exact q _ _ _ _ l a | cases a
theorem SV (h:CLe c d) {n m:Nat} (l:n<=m) {f:FuncId} {args:List AV} {s:Sto} {r:ARec} {x:CRes × ARec} (a:qD P c n f args s r=some x):qD P d m f args s r=some x:=by
 unfold qD at a ⊢
 cases o:okFn P f with
 | false=>rw [o]at a;cases a
 | true=>
   rw [o]at a;simp only [cond_true]at a ⊢;split at a
   ·rename_i fn v
    split at a
    ·rename_i k A
     cases b:bE P c n k {nt:=Nat.max args.length fn.ntmps,ro:=none,fn:=f,t:=Tr.leaf.lay 0 args,ds:=[],s:={s with low:=s.n},r:=r} with
     | none=>rw [b]at a;cases a
     | some y=>
       rw [qZ h l _ _ _ b];rw [b]at a;obtain ⟨q,e'⟩:=y
       cases q<;>first | (obtain ⟨B,p,w,u⟩:=uO a;simp only [sV h _ _ _ _ _ l w];exact u) | cases a
    ·cases a
   ·cases a
theorem OQ (h:CLe c d) {n m:Nat} (A:n<=m) {l:Nat} {args:List AV} {s:Sto} {x:CRes × ARec} (f:mD P c n l args s=some x):mD P d m l args s=some x:=by
 unfold mD at f ⊢;split at f
 ·rename_i st B fn nt t ps a b H I
  split at f
  ·rename_i G J
   cases q:bE P c n a {nt:=nt,ro:=some l,fn:=fn,t:=G,ds:=[],s:={s with low:=s.n},r:=.no} with
   | none=>rw [q]at f;cases f
   | some y=>
     rw [qZ h A _ _ _ q];rw [q]at f;obtain ⟨E,e'⟩:=y
     cases E with
     | normal=>
       simp only at f ⊢;split at f
       ·rename_i o p u w v C b' D F
        cases k:bE P c n b {e' with s:=e'.s.put l (.loop .busy o p u w v C b' D)} with
        | none=>rw [k]at f;cases f
        | some y=>
          rw [qZ h A _ _ _ k,<-k];exact f
       ·cases f
     | _=>cases f
  ·cases f
 ·cases f
theorem gM {O:Orc}:∀ (n m:Nat),n<=m->CLe (aP P O n) (aP P O m):=by
 intro n
 induction n with
 | zero=>intro m _ h args s r x a;cases a
 | succ n f=>
   intro m l h args s r x a
   obtain ⟨m,rfl⟩:∃ k,m=k+1:=⟨m-1,by omega⟩
   have b:n<=m:=by omega
   simp only [aP]at a ⊢;split at a
   ·exact a
   ·split at a
    ·exact SV (f m b) b a
    ·cases r<;>first | exact OQ (f m b) b a | cases a
    ·cases a
end
end Go.Abs
/-
 The abstract machine: what must hold for a piece of code to end so;rules for a walk by 'simp'.
-/
namespace Go.Abs
noncomputable section
def Tr.val (t:Tr AV) (i:Nat):AV:=(t.get i).getD .top
theorem Tr.val_set_same (t:Tr AV) (i:Nat) (a:AV):(t.set i a).val i=a:=by simp [Tr.val,Tr.get_set]
theorem Tr.val_set_ne (t:Tr AV) (i j:Nat) (a:AV) (h:j≠i):(t.set i a).val j=t.val j:=by simp [Tr.val,Tr.get_set,h]
theorem Env.eval_tmp (e:Env) (i:Nat):e.eval (.tmp i)=e.t.val i:=by
 simp only [Env.eval,Tr.val];cases e.t.get i<;>rfl
def nR (o:Option AV) (K:ORes->Prop):Prop:=∃ v,o=some v/\K (.val v)
def MP (o:Option Sto) (K:ORes->Prop):Prop:=∃ s,o=some s/\K (.val' .undef s)
def sE (o:Option ORes) (K:ORes->Prop):Prop:=∃ r,o=some r/\K r
theorem OR {v:AV} {K:ORes->Prop}:nR (some v) K↔K (.val v):=by simp [nR]
theorem aFb {s:Sto} {K:ORes->Prop}:MP (some s) K↔K (.val' .undef s):=by simp [MP]
theorem aFc {r:ORes} {K:ORes->Prop}:sE (some r) K↔K r:=by simp [sE]
@[congr] theorem aRm {o o':Option AV} {K:ORes->Prop} (h:o=o'):nR o K=nR o' K:=by rw [h]
@[congr] theorem aRn {o o':Option Sto} {K:ORes->Prop} (h:o=o'):MP o K=MP o' K:=by rw [h]
@[congr] theorem aRo {o o':Option ORes} {K:ORes->Prop} (h:o=o'):sE o K=sE o' K:=by rw [h]
section
variable (P:Program) (O:Orc)
def W (c:Code) (e:Env) (Q:Ex->Env->Prop):Prop:=∃ n a e',bE P (aP P O n) n c e=some (a,e')/\Q a e'
def Wo (ops rest:List Oper) (e:Env) (Q:Ex->Env->Prop):Prop:=∃ n a e',gY P (aP P O n) ops rest e=some (a,e')/\Q a e'
def eX (call:bR) (op:Op) (e:Env):Option ORes:=iD P call {dst:=none,op:=op,type:=0,pos:= "",after:=#[],guard:=none} e
def eI (op:Op) (e:Env) (K:ORes->Prop):Prop:=∃ n r,eX P (aP P O n) op e=some r/\K r
def Wcall (a:AV) (args:List AV) (s:Sto) (K:CRes->Prop):Prop:=∃ n res rr,aP P O n a args s .no=some (res,rr)/\K res
variable {P O}
theorem W.mono {c:Code} {e:Env} {Q b:Ex->Env->Prop} (h:W P O c e Q) (l:∀ a e',Q a e'->b a e'):W P O c e b:=by
 obtain ⟨n,a,e',f,k⟩:=h;exact ⟨n,a,e',f,l _ _ k⟩
@[congr] theorem aUk {c:Code} {e e':Env} {Q:Ex->Env->Prop} (h:e=e'):W P O c e Q=W P O c e' Q:=by rw [h]
@[congr] theorem aSp {ops rest:List Oper} {e e':Env} {Q:Ex->Env->Prop} (h:e=e'):Wo P O ops rest e Q=Wo P O ops rest e' Q:=by rw [h]
@[congr] theorem aRp {op:Op} {e e':Env} {K:ORes->Prop} (h:e=e'):eI P O op e K=eI P O op e' K:=by rw [h]
@[congr] theorem aNk {fv fv':AV} {args args':List AV} {s s':Sto} {K:CRes->Prop} (h:fv=fv') (h':args=args') (h'':s=s'):Wcall P O fv args s K=Wcall P O fv' args' s' K:=by rw [h,h',h'']
theorem oQ {n m:Nat} (h:n<=m) {c:Code} {e:Env} {x:Ex × Env} (a:bE P (aP P O n) n c e=some x):bE P (aP P O m) m c e=some x:=qZ (gM n m h) h c e x a
def aPf (P:Program) (O:Orc) (b:Code) (Q:Ex->Env->Prop):Ex->Env->Prop
 | .normal,e=>W P O b e Q
 | ex,e=>Q ex e
theorem aSq {a b:Code} {e:Env} {Q:Ex->Env->Prop}:W P O (.seq a b) e Q↔W P O a e (aPf P O b Q):=by
 constructor
 ·rintro ⟨n,l,e',h,k⟩
  simp only [bE]at h
  cases q:bE P (aP P O n) n a e with
  | none=>rw [q]at h;cases h
  | some y=>
    obtain ⟨f,u⟩:=y;rw [q]at h;refine ⟨n,f,u,q,?_⟩
    cases f with
    | normal=>exact ⟨n,l,e',h,k⟩
    | _=>simp at h;obtain ⟨rfl,rfl⟩:=h;exact k
 ·rintro ⟨n,l,e',h,k⟩
  cases l with
  | normal=>
    obtain ⟨m,o,v,w,p⟩:=k;refine ⟨max n m,o,v,?_,p⟩;simp only [bE,oQ (Nat.le_max_left n m) h,oQ (Nat.le_max_right n m) w]
  | _=>exact ⟨n,_,e',by simp only [bE,h],k⟩
def fN (id:Nat) (Q:Ex->Env->Prop):Ex->Env->Prop
 | .exit i,e=>bif Nat.beq i id then Q .normal e else Q (.exit i) e
 | ex,e=>Q ex e
theorem aKs {id:Nat} {c:Code} {e:Env} {Q:Ex->Env->Prop}:W P O (.block id c) e Q↔W P O c e (fN id Q):=by
 constructor
 ·rintro ⟨n,l,e',h,a⟩
  simp only [bE]at h
  cases k:bE P (aP P O n) n c e with
  | none=>rw [k]at h;cases h
  | some y=>
    obtain ⟨b,m⟩:=y;rw [k]at h;refine ⟨n,b,m,k,?_⟩
    cases b with
    | exit i=>
      simp only [fN]at h ⊢;cases f:Nat.beq i id<;>rw [f]at h<;>simp at h<;>obtain ⟨rfl,rfl⟩:=h<;>exact a
    | _=>simp at h;obtain ⟨rfl,rfl⟩:=h;exact a
 ·rintro ⟨n,l,e',h,a⟩
  cases l with
  | exit i=>
    simp only [fN]at a;cases f:Nat.beq i id<;>rw [f]at a
    ·exact ⟨n,_,e',by simp only [bE,h,f,cond_false],a⟩
    ·exact ⟨n,_,e',by simp only [bE,h,f,cond_true],a⟩
  | _=>exact ⟨n,_,e',by simp only [bE,h],a⟩
theorem GZ {id:Nat} {Q:Ex->Env->Prop} {e:Env}:fN id Q .normal e=Q .normal e:=rfl
theorem OS {id:Nat} {Q:Ex->Env->Prop} {e:Env}:fN id Q (.exit id) e=Q .normal e:=by simp [fN]
theorem ZS {id i:Nat} {Q:Ex->Env->Prop} {e:Env} (h:i≠id):fN id Q (.exit i) e=Q (.exit i) e:=by
 simp only [fN]
 have:Nat.beq i id=false:=by
  cases a:Nat.beq i id with
  | false=>rfl
  | true=>exact absurd (Nat.eq_of_beq_eq_true a) h
 rw [this];rfl
theorem SW {id:Nat} {Q:Ex->Env->Prop} {e:Env}:fN id Q .ret e=Q .ret e:=rfl
theorem KC {id:Nat} {Q:Ex->Env->Prop} {e:Env} {v:AV}:fN id Q (.panic v) e=Q (.panic v) e:=rfl
def aFd (P:Program) (O:Orc) (v:AV) (x y:Code) (e:Env) (Q:Ex->Env->Prop):Prop:=(v=.bool true/\W P O x e Q)∨(v=.bool false/\W P O y e Q)
@[congr] theorem aNl {v v':AV} {x y:Code} {e:Env} {Q:Ex->Env->Prop} (h:v=v'):aFd P O v x y e Q=aFd P O v' x y e Q:=by rw [h]
theorem aPg {c:Operand} {x y:Code} {e:Env} {Q:Ex->Env->Prop}:W P O (.cond c x y) e Q↔aFd P O (e.eval c) x y e Q:=by
 constructor
 ·rintro ⟨n,b,e',h,f⟩
  simp only [bE]at h;split at h
  ·rename_i a;exact .inl ⟨a,n,b,e',h,f⟩
  ·rename_i a;exact .inr ⟨a,n,b,e',h,f⟩
  ·cases h
 ·rintro (⟨a,n,b,e',h,f⟩ | ⟨a,n,b,e',h,f⟩)
  ·exact ⟨n,b,e',by simp only [bE,a,h],f⟩
  ·exact ⟨n,b,e',by simp only [bE,a,h],f⟩
theorem aPh {e:Env} {Q:Ex->Env->Prop}:W P O .skip e Q↔Q .normal e:=⟨fun ⟨n,b,e',h,a⟩=>by simp [bE]at h;obtain ⟨rfl,rfl⟩:=h;exact a,fun h=>⟨0,_,_,rfl,h⟩⟩
theorem aKt {l:Nat} {e:Env} {Q:Ex->Env->Prop}:W P O (.label l) e Q↔Q .normal e:=⟨fun ⟨n,b,e',h,a⟩=>by simp [bE]at h;obtain ⟨rfl,rfl⟩:=h;exact a,fun h=>⟨0,_,_,rfl,h⟩⟩
theorem aPi {i:Nat} {e:Env} {Q:Ex->Env->Prop}:W P O (.exit i) e Q↔Q (.exit i) e:=⟨fun ⟨n,b,e',h,a⟩=>by simp [bE]at h;obtain ⟨rfl,rfl⟩:=h;exact a,fun h=>⟨0,_,_,rfl,h⟩⟩
theorem aSr {e:Env} {Q:Ex->Env->Prop}:W P O .ret e Q↔Q .ret e:=⟨fun ⟨n,b,e',h,a⟩=>by simp [bE]at h;obtain ⟨rfl,rfl⟩:=h;exact a,fun h=>⟨0,_,_,rfl,h⟩⟩
theorem OU {f:Env->Option (Ex × Env)} (a:∀ e l e',f e≠some (.goto l,e')):∀ (n:Nat) (e:Env) (l:Nat) (e':Env),loopGo f n e≠some (.goto l,e'):=by
 intro n
 induction n with
 | zero=>intro e l e' h;cases h
 | succ n b=>
   intro e l e' h;simp only [loopGo]at h;split at h
   ·exact b _ _ _ h
   ·exact a _ _ _ h
theorem ZT {call:bR} {ops:List Oper}:∀ (rest:List Oper) (e:Env) (l:Nat) (e':Env),gY P call ops rest e≠some (.goto l,e'):=by
 intro rest
 induction rest with
 | nil=>intro e l e' h;cases h
 | cons o rest a=>
   intro e l e' h;simp only [gY]at h;split at h
   ·cases h
   ·split at h
    ·exact a _ _ _ h
    ·cases h
   ·split at h
    ·cases h
    ·split at h<;>first | exact a _ _ _ h | cases h
    ·split at h<;>first | exact a _ _ _ h | cases h
    ·cases h
    ·split at h<;>first | exact a _ _ _ h | cases h
    ·split at h
     ·split at h<;>first | exact a _ _ _ h | cases h
     ·split at h<;>first | exact a _ _ _ h | cases h
     ·cases h
theorem SX {call:bR} {n:Nat}:∀ (c:Code) (e:Env) (l:Nat) (e':Env),bE P call n c e≠some (.goto l,e'):=by
 intro c
 induction c with
 | region id ops v=>
   intro e l e' h
   cases v with
   | false=>exact ZT _ _ _ _ h
   | true=>
     simp only [bE,oY,cond_true,yD]at h;split at h
     ·cases h
     ·rename_i m f p y
      cases o:(P.follows .mixedOrders&&nZ ops.toList&&fS (cI ops.toList) (dQ m)&&tG (cI ops.toList) (lD m) (dQ m)&&gZ m f.s.n&&jG m&&fI P call f.s.n e.s.n (cI ops.toList) m f.s) with
      | false=>rw [o]at h;cases h
      | true=>
        rw [o]at h;simp only [cond_true]at h;split at h
        ·cases h
        ·cases w:kF (cI ops.toList) (m.length-1) ops.toList 0<;>rw [w]at h<;>cases h
 | seq a b k u=>
   intro e l e' h;simp only [bE]at h;split at h
   ·exact u _ _ _ h
   ·exact k _ _ _ h
 | cond q a b k u=>
   intro e l e' h;simp only [bE]at h;split at h
   ·exact k _ _ _ h
   ·exact u _ _ _ h
   ·cases h
 | block id a k=>
   intro e l e' h;simp only [bE]at h;split at h
   ·simp only [Bool.cond_eq_ite]at h
    split at h<;>cases h
   ·exact k _ _ _ h
 | loop a k=>intro e l e' h;exact OU k _ _ _ _ h
 | scope a k=>
   intro e l e' h;simp only [bE]at h;split at h
   ·cases h
   ·exact k _ _ _ h
 | rangeFunc f ps a b=>
   intro e l e' h;simp only [bE,vY]at h;split at h
   ·cases h
   ·try simp only at h
    split at h
    ·simp only [gD]at h
     split at h
     ·split at h
      ·cases h
      ·try simp only at h
       split at h<;>cases h
     ·cases h
    ·cases h
    ·cases h
 | _=>intro e l e' h;cases h
theorem aKu {c:Code} {e:Env} {Q:Ex->Env->Prop}:W P O (.scope c) e Q↔W P O c e Q:=by
 constructor
 ·rintro ⟨n,a,e',h,b⟩
  simp only [bE]at h;split at h
  ·cases h
  ·exact ⟨n,a,e',h,b⟩
 ·rintro ⟨n,a,e',h,b⟩
  refine ⟨n,a,e',?_,b⟩;simp only [bE,h];split
  ·rename_i f;simp at f;obtain ⟨rfl,_⟩:=f;exact absurd h (SX _ _ _ _)
  ·rfl
theorem aPj {α:Type} (I:α->Env->Prop) (m:α->Nat) (a:α) {c:Code} {e:Env} {Q:Ex->Env->Prop} (y:I a e)
 (C:∀ a e,I a e->W P O c e fun b e'=>match b with | .normal=>∃ f,m f<m a/\I f e' | b=>Q b e'):W P O (.loop c) e Q:=by
 generalize G:m a=k
 induction k using Nat.strongRecOn generalizing a e with
 | _ k E=>
   obtain ⟨n,b,e',h,l⟩:=C a e y
   have u:∀ b,b≠.normal->bE P (aP P O n) n c e=some (b,e')->Q b e'->W P O (.loop c) e Q:=by
    intro b q h l;refine ⟨n+1,b,e',?_,l⟩;simp only [bE,loopGo];rw [oQ (Nat.le_succ n) h]
    cases b<;>first | rfl | exact absurd rfl q
   cases b with
   | normal=>
     obtain ⟨f,B,A⟩:=l;obtain ⟨F,o,w,v,p⟩:=E (m f) (by omega) f A rfl;refine ⟨max n F+1,o,w,?_,p⟩;simp only [bE,loopGo];rw [oQ (by omega) h];simp only [bE]at v;exact AT (fun e x D=>oQ (by omega) D) _ _ _ _ (by omega) v
   | _=>exact u _ (by simp) h l
theorem aFe {i:Nat} {l:List Oper} {e:Env} {Q:Ex->Env->Prop}:W P O (.region i l.toArray false) e Q↔Wo P O l l e Q:=by
 simp only [W,Wo,bE,oY,cond_false]
def bW (P:Program) (O:Orc) (ops:List Oper) (dst:Option Tmp) (rest:List Oper) (e:Env) (Q:Ex->Env->Prop):ORes->Prop
 | .val v=>∃ e',e.put dst v=some e'/\Wo P O ops rest e' Q
 | .val' v s=>∃ e',(e.setS s).put dst v=some e'/\Wo P O ops rest e' Q
 | .pan v s=>Q (.panic v) {e with s:=s}
 | .defer d=>∃ e',(e.setDs (d::e.ds)).put dst .undef=some e'/\Wo P O ops rest e' Q
 | .recov=>match e.ro,e.r with
   | none,.pan v=>∃ e',(e.setR (.recd v)).put dst v=some e'/\Wo P O ops rest e' Q
   | none,_=>∃ e',e.put dst .nili=some e'/\Wo P O ops rest e' Q
   | some _,_=>False
@[congr] theorem aPk {ops:List Oper} {dst:Option Tmp} {rest:List Oper} {e:Env} {Q:Ex->Env->Prop} {r r':ORes} (h':r=r'):bW P O ops dst rest e Q r=bW P O ops dst rest e Q r':=by rw [h']
@[congr] theorem aPl {b:Code} {Q:Ex->Env->Prop} {x x':Ex} {e e':Env} (h:x=x') (h':e=e'):aPf P O b Q x e=aPf P O b Q x' e':=by rw [h,h']
@[congr] theorem aKv {i:Nat} {Q:Ex->Env->Prop} {x x':Ex} {e e':Env} (h:x=x') (h':e=e'):fN i Q x e=fN i Q x' e':=by rw [h,h']
theorem aPm {ops:List Oper} {e:Env} {Q:Ex->Env->Prop}:Wo P O ops [] e Q↔Q .normal e:=⟨fun ⟨n,b,e',h,a⟩=>by simp [gY]at h;obtain ⟨rfl,rfl⟩:=h;exact a,fun h=>⟨0,_,_,rfl,h⟩⟩
theorem aFf {ops:List Oper} {o:Oper} {rest:List Oper} {e:Env} {Q:Ex->Env->Prop} (C:cV ops o e=some true):Wo P O ops (o::rest) e Q↔eI P O o.op e (bW P O ops o.dst rest e Q):=by
 have G:∀ {n m:Nat},n<=m->∀ {l:List Oper} {e:Env} {x:Ex × Env},gY P (aP P O n) ops l e=some x->gY P (aP P O m) ops l e=some x:=fun h _ _ _ J=>IA (gM _ _ h) _ _ _ J
 have H:∀ {n m:Nat},n<=m->∀ {r:ORes},iD P (aP P O n) o e=some r->iD P (aP P O m) o e=some r:=fun h _ J=>jW (gM _ _ h) J
 constructor
 ·rintro ⟨n,a,e',h,D⟩
  simp only [gY,C]at h
  cases E:iD P (aP P O n) o e with
  | none=>rw [E]at h;cases h
  | some r=>
    rw [E]at h;refine ⟨n,r,E,?_⟩
    cases r with
    | val v=>simp only at h;split at h<;>first | exact ⟨_,by assumption,n,a,e',h,D⟩ | cases h
    | val' v s=>simp only at h;split at h<;>first | exact ⟨_,by assumption,n,a,e',h,D⟩ | cases h
    | pan v s=>simp at h;obtain ⟨rfl,rfl⟩:=h;exact D
    | defer q=>simp only at h;split at h<;>first | exact ⟨_,by assumption,n,a,e',h,D⟩ | cases h
    | recov=>
      simp only at h;simp only [bW];split at h
      ·rename_i b f;simp only [b,f]
       split at h<;>first | exact ⟨_,by assumption,n,a,e',h,D⟩ | cases h
      ·rename_i b f
       have:∃ e',e.put o.dst .nili=some e'/\Wo P O ops rest e' Q:=by
        split at h<;>first | exact ⟨_,by assumption,n,a,e',h,D⟩ | cases h
       rw [b]
       cases I:e.r with
       | pan v=>exact absurd I (f v)
       | _=>exact this
      ·cases h
 ·rintro ⟨n,r,E,y⟩
  have F:iD P (aP P O n) o e=some r:=E
  have p:∀ {m:Nat} {a:Ex} {B e':Env},gY P (aP P O m) ops rest B=some (a,e')->Q a e'->(∀ k,max n m=k->iD P (aP P O k) o e=some r->gY P (aP P O k) ops rest B=some (a,e')->gY P (aP P O k) ops (o::rest) e=some (a,e'))->Wo P O ops (o::rest) e Q:=
   fun b f N=>⟨_,_,_,N _ rfl (H (Nat.le_max_left _ _) F) (G (Nat.le_max_right _ _) b),f⟩
  cases r with
  | val v=>obtain ⟨B,A,m,a,e',b,f⟩:=y;exact p b f fun k _ u w=>by simp only [gY,C,u,A,w]
  | val' v s=>obtain ⟨B,A,m,a,e',b,f⟩:=y;exact p b f fun k _ u w=>by simp only [gY,C,u,A,w]
  | pan v s=>exact ⟨n,_,_,by simp only [gY,C,F],y⟩
  | defer q=>obtain ⟨B,A,m,a,e',b,f⟩:=y;exact p b f fun k _ u w=>by simp only [gY,C,u,A,w]
  | recov=>
    simp only [bW]at y;split at y
    ·rename_i L M
     obtain ⟨B,A,m,a,e',b,f⟩:=y;exact p b f fun k _ u w=>by simp only [gY,C,u,L,M,A,w]
    ·rename_i L M
     obtain ⟨B,A,m,a,e',b,f⟩:=y
     refine p b f fun k _ u w=>?_
     simp only [gY,C,u,L]
     cases I:e.r with
     | pan v=>exact absurd I (M v)
     | _=>simp only [A,w]
    ·exact y.elim
theorem KD {ops:List Oper} {o:Oper} {rest:List Oper} {e:Env} {Q:Ex->Env->Prop} (k:cV ops o e=some false):Wo P O ops (o::rest) e Q↔∃ e',e.put o.dst .undef=some e'/\Wo P O ops rest e' Q:=by
 constructor
 ·rintro ⟨n,a,e',h,b⟩
  simp only [gY,k]at h;split at h
  ·rename_i f;exact ⟨_,f,n,a,e',h,b⟩
  ·cases h
 ·rintro ⟨l,f,n,a,e',h,b⟩
  exact ⟨n,a,e',by simp only [gY,k,f,h],b⟩
theorem aKw {ops:List Oper} {dst:Option Tmp} {op:Op} {ty:TypeId} {pos:String} {after:Array Edge} {rest:List Oper} {e:Env} {Q:Ex->Env->Prop}:
 Wo P O ops ({dst:=dst,op:=op,type:=ty,pos:=pos,after:=after,guard:=none}::rest) e Q↔eI P O op e (bW P O ops dst rest e Q):=aFf rfl
def guardK (P:Program) (O:Orc) (v:AV) (want:Bool) (op:Op) (ops:List Oper) (dst:Option Tmp) (rest:List Oper) (e:Env) (Q:Ex->Env->Prop):Prop:=match v with
 | .bool b=>(b=want->eI P O op e (bW P O ops dst rest e Q))/\(b = !want->bW P O ops dst rest e Q (.val .undef))
 | .tuple _=>bW P O ops dst rest e Q (.val .undef)
 | _=>False
section
variable {want:Bool} {op:Op} {ops:List Oper} {dst:Option Tmp} {rest:List Oper} {e:Env} {Q:Ex->Env->Prop}
@[congr] theorem aKx {v v':AV} (h:v=v'):guardK P O v want op ops dst rest e Q=guardK P O v' want op ops dst rest e Q:=by rw [h]
theorem ZU:guardK P O (.bool true) true op ops dst rest e Q↔eI P O op e (bW P O ops dst rest e Q):=by simp [guardK]
theorem ZV:guardK P O (.bool true) false op ops dst rest e Q↔bW P O ops dst rest e Q (.val .undef):=by simp [guardK]
theorem ZW:guardK P O (.bool false) true op ops dst rest e Q↔bW P O ops dst rest e Q (.val .undef):=by simp [guardK]
theorem ZX:guardK P O (.bool false) false op ops dst rest e Q↔eI P O op e (bW P O ops dst rest e Q):=by simp [guardK]
theorem ZY {b:Bool}:guardK P O (.bool b) true op ops dst rest e Q↔(b=true->eI P O op e (bW P O ops dst rest e Q))/\(b=false->bW P O ops dst rest e Q (.val .undef)):=.rfl
theorem ZZ {b:Bool}:guardK P O (.bool b) false op ops dst rest e Q↔(b=false->eI P O op e (bW P O ops dst rest e Q))/\(b=true->bW P O ops dst rest e Q (.val .undef)):=.rfl
theorem KE {l:List AV}:guardK P O (.tuple l) want op ops dst rest e Q↔bW P O ops dst rest e Q (.val .undef):=.rfl
end
def HA:List Oper->Nat->Option Nat
 | [],_=>none
 | o::_,0=>o.dst
 | _::l,n+1=>HA l n
theorem KF:∀ (ops:List Oper) (j:Nat),HA ops j=ops[j]?.bind (·.dst)
 | [],_=>rfl
 | o::_,0=>rfl
 | _::l,n+1=>by simp only [HA,List.getElem?_cons_succ];exact KF l n
def aAa (t:Tr AV):Option Nat->AV
 | some d=>t.val d
 | none=>.tuple []
theorem aFg {ops:List Oper} {dst:Option Tmp} {op:Op} {ty:TypeId} {pos:String} {after:Array Edge} {j:Nat} {want:Bool} {rest:List Oper} {e:Env} {Q:Ex->Env->Prop}:
 Wo P O ops ({dst:=dst,op:=op,type:=ty,pos:=pos,after:=after,guard:=some (j,want)}::rest) e Q↔
  guardK P O (aAa e.t (HA ops j)) want op ops dst rest e Q:=by
 rw [KF]
 cases f:ops[j]?.bind (·.dst) with
 | none=>
   have a:cV ops {dst:=dst,op:=op,type:=ty,pos:=pos,after:=after,guard:=some (j,want)} e=some false:=by
    simp only [cV]
    cases o:ops[j]? with
    | none=>rfl
    | some g=>rw [o]at f;simp only [Option.bind_some]at f;simp only [f]
   rw [KD a];rfl
 | some d=>
 show _↔guardK P O (e.t.val d) want op ops dst rest e Q
 have a:cV ops {dst:=dst,op:=op,type:=ty,pos:=pos,after:=after,guard:=some (j,want)} e=match e.t.get d with | some (.bool b)=>some (b==want) | some (.tuple _)=>some false | _=>none:=by
  simp only [cV]
  cases o:ops[j]? with
  | none=>rw [o]at f;cases f
  | some g=>rw [o]at f;simp only [Option.bind_some]at f;simp only [f];cases e.t.get d with | none=>rfl | some v=>cases v<;>rfl
 cases k:e.t.get d with
 | none=>
   have p:e.t.val d=.top:=by simp [Tr.val,k]
   rw [p];rw [k]at a;refine ⟨fun ⟨n,q,e',h,w⟩=>?_,fun h=>h.elim⟩;simp only [gY,a]at h;cases h
 | some v=>
   have p:e.t.val d=v:=by simp [Tr.val,k]
   rw [p];rw [k]at a;clear p k
   cases v with
   | bool b=>
     simp only at a
     cases m:(b==want) with
     | true=>
       rw [m]at a
       have:b=want:=by simpa using m
       subst this;rw [aFf a];simp [guardK]
     | false=>
       rw [m]at a;rw [KD a]
       have:b≠want:=by simpa using m
       have u:b = !want:=by cases b<;>cases want<;>simp_all
       simp [guardK,u];rfl
   | tuple l=>rw [KD a];rfl
   | _=>exact ⟨fun ⟨n,q,e',h,w⟩=>by (simp only [gY,a]at h;cases h),fun h=>h.elim⟩
theorem xN {nt:Nat} {ro:Option Nat} {fn:FuncId} {t:Tr AV} {ds:List ADef} {s:Sto} {r:ARec} {d:Nat} {v:AV} {R:Env->Prop} (h:d<nt):
 (∃ e',(Env.mk nt ro fn t ds s r).put (some d) v=some e'/\R e')↔R ⟨nt,ro,fn,t.set d v,ds,s,r⟩:=by
 have:(Env.mk nt ro fn t ds s r).put (some d) v=some ⟨nt,ro,fn,t.set d v,ds,s,r⟩:=by
  simp only [Env.put]
  have:Nat.blt d nt=true:=by simpa using h
  rw [this];rfl
 rw [this];simp
theorem xO {e:Env} {v:AV} {R:Env->Prop}:(∃ e',e.put none v=some e'/\R e')↔R e:=by simp [Env.put]
variable {nt:Nat} {ro:Option Nat} {fn:FuncId} {t:Tr AV} {ds:List ADef} {s:Sto} {r:ARec} {ops rest:List Oper} {Q:Ex->Env->Prop}
theorem aFh {d:Nat} {v:AV} (h:d<nt):bW P O ops (some d) rest ⟨nt,ro,fn,t,ds,s,r⟩ Q (.val v)↔Wo P O ops rest ⟨nt,ro,fn,t.set d v,ds,s,r⟩ Q:=xN h
theorem aAb {e:Env} {v:AV}:bW P O ops none rest e Q (.val v)↔Wo P O ops rest e Q:=xO
theorem aAc {d:Nat} {v:AV} {a:Sto} (h:d<nt):bW P O ops (some d) rest ⟨nt,ro,fn,t,ds,s,r⟩ Q (.val' v a)↔Wo P O ops rest ⟨nt,ro,fn,t.set d v,ds,a,r⟩ Q:=xN h
theorem SY {v:AV} {a:Sto}:bW P O ops none rest ⟨nt,ro,fn,t,ds,s,r⟩ Q (.val' v a)↔Wo P O ops rest ⟨nt,ro,fn,t,ds,a,r⟩ Q:=xO
theorem aFi {dst:Option Tmp} {v:AV} {a:Sto}:bW P O ops dst rest ⟨nt,ro,fn,t,ds,s,r⟩ Q (.pan v a)↔Q (.panic v) ⟨nt,ro,fn,t,ds,a,r⟩:=.rfl
theorem pI {op:Op} {e:Env} {K:ORes->Prop} {r:Option ORes} (h:∀ call,eX P call op e=r):eI P O op e K↔sE r K:=by
 constructor
 ·rintro ⟨n,x,a,b⟩;exact ⟨x,by rw [<-a,h],b⟩
 ·rintro ⟨x,a,b⟩;exact ⟨0,x,by rw [h,a],b⟩
theorem fC {op:Op} {e:Env} {K:ORes->Prop} {x:Option AV} (h:∀ call,eX P call op e=valO x):eI P O op e K↔nR (x) K:=by
 rw [pI h];cases x<;>simp [valO,nR,sE]
theorem IB {op:Op} {e:Env} {K:ORes->Prop} {x:Option Sto} (h:∀ call,eX P call op e=skipO x):eI P O op e K↔MP (x) K:=by
 rw [pI h];cases x<;>simp [skipO,MP,sE]
variable {e:Env} {K:ORes->Prop}
theorem aFj {x:Operand}:eI P O (.move x) e K↔K (.val (e.eval x)):=by rw [pI (r:=some (.val (e.eval x))) fun _=>rfl];simp [sE]
theorem SZ {x:Operand}:eI P O (.assign x) e K↔K (.val (e.eval x)):=by rw [pI (r:=some (.val (e.eval x))) fun _=>rfl];simp [sE]
def WW (c a b:AV):Option AV:=match c with
 | .bool true=>some a
 | .bool false=>some b
 | _=>none
theorem aFk {c a b:Operand}:eI P O (.pick c a b) e K↔nR (WW (e.eval c) (e.eval a) (e.eval b)) K:=by
 refine fC fun call=>?_
 show eX P call (.pick c a b) e=_;simp only [eX,iD]
 cases h:e.eval c with
 | bool b=>cases b<;>rfl
 | _=>rfl
theorem aAd {op:BinOp} {ty a:TypeId} {x y:Operand}:eI P O (.binOp op ty x y a) e K↔nR (abin P op ty x y (e.eval x) (e.eval y)) K:=fC fun _=>rfl
theorem aFl {op:UnOp} {ty:TypeId} {x:Operand}:eI P O (.unOp op ty x) e K↔nR (aun op (e.eval x)) K:=fC fun _=>rfl
theorem aFm {ty:TypeId} {a:Operand}:eI P O (.load ty a) e K↔nR (fD P e.s ty (e.eval a)) K:=fC fun _=>rfl
theorem aAe {ty:TypeId} {a x:Operand}:eI P O (.store ty a x) e K↔MP (mB P e.s ty (e.eval a) (e.eval x)) K:=IB fun _=>rfl
theorem aAf {ty:TypeId} {x:Operand} {lo a b:Option Operand}:eI P O (.slice ty x lo a b) e K↔nR (fF P ty (e.eval x) (lo.map e.eval) (a.map e.eval) (b.map e.eval)) K:=fC fun _=>rfl
theorem HB {ty:TypeId} {x:Operand} {f:Nat}:eI P O (.fieldAddr ty x f) e K↔nR (bS P ty (e.eval x) f) K:=fC fun _=>rfl
theorem aAg {ty:TypeId} {x:Operand} {f:Nat}:eI P O (.field ty x f) e K↔nR (pM P ty (e.eval x) f) K:=fC fun _=>rfl
theorem HC {ty:TypeId} {x i:Operand}:eI P O (.indexAddr ty x i) e K↔nR (bT P ty (e.eval x) (e.eval i)) K:=fC fun _=>rfl
theorem aAh {ty:TypeId} {x i:Operand}:eI P O (.index ty x i) e K↔nR (rL P ty (e.eval x) (e.eval i)) K:=fC fun _=>rfl
theorem TA {ty:TypeId} {m k:Operand} {ok:Bool}:eI P O (.lookup ty m k ok) e K↔nR (alookup P e.s ty (e.eval m) (e.eval k) ok) K:=fC fun _=>rfl
theorem HD {ty:TypeId} {m k x:Operand}:eI P O (.mapUpdate ty m k x) e K↔MP (cU P e.s ty (e.eval m) (e.eval k) (e.eval x)) K:=IB fun _=>rfl
theorem aAi {ty:TypeId} {a:Array (Nat × Operand)}:eI P O (.build ty a) e K↔nR (pL P ty (a.toList.map fun p=>(p.1,e.eval p.2))) K:=fC fun _=>rfl
theorem OV {a dst:TypeId} {x:Operand}:eI P O (.convert a dst x) e K↔sE (jF P e.s a dst (e.eval x)) K:=pI fun _=>rfl
def uM:AV->Option AV
 | .ptr i g o=>some (.ptr i g o)
 | .pf v=>some (.pf v)
 | .func (.func f) a c=>some (.func (.func f) a c)
 | .iface t v=>some (.iface t v)
 | _=>none
theorem KG {x:Operand}:eI P O (.nilCheck x) e K↔nR (uM (e.eval x)) K:=by
 refine fC fun call=>?_
 show eX P call (.nilCheck x) e=_;simp only [eX,iD]
 cases h:e.eval x with
 | func f a c=>cases f<;>rfl
 | _=>rfl
theorem KH {f:FuncId} {first cap:Array Operand}:eI P O (.makeFunc (.func f) first cap) e K↔K (.val (.func (.func f) (first.toList.map e.eval) (cap.toList.map e.eval))):=by
 rw [pI (r:=some (.val (.func (.func f) (first.toList.map e.eval) (cap.toList.map e.eval)))) fun _=>rfl];simp [sE]
theorem OW {x:Operand} {i:Nat}:eI P O (.extract x i) e K↔nR ((match e.eval x with | .tuple vs=>vs[i]? | _=>none)) K:=by
 refine fC fun call=>?_
 show eX P call (.extract x i) e=_;simp only [eX,iD];cases h:e.eval x<;>rfl
theorem OX {b:Builtin} {args:Array Operand} {a:Array TypeId}:eI P O (.call {callee:=.builtin b,args:=args,argTypes:=a}) e K↔sE (abuiltin P e.s b a (args.toList.map e.eval)) K:=pI fun _=>rfl
def ob (cs:List AV):AObj:=.cells 0 cs.length (Tr.leaf.lay 0 cs)
theorem rA {s:Sto} {cs:List AV}:oJ s cs=if cs.all AV.isCell=true then some (s.n,s.push (ob cs)) else none:=by
 unfold oJ;cases cs.all AV.isCell<;>rfl
def AV.isTop:AV->Bool
 | .top=>true
 | _=>false
def aK (b:Bool) (A:Prop):Prop:=b=true/\A
theorem aKy {A:Prop}:aK true A↔A:=by simp [aK]
@[congr] theorem aSs {b b':Bool} {A:Prop} (h:b=b'):aK b A=aK b' A:=by rw [h]
def xP (v:AV) (s:Sto) (K:ORes->Prop):Prop:=v.isTop=false/\v.cells.all AV.isCell=true/\K (.val' (.ptr s.n 0 0) (s.push (ob v.cells)))
@[congr] theorem aPn {v v':AV} {s s':Sto} {K:ORes->Prop} (h:v=v') (h':s=s'):xP v s K=xP v' s' K:=by rw [h,h']
theorem aFn {l:List AV} {s:Sto} {K:ORes->Prop}:xP (.agg l) s K↔aK (l.all AV.isCell) (K (.val' (.ptr s.n 0 0) (s.push (ob l)))):=by simp [xP,AV.isTop,AV.cells,aK]
theorem aAj {v:AV} {s:Sto} {K:ORes->Prop} (h:v.isCell=true):xP v s K↔K (.val' (.ptr s.n 0 0) (s.push (ob [v]))):=by
 have a:v.isTop=false:=by cases v<;>first | rfl | cases h
 have b:v.cells=[v]:=by cases v<;>first | rfl | cases h
 simp [xP,a,b,h]
def jX (z:Option AV) (s:Sto) (K:ORes->Prop):Prop:=∃ v,z=some v/\v.cells.all AV.isCell=true/\K (.val' (.ptr s.n 0 0) (s.push (ob v.cells)))
@[congr] theorem aKz {z z':Option AV} {s s':Sto} {K:ORes->Prop} (h:z=z') (h':s=s'):jX z s K=jX z' s' K:=by rw [h,h']
theorem TB {l:List AV} {s:Sto} {K:ORes->Prop}:jX (some (.agg l)) s K↔aK (l.all AV.isCell) (K (.val' (.ptr s.n 0 0) (s.push (ob l)))):=by simp [jX,AV.cells,aK]
theorem OY {v:AV} {s:Sto} {K:ORes->Prop} (h:v.isCell=true):jX (some v) s K↔K (.val' (.ptr s.n 0 0) (s.push (ob [v]))):=by
 have a:v.cells=[v]:=by cases v<;>first | rfl | cases h
 simp [jX,a,h]
theorem IC {ty:TypeId}:eI P O (.alloc ty) e K↔jX (bB P ty) e.s K:=by
 rw [pI (r:=match bB P ty with | some z=>(match oJ e.s z.cells with | some (id,s)=>some (.val' (.ptr id 0 0) s) | none=>none) | none=>none) fun _=>rfl]
 cases h:bB P ty with
 | none=>simp [sE,jX]
 | some z=>
   simp only [sE,jX,Option.some.injEq,exists_eq_left',rA];by_cases a:z.cells.all AV.isCell=true<;>simp [a]
theorem WX {ty:TypeId} {x:Operand}:eI P O (.box ty x) e K↔xP (e.eval x) e.s K:=by
 have:∀ call,eX P call (.box ty x) e=match e.eval x with | .top=>none | v=>(match oJ e.s v.cells with | some (id,s)=>some (.val' (.ptr id 0 0) s) | none=>none):=fun _=>rfl
 rw [pI this];generalize e.eval x=v;by_cases a:v=.top
 ·subst a;simp [AV.isTop,xP,sE]
 ·have b:v.isTop=false:=by cases v<;>first | rfl | exact absurd rfl a
  have:(match v with | .top=>none | v=>(match oJ e.s v.cells with | some (id,s)=>some (ORes.val' (.ptr id 0 0) s) | none=>none))=(match oJ e.s v.cells with | some (id,s)=>some (ORes.val' (.ptr id 0 0) s) | none=>none):=by
   cases v<;>first | rfl | exact absurd rfl a
  rw [this,rA];by_cases f:v.cells.all AV.isCell=true<;>simp [f,xP,sE,b]
def callK (s:Sto) (K:ORes->Prop):CRes->Prop
 | .ret v none=>K (.val v)
 | .ret v (some a)=>K (.val' v a)
 | .pan v none=>K (.pan v s)
 | .pan v (some a)=>K (.pan v a)
theorem aAk {s:Sto} {v:AV}:callK s K (.ret v none)=K (.val v):=rfl
theorem TC {s a:Sto} {v:AV}:callK s K (.ret v (some a))=K (.val' v a):=rfl
theorem aAl {s:Sto} {v:AV}:callK s K (.pan v none)=K (.pan v s):=rfl
theorem TD {s a:Sto} {v:AV}:callK s K (.pan v (some a))=K (.pan v a):=rfl
theorem aFo {f:Operand} {args:Array Operand} {o:Array TypeId}:eI P O (.call {callee:=.value f,args:=args,argTypes:=o}) e K↔Wcall P O (e.eval f) (args.toList.map e.eval) e.s (callK e.s K):=by
 have k:∀ n,eX P (aP P O n) (.call {callee:=.value f,args:=args,argTypes:=o}) e=fQ e.s (aP P O n (e.eval f) (args.toList.map e.eval) e.s .no):=fun _=>rfl
 constructor
 ·rintro ⟨n,r,a,b⟩
  rw [k]at a
  cases l:aP P O n (e.eval f) (args.toList.map e.eval) e.s .no with
  | none=>rw [l]at a;cases a
  | some y=>
    obtain ⟨res,m⟩:=y;rw [l]at a;refine ⟨n,res,m,l,?_⟩
    cases res with
    | ret v h=>cases h<;>simp [fQ]at a<;>subst a<;>exact b
    | pan v h=>cases h<;>simp [fQ]at a<;>subst a<;>exact b
 ·rintro ⟨n,res,m,a,b⟩
  cases res with
  | ret v h=>cases h with
    | none=>exact ⟨n,_,by rw [k,a];rfl,b⟩
    | some p=>exact ⟨n,_,by rw [k,a];rfl,b⟩
  | pan v h=>cases h with
    | none=>exact ⟨n,_,by rw [k,a];rfl,b⟩
    | some p=>exact ⟨n,_,by rw [k,a];rfl,b⟩
def EK (o:Option CRes) (K:CRes->Prop) (R:Prop):Prop:=match o with
 | some r=>K r
 | none=>R
theorem aAm {c:CRes} {K:CRes->Prop} {R:Prop}:EK (some c) K R=K c:=rfl
@[congr] theorem aPo {o o':Option CRes} {K:CRes->Prop} {R:Prop} (h:o=o'):EK o K R=EK o' K R:=by rw [h]
def aFp (P:Program) (O:Orc) (a:AV) (args:List AV) (s:Sto) (K:CRes->Prop):Prop:=∃ n res b,(match gU P s a args with
    | some (.fn f args)=>qD P (aP P O n) n f args s .no
    | some (.round l args)=>mD P (aP P O n) n l args s
    | none=>none)=some (res,b)/\K res
theorem cR {g:FuncId} {first cap args:List AV} {s:Sto} {K:CRes->Prop}:
 Wcall P O (.func (.func g) first cap) args s K↔EK (O g (first++args++cap) s) K (aFp P O (.func (.func g) first cap) args s K):=by
 have f:BP O (.func (.func g) first cap) args s .no=O g (first++args++cap) s:=rfl
 cases k:O g (first++args++cap) s with
 | some c=>
   simp only [EK];constructor
   ·rintro ⟨n,res,l,a,b⟩
    cases n with
    | zero=>cases a
    | succ n=>
      simp only [aP,f,k]at a;simp at a;obtain ⟨rfl,rfl⟩:=a;exact b
   ·intro h
    exact ⟨1,c,.no,by simp only [aP,f,k],h⟩
 | none=>
   simp only [EK];constructor
   ·rintro ⟨n,res,l,a,b⟩
    cases n with
    | zero=>cases a
    | succ n=>
      simp only [aP,f,k]at a;exact ⟨n,res,l,a,b⟩
   ·rintro ⟨n,res,l,a,b⟩
    exact ⟨n+1,res,l,by simp only [aP,f,k];exact a,b⟩
end
abbrev lX:=FuncId × (List AV->Sto->Option CRes)
def bJ:List lX->Orc
 | [],_,_,_=>none
 | x::L,f,args,s=>bif Nat.beq x.1 f then x.2 args s else bJ L f args s
theorem zO {f:FuncId} {F:List AV->Sto->Option CRes} {L:List lX} {args:List AV} {s:Sto}:bJ ((f,F)::L) f args s=F args s:=by simp [bJ]
theorem KI {f g:FuncId} {F:List AV->Sto->Option CRes} {L:List lX} {args:List AV} {s:Sto} (h:g≠f):bJ ((g,F)::L) f args s=bJ L f args s:=by
 have:Nat.beq g f=false:=by
  cases a:Nat.beq g f with
  | false=>rfl
  | true=>exact absurd (Nat.eq_of_beq_eq_true a) h
 simp [bJ,this]
def dU (P:Program) (x:lX):Prop:=∀ args s res,x.2 args s=some res->dE P x.1 args s res
theorem xQ {P:Program} {L:List lX} (h:∀ x∈L,dU P x):jY P (bJ L):=by
 intro f args s res a
 induction L with
 | nil=>cases a
 | cons x L l=>
   unfold bJ at a
   cases b:Nat.beq x.1 f with
   | true=>
     rw [b]at a;have:=h x (List.mem_cons_self ..) args s res a;rw [Nat.eq_of_beq_eq_true b]at this;exact this
   | false=>rw [b]at a;exact l (fun x k=>h x (List.mem_cons_of_mem _ k)) a
theorem aE {P:Program}:∀ x∈([]:List lX),dU P x:=fun _ h=>nomatch h
theorem elist_cons {P:Program} {x:lX} {L:List lX} (h:dU P x) (b:∀ x∈L,dU P x):∀ y∈x::L,dU P y:=fun y a=>by
 rcases List.mem_cons.1 a with rfl | a
 ·exact h
 ·exact b y a
end
end Go.Abs
