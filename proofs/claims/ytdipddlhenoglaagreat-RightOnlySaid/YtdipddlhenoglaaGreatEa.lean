/-
  The abstract machine: more fuel, and more that is known of calls, come to the same.
-/
import Derived.Test.YtdipddlhenoglaaGreatUx
set_option linter.unusedVariables false
set_option linter.unusedSimpArgs false
namespace Go.Abs
section
variable {P:Program}
def CLe (c d:bO):Prop:=∀ fv args s r x,c fv args s r=some x->d fv args s r=some x
theorem CLe.refl (c:bO):CLe c c:=fun _ _ _ _ _ h=>h
theorem CLe.trans {a b c:bO} (h:CLe a b) (f:CLe b c):CLe a c:=fun _ _ _ _ _ x=>f _ _ _ _ _ (h _ _ _ _ _ x)
variable {c d:bO}
theorem BQ (h:CLe c d) {s:Sto} {a:AV} {args:List AV} {r:ORes} (f:fN s (c a args s .no)=some r):fN s (d a args s .no)=some r:=by
 cases b:c a args s .no with
 | none=>rw [b]at f;cases f
 | some x=>rw [h _ _ _ _ _ b,<-b];exact f
theorem jP (h:CLe c d) {o:Oper} {e:Env} {r:ORes} (k:gX P c o e=some r):gX P d o e=some r:=by
 unfold gX at k ⊢
 cases m:o.op<;>simp only [m]at k ⊢<;>first | exact k | skip
 rename_i l;obtain ⟨a,args,ts⟩:=l
 cases a with
 | builtin b=>exact k
 | value f=>exact BQ h k
 | invoke f n=>exact BQ h k
theorem IP (h:CLe c d) {ops:List Oper}:∀ (rest:List Oper) (e:Env) (x:Ex × Env),gV P c ops rest e=some x->gV P d ops rest e=some x:=by
 intro rest
 induction rest with
 | nil=>intro e x a;exact a
 | cons o rest b=>
   intro e x a;simp only [gV]at a ⊢;split at a
   ·cases a
   ·rename_i k
    split at a
    ·exact b _ _ a
    ·cases a
   ·rename_i k
    cases f:gX P c o e with
    | none=>rw [f]at a;cases a
    | some r=>
      rw [jP h f];rw [f]at a
      cases r with
      | val v=>simp only at a ⊢;split at a<;>first | exact b _ _ a | cases a
      | val' v s=>simp only at a ⊢;split at a<;>first | exact b _ _ a | cases a
      | pan v s=>exact a
      | defer q=>simp only at a ⊢;split at a<;>first | exact b _ _ a | cases a
      | recov=>
        simp only at a ⊢;split at a
        ·split at a<;>first | exact b _ _ a | cases a
        ·split at a<;>first | exact b _ _ a | cases a
        ·cases a
theorem PW {x:TrE} {y:Option TrR} {z:TrR} (h:oU x y=some z):∃ l f p,y=some (l,f,p)/\z=(x::l,f,p):=by
 cases y with
 | none=>cases h
 | some y=>obtain ⟨l,f,p⟩:=y;simp only [oU,Option.some.injEq]at h;exact ⟨l,f,p,rfl,h.symm⟩
theorem PX (h:CLe c d) {ops:List Oper}:∀ (rest:List Oper) (i:Nat) (e:Env) (x:TrR),CV P c ops rest i e=some x->CV P d ops rest i e=some x:=by
 intro rest
 induction rest with
 | nil=>intro i e x a;exact a
 | cons o rest w=>
   intro i e x a
   have b:∀ {y:TrE} {e':Env} {z:TrR},oU y (CV P c ops rest (i+1) e')=some z->oU y (CV P d ops rest (i+1) e')=some z:=by
    intro y e' z u;obtain ⟨l,f,p,m,A⟩:=PW u;rw [w _ _ _ m,<-u,m]
   simp only [CV]at a ⊢;split at a
   ·cases a
   ·split at a
    ·exact b a
    ·cases a
   ·cases k:gX P c o e with
    | none=>rw [k]at a;cases a
    | some r=>
      rw [jP h k];rw [k]at a
      cases r with
      | val v=>simp only at a ⊢;split at a<;>first | exact b a | cases a
      | val' v s=>simp only at a ⊢;split at a<;>first | exact b a | cases a
      | pan v s=>exact a
      | defer q=>cases a
      | recov=>cases a
theorem FM (h:CLe c d) {v:AV} {o:Oper} {e:Env} (b:isVal v (gX P c o e)=true):isVal v (gX P d o e)=true:=by
 cases a:gX P c o e with
 | none=>rw [a]at b;cases b
 | some r=>rw [jP h a,<-a];exact b
theorem MC (h:CLe c d) {n:Nat} {as:List Nat} {ns:List (Nat × Nat)} {x:TrE}:∀ (cs:List Nat) (a:List Sto),iK P c n as ns x cs a=true->iK P d n as ns x cs a=true:=by
 intro cs
 induction cs with
 | nil=>
   intro a b
   cases a with
   | nil=>simp [iK]at b
   | cons s a=>
     cases a with
     | nil=>exact FM h b
     | cons m a=>simp [iK]at b
 | cons k cs l=>
   intro a b
   cases a with
   | nil=>simp [iK]at b
   | cons s a=>
     simp only [iK,Bool.and_eq_true]at b ⊢;refine ⟨?_,?_⟩
     ·have:=b.1
      cases f:(as.getD x.i 0).testBit k with
      | true=>rfl
      | false=>rw [f]at this;exact FM h this
     ·have:=b.2
      cases f:(as.getD k 0).testBit x.i with
      | true=>rfl
      | false=>rw [f]at this;exact l _ this
theorem MD (h:CLe c d) {n0:Nat} {ns:List (Nat × Nat)} {as cs:List Nat} {x:TrE} (a:oE P c as n0 ns cs x=true):oE P d as n0 ns cs x=true:=by
 simp only [oE,Bool.and_eq_true,decide_eq_true_eq]at a ⊢;exact ⟨a.1,fun f b=>jP h (a.2 f b)⟩
theorem ME (h:CLe c d) {n0:Nat} {as cs:List Nat} {f:List Sto} {x:TrE} (b:rP P c as n0 cs f x=true):rP P d as n0 cs f x=true:=by
 simp only [rP,decide_eq_true_eq]at b ⊢;obtain ⟨m,o,k,l⟩:=b;exact ⟨m,o,k,fun p a=>jP h (l p a)⟩
theorem GX (h:CLe c d) {n n0:Nat} {as:List Nat} {l:List TrE} {s:Sto} (f:fB P c n n0 as l s=true):fB P d n n0 as l s=true:=by
 have k:∀ (ns:List (Nat × Nat)) (cs:List Nat) (o:List Sto) (m:List TrE),kV P c n n0 as ns cs o m=true->kV P d n n0 as ns cs o m=true:=by
  intro ns cs o m
  induction m with
  | nil=>intro _;rfl
  | cons x m p=>
    intro b;simp only [kV,Bool.and_eq_true,Bool.or_eq_true]at b ⊢;refine ⟨?_,p b.2⟩
    rcases b.1 with (((a | a) | a) | a) | a
    ·exact .inl (.inl (.inl (.inl a)))
    ·exact .inl (.inl (.inl (.inr a)))
    ·exact .inl (.inl (.inr (MC h _ _ a)))
    ·exact .inl (.inr (MD h a))
    ·exact .inr (ME h a)
 unfold fB at f ⊢;split at f
 ·rfl
 ·exact k _ _ _ _ f
theorem UT (h:CLe c d) {ops:List Oper} {e:Env} {x:Ex × Env} (a:zG P c ops e=some x):zG P d ops e=some x:=by
 unfold zG at a ⊢
 cases k:CV P c ops ops 0 e with
 | none=>rw [k]at a;cases a
 | some y=>
   obtain ⟨l,f,p⟩:=y;rw [PX h _ _ _ _ k];rw [k]at a;simp only at a ⊢
   cases b:fB P c f.s.n e.s.n (cB ops) l f.s with
   | false=>rw [b]at a;simp at a
   | true=>rw [GX h b,<-b];exact a
theorem MF (h:CLe c d) {ops:List Oper} {a:Bool} {e:Env} {x:Ex × Env} (b:oF P c ops a e=some x):oF P d ops a e=some x:=by
 cases a with
 | true=>exact UT h b
 | false=>exact IP h _ _ _ b
theorem BR {f g:Env->Option (Ex × Env)} (h:∀ e x,f e=some x->g e=some x):∀ (n m:Nat) (e:Env) (x:Ex × Env),n<=m->loopGo f n e=some x->loopGo g m e=some x:=by
 intro n
 induction n with
 | zero=>intro m e x _ a;cases a
 | succ n l=>
   intro m e x o a
   obtain ⟨m,rfl⟩:∃ k,m=k+1:=⟨m-1,by omega⟩
   simp only [loopGo]at a ⊢
   cases b:f e with
   | none=>rw [b]at a;cases a
   | some y=>
     rw [h _ _ b];rw [b]at a;obtain ⟨ex,e'⟩:=y
     cases ex with
     | normal=>exact l m e' x (by omega) a
     | _=>exact a
theorem PY (h:CLe c d) {f:Operand} {ps:Array Tmp} {a b:Code} {e:Env} {x:Ex × Env} (k:xC c f ps a b e=some x):xC d f ps a b e=some x:=by
 unfold xC at k ⊢;split at k
 ·cases k
 ·simp only at k ⊢
  rename_i q m o ds p
  cases l:c (e.eval f) [.func (.yield m.n) [] []] (m.push (.loop .ready none e.fn e.nt e.t ps.toList a b o)) .no with
  | none=>rw [l]at k;cases k
  | some y=>rw [h _ _ _ _ _ l,<-l];exact k
theorem qX (h:CLe c d) {n m:Nat} (w:n<=m):∀ (k:Code) (e:Env) (x:Ex × Env),bE P c n k e=some x->bE P d m k e=some x:=by
 intro k
 induction k with
 | region id ops v=>intro e x l;exact MF h l
 | seq a b o u=>
   intro e x l;simp only [bE]at l ⊢
   cases p:bE P c n a e with
   | none=>rw [p]at l;cases l
   | some y=>
     rw [o _ _ p];rw [p]at l;obtain ⟨ex,e'⟩:=y
     cases ex with
     | normal=>exact u _ _ l
     | _=>exact l
 | cond q a b o u=>
   intro e x l;simp only [bE]at l ⊢;split at l
   ·exact o _ _ l
   ·exact u _ _ l
   ·cases l
 | block id a o=>
   intro e x l;simp only [bE]at l ⊢
   cases p:bE P c n a e with
   | none=>rw [p]at l;cases l
   | some y=>rw [o _ _ p,<-p];exact l
 | loop a o=>intro e x l;exact BR o _ _ _ _ w l
 | scope a o=>
   intro e x l;simp only [bE]at l ⊢
   cases p:bE P c n a e with
   | none=>rw [p]at l;cases l
   | some y=>rw [o _ _ p,<-p];exact l
 | rangeFunc f ps a b=>intro e x l;exact PY h l
 | _=>intro e x l;exact l
theorem tT (h:CLe c d) {fn:Func}:∀ (n m:Nat) (b:Option AV) (e:Env) (x:LRes × Env),n<=m->dleave P c fn n b e=some x->dleave P d fn m b e=some x:=by
 intro n
 induction n with
 | zero=>intro m b e x _ a;cases a
 | succ n q=>
   intro m b e x w a
   obtain ⟨m,rfl⟩:∃ k,m=k+1:=⟨m-1,by omega⟩
   have l:n<=m:=by omega
   simp only [dleave]at a ⊢;split at a
   ·exact a
   ·split at a
    ·exact q _ _ _ _ l a
    ·cases a
   ·rename_i o args ds _
    cases v:zH o with
    | true=>rw [v]at a;cases a
    | false=>
      rw [v]at a;simp only [cond_false]at a ⊢
      cases b with
      | none=>
        simp only at a ⊢
        cases f:c o args e.s .no with
        | none=>rw [f]at a;cases a
        | some y=>
          rw [h _ _ _ _ _ f];rw [f]at a;obtain ⟨res,u⟩:=y
          cases res<;>cases u<;>first | exact q _ _ _ _ l a | cases a
      | some p=>
        simp only at a ⊢
        cases f:c o args e.s (.pan p) with
        | none=>rw [f]at a;cases a
        | some y=>
          rw [h _ _ _ _ _ f];rw [f]at a;obtain ⟨res,u⟩:=y
          cases res<;>cases u<;>first | exact q _ _ _ _ l a | cases a
theorem UU (h:CLe c d) {n m:Nat} (l:n<=m) {f:FuncId} {args:List AV} {s:Sto} {r:ARec} {x:CRes × ARec} (a:oG P c n f args s r=some x):oG P d m f args s r=some x:=by
 unfold oG at a ⊢
 cases o:okFn P f with
 | false=>rw [o]at a;cases a
 | true=>
   rw [o]at a;simp only [cond_true]at a ⊢;split at a
   ·rename_i fn u
    split at a
    ·rename_i k w
     cases b:bE P c n k {nt:=Nat.max args.length fn.ntmps,ro:=none,fn:=f,t:=Tr.leaf.lay 0 args,ds:=[],s:={s with low:=s.n},r:=r} with
     | none=>rw [b]at a;cases a
     | some y=>
       rw [qX h l _ _ _ b];rw [b]at a;obtain ⟨ex,e'⟩:=y
       cases ex<;>first | (obtain ⟨A,p,v,q⟩:=pT a;simp only [tT h _ _ _ _ _ l v];exact q) | cases a
    ·cases a
   ·cases a
theorem PZ (h:CLe c d) {n m:Nat} (A:n<=m) {l:Nat} {args:List AV} {s:Sto} {x:CRes × ARec} (f:lP P c n l args s=some x):lP P d m l args s=some x:=by
 unfold lP at f ⊢;split at f
 ·rename_i st B fn nt t ps a b G H
  split at f
  ·rename_i F I
   cases q:bE P c n a {nt:=nt,ro:=some l,fn:=fn,t:=F,ds:=[],s:={s with low:=s.n},r:=.no} with
   | none=>rw [q]at f;cases f
   | some y=>
     rw [qX h A _ _ _ q];rw [q]at f;obtain ⟨ex,e'⟩:=y
     cases ex with
     | normal=>
       simp only at f ⊢;split at f
       ·rename_i o p u w v C b' D E
        cases k:bE P c n b {e' with s:=e'.s.put l (.loop .busy o p u w v C b' D)} with
        | none=>rw [k]at f;cases f
        | some y=>
          rw [qX h A _ _ _ k,<-k];exact f
       ·cases f
     | _=>cases f
  ·cases f
 ·cases f
theorem gG {O:bP}:∀ (n m:Nat),n<=m->CLe (aO P O n) (aO P O m):=by
 intro n
 induction n with
 | zero=>intro m _ h args s r x a;cases a
 | succ n f=>
   intro m l h args s r x a
   obtain ⟨m,rfl⟩:∃ k,m=k+1:=⟨m-1,by omega⟩
   have b:n<=m:=by omega
   simp only [aO]at a ⊢;split at a
   ·exact a
   ·split at a
    ·exact UU (f m b) b a
    ·cases r<;>first | exact PZ (f m b) b a | cases a
    ·cases a
end
end Go.Abs
/-
 The abstract machine: what must hold for a piece of code to end so;rules for a walk by 'simp'.
-/
namespace Go.Abs
noncomputable section
def Tr.val (t:Tr AV) (i:Nat):AV:=(t.get i).getD .top
theorem Tr.val_set_same (t:Tr AV) (i:Nat) (a:AV):(t.set i a).val i=a:=by simp [Tr.val,Tr.get_set]
theorem Tr.val_set_ne (t:Tr AV) (i j:Nat) (a:AV) (h:j≠i):(t.set i a).val j=t.val j:=by simp [Tr.val,Tr.get_set,h]
theorem Env.eval_tmp (e:Env) (i:Nat):e.eval (.tmp i)=e.t.val i:=by
 simp only [Env.eval,Tr.val];cases e.t.get i<;>rfl
def nE (o:Option AV) (K:ORes->Prop):Prop:=∃ v,o=some v/\K (.val v)
def QA (o:Option Sto) (K:ORes->Prop):Prop:=∃ s,o=some s/\K (.val' .undef s)
def sG (o:Option ORes) (K:ORes->Prop):Prop:=∃ r,o=some r/\K r
theorem QB {v:AV} {K:ORes->Prop}:nE (some v) K↔K (.val v):=by simp [nE]
theorem aIr {s:Sto} {K:ORes->Prop}:QA (some s) K↔K (.val' .undef s):=by simp [QA]
theorem aIs {r:ORes} {K:ORes->Prop}:sG (some r) K↔K r:=by simp [sG]
@[congr] theorem aSj {o o':Option AV} {K:ORes->Prop} (h:o=o'):nE o K=nE o' K:=by rw [h]
@[congr] theorem aSk {o o':Option Sto} {K:ORes->Prop} (h:o=o'):QA o K=QA o' K:=by rw [h]
@[congr] theorem aSl {o o':Option ORes} {K:ORes->Prop} (h:o=o'):sG o K=sG o' K:=by rw [h]
section
variable (P:Program) (O:bP)
def W (c:Code) (e:Env) (Q:Ex->Env->Prop):Prop:=∃ n ex e',bE P (aO P O n) n c e=some (ex,e')/\Q ex e'
def Wo (ops rest:List Oper) (e:Env) (Q:Ex->Env->Prop):Prop:=∃ n ex e',gV P (aO P O n) ops rest e=some (ex,e')/\Q ex e'
def eL (call:bO) (op:Op) (e:Env):Option ORes:=gX P call {dst:=none,op:=op,type:=0,pos:= "",after:=#[],guard:=none} e
def dS (op:Op) (e:Env) (K:ORes->Prop):Prop:=∃ n r,eL P (aO P O n) op e=some r/\K r
def Wcall (a:AV) (args:List AV) (s:Sto) (K:CRes->Prop):Prop:=∃ n res rr,aO P O n a args s .no=some (res,rr)/\K res
variable {P O}
theorem W.mono {c:Code} {e:Env} {Q a:Ex->Env->Prop} (h:W P O c e Q) (k:∀ ex e',Q ex e'->a ex e'):W P O c e a:=by
 obtain ⟨n,ex,e',b,f⟩:=h;exact ⟨n,ex,e',b,k _ _ f⟩
@[congr] theorem aVs {c:Code} {e e':Env} {Q:Ex->Env->Prop} (h:e=e'):W P O c e Q=W P O c e' Q:=by rw [h]
@[congr] theorem aUz {ops rest:List Oper} {e e':Env} {Q:Ex->Env->Prop} (h:e=e'):Wo P O ops rest e Q=Wo P O ops rest e' Q:=by rw [h]
@[congr] theorem aSm {op:Op} {e e':Env} {K:ORes->Prop} (h:e=e'):dS P O op e K=dS P O op e' K:=by rw [h]
@[congr] theorem aOx {fv fv':AV} {args args':List AV} {s s':Sto} {K:CRes->Prop} (h:fv=fv') (h':args=args') (h'':s=s'):Wcall P O fv args s K=Wcall P O fv' args' s' K:=by rw [h,h',h'']
theorem nX {n m:Nat} (h:n<=m) {c:Code} {e:Env} {x:Ex × Env} (a:bE P (aO P O n) n c e=some x):bE P (aO P O m) m c e=some x:=qX (gG n m h) h c e x a
def aRh (P:Program) (O:bP) (b:Code) (Q:Ex->Env->Prop):Ex->Env->Prop
 | .normal,e=>W P O b e Q
 | ex,e=>Q ex e
theorem aVa {a b:Code} {e:Env} {Q:Ex->Env->Prop}:W P O (.seq a b) e Q↔W P O a e (aRh P O b Q):=by
 constructor
 ·rintro ⟨n,ex,e',h,k⟩
  simp only [bE]at h
  cases p:bE P (aO P O n) n a e with
  | none=>rw [p]at h;cases h
  | some y=>
    obtain ⟨f,q⟩:=y;rw [p]at h;refine ⟨n,f,q,p,?_⟩
    cases f with
    | normal=>exact ⟨n,ex,e',h,k⟩
    | _=>simp at h;obtain ⟨rfl,rfl⟩:=h;exact k
 ·rintro ⟨n,ex,e',h,k⟩
  cases ex with
  | normal=>
    obtain ⟨m,l,u,v,o⟩:=k;refine ⟨max n m,l,u,?_,o⟩;simp only [bE,nX (Nat.le_max_left n m) h,nX (Nat.le_max_right n m) v]
  | _=>exact ⟨n,_,e',by simp only [bE,h],k⟩
def fH (id:Nat) (Q:Ex->Env->Prop):Ex->Env->Prop
 | .exit i,e=>bif Nat.beq i id then Q .normal e else Q (.exit i) e
 | ex,e=>Q ex e
theorem aNp {id:Nat} {c:Code} {e:Env} {Q:Ex->Env->Prop}:W P O (.block id c) e Q↔W P O c e (fH id Q):=by
 constructor
 ·rintro ⟨n,ex,e',h,a⟩
  simp only [bE]at h
  cases k:bE P (aO P O n) n c e with
  | none=>rw [k]at h;cases h
  | some y=>
    obtain ⟨b,l⟩:=y;rw [k]at h;refine ⟨n,b,l,k,?_⟩
    cases b with
    | exit i=>
      simp only [fH]at h ⊢;cases f:Nat.beq i id<;>rw [f]at h<;>simp at h<;>obtain ⟨rfl,rfl⟩:=h<;>exact a
    | _=>simp at h;obtain ⟨rfl,rfl⟩:=h;exact a
 ·rintro ⟨n,ex,e',h,a⟩
  cases ex with
  | exit i=>
    simp only [fH]at a;cases f:Nat.beq i id<;>rw [f]at a
    ·exact ⟨n,_,e',by simp only [bE,h,f,cond_false],a⟩
    ·exact ⟨n,_,e',by simp only [bE,h,f,cond_true],a⟩
  | _=>exact ⟨n,_,e',by simp only [bE,h],a⟩
theorem GY {id:Nat} {Q:Ex->Env->Prop} {e:Env}:fH id Q .normal e=Q .normal e:=rfl
theorem QC {id:Nat} {Q:Ex->Env->Prop} {e:Env}:fH id Q (.exit id) e=Q .normal e:=by simp [fH]
theorem aBs {id i:Nat} {Q:Ex->Env->Prop} {e:Env} (h:i≠id):fH id Q (.exit i) e=Q (.exit i) e:=by
 simp only [fH]
 have:Nat.beq i id=false:=by
  cases a:Nat.beq i id with
  | false=>rfl
  | true=>exact absurd (Nat.eq_of_beq_eq_true a) h
 rw [this];rfl
theorem UV {id:Nat} {Q:Ex->Env->Prop} {e:Env}:fH id Q .ret e=Q .ret e:=rfl
theorem MG {id:Nat} {Q:Ex->Env->Prop} {e:Env} {v:AV}:fH id Q (.panic v) e=Q (.panic v) e:=rfl
def aIt (P:Program) (O:bP) (v:AV) (x y:Code) (e:Env) (Q:Ex->Env->Prop):Prop:=(v=.bool true/\W P O x e Q)∨(v=.bool false/\W P O y e Q)
@[congr] theorem aOy {v v':AV} {x y:Code} {e:Env} {Q:Ex->Env->Prop} (h:v=v'):aIt P O v x y e Q=aIt P O v' x y e Q:=by rw [h]
theorem aRi {c:Operand} {x y:Code} {e:Env} {Q:Ex->Env->Prop}:W P O (.cond c x y) e Q↔aIt P O (e.eval c) x y e Q:=by
 constructor
 ·rintro ⟨n,ex,e',h,b⟩
  simp only [bE]at h;split at h
  ·rename_i a;exact .inl ⟨a,n,ex,e',h,b⟩
  ·rename_i a;exact .inr ⟨a,n,ex,e',h,b⟩
  ·cases h
 ·rintro (⟨a,n,ex,e',h,b⟩ | ⟨a,n,ex,e',h,b⟩)
  ·exact ⟨n,ex,e',by simp only [bE,a,h],b⟩
  ·exact ⟨n,ex,e',by simp only [bE,a,h],b⟩
theorem aRj {e:Env} {Q:Ex->Env->Prop}:W P O .skip e Q↔Q .normal e:=⟨fun ⟨n,ex,e',h,a⟩=>by simp [bE]at h;obtain ⟨rfl,rfl⟩:=h;exact a,fun h=>⟨0,_,_,rfl,h⟩⟩
theorem aNq {l:Nat} {e:Env} {Q:Ex->Env->Prop}:W P O (.label l) e Q↔Q .normal e:=⟨fun ⟨n,ex,e',h,a⟩=>by simp [bE]at h;obtain ⟨rfl,rfl⟩:=h;exact a,fun h=>⟨0,_,_,rfl,h⟩⟩
theorem aRk {i:Nat} {e:Env} {Q:Ex->Env->Prop}:W P O (.exit i) e Q↔Q (.exit i) e:=⟨fun ⟨n,ex,e',h,a⟩=>by simp [bE]at h;obtain ⟨rfl,rfl⟩:=h;exact a,fun h=>⟨0,_,_,rfl,h⟩⟩
theorem aVb {e:Env} {Q:Ex->Env->Prop}:W P O .ret e Q↔Q .ret e:=⟨fun ⟨n,ex,e',h,a⟩=>by simp [bE]at h;obtain ⟨rfl,rfl⟩:=h;exact a,fun h=>⟨0,_,_,rfl,h⟩⟩
theorem QD {f:Env->Option (Ex × Env)} (a:∀ e l e',f e≠some (.goto l,e')):∀ (n:Nat) (e:Env) (l:Nat) (e':Env),loopGo f n e≠some (.goto l,e'):=by
 intro n
 induction n with
 | zero=>intro e l e' h;cases h
 | succ n b=>
   intro e l e' h;simp only [loopGo]at h;split at h
   ·exact b _ _ _ h
   ·exact a _ _ _ h
theorem aBt {call:bO} {ops:List Oper}:∀ (rest:List Oper) (e:Env) (l:Nat) (e':Env),gV P call ops rest e≠some (.goto l,e'):=by
 intro rest
 induction rest with
 | nil=>intro e l e' h;cases h
 | cons o rest a=>
   intro e l e' h;simp only [gV]at h;split at h
   ·cases h
   ·split at h
    ·exact a _ _ _ h
    ·cases h
   ·split at h
    ·cases h
    ·split at h<;>first | exact a _ _ _ h | cases h
    ·split at h<;>first | exact a _ _ _ h | cases h
    ·cases h
    ·split at h<;>first | exact a _ _ _ h | cases h
    ·split at h
     ·split at h<;>first | exact a _ _ _ h | cases h
     ·split at h<;>first | exact a _ _ _ h | cases h
     ·cases h
theorem UW {call:bO} {n:Nat}:∀ (c:Code) (e:Env) (l:Nat) (e':Env),bE P call n c e≠some (.goto l,e'):=by
 intro c
 induction c with
 | region id ops v=>
   intro e l e' h
   cases v with
   | false=>exact aBt _ _ _ _ h
   | true=>
     simp only [bE,oF,cond_true,zG]at h;split at h
     ·cases h
     ·rename_i m f p y
      cases o:(P.follows .mixedOrders&&nL ops.toList&&fP (cB ops.toList) (dI m)&&uD (cB ops.toList) (kT m) (dI m)&&gW m f.s.n&&jD m&&fB P call f.s.n e.s.n (cB ops.toList) m f.s) with
      | false=>rw [o]at h;cases h
      | true=>
        rw [o]at h;simp only [cond_true]at h;split at h
        ·cases h
        ·cases w:jY (cB ops.toList) (m.length-1) ops.toList 0<;>rw [w]at h<;>cases h
 | seq a b k u=>
   intro e l e' h;simp only [bE]at h;split at h
   ·exact u _ _ _ h
   ·exact k _ _ _ h
 | cond q a b k u=>
   intro e l e' h;simp only [bE]at h;split at h
   ·exact k _ _ _ h
   ·exact u _ _ _ h
   ·cases h
 | block id a k=>
   intro e l e' h;simp only [bE]at h;split at h
   ·simp only [Bool.cond_eq_ite]at h
    split at h<;>cases h
   ·exact k _ _ _ h
 | loop a k=>intro e l e' h;exact QD k _ _ _ _ h
 | scope a k=>
   intro e l e' h;simp only [bE]at h;split at h
   ·cases h
   ·exact k _ _ _ h
 | rangeFunc f ps a b=>
   intro e l e' h;simp only [bE,xC]at h;split at h
   ·cases h
   ·try simp only at h
    split at h
    ·simp only [cV]at h
     split at h
     ·split at h
      ·cases h
      ·try simp only at h
       split at h<;>cases h
     ·cases h
    ·cases h
    ·cases h
 | _=>intro e l e' h;cases h
theorem aNr {c:Code} {e:Env} {Q:Ex->Env->Prop}:W P O (.scope c) e Q↔W P O c e Q:=by
 constructor
 ·rintro ⟨n,ex,e',h,a⟩
  simp only [bE]at h;split at h
  ·cases h
  ·exact ⟨n,ex,e',h,a⟩
 ·rintro ⟨n,ex,e',h,a⟩
  refine ⟨n,ex,e',?_,a⟩;simp only [bE,h];split
  ·rename_i b;simp at b;obtain ⟨rfl,_⟩:=b;exact absurd h (UW _ _ _ _)
  ·rfl
theorem aRl {α:Type} (I:α->Env->Prop) (m:α->Nat) (a:α) {c:Code} {e:Env} {Q:Ex->Env->Prop} (w:I a e)
 (B:∀ a e,I a e->W P O c e fun ex e'=>match ex with | .normal=>∃ b,m b<m a/\I b e' | ex=>Q ex e'):W P O (.loop c) e Q:=by
 generalize F:m a=k
 induction k using Nat.strongRecOn generalizing a e with
 | _ k D=>
   obtain ⟨n,ex,e',h,f⟩:=B a e w
   have q:∀ ex,ex≠.normal->bE P (aO P O n) n c e=some (ex,e')->Q ex e'->W P O (.loop c) e Q:=by
    intro ex p h f;refine ⟨n+1,ex,e',?_,f⟩;simp only [bE,loopGo];rw [nX (Nat.le_succ n) h]
    cases ex<;>first | rfl | exact absurd rfl p
   cases ex with
   | normal=>
     obtain ⟨b,A,y⟩:=f;obtain ⟨E,l,v,u,o⟩:=D (m b) (by omega) b y rfl;refine ⟨max n E+1,l,v,?_,o⟩;simp only [bE,loopGo];rw [nX (by omega) h];simp only [bE]at u;exact BR (fun e x C=>nX (by omega) C) _ _ _ _ (by omega) u
   | _=>exact q _ (by simp) h f
theorem aIu {i:Nat} {l:List Oper} {e:Env} {Q:Ex->Env->Prop}:W P O (.region i l.toArray false) e Q↔Wo P O l l e Q:=by
 simp only [W,Wo,bE,oF,cond_false]
def eG (P:Program) (O:bP) (ops:List Oper) (dst:Option Tmp) (rest:List Oper) (e:Env) (Q:Ex->Env->Prop):ORes->Prop
 | .val v=>∃ e',e.put dst v=some e'/\Wo P O ops rest e' Q
 | .val' v s=>∃ e',(e.setS s).put dst v=some e'/\Wo P O ops rest e' Q
 | .pan v s=>Q (.panic v) {e with s:=s}
 | .defer d=>∃ e',(e.setDs (d::e.ds)).put dst .undef=some e'/\Wo P O ops rest e' Q
 | .recov=>match e.ro,e.r with
   | none,.pan v=>∃ e',(e.setR (.recd v)).put dst v=some e'/\Wo P O ops rest e' Q
   | none,_=>∃ e',e.put dst .nili=some e'/\Wo P O ops rest e' Q
   | some _,_=>False
@[congr] theorem aRm {ops:List Oper} {dst:Option Tmp} {rest:List Oper} {e:Env} {Q:Ex->Env->Prop} {r r':ORes} (h':r=r'):eG P O ops dst rest e Q r=eG P O ops dst rest e Q r':=by rw [h']
@[congr] theorem aRn {b:Code} {Q:Ex->Env->Prop} {x x':Ex} {e e':Env} (h:x=x') (h':e=e'):aRh P O b Q x e=aRh P O b Q x' e':=by rw [h,h']
@[congr] theorem aNs {i:Nat} {Q:Ex->Env->Prop} {x x':Ex} {e e':Env} (h:x=x') (h':e=e'):fH i Q x e=fH i Q x' e':=by rw [h,h']
theorem aRo {ops:List Oper} {e:Env} {Q:Ex->Env->Prop}:Wo P O ops [] e Q↔Q .normal e:=⟨fun ⟨n,ex,e',h,a⟩=>by simp [gV]at h;obtain ⟨rfl,rfl⟩:=h;exact a,fun h=>⟨0,_,_,rfl,h⟩⟩
theorem aIv {ops:List Oper} {o:Oper} {rest:List Oper} {e:Env} {Q:Ex->Env->Prop} (B:cM ops o e=some true):Wo P O ops (o::rest) e Q↔dS P O o.op e (eG P O ops o.dst rest e Q):=by
 have F:∀ {n m:Nat},n<=m->∀ {l:List Oper} {e:Env} {x:Ex × Env},gV P (aO P O n) ops l e=some x->gV P (aO P O m) ops l e=some x:=fun h _ _ _ I=>IP (gG _ _ h) _ _ _ I
 have G:∀ {n m:Nat},n<=m->∀ {r:ORes},gX P (aO P O n) o e=some r->gX P (aO P O m) o e=some r:=fun h _ I=>jP (gG _ _ h) I
 constructor
 ·rintro ⟨n,ex,e',h,C⟩
  simp only [gV,B]at h
  cases D:gX P (aO P O n) o e with
  | none=>rw [D]at h;cases h
  | some r=>
    rw [D]at h;refine ⟨n,r,D,?_⟩
    cases r with
    | val v=>simp only at h;split at h<;>first | exact ⟨_,by assumption,n,ex,e',h,C⟩ | cases h
    | val' v s=>simp only at h;split at h<;>first | exact ⟨_,by assumption,n,ex,e',h,C⟩ | cases h
    | pan v s=>simp at h;obtain ⟨rfl,rfl⟩:=h;exact C
    | defer q=>simp only at h;split at h<;>first | exact ⟨_,by assumption,n,ex,e',h,C⟩ | cases h
    | recov=>
      simp only at h;simp only [eG];split at h
      ·rename_i a b;simp only [a,b]
       split at h<;>first | exact ⟨_,by assumption,n,ex,e',h,C⟩ | cases h
      ·rename_i a b
       have:∃ e',e.put o.dst .nili=some e'/\Wo P O ops rest e' Q:=by
        split at h<;>first | exact ⟨_,by assumption,n,ex,e',h,C⟩ | cases h
       rw [a]
       cases H:e.r with
       | pan v=>exact absurd H (b v)
       | _=>exact this
      ·cases h
 ·rintro ⟨n,r,D,w⟩
  have E:gX P (aO P O n) o e=some r:=D
  have f:∀ {m:Nat} {ex:Ex} {A e':Env},gV P (aO P O m) ops rest A=some (ex,e')->Q ex e'->(∀ k,max n m=k->gX P (aO P O k) o e=some r->gV P (aO P O k) ops rest A=some (ex,e')->gV P (aO P O k) ops (o::rest) e=some (ex,e'))->Wo P O ops (o::rest) e Q:=
   fun a b M=>⟨_,_,_,M _ rfl (G (Nat.le_max_left _ _) E) (F (Nat.le_max_right _ _) a),b⟩
  cases r with
  | val v=>obtain ⟨A,y,m,ex,e',a,b⟩:=w;exact f a b fun k _ p u=>by simp only [gV,B,p,y,u]
  | val' v s=>obtain ⟨A,y,m,ex,e',a,b⟩:=w;exact f a b fun k _ p u=>by simp only [gV,B,p,y,u]
  | pan v s=>exact ⟨n,_,_,by simp only [gV,B,E],w⟩
  | defer q=>obtain ⟨A,y,m,ex,e',a,b⟩:=w;exact f a b fun k _ p u=>by simp only [gV,B,p,y,u]
  | recov=>
    simp only [eG]at w;split at w
    ·rename_i J L
     obtain ⟨A,y,m,ex,e',a,b⟩:=w;exact f a b fun k _ p u=>by simp only [gV,B,p,J,L,y,u]
    ·rename_i J L
     obtain ⟨A,y,m,ex,e',a,b⟩:=w
     refine f a b fun k _ p u=>?_
     simp only [gV,B,p,J]
     cases H:e.r with
     | pan v=>exact absurd H (L v)
     | _=>simp only [y,u]
    ·exact w.elim
theorem MH {ops:List Oper} {o:Oper} {rest:List Oper} {e:Env} {Q:Ex->Env->Prop} (f:cM ops o e=some false):Wo P O ops (o::rest) e Q↔∃ e',e.put o.dst .undef=some e'/\Wo P O ops rest e' Q:=by
 constructor
 ·rintro ⟨n,ex,e',h,a⟩
  simp only [gV,f]at h;split at h
  ·rename_i b;exact ⟨_,b,n,ex,e',h,a⟩
  ·cases h
 ·rintro ⟨k,b,n,ex,e',h,a⟩
  exact ⟨n,ex,e',by simp only [gV,f,b,h],a⟩
theorem aNt {ops:List Oper} {dst:Option Tmp} {op:Op} {ty:TypeId} {pos:String} {after:Array Edge} {rest:List Oper} {e:Env} {Q:Ex->Env->Prop}:
 Wo P O ops ({dst:=dst,op:=op,type:=ty,pos:=pos,after:=after,guard:=none}::rest) e Q↔dS P O op e (eG P O ops dst rest e Q):=aIv rfl
def guardK (P:Program) (O:bP) (v:AV) (want:Bool) (op:Op) (ops:List Oper) (dst:Option Tmp) (rest:List Oper) (e:Env) (Q:Ex->Env->Prop):Prop:=match v with
 | .bool b=>(b=want->dS P O op e (eG P O ops dst rest e Q))/\(b = !want->eG P O ops dst rest e Q (.val .undef))
 | .tuple _=>eG P O ops dst rest e Q (.val .undef)
 | _=>False
section
variable {want:Bool} {op:Op} {ops:List Oper} {dst:Option Tmp} {rest:List Oper} {e:Env} {Q:Ex->Env->Prop}
@[congr] theorem aNu {v v':AV} (h:v=v'):guardK P O v want op ops dst rest e Q=guardK P O v' want op ops dst rest e Q:=by rw [h]
theorem aBu:guardK P O (.bool true) true op ops dst rest e Q↔dS P O op e (eG P O ops dst rest e Q):=by simp [guardK]
theorem aBv:guardK P O (.bool true) false op ops dst rest e Q↔eG P O ops dst rest e Q (.val .undef):=by simp [guardK]
theorem aBw:guardK P O (.bool false) true op ops dst rest e Q↔eG P O ops dst rest e Q (.val .undef):=by simp [guardK]
theorem aBx:guardK P O (.bool false) false op ops dst rest e Q↔dS P O op e (eG P O ops dst rest e Q):=by simp [guardK]
theorem aBy {b:Bool}:guardK P O (.bool b) true op ops dst rest e Q↔(b=true->dS P O op e (eG P O ops dst rest e Q))/\(b=false->eG P O ops dst rest e Q (.val .undef)):=.rfl
theorem aBz {b:Bool}:guardK P O (.bool b) false op ops dst rest e Q↔(b=false->dS P O op e (eG P O ops dst rest e Q))/\(b=true->eG P O ops dst rest e Q (.val .undef)):=.rfl
theorem MI {l:List AV}:guardK P O (.tuple l) want op ops dst rest e Q↔eG P O ops dst rest e Q (.val .undef):=.rfl
end
def GZ:List Oper->Nat->Option Nat
 | [],_=>none
 | o::_,0=>o.dst
 | _::l,n+1=>GZ l n
theorem MJ:∀ (ops:List Oper) (j:Nat),GZ ops j=ops[j]?.bind (·.dst)
 | [],_=>rfl
 | o::_,0=>rfl
 | _::l,n+1=>by simp only [GZ,List.getElem?_cons_succ];exact MJ l n
def aCa (t:Tr AV):Option Nat->AV
 | some d=>t.val d
 | none=>.tuple []
theorem aIw {ops:List Oper} {dst:Option Tmp} {op:Op} {ty:TypeId} {pos:String} {after:Array Edge} {j:Nat} {want:Bool} {rest:List Oper} {e:Env} {Q:Ex->Env->Prop}:
 Wo P O ops ({dst:=dst,op:=op,type:=ty,pos:=pos,after:=after,guard:=some (j,want)}::rest) e Q↔
  guardK P O (aCa e.t (GZ ops j)) want op ops dst rest e Q:=by
 rw [MJ]
 cases f:ops[j]?.bind (·.dst) with
 | none=>
   have a:cM ops {dst:=dst,op:=op,type:=ty,pos:=pos,after:=after,guard:=some (j,want)} e=some false:=by
    simp only [cM]
    cases o:ops[j]? with
    | none=>rfl
    | some g=>rw [o]at f;simp only [Option.bind_some]at f;simp only [f]
   rw [MH a];rfl
 | some d=>
 show _↔guardK P O (e.t.val d) want op ops dst rest e Q
 have a:cM ops {dst:=dst,op:=op,type:=ty,pos:=pos,after:=after,guard:=some (j,want)} e=match e.t.get d with | some (.bool b)=>some (b==want) | some (.tuple _)=>some false | _=>none:=by
  simp only [cM]
  cases o:ops[j]? with
  | none=>rw [o]at f;cases f
  | some g=>rw [o]at f;simp only [Option.bind_some]at f;simp only [f];cases e.t.get d with | none=>rfl | some v=>cases v<;>rfl
 cases k:e.t.get d with
 | none=>
   have p:e.t.val d=.top:=by simp [Tr.val,k]
   rw [p];rw [k]at a;refine ⟨fun ⟨n,ex,e',h,u⟩=>?_,fun h=>h.elim⟩;simp only [gV,a]at h;cases h
 | some v=>
   have p:e.t.val d=v:=by simp [Tr.val,k]
   rw [p];rw [k]at a;clear p k
   cases v with
   | bool b=>
     simp only at a
     cases m:(b==want) with
     | true=>
       rw [m]at a
       have:b=want:=by simpa using m
       subst this;rw [aIv a];simp [guardK]
     | false=>
       rw [m]at a;rw [MH a]
       have:b≠want:=by simpa using m
       have q:b = !want:=by cases b<;>cases want<;>simp_all
       simp [guardK,q];rfl
   | tuple l=>rw [MH a];rfl
   | _=>exact ⟨fun ⟨n,ex,e',h,u⟩=>by (simp only [gV,a]at h;cases h),fun h=>h.elim⟩
theorem yR {nt:Nat} {ro:Option Nat} {fn:FuncId} {t:Tr AV} {ds:List ADef} {s:Sto} {r:ARec} {d:Nat} {v:AV} {R:Env->Prop} (h:d<nt):
 (∃ e',(Env.mk nt ro fn t ds s r).put (some d) v=some e'/\R e')↔R ⟨nt,ro,fn,t.set d v,ds,s,r⟩:=by
 have:(Env.mk nt ro fn t ds s r).put (some d) v=some ⟨nt,ro,fn,t.set d v,ds,s,r⟩:=by
  simp only [Env.put]
  have:Nat.blt d nt=true:=by simpa using h
  rw [this];rfl
 rw [this];simp
theorem yS {e:Env} {v:AV} {R:Env->Prop}:(∃ e',e.put none v=some e'/\R e')↔R e:=by simp [Env.put]
variable {nt:Nat} {ro:Option Nat} {fn:FuncId} {t:Tr AV} {ds:List ADef} {s:Sto} {r:ARec} {ops rest:List Oper} {Q:Ex->Env->Prop}
theorem aIx {d:Nat} {v:AV} (h:d<nt):eG P O ops (some d) rest ⟨nt,ro,fn,t,ds,s,r⟩ Q (.val v)↔Wo P O ops rest ⟨nt,ro,fn,t.set d v,ds,s,r⟩ Q:=yR h
theorem aCb {e:Env} {v:AV}:eG P O ops none rest e Q (.val v)↔Wo P O ops rest e Q:=yS
theorem aCc {d:Nat} {v:AV} {a:Sto} (h:d<nt):eG P O ops (some d) rest ⟨nt,ro,fn,t,ds,s,r⟩ Q (.val' v a)↔Wo P O ops rest ⟨nt,ro,fn,t.set d v,ds,a,r⟩ Q:=yR h
theorem UX {v:AV} {a:Sto}:eG P O ops none rest ⟨nt,ro,fn,t,ds,s,r⟩ Q (.val' v a)↔Wo P O ops rest ⟨nt,ro,fn,t,ds,a,r⟩ Q:=yS
theorem aIy {dst:Option Tmp} {v:AV} {a:Sto}:eG P O ops dst rest ⟨nt,ro,fn,t,ds,s,r⟩ Q (.pan v a)↔Q (.panic v) ⟨nt,ro,fn,t,ds,a,r⟩:=.rfl
theorem oP {op:Op} {e:Env} {K:ORes->Prop} {r:Option ORes} (h:∀ call,eL P call op e=r):dS P O op e K↔sG r K:=by
 constructor
 ·rintro ⟨n,x,a,b⟩;exact ⟨x,by rw [<-a,h],b⟩
 ·rintro ⟨x,a,b⟩;exact ⟨0,x,by rw [h,a],b⟩
theorem eV {op:Op} {e:Env} {K:ORes->Prop} {x:Option AV} (h:∀ call,eL P call op e=valO x):dS P O op e K↔nE (x) K:=by
 rw [oP h];cases x<;>simp [valO,nE,sG]
theorem IQ {op:Op} {e:Env} {K:ORes->Prop} {x:Option Sto} (h:∀ call,eL P call op e=skipO x):dS P O op e K↔QA (x) K:=by
 rw [oP h];cases x<;>simp [skipO,QA,sG]
variable {e:Env} {K:ORes->Prop}
theorem aIz {x:Operand}:dS P O (.move x) e K↔K (.val (e.eval x)):=by rw [oP (r:=some (.val (e.eval x))) fun _=>rfl];simp [sG]
theorem UY {x:Operand}:dS P O (.assign x) e K↔K (.val (e.eval x)):=by rw [oP (r:=some (.val (e.eval x))) fun _=>rfl];simp [sG]
def YH (c a b:AV):Option AV:=match c with
 | .bool true=>some a
 | .bool false=>some b
 | _=>none
theorem aJa {c a b:Operand}:dS P O (.pick c a b) e K↔nE (YH (e.eval c) (e.eval a) (e.eval b)) K:=by
 refine eV fun call=>?_
 show eL P call (.pick c a b) e=_;simp only [eL,gX]
 cases h:e.eval c with
 | bool b=>cases b<;>rfl
 | _=>rfl
theorem aCd {op:BinOp} {ty a:TypeId} {x y:Operand}:dS P O (.binOp op ty x y a) e K↔nE (abin P op ty x y (e.eval x) (e.eval y)) K:=eV fun _=>rfl
theorem aJb {op:UnOp} {ty:TypeId} {x:Operand}:dS P O (.unOp op ty x) e K↔nE (aun op (e.eval x)) K:=eV fun _=>rfl
theorem aJc {ty:TypeId} {a:Operand}:dS P O (.load ty a) e K↔nE (eX P e.s ty (e.eval a)) K:=eV fun _=>rfl
theorem aCe {ty:TypeId} {a x:Operand}:dS P O (.store ty a x) e K↔QA (lM P e.s ty (e.eval a) (e.eval x)) K:=IQ fun _=>rfl
theorem aCf {ty:TypeId} {x:Operand} {lo a b:Option Operand}:dS P O (.slice ty x lo a b) e K↔nE (fK P ty (e.eval x) (lo.map e.eval) (a.map e.eval) (b.map e.eval)) K:=eV fun _=>rfl
theorem HA {ty:TypeId} {x:Operand} {f:Nat}:dS P O (.fieldAddr ty x f) e K↔nE (bR P ty (e.eval x) f) K:=eV fun _=>rfl
theorem aCg {ty:TypeId} {x:Operand} {f:Nat}:dS P O (.field ty x f) e K↔nE (oT P ty (e.eval x) f) K:=eV fun _=>rfl
theorem HB {ty:TypeId} {x i:Operand}:dS P O (.indexAddr ty x i) e K↔nE (bN P ty (e.eval x) (e.eval i)) K:=eV fun _=>rfl
theorem aCh {ty:TypeId} {x i:Operand}:dS P O (.index ty x i) e K↔nE (rM P ty (e.eval x) (e.eval i)) K:=eV fun _=>rfl
theorem UZ {ty:TypeId} {m k:Operand} {a:Bool}:dS P O (.lookup ty m k a) e K↔nE (alookup P e.s ty (e.eval m) (e.eval k) a) K:=eV fun _=>rfl
theorem HC {ty:TypeId} {m k x:Operand}:dS P O (.mapUpdate ty m k x) e K↔QA (cU P e.s ty (e.eval m) (e.eval k) (e.eval x)) K:=IQ fun _=>rfl
theorem aCi {ty:TypeId} {a:Array (Nat × Operand)}:dS P O (.build ty a) e K↔nE (oS P ty (a.toList.map fun p=>(p.1,e.eval p.2))) K:=eV fun _=>rfl
theorem QE {a dst:TypeId} {x:Operand}:dS P O (.convert a dst x) e K↔sG (jC P e.s a dst (e.eval x)) K:=oP fun _=>rfl
def uY:AV->Option AV
 | .ptr i g o=>some (.ptr i g o)
 | .pf v=>some (.pf v)
 | .func (.func f) a c=>some (.func (.func f) a c)
 | .iface t v=>some (.iface t v)
 | _=>none
theorem MK {x:Operand}:dS P O (.nilCheck x) e K↔nE (uY (e.eval x)) K:=by
 refine eV fun call=>?_
 show eL P call (.nilCheck x) e=_;simp only [eL,gX]
 cases h:e.eval x with
 | func f a c=>cases f<;>rfl
 | _=>rfl
theorem ML {f:FuncId} {first cap:Array Operand}:dS P O (.makeFunc (.func f) first cap) e K↔K (.val (.func (.func f) (first.toList.map e.eval) (cap.toList.map e.eval))):=by
 rw [oP (r:=some (.val (.func (.func f) (first.toList.map e.eval) (cap.toList.map e.eval)))) fun _=>rfl];simp [sG]
theorem QF {x:Operand} {i:Nat}:dS P O (.extract x i) e K↔nE ((match e.eval x with | .tuple vs=>vs[i]? | _=>none)) K:=by
 refine eV fun call=>?_
 show eL P call (.extract x i) e=_;simp only [eL,gX];cases h:e.eval x<;>rfl
theorem QG {b:Builtin} {args:Array Operand} {ts:Array TypeId}:dS P O (.call {callee:=.builtin b,args:=args,argTypes:=ts}) e K↔sG (aX P e.s b ts (args.toList.map e.eval)) K:=oP fun _=>rfl
def ob (cs:List AV):AObj:=.cells 0 cs.length (Tr.leaf.lay 0 cs)
theorem nY {s:Sto} {cs:List AV}:nT s cs=if cs.all AV.isCell=true then some (s.n,s.push (ob cs)) else none:=by
 unfold nT;cases cs.all AV.isCell<;>rfl
def AV.isTop:AV->Bool
 | .top=>true
 | _=>false
def aK (b:Bool) (A:Prop):Prop:=b=true/\A
theorem aNv {A:Prop}:aK true A↔A:=by simp [aK]
@[congr] theorem aVc {b b':Bool} {A:Prop} (h:b=b'):aK b A=aK b' A:=by rw [h]
def yT (v:AV) (s:Sto) (K:ORes->Prop):Prop:=v.isTop=false/\v.cells.all AV.isCell=true/\K (.val' (.ptr s.n 0 0) (s.push (ob v.cells)))
@[congr] theorem aRp {v v':AV} {s s':Sto} {K:ORes->Prop} (h:v=v') (h':s=s'):yT v s K=yT v' s' K:=by rw [h,h']
theorem aJd {l:List AV} {s:Sto} {K:ORes->Prop}:yT (.agg l) s K↔aK (l.all AV.isCell) (K (.val' (.ptr s.n 0 0) (s.push (ob l)))):=by simp [yT,AV.isTop,AV.cells,aK]
theorem aCj {v:AV} {s:Sto} {K:ORes->Prop} (h:v.isCell=true):yT v s K↔K (.val' (.ptr s.n 0 0) (s.push (ob [v]))):=by
 have a:v.isTop=false:=by cases v<;>first | rfl | cases h
 have b:v.cells=[v]:=by cases v<;>first | rfl | cases h
 simp [yT,a,b,h]
def jQ (z:Option AV) (s:Sto) (K:ORes->Prop):Prop:=∃ v,z=some v/\v.cells.all AV.isCell=true/\K (.val' (.ptr s.n 0 0) (s.push (ob v.cells)))
@[congr] theorem aNw {z z':Option AV} {s s':Sto} {K:ORes->Prop} (h:z=z') (h':s=s'):jQ z s K=jQ z' s' K:=by rw [h,h']
theorem VA {l:List AV} {s:Sto} {K:ORes->Prop}:jQ (some (.agg l)) s K↔aK (l.all AV.isCell) (K (.val' (.ptr s.n 0 0) (s.push (ob l)))):=by simp [jQ,AV.cells,aK]
theorem QH {v:AV} {s:Sto} {K:ORes->Prop} (h:v.isCell=true):jQ (some v) s K↔K (.val' (.ptr s.n 0 0) (s.push (ob [v]))):=by
 have a:v.cells=[v]:=by cases v<;>first | rfl | cases h
 simp [jQ,a,h]
theorem IR {ty:TypeId}:dS P O (.alloc ty) e K↔jQ (bF P ty) e.s K:=by
 rw [oP (r:=match bF P ty with | some z=>(match nT e.s z.cells with | some (id,s)=>some (.val' (.ptr id 0 0) s) | none=>none) | none=>none) fun _=>rfl]
 cases h:bF P ty with
 | none=>simp [sG,jQ]
 | some z=>
   simp only [sG,jQ,Option.some.injEq,exists_eq_left',nY];by_cases a:z.cells.all AV.isCell=true<;>simp [a]
theorem YI {ty:TypeId} {x:Operand}:dS P O (.box ty x) e K↔yT (e.eval x) e.s K:=by
 have:∀ call,eL P call (.box ty x) e=match e.eval x with | .top=>none | v=>(match nT e.s v.cells with | some (id,s)=>some (.val' (.ptr id 0 0) s) | none=>none):=fun _=>rfl
 rw [oP this];generalize e.eval x=v;by_cases a:v=.top
 ·subst a;simp [AV.isTop,yT,sG]
 ·have b:v.isTop=false:=by cases v<;>first | rfl | exact absurd rfl a
  have:(match v with | .top=>none | v=>(match nT e.s v.cells with | some (id,s)=>some (ORes.val' (.ptr id 0 0) s) | none=>none))=(match nT e.s v.cells with | some (id,s)=>some (ORes.val' (.ptr id 0 0) s) | none=>none):=by
   cases v<;>first | rfl | exact absurd rfl a
  rw [this,nY];by_cases f:v.cells.all AV.isCell=true<;>simp [f,yT,sG,b]
def callK (s:Sto) (K:ORes->Prop):CRes->Prop
 | .ret v none=>K (.val v)
 | .ret v (some a)=>K (.val' v a)
 | .pan v none=>K (.pan v s)
 | .pan v (some a)=>K (.pan v a)
theorem IT {s:Sto} {v:AV}:callK s K (.ret v none)=K (.val v):=rfl
theorem FN {s a:Sto} {v:AV}:callK s K (.ret v (some a))=K (.val' v a):=rfl
theorem aCk {s:Sto} {v:AV}:callK s K (.pan v none)=K (.pan v s):=rfl
theorem VB {s a:Sto} {v:AV}:callK s K (.pan v (some a))=K (.pan v a):=rfl
theorem aJe {f:Operand} {args:Array Operand} {ts:Array TypeId}:dS P O (.call {callee:=.value f,args:=args,argTypes:=ts}) e K↔Wcall P O (e.eval f) (args.toList.map e.eval) e.s (callK e.s K):=by
 have k:∀ n,eL P (aO P O n) (.call {callee:=.value f,args:=args,argTypes:=ts}) e=fN e.s (aO P O n (e.eval f) (args.toList.map e.eval) e.s .no):=fun _=>rfl
 constructor
 ·rintro ⟨n,r,a,b⟩
  rw [k]at a
  cases l:aO P O n (e.eval f) (args.toList.map e.eval) e.s .no with
  | none=>rw [l]at a;cases a
  | some y=>
    obtain ⟨res,m⟩:=y;rw [l]at a;refine ⟨n,res,m,l,?_⟩
    cases res with
    | ret v h=>cases h<;>simp [fN]at a<;>subst a<;>exact b
    | pan v h=>cases h<;>simp [fN]at a<;>subst a<;>exact b
 ·rintro ⟨n,res,m,a,b⟩
  cases res with
  | ret v h=>cases h with
    | none=>exact ⟨n,_,by rw [k,a];rfl,b⟩
    | some o=>exact ⟨n,_,by rw [k,a];rfl,b⟩
  | pan v h=>cases h with
    | none=>exact ⟨n,_,by rw [k,a];rfl,b⟩
    | some o=>exact ⟨n,_,by rw [k,a];rfl,b⟩
def QI (o:Option CRes) (K:CRes->Prop) (R:Prop):Prop:=match o with
 | some r=>K r
 | none=>R
theorem aCl {c:CRes} {K:CRes->Prop} {R:Prop}:QI (some c) K R=K c:=rfl
@[congr] theorem aRq {o o':Option CRes} {K:CRes->Prop} {R:Prop} (h:o=o'):QI o K R=QI o' K R:=by rw [h]
def aVd (P:Program) (O:bP) (a:AV) (args:List AV) (s:Sto) (K:CRes->Prop):Prop:=∃ n res b,(match gP P s a args with
    | some (.fn f args)=>oG P (aO P O n) n f args s .no
    | some (.round l args)=>lP P (aO P O n) n l args s
    | none=>none)=some (res,b)/\K res
theorem qY {g:FuncId} {first cap args:List AV} {s:Sto} {K:CRes->Prop}:
 Wcall P O (.func (.func g) first cap) args s K↔QI (O g (first++args++cap) s) K (aVd P O (.func (.func g) first cap) args s K):=by
 have f:GK O (.func (.func g) first cap) args s .no=O g (first++args++cap) s:=rfl
 cases k:O g (first++args++cap) s with
 | some c=>
   simp only [QI];constructor
   ·rintro ⟨n,res,l,a,b⟩
    cases n with
    | zero=>cases a
    | succ n=>
      simp only [aO,f,k]at a;simp at a;obtain ⟨rfl,rfl⟩:=a;exact b
   ·intro h
    exact ⟨1,c,.no,by simp only [aO,f,k],h⟩
 | none=>
   simp only [QI];constructor
   ·rintro ⟨n,res,l,a,b⟩
    cases n with
    | zero=>cases a
    | succ n=>
      simp only [aO,f,k]at a;exact ⟨n,res,l,a,b⟩
   ·rintro ⟨n,res,l,a,b⟩
    exact ⟨n+1,res,l,by simp only [aO,f,k];exact a,b⟩
end
abbrev mE:=FuncId × (List AV->Sto->Option CRes)
def orcL:List mE->bP
 | [],_,_,_=>none
 | x::L,f,args,s=>bif Nat.beq x.1 f then x.2 args s else orcL L f args s
theorem uZ {f:FuncId} {F:List AV->Sto->Option CRes} {L:List mE} {args:List AV} {s:Sto}:orcL ((f,F)::L) f args s=F args s:=by simp [orcL]
theorem YJ {f g:FuncId} {F:List AV->Sto->Option CRes} {L:List mE} {args:List AV} {s:Sto} (h:g≠f):orcL ((g,F)::L) f args s=orcL L f args s:=by
 have:Nat.beq g f=false:=by
  cases a:Nat.beq g f with
  | false=>rfl
  | true=>exact absurd (Nat.eq_of_beq_eq_true a) h
 simp [orcL,this]
def bY (P:Program) (x:mE):Prop:=∀ args s res,x.2 args s=some res->bT P x.1 args s res
theorem qZ {P:Program} {L:List mE} (h:∀ x∈L,bY P x):rA P (orcL L):=by
 intro f args s res a
 induction L with
 | nil=>cases a
 | cons x L l=>
   unfold orcL at a
   cases b:Nat.beq x.1 f with
   | true=>
     rw [b]at a;have:=h x (List.mem_cons_self ..) args s res a;rw [Nat.eq_of_beq_eq_true b]at this;exact this
   | false=>rw [b]at a;exact l (fun x k=>h x (List.mem_cons_of_mem _ k)) a
theorem aE {P:Program}:∀ x∈([]:List mE),bY P x:=fun _ h=>nomatch h
theorem elist_cons {P:Program} {x:mE} {L:List mE} (h:bY P x) (b:∀ x∈L,bY P x):∀ y∈x::L,bY P y:=fun y a=>by
 rcases List.mem_cons.1 a with rfl | a
 ·exact h
 ·exact b y a
end
end Go.Abs
