/-
  The abstract machine: more fuel, and more that is known of calls, come to the same.
-/
import Derived.Test.YtdipddlhenoglaaGreatUx
set_option linter.unusedVariables false
set_option linter.unusedSimpArgs false
namespace Go.Abs
section
variable {P:Program}
def CLe (c d:bJ):Prop:=∀ fv args s r x,c fv args s r=some x->d fv args s r=some x
theorem CLe.refl (c:bJ):CLe c c:=fun _ _ _ _ _ h=>h
theorem CLe.trans {a b c:bJ} (h:CLe a b) (h':CLe b c):CLe a c:=fun _ _ _ _ _ x=>h' _ _ _ _ _ (h _ _ _ _ _ x)
variable {c d:bJ}
theorem zD (h:CLe c d) {s:Sto} {fv:AV} {args:List AV} {r:ORes} (hd:fB s (c fv args s .no)=some r):fB s (d fv args s .no)=some r:=by
 cases hc:c fv args s .no with
 | none=>rw [hc]at hd;cases hd
 | some x=>rw [h _ _ _ _ _ hc,<-hc];exact hd
theorem iR (h:CLe c d) {o:Oper} {e:Env} {r:ORes} (hd:gF P c o e=some r):gF P d o e=some r:=by
 unfold gF at hd ⊢
 cases ho:o.op<;>simp only [ho]at hd ⊢<;>first | exact hd | skip
 rename_i cl
 obtain ⟨callee,args,ts⟩:=cl
 cases callee with
 | builtin b=>exact hd
 | value f=>exact zD h hd
 | invoke f n=>exact zD h hd
theorem FA (h:CLe c d) {ops:List Oper}:∀ (rest:List Oper) (e:Env) (x:Ex × Env),gD P c ops rest e=some x->gD P d ops rest e=some x:=by
 intro rest
 induction rest with
 | nil=>intro e x hx;exact hx
 | cons o rest ih=>
   intro e x hx
   simp only [gD]at hx ⊢
   split at hx
   ·cases hx
   ·rename_i hw
    split at hx
    ·exact ih _ _ hx
    ·cases hx
   ·rename_i hw
    cases hd:gF P c o e with
    | none=>rw [hd]at hx;cases hx
    | some r=>
      rw [iR h hd]
      rw [hd]at hx
      cases r with
      | val v=>simp only at hx ⊢;split at hx<;>first | exact ih _ _ hx | cases hx
      | val' v s=>simp only at hx ⊢;split at hx<;>first | exact ih _ _ hx | cases hx
      | pan v s=>exact hx
      | defer q=>simp only at hx ⊢;split at hx<;>first | exact ih _ _ hx | cases hx
      | recov=>
        simp only at hx ⊢
        split at hx
        ·split at hx<;>first | exact ih _ _ hx | cases hx
        ·split at hx<;>first | exact ih _ _ hx | cases hx
        ·cases hx
theorem LK {x:TrE} {y:Option TrR} {z:TrR} (h:nV x y=some z):∃ l f p,y=some (l,f,p)/\z=(x::l,f,p):=by
 cases y with
 | none=>cases h
 | some y=>obtain ⟨l,f,p⟩:=y;simp only [nV,Option.some.injEq]at h;exact ⟨l,f,p,rfl,h.symm⟩
theorem LL (h:CLe c d) {ops:List Oper}:∀ (rest:List Oper) (i:Nat) (e:Env) (x:TrR),AE P c ops rest i e=some x->AE P d ops rest i e=some x:=by
 intro rest
 induction rest with
 | nil=>intro i e x hx;exact hx
 | cons o rest ih=>
   intro i e x hx
   have key:∀ {y:TrE} {e':Env} {z:TrR},nV y (AE P c ops rest (i+1) e')=some z->nV y (AE P d ops rest (i+1) e')=some z:=by
    intro y e' z hz
    obtain ⟨l,f,p,h1,h2⟩:=LK hz
    rw [ih _ _ _ h1,<-hz,h1]
   simp only [AE]at hx ⊢
   split at hx
   ·cases hx
   ·split at hx
    ·exact key hx
    ·cases hx
   ·cases hd:gF P c o e with
    | none=>rw [hd]at hx;cases hx
    | some r=>
      rw [iR h hd]
      rw [hd]at hx
      cases r with
      | val v=>simp only at hx ⊢;split at hx<;>first | exact key hx | cases hx
      | val' v s=>simp only at hx ⊢;split at hx<;>first | exact key hx | cases hx
      | pan v s=>exact hx
      | defer q=>cases hx
      | recov=>cases hx
theorem CM (h:CLe c d) {v:AV} {o:Oper} {e:Env} (hv:isVal v (gF P c o e)=true):isVal v (gF P d o e)=true:=by
 cases hd:gF P c o e with
 | none=>rw [hd]at hv;cases hv
 | some r=>rw [iR h hd,<-hd];exact hv
theorem IB (h:CLe c d) {n:Nat} {as:List Nat} {ns:List (Nat × Nat)} {x:TrE}:∀ (cs:List Nat) (ss:List Sto),gR P c n as ns x cs ss=true->gR P d n as ns x cs ss=true:=by
 intro cs
 induction cs with
 | nil=>
   intro ss hs
   cases ss with
   | nil=>simp [gR]at hs
   | cons s ss=>
     cases ss with
     | nil=>exact CM h hs
     | cons s' ss=>simp [gR]at hs
 | cons k cs ih=>
   intro ss hs
   cases ss with
   | nil=>simp [gR]at hs
   | cons s ss=>
     simp only [gR,Bool.and_eq_true]at hs ⊢
     refine ⟨?_,?_⟩
     ·have:=hs.1
      cases hb:(as.getD x.i 0).testBit k with
      | true=>rfl
      | false=>rw [hb]at this;exact CM h this
     ·have:=hs.2
      cases hb:(as.getD k 0).testBit x.i with
      | true=>rfl
      | false=>rw [hb]at this;exact ih _ this
theorem IC (h:CLe c d) {n0:Nat} {ns:List (Nat × Nat)} {as cs:List Nat} {x:TrE} (hs:nC P c as n0 ns cs x=true):nC P d as n0 ns cs x=true:=by
 simp only [nC,Bool.and_eq_true,decide_eq_true_eq]at hs ⊢
 exact ⟨hs.1,fun s' hs'=>iR h (hs.2 s' hs')⟩
theorem ID (h:CLe c d) {n0:Nat} {as cs:List Nat} {ss:List Sto} {x:TrE} (hs:qF P c as n0 cs ss x=true):qF P d as n0 cs ss x=true:=by
 simp only [qF,decide_eq_true_eq]at hs ⊢
 obtain ⟨m,hm,h1,h2⟩:=hs
 exact ⟨m,hm,h1,fun s' hs'=>iR h (h2 s' hs')⟩
theorem DS (h:CLe c d) {n n0:Nat} {as:List Nat} {l:List TrE} {s:Sto} (hr:eL P c n n0 as l s=true):eL P d n n0 as l s=true:=by
 have key:∀ (ns:List (Nat × Nat)) (cs:List Nat) (ss:List Sto) (m:List TrE),jZ P c n n0 as ns cs ss m=true->jZ P d n n0 as ns cs ss m=true:=by
  intro ns cs ss m
  induction m with
  | nil=>intro _;rfl
  | cons x m ih=>
    intro hm
    simp only [jZ,Bool.and_eq_true,Bool.or_eq_true]at hm ⊢
    refine ⟨?_,ih hm.2⟩
    rcases hm.1 with (((h1 | h1) | h1) | h1) | h1
    ·exact .inl (.inl (.inl (.inl h1)))
    ·exact .inl (.inl (.inl (.inr h1)))
    ·exact .inl (.inl (.inr (IB h _ _ h1)))
    ·exact .inl (.inr (IC h h1))
    ·exact .inr (ID h h1)
 unfold eL at hr ⊢
 split at hr
 ·rfl
 ·exact key _ _ _ _ hr
theorem PW (h:CLe c d) {ops:List Oper} {e:Env} {x:Ex × Env} (hx:wY P c ops e=some x):wY P d ops e=some x:=by
 unfold wY at hx ⊢
 cases ht:AE P c ops ops 0 e with
 | none=>rw [ht]at hx;cases hx
 | some y=>
   obtain ⟨l,f,p⟩:=y
   rw [LL h _ _ _ _ ht]
   rw [ht]at hx
   simp only at hx ⊢
   cases hr:eL P c f.s.n e.s.n (cA ops) l f.s with
   | false=>rw [hr]at hx;simp at hx
   | true=>rw [DS h hr,<-hr];exact hx
theorem IE (h:CLe c d) {ops:List Oper} {draw:Bool} {e:Env} {x:Ex × Env} (hx:nE P c ops draw e=some x):nE P d ops draw e=some x:=by
 cases draw with
 | true=>exact PW h hx
 | false=>exact FA h _ _ _ hx
theorem zE {f g:Env->Option (Ex × Env)} (h:∀ e x,f e=some x->g e=some x):∀ (n m:Nat) (e:Env) (x:Ex × Env),n<=m->loopGo f n e=some x->loopGo g m e=some x:=by
 intro n
 induction n with
 | zero=>intro m e x _ hx;cases hx
 | succ n ih=>
   intro m e x hm hx
   obtain ⟨m,rfl⟩:∃ k,m=k+1:=⟨m-1,by omega⟩
   simp only [loopGo]at hx ⊢
   cases hf:f e with
   | none=>rw [hf]at hx;cases hx
   | some y=>
     rw [h _ _ hf]
     rw [hf]at hx
     obtain ⟨ex,e'⟩:=y
     cases ex with
     | normal=>exact ih m e' x (by omega) hx
     | _=>exact hx
theorem LM (h:CLe c d) {f:Operand} {ps:Array Tmp} {a b:Code} {e:Env} {x:Ex × Env} (hx:uR c f ps a b e=some x):uR d f ps a b e=some x:=by
 unfold uR at hx ⊢
 split at hx
 ·cases hx
 ·simp only at hx ⊢
  rename_i q s1 dd ds hq
  cases hc:c (e.eval f) [.func (.yield s1.n) [] []] (s1.push (.loop .ready none e.fn e.nt e.t ps.toList a b dd)) .no with
  | none=>rw [hc]at hx;cases hx
  | some y=>rw [h _ _ _ _ _ hc,<-hc];exact hx
theorem pR (h:CLe c d) {n m:Nat} (hn:n<=m):∀ (k:Code) (e:Env) (x:Ex × Env),aZ P c n k e=some x->aZ P d m k e=some x:=by
 intro k
 induction k with
 | region id ops draw=>intro e x hx;exact IE h hx
 | seq a b iha ihb=>
   intro e x hx
   simp only [aZ]at hx ⊢
   cases ha:aZ P c n a e with
   | none=>rw [ha]at hx;cases hx
   | some y=>
     rw [iha _ _ ha]
     rw [ha]at hx
     obtain ⟨ex,e'⟩:=y
     cases ex with
     | normal=>exact ihb _ _ hx
     | _=>exact hx
 | cond q a b iha ihb=>
   intro e x hx
   simp only [aZ]at hx ⊢
   split at hx
   ·exact iha _ _ hx
   ·exact ihb _ _ hx
   ·cases hx
 | block id a iha=>
   intro e x hx
   simp only [aZ]at hx ⊢
   cases ha:aZ P c n a e with
   | none=>rw [ha]at hx;cases hx
   | some y=>rw [iha _ _ ha,<-ha];exact hx
 | loop a iha=>intro e x hx;exact zE iha _ _ _ _ hn hx
 | scope a iha=>
   intro e x hx
   simp only [aZ]at hx ⊢
   cases ha:aZ P c n a e with
   | none=>rw [ha]at hx;cases hx
   | some y=>rw [iha _ _ ha,<-ha];exact hx
 | rangeFunc f ps a b=>intro e x hx;exact LM h hx
 | _=>intro e x hx;exact hx
theorem rR (h:CLe c d) {fn:Func}:∀ (n m:Nat) (mode:Option AV) (e:Env) (x:LRes × Env),n<=m->dleave P c fn n mode e=some x->dleave P d fn m mode e=some x:=by
 intro n
 induction n with
 | zero=>intro m mode e x _ hx;cases hx
 | succ n ih=>
   intro m mode e x hm hx
   obtain ⟨m,rfl⟩:∃ k,m=k+1:=⟨m-1,by omega⟩
   have hm':n<=m:=by omega
   simp only [dleave]at hx ⊢
   split at hx
   ·exact hx
   ·split at hx
    ·exact ih _ _ _ _ hm' hx
    ·cases hx
   ·rename_i fv args ds _
    cases hy:wZ fv with
    | true=>rw [hy]at hx;cases hx
    | false=>
      rw [hy]at hx
      simp only [cond_false]at hx ⊢
      cases mode with
      | none=>
        simp only at hx ⊢
        cases hc:c fv args e.s .no with
        | none=>rw [hc]at hx;cases hx
        | some y=>
          rw [h _ _ _ _ _ hc]
          rw [hc]at hx
          obtain ⟨res,rr⟩:=y
          cases res<;>cases rr<;>first | exact ih _ _ _ _ hm' hx | cases hx
      | some p=>
        simp only at hx ⊢
        cases hc:c fv args e.s (.pan p) with
        | none=>rw [hc]at hx;cases hx
        | some y=>
          rw [h _ _ _ _ _ hc]
          rw [hc]at hx
          obtain ⟨res,rr⟩:=y
          cases res<;>cases rr<;>first | exact ih _ _ _ _ hm' hx | cases hx
theorem PX (h:CLe c d) {n m:Nat} (hn:n<=m) {f:FuncId} {args:List AV} {s:Sto} {r:ARec} {x:CRes × ARec} (hx:nF P c n f args s r=some x):nF P d m f args s r=some x:=by
 unfold nF at hx ⊢
 cases ho:okFn P f with
 | false=>rw [ho]at hx;cases hx
 | true=>
   rw [ho]at hx
   simp only [cond_true]at hx ⊢
   split at hx
   ·rename_i fn hfn
    split at hx
    ·rename_i k hk
     cases hc:aZ P c n k {nt:=Nat.max args.length fn.ntmps,ro:=none,fn:=f,t:=Tr.leaf.lay 0 args,ds:=[],s:={s with low:=s.n},r:=r} with
     | none=>rw [hc]at hx;cases hx
     | some y=>
       rw [pR h hn _ _ _ hc]
       rw [hc]at hx
       obtain ⟨ex,e'⟩:=y
       cases ex<;>first | (obtain ⟨lr,e'',hl,hf⟩:=oM hx;simp only [rR h _ _ _ _ _ hn hl];exact hf) | cases hx
    ·cases hx
   ·cases hx
theorem LN (h:CLe c d) {n m:Nat} (hn:n<=m) {l:Nat} {args:List AV} {s:Sto} {x:CRes × ARec} (hx:kW P c n l args s=some x):kW P d m l args s=some x:=by
 unfold kW at hx ⊢
 split at hx
 ·rename_i st pend fn nt t ps a b dd hg
  split at hx
  ·rename_i t' ht
   cases hc:aZ P c n a {nt:=nt,ro:=some l,fn:=fn,t:=t',ds:=[],s:={s with low:=s.n},r:=.no} with
   | none=>rw [hc]at hx;cases hx
   | some y=>
     rw [pR h hn _ _ _ hc]
     rw [hc]at hx
     obtain ⟨ex,e'⟩:=y
     cases ex with
     | normal=>
       simp only at hx ⊢
       split at hx
       ·rename_i pend' fn' nt' t'' ps' a' b' d' hg'
        cases hc':aZ P c n b {e' with s:=e'.s.put l (.loop .busy pend' fn' nt' t'' ps' a' b' d')} with
        | none=>rw [hc']at hx;cases hx
        | some y=>
          rw [pR h hn _ _ _ hc',<-hc']
          exact hx
       ·cases hx
     | _=>cases hx
  ·cases hx
 ·cases hx
theorem fS {O:bM}:∀ (n m:Nat),n<=m->CLe (aO P O n) (aO P O m):=by
 intro n
 induction n with
 | zero=>intro m _ fv args s r x hx;cases hx
 | succ n ih=>
   intro m hm fv args s r x hx
   obtain ⟨m,rfl⟩:∃ k,m=k+1:=⟨m-1,by omega⟩
   have hm':n<=m:=by omega
   simp only [aO]at hx ⊢
   split at hx
   ·exact hx
   ·split at hx
    ·exact PX (ih m hm') hm' hx
    ·cases r<;>first | exact LN (ih m hm') hm' hx | cases hx
    ·cases hx
end
end Go.Abs
/-
 The abstract machine: what must hold for a piece of code to end so;rules for a walk by 'simp'.
-/
namespace Go.Abs
noncomputable section
def Tr.val (t:Tr AV) (i:Nat):AV:=(t.get i).getD .top
theorem Tr.val_set_same (t:Tr AV) (i:Nat) (a:AV):(t.set i a).val i=a:=by simp [Tr.val,Tr.get_set]
theorem Tr.val_set_ne (t:Tr AV) (i j:Nat) (a:AV) (h:j≠i):(t.set i a).val j=t.val j:=by simp [Tr.val,Tr.get_set,h]
theorem Env.eval_tmp (e:Env) (i:Nat):e.eval (.tmp i)=e.t.val i:=by
 simp only [Env.eval,Tr.val]
 cases e.t.get i<;>rfl
def mD (o:Option AV) (K:ORes->Prop):Prop:=∃ v,o=some v/\K (.val v)
def LP (o:Option Sto) (K:ORes->Prop):Prop:=∃ s,o=some s/\K (.val' .undef s)
def qP (o:Option ORes) (K:ORes->Prop):Prop:=∃ r,o=some r/\K r
theorem LQ {v:AV} {K:ORes->Prop}:mD (some v) K↔K (.val v):=by simp [mD]
theorem aDc {s:Sto} {K:ORes->Prop}:LP (some s) K↔K (.val' .undef s):=by simp [LP]
theorem aDd {r:ORes} {K:ORes->Prop}:qP (some r) K↔K r:=by simp [qP]
@[congr] theorem aLq {o o':Option AV} {K:ORes->Prop} (h:o=o'):mD o K=mD o' K:=by rw [h]
@[congr] theorem aLr {o o':Option Sto} {K:ORes->Prop} (h:o=o'):LP o K=LP o' K:=by rw [h]
@[congr] theorem aLs {o o':Option ORes} {K:ORes->Prop} (h:o=o'):qP o K=qP o' K:=by rw [h]
section
variable (P:Program) (O:bM)
def W (c:Code) (e:Env) (Q:Ex->Env->Prop):Prop:=∃ n ex e',aZ P (aO P O n) n c e=some (ex,e')/\Q ex e'
def Wo (ops rest:List Oper) (e:Env) (Q:Ex->Env->Prop):Prop:=∃ n ex e',gD P (aO P O n) ops rest e=some (ex,e')/\Q ex e'
def dW (call:bJ) (op:Op) (e:Env):Option ORes:=gF P call {dst:=none,op:=op,type:=0,pos:= "",after:=#[],guard:=none} e
def dI (op:Op) (e:Env) (K:ORes->Prop):Prop:=∃ n r,dW P (aO P O n) op e=some r/\K r
def Wcall (fv:AV) (args:List AV) (s:Sto) (K:CRes->Prop):Prop:=∃ n res rr,aO P O n fv args s .no=some (res,rr)/\K res
variable {P O}
theorem W.mono {c:Code} {e:Env} {Q Q':Ex->Env->Prop} (h:W P O c e Q) (hQ:∀ ex e',Q ex e'->Q' ex e'):W P O c e Q':=by
 obtain ⟨n,ex,e',h1,h2⟩:=h;exact ⟨n,ex,e',h1,hQ _ _ h2⟩
@[congr] theorem aOp {c:Code} {e e':Env} {Q:Ex->Env->Prop} (h:e=e'):W P O c e Q=W P O c e' Q:=by rw [h]
@[congr] theorem aNx {ops rest:List Oper} {e e':Env} {Q:Ex->Env->Prop} (h:e=e'):Wo P O ops rest e Q=Wo P O ops rest e' Q:=by rw [h]
@[congr] theorem aLt {op:Op} {e e':Env} {K:ORes->Prop} (h:e=e'):dI P O op e K=dI P O op e' K:=by rw [h]
@[congr] theorem aIu {fv fv':AV} {args args':List AV} {s s':Sto} {K:CRes->Prop} (h:fv=fv') (h':args=args') (h'':s=s'):Wcall P O fv args s K=Wcall P O fv' args' s' K:=by rw [h,h',h'']
theorem mW {n m:Nat} (h:n<=m) {c:Code} {e:Env} {x:Ex × Env} (hx:aZ P (aO P O n) n c e=some x):aZ P (aO P O m) m c e=some x:=pR (fS n m h) h c e x hx
def aKp (P:Program) (O:bM) (b:Code) (Q:Ex->Env->Prop):Ex->Env->Prop
 | .normal,e=>W P O b e Q
 | ex,e=>Q ex e
theorem aNy {a b:Code} {e:Env} {Q:Ex->Env->Prop}:W P O (.seq a b) e Q↔W P O a e (aKp P O b Q):=by
 constructor
 ·rintro ⟨n,ex,e',h,hQ⟩
  simp only [aZ]at h
  cases ha:aZ P (aO P O n) n a e with
  | none=>rw [ha]at h;cases h
  | some y=>
    obtain ⟨ex1,e1⟩:=y
    rw [ha]at h
    refine ⟨n,ex1,e1,ha,?_⟩
    cases ex1 with
    | normal=>exact ⟨n,ex,e',h,hQ⟩
    | _=>simp at h;obtain ⟨rfl,rfl⟩:=h;exact hQ
 ·rintro ⟨n,ex,e',h,hQ⟩
  cases ex with
  | normal=>
    obtain ⟨m,ex2,e2,h2,hQ2⟩:=hQ
    refine ⟨max n m,ex2,e2,?_,hQ2⟩
    simp only [aZ,mW (Nat.le_max_left n m) h,mW (Nat.le_max_right n m) h2]
  | _=>exact ⟨n,_,e',by simp only [aZ,h],hQ⟩
def eV (id:Nat) (Q:Ex->Env->Prop):Ex->Env->Prop
 | .exit i,e=>bif Nat.beq i id then Q .normal e else Q (.exit i) e
 | ex,e=>Q ex e
theorem aHs {id:Nat} {c:Code} {e:Env} {Q:Ex->Env->Prop}:W P O (.block id c) e Q↔W P O c e (eV id Q):=by
 constructor
 ·rintro ⟨n,ex,e',h,hQ⟩
  simp only [aZ]at h
  cases ha:aZ P (aO P O n) n c e with
  | none=>rw [ha]at h;cases h
  | some y=>
    obtain ⟨ex1,e1⟩:=y
    rw [ha]at h
    refine ⟨n,ex1,e1,ha,?_⟩
    cases ex1 with
    | exit i=>
      simp only [eV]at h ⊢
      cases hb:Nat.beq i id<;>rw [hb]at h<;>simp at h<;>obtain ⟨rfl,rfl⟩:=h<;>exact hQ
    | _=>simp at h;obtain ⟨rfl,rfl⟩:=h;exact hQ
 ·rintro ⟨n,ex,e',h,hQ⟩
  cases ex with
  | exit i=>
    simp only [eV]at hQ
    cases hb:Nat.beq i id<;>rw [hb]at hQ
    ·exact ⟨n,_,e',by simp only [aZ,h,hb,cond_false],hQ⟩
    ·exact ⟨n,_,e',by simp only [aZ,h,hb,cond_true],hQ⟩
  | _=>exact ⟨n,_,e',by simp only [aZ,h],hQ⟩
theorem DT {id:Nat} {Q:Ex->Env->Prop} {e:Env}:eV id Q .normal e=Q .normal e:=rfl
theorem LR {id:Nat} {Q:Ex->Env->Prop} {e:Env}:eV id Q (.exit id) e=Q .normal e:=by simp [eV]
theorem WK {id i:Nat} {Q:Ex->Env->Prop} {e:Env} (h:i≠id):eV id Q (.exit i) e=Q (.exit i) e:=by
 simp only [eV]
 have:Nat.beq i id=false:=by
  cases hb:Nat.beq i id with
  | false=>rfl
  | true=>exact absurd (Nat.eq_of_beq_eq_true hb) h
 rw [this];rfl
theorem PY {id:Nat} {Q:Ex->Env->Prop} {e:Env}:eV id Q .ret e=Q .ret e:=rfl
theorem IF {id:Nat} {Q:Ex->Env->Prop} {e:Env} {v:AV}:eV id Q (.panic v) e=Q (.panic v) e:=rfl
def aDe (P:Program) (O:bM) (v:AV) (x y:Code) (e:Env) (Q:Ex->Env->Prop):Prop:=(v=.bool true/\W P O x e Q)∨(v=.bool false/\W P O y e Q)
@[congr] theorem aIv {v v':AV} {x y:Code} {e:Env} {Q:Ex->Env->Prop} (h:v=v'):aDe P O v x y e Q=aDe P O v' x y e Q:=by rw [h]
theorem aKq {c:Operand} {x y:Code} {e:Env} {Q:Ex->Env->Prop}:W P O (.cond c x y) e Q↔aDe P O (e.eval c) x y e Q:=by
 constructor
 ·rintro ⟨n,ex,e',h,hQ⟩
  simp only [aZ]at h
  split at h
  ·rename_i hc;exact .inl ⟨hc,n,ex,e',h,hQ⟩
  ·rename_i hc;exact .inr ⟨hc,n,ex,e',h,hQ⟩
  ·cases h
 ·rintro (⟨hc,n,ex,e',h,hQ⟩ | ⟨hc,n,ex,e',h,hQ⟩)
  ·exact ⟨n,ex,e',by simp only [aZ,hc,h],hQ⟩
  ·exact ⟨n,ex,e',by simp only [aZ,hc,h],hQ⟩
theorem aKr {e:Env} {Q:Ex->Env->Prop}:W P O .skip e Q↔Q .normal e:=⟨fun ⟨n,ex,e',h,hQ⟩=>by simp [aZ]at h;obtain ⟨rfl,rfl⟩:=h;exact hQ,fun h=>⟨0,_,_,rfl,h⟩⟩
theorem aHt {l:Nat} {e:Env} {Q:Ex->Env->Prop}:W P O (.label l) e Q↔Q .normal e:=⟨fun ⟨n,ex,e',h,hQ⟩=>by simp [aZ]at h;obtain ⟨rfl,rfl⟩:=h;exact hQ,fun h=>⟨0,_,_,rfl,h⟩⟩
theorem aKs {i:Nat} {e:Env} {Q:Ex->Env->Prop}:W P O (.exit i) e Q↔Q (.exit i) e:=⟨fun ⟨n,ex,e',h,hQ⟩=>by simp [aZ]at h;obtain ⟨rfl,rfl⟩:=h;exact hQ,fun h=>⟨0,_,_,rfl,h⟩⟩
theorem aNz {e:Env} {Q:Ex->Env->Prop}:W P O .ret e Q↔Q .ret e:=⟨fun ⟨n,ex,e',h,hQ⟩=>by simp [aZ]at h;obtain ⟨rfl,rfl⟩:=h;exact hQ,fun h=>⟨0,_,_,rfl,h⟩⟩
theorem LS {f:Env->Option (Ex × Env)} (hf:∀ e l e',f e≠some (.goto l,e')):∀ (n:Nat) (e:Env) (l:Nat) (e':Env),loopGo f n e≠some (.goto l,e'):=by
 intro n
 induction n with
 | zero=>intro e l e' h;cases h
 | succ n ih=>
   intro e l e' h
   simp only [loopGo]at h
   split at h
   ·exact ih _ _ _ h
   ·exact hf _ _ _ h
theorem WM {call:bJ} {ops:List Oper}:∀ (rest:List Oper) (e:Env) (l:Nat) (e':Env),gD P call ops rest e≠some (.goto l,e'):=by
 intro rest
 induction rest with
 | nil=>intro e l e' h;cases h
 | cons o rest ih=>
   intro e l e' h
   simp only [gD]at h
   split at h
   ·cases h
   ·split at h
    ·exact ih _ _ _ h
    ·cases h
   ·split at h
    ·cases h
    ·split at h<;>first | exact ih _ _ _ h | cases h
    ·split at h<;>first | exact ih _ _ _ h | cases h
    ·cases h
    ·split at h<;>first | exact ih _ _ _ h | cases h
    ·split at h
     ·split at h<;>first | exact ih _ _ _ h | cases h
     ·split at h<;>first | exact ih _ _ _ h | cases h
     ·cases h
theorem PZ {call:bJ} {n:Nat}:∀ (c:Code) (e:Env) (l:Nat) (e':Env),aZ P call n c e≠some (.goto l,e'):=by
 intro c
 induction c with
 | region id ops draw=>
   intro e l e' h
   cases draw with
   | false=>exact WM _ _ _ _ h
   | true=>
     simp only [aZ,nE,cond_true,wY]at h
     split at h
     ·cases h
     ·rename_i m f p htr
      cases hcond:(P.follows .mixedOrders&&mL ops.toList&&fD (cA ops.toList) (dC m)&&sC (cA ops.toList) (jS m) (dC m)&&gE m f.s.n&&iI m&&eL P call f.s.n e.s.n (cA ops.toList) m f.s) with
      | false=>rw [hcond]at h;cases h
      | true=>
        rw [hcond]at h
        simp only [cond_true]at h
        split at h
        ·cases h
        ·cases hl:jA (cA ops.toList) (m.length-1) ops.toList 0<;>rw [hl]at h<;>cases h
 | seq a b iha ihb=>
   intro e l e' h
   simp only [aZ]at h
   split at h
   ·exact ihb _ _ _ h
   ·exact iha _ _ _ h
 | cond q a b iha ihb=>
   intro e l e' h
   simp only [aZ]at h
   split at h
   ·exact iha _ _ _ h
   ·exact ihb _ _ _ h
   ·cases h
 | block id a iha=>
   intro e l e' h
   simp only [aZ]at h
   split at h
   ·simp only [Bool.cond_eq_ite]at h
    split at h<;>cases h
   ·exact iha _ _ _ h
 | loop a iha=>intro e l e' h;exact LS iha _ _ _ _ h
 | scope a iha=>
   intro e l e' h
   simp only [aZ]at h
   split at h
   ·cases h
   ·exact iha _ _ _ h
 | rangeFunc f ps a b=>
   intro e l e' h
   simp only [aZ,uR]at h
   split at h
   ·cases h
   ·try simp only at h
    split at h
    ·simp only [cO]at h
     split at h
     ·split at h
      ·cases h
      ·try simp only at h
       split at h<;>cases h
     ·cases h
    ·cases h
    ·cases h
 | _=>intro e l e' h;cases h
theorem aHu {c:Code} {e:Env} {Q:Ex->Env->Prop}:W P O (.scope c) e Q↔W P O c e Q:=by
 constructor
 ·rintro ⟨n,ex,e',h,hQ⟩
  simp only [aZ]at h
  split at h
  ·cases h
  ·exact ⟨n,ex,e',h,hQ⟩
 ·rintro ⟨n,ex,e',h,hQ⟩
  refine ⟨n,ex,e',?_,hQ⟩
  simp only [aZ,h]
  split
  ·rename_i h1;simp at h1;obtain ⟨rfl,_⟩:=h1;exact absurd h (PZ _ _ _ _)
  ·rfl
theorem aKt {α:Type} (I:α->Env->Prop) (m:α->Nat) (a:α) {c:Code} {e:Env} {Q:Ex->Env->Prop} (h0:I a e)
 (hs:∀ a e,I a e->W P O c e fun ex e'=>match ex with | .normal=>∃ a',m a'<m a/\I a' e' | ex=>Q ex e'):W P O (.loop c) e Q:=by
 generalize hk:m a=k
 induction k using Nat.strongRecOn generalizing a e with
 | _ k ih=>
   obtain ⟨n,ex,e',h,hQ⟩:=hs a e h0
   have key:∀ ex,ex≠.normal->aZ P (aO P O n) n c e=some (ex,e')->Q ex e'->W P O (.loop c) e Q:=by
    intro ex hne h hQ
    refine ⟨n+1,ex,e',?_,hQ⟩
    simp only [aZ,loopGo]
    rw [mW (Nat.le_succ n) h]
    cases ex<;>first | rfl | exact absurd rfl hne
   cases ex with
   | normal=>
     obtain ⟨a',hlt,hI⟩:=hQ
     obtain ⟨n2,ex2,e2,h2,hQ2⟩:=ih (m a') (by omega) a' hI rfl
     refine ⟨max n n2+1,ex2,e2,?_,hQ2⟩
     simp only [aZ,loopGo]
     rw [mW (by omega) h]
     simp only [aZ]at h2
     exact zE (fun e x hx=>mW (by omega) hx) _ _ _ _ (by omega) h2
   | _=>exact key _ (by simp) h hQ
theorem aDf {i:Nat} {l:List Oper} {e:Env} {Q:Ex->Env->Prop}:W P O (.region i l.toArray false) e Q↔Wo P O l l e Q:=by
 simp only [W,Wo,aZ,nE,cond_false]
def dS (P:Program) (O:bM) (ops:List Oper) (dst:Option Tmp) (rest:List Oper) (e:Env) (Q:Ex->Env->Prop):ORes->Prop
 | .val v=>∃ e',e.put dst v=some e'/\Wo P O ops rest e' Q
 | .val' v s=>∃ e',(e.setS s).put dst v=some e'/\Wo P O ops rest e' Q
 | .pan v s=>Q (.panic v) {e with s:=s}
 | .defer d=>∃ e',(e.setDs (d::e.ds)).put dst .undef=some e'/\Wo P O ops rest e' Q
 | .recov=>match e.ro,e.r with
   | none,.pan v=>∃ e',(e.setR (.recd v)).put dst v=some e'/\Wo P O ops rest e' Q
   | none,_=>∃ e',e.put dst .nili=some e'/\Wo P O ops rest e' Q
   | some _,_=>False
@[congr] theorem aKu {ops:List Oper} {dst:Option Tmp} {rest:List Oper} {e:Env} {Q:Ex->Env->Prop} {r r':ORes} (h':r=r'):dS P O ops dst rest e Q r=dS P O ops dst rest e Q r':=by rw [h']
@[congr] theorem aKv {b:Code} {Q:Ex->Env->Prop} {x x':Ex} {e e':Env} (h:x=x') (h':e=e'):aKp P O b Q x e=aKp P O b Q x' e':=by rw [h,h']
@[congr] theorem aHv {i:Nat} {Q:Ex->Env->Prop} {x x':Ex} {e e':Env} (h:x=x') (h':e=e'):eV i Q x e=eV i Q x' e':=by rw [h,h']
theorem aKw {ops:List Oper} {e:Env} {Q:Ex->Env->Prop}:Wo P O ops [] e Q↔Q .normal e:=⟨fun ⟨n,ex,e',h,hQ⟩=>by simp [gD]at h;obtain ⟨rfl,rfl⟩:=h;exact hQ,fun h=>⟨0,_,_,rfl,h⟩⟩
theorem aDg {ops:List Oper} {o:Oper} {rest:List Oper} {e:Env} {Q:Ex->Env->Prop} (hw:cI ops o e=some true):Wo P O ops (o::rest) e Q↔dI P O o.op e (dS P O ops o.dst rest e Q):=by
 have hle:∀ {n m:Nat},n<=m->∀ {l:List Oper} {e:Env} {x:Ex × Env},gD P (aO P O n) ops l e=some x->gD P (aO P O m) ops l e=some x:=fun h _ _ _ hx=>FA (fS _ _ h) _ _ _ hx
 have hop:∀ {n m:Nat},n<=m->∀ {r:ORes},gF P (aO P O n) o e=some r->gF P (aO P O m) o e=some r:=fun h _ hx=>iR (fS _ _ h) hx
 constructor
 ·rintro ⟨n,ex,e',h,hQ⟩
  simp only [gD,hw]at h
  cases hd:gF P (aO P O n) o e with
  | none=>rw [hd]at h;cases h
  | some r=>
    rw [hd]at h
    refine ⟨n,r,hd,?_⟩
    cases r with
    | val v=>simp only at h;split at h<;>first | exact ⟨_,by assumption,n,ex,e',h,hQ⟩ | cases h
    | val' v s=>simp only at h;split at h<;>first | exact ⟨_,by assumption,n,ex,e',h,hQ⟩ | cases h
    | pan v s=>simp at h;obtain ⟨rfl,rfl⟩:=h;exact hQ
    | defer q=>simp only at h;split at h<;>first | exact ⟨_,by assumption,n,ex,e',h,hQ⟩ | cases h
    | recov=>
      simp only at h
      simp only [dS]
      split at h
      ·rename_i h1 h2;simp only [h1,h2]
       split at h<;>first | exact ⟨_,by assumption,n,ex,e',h,hQ⟩ | cases h
      ·rename_i h1 h2
       have:∃ e',e.put o.dst .nili=some e'/\Wo P O ops rest e' Q:=by
        split at h<;>first | exact ⟨_,by assumption,n,ex,e',h,hQ⟩ | cases h
       rw [h1]
       cases hr:e.r with
       | pan v=>exact absurd hr (h2 v)
       | _=>exact this
      ·cases h
 ·rintro ⟨n,r,hd,hK⟩
  have hd':gF P (aO P O n) o e=some r:=hd
  have key:∀ {m:Nat} {ex:Ex} {e1 e':Env},gD P (aO P O m) ops rest e1=some (ex,e')->Q ex e'->(∀ k,max n m=k->gF P (aO P O k) o e=some r->gD P (aO P O k) ops rest e1=some (ex,e')->gD P (aO P O k) ops (o::rest) e=some (ex,e'))->Wo P O ops (o::rest) e Q:=
   fun h1 h2 h3=>⟨_,_,_,h3 _ rfl (hop (Nat.le_max_left _ _) hd') (hle (Nat.le_max_right _ _) h1),h2⟩
  cases r with
  | val v=>obtain ⟨e1,hp,m,ex,e',h1,h2⟩:=hK;exact key h1 h2 fun k _ g1 g2=>by simp only [gD,hw,g1,hp,g2]
  | val' v s=>obtain ⟨e1,hp,m,ex,e',h1,h2⟩:=hK;exact key h1 h2 fun k _ g1 g2=>by simp only [gD,hw,g1,hp,g2]
  | pan v s=>exact ⟨n,_,_,by simp only [gD,hw,hd'],hK⟩
  | defer q=>obtain ⟨e1,hp,m,ex,e',h1,h2⟩:=hK;exact key h1 h2 fun k _ g1 g2=>by simp only [gD,hw,g1,hp,g2]
  | recov=>
    simp only [dS]at hK
    split at hK
    ·rename_i q1 q2
     obtain ⟨e1,hp,m,ex,e',h1,h2⟩:=hK;exact key h1 h2 fun k _ g1 g2=>by simp only [gD,hw,g1,q1,q2,hp,g2]
    ·rename_i q1 q2
     obtain ⟨e1,hp,m,ex,e',h1,h2⟩:=hK
     refine key h1 h2 fun k _ g1 g2=>?_
     simp only [gD,hw,g1,q1]
     cases hr:e.r with
     | pan v=>exact absurd hr (q2 v)
     | _=>simp only [hp,g2]
    ·exact hK.elim
theorem IG {ops:List Oper} {o:Oper} {rest:List Oper} {e:Env} {Q:Ex->Env->Prop} (hw:cI ops o e=some false):Wo P O ops (o::rest) e Q↔∃ e',e.put o.dst .undef=some e'/\Wo P O ops rest e' Q:=by
 constructor
 ·rintro ⟨n,ex,e',h,hQ⟩
  simp only [gD,hw]at h
  split at h
  ·rename_i hp;exact ⟨_,hp,n,ex,e',h,hQ⟩
  ·cases h
 ·rintro ⟨e1,hp,n,ex,e',h,hQ⟩
  exact ⟨n,ex,e',by simp only [gD,hw,hp,h],hQ⟩
theorem aHw {ops:List Oper} {dst:Option Tmp} {op:Op} {ty:TypeId} {pos:String} {after:Array Edge} {rest:List Oper} {e:Env} {Q:Ex->Env->Prop}:
 Wo P O ops ({dst:=dst,op:=op,type:=ty,pos:=pos,after:=after,guard:=none}::rest) e Q↔dI P O op e (dS P O ops dst rest e Q):=aDg rfl
def guardK (P:Program) (O:bM) (v:AV) (want:Bool) (op:Op) (ops:List Oper) (dst:Option Tmp) (rest:List Oper) (e:Env) (Q:Ex->Env->Prop):Prop:=match v with
 | .bool b=>(b=want->dI P O op e (dS P O ops dst rest e Q))/\(b = !want->dS P O ops dst rest e Q (.val .undef))
 | .tuple _=>dS P O ops dst rest e Q (.val .undef)
 | _=>False
section
variable {want:Bool} {op:Op} {ops:List Oper} {dst:Option Tmp} {rest:List Oper} {e:Env} {Q:Ex->Env->Prop}
@[congr] theorem aHx {v v':AV} (h:v=v'):guardK P O v want op ops dst rest e Q=guardK P O v' want op ops dst rest e Q:=by rw [h]
theorem WN:guardK P O (.bool true) true op ops dst rest e Q↔dI P O op e (dS P O ops dst rest e Q):=by simp [guardK]
theorem WO:guardK P O (.bool true) false op ops dst rest e Q↔dS P O ops dst rest e Q (.val .undef):=by simp [guardK]
theorem WP:guardK P O (.bool false) true op ops dst rest e Q↔dS P O ops dst rest e Q (.val .undef):=by simp [guardK]
theorem WQ:guardK P O (.bool false) false op ops dst rest e Q↔dI P O op e (dS P O ops dst rest e Q):=by simp [guardK]
theorem WR {b:Bool}:guardK P O (.bool b) true op ops dst rest e Q↔(b=true->dI P O op e (dS P O ops dst rest e Q))/\(b=false->dS P O ops dst rest e Q (.val .undef)):=.rfl
theorem WS {b:Bool}:guardK P O (.bool b) false op ops dst rest e Q↔(b=false->dI P O op e (dS P O ops dst rest e Q))/\(b=true->dS P O ops dst rest e Q (.val .undef)):=.rfl
theorem IH {l:List AV}:guardK P O (.tuple l) want op ops dst rest e Q↔dS P O ops dst rest e Q (.val .undef):=.rfl
end
def DU:List Oper->Nat->Option Nat
 | [],_=>none
 | o::_,0=>o.dst
 | _::l,n+1=>DU l n
theorem II:∀ (ops:List Oper) (j:Nat),DU ops j=ops[j]?.bind (·.dst)
 | [],_=>rfl
 | o::_,0=>rfl
 | _::l,n+1=>by simp only [DU,List.getElem?_cons_succ];exact II l n
def WT (t:Tr AV):Option Nat->AV
 | some d=>t.val d
 | none=>.tuple []
theorem aDh {ops:List Oper} {dst:Option Tmp} {op:Op} {ty:TypeId} {pos:String} {after:Array Edge} {j:Nat} {want:Bool} {rest:List Oper} {e:Env} {Q:Ex->Env->Prop}:
 Wo P O ops ({dst:=dst,op:=op,type:=ty,pos:=pos,after:=after,guard:=some (j,want)}::rest) e Q↔
  guardK P O (WT e.t (DU ops j)) want op ops dst rest e Q:=by
 rw [II]
 cases hd:ops[j]?.bind (·.dst) with
 | none=>
   have haw:cI ops {dst:=dst,op:=op,type:=ty,pos:=pos,after:=after,guard:=some (j,want)} e=some false:=by
    simp only [cI]
    cases hj:ops[j]? with
    | none=>rfl
    | some g=>rw [hj]at hd;simp only [Option.bind_some]at hd;simp only [hd]
   rw [IG haw];rfl
 | some d=>
 show _↔guardK P O (e.t.val d) want op ops dst rest e Q
 have haw:cI ops {dst:=dst,op:=op,type:=ty,pos:=pos,after:=after,guard:=some (j,want)} e=match e.t.get d with | some (.bool b)=>some (b==want) | some (.tuple _)=>some false | _=>none:=by
  simp only [cI]
  cases hj:ops[j]? with
  | none=>rw [hj]at hd;cases hd
  | some g=>rw [hj]at hd;simp only [Option.bind_some]at hd;simp only [hd];cases e.t.get d with | none=>rfl | some v=>cases v<;>rfl
 cases ht:e.t.get d with
 | none=>
   have hv:e.t.val d=.top:=by simp [Tr.val,ht]
   rw [hv]
   rw [ht]at haw
   refine ⟨fun ⟨n,ex,e',h,hQ⟩=>?_,fun h=>h.elim⟩
   simp only [gD,haw]at h
   cases h
 | some v=>
   have hv:e.t.val d=v:=by simp [Tr.val,ht]
   rw [hv]
   rw [ht]at haw
   clear hv ht
   cases v with
   | bool b=>
     simp only at haw
     cases hb:(b==want) with
     | true=>
       rw [hb]at haw
       have:b=want:=by simpa using hb
       subst this
       rw [aDg haw]
       simp [guardK]
     | false=>
       rw [hb]at haw
       rw [IG haw]
       have:b≠want:=by simpa using hb
       have h2:b = !want:=by cases b<;>cases want<;>simp_all
       simp [guardK,this,h2]
       rfl
   | tuple l=>rw [IG haw];rfl
   | _=>exact ⟨fun ⟨n,ex,e',h,hQ⟩=>by (simp only [gD,haw]at h;cases h),fun h=>h.elim⟩
theorem wD {nt:Nat} {ro:Option Nat} {fn:FuncId} {t:Tr AV} {ds:List ADef} {s:Sto} {r:ARec} {d:Nat} {v:AV} {R:Env->Prop} (h:d<nt):
 (∃ e',(Env.mk nt ro fn t ds s r).put (some d) v=some e'/\R e')↔R ⟨nt,ro,fn,t.set d v,ds,s,r⟩:=by
 have:(Env.mk nt ro fn t ds s r).put (some d) v=some ⟨nt,ro,fn,t.set d v,ds,s,r⟩:=by
  simp only [Env.put]
  have:Nat.blt d nt=true:=by simpa using h
  rw [this];rfl
 rw [this];simp
theorem wE {e:Env} {v:AV} {R:Env->Prop}:(∃ e',e.put none v=some e'/\R e')↔R e:=by simp [Env.put]
variable {nt:Nat} {ro:Option Nat} {fn:FuncId} {t:Tr AV} {ds:List ADef} {s:Sto} {r:ARec} {ops rest:List Oper} {Q:Ex->Env->Prop}
theorem aDi {d:Nat} {v:AV} (h:d<nt):dS P O ops (some d) rest ⟨nt,ro,fn,t,ds,s,r⟩ Q (.val v)↔Wo P O ops rest ⟨nt,ro,fn,t.set d v,ds,s,r⟩ Q:=wD h
theorem WU {e:Env} {v:AV}:dS P O ops none rest e Q (.val v)↔Wo P O ops rest e Q:=wE
theorem WV {d:Nat} {v:AV} {s':Sto} (h:d<nt):dS P O ops (some d) rest ⟨nt,ro,fn,t,ds,s,r⟩ Q (.val' v s')↔Wo P O ops rest ⟨nt,ro,fn,t.set d v,ds,s',r⟩ Q:=wD h
theorem QA {v:AV} {s':Sto}:dS P O ops none rest ⟨nt,ro,fn,t,ds,s,r⟩ Q (.val' v s')↔Wo P O ops rest ⟨nt,ro,fn,t,ds,s',r⟩ Q:=wE
theorem aDj {dst:Option Tmp} {v:AV} {s':Sto}:dS P O ops dst rest ⟨nt,ro,fn,t,ds,s,r⟩ Q (.pan v s')↔Q (.panic v) ⟨nt,ro,fn,t,ds,s',r⟩:=.rfl
theorem nP {op:Op} {e:Env} {K:ORes->Prop} {r:Option ORes} (h:∀ call,dW P call op e=r):dI P O op e K↔qP r K:=by
 constructor
 ·rintro ⟨n,x,h1,h2⟩;exact ⟨x,by rw [<-h1,h],h2⟩
 ·rintro ⟨x,h1,h2⟩;exact ⟨0,x,by rw [h,h1],h2⟩
theorem eE {op:Op} {e:Env} {K:ORes->Prop} {x:Option AV} (h:∀ call,dW P call op e=valO x):dI P O op e K↔mD (x) K:=by
 rw [nP h]
 cases x<;>simp [valO,mD,qP]
theorem FB {op:Op} {e:Env} {K:ORes->Prop} {x:Option Sto} (h:∀ call,dW P call op e=skipO x):dI P O op e K↔LP (x) K:=by
 rw [nP h]
 cases x<;>simp [skipO,LP,qP]
variable {e:Env} {K:ORes->Prop}
theorem aDk {x:Operand}:dI P O (.move x) e K↔K (.val (e.eval x)):=by rw [nP (r:=some (.val (e.eval x))) fun _=>rfl];simp [qP]
theorem QB {x:Operand}:dI P O (.assign x) e K↔K (.val (e.eval x)):=by rw [nP (r:=some (.val (e.eval x))) fun _=>rfl];simp [qP]
def TB (c a b:AV):Option AV:=match c with
 | .bool true=>some a
 | .bool false=>some b
 | _=>none
theorem aDl {c a b:Operand}:dI P O (.pick c a b) e K↔mD (TB (e.eval c) (e.eval a) (e.eval b)) K:=by
 refine eE fun call=>?_
 show dW P call (.pick c a b) e=_
 simp only [dW,gF]
 cases h:e.eval c with
 | bool b=>cases b<;>rfl
 | _=>rfl
theorem WW {op:BinOp} {ty uy:TypeId} {x y:Operand}:dI P O (.binOp op ty x y uy) e K↔mD (abin P op ty x y (e.eval x) (e.eval y)) K:=eE fun _=>rfl
theorem aDm {op:UnOp} {ty:TypeId} {x:Operand}:dI P O (.unOp op ty x) e K↔mD (aun op (e.eval x)) K:=eE fun _=>rfl
theorem aDn {ty:TypeId} {a:Operand}:dI P O (.load ty a) e K↔mD (eH P e.s ty (e.eval a)) K:=eE fun _=>rfl
theorem WX {ty:TypeId} {a x:Operand}:dI P O (.store ty a x) e K↔LP (kU P e.s ty (e.eval a) (e.eval x)) K:=FB fun _=>rfl
theorem WY {ty:TypeId} {x:Operand} {lo hi mx:Option Operand}:dI P O (.slice ty x lo hi mx) e K↔mD (eY P ty (e.eval x) (lo.map e.eval) (hi.map e.eval) (mx.map e.eval)) K:=eE fun _=>rfl
theorem DV {ty:TypeId} {x:Operand} {f:Nat}:dI P O (.fieldAddr ty x f) e K↔mD (bN P ty (e.eval x) f) K:=eE fun _=>rfl
theorem WZ {ty:TypeId} {x:Operand} {f:Nat}:dI P O (.field ty x f) e K↔mD (nT P ty (e.eval x) f) K:=eE fun _=>rfl
theorem DW {ty:TypeId} {x i:Operand}:dI P O (.indexAddr ty x i) e K↔mD (bO P ty (e.eval x) (e.eval i)) K:=eE fun _=>rfl
theorem XA {ty:TypeId} {x i:Operand}:dI P O (.index ty x i) e K↔mD (mJ P ty (e.eval x) (e.eval i)) K:=eE fun _=>rfl
theorem QC {ty:TypeId} {m k:Operand} {ok:Bool}:dI P O (.lookup ty m k ok) e K↔mD (alookup P e.s ty (e.eval m) (e.eval k) ok) K:=eE fun _=>rfl
theorem DX {ty:TypeId} {m k x:Operand}:dI P O (.mapUpdate ty m k x) e K↔LP (dT P e.s ty (e.eval m) (e.eval k) (e.eval x)) K:=FB fun _=>rfl
theorem XB {ty:TypeId} {parts:Array (Nat × Operand)}:dI P O (.build ty parts) e K↔mD (nS P ty (parts.toList.map fun p=>(p.1,e.eval p.2))) K:=eE fun _=>rfl
theorem LU {src dst:TypeId} {x:Operand}:dI P O (.convert src dst x) e K↔qP (iH P e.s src dst (e.eval x)) K:=nP fun _=>rfl
def sX:AV->Option AV
 | .ptr i g o=>some (.ptr i g o)
 | .pf v=>some (.pf v)
 | .func (.func f) a c=>some (.func (.func f) a c)
 | .iface t v=>some (.iface t v)
 | _=>none
theorem IJ {x:Operand}:dI P O (.nilCheck x) e K↔mD (sX (e.eval x)) K:=by
 refine eE fun call=>?_
 show dW P call (.nilCheck x) e=_
 simp only [dW,gF]
 cases h:e.eval x with
 | func f a c=>cases f<;>rfl
 | _=>rfl
theorem IK {f:FuncId} {first cap:Array Operand}:dI P O (.makeFunc (.func f) first cap) e K↔K (.val (.func (.func f) (first.toList.map e.eval) (cap.toList.map e.eval))):=by
 rw [nP (r:=some (.val (.func (.func f) (first.toList.map e.eval) (cap.toList.map e.eval)))) fun _=>rfl];simp [qP]
theorem LV {x:Operand} {i:Nat}:dI P O (.extract x i) e K↔mD ((match e.eval x with | .tuple vs=>vs[i]? | _=>none)) K:=by
 refine eE fun call=>?_
 show dW P call (.extract x i) e=_
 simp only [dW,gF]
 cases h:e.eval x<;>rfl
theorem LW {b:Builtin} {args:Array Operand} {ts:Array TypeId}:dI P O (.call {callee:=.builtin b,args:=args,argTypes:=ts}) e K↔qP (aV P e.s b ts (args.toList.map e.eval)) K:=nP fun _=>rfl
def ob (cs:List AV):AObj:=.cells 0 cs.length (Tr.leaf.lay 0 cs)
theorem mX {s:Sto} {cs:List AV}:mP s cs=if cs.all AV.isCell=true then some (s.n,s.push (ob cs)) else none:=by
 unfold mP
 cases cs.all AV.isCell<;>rfl
def AV.isTop:AV->Bool
 | .top=>true
 | _=>false
def aK (b:Bool) (A:Prop):Prop:=b=true/\A
theorem aHy {A:Prop}:aK true A↔A:=by simp [aK]
@[congr] theorem aOa {b b':Bool} {A:Prop} (h:b=b'):aK b A=aK b' A:=by rw [h]
def wF (v:AV) (s:Sto) (K:ORes->Prop):Prop:=v.isTop=false/\v.cells.all AV.isCell=true/\K (.val' (.ptr s.n 0 0) (s.push (ob v.cells)))
@[congr] theorem aKx {v v':AV} {s s':Sto} {K:ORes->Prop} (h:v=v') (h':s=s'):wF v s K=wF v' s' K:=by rw [h,h']
theorem aDo {l:List AV} {s:Sto} {K:ORes->Prop}:wF (.agg l) s K↔aK (l.all AV.isCell) (K (.val' (.ptr s.n 0 0) (s.push (ob l)))):=by simp [wF,AV.isTop,AV.cells,aK]
theorem XC {v:AV} {s:Sto} {K:ORes->Prop} (h:v.isCell=true):wF v s K↔K (.val' (.ptr s.n 0 0) (s.push (ob [v]))):=by
 have h1:v.isTop=false:=by cases v<;>first | rfl | cases h
 have h2:v.cells=[v]:=by cases v<;>first | rfl | cases h
 simp [wF,h1,h2,h]
def iS (z:Option AV) (s:Sto) (K:ORes->Prop):Prop:=∃ v,z=some v/\v.cells.all AV.isCell=true/\K (.val' (.ptr s.n 0 0) (s.push (ob v.cells)))
@[congr] theorem aHz {z z':Option AV} {s s':Sto} {K:ORes->Prop} (h:z=z') (h':s=s'):iS z s K=iS z' s' K:=by rw [h,h']
theorem QD {l:List AV} {s:Sto} {K:ORes->Prop}:iS (some (.agg l)) s K↔aK (l.all AV.isCell) (K (.val' (.ptr s.n 0 0) (s.push (ob l)))):=by simp [iS,AV.cells,aK]
theorem LX {v:AV} {s:Sto} {K:ORes->Prop} (h:v.isCell=true):iS (some v) s K↔K (.val' (.ptr s.n 0 0) (s.push (ob [v]))):=by
 have h2:v.cells=[v]:=by cases v<;>first | rfl | cases h
 simp [iS,h2,h]
theorem FC {ty:TypeId}:dI P O (.alloc ty) e K↔iS (bB P ty) e.s K:=by
 rw [nP (r:=match bB P ty with | some z=>(match mP e.s z.cells with | some (id,s)=>some (.val' (.ptr id 0 0) s) | none=>none) | none=>none) fun _=>rfl]
 cases h:bB P ty with
 | none=>simp [qP,iS]
 | some z=>
   simp only [qP,iS,Option.some.injEq,exists_eq_left',mX]
   by_cases hc:z.cells.all AV.isCell=true<;>simp [hc]
theorem TC {ty:TypeId} {x:Operand}:dI P O (.box ty x) e K↔wF (e.eval x) e.s K:=by
 have:∀ call,dW P call (.box ty x) e=match e.eval x with | .top=>none | v=>(match mP e.s v.cells with | some (id,s)=>some (.val' (.ptr id 0 0) s) | none=>none):=fun _=>rfl
 rw [nP this]
 generalize e.eval x=v
 by_cases hv:v=.top
 ·subst hv;simp [AV.isTop,wF,qP]
 ·have h1:v.isTop=false:=by cases v<;>first | rfl | exact absurd rfl hv
  have:(match v with | .top=>none | v=>(match mP e.s v.cells with | some (id,s)=>some (ORes.val' (.ptr id 0 0) s) | none=>none))=(match mP e.s v.cells with | some (id,s)=>some (ORes.val' (.ptr id 0 0) s) | none=>none):=by
   cases v<;>first | rfl | exact absurd rfl hv
  rw [this,mX]
  by_cases hc:v.cells.all AV.isCell=true<;>simp [hc,wF,qP,h1]
def callK (s:Sto) (K:ORes->Prop):CRes->Prop
 | .ret v none=>K (.val v)
 | .ret v (some s')=>K (.val' v s')
 | .pan v none=>K (.pan v s)
 | .pan v (some s')=>K (.pan v s')
theorem FD {s:Sto} {v:AV}:callK s K (.ret v none)=K (.val v):=rfl
theorem CN {s s':Sto} {v:AV}:callK s K (.ret v (some s'))=K (.val' v s'):=rfl
theorem XD {s:Sto} {v:AV}:callK s K (.pan v none)=K (.pan v s):=rfl
theorem QE {s s':Sto} {v:AV}:callK s K (.pan v (some s'))=K (.pan v s'):=rfl
theorem aDp {f:Operand} {args:Array Operand} {ts:Array TypeId}:dI P O (.call {callee:=.value f,args:=args,argTypes:=ts}) e K↔Wcall P O (e.eval f) (args.toList.map e.eval) e.s (callK e.s K):=by
 have hd:∀ n,dW P (aO P O n) (.call {callee:=.value f,args:=args,argTypes:=ts}) e=fB e.s (aO P O n (e.eval f) (args.toList.map e.eval) e.s .no):=fun _=>rfl
 constructor
 ·rintro ⟨n,r,h1,h2⟩
  rw [hd]at h1
  cases hc:aO P O n (e.eval f) (args.toList.map e.eval) e.s .no with
  | none=>rw [hc]at h1;cases h1
  | some y=>
    obtain ⟨res,rr⟩:=y
    rw [hc]at h1
    refine ⟨n,res,rr,hc,?_⟩
    cases res with
    | ret v so=>cases so<;>simp [fB]at h1<;>subst h1<;>exact h2
    | pan v so=>cases so<;>simp [fB]at h1<;>subst h1<;>exact h2
 ·rintro ⟨n,res,rr,h1,h2⟩
  cases res with
  | ret v so=>cases so with
    | none=>exact ⟨n,_,by rw [hd,h1];rfl,h2⟩
    | some s'=>exact ⟨n,_,by rw [hd,h1];rfl,h2⟩
  | pan v so=>cases so with
    | none=>exact ⟨n,_,by rw [hd,h1];rfl,h2⟩
    | some s'=>exact ⟨n,_,by rw [hd,h1];rfl,h2⟩
def LY (o:Option CRes) (K:CRes->Prop) (R:Prop):Prop:=match o with
 | some r=>K r
 | none=>R
theorem XE {c:CRes} {K:CRes->Prop} {R:Prop}:LY (some c) K R=K c:=rfl
@[congr] theorem aKy {o o':Option CRes} {K:CRes->Prop} {R:Prop} (h:o=o'):LY o K R=LY o' K R:=by rw [h]
def aOb (P:Program) (O:bM) (fv:AV) (args:List AV) (s:Sto) (K:CRes->Prop):Prop:=∃ n res rr,(match gA P s fv args with
    | some (.fn f args)=>nF P (aO P O n) n f args s .no
    | some (.round l args)=>kW P (aO P O n) n l args s
    | none=>none)=some (res,rr)/\K res
theorem jN {g:FuncId} {first cap args:List AV} {s:Sto} {K:CRes->Prop}:
 Wcall P O (.func (.func g) first cap) args s K↔LY (O g (first++args++cap) s) K (aOb P O (.func (.func g) first cap) args s K):=by
 have hg:DJ O (.func (.func g) first cap) args s .no=O g (first++args++cap) s:=rfl
 cases ho:O g (first++args++cap) s with
 | some c=>
   simp only [LY]
   constructor
   ·rintro ⟨n,res,rr,h1,h2⟩
    cases n with
    | zero=>cases h1
    | succ n=>
      simp only [aO,hg,ho]at h1
      simp at h1;obtain ⟨rfl,rfl⟩:=h1;exact h2
   ·intro h
    exact ⟨1,c,.no,by simp only [aO,hg,ho],h⟩
 | none=>
   simp only [LY]
   constructor
   ·rintro ⟨n,res,rr,h1,h2⟩
    cases n with
    | zero=>cases h1
    | succ n=>
      simp only [aO,hg,ho]at h1
      exact ⟨n,res,rr,h1,h2⟩
   ·rintro ⟨n,res,rr,h1,h2⟩
    exact ⟨n+1,res,rr,by simp only [aO,hg,ho];exact h1,h2⟩
end
abbrev mN:=FuncId × (List AV->Sto->Option CRes)
def orcL:List mN->bM
 | [],_,_,_=>none
 | x::L,f,args,s=>bif Nat.beq x.1 f then x.2 args s else orcL L f args s
theorem sY {f:FuncId} {F:List AV->Sto->Option CRes} {L:List mN} {args:List AV} {s:Sto}:orcL ((f,F)::L) f args s=F args s:=by simp [orcL]
theorem TD {f g:FuncId} {F:List AV->Sto->Option CRes} {L:List mN} {args:List AV} {s:Sto} (h:g≠f):orcL ((g,F)::L) f args s=orcL L f args s:=by
 have:Nat.beq g f=false:=by
  cases hb:Nat.beq g f with
  | false=>rfl
  | true=>exact absurd (Nat.eq_of_beq_eq_true hb) h
 simp [orcL,this]
def cC (P:Program) (x:mN):Prop:=∀ args s res,x.2 args s=some res->bU P x.1 args s res
theorem pS {P:Program} {L:List mN} (h:∀ x∈L,cC P x):pT P (orcL L):=by
 intro f args s res ho
 induction L with
 | nil=>cases ho
 | cons x L ih=>
   unfold orcL at ho
   cases hb:Nat.beq x.1 f with
   | true=>
     rw [hb]at ho
     have:=h x (List.mem_cons_self ..) args s res ho
     rw [Nat.eq_of_beq_eq_true hb]at this
     exact this
   | false=>rw [hb]at ho;exact ih (fun x hx=>h x (List.mem_cons_of_mem _ hx)) ho
theorem aG {P:Program}:∀ x∈([]:List mN),cC P x:=fun _ h=>nomatch h
theorem elist_cons {P:Program} {x:mN} {L:List mN} (h:cC P x) (h':∀ x∈L,cC P x):∀ y∈x::L,cC P y:=fun y hy=>by
 rcases List.mem_cons.1 hy with rfl | hy
 ·exact h
 ·exact h' y hy
end
end Go.Abs
