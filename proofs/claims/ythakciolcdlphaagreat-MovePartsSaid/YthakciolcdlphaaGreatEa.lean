/-
  The abstract machine: more fuel, and more that is known of calls, come to the same.
-/
import Derived.Test.YthakciolcdlphaaGreatUx
set_option linter.unusedVariables false
set_option linter.unusedSimpArgs false
namespace Go.Abs
section
variable {P:Program}
def CLe (c d:bL):Prop:=∀ fv args s r x,c fv args s r=some x->d fv args s r=some x
theorem CLe.refl (c:bL):CLe c c:=fun _ _ _ _ _ h=>h
theorem CLe.trans {a b c:bL} (h:CLe a b) (h':CLe b c):CLe a c:=fun _ _ _ _ _ x=>h' _ _ _ _ _ (h _ _ _ _ _ x)
variable {c d:bL}
theorem yL (h:CLe c d) {s:Sto} {fv:AV} {args:List AV} {r:ORes} (hd:eT s (c fv args s .no)=some r):eT s (d fv args s .no)=some r:=by
 cases hc:c fv args s .no with
 | none=>rw [hc]at hd;cases hd
 | some x=>rw [h _ _ _ _ _ hc,<-hc];exact hd
theorem iL (h:CLe c d) {o:Oper} {e:Env} {r:ORes} (hd:gC P c o e=some r):gC P d o e=some r:=by
 unfold gC at hd ⊢
 cases ho:o.op<;>simp only [ho]at hd ⊢<;>first | exact hd | skip
 rename_i cl
 obtain ⟨callee,args,ts⟩:=cl
 cases callee with
 | builtin b=>exact hd
 | value f=>exact yL h hd
 | invoke f n=>exact yL h hd
theorem DV (h:CLe c d) {ops:List Oper}:∀ (rest:List Oper) (e:Env) (x:Ex × Env),gA P c ops rest e=some x->gA P d ops rest e=some x:=by
 intro rest
 induction rest with
 | nil=>intro e x hx;exact hx
 | cons o rest ih=>
   intro e x hx
   simp only [gA]at hx ⊢
   split at hx
   ·cases hx
   ·rename_i hw
    split at hx
    ·exact ih _ _ hx
    ·cases hx
   ·rename_i hw
    cases hd:gC P c o e with
    | none=>rw [hd]at hx;cases hx
    | some r=>
      rw [iL h hd]
      rw [hd]at hx
      cases r with
      | val v=>simp only at hx ⊢;split at hx<;>first | exact ih _ _ hx | cases hx
      | val' v s=>simp only at hx ⊢;split at hx<;>first | exact ih _ _ hx | cases hx
      | pan v s=>exact hx
      | defer q=>simp only at hx ⊢;split at hx<;>first | exact ih _ _ hx | cases hx
      | recov=>
        simp only at hx ⊢
        split at hx
        ·split at hx<;>first | exact ih _ _ hx | cases hx
        ·split at hx<;>first | exact ih _ _ hx | cases hx
        ·cases hx
theorem KC {x:TrE} {y:Option TrR} {z:TrR} (h:nM x y=some z):∃ l f p,y=some (l,f,p)/\z=(x::l,f,p):=by
 cases y with
 | none=>cases h
 | some y=>obtain ⟨l,f,p⟩:=y;simp only [nM,Option.some.injEq]at h;exact ⟨l,f,p,rfl,h.symm⟩
theorem KD (h:CLe c d) {ops:List Oper}:∀ (rest:List Oper) (i:Nat) (e:Env) (x:TrR),zL P c ops rest i e=some x->zL P d ops rest i e=some x:=by
 intro rest
 induction rest with
 | nil=>intro i e x hx;exact hx
 | cons o rest ih=>
   intro i e x hx
   have key:∀ {y:TrE} {e':Env} {z:TrR},nM y (zL P c ops rest (i+1) e')=some z->nM y (zL P d ops rest (i+1) e')=some z:=by
    intro y e' z hz
    obtain ⟨l,f,p,h1,h2⟩:=KC hz
    rw [ih _ _ _ h1,<-hz,h1]
   simp only [zL]at hx ⊢
   split at hx
   ·cases hx
   ·split at hx
    ·exact key hx
    ·cases hx
   ·cases hd:gC P c o e with
    | none=>rw [hd]at hx;cases hx
    | some r=>
      rw [iL h hd]
      rw [hd]at hx
      cases r with
      | val v=>simp only at hx ⊢;split at hx<;>first | exact key hx | cases hx
      | val' v s=>simp only at hx ⊢;split at hx<;>first | exact key hx | cases hx
      | pan v s=>exact hx
      | defer q=>cases hx
      | recov=>cases hx
theorem BQ (h:CLe c d) {v:AV} {o:Oper} {e:Env} (hv:isVal v (gC P c o e)=true):isVal v (gC P d o e)=true:=by
 cases hd:gC P c o e with
 | none=>rw [hd]at hv;cases hv
 | some r=>rw [iL h hd,<-hd];exact hv
theorem GV (h:CLe c d) {n:Nat} {as:List Nat} {ns:List (Nat × Nat)} {x:TrE}:∀ (cs:List Nat) (ss:List Sto),gK P c n as ns x cs ss=true->gK P d n as ns x cs ss=true:=by
 intro cs
 induction cs with
 | nil=>
   intro ss hs
   cases ss with
   | nil=>simp [gK]at hs
   | cons s ss=>
     cases ss with
     | nil=>exact BQ h hs
     | cons s' ss=>simp [gK]at hs
 | cons k cs ih=>
   intro ss hs
   cases ss with
   | nil=>simp [gK]at hs
   | cons s ss=>
     simp only [gK,Bool.and_eq_true]at hs ⊢
     refine ⟨?_,?_⟩
     ·have:=hs.1
      cases hb:(as.getD x.i 0).testBit k with
      | true=>rfl
      | false=>rw [hb]at this;exact BQ h this
     ·have:=hs.2
      cases hb:(as.getD k 0).testBit x.i with
      | true=>rfl
      | false=>rw [hb]at this;exact ih _ this
theorem GX (h:CLe c d) {n0:Nat} {ns:List (Nat × Nat)} {as cs:List Nat} {x:TrE} (hs:mW P c as n0 ns cs x=true):mW P d as n0 ns cs x=true:=by
 simp only [mW,Bool.and_eq_true,decide_eq_true_eq]at hs ⊢
 exact ⟨hs.1,fun s' hs'=>iL h (hs.2 s' hs')⟩
theorem GY (h:CLe c d) {n0:Nat} {as cs:List Nat} {ss:List Sto} {x:TrE} (hs:pW P c as n0 cs ss x=true):pW P d as n0 cs ss x=true:=by
 simp only [pW,decide_eq_true_eq]at hs ⊢
 obtain ⟨m,hm,h1,h2⟩:=hs
 exact ⟨m,hm,h1,fun s' hs'=>iL h (h2 s' hs')⟩
theorem CW (h:CLe c d) {n n0:Nat} {as:List Nat} {l:List TrE} {s:Sto} (hr:eF P c n n0 as l s=true):eF P d n n0 as l s=true:=by
 have key:∀ (ns:List (Nat × Nat)) (cs:List Nat) (ss:List Sto) (m:List TrE),jR P c n n0 as ns cs ss m=true->jR P d n n0 as ns cs ss m=true:=by
  intro ns cs ss m
  induction m with
  | nil=>intro _;rfl
  | cons x m ih=>
    intro hm
    simp only [jR,Bool.and_eq_true,Bool.or_eq_true]at hm ⊢
    refine ⟨?_,ih hm.2⟩
    rcases hm.1 with (((h1 | h1) | h1) | h1) | h1
    ·exact .inl (.inl (.inl (.inl h1)))
    ·exact .inl (.inl (.inl (.inr h1)))
    ·exact .inl (.inl (.inr (GV h _ _ h1)))
    ·exact .inl (.inr (GX h h1))
    ·exact .inr (GY h h1)
 unfold eF at hr ⊢
 split at hr
 ·rfl
 ·exact key _ _ _ _ hr
theorem ON (h:CLe c d) {ops:List Oper} {e:Env} {x:Ex × Env} (hx:vX P c ops e=some x):vX P d ops e=some x:=by
 unfold vX at hx ⊢
 cases ht:zL P c ops ops 0 e with
 | none=>rw [ht]at hx;cases hx
 | some y=>
   obtain ⟨l,f,p⟩:=y
   rw [KD h _ _ _ _ ht]
   rw [ht]at hx
   simp only at hx ⊢
   cases hr:eF P c f.s.n e.s.n (cA ops) l f.s with
   | false=>rw [hr]at hx;simp at hx
   | true=>rw [CW h hr,<-hr];exact hx
theorem GZ (h:CLe c d) {ops:List Oper} {draw:Bool} {e:Env} {x:Ex × Env} (hx:mX P c ops draw e=some x):mX P d ops draw e=some x:=by
 cases draw with
 | true=>exact ON h hx
 | false=>exact DV h _ _ _ hx
theorem yM {f g:Env->Option (Ex × Env)} (h:∀ e x,f e=some x->g e=some x):∀ (n m:Nat) (e:Env) (x:Ex × Env),n<=m->loopGo f n e=some x->loopGo g m e=some x:=by
 intro n
 induction n with
 | zero=>intro m e x _ hx;cases hx
 | succ n ih=>
   intro m e x hm hx
   obtain ⟨m,rfl⟩:∃ k,m=k+1:=⟨m-1,by omega⟩
   simp only [loopGo]at hx ⊢
   cases hf:f e with
   | none=>rw [hf]at hx;cases hx
   | some y=>
     rw [h _ _ hf]
     rw [hf]at hx
     obtain ⟨ex,e'⟩:=y
     cases ex with
     | normal=>exact ih m e' x (by omega) hx
     | _=>exact hx
theorem KE (h:CLe c d) {f:Operand} {ps:Array Tmp} {a b:Code} {e:Env} {x:Ex × Env} (hx:tZ c f ps a b e=some x):tZ d f ps a b e=some x:=by
 unfold tZ at hx ⊢
 split at hx
 ·cases hx
 ·simp only at hx ⊢
  rename_i q s1 dd ds hq
  cases hc:c (e.eval f) [.func (.yield s1.n) [] []] (s1.push (.loop .ready none e.fn e.nt e.t ps.toList a b dd)) .no with
  | none=>rw [hc]at hx;cases hx
  | some y=>rw [h _ _ _ _ _ hc,<-hc];exact hx
theorem pG (h:CLe c d) {n m:Nat} (hn:n<=m):∀ (k:Code) (e:Env) (x:Ex × Env),bA P c n k e=some x->bA P d m k e=some x:=by
 intro k
 induction k with
 | region id ops draw=>intro e x hx;exact GZ h hx
 | seq a b iha ihb=>
   intro e x hx
   simp only [bA]at hx ⊢
   cases ha:bA P c n a e with
   | none=>rw [ha]at hx;cases hx
   | some y=>
     rw [iha _ _ ha]
     rw [ha]at hx
     obtain ⟨ex,e'⟩:=y
     cases ex with
     | normal=>exact ihb _ _ hx
     | _=>exact hx
 | cond q a b iha ihb=>
   intro e x hx
   simp only [bA]at hx ⊢
   split at hx
   ·exact iha _ _ hx
   ·exact ihb _ _ hx
   ·cases hx
 | block id a iha=>
   intro e x hx
   simp only [bA]at hx ⊢
   cases ha:bA P c n a e with
   | none=>rw [ha]at hx;cases hx
   | some y=>rw [iha _ _ ha,<-ha];exact hx
 | loop a iha=>intro e x hx;exact yM iha _ _ _ _ hn hx
 | scope a iha=>
   intro e x hx
   simp only [bA]at hx ⊢
   cases ha:bA P c n a e with
   | none=>rw [ha]at hx;cases hx
   | some y=>rw [iha _ _ ha,<-ha];exact hx
 | rangeFunc f ps a b=>intro e x hx;exact KE h hx
 | _=>intro e x hx;exact hx
theorem rH (h:CLe c d) {fn:Func}:∀ (n m:Nat) (mode:Option AV) (e:Env) (x:LRes × Env),n<=m->dleave P c fn n mode e=some x->dleave P d fn m mode e=some x:=by
 intro n
 induction n with
 | zero=>intro m mode e x _ hx;cases hx
 | succ n ih=>
   intro m mode e x hm hx
   obtain ⟨m,rfl⟩:∃ k,m=k+1:=⟨m-1,by omega⟩
   have hm':n<=m:=by omega
   simp only [dleave]at hx ⊢
   split at hx
   ·exact hx
   ·split at hx
    ·exact ih _ _ _ _ hm' hx
    ·cases hx
   ·rename_i fv args ds _
    cases hy:vY fv with
    | true=>rw [hy]at hx;cases hx
    | false=>
      rw [hy]at hx
      simp only [cond_false]at hx ⊢
      cases mode with
      | none=>
        simp only at hx ⊢
        cases hc:c fv args e.s .no with
        | none=>rw [hc]at hx;cases hx
        | some y=>
          rw [h _ _ _ _ _ hc]
          rw [hc]at hx
          obtain ⟨res,rr⟩:=y
          cases res<;>cases rr<;>first | exact ih _ _ _ _ hm' hx | cases hx
      | some p=>
        simp only at hx ⊢
        cases hc:c fv args e.s (.pan p) with
        | none=>rw [hc]at hx;cases hx
        | some y=>
          rw [h _ _ _ _ _ hc]
          rw [hc]at hx
          obtain ⟨res,rr⟩:=y
          cases res<;>cases rr<;>first | exact ih _ _ _ _ hm' hx | cases hx
theorem OO (h:CLe c d) {n m:Nat} (hn:n<=m) {f:FuncId} {args:List AV} {s:Sto} {r:ARec} {x:CRes × ARec} (hx:mY P c n f args s r=some x):mY P d m f args s r=some x:=by
 unfold mY at hx ⊢
 cases ho:okFn P f with
 | false=>rw [ho]at hx;cases hx
 | true=>
   rw [ho]at hx
   simp only [cond_true]at hx ⊢
   split at hx
   ·rename_i fn hfn
    split at hx
    ·rename_i k hk
     cases hc:bA P c n k {nt:=Nat.max args.length fn.ntmps,ro:=none,fn:=f,t:=Tr.leaf.lay 0 args,ds:=[],s:={s with low:=s.n},r:=r} with
     | none=>rw [hc]at hx;cases hx
     | some y=>
       rw [pG h hn _ _ _ hc]
       rw [hc]at hx
       obtain ⟨ex,e'⟩:=y
       cases ex<;>first | (obtain ⟨lr,e'',hl,hf⟩:=oF hx;simp only [rH h _ _ _ _ _ hn hl];exact hf) | cases hx
    ·cases hx
   ·cases hx
theorem KF (h:CLe c d) {n m:Nat} (hn:n<=m) {l:Nat} {args:List AV} {s:Sto} {x:CRes × ARec} (hx:kO P c n l args s=some x):kO P d m l args s=some x:=by
 unfold kO at hx ⊢
 split at hx
 ·rename_i st pend fn nt t ps a b dd hg
  split at hx
  ·rename_i t' ht
   cases hc:bA P c n a {nt:=nt,ro:=some l,fn:=fn,t:=t',ds:=[],s:={s with low:=s.n},r:=.no} with
   | none=>rw [hc]at hx;cases hx
   | some y=>
     rw [pG h hn _ _ _ hc]
     rw [hc]at hx
     obtain ⟨ex,e'⟩:=y
     cases ex with
     | normal=>
       simp only at hx ⊢
       split at hx
       ·rename_i pend' fn' nt' t'' ps' a' b' d' hg'
        cases hc':bA P c n b {e' with s:=e'.s.put l (.loop .busy pend' fn' nt' t'' ps' a' b' d')} with
        | none=>rw [hc']at hx;cases hx
        | some y=>
          rw [pG h hn _ _ _ hc',<-hc']
          exact hx
       ·cases hx
     | _=>cases hx
  ·cases hx
 ·cases hx
theorem fO {O:bN}:∀ (n m:Nat),n<=m->CLe (aO P O n) (aO P O m):=by
 intro n
 induction n with
 | zero=>intro m _ fv args s r x hx;cases hx
 | succ n ih=>
   intro m hm fv args s r x hx
   obtain ⟨m,rfl⟩:∃ k,m=k+1:=⟨m-1,by omega⟩
   have hm':n<=m:=by omega
   simp only [aO]at hx ⊢
   split at hx
   ·exact hx
   ·split at hx
    ·exact OO (ih m hm') hm' hx
    ·cases r<;>first | exact KF (ih m hm') hm' hx | cases hx
    ·cases hx
end
end Go.Abs
/-
 The abstract machine: what must hold for a piece of code to end so;rules for a walk by 'simp'.
-/
namespace Go.Abs
noncomputable section
def Tr.val (t:Tr AV) (i:Nat):AV:=(t.get i).getD .top
theorem Tr.val_set_same (t:Tr AV) (i:Nat) (a:AV):(t.set i a).val i=a:=by simp [Tr.val,Tr.get_set]
theorem Tr.val_set_ne (t:Tr AV) (i j:Nat) (a:AV) (h:j≠i):(t.set i a).val j=t.val j:=by simp [Tr.val,Tr.get_set,h]
theorem Env.eval_tmp (e:Env) (i:Nat):e.eval (.tmp i)=e.t.val i:=by
 simp only [Env.eval,Tr.val]
 cases e.t.get i<;>rfl
def lV (o:Option AV) (K:ORes->Prop):Prop:=∃ v,o=some v/\K (.val v)
def KG (o:Option Sto) (K:ORes->Prop):Prop:=∃ s,o=some s/\K (.val' .undef s)
def qI (o:Option ORes) (K:ORes->Prop):Prop:=∃ r,o=some r/\K r
theorem KH {v:AV} {K:ORes->Prop}:lV (some v) K↔K (.val v):=by simp [lV]
theorem aBn {s:Sto} {K:ORes->Prop}:KG (some s) K↔K (.val' .undef s):=by simp [KG]
theorem aBo {r:ORes} {K:ORes->Prop}:qI (some r) K↔K r:=by simp [qI]
@[congr] theorem aLl {o o':Option AV} {K:ORes->Prop} (h:o=o'):lV o K=lV o' K:=by rw [h]
@[congr] theorem aLm {o o':Option Sto} {K:ORes->Prop} (h:o=o'):KG o K=KG o' K:=by rw [h]
@[congr] theorem aLn {o o':Option ORes} {K:ORes->Prop} (h:o=o'):qI o K=qI o' K:=by rw [h]
section
variable (P:Program) (O:bN)
def W (c:Code) (e:Env) (Q:Ex->Env->Prop):Prop:=∃ n ex e',bA P (aO P O n) n c e=some (ex,e')/\Q ex e'
def Wo (ops rest:List Oper) (e:Env) (Q:Ex->Env->Prop):Prop:=∃ n ex e',gA P (aO P O n) ops rest e=some (ex,e')/\Q ex e'
def dR (call:bL) (op:Op) (e:Env):Option ORes:=gC P call {dst:=none,op:=op,type:=0,pos:= "",after:=#[],guard:=none} e
def dH (op:Op) (e:Env) (K:ORes->Prop):Prop:=∃ n r,dR P (aO P O n) op e=some r/\K r
def Wcall (fv:AV) (args:List AV) (s:Sto) (K:CRes->Prop):Prop:=∃ n res rr,aO P O n fv args s .no=some (res,rr)/\K res
variable {P O}
theorem W.mono {c:Code} {e:Env} {Q Q':Ex->Env->Prop} (h:W P O c e Q) (hQ:∀ ex e',Q ex e'->Q' ex e'):W P O c e Q':=by
 obtain ⟨n,ex,e',h1,h2⟩:=h;exact ⟨n,ex,e',h1,hQ _ _ h2⟩
@[congr] theorem aOk {c:Code} {e e':Env} {Q:Ex->Env->Prop} (h:e=e'):W P O c e Q=W P O c e' Q:=by rw [h]
@[congr] theorem aNn {ops rest:List Oper} {e e':Env} {Q:Ex->Env->Prop} (h:e=e'):Wo P O ops rest e Q=Wo P O ops rest e' Q:=by rw [h]
@[congr] theorem aLo {op:Op} {e e':Env} {K:ORes->Prop} (h:e=e'):dH P O op e K=dH P O op e' K:=by rw [h]
@[congr] theorem aIh {fv fv':AV} {args args':List AV} {s s':Sto} {K:CRes->Prop} (h:fv=fv') (h':args=args') (h'':s=s'):Wcall P O fv args s K=Wcall P O fv' args' s' K:=by rw [h,h',h'']
theorem mP {n m:Nat} (h:n<=m) {c:Code} {e:Env} {x:Ex × Env} (hx:bA P (aO P O n) n c e=some x):bA P (aO P O m) m c e=some x:=pG (fO n m h) h c e x hx
def aKe (P:Program) (O:bN) (b:Code) (Q:Ex->Env->Prop):Ex->Env->Prop
 | .normal,e=>W P O b e Q
 | ex,e=>Q ex e
theorem aNo {a b:Code} {e:Env} {Q:Ex->Env->Prop}:W P O (.seq a b) e Q↔W P O a e (aKe P O b Q):=by
 constructor
 ·rintro ⟨n,ex,e',h,hQ⟩
  simp only [bA]at h
  cases ha:bA P (aO P O n) n a e with
  | none=>rw [ha]at h;cases h
  | some y=>
    obtain ⟨ex1,e1⟩:=y
    rw [ha]at h
    refine ⟨n,ex1,e1,ha,?_⟩
    cases ex1 with
    | normal=>exact ⟨n,ex,e',h,hQ⟩
    | _=>simp at h;obtain ⟨rfl,rfl⟩:=h;exact hQ
 ·rintro ⟨n,ex,e',h,hQ⟩
  cases ex with
  | normal=>
    obtain ⟨m,ex2,e2,h2,hQ2⟩:=hQ
    refine ⟨max n m,ex2,e2,?_,hQ2⟩
    simp only [bA,mP (Nat.le_max_left n m) h,mP (Nat.le_max_right n m) h2]
  | _=>exact ⟨n,_,e',by simp only [bA,h],hQ⟩
def eN (id:Nat) (Q:Ex->Env->Prop):Ex->Env->Prop
 | .exit i,e=>bif Nat.beq i id then Q .normal e else Q (.exit i) e
 | ex,e=>Q ex e
theorem aGs {id:Nat} {c:Code} {e:Env} {Q:Ex->Env->Prop}:W P O (.block id c) e Q↔W P O c e (eN id Q):=by
 constructor
 ·rintro ⟨n,ex,e',h,hQ⟩
  simp only [bA]at h
  cases ha:bA P (aO P O n) n c e with
  | none=>rw [ha]at h;cases h
  | some y=>
    obtain ⟨ex1,e1⟩:=y
    rw [ha]at h
    refine ⟨n,ex1,e1,ha,?_⟩
    cases ex1 with
    | exit i=>
      simp only [eN]at h ⊢
      cases hb:Nat.beq i id<;>rw [hb]at h<;>simp at h<;>obtain ⟨rfl,rfl⟩:=h<;>exact hQ
    | _=>simp at h;obtain ⟨rfl,rfl⟩:=h;exact hQ
 ·rintro ⟨n,ex,e',h,hQ⟩
  cases ex with
  | exit i=>
    simp only [eN]at hQ
    cases hb:Nat.beq i id<;>rw [hb]at hQ
    ·exact ⟨n,_,e',by simp only [bA,h,hb,cond_false],hQ⟩
    ·exact ⟨n,_,e',by simp only [bA,h,hb,cond_true],hQ⟩
  | _=>exact ⟨n,_,e',by simp only [bA,h],hQ⟩
theorem CX {id:Nat} {Q:Ex->Env->Prop} {e:Env}:eN id Q .normal e=Q .normal e:=rfl
theorem KI {id:Nat} {Q:Ex->Env->Prop} {e:Env}:eN id Q (.exit id) e=Q .normal e:=by simp [eN]
theorem VB {id i:Nat} {Q:Ex->Env->Prop} {e:Env} (h:i≠id):eN id Q (.exit i) e=Q (.exit i) e:=by
 simp only [eN]
 have:Nat.beq i id=false:=by
  cases hb:Nat.beq i id with
  | false=>rfl
  | true=>exact absurd (Nat.eq_of_beq_eq_true hb) h
 rw [this];rfl
theorem OP {id:Nat} {Q:Ex->Env->Prop} {e:Env}:eN id Q .ret e=Q .ret e:=rfl
theorem HA {id:Nat} {Q:Ex->Env->Prop} {e:Env} {v:AV}:eN id Q (.panic v) e=Q (.panic v) e:=rfl
def aBp (P:Program) (O:bN) (v:AV) (x y:Code) (e:Env) (Q:Ex->Env->Prop):Prop:=(v=.bool true/\W P O x e Q)∨(v=.bool false/\W P O y e Q)
@[congr] theorem aIi {v v':AV} {x y:Code} {e:Env} {Q:Ex->Env->Prop} (h:v=v'):aBp P O v x y e Q=aBp P O v' x y e Q:=by rw [h]
theorem aKf {c:Operand} {x y:Code} {e:Env} {Q:Ex->Env->Prop}:W P O (.cond c x y) e Q↔aBp P O (e.eval c) x y e Q:=by
 constructor
 ·rintro ⟨n,ex,e',h,hQ⟩
  simp only [bA]at h
  split at h
  ·rename_i hc;exact .inl ⟨hc,n,ex,e',h,hQ⟩
  ·rename_i hc;exact .inr ⟨hc,n,ex,e',h,hQ⟩
  ·cases h
 ·rintro (⟨hc,n,ex,e',h,hQ⟩ | ⟨hc,n,ex,e',h,hQ⟩)
  ·exact ⟨n,ex,e',by simp only [bA,hc,h],hQ⟩
  ·exact ⟨n,ex,e',by simp only [bA,hc,h],hQ⟩
theorem aKg {e:Env} {Q:Ex->Env->Prop}:W P O .skip e Q↔Q .normal e:=⟨fun ⟨n,ex,e',h,hQ⟩=>by simp [bA]at h;obtain ⟨rfl,rfl⟩:=h;exact hQ,fun h=>⟨0,_,_,rfl,h⟩⟩
theorem aGt {l:Nat} {e:Env} {Q:Ex->Env->Prop}:W P O (.label l) e Q↔Q .normal e:=⟨fun ⟨n,ex,e',h,hQ⟩=>by simp [bA]at h;obtain ⟨rfl,rfl⟩:=h;exact hQ,fun h=>⟨0,_,_,rfl,h⟩⟩
theorem aKh {i:Nat} {e:Env} {Q:Ex->Env->Prop}:W P O (.exit i) e Q↔Q (.exit i) e:=⟨fun ⟨n,ex,e',h,hQ⟩=>by simp [bA]at h;obtain ⟨rfl,rfl⟩:=h;exact hQ,fun h=>⟨0,_,_,rfl,h⟩⟩
theorem aNp {e:Env} {Q:Ex->Env->Prop}:W P O .ret e Q↔Q .ret e:=⟨fun ⟨n,ex,e',h,hQ⟩=>by simp [bA]at h;obtain ⟨rfl,rfl⟩:=h;exact hQ,fun h=>⟨0,_,_,rfl,h⟩⟩
theorem KJ {f:Env->Option (Ex × Env)} (hf:∀ e l e',f e≠some (.goto l,e')):∀ (n:Nat) (e:Env) (l:Nat) (e':Env),loopGo f n e≠some (.goto l,e'):=by
 intro n
 induction n with
 | zero=>intro e l e' h;cases h
 | succ n ih=>
   intro e l e' h
   simp only [loopGo]at h
   split at h
   ·exact ih _ _ _ h
   ·exact hf _ _ _ h
theorem VC {call:bL} {ops:List Oper}:∀ (rest:List Oper) (e:Env) (l:Nat) (e':Env),gA P call ops rest e≠some (.goto l,e'):=by
 intro rest
 induction rest with
 | nil=>intro e l e' h;cases h
 | cons o rest ih=>
   intro e l e' h
   simp only [gA]at h
   split at h
   ·cases h
   ·split at h
    ·exact ih _ _ _ h
    ·cases h
   ·split at h
    ·cases h
    ·split at h<;>first | exact ih _ _ _ h | cases h
    ·split at h<;>first | exact ih _ _ _ h | cases h
    ·cases h
    ·split at h<;>first | exact ih _ _ _ h | cases h
    ·split at h
     ·split at h<;>first | exact ih _ _ _ h | cases h
     ·split at h<;>first | exact ih _ _ _ h | cases h
     ·cases h
theorem OQ {call:bL} {n:Nat}:∀ (c:Code) (e:Env) (l:Nat) (e':Env),bA P call n c e≠some (.goto l,e'):=by
 intro c
 induction c with
 | region id ops draw=>
   intro e l e' h
   cases draw with
   | false=>exact VC _ _ _ _ h
   | true=>
     simp only [bA,mX,cond_true,vX]at h
     split at h
     ·cases h
     ·rename_i m f p htr
      cases hcond:(P.follows .mixedOrders&&mC ops.toList&&eV (cA ops.toList) (cY m)&&rS (cA ops.toList) (jL m) (cY m)&&gB m f.s.n&&iC m&&eF P call f.s.n e.s.n (cA ops.toList) m f.s) with
      | false=>rw [hcond]at h;cases h
      | true=>
        rw [hcond]at h
        simp only [cond_true]at h
        split at h
        ·cases h
        ·cases hl:iT (cA ops.toList) (m.length-1) ops.toList 0<;>rw [hl]at h<;>cases h
 | seq a b iha ihb=>
   intro e l e' h
   simp only [bA]at h
   split at h
   ·exact ihb _ _ _ h
   ·exact iha _ _ _ h
 | cond q a b iha ihb=>
   intro e l e' h
   simp only [bA]at h
   split at h
   ·exact iha _ _ _ h
   ·exact ihb _ _ _ h
   ·cases h
 | block id a iha=>
   intro e l e' h
   simp only [bA]at h
   split at h
   ·simp only [Bool.cond_eq_ite]at h
    split at h<;>cases h
   ·exact iha _ _ _ h
 | loop a iha=>intro e l e' h;exact KJ iha _ _ _ _ h
 | scope a iha=>
   intro e l e' h
   simp only [bA]at h
   split at h
   ·cases h
   ·exact iha _ _ _ h
 | rangeFunc f ps a b=>
   intro e l e' h
   simp only [bA,tZ]at h
   split at h
   ·cases h
   ·try simp only at h
    split at h
    ·simp only [cL]at h
     split at h
     ·split at h
      ·cases h
      ·try simp only at h
       split at h<;>cases h
     ·cases h
    ·cases h
    ·cases h
 | _=>intro e l e' h;cases h
theorem aGu {c:Code} {e:Env} {Q:Ex->Env->Prop}:W P O (.scope c) e Q↔W P O c e Q:=by
 constructor
 ·rintro ⟨n,ex,e',h,hQ⟩
  simp only [bA]at h
  split at h
  ·cases h
  ·exact ⟨n,ex,e',h,hQ⟩
 ·rintro ⟨n,ex,e',h,hQ⟩
  refine ⟨n,ex,e',?_,hQ⟩
  simp only [bA,h]
  split
  ·rename_i h1;simp at h1;obtain ⟨rfl,_⟩:=h1;exact absurd h (OQ _ _ _ _)
  ·rfl
theorem aKi {α:Type} (I:α->Env->Prop) (m:α->Nat) (a:α) {c:Code} {e:Env} {Q:Ex->Env->Prop} (h0:I a e)
 (hs:∀ a e,I a e->W P O c e fun ex e'=>match ex with | .normal=>∃ a',m a'<m a/\I a' e' | ex=>Q ex e'):W P O (.loop c) e Q:=by
 generalize hk:m a=k
 induction k using Nat.strongRecOn generalizing a e with
 | _ k ih=>
   obtain ⟨n,ex,e',h,hQ⟩:=hs a e h0
   have key:∀ ex,ex≠.normal->bA P (aO P O n) n c e=some (ex,e')->Q ex e'->W P O (.loop c) e Q:=by
    intro ex hne h hQ
    refine ⟨n+1,ex,e',?_,hQ⟩
    simp only [bA,loopGo]
    rw [mP (Nat.le_succ n) h]
    cases ex<;>first | rfl | exact absurd rfl hne
   cases ex with
   | normal=>
     obtain ⟨a',hlt,hI⟩:=hQ
     obtain ⟨n2,ex2,e2,h2,hQ2⟩:=ih (m a') (by omega) a' hI rfl
     refine ⟨max n n2+1,ex2,e2,?_,hQ2⟩
     simp only [bA,loopGo]
     rw [mP (by omega) h]
     simp only [bA]at h2
     exact yM (fun e x hx=>mP (by omega) hx) _ _ _ _ (by omega) h2
   | _=>exact key _ (by simp) h hQ
theorem aBq {i:Nat} {l:List Oper} {e:Env} {Q:Ex->Env->Prop}:W P O (.region i l.toArray false) e Q↔Wo P O l l e Q:=by
 simp only [W,Wo,bA,mX,cond_false]
def dN (P:Program) (O:bN) (ops:List Oper) (dst:Option Tmp) (rest:List Oper) (e:Env) (Q:Ex->Env->Prop):ORes->Prop
 | .val v=>∃ e',e.put dst v=some e'/\Wo P O ops rest e' Q
 | .val' v s=>∃ e',(e.setS s).put dst v=some e'/\Wo P O ops rest e' Q
 | .pan v s=>Q (.panic v) {e with s:=s}
 | .defer d=>∃ e',(e.setDs (d::e.ds)).put dst .undef=some e'/\Wo P O ops rest e' Q
 | .recov=>match e.ro,e.r with
   | none,.pan v=>∃ e',(e.setR (.recd v)).put dst v=some e'/\Wo P O ops rest e' Q
   | none,_=>∃ e',e.put dst .nili=some e'/\Wo P O ops rest e' Q
   | some _,_=>False
@[congr] theorem aKj {ops:List Oper} {dst:Option Tmp} {rest:List Oper} {e:Env} {Q:Ex->Env->Prop} {r r':ORes} (h':r=r'):dN P O ops dst rest e Q r=dN P O ops dst rest e Q r':=by rw [h']
@[congr] theorem aKk {b:Code} {Q:Ex->Env->Prop} {x x':Ex} {e e':Env} (h:x=x') (h':e=e'):aKe P O b Q x e=aKe P O b Q x' e':=by rw [h,h']
@[congr] theorem aGv {i:Nat} {Q:Ex->Env->Prop} {x x':Ex} {e e':Env} (h:x=x') (h':e=e'):eN i Q x e=eN i Q x' e':=by rw [h,h']
theorem aKl {ops:List Oper} {e:Env} {Q:Ex->Env->Prop}:Wo P O ops [] e Q↔Q .normal e:=⟨fun ⟨n,ex,e',h,hQ⟩=>by simp [gA]at h;obtain ⟨rfl,rfl⟩:=h;exact hQ,fun h=>⟨0,_,_,rfl,h⟩⟩
theorem aBr {ops:List Oper} {o:Oper} {rest:List Oper} {e:Env} {Q:Ex->Env->Prop} (hw:cD ops o e=some true):Wo P O ops (o::rest) e Q↔dH P O o.op e (dN P O ops o.dst rest e Q):=by
 have hle:∀ {n m:Nat},n<=m->∀ {l:List Oper} {e:Env} {x:Ex × Env},gA P (aO P O n) ops l e=some x->gA P (aO P O m) ops l e=some x:=fun h _ _ _ hx=>DV (fO _ _ h) _ _ _ hx
 have hop:∀ {n m:Nat},n<=m->∀ {r:ORes},gC P (aO P O n) o e=some r->gC P (aO P O m) o e=some r:=fun h _ hx=>iL (fO _ _ h) hx
 constructor
 ·rintro ⟨n,ex,e',h,hQ⟩
  simp only [gA,hw]at h
  cases hd:gC P (aO P O n) o e with
  | none=>rw [hd]at h;cases h
  | some r=>
    rw [hd]at h
    refine ⟨n,r,hd,?_⟩
    cases r with
    | val v=>simp only at h;split at h<;>first | exact ⟨_,by assumption,n,ex,e',h,hQ⟩ | cases h
    | val' v s=>simp only at h;split at h<;>first | exact ⟨_,by assumption,n,ex,e',h,hQ⟩ | cases h
    | pan v s=>simp at h;obtain ⟨rfl,rfl⟩:=h;exact hQ
    | defer q=>simp only at h;split at h<;>first | exact ⟨_,by assumption,n,ex,e',h,hQ⟩ | cases h
    | recov=>
      simp only at h
      simp only [dN]
      split at h
      ·rename_i h1 h2;simp only [h1,h2]
       split at h<;>first | exact ⟨_,by assumption,n,ex,e',h,hQ⟩ | cases h
      ·rename_i h1 h2
       have:∃ e',e.put o.dst .nili=some e'/\Wo P O ops rest e' Q:=by
        split at h<;>first | exact ⟨_,by assumption,n,ex,e',h,hQ⟩ | cases h
       rw [h1]
       cases hr:e.r with
       | pan v=>exact absurd hr (h2 v)
       | _=>exact this
      ·cases h
 ·rintro ⟨n,r,hd,hK⟩
  have hd':gC P (aO P O n) o e=some r:=hd
  have key:∀ {m:Nat} {ex:Ex} {e1 e':Env},gA P (aO P O m) ops rest e1=some (ex,e')->Q ex e'->(∀ k,max n m=k->gC P (aO P O k) o e=some r->gA P (aO P O k) ops rest e1=some (ex,e')->gA P (aO P O k) ops (o::rest) e=some (ex,e'))->Wo P O ops (o::rest) e Q:=
   fun h1 h2 h3=>⟨_,_,_,h3 _ rfl (hop (Nat.le_max_left _ _) hd') (hle (Nat.le_max_right _ _) h1),h2⟩
  cases r with
  | val v=>obtain ⟨e1,hp,m,ex,e',h1,h2⟩:=hK;exact key h1 h2 fun k _ g1 g2=>by simp only [gA,hw,g1,hp,g2]
  | val' v s=>obtain ⟨e1,hp,m,ex,e',h1,h2⟩:=hK;exact key h1 h2 fun k _ g1 g2=>by simp only [gA,hw,g1,hp,g2]
  | pan v s=>exact ⟨n,_,_,by simp only [gA,hw,hd'],hK⟩
  | defer q=>obtain ⟨e1,hp,m,ex,e',h1,h2⟩:=hK;exact key h1 h2 fun k _ g1 g2=>by simp only [gA,hw,g1,hp,g2]
  | recov=>
    simp only [dN]at hK
    split at hK
    ·rename_i q1 q2
     obtain ⟨e1,hp,m,ex,e',h1,h2⟩:=hK;exact key h1 h2 fun k _ g1 g2=>by simp only [gA,hw,g1,q1,q2,hp,g2]
    ·rename_i q1 q2
     obtain ⟨e1,hp,m,ex,e',h1,h2⟩:=hK
     refine key h1 h2 fun k _ g1 g2=>?_
     simp only [gA,hw,g1,q1]
     cases hr:e.r with
     | pan v=>exact absurd hr (q2 v)
     | _=>simp only [hp,g2]
    ·exact hK.elim
theorem HB {ops:List Oper} {o:Oper} {rest:List Oper} {e:Env} {Q:Ex->Env->Prop} (hw:cD ops o e=some false):Wo P O ops (o::rest) e Q↔∃ e',e.put o.dst .undef=some e'/\Wo P O ops rest e' Q:=by
 constructor
 ·rintro ⟨n,ex,e',h,hQ⟩
  simp only [gA,hw]at h
  split at h
  ·rename_i hp;exact ⟨_,hp,n,ex,e',h,hQ⟩
  ·cases h
 ·rintro ⟨e1,hp,n,ex,e',h,hQ⟩
  exact ⟨n,ex,e',by simp only [gA,hw,hp,h],hQ⟩
theorem aGw {ops:List Oper} {dst:Option Tmp} {op:Op} {ty:TypeId} {pos:String} {after:Array Edge} {rest:List Oper} {e:Env} {Q:Ex->Env->Prop}:
 Wo P O ops ({dst:=dst,op:=op,type:=ty,pos:=pos,after:=after,guard:=none}::rest) e Q↔dH P O op e (dN P O ops dst rest e Q):=aBr rfl
def guardK (P:Program) (O:bN) (v:AV) (want:Bool) (op:Op) (ops:List Oper) (dst:Option Tmp) (rest:List Oper) (e:Env) (Q:Ex->Env->Prop):Prop:=match v with
 | .bool b=>(b=want->dH P O op e (dN P O ops dst rest e Q))/\(b = !want->dN P O ops dst rest e Q (.val .undef))
 | .tuple _=>dN P O ops dst rest e Q (.val .undef)
 | _=>False
section
variable {want:Bool} {op:Op} {ops:List Oper} {dst:Option Tmp} {rest:List Oper} {e:Env} {Q:Ex->Env->Prop}
@[congr] theorem aGx {v v':AV} (h:v=v'):guardK P O v want op ops dst rest e Q=guardK P O v' want op ops dst rest e Q:=by rw [h]
theorem VD:guardK P O (.bool true) true op ops dst rest e Q↔dH P O op e (dN P O ops dst rest e Q):=by simp [guardK]
theorem VE:guardK P O (.bool true) false op ops dst rest e Q↔dN P O ops dst rest e Q (.val .undef):=by simp [guardK]
theorem VF:guardK P O (.bool false) true op ops dst rest e Q↔dN P O ops dst rest e Q (.val .undef):=by simp [guardK]
theorem VG:guardK P O (.bool false) false op ops dst rest e Q↔dH P O op e (dN P O ops dst rest e Q):=by simp [guardK]
theorem VH {b:Bool}:guardK P O (.bool b) true op ops dst rest e Q↔(b=true->dH P O op e (dN P O ops dst rest e Q))/\(b=false->dN P O ops dst rest e Q (.val .undef)):=.rfl
theorem VI {b:Bool}:guardK P O (.bool b) false op ops dst rest e Q↔(b=false->dH P O op e (dN P O ops dst rest e Q))/\(b=true->dN P O ops dst rest e Q (.val .undef)):=.rfl
theorem HC {l:List AV}:guardK P O (.tuple l) want op ops dst rest e Q↔dN P O ops dst rest e Q (.val .undef):=.rfl
end
def CY:List Oper->Nat->Option Nat
 | [],_=>none
 | o::_,0=>o.dst
 | _::l,n+1=>CY l n
theorem HD:∀ (ops:List Oper) (j:Nat),CY ops j=ops[j]?.bind (·.dst)
 | [],_=>rfl
 | o::_,0=>rfl
 | _::l,n+1=>by simp only [CY,List.getElem?_cons_succ];exact HD l n
def VJ (t:Tr AV):Option Nat->AV
 | some d=>t.val d
 | none=>.tuple []
theorem aBs {ops:List Oper} {dst:Option Tmp} {op:Op} {ty:TypeId} {pos:String} {after:Array Edge} {j:Nat} {want:Bool} {rest:List Oper} {e:Env} {Q:Ex->Env->Prop}:
 Wo P O ops ({dst:=dst,op:=op,type:=ty,pos:=pos,after:=after,guard:=some (j,want)}::rest) e Q↔
  guardK P O (VJ e.t (CY ops j)) want op ops dst rest e Q:=by
 rw [HD]
 cases hd:ops[j]?.bind (·.dst) with
 | none=>
   have haw:cD ops {dst:=dst,op:=op,type:=ty,pos:=pos,after:=after,guard:=some (j,want)} e=some false:=by
    simp only [cD]
    cases hj:ops[j]? with
    | none=>rfl
    | some g=>rw [hj]at hd;simp only [Option.bind_some]at hd;simp only [hd]
   rw [HB haw];rfl
 | some d=>
 show _↔guardK P O (e.t.val d) want op ops dst rest e Q
 have haw:cD ops {dst:=dst,op:=op,type:=ty,pos:=pos,after:=after,guard:=some (j,want)} e=match e.t.get d with | some (.bool b)=>some (b==want) | some (.tuple _)=>some false | _=>none:=by
  simp only [cD]
  cases hj:ops[j]? with
  | none=>rw [hj]at hd;cases hd
  | some g=>rw [hj]at hd;simp only [Option.bind_some]at hd;simp only [hd];cases e.t.get d with | none=>rfl | some v=>cases v<;>rfl
 cases ht:e.t.get d with
 | none=>
   have hv:e.t.val d=.top:=by simp [Tr.val,ht]
   rw [hv]
   rw [ht]at haw
   refine ⟨fun ⟨n,ex,e',h,hQ⟩=>?_,fun h=>h.elim⟩
   simp only [gA,haw]at h
   cases h
 | some v=>
   have hv:e.t.val d=v:=by simp [Tr.val,ht]
   rw [hv]
   rw [ht]at haw
   clear hv ht
   cases v with
   | bool b=>
     simp only at haw
     cases hb:(b==want) with
     | true=>
       rw [hb]at haw
       have:b=want:=by simpa using hb
       subst this
       rw [aBr haw]
       simp [guardK]
     | false=>
       rw [hb]at haw
       rw [HB haw]
       have:b≠want:=by simpa using hb
       have h2:b = !want:=by cases b<;>cases want<;>simp_all
       simp [guardK,this,h2]
       rfl
   | tuple l=>rw [HB haw];rfl
   | _=>exact ⟨fun ⟨n,ex,e',h,hQ⟩=>by (simp only [gA,haw]at h;cases h),fun h=>h.elim⟩
theorem vG {nt:Nat} {ro:Option Nat} {fn:FuncId} {t:Tr AV} {ds:List ADef} {s:Sto} {r:ARec} {d:Nat} {v:AV} {R:Env->Prop} (h:d<nt):
 (∃ e',(Env.mk nt ro fn t ds s r).put (some d) v=some e'/\R e')↔R ⟨nt,ro,fn,t.set d v,ds,s,r⟩:=by
 have:(Env.mk nt ro fn t ds s r).put (some d) v=some ⟨nt,ro,fn,t.set d v,ds,s,r⟩:=by
  simp only [Env.put]
  have:Nat.blt d nt=true:=by simpa using h
  rw [this];rfl
 rw [this];simp
theorem vH {e:Env} {v:AV} {R:Env->Prop}:(∃ e',e.put none v=some e'/\R e')↔R e:=by simp [Env.put]
variable {nt:Nat} {ro:Option Nat} {fn:FuncId} {t:Tr AV} {ds:List ADef} {s:Sto} {r:ARec} {ops rest:List Oper} {Q:Ex->Env->Prop}
theorem aBt {d:Nat} {v:AV} (h:d<nt):dN P O ops (some d) rest ⟨nt,ro,fn,t,ds,s,r⟩ Q (.val v)↔Wo P O ops rest ⟨nt,ro,fn,t.set d v,ds,s,r⟩ Q:=vG h
theorem VK {e:Env} {v:AV}:dN P O ops none rest e Q (.val v)↔Wo P O ops rest e Q:=vH
theorem VL {d:Nat} {v:AV} {s':Sto} (h:d<nt):dN P O ops (some d) rest ⟨nt,ro,fn,t,ds,s,r⟩ Q (.val' v s')↔Wo P O ops rest ⟨nt,ro,fn,t.set d v,ds,s',r⟩ Q:=vG h
theorem OR {v:AV} {s':Sto}:dN P O ops none rest ⟨nt,ro,fn,t,ds,s,r⟩ Q (.val' v s')↔Wo P O ops rest ⟨nt,ro,fn,t,ds,s',r⟩ Q:=vH
theorem aBu {dst:Option Tmp} {v:AV} {s':Sto}:dN P O ops dst rest ⟨nt,ro,fn,t,ds,s,r⟩ Q (.pan v s')↔Q (.panic v) ⟨nt,ro,fn,t,ds,s',r⟩:=.rfl
theorem nH {op:Op} {e:Env} {K:ORes->Prop} {r:Option ORes} (h:∀ call,dR P call op e=r):dH P O op e K↔qI r K:=by
 constructor
 ·rintro ⟨n,x,h1,h2⟩;exact ⟨x,by rw [<-h1,h],h2⟩
 ·rintro ⟨x,h1,h2⟩;exact ⟨0,x,by rw [h,h1],h2⟩
theorem dZ {op:Op} {e:Env} {K:ORes->Prop} {x:Option AV} (h:∀ call,dR P call op e=valO x):dH P O op e K↔lV (x) K:=by
 rw [nH h]
 cases x<;>simp [valO,lV,qI]
theorem DW {op:Op} {e:Env} {K:ORes->Prop} {x:Option Sto} (h:∀ call,dR P call op e=skipO x):dH P O op e K↔KG (x) K:=by
 rw [nH h]
 cases x<;>simp [skipO,KG,qI]
variable {e:Env} {K:ORes->Prop}
theorem aBv {x:Operand}:dH P O (.move x) e K↔K (.val (e.eval x)):=by rw [nH (r:=some (.val (e.eval x))) fun _=>rfl];simp [qI]
theorem OS {x:Operand}:dH P O (.assign x) e K↔K (.val (e.eval x)):=by rw [nH (r:=some (.val (e.eval x))) fun _=>rfl];simp [qI]
def RO (c a b:AV):Option AV:=match c with
 | .bool true=>some a
 | .bool false=>some b
 | _=>none
theorem aBw {c a b:Operand}:dH P O (.pick c a b) e K↔lV (RO (e.eval c) (e.eval a) (e.eval b)) K:=by
 refine dZ fun call=>?_
 show dR P call (.pick c a b) e=_
 simp only [dR,gC]
 cases h:e.eval c with
 | bool b=>cases b<;>rfl
 | _=>rfl
theorem VM {op:BinOp} {ty uy:TypeId} {x y:Operand}:dH P O (.binOp op ty x y uy) e K↔lV (cX P op ty x y (e.eval x) (e.eval y)) K:=dZ fun _=>rfl
theorem aBx {op:UnOp} {ty:TypeId} {x:Operand}:dH P O (.unOp op ty x) e K↔lV (aun op (e.eval x)) K:=dZ fun _=>rfl
theorem aBy {ty:TypeId} {a:Operand}:dH P O (.load ty a) e K↔lV (eB P e.s ty (e.eval a)) K:=dZ fun _=>rfl
theorem VN {ty:TypeId} {a x:Operand}:dH P O (.store ty a x) e K↔KG (kM P e.s ty (e.eval a) (e.eval x)) K:=DW fun _=>rfl
theorem VO {ty:TypeId} {x:Operand} {lo hi mx:Option Operand}:dH P O (.slice ty x lo hi mx) e K↔lV (eQ P ty (e.eval x) (lo.map e.eval) (hi.map e.eval) (mx.map e.eval)) K:=dZ fun _=>rfl
theorem CZ {ty:TypeId} {x:Operand} {f:Nat}:dH P O (.fieldAddr ty x f) e K↔lV (bO P ty (e.eval x) f) K:=dZ fun _=>rfl
theorem VP {ty:TypeId} {x:Operand} {f:Nat}:dH P O (.field ty x f) e K↔lV (nL P ty (e.eval x) f) K:=dZ fun _=>rfl
theorem DA {ty:TypeId} {x i:Operand}:dH P O (.indexAddr ty x i) e K↔lV (bP P ty (e.eval x) (e.eval i)) K:=dZ fun _=>rfl
theorem VQ {ty:TypeId} {x i:Operand}:dH P O (.index ty x i) e K↔lV (pS P ty (e.eval x) (e.eval i)) K:=dZ fun _=>rfl
theorem OT {ty:TypeId} {m k:Operand} {ok:Bool}:dH P O (.lookup ty m k ok) e K↔lV (alookup P e.s ty (e.eval m) (e.eval k) ok) K:=dZ fun _=>rfl
theorem DB {ty:TypeId} {m k x:Operand}:dH P O (.mapUpdate ty m k x) e K↔KG (dO P e.s ty (e.eval m) (e.eval k) (e.eval x)) K:=DW fun _=>rfl
theorem VT {ty:TypeId} {parts:Array (Nat × Operand)}:dH P O (.build ty parts) e K↔lV (nK P ty (parts.toList.map fun p=>(p.1,e.eval p.2))) K:=dZ fun _=>rfl
theorem KK {src dst:TypeId} {x:Operand}:dH P O (.convert src dst x) e K↔qI (iB P e.s src dst (e.eval x)) K:=nH fun _=>rfl
def sI:AV->Option AV
 | .ptr i g o=>some (.ptr i g o)
 | .pf v=>some (.pf v)
 | .func (.func f) a c=>some (.func (.func f) a c)
 | .iface t v=>some (.iface t v)
 | _=>none
theorem HE {x:Operand}:dH P O (.nilCheck x) e K↔lV (sI (e.eval x)) K:=by
 refine dZ fun call=>?_
 show dR P call (.nilCheck x) e=_
 simp only [dR,gC]
 cases h:e.eval x with
 | func f a c=>cases f<;>rfl
 | _=>rfl
theorem HF {f:FuncId} {first cap:Array Operand}:dH P O (.makeFunc (.func f) first cap) e K↔K (.val (.func (.func f) (first.toList.map e.eval) (cap.toList.map e.eval))):=by
 rw [nH (r:=some (.val (.func (.func f) (first.toList.map e.eval) (cap.toList.map e.eval)))) fun _=>rfl];simp [qI]
theorem KL {x:Operand} {i:Nat}:dH P O (.extract x i) e K↔lV ((match e.eval x with | .tuple vs=>vs[i]? | _=>none)) K:=by
 refine dZ fun call=>?_
 show dR P call (.extract x i) e=_
 simp only [dR,gC]
 cases h:e.eval x<;>rfl
theorem KM {b:Builtin} {args:Array Operand} {ts:Array TypeId}:dH P O (.call {callee:=.builtin b,args:=args,argTypes:=ts}) e K↔qI (aV P e.s b ts (args.toList.map e.eval)) K:=nH fun _=>rfl
def ob (cs:List AV):AObj:=.cells 0 cs.length (Tr.leaf.lay 0 cs)
theorem mQ {s:Sto} {cs:List AV}:mG s cs=if cs.all AV.isCell=true then some (s.n,s.push (ob cs)) else none:=by
 unfold mG
 cases cs.all AV.isCell<;>rfl
def AV.isTop:AV->Bool
 | .top=>true
 | _=>false
def aK (b:Bool) (A:Prop):Prop:=b=true/\A
theorem aGy {A:Prop}:aK true A↔A:=by simp [aK]
@[congr] theorem aNq {b b':Bool} {A:Prop} (h:b=b'):aK b A=aK b' A:=by rw [h]
def vI (v:AV) (s:Sto) (K:ORes->Prop):Prop:=v.isTop=false/\v.cells.all AV.isCell=true/\K (.val' (.ptr s.n 0 0) (s.push (ob v.cells)))
@[congr] theorem aKm {v v':AV} {s s':Sto} {K:ORes->Prop} (h:v=v') (h':s=s'):vI v s K=vI v' s' K:=by rw [h,h']
theorem aBz {l:List AV} {s:Sto} {K:ORes->Prop}:vI (.agg l) s K↔aK (l.all AV.isCell) (K (.val' (.ptr s.n 0 0) (s.push (ob l)))):=by simp [vI,AV.isTop,AV.cells,aK]
theorem VU {v:AV} {s:Sto} {K:ORes->Prop} (h:v.isCell=true):vI v s K↔K (.val' (.ptr s.n 0 0) (s.push (ob [v]))):=by
 have h1:v.isTop=false:=by cases v<;>first | rfl | cases h
 have h2:v.cells=[v]:=by cases v<;>first | rfl | cases h
 simp [vI,h1,h2,h]
def iM (z:Option AV) (s:Sto) (K:ORes->Prop):Prop:=∃ v,z=some v/\v.cells.all AV.isCell=true/\K (.val' (.ptr s.n 0 0) (s.push (ob v.cells)))
@[congr] theorem aGz {z z':Option AV} {s s':Sto} {K:ORes->Prop} (h:z=z') (h':s=s'):iM z s K=iM z' s' K:=by rw [h,h']
theorem OU {l:List AV} {s:Sto} {K:ORes->Prop}:iM (some (.agg l)) s K↔aK (l.all AV.isCell) (K (.val' (.ptr s.n 0 0) (s.push (ob l)))):=by simp [iM,AV.cells,aK]
theorem KN {v:AV} {s:Sto} {K:ORes->Prop} (h:v.isCell=true):iM (some v) s K↔K (.val' (.ptr s.n 0 0) (s.push (ob [v]))):=by
 have h2:v.cells=[v]:=by cases v<;>first | rfl | cases h
 simp [iM,h2,h]
theorem DX {ty:TypeId}:dH P O (.alloc ty) e K↔iM (aX P ty) e.s K:=by
 rw [nH (r:=match aX P ty with | some z=>(match mG e.s z.cells with | some (id,s)=>some (.val' (.ptr id 0 0) s) | none=>none) | none=>none) fun _=>rfl]
 cases h:aX P ty with
 | none=>simp [qI,iM]
 | some z=>
   simp only [qI,iM,Option.some.injEq,exists_eq_left',mQ]
   by_cases hc:z.cells.all AV.isCell=true<;>simp [hc]
theorem RP {ty:TypeId} {x:Operand}:dH P O (.box ty x) e K↔vI (e.eval x) e.s K:=by
 have:∀ call,dR P call (.box ty x) e=match e.eval x with | .top=>none | v=>(match mG e.s v.cells with | some (id,s)=>some (.val' (.ptr id 0 0) s) | none=>none):=fun _=>rfl
 rw [nH this]
 generalize e.eval x=v
 by_cases hv:v=.top
 ·subst hv;simp [AV.isTop,vI,qI]
 ·have h1:v.isTop=false:=by cases v<;>first | rfl | exact absurd rfl hv
  have:(match v with | .top=>none | v=>(match mG e.s v.cells with | some (id,s)=>some (ORes.val' (.ptr id 0 0) s) | none=>none))=(match mG e.s v.cells with | some (id,s)=>some (ORes.val' (.ptr id 0 0) s) | none=>none):=by
   cases v<;>first | rfl | exact absurd rfl hv
  rw [this,mQ]
  by_cases hc:v.cells.all AV.isCell=true<;>simp [hc,vI,qI,h1]
def callK (s:Sto) (K:ORes->Prop):CRes->Prop
 | .ret v none=>K (.val v)
 | .ret v (some s')=>K (.val' v s')
 | .pan v none=>K (.pan v s)
 | .pan v (some s')=>K (.pan v s')
theorem DY {s:Sto} {v:AV}:callK s K (.ret v none)=K (.val v):=rfl
theorem BR {s s':Sto} {v:AV}:callK s K (.ret v (some s'))=K (.val' v s'):=rfl
theorem VV {s:Sto} {v:AV}:callK s K (.pan v none)=K (.pan v s):=rfl
theorem OV {s s':Sto} {v:AV}:callK s K (.pan v (some s'))=K (.pan v s'):=rfl
theorem aCa {f:Operand} {args:Array Operand} {ts:Array TypeId}:dH P O (.call {callee:=.value f,args:=args,argTypes:=ts}) e K↔Wcall P O (e.eval f) (args.toList.map e.eval) e.s (callK e.s K):=by
 have hd:∀ n,dR P (aO P O n) (.call {callee:=.value f,args:=args,argTypes:=ts}) e=eT e.s (aO P O n (e.eval f) (args.toList.map e.eval) e.s .no):=fun _=>rfl
 constructor
 ·rintro ⟨n,r,h1,h2⟩
  rw [hd]at h1
  cases hc:aO P O n (e.eval f) (args.toList.map e.eval) e.s .no with
  | none=>rw [hc]at h1;cases h1
  | some y=>
    obtain ⟨res,rr⟩:=y
    rw [hc]at h1
    refine ⟨n,res,rr,hc,?_⟩
    cases res with
    | ret v so=>cases so<;>simp [eT]at h1<;>subst h1<;>exact h2
    | pan v so=>cases so<;>simp [eT]at h1<;>subst h1<;>exact h2
 ·rintro ⟨n,res,rr,h1,h2⟩
  cases res with
  | ret v so=>cases so with
    | none=>exact ⟨n,_,by rw [hd,h1];rfl,h2⟩
    | some s'=>exact ⟨n,_,by rw [hd,h1];rfl,h2⟩
  | pan v so=>cases so with
    | none=>exact ⟨n,_,by rw [hd,h1];rfl,h2⟩
    | some s'=>exact ⟨n,_,by rw [hd,h1];rfl,h2⟩
def KO (o:Option CRes) (K:CRes->Prop) (R:Prop):Prop:=match o with
 | some r=>K r
 | none=>R
theorem VW {c:CRes} {K:CRes->Prop} {R:Prop}:KO (some c) K R=K c:=rfl
@[congr] theorem aKn {o o':Option CRes} {K:CRes->Prop} {R:Prop} (h:o=o'):KO o K R=KO o' K R:=by rw [h]
def aNr (P:Program) (O:bN) (fv:AV) (args:List AV) (s:Sto) (K:CRes->Prop):Prop:=∃ n res rr,(match fW P s fv args with
    | some (.fn f args)=>mY P (aO P O n) n f args s .no
    | some (.round l args)=>kO P (aO P O n) n l args s
    | none=>none)=some (res,rr)/\K res
theorem gS {g:FuncId} {first cap args:List AV} {s:Sto} {K:CRes->Prop}:
 Wcall P O (.func (.func g) first cap) args s K↔KO (O g (first++args++cap) s) K (aNr P O (.func (.func g) first cap) args s K):=by
 have hg:CN O (.func (.func g) first cap) args s .no=O g (first++args++cap) s:=rfl
 cases ho:O g (first++args++cap) s with
 | some c=>
   simp only [KO]
   constructor
   ·rintro ⟨n,res,rr,h1,h2⟩
    cases n with
    | zero=>cases h1
    | succ n=>
      simp only [aO,hg,ho]at h1
      simp at h1;obtain ⟨rfl,rfl⟩:=h1;exact h2
   ·intro h
    exact ⟨1,c,.no,by simp only [aO,hg,ho],h⟩
 | none=>
   simp only [KO]
   constructor
   ·rintro ⟨n,res,rr,h1,h2⟩
    cases n with
    | zero=>cases h1
    | succ n=>
      simp only [aO,hg,ho]at h1
      exact ⟨n,res,rr,h1,h2⟩
   ·rintro ⟨n,res,rr,h1,h2⟩
    exact ⟨n+1,res,rr,by simp only [aO,hg,ho];exact h1,h2⟩
end
abbrev kL:=FuncId × (List AV->Sto->Option CRes)
def orcL:List kL->bN
 | [],_,_,_=>none
 | x::L,f,args,s=>bif Nat.beq x.1 f then x.2 args s else orcL L f args s
theorem sJ {f:FuncId} {F:List AV->Sto->Option CRes} {L:List kL} {args:List AV} {s:Sto}:orcL ((f,F)::L) f args s=F args s:=by simp [orcL]
theorem RQ {f g:FuncId} {F:List AV->Sto->Option CRes} {L:List kL} {args:List AV} {s:Sto} (h:g≠f):orcL ((g,F)::L) f args s=orcL L f args s:=by
 have:Nat.beq g f=false:=by
  cases hb:Nat.beq g f with
  | false=>rfl
  | true=>exact absurd (Nat.eq_of_beq_eq_true hb) h
 simp [orcL,this]
def bS (P:Program) (x:kL):Prop:=∀ args s res,x.2 args s=some res->bH P x.1 args s res
theorem kY {P:Program} {L:List kL} (h:∀ x∈L,bS P x):pH P (orcL L):=by
 intro f args s res ho
 induction L with
 | nil=>cases ho
 | cons x L ih=>
   unfold orcL at ho
   cases hb:Nat.beq x.1 f with
   | true=>
     rw [hb]at ho
     have:=h x (List.mem_cons_self ..) args s res ho
     rw [Nat.eq_of_beq_eq_true hb]at this
     exact this
   | false=>rw [hb]at ho;exact ih (fun x hx=>h x (List.mem_cons_of_mem _ hx)) ho
theorem aG {P:Program}:∀ x∈([]:List kL),bS P x:=fun _ h=>nomatch h
theorem elist_cons {P:Program} {x:kL} {L:List kL} (h:bS P x) (h':∀ x∈L,bS P x):∀ y∈x::L,bS P y:=fun y hy=>by
 rcases List.mem_cons.1 hy with rfl | hy
 ·exact h
 ·exact h' y hy
end
end Go.Abs
