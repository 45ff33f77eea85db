/-
  The abstract machine: more fuel, and more that is known of calls, come to the same.
-/
import Derived.Test.YtifmdaalhclhgaaGreatUx
set_option linter.unusedVariables false
set_option linter.unusedSimpArgs false
namespace Go.Abs
section
variable {P:Program}
def CLe (c d:bU):Prop:=∀ fv args s r x,c fv args s r=some x->d fv args s r=some x
theorem CLe.refl (c:bU):CLe c c:=fun _ _ _ _ _ h=>h
theorem CLe.trans {a b c:bU} (h:CLe a b) (h':CLe b c):CLe a c:=fun _ _ _ _ _ x=>h' _ _ _ _ _ (h _ _ _ _ _ x)
variable {c d:bU}
theorem AU (h:CLe c d) {s:Sto} {fv:AV} {args:List AV} {r:ORes} (hd:fK s (c fv args s .no)=some r):fK s (d fv args s .no)=some r:=by
 cases hc:c fv args s .no with
 | none=>rw [hc]at hd;cases hd
 | some x=>rw [h _ _ _ _ _ hc,<-hc];exact hd
theorem jJ (h:CLe c d) {o:Oper} {e:Env} {r:ORes} (hd:gY P c o e=some r):gY P d o e=some r:=by
 unfold gY at hd ⊢
 cases ho:o.op<;>simp only [ho]at hd ⊢<;>first | exact hd | skip
 rename_i cl;obtain ⟨callee,args,ts⟩:=cl
 cases callee with
 | builtin b=>exact hd
 | value f=>exact AU h hd
 | invoke f n=>exact AU h hd
theorem HB (h:CLe c d) {ops:List Oper}:∀ (rest:List Oper) (e:Env) (x:Ex × Env),gT P c ops rest e=some x->gT P d ops rest e=some x:=by
 intro rest
 induction rest with
 | nil=>intro e x hx;exact hx
 | cons o rest ih=>
   intro e x hx;simp only [gT]at hx ⊢;split at hx
   ·cases hx
   ·rename_i hw
    split at hx
    ·exact ih _ _ hx
    ·cases hx
   ·rename_i hw
    cases hd:gY P c o e with
    | none=>rw [hd]at hx;cases hx
    | some r=>
      rw [jJ h hd];rw [hd]at hx
      cases r with
      | val v=>simp only at hx ⊢;split at hx<;>first | exact ih _ _ hx | cases hx
      | val' v s=>simp only at hx ⊢;split at hx<;>first | exact ih _ _ hx | cases hx
      | pan v s=>exact hx
      | defer q=>simp only at hx ⊢;split at hx<;>first | exact ih _ _ hx | cases hx
      | recov=>
        simp only at hx ⊢;split at hx
        ·split at hx<;>first | exact ih _ _ hx | cases hx
        ·split at hx<;>first | exact ih _ _ hx | cases hx
        ·cases hx
theorem OM {x:TrE} {y:Option TrR} {z:TrR} (h:oM x y=some z):∃ l f p,y=some (l,f,p)/\z=(x::l,f,p):=by
 cases y with
 | none=>cases h
 | some y=>obtain ⟨l,f,p⟩:=y;simp only [oM,Option.some.injEq]at h;exact ⟨l,f,p,rfl,h.symm⟩
theorem ON (h:CLe c d) {ops:List Oper}:∀ (rest:List Oper) (i:Nat) (e:Env) (x:TrR),BX P c ops rest i e=some x->BX P d ops rest i e=some x:=by
 intro rest
 induction rest with
 | nil=>intro i e x hx;exact hx
 | cons o rest ih=>
   intro i e x hx
   have key:∀ {y:TrE} {e':Env} {z:TrR},oM y (BX P c ops rest (i+1) e')=some z->oM y (BX P d ops rest (i+1) e')=some z:=by
    intro y e' z hz;obtain ⟨l,f,p,h1,h2⟩:=OM hz;rw [ih _ _ _ h1,<-hz,h1]
   simp only [BX]at hx ⊢;split at hx
   ·cases hx
   ·split at hx
    ·exact key hx
    ·cases hx
   ·cases hd:gY P c o e with
    | none=>rw [hd]at hx;cases hx
    | some r=>
      rw [jJ h hd];rw [hd]at hx
      cases r with
      | val v=>simp only at hx ⊢;split at hx<;>first | exact key hx | cases hx
      | val' v s=>simp only at hx ⊢;split at hx<;>first | exact key hx | cases hx
      | pan v s=>exact hx
      | defer q=>cases hx
      | recov=>cases hx
theorem EG (h:CLe c d) {v:AV} {o:Oper} {e:Env} (hv:isVal v (gY P c o e)=true):isVal v (gY P d o e)=true:=by
 cases hd:gY P c o e with
 | none=>rw [hd]at hv;cases hv
 | some r=>rw [jJ h hd,<-hd];exact hv
theorem KI (h:CLe c d) {n:Nat} {as:List Nat} {ns:List (Nat × Nat)} {x:TrE}:∀ (cs:List Nat) (ss:List Sto),iI P c n as ns x cs ss=true->iI P d n as ns x cs ss=true:=by
 intro cs
 induction cs with
 | nil=>
   intro ss hs
   cases ss with
   | nil=>simp [iI]at hs
   | cons s ss=>
     cases ss with
     | nil=>exact EG h hs
     | cons s' ss=>simp [iI]at hs
 | cons k cs ih=>
   intro ss hs
   cases ss with
   | nil=>simp [iI]at hs
   | cons s ss=>
     simp only [iI,Bool.and_eq_true]at hs ⊢;refine ⟨?_,?_⟩
     ·have:=hs.1
      cases hb:(as.getD x.i 0).testBit k with
      | true=>rfl
      | false=>rw [hb]at this;exact EG h this
     ·have:=hs.2
      cases hb:(as.getD k 0).testBit x.i with
      | true=>rfl
      | false=>rw [hb]at this;exact ih _ this
theorem KJ (h:CLe c d) {n0:Nat} {ns:List (Nat × Nat)} {as cs:List Nat} {x:TrE} (hs:nY P c as n0 ns cs x=true):nY P d as n0 ns cs x=true:=by
 simp only [nY,Bool.and_eq_true,decide_eq_true_eq]at hs ⊢;exact ⟨hs.1,fun s' hs'=>jJ h (hs.2 s' hs')⟩
theorem KK (h:CLe c d) {n0:Nat} {as cs:List Nat} {ss:List Sto} {x:TrE} (hs:qS P c as n0 cs ss x=true):qS P d as n0 cs ss x=true:=by
 simp only [qS,decide_eq_true_eq]at hs ⊢;obtain ⟨m,hm,h1,h2⟩:=hs;exact ⟨m,hm,h1,fun s' hs'=>jJ h (h2 s' hs')⟩
theorem FP (h:CLe c d) {n n0:Nat} {as:List Nat} {l:List TrE} {s:Sto} (hr:eZ P c n n0 as l s=true):eZ P d n n0 as l s=true:=by
 have key:∀ (ns:List (Nat × Nat)) (cs:List Nat) (ss:List Sto) (m:List TrE),kN P c n n0 as ns cs ss m=true->kN P d n n0 as ns cs ss m=true:=by
  intro ns cs ss m
  induction m with
  | nil=>intro _;rfl
  | cons x m ih=>
    intro hm;simp only [kN,Bool.and_eq_true,Bool.or_eq_true]at hm ⊢;refine ⟨?_,ih hm.2⟩
    rcases hm.1 with (((h1 | h1) | h1) | h1) | h1
    ·exact .inl (.inl (.inl (.inl h1)))
    ·exact .inl (.inl (.inl (.inr h1)))
    ·exact .inl (.inl (.inr (KI h _ _ h1)))
    ·exact .inl (.inr (KJ h h1))
    ·exact .inr (KK h h1)
 unfold eZ at hr ⊢;split at hr
 ·rfl
 ·exact key _ _ _ _ hr
theorem TG (h:CLe c d) {ops:List Oper} {e:Env} {x:Ex × Env} (hx:yN P c ops e=some x):yN P d ops e=some x:=by
 unfold yN at hx ⊢
 cases ht:BX P c ops ops 0 e with
 | none=>rw [ht]at hx;cases hx
 | some y=>
   obtain ⟨l,f,p⟩:=y;rw [ON h _ _ _ _ ht];rw [ht]at hx;simp only at hx ⊢
   cases hr:eZ P c f.s.n e.s.n (cJ ops) l f.s with
   | false=>rw [hr]at hx;simp at hx
   | true=>rw [FP h hr,<-hr];exact hx
theorem KL (h:CLe c d) {ops:List Oper} {draw:Bool} {e:Env} {x:Ex × Env} (hx:nZ P c ops draw e=some x):nZ P d ops draw e=some x:=by
 cases draw with
 | true=>exact TG h hx
 | false=>exact HB h _ _ _ hx
theorem AW {f g:Env->Option (Ex × Env)} (h:∀ e x,f e=some x->g e=some x):∀ (n m:Nat) (e:Env) (x:Ex × Env),n<=m->loopGo f n e=some x->loopGo g m e=some x:=by
 intro n
 induction n with
 | zero=>intro m e x _ hx;cases hx
 | succ n ih=>
   intro m e x hm hx
   obtain ⟨m,rfl⟩:∃ k,m=k+1:=⟨m-1,by omega⟩
   simp only [loopGo]at hx ⊢
   cases hf:f e with
   | none=>rw [hf]at hx;cases hx
   | some y=>
     rw [h _ _ hf];rw [hf]at hx;obtain ⟨ex,e'⟩:=y
     cases ex with
     | normal=>exact ih m e' x (by omega) hx
     | _=>exact hx
theorem OO (h:CLe c d) {f:Operand} {ps:Array Tmp} {a b:Code} {e:Env} {x:Ex × Env} (hx:wB c f ps a b e=some x):wB d f ps a b e=some x:=by
 unfold wB at hx ⊢;split at hx
 ·cases hx
 ·simp only at hx ⊢
  rename_i q s1 dd ds hq
  cases hc:c (e.eval f) [.func (.yield s1.n) [] []] (s1.push (.loop .ready none e.fn e.nt e.t ps.toList a b dd)) .no with
  | none=>rw [hc]at hx;cases hx
  | some y=>rw [h _ _ _ _ _ hc,<-hc];exact hx
theorem qF (h:CLe c d) {n m:Nat} (hn:n<=m):∀ (k:Code) (e:Env) (x:Ex × Env),bG P c n k e=some x->bG P d m k e=some x:=by
 intro k
 induction k with
 | region id ops draw=>intro e x hx;exact KL h hx
 | seq a b iha ihb=>
   intro e x hx;simp only [bG]at hx ⊢
   cases ha:bG P c n a e with
   | none=>rw [ha]at hx;cases hx
   | some y=>
     rw [iha _ _ ha];rw [ha]at hx;obtain ⟨ex,e'⟩:=y
     cases ex with
     | normal=>exact ihb _ _ hx
     | _=>exact hx
 | cond q a b iha ihb=>
   intro e x hx;simp only [bG]at hx ⊢;split at hx
   ·exact iha _ _ hx
   ·exact ihb _ _ hx
   ·cases hx
 | block id a iha=>
   intro e x hx;simp only [bG]at hx ⊢
   cases ha:bG P c n a e with
   | none=>rw [ha]at hx;cases hx
   | some y=>rw [iha _ _ ha,<-ha];exact hx
 | loop a iha=>intro e x hx;exact AW iha _ _ _ _ hn hx
 | scope a iha=>
   intro e x hx;simp only [bG]at hx ⊢
   cases ha:bG P c n a e with
   | none=>rw [ha]at hx;cases hx
   | some y=>rw [iha _ _ ha,<-ha];exact hx
 | rangeFunc f ps a b=>intro e x hx;exact OO h hx
 | _=>intro e x hx;exact hx
theorem sQ (h:CLe c d) {fn:Func}:∀ (n m:Nat) (mode:Option AV) (e:Env) (x:LRes × Env),n<=m->dleave P c fn n mode e=some x->dleave P d fn m mode e=some x:=by
 intro n
 induction n with
 | zero=>intro m mode e x _ hx;cases hx
 | succ n ih=>
   intro m mode e x hm hx
   obtain ⟨m,rfl⟩:∃ k,m=k+1:=⟨m-1,by omega⟩
   have hm':n<=m:=by omega
   simp only [dleave]at hx ⊢;split at hx
   ·exact hx
   ·split at hx
    ·exact ih _ _ _ _ hm' hx
    ·cases hx
   ·rename_i fv args ds _
    cases hy:yO fv with
    | true=>rw [hy]at hx;cases hx
    | false=>
      rw [hy]at hx;simp only [cond_false]at hx ⊢
      cases mode with
      | none=>
        simp only at hx ⊢
        cases hc:c fv args e.s .no with
        | none=>rw [hc]at hx;cases hx
        | some y=>
          rw [h _ _ _ _ _ hc];rw [hc]at hx;obtain ⟨res,rr⟩:=y
          cases res<;>cases rr<;>first | exact ih _ _ _ _ hm' hx | cases hx
      | some p=>
        simp only at hx ⊢
        cases hc:c fv args e.s (.pan p) with
        | none=>rw [hc]at hx;cases hx
        | some y=>
          rw [h _ _ _ _ _ hc];rw [hc]at hx;obtain ⟨res,rr⟩:=y
          cases res<;>cases rr<;>first | exact ih _ _ _ _ hm' hx | cases hx
theorem TH (h:CLe c d) {n m:Nat} (hn:n<=m) {f:FuncId} {args:List AV} {s:Sto} {r:ARec} {x:CRes × ARec} (hx:pM P c n f args s r=some x):pM P d m f args s r=some x:=by
 unfold pM at hx ⊢
 cases ho:okFn P f with
 | false=>rw [ho]at hx;cases hx
 | true=>
   rw [ho]at hx;simp only [cond_true]at hx ⊢;split at hx
   ·rename_i fn hfn
    split at hx
    ·rename_i k hk
     cases hc:bG P c n k {nt:=Nat.max args.length fn.ntmps,ro:=none,fn:=f,t:=Tr.leaf.lay 0 args,ds:=[],s:={s with low:=s.n},r:=r} with
     | none=>rw [hc]at hx;cases hx
     | some y=>
       rw [qF h hn _ _ _ hc];rw [hc]at hx;obtain ⟨ex,e'⟩:=y
       cases ex<;>first | (obtain ⟨lr,e'',hl,hf⟩:=tZ hx;simp only [sQ h _ _ _ _ _ hn hl];exact hf) | cases hx
    ·cases hx
   ·cases hx
theorem OP (h:CLe c d) {n m:Nat} (hn:n<=m) {l:Nat} {args:List AV} {s:Sto} {x:CRes × ARec} (hx:lG P c n l args s=some x):lG P d m l args s=some x:=by
 unfold lG at hx ⊢;split at hx
 ·rename_i st pend fn nt t ps a b dd hg
  split at hx
  ·rename_i t' ht
   cases hc:bG P c n a {nt:=nt,ro:=some l,fn:=fn,t:=t',ds:=[],s:={s with low:=s.n},r:=.no} with
   | none=>rw [hc]at hx;cases hx
   | some y=>
     rw [qF h hn _ _ _ hc];rw [hc]at hx;obtain ⟨ex,e'⟩:=y
     cases ex with
     | normal=>
       simp only at hx ⊢;split at hx
       ·rename_i pend' fn' nt' t'' ps' a' b' d' hg'
        cases hc':bG P c n b {e' with s:=e'.s.put l (.loop .busy pend' fn' nt' t'' ps' a' b' d')} with
        | none=>rw [hc']at hx;cases hx
        | some y=>
          rw [qF h hn _ _ _ hc',<-hc'];exact hx
       ·cases hx
     | _=>cases hx
  ·cases hx
 ·cases hx
theorem gE {O:Orc}:∀ (n m:Nat),n<=m->CLe (aS P O n) (aS P O m):=by
 intro n
 induction n with
 | zero=>intro m _ fv args s r x hx;cases hx
 | succ n ih=>
   intro m hm fv args s r x hx
   obtain ⟨m,rfl⟩:∃ k,m=k+1:=⟨m-1,by omega⟩
   have hm':n<=m:=by omega
   simp only [aS]at hx ⊢;split at hx
   ·exact hx
   ·split at hx
    ·exact TH (ih m hm') hm' hx
    ·cases r<;>first | exact OP (ih m hm') hm' hx | cases hx
    ·cases hx
end
end Go.Abs
/-
 The abstract machine: what must hold for a piece of code to end so;rules for a walk by 'simp'.
-/
namespace Go.Abs
noncomputable section
def Tr.val (t:Tr AV) (i:Nat):AV:=(t.get i).getD .top
theorem Tr.val_set_same (t:Tr AV) (i:Nat) (a:AV):(t.set i a).val i=a:=by simp [Tr.val,Tr.get_set]
theorem Tr.val_set_ne (t:Tr AV) (i j:Nat) (a:AV) (h:j≠i):(t.set i a).val j=t.val j:=by simp [Tr.val,Tr.get_set,h]
theorem Env.eval_tmp (e:Env) (i:Nat):e.eval (.tmp i)=e.t.val i:=by
 simp only [Env.eval,Tr.val];cases e.t.get i<;>rfl
def mZ (o:Option AV) (K:ORes->Prop):Prop:=∃ v,o=some v/\K (.val v)
def OQ (o:Option Sto) (K:ORes->Prop):Prop:=∃ s,o=some s/\K (.val' .undef s)
def rJ (o:Option ORes) (K:ORes->Prop):Prop:=∃ r,o=some r/\K r
theorem OR {v:AV} {K:ORes->Prop}:mZ (some v) K↔K (.val v):=by simp [mZ]
theorem aGy {s:Sto} {K:ORes->Prop}:OQ (some s) K↔K (.val' .undef s):=by simp [OQ]
theorem aGz {r:ORes} {K:ORes->Prop}:rJ (some r) K↔K r:=by simp [rJ]
@[congr] theorem aRi {o o':Option AV} {K:ORes->Prop} (h:o=o'):mZ o K=mZ o' K:=by rw [h]
@[congr] theorem aRj {o o':Option Sto} {K:ORes->Prop} (h:o=o'):OQ o K=OQ o' K:=by rw [h]
@[congr] theorem aRk {o o':Option ORes} {K:ORes->Prop} (h:o=o'):rJ o K=rJ o' K:=by rw [h]
section
variable (P:Program) (O:Orc)
def W (c:Code) (e:Env) (Q:Ex->Env->Prop):Prop:=∃ n ex e',bG P (aS P O n) n c e=some (ex,e')/\Q ex e'
def Wo (ops rest:List Oper) (e:Env) (Q:Ex->Env->Prop):Prop:=∃ n ex e',gT P (aS P O n) ops rest e=some (ex,e')/\Q ex e'
def eN (call:bU) (op:Op) (e:Env):Option ORes:=gY P call {dst:=none,op:=op,type:=0,pos:= "",after:=#[],guard:=none} e
def dW (op:Op) (e:Env) (K:ORes->Prop):Prop:=∃ n r,eN P (aS P O n) op e=some r/\K r
def Wcall (fv:AV) (args:List AV) (s:Sto) (K:CRes->Prop):Prop:=∃ n res rr,aS P O n fv args s .no=some (res,rr)/\K res
variable {P O}
theorem W.mono {c:Code} {e:Env} {Q Q':Ex->Env->Prop} (h:W P O c e Q) (hQ:∀ ex e',Q ex e'->Q' ex e'):W P O c e Q':=by
 obtain ⟨n,ex,e',h1,h2⟩:=h;exact ⟨n,ex,e',h1,hQ _ _ h2⟩
@[congr] theorem aUk {c:Code} {e e':Env} {Q:Ex->Env->Prop} (h:e=e'):W P O c e Q=W P O c e' Q:=by rw [h]
@[congr] theorem aTo {ops rest:List Oper} {e e':Env} {Q:Ex->Env->Prop} (h:e=e'):Wo P O ops rest e Q=Wo P O ops rest e' Q:=by rw [h]
@[congr] theorem aRl {op:Op} {e e':Env} {K:ORes->Prop} (h:e=e'):dW P O op e K=dW P O op e' K:=by rw [h]
@[congr] theorem aNw {fv fv':AV} {args args':List AV} {s s':Sto} {K:CRes->Prop} (h:fv=fv') (h':args=args') (h'':s=s'):Wcall P O fv args s K=Wcall P O fv' args' s' K:=by rw [h,h',h'']
theorem nS {n m:Nat} (h:n<=m) {c:Code} {e:Env} {x:Ex × Env} (hx:bG P (aS P O n) n c e=some x):bG P (aS P O m) m c e=some x:=qF (gE n m h) h c e x hx
def aQd (P:Program) (O:Orc) (b:Code) (Q:Ex->Env->Prop):Ex->Env->Prop
 | .normal,e=>W P O b e Q
 | ex,e=>Q ex e
theorem aTp {a b:Code} {e:Env} {Q:Ex->Env->Prop}:W P O (.seq a b) e Q↔W P O a e (aQd P O b Q):=by
 constructor
 ·rintro ⟨n,ex,e',h,hQ⟩
  simp only [bG]at h
  cases ha:bG P (aS P O n) n a e with
  | none=>rw [ha]at h;cases h
  | some y=>
    obtain ⟨ex1,e1⟩:=y;rw [ha]at h;refine ⟨n,ex1,e1,ha,?_⟩
    cases ex1 with
    | normal=>exact ⟨n,ex,e',h,hQ⟩
    | _=>simp at h;obtain ⟨rfl,rfl⟩:=h;exact hQ
 ·rintro ⟨n,ex,e',h,hQ⟩
  cases ex with
  | normal=>
    obtain ⟨m,ex2,e2,h2,hQ2⟩:=hQ;refine ⟨max n m,ex2,e2,?_,hQ2⟩;simp only [bG,nS (Nat.le_max_left n m) h,nS (Nat.le_max_right n m) h2]
  | _=>exact ⟨n,_,e',by simp only [bG,h],hQ⟩
def fH (id:Nat) (Q:Ex->Env->Prop):Ex->Env->Prop
 | .exit i,e=>bif Nat.beq i id then Q .normal e else Q (.exit i) e
 | ex,e=>Q ex e
theorem aLz {id:Nat} {c:Code} {e:Env} {Q:Ex->Env->Prop}:W P O (.block id c) e Q↔W P O c e (fH id Q):=by
 constructor
 ·rintro ⟨n,ex,e',h,hQ⟩
  simp only [bG]at h
  cases ha:bG P (aS P O n) n c e with
  | none=>rw [ha]at h;cases h
  | some y=>
    obtain ⟨ex1,e1⟩:=y;rw [ha]at h;refine ⟨n,ex1,e1,ha,?_⟩
    cases ex1 with
    | exit i=>
      simp only [fH]at h ⊢;cases hb:Nat.beq i id<;>rw [hb]at h<;>simp at h<;>obtain ⟨rfl,rfl⟩:=h<;>exact hQ
    | _=>simp at h;obtain ⟨rfl,rfl⟩:=h;exact hQ
 ·rintro ⟨n,ex,e',h,hQ⟩
  cases ex with
  | exit i=>
    simp only [fH]at hQ;cases hb:Nat.beq i id<;>rw [hb]at hQ
    ·exact ⟨n,_,e',by simp only [bG,h,hb,cond_false],hQ⟩
    ·exact ⟨n,_,e',by simp only [bG,h,hb,cond_true],hQ⟩
  | _=>exact ⟨n,_,e',by simp only [bG,h],hQ⟩
theorem FQ {id:Nat} {Q:Ex->Env->Prop} {e:Env}:fH id Q .normal e=Q .normal e:=rfl
theorem OS {id:Nat} {Q:Ex->Env->Prop} {e:Env}:fH id Q (.exit id) e=Q .normal e:=by simp [fH]
theorem ZQ {id i:Nat} {Q:Ex->Env->Prop} {e:Env} (h:i≠id):fH id Q (.exit i) e=Q (.exit i) e:=by
 simp only [fH]
 have:Nat.beq i id=false:=by
  cases hb:Nat.beq i id with
  | false=>rfl
  | true=>exact absurd (Nat.eq_of_beq_eq_true hb) h
 rw [this];rfl
theorem TI {id:Nat} {Q:Ex->Env->Prop} {e:Env}:fH id Q .ret e=Q .ret e:=rfl
theorem KM {id:Nat} {Q:Ex->Env->Prop} {e:Env} {v:AV}:fH id Q (.panic v) e=Q (.panic v) e:=rfl
def aHa (P:Program) (O:Orc) (v:AV) (x y:Code) (e:Env) (Q:Ex->Env->Prop):Prop:=(v=.bool true/\W P O x e Q)∨(v=.bool false/\W P O y e Q)
@[congr] theorem aNx {v v':AV} {x y:Code} {e:Env} {Q:Ex->Env->Prop} (h:v=v'):aHa P O v x y e Q=aHa P O v' x y e Q:=by rw [h]
theorem aQe {c:Operand} {x y:Code} {e:Env} {Q:Ex->Env->Prop}:W P O (.cond c x y) e Q↔aHa P O (e.eval c) x y e Q:=by
 constructor
 ·rintro ⟨n,ex,e',h,hQ⟩
  simp only [bG]at h;split at h
  ·rename_i hc;exact .inl ⟨hc,n,ex,e',h,hQ⟩
  ·rename_i hc;exact .inr ⟨hc,n,ex,e',h,hQ⟩
  ·cases h
 ·rintro (⟨hc,n,ex,e',h,hQ⟩ | ⟨hc,n,ex,e',h,hQ⟩)
  ·exact ⟨n,ex,e',by simp only [bG,hc,h],hQ⟩
  ·exact ⟨n,ex,e',by simp only [bG,hc,h],hQ⟩
theorem aQf {e:Env} {Q:Ex->Env->Prop}:W P O .skip e Q↔Q .normal e:=⟨fun ⟨n,ex,e',h,hQ⟩=>by simp [bG]at h;obtain ⟨rfl,rfl⟩:=h;exact hQ,fun h=>⟨0,_,_,rfl,h⟩⟩
theorem aMa {l:Nat} {e:Env} {Q:Ex->Env->Prop}:W P O (.label l) e Q↔Q .normal e:=⟨fun ⟨n,ex,e',h,hQ⟩=>by simp [bG]at h;obtain ⟨rfl,rfl⟩:=h;exact hQ,fun h=>⟨0,_,_,rfl,h⟩⟩
theorem aQg {i:Nat} {e:Env} {Q:Ex->Env->Prop}:W P O (.exit i) e Q↔Q (.exit i) e:=⟨fun ⟨n,ex,e',h,hQ⟩=>by simp [bG]at h;obtain ⟨rfl,rfl⟩:=h;exact hQ,fun h=>⟨0,_,_,rfl,h⟩⟩
theorem aTq {e:Env} {Q:Ex->Env->Prop}:W P O .ret e Q↔Q .ret e:=⟨fun ⟨n,ex,e',h,hQ⟩=>by simp [bG]at h;obtain ⟨rfl,rfl⟩:=h;exact hQ,fun h=>⟨0,_,_,rfl,h⟩⟩
theorem OU {f:Env->Option (Ex × Env)} (hf:∀ e l e',f e≠some (.goto l,e')):∀ (n:Nat) (e:Env) (l:Nat) (e':Env),loopGo f n e≠some (.goto l,e'):=by
 intro n
 induction n with
 | zero=>intro e l e' h;cases h
 | succ n ih=>
   intro e l e' h;simp only [loopGo]at h;split at h
   ·exact ih _ _ _ h
   ·exact hf _ _ _ h
theorem ZR {call:bU} {ops:List Oper}:∀ (rest:List Oper) (e:Env) (l:Nat) (e':Env),gT P call ops rest e≠some (.goto l,e'):=by
 intro rest
 induction rest with
 | nil=>intro e l e' h;cases h
 | cons o rest ih=>
   intro e l e' h;simp only [gT]at h;split at h
   ·cases h
   ·split at h
    ·exact ih _ _ _ h
    ·cases h
   ·split at h
    ·cases h
    ·split at h<;>first | exact ih _ _ _ h | cases h
    ·split at h<;>first | exact ih _ _ _ h | cases h
    ·cases h
    ·split at h<;>first | exact ih _ _ _ h | cases h
    ·split at h
     ·split at h<;>first | exact ih _ _ _ h | cases h
     ·split at h<;>first | exact ih _ _ _ h | cases h
     ·cases h
theorem TJ {call:bU} {n:Nat}:∀ (c:Code) (e:Env) (l:Nat) (e':Env),bG P call n c e≠some (.goto l,e'):=by
 intro c
 induction c with
 | region id ops draw=>
   intro e l e' h
   cases draw with
   | false=>exact ZR _ _ _ _ h
   | true=>
     simp only [bG,nZ,cond_true,yN]at h;split at h
     ·cases h
     ·rename_i m f p htr
      cases hcond:(P.follows .mixedOrders&&nJ ops.toList&&fM (cJ ops.toList) (dK m)&&tB (cJ ops.toList) (kF m) (dK m)&&gU m f.s.n&&iV m&&eZ P call f.s.n e.s.n (cJ ops.toList) m f.s) with
      | false=>rw [hcond]at h;cases h
      | true=>
        rw [hcond]at h;simp only [cond_true]at h;split at h
        ·cases h
        ·cases hl:jT (cJ ops.toList) (m.length-1) ops.toList 0<;>rw [hl]at h<;>cases h
 | seq a b iha ihb=>
   intro e l e' h;simp only [bG]at h;split at h
   ·exact ihb _ _ _ h
   ·exact iha _ _ _ h
 | cond q a b iha ihb=>
   intro e l e' h;simp only [bG]at h;split at h
   ·exact iha _ _ _ h
   ·exact ihb _ _ _ h
   ·cases h
 | block id a iha=>
   intro e l e' h;simp only [bG]at h;split at h
   ·simp only [Bool.cond_eq_ite]at h
    split at h<;>cases h
   ·exact iha _ _ _ h
 | loop a iha=>intro e l e' h;exact OU iha _ _ _ _ h
 | scope a iha=>
   intro e l e' h;simp only [bG]at h;split at h
   ·cases h
   ·exact iha _ _ _ h
 | rangeFunc f ps a b=>
   intro e l e' h;simp only [bG,wB]at h;split at h
   ·cases h
   ·try simp only at h
    split at h
    ·simp only [dY]at h
     split at h
     ·split at h
      ·cases h
      ·try simp only at h
       split at h<;>cases h
     ·cases h
    ·cases h
    ·cases h
 | _=>intro e l e' h;cases h
theorem aMb {c:Code} {e:Env} {Q:Ex->Env->Prop}:W P O (.scope c) e Q↔W P O c e Q:=by
 constructor
 ·rintro ⟨n,ex,e',h,hQ⟩
  simp only [bG]at h;split at h
  ·cases h
  ·exact ⟨n,ex,e',h,hQ⟩
 ·rintro ⟨n,ex,e',h,hQ⟩
  refine ⟨n,ex,e',?_,hQ⟩;simp only [bG,h];split
  ·rename_i h1;simp at h1;obtain ⟨rfl,_⟩:=h1;exact absurd h (TJ _ _ _ _)
  ·rfl
theorem aQh {α:Type} (I:α->Env->Prop) (m:α->Nat) (a:α) {c:Code} {e:Env} {Q:Ex->Env->Prop} (h0:I a e)
 (hs:∀ a e,I a e->W P O c e fun ex e'=>match ex with | .normal=>∃ a',m a'<m a/\I a' e' | ex=>Q ex e'):W P O (.loop c) e Q:=by
 generalize hk:m a=k
 induction k using Nat.strongRecOn generalizing a e with
 | _ k ih=>
   obtain ⟨n,ex,e',h,hQ⟩:=hs a e h0
   have key:∀ ex,ex≠.normal->bG P (aS P O n) n c e=some (ex,e')->Q ex e'->W P O (.loop c) e Q:=by
    intro ex hne h hQ;refine ⟨n+1,ex,e',?_,hQ⟩;simp only [bG,loopGo];rw [nS (Nat.le_succ n) h]
    cases ex<;>first | rfl | exact absurd rfl hne
   cases ex with
   | normal=>
     obtain ⟨a',hlt,hI⟩:=hQ;obtain ⟨n2,ex2,e2,h2,hQ2⟩:=ih (m a') (by omega) a' hI rfl;refine ⟨max n n2+1,ex2,e2,?_,hQ2⟩;simp only [bG,loopGo];rw [nS (by omega) h];simp only [bG]at h2;exact AW (fun e x hx=>nS (by omega) hx) _ _ _ _ (by omega) h2
   | _=>exact key _ (by simp) h hQ
theorem aHb {i:Nat} {l:List Oper} {e:Env} {Q:Ex->Env->Prop}:W P O (.region i l.toArray false) e Q↔Wo P O l l e Q:=by
 simp only [W,Wo,bG,nZ,cond_false]
def eG (P:Program) (O:Orc) (ops:List Oper) (dst:Option Tmp) (rest:List Oper) (e:Env) (Q:Ex->Env->Prop):ORes->Prop
 | .val v=>∃ e',e.put dst v=some e'/\Wo P O ops rest e' Q
 | .val' v s=>∃ e',(e.setS s).put dst v=some e'/\Wo P O ops rest e' Q
 | .pan v s=>Q (.panic v) {e with s:=s}
 | .defer d=>∃ e',(e.setDs (d::e.ds)).put dst .undef=some e'/\Wo P O ops rest e' Q
 | .recov=>match e.ro,e.r with
   | none,.pan v=>∃ e',(e.setR (.recd v)).put dst v=some e'/\Wo P O ops rest e' Q
   | none,_=>∃ e',e.put dst .nili=some e'/\Wo P O ops rest e' Q
   | some _,_=>False
@[congr] theorem aQi {ops:List Oper} {dst:Option Tmp} {rest:List Oper} {e:Env} {Q:Ex->Env->Prop} {r r':ORes} (h':r=r'):eG P O ops dst rest e Q r=eG P O ops dst rest e Q r':=by rw [h']
@[congr] theorem aQj {b:Code} {Q:Ex->Env->Prop} {x x':Ex} {e e':Env} (h:x=x') (h':e=e'):aQd P O b Q x e=aQd P O b Q x' e':=by rw [h,h']
@[congr] theorem aMc {i:Nat} {Q:Ex->Env->Prop} {x x':Ex} {e e':Env} (h:x=x') (h':e=e'):fH i Q x e=fH i Q x' e':=by rw [h,h']
theorem aQk {ops:List Oper} {e:Env} {Q:Ex->Env->Prop}:Wo P O ops [] e Q↔Q .normal e:=⟨fun ⟨n,ex,e',h,hQ⟩=>by simp [gT]at h;obtain ⟨rfl,rfl⟩:=h;exact hQ,fun h=>⟨0,_,_,rfl,h⟩⟩
theorem aHc {ops:List Oper} {o:Oper} {rest:List Oper} {e:Env} {Q:Ex->Env->Prop} (hw:cR ops o e=some true):Wo P O ops (o::rest) e Q↔dW P O o.op e (eG P O ops o.dst rest e Q):=by
 have hle:∀ {n m:Nat},n<=m->∀ {l:List Oper} {e:Env} {x:Ex × Env},gT P (aS P O n) ops l e=some x->gT P (aS P O m) ops l e=some x:=fun h _ _ _ hx=>HB (gE _ _ h) _ _ _ hx
 have hop:∀ {n m:Nat},n<=m->∀ {r:ORes},gY P (aS P O n) o e=some r->gY P (aS P O m) o e=some r:=fun h _ hx=>jJ (gE _ _ h) hx
 constructor
 ·rintro ⟨n,ex,e',h,hQ⟩
  simp only [gT,hw]at h
  cases hd:gY P (aS P O n) o e with
  | none=>rw [hd]at h;cases h
  | some r=>
    rw [hd]at h;refine ⟨n,r,hd,?_⟩
    cases r with
    | val v=>simp only at h;split at h<;>first | exact ⟨_,by assumption,n,ex,e',h,hQ⟩ | cases h
    | val' v s=>simp only at h;split at h<;>first | exact ⟨_,by assumption,n,ex,e',h,hQ⟩ | cases h
    | pan v s=>simp at h;obtain ⟨rfl,rfl⟩:=h;exact hQ
    | defer q=>simp only at h;split at h<;>first | exact ⟨_,by assumption,n,ex,e',h,hQ⟩ | cases h
    | recov=>
      simp only at h;simp only [eG];split at h
      ·rename_i h1 h2;simp only [h1,h2]
       split at h<;>first | exact ⟨_,by assumption,n,ex,e',h,hQ⟩ | cases h
      ·rename_i h1 h2
       have:∃ e',e.put o.dst .nili=some e'/\Wo P O ops rest e' Q:=by
        split at h<;>first | exact ⟨_,by assumption,n,ex,e',h,hQ⟩ | cases h
       rw [h1]
       cases hr:e.r with
       | pan v=>exact absurd hr (h2 v)
       | _=>exact this
      ·cases h
 ·rintro ⟨n,r,hd,hK⟩
  have hd':gY P (aS P O n) o e=some r:=hd
  have key:∀ {m:Nat} {ex:Ex} {e1 e':Env},gT P (aS P O m) ops rest e1=some (ex,e')->Q ex e'->(∀ k,max n m=k->gY P (aS P O k) o e=some r->gT P (aS P O k) ops rest e1=some (ex,e')->gT P (aS P O k) ops (o::rest) e=some (ex,e'))->Wo P O ops (o::rest) e Q:=
   fun h1 h2 h3=>⟨_,_,_,h3 _ rfl (hop (Nat.le_max_left _ _) hd') (hle (Nat.le_max_right _ _) h1),h2⟩
  cases r with
  | val v=>obtain ⟨e1,hp,m,ex,e',h1,h2⟩:=hK;exact key h1 h2 fun k _ g1 g2=>by simp only [gT,hw,g1,hp,g2]
  | val' v s=>obtain ⟨e1,hp,m,ex,e',h1,h2⟩:=hK;exact key h1 h2 fun k _ g1 g2=>by simp only [gT,hw,g1,hp,g2]
  | pan v s=>exact ⟨n,_,_,by simp only [gT,hw,hd'],hK⟩
  | defer q=>obtain ⟨e1,hp,m,ex,e',h1,h2⟩:=hK;exact key h1 h2 fun k _ g1 g2=>by simp only [gT,hw,g1,hp,g2]
  | recov=>
    simp only [eG]at hK;split at hK
    ·rename_i q1 q2
     obtain ⟨e1,hp,m,ex,e',h1,h2⟩:=hK;exact key h1 h2 fun k _ g1 g2=>by simp only [gT,hw,g1,q1,q2,hp,g2]
    ·rename_i q1 q2
     obtain ⟨e1,hp,m,ex,e',h1,h2⟩:=hK
     refine key h1 h2 fun k _ g1 g2=>?_
     simp only [gT,hw,g1,q1]
     cases hr:e.r with
     | pan v=>exact absurd hr (q2 v)
     | _=>simp only [hp,g2]
    ·exact hK.elim
theorem KN {ops:List Oper} {o:Oper} {rest:List Oper} {e:Env} {Q:Ex->Env->Prop} (hw:cR ops o e=some false):Wo P O ops (o::rest) e Q↔∃ e',e.put o.dst .undef=some e'/\Wo P O ops rest e' Q:=by
 constructor
 ·rintro ⟨n,ex,e',h,hQ⟩
  simp only [gT,hw]at h;split at h
  ·rename_i hp;exact ⟨_,hp,n,ex,e',h,hQ⟩
  ·cases h
 ·rintro ⟨e1,hp,n,ex,e',h,hQ⟩
  exact ⟨n,ex,e',by simp only [gT,hw,hp,h],hQ⟩
theorem aMd {ops:List Oper} {dst:Option Tmp} {op:Op} {ty:TypeId} {pos:String} {after:Array Edge} {rest:List Oper} {e:Env} {Q:Ex->Env->Prop}:
 Wo P O ops ({dst:=dst,op:=op,type:=ty,pos:=pos,after:=after,guard:=none}::rest) e Q↔dW P O op e (eG P O ops dst rest e Q):=aHc rfl
def guardK (P:Program) (O:Orc) (v:AV) (want:Bool) (op:Op) (ops:List Oper) (dst:Option Tmp) (rest:List Oper) (e:Env) (Q:Ex->Env->Prop):Prop:=match v with
 | .bool b=>(b=want->dW P O op e (eG P O ops dst rest e Q))/\(b = !want->eG P O ops dst rest e Q (.val .undef))
 | .tuple _=>eG P O ops dst rest e Q (.val .undef)
 | _=>False
section
variable {want:Bool} {op:Op} {ops:List Oper} {dst:Option Tmp} {rest:List Oper} {e:Env} {Q:Ex->Env->Prop}
@[congr] theorem aMe {v v':AV} (h:v=v'):guardK P O v want op ops dst rest e Q=guardK P O v' want op ops dst rest e Q:=by rw [h]
theorem ZS:guardK P O (.bool true) true op ops dst rest e Q↔dW P O op e (eG P O ops dst rest e Q):=by simp [guardK]
theorem ZT:guardK P O (.bool true) false op ops dst rest e Q↔eG P O ops dst rest e Q (.val .undef):=by simp [guardK]
theorem ZU:guardK P O (.bool false) true op ops dst rest e Q↔eG P O ops dst rest e Q (.val .undef):=by simp [guardK]
theorem ZV:guardK P O (.bool false) false op ops dst rest e Q↔dW P O op e (eG P O ops dst rest e Q):=by simp [guardK]
theorem ZW {b:Bool}:guardK P O (.bool b) true op ops dst rest e Q↔(b=true->dW P O op e (eG P O ops dst rest e Q))/\(b=false->eG P O ops dst rest e Q (.val .undef)):=.rfl
theorem ZX {b:Bool}:guardK P O (.bool b) false op ops dst rest e Q↔(b=false->dW P O op e (eG P O ops dst rest e Q))/\(b=true->eG P O ops dst rest e Q (.val .undef)):=.rfl
theorem KO {l:List AV}:guardK P O (.tuple l) want op ops dst rest e Q↔eG P O ops dst rest e Q (.val .undef):=.rfl
end
def FR:List Oper->Nat->Option Nat
 | [],_=>none
 | o::_,0=>o.dst
 | _::l,n+1=>FR l n
theorem KP:∀ (ops:List Oper) (j:Nat),FR ops j=ops[j]?.bind (·.dst)
 | [],_=>rfl
 | o::_,0=>rfl
 | _::l,n+1=>by simp only [FR,List.getElem?_cons_succ];exact KP l n
def ZY (t:Tr AV):Option Nat->AV
 | some d=>t.val d
 | none=>.tuple []
theorem aHd {ops:List Oper} {dst:Option Tmp} {op:Op} {ty:TypeId} {pos:String} {after:Array Edge} {j:Nat} {want:Bool} {rest:List Oper} {e:Env} {Q:Ex->Env->Prop}:
 Wo P O ops ({dst:=dst,op:=op,type:=ty,pos:=pos,after:=after,guard:=some (j,want)}::rest) e Q↔
  guardK P O (ZY e.t (FR ops j)) want op ops dst rest e Q:=by
 rw [KP]
 cases hd:ops[j]?.bind (·.dst) with
 | none=>
   have haw:cR ops {dst:=dst,op:=op,type:=ty,pos:=pos,after:=after,guard:=some (j,want)} e=some false:=by
    simp only [cR]
    cases hj:ops[j]? with
    | none=>rfl
    | some g=>rw [hj]at hd;simp only [Option.bind_some]at hd;simp only [hd]
   rw [KN haw];rfl
 | some d=>
 show _↔guardK P O (e.t.val d) want op ops dst rest e Q
 have haw:cR ops {dst:=dst,op:=op,type:=ty,pos:=pos,after:=after,guard:=some (j,want)} e=match e.t.get d with | some (.bool b)=>some (b==want) | some (.tuple _)=>some false | _=>none:=by
  simp only [cR]
  cases hj:ops[j]? with
  | none=>rw [hj]at hd;cases hd
  | some g=>rw [hj]at hd;simp only [Option.bind_some]at hd;simp only [hd];cases e.t.get d with | none=>rfl | some v=>cases v<;>rfl
 cases ht:e.t.get d with
 | none=>
   have hv:e.t.val d=.top:=by simp [Tr.val,ht]
   rw [hv];rw [ht]at haw;refine ⟨fun ⟨n,ex,e',h,hQ⟩=>?_,fun h=>h.elim⟩;simp only [gT,haw]at h;cases h
 | some v=>
   have hv:e.t.val d=v:=by simp [Tr.val,ht]
   rw [hv];rw [ht]at haw;clear hv ht
   cases v with
   | bool b=>
     simp only at haw
     cases hb:(b==want) with
     | true=>
       rw [hb]at haw
       have:b=want:=by simpa using hb
       subst this;rw [aHc haw];simp [guardK]
     | false=>
       rw [hb]at haw;rw [KN haw]
       have:b≠want:=by simpa using hb
       have h2:b = !want:=by cases b<;>cases want<;>simp_all
       simp [guardK,h2];rfl
   | tuple l=>rw [KN haw];rfl
   | _=>exact ⟨fun ⟨n,ex,e',h,hQ⟩=>by (simp only [gT,haw]at h;cases h),fun h=>h.elim⟩
theorem xX {nt:Nat} {ro:Option Nat} {fn:FuncId} {t:Tr AV} {ds:List ADef} {s:Sto} {r:ARec} {d:Nat} {v:AV} {R:Env->Prop} (h:d<nt):
 (∃ e',(Env.mk nt ro fn t ds s r).put (some d) v=some e'/\R e')↔R ⟨nt,ro,fn,t.set d v,ds,s,r⟩:=by
 have:(Env.mk nt ro fn t ds s r).put (some d) v=some ⟨nt,ro,fn,t.set d v,ds,s,r⟩:=by
  simp only [Env.put]
  have:Nat.blt d nt=true:=by simpa using h
  rw [this];rfl
 rw [this];simp
theorem xY {e:Env} {v:AV} {R:Env->Prop}:(∃ e',e.put none v=some e'/\R e')↔R e:=by simp [Env.put]
variable {nt:Nat} {ro:Option Nat} {fn:FuncId} {t:Tr AV} {ds:List ADef} {s:Sto} {r:ARec} {ops rest:List Oper} {Q:Ex->Env->Prop}
theorem aHe {d:Nat} {v:AV} (h:d<nt):eG P O ops (some d) rest ⟨nt,ro,fn,t,ds,s,r⟩ Q (.val v)↔Wo P O ops rest ⟨nt,ro,fn,t.set d v,ds,s,r⟩ Q:=xX h
theorem ZZ {e:Env} {v:AV}:eG P O ops none rest e Q (.val v)↔Wo P O ops rest e Q:=xY
theorem aAa {d:Nat} {v:AV} {s':Sto} (h:d<nt):eG P O ops (some d) rest ⟨nt,ro,fn,t,ds,s,r⟩ Q (.val' v s')↔Wo P O ops rest ⟨nt,ro,fn,t.set d v,ds,s',r⟩ Q:=xX h
theorem TK {v:AV} {s':Sto}:eG P O ops none rest ⟨nt,ro,fn,t,ds,s,r⟩ Q (.val' v s')↔Wo P O ops rest ⟨nt,ro,fn,t,ds,s',r⟩ Q:=xY
theorem aHf {dst:Option Tmp} {v:AV} {s':Sto}:eG P O ops dst rest ⟨nt,ro,fn,t,ds,s,r⟩ Q (.pan v s')↔Q (.panic v) ⟨nt,ro,fn,t,ds,s',r⟩:=.rfl
theorem oH {op:Op} {e:Env} {K:ORes->Prop} {r:Option ORes} (h:∀ call,eN P call op e=r):dW P O op e K↔rJ r K:=by
 constructor
 ·rintro ⟨n,x,h1,h2⟩;exact ⟨x,by rw [<-h1,h],h2⟩
 ·rintro ⟨x,h1,h2⟩;exact ⟨0,x,by rw [h,h1],h2⟩
theorem eS {op:Op} {e:Env} {K:ORes->Prop} {x:Option AV} (h:∀ call,eN P call op e=valO x):dW P O op e K↔mZ (x) K:=by
 rw [oH h];cases x<;>simp [valO,mZ,rJ]
theorem HC {op:Op} {e:Env} {K:ORes->Prop} {x:Option Sto} (h:∀ call,eN P call op e=skipO x):dW P O op e K↔OQ (x) K:=by
 rw [oH h];cases x<;>simp [skipO,OQ,rJ]
variable {e:Env} {K:ORes->Prop}
theorem aHg {x:Operand}:dW P O (.move x) e K↔K (.val (e.eval x)):=by rw [oH (r:=some (.val (e.eval x))) fun _=>rfl];simp [rJ]
theorem TL {x:Operand}:dW P O (.assign x) e K↔K (.val (e.eval x)):=by rw [oH (r:=some (.val (e.eval x))) fun _=>rfl];simp [rJ]
def WT (c a b:AV):Option AV:=match c with
 | .bool true=>some a
 | .bool false=>some b
 | _=>none
theorem aHh {c a b:Operand}:dW P O (.pick c a b) e K↔mZ (WT (e.eval c) (e.eval a) (e.eval b)) K:=by
 refine eS fun call=>?_
 show eN P call (.pick c a b) e=_;simp only [eN,gY]
 cases h:e.eval c with
 | bool b=>cases b<;>rfl
 | _=>rfl
theorem aAb {op:BinOp} {ty uy:TypeId} {x y:Operand}:dW P O (.binOp op ty x y uy) e K↔mZ (cZ P op ty x y (e.eval x) (e.eval y)) K:=eS fun _=>rfl
theorem aHi {op:UnOp} {ty:TypeId} {x:Operand}:dW P O (.unOp op ty x) e K↔mZ (aun op (e.eval x)) K:=eS fun _=>rfl
theorem aHj {ty:TypeId} {a:Operand}:dW P O (.load ty a) e K↔mZ (eV P e.s ty (e.eval a)) K:=eS fun _=>rfl
theorem aAc {ty:TypeId} {a x:Operand}:dW P O (.store ty a x) e K↔OQ (lE P e.s ty (e.eval a) (e.eval x)) K:=HC fun _=>rfl
theorem aAd {ty:TypeId} {x:Operand} {lo hi mx:Option Operand}:dW P O (.slice ty x lo hi mx) e K↔mZ (eI P ty (e.eval x) (lo.map e.eval) (hi.map e.eval) (mx.map e.eval)) K:=eS fun _=>rfl
theorem FS {ty:TypeId} {x:Operand} {f:Nat}:dW P O (.fieldAddr ty x f) e K↔mZ (bY P ty (e.eval x) f) K:=eS fun _=>rfl
theorem aAe {ty:TypeId} {x:Operand} {f:Nat}:dW P O (.field ty x f) e K↔mZ (oL P ty (e.eval x) f) K:=eS fun _=>rfl
theorem FT {ty:TypeId} {x i:Operand}:dW P O (.indexAddr ty x i) e K↔mZ (bR P ty (e.eval x) (e.eval i)) K:=eS fun _=>rfl
theorem aAf {ty:TypeId} {x i:Operand}:dW P O (.index ty x i) e K↔mZ (qP P ty (e.eval x) (e.eval i)) K:=eS fun _=>rfl
theorem TM {ty:TypeId} {m k:Operand} {ok:Bool}:dW P O (.lookup ty m k ok) e K↔mZ (alookup P e.s ty (e.eval m) (e.eval k) ok) K:=eS fun _=>rfl
theorem FU {ty:TypeId} {m k x:Operand}:dW P O (.mapUpdate ty m k x) e K↔OQ (eJ P e.s ty (e.eval m) (e.eval k) (e.eval x)) K:=HC fun _=>rfl
theorem aAg {ty:TypeId} {parts:Array (Nat × Operand)}:dW P O (.build ty parts) e K↔mZ (oK P ty (parts.toList.map fun p=>(p.1,e.eval p.2))) K:=eS fun _=>rfl
theorem OV {src dst:TypeId} {x:Operand}:dW P O (.convert src dst x) e K↔rJ (iU P e.s src dst (e.eval x)) K:=oH fun _=>rfl
def tW:AV->Option AV
 | .ptr i g o=>some (.ptr i g o)
 | .pf v=>some (.pf v)
 | .func (.func f) a c=>some (.func (.func f) a c)
 | .iface t v=>some (.iface t v)
 | _=>none
theorem KQ {x:Operand}:dW P O (.nilCheck x) e K↔mZ (tW (e.eval x)) K:=by
 refine eS fun call=>?_
 show eN P call (.nilCheck x) e=_;simp only [eN,gY]
 cases h:e.eval x with
 | func f a c=>cases f<;>rfl
 | _=>rfl
theorem KR {f:FuncId} {first cap:Array Operand}:dW P O (.makeFunc (.func f) first cap) e K↔K (.val (.func (.func f) (first.toList.map e.eval) (cap.toList.map e.eval))):=by
 rw [oH (r:=some (.val (.func (.func f) (first.toList.map e.eval) (cap.toList.map e.eval)))) fun _=>rfl];simp [rJ]
theorem OW {x:Operand} {i:Nat}:dW P O (.extract x i) e K↔mZ ((match e.eval x with | .tuple vs=>vs[i]? | _=>none)) K:=by
 refine eS fun call=>?_
 show eN P call (.extract x i) e=_;simp only [eN,gY];cases h:e.eval x<;>rfl
theorem OX {b:Builtin} {args:Array Operand} {ts:Array TypeId}:dW P O (.call {callee:=.builtin b,args:=args,argTypes:=ts}) e K↔rJ (bC P e.s b ts (args.toList.map e.eval)) K:=oH fun _=>rfl
def ob (cs:List AV):AObj:=.cells 0 cs.length (Tr.leaf.lay 0 cs)
theorem qG {s:Sto} {cs:List AV}:nM s cs=if cs.all AV.isCell=true then some (s.n,s.push (ob cs)) else none:=by
 unfold nM;cases cs.all AV.isCell<;>rfl
def AV.isTop:AV->Bool
 | .top=>true
 | _=>false
def aK (b:Bool) (A:Prop):Prop:=b=true/\A
theorem aMf {A:Prop}:aK true A↔A:=by simp [aK]
@[congr] theorem aTr {b b':Bool} {A:Prop} (h:b=b'):aK b A=aK b' A:=by rw [h]
def xZ (v:AV) (s:Sto) (K:ORes->Prop):Prop:=v.isTop=false/\v.cells.all AV.isCell=true/\K (.val' (.ptr s.n 0 0) (s.push (ob v.cells)))
@[congr] theorem aQl {v v':AV} {s s':Sto} {K:ORes->Prop} (h:v=v') (h':s=s'):xZ v s K=xZ v' s' K:=by rw [h,h']
theorem aHk {l:List AV} {s:Sto} {K:ORes->Prop}:xZ (.agg l) s K↔aK (l.all AV.isCell) (K (.val' (.ptr s.n 0 0) (s.push (ob l)))):=by simp [xZ,AV.isTop,AV.cells,aK]
theorem aAh {v:AV} {s:Sto} {K:ORes->Prop} (h:v.isCell=true):xZ v s K↔K (.val' (.ptr s.n 0 0) (s.push (ob [v]))):=by
 have h1:v.isTop=false:=by cases v<;>first | rfl | cases h
 have h2:v.cells=[v]:=by cases v<;>first | rfl | cases h
 simp [xZ,h1,h2,h]
def jK (z:Option AV) (s:Sto) (K:ORes->Prop):Prop:=∃ v,z=some v/\v.cells.all AV.isCell=true/\K (.val' (.ptr s.n 0 0) (s.push (ob v.cells)))
@[congr] theorem aMg {z z':Option AV} {s s':Sto} {K:ORes->Prop} (h:z=z') (h':s=s'):jK z s K=jK z' s' K:=by rw [h,h']
theorem TN {l:List AV} {s:Sto} {K:ORes->Prop}:jK (some (.agg l)) s K↔aK (l.all AV.isCell) (K (.val' (.ptr s.n 0 0) (s.push (ob l)))):=by simp [jK,AV.cells,aK]
theorem OY {v:AV} {s:Sto} {K:ORes->Prop} (h:v.isCell=true):jK (some v) s K↔K (.val' (.ptr s.n 0 0) (s.push (ob [v]))):=by
 have h2:v.cells=[v]:=by cases v<;>first | rfl | cases h
 simp [jK,h2,h]
theorem HD {ty:TypeId}:dW P O (.alloc ty) e K↔jK (bI P ty) e.s K:=by
 rw [oH (r:=match bI P ty with | some z=>(match nM e.s z.cells with | some (id,s)=>some (.val' (.ptr id 0 0) s) | none=>none) | none=>none) fun _=>rfl]
 cases h:bI P ty with
 | none=>simp [rJ,jK]
 | some z=>
   simp only [rJ,jK,Option.some.injEq,exists_eq_left',qG];by_cases hc:z.cells.all AV.isCell=true<;>simp [hc]
theorem WU {ty:TypeId} {x:Operand}:dW P O (.box ty x) e K↔xZ (e.eval x) e.s K:=by
 have:∀ call,eN P call (.box ty x) e=match e.eval x with | .top=>none | v=>(match nM e.s v.cells with | some (id,s)=>some (.val' (.ptr id 0 0) s) | none=>none):=fun _=>rfl
 rw [oH this];generalize e.eval x=v;by_cases hv:v=.top
 ·subst hv;simp [AV.isTop,xZ,rJ]
 ·have h1:v.isTop=false:=by cases v<;>first | rfl | exact absurd rfl hv
  have:(match v with | .top=>none | v=>(match nM e.s v.cells with | some (id,s)=>some (ORes.val' (.ptr id 0 0) s) | none=>none))=(match nM e.s v.cells with | some (id,s)=>some (ORes.val' (.ptr id 0 0) s) | none=>none):=by
   cases v<;>first | rfl | exact absurd rfl hv
  rw [this,qG];by_cases hc:v.cells.all AV.isCell=true<;>simp [hc,xZ,rJ,h1]
def callK (s:Sto) (K:ORes->Prop):CRes->Prop
 | .ret v none=>K (.val v)
 | .ret v (some s')=>K (.val' v s')
 | .pan v none=>K (.pan v s)
 | .pan v (some s')=>K (.pan v s')
theorem aAi {s:Sto} {v:AV}:callK s K (.ret v none)=K (.val v):=rfl
theorem TO {s s':Sto} {v:AV}:callK s K (.ret v (some s'))=K (.val' v s'):=rfl
theorem aAj {s:Sto} {v:AV}:callK s K (.pan v none)=K (.pan v s):=rfl
theorem TP {s s':Sto} {v:AV}:callK s K (.pan v (some s'))=K (.pan v s'):=rfl
theorem aHl {f:Operand} {args:Array Operand} {ts:Array TypeId}:dW P O (.call {callee:=.value f,args:=args,argTypes:=ts}) e K↔Wcall P O (e.eval f) (args.toList.map e.eval) e.s (callK e.s K):=by
 have hd:∀ n,eN P (aS P O n) (.call {callee:=.value f,args:=args,argTypes:=ts}) e=fK e.s (aS P O n (e.eval f) (args.toList.map e.eval) e.s .no):=fun _=>rfl
 constructor
 ·rintro ⟨n,r,h1,h2⟩
  rw [hd]at h1
  cases hc:aS P O n (e.eval f) (args.toList.map e.eval) e.s .no with
  | none=>rw [hc]at h1;cases h1
  | some y=>
    obtain ⟨res,rr⟩:=y;rw [hc]at h1;refine ⟨n,res,rr,hc,?_⟩
    cases res with
    | ret v so=>cases so<;>simp [fK]at h1<;>subst h1<;>exact h2
    | pan v so=>cases so<;>simp [fK]at h1<;>subst h1<;>exact h2
 ·rintro ⟨n,res,rr,h1,h2⟩
  cases res with
  | ret v so=>cases so with
    | none=>exact ⟨n,_,by rw [hd,h1];rfl,h2⟩
    | some s'=>exact ⟨n,_,by rw [hd,h1];rfl,h2⟩
  | pan v so=>cases so with
    | none=>exact ⟨n,_,by rw [hd,h1];rfl,h2⟩
    | some s'=>exact ⟨n,_,by rw [hd,h1];rfl,h2⟩
def OZ (o:Option CRes) (K:CRes->Prop) (R:Prop):Prop:=match o with
 | some r=>K r
 | none=>R
theorem aAk {c:CRes} {K:CRes->Prop} {R:Prop}:OZ (some c) K R=K c:=rfl
@[congr] theorem aQm {o o':Option CRes} {K:CRes->Prop} {R:Prop} (h:o=o'):OZ o K R=OZ o' K R:=by rw [h]
def aTs (P:Program) (O:Orc) (fv:AV) (args:List AV) (s:Sto) (K:CRes->Prop):Prop:=∃ n res rr,(match iH P s fv args with
    | some (.fn f args)=>pM P (aS P O n) n f args s .no
    | some (.round l args)=>lG P (aS P O n) n l args s
    | none=>none)=some (res,rr)/\K res
theorem TQ {g:FuncId} {first cap args:List AV} {s:Sto} {K:CRes->Prop}:
 Wcall P O (.func (.func g) first cap) args s K↔OZ (O g (first++args++cap) s) K (aTs P O (.func (.func g) first cap) args s K):=by
 have hg:GA O (.func (.func g) first cap) args s .no=O g (first++args++cap) s:=rfl
 cases ho:O g (first++args++cap) s with
 | some c=>
   simp only [OZ];constructor
   ·rintro ⟨n,res,rr,h1,h2⟩
    cases n with
    | zero=>cases h1
    | succ n=>
      simp only [aS,hg,ho]at h1;simp at h1;obtain ⟨rfl,rfl⟩:=h1;exact h2
   ·intro h
    exact ⟨1,c,.no,by simp only [aS,hg,ho],h⟩
 | none=>
   simp only [OZ];constructor
   ·rintro ⟨n,res,rr,h1,h2⟩
    cases n with
    | zero=>cases h1
    | succ n=>
      simp only [aS,hg,ho]at h1;exact ⟨n,res,rr,h1,h2⟩
   ·rintro ⟨n,res,rr,h1,h2⟩
    exact ⟨n+1,res,rr,by simp only [aS,hg,ho];exact h1,h2⟩
end
abbrev lL:=FuncId × (List AV->Sto->Option CRes)
def bK:List lL->Orc
 | [],_,_,_=>none
 | x::L,f,args,s=>bif Nat.beq x.1 f then x.2 args s else bK L f args s
theorem tX {f:FuncId} {F:List AV->Sto->Option CRes} {L:List lL} {args:List AV} {s:Sto}:bK ((f,F)::L) f args s=F args s:=by simp [bK]
theorem BS {f g:FuncId} {F:List AV->Sto->Option CRes} {L:List lL} {args:List AV} {s:Sto} (h:g≠f):bK ((g,F)::L) f args s=bK L f args s:=by
 have:Nat.beq g f=false:=by
  cases hb:Nat.beq g f with
  | false=>rfl
  | true=>exact absurd (Nat.eq_of_beq_eq_true hb) h
 simp [bK,this]
def cP (P:Program) (x:lL):Prop:=∀ args s res,x.2 args s=some res->bV P x.1 args s res
theorem lV {P:Program} {L:List lL} (h:∀ x∈L,cP P x):jL P (bK L):=by
 intro f args s res ho
 induction L with
 | nil=>cases ho
 | cons x L ih=>
   unfold bK at ho
   cases hb:Nat.beq x.1 f with
   | true=>
     rw [hb]at ho;have:=h x (List.mem_cons_self ..) args s res ho;rw [Nat.eq_of_beq_eq_true hb]at this;exact this
   | false=>rw [hb]at ho;exact ih (fun x hx=>h x (List.mem_cons_of_mem _ hx)) ho
theorem aD {P:Program}:∀ x∈([]:List lL),cP P x:=fun _ h=>nomatch h
theorem elist_cons {P:Program} {x:lL} {L:List lL} (h:cP P x) (h':∀ x∈L,cP P x):∀ y∈x::L,cP P y:=fun y hy=>by
 rcases List.mem_cons.1 hy with rfl | hy
 ·exact h
 ·exact h' y hy
end
end Go.Abs
