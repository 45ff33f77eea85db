/-
  The abstract machine: one operation in its region.
-/
import Derived.Test.YtdipddlhenoglaaGreatUl
import Derived.Recover
set_option linter.unusedVariables false
set_option linter.unusedSimpArgs false
namespace Go.Abs
section
variable {P:Program} {σ:Sg} {S:Sto} {w:World}
inductive RM (σ:Sg):CallKind->ARec->FrameMode->Prop
 | normal (m:FrameMode):RM σ .normal .no m
 | quiet:RM σ .deferred .no .returning
 | pan (v:AV) (V:Value):VR σ v V->RM σ .deferred (.pan v) (.panicking [{v:=V,recovered:=false}])
 | recd (v:AV) (V:Value):VR σ v V->RM σ .deferred (.recd v) (.panicking [{v:=V,recovered:=true}])
theorem RM.mono {τ:Sg} (h:σ.le τ) {k:CallKind} {r:ARec} {m:FrameMode} (b:RM σ k r m):RM τ k r m:=by
 cases b with
 | normal m=>exact .normal m
 | quiet=>exact .quiet
 | pan v V a=>exact .pan v V (a.mono h)
 | recd v V a=>exact .recd v V (a.mono h)
def JN (k:CallKind) (stk:FrameMode->List Frame):Prop:=k=.normal∨(k=.deferred/\∃ (c:Frame) (t:List Frame),stk=fun m=>{c with mode:=m}::t)
structure ER (σ:Sg) (b:Frame) (e:Env) (a:Act) (m:FrameMode):Prop where
 tm:TmR σ e.nt e.t a.tmps
 df:DefsR σ e.ds a.defers
 rc:RM σ b.kind e.r m
 fn:b.fn=e.fn
 ro:match e.ro with
  | none=>b.roundOf=none
  | some l=>∃ L base sz,b.roundOf=some L/\σ l 0=some (L,base,sz)/\b.kind=.normal
theorem ER.mono {τ:Sg} (h:σ.le τ) {b:Frame} {e:Env} {a:Act} {m:FrameMode} (c:ER σ b e a m):ER τ b e a m:=by
 refine ⟨c.tm.mono h,c.df.mono h,c.rc.mono h,c.fn,?_⟩;have:=c.ro;split
 ·rename_i d;rw [d]at this;exact this
 ·rename_i l d;rw [d]at this;obtain ⟨L,f,r,k,o,q⟩:=this;exact ⟨L,f,r,k,h _ _ _ o,q⟩
theorem ER.sto {b:Frame} {e:Env} {a:Act} {m:FrameMode} (c:ER σ b e a m) (s:Sto):ER σ b {e with s:=s} a m:=⟨c.tm,c.df,c.rc,c.fn,c.ro⟩
theorem AO {e e':Env} {a:Act} {b:Frame} {m:FrameMode} {dst:Option Tmp} {v:AV} {V:Value} (h:ER σ b e a m) (c:e.put dst v=some e') (u:VR σ v V):ER σ b e' (a.put dst V) m/\e'.s=e.s:=by
 unfold Env.put at c
 cases dst with
 | none=>simp at c;subst c;exact ⟨h,rfl⟩
 | some d=>
   simp only at c;rw [eI]at c;split at c
   ·rename_i f
    simp at c;subst c;refine ⟨⟨⟨by simp [Act.put,h.tm.1],fun i x k=>?_⟩,h.df,h.rc,h.fn,h.ro⟩,rfl⟩;rw [Tr.get_set]at k;have o:=h.tm.1;split at k
    ·rename_i l;subst l
     simp at k;subst k;refine ⟨f,?_⟩;simp [Act.put,Array.getD_eq_getD_getElem?,o,f,u]
    ·rename_i l
     obtain ⟨r,q⟩:=h.tm.2 i x k;refine ⟨r,?_⟩;simp only [Act.put,Array.getD_eq_getD_getElem?,Array.getElem?_setIfInBounds];rw [if_neg (fun e=>l e.symm)];rw [Array.getD_eq_getD_getElem?]at q;exact q
   ·simp at c
theorem yT {b:Bool} {V:Value} (h:VR σ (.bool b) V):V=.bool b:=by cases h;rfl
theorem GF {ops:List Oper} {o:Oper} {e:Env} {a:Act} {b:Frame} {m:FrameMode} {r:Bool} (h:ER σ b e a m) (c:cU ops o e=some r) (OPS:Array Oper) (F:OPS.toList=ops):Region.wanted o (yielded OPS a.tmps)=r:=by
 unfold cU at c;unfold Region.wanted;split at c
 ·rename_i C;simp at c;subst c;rw [C]
 ·rename_i j E C
  rw [C]
  have l:OPS[j]?=ops[j]?:=by rw [<-F];simp
  split at c
  ·rename_i y
   simp at c;subst c
   have:(OPS[j]?).bind (·.dst)=none:=by
    rw [l];split at y
    ·rename_i g f;rw [f];exact y
    ·rename_i f;rw [f];rfl
   simp [yielded,this]
  ·rename_i d y
   have D:(OPS[j]?).bind (·.dst)=some d:=by
    rw [l];split at y
    ·rename_i g f;rw [f];exact y
    ·simp at y
   split at c
   ·rename_i b' u
    simp at c;subst c;obtain ⟨A,B⟩:=h.tm.2 d _ u;have q:=yT B;have v:=h.tm.1
    have k:@LT.lt Nat instLTNat d a.tmps.size:=by rw [v];exact A
    rw [Array.getD_eq_getD_getElem?,Array.getElem?_eq_getElem k]at q;simp only [Option.getD_some]at q;simp only [yielded,D,Option.bind_some,Array.getElem?_eq_getElem k,q];rfl
   ·rename_i vs u
    simp at c;subst c;obtain ⟨A,B⟩:=h.tm.2 d _ u;obtain ⟨G,q,_⟩:=VR.tuple_iff.1 B;have v:=h.tm.1
    have k:@LT.lt Nat instLTNat d a.tmps.size:=by rw [v];exact A
    rw [Array.getD_eq_getD_getElem?,Array.getElem?_eq_getElem k]at q;simp only [Option.getD_some]at q;simp only [yielded,D,Option.bind_some,Array.getElem?_eq_getElem k,q];rfl
   ·simp at c
def NH (P:Program) (c:Next) (fr:Frame):Prop:=
 (∃ g A,c=.enter g A/\fr=Frame.enter P g A .normal)∨(∃ l f t a b,c=.round l f t a b/\fr=Frame.round l f t a b .normal)
def CStp (σ:Sg) (S:Sto) (w:World) (τ:Sg):Option Sto->World->Prop
 | none,w'=>QStp σ w τ w'
 | some a,w'=>Stp σ S w τ a w'
theorem CStp.stp {τ:Sg} {a:Option Sto} {w':World} (h:Rel σ S w) (b:CStp σ S w τ a w'):Stp σ S w τ (a.getD S) w':=by
 cases a with
 | none=>exact QStp.stp b h
 | some c=>exact b
def tZ (P:Program) (call:bX):Prop:=
 ∀ (σ:Sg) (S:Sto) (w:World) (f F:Fn) (first cap args:List AV) (C A:Array Value) (res:CRes) (b:ARec),call (.func f first cap) args S .no=some (res,b)->Rel σ S w->FnR σ f F->
   VRs σ cap C.toList->VRs σ (first++args) A.toList->
   ∃ nx fr,(invoke (.fn F C) A).run P w=.ok nx w/\NH P nx fr/\∀ (c:Frame) (cs:List Frame),match res with
     | .ret v a=>∃ τ V w',VR τ v V/\CStp σ S w τ a w'/\Steps P (lone fr (c::cs) w) (lone (c.finish V) cs w')
     | .pan v a=>∃ τ V w',VR τ v V/\CStp σ S w τ a w'/\Steps P (lone fr (c::cs) w) (lone (c.raise [{v:=V,recovered:=false}]) cs w')
def ZD (P:Program) (call:bX):Prop:=
 ∀ (σ:Sg) (S:Sto) (w:World) (f F:Fn) (first cap args:List AV) (C A:Array Value) (r d:ARec) (m:FrameMode) (res:CRes),call (.func f first cap) args S r=some (res,d)->zG (.func f first cap)=false->
   Rel σ S w->FnR σ f F->VRs σ cap C.toList->VRs σ (first++args) A.toList->RM σ .deferred r m->
   ∃ g b,(invoke (.fn F C) A).run P w=.ok (.enter g b) w/\∀ (c:Frame) (cs:List Frame),match res with
     | .ret _ e=>∃ τ w' a,RM τ .deferred d a/\CStp σ S w τ e w'/\Steps P (lone (Frame.enter P g b .deferred) ({c with mode:=m}::cs) w) (lone {c with mode:=settle a} cs w')
     | .pan v e=>∃ τ V w' a,VR τ v V/\RM τ .deferred d a/\CStp σ S w τ e w'/\Steps P (lone (Frame.enter P g b .deferred) ({c with mode:=m}::cs) w) (lone {c with mode:=raised a [{v:=V,recovered:=false}]} cs w')
def aJv (P:Program) (σ:Sg) (S:Sto) (w:World) (b:Frame) (a:Act) (OPS:Array Oper) (i:Nat) (rest:List Nat) (k:List Item) (o:Oper) (cs:List Frame):ORes->Prop
 | .val v=>∃ τ V w',VR τ v V/\QStp σ w τ w'/\Steps P (lone (b.atR a (.inRegion OPS (i::rest)::k)) cs w) (lone (b.atR (a.put o.dst V) (.inRegion OPS rest::k)) cs w')
 | .val' v e=>∃ τ V w',VR τ v V/\Stp σ S w τ e w'/\Steps P (lone (b.atR a (.inRegion OPS (i::rest)::k)) cs w) (lone (b.atR (a.put o.dst V) (.inRegion OPS rest::k)) cs w')
 | .pan v e=>∃ τ V w',VR τ v V/\Stp σ S w τ e w'/\
  Steps P (lone (b.atR a (.inRegion OPS (i::rest)::k)) cs w) (lone {b.atR a (.inRegion OPS (i::rest)::k) with mode:=.panicking [{v:=V,recovered:=false}]} cs w')
 | .defer d=>∃ D,DefR σ d D/\Steps P (lone (b.atR a (.inRegion OPS (i::rest)::k)) cs w) (lone (b.atR ({a with defers:=D::a.defers}.put o.dst undef) (.inRegion OPS rest::k)) cs w)
 | .recov=>b.roundOf=none->∀ (V:Value) (c:List Frame),(tryRecover (b.atR a (.inRegion OPS (i::rest)::k)) cs=some (V,c)∨(tryRecover (b.atR a (.inRegion OPS (i::rest)::k)) cs=none/\V=.nilIface/\c=cs))->
  Steps P (lone (b.atR a (.inRegion OPS (i::rest)::k)) cs w) (lone (b.atR (a.put o.dst V) (.inRegion OPS rest::k)) c w)
theorem uA {b:Frame} {e:Env} {a:Act} {m:FrameMode} {o:Oper} {call:bX} {r:ORes} (v:ER σ b e a m) (f:iB P call o e=some r):o.semAt b.roundOf a.eval=execOp a.eval o:=by
 cases k:b.roundOf with
 | none=>rfl
 | some L=>
   refine Oper.semAt_eq _ _ _ fun c u=>?_
   have h:=v.ro
   cases d:e.ro with
   | none=>rw [d]at h;rw [k]at h;cases h
   | some l=>
     unfold iB at f;rw [u]at f;simp only [d]at f;split at f
     ·rename_i q;simp at q
     ·cases f
theorem aJw {call:bX} {o:Oper} {e:Env} (h:AR o.op=true):∃ c,o.op=.call c/\((∃ f,c.callee=.value f/\iB P call o e=fT e.s (call (e.eval f) (fG e c.args) e.s .no))∨
 (∃ f n,c.callee=.invoke f n/\iB P call o e=fT e.s (call (.func (.method n) [e.eval f] []) (fG e c.args) e.s .no))):=by
 unfold iB;cases k:o.op<;>rw [k]at h<;>simp [AR]at h;rename_i c;obtain ⟨a,args,d⟩:=c
 cases a with
 | value f=>exact ⟨_,rfl,.inl ⟨f,rfl,rfl⟩⟩
 | invoke f n=>exact ⟨_,rfl,.inr ⟨f,n,rfl,rfl⟩⟩
 | builtin b=>simp at h
theorem rO {call:bX} (B:tZ P call) (ac:∀ v args s r x,call v args s r=some x->∃ f a c,v=.func f a c) {o:Oper} {e:Env} {a:Act} {b:Frame} {r:ORes} {OPS:Array Oper} {i:Nat} {rest:List Nat} {k:List Item} {cs:List Frame}
 (h:Rel σ e.s w) (U:TmR σ e.nt e.t a.tmps) (af:o.semAt b.roundOf a.eval=execOp a.eval o) (ho:OPS[i]?=some o) (hw:Region.wanted o (yielded OPS a.tmps)=true) (R:iB P call o e=some r):aJv P σ e.s w b a OPS i rest k o cs r:=by
 have hg:=stepGR_op (P:=P) (b:=b) (k:=k) (cs:=cs) (w:=w) (rest:=rest) ho hw;rw [af]at hg
 have L:∀ v,(b.atR a (.inRegion OPS (i::rest)::k)).finish v=b.atR (a.put o.dst v) (.inRegion OPS rest::k):=by
  intro v;rw [Frame.finish_atR,ho];rfl
 cases hc:AR o.op with
 | false=>
   have hr:=aRu (σ:=σ) h U hc R
   have Z:∀ V w',Yld ((execOp a.eval o).run P w) V w'->Steps P (lone (b.atR a (.inRegion OPS (i::rest)::k)) cs w) (lone (b.atR (a.put o.dst V) (.inRegion OPS rest::k)) cs w'):=by
    intro V w' hy;refine .one (step_lone_go ?_);rw [hg,<-L]
    rcases hy with q | ⟨q,rfl⟩
    ·simp [stepG.apply,q]
    ·simp [stepG.apply,q]
   cases r with
   | val v=>obtain ⟨V,w',q,H,M⟩:=hr;exact ⟨σ,V,w',H,.refl M,Z V w' q⟩
   | val' v S'=>obtain ⟨τ,V,w',q,H,M⟩:=hr;exact ⟨τ,V,w',H,M,Z V w' q⟩
   | pan v S'=>
     obtain ⟨V,q,H,rfl⟩:=hr;refine ⟨σ,V,w,H,Stp.refl h,.one (step_lone_go ?_)⟩;rw [hg,<-Frame.raise_atR];simp [stepG.apply,q]
   | defer d=>
     obtain ⟨D,q,H⟩:=hr;refine ⟨D,H,.one (step_lone_go ?_)⟩
     have:({b.atR a (.inRegion OPS (i::rest)::k) with defers:=D::a.defers}:Frame).finish undef =
      b.atR ({a with defers:=D::a.defers}.put o.dst undef) (.inRegion OPS rest::k):=by
      have:=Frame.finish_atR b {a with defers:=D::a.defers} OPS i rest k undef;rw [ho]at this;exact this
     rw [hg];simp only [stepG.apply,Sem.runT_eq,q,GStep.bare_after];exact congrArg (fun fr=>GStep.go {frame:=fr,callers:=cs,status:=.running,dying:=none} w) this
   | recov=>
     have q:(execOp a.eval o).run P w=.ok .recover w:=hr;intro ae V aj I;refine .one (step_lone_go ?_);rw [hg,<-L];simp only [stepG.apply,Sem.runT_eq,q,GStep.bare_after,if_true]
     rcases I with I | ⟨I,rfl,rfl⟩
     ·simp only [Frame.atR,ae]at I ⊢
      simp [I]
     ·simp only [Frame.atR,ae]at I ⊢
      simp [I]
 | true=>
   obtain ⟨c,ad,ag⟩:=aJw (P:=P) (call:=call) (e:=e) hc
   have G:∀ (Q:Next) (fr:Frame) (w0:World),(execOp a.eval o).run P w0=.ok Q w0->w0=w->NH P Q fr->Steps P (lone (b.atR a (.inRegion OPS (i::rest)::k)) cs w) (lone fr (b.atR a (.inRegion OPS (i::rest)::k)::cs) w):=by
    rintro Q fr w0 q rfl (⟨g,A,rfl,rfl⟩ | ⟨l,f,t,a',b',rfl,rfl⟩)
    ·exact .one (step_lone_go (by rw [hg];simp [stepG.apply,q,Frame.atR]))
    ·exact .one (step_lone_go (by rw [hg];simp [stepG.apply,q,Frame.atR]))
   have O:∀ (f F:Fn) (first cap args:List AV) (C A:Array Value),fT e.s (call (.func f first cap) args e.s .no)=some r->FnR σ f F->VRs σ cap C.toList->VRs σ (first++args) A.toList->
    (execOp a.eval o).run P w=(invoke (.fn F C) A).run P w->aJv P σ e.s w b a OPS i rest k o cs r:=by
    intro f F first cap args C A u hF J m T
    unfold fT at u;split at u
    ·rename_i v rr E
     simp at u;subst u;obtain ⟨Q,fr,q,H,M⟩:=B σ e.s w f F first cap args C A _ _ E h hF J m;obtain ⟨τ,V,w',q1,q2,q3⟩:=M (b.atR a (.inRegion OPS (i::rest)::k)) cs;exact ⟨τ,V,w',q1,q2,by rw [<-L];exact (G Q fr w (by rw [T];exact q) rfl H).trans q3⟩
    ·rename_i v s' rr E
     simp at u;subst u;obtain ⟨Q,fr,q,H,M⟩:=B σ e.s w f F first cap args C A _ _ E h hF J m;obtain ⟨τ,V,w',q1,q2,q3⟩:=M (b.atR a (.inRegion OPS (i::rest)::k)) cs;exact ⟨τ,V,w',q1,q2,by rw [<-L];exact (G Q fr w (by rw [T];exact q) rfl H).trans q3⟩
    ·rename_i v rr E
     simp at u;subst u;obtain ⟨Q,fr,q,H,M⟩:=B σ e.s w f F first cap args C A _ _ E h hF J m;obtain ⟨τ,V,w',q1,q2,q3⟩:=M (b.atR a (.inRegion OPS (i::rest)::k)) cs;exact ⟨τ,V,w',q1,CStp.stp h q2,by rw [<-Frame.raise_atR];exact (G Q fr w (by rw [T];exact q) rfl H).trans q3⟩
    ·rename_i v s' rr E
     simp at u;subst u;obtain ⟨Q,fr,q,H,M⟩:=B σ e.s w f F first cap args C A _ _ E h hF J m;obtain ⟨τ,V,w',q1,q2,q3⟩:=M (b.atR a (.inRegion OPS (i::rest)::k)) cs;exact ⟨τ,V,w',q1,CStp.stp h q2,by rw [<-Frame.raise_atR];exact (G Q fr w (by rw [T];exact q) rfl H).trans q3⟩
    ·simp at u
   have m:=uC (σ:=σ) U c.args
   rcases ag with ⟨f,N,aa⟩ | ⟨f,n,N,aa⟩
   ·rw [aa]at R
    have ab:=bA (σ:=σ) U f
    have ah:∃ g x y,e.eval f=.func g x y:=by
     unfold fT at R
     split at R<;>first | (rename_i E;exact ac _ _ _ _ _ E) | simp at R
    obtain ⟨g,x,y,ai⟩:=ah;rw [ai]at ab R;generalize hq:a.eval f=FV at ab
    cases ab with
    | func _ F _ _ X Y hF q H M h4=>
      refine O g F x y _ Y (X++c.args.map a.eval) R hF ⟨by simpa using H,fun i x X e1 e2=>h4 i x X e1 (by simpa using e2)⟩ ?_ ?_
      ·rw [Array.toList_append]
       exact VRs.append ⟨by simpa using q,fun i x X e1 e2=>M i x X e1 (by simpa using e2)⟩ m
      ·simp [execOp,ad,resolve,N,hq,Deferred.ofValue]
   ·rw [aa]at R
    refine O (.method n) (.method n) [e.eval f] [] _ #[] (#[a.eval f]++c.args.map a.eval) R (.method n) (VRs.nil _) ?_ ?_
    ·rw [Array.toList_append]
     exact VRs.cons (bA U f) m
    ·simp [execOp,ad,resolve,N]
end
end Go.Abs
/-
 The abstract machine: regions in the text's order,code,ranges over functions.
-/
namespace Go.Abs
def Gone (P:Program) (τ:Sg) (M:Machine) (b:Frame) (stk:FrameMode->List Frame) (k:List Item) (a:Act) (m:FrameMode) (w:World):Ex->Prop
 | .normal=>Steps P M (lone (b.atR a k) (stk m) w)
 | .exit id=>(∀ d,exitTo id k=some d->Steps P M (lone (b.atR a d) (stk m) w))/\(exitTo id k=none->∃ c,exitTo id c=none/\Steps P M (lone (b.atR a (.code (.exit id)::c)) (stk m) w))
 | .goto _=>True
 | .ret=>∃ c,Steps P M (lone (b.atR a (.code .ret::c)) (stk m) w)
 | .panic v=>∃ V todo,VR τ v V/\Steps P M (lone {b.atR a todo with mode:=.panicking [{v:=V,recovered:=false}]} (stk m) w)
theorem Gone.of_steps {P:Program} {τ:Sg} {M o:Machine} {b:Frame} {stk:FrameMode->List Frame} {k:List Item} {a:Act} {m:FrameMode} {w:World} {x:Ex} (h:Steps P M o) (c:Gone P τ o b stk k a m w x):Gone P τ M b stk k a m w x:=by
 cases x with
 | normal=>exact h.trans c
 | exit id=>exact ⟨fun y d=>h.trans (c.1 y d),fun d=>let ⟨f,q,r⟩:=c.2 d;⟨f,q,h.trans r⟩⟩
 | goto l=>trivial
 | ret=>obtain ⟨f,e⟩:=c;exact ⟨f,h.trans e⟩
 | panic v=>obtain ⟨V,todo,u,e⟩:=c;exact ⟨V,todo,u,h.trans e⟩
theorem Gone.pass {P:Program} {τ:Sg} {M:Machine} {b:Frame} {stk:FrameMode->List Frame} {x:Item} {k:List Item} {a:Act} {m:FrameMode} {w:World} {e:Ex} (o:x.plain=true∨(∃ c,x=.inScope c)) (q:e≠.normal)
 (f:Gone P τ M b stk (x::k) a m w e):Gone P τ M b stk k a m w e:=by
 have d:∀ id,exitTo id (x::k)=exitTo id k:=by
  intro id
  rcases o with o | ⟨c,rfl⟩
  ·exact exitTo_plain o id k
  ·simp [exitTo]
 cases e with
 | normal=>exact absurd rfl q
 | exit id=>exact ⟨fun r h=>f.1 r (by rw [d];exact h),fun h=>f.2 (by rw [d];exact h)⟩
 | goto l=>trivial
 | ret=>exact f
 | panic v=>exact f
def COut (P:Program) (σ:Sg) (S:Sto) (w:World) (M:Machine) (b:Frame) (stk:FrameMode->List Frame) (k:List Item) (ex:Ex) (e':Env):Prop:=
 ∃ τ a' m' w',ER τ b e' a' m'/\Stp σ S w τ e'.s w'/\Gone P τ M b stk k a' m' w' ex
theorem COut.of_steps {P:Program} {σ:Sg} {S:Sto} {w:World} {M a:Machine} {b:Frame} {stk:FrameMode->List Frame} {k:List Item} {ex:Ex} {e':Env} (h:Steps P M a) (l:COut P σ S w a b stk k ex e'):COut P σ S w M b stk k ex e':=by
 obtain ⟨τ,c,m,w',d,e,f⟩:=l;exact ⟨τ,c,m,w',d,e,f.of_steps h⟩
theorem COut.after {P:Program} {σ τ:Sg} {S c:Sto} {w w':World} {M:Machine} {b:Frame} {stk:FrameMode->List Frame} {k:List Item} {ex:Ex} {e':Env} (h:Stp σ S w τ c w') (m:COut P τ c w' M b stk k ex e'):COut P σ S w M b stk k ex e':=by
 obtain ⟨ρ,d,o,a,e,f,l⟩:=m;exact ⟨ρ,d,o,a,e,h.trans f,l⟩
section
variable {P:Program}
theorem aOl {call:bX} (B:tZ P call) (F:∀ v args s r x,call v args s r=some x->∃ f a c,v=.func f a c) {OPS:Array Oper} {b:Frame} {stk:FrameMode->List Frame} (Q:JN b.kind stk) {k:List Item}:
 ∀ (l:List Oper) (i:Nat) (σ:Sg) (w:World) (e:Env) (a:Act) (m:FrameMode) (ex:Ex) (e':Env),(∀ j,l[j]?=OPS[i+j]?)->hG P call OPS.toList l e=some (ex,e')->Rel σ e.s w->ER σ b e a m->
   COut P σ e.s w (lone (b.atR a (.inRegion OPS (List.range' i l.length)::k)) (stk m) w) b stk k ex e':=by
 intro l
 induction l with
 | nil=>
   intro i σ w e a m ex e' hl y h u;simp [hG]at y;obtain ⟨rfl,rfl⟩:=y;exact ⟨σ,a,m,w,u,Stp.refl h,.one stepR_region_end⟩
 | cons o l ih=>
   intro i σ w e a m ex e' hl y h u
   have X:OPS[i]?=some o:=by have:=hl 0;simpa using this.symm
   have I:∀ j,l[j]?=OPS[i+1+j]?:=fun j=>by
    have:=hl (j+1);rw [show i+1+j=i+(j+1) by omega,<-this];simp
   simp only [List.length_cons,List.range'_succ];simp only [hG]at y;split at y
   ·simp at y
   ·rename_i hw
    have H:=GF u hw OPS rfl;split at y
    ·rename_i J M
     obtain ⟨C,q⟩:=AO (V:=undef) u M (VR.tuple_iff.2 ⟨_,rfl,VRs.nil _⟩)
     have N:Steps P (lone (b.atR a (.inRegion OPS (i::List.range' (i+1) l.length)::k)) (stk m) w) (lone (b.atR (a.put o.dst undef) (.inRegion OPS (List.range' (i+1) l.length)::k)) (stk m) w):=by
      have:=stepR_op_skip (P:=P) (b:=b) (a:=a) (k:=k) (cs:=stk m) (w:=w) (ops:=OPS) (i:=i) (rest:=List.range' (i+1) l.length) (by simp [X,H]);simp only [X,Option.bind_some]at this;exact .one this
     have:=ih (i+1) σ w J _ m ex e' I y (by rw [q];exact h) C;rw [q]at this;exact this.of_steps N
    ·simp at y
   ·rename_i hw
    have H:=GF u hw OPS rfl;split at y
    ·simp at y
    ·rename_i v A
     obtain ⟨τ,V,w',R,O,T⟩:=rO (rest:=List.range' (i+1) l.length) (k:=k) (cs:=stk m) B F h u.tm (uA u A) X H A;split at y
     ·rename_i J M
      obtain ⟨C,q⟩:=AO (u.mono O.le) M R;have:=ih (i+1) τ w' J _ m ex e' I y (by rw [q];exact O.rel h) C;rw [q]at this;exact (this.of_steps T).after (O.stp h)
     ·simp at y
    ·rename_i v s A
     obtain ⟨τ,V,w',R,O,T⟩:=rO (rest:=List.range' (i+1) l.length) (k:=k) (cs:=stk m) B F h u.tm (uA u A) X H A;split at y
     ·rename_i J M
      obtain ⟨C,q⟩:=AO ((u.mono O.ext).sto s) M R;have:=ih (i+1) τ w' J _ m ex e' I y (by rw [q];exact O.rel) C;rw [q]at this;exact (this.of_steps T).after O
     ·simp at y
    ·rename_i v s A
     obtain ⟨τ,V,w',R,O,T⟩:=rO (rest:=List.range' (i+1) l.length) (k:=k) (cs:=stk m) B F h u.tm (uA u A) X H A;simp at y;obtain ⟨rfl,rfl⟩:=y;exact ⟨τ,a,m,w',(u.mono O.ext).sto s,O,V,_,R,T⟩
    ·rename_i d A
     obtain ⟨D,R,T⟩:=rO (rest:=List.range' (i+1) l.length) (k:=k) (cs:=stk m) B F h u.tm (uA u A) X H A;split at y
     ·rename_i J M
      have U:ER σ b {e with ds:=d::e.ds} {a with defers:=D::a.defers} m:=⟨u.tm,.cons _ _ _ _ R u.df,u.rc,u.fn,u.ro⟩
      obtain ⟨C,q⟩:=AO (V:=undef) U M (VR.tuple_iff.2 ⟨_,rfl,VRs.nil _⟩);have:=ih (i+1) σ w J _ m ex e' I y (by rw [q];exact h) C;rw [q]at this;exact this.of_steps T
     ·simp at y
    ·rename_i A
     have aa:=rO (rest:=List.range' (i+1) l.length) (k:=k) (cs:=stk m) B F h u.tm (uA u A) X H A;split at y
     ·-- something is recovered
      rename_i v Y hr
      have L:b.roundOf=none:=by have:=u.ro;rw [Y]at this;exact this
      have G:=u.rc;rw [hr]at G;generalize E:b.kind=kd at G
      cases G with
      | pan _ V hV=>
        rcases Q with Z | ⟨_,c,t,rfl⟩
        ·rw [Z]at E;cases E
        ·split at y
         ·rename_i J M
          have U:ER σ b {e with r:=.recd v} a (.panicking [{v:=V,recovered:=true}]):=⟨u.tm,u.df,by rw [E];exact .recd v V hV,u.fn,u.ro⟩
          obtain ⟨C,q⟩:=AO U M hV
          have N:=aa L V (({c with mode:=.panicking [{v:=V,recovered:=true}]}:Frame)::t) (.inl (by
           rw [tryRecover_deferred (by exact E)]
           rfl))
          have:=ih (i+1) σ w J _ _ ex e' I y (by rw [q];exact h) C;rw [q]at this;exact this.of_steps N
         ·simp at y
     ·rename_i Y ab
      have L:b.roundOf=none:=by have:=u.ro;rw [Y]at this;exact this
      have ad:tryRecover (b.atR a (.inRegion OPS (i::List.range' (i+1) l.length)::k)) (stk m)=none:=by
       have G:=u.rc
       rcases Q with Z | ⟨Z,c,t,rfl⟩
       ·unfold tryRecover
        simp [Frame.atR,Z]
       ·rw [tryRecover_deferred (by exact Z)]
        rw [Z]at G;generalize ac:e.r=rr at G
        cases G with
        | quiet=>rfl
        | pan v V hv=>exact absurd ac (ab v)
        | recd v V hv=>rfl
      split at y
      ·rename_i J M
       obtain ⟨C,q⟩:=AO u M .nili;have N:=aa L .nilIface (stk m) (.inr ⟨ad,rfl,rfl⟩);have:=ih (i+1) σ w J _ m ex e' I y (by rw [q];exact h) C;rw [q]at this;exact this.of_steps N
      ·simp at y
     ·simp at y
def VV (P:Program) (f:Env->Option (Ex × Env)) (c:Code):Prop:=
 ∀ (σ:Sg) (w:World) (b:Frame) (stk:FrameMode->List Frame) (k:List Item) (e:Env) (a:Act) (m:FrameMode) (ex:Ex) (e':Env),JN b.kind stk->f e=some (ex,e')->Rel σ e.s w->ER σ b e a m->
   COut P σ e.s w (lone (b.atR a (.code c::k)) (stk m) w) b stk k ex e'
theorem aDf {f:Env->Option (Ex × Env)} {c:Code} (A:VV P f c):∀ (n:Nat) (σ:Sg) (w:World) (b:Frame) (stk:FrameMode->List Frame) (k:List Item) (e:Env) (a:Act) (m:FrameMode) (ex:Ex) (e':Env),JN b.kind stk->
 loopGo f n e=some (ex,e')->Rel σ e.s w->ER σ b e a m->COut P σ e.s w (lone (b.atR a (.code c::.inLoop c::k)) (stk m) w) b stk k ex e':=by
 intro n
 induction n with
 | zero=>intro σ w b stk k e a m ex e' _ h;simp [loopGo]at h
 | succ n E=>
   intro σ w b stk k e a m ex e' d h B y;simp only [loopGo]at h;split at h
   ·rename_i C l
    obtain ⟨τ,q,v,w',r,o,u⟩:=A σ w b stk (.inLoop c::k) e a m _ _ d l B y;have:=E τ w' b stk k C q v ex e' d h o.rel r;exact (this.of_steps (Steps.trans u (.one stepR_inLoop))).after o
   ·rename_i l
    obtain ⟨τ,q,v,w',r,o,u⟩:=A σ w b stk (.inLoop c::k) e a m ex e' d h B y
    have D:ex≠.normal:=by
     rintro rfl;exact l e' h
    exact ⟨τ,q,v,w',r,o,Gone.pass (x:=.inLoop c) (.inl rfl) D u⟩
end
end Go.Abs
/-
 The abstract machine: a step in a part of the store;what one operation asks;the laws of a drawn region's order.
-/
namespace Go.Abs
def Sg.join (τ σ:Sg):Sg:=⟨τ.m,fun id g=>match τ id g with
 | some y=>some y
 | none=>σ id g⟩
theorem Sg.le_join (τ σ:Sg):τ.le (τ.join σ):=by
 refine ⟨fun id g x h=>?_,fun _ _ _ h=>h⟩;simp only [Sg.join];rw [h]
structure Framed (σ:Sg) (X:Sto) (w:World) (τ:Sg) (X':Sto) (w':World):Prop where
 rel:Rel τ X' w'
 ext:σ.le τ
 size:w.heap.size<=w'.heap.size
 frame:∀ b,b<w.heap.size->¬ Has σ X b->w'.heap[b]?=w.heap[b]?
 own:∀ b,Has τ X' b->Has σ X b∨w.heap.size<=b
 mnew:∀ b off V,τ.m b off=some V->σ.m b off=some V∨Has σ X b∨w.heap.size<=b
theorem aJx {σ ρ τ:Sg} {X X' R N:Sto} {w w':World} (F:Rel σ X w) (hm:ρ.m=σ.m) (Y:∀ id g,id<R.n->ρ id g=σ id g) (hR:∀ id x,R.get id=some x->X.get id=some x)
 (h:Stp ρ R w τ N w') (hc:∀ id g,R.n<=id->id<N.n->σ id g=none) (hn:X.n<=X'.n) (aa:N.n<=X'.n)
 (C:∀ id x,X'.get id=some x->N.get id=some x∨(X.get id=some x/\R.get id=none)) (ht:∀ id,X'.n<=id->X'.o.get id=none):
 Framed σ X w (τ.join σ) X' w':=by
 have T:σ.le (τ.join σ):=by
  refine ⟨fun id g x I=>?_,fun b o V O=>h.ext.m b o V (by rw [hm];exact O)⟩;simp only [Sg.join];by_cases Q:id<R.n
  ·rw [h.ext id g x (by rw [Y id g Q];exact I)]
  ·cases hτ:τ id g with
   | none=>exact I
   | some y=>
     have:=h.rel.bnd id g y hτ;rw [hc id g (by omega) this]at I;cases I
 have k:=Sg.le_join τ σ
 have B:∀ b,Has ρ R b->Has σ X b:=by
  rintro b ⟨id,x,base,sz,l,f⟩;exact ⟨id,x,base,sz,hR id x l,by rw [<-Y id _ (Sto.get_lt l)];exact f⟩
 have D:∀ id x b base sz,X.get id=some x->R.get id=none->σ id (dF x)=some (b,base,sz)->¬ Has ρ R b:=by
  rintro id x b base sz l f a ⟨c,v,base',sz',e,q⟩;have:=F.inj id x c v b base sz base' sz' l (hR _ _ e) a (by rw [<-Y c _ (Sto.get_lt e)];exact q);subst this;rw [f]at e;cases e
 have d:∀ id x g,X.get id=some x->R.get id=none->(τ.join σ) id g=σ id g:=by
  intro id x g l f;simp only [Sg.join];by_cases Q:id<R.n
  ·rw [(h.hole id Q f).2 g,Y id g Q]
   cases σ id g<;>rfl
  ·cases hτ:τ id g with
   | none=>rfl
   | some y=>
     obtain ⟨b,base,sz,o,a,_⟩:=F.obj id x l;rw [hc id _ (by omega) (h.rel.bnd id g y hτ)]at a;cases a
 have H:∀ b,Has (τ.join σ) X' b->(∃ id x base sz,N.get id=some x/\τ id (dF x)=some (b,base,sz))∨(∃ id x base sz,X.get id=some x/\R.get id=none/\σ id (dF x)=some (b,base,sz)):=by
  rintro b ⟨id,x,base,sz,l,f⟩
  rcases C id x l with a | ⟨a,e⟩
  ·obtain ⟨b',base',sz',o,q,_⟩:=h.rel.obj id x a
   have:=k _ _ _ q;rw [f]at this
   obtain ⟨rfl,rfl,rfl⟩:b=b'/\base=base'/\sz=sz':=by simpa using this
   exact .inl ⟨id,x,base,sz,a,q⟩
  ·rw [d id x _ a e]at f
   exact .inr ⟨id,x,base,sz,a,e,f⟩
 have L:∀ b,Has (τ.join σ) X' b->Has σ X b∨w.heap.size<=b:=by
  intro b hb
  rcases H b hb with ⟨id,x,base,sz,l,f⟩ | ⟨id,x,base,sz,l,_,f⟩
  ·exact (h.own b ⟨id,x,base,sz,l,f⟩).imp (B b) (fun h=>h)
  ·exact .inl ⟨id,x,base,sz,l,f⟩
 refine ⟨⟨?_,?_,?_,?_,?_,ht⟩,T,h.size,fun b hb hn=>h.frame b hb fun hh=>hn (B b hh),L,fun b off V O=>?_⟩
 ·intro id x I
  rcases C id x I with a | ⟨a,e⟩
  ·obtain ⟨b,base,sz,o,q,u,h7⟩:=h.rel.obj id x a
   exact ⟨b,base,sz,o,k _ _ _ q,u,h7.mono k⟩
  ·obtain ⟨b,base,sz,o,q,u,h7⟩:=F.obj id x a
   refine ⟨b,base,sz,o,by rw [d id x _ a e];exact q,?_,h7.mono T⟩;rw [h.frame b (Array.getElem?_eq_some_iff.1 u).1 (D id x b base sz a e q)];exact u
 ·intro id x c v b base sz base' sz' l f a e
  have Z:∀ id x c v base sz base' sz',N.get id=some x->(X.get c=some v/\R.get c=none)->(τ.join σ) id (dF x)=some (b,base,sz)->(τ.join σ) c (dF v)=some (b,base',sz')->False:=by
   intro id x c v base sz base' sz' l f a e;obtain ⟨b1,r,M,o1,A,_⟩:=h.rel.obj id x l;have:=k _ _ _ A;rw [a]at this
   obtain ⟨rfl,rfl,rfl⟩:b=b1/\base=r/\sz=M:=by simpa using this
   rw [d c v _ f.1 f.2]at e
   rcases h.own b ⟨id,x,base,sz,l,A⟩ with q | q
   ·exact D c v b base' sz' f.1 f.2 e q
   ·have:=F.lt ⟨c,v,base',sz',f.1,e⟩
    omega
  rcases C id x l with A | A<;>rcases C c v f with G | G
  ·obtain ⟨b1,r,M,o1,k1,_⟩:=h.rel.obj id x A
   have e1:=k _ _ _ k1;rw [a]at e1
   obtain ⟨rfl,rfl,rfl⟩:b=b1/\base=r/\sz=M:=by simpa using e1
   obtain ⟨b2,J,ab,o2,k2,_⟩:=h.rel.obj c v G;have e2:=k _ _ _ k2;rw [e]at e2
   obtain ⟨rfl,rfl,rfl⟩:b=b2/\base'=J/\sz'=ab:=by simpa using e2
   exact h.rel.inj id x c v b base sz base' sz' A G k1 k2
  ·exact (Z _ _ _ _ _ _ _ _ A G a e).elim
  ·exact (Z _ _ _ _ _ _ _ _ G A e a).elim
  ·rw [d id x _ A.1 A.2]at a
   rw [d c v _ G.1 G.2]at e;exact F.inj id x c v b base sz base' sz' A.1 G.1 a e
 ·intro b off V O
  obtain ⟨l,f⟩:=h.rel.mu b off V O;refine ⟨l,fun hh=>?_⟩
  rcases H b hh with ⟨id,x,base,sz,a,e⟩ | ⟨id,x,base,sz,a,e,q⟩
  ·exact f ⟨id,x,base,sz,a,e⟩
  ·rcases h.mnew b off V O with u | u | u
   ·exact (F.mu b off V (by rw [<-hm];exact u)).2 ⟨id,x,base,sz,a,q⟩
   ·exact D id x b base sz a e q u
   ·have:=F.lt ⟨id,x,base,sz,a,q⟩;omega
 ·intro id g y E
  simp only [Sg.join]at E;split at E
  ·rename_i z U
   exact Nat.lt_of_lt_of_le (h.rel.bnd id g z U) aa
  ·exact Nat.lt_of_lt_of_le (F.bnd id g y E) hn
 ·intro id x g y I E
  rcases C id x I with a | ⟨a,e⟩
  ·simp only [Sg.join]at E
   split at E
   ·rename_i z U
    exact h.rel.gen id x g z a U
   ·rename_i U
    by_cases Q:id<R.n
    ·have:=h.ext id g y (by rw [Y id g Q];exact E)
     rw [U]at this;cases this
    ·rw [hc id g (by omega) (Sto.get_lt a)]at E;cases E
  ·rw [d id x g a e]at E
   exact F.gen id x g y a E
 ·rcases h.mnew b off V O with u | u | u
  ·exact .inl (by rw [<-hm];exact u)
  ·exact .inr (.inl (B b u))
  ·exact .inr (.inr u)
theorem Rel.same {σ:Sg} {S a:Sto} {w:World} (h:Rel σ S w) (e:∀ id,a.get id=S.get id) (m:a.n=S.n) (q:∀ id,a.n<=id->a.o.get id=none):Rel σ a w where
 obj:=fun id x f=>h.obj id x (by rw [<-e];exact f)
 inj:=fun id x k r b base sz base' sz' c d=>h.inj id x k r b base sz base' sz' (by rw [<-e];exact c) (by rw [<-e];exact d)
 mu:=fun b off V l=>⟨(h.mu b off V l).1,fun ⟨id,x,base,sz,c,d⟩=>(h.mu b off V l).2 ⟨id,x,base,sz,by rw [<-e];exact c,d⟩⟩
 bnd:=fun id g x f=>by rw [m];exact h.bnd id g x f
 gen:=fun id x g y c d=>h.gen id x g y (by rw [<-e];exact c) d
 top:=q
theorem Rel.part {σ ρ:Sg} {X R:Sto} {w:World} (h:Rel σ X w) (A:ρ.m=σ.m) (f:∀ id g,id<R.n->ρ id g=σ id g) (r:∀ id g x,ρ id g=some x->id<R.n) (d:∀ id x,R.get id=some x->X.get id=some x)
 (C:∀ id x,R.get id=some x->∀ b base sz o,ObjR σ base sz x o->σ id (dF x)=some (b,base,sz)->w.heap[b]?=some o->ObjR ρ base sz x o) (B:∀ id,R.n<=id->R.o.get id=none):Rel ρ R w where
 obj:=fun id x q=>by
  obtain ⟨b,base,sz,o,a,c,l⟩:=h.obj id x (d id x q);exact ⟨b,base,sz,o,by rw [f id _ (Sto.get_lt q)];exact a,c,C id x q b base sz o l a c⟩
 inj:=fun id x k D b base sz base' sz' a c l u=>h.inj id x k D b base sz base' sz' (d _ _ a) (d _ _ c) (by rw [<-f id _ (Sto.get_lt a)];exact l) (by rw [<-f k _ (Sto.get_lt c)];exact u)
 mu:=fun b off V v=>
  have e:σ.m b off=some V:=by rw [<-A];exact v
  ⟨(h.mu b off V e).1,fun ⟨id,x,base,sz,a,c⟩=>(h.mu b off V e).2 ⟨id,x,base,sz,d _ _ a,by rw [<-f id _ (Sto.get_lt a)];exact c⟩⟩
 bnd:=r
 gen:=fun id x g y a c=>h.gen id x g y (d _ _ a) (by rw [<-f id _ (Sto.get_lt a)];exact c)
 top:=B
end Go.Abs
/-
 The abstract machine: what one operation asks.
-/
namespace Go.Abs
theorem rP {α:Type} {f:α->α->Bool} (c:∀ a b,f a b=true->a=b):∀ (l m:List α),fP f l m=true->l=m:=by
 intro l
 induction l with
 | nil=>intro m h;cases m<;>simp_all [fP]
 | cons a l d=>
   intro m h
   cases m with
   | nil=>simp [fP]at h
   | cons b m=>
     simp only [fP,Bool.and_eq_true]at h;rw [c a b h.1,d m h.2]
theorem RJ {a b:Int} (h:mC a b=true):a=b:=by
 cases a<;>cases b<;>simp_all [mC]
theorem aDg {a b:ACap} (h:WM a b=true):a=b:=by
 cases a<;>cases b<;>simp_all [WM]
theorem aJy {a b:Fn} (h:aPi a b=true):a=b:=of_decide_eq_true h
theorem jV:∀ a b:Nat,Nat.beq a b=true->a=b:=fun a b h=>by simpa using h
theorem AV.beq_eq:∀ (d:Nat) (a b:AV),AV.beq d a b=true->a=b:=by
 intro d
 induction d with
 | zero=>intro a b h;simp [AV.beq]at h
 | succ d c=>
   intro a b h;cases a<;>cases b<;>simp only [AV.beq,Bool.and_eq_true,Bool.false_eq_true]at h<;>try rfl
   ·rw [eq_of_beq h]
   ·rw [of_decide_eq_true h.1,RJ h.2]
   ·rw [rP jV _ _ h]
   ·rw [jV _ _ h.1.1,jV _ _ h.1.2,jV _ _ h.2]
   ·rw [c _ _ h]
   ·rw [jV _ _ h.1.1.1.1,jV _ _ h.1.1.1.2,jV _ _ h.1.1.2,jV _ _ h.1.2,aDg h.2]
   ·rw [rP c _ _ h.1,eq_of_beq h.2]
   ·rw [jV _ _ h]
   ·rw [aJy h.1.1,rP c _ _ h.1.2,rP c _ _ h.2]
   ·rw [jV _ _ h.1,c _ _ h.2]
   ·rw [rP c _ _ h]
   ·rw [rP c _ _ h]
theorem aJz {v:AV} {r:Option ORes} (h:isVal v r=true):r=some (.val v):=by
 unfold isVal at h;split at h
 ·rw [AV.beq_eq _ _ _ h]
 ·simp at h
section
variable {P:Program} {call:bX}
theorem oN {e e':Env} {xs:Array Operand} (h:∀ y∈xs,e'.eval y=e.eval y):fG e' xs=fG e xs:=
 List.map_congr_left fun y a=>h y (by simpa using a)
theorem yU {e e':Env} {ps:Array (Nat × Operand)} (h:∀ y∈ps.map (·.2),e'.eval y=e.eval y):ps.toList.map (fun p=>(p.1,e'.eval p.2))=ps.toList.map (fun p=>(p.1,e.eval p.2)):=
 List.map_congr_left fun p a=>by rw [h p.2 (Array.mem_map.2 ⟨p,by simpa using a,rfl⟩)]
theorem aDh {o:Oper} {e e':Env} (h:∀ y∈o.op.operands,e'.eval y=e.eval y) (A:e'.s=e.s) (u:e'.ro=e.ro):iB P call o e'=iB P call o e:=by
 obtain ⟨dst,op,B,E,after,guard⟩:=o;cases op<;>simp only [Op.operands]at h<;>simp only [iB]
 case build t ps=>rw [yU fun y v=>h y (by simpa using v)]
 case buildSlice t n ps=>rw [yU fun y v=>h y (by simpa using v),A]
 case makeFunc fn first d=>
  rw [oN (xs:=first) fun x k=>h x (by simp [k]),oN (xs:=d) fun x k=>h x (by simp [k])]
 case makeMap t r=>cases r<;>simp_all
 case slice t x lo C D=>cases lo<;>cases C<;>cases D<;>simp_all
 case call c=>
  have a:fG e' c.args=fG e c.args:=oN fun x k=>h x (by simp [Call.operands,k])
  rw [a,A]
  cases q:c.callee with
  | value f=>
    have l:=h f (by simp [Call.operands,q]);simp only [l]
  | invoke r m=>
    have l:=h r (by simp [Call.operands,q]);simp only [l]
  | builtin b=>rfl
 case defer c=>
  have a:fG e' c.args=fG e c.args:=oN fun x k=>h x (by simp [Call.operands,k])
  rw [a,u]
  cases q:c.callee with
  | value f=>
    have l:=h f (by simp [Call.operands,q]);cases e.ro<;>simp only [l]
  | invoke r m=>rfl
  | builtin b=>rfl
 all_goals (first | rfl | (simp_all;done))
def jW (o:Oper):List Nat:=o.op.operands.toList.filterMap fun | .tmp t=>some t | _=>none
theorem VW {o:Oper} {e e':Env} (h:∀ d,d∈jW o->e'.t.get d=e.t.get d):∀ y∈o.op.operands,e'.eval y=e.eval y:=by
 intro y a
 cases y with
 | tmp t=>
   simp only [Env.eval];rw [h t (List.mem_filterMap.2 ⟨.tmp t,by simpa using a,rfl⟩)]
 | _=>rfl
def GG (ops:List Oper) (o:Oper):List Nat:=match o.guard with | some (j,_)=>(match ops[j]? with | some g=>g.dst.toList | none=>[]) | none=>[]
theorem HO {ops:List Oper} {o:Oper} {e e':Env} (h:∀ d,d∈GG ops o->e'.t.get d=e.t.get d):cU ops o e'=cU ops o e:=by
 unfold cU;unfold GG at h;split
 ·rfl
 ·rename_i j f k
  rw [k]at h;simp only at h;split
  ·rfl
  ·rename_i d a
   have b:d∈(match ops[j]? with | some g=>g.dst.toList | none=>[]):=by
    split at a
    ·rename_i g c;rw [c];simp [a]
    ·simp at a
   rw [h d b]
noncomputable def only (t:Tr AV):List Nat->Tr AV
 | []=>.leaf
 | d::l=>match t.get d with
   | some v=>(only t l).set d v
   | none=>only t l
theorem GH (t:Tr AV):∀ (l:List Nat) (d:Nat),(only t l).get d=if d∈l then t.get d else none:=by
 intro l
 induction l with
 | nil=>intro d;simp [only,Tr.get]
 | cons a l e=>
   intro d;unfold only;split
   ·rename_i v c
    rw [Tr.get_set,e];by_cases b:d=a
    ·subst b;simp [c]
    ·simp [b]
   ·rename_i c
    rw [e];by_cases b:d=a
    ·subst b;simp [c]
    ·simp [b]
theorem RK {o:Oper} {e:Env} {r:ORes} (hp:fU o.op=true) (h:iB P call o e=some r):(∃ v,r=.val v)/\∀ s,iB P call o {e with s:=s} = some r:=by
 have hE:∀ s,({e with s:=s}:Env).eval=e.eval:=fun s=>by funext x;cases x<;>rfl
 have hEs:∀ s xs,fG {e with s:=s} xs=fG e xs:=fun s xs=>by unfold fG;rw [hE]
 have hV:∀ {x:Option AV} {r:ORes},valO x=some r->∃ v,r=.val v:=by
  intro x r h;cases x with
  | none=>simp [valO]at h
  | some v=>simp [valO]at h;exact ⟨v,h.symm⟩
 obtain ⟨dst,op,type,pos,after,guard⟩:=o;cases op<;>simp only [fU,Bool.false_eq_true]at hp<;>simp only [iB,hE,hEs]at h ⊢
 all_goals refine ⟨?_,fun s=>h⟩
 all_goals first
  | exact hV h
  | (cases h;exact ⟨_,rfl⟩)
  | skip
 all_goals (repeat' split at h)
 all_goals first
  | exact hV h
  | (cases h;exact ⟨_,rfl⟩)
  | cases h
  | skip
 all_goals first
  | (simp only [cond]at h;(repeat' split at h)<;>first | exact hV h | (cases h;exact ⟨_,rfl⟩) | cases h)
theorem aDi {s:Sto} {cs:List AV} {id:Nat} {s':Sto} (h:oF s cs=some (id,s')):id=s.n/\∃ x,s'=s.push x/\∀ t:Sto,oF t cs=some (t.n,t.push x):=by
 unfold oF at h ⊢
 cases a:cs.all AV.isCell with
 | false=>rw [a]at h;simp at h
 | true=>
   rw [a]at h;simp only [cond_true,Option.some.injEq,Prod.mk.injEq]at h;exact ⟨h.1.symm,_,h.2.symm,fun t=>by simp⟩
theorem NI {o:Oper} {e:Env} {r:ORes} (F:dT o.op=true) (h:iB P call o e=some r):∃ v x,r=.val' v (e.s.push x)/\∀ s:Sto,s.n=e.s.n->iB P call o {e with s:=s} = some (.val' v (s.push x)):=by
 have C:∀ s,({e with s:=s}:Env).eval=e.eval:=fun s=>by funext x;cases x<;>rfl
 have a:∀ {cs:List AV} {f:Nat->AV} {r:ORes},(match oF e.s cs with | some (id,s)=>some (ORes.val' (f id) s) | none=>none)=some r->
  ∃ v x,r=.val' v (e.s.push x)/\∀ s:Sto,s.n=e.s.n->(match oF s cs with | some (id,s)=>some (ORes.val' (f id) s) | none=>none)=some (.val' v (s.push x)):=by
  intro cs f r h;split at h
  ·rename_i id s' D
   obtain ⟨rfl,x,rfl,G⟩:=aDi D;cases h;exact ⟨_,x,rfl,fun s u=>by rw [G s,u]⟩
  ·cases h
 obtain ⟨dst,op,A,J,after,guard⟩:=o;cases op<;>simp only [dT,Bool.false_eq_true]at F<;>simp only [iB,C]at h ⊢
 case alloc t=>
  split at h
  ·rename_i z H
   exact a h
  ·cases h
 case box t x=>
  split at h
  ·cases h
  ·rename_i v X
   exact a h
 case buildSlice t len y=>
  split at h
  ·rename_i B V
   split at h
   ·rename_i k U
    cases q:Nat.ble (len*k) (2 ^ 24) with
    | false=>rw [q]at h;simp at h
    | true=>
      rw [q]at h;simp only [cond_true]at h ⊢;split at h
      ·rename_i L H
       cases d:Nat.beq L.length (len*k) with
       | false=>rw [d]at h;simp at h
       | true=>
         rw [d]at h;simp only [cond_true]at h ⊢;split at h
         ·rename_i cs E
          exact a h
         ·cases h
      ·cases h
   ·cases h
  ·cases h
 case makeMap t r=>
  split at h
  ·rename_i b q
   cases h;exact ⟨_,_,rfl,fun s u=>by rw [u]⟩
  ·cases h
 case makeSlice t l c=>
  split at h
  ·rename_i B k1 I k2 m Q R T
   split at h
   ·rename_i k by_ z M N O
    cases d:(Nat.ble I m&&Nat.ble (by_*m) (2 ^ 47)&&Nat.ble m (2 ^ 62)&&Nat.beq z.cells.length k) with
    | false=>rw [d]at h;simp at h
    | true=>
      rw [d]at h;simp only [cond_true]at h ⊢;exact a h
   ·cases h
  ·cases h
end
end Go.Abs
