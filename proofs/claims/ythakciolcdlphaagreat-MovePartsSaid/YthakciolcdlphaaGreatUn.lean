/-
  The abstract machine: one operation in its region.
-/
import Derived.Test.YthakciolcdlphaaGreatUl
import Derived.Recover
set_option linter.unusedVariables false
set_option linter.unusedSimpArgs false
namespace Go.Abs
section
variable {P:Program} {σ:Sg} {S:Sto} {w:World}
inductive RM (σ:Sg):CallKind->ARec->FrameMode->Prop
 | normal (m:FrameMode):RM σ .normal .no m
 | quiet:RM σ .deferred .no .returning
 | pan (v:AV) (V:Value):VR σ v V->RM σ .deferred (.pan v) (.panicking [{v:=V,recovered:=false}])
 | recd (v:AV) (V:Value):VR σ v V->RM σ .deferred (.recd v) (.panicking [{v:=V,recovered:=true}])
theorem RM.mono {τ:Sg} (h:σ.le τ) {k:CallKind} {r:ARec} {m:FrameMode} (hr:RM σ k r m):RM τ k r m:=by
 cases hr with
 | normal m=>exact .normal m
 | quiet=>exact .quiet
 | pan v V hv=>exact .pan v V (hv.mono h)
 | recd v V hv=>exact .recd v V (hv.mono h)
def EC (k:CallKind) (stk:FrameMode->List Frame):Prop:=k=.normal∨(k=.deferred/\∃ (c:Frame) (t:List Frame),stk=fun m=>{c with mode:=m}::t)
structure ER (σ:Sg) (b:Frame) (e:Env) (a:Act) (m:FrameMode):Prop where
 tm:TmR σ e.nt e.t a.tmps
 df:DefsR σ e.ds a.defers
 rc:RM σ b.kind e.r m
 fn:b.fn=e.fn
 ro:match e.ro with
  | none=>b.roundOf=none
  | some l=>∃ L base sz,b.roundOf=some L/\σ l 0=some (L,base,sz)/\b.kind=.normal
theorem ER.mono {τ:Sg} (h:σ.le τ) {b:Frame} {e:Env} {a:Act} {m:FrameMode} (he:ER σ b e a m):ER τ b e a m:=by
 refine ⟨he.tm.mono h,he.df.mono h,he.rc.mono h,he.fn,?_⟩
 have:=he.ro
 split
 ·rename_i h1;rw [h1]at this;exact this
 ·rename_i l h1;rw [h1]at this;obtain ⟨L,b1,s1,h2,h3,h4⟩:=this;exact ⟨L,b1,s1,h2,h _ _ _ h3,h4⟩
theorem ER.sto {b:Frame} {e:Env} {a:Act} {m:FrameMode} (he:ER σ b e a m) (s:Sto):ER σ b {e with s:=s} a m:=⟨he.tm,he.df,he.rc,he.fn,he.ro⟩
theorem xC {e e':Env} {a:Act} {b:Frame} {m:FrameMode} {dst:Option Tmp} {v:AV} {V:Value} (h:ER σ b e a m) (hp:e.put dst v=some e') (hv:VR σ v V):ER σ b e' (a.put dst V) m/\e'.s=e.s:=by
 unfold Env.put at hp
 cases dst with
 | none=>simp at hp;subst hp;exact ⟨h,rfl⟩
 | some d=>
   simp only at hp
   rw [dL]at hp
   split at hp
   ·rename_i hlt
    simp at hp;subst hp
    refine ⟨⟨⟨by simp [Act.put,h.tm.1],fun i x hx=>?_⟩,h.df,h.rc,h.fn,h.ro⟩,rfl⟩
    rw [Tr.get_set]at hx
    have hsz:=h.tm.1
    split at hx
    ·rename_i he;subst he
     simp at hx;subst hx
     refine ⟨hlt,?_⟩
     simp [Act.put,Array.getD_eq_getD_getElem?,Array.getElem?_setIfInBounds,hsz,hlt,hv]
    ·rename_i he
     obtain ⟨h1,h2⟩:=h.tm.2 i x hx
     refine ⟨h1,?_⟩
     simp only [Act.put,Array.getD_eq_getD_getElem?,Array.getElem?_setIfInBounds]
     rw [if_neg (fun e=>he e.symm)]
     rw [Array.getD_eq_getD_getElem?]at h2
     exact h2
   ·simp at hp
theorem vM {b:Bool} {V:Value} (h:VR σ (.bool b) V):V=.bool b:=by cases h;rfl
theorem CB {ops:List Oper} {o:Oper} {e:Env} {a:Act} {b:Frame} {m:FrameMode} {r:Bool} (h:ER σ b e a m) (hw:cD ops o e=some r) (OPS:Array Oper) (hO:OPS.toList=ops):Region.wanted o (yielded OPS a.tmps)=r:=by
 unfold cD at hw
 unfold Region.wanted
 split at hw
 ·rename_i hg;simp at hw;subst hw;rw [hg]
 ·rename_i j want hg
  rw [hg]
  have hops:OPS[j]?=ops[j]?:=by rw [<-hO];simp
  split at hw
  ·rename_i hd
   simp at hw;subst hw
   have:(OPS[j]?).bind (·.dst)=none:=by
    rw [hops]
    split at hd
    ·rename_i g hg';rw [hg'];exact hd
    ·rename_i hg';rw [hg'];rfl
   simp [yielded,this]
  ·rename_i d hd
   have hb:(OPS[j]?).bind (·.dst)=some d:=by
    rw [hops]
    split at hd
    ·rename_i g hg';rw [hg'];exact hd
    ·simp at hd
   split at hw
   ·rename_i b' hb'
    simp at hw;subst hw
    obtain ⟨h1,h2⟩:=h.tm.2 d _ hb'
    have hV:=vM h2
    have hsz:=h.tm.1
    have hlt:@LT.lt Nat instLTNat d a.tmps.size:=by rw [hsz];exact h1
    rw [Array.getD_eq_getD_getElem?,Array.getElem?_eq_getElem hlt]at hV
    simp only [Option.getD_some]at hV
    simp only [yielded,hb,Option.bind_some,Array.getElem?_eq_getElem hlt,hV]
    rfl
   ·rename_i vs hb'
    simp at hw;subst hw
    obtain ⟨h1,h2⟩:=h.tm.2 d _ hb'
    obtain ⟨ys,hV,_⟩:=VR.tuple_iff.1 h2
    have hsz:=h.tm.1
    have hlt:@LT.lt Nat instLTNat d a.tmps.size:=by rw [hsz];exact h1
    rw [Array.getD_eq_getD_getElem?,Array.getElem?_eq_getElem hlt]at hV
    simp only [Option.getD_some]at hV
    simp only [yielded,hb,Option.bind_some,Array.getElem?_eq_getElem hlt,hV]
    rfl
   ·simp at hw
def HN (P:Program) (nx:Next) (fr:Frame):Prop:=
 (∃ g A,nx=.enter g A/\fr=Frame.enter P g A .normal)∨(∃ l f t a b,nx=.round l f t a b/\fr=Frame.round l f t a b .normal)
def CStp (σ:Sg) (S:Sto) (w:World) (τ:Sg):Option Sto->World->Prop
 | none,w'=>QStp σ w τ w'
 | some S',w'=>Stp σ S w τ S' w'
theorem CStp.stp {τ:Sg} {so:Option Sto} {w':World} (h:Rel σ S w) (hc:CStp σ S w τ so w'):Stp σ S w τ (so.getD S) w':=by
 cases so with
 | none=>exact QStp.stp hc h
 | some S'=>exact hc
def rJ (P:Program) (call:bL):Prop:=
 ∀ (σ:Sg) (S:Sto) (w:World) (f F:Fn) (first cap args:List AV) (C A:Array Value) (res:CRes) (rr:ARec),call (.func f first cap) args S .no=some (res,rr)->Rel σ S w->FnR σ f F->
   VRs σ cap C.toList->VRs σ (first++args) A.toList->
   ∃ nx fr,(invoke (.fn F C) A).run P w=.ok nx w/\HN P nx fr/\∀ (c:Frame) (cs:List Frame),match res with
     | .ret v so=>∃ τ V w',VR τ v V/\CStp σ S w τ so w'/\Steps P (lone fr (c::cs) w) (lone (c.finish V) cs w')
     | .pan v so=>∃ τ V w',VR τ v V/\CStp σ S w τ so w'/\Steps P (lone fr (c::cs) w) (lone (c.raise [{v:=V,recovered:=false}]) cs w')
def RX (P:Program) (call:bL):Prop:=
 ∀ (σ:Sg) (S:Sto) (w:World) (f F:Fn) (first cap args:List AV) (C A:Array Value) (r r':ARec) (m:FrameMode) (res:CRes),call (.func f first cap) args S r=some (res,r')->vY (.func f first cap)=false->
   Rel σ S w->FnR σ f F->VRs σ cap C.toList->VRs σ (first++args) A.toList->RM σ .deferred r m->
   ∃ g A',(invoke (.fn F C) A).run P w=.ok (.enter g A') w/\∀ (c:Frame) (cs:List Frame),match res with
     | .ret _ so=>∃ τ w' m',RM τ .deferred r' m'/\CStp σ S w τ so w'/\Steps P (lone (Frame.enter P g A' .deferred) ({c with mode:=m}::cs) w) (lone {c with mode:=settle m'} cs w')
     | .pan v so=>∃ τ V w' m',VR τ v V/\RM τ .deferred r' m'/\CStp σ S w τ so w'/\Steps P (lone (Frame.enter P g A' .deferred) ({c with mode:=m}::cs) w) (lone {c with mode:=raised m' [{v:=V,recovered:=false}]} cs w')
def aCh (P:Program) (σ:Sg) (S:Sto) (w:World) (b:Frame) (a:Act) (OPS:Array Oper) (i:Nat) (rest:List Nat) (k:List Item) (o:Oper) (cs:List Frame):ORes->Prop
 | .val v=>∃ τ V w',VR τ v V/\QStp σ w τ w'/\Steps P (lone (b.atR a (.inRegion OPS (i::rest)::k)) cs w) (lone (b.atR (a.put o.dst V) (.inRegion OPS rest::k)) cs w')
 | .val' v S'=>∃ τ V w',VR τ v V/\Stp σ S w τ S' w'/\Steps P (lone (b.atR a (.inRegion OPS (i::rest)::k)) cs w) (lone (b.atR (a.put o.dst V) (.inRegion OPS rest::k)) cs w')
 | .pan v S'=>∃ τ V w',VR τ v V/\Stp σ S w τ S' w'/\
  Steps P (lone (b.atR a (.inRegion OPS (i::rest)::k)) cs w) (lone {b.atR a (.inRegion OPS (i::rest)::k) with mode:=.panicking [{v:=V,recovered:=false}]} cs w')
 | .defer d=>∃ D,DefR σ d D/\Steps P (lone (b.atR a (.inRegion OPS (i::rest)::k)) cs w) (lone (b.atR ({a with defers:=D::a.defers}.put o.dst undef) (.inRegion OPS rest::k)) cs w)
 | .recov=>b.roundOf=none->∀ (V:Value) (cs':List Frame),(tryRecover (b.atR a (.inRegion OPS (i::rest)::k)) cs=some (V,cs')∨(tryRecover (b.atR a (.inRegion OPS (i::rest)::k)) cs=none/\V=.nilIface/\cs'=cs))->
  Steps P (lone (b.atR a (.inRegion OPS (i::rest)::k)) cs w) (lone (b.atR (a.put o.dst V) (.inRegion OPS rest::k)) cs' w)
theorem rL {b:Frame} {e:Env} {a:Act} {m:FrameMode} {o:Oper} {call:bL} {r:ORes} (he:ER σ b e a m) (hd:gC P call o e=some r):o.semAt b.roundOf a.eval=execOp a.eval o:=by
 cases hro:b.roundOf with
 | none=>rfl
 | some L=>
   refine Oper.semAt_eq _ _ _ fun c hc=>?_
   have hr:=he.ro
   cases hero:e.ro with
   | none=>rw [hero]at hr;rw [hro]at hr;cases hr
   | some l=>
     unfold gC at hd
     rw [hc]at hd
     simp only [hero]at hd
     split at hd
     ·rename_i h1;simp at h1
     ·cases hd
theorem aCi {call:bL} {o:Oper} {e:Env} (hc:xG o.op=true):∃ c,o.op=.call c/\((∃ f,c.callee=.value f/\gC P call o e=eT e.s (call (e.eval f) (eE e c.args) e.s .no))∨
 (∃ f n,c.callee=.invoke f n/\gC P call o e=eT e.s (call (.func (.method n) [e.eval f] []) (eE e c.args) e.s .no))):=by
 unfold gC
 cases ho:o.op<;>rw [ho]at hc<;>simp [xG]at hc
 rename_i c
 obtain ⟨callee,args,argTypes⟩:=c
 cases callee with
 | value f=>exact ⟨_,rfl,.inl ⟨f,rfl,rfl⟩⟩
 | invoke f n=>exact ⟨_,rfl,.inr ⟨f,n,rfl,rfl⟩⟩
 | builtin b=>simp at hc
theorem pI {call:bL} (hcall:rJ P call) (hfun:∀ v args s r x,call v args s r=some x->∃ f a c,v=.func f a c) {o:Oper} {e:Env} {a:Act} {b:Frame} {r:ORes} {OPS:Array Oper} {i:Nat} {rest:List Nat} {k:List Item} {cs:List Frame}
 (h:Rel σ e.s w) (htm:TmR σ e.nt e.t a.tmps) (hsem:o.semAt b.roundOf a.eval=execOp a.eval o) (ho:OPS[i]?=some o) (hw:Region.wanted o (yielded OPS a.tmps)=true) (hd:gC P call o e=some r):aCh P σ e.s w b a OPS i rest k o cs r:=by
 have hg:=stepGR_op (P:=P) (b:=b) (k:=k) (cs:=cs) (w:=w) (rest:=rest) ho hw
 rw [hsem]at hg
 have hfin:∀ v,(b.atR a (.inRegion OPS (i::rest)::k)).finish v=b.atR (a.put o.dst v) (.inRegion OPS rest::k):=by
  intro v;rw [Frame.finish_atR,ho];rfl
 cases hc:xG o.op with
 | false=>
   have hr:=aKp (σ:=σ) h htm hc hd
   have hval:∀ V w',Yld ((execOp a.eval o).run P w) V w'->Steps P (lone (b.atR a (.inRegion OPS (i::rest)::k)) cs w) (lone (b.atR (a.put o.dst V) (.inRegion OPS rest::k)) cs w'):=by
    intro V w' hy
    refine .one (step_lone_go ?_)
    rw [hg,<-hfin]
    rcases hy with h1 | ⟨h1,rfl⟩
    ·simp [stepG.apply,h1]
    ·simp [stepG.apply,h1]
   cases r with
   | val v=>obtain ⟨V,w',h1,h2,h3⟩:=hr;exact ⟨σ,V,w',h2,.refl h3,hval V w' h1⟩
   | val' v S'=>obtain ⟨τ,V,w',h1,h2,h3⟩:=hr;exact ⟨τ,V,w',h2,h3,hval V w' h1⟩
   | pan v S'=>
     obtain ⟨V,h1,h2,rfl⟩:=hr
     refine ⟨σ,V,w,h2,Stp.refl h,.one (step_lone_go ?_)⟩
     rw [hg,<-Frame.raise_atR];simp [stepG.apply,h1]
   | defer d=>
     obtain ⟨D,h1,h2⟩:=hr
     refine ⟨D,h2,.one (step_lone_go ?_)⟩
     have:({b.atR a (.inRegion OPS (i::rest)::k) with defers:=D::a.defers}:Frame).finish undef =
      b.atR ({a with defers:=D::a.defers}.put o.dst undef) (.inRegion OPS rest::k):=by
      have:=Frame.finish_atR b {a with defers:=D::a.defers} OPS i rest k undef
      rw [ho]at this;exact this
     rw [hg]
     simp only [stepG.apply,Sem.runT_eq,h1,GStep.bare_after]
     exact congrArg (fun fr=>GStep.go {frame:=fr,callers:=cs,status:=.running,dying:=none} w) this
   | recov=>
     have h1:(execOp a.eval o).run P w=.ok .recover w:=hr
     intro hro V cs' htr
     refine .one (step_lone_go ?_)
     rw [hg,<-hfin]
     simp only [stepG.apply,Sem.runT_eq,h1,GStep.bare_after,if_true]
     rcases htr with htr | ⟨htr,rfl,rfl⟩
     ·simp only [Frame.atR,hro]at htr ⊢
      simp [htr]
     ·simp only [Frame.atR,hro]at htr ⊢
      simp [htr]
 | true=>
   obtain ⟨c,hop,hcc⟩:=aCi (P:=P) (call:=call) (e:=e) hc
   have hpush:∀ (nx:Next) (fr:Frame) (w0:World),(execOp a.eval o).run P w0=.ok nx w0->w0=w->HN P nx fr->Steps P (lone (b.atR a (.inRegion OPS (i::rest)::k)) cs w) (lone fr (b.atR a (.inRegion OPS (i::rest)::k)::cs) w):=by
    rintro nx fr w0 h1 rfl (⟨g,A,rfl,rfl⟩ | ⟨l,f,t,a',b',rfl,rfl⟩)
    ·exact .one (step_lone_go (by rw [hg];simp [stepG.apply,h1,Frame.atR]))
    ·exact .one (step_lone_go (by rw [hg];simp [stepG.apply,h1,Frame.atR]))
   have hmain:∀ (f F:Fn) (first cap args:List AV) (C A:Array Value),eT e.s (call (.func f first cap) args e.s .no)=some r->FnR σ f F->VRs σ cap C.toList->VRs σ (first++args) A.toList->
    (execOp a.eval o).run P w=(invoke (.fn F C) A).run P w->aCh P σ e.s w b a OPS i rest k o cs r:=by
    intro f F first cap args C A hof hF hcap hargs hex
    unfold eT at hof
    split at hof
    ·rename_i v rr hcl
     simp at hof;subst hof
     obtain ⟨nx,fr,h1,h2,h3⟩:=hcall σ e.s w f F first cap args C A _ _ hcl h hF hcap hargs
     obtain ⟨τ,V,w',q1,q2,q3⟩:=h3 (b.atR a (.inRegion OPS (i::rest)::k)) cs
     exact ⟨τ,V,w',q1,q2,by rw [<-hfin];exact (hpush nx fr w (by rw [hex];exact h1) rfl h2).trans q3⟩
    ·rename_i v s' rr hcl
     simp at hof;subst hof
     obtain ⟨nx,fr,h1,h2,h3⟩:=hcall σ e.s w f F first cap args C A _ _ hcl h hF hcap hargs
     obtain ⟨τ,V,w',q1,q2,q3⟩:=h3 (b.atR a (.inRegion OPS (i::rest)::k)) cs
     exact ⟨τ,V,w',q1,q2,by rw [<-hfin];exact (hpush nx fr w (by rw [hex];exact h1) rfl h2).trans q3⟩
    ·rename_i v rr hcl
     simp at hof;subst hof
     obtain ⟨nx,fr,h1,h2,h3⟩:=hcall σ e.s w f F first cap args C A _ _ hcl h hF hcap hargs
     obtain ⟨τ,V,w',q1,q2,q3⟩:=h3 (b.atR a (.inRegion OPS (i::rest)::k)) cs
     exact ⟨τ,V,w',q1,CStp.stp h q2,by rw [<-Frame.raise_atR];exact (hpush nx fr w (by rw [hex];exact h1) rfl h2).trans q3⟩
    ·rename_i v s' rr hcl
     simp at hof;subst hof
     obtain ⟨nx,fr,h1,h2,h3⟩:=hcall σ e.s w f F first cap args C A _ _ hcl h hF hcap hargs
     obtain ⟨τ,V,w',q1,q2,q3⟩:=h3 (b.atR a (.inRegion OPS (i::rest)::k)) cs
     exact ⟨τ,V,w',q1,CStp.stp h q2,by rw [<-Frame.raise_atR];exact (hpush nx fr w (by rw [hex];exact h1) rfl h2).trans q3⟩
    ·simp at hof
   have hargs:=rN (σ:=σ) htm c.args
   rcases hcc with ⟨f,hcal,hdd⟩ | ⟨f,n,hcal,hdd⟩
   ·rw [hdd]at hd
    have hfv:=aW (σ:=σ) htm f
    have hfn:∃ g x y,e.eval f=.func g x y:=by
     unfold eT at hd
     split at hd<;>first | (rename_i hcl;exact hfun _ _ _ _ _ hcl) | simp at hd
    obtain ⟨g,x,y,hg'⟩:=hfn
    rw [hg']at hfv hd
    generalize hq:a.eval f=FV at hfv
    cases hfv with
    | func _ F _ _ X Y hF h1 h2 h3 h4=>
      refine hmain g F x y _ Y (X++c.args.map a.eval) hd hF ⟨by simpa using h2,fun i x X e1 e2=>h4 i x X e1 (by simpa using e2)⟩ ?_ ?_
      ·rw [Array.toList_append]
       exact VRs.append ⟨by simpa using h1,fun i x X e1 e2=>h3 i x X e1 (by simpa using e2)⟩ hargs
      ·simp [execOp,hop,resolve,hcal,hq,Deferred.ofValue]
   ·rw [hdd]at hd
    refine hmain (.method n) (.method n) [e.eval f] [] _ #[] (#[a.eval f]++c.args.map a.eval) hd (.method n) (VRs.nil _) ?_ ?_
    ·rw [Array.toList_append]
     exact VRs.cons (aW htm f) hargs
    ·simp [execOp,hop,resolve,hcal]
end
end Go.Abs
/-
 The abstract machine: regions in the text's order,code,ranges over functions.
-/
namespace Go.Abs
def Gone (P:Program) (τ:Sg) (M:Machine) (b:Frame) (stk:FrameMode->List Frame) (k:List Item) (a:Act) (m:FrameMode) (w:World):Ex->Prop
 | .normal=>Steps P M (lone (b.atR a k) (stk m) w)
 | .exit id=>(∀ k',exitTo id k=some k'->Steps P M (lone (b.atR a k') (stk m) w))/\(exitTo id k=none->∃ k₁,exitTo id k₁=none/\Steps P M (lone (b.atR a (.code (.exit id)::k₁)) (stk m) w))
 | .goto _=>True
 | .ret=>∃ k₁,Steps P M (lone (b.atR a (.code .ret::k₁)) (stk m) w)
 | .panic v=>∃ V todo,VR τ v V/\Steps P M (lone {b.atR a todo with mode:=.panicking [{v:=V,recovered:=false}]} (stk m) w)
theorem Gone.of_steps {P:Program} {τ:Sg} {M M':Machine} {b:Frame} {stk:FrameMode->List Frame} {k:List Item} {a:Act} {m:FrameMode} {w:World} {x:Ex} (h:Steps P M M') (hg:Gone P τ M' b stk k a m w x):Gone P τ M b stk k a m w x:=by
 cases x with
 | normal=>exact h.trans hg
 | exit id=>exact ⟨fun k' hk=>h.trans (hg.1 k' hk),fun hk=>let ⟨k₁,h1,h2⟩:=hg.2 hk;⟨k₁,h1,h.trans h2⟩⟩
 | goto l=>trivial
 | ret=>obtain ⟨k₁,hs⟩:=hg;exact ⟨k₁,h.trans hs⟩
 | panic v=>obtain ⟨V,todo,hv,hs⟩:=hg;exact ⟨V,todo,hv,h.trans hs⟩
theorem Gone.pass {P:Program} {τ:Sg} {M:Machine} {b:Frame} {stk:FrameMode->List Frame} {x:Item} {k:List Item} {a:Act} {m:FrameMode} {w:World} {e:Ex} (hx:x.plain=true∨(∃ c,x=.inScope c)) (hn:e≠.normal)
 (hg:Gone P τ M b stk (x::k) a m w e):Gone P τ M b stk k a m w e:=by
 have hex:∀ id,exitTo id (x::k)=exitTo id k:=by
  intro id
  rcases hx with hx | ⟨c,rfl⟩
  ·exact exitTo_plain hx id k
  ·simp [exitTo]
 cases e with
 | normal=>exact absurd rfl hn
 | exit id=>exact ⟨fun k' hk=>hg.1 k' (by rw [hex];exact hk),fun hk=>hg.2 (by rw [hex];exact hk)⟩
 | goto l=>trivial
 | ret=>exact hg
 | panic v=>exact hg
def COut (P:Program) (σ:Sg) (S:Sto) (w:World) (M:Machine) (b:Frame) (stk:FrameMode->List Frame) (k:List Item) (ex:Ex) (e':Env):Prop:=
 ∃ τ a' m' w',ER τ b e' a' m'/\Stp σ S w τ e'.s w'/\Gone P τ M b stk k a' m' w' ex
theorem COut.of_steps {P:Program} {σ:Sg} {S:Sto} {w:World} {M M':Machine} {b:Frame} {stk:FrameMode->List Frame} {k:List Item} {ex:Ex} {e':Env} (h:Steps P M M') (hg:COut P σ S w M' b stk k ex e'):COut P σ S w M b stk k ex e':=by
 obtain ⟨τ,a',m',w',h1,h2,h3⟩:=hg
 exact ⟨τ,a',m',w',h1,h2,h3.of_steps h⟩
theorem COut.after {P:Program} {σ τ:Sg} {S S':Sto} {w w':World} {M:Machine} {b:Frame} {stk:FrameMode->List Frame} {k:List Item} {ex:Ex} {e':Env} (h:Stp σ S w τ S' w') (hg:COut P τ S' w' M b stk k ex e'):COut P σ S w M b stk k ex e':=by
 obtain ⟨ρ,a',m',w'',h1,h2,h3⟩:=hg
 exact ⟨ρ,a',m',w'',h1,h.trans h2,h3⟩
section
variable {P:Program}
theorem aHa {call:bL} (hcall:rJ P call) (hfun:∀ v args s r x,call v args s r=some x->∃ f a c,v=.func f a c) {OPS:Array Oper} {b:Frame} {stk:FrameMode->List Frame} (hstk:EC b.kind stk) {k:List Item}:
 ∀ (l:List Oper) (i:Nat) (σ:Sg) (w:World) (e:Env) (a:Act) (m:FrameMode) (ex:Ex) (e':Env),(∀ j,l[j]?=OPS[i+j]?)->gA P call OPS.toList l e=some (ex,e')->Rel σ e.s w->ER σ b e a m->
   COut P σ e.s w (lone (b.atR a (.inRegion OPS (List.range' i l.length)::k)) (stk m) w) b stk k ex e':=by
 intro l
 induction l with
 | nil=>
   intro i σ w e a m ex e' hl hd h he
   simp [gA]at hd
   obtain ⟨rfl,rfl⟩:=hd
   exact ⟨σ,a,m,w,he,Stp.refl h,.one stepR_region_end⟩
 | cons o l ih=>
   intro i σ w e a m ex e' hl hd h he
   have ho:OPS[i]?=some o:=by have:=hl 0;simpa using this.symm
   have hl':∀ j,l[j]?=OPS[i+1+j]?:=fun j=>by
    have:=hl (j+1)
    rw [show i+1+j=i+(j+1) by omega,<-this];simp
   simp only [List.length_cons,List.range'_succ]
   simp only [gA]at hd
   split at hd
   ·simp at hd
   ·rename_i hw
    have hw':=CB he hw OPS rfl
    split at hd
    ·rename_i e1 hp
     obtain ⟨he1,hs1⟩:=xC (V:=undef) he hp (VR.tuple_iff.2 ⟨_,rfl,VRs.nil _⟩)
     have hst:Steps P (lone (b.atR a (.inRegion OPS (i::List.range' (i+1) l.length)::k)) (stk m) w) (lone (b.atR (a.put o.dst undef) (.inRegion OPS (List.range' (i+1) l.length)::k)) (stk m) w):=by
      have:=stepR_op_skip (P:=P) (b:=b) (a:=a) (k:=k) (cs:=stk m) (w:=w) (ops:=OPS) (i:=i) (rest:=List.range' (i+1) l.length) (by simp [ho,hw'])
      simp only [ho,Option.bind_some]at this
      exact .one this
     have:=ih (i+1) σ w e1 _ m ex e' hl' hd (by rw [hs1];exact h) he1
     rw [hs1]at this
     exact this.of_steps hst
    ·simp at hd
   ·rename_i hw
    have hw':=CB he hw OPS rfl
    split at hd
    ·simp at hd
    ·rename_i v hop
     obtain ⟨τ,V,w',h1,h2,h3⟩:=pI (rest:=List.range' (i+1) l.length) (k:=k) (cs:=stk m) hcall hfun h he.tm (rL he hop) ho hw' hop
     split at hd
     ·rename_i e1 hp
      obtain ⟨he1,hs1⟩:=xC (he.mono h2.le) hp h1
      have:=ih (i+1) τ w' e1 _ m ex e' hl' hd (by rw [hs1];exact h2.rel h) he1
      rw [hs1]at this
      exact (this.of_steps h3).after (h2.stp h)
     ·simp at hd
    ·rename_i v s hop
     obtain ⟨τ,V,w',h1,h2,h3⟩:=pI (rest:=List.range' (i+1) l.length) (k:=k) (cs:=stk m) hcall hfun h he.tm (rL he hop) ho hw' hop
     split at hd
     ·rename_i e1 hp
      obtain ⟨he1,hs1⟩:=xC ((he.mono h2.ext).sto s) hp h1
      have:=ih (i+1) τ w' e1 _ m ex e' hl' hd (by rw [hs1];exact h2.rel) he1
      rw [hs1]at this
      exact (this.of_steps h3).after h2
     ·simp at hd
    ·rename_i v s hop
     obtain ⟨τ,V,w',h1,h2,h3⟩:=pI (rest:=List.range' (i+1) l.length) (k:=k) (cs:=stk m) hcall hfun h he.tm (rL he hop) ho hw' hop
     simp at hd
     obtain ⟨rfl,rfl⟩:=hd
     exact ⟨τ,a,m,w',(he.mono h2.ext).sto s,h2,V,_,h1,h3⟩
    ·rename_i d hop
     obtain ⟨D,h1,h3⟩:=pI (rest:=List.range' (i+1) l.length) (k:=k) (cs:=stk m) hcall hfun h he.tm (rL he hop) ho hw' hop
     split at hd
     ·rename_i e1 hp
      have he0:ER σ b {e with ds:=d::e.ds} {a with defers:=D::a.defers} m:=⟨he.tm,.cons _ _ _ _ h1 he.df,he.rc,he.fn,he.ro⟩
      obtain ⟨he1,hs1⟩:=xC (V:=undef) he0 hp (VR.tuple_iff.2 ⟨_,rfl,VRs.nil _⟩)
      have:=ih (i+1) σ w e1 _ m ex e' hl' hd (by rw [hs1];exact h) he1
      rw [hs1]at this
      exact this.of_steps h3
     ·simp at hd
    ·rename_i hop
     have hre:=pI (rest:=List.range' (i+1) l.length) (k:=k) (cs:=stk m) hcall hfun h he.tm (rL he hop) ho hw' hop
     split at hd
     ·-- something is recovered
      rename_i v hro hr
      have hbro:b.roundOf=none:=by have:=he.ro;rw [hro]at this;exact this
      have hrc:=he.rc
      rw [hr]at hrc
      generalize hkind:b.kind=kd at hrc
      cases hrc with
      | pan _ V hV=>
        rcases hstk with hs | ⟨_,c,t,rfl⟩
        ·rw [hs]at hkind;cases hkind
        ·split at hd
         ·rename_i e1 hp
          have he0:ER σ b {e with r:=.recd v} a (.panicking [{v:=V,recovered:=true}]):=⟨he.tm,he.df,by rw [hkind];exact .recd v V hV,he.fn,he.ro⟩
          obtain ⟨he1,hs1⟩:=xC he0 hp hV
          have hst:=hre hbro V (({c with mode:=.panicking [{v:=V,recovered:=true}]}:Frame)::t) (.inl (by
           rw [tryRecover_deferred (by exact hkind)]
           rfl))
          have:=ih (i+1) σ w e1 _ _ ex e' hl' hd (by rw [hs1];exact h) he1
          rw [hs1]at this
          exact this.of_steps hst
         ·simp at hd
     ·rename_i hro hnp
      have hbro:b.roundOf=none:=by have:=he.ro;rw [hro]at this;exact this
      have htr:tryRecover (b.atR a (.inRegion OPS (i::List.range' (i+1) l.length)::k)) (stk m)=none:=by
       have hrc:=he.rc
       rcases hstk with hs | ⟨hs,c,t,rfl⟩
       ·unfold tryRecover
        simp [Frame.atR,hs]
       ·rw [tryRecover_deferred (by exact hs)]
        rw [hs]at hrc
        generalize hrr:e.r=rr at hrc
        cases hrc with
        | quiet=>rfl
        | pan v V hv=>exact absurd hrr (hnp v)
        | recd v V hv=>rfl
      split at hd
      ·rename_i e1 hp
       obtain ⟨he1,hs1⟩:=xC he hp .nili
       have hst:=hre hbro .nilIface (stk m) (.inr ⟨htr,rfl,rfl⟩)
       have:=ih (i+1) σ w e1 _ m ex e' hl' hd (by rw [hs1];exact h) he1
       rw [hs1]at this
       exact this.of_steps hst
      ·simp at hd
     ·simp at hd
def PC (P:Program) (f:Env->Option (Ex × Env)) (c:Code):Prop:=
 ∀ (σ:Sg) (w:World) (b:Frame) (stk:FrameMode->List Frame) (k:List Item) (e:Env) (a:Act) (m:FrameMode) (ex:Ex) (e':Env),EC b.kind stk->f e=some (ex,e')->Rel σ e.s w->ER σ b e a m->
   COut P σ e.s w (lone (b.atR a (.code c::k)) (stk m) w) b stk k ex e'
theorem WH {f:Env->Option (Ex × Env)} {c:Code} (hf:PC P f c):∀ (n:Nat) (σ:Sg) (w:World) (b:Frame) (stk:FrameMode->List Frame) (k:List Item) (e:Env) (a:Act) (m:FrameMode) (ex:Ex) (e':Env),EC b.kind stk->
 loopGo f n e=some (ex,e')->Rel σ e.s w->ER σ b e a m->COut P σ e.s w (lone (b.atR a (.code c::.inLoop c::k)) (stk m) w) b stk k ex e':=by
 intro n
 induction n with
 | zero=>intro σ w b stk k e a m ex e' _ h;simp [loopGo]at h
 | succ n ih=>
   intro σ w b stk k e a m ex e' hstk h hr he
   simp only [loopGo]at h
   split at h
   ·rename_i e1 hf1
    obtain ⟨τ,a',m',w',h1,h2,h3⟩:=hf σ w b stk (.inLoop c::k) e a m _ _ hstk hf1 hr he
    have:=ih τ w' b stk k e1 a' m' ex e' hstk h h2.rel h1
    exact (this.of_steps (Steps.trans h3 (.one stepR_inLoop))).after h2
   ·rename_i hf1
    obtain ⟨τ,a',m',w',h1,h2,h3⟩:=hf σ w b stk (.inLoop c::k) e a m ex e' hstk h hr he
    have hn:ex≠.normal:=by
     rintro rfl
     exact hf1 e' h
    exact ⟨τ,a',m',w',h1,h2,Gone.pass (x:=.inLoop c) (.inl rfl) hn h3⟩
end
end Go.Abs
/-
 The abstract machine: a step in a part of the store;what one operation asks;the laws of a drawn region's order.
-/
namespace Go.Abs
def Sg.join (τ σ:Sg):Sg:=⟨τ.m,fun id g=>match τ id g with
 | some y=>some y
 | none=>σ id g⟩
theorem Sg.le_join (τ σ:Sg):τ.le (τ.join σ):=by
 refine ⟨fun id g x h=>?_,fun _ _ _ h=>h⟩;simp only [Sg.join];rw [h]
structure Framed (σ:Sg) (X:Sto) (w:World) (τ:Sg) (X':Sto) (w':World):Prop where
 rel:Rel τ X' w'
 ext:σ.le τ
 size:w.heap.size<=w'.heap.size
 frame:∀ b,b<w.heap.size->¬ Has σ X b->w'.heap[b]?=w.heap[b]?
 own:∀ b,Has τ X' b->Has σ X b∨w.heap.size<=b
 mnew:∀ b off V,τ.m b off=some V->σ.m b off=some V∨Has σ X b∨w.heap.size<=b
theorem aCj {σ ρ τ:Sg} {X X' R R':Sto} {w w':World} (hX:Rel σ X w) (hm:ρ.m=σ.m) (hρ:∀ id g,id<R.n->ρ id g=σ id g) (hR:∀ id x,R.get id=some x->X.get id=some x)
 (h:Stp ρ R w τ R' w') (hc:∀ id g,R.n<=id->id<R'.n->σ id g=none) (hn:X.n<=X'.n) (hn':R'.n<=X'.n)
 (hX':∀ id x,X'.get id=some x->R'.get id=some x∨(X.get id=some x/\R.get id=none)) (ht:∀ id,X'.n<=id->X'.o.get id=none):
 Framed σ X w (τ.join σ) X' w':=by
 have hle:σ.le (τ.join σ):=by
  refine ⟨fun id g x hx=>?_,fun b o V hV=>h.ext.m b o V (by rw [hm];exact hV)⟩
  simp only [Sg.join]
  by_cases hi:id<R.n
  ·rw [h.ext id g x (by rw [hρ id g hi];exact hx)]
  ·cases hτ:τ id g with
   | none=>exact hx
   | some y=>
     have:=h.rel.bnd id g y hτ
     rw [hc id g (by omega) this]at hx
     cases hx
 have hτle:=Sg.le_join τ σ
 have hρle:ρ.le (τ.join σ):=Sg.le_trans h.ext hτle
 have hHas:∀ b,Has ρ R b->Has σ X b:=by
  rintro b ⟨id,x,base,sz,h1,h2⟩
  exact ⟨id,x,base,sz,hR id x h1,by rw [<-hρ id _ (Sto.get_lt h1)];exact h2⟩
 have hout:∀ id x b base sz,X.get id=some x->R.get id=none->σ id (cN x)=some (b,base,sz)->¬ Has ρ R b:=by
  rintro id x b base sz h1 h2 h3 ⟨id',x',base',sz',h4,h5⟩
  have:=hX.inj id x id' x' b base sz base' sz' h1 (hR _ _ h4) h3 (by rw [<-hρ id' _ (Sto.get_lt h4)];exact h5)
  subst this
  rw [h2]at h4;cases h4
 have hsame:∀ id x g,X.get id=some x->R.get id=none->(τ.join σ) id g=σ id g:=by
  intro id x g h1 h2
  simp only [Sg.join]
  by_cases hi:id<R.n
  ·rw [(h.hole id hi h2).2 g,hρ id g hi]
   cases σ id g<;>rfl
  ·cases hτ:τ id g with
   | none=>rfl
   | some y=>
     obtain ⟨b,base,sz,o,h3,_⟩:=hX.obj id x h1
     rw [hc id _ (by omega) (h.rel.bnd id g y hτ)]at h3
     cases h3
 have hown:∀ b,Has (τ.join σ) X' b->(∃ id x base sz,R'.get id=some x/\τ id (cN x)=some (b,base,sz))∨(∃ id x base sz,X.get id=some x/\R.get id=none/\σ id (cN x)=some (b,base,sz)):=by
  rintro b ⟨id,x,base,sz,h1,h2⟩
  rcases hX' id x h1 with h3 | ⟨h3,h4⟩
  ·obtain ⟨b',base',sz',o,h5,_⟩:=h.rel.obj id x h3
   have:=hτle _ _ _ h5
   rw [h2]at this
   obtain ⟨rfl,rfl,rfl⟩:b=b'/\base=base'/\sz=sz':=by simpa using this
   exact .inl ⟨id,x,base,sz,h3,h5⟩
  ·rw [hsame id x _ h3 h4]at h2
   exact .inr ⟨id,x,base,sz,h3,h4,h2⟩
 have hown':∀ b,Has (τ.join σ) X' b->Has σ X b∨w.heap.size<=b:=by
  intro b hb
  rcases hown b hb with ⟨id,x,base,sz,h1,h2⟩ | ⟨id,x,base,sz,h1,_,h2⟩
  ·exact (h.own b ⟨id,x,base,sz,h1,h2⟩).imp (hHas b) (fun h=>h)
  ·exact .inl ⟨id,x,base,sz,h1,h2⟩
 refine ⟨⟨?_,?_,?_,?_,?_,ht⟩,hle,h.size,fun b hb hn=>h.frame b hb fun hh=>hn (hHas b hh),hown',fun b off V hV=>?_⟩
 ·intro id x hx
  rcases hX' id x hx with h3 | ⟨h3,h4⟩
  ·obtain ⟨b,base,sz,o,h5,h6,h7⟩:=h.rel.obj id x h3
   exact ⟨b,base,sz,o,hτle _ _ _ h5,h6,h7.mono hτle⟩
  ·obtain ⟨b,base,sz,o,h5,h6,h7⟩:=hX.obj id x h3
   refine ⟨b,base,sz,o,by rw [hsame id x _ h3 h4];exact h5,?_,h7.mono hle⟩
   rw [h.frame b (Array.getElem?_eq_some_iff.1 h6).1 (hout id x b base sz h3 h4 h5)]
   exact h6
 ·intro id x id' x' b base sz base' sz' h1 h2 h3 h4
  have key:∀ id x id' x' base sz base' sz',R'.get id=some x->(X.get id'=some x'/\R.get id'=none)->(τ.join σ) id (cN x)=some (b,base,sz)->(τ.join σ) id' (cN x')=some (b,base',sz')->False:=by
   intro id x id' x' base sz base' sz' h1 h2 h3 h4
   obtain ⟨b1,base1,sz1,o1,g1,_⟩:=h.rel.obj id x h1
   have:=hτle _ _ _ g1
   rw [h3]at this
   obtain ⟨rfl,rfl,rfl⟩:b=b1/\base=base1/\sz=sz1:=by simpa using this
   rw [hsame id' x' _ h2.1 h2.2]at h4
   rcases h.own b ⟨id,x,base,sz,h1,g1⟩ with h5 | h5
   ·exact hout id' x' b base' sz' h2.1 h2.2 h4 h5
   ·have:=hX.lt ⟨id',x',base',sz',h2.1,h4⟩
    omega
  rcases hX' id x h1 with g1 | g1<;>rcases hX' id' x' h2 with g2 | g2
  ·obtain ⟨b1,base1,sz1,o1,k1,_⟩:=h.rel.obj id x g1
   have e1:=hτle _ _ _ k1
   rw [h3]at e1
   obtain ⟨rfl,rfl,rfl⟩:b=b1/\base=base1/\sz=sz1:=by simpa using e1
   obtain ⟨b2,base2,sz2,o2,k2,_⟩:=h.rel.obj id' x' g2
   have e2:=hτle _ _ _ k2
   rw [h4]at e2
   obtain ⟨rfl,rfl,rfl⟩:b=b2/\base'=base2/\sz'=sz2:=by simpa using e2
   exact h.rel.inj id x id' x' b base sz base' sz' g1 g2 k1 k2
  ·exact (key _ _ _ _ _ _ _ _ g1 g2 h3 h4).elim
  ·exact (key _ _ _ _ _ _ _ _ g2 g1 h4 h3).elim
  ·rw [hsame id x _ g1.1 g1.2]at h3
   rw [hsame id' x' _ g2.1 g2.2]at h4
   exact hX.inj id x id' x' b base sz base' sz' g1.1 g2.1 h3 h4
 ·intro b off V hV
  obtain ⟨h1,h2⟩:=h.rel.mu b off V hV
  refine ⟨h1,fun hh=>?_⟩
  rcases hown b hh with ⟨id,x,base,sz,h3,h4⟩ | ⟨id,x,base,sz,h3,h4,h5⟩
  ·exact h2 ⟨id,x,base,sz,h3,h4⟩
  ·rcases h.mnew b off V hV with h6 | h6 | h6
   ·exact (hX.mu b off V (by rw [<-hm];exact h6)).2 ⟨id,x,base,sz,h3,h5⟩
   ·exact hout id x b base sz h3 h4 h5 h6
   ·have:=hX.lt ⟨id,x,base,sz,h3,h5⟩;omega
 ·intro id g y hy
  simp only [Sg.join]at hy
  split at hy
  ·rename_i z hz
   exact Nat.lt_of_lt_of_le (h.rel.bnd id g z hz) hn'
  ·exact Nat.lt_of_lt_of_le (hX.bnd id g y hy) hn
 ·intro id x g y hx hy
  rcases hX' id x hx with h3 | ⟨h3,h4⟩
  ·simp only [Sg.join]at hy
   split at hy
   ·rename_i z hz
    exact h.rel.gen id x g z h3 hz
   ·rename_i hz
    by_cases hi:id<R.n
    ·have:=h.ext id g y (by rw [hρ id g hi];exact hy)
     rw [hz]at this;cases this
    ·rw [hc id g (by omega) (Sto.get_lt h3)]at hy;cases hy
  ·rw [hsame id x g h3 h4]at hy
   exact hX.gen id x g y h3 hy
 ·rcases h.mnew b off V hV with h6 | h6 | h6
  ·exact .inl (by rw [<-hm];exact h6)
  ·exact .inr (.inl (hHas b h6))
  ·exact .inr (.inr h6)
theorem Rel.same {σ:Sg} {S S':Sto} {w:World} (h:Rel σ S w) (hg:∀ id,S'.get id=S.get id) (hn:S'.n=S.n) (ht:∀ id,S'.n<=id->S'.o.get id=none):Rel σ S' w where
 obj:=fun id x hx=>h.obj id x (by rw [<-hg];exact hx)
 inj:=fun id x id' x' b base sz base' sz' h1 h2=>h.inj id x id' x' b base sz base' sz' (by rw [<-hg];exact h1) (by rw [<-hg];exact h2)
 mu:=fun b off V hm=>⟨(h.mu b off V hm).1,fun ⟨id,x,base,sz,h1,h2⟩=>(h.mu b off V hm).2 ⟨id,x,base,sz,by rw [<-hg];exact h1,h2⟩⟩
 bnd:=fun id g x hx=>by rw [hn];exact h.bnd id g x hx
 gen:=fun id x g y h1 h2=>h.gen id x g y (by rw [<-hg];exact h1) h2
 top:=ht
theorem Rel.part {σ ρ:Sg} {X R:Sto} {w:World} (h:Rel σ X w) (hm:ρ.m=σ.m) (hρ:∀ id g,id<R.n->ρ id g=σ id g) (hρ':∀ id g x,ρ id g=some x->id<R.n) (hR:∀ id x,R.get id=some x->X.get id=some x)
 (hv:∀ id x,R.get id=some x->∀ b base sz o,ObjR σ base sz x o->σ id (cN x)=some (b,base,sz)->w.heap[b]?=some o->ObjR ρ base sz x o) (ht:∀ id,R.n<=id->R.o.get id=none):Rel ρ R w where
 obj:=fun id x hx=>by
  obtain ⟨b,base,sz,o,h1,h2,h3⟩:=h.obj id x (hR id x hx)
  exact ⟨b,base,sz,o,by rw [hρ id _ (Sto.get_lt hx)];exact h1,h2,hv id x hx b base sz o h3 h1 h2⟩
 inj:=fun id x id' x' b base sz base' sz' h1 h2 h3 h4=>h.inj id x id' x' b base sz base' sz' (hR _ _ h1) (hR _ _ h2) (by rw [<-hρ id _ (Sto.get_lt h1)];exact h3) (by rw [<-hρ id' _ (Sto.get_lt h2)];exact h4)
 mu:=fun b off V hV=>
  have hV':σ.m b off=some V:=by rw [<-hm];exact hV
  ⟨(h.mu b off V hV').1,fun ⟨id,x,base,sz,h1,h2⟩=>(h.mu b off V hV').2 ⟨id,x,base,sz,hR _ _ h1,by rw [<-hρ id _ (Sto.get_lt h1)];exact h2⟩⟩
 bnd:=hρ'
 gen:=fun id x g y h1 h2=>h.gen id x g y (hR _ _ h1) (by rw [<-hρ id _ (Sto.get_lt h1)];exact h2)
 top:=ht
end Go.Abs
/-
 The abstract machine: what one operation asks.
-/
namespace Go.Abs
theorem pJ {α:Type} {f:α->α->Bool} (hf:∀ a b,f a b=true->a=b):∀ (l m:List α),eO f l m=true->l=m:=by
 intro l
 induction l with
 | nil=>intro m h;cases m<;>simp_all [eO]
 | cons a l ih=>
   intro m h
   cases m with
   | nil=>simp [eO]at h
   | cons b m=>
     simp only [eO,Bool.and_eq_true]at h
     rw [hf a b h.1,ih m h.2]
theorem KZ {a b:Int} (h:pO a b=true):a=b:=by
 cases a<;>cases b<;>simp_all [pO]
theorem WI {a b:ACap} (h:PT a b=true):a=b:=by
 cases a<;>cases b<;>simp_all [PT]
theorem aCk {a b:Fn} (h:aIk a b=true):a=b:=of_decide_eq_true h
theorem iO:∀ a b:Nat,Nat.beq a b=true->a=b:=fun a b h=>by simpa using h
theorem AV.beq_eq:∀ (d:Nat) (a b:AV),AV.beq d a b=true->a=b:=by
 intro d
 induction d with
 | zero=>intro a b h;simp [AV.beq]at h
 | succ d ih=>
   intro a b h
   cases a<;>cases b<;>simp only [AV.beq,Bool.and_eq_true,Bool.false_eq_true]at h<;>try rfl
   ·rw [eq_of_beq h]
   ·rw [of_decide_eq_true h.1,KZ h.2]
   ·rw [pJ iO _ _ h]
   ·rw [iO _ _ h.1.1,iO _ _ h.1.2,iO _ _ h.2]
   ·rw [ih _ _ h]
   ·rw [iO _ _ h.1.1.1.1,iO _ _ h.1.1.1.2,iO _ _ h.1.1.2,iO _ _ h.1.2,WI h.2]
   ·rw [pJ ih _ _ h.1,eq_of_beq h.2]
   ·rw [iO _ _ h]
   ·rw [aCk h.1.1,pJ ih _ _ h.1.2,pJ ih _ _ h.2]
   ·rw [iO _ _ h.1,ih _ _ h.2]
   ·rw [pJ ih _ _ h]
   ·rw [pJ ih _ _ h]
theorem aCl {v:AV} {r:Option ORes} (h:isVal v r=true):r=some (.val v):=by
 unfold isVal at h
 split at h
 ·rw [AV.beq_eq _ _ _ h]
 ·simp at h
section
variable {P:Program} {call:bL}
theorem mR {e e':Env} {xs:Array Operand} (h:∀ y∈xs,e'.eval y=e.eval y):eE e' xs=eE e xs:=
 List.map_congr_left fun y hy=>h y (by simpa using hy)
theorem vN {e e':Env} {ps:Array (Nat × Operand)} (h:∀ y∈ps.map (·.2),e'.eval y=e.eval y):ps.toList.map (fun p=>(p.1,e'.eval p.2))=ps.toList.map (fun p=>(p.1,e.eval p.2)):=
 List.map_congr_left fun p hp=>by rw [h p.2 (Array.mem_map.2 ⟨p,by simpa using hp,rfl⟩)]
theorem WJ {o:Oper} {e e':Env} (h:∀ y∈o.op.operands,e'.eval y=e.eval y) (hs:e'.s=e.s) (hro:e'.ro=e.ro):gC P call o e'=gC P call o e:=by
 obtain ⟨dst,op,type,pos,after,guard⟩:=o
 cases op<;>simp only [Op.operands]at h<;>simp only [gC]
 case build t ps=>rw [vN fun y hy=>h y (by simpa using hy)]
 case buildSlice t n ps=>rw [vN fun y hy=>h y (by simpa using hy),hs]
 case makeFunc fn first captured=>
  rw [mR (xs:=first) fun x hx=>h x (by simp [hx]),mR (xs:=captured) fun x hx=>h x (by simp [hx])]
 case makeMap t r=>cases r<;>simp_all
 case slice t x lo hi mx=>cases lo<;>cases hi<;>cases mx<;>simp_all
 case call c=>
  have hargs:eE e' c.args=eE e c.args:=mR fun x hx=>h x (by simp [Call.operands,hx])
  rw [hargs,hs]
  cases hc:c.callee with
  | value f=>
    have hf:=h f (by simp [Call.operands,hc])
    simp only [hf]
  | invoke r m=>
    have hf:=h r (by simp [Call.operands,hc])
    simp only [hf]
  | builtin b=>rfl
 case defer c=>
  have hargs:eE e' c.args=eE e c.args:=mR fun x hx=>h x (by simp [Call.operands,hx])
  rw [hargs,hro]
  cases hc:c.callee with
  | value f=>
    have hf:=h f (by simp [Call.operands,hc])
    cases e.ro<;>simp only [hf]
  | invoke r m=>rfl
  | builtin b=>rfl
 all_goals (first | rfl | (simp_all;done))
def iP (o:Oper):List Nat:=o.op.operands.toList.filterMap fun | .tmp t=>some t | _=>none
theorem PD {o:Oper} {e e':Env} (h:∀ d,d∈iP o->e'.t.get d=e.t.get d):∀ y∈o.op.operands,e'.eval y=e.eval y:=by
 intro y hy
 cases y with
 | tmp t=>
   simp only [Env.eval]
   rw [h t (List.mem_filterMap.2 ⟨.tmp t,by simpa using hy,rfl⟩)]
 | _=>rfl
def CC (ops:List Oper) (o:Oper):List Nat:=match o.guard with | some (j,_)=>(match ops[j]? with | some g=>g.dst.toList | none=>[]) | none=>[]
theorem DD {ops:List Oper} {o:Oper} {e e':Env} (h:∀ d,d∈CC ops o->e'.t.get d=e.t.get d):cD ops o e'=cD ops o e:=by
 unfold cD
 unfold CC at h
 split
 ·rfl
 ·rename_i j want hg
  rw [hg]at h
  simp only at h
  split
  ·rfl
  ·rename_i d hd
   have hd':d∈(match ops[j]? with | some g=>g.dst.toList | none=>[]):=by
    split at hd
    ·rename_i g hg';rw [hg'];simp [hd]
    ·simp at hd
   rw [h d hd']
noncomputable def only (t:Tr AV):List Nat->Tr AV
 | []=>.leaf
 | d::l=>match t.get d with
   | some v=>(only t l).set d v
   | none=>only t l
theorem CD (t:Tr AV):∀ (l:List Nat) (d:Nat),(only t l).get d=if d∈l then t.get d else none:=by
 intro l
 induction l with
 | nil=>intro d;simp [only,Tr.get]
 | cons a l ih=>
   intro d
   unfold only
   split
   ·rename_i v hv
    rw [Tr.get_set,ih]
    by_cases hd:d=a
    ·subst hd;simp [hv]
    ·simp [hd]
   ·rename_i hv
    rw [ih]
    by_cases hd:d=a
    ·subst hd;simp [hv]
    ·simp [hd]
theorem LA {o:Oper} {e:Env} {r:ORes} (hp:eU o.op=true) (h:gC P call o e=some r):(∃ v,r=.val v)/\∀ s,gC P call o {e with s:=s} = some r:=by
 have hE:∀ s,({e with s:=s}:Env).eval=e.eval:=fun s=>by funext x;cases x<;>rfl
 have hEs:∀ s xs,eE {e with s:=s} xs=eE e xs:=fun s xs=>by unfold eE;rw [hE]
 have hV:∀ {x:Option AV} {r:ORes},valO x=some r->∃ v,r=.val v:=by
  intro x r h;cases x with
  | none=>simp [valO]at h
  | some v=>simp [valO]at h;exact ⟨v,h.symm⟩
 obtain ⟨dst,op,type,pos,after,guard⟩:=o
 cases op<;>simp only [eU,Bool.false_eq_true]at hp<;>simp only [gC,hE,hEs]at h ⊢
 all_goals refine ⟨?_,fun s=>h⟩
 all_goals first
  | exact hV h
  | (cases h;exact ⟨_,rfl⟩)
  | skip
 all_goals (repeat' split at h)
 all_goals first
  | exact hV h
  | (cases h;exact ⟨_,rfl⟩)
  | cases h
  | skip
 all_goals first
  | (simp only [cond]at h;(repeat' split at h)<;>first | exact hV h | (cases h;exact ⟨_,rfl⟩) | cases h)
theorem WK {s:Sto} {cs:List AV} {id:Nat} {s':Sto} (h:mG s cs=some (id,s')):id=s.n/\∃ x,s'=s.push x/\∀ t:Sto,mG t cs=some (t.n,t.push x):=by
 unfold mG at h ⊢
 cases hc:cs.all AV.isCell with
 | false=>rw [hc]at h;simp at h
 | true=>
   rw [hc]at h
   simp only [cond_true,Option.some.injEq,Prod.mk.injEq]at h
   exact ⟨h.1.symm,_,h.2.symm,fun t=>by simp⟩
theorem HO {o:Oper} {e:Env} {r:ORes} (hp:cO o.op=true) (h:gC P call o e=some r):∃ v x,r=.val' v (e.s.push x)/\∀ s:Sto,s.n=e.s.n->gC P call o {e with s:=s} = some (.val' v (s.push x)):=by
 have hE:∀ s,({e with s:=s}:Env).eval=e.eval:=fun s=>by funext x;cases x<;>rfl
 have key:∀ {cs:List AV} {f:Nat->AV} {r:ORes},(match mG e.s cs with | some (id,s)=>some (ORes.val' (f id) s) | none=>none)=some r->
  ∃ v x,r=.val' v (e.s.push x)/\∀ s:Sto,s.n=e.s.n->(match mG s cs with | some (id,s)=>some (ORes.val' (f id) s) | none=>none)=some (.val' v (s.push x)):=by
  intro cs f r h
  split at h
  ·rename_i id s' ha
   obtain ⟨rfl,x,rfl,hx⟩:=WK ha
   cases h
   exact ⟨_,x,rfl,fun s hs=>by rw [hx s,hs]⟩
  ·cases h
 obtain ⟨dst,op,type,pos,after,guard⟩:=o
 cases op<;>simp only [cO,Bool.false_eq_true]at hp<;>simp only [gC,hE]at h ⊢
 case alloc t=>
  split at h
  ·rename_i z hz
   exact key h
  ·cases h
 case box t x=>
  split at h
  ·cases h
  ·rename_i v hv
   exact key h
 case buildSlice t len parts=>
  split at h
  ·rename_i el hu
   split at h
   ·rename_i k hk
    cases hb:Nat.ble (len*k) (2 ^ 24) with
    | false=>rw [hb]at h;simp at h
    | true=>
      rw [hb]at h
      simp only [cond_true]at h ⊢
      split at h
      ·rename_i zs hz
       cases hq:Nat.beq zs.length (len*k) with
       | false=>rw [hq]at h;simp at h
       | true=>
         rw [hq]at h
         simp only [cond_true]at h ⊢
         split at h
         ·rename_i cs hcs
          exact key h
         ·cases h
      ·cases h
   ·cases h
  ·cases h
 case makeMap t r=>
  split at h
  ·rename_i b hb
   cases h
   exact ⟨_,_,rfl,fun s hs=>by rw [hs]⟩
  ·cases h
 case makeSlice t l c=>
  split at h
  ·rename_i el k1 l' k2 c' h1 h2 h3
   split at h
   ·rename_i k by_ z g1 g2 g3
    cases hq:(Nat.ble l' c'&&Nat.ble (by_*c') (2 ^ 47)&&Nat.ble c' (2 ^ 62)&&Nat.beq z.cells.length k) with
    | false=>rw [hq]at h;simp at h
    | true=>
      rw [hq]at h
      simp only [cond_true]at h ⊢
      exact key h
   ·cases h
  ·cases h
end
end Go.Abs
