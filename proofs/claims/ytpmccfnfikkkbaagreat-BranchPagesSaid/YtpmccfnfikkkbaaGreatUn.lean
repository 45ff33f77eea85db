/-
  The abstract machine: one operation in its region.
-/
import Derived.Test.YtpmccfnfikkkbaaGreatUl
import Derived.Recover
set_option linter.unusedVariables false
set_option linter.unusedSimpArgs false
namespace Go.Abs
section
variable {P:Program} {σ:Sg} {S:Sto} {w:World}
inductive RM (σ:Sg):CallKind->ARec->FrameMode->Prop
 | normal (m:FrameMode):RM σ .normal .no m
 | quiet:RM σ .deferred .no .returning
 | pan (v:AV) (V:Value):VR σ v V->RM σ .deferred (.pan v) (.panicking [{v:=V,recovered:=false}])
 | recd (v:AV) (V:Value):VR σ v V->RM σ .deferred (.recd v) (.panicking [{v:=V,recovered:=true}])
theorem RM.mono {τ:Sg} (h:σ.le τ) {k:CallKind} {r:ARec} {m:FrameMode} (b:RM σ k r m):RM τ k r m:=by
 cases b with
 | normal m=>exact .normal m
 | quiet=>exact .quiet
 | pan v V a=>exact .pan v V (a.mono h)
 | recd v V a=>exact .recd v V (a.mono h)
def IG (k:CallKind) (stk:FrameMode->List Frame):Prop:=k=.normal∨(k=.deferred/\∃ (c:Frame) (t:List Frame),stk=fun m=>{c with mode:=m}::t)
structure ER (σ:Sg) (b:Frame) (e:Env) (a:Act) (m:FrameMode):Prop where
 tm:TmR σ e.nt e.t a.tmps
 df:DefsR σ e.ds a.defers
 rc:RM σ b.kind e.r m
 fn:b.fn=e.fn
 ro:match e.ro with
  | none=>b.roundOf=none
  | some l=>∃ L base sz,b.roundOf=some L/\σ l 0=some (L,base,sz)/\b.kind=.normal
theorem ER.mono {τ:Sg} (h:σ.le τ) {b:Frame} {e:Env} {a:Act} {m:FrameMode} (c:ER σ b e a m):ER τ b e a m:=by
 refine ⟨c.tm.mono h,c.df.mono h,c.rc.mono h,c.fn,?_⟩;have:=c.ro;split
 ·rename_i d;rw [d]at this;exact this
 ·rename_i l d;rw [d]at this;obtain ⟨L,f,q,k,o,p⟩:=this;exact ⟨L,f,q,k,h _ _ _ o,p⟩
theorem ER.sto {b:Frame} {e:Env} {a:Act} {m:FrameMode} (c:ER σ b e a m) (s:Sto):ER σ b {e with s:=s} a m:=⟨c.tm,c.df,c.rc,c.fn,c.ro⟩
theorem zR {e e':Env} {a:Act} {b:Frame} {m:FrameMode} {dst:Option Tmp} {v:AV} {V:Value} (h:ER σ b e a m) (c:e.put dst v=some e') (r:VR σ v V):ER σ b e' (a.put dst V) m/\e'.s=e.s:=by
 unfold Env.put at c
 cases dst with
 | none=>simp at c;subst c;exact ⟨h,rfl⟩
 | some d=>
   simp only at c;rw [eP]at c;split at c
   ·rename_i f
    simp at c;subst c;refine ⟨⟨⟨by simp [Act.put,h.tm.1],fun i x k=>?_⟩,h.df,h.rc,h.fn,h.ro⟩,rfl⟩;rw [Tr.get_set]at k;have o:=h.tm.1;split at k
    ·rename_i l;subst l
     simp at k;subst k;refine ⟨f,?_⟩;simp [Act.put,Array.getD_eq_getD_getElem?,o,f,r]
    ·rename_i l
     obtain ⟨q,p⟩:=h.tm.2 i x k;refine ⟨q,?_⟩;simp only [Act.put,Array.getD_eq_getD_getElem?,Array.getElem?_setIfInBounds];rw [if_neg (fun e=>l e.symm)];rw [Array.getD_eq_getD_getElem?]at p;exact p
   ·simp at c
theorem xT {b:Bool} {V:Value} (h:VR σ (.bool b) V):V=.bool b:=by cases h;rfl
theorem EW {ops:List Oper} {o:Oper} {e:Env} {a:Act} {b:Frame} {m:FrameMode} {r:Bool} (h:ER σ b e a m) (c:cV ops o e=some r) (OPS:Array Oper) (E:OPS.toList=ops):Region.wanted o (yielded OPS a.tmps)=r:=by
 unfold cV at c;unfold Region.wanted;split at c
 ·rename_i B;simp at c;subst c;rw [B]
 ·rename_i j D B
  rw [B]
  have l:OPS[j]?=ops[j]?:=by rw [<-E];simp
  split at c
  ·rename_i v
   simp at c;subst c
   have:(OPS[j]?).bind (·.dst)=none:=by
    rw [l];split at v
    ·rename_i g f;rw [f];exact v
    ·rename_i f;rw [f];rfl
   simp [yielded,this]
  ·rename_i d v
   have C:(OPS[j]?).bind (·.dst)=some d:=by
    rw [l];split at v
    ·rename_i g f;rw [f];exact v
    ·simp at v
   split at c
   ·rename_i b' q
    simp at c;subst c;obtain ⟨y,A⟩:=h.tm.2 d _ q;have p:=xT A;have u:=h.tm.1
    have k:@LT.lt Nat instLTNat d a.tmps.size:=by rw [u];exact y
    rw [Array.getD_eq_getD_getElem?,Array.getElem?_eq_getElem k]at p;simp only [Option.getD_some]at p;simp only [yielded,C,Option.bind_some,Array.getElem?_eq_getElem k,p];rfl
   ·rename_i vs q
    simp at c;subst c;obtain ⟨y,A⟩:=h.tm.2 d _ q;obtain ⟨F,p,_⟩:=VR.tuple_iff.1 A;have u:=h.tm.1
    have k:@LT.lt Nat instLTNat d a.tmps.size:=by rw [u];exact y
    rw [Array.getD_eq_getD_getElem?,Array.getElem?_eq_getElem k]at p;simp only [Option.getD_some]at p;simp only [yielded,C,Option.bind_some,Array.getElem?_eq_getElem k,p];rfl
   ·simp at c
def KO (P:Program) (c:Next) (fr:Frame):Prop:=
 (∃ g A,c=.enter g A/\fr=Frame.enter P g A .normal)∨(∃ l f t a b,c=.round l f t a b/\fr=Frame.round l f t a b .normal)
def CStp (σ:Sg) (S:Sto) (w:World) (τ:Sg):Option Sto->World->Prop
 | none,w'=>QStp σ w τ w'
 | some a,w'=>Stp σ S w τ a w'
theorem CStp.stp {τ:Sg} {a:Option Sto} {w':World} (h:Rel σ S w) (b:CStp σ S w τ a w'):Stp σ S w τ (a.getD S) w':=by
 cases a with
 | none=>exact QStp.stp b h
 | some c=>exact b
def sX (P:Program) (call:bR):Prop:=
 ∀ (σ:Sg) (S:Sto) (w:World) (f F:Fn) (first cap args:List AV) (C A:Array Value) (res:CRes) (b:ARec),call (.func f first cap) args S .no=some (res,b)->Rel σ S w->FnR σ f F->
   VRs σ cap C.toList->VRs σ (first++args) A.toList->
   ∃ nx fr,(invoke (.fn F C) A).run P w=.ok nx w/\KO P nx fr/\∀ (c:Frame) (cs:List Frame),match res with
     | .ret v a=>∃ τ V w',VR τ v V/\CStp σ S w τ a w'/\Steps P (lone fr (c::cs) w) (lone (c.finish V) cs w')
     | .pan v a=>∃ τ V w',VR τ v V/\CStp σ S w τ a w'/\Steps P (lone fr (c::cs) w) (lone (c.raise [{v:=V,recovered:=false}]) cs w')
def XD (P:Program) (call:bR):Prop:=
 ∀ (σ:Sg) (S:Sto) (w:World) (f F:Fn) (first cap args:List AV) (C A:Array Value) (r d:ARec) (m:FrameMode) (res:CRes),call (.func f first cap) args S r=some (res,d)->yE (.func f first cap)=false->
   Rel σ S w->FnR σ f F->VRs σ cap C.toList->VRs σ (first++args) A.toList->RM σ .deferred r m->
   ∃ g b,(invoke (.fn F C) A).run P w=.ok (.enter g b) w/\∀ (c:Frame) (cs:List Frame),match res with
     | .ret _ e=>∃ τ w' a,RM τ .deferred d a/\CStp σ S w τ e w'/\Steps P (lone (Frame.enter P g b .deferred) ({c with mode:=m}::cs) w) (lone {c with mode:=settle a} cs w')
     | .pan v e=>∃ τ V w' a,VR τ v V/\RM τ .deferred d a/\CStp σ S w τ e w'/\Steps P (lone (Frame.enter P g b .deferred) ({c with mode:=m}::cs) w) (lone {c with mode:=raised a [{v:=V,recovered:=false}]} cs w')
def aFx (P:Program) (σ:Sg) (S:Sto) (w:World) (b:Frame) (a:Act) (OPS:Array Oper) (i:Nat) (rest:List Nat) (k:List Item) (o:Oper) (cs:List Frame):ORes->Prop
 | .val v=>∃ τ V w',VR τ v V/\QStp σ w τ w'/\Steps P (lone (b.atR a (.inRegion OPS (i::rest)::k)) cs w) (lone (b.atR (a.put o.dst V) (.inRegion OPS rest::k)) cs w')
 | .val' v c=>∃ τ V w',VR τ v V/\Stp σ S w τ c w'/\Steps P (lone (b.atR a (.inRegion OPS (i::rest)::k)) cs w) (lone (b.atR (a.put o.dst V) (.inRegion OPS rest::k)) cs w')
 | .pan v c=>∃ τ V w',VR τ v V/\Stp σ S w τ c w'/\
  Steps P (lone (b.atR a (.inRegion OPS (i::rest)::k)) cs w) (lone {b.atR a (.inRegion OPS (i::rest)::k) with mode:=.panicking [{v:=V,recovered:=false}]} cs w')
 | .defer d=>∃ D,DefR σ d D/\Steps P (lone (b.atR a (.inRegion OPS (i::rest)::k)) cs w) (lone (b.atR ({a with defers:=D::a.defers}.put o.dst undef) (.inRegion OPS rest::k)) cs w)
 | .recov=>b.roundOf=none->∀ (V:Value) (cs':List Frame),(tryRecover (b.atR a (.inRegion OPS (i::rest)::k)) cs=some (V,cs')∨(tryRecover (b.atR a (.inRegion OPS (i::rest)::k)) cs=none/\V=.nilIface/\cs'=cs))->
  Steps P (lone (b.atR a (.inRegion OPS (i::rest)::k)) cs w) (lone (b.atR (a.put o.dst V) (.inRegion OPS rest::k)) cs' w)
theorem sY {b:Frame} {e:Env} {a:Act} {m:FrameMode} {o:Oper} {call:bR} {r:ORes} (u:ER σ b e a m) (f:iD P call o e=some r):o.semAt b.roundOf a.eval=execOp a.eval o:=by
 cases k:b.roundOf with
 | none=>rfl
 | some L=>
   refine Oper.semAt_eq _ _ _ fun c q=>?_
   have h:=u.ro
   cases d:e.ro with
   | none=>rw [d]at h;rw [k]at h;cases h
   | some l=>
     unfold iD at f;rw [q]at f;simp only [d]at f;split at f
     ·rename_i p;simp at p
     ·cases f
theorem aFy {call:bR} {o:Oper} {e:Env} (h:zT o.op=true):∃ c,o.op=.call c/\((∃ f,c.callee=.value f/\iD P call o e=fQ e.s (call (e.eval f) (fH e c.args) e.s .no))∨
 (∃ f n,c.callee=.invoke f n/\iD P call o e=fQ e.s (call (.func (.method n) [e.eval f] []) (fH e c.args) e.s .no))):=by
 unfold iD;cases k:o.op<;>rw [k]at h<;>simp [zT]at h;rename_i c;obtain ⟨a,args,d⟩:=c
 cases a with
 | value f=>exact ⟨_,rfl,.inl ⟨f,rfl,rfl⟩⟩
 | invoke f n=>exact ⟨_,rfl,.inr ⟨f,n,rfl,rfl⟩⟩
 | builtin b=>simp at h
theorem rB {call:bR} (u:sX P call) (ab:∀ v args s r x,call v args s r=some x->∃ f a c,v=.func f a c) {o:Oper} {e:Env} {a:Act} {b:Frame} {r:ORes} {OPS:Array Oper} {i:Nat} {rest:List Nat} {k:List Item} {cs:List Frame}
 (h:Rel σ e.s w) (T:TmR σ e.nt e.t a.tmps) (ae:o.semAt b.roundOf a.eval=execOp a.eval o) (ho:OPS[i]?=some o) (hw:Region.wanted o (yielded OPS a.tmps)=true) (Q:iD P call o e=some r):aFx P σ e.s w b a OPS i rest k o cs r:=by
 have hg:=stepGR_op (P:=P) (b:=b) (k:=k) (cs:=cs) (w:=w) (rest:=rest) ho hw;rw [ae]at hg
 have J:∀ v,(b.atR a (.inRegion OPS (i::rest)::k)).finish v=b.atR (a.put o.dst v) (.inRegion OPS rest::k):=by
  intro v;rw [Frame.finish_atR,ho];rfl
 cases hc:zT o.op with
 | false=>
   have hr:=aPq (σ:=σ) h T hc Q
   have U:∀ V w',Yld ((execOp a.eval o).run P w) V w'->Steps P (lone (b.atR a (.inRegion OPS (i::rest)::k)) cs w) (lone (b.atR (a.put o.dst V) (.inRegion OPS rest::k)) cs w'):=by
    intro V w' hy;refine .one (step_lone_go ?_);rw [hg,<-J]
    rcases hy with p | ⟨p,rfl⟩
    ·simp [stepG.apply,p]
    ·simp [stepG.apply,p]
   cases r with
   | val v=>obtain ⟨V,w',p,G,L⟩:=hr;exact ⟨σ,V,w',G,.refl L,U V w' p⟩
   | val' v S'=>obtain ⟨τ,V,w',p,G,L⟩:=hr;exact ⟨τ,V,w',G,L,U V w' p⟩
   | pan v S'=>
     obtain ⟨V,p,G,rfl⟩:=hr;refine ⟨σ,V,w,G,Stp.refl h,.one (step_lone_go ?_)⟩;rw [hg,<-Frame.raise_atR];simp [stepG.apply,p]
   | defer d=>
     obtain ⟨D,p,G⟩:=hr;refine ⟨D,G,.one (step_lone_go ?_)⟩
     have:({b.atR a (.inRegion OPS (i::rest)::k) with defers:=D::a.defers}:Frame).finish undef =
      b.atR ({a with defers:=D::a.defers}.put o.dst undef) (.inRegion OPS rest::k):=by
      have:=Frame.finish_atR b {a with defers:=D::a.defers} OPS i rest k undef;rw [ho]at this;exact this
     rw [hg];simp only [stepG.apply,Sem.runT_eq,p,GStep.bare_after];exact congrArg (fun fr=>GStep.go {frame:=fr,callers:=cs,status:=.running,dying:=none} w) this
   | recov=>
     have p:(execOp a.eval o).run P w=.ok .recover w:=hr;intro ad V cs' H;refine .one (step_lone_go ?_);rw [hg,<-J];simp only [stepG.apply,Sem.runT_eq,p,GStep.bare_after,if_true]
     rcases H with H | ⟨H,rfl,rfl⟩
     ·simp only [Frame.atR,ad]at H ⊢
      simp [H]
     ·simp only [Frame.atR,ad]at H ⊢
      simp [H]
 | true=>
   obtain ⟨c,ac,af⟩:=aFy (P:=P) (call:=call) (e:=e) hc
   have E:∀ (O:Next) (fr:Frame) (w0:World),(execOp a.eval o).run P w0=.ok O w0->w0=w->KO P O fr->Steps P (lone (b.atR a (.inRegion OPS (i::rest)::k)) cs w) (lone fr (b.atR a (.inRegion OPS (i::rest)::k)::cs) w):=by
    rintro O fr w0 p rfl (⟨g,A,rfl,rfl⟩ | ⟨l,f,t,a',b',rfl,rfl⟩)
    ·exact .one (step_lone_go (by rw [hg];simp [stepG.apply,p,Frame.atR]))
    ·exact .one (step_lone_go (by rw [hg];simp [stepG.apply,p,Frame.atR]))
   have N:∀ (f F:Fn) (first cap args:List AV) (C A:Array Value),fQ e.s (call (.func f first cap) args e.s .no)=some r->FnR σ f F->VRs σ cap C.toList->VRs σ (first++args) A.toList->
    (execOp a.eval o).run P w=(invoke (.fn F C) A).run P w->aFx P σ e.s w b a OPS i rest k o cs r:=by
    intro f F first cap args C A q hF I m R
    unfold fQ at q;split at q
    ·rename_i v rr B
     simp at q;subst q;obtain ⟨O,fr,p,G,L⟩:=u σ e.s w f F first cap args C A _ _ B h hF I m;obtain ⟨τ,V,w',q1,q2,q3⟩:=L (b.atR a (.inRegion OPS (i::rest)::k)) cs;exact ⟨τ,V,w',q1,q2,by rw [<-J];exact (E O fr w (by rw [R];exact p) rfl G).trans q3⟩
    ·rename_i v s' rr B
     simp at q;subst q;obtain ⟨O,fr,p,G,L⟩:=u σ e.s w f F first cap args C A _ _ B h hF I m;obtain ⟨τ,V,w',q1,q2,q3⟩:=L (b.atR a (.inRegion OPS (i::rest)::k)) cs;exact ⟨τ,V,w',q1,q2,by rw [<-J];exact (E O fr w (by rw [R];exact p) rfl G).trans q3⟩
    ·rename_i v rr B
     simp at q;subst q;obtain ⟨O,fr,p,G,L⟩:=u σ e.s w f F first cap args C A _ _ B h hF I m;obtain ⟨τ,V,w',q1,q2,q3⟩:=L (b.atR a (.inRegion OPS (i::rest)::k)) cs;exact ⟨τ,V,w',q1,CStp.stp h q2,by rw [<-Frame.raise_atR];exact (E O fr w (by rw [R];exact p) rfl G).trans q3⟩
    ·rename_i v s' rr B
     simp at q;subst q;obtain ⟨O,fr,p,G,L⟩:=u σ e.s w f F first cap args C A _ _ B h hF I m;obtain ⟨τ,V,w',q1,q2,q3⟩:=L (b.atR a (.inRegion OPS (i::rest)::k)) cs;exact ⟨τ,V,w',q1,CStp.stp h q2,by rw [<-Frame.raise_atR];exact (E O fr w (by rw [R];exact p) rfl G).trans q3⟩
    ·simp at q
   have m:=tA (σ:=σ) T c.args
   rcases af with ⟨f,M,Z⟩ | ⟨f,n,M,Z⟩
   ·rw [Z]at Q
    have aa:=bA (σ:=σ) T f
    have ag:∃ g x y,e.eval f=.func g x y:=by
     unfold fQ at Q
     split at Q<;>first | (rename_i B;exact ab _ _ _ _ _ B) | simp at Q
    obtain ⟨g,x,y,ah⟩:=ag;rw [ah]at aa Q;generalize hq:a.eval f=FV at aa
    cases aa with
    | func _ F _ _ X Y hF p G L h4=>
      refine N g F x y _ Y (X++c.args.map a.eval) Q hF ⟨by simpa using G,fun i x X e1 e2=>h4 i x X e1 (by simpa using e2)⟩ ?_ ?_
      ·rw [Array.toList_append]
       exact VRs.append ⟨by simpa using p,fun i x X e1 e2=>L i x X e1 (by simpa using e2)⟩ m
      ·simp [execOp,ac,resolve,M,hq,Deferred.ofValue]
   ·rw [Z]at Q
    refine N (.method n) (.method n) [e.eval f] [] _ #[] (#[a.eval f]++c.args.map a.eval) Q (.method n) (VRs.nil _) ?_ ?_
    ·rw [Array.toList_append]
     exact VRs.cons (bA T f) m
    ·simp [execOp,ac,resolve,M]
end
end Go.Abs
/-
 The abstract machine: regions in the text's order,code,ranges over functions.
-/
namespace Go.Abs
def Gone (P:Program) (τ:Sg) (M:Machine) (b:Frame) (stk:FrameMode->List Frame) (k:List Item) (a:Act) (m:FrameMode) (w:World):Ex->Prop
 | .normal=>Steps P M (lone (b.atR a k) (stk m) w)
 | .exit id=>(∀ d,exitTo id k=some d->Steps P M (lone (b.atR a d) (stk m) w))/\(exitTo id k=none->∃ c,exitTo id c=none/\Steps P M (lone (b.atR a (.code (.exit id)::c)) (stk m) w))
 | .goto _=>True
 | .ret=>∃ c,Steps P M (lone (b.atR a (.code .ret::c)) (stk m) w)
 | .panic v=>∃ V todo,VR τ v V/\Steps P M (lone {b.atR a todo with mode:=.panicking [{v:=V,recovered:=false}]} (stk m) w)
theorem Gone.of_steps {P:Program} {τ:Sg} {M o:Machine} {b:Frame} {stk:FrameMode->List Frame} {k:List Item} {a:Act} {m:FrameMode} {w:World} {x:Ex} (h:Steps P M o) (c:Gone P τ o b stk k a m w x):Gone P τ M b stk k a m w x:=by
 cases x with
 | normal=>exact h.trans c
 | exit id=>exact ⟨fun u d=>h.trans (c.1 u d),fun d=>let ⟨f,p,q⟩:=c.2 d;⟨f,p,h.trans q⟩⟩
 | goto l=>trivial
 | ret=>obtain ⟨f,e⟩:=c;exact ⟨f,h.trans e⟩
 | panic v=>obtain ⟨V,todo,r,e⟩:=c;exact ⟨V,todo,r,h.trans e⟩
theorem Gone.pass {P:Program} {τ:Sg} {M:Machine} {b:Frame} {stk:FrameMode->List Frame} {x:Item} {k:List Item} {a:Act} {m:FrameMode} {w:World} {e:Ex} (o:x.plain=true∨(∃ c,x=.inScope c)) (p:e≠.normal)
 (f:Gone P τ M b stk (x::k) a m w e):Gone P τ M b stk k a m w e:=by
 have d:∀ id,exitTo id (x::k)=exitTo id k:=by
  intro id
  rcases o with o | ⟨c,rfl⟩
  ·exact exitTo_plain o id k
  ·simp [exitTo]
 cases e with
 | normal=>exact absurd rfl p
 | exit id=>exact ⟨fun q h=>f.1 q (by rw [d];exact h),fun h=>f.2 (by rw [d];exact h)⟩
 | goto l=>trivial
 | ret=>exact f
 | panic v=>exact f
def COut (P:Program) (σ:Sg) (S:Sto) (w:World) (M:Machine) (b:Frame) (stk:FrameMode->List Frame) (k:List Item) (a:Ex) (e':Env):Prop:=
 ∃ τ a' m' w',ER τ b e' a' m'/\Stp σ S w τ e'.s w'/\Gone P τ M b stk k a' m' w' a
theorem COut.of_steps {P:Program} {σ:Sg} {S:Sto} {w:World} {M a:Machine} {b:Frame} {stk:FrameMode->List Frame} {k:List Item} {c:Ex} {e':Env} (h:Steps P M a) (m:COut P σ S w a b stk k c e'):COut P σ S w M b stk k c e':=by
 obtain ⟨τ,d,o,w',e,f,l⟩:=m;exact ⟨τ,d,o,w',e,f,l.of_steps h⟩
theorem COut.after {P:Program} {σ τ:Sg} {S c:Sto} {w w':World} {M:Machine} {b:Frame} {stk:FrameMode->List Frame} {k:List Item} {d:Ex} {e':Env} (h:Stp σ S w τ c w') (o:COut P τ c w' M b stk k d e'):COut P σ S w M b stk k d e':=by
 obtain ⟨ρ,e,p,a,f,l,m⟩:=o;exact ⟨ρ,e,p,a,f,h.trans l,m⟩
section
variable {P:Program}
theorem aLa {call:bR} (A:sX P call) (E:∀ v args s r x,call v args s r=some x->∃ f a c,v=.func f a c) {OPS:Array Oper} {b:Frame} {stk:FrameMode->List Frame} (Q:IG b.kind stk) {k:List Item}:
 ∀ (l:List Oper) (i:Nat) (σ:Sg) (w:World) (e:Env) (a:Act) (m:FrameMode) (N:Ex) (e':Env),(∀ j,l[j]?=OPS[i+j]?)->gY P call OPS.toList l e=some (N,e')->Rel σ e.s w->ER σ b e a m->
   COut P σ e.s w (lone (b.atR a (.inRegion OPS (List.range' i l.length)::k)) (stk m) w) b stk k N e':=by
 intro l
 induction l with
 | nil=>
   intro i σ w e a m N e' hl u h q;simp [gY]at u;obtain ⟨rfl,rfl⟩:=u;exact ⟨σ,a,m,w,q,Stp.refl h,.one stepR_region_end⟩
 | cons o l ih=>
   intro i σ w e a m N e' hl u h q
   have X:OPS[i]?=some o:=by have:=hl 0;simpa using this.symm
   have H:∀ j,l[j]?=OPS[i+1+j]?:=fun j=>by
    have:=hl (j+1);rw [show i+1+j=i+(j+1) by omega,<-this];simp
   simp only [List.length_cons,List.range'_succ];simp only [gY]at u;split at u
   ·simp at u
   ·rename_i hw
    have G:=EW q hw OPS rfl;split at u
    ·rename_i I L
     obtain ⟨B,p⟩:=zR (V:=undef) q L (VR.tuple_iff.2 ⟨_,rfl,VRs.nil _⟩)
     have M:Steps P (lone (b.atR a (.inRegion OPS (i::List.range' (i+1) l.length)::k)) (stk m) w) (lone (b.atR (a.put o.dst undef) (.inRegion OPS (List.range' (i+1) l.length)::k)) (stk m) w):=by
      have:=stepR_op_skip (P:=P) (b:=b) (a:=a) (k:=k) (cs:=stk m) (w:=w) (ops:=OPS) (i:=i) (rest:=List.range' (i+1) l.length) (by simp [X,G]);simp only [X,Option.bind_some]at this;exact .one this
     have:=ih (i+1) σ w I _ m N e' H u (by rw [p];exact h) B;rw [p]at this;exact this.of_steps M
    ·simp at u
   ·rename_i hw
    have G:=EW q hw OPS rfl;split at u
    ·simp at u
    ·rename_i v y
     obtain ⟨τ,V,w',R,O,T⟩:=rB (rest:=List.range' (i+1) l.length) (k:=k) (cs:=stk m) A E h q.tm (sY q y) X G y;split at u
     ·rename_i I L
      obtain ⟨B,p⟩:=zR (q.mono O.le) L R;have:=ih (i+1) τ w' I _ m N e' H u (by rw [p];exact O.rel h) B;rw [p]at this;exact (this.of_steps T).after (O.stp h)
     ·simp at u
    ·rename_i v s y
     obtain ⟨τ,V,w',R,O,T⟩:=rB (rest:=List.range' (i+1) l.length) (k:=k) (cs:=stk m) A E h q.tm (sY q y) X G y;split at u
     ·rename_i I L
      obtain ⟨B,p⟩:=zR ((q.mono O.ext).sto s) L R;have:=ih (i+1) τ w' I _ m N e' H u (by rw [p];exact O.rel) B;rw [p]at this;exact (this.of_steps T).after O
     ·simp at u
    ·rename_i v s y
     obtain ⟨τ,V,w',R,O,T⟩:=rB (rest:=List.range' (i+1) l.length) (k:=k) (cs:=stk m) A E h q.tm (sY q y) X G y;simp at u;obtain ⟨rfl,rfl⟩:=u;exact ⟨τ,a,m,w',(q.mono O.ext).sto s,O,V,_,R,T⟩
    ·rename_i d y
     obtain ⟨D,R,T⟩:=rB (rest:=List.range' (i+1) l.length) (k:=k) (cs:=stk m) A E h q.tm (sY q y) X G y;split at u
     ·rename_i I L
      have U:ER σ b {e with ds:=d::e.ds} {a with defers:=D::a.defers} m:=⟨q.tm,.cons _ _ _ _ R q.df,q.rc,q.fn,q.ro⟩
      obtain ⟨B,p⟩:=zR (V:=undef) U L (VR.tuple_iff.2 ⟨_,rfl,VRs.nil _⟩);have:=ih (i+1) σ w I _ m N e' H u (by rw [p];exact h) B;rw [p]at this;exact this.of_steps T
     ·simp at u
    ·rename_i y
     have aa:=rB (rest:=List.range' (i+1) l.length) (k:=k) (cs:=stk m) A E h q.tm (sY q y) X G y;split at u
     ·-- something is recovered
      rename_i v Y hr
      have J:b.roundOf=none:=by have:=q.ro;rw [Y]at this;exact this
      have F:=q.rc;rw [hr]at F;generalize C:b.kind=kd at F
      cases F with
      | pan _ V hV=>
        rcases Q with Z | ⟨_,c,t,rfl⟩
        ·rw [Z]at C;cases C
        ·split at u
         ·rename_i I L
          have U:ER σ b {e with r:=.recd v} a (.panicking [{v:=V,recovered:=true}]):=⟨q.tm,q.df,by rw [C];exact .recd v V hV,q.fn,q.ro⟩
          obtain ⟨B,p⟩:=zR U L hV
          have M:=aa J V (({c with mode:=.panicking [{v:=V,recovered:=true}]}:Frame)::t) (.inl (by
           rw [tryRecover_deferred (by exact C)]
           rfl))
          have:=ih (i+1) σ w I _ _ N e' H u (by rw [p];exact h) B;rw [p]at this;exact this.of_steps M
         ·simp at u
     ·rename_i Y ab
      have J:b.roundOf=none:=by have:=q.ro;rw [Y]at this;exact this
      have ad:tryRecover (b.atR a (.inRegion OPS (i::List.range' (i+1) l.length)::k)) (stk m)=none:=by
       have F:=q.rc
       rcases Q with Z | ⟨Z,c,t,rfl⟩
       ·unfold tryRecover
        simp [Frame.atR,Z]
       ·rw [tryRecover_deferred (by exact Z)]
        rw [Z]at F;generalize ac:e.r=rr at F
        cases F with
        | quiet=>rfl
        | pan v V hv=>exact absurd ac (ab v)
        | recd v V hv=>rfl
      split at u
      ·rename_i I L
       obtain ⟨B,p⟩:=zR q L .nili;have M:=aa J .nilIface (stk m) (.inr ⟨ad,rfl,rfl⟩);have:=ih (i+1) σ w I _ m N e' H u (by rw [p];exact h) B;rw [p]at this;exact this.of_steps M
      ·simp at u
     ·simp at u
def TJ (P:Program) (f:Env->Option (Ex × Env)) (c:Code):Prop:=
 ∀ (σ:Sg) (w:World) (b:Frame) (stk:FrameMode->List Frame) (k:List Item) (e:Env) (a:Act) (m:FrameMode) (d:Ex) (e':Env),IG b.kind stk->f e=some (d,e')->Rel σ e.s w->ER σ b e a m->
   COut P σ e.s w (lone (b.atR a (.code c::k)) (stk m) w) b stk k d e'
theorem aAw {f:Env->Option (Ex × Env)} {c:Code} (A:TJ P f c):∀ (n:Nat) (σ:Sg) (w:World) (b:Frame) (stk:FrameMode->List Frame) (k:List Item) (e:Env) (a:Act) (m:FrameMode) (l:Ex) (e':Env),IG b.kind stk->
 loopGo f n e=some (l,e')->Rel σ e.s w->ER σ b e a m->COut P σ e.s w (lone (b.atR a (.code c::.inLoop c::k)) (stk m) w) b stk k l e':=by
 intro n
 induction n with
 | zero=>intro σ w b stk k e a m l e' _ h;simp [loopGo]at h
 | succ n E=>
   intro σ w b stk k e a m l e' d h B y;simp only [loopGo]at h;split at h
   ·rename_i C o
    obtain ⟨τ,q,v,w',r,p,u⟩:=A σ w b stk (.inLoop c::k) e a m _ _ d o B y;have:=E τ w' b stk k C q v l e' d h p.rel r;exact (this.of_steps (Steps.trans u (.one stepR_inLoop))).after p
   ·rename_i o
    obtain ⟨τ,q,v,w',r,p,u⟩:=A σ w b stk (.inLoop c::k) e a m l e' d h B y
    have D:l≠.normal:=by
     rintro rfl;exact o e' h
    exact ⟨τ,q,v,w',r,p,Gone.pass (x:=.inLoop c) (.inl rfl) D u⟩
end
end Go.Abs
/-
 The abstract machine: a step in a part of the store;what one operation asks;the laws of a drawn region's order.
-/
namespace Go.Abs
def Sg.join (τ σ:Sg):Sg:=⟨τ.m,fun id g=>match τ id g with
 | some y=>some y
 | none=>σ id g⟩
theorem Sg.le_join (τ σ:Sg):τ.le (τ.join σ):=by
 refine ⟨fun id g x h=>?_,fun _ _ _ h=>h⟩;simp only [Sg.join];rw [h]
structure Framed (σ:Sg) (X:Sto) (w:World) (τ:Sg) (X':Sto) (w':World):Prop where
 rel:Rel τ X' w'
 ext:σ.le τ
 size:w.heap.size<=w'.heap.size
 frame:∀ b,b<w.heap.size->¬ Has σ X b->w'.heap[b]?=w.heap[b]?
 own:∀ b,Has τ X' b->Has σ X b∨w.heap.size<=b
 mnew:∀ b off V,τ.m b off=some V->σ.m b off=some V∨Has σ X b∨w.heap.size<=b
theorem aFz {σ ρ τ:Sg} {X X' R M:Sto} {w w':World} (E:Rel σ X w) (hm:ρ.m=σ.m) (U:∀ id g,id<R.n->ρ id g=σ id g) (hR:∀ id x,R.get id=some x->X.get id=some x)
 (h:Stp ρ R w τ M w') (hc:∀ id g,R.n<=id->id<M.n->σ id g=none) (hn:X.n<=X'.n) (aa:M.n<=X'.n)
 (B:∀ id x,X'.get id=some x->M.get id=some x∨(X.get id=some x/\R.get id=none)) (ht:∀ id,X'.n<=id->X'.o.get id=none):
 Framed σ X w (τ.join σ) X' w':=by
 have Q:σ.le (τ.join σ):=by
  refine ⟨fun id g x H=>?_,fun b o V N=>h.ext.m b o V (by rw [hm];exact N)⟩;simp only [Sg.join];by_cases O:id<R.n
  ·rw [h.ext id g x (by rw [U id g O];exact H)]
  ·cases hτ:τ id g with
   | none=>exact H
   | some y=>
     have:=h.rel.bnd id g y hτ;rw [hc id g (by omega) this]at H;cases H
 have k:=Sg.le_join τ σ;have ac:ρ.le (τ.join σ):=Sg.le_trans h.ext k
 have A:∀ b,Has ρ R b->Has σ X b:=by
  rintro b ⟨id,x,base,sz,l,f⟩;exact ⟨id,x,base,sz,hR id x l,by rw [<-U id _ (Sto.get_lt l)];exact f⟩
 have C:∀ id x b base sz,X.get id=some x->R.get id=none->σ id (dK x)=some (b,base,sz)->¬ Has ρ R b:=by
  rintro id x b base sz l f a ⟨c,u,base',sz',e,p⟩;have:=E.inj id x c u b base sz base' sz' l (hR _ _ e) a (by rw [<-U c _ (Sto.get_lt e)];exact p);subst this;rw [f]at e;cases e
 have d:∀ id x g,X.get id=some x->R.get id=none->(τ.join σ) id g=σ id g:=by
  intro id x g l f;simp only [Sg.join];by_cases O:id<R.n
  ·rw [(h.hole id O f).2 g,U id g O]
   cases σ id g<;>rfl
  ·cases hτ:τ id g with
   | none=>rfl
   | some y=>
     obtain ⟨b,base,sz,o,a,_⟩:=E.obj id x l;rw [hc id _ (by omega) (h.rel.bnd id g y hτ)]at a;cases a
 have G:∀ b,Has (τ.join σ) X' b->(∃ id x base sz,M.get id=some x/\τ id (dK x)=some (b,base,sz))∨(∃ id x base sz,X.get id=some x/\R.get id=none/\σ id (dK x)=some (b,base,sz)):=by
  rintro b ⟨id,x,base,sz,l,f⟩
  rcases B id x l with a | ⟨a,e⟩
  ·obtain ⟨b',base',sz',o,p,_⟩:=h.rel.obj id x a
   have:=k _ _ _ p;rw [f]at this
   obtain ⟨rfl,rfl,rfl⟩:b=b'/\base=base'/\sz=sz':=by simpa using this
   exact .inl ⟨id,x,base,sz,a,p⟩
  ·rw [d id x _ a e]at f
   exact .inr ⟨id,x,base,sz,a,e,f⟩
 have J:∀ b,Has (τ.join σ) X' b->Has σ X b∨w.heap.size<=b:=by
  intro b hb
  rcases G b hb with ⟨id,x,base,sz,l,f⟩ | ⟨id,x,base,sz,l,_,f⟩
  ·exact (h.own b ⟨id,x,base,sz,l,f⟩).imp (A b) (fun h=>h)
  ·exact .inl ⟨id,x,base,sz,l,f⟩
 refine ⟨⟨?_,?_,?_,?_,?_,ht⟩,Q,h.size,fun b hb hn=>h.frame b hb fun hh=>hn (A b hh),J,fun b off V N=>?_⟩
 ·intro id x H
  rcases B id x H with a | ⟨a,e⟩
  ·obtain ⟨b,base,sz,o,p,r,h7⟩:=h.rel.obj id x a
   exact ⟨b,base,sz,o,k _ _ _ p,r,h7.mono k⟩
  ·obtain ⟨b,base,sz,o,p,r,h7⟩:=E.obj id x a
   refine ⟨b,base,sz,o,by rw [d id x _ a e];exact p,?_,h7.mono Q⟩;rw [h.frame b (Array.getElem?_eq_some_iff.1 r).1 (C id x b base sz a e p)];exact r
 ·intro id x c u b base sz base' sz' l f a e
  have Y:∀ id x c u base sz base' sz',M.get id=some x->(X.get c=some u/\R.get c=none)->(τ.join σ) id (dK x)=some (b,base,sz)->(τ.join σ) c (dK u)=some (b,base',sz')->False:=by
   intro id x c u base sz base' sz' l f a e;obtain ⟨Z,q,L,o1,v,_⟩:=h.rel.obj id x l;have:=k _ _ _ v;rw [a]at this
   obtain ⟨rfl,rfl,rfl⟩:b=Z/\base=q/\sz=L:=by simpa using this
   rw [d c u _ f.1 f.2]at e
   rcases h.own b ⟨id,x,base,sz,l,v⟩ with p | p
   ·exact C c u b base' sz' f.1 f.2 e p
   ·have:=E.lt ⟨c,u,base',sz',f.1,e⟩
    omega
  rcases B id x l with v | v<;>rcases B c u f with F | F
  ·obtain ⟨Z,q,L,o1,k1,_⟩:=h.rel.obj id x v
   have e1:=k _ _ _ k1;rw [a]at e1
   obtain ⟨rfl,rfl,rfl⟩:b=Z/\base=q/\sz=L:=by simpa using e1
   obtain ⟨b2,I,ab,o2,k2,_⟩:=h.rel.obj c u F;have e2:=k _ _ _ k2;rw [e]at e2
   obtain ⟨rfl,rfl,rfl⟩:b=b2/\base'=I/\sz'=ab:=by simpa using e2
   exact h.rel.inj id x c u b base sz base' sz' v F k1 k2
  ·exact (Y _ _ _ _ _ _ _ _ v F a e).elim
  ·exact (Y _ _ _ _ _ _ _ _ F v e a).elim
  ·rw [d id x _ v.1 v.2]at a
   rw [d c u _ F.1 F.2]at e;exact E.inj id x c u b base sz base' sz' v.1 F.1 a e
 ·intro b off V N
  obtain ⟨l,f⟩:=h.rel.mu b off V N;refine ⟨l,fun hh=>?_⟩
  rcases G b hh with ⟨id,x,base,sz,a,e⟩ | ⟨id,x,base,sz,a,e,p⟩
  ·exact f ⟨id,x,base,sz,a,e⟩
  ·rcases h.mnew b off V N with r | r | r
   ·exact (E.mu b off V (by rw [<-hm];exact r)).2 ⟨id,x,base,sz,a,p⟩
   ·exact C id x b base sz a e p r
   ·have:=E.lt ⟨id,x,base,sz,a,p⟩;omega
 ·intro id g y D
  simp only [Sg.join]at D;split at D
  ·rename_i z T
   exact Nat.lt_of_lt_of_le (h.rel.bnd id g z T) aa
  ·exact Nat.lt_of_lt_of_le (E.bnd id g y D) hn
 ·intro id x g y H D
  rcases B id x H with a | ⟨a,e⟩
  ·simp only [Sg.join]at D
   split at D
   ·rename_i z T
    exact h.rel.gen id x g z a T
   ·rename_i T
    by_cases O:id<R.n
    ·have:=h.ext id g y (by rw [U id g O];exact D)
     rw [T]at this;cases this
    ·rw [hc id g (by omega) (Sto.get_lt a)]at D;cases D
  ·rw [d id x g a e]at D
   exact E.gen id x g y a D
 ·rcases h.mnew b off V N with r | r | r
  ·exact .inl (by rw [<-hm];exact r)
  ·exact .inr (.inl (A b r))
  ·exact .inr (.inr r)
theorem Rel.same {σ:Sg} {S a:Sto} {w:World} (h:Rel σ S w) (e:∀ id,a.get id=S.get id) (m:a.n=S.n) (p:∀ id,a.n<=id->a.o.get id=none):Rel σ a w where
 obj:=fun id x f=>h.obj id x (by rw [<-e];exact f)
 inj:=fun id x k q b base sz base' sz' c d=>h.inj id x k q b base sz base' sz' (by rw [<-e];exact c) (by rw [<-e];exact d)
 mu:=fun b off V l=>⟨(h.mu b off V l).1,fun ⟨id,x,base,sz,c,d⟩=>(h.mu b off V l).2 ⟨id,x,base,sz,by rw [<-e];exact c,d⟩⟩
 bnd:=fun id g x f=>by rw [m];exact h.bnd id g x f
 gen:=fun id x g y c d=>h.gen id x g y (by rw [<-e];exact c) d
 top:=p
theorem Rel.part {σ ρ:Sg} {X R:Sto} {w:World} (h:Rel σ X w) (v:ρ.m=σ.m) (f:∀ id g,id<R.n->ρ id g=σ id g) (q:∀ id g x,ρ id g=some x->id<R.n) (d:∀ id x,R.get id=some x->X.get id=some x)
 (B:∀ id x,R.get id=some x->∀ b base sz o,ObjR σ base sz x o->σ id (dK x)=some (b,base,sz)->w.heap[b]?=some o->ObjR ρ base sz x o) (A:∀ id,R.n<=id->R.o.get id=none):Rel ρ R w where
 obj:=fun id x p=>by
  obtain ⟨b,base,sz,o,a,c,l⟩:=h.obj id x (d id x p);exact ⟨b,base,sz,o,by rw [f id _ (Sto.get_lt p)];exact a,c,B id x p b base sz o l a c⟩
 inj:=fun id x k C b base sz base' sz' a c l r=>h.inj id x k C b base sz base' sz' (d _ _ a) (d _ _ c) (by rw [<-f id _ (Sto.get_lt a)];exact l) (by rw [<-f k _ (Sto.get_lt c)];exact r)
 mu:=fun b off V u=>
  have e:σ.m b off=some V:=by rw [<-v];exact u
  ⟨(h.mu b off V e).1,fun ⟨id,x,base,sz,a,c⟩=>(h.mu b off V e).2 ⟨id,x,base,sz,d _ _ a,by rw [<-f id _ (Sto.get_lt a)];exact c⟩⟩
 bnd:=q
 gen:=fun id x g y a c=>h.gen id x g y (d _ _ a) (by rw [<-f id _ (Sto.get_lt a)];exact c)
 top:=A
end Go.Abs
/-
 The abstract machine: what one operation asks.
-/
namespace Go.Abs
theorem rC {α:Type} {f:α->α->Bool} (c:∀ a b,f a b=true->a=b):∀ (l m:List α),fO f l m=true->l=m:=by
 intro l
 induction l with
 | nil=>intro m h;cases m<;>simp_all [fO]
 | cons a l d=>
   intro m h
   cases m with
   | nil=>simp [fO]at h
   | cons b m=>
     simp only [fO,Bool.and_eq_true]at h;rw [c a b h.1,d m h.2]
theorem PH {a b:Int} (h:mA a b=true):a=b:=by
 cases a<;>cases b<;>simp_all [mA]
theorem aAx {a b:ACap} (h:TY a b=true):a=b:=by
 cases a<;>cases b<;>simp_all [TY]
theorem aGa {a b:Fn} (h:aNn a b=true):a=b:=of_decide_eq_true h
theorem kA:∀ a b:Nat,Nat.beq a b=true->a=b:=fun a b h=>by simpa using h
theorem AV.beq_eq:∀ (d:Nat) (a b:AV),AV.beq d a b=true->a=b:=by
 intro d
 induction d with
 | zero=>intro a b h;simp [AV.beq]at h
 | succ d c=>
   intro a b h;cases a<;>cases b<;>simp only [AV.beq,Bool.and_eq_true,Bool.false_eq_true]at h<;>try rfl
   ·rw [eq_of_beq h]
   ·rw [of_decide_eq_true h.1,PH h.2]
   ·rw [rC kA _ _ h]
   ·rw [kA _ _ h.1.1,kA _ _ h.1.2,kA _ _ h.2]
   ·rw [c _ _ h]
   ·rw [kA _ _ h.1.1.1.1,kA _ _ h.1.1.1.2,kA _ _ h.1.1.2,kA _ _ h.1.2,aAx h.2]
   ·rw [rC c _ _ h.1,eq_of_beq h.2]
   ·rw [kA _ _ h]
   ·rw [aGa h.1.1,rC c _ _ h.1.2,rC c _ _ h.2]
   ·rw [kA _ _ h.1,c _ _ h.2]
   ·rw [rC c _ _ h]
   ·rw [rC c _ _ h]
theorem aGb {v:AV} {r:Option ORes} (h:isVal v r=true):r=some (.val v):=by
 unfold isVal at h;split at h
 ·rw [AV.beq_eq _ _ _ h]
 ·simp at h
section
variable {P:Program} {call:bR}
theorem oR {e e':Env} {xs:Array Operand} (h:∀ y∈xs,e'.eval y=e.eval y):fH e' xs=fH e xs:=
 List.map_congr_left fun y a=>h y (by simpa using a)
theorem xU {e e':Env} {ps:Array (Nat × Operand)} (h:∀ y∈ps.map (·.2),e'.eval y=e.eval y):ps.toList.map (fun p=>(p.1,e'.eval p.2))=ps.toList.map (fun p=>(p.1,e.eval p.2)):=
 List.map_congr_left fun p a=>by rw [h p.2 (Array.mem_map.2 ⟨p,by simpa using a,rfl⟩)]
theorem aAy {o:Oper} {e e':Env} (h:∀ y∈o.op.operands,e'.eval y=e.eval y) (v:e'.s=e.s) (q:e'.ro=e.ro):iD P call o e'=iD P call o e:=by
 obtain ⟨dst,op,A,D,after,guard⟩:=o;cases op<;>simp only [Op.operands]at h<;>simp only [iD]
 case build t ps=>rw [xU fun y u=>h y (by simpa using u)]
 case buildSlice t n ps=>rw [xU fun y u=>h y (by simpa using u),v]
 case makeFunc fn first d=>
  rw [oR (xs:=first) fun x k=>h x (by simp [k]),oR (xs:=d) fun x k=>h x (by simp [k])]
 case makeMap t r=>cases r<;>simp_all
 case slice t x lo B C=>cases lo<;>cases B<;>cases C<;>simp_all
 case call c=>
  have a:fH e' c.args=fH e c.args:=oR fun x k=>h x (by simp [Call.operands,k])
  rw [a,v]
  cases p:c.callee with
  | value f=>
    have l:=h f (by simp [Call.operands,p]);simp only [l]
  | invoke r m=>
    have l:=h r (by simp [Call.operands,p]);simp only [l]
  | builtin b=>rfl
 case defer c=>
  have a:fH e' c.args=fH e c.args:=oR fun x k=>h x (by simp [Call.operands,k])
  rw [a,q]
  cases p:c.callee with
  | value f=>
    have l:=h f (by simp [Call.operands,p]);cases e.ro<;>simp only [l]
  | invoke r m=>rfl
  | builtin b=>rfl
 all_goals (first | rfl | (simp_all;done))
def kB (o:Oper):List Nat:=o.op.operands.toList.filterMap fun | .tmp t=>some t | _=>none
theorem TK {o:Oper} {e e':Env} (h:∀ d,d∈kB o->e'.t.get d=e.t.get d):∀ y∈o.op.operands,e'.eval y=e.eval y:=by
 intro y a
 cases y with
 | tmp t=>
   simp only [Env.eval];rw [h t (List.mem_filterMap.2 ⟨.tmp t,by simpa using a,rfl⟩)]
 | _=>rfl
def EX (ops:List Oper) (o:Oper):List Nat:=match o.guard with | some (j,_)=>(match ops[j]? with | some g=>g.dst.toList | none=>[]) | none=>[]
theorem HF {ops:List Oper} {o:Oper} {e e':Env} (h:∀ d,d∈EX ops o->e'.t.get d=e.t.get d):cV ops o e'=cV ops o e:=by
 unfold cV;unfold EX at h;split
 ·rfl
 ·rename_i j f k
  rw [k]at h;simp only at h;split
  ·rfl
  ·rename_i d a
   have b:d∈(match ops[j]? with | some g=>g.dst.toList | none=>[]):=by
    split at a
    ·rename_i g c;rw [c];simp [a]
    ·simp at a
   rw [h d b]
noncomputable def only (t:Tr AV):List Nat->Tr AV
 | []=>.leaf
 | d::l=>match t.get d with
   | some v=>(only t l).set d v
   | none=>only t l
theorem EY (t:Tr AV):∀ (l:List Nat) (d:Nat),(only t l).get d=if d∈l then t.get d else none:=by
 intro l
 induction l with
 | nil=>intro d;simp [only,Tr.get]
 | cons a l e=>
   intro d;unfold only;split
   ·rename_i v c
    rw [Tr.get_set,e];by_cases b:d=a
    ·subst b;simp [c]
    ·simp [b]
   ·rename_i c
    rw [e];by_cases b:d=a
    ·subst b;simp [c]
    ·simp [b]
theorem PI {o:Oper} {e:Env} {r:ORes} (f:fR o.op=true) (h:iD P call o e=some r):(∃ v,r=.val v)/\∀ s,iD P call o {e with s:=s} = some r:=by
 have c:∀ s,({e with s:=s}:Env).eval=e.eval:=fun s=>by funext x;cases x<;>rfl
 have a:∀ s xs,fH {e with s:=s} xs=fH e xs:=fun s xs=>by unfold fH;rw [c]
 have b:∀ {x:Option AV} {r:ORes},valO x=some r->∃ v,r=.val v:=by
  intro x r h;cases x with
  | none=>simp [valO]at h
  | some v=>simp [valO]at h;exact ⟨v,h.symm⟩
 obtain ⟨dst,op,d,k,after,guard⟩:=o;cases op<;>simp only [fR,Bool.false_eq_true]at f<;>simp only [iD,c,a]at h ⊢
 all_goals refine ⟨?_,fun s=>h⟩
 all_goals first
  | exact b h
  | (cases h;exact ⟨_,rfl⟩)
  | skip
 all_goals (repeat' split at h)
 all_goals first
  | exact b h
  | (cases h;exact ⟨_,rfl⟩)
  | cases h
  | skip
 all_goals first
  | (simp only [cond]at h;(repeat' split at h)<;>first | exact b h | (cases h;exact ⟨_,rfl⟩) | cases h)
theorem aAz {s:Sto} {cs:List AV} {id:Nat} {b:Sto} (h:oJ s cs=some (id,b)):id=s.n/\∃ x,b=s.push x/\∀ t:Sto,oJ t cs=some (t.n,t.push x):=by
 unfold oJ at h ⊢
 cases a:cs.all AV.isCell with
 | false=>rw [a]at h;simp at h
 | true=>
   rw [a]at h;simp only [cond_true,Option.some.injEq,Prod.mk.injEq]at h;exact ⟨h.1.symm,_,h.2.symm,fun t=>by simp⟩
theorem KP {o:Oper} {e:Env} {r:ORes} (E:dF o.op=true) (h:iD P call o e=some r):∃ v x,r=.val' v (e.s.push x)/\∀ s:Sto,s.n=e.s.n->iD P call o {e with s:=s} = some (.val' v (s.push x)):=by
 have B:∀ s,({e with s:=s}:Env).eval=e.eval:=fun s=>by funext x;cases x<;>rfl
 have a:∀ {cs:List AV} {f:Nat->AV} {r:ORes},(match oJ e.s cs with | some (id,s)=>some (ORes.val' (f id) s) | none=>none)=some r->
  ∃ v x,r=.val' v (e.s.push x)/\∀ s:Sto,s.n=e.s.n->(match oJ s cs with | some (id,s)=>some (ORes.val' (f id) s) | none=>none)=some (.val' v (s.push x)):=by
  intro cs f r h;split at h
  ·rename_i id V C
   obtain ⟨rfl,x,rfl,F⟩:=aAz C;cases h;exact ⟨_,x,rfl,fun s q=>by rw [F s,q]⟩
  ·cases h
 obtain ⟨dst,op,y,H,after,guard⟩:=o;cases op<;>simp only [dF,Bool.false_eq_true]at E<;>simp only [iD,B]at h ⊢
 case alloc t=>
  split at h
  ·rename_i z G
   exact a h
  ·cases h
 case box t x=>
  split at h
  ·cases h
  ·rename_i v U
   exact a h
 case buildSlice t len u=>
  split at h
  ·rename_i A T
   split at h
   ·rename_i k R
    cases p:Nat.ble (len*k) (2 ^ 24) with
    | false=>rw [p]at h;simp at h
    | true=>
      rw [p]at h;simp only [cond_true]at h ⊢;split at h
      ·rename_i I G
       cases d:Nat.beq I.length (len*k) with
       | false=>rw [d]at h;simp at h
       | true=>
         rw [d]at h;simp only [cond_true]at h ⊢;split at h
         ·rename_i cs D
          exact a h
         ·cases h
      ·cases h
   ·cases h
  ·cases h
 case makeMap t r=>
  split at h
  ·rename_i b p
   cases h;exact ⟨_,_,rfl,fun s q=>by rw [q]⟩
  ·cases h
 case makeSlice t l c=>
  split at h
  ·rename_i A k1 l' k2 m N O Q
   split at h
   ·rename_i k by_ z J L M
    cases d:(Nat.ble l' m&&Nat.ble (by_*m) (2 ^ 47)&&Nat.ble m (2 ^ 62)&&Nat.beq z.cells.length k) with
    | false=>rw [d]at h;simp at h
    | true=>
      rw [d]at h;simp only [cond_true]at h ⊢;exact a h
   ·cases h
  ·cases h
end
end Go.Abs
