/-
  The abstract machine: all calls; runs.
-/
import Derived.Test.YthakciolcdlphaaGreatUv
import Derived.ChangeSame
import Derived.RowKit3
set_option linter.unusedVariables false
set_option linter.unusedSimpArgs false
namespace Go.Abs
section
variable {P:Program}
theorem aCb {σ:Sg} {nt:Nat}:∀ (ps:List Nat) (as:List AV) (t t':Tr AV) (T A:Array Value) (i:Nat),rT nt t ps as=some t'->VRs σ as A.toList->TmR σ nt t T->
 ps.length=A.size/\TmR σ nt t' ((ps.zip A.toList).foldl (fun tmps x=>tmps.setIfInBounds x.1 x.2) T):=by
 intro ps
 induction ps with
 | nil=>
   intro as t t' T A i h ha ht
   cases as with
   | nil=>
     simp [rT]at h;subst h
     have:=ha.1
     simp at this
     exact ⟨by simpa using this,by simpa using ht⟩
   | cons a as=>simp [rT]at h
 | cons p ps ih=>
   intro as t t' T A i h ha ht
   cases as with
   | nil=>simp [rT]at h
   | cons a as=>
     simp only [rT]at h
     rw [dL]at h
     split at h
     ·rename_i hp
      obtain ⟨V,zs,hz,hV,hzs⟩:=ha.head
      have hA:A=(V::zs).toArray:=Array.toList_inj.1 (by simpa using hz)
      subst hA
      have ht':TmR σ nt (t.set p a) (T.setIfInBounds p V):=by
       refine ⟨by simp [ht.1],fun i v hv=>?_⟩
       rw [Tr.get_set]at hv
       split at hv
       ·rename_i he;subst he
        simp at hv;subst hv
        exact ⟨hp,by simp [Array.getD_eq_getD_getElem?,Array.getElem?_setIfInBounds,ht.1,hp,hV]⟩
       ·rename_i he
        obtain ⟨h1,h2⟩:=ht.2 i v hv
        refine ⟨h1,?_⟩
        simp only [Array.getD_eq_getD_getElem?,Array.getElem?_setIfInBounds]
        rw [if_neg (fun e=>he e.symm)]
        rw [Array.getD_eq_getD_getElem?]at h2
        exact h2
      obtain ⟨h1,h2⟩:=ih as _ t' _ zs.toArray i h (by simpa using hzs) ht'
      exact ⟨by simpa using h1,by simpa using h2⟩
     ·cases h
def aNs (P:Program) (σ:Sg) (s:Sto) (w:World) (M:Machine) (c:Frame) (cs:List Frame):CRes->Prop
 | .ret v so=>∃ τ V w',VR τ v V/\CStp σ s w τ so w'/\Steps P M (lone (c.finish V) cs w')
 | .pan v so=>∃ τ V w',VR τ v V/\CStp σ s w τ so w'/\Steps P M (lone (c.raise [{v:=V,recovered:=false}]) cs w')
theorem HG {σ:Sg} {s:Sto} {w:World} {l:Nat} {L base sz:Nat} {st:LoopState} {pe:Option Code} {fn:FuncId} {nt:Nat} {t:Tr AV} {ps:List Nat} {ca cb:Code} {d:Nat} (h:Rel σ s w) (hg:s.get l=some (.loop st pe fn nt t ps ca cb d)) (hL:σ l 0=some (L,base,sz)):
 ∃ T PS db dbase dsz,w.heap[L]?=some (.loop {state:=st,pending:=pe,fn:=fn,tmps:=T,params:=PS,assign:=ca,body:=cb,defers:=db})/\TmR σ nt t T/\PS.toList=ps/\σ d 0=some (db,dbase,dsz):=by
 obtain ⟨B,base',sz',o,h1,h2,h3⟩:=h.obj l _ hg
 have h1':σ l 0=some (B,base',sz'):=h1
 rw [hL]at h1'
 obtain ⟨rfl,rfl,rfl⟩:L=B/\base=base'/\sz=sz':=by simpa using h1'
 cases h3 with
 | loop _ _ _ _ _ _ _ _ _ T PS db dbase dsz g1 g2 g3=>exact ⟨T,PS,db,dbase,dsz,h2,g1,g2,g3⟩
theorem RR {σ:Sg} {s:Sto} {w:World} {l:Nat} {L base sz:Nat} {st st':LoopState} {pe pe':Option Code} {fn:FuncId} {nt:Nat} {t:Tr AV} {ps:List Nat} {ca cb:Code} {d:Nat} {T:Array Value} {PS:Array Nat} {db dbase dsz:Nat} (h:Rel σ s w)
 (hg:s.get l=some (.loop st pe fn nt t ps ca cb d)) (hL:σ l 0=some (L,base,sz)) (h2:w.heap[L]?=some (.loop {state:=st,pending:=pe,fn:=fn,tmps:=T,params:=PS,assign:=ca,body:=cb,defers:=db})) (g1:TmR σ nt t T) (g2:PS.toList=ps) (g3:σ d 0=some (db,dbase,dsz)):
 Stp σ s w σ (s.put l (.loop st' pe' fn nt t ps ca cb d)) (w.putObj L (.loop {state:=st',pending:=pe',fn:=fn,tmps:=T,params:=PS,assign:=ca,body:=cb,defers:=db})):=
 stp_put h hg hL rfl (World.putObj_heap_same (Array.getElem?_eq_some_iff.1 h2).1) (.loop _ _ _ _ _ _ _ _ _ _ _ _ _ _ g1 g2 g3) (by simp) (fun b' hb'=>xB b' hb') rfl rfl rfl
theorem RS {σ τ:Sg} {s S':Sto} {w w':World} {n:Nat} (hs:Stp σ {s with low:=n} w τ S' w'):Stp σ s w τ {S' with low:=Nat.min s.low S'.low} w':=
 ⟨hs.rel.low rfl rfl,hs.ext,hs.size,hs.frame,hs.own,hs.sn,Nat.min_le_left _ _,fun id h1 h2=>hs.keep id h1 (Nat.lt_of_lt_of_le h2 (Nat.min_le_right _ _)),hs.os,hs.out,hs.tape,hs.hole,hs.mnew⟩
theorem VX {call:bL} (hN:rJ P call) (hfun:∀ v args s r x,call v args s r=some x->∃ f a c,v=.func f a c) {n l:Nat} {args:List AV} {s:Sto} {res:CRes} {rr:ARec} (hd:kO P call n l args s=some (res,rr)) {σ:Sg} {w:World} {L base sz:Nat} {A:Array Value}
 (h:Rel σ s w) (hL:σ l 0=some (L,base,sz)) (ha:VRs σ args A.toList):
 ∃ nx fr,(Instr.yield L A).run P w=.ok nx w/\HN P nx fr/\∀ (c:Frame) (cs:List Frame),aNs P σ s w (lone fr (c::cs) w) c cs res:=by
 unfold kO at hd
 split at hd
 ·rename_i st pend fn nt t ps ca cb d hg
  split at hd
  ·rename_i t' hlay
   obtain ⟨T,PS,db,dbase,dsz,h2,g1,g2,g3⟩:=HG h hg hL
   obtain ⟨k1,k2⟩:=aCb ps args t t' T A 0 hlay ha g1
   have hy:=run_yield (P:=P) h2 (args:=A) (by show A.size=PS.size;rw [<-Array.length_toList (xs:=PS),g2,k1])
   have htm:(PS.zip A).foldl (fun tmps (t,a)=>tmps.setIfInBounds t a) T=(ps.zip A.toList).foldl (fun tmps x=>tmps.setIfInBounds x.1 x.2) T:=by
    rw [<-Array.foldl_toList,Array.toList_zip,g2]
   simp only at hy
   rw [htm]at hy
   generalize hT':(ps.zip A.toList).foldl (fun tmps x=>tmps.setIfInBounds x.1 x.2) T=T' at hy k2
   refine ⟨_,_,hy,.inr ⟨_,_,_,_,_,rfl,rfl⟩,fun c cs=>?_⟩
   let b:Frame:={(default:Frame) with fn:=fn,kind:=.normal,roundOf:=some L}
   have hb0:Frame.round L fn T' ca cb .normal=b.atR {tmps:=T',defers:=[]} [.code ca,.beginRound,.code cb]:=by
    simp [Frame.round,Frame.atR,b]
   have hrel:Rel σ {s with low:=s.n} w:=h.low rfl rfl
   have he:ER σ b {nt:=nt,ro:=some l,fn:=fn,t:=t',ds:=[],s:={s with low:=s.n},r:=.no} {tmps:=T',defers:=[]} c.mode:=
    ⟨k2,.nil,.normal _,rfl,L,base,sz,rfl,hL,rfl⟩
   have hstk:EC b.kind (fun _=>c::cs):=.inl rfl
   rw [hb0]
   split at hd
   ·rename_i e hc
    obtain ⟨τ,a',m',w',q1,q2,q3⟩:=gE hN hfun n ca σ w b (fun _=>c::cs) [.beginRound,.code cb] _ _ _ _ _ hstk hc hrel he
    split at hd
    ·rename_i pend' fn' nt' t'' ps' a1 b1 d' hg'
     have hL':=q2.ext _ _ _ hL
     obtain ⟨T2,PS2,db2,dbase2,dsz2,u2,u3,u4,u5⟩:=HG q2.rel hg' hL'
     have hbr:=run_beginRound (P:=P) u2 rfl
     have hput:=RR (st':=.busy) (pe':=pend') q2.rel hg' hL' u2 u3 u4 u5
     have hs1:Steps P (lone (b.atR {tmps:=T',defers:=[]} [.code ca,.beginRound,.code cb]) (c::cs) w) (lone (b.atR a' [.code cb]) (c::cs) (w'.putObj L (.loop {state:=.busy,pending:=pend',fn:=fn',tmps:=T2,params:=PS2,assign:=a1,body:=b1,defers:=db2}))):=
      Steps.trans q3 (.one (stepR_beginRound rfl hbr))
     have hst1:=q2.trans hput
     have he1:ER τ b {e with s:=e.s.put l (.loop .busy pend' fn' nt' t'' ps' a1 b1 d')} a' m':=q1.sto _
     have fin:∀ (jump:Option Code) (e2:Env) (τ2:Sg) (w2:World) (a2:Act) (m2:FrameMode),dD s l jump e2=some (res,rr)->ER τ2 b e2 a2 m2->Stp σ {s with low:=s.n} w τ2 e2.s w2->
      (∀ (V:Value) (w3:World),(Instr.endRound L jump).run P w2=.ok V w3->Steps P (lone (b.atR {tmps:=T',defers:=[]} [.code ca,.beginRound,.code cb]) (c::cs) w) (lone (c.finish V) cs w3))->
      aNs P σ s w (lone (b.atR {tmps:=T',defers:=[]} [.code ca,.beginRound,.code cb]) (c::cs) w) c cs res:=by
      intro jump e2 τ2 w2 a2 m2 hend he2 hst2 hsteps
      unfold dD at hend
      split at hend
      ·rename_i st3 pe3 fn3 nt3 t3 ps3 a3 b3 d3 hg3 hds3
       simp only [Option.some.injEq,Prod.mk.injEq]at hend
       obtain ⟨rfl,rfl⟩:=hend
       have hL2:=hst2.ext _ _ _ hL
       obtain ⟨T3,PS3,db3,dbase3,dsz3,v2,v3,v4,v5⟩:=HG hst2.rel hg3 hL2
       have her:=run_endRound (P:=P) jump v2
       have hput3:=RR (st':=if jump.isNone then .ready else .done) (pe':=jump) hst2.rel hg3 hL2 v2 v3 v4 v5
       refine ⟨τ2,.bool jump.isNone,_,.bool _,?_,hsteps _ _ her⟩
       have h4:=RS (hst2.trans hput3)
       have hcond:(bif jump.isNone then LoopState.ready else .done)=if jump.isNone then LoopState.ready else .done:=by cases jump<;>rfl
       rw [hcond]
       exact h4
      ·cases hend
     split at hd
     ·rename_i e2 hc2
      obtain ⟨τ2,a2,m2,w2,r1,r2,r3⟩:=gE hN hfun n cb τ _ b (fun _=>c::cs) [] _ _ _ _ _ hstk hc2 hput.rel he1
      exact fin none e2 τ2 w2 a2 m2 hd r1 (hst1.trans r2) fun V w3 hV=>(hs1.trans r3).trans (.one (stepR_round_end rfl rfl hV))
     ·rename_i e2 hc2
      obtain ⟨τ2,a2,m2,w2,r1,r2,k₁,r3⟩:=gE hN hfun n cb τ _ b (fun _=>c::cs) [] _ _ _ _ _ hstk hc2 hput.rel he1
      exact fin (some .ret) e2 τ2 w2 a2 m2 hd r1 (hst1.trans r2) fun V w3 hV=>(hs1.trans r3).trans (.one (stepR_round_ret rfl rfl hV))
     ·rename_i id e2 hc2
      obtain ⟨τ2,a2,m2,w2,r1,r2,r3⟩:=gE hN hfun n cb τ _ b (fun _=>c::cs) [] _ _ _ _ _ hstk hc2 hput.rel he1
      obtain ⟨k₁,hk,r4⟩:=r3.2 (by simp [exitTo])
      exact fin (some (.exit id)) e2 τ2 w2 a2 m2 hd r1 (hst1.trans r2) fun V w3 hV=>(hs1.trans r4).trans (.one (stepR_round_exit rfl rfl hk hV))
     ·rename_i v e2 hc2
      obtain ⟨τ2,a2,m2,w2,r1,r2,V,todo,r3,r4⟩:=gE hN hfun n cb τ _ b (fun _=>c::cs) [] _ _ _ _ _ hstk hc2 hput.rel he1
      split at hd
      ·rename_i hds
       cases hok:okFn P e2.fn with
       | false=>rw [hok]at hd;cases hd
       | true=>
         rw [hok]at hd
         simp only [cond_true,Option.some.injEq,Prod.mk.injEq]at hd
         obtain ⟨rfl,rfl⟩:=hd
         have hfn:∃ g,P.funcs[fn]?=some g:=by
          have hf1:fn=e2.fn:=r1.fn
          rw [hf1]
          unfold okFn at hok
          split at hok
          ·rename_i g hg4;exact ⟨g,hg4⟩
          ·cases hok
         have hdf:a2.defers=[]:=by
          have:=r1.df
          rw [hds]at this
          cases hh:a2.defers with
          | nil=>rfl
          | cons x y=>rw [hh]at this;cases this
         refine ⟨τ2,V,w2,r3,RS (hst1.trans r2),(hs1.trans r4).trans (.one ?_)⟩
         exact step_leave_panicked (fr:={b.atR a2 todo with mode:=.panicking [{v:=V,recovered:=false}]}) ⟨rfl,hdf,hfn⟩
      ·cases hd
     ·cases hd
    ·cases hd
   ·cases hd
  ·cases hd
 ·cases hd
def aKo (P:Program) (σ:Sg) (s:Sto) (w:World) (kd:CallKind) (f:FuncId) (fn:Func) (stk:FrameMode->List Frame) (M:Machine):CRes->Prop
 | .ret v so=>∃ τ V w' fr m',VR τ v V/\CStp σ s w τ so w'/\RM τ kd .no m'/\Steps P M (lone fr (stk m') w')/\fr.mode=.returning/\fr.defers=[]/\fr.kind=kd/\fr.fn=f/\(results fn fr.tmps).run P w'=.ok V w'
 | .pan v so=>∃ τ V w' fr m',VR τ v V/\CStp σ s w τ so w'/\RM τ kd .no m'/\Steps P M (lone fr (stk m') w')/\fr.mode=.panicking [{v:=V,recovered:=false}]/\fr.defers=[]/\fr.kind=kd/\fr.fn=f
def bH (P:Program) (f:FuncId) (args:List AV) (s:Sto) (res:CRes):Prop:=
 okFn P f=true/\∃ fn,P.funcs[f]?=some fn/\∀ (σ:Sg) (w:World) (A:Array Value) (kd:CallKind) (stk:FrameMode->List Frame) (m:FrameMode),Rel σ s w->VRs σ args A.toList->EC kd stk->RM σ kd .no m->
  aKo P σ s w kd f fn stk (lone (Frame.enter P f A kd) (stk m) w) res
def pH (P:Program) (O:bN):Prop:=∀ f args s res,O f args s=some res->bH P f args s res
theorem sound_of_dfunc {call:bL} (hN:rJ P call) (hD:RX P call) (hfun:∀ v args s r x,call v args s r=some x->∃ f a c,v=.func f a c) {n:Nat} {f:FuncId} {args:List AV} {s:Sto} {res:CRes} (h:mY P call n f args s .no=some (res,.no)):bH P f args s res:=by
 obtain ⟨hok,fn,hfn,hdf⟩:=BW hN hD hfun h
 refine ⟨hok,fn,hfn,fun σ w A kd stk m hrel ha hstk hrm=>?_⟩
 obtain ⟨τ,a',m',w',e',todo,q1,q2,q3,q4,q5⟩:=hdf (kd:=kd) (stk:=stk) (m:=m) hrel ha hstk hrm
 have hrc:RM τ kd e'.r m':=q1.rc
 cases res with
 | ret v so=>
   obtain ⟨rfl,V,hV,hres,hs⟩:=q5
   obtain ⟨ρ,c1,c2,c3⟩:=oG (v:=v) hrel q2
   exact ⟨ρ,V,w',_,m',c2 V hV,c1,by rw [q3];exact c3 _ _ hrc,hs,rfl,q4,rfl,rfl,hres⟩
 | pan v so=>
   obtain ⟨rfl,V,hV,hs⟩:=q5
   obtain ⟨ρ,c1,c2,c3⟩:=oG (v:=v) hrel q2
   exact ⟨ρ,V,w',_,m',c2 V hV,c1,by rw [q3];exact c3 _ _ hrc,hs,rfl,q4,rfl,rfl⟩
theorem xA {O:bN} {fv:AV} {args:List AV} {s:Sto} {r:ARec} {res:CRes} (h:CN O fv args s r=some res):r=.no/\∃ g first cap,fv=.func (.func g) first cap/\O g (first++args++cap) s=some res:=by
 unfold CN at h
 split at h
 ·refine ⟨rfl,?_⟩
  split at h
  ·exact ⟨_,_,_,rfl,h⟩
  ·cases h
 ·cases h
theorem sK {O:bN}:∀ (n:Nat) (v:AV) (args:List AV) (s:Sto) (r:ARec) (x:CRes × ARec),aO P O n v args s r=some x->∃ f a c,v=.func f a c:=by
 intro n v args s r x h
 cases n with
 | zero=>simp [aO]at h
 | succ n=>
   simp only [aO]at h
   split at h
   ·rename_i res ho
    obtain ⟨_,g,first,cap,h1,_⟩:=xA ho
    exact ⟨_,_,_,h1⟩
   ·cases v with
    | func f a c=>exact ⟨_,_,_,rfl⟩
    | _=>simp [fW]at h
theorem lW {O:bN} (hO:pH P O):∀ n:Nat,rJ P (aO P O n)/\RX P (aO P O n):=by
 intro n
 induction n with
 | zero=>exact ⟨fun σ S w f F first cap args C A res rr h=>by simp [aO]at h,fun σ S w f F first cap args C A r r' m res h=>by simp [aO]at h⟩
 | succ n ih=>
   obtain ⟨hN,hD⟩:=ih
   have hfun:=sK (P:=P) (O:=O) n
   constructor
   ·intro σ S w f F first cap args C A res rr h hrel hF hcap hargs
    simp only [aO]at h
    split at h
    ·rename_i res' ho
     simp only [Option.some.injEq,Prod.mk.injEq]at h
     obtain ⟨rfl,rfl⟩:=h
     obtain ⟨_,g,first',cap',hfv,ho⟩:=xA ho
     cases hfv
     cases hF
     obtain ⟨hok,fn,hfn,hret⟩:=hO _ _ _ _ ho
     have ht:=jI (P:=P) (w:=w) (tgt:=.fn g (first++args++cap)) hrel rfl (.func g) hcap hargs
     obtain ⟨A',h1,h2⟩:=ht hok
     refine ⟨_,_,h2,.inl ⟨g,A',rfl,rfl⟩,fun c cs=>?_⟩
     have:=hret σ w A' .normal (fun _=>c::cs) c.mode hrel h1 (.inl rfl) (.normal _)
     cases res' with
     | ret v so=>
       obtain ⟨τ,V,w',fr,m',q1,q2,_,q3,q4,q5,q6,q7,q8⟩:=this
       exact ⟨τ,V,w',q1,q2,q3.trans (.one (step_leave_returned ⟨q4,q5,q6,fn,by rw [q7];exact hfn,q8⟩))⟩
     | pan v so=>
       obtain ⟨τ,V,w',fr,m',q1,q2,_,q3,q4,q5,q6,q7⟩:=this
       have:=step_leave_panicked (P:=P) (fr:=fr) (c:=c) (cs:=cs) (w:=w') ⟨q4,q5,fn,by rw [q7];exact hfn⟩
       exact ⟨τ,V,w',q1,q2,q3.trans (.one this)⟩
    split at h
    ·rename_i g as htg
     have ht:=jI (P:=P) hrel htg hF hcap hargs
     obtain ⟨hok,fn,hfn,hdf⟩:=BW hN hD hfun h
     obtain ⟨A',h1,h2⟩:=ht hok
     refine ⟨_,_,h2,.inl ⟨g,A',rfl,rfl⟩,fun c cs=>?_⟩
     obtain ⟨τ,a',m',w',e',todo,q1,q2,q3,q4,q5⟩:=hdf (kd:=.normal) (stk:=fun _=>c::cs) (m:=c.mode) hrel h1 (.inl rfl) (.normal _)
     cases res with
     | ret v so=>
       obtain ⟨rfl,V,hV,hres,hs⟩:=q5
       obtain ⟨ρ,c1,c2,_⟩:=oG (v:=v) hrel q2
       exact ⟨ρ,V,w',c2 V hV,c1,hs.trans (.one (step_leave_returned (fr:={({(default:Frame) with fn:=g,kind:=.normal}:Frame).atR a' todo with mode:=.returning}) ⟨rfl,q4,rfl,fn,hfn,hres⟩))⟩
     | pan v so=>
       obtain ⟨rfl,V,hV,hs⟩:=q5
       obtain ⟨ρ,c1,c2,_⟩:=oG (v:=v) hrel q2
       exact ⟨ρ,V,w',c2 V hV,c1,hs.trans (.one (step_leave_panicked (fr:={({(default:Frame) with fn:=g,kind:=.normal}:Frame).atR a' todo with mode:=.panicking [{v:=V,recovered:=false}]}) ⟨rfl,q4,fn,hfn⟩))⟩
    ·rename_i l as htg
     obtain ⟨L,b,sz,rfl,hL,hA⟩:=jI (P:=P) hrel htg hF hcap hargs
     obtain ⟨nx,fr,h1,h2,h3⟩:=VX hN hfun h hrel hL hA
     refine ⟨nx,fr,by simpa [invoke] using h1,h2,fun c cs=>?_⟩
     have:=h3 c cs
     cases res<;>exact this
    ·cases h
   ·intro σ S w f F first cap args C A r r' m res h hy hrel hF hcap hargs hrm
    simp only [aO]at h
    split at h
    ·rename_i res' ho
     simp only [Option.some.injEq,Prod.mk.injEq]at h
     obtain ⟨rfl,rfl⟩:=h
     obtain ⟨rfl,g,first',cap',hfv,ho⟩:=xA ho
     cases hfv
     cases hF
     obtain ⟨hok,fn,hfn,hret⟩:=hO _ _ _ _ ho
     have ht:=jI (P:=P) (w:=w) (tgt:=.fn g (first++args++cap)) hrel rfl (.func g) hcap hargs
     obtain ⟨A',h1,h2⟩:=ht hok
     refine ⟨g,A',h2,fun c cs=>?_⟩
     have:=hret σ w A' .deferred (fun m=>{c with mode:=m}::cs) m hrel h1 (.inr ⟨rfl,c,cs,rfl⟩) hrm
     cases res' with
     | ret v so=>
       obtain ⟨τ,V,w',fr,m',q1,q2,q9,q3,q4,q5,q6,q7,q8⟩:=this
       refine ⟨τ,w',m',q9,q2,q3.trans (.one ?_)⟩
       exact step_going_returned (P:=P) (fr:=fr) (c:={c with mode:=m'}) (cs:=cs) (w:=w') (v:=V) q6 ⟨q4,q5,fn,by rw [q7];exact hfn,q8⟩
     | pan v so=>
       obtain ⟨τ,V,w',fr,m',q1,q2,q9,q3,q4,q5,q6,q7⟩:=this
       refine ⟨τ,V,w',m',q1,q9,q2,q3.trans (.one ?_)⟩
       exact step_going_panicked (P:=P) (fr:=fr) (c:={c with mode:=m'}) (cs:=cs) (w:=w') (chain:=[{v:=V,recovered:=false}]) ⟨q4,q5,fn,by rw [q7];exact hfn⟩
    split at h
    ·rename_i g as htg
     have ht:=jI (P:=P) hrel htg hF hcap hargs
     obtain ⟨hok,fn,hfn,hdf⟩:=BW hN hD hfun h
     obtain ⟨A',h1,h2⟩:=ht hok
     refine ⟨g,A',h2,fun c cs=>?_⟩
     obtain ⟨τ,a',m',w',e',todo,q1,q2,q3,q4,q5⟩:=hdf (kd:=.deferred) (stk:=fun m=>{c with mode:=m}::cs) (m:=m) hrel h1 (.inr ⟨rfl,c,cs,rfl⟩) hrm
     have hrc:RM τ .deferred e'.r m':=q1.rc
     subst q3
     cases res with
     | ret v so=>
       obtain ⟨rfl,V,hV,hres,hs⟩:=q5
       obtain ⟨ρ,c1,c2,c3⟩:=oG (v:=v) hrel q2
       refine ⟨ρ,w',m',c3 _ _ hrc,c1,hs.trans (.one ?_)⟩
       have:=step_going_returned (P:=P) (fr:={({(default:Frame) with fn:=g,kind:=.deferred}:Frame).atR a' todo with mode:=.returning}) (c:={c with mode:=m'}) (cs:=cs) (w:=w') (v:=V) rfl ⟨rfl,q4,fn,hfn,hres⟩
       exact this
     | pan v so=>
       obtain ⟨rfl,V,hV,hs⟩:=q5
       obtain ⟨ρ,c1,c2,c3⟩:=oG (v:=v) hrel q2
       refine ⟨ρ,V,w',m',c2 V hV,c3 _ _ hrc,c1,hs.trans (.one ?_)⟩
       have:=step_going_panicked (P:=P) (fr:={({(default:Frame) with fn:=g,kind:=.deferred}:Frame).atR a' todo with mode:=.panicking [{v:=V,recovered:=false}]}) (c:={c with mode:=m'}) (cs:=cs) (w:=w') (chain:=[{v:=V,recovered:=false}]) ⟨rfl,q4,fn,hfn⟩
       exact this
    ·rename_i l as htg
     obtain ⟨L,b,sz,rfl,hL,hA⟩:=jI (P:=P) hrel htg hF hcap hargs
     cases hF
     simp [vY]at hy
    ·cases h
theorem BS {O:bN} (hO:pH P O) {n:Nat} {f:FuncId} {args:List AV} {s:Sto} {res:CRes} (h:mY P (aO P O n) n f args s .no=some (res,.no)):bH P f args s res:=
 sound_of_dfunc (lW hO n).1 (lW hO n).2 (sK n) h
def Returns (P:Program) (f:FuncId) (args:List AV) (v:AV):Prop:=∀ s,bH P f args s (.ret v none)
theorem OW {T:kI} (hT:∀ x∈T,Returns P x.1 x.2.1 x.2.2):pH P (kH T):=by
 intro f args s res h
 induction T with
 | nil=>cases h
 | cons x T ih=>
   unfold kH at h
   cases hx:(Nat.beq x.1 f&&eO (AV.beq 1000) x.2.1 args) with
   | true=>
     rw [hx]at h
     simp at h;subst h
     simp only [Bool.and_eq_true]at hx
     rw [<-pJ (AV.beq_eq 1000) _ _ hx.2,<-iO _ _ hx.1]
     exact hT x (List.mem_cons_self ..) s
   | false=>
     rw [hx]at h
     exact ih (fun x hx=>hT x (List.mem_cons_of_mem _ hx)) h
theorem Sto.empty_get (id:Nat):Sto.empty.get id=none:=by rw [Sto.get_eq];simp [Sto.empty]
theorem sound_empty {f:FuncId} {args:List AV} {res:CRes} (hu:∀ σ:Sg,∀ A,VRs σ args A->VRs (σ.cut 0) args A) (h:bH P f args .empty res) (hres:∃ v,res=.ret v none∨res=.pan v none) (s:Sto):bH P f args s res:=by
 obtain ⟨hok,fn,hfn,hd⟩:=h
 refine ⟨hok,fn,hfn,fun σ w A kd stk m hrel0 ha hstk hrm=>?_⟩
 have hcut:∀ id g,(σ.cut 0) id g=none:=fun id g=>by simp only [Sg.cut];rw [if_neg (by omega)]
 have hrel:Rel (σ.cut 0) Sto.empty w:=
  {obj:=fun id x hx=>(by rw [Sto.empty_get]at hx;cases hx),inj:=fun id x id' x' b base sz base' sz' hx=>(by rw [Sto.empty_get]at hx;cases hx),
   mu:=fun b off V hV=>⟨(hrel0.mu b off V hV).1,fun ⟨id,x,base,sz,hx,_⟩=>(by rw [Sto.empty_get]at hx;cases hx)⟩,
   bnd:=fun id g x hx=>(by rw [hcut]at hx;cases hx),gen:=fun id x g y hx=>(by rw [Sto.empty_get]at hx;cases hx),top:=fun id _=>rfl}
 have hrm':RM (σ.cut 0) kd .no m:=by cases hrm with
  | normal m=>exact .normal m
  | quiet=>exact .quiet
 have:=hd (σ.cut 0) w A kd stk m hrel (hu σ _ ha) hstk hrm'
 have key:∀ (τ:Sg) (w':World),QStp (σ.cut 0) w τ w'->∃ ρ,τ.le ρ/\QStp σ w ρ w':=by
  intro τ w' q
  refine ⟨⟨τ.m,σ.s⟩,⟨fun id g x hx=>?_,fun _ _ _ h=>h⟩,q.q,⟨fun _ _ _ h=>h,q.le.m⟩,rfl,q.m⟩
  have hx':τ.s id g=some x:=hx
  rw [q.s]at hx'
  exact (Sg.cut_le σ 0) _ _ _ hx'
 obtain ⟨v,rfl | rfl⟩:=hres
 ·obtain ⟨τ,V,w',fr,m',q1,q2,q9,q3⟩:=this
  obtain ⟨ρ,h1,h2⟩:=key τ w' q2
  exact ⟨ρ,V,w',fr,m',q1.mono h1,h2,q9.mono h1,q3⟩
 ·obtain ⟨τ,V,w',fr,m',q1,q2,q9,q3⟩:=this
  obtain ⟨ρ,h1,h2⟩:=key τ w' q2
  exact ⟨ρ,V,w',fr,m',q1.mono h1,h2,q9.mono h1,q3⟩
theorem returns_of {O:bN} (hO:pH P O) {n:Nat} {f:FuncId} {args:List AV} {v:AV} (h:aNw P O n f args v=true):Returns P f args v:=by
 simp only [aNw,Bool.and_eq_true]at h
 obtain ⟨hu,h⟩:=h
 split at h
 ·rename_i v' hrun
  have hv:=AV.beq_eq _ _ _ h
  subst hv
  exact sound_empty (fun σ A ha=>⟨ha.1,fun i x X h1 h2=>VR.cut _ _ _ (List.all_eq_true.1 hu x (List.mem_of_getElem? h1)) (ha.2 i x X h1 h2)⟩) (BS hO hrun) ⟨_,.inl rfl⟩
 ·cases h
theorem aCc {f:FuncId} {args:List AV} {v:AV} (h:bH P f args .empty (.ret v none)) {A:Array Value} {w:World} {σ:Sg} (hm:∀ b off V,σ.m b off=some V->w.cell? ⟨b,off,none⟩=some V) (hs:∀ id g,σ id g=none) (ha:VRs σ args A.toList):
 Calls P f A w fun
  | .returned V,w'=>(∃ τ,VR τ v V/\QStp σ w τ w')/\Quiet w w'
  | _,_=>False:=by
 obtain ⟨hok,fn,hfn,hr⟩:=h
 have hrel:Rel σ Sto.empty w:=
  {obj:=fun id x hx=>(by rw [Sto.empty_get]at hx;cases hx),inj:=fun id x id' x' b base sz base' sz' hx=>(by rw [Sto.empty_get]at hx;cases hx),mu:=fun b off V hV=>⟨hm b off V hV,fun ⟨id,x,base,sz,hx,_⟩=>(by rw [Sto.empty_get]at hx;cases hx)⟩,
   bnd:=fun id g x hx=>(by rw [hs]at hx;cases hx),gen:=fun id x g y hx=>(by rw [Sto.empty_get]at hx;cases hx),top:=fun id _=>rfl}
 intro cs
 obtain ⟨τ,V,w',fr,m',q1,q2,_,q3,q4,q5,q6,q7,q8⟩:=hr _ w A .normal (fun _=>cs) .run hrel ha (.inl rfl) (.normal _)
 exact ⟨.returned V,w',fr,⟨⟨τ,q1,q2⟩,QStp.q q2⟩,q3,q7,q4,q5,q6,fn,by rw [q7];exact hfn,q8⟩
end
end Go.Abs
/-
 The abstract machine: a law lB arguments.
-/
namespace Go.Abs
open Go.ChangeShapes
theorem post_quiet {H:Type} {enc:TypeId × Value->H} {P:Program} {f:Func} {s:ChangeSpec} {mU fresh handsOn again:Bool} {W W':World} {args:Array Value} {v:Value} {ds gs:List (DataW H)} {before pa pv:List MemPlace}
 (hW:DataW.Whole enc P f.params.toList s.vars mU W args.toList ds gs before)
 (hres:∀ (b:Nat) (sp:Nat->Bool) (hd:Bool),DataW.TrodAll enc P W' b sp hd f.resultTypes.toList (v.resultList f.resultTypes.size) (s.fn H (ds++gs)).results [])
 (hargs:∀ sp:Nat->Bool,(∀ p∈before,sp p.block=true)->DataW.TrodAll enc P W' 0 sp true f.params.toList args.toList (s.fn H (ds++gs)).args pa)
 (hvars:∀ sp:Nat->Bool,(∀ p∈before,sp p.block=true)->DataW.TrodVars enc P W' sp s.vars (s.fn H (ds++gs)).vars pv)
 (hps:before=pa++pv) (q:Quiet W W')
 (hok:∀ (j:Nat) (t:TypeId) (r:Value),f.resultTypes[j]?=some t->(v.resultList f.resultTypes.size)[j]?=some r->Value.okWide P W' .any 0 t r):
 s.post enc P f mU fresh handsOn again W args v W':=by
 have hold:∀ p∈before,(fun b=>decide (b<W.heap.size)) p.block=true:=fun p hp=>by simpa using hW.lt p hp
 have hk:W.keptBut W' (fun _=>False):=⟨q.os,q.out,fun i hi=>by rw [q.heap i hi];exact (World.keptBut_refl W (fun _=>False)).2.2 i hi⟩
 refine ⟨ds,gs,before,[],pa,pv,hW,hres _ _ _,hargs _ hold,hvars _ hold,World.keptBut_mono (fun p hp=>hp.elim) hk,fun _=>?_⟩
 have hlt:=hW.lt
 obtain ⟨_,_,_,_,_,hz,hn⟩:=hW
 refine ⟨hok,_,_,([]++pa)++pv,⟨[]++pa,pv,trodAll_append (hargs _ (fun _ _=>rfl)) (hres _ _ _),hvars _ (fun _ _=>rfl),rfl,?_,?_⟩,?_⟩
 ·intro b off hp
  have hm:MemPlace.cell b off∈before:=by rw [hps];simpa using hp
  have hb:b<W.heap.size:=hlt _ hm
  have:=hz b off hm
  simp only [World.frozen?]at this ⊢
  rw [q.heap b hb]
  exact this
 ·intro ha
  have:=hn ha
  rw [hps]at this
  simpa using this
 ·intro p hp _
  rw [hps]
  simpa using hp
theorem law_of {P:Program} {f:FuncId} {args:List AV} (h:bH P f args .empty (.ret (.bool true) none)) {A:Array Value} {w:World} {σ:Sg} (hm:∀ b off V,σ.m b off=some V->w.cell? ⟨b,off,none⟩=some V) (hs:∀ id g,σ id g=none) (ha:VRs σ args A.toList):
 Calls P f A w fun e w'=>e=.returned (.bool true)/\Quiet w w':=by
 refine (aCc h hm hs ha).mono fun e w' he=>?_
 cases e with
 | returned V=>obtain ⟨⟨τ,h1,_⟩,h2⟩:=he;exact ⟨by rw [vM h1],h2⟩
 | _=>exact he.elim
end Go.Abs
