/-
  The abstract machine: ranges over functions, code.
-/
import Derived.Test.YthakciolcdlphaaGreatUt
import Derived.RangeFuncRecord
import Derived.RangeFuncIn
import Derived.Defers
import Derived.Laws.Sem
set_option linter.unusedVariables false
set_option linter.unusedSimpArgs false
namespace Go.Abs
section
variable {P:Program}
theorem OX {b:Frame} {a:Act} {k:List Item} {cs:List Frame} {w w₁:World} {g:Operand} {ps:Array Tmp} {assign body:Code} {l:Nat} {mark:List Deferred} {d:Deferred} {nx:Next} {fr:Frame}
 (he:(Instr.enterLoop b.fn a.tmps ps assign body b.roundOf).run P w=.ok (l,mark) w₁)
 (hres:(resolve a.eval (rangeCall g l) 0).run P w₁=.ok d w₁) (hinv:(invoke d.target d.args).run P w₁=.ok nx w₁) (hp:HN P nx fr):
 step P (lone (b.atR a (.code (.rangeFunc g ps assign body)::k)) cs w)=.next (lone fr (b.atR {a with defers:=mark++a.defers} (.inRangeFunc l::k)::cs) w₁):=
 step_lone_go (by
  have hev:=Frame.eval_atR b {a with defers:=mark++a.defers} (.inRangeFunc l::k)
  simp only [Frame.atR]at hev
  have hres':Sem.run P (resolve ({tmps:=a.tmps,defers:=mark++a.defers}:Act).eval {callee:=.value g,args:=#[.const (.func (.yield l) #[] #[])],argTypes:=#[]} 0) w₁=.ok d w₁:=hres
  rcases hp with ⟨g',A,rfl,rfl⟩ | ⟨l',f',t',a',b',rfl,rfl⟩
  ·simp [stepG,stepG.exec,Frame.atR,Sem.runT_eq,he,GStep.bare_after,stepG.apply,hev,Sem.run_bind,hres',hinv,Result.andThen]
  ·simp [stepG,stepG.exec,Frame.atR,Sem.runT_eq,he,GStep.bare_after,stepG.apply,hev,Sem.run_bind,hres',hinv,Result.andThen])
theorem VY {σ:Sg} {id g id' g':Nat} {x:Nat × Nat × Nat} (h:id'≠id):σ.upd id g x id' g'=σ id' g':=by
 simp only [Sg.upd];rw [if_neg (fun h'=>h h'.1)]
theorem xB {w:World} {L:Nat} {o:Obj} (b:Nat) (h:b≠L):(w.putObj L o).heap[b]?=w.heap[b]?:=World.putObj_heap_other h
theorem KP {b:Frame} {stk:FrameMode->List Frame} {k:List Item} {σ τ:Sg} {S s:Sto} {w w':World} {e:Env} {ds:List ADef} {lid L:Nat} {base sz:Nat} {a:Act} {m:FrameMode} {ex:Ex} {e':Env} {M:Machine}
 (hd:cL e ds lid s=some (ex,e')) (hst:Stp σ S w τ s w') (he:ER τ b {e with ds:=ds,s:=s} a m) (hL:τ lid 0=some (L,base,sz)) (hs:Steps P M (lone (b.atR a (.endRangeFunc L::k)) (stk m) w')):
 COut P σ S w M b stk k ex e':=by
 unfold cL at hd
 split at hd
 ·rename_i st pend fn nt t ps ca cb d hg
  obtain ⟨B,base',sz',o,h1,h2,h3⟩:=hst.rel.obj lid _ hg
  have h1':τ lid 0=some (B,base',sz'):=h1
  rw [hL]at h1'
  obtain ⟨rfl,rfl,rfl⟩:L=B/\base=base'/\sz=sz':=by simpa using h1'
  cases h3 with
  | loop _ _ _ _ _ _ _ _ _ T PS db dbase dsz g1 g2 g3=>
    have hnb:st≠.busy:=by rintro rfl;simp at hd
    have hrun:=run_endLoop (P:=P) h2 hnb
    have hput:=stp_put (w':=w'.putObj L (.loop {state:=.exhausted,pending:=pend,fn:=fn,tmps:=T,params:=PS,assign:=ca,body:=cb,defers:=db})) hst.rel hg h1 (y:=.loop .exhausted pend fn nt t ps ca cb d) rfl
     (World.putObj_heap_same (Array.getElem?_eq_some_iff.1 h2).1) (.loop _ _ _ _ _ _ _ _ _ _ _ _ _ _ g1 g2 g3) (by simp) (fun b' hb'=>xB b' hb') rfl rfl rfl
    have hst':=hst.trans hput
    have hs':=hs.trans (.one (stepR_endRangeFunc (k:=k) hrun))
    have he':=he.sto (s.put lid (.loop .exhausted pend fn nt t ps ca cb d))
    cases st with
    | busy=>exact absurd rfl hnb
    | _=>
      simp only at hd
      cases pend with
      | none=>
        simp at hd
        obtain ⟨rfl,rfl⟩:=hd
        exact ⟨τ,a,m,_,he',hst',hs'⟩
      | some j=>
        cases j<;>simp at hd
        ·rename_i id
         obtain ⟨rfl,rfl⟩:=hd
         refine ⟨τ,a,m,_,he',hst',fun k' hk'=>hs'.trans (.one (stepR_exit hk')),fun hk=>⟨k,hk,hs'⟩⟩
        ·obtain ⟨rfl,rfl⟩:=hd
         exact ⟨τ,a,m,_,he',hst',k,hs'⟩
 ·cases hd
theorem BT {call:bL} (hcall:rJ P call) (hfun:∀ v args s r x,call v args s r=some x->∃ f a c,v=.func f a c) {b:Frame} {stk:FrameMode->List Frame} {k:List Item} {σ σ1:Sg} {w w1:World} {s1:Sto} {e:Env} {a:Act} {m:FrameMode} {ex:Ex} {e':Env}
 {f:Operand} {ps:Array Tmp} {asg body:Code} {d db dbase dsz:Nat} {ds:List ADef} {mark:List Deferred} (h1:Stp σ e.s w σ1 s1 w1) (he:ER σ b e a m) (hdb:σ1 d 0=some (db,dbase,dsz)) (hds:DefsR σ1 ds (mark++a.defers))
 (hen:(Instr.enterLoop b.fn a.tmps ps asg body b.roundOf).run P w=.ok (w1.heap.size,mark) (w1.alloc (.loop {state:=.ready,pending:=none,fn:=b.fn,tmps:=a.tmps,params:=ps,assign:=asg,body:=body,defers:=db})))
 (hd:(match call (e.eval f) [.func (.yield s1.n) [] []] (s1.push (.loop .ready none e.fn e.nt e.t ps.toList asg body d)) .no with
   | some (.ret _ so,_)=>cL e ds s1.n (match so with | some s=>s | none=>s1.push (.loop .ready none e.fn e.nt e.t ps.toList asg body d))
   | some (.pan v so,_)=>some (.panic v,{e with s:=(match so with | some s=>s | none=>s1.push (.loop .ready none e.fn e.nt e.t ps.toList asg body d)),ds:=ds})
   | none=>none)=some (ex,e')):
 COut P σ e.s w (lone (b.atR a (.code (.rangeFunc f ps asg body)::k)) (stk m) w) b stk k ex e':=by
 have hdn:d<s1.n:=h1.rel.bnd _ _ _ hdb
 have h2:=rQ (x:=.loop .ready none e.fn e.nt e.t ps.toList asg body d) (o:=.loop {state:=.ready,pending:=none,fn:=b.fn,tmps:=a.tmps,params:=ps,assign:=asg,body:=body,defers:=db}) (base:=0) (sz:=0) h1.rel rfl
  (by
    rw [he.fn]
    refine .loop _ _ _ _ _ _ _ _ _ _ _ db dbase dsz ?_ rfl ?_
    ·refine he.tm.mono (Sg.le_trans h1.ext (Sg.le_upd _ ?_))
     cases hs:σ1 s1.n 0 with
     | none=>rfl
     | some y=>exact absurd (h1.rel.bnd _ _ _ hs) (Nat.lt_irrefl _)
    ·rw [VY (by omega)];exact hdb)
 generalize hs2:s1.push (.loop .ready none e.fn e.nt e.t ps.toList asg body d)=s2 at hd h2
 generalize hw2:w1.alloc (.loop {state:=.ready,pending:=none,fn:=b.fn,tmps:=a.tmps,params:=ps,assign:=asg,body:=body,defers:=db})=w2 at hen h2
 generalize hσ2:σ1.upd s1.n 0 (w1.heap.size,0,0)=σ2 at h2
 have hL:σ2 s1.n 0=some (w1.heap.size,0,0):=by rw [<-hσ2];exact Sg.upd_same _ _ _ _
 have h12:=h1.trans h2
 have hfv:=aW he.tm f
 have hfn:∃ g x y,e.eval f=.func g x y:=by
  split at hd
  ·rename_i hc;exact hfun _ _ _ _ _ hc
  ·rename_i hc;exact hfun _ _ _ _ _ hc
  ·cases hd
 obtain ⟨g,x,y,hg⟩:=hfn
 rw [hg]at hfv hd
 generalize hq:a.eval f=FV at hfv
 cases hfv with
 | func _ F _ _ X Y hF k1 k2 k3 k4=>
   have hle:=h12.ext
   have hcap:VRs σ2 y Y.toList:=⟨by simpa using k2,fun i x X e1 e2=>(k4 i x X e1 (by simpa using e2)).mono hle⟩
   have hargs:VRs σ2 (x++[AV.func (.yield s1.n) [] []]) (X++#[Value.func (.yield w1.heap.size) #[] #[]]).toList:=by
    rw [Array.toList_append]
    exact VRs.append ⟨by simpa using k1,fun i x X e1 e2=>(k3 i x X e1 (by simpa using e2)).mono hle⟩ (VRs.cons (VR.func _ _ _ _ _ _ (.yield _ _ _ _ hL) rfl rfl (by simp) (by simp)) (VRs.nil _))
   have hFn:FnR σ2 g F:=hF.mono hle
   have main:∀ (res:CRes) (rr:ARec),call (.func g x y) [.func (.yield s1.n) [] []] s2 .no=some (res,rr)->∃ fr,Steps P (lone (b.atR a (.code (.rangeFunc f ps asg body)::k)) (stk m) w) (lone fr (b.atR {a with defers:=mark++a.defers} (.inRangeFunc w1.heap.size::k)::stk m) w2)/\match res with
    | .ret v so=>∃ τ V w',VR τ v V/\CStp σ2 s2 w2 τ so w'/\Steps P (lone fr (b.atR {a with defers:=mark++a.defers} (.inRangeFunc w1.heap.size::k)::stk m) w2) (lone (b.atR {a with defers:=mark++a.defers} (.endRangeFunc w1.heap.size::k)) (stk m) w')
    | .pan v so=>∃ τ V w',VR τ v V/\CStp σ2 s2 w2 τ so w'/\Steps P (lone fr (b.atR {a with defers:=mark++a.defers} (.inRangeFunc w1.heap.size::k)::stk m) w2) (lone {b.atR {a with defers:=mark++a.defers} (.inRangeFunc w1.heap.size::k) with mode:=.panicking [{v:=V,recovered:=false}]} (stk m) w'):=by
    intro res rr hc
    obtain ⟨nx,fr,p1,p2,p3⟩:=hcall σ2 s2 w2 g F x y [.func (.yield s1.n) [] []] Y _ res rr hc h2.rel hFn hcap hargs
    refine ⟨fr,.one (OX hen (d:={target:=.fn F Y,args:=X++#[.func (.yield w1.heap.size) #[] #[]]}) ?_ p1 p2),?_⟩
    ·have hc':a.eval (.const (.func (.yield w1.heap.size) #[] #[]))=.func (.yield w1.heap.size) #[] #[]:=rfl
     simp [resolve,rangeCall,hq,Deferred.ofValue,hc']
    ·have:=p3 (b.atR {a with defers:=mark++a.defers} (.inRangeFunc w1.heap.size::k)) (stk m)
     cases res with
     | ret v so=>
       obtain ⟨τ,V,w',q1,q2,q3⟩:=this
       exact ⟨τ,V,w',q1,q2,by rw [<-finish_atR_inRangeFunc _ V];exact q3⟩
     | pan v so=>
       obtain ⟨τ,V,w',q1,q2,q3⟩:=this
       exact ⟨τ,V,w',q1,q2,by rw [<-Frame.raise_atR];exact q3⟩
   have hso:∀ (so:Option Sto),(match so with | some s=>s | none=>s2)=so.getD s2:=fun so=>by cases so<;>rfl
   split at hd
   ·rename_i v so rr hc
    obtain ⟨fr,q0,τ,V,w',q1,q2,q3⟩:=main _ _ hc
    have hst:=h12.trans (q2.stp h2.rel)
    rw [hso]at hd
    have hτ:=(q2.stp h2.rel).ext
    have heE:ER τ b {e with ds:=ds,s:=so.getD s2} {a with defers:=mark++a.defers} m:=by
     have h3:=he.mono hst.ext
     exact ⟨h3.tm,hds.mono (Sg.le_trans h2.ext hτ),h3.rc,h3.fn,h3.ro⟩
    exact KP hd hst heE (hτ _ _ _ hL) (q0.trans q3)
   ·rename_i v so rr hc
    obtain ⟨fr,q0,τ,V,w',q1,q2,q3⟩:=main _ _ hc
    have hst:=h12.trans (q2.stp h2.rel)
    rw [hso]at hd
    simp at hd
    obtain ⟨rfl,rfl⟩:=hd
    have hτ:=(q2.stp h2.rel).ext
    have heE:ER τ b {e with s:=so.getD s2,ds:=ds} {a with defers:=mark++a.defers} m:=by
     have h3:=he.mono hst.ext
     exact ⟨h3.tm,hds.mono (Sg.le_trans h2.ext hτ),h3.rc,h3.fn,h3.ro⟩
    exact ⟨τ,_,m,w',heE,hst,V,_,q1,q0.trans q3⟩
   ·cases hd
theorem VZ {call:bL} (hcall:rJ P call) (hfun:∀ v args s r x,call v args s r=some x->∃ f a c,v=.func f a c) {f:Operand} {ps:Array Tmp} {asg body:Code}:PC P (tZ call f ps asg body) (.rangeFunc f ps asg body):=by
 intro σ w b stk k e a m ex e' hstk hd h he
 unfold tZ at hd
 cases hro:e.ro with
 | none=>
   have hbro:b.roundOf=none:=by have:=he.ro;rw [hro]at this;exact this
   rw [hro]at hd
   simp only at hd
   rw [<-hro]at hd
   have h1:=rQ (x:=.defs (some [])) (o:=.deferred (some [])) (base:=0) (sz:=0) h rfl (.defsS _ _ .nil)
   have hd1:(σ.upd e.s.n 0 (w.heap.size,0,0)) e.s.n 0=some (w.heap.size,0,0):=Sg.upd_same _ _ _ _
   refine BT hcall hfun (mark:=[{target:=.collected w.heap.size,args:=#[]}]) (d:=e.s.n) (db:=w.heap.size) h1 he hd1 (.cons _ _ _ _ (.collected _ _ _ _ hd1) (he.df.mono h1.ext)) ?_ hd
   rw [hbro,run_enterLoop_outer]
   simp [World.size_alloc]
 | some l=>
   have hr:=he.ro
   rw [hro]at hr hd
   simp only at hr hd
   obtain ⟨L,base,sz,hb,hs,hk⟩:=hr
   split at hd
   ·cases hd
   ·rename_i x s1 d ds hm
    split at hm
    ·rename_i st pe fn nt t ps' a' b' d' hg
     simp at hm
     obtain ⟨rfl,rfl,rfl⟩:=hm
     obtain ⟨B,base',sz',o,g1,g2,g3⟩:=h.obj l _ hg
     have g1':σ l 0=some (B,base',sz'):=g1
     rw [hs]at g1'
     obtain ⟨rfl,rfl,rfl⟩:L=B/\base=base'/\sz=sz':=by simpa using g1'
     cases g3 with
     | loop _ _ _ _ _ _ _ _ _ T PS db dbase dsz u1 u2 u3=>
       rw [<-hro]at hd
       refine BT hcall hfun (mark:=[]) (d:=d') (db:=db) (Stp.refl h) he u3 (by simpa using he.df) ?_ hd
       rw [hb]
       unfold Instr.enterLoop
       simp [Sem.run_bind,run_getLoop g2,run_newObj_alloc,Result.andThen,Sem.run_pure]
    ·cases hm
theorem KQ {b:Frame} {a:Act} {k:List Item} {cs:List Frame} {w:World} {c:Code}:step P (lone (b.atR a (.code (.scope c)::k)) cs w)=.next (lone (b.atR a (.code c::.inScope c::k)) cs w):=
 step_lone_go (by simp [stepG,stepG.exec,Frame.atR])
theorem DC {b:Frame} {a:Act} {k:List Item} {cs:List Frame} {w:World} {c:Code}:step P (lone (b.atR a (.inScope c::k)) cs w)=.next (lone (b.atR a k) cs w):=
 step_lone_go (by simp [stepG,stepG.exec,Frame.atR])
theorem gE {call:bL} (hcall:rJ P call) (hfun:∀ v args s r x,call v args s r=some x->∃ f a c,v=.func f a c) (n:Nat):∀ c:Code,PC P (bA P call n c) c:=by
 intro c
 induction c with
 | skip=>
   intro σ w b stk k e a m ex e' hstk hd h he
   simp [bA]at hd;obtain ⟨rfl,rfl⟩:=hd
   exact ⟨σ,a,m,w,he,Stp.refl h,.one stepR_skip⟩
 | label l=>
   intro σ w b stk k e a m ex e' hstk hd h he
   simp [bA]at hd;obtain ⟨rfl,rfl⟩:=hd
   exact ⟨σ,a,m,w,he,Stp.refl h,.one stepR_label⟩
 | region id ops draw=>
   intro σ w b stk k e a m ex e' hstk hd h he
   simp only [bA,mX]at hd
   cases draw with
   | true=>exact aCf hcall hfun hd h he
   | false=>
     have:=aHa hcall hfun hstk (OPS:=ops) (k:=k) ops.toList 0 σ w e a m ex e' (fun j=>by simp) hd h he
     refine COut.of_steps (.one stepR_region) ?_
     rw [List.range_eq_range']
     simpa using this
 | seq x y ihx ihy=>
   intro σ w b stk k e a m ex e' hstk hd h he
   simp only [bA]at hd
   split at hd
   ·rename_i e1 hx
    obtain ⟨τ,a',m',w',h1,h2,h3⟩:=ihx σ w b stk (.code y::k) e a m _ _ hstk hx h he
    have:=ihy τ w' b stk k e1 a' m' ex e' hstk hd h2.rel h1
    exact (this.of_steps (Steps.trans (.one stepR_seq) h3)).after h2
   ·rename_i hx
    obtain ⟨τ,a',m',w',h1,h2,h3⟩:=ihx σ w b stk (.code y::k) e a m ex e' hstk hd h he
    have hn:ex≠.normal:=by rintro rfl;exact hx e' hd
    exact ⟨τ,a',m',w',h1,h2,(Gone.pass (x:=.code y) (.inl rfl) hn h3).of_steps (.one stepR_seq)⟩
 | cond c x y ihx ihy=>
   intro σ w b stk k e a m ex e' hstk hd h he
   simp only [bA]at hd
   have hv:=aW he.tm c
   split at hd
   ·rename_i hc
    rw [hc]at hv
    have:=stepR_cond (P:=P) (b:=b) (k:=k) (cs:=stk m) (w:=w) (x:=x) (y:=y) (vM hv)
    simp only [if_true]at this
    exact (ihx σ w b stk k e a m ex e' hstk hd h he).of_steps (.one this)
   ·rename_i hc
    rw [hc]at hv
    have:=stepR_cond (P:=P) (b:=b) (k:=k) (cs:=stk m) (w:=w) (x:=x) (y:=y) (vM hv)
    simp only [Bool.false_eq_true,if_false]at this
    exact (ihy σ w b stk k e a m ex e' hstk hd h he).of_steps (.one this)
   ·cases hd
 | block id c ih=>
   intro σ w b stk k e a m ex e' hstk hd h he
   simp only [bA]at hd
   split at hd
   ·rename_i i e1 hc
    obtain ⟨τ,a',m',w',h1,h2,h3⟩:=ih σ w b stk (.inBlock id::k) e a m _ _ hstk hc h he
    cases hi:Nat.beq i id with
    | true=>
      rw [hi]at hd
      simp at hd;obtain ⟨rfl,rfl⟩:=hd
      have hid:i=id:=by simpa using hi
      subst hid
      exact ⟨τ,a',m',w',h1,h2,Steps.trans (.one stepR_block) (h3.1 k (by simp [exitTo]))⟩
    | false=>
      rw [hi]at hd
      simp at hd;obtain ⟨rfl,rfl⟩:=hd
      have hid:i≠id:=by
       intro he';subst he'
       rw [Nat.beq_refl]at hi;cases hi
      have hex:exitTo i (.inBlock id::k)=exitTo i k:=by
       simp [exitTo,Ne.symm hid]
      refine ⟨τ,a',m',w',h1,h2,Gone.of_steps (x:=.exit i) (.one stepR_block) ⟨fun k' hk'=>h3.1 k' (by rw [hex];exact hk'),fun hk=>h3.2 (by rw [hex];exact hk)⟩⟩
   ·rename_i hx
    obtain ⟨τ,a',m',w',h1,h2,h3⟩:=ih σ w b stk (.inBlock id::k) e a m ex e' hstk hd h he
    refine ⟨τ,a',m',w',h1,h2,Gone.of_steps (.one stepR_block) ?_⟩
    cases ex with
    | normal=>exact Steps.trans h3 (.one stepR_inBlock)
    | exit i=>exact absurd hd (hx i e')
    | goto l=>trivial
    | ret=>exact h3
    | panic v=>exact h3
 | loop c ih=>
   intro σ w b stk k e a m ex e' hstk hd h he
   simp only [bA]at hd
   exact (WH ih n σ w b stk k e a m ex e' hstk hd h he).of_steps (.one stepR_loop)
 | scope c ih=>
   intro σ w b stk k e a m ex e' hstk hd h he
   simp only [bA]at hd
   have hd':bA P call n c e=some (ex,e'):=by
    split at hd
    ·cases hd
    ·exact hd
   obtain ⟨τ,a',m',w',h1,h2,h3⟩:=ih σ w b stk (.inScope c::k) e a m ex e' hstk hd' h he
   refine ⟨τ,a',m',w',h1,h2,Gone.of_steps (.one KQ) ?_⟩
   by_cases hn:ex=.normal
   ·subst hn;exact Steps.trans h3 (.one DC)
   ·exact Gone.pass (.inr ⟨_,rfl⟩) hn h3
 | exit id=>
   intro σ w b stk k e a m ex e' hstk hd h he
   simp [bA]at hd;obtain ⟨rfl,rfl⟩:=hd
   exact ⟨σ,a,m,w,he,Stp.refl h,fun k' hk'=>.one (stepR_exit hk'),fun hk=>⟨k,hk,.refl _ _⟩⟩
 | goto l=>
   intro σ w b stk k e a m ex e' hstk hd h he
   simp [bA]at hd
 | ret=>
   intro σ w b stk k e a m ex e' hstk hd h he
   simp [bA]at hd;obtain ⟨rfl,rfl⟩:=hd
   exact ⟨σ,a,m,w,he,Stp.refl h,k,.refl _ _⟩
 | rangeFunc f ps asg body _ _=>
   intro σ w b stk k e a m ex e' hstk hd h he
   simp only [bA]at hd
   exact VZ hcall hfun σ w b stk k e a m ex e' hstk hd h he
 | refuse s=>
   intro σ w b stk k e a m ex e' hstk hd h he
   simp [bA]at hd
end
end Go.Abs
/-
 The abstract machine: calls.
-/
namespace Go.Abs
section
variable {P:Program}
def RT (T:Array Value) (x:ResultVar):Sem Value:=match x with
 | .tmp t=>pure (T.getD t undef)
 | .cell a t=>do loadVar t (<-asAddr (T.getD a undef))
theorem OY (fn:Func) (T:Array Value):results fn T=(do let vs <-fn.results.mapM (RT T);pure (if h:vs.size=1 then vs[0] else .tuple vs)):=rfl
theorem KS {σ:Sg} {w:World} {e:Env} {T:Array Value} (h:Rel σ e.s w) (ht:TmR σ e.nt e.t T):∀ (l:List ResultVar) (r:List AV),aP P e l=some r->∃ R:List Value,VRs σ r R/\(l.mapM (RT T)).run P w=.ok R w:=by
 have hget:∀ t,VR σ (match e.t.get t with | some v=>v | none=>.top) (T.getD t undef):=by
  intro t
  cases hg:e.t.get t with
  | none=>exact .top _
  | some v=>exact (ht.2 t v hg).2
 intro l
 induction l with
 | nil=>intro r hr;simp [aP]at hr;subst hr;exact ⟨[],VRs.nil _,by simp⟩
 | cons x l ih=>
   intro r hr
   cases x with
   | tmp t=>
     simp only [aP]at hr
     split at hr
     ·rename_i r' hr'
      simp only [Option.some.injEq]at hr;subst hr
      obtain ⟨R,h1,h2⟩:=ih r' hr'
      refine ⟨T.getD t undef::R,VRs.cons (hget t) h1,?_⟩
      rw [List.mapM_cons]
      simp [RT,Sem.run_bind,h2]
     ·cases hr
   | cell a t=>
     simp only [aP]at hr
     split at hr
     ·rename_i v hv
      split at hr
      ·rename_i r' hr'
       simp only [Option.some.injEq]at hr;subst hr
       obtain ⟨R,h1,h2⟩:=ih r' hr'
       obtain ⟨ad,V,e1,e2,e3⟩:=vS h hv (hget a)
       refine ⟨V::R,VRs.cons e3 h1,?_⟩
       rw [List.mapM_cons]
       have e1':(T[a]?).getD undef=.pointer (some ad):=by rw [<-e1,Array.getD_eq_getD_getElem?]
       simp [RT,Sem.run_bind,e1',asAddr,e2,h2]
      ·cases hr
     ·cases hr
def iA:List AV->AV
 | [v]=>v
 | l=>.tuple l
theorem tX {σ:Sg} {w:World} {e:Env} {T:Array Value} (h:Rel σ e.s w) (ht:TmR σ e.nt e.t T) {fn:Func} {r:List AV} (hr:aP P e fn.results.toList=some r):∃ V,(results fn T).run P w=.ok V w/\VR σ (iA r) V:=by
 obtain ⟨R,h1,h2⟩:=KS h ht _ _ hr
 have hres:(results fn T).run P w=.ok (if h:R.toArray.size=1 then R.toArray[0] else .tuple R.toArray) w:=by
  rw [OY,Sem.run_bind,Array.mapM_eq_mapM_toList,map_eq_pure_bind,Sem.run_bind,h2]
  rfl
 refine ⟨_,hres,?_⟩
 have hl:=h1.1
 unfold iA
 split
 ·rename_i v
  have hR:R.length=1:=by simpa using hl.symm
  obtain ⟨V,rfl⟩:=List.length_eq_one_iff.1 hR
  simp
  exact h1.2 0 v V rfl rfl
 ·rename_i hne
  rw [dif_neg]
  ·exact VR.tuple_iff.2 ⟨_,rfl,by simpa using h1⟩
  ·intro hsz
   have:r.length=1:=by rw [hl];simpa using hsz
   obtain ⟨v,hv⟩:=List.length_eq_one_iff.1 this
   exact hne v hv
theorem BU {fr:Frame} {cs:List Frame} {w w':World} {B:Nat} {as:Array Value} {ds calls:List Deferred} (hm:fr.mode≠.run) (hd:fr.defers = {target:=.collected B,args:=as}::ds)
 (hr:(Instr.takeDeferred B).run P w=.ok calls w'):step P (lone fr cs w)=.next (lone {fr with defers:=calls++ds} cs w'):=by
 refine step_lone_go ?_
 cases hmode:fr.mode with
 | run=>exact absurd hmode hm
 | returning=>simp [stepG,unwind,hmode,hd,Sem.runT_eq,hr,GStep.bare_after]
 | panicking chain=>simp [stepG,unwind,hmode,hd,Sem.runT_eq,hr,GStep.bare_after]
inductive UM (σ:Sg):Option AV->FrameMode->Prop
 | ret:UM σ none .returning
 | pan (v:AV) (V:Value):VR σ v V->UM σ (some v) (.panicking [{v:=V,recovered:=false}])
theorem UM.mono {σ τ:Sg} (h:σ.le τ) {o:Option AV} {u:FrameMode} (hu:UM σ o u):UM τ o u:=by
 cases hu with
 | ret=>exact .ret
 | pan v V hv=>exact .pan v V (hv.mono h)
theorem UM.ne {σ:Sg} {o:Option AV} {u:FrameMode} (hu:UM σ o u):u≠.run:=by cases hu<;>simp
def Left (P:Program) (σ:Sg) (S:Sto) (w:World) (M:Machine) (b:Frame) (stk:FrameMode->List Frame) (fn:Func) (s:Sto) (res:CRes) (rr:ARec):Prop:=
 ∃ τ a' m' w' e' todo,ER τ b e' a' m'/\Stp σ S w τ e'.s w'/\rr=e'.r/\a'.defers=[]/\match res with
   | .ret v so=>so=cT s v e'/\∃ V,VR τ v V/\(results fn a'.tmps).run P w'=.ok V w'/\Steps P M (lone {b.atR a' todo with mode:=.returning} (stk m') w')
   | .pan v so=>so=cT s v e'/\∃ V,VR τ v V/\Steps P M (lone {b.atR a' todo with mode:=.panicking [{v:=V,recovered:=false}]} (stk m') w')
theorem Left.of {σ τ:Sg} {S S':Sto} {w w':World} {M M':Machine} {b:Frame} {stk:FrameMode->List Frame} {fn:Func} {s:Sto} {res:CRes} {rr:ARec} (h:Steps P M M') (hs:Stp σ S w τ S' w') (hl:Left P τ S' w' M' b stk fn s res rr):Left P σ S w M b stk fn s res rr:=by
 obtain ⟨ρ,a',m',w'',e',todo,h1,h2,h3,h4,h5⟩:=hl
 refine ⟨ρ,a',m',w'',e',todo,h1,hs.trans h2,h3,h4,?_⟩
 cases res with
 | ret v so=>obtain ⟨g1,V,g2,g3,g4⟩:=h5;exact ⟨g1,V,g2,g3,h.trans g4⟩
 | pan v so=>obtain ⟨g1,V,g2,g3⟩:=h5;exact ⟨g1,V,g2,h.trans g3⟩
def LeftE (P:Program) (σ:Sg) (S:Sto) (w:World) (M:Machine) (b:Frame) (stk:FrameMode->List Frame) (fn:Func) (res:LRes) (e':Env):Prop:=
 ∃ τ a' m' w' todo,ER τ b e' a' m'/\Stp σ S w τ e'.s w'/\a'.defers=[]/\match res with
   | .ret v=>∃ V,VR τ v V/\(results fn a'.tmps).run P w'=.ok V w'/\Steps P M (lone {b.atR a' todo with mode:=.returning} (stk m') w')
   | .pan v=>∃ V,VR τ v V/\Steps P M (lone {b.atR a' todo with mode:=.panicking [{v:=V,recovered:=false}]} (stk m') w')
theorem LeftE.of {σ τ:Sg} {S S':Sto} {w w':World} {M M':Machine} {b:Frame} {stk:FrameMode->List Frame} {fn:Func} {res:LRes} {e':Env} (h:Steps P M M') (hs:Stp σ S w τ S' w') (hl:LeftE P τ S' w' M' b stk fn res e'):LeftE P σ S w M b stk fn res e':=by
 obtain ⟨ρ,a',m',w'',todo,h1,h2,h4,h5⟩:=hl
 refine ⟨ρ,a',m',w'',todo,h1,hs.trans h2,h4,?_⟩
 cases res with
 | ret v=>obtain ⟨V,g2,g3,g4⟩:=h5;exact ⟨V,g2,g3,h.trans g4⟩
 | pan v=>obtain ⟨V,g2,g3⟩:=h5;exact ⟨V,g2,h.trans g3⟩
theorem LeftE.left {σ:Sg} {S:Sto} {w:World} {M:Machine} {b:Frame} {stk:FrameMode->List Frame} {fn:Func} {lr:LRes} {e':Env} {s:Sto} {res:CRes} {rr:ARec} (hf:sY s (some (lr,e'))=some (res,rr)) (hl:LeftE P σ S w M b stk fn lr e'):Left P σ S w M b stk fn s res rr:=by
 obtain ⟨ρ,a',m',w'',todo,h1,h2,h4,h5⟩:=hl
 cases lr with
 | ret v=>
   simp only [sY,Option.some.injEq,Prod.mk.injEq]at hf
   obtain ⟨rfl,rfl⟩:=hf
   obtain ⟨V,g2,g3,g4⟩:=h5
   exact ⟨ρ,a',m',w'',e',todo,h1,h2,rfl,h4,rfl,V,g2,g3,g4⟩
 | pan v=>
   simp only [sY,Option.some.injEq,Prod.mk.injEq]at hf
   obtain ⟨rfl,rfl⟩:=hf
   obtain ⟨V,g2,g3⟩:=h5
   exact ⟨ρ,a',m',w'',e',todo,h1,h2,rfl,h4,rfl,V,g2,g3⟩
theorem lI {call:bL} (hD:RX P call) {fn:Func} {b:Frame} {stk:FrameMode->List Frame} {todo:List Item}:∀ (n:Nat) (mode:Option AV) (e:Env) (res:LRes) (rr:Env) (σ:Sg) (w:World) (a:Act) (m u:FrameMode),
 dleave P call fn n mode e=some (res,rr)->Rel σ e.s w->ER σ b e a m->UM σ mode u->LeftE P σ e.s w (lone {b.atR a todo with mode:=u} (stk m) w) b stk fn res rr:=by
 intro n
 induction n with
 | zero=>intro mode e res rr σ w a m u h;simp [dleave]at h
 | succ n ih=>
   intro mode e res rr σ w a m u h hr he hu
   have hdf:=he.df
   simp only [dleave]at h
   generalize hds:e.ds=D at h hdf
   generalize hAd:a.defers=AD at hdf
   cases hdf with
   | nil=>
     simp only at h
     cases hu with
     | ret=>
       simp only at h
       split at h
       ·rename_i v hv
        simp at h;obtain ⟨rfl,rfl⟩:=h
        obtain ⟨V,e1,e2⟩:=tX hr he.tm hv
        exact ⟨σ,a,m,w,todo,he,Stp.refl hr,hAd,V,e2,e1,.refl _ _⟩
       ·rename_i l hne hl
        simp at h;obtain ⟨rfl,rfl⟩:=h
        obtain ⟨V,e1,e2⟩:=tX hr he.tm hl
        refine ⟨σ,a,m,w,todo,he,Stp.refl hr,hAd,V,?_,e1,.refl _ _⟩
        unfold iA at e2
        split at e2
        ·rename_i v;exact absurd rfl (hne v)
        ·exact e2
       ·cases h
     | pan v V hv=>
       simp at h;obtain ⟨rfl,rfl⟩:=h
       exact ⟨σ,a,m,w,todo,he,Stp.refl hr,hAd,V,hv,.refl _ _⟩
   | cons d Dd ds Ds h1 h2=>
     cases h1 with
     | collected id B base sz hs=>
       simp only at h
       split at h
       ·rename_i l hg
        obtain ⟨B',base',sz',o,g1,g2,g3⟩:=hr.obj id _ hg
        have g1':σ id 0=some (B',base',sz'):=g1
        rw [hs]at g1'
        obtain ⟨rfl,rfl,rfl⟩:B=B'/\base=base'/\sz=sz':=by simpa using g1'
        cases g3 with
        | defsS _ Ls hl=>
          have hput:=stp_put (w':=w.putObj B (.deferred none)) hr hg g1 (y:=.defs none) rfl (World.putObj_heap_same (Array.getElem?_eq_some_iff.1 g2).1) .defsN (by simp) (fun b' hb'=>xB b' hb') rfl rfl rfl
          have he':ER σ b {e with ds:=l++ds,s:=e.s.put id (.defs none)} {a with defers:=Ls++Ds} m:=⟨he.tm,hl.append h2,he.rc,he.fn,he.ro⟩
          have:=ih mode _ res rr σ _ _ m u h hput.rel he' hu
          refine this.of ?_ hput
          exact .one (BU (fr:={b.atR a todo with mode:=u}) hu.ne hAd (run_takeDeferred g2))
       ·cases h
     | call f F first cap args A C k1 k2 k3=>
       simp only at h
       cases hy:vY (.func f first cap) with
       | true=>rw [hy]at h;cases h
       | false=>
         rw [hy]at h
         simp only [cond_false]at h
         have hcalled:∀ {g:FuncId} {A':Array Value} {M:Machine},(invoke (.fn F C) A).run P w=.ok (.enter g A') w->Steps P (lone (Frame.enter P g A' .deferred) ({{b.atR a todo with defers:=Ds} with mode:=u}::stk m) w) M->Steps P (lone {b.atR a todo with mode:=u} (stk m) w) M:=fun hi hs=>
          .head (step_defer (fr:={b.atR a todo with mode:=u}) (d:={target:=.fn F C,args:=A}) hu.ne hAd rfl hi) hs
         cases hu with
         | ret=>
           simp only at h
           split at h
           ·rename_i v so hc
            obtain ⟨g,A',hi,hs⟩:=hD σ e.s w f F first cap args C A _ _ _ _ hc hy hr k1 k2 k3 .quiet
            obtain ⟨τ,w',m',q1,q2,q3⟩:=hs {b.atR a todo with defers:=Ds} (stk m)
            have hst:=q2.stp hr
            have he':ER τ b {e with ds:=ds,s:=so.getD e.s} {a with defers:=Ds} m:=by
             have:=he.mono hst.ext
             exact ⟨this.tm,h2.mono hst.ext,this.rc,this.fn,this.ro⟩
            have hm':settle m'=.returning:=by cases q1;rfl
            rw [hm']at q3
            exact (ih none {e with ds:=ds,s:=so.getD e.s} res rr τ w' _ m .returning (by cases so<;>exact h) hst.rel he' .ret).of (hcalled hi q3) hst
           ·rename_i v so hc
            obtain ⟨g,A',hi,hs⟩:=hD σ e.s w f F first cap args C A _ _ _ _ hc hy hr k1 k2 k3 .quiet
            obtain ⟨τ,V,w',m',q0,q1,q2,q3⟩:=hs {b.atR a todo with defers:=Ds} (stk m)
            have hst:=q2.stp hr
            have he':ER τ b {e with ds:=ds,s:=so.getD e.s} {a with defers:=Ds} m:=by
             have:=he.mono hst.ext
             exact ⟨this.tm,h2.mono hst.ext,this.rc,this.fn,this.ro⟩
            have hm':raised m' [{v:=V,recovered:=false}]=.panicking [{v:=V,recovered:=false}]:=by cases q1;rfl
            rw [hm']at q3
            exact (ih (some v) {e with ds:=ds,s:=so.getD e.s} res rr τ w' _ m _ (by cases so<;>exact h) hst.rel he' (.pan v V q0)).of (hcalled hi q3) hst
           ·cases h
         | pan p V hV=>
           simp only at h
           split at h
           ·rename_i v so v' hc
            obtain ⟨g,A',hi,hs⟩:=hD σ e.s w f F first cap args C A _ _ _ _ hc hy hr k1 k2 k3 (.pan p V hV)
            obtain ⟨τ,w',m',q1,q2,q3⟩:=hs {b.atR a todo with defers:=Ds} (stk m)
            have hst:=q2.stp hr
            have he':ER τ b {e with ds:=ds,s:=so.getD e.s} {a with defers:=Ds} m:=by
             have:=he.mono hst.ext
             exact ⟨this.tm,h2.mono hst.ext,this.rc,this.fn,this.ro⟩
            have hm':settle m'=.returning:=by cases q1;rfl
            rw [hm']at q3
            exact (ih none {e with ds:=ds,s:=so.getD e.s} res rr τ w' _ m .returning (by cases so<;>exact h) hst.rel he' .ret).of (hcalled hi q3) hst
           ·rename_i v so p' hc
            obtain ⟨g,A',hi,hs⟩:=hD σ e.s w f F first cap args C A _ _ _ _ hc hy hr k1 k2 k3 (.pan p V hV)
            obtain ⟨τ,w',m',q1,q2,q3⟩:=hs {b.atR a todo with defers:=Ds} (stk m)
            have hst:=q2.stp hr
            have he':ER τ b {e with ds:=ds,s:=so.getD e.s} {a with defers:=Ds} m:=by
             have:=he.mono hst.ext
             exact ⟨this.tm,h2.mono hst.ext,this.rc,this.fn,this.ro⟩
            cases q1 with
            | pan _ V' hV'=>
              exact (ih (some p') {e with ds:=ds,s:=so.getD e.s} res rr τ w' _ m _ (by cases so<;>exact h) hst.rel he' (.pan p' V' hV')).of (hcalled hi q3) hst
           ·cases h
theorem oF {s:Sto} {x:Option (LRes × Env)} {y:CRes × ARec} (h:sY s x=some y):∃ lr e',x=some (lr,e')/\sY s (some (lr,e'))=some y:=by
 cases x with
 | none=>cases h
 | some x=>exact ⟨x.1,x.2,rfl,h⟩
theorem BV {σ:Sg} {as:List AV} {A:Array Value} (h:VRs σ as A.toList) (n:Nat):TmR σ (Nat.max as.length n) (Tr.leaf.lay 0 as) (A++Array.replicate (n-A.size) undef):=by
 have hl:as.length=A.size:=by simpa using h.1
 refine ⟨by simp;rw [hl];show _=max A.size n;omega,fun i v hv=>?_⟩
 rw [Tr.get_lay]at hv
 split at hv
 ·rename_i hi
  have hi':i<A.size:=by omega
  refine ⟨by show i<max as.length n;omega,?_⟩
  have:=h.2 i v A[i] (by simpa using hv) (by simp [hi'])
  simpa [Array.getD_eq_getD_getElem?,Array.getElem?_append,hi'] using this
 ·simp [Tr.get]at hv
theorem BW {call:bL} (hN:rJ P call) (hD:RX P call) (hfun:∀ v args s r x,call v args s r=some x->∃ f a c,v=.func f a c) {n:Nat} {f:FuncId} {args:List AV} {s:Sto} {r rr:ARec} {res:CRes} (hd:mY P call n f args s r=some (res,rr)):
 okFn P f=true/\∃ fn,P.funcs[f]?=some fn/\∀ {σ:Sg} {w:World} {A:Array Value} {kd:CallKind} {stk:FrameMode->List Frame} {m:FrameMode},Rel σ s w->VRs σ args A.toList->EC kd stk->RM σ kd r m->
  Left P σ {s with low:=s.n} w (lone (Frame.enter P f A kd) (stk m) w) {(default:Frame) with fn:=f,kind:=kd} stk fn s res rr:=by
 unfold mY at hd
 cases hok:okFn P f with
 | false=>rw [hok]at hd;cases hd
 | true=>
   rw [hok]at hd
   simp only [cond_true]at hd
   refine ⟨rfl,?_⟩
   split at hd
   ·rename_i fn hf
    split at hd
    ·rename_i c hb
     refine ⟨fn,hf,fun {σ w A kd stk m} h ha hstk hrm=>?_⟩
     have hrel:Rel σ {s with low:=s.n} w:=h.low rfl rfl
     have he:ER σ {(default:Frame) with fn:=f,kind:=kd} {nt:=Nat.max args.length fn.ntmps,ro:=none,fn:=f,t:=Tr.leaf.lay 0 args,ds:=[],s:={s with low:=s.n},r:=r} {tmps:=A++Array.replicate (fn.ntmps-A.size) undef,defers:=[]} m:=
      ⟨BV ha _,.nil,hrm,rfl,rfl⟩
     have henter:Frame.enter P f A kd=({(default:Frame) with fn:=f,kind:=kd}:Frame).atR {tmps:=A++Array.replicate (fn.ntmps-A.size) undef,defers:=[]} [.code c]:=by
      simp [Frame.enter,Frame.atR,hf,hb]
      rfl
     rw [henter]
     split at hd
     ·rename_i e hc
      obtain ⟨τ,a',m',w',h1,h2,h3⟩:=gE hN hfun n c σ w _ stk [] _ _ m _ _ hstk hc hrel he
      obtain ⟨lr,e',hl,hf⟩:=oF hd
      exact ((lI hD (todo:=[]) n none e lr e' τ w' a' m' .returning hl h2.rel h1 .ret).of (Steps.trans h3 (.one (stepR_end rfl))) h2).left hf
     ·rename_i e hc
      obtain ⟨τ,a',m',w',h1,h2,k₁,h3⟩:=gE hN hfun n c σ w _ stk [] _ _ m _ _ hstk hc hrel he
      obtain ⟨lr,e',hl,hf⟩:=oF hd
      exact ((lI hD n none e lr e' τ w' a' m' .returning hl h2.rel h1 .ret).of (Steps.trans h3 (.one (stepR_ret rfl))) h2).left hf
     ·rename_i v e hc
      obtain ⟨τ,a',m',w',h1,h2,V,todo,hV,h3⟩:=gE hN hfun n c σ w _ stk [] _ _ m _ _ hstk hc hrel he
      obtain ⟨lr,e',hl,hf⟩:=oF hd
      exact ((lI hD n (some v) e lr e' τ w' a' m' _ hl h2.rel h1 (.pan v V hV)).of h3 h2).left hf
     ·cases hd
    ·cases hd
   ·cases hd
theorem oG {σ τ:Sg} {s:Sto} {w w':World} {e':Env} {v:AV} (h:Rel σ s w) (hs:Stp σ {s with low:=s.n} w τ e'.s w'):
 ∃ ρ,CStp σ s w ρ (cT s v e') w'/\(∀ V,VR τ v V->VR ρ v V)/\(∀ k m,RM τ k e'.r m->RM ρ k e'.r m):=by
 unfold cT
 cases hc:Nat.ble s.n e'.s.low&&(v.under s.n 100&&CM s.n e'.r) with
 | true=>
   simp only [Bool.and_eq_true,Nat.ble_eq]at hc
   obtain ⟨hlow,hv,hr⟩:=hc
   have hcut:(τ.cut s.n).s=σ.s:=by
    funext id g
    simp only [Sg.cut]
    split
    ·rename_i hid
     exact (hs.keep id hid (by omega)).2.1 g
    ·rename_i hid
     cases hg:σ id g with
     | none=>rfl
     | some y=>exact absurd (h.bnd id g y hg) hid
   refine ⟨τ.cut s.n,⟨⟨hs.size,fun b hb=>?_,hs.os,hs.out,hs.tape⟩,⟨fun id g x hx=>by rw [hcut];exact hx,hs.ext.m⟩,hcut,fun b off V hV=>?_⟩,fun V hV=>VR.cut _ _ _ hv hV,fun k m hm=>?_⟩
   ·by_cases hh:Has σ s b
    ·obtain ⟨id,x,base,sz,h1,h2⟩:=hh
     have hid:=Sto.get_lt h1
     exact (hs.keep id hid (by omega)).2.2 x b base sz h1 h2
    ·exact hs.frame b hb hh
   ·have hmu:=hs.rel.mu b off V hV
    rcases hs.mnew b off V hV with h1 | ⟨id,x,base,sz,h1,h2⟩ | h1
    ·exact .inl h1
    ·exfalso
     have hid:id<s.n:=Sto.get_lt h1
     obtain ⟨k1,k2,_⟩:=hs.keep id hid (by omega)
     exact hmu.2 ⟨id,x,base,sz,by rw [k1];exact h1,by rw [k2];exact h2⟩
    ·exact .inr ⟨h1,hmu.1⟩
   ·generalize e'.r=r at hm hr
    cases hm with
    | normal m=>exact .normal m
    | quiet=>exact .quiet
    | pan p V hV=>exact .pan p V (VR.cut _ _ _ hr hV)
    | recd p V hV=>exact .recd p V (VR.cut _ _ _ hr hV)
 | false=>
   refine ⟨τ,?_,fun V h=>h,fun k m h=>h⟩
   show Stp σ s w τ {e'.s with low:=Nat.min s.low e'.s.low} w'
   exact ⟨hs.rel.low rfl rfl,hs.ext,hs.size,hs.frame,hs.own,hs.sn,Nat.min_le_left _ _,fun id h1 h2=>hs.keep id h1 (Nat.lt_of_lt_of_le h2 (Nat.min_le_right _ _)),hs.os,hs.out,hs.tape,hs.hole,hs.mnew⟩
end
end Go.Abs
