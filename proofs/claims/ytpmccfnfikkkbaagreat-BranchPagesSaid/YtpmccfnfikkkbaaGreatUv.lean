/-
  The abstract machine: ranges over functions, code.
-/
import Derived.Test.YtpmccfnfikkkbaaGreatUt
import Derived.RangeFuncRecord
import Derived.RangeFuncIn
import Derived.Defers
import Derived.Laws.Sem
set_option linter.unusedVariables false
set_option linter.unusedSimpArgs false
namespace Go.Abs
section
variable {P:Program}
theorem TF {b:Frame} {a:Act} {k:List Item} {cs:List Frame} {w m:World} {g:Operand} {ps:Array Tmp} {c f:Code} {l:Nat} {mark:List Deferred} {d:Deferred} {r:Next} {fr:Frame}
 (q:(Instr.enterLoop b.fn a.tmps ps c f b.roundOf).run P w=.ok (l,mark) m)
 (p:(resolve a.eval (rangeCall g l) 0).run P m=.ok d m) (h:(invoke d.target d.args).run P m=.ok r m) (u:KO P r fr):
 step P (lone (b.atR a (.code (.rangeFunc g ps c f)::k)) cs w)=.next (lone fr (b.atR {a with defers:=mark++a.defers} (.inRangeFunc l::k)::cs) m):=
 step_lone_go (by
  have o:=Frame.eval_atR b {a with defers:=mark++a.defers} (.inRangeFunc l::k);simp only [Frame.atR]at o;have e:Sem.run P (resolve ({tmps:=a.tmps,defers:=mark++a.defers}:Act).eval {callee:=.value g,args:=#[.const (.func (.yield l) #[] #[])],argTypes:=#[]} 0) m=.ok d m:=p
  rcases u with ⟨g',A,rfl,rfl⟩ | ⟨l',y,B,v,b',rfl,rfl⟩
  ·simp [stepG,stepG.exec,Frame.atR,Sem.runT_eq,q,GStep.bare_after,stepG.apply,o,Sem.run_bind,e,h,Result.andThen]
  ·simp [stepG,stepG.exec,Frame.atR,Sem.runT_eq,q,GStep.bare_after,stepG.apply,o,Sem.run_bind,e,h,Result.andThen])
theorem aAo {σ:Sg} {id g a g':Nat} {x:Nat × Nat × Nat} (h:a≠id):σ.upd id g x a g'=σ a g':=by
 simp only [Sg.upd];rw [if_neg (fun b=>h b.1)]
theorem zQ {w:World} {L:Nat} {o:Obj} (b:Nat) (h:b≠L):(w.putObj L o).heap[b]?=w.heap[b]?:=World.putObj_heap_other h
theorem OZ {b:Frame} {stk:FrameMode->List Frame} {k:List Item} {σ τ:Sg} {S s:Sto} {w w':World} {e:Env} {ds:List ADef} {h L:Nat} {base sz:Nat} {a:Act} {m:FrameMode} {I:Ex} {e':Env} {M:Machine}
 (l:gD e ds h s=some (I,e')) (r:Stp σ S w τ s w') (Z:ER τ b {e with ds:=ds,s:=s} a m) (Y:τ h 0=some (L,base,sz)) (hs:Steps P M (lone (b.atR a (.endRangeFunc L::k)) (stk m) w')):
 COut P σ S w M b stk k I e':=by
 unfold gD at l;split at l
 ·rename_i st c fn nt t ps D E d O
  obtain ⟨B,base',sz',o,J,N,X⟩:=r.rel.obj h _ O;have u:τ h 0=some (B,base',sz'):=J;rw [Y]at u
  obtain ⟨rfl,rfl,rfl⟩:L=B/\base=base'/\sz=sz':=by simpa using u
  cases X with
  | loop _ _ _ _ _ _ _ _ _ T PS db F Q R U V=>
    have v:st≠.busy:=by rintro rfl;simp at l
    have C:=run_endLoop (P:=P) N v
    have A:=stp_put (w':=w'.putObj L (.loop {state:=.exhausted,pending:=c,fn:=fn,tmps:=T,params:=PS,assign:=D,body:=E,defers:=db})) r.rel O J (y:=.loop .exhausted c fn nt t ps D E d) rfl
     (World.putObj_heap_same (Array.getElem?_eq_some_iff.1 N).1) (.loop _ _ _ _ _ _ _ _ _ _ _ _ _ _ R U V) (by simp) (fun b' G=>zQ b' G) rfl rfl rfl
    have f:=r.trans A;have p:=hs.trans (.one (stepR_endRangeFunc (k:=k) C));have q:=Z.sto (s.put h (.loop .exhausted c fn nt t ps D E d))
    cases st with
    | busy=>exact absurd rfl v
    | _=>
      simp only at l
      cases c with
      | none=>
        simp at l;obtain ⟨rfl,rfl⟩:=l;exact ⟨τ,a,m,_,q,f,p⟩
      | some j=>
        cases j<;>simp at l
        ·rename_i id
         obtain ⟨rfl,rfl⟩:=l;refine ⟨τ,a,m,_,q,f,fun k' H=>p.trans (.one (stepR_exit H)),fun hk=>⟨k,hk,p⟩⟩
        ·obtain ⟨rfl,rfl⟩:=l
         exact ⟨τ,a,m,_,q,f,k,p⟩
 ·cases l
theorem EM {call:bR} (N:sX P call) (H:∀ v args s r x,call v args s r=some x->∃ f a c,v=.func f a c) {b:Frame} {stk:FrameMode->List Frame} {k:List Item} {σ σ1:Sg} {w p:World} {q:Sto} {e:Env} {a:Act} {m:FrameMode} {ex:Ex} {e':Env}
 {f:Operand} {ps:Array Tmp} {h body:Code} {d db u Z:Nat} {ds:List ADef} {mark:List Deferred} (h1:Stp σ e.s w σ1 q p) (he:ER σ b e a m) (ab:σ1 d 0=some (db,u,Z)) (ac:DefsR σ1 ds (mark++a.defers))
 (ad:(Instr.enterLoop b.fn a.tmps ps h body b.roundOf).run P w=.ok (p.heap.size,mark) (p.alloc (.loop {state:=.ready,pending:=none,fn:=b.fn,tmps:=a.tmps,params:=ps,assign:=h,body:=body,defers:=db})))
 (B:(match call (e.eval f) [.func (.yield q.n) [] []] (q.push (.loop .ready none e.fn e.nt e.t ps.toList h body d)) .no with
   | some (.ret _ l,_)=>gD e ds q.n (match l with | some s=>s | none=>q.push (.loop .ready none e.fn e.nt e.t ps.toList h body d))
   | some (.pan v l,_)=>some (.panic v,{e with s:=(match l with | some s=>s | none=>q.push (.loop .ready none e.fn e.nt e.t ps.toList h body d)),ds:=ds})
   | none=>none)=some (ex,e')):
 COut P σ e.s w (lone (b.atR a (.code (.rangeFunc f ps h body)::k)) (stk m) w) b stk k ex e':=by
 have aj:d<q.n:=h1.rel.bnd _ _ _ ab
 have A:=tE (x:=.loop .ready none e.fn e.nt e.t ps.toList h body d) (o:=.loop {state:=.ready,pending:=none,fn:=b.fn,tmps:=a.tmps,params:=ps,assign:=h,body:=body,defers:=db}) (base:=0) (sz:=0) h1.rel rfl
  (by
    rw [he.fn];refine .loop _ _ _ _ _ _ _ _ _ _ _ db u Z ?_ rfl ?_
    ·refine he.tm.mono (Sg.le_trans h1.ext (Sg.le_upd _ ?_))
     cases hs:σ1 q.n 0 with
     | none=>rfl
     | some y=>exact absurd (h1.rel.bnd _ _ _ hs) (Nat.lt_irrefl _)
    ·rw [aAo (by omega)];exact ab)
 generalize ak:q.push (.loop .ready none e.fn e.nt e.t ps.toList h body d)=J at B A;generalize al:p.alloc (.loop {state:=.ready,pending:=none,fn:=b.fn,tmps:=a.tmps,params:=ps,assign:=h,body:=body,defers:=db})=U at ad A;generalize ai:σ1.upd q.n 0 (p.heap.size,0,0)=σ2 at A
 have hL:σ2 q.n 0=some (p.heap.size,0,0):=by rw [<-ai];exact Sg.upd_same _ _ _ _
 have L:=h1.trans A;have Q:=bA he.tm f
 have ah:∃ g x y,e.eval f=.func g x y:=by
  split at B
  ·rename_i E;exact H _ _ _ _ _ E
  ·rename_i E;exact H _ _ _ _ _ E
  ·cases B
 obtain ⟨g,x,y,hg⟩:=ah;rw [hg]at Q B;generalize hq:a.eval f=FV at Q
 cases Q with
 | func _ F _ _ X Y hF k1 k2 k3 k4=>
   have R:=L.ext
   have aa:VRs σ2 y Y.toList:=⟨by simpa using k2,fun i x X e1 e2=>(k4 i x X e1 (by simpa using e2)).mono R⟩
   have M:VRs σ2 (x++[AV.func (.yield q.n) [] []]) (X++#[Value.func (.yield p.heap.size) #[] #[]]).toList:=by
    rw [Array.toList_append];exact VRs.append ⟨by simpa using k1,fun i x X e1 e2=>(k3 i x X e1 (by simpa using e2)).mono R⟩ (VRs.cons (VR.func _ _ _ _ _ _ (.yield _ _ _ _ hL) rfl rfl (by simp) (by simp)) (VRs.nil _))
   have af:FnR σ2 g F:=hF.mono R
   have I:∀ (res:CRes) (rr:ARec),call (.func g x y) [.func (.yield q.n) [] []] J .no=some (res,rr)->∃ fr,Steps P (lone (b.atR a (.code (.rangeFunc f ps h body)::k)) (stk m) w) (lone fr (b.atR {a with defers:=mark++a.defers} (.inRangeFunc p.heap.size::k)::stk m) U)/\match res with
    | .ret v l=>∃ τ V w',VR τ v V/\CStp σ2 J U τ l w'/\Steps P (lone fr (b.atR {a with defers:=mark++a.defers} (.inRangeFunc p.heap.size::k)::stk m) U) (lone (b.atR {a with defers:=mark++a.defers} (.endRangeFunc p.heap.size::k)) (stk m) w')
    | .pan v l=>∃ τ V w',VR τ v V/\CStp σ2 J U τ l w'/\Steps P (lone fr (b.atR {a with defers:=mark++a.defers} (.inRangeFunc p.heap.size::k)::stk m) U) (lone {b.atR {a with defers:=mark++a.defers} (.inRangeFunc p.heap.size::k) with mode:=.panicking [{v:=V,recovered:=false}]} (stk m) w'):=by
    intro res rr E;obtain ⟨nx,fr,p1,p2,p3⟩:=N σ2 J U g F x y [.func (.yield q.n) [] []] Y _ res rr E A.rel af aa M;refine ⟨fr,.one (TF ad (d:={target:=.fn F Y,args:=X++#[.func (.yield p.heap.size) #[] #[]]}) ?_ p1 p2),?_⟩
    ·have ag:a.eval (.const (.func (.yield p.heap.size) #[] #[]))=.func (.yield p.heap.size) #[] #[]:=rfl
     simp [resolve,hq,Deferred.ofValue,ag]
    ·have:=p3 (b.atR {a with defers:=mark++a.defers} (.inRangeFunc p.heap.size::k)) (stk m)
     cases res with
     | ret v l=>
       obtain ⟨τ,V,w',T,G,S⟩:=this;exact ⟨τ,V,w',T,G,by rw [<-finish_atR_inRangeFunc _ V];exact S⟩
     | pan v l=>
       obtain ⟨τ,V,w',T,G,S⟩:=this;exact ⟨τ,V,w',T,G,by rw [<-Frame.raise_atR];exact S⟩
   have ae:∀ (l:Option Sto),(match l with | some s=>s | none=>J)=l.getD J:=fun l=>by cases l<;>rfl
   split at B
   ·rename_i v l rr E
    obtain ⟨fr,q0,τ,V,w',T,G,S⟩:=I _ _ E;have C:=L.trans (G.stp A.rel);rw [ae]at B;have hτ:=(G.stp A.rel).ext
    have O:ER τ b {e with ds:=ds,s:=l.getD J} {a with defers:=mark++a.defers} m:=by
     have D:=he.mono C.ext;exact ⟨D.tm,ac.mono (Sg.le_trans A.ext hτ),D.rc,D.fn,D.ro⟩
    exact OZ B C O (hτ _ _ _ hL) (q0.trans S)
   ·rename_i v l rr E
    obtain ⟨fr,q0,τ,V,w',T,G,S⟩:=I _ _ E;have C:=L.trans (G.stp A.rel);rw [ae]at B;simp at B;obtain ⟨rfl,rfl⟩:=B;have hτ:=(G.stp A.rel).ext
    have O:ER τ b {e with s:=l.getD J,ds:=ds} {a with defers:=mark++a.defers} m:=by
     have D:=he.mono C.ext;exact ⟨D.tm,ac.mono (Sg.le_trans A.ext hτ),D.rc,D.fn,D.ro⟩
    exact ⟨τ,_,m,w',O,C,V,_,T,q0.trans S⟩
   ·cases B
theorem aAp {call:bR} (p:sX P call) (A:∀ v args s r x,call v args s r=some x->∃ f a c,v=.func f a c) {f:Operand} {ps:Array Tmp} {D y:Code}:TJ P (vY call f ps D y) (.rangeFunc f ps D y):=by
 intro σ w b stk k e a m ex e' N q h C;unfold vY at q
 cases u:e.ro with
 | none=>
   have F:b.roundOf=none:=by have:=C.ro;rw [u]at this;exact this
   rw [u]at q;simp only at q;rw [<-u]at q;have M:=tE (x:=.defs (some [])) (o:=.deferred (some [])) (base:=0) (sz:=0) h rfl (.defsS _ _ .nil);have G:(σ.upd e.s.n 0 (w.heap.size,0,0)) e.s.n 0=some (w.heap.size,0,0):=Sg.upd_same _ _ _ _;refine EM p A (mark:=[{target:=.collected w.heap.size,args:=#[]}]) (d:=e.s.n) (db:=w.heap.size) M C G (.cons _ _ _ _ (.collected _ _ _ _ G) (C.df.mono M.ext)) ?_ q;rw [F,run_enterLoop_outer];simp [World.size_alloc]
 | some l=>
   have J:=C.ro;rw [u]at J q;simp only at J q;obtain ⟨L,base,sz,V,Y,hk⟩:=J;split at q
   ·cases q
   ·rename_i x s1 d ds H
    split at H
    ·rename_i st pe fn nt t Z a' b' O X
     simp at H;obtain ⟨rfl,rfl,rfl⟩:=H;obtain ⟨B,base',sz',o,R,S,U⟩:=h.obj l _ X;have E:σ l 0=some (B,base',sz'):=R;rw [Y]at E
     obtain ⟨rfl,rfl,rfl⟩:L=B/\base=base'/\sz=sz':=by simpa using E
     cases U with
     | loop _ _ _ _ _ _ _ _ _ T PS db I Q u1 u2 u3=>
       rw [<-u]at q;refine EM p A (mark:=[]) (d:=O) (db:=db) (Stp.refl h) C u3 (by simpa using C.df) ?_ q;rw [V];unfold Instr.enterLoop;simp [Sem.run_bind,run_getLoop S,Result.andThen]
    ·cases H
theorem PA {b:Frame} {a:Act} {k:List Item} {cs:List Frame} {w:World} {c:Code}:step P (lone (b.atR a (.code (.scope c)::k)) cs w)=.next (lone (b.atR a (.code c::.inScope c::k)) cs w):=
 step_lone_go (by simp [stepG,stepG.exec,Frame.atR])
theorem HE {b:Frame} {a:Act} {k:List Item} {cs:List Frame} {w:World} {c:Code}:step P (lone (b.atR a (.inScope c::k)) cs w)=.next (lone (b.atR a k) cs w):=
 step_lone_go (by simp [stepG,stepG.exec,Frame.atR])
theorem iH {call:bR} (u:sX P call) (C:∀ v args s r x,call v args s r=some x->∃ f a c,v=.func f a c) (n:Nat):∀ c:Code,TJ P (bE P call n c) c:=by
 intro c
 induction c with
 | skip=>
   intro σ w b stk k e a m q e' d o h p;simp [bE]at o;obtain ⟨rfl,rfl⟩:=o;exact ⟨σ,a,m,w,p,Stp.refl h,.one stepR_skip⟩
 | label l=>
   intro σ w b stk k e a m q e' d o h p;simp [bE]at o;obtain ⟨rfl,rfl⟩:=o;exact ⟨σ,a,m,w,p,Stp.refl h,.one stepR_label⟩
 | region id ops M=>
   intro σ w b stk k e a m q e' d o h p;simp only [bE,oY]at o
   cases M with
   | true=>exact aFv u C o h p
   | false=>
     have:=aLa u C d (OPS:=ops) (k:=k) ops.toList 0 σ w e a m q e' (fun j=>by simp) o h p;refine COut.of_steps (.one stepR_region) ?_;rw [List.range_eq_range']
     simpa using this
 | seq x y G J=>
   intro σ w b stk k e a m q e' d o h p;simp only [bE]at o;split at o
   ·rename_i Z R
    obtain ⟨τ,D,F,w',E,B,A⟩:=G σ w b stk (.code y::k) e a m _ _ d R h p;have:=J τ w' b stk k Z D F q e' d o B.rel E;exact (this.of_steps (Steps.trans (.one stepR_seq) A)).after B
   ·rename_i R
    obtain ⟨τ,D,F,w',E,B,A⟩:=G σ w b stk (.code y::k) e a m q e' d o h p
    have S:q≠.normal:=by rintro rfl;exact R e' o
    exact ⟨τ,D,F,w',E,B,(Gone.pass (x:=.code y) (.inl rfl) S A).of_steps (.one stepR_seq)⟩
 | cond c x y G J=>
   intro σ w b stk k e a m q e' d o h p;simp only [bE]at o;have T:=bA p.tm c;split at o
   ·rename_i N
    rw [N]at T;have:=stepR_cond (P:=P) (b:=b) (k:=k) (cs:=stk m) (w:=w) (x:=x) (y:=y) (xT T);simp only [if_true]at this;exact (G σ w b stk k e a m q e' d o h p).of_steps (.one this)
   ·rename_i N
    rw [N]at T;have:=stepR_cond (P:=P) (b:=b) (k:=k) (cs:=stk m) (w:=w) (x:=x) (y:=y) (xT T);simp only [Bool.false_eq_true,if_false]at this;exact (J σ w b stk k e a m q e' d o h p).of_steps (.one this)
   ·cases o
 | block id c L=>
   intro σ w b stk k e a m q e' d o h p;simp only [bE]at o;split at o
   ·rename_i i Z N
    obtain ⟨τ,D,F,w',E,B,A⟩:=L σ w b stk (.inBlock id::k) e a m _ _ d N h p
    cases Q:Nat.beq i id with
    | true=>
      rw [Q]at o;simp at o;obtain ⟨rfl,rfl⟩:=o
      have H:i=id:=by simpa using Q
      subst H;exact ⟨τ,D,F,w',E,B,Steps.trans (.one stepR_block) (A.1 k (by simp [exitTo]))⟩
    | false=>
      rw [Q]at o;simp at o;obtain ⟨rfl,rfl⟩:=o
      have H:i≠id:=by
       intro V;subst V;rw [Nat.beq_refl]at Q;cases Q
      have O:exitTo i (.inBlock id::k)=exitTo i k:=by
       simp [exitTo,Ne.symm H]
      refine ⟨τ,D,F,w',E,B,Gone.of_steps (x:=.exit i) (.one stepR_block) ⟨fun k' I=>A.1 k' (by rw [O];exact I),fun X=>A.2 (by rw [O];exact X)⟩⟩
   ·rename_i R
    obtain ⟨τ,D,F,w',E,B,A⟩:=L σ w b stk (.inBlock id::k) e a m q e' d o h p;refine ⟨τ,D,F,w',E,B,Gone.of_steps (.one stepR_block) ?_⟩
    cases q with
    | normal=>exact Steps.trans A (.one stepR_inBlock)
    | exit i=>exact absurd o (R i e')
    | goto l=>trivial
    | ret=>exact A
    | panic v=>exact A
 | loop c L=>
   intro σ w b stk k e a m q e' d o h p;simp only [bE]at o;exact (aAw L n σ w b stk k e a m q e' d o h p).of_steps (.one stepR_loop)
 | scope c L=>
   intro σ w b stk k e a m q e' d o h p;simp only [bE]at o
   have U:bE P call n c e=some (q,e'):=by
    split at o
    ·cases o
    ·exact o
   obtain ⟨τ,D,F,w',E,B,A⟩:=L σ w b stk (.inScope c::k) e a m q e' d U h p;refine ⟨τ,D,F,w',E,B,Gone.of_steps (.one PA) ?_⟩;by_cases S:q=.normal
   ·subst S;exact Steps.trans A (.one HE)
   ·exact Gone.pass (.inr ⟨_,rfl⟩) S A
 | exit id=>
   intro σ w b stk k e a m q e' d o h p;simp [bE]at o;obtain ⟨rfl,rfl⟩:=o;exact ⟨σ,a,m,w,p,Stp.refl h,fun k' I=>.one (stepR_exit I),fun X=>⟨k,X,.refl _ _⟩⟩
 | goto l=>
   intro σ w b stk k e a m q e' d o h p;simp [bE]at o
 | ret=>
   intro σ w b stk k e a m q e' d o h p;simp [bE]at o;obtain ⟨rfl,rfl⟩:=o;exact ⟨σ,a,m,w,p,Stp.refl h,k,.refl _ _⟩
 | rangeFunc f ps aa Y _ _=>
   intro σ w b stk k e a m q e' d o h p;simp only [bE]at o;exact aAp u C σ w b stk k e a m q e' d o h p
 | refuse s=>
   intro σ w b stk k e a m q e' d o h p;simp [bE]at o
end
end Go.Abs
/-
 The abstract machine: calls.
-/
namespace Go.Abs
section
variable {P:Program}
def XA (T:Array Value) (x:ResultVar):Sem Value:=match x with
 | .tmp t=>pure (T.getD t undef)
 | .cell a t=>do loadVar t (<-asAddr (T.getD a undef))
theorem TG (fn:Func) (T:Array Value):results fn T=(do let vs <-fn.results.mapM (XA T);pure (if h:vs.size=1 then vs[0] else .tuple vs)):=rfl
theorem PB {σ:Sg} {w:World} {e:Env} {T:Array Value} (h:Rel σ e.s w) (C:TmR σ e.nt e.t T):∀ (l:List ResultVar) (r:List AV),aS P e l=some r->∃ R:List Value,VRs σ r R/\(l.mapM (XA T)).run P w=.ok R w:=by
 have c:∀ t,VR σ (match e.t.get t with | some v=>v | none=>.top) (T.getD t undef):=by
  intro t
  cases B:e.t.get t with
  | none=>exact .top _
  | some v=>exact (C.2 t v B).2
 intro l
 induction l with
 | nil=>intro r b;simp [aS]at b;subst b;exact ⟨[],VRs.nil _,by simp⟩
 | cons x l p=>
   intro r b
   cases x with
   | tmp t=>
     simp only [aS]at b;split at b
     ·rename_i o d
      simp only [Option.some.injEq]at b;subst b;obtain ⟨R,k,m⟩:=p o d;refine ⟨T.getD t undef::R,VRs.cons (c t) k,?_⟩;rw [List.mapM_cons];simp [XA,m]
     ·cases b
   | cell a t=>
     simp only [aS]at b;split at b
     ·rename_i v D
      split at b
      ·rename_i o d
       simp only [Option.some.injEq]at b;subst b;obtain ⟨R,k,m⟩:=p o d;obtain ⟨q,V,u,y,A⟩:=xY h D (c a);refine ⟨V::R,VRs.cons A k,?_⟩;rw [List.mapM_cons]
       have f:(T[a]?).getD undef=.pointer (some q):=by rw [<-u,Array.getD_eq_getD_getElem?]
       simp [XA,Sem.run_bind,f,asAddr,y,m]
      ·cases b
     ·cases b
def pW:List AV->AV
 | [v]=>v
 | l=>.tuple l
theorem vV {σ:Sg} {w:World} {e:Env} {T:Array Value} (h:Rel σ e.s w) (o:TmR σ e.nt e.t T) {fn:Func} {r:List AV} (m:aS P e fn.results.toList=some r):∃ V,(results fn T).run P w=.ok V w/\VR σ (pW r) V:=by
 obtain ⟨R,b,k⟩:=PB h o _ _ m
 have a:(results fn T).run P w=.ok (if h:R.toArray.size=1 then R.toArray[0] else .tuple R.toArray) w:=by
  rw [TG,Sem.run_bind,Array.mapM_eq_mapM_toList,map_eq_pure_bind,Sem.run_bind,k];rfl
 refine ⟨_,a,?_⟩;have f:=b.1;unfold pW;split
 ·rename_i v
  have l:R.length=1:=by simpa using f.symm
  obtain ⟨V,rfl⟩:=List.length_eq_one_iff.1 l;simp;exact b.2 0 v V rfl rfl
 ·rename_i c
  rw [dif_neg]
  ·exact VR.tuple_iff.2 ⟨_,rfl,by simpa using b⟩
  ·intro d
   have:r.length=1:=by rw [f];simpa using d
   obtain ⟨v,p⟩:=List.length_eq_one_iff.1 this;exact c v p
theorem EN {fr:Frame} {cs:List Frame} {w w':World} {B:Nat} {as:Array Value} {c b:List Deferred} (f:fr.mode≠.run) (d:fr.defers = {target:=.collected B,args:=as}::c)
 (e:(Instr.takeDeferred B).run P w=.ok b w'):step P (lone fr cs w)=.next (lone {fr with defers:=b++c} cs w'):=by
 refine step_lone_go ?_
 cases a:fr.mode with
 | run=>exact absurd a f
 | returning=>simp [stepG,unwind,a,d,Sem.runT_eq,e,GStep.bare_after]
 | panicking chain=>simp [stepG,unwind,a,d,Sem.runT_eq,e,GStep.bare_after]
inductive UM (σ:Sg):Option AV->FrameMode->Prop
 | ret:UM σ none .returning
 | pan (v:AV) (V:Value):VR σ v V->UM σ (some v) (.panicking [{v:=V,recovered:=false}])
theorem UM.mono {σ τ:Sg} (h:σ.le τ) {o:Option AV} {u:FrameMode} (a:UM σ o u):UM τ o u:=by
 cases a with
 | ret=>exact .ret
 | pan v V b=>exact .pan v V (b.mono h)
theorem UM.ne {σ:Sg} {o:Option AV} {u:FrameMode} (a:UM σ o u):u≠.run:=by cases a<;>simp
def Left (P:Program) (σ:Sg) (S:Sto) (w:World) (M:Machine) (b:Frame) (stk:FrameMode->List Frame) (fn:Func) (s:Sto) (res:CRes) (e:ARec):Prop:=
 ∃ τ a c w' e' todo,ER τ b e' a c/\Stp σ S w τ e'.s w'/\e=e'.r/\a.defers=[]/\match res with
   | .ret v d=>d=fU s v e'/\∃ V,VR τ v V/\(results fn a.tmps).run P w'=.ok V w'/\Steps P M (lone {b.atR a todo with mode:=.returning} (stk c) w')
   | .pan v d=>d=fU s v e'/\∃ V,VR τ v V/\Steps P M (lone {b.atR a todo with mode:=.panicking [{v:=V,recovered:=false}]} (stk c) w')
theorem Left.of {σ τ:Sg} {S k:Sto} {w w':World} {M f:Machine} {b:Frame} {stk:FrameMode->List Frame} {fn:Func} {s:Sto} {res:CRes} {m:ARec} (h:Steps P M f) (B:Stp σ S w τ k w') (A:Left P τ k w' f b stk fn s res m):Left P σ S w M b stk fn s res m:=by
 obtain ⟨ρ,o,C,e,e',todo,q,r,u,y,l⟩:=A;refine ⟨ρ,o,C,e,e',todo,q,B.trans r,u,y,?_⟩
 cases res with
 | ret v D=>obtain ⟨a,V,c,d,p⟩:=l;exact ⟨a,V,c,d,h.trans p⟩
 | pan v D=>obtain ⟨a,V,c,d⟩:=l;exact ⟨a,V,c,h.trans d⟩
def LeftE (P:Program) (σ:Sg) (S:Sto) (w:World) (M:Machine) (b:Frame) (stk:FrameMode->List Frame) (fn:Func) (res:LRes) (e':Env):Prop:=
 ∃ τ a c w' todo,ER τ b e' a c/\Stp σ S w τ e'.s w'/\a.defers=[]/\match res with
   | .ret v=>∃ V,VR τ v V/\(results fn a.tmps).run P w'=.ok V w'/\Steps P M (lone {b.atR a todo with mode:=.returning} (stk c) w')
   | .pan v=>∃ V,VR τ v V/\Steps P M (lone {b.atR a todo with mode:=.panicking [{v:=V,recovered:=false}]} (stk c) w')
theorem LeftE.of {σ τ:Sg} {S f:Sto} {w w':World} {M e:Machine} {b:Frame} {stk:FrameMode->List Frame} {fn:Func} {res:LRes} {e':Env} (h:Steps P M e) (u:Stp σ S w τ f w') (r:LeftE P τ f w' e b stk fn res e'):LeftE P σ S w M b stk fn res e':=by
 obtain ⟨ρ,l,y,d,todo,o,p,q,k⟩:=r;refine ⟨ρ,l,y,d,todo,o,u.trans p,q,?_⟩
 cases res with
 | ret v=>obtain ⟨V,a,c,m⟩:=k;exact ⟨V,a,c,h.trans m⟩
 | pan v=>obtain ⟨V,a,c⟩:=k;exact ⟨V,a,h.trans c⟩
theorem LeftE.left {σ:Sg} {S:Sto} {w:World} {M:Machine} {b:Frame} {stk:FrameMode->List Frame} {fn:Func} {f:LRes} {e':Env} {s:Sto} {res:CRes} {q:ARec} (c:zY s (some (f,e'))=some (res,q)) (u:LeftE P σ S w M b stk fn f e'):Left P σ S w M b stk fn s res q:=by
 obtain ⟨ρ,h,p,a,todo,k,l,m,o⟩:=u
 cases f with
 | ret v=>
   simp only [zY,Option.some.injEq,Prod.mk.injEq]at c;obtain ⟨rfl,rfl⟩:=c;obtain ⟨V,d,e,r⟩:=o;exact ⟨ρ,h,p,a,e',todo,k,l,rfl,m,rfl,V,d,e,r⟩
 | pan v=>
   simp only [zY,Option.some.injEq,Prod.mk.injEq]at c;obtain ⟨rfl,rfl⟩:=c;obtain ⟨V,d,e⟩:=o;exact ⟨ρ,h,p,a,e',todo,k,l,rfl,m,rfl,V,d,e⟩
theorem nA {call:bR} (hD:XD P call) {fn:Func} {b:Frame} {stk:FrameMode->List Frame} {todo:List Item}:∀ (n:Nat) (mode:Option AV) (e:Env) (res:LRes) (Q:Env) (σ:Sg) (w:World) (a:Act) (m u:FrameMode),
 dleave P call fn n mode e=some (res,Q)->Rel σ e.s w->ER σ b e a m->UM σ mode u->LeftE P σ e.s w (lone {b.atR a todo with mode:=u} (stk m) w) b stk fn res Q:=by
 intro n
 induction n with
 | zero=>intro mode e res Q σ w a m u h;simp [dleave]at h
 | succ n ih=>
   intro mode e res Q σ w a m u h r G hu;have T:=G.df;simp only [dleave]at h;generalize ae:e.ds=D at h T;generalize H:a.defers=AD at T
   cases T with
   | nil=>
     simp only at h
     cases hu with
     | ret=>
       simp only at h;split at h
       ·rename_i v hv
        simp at h;obtain ⟨rfl,rfl⟩:=h;obtain ⟨V,e1,e2⟩:=vV r G.tm hv;exact ⟨σ,a,m,w,todo,G,Stp.refl r,H,V,e2,e1,.refl _ _⟩
       ·rename_i l ad hl
        simp at h;obtain ⟨rfl,rfl⟩:=h;obtain ⟨V,e1,e2⟩:=vV r G.tm hl;refine ⟨σ,a,m,w,todo,G,Stp.refl r,H,V,?_,e1,.refl _ _⟩;unfold pW at e2;split at e2
        ·rename_i v;exact absurd rfl (ad v)
        ·exact e2
       ·cases h
     | pan v V hv=>
       simp at h;obtain ⟨rfl,rfl⟩:=h;exact ⟨σ,a,m,w,todo,G,Stp.refl r,H,V,hv,.refl _ _⟩
   | cons d Dd ds L h1 h2=>
     cases h1 with
     | collected id B base sz J=>
       simp only at h;split at h
       ·rename_i l hg
        obtain ⟨B',base',sz',o,g1,g2,g3⟩:=r.obj id _ hg;have aa:σ id 0=some (B',base',sz'):=g1;rw [J]at aa
        obtain ⟨rfl,rfl,rfl⟩:B=B'/\base=base'/\sz=sz':=by simpa using aa
        cases g3 with
        | defsS _ Ls hl=>
          have R:=stp_put (w':=w.putObj B (.deferred none)) r hg g1 (y:=.defs none) rfl (World.putObj_heap_same (Array.getElem?_eq_some_iff.1 g2).1) .defsN (by simp) (fun b' ac=>zQ b' ac) rfl rfl rfl
          have q:ER σ b {e with ds:=l++ds,s:=e.s.put id (.defs none)} {a with defers:=Ls++L} m:=⟨G.tm,hl.append h2,G.rc,G.fn,G.ro⟩
          have:=ih mode _ res Q σ _ _ m u h R.rel q hu;refine this.of ?_ R;exact .one (EN (fr:={b.atR a todo with mode:=u}) hu.ne H (run_takeDeferred g2))
       ·cases h
     | call f F first cap args A C k1 k2 k3=>
       simp only at h
       cases Z:yE (.func f first cap) with
       | true=>rw [Z]at h;cases h
       | false=>
         rw [Z]at h;simp only [cond_false]at h
         have k:∀ {g:FuncId} {Y:Array Value} {M:Machine},(invoke (.fn F C) A).run P w=.ok (.enter g Y) w->Steps P (lone (Frame.enter P g Y .deferred) ({{b.atR a todo with defers:=L} with mode:=u}::stk m) w) M->Steps P (lone {b.atR a todo with mode:=u} (stk m) w) M:=fun O J=>
          .head (step_defer (fr:={b.atR a todo with mode:=u}) (d:={target:=.fn F C,args:=A}) hu.ne H rfl O) J
         cases hu with
         | ret=>
           simp only at h;split at h
           ·rename_i v E S
            obtain ⟨g,Y,O,J⟩:=hD σ e.s w f F first cap args C A _ _ _ _ S Z r k1 k2 k3 .quiet;obtain ⟨τ,w',m',U,X,N⟩:=J {b.atR a todo with defers:=L} (stk m);have c:=X.stp r
            have q:ER τ b {e with ds:=ds,s:=E.getD e.s} {a with defers:=L} m:=by
             have:=G.mono c.ext;exact ⟨this.tm,h2.mono c.ext,this.rc,this.fn,this.ro⟩
            have I:settle m'=.returning:=by cases U;rfl
            rw [I]at N;exact (ih none {e with ds:=ds,s:=E.getD e.s} res Q τ w' _ m .returning (by cases E<;>exact h) c.rel q .ret).of (k O N) c
           ·rename_i v E S
            obtain ⟨g,Y,O,J⟩:=hD σ e.s w f F first cap args C A _ _ _ _ S Z r k1 k2 k3 .quiet;obtain ⟨τ,V,w',m',q0,U,X,N⟩:=J {b.atR a todo with defers:=L} (stk m);have c:=X.stp r
            have q:ER τ b {e with ds:=ds,s:=E.getD e.s} {a with defers:=L} m:=by
             have:=G.mono c.ext;exact ⟨this.tm,h2.mono c.ext,this.rc,this.fn,this.ro⟩
            have I:raised m' [{v:=V,recovered:=false}]=.panicking [{v:=V,recovered:=false}]:=by cases U;rfl
            rw [I]at N;exact (ih (some v) {e with ds:=ds,s:=E.getD e.s} res Q τ w' _ m _ (by cases E<;>exact h) c.rel q (.pan v V q0)).of (k O N) c
           ·cases h
         | pan p V hV=>
           simp only at h;split at h
           ·rename_i v E v' S
            obtain ⟨g,Y,O,J⟩:=hD σ e.s w f F first cap args C A _ _ _ _ S Z r k1 k2 k3 (.pan p V hV);obtain ⟨τ,w',m',U,X,N⟩:=J {b.atR a todo with defers:=L} (stk m);have c:=X.stp r
            have q:ER τ b {e with ds:=ds,s:=E.getD e.s} {a with defers:=L} m:=by
             have:=G.mono c.ext;exact ⟨this.tm,h2.mono c.ext,this.rc,this.fn,this.ro⟩
            have I:settle m'=.returning:=by cases U;rfl
            rw [I]at N;exact (ih none {e with ds:=ds,s:=E.getD e.s} res Q τ w' _ m .returning (by cases E<;>exact h) c.rel q .ret).of (k O N) c
           ·rename_i v E p' S
            obtain ⟨g,Y,O,J⟩:=hD σ e.s w f F first cap args C A _ _ _ _ S Z r k1 k2 k3 (.pan p V hV);obtain ⟨τ,w',m',U,X,N⟩:=J {b.atR a todo with defers:=L} (stk m);have c:=X.stp r
            have q:ER τ b {e with ds:=ds,s:=E.getD e.s} {a with defers:=L} m:=by
             have:=G.mono c.ext;exact ⟨this.tm,h2.mono c.ext,this.rc,this.fn,this.ro⟩
            cases U with
            | pan _ V' ab=>
              exact (ih (some p') {e with ds:=ds,s:=E.getD e.s} res Q τ w' _ m _ (by cases E<;>exact h) c.rel q (.pan p' V' ab)).of (k O N) c
           ·cases h
theorem uO {s:Sto} {x:Option (LRes × Env)} {y:CRes × ARec} (h:zY s x=some y):∃ a e',x=some (a,e')/\zY s (some (a,e'))=some y:=by
 cases x with
 | none=>cases h
 | some x=>exact ⟨x.1,x.2,rfl,h⟩
theorem EO {σ:Sg} {as:List AV} {A:Array Value} (h:VRs σ as A.toList) (n:Nat):TmR σ (Nat.max as.length n) (Tr.leaf.lay 0 as) (A++Array.replicate (n-A.size) undef):=by
 have c:as.length=A.size:=by simpa using h.1
 refine ⟨by simp;rw [c];show _=max A.size n;omega,fun i v b=>?_⟩;rw [Tr.get_lay]at b;split at b
 ·rename_i d
  have a:i<A.size:=by omega
  refine ⟨by show i<max as.length n;omega,?_⟩;have:=h.2 i v A[i] (by simpa using b) (by simp [a])
  simpa [Array.getD_eq_getD_getElem?,Array.getElem?_append,a] using this
 ·simp [Tr.get]at b
theorem EP {call:bR} (I:sX P call) (H:XD P call) (d:∀ v args s r x,call v args s r=some x->∃ f a c,v=.func f a c) {n:Nat} {f:FuncId} {args:List AV} {s:Sto} {r M:ARec} {res:CRes} (b:qD P call n f args s r=some (res,M)):
 okFn P f=true/\∃ fn,P.funcs[f]?=some fn/\∀ {σ:Sg} {w:World} {A:Array Value} {kd:CallKind} {stk:FrameMode->List Frame} {m:FrameMode},Rel σ s w->VRs σ args A.toList->IG kd stk->RM σ kd r m->
  Left P σ {s with low:=s.n} w (lone (Frame.enter P f A kd) (stk m) w) {(default:Frame) with fn:=f,kind:=kd} stk fn s res M:=by
 unfold qD at b
 cases E:okFn P f with
 | false=>rw [E]at b;cases b
 | true=>
   rw [E]at b;simp only [cond_true]at b;refine ⟨rfl,?_⟩;split at b
   ·rename_i fn q
    split at b
    ·rename_i c Q
     refine ⟨fn,q,fun {σ w A kd stk m} h O l L=>?_⟩;have k:Rel σ {s with low:=s.n} w:=h.low rfl rfl
     have J:ER σ {(default:Frame) with fn:=f,kind:=kd} {nt:=Nat.max args.length fn.ntmps,ro:=none,fn:=f,t:=Tr.leaf.lay 0 args,ds:=[],s:={s with low:=s.n},r:=r} {tmps:=A++Array.replicate (fn.ntmps-A.size) undef,defers:=[]} m:=
      ⟨EO O _,.nil,L,rfl,rfl⟩
     have o:Frame.enter P f A kd=({(default:Frame) with fn:=f,kind:=kd}:Frame).atR {tmps:=A++Array.replicate (fn.ntmps-A.size) undef,defers:=[]} [.code c]:=by
      simp [Frame.enter,Frame.atR,q,Q];rfl
     rw [o];split at b
     ·rename_i e C
      obtain ⟨τ,u,G,w',y,p,B⟩:=iH I d n c σ w _ stk [] _ _ m _ _ l C k J;obtain ⟨F,e',D,q⟩:=uO b;exact ((nA H (todo:=[]) n none e F e' τ w' u G .returning D p.rel y .ret).of (Steps.trans B (.one (stepR_end rfl))) p).left q
     ·rename_i e C
      obtain ⟨τ,u,G,w',y,p,R,B⟩:=iH I d n c σ w _ stk [] _ _ m _ _ l C k J;obtain ⟨F,e',D,q⟩:=uO b;exact ((nA H n none e F e' τ w' u G .returning D p.rel y .ret).of (Steps.trans B (.one (stepR_ret rfl))) p).left q
     ·rename_i v e C
      obtain ⟨τ,u,G,w',y,p,V,todo,N,B⟩:=iH I d n c σ w _ stk [] _ _ m _ _ l C k J;obtain ⟨F,e',D,q⟩:=uO b;exact ((nA H n (some v) e F e' τ w' u G _ D p.rel y (.pan v V N)).of B p).left q
     ·cases b
    ·cases b
   ·cases b
theorem pX {σ τ:Sg} {s:Sto} {w w':World} {e':Env} {v:AV} (h:Rel σ s w) (a:Stp σ {s with low:=s.n} w τ e'.s w'):
 ∃ ρ,CStp σ s w ρ (fU s v e') w'/\(∀ V,VR τ v V->VR ρ v V)/\(∀ k m,RM τ k e'.r m->RM ρ k e'.r m):=by
 unfold fU
 cases u:Nat.ble s.n e'.s.low&&(v.under s.n 100&&KX s.n e'.r) with
 | true=>
   simp only [Bool.and_eq_true,Nat.ble_eq]at u;obtain ⟨B,F,q⟩:=u
   have f:(τ.cut s.n).s=σ.s:=by
    funext id g
    simp only [Sg.cut];split
    ·rename_i c
     exact (a.keep id c (by omega)).2.1 g
    ·rename_i c
     cases E:σ id g with
     | none=>rfl
     | some y=>exact absurd (h.bnd id g y E) c
   refine ⟨τ.cut s.n,⟨⟨a.size,fun b D=>?_,a.os,a.out,a.tape⟩,⟨fun id g x G=>by rw [f];exact G,a.ext.m⟩,f,fun b off V e=>?_⟩,fun V e=>VR.cut _ _ _ F e,fun k m C=>?_⟩
   ·by_cases A:Has σ s b
    ·obtain ⟨id,x,base,sz,d,l⟩:=A
     have c:=Sto.get_lt d;exact (a.keep id c (by omega)).2.2 x b base sz d l
    ·exact a.frame b D A
   ·have o:=a.rel.mu b off V e
    rcases a.mnew b off V e with d | ⟨id,x,base,sz,d,l⟩ | d
    ·exact .inl d
    ·exfalso
     have c:id<s.n:=Sto.get_lt d;obtain ⟨k1,k2,_⟩:=a.keep id c (by omega);exact o.2 ⟨id,x,base,sz,by rw [k1];exact d,by rw [k2];exact l⟩
    ·exact .inr ⟨d,o.1⟩
   ·generalize e'.r=r at C q
    cases C with
    | normal m=>exact .normal m
    | quiet=>exact .quiet
    | pan p V e=>exact .pan p V (VR.cut _ _ _ q e)
    | recd p V e=>exact .recd p V (VR.cut _ _ _ q e)
 | false=>
   refine ⟨τ,?_,fun V h=>h,fun k m h=>h⟩;show Stp σ s w τ {e'.s with low:=Nat.min s.low e'.s.low} w';exact ⟨a.rel.low rfl rfl,a.ext,a.size,a.frame,a.own,a.sn,Nat.min_le_left _ _,fun id d l=>a.keep id d (Nat.lt_of_lt_of_le l (Nat.min_le_right _ _)),a.os,a.out,a.tape,a.hole,a.mnew⟩
end
end Go.Abs
