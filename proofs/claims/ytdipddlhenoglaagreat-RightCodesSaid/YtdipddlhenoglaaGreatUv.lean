/-
  The abstract machine: ranges over functions, code.
-/
import Derived.Test.YtdipddlhenoglaaGreatUt
import Derived.RangeFuncRecord
import Derived.RangeFuncIn
import Derived.Defers
import Derived.Laws.Sem
set_option linter.unusedVariables false
set_option linter.unusedSimpArgs false
namespace Go.Abs
section
variable {P:Program}
theorem VP {b:Frame} {a:Act} {k:List Item} {cs:List Frame} {w m:World} {g:Operand} {ps:Array Tmp} {c f:Code} {l:Nat} {mark:List Deferred} {d:Deferred} {u:Next} {fr:Frame}
 (r:(Instr.enterLoop b.fn a.tmps ps c f b.roundOf).run P w=.ok (l,mark) m)
 (q:(resolve a.eval (rangeCall g l) 0).run P m=.ok d m) (h:(invoke d.target d.args).run P m=.ok u m) (v:NH P u fr):
 step P (lone (b.atR a (.code (.rangeFunc g ps c f)::k)) cs w)=.next (lone fr (b.atR {a with defers:=mark++a.defers} (.inRangeFunc l::k)::cs) m):=
 step_lone_go (by
  have o:=Frame.eval_atR b {a with defers:=mark++a.defers} (.inRangeFunc l::k);simp only [Frame.atR]at o;have e:Sem.run P (resolve ({tmps:=a.tmps,defers:=mark++a.defers}:Act).eval {callee:=.value g,args:=#[.const (.func (.yield l) #[] #[])],argTypes:=#[]} 0) m=.ok d m:=q
  rcases v with ⟨C,A,rfl,rfl⟩ | ⟨D,B,E,y,b',rfl,rfl⟩
  ·simp [stepG,stepG.exec,Frame.atR,Sem.runT_eq,r,GStep.bare_after,stepG.apply,o,Sem.run_bind,e,h,Result.andThen]
  ·simp [stepG,stepG.exec,Frame.atR,Sem.runT_eq,r,GStep.bare_after,stepG.apply,o,Sem.run_bind,e,h,Result.andThen])
theorem aCx {σ:Sg} {id g a b:Nat} {x:Nat × Nat × Nat} (h:a≠id):σ.upd id g x a b=σ a b:=by
 simp only [Sg.upd];rw [if_neg (fun c=>h c.1)]
theorem AN {w:World} {L:Nat} {o:Obj} (b:Nat) (h:b≠L):(w.putObj L o).heap[b]?=w.heap[b]?:=World.putObj_heap_other h
theorem RC {b:Frame} {stk:FrameMode->List Frame} {k:List Item} {σ τ:Sg} {S s:Sto} {w w':World} {e:Env} {ds:List ADef} {h L:Nat} {base sz:Nat} {a:Act} {m:FrameMode} {ex:Ex} {e':Env} {M:Machine}
 (l:dB e ds h s=some (ex,e')) (u:Stp σ S w τ s w') (he:ER τ b {e with ds:=ds,s:=s} a m) (hL:τ h 0=some (L,base,sz)) (hs:Steps P M (lone (b.atR a (.endRangeFunc L::k)) (stk m) w')):
 COut P σ S w M b stk k ex e':=by
 unfold dB at l;split at l
 ·rename_i R c fn Q t ps E F d O
  obtain ⟨B,base',sz',o,J,N,Z⟩:=u.rel.obj h _ O;have v:τ h 0=some (B,base',sz'):=J;rw [hL]at v
  obtain ⟨rfl,rfl,rfl⟩:L=B/\base=base'/\sz=sz':=by simpa using v
  cases Z with
  | loop _ _ _ _ _ _ _ _ _ T PS db G U V X Y=>
    have A:R≠.busy:=by rintro rfl;simp at l
    have D:=run_endLoop (P:=P) N A
    have C:=stp_put (w':=w'.putObj L (.loop {state:=.exhausted,pending:=c,fn:=fn,tmps:=T,params:=PS,assign:=E,body:=F,defers:=db})) u.rel O J (y:=.loop .exhausted c fn Q t ps E F d) rfl
     (World.putObj_heap_same (Array.getElem?_eq_some_iff.1 N).1) (.loop _ _ _ _ _ _ _ _ _ _ _ _ _ _ V X Y) (by simp) (fun b' H=>AN b' H) rfl rfl rfl
    have f:=u.trans C;have q:=hs.trans (.one (stepR_endRangeFunc (k:=k) D));have r:=he.sto (s.put h (.loop .exhausted c fn Q t ps E F d))
    cases R with
    | busy=>exact absurd rfl A
    | _=>
      simp only at l
      cases c with
      | none=>
        simp at l;obtain ⟨rfl,rfl⟩:=l;exact ⟨τ,a,m,_,r,f,q⟩
      | some j=>
        cases j<;>simp at l
        ·rename_i id
         obtain ⟨rfl,rfl⟩:=l;refine ⟨τ,a,m,_,r,f,fun k' I=>q.trans (.one (stepR_exit I)),fun hk=>⟨k,hk,q⟩⟩
        ·obtain ⟨rfl,rfl⟩:=l
         exact ⟨τ,a,m,_,r,f,k,q⟩
 ·cases l
theorem FX {call:bX} (O:tZ P call) (I:∀ v args s r x,call v args s r=some x->∃ f a c,v=.func f a c) {b:Frame} {stk:FrameMode->List Frame} {k:List Item} {σ σ1:Sg} {w q:World} {u:Sto} {e:Env} {a:Act} {m:FrameMode} {ex:Ex} {e':Env}
 {f:Operand} {ps:Array Tmp} {h body:Code} {d db A aa:Nat} {ds:List ADef} {mark:List Deferred} (h1:Stp σ e.s w σ1 u q) (he:ER σ b e a m) (ac:σ1 d 0=some (db,A,aa)) (ad:DefsR σ1 ds (mark++a.defers))
 (ae:(Instr.enterLoop b.fn a.tmps ps h body b.roundOf).run P w=.ok (q.heap.size,mark) (q.alloc (.loop {state:=.ready,pending:=none,fn:=b.fn,tmps:=a.tmps,params:=ps,assign:=h,body:=body,defers:=db})))
 (C:(match call (e.eval f) [.func (.yield u.n) [] []] (u.push (.loop .ready none e.fn e.nt e.t ps.toList h body d)) .no with
   | some (.ret _ l,_)=>dB e ds u.n (match l with | some s=>s | none=>u.push (.loop .ready none e.fn e.nt e.t ps.toList h body d))
   | some (.pan v l,_)=>some (.panic v,{e with s:=(match l with | some s=>s | none=>u.push (.loop .ready none e.fn e.nt e.t ps.toList h body d)),ds:=ds})
   | none=>none)=some (ex,e')):
 COut P σ e.s w (lone (b.atR a (.code (.rangeFunc f ps h body)::k)) (stk m) w) b stk k ex e':=by
 have ak:d<u.n:=h1.rel.bnd _ _ _ ac
 have B:=uF (x:=.loop .ready none e.fn e.nt e.t ps.toList h body d) (o:=.loop {state:=.ready,pending:=none,fn:=b.fn,tmps:=a.tmps,params:=ps,assign:=h,body:=body,defers:=db}) (base:=0) (sz:=0) h1.rel rfl
  (by
    rw [he.fn];refine .loop _ _ _ _ _ _ _ _ _ _ _ db A aa ?_ rfl ?_
    ·refine he.tm.mono (Sg.le_trans h1.ext (Sg.le_upd _ ?_))
     cases hs:σ1 u.n 0 with
     | none=>rfl
     | some y=>exact absurd (h1.rel.bnd _ _ _ hs) (Nat.lt_irrefl _)
    ·rw [aCx (by omega)];exact ac)
 generalize al:u.push (.loop .ready none e.fn e.nt e.t ps.toList h body d)=L at C B;generalize am:q.alloc (.loop {state:=.ready,pending:=none,fn:=b.fn,tmps:=a.tmps,params:=ps,assign:=h,body:=body,defers:=db})=Z at ae B;generalize aj:σ1.upd u.n 0 (q.heap.size,0,0)=σ2 at B
 have hL:σ2 u.n 0=some (q.heap.size,0,0):=by rw [<-aj];exact Sg.upd_same _ _ _ _
 have M:=h1.trans B;have R:=bA he.tm f
 have ai:∃ g x y,e.eval f=.func g x y:=by
  split at C
  ·rename_i G;exact I _ _ _ _ _ G
  ·rename_i G;exact I _ _ _ _ _ G
  ·cases C
 obtain ⟨g,x,y,hg⟩:=ai;rw [hg]at R C;generalize hq:a.eval f=FV at R
 cases R with
 | func _ F _ _ X Y hF k1 k2 k3 k4=>
   have S:=M.ext
   have ab:VRs σ2 y Y.toList:=⟨by simpa using k2,fun i x X e1 e2=>(k4 i x X e1 (by simpa using e2)).mono S⟩
   have N:VRs σ2 (x++[AV.func (.yield u.n) [] []]) (X++#[Value.func (.yield q.heap.size) #[] #[]]).toList:=by
    rw [Array.toList_append];exact VRs.append ⟨by simpa using k1,fun i x X e1 e2=>(k3 i x X e1 (by simpa using e2)).mono S⟩ (VRs.cons (VR.func _ _ _ _ _ _ (.yield _ _ _ _ hL) rfl rfl (by simp) (by simp)) (VRs.nil _))
   have ag:FnR σ2 g F:=hF.mono S
   have J:∀ (res:CRes) (rr:ARec),call (.func g x y) [.func (.yield u.n) [] []] L .no=some (res,rr)->∃ fr,Steps P (lone (b.atR a (.code (.rangeFunc f ps h body)::k)) (stk m) w) (lone fr (b.atR {a with defers:=mark++a.defers} (.inRangeFunc q.heap.size::k)::stk m) Z)/\match res with
    | .ret v l=>∃ τ V w',VR τ v V/\CStp σ2 L Z τ l w'/\Steps P (lone fr (b.atR {a with defers:=mark++a.defers} (.inRangeFunc q.heap.size::k)::stk m) Z) (lone (b.atR {a with defers:=mark++a.defers} (.endRangeFunc q.heap.size::k)) (stk m) w')
    | .pan v l=>∃ τ V w',VR τ v V/\CStp σ2 L Z τ l w'/\Steps P (lone fr (b.atR {a with defers:=mark++a.defers} (.inRangeFunc q.heap.size::k)::stk m) Z) (lone {b.atR {a with defers:=mark++a.defers} (.inRangeFunc q.heap.size::k) with mode:=.panicking [{v:=V,recovered:=false}]} (stk m) w'):=by
    intro res rr G;obtain ⟨nx,fr,p1,p2,p3⟩:=O σ2 L Z g F x y [.func (.yield u.n) [] []] Y _ res rr G B.rel ag ab N;refine ⟨fr,.one (VP ae (d:={target:=.fn F Y,args:=X++#[.func (.yield q.heap.size) #[] #[]]}) ?_ p1 p2),?_⟩
    ·have ah:a.eval (.const (.func (.yield q.heap.size) #[] #[]))=.func (.yield q.heap.size) #[] #[]:=rfl
     simp [resolve,hq,Deferred.ofValue,ah]
    ·have:=p3 (b.atR {a with defers:=mark++a.defers} (.inRangeFunc q.heap.size::k)) (stk m)
     cases res with
     | ret v l=>
       obtain ⟨τ,V,w',U,H,T⟩:=this;exact ⟨τ,V,w',U,H,by rw [<-finish_atR_inRangeFunc _ V];exact T⟩
     | pan v l=>
       obtain ⟨τ,V,w',U,H,T⟩:=this;exact ⟨τ,V,w',U,H,by rw [<-Frame.raise_atR];exact T⟩
   have af:∀ (l:Option Sto),(match l with | some s=>s | none=>L)=l.getD L:=fun l=>by cases l<;>rfl
   split at C
   ·rename_i v l rr G
    obtain ⟨fr,q0,τ,V,w',U,H,T⟩:=J _ _ G;have D:=M.trans (H.stp B.rel);rw [af]at C;have hτ:=(H.stp B.rel).ext
    have Q:ER τ b {e with ds:=ds,s:=l.getD L} {a with defers:=mark++a.defers} m:=by
     have E:=he.mono D.ext;exact ⟨E.tm,ad.mono (Sg.le_trans B.ext hτ),E.rc,E.fn,E.ro⟩
    exact RC C D Q (hτ _ _ _ hL) (q0.trans T)
   ·rename_i v l rr G
    obtain ⟨fr,q0,τ,V,w',U,H,T⟩:=J _ _ G;have D:=M.trans (H.stp B.rel);rw [af]at C;simp at C;obtain ⟨rfl,rfl⟩:=C;have hτ:=(H.stp B.rel).ext
    have Q:ER τ b {e with s:=l.getD L,ds:=ds} {a with defers:=mark++a.defers} m:=by
     have E:=he.mono D.ext;exact ⟨E.tm,ad.mono (Sg.le_trans B.ext hτ),E.rc,E.fn,E.ro⟩
    exact ⟨τ,_,m,w',Q,D,V,_,U,q0.trans T⟩
   ·cases C
theorem aCy {call:bX} (q:tZ P call) (C:∀ v args s r x,call v args s r=some x->∃ f a c,v=.func f a c) {f:Operand} {ps:Array Tmp} {E A:Code}:VV P (xC call f ps E A) (.rangeFunc f ps E A):=by
 intro σ w b stk k e a m ex e' O u h D;unfold xC at u
 cases y:e.ro with
 | none=>
   have G:b.roundOf=none:=by have:=D.ro;rw [y]at this;exact this
   rw [y]at u;simp only at u;rw [<-y]at u;have N:=uF (x:=.defs (some [])) (o:=.deferred (some [])) (base:=0) (sz:=0) h rfl (.defsS _ _ .nil);have H:(σ.upd e.s.n 0 (w.heap.size,0,0)) e.s.n 0=some (w.heap.size,0,0):=Sg.upd_same _ _ _ _;refine FX q C (mark:=[{target:=.collected w.heap.size,args:=#[]}]) (d:=e.s.n) (db:=w.heap.size) N D H (.cons _ _ _ _ (.collected _ _ _ _ H) (D.df.mono N.ext)) ?_ u;rw [G,run_enterLoop_outer];simp [World.size_alloc]
 | some l=>
   have M:=D.ro;rw [y]at M u;simp only at M u;obtain ⟨L,base,sz,X,Z,hk⟩:=M;split at u
   ·cases u
   ·rename_i x s1 d ds I
    split at I
    ·rename_i st pe fn nt t aa a' b' Q Y
     simp at I;obtain ⟨rfl,rfl,rfl⟩:=I;obtain ⟨B,base',sz',o,S,U,V⟩:=h.obj l _ Y;have F:σ l 0=some (B,base',sz'):=S;rw [Z]at F
     obtain ⟨rfl,rfl,rfl⟩:L=B/\base=base'/\sz=sz':=by simpa using F
     cases V with
     | loop _ _ _ _ _ _ _ _ _ T PS db J R u1 u2 u3=>
       rw [<-y]at u;refine FX q C (mark:=[]) (d:=Q) (db:=db) (Stp.refl h) D u3 (by simpa using D.df) ?_ u;rw [X];unfold Instr.enterLoop;simp [Sem.run_bind,run_getLoop U,Result.andThen]
    ·cases I
theorem RD {b:Frame} {a:Act} {k:List Item} {cs:List Frame} {w:World} {c:Code}:step P (lone (b.atR a (.code (.scope c)::k)) cs w)=.next (lone (b.atR a (.code c::.inScope c::k)) cs w):=
 step_lone_go (by simp [stepG,stepG.exec,Frame.atR])
theorem HN {b:Frame} {a:Act} {k:List Item} {cs:List Frame} {w:World} {c:Code}:step P (lone (b.atR a (.inScope c::k)) cs w)=.next (lone (b.atR a k) cs w):=
 step_lone_go (by simp [stepG,stepG.exec,Frame.atR])
theorem iF {call:bX} (u:tZ P call) (C:∀ v args s r x,call v args s r=some x->∃ f a c,v=.func f a c) (n:Nat):∀ c:Code,VV P (bE P call n c) c:=by
 intro c
 induction c with
 | skip=>
   intro σ w b stk k e a m ex e' d o h q;simp [bE]at o;obtain ⟨rfl,rfl⟩:=o;exact ⟨σ,a,m,w,q,Stp.refl h,.one stepR_skip⟩
 | label l=>
   intro σ w b stk k e a m ex e' d o h q;simp [bE]at o;obtain ⟨rfl,rfl⟩:=o;exact ⟨σ,a,m,w,q,Stp.refl h,.one stepR_label⟩
 | region id ops M=>
   intro σ w b stk k e a m ex e' d o h q;simp only [bE,oV]at o
   cases M with
   | true=>exact aJt u C o h q
   | false=>
     have:=aOl u C d (OPS:=ops) (k:=k) ops.toList 0 σ w e a m ex e' (fun j=>by simp) o h q;refine COut.of_steps (.one stepR_region) ?_;rw [List.range_eq_range']
     simpa using this
 | seq x y G J=>
   intro σ w b stk k e a m ex e' d o h q;simp only [bE]at o;split at o
   ·rename_i Z R
    obtain ⟨τ,D,F,w',E,B,A⟩:=G σ w b stk (.code y::k) e a m _ _ d R h q;have:=J τ w' b stk k Z D F ex e' d o B.rel E;exact (this.of_steps (Steps.trans (.one stepR_seq) A)).after B
   ·rename_i R
    obtain ⟨τ,D,F,w',E,B,A⟩:=G σ w b stk (.code y::k) e a m ex e' d o h q
    have S:ex≠.normal:=by rintro rfl;exact R e' o
    exact ⟨τ,D,F,w',E,B,(Gone.pass (x:=.code y) (.inl rfl) S A).of_steps (.one stepR_seq)⟩
 | cond c x y G J=>
   intro σ w b stk k e a m ex e' d o h q;simp only [bE]at o;have T:=bA q.tm c;split at o
   ·rename_i N
    rw [N]at T;have:=stepR_cond (P:=P) (b:=b) (k:=k) (cs:=stk m) (w:=w) (x:=x) (y:=y) (yT T);simp only [if_true]at this;exact (G σ w b stk k e a m ex e' d o h q).of_steps (.one this)
   ·rename_i N
    rw [N]at T;have:=stepR_cond (P:=P) (b:=b) (k:=k) (cs:=stk m) (w:=w) (x:=x) (y:=y) (yT T);simp only [Bool.false_eq_true,if_false]at this;exact (J σ w b stk k e a m ex e' d o h q).of_steps (.one this)
   ·cases o
 | block id c L=>
   intro σ w b stk k e a m ex e' d o h q;simp only [bE]at o;split at o
   ·rename_i i Z N
    obtain ⟨τ,D,F,w',E,B,A⟩:=L σ w b stk (.inBlock id::k) e a m _ _ d N h q
    cases Q:Nat.beq i id with
    | true=>
      rw [Q]at o;simp at o;obtain ⟨rfl,rfl⟩:=o
      have H:i=id:=by simpa using Q
      subst H;exact ⟨τ,D,F,w',E,B,Steps.trans (.one stepR_block) (A.1 k (by simp [exitTo]))⟩
    | false=>
      rw [Q]at o;simp at o;obtain ⟨rfl,rfl⟩:=o
      have H:i≠id:=by
       intro V;subst V;rw [Nat.beq_refl]at Q;cases Q
      have O:exitTo i (.inBlock id::k)=exitTo i k:=by
       simp [exitTo,Ne.symm H]
      refine ⟨τ,D,F,w',E,B,Gone.of_steps (x:=.exit i) (.one stepR_block) ⟨fun k' I=>A.1 k' (by rw [O];exact I),fun X=>A.2 (by rw [O];exact X)⟩⟩
   ·rename_i R
    obtain ⟨τ,D,F,w',E,B,A⟩:=L σ w b stk (.inBlock id::k) e a m ex e' d o h q;refine ⟨τ,D,F,w',E,B,Gone.of_steps (.one stepR_block) ?_⟩
    cases ex with
    | normal=>exact Steps.trans A (.one stepR_inBlock)
    | exit i=>exact absurd o (R i e')
    | goto l=>trivial
    | ret=>exact A
    | panic v=>exact A
 | loop c L=>
   intro σ w b stk k e a m ex e' d o h q;simp only [bE]at o;exact (aDf L n σ w b stk k e a m ex e' d o h q).of_steps (.one stepR_loop)
 | scope c L=>
   intro σ w b stk k e a m ex e' d o h q;simp only [bE]at o
   have U:bE P call n c e=some (ex,e'):=by
    split at o
    ·cases o
    ·exact o
   obtain ⟨τ,D,F,w',E,B,A⟩:=L σ w b stk (.inScope c::k) e a m ex e' d U h q;refine ⟨τ,D,F,w',E,B,Gone.of_steps (.one RD) ?_⟩;by_cases S:ex=.normal
   ·subst S;exact Steps.trans A (.one HN)
   ·exact Gone.pass (.inr ⟨_,rfl⟩) S A
 | exit id=>
   intro σ w b stk k e a m ex e' d o h q;simp [bE]at o;obtain ⟨rfl,rfl⟩:=o;exact ⟨σ,a,m,w,q,Stp.refl h,fun k' I=>.one (stepR_exit I),fun X=>⟨k,X,.refl _ _⟩⟩
 | goto l=>
   intro σ w b stk k e a m ex e' d o h q;simp [bE]at o
 | ret=>
   intro σ w b stk k e a m ex e' d o h q;simp [bE]at o;obtain ⟨rfl,rfl⟩:=o;exact ⟨σ,a,m,w,q,Stp.refl h,k,.refl _ _⟩
 | rangeFunc f ps aa Y _ _=>
   intro σ w b stk k e a m ex e' d o h q;simp only [bE]at o;exact aCy u C σ w b stk k e a m ex e' d o h q
 | refuse s=>
   intro σ w b stk k e a m ex e' d o h q;simp [bE]at o
end
end Go.Abs
/-
 The abstract machine: calls.
-/
namespace Go.Abs
section
variable {P:Program}
def ZA (T:Array Value) (x:ResultVar):Sem Value:=match x with
 | .tmp t=>pure (T.getD t undef)
 | .cell a t=>do loadVar t (<-asAddr (T.getD a undef))
theorem VQ (fn:Func) (T:Array Value):results fn T=(do let vs <-fn.results.mapM (ZA T);pure (if h:vs.size=1 then vs[0] else .tuple vs)):=rfl
theorem RE {σ:Sg} {w:World} {e:Env} {T:Array Value} (h:Rel σ e.s w) (ht:TmR σ e.nt e.t T):∀ (l:List ResultVar) (r:List AV),aZ P e l=some r->∃ R:List Value,VRs σ r R/\(l.mapM (ZA T)).run P w=.ok R w:=by
 have hget:∀ t,VR σ (match e.t.get t with | some v=>v | none=>.top) (T.getD t undef):=by
  intro t
  cases hg:e.t.get t with
  | none=>exact .top _
  | some v=>exact (ht.2 t v hg).2
 intro l
 induction l with
 | nil=>intro r hr;simp [aZ]at hr;subst hr;exact ⟨[],VRs.nil _,by simp⟩
 | cons x l ih=>
   intro r hr
   cases x with
   | tmp t=>
     simp only [aZ]at hr;split at hr
     ·rename_i r' hr'
      simp only [Option.some.injEq]at hr;subst hr;obtain ⟨R,h1,h2⟩:=ih r' hr';refine ⟨T.getD t undef::R,VRs.cons (hget t) h1,?_⟩;rw [List.mapM_cons];simp [ZA,h2]
     ·cases hr
   | cell a t=>
     simp only [aZ]at hr;split at hr
     ·rename_i v hv
      split at hr
      ·rename_i r' hr'
       simp only [Option.some.injEq]at hr;subst hr;obtain ⟨R,h1,h2⟩:=ih r' hr';obtain ⟨ad,V,e1,e2,e3⟩:=yY h hv (hget a);refine ⟨V::R,VRs.cons e3 h1,?_⟩;rw [List.mapM_cons]
       have e1':(T[a]?).getD undef=.pointer (some ad):=by rw [<-e1,Array.getD_eq_getD_getElem?]
       simp [ZA,Sem.run_bind,e1',asAddr,e2,h2]
      ·cases hr
     ·cases hr
def kH:List AV->AV
 | [v]=>v
 | l=>.tuple l
theorem wZ {σ:Sg} {w:World} {e:Env} {T:Array Value} (h:Rel σ e.s w) (o:TmR σ e.nt e.t T) {fn:Func} {r:List AV} (m:aZ P e fn.results.toList=some r):∃ V,(results fn T).run P w=.ok V w/\VR σ (kH r) V:=by
 obtain ⟨R,b,k⟩:=RE h o _ _ m
 have a:(results fn T).run P w=.ok (if h:R.toArray.size=1 then R.toArray[0] else .tuple R.toArray) w:=by
  rw [VQ,Sem.run_bind,Array.mapM_eq_mapM_toList,map_eq_pure_bind,Sem.run_bind,k];rfl
 refine ⟨_,a,?_⟩;have f:=b.1;unfold kH;split
 ·rename_i v
  have l:R.length=1:=by simpa using f.symm
  obtain ⟨V,rfl⟩:=List.length_eq_one_iff.1 l;simp;exact b.2 0 v V rfl rfl
 ·rename_i c
  rw [dif_neg]
  ·exact VR.tuple_iff.2 ⟨_,rfl,by simpa using b⟩
  ·intro d
   have:r.length=1:=by rw [f];simpa using d
   obtain ⟨v,q⟩:=List.length_eq_one_iff.1 this;exact c v q
theorem FY {fr:Frame} {cs:List Frame} {w w':World} {B:Nat} {as:Array Value} {c b:List Deferred} (f:fr.mode≠.run) (d:fr.defers = {target:=.collected B,args:=as}::c)
 (e:(Instr.takeDeferred B).run P w=.ok b w'):step P (lone fr cs w)=.next (lone {fr with defers:=b++c} cs w'):=by
 refine step_lone_go ?_
 cases a:fr.mode with
 | run=>exact absurd a f
 | returning=>simp [stepG,unwind,a,d,Sem.runT_eq,e,GStep.bare_after]
 | panicking chain=>simp [stepG,unwind,a,d,Sem.runT_eq,e,GStep.bare_after]
inductive UM (σ:Sg):Option AV->FrameMode->Prop
 | ret:UM σ none .returning
 | pan (v:AV) (V:Value):VR σ v V->UM σ (some v) (.panicking [{v:=V,recovered:=false}])
theorem UM.ne {σ:Sg} {o:Option AV} {u:FrameMode} (a:UM σ o u):u≠.run:=by cases a<;>simp
def aVf (P:Program) (σ:Sg) (S:Sto) (w:World) (M:Machine) (b:Frame) (stk:FrameMode->List Frame) (fn:Func) (s:Sto) (res:CRes) (e:ARec):Prop:=
 ∃ τ a c w' e' todo,ER τ b e' a c/\Stp σ S w τ e'.s w'/\e=e'.r/\a.defers=[]/\match res with
   | .ret v d=>d=cO s v e'/\∃ V,VR τ v V/\(results fn a.tmps).run P w'=.ok V w'/\Steps P M (lone {b.atR a todo with mode:=.returning} (stk c) w')
   | .pan v d=>d=cO s v e'/\∃ V,VR τ v V/\Steps P M (lone {b.atR a todo with mode:=.panicking [{v:=V,recovered:=false}]} (stk c) w')
def LeftE (P:Program) (σ:Sg) (S:Sto) (w:World) (M:Machine) (b:Frame) (stk:FrameMode->List Frame) (fn:Func) (res:LRes) (e':Env):Prop:=
 ∃ τ a c w' todo,ER τ b e' a c/\Stp σ S w τ e'.s w'/\a.defers=[]/\match res with
   | .ret v=>∃ V,VR τ v V/\(results fn a.tmps).run P w'=.ok V w'/\Steps P M (lone {b.atR a todo with mode:=.returning} (stk c) w')
   | .pan v=>∃ V,VR τ v V/\Steps P M (lone {b.atR a todo with mode:=.panicking [{v:=V,recovered:=false}]} (stk c) w')
theorem LeftE.of {σ τ:Sg} {S f:Sto} {w w':World} {M e:Machine} {b:Frame} {stk:FrameMode->List Frame} {fn:Func} {res:LRes} {e':Env} (h:Steps P M e) (y:Stp σ S w τ f w') (u:LeftE P τ f w' e b stk fn res e'):LeftE P σ S w M b stk fn res e':=by
 obtain ⟨ρ,l,A,d,todo,o,q,r,k⟩:=u;refine ⟨ρ,l,A,d,todo,o,y.trans q,r,?_⟩
 cases res with
 | ret v=>obtain ⟨V,a,c,m⟩:=k;exact ⟨V,a,c,h.trans m⟩
 | pan v=>obtain ⟨V,a,c⟩:=k;exact ⟨V,a,h.trans c⟩
theorem LeftE.left {σ:Sg} {S:Sto} {w:World} {M:Machine} {b:Frame} {stk:FrameMode->List Frame} {fn:Func} {f:LRes} {e':Env} {s:Sto} {res:CRes} {r:ARec} (c:vL s (some (f,e'))=some (res,r)) (y:LeftE P σ S w M b stk fn f e'):aVf P σ S w M b stk fn s res r:=by
 obtain ⟨ρ,h,q,a,todo,k,l,m,o⟩:=y
 cases f with
 | ret v=>
   simp only [vL,Option.some.injEq,Prod.mk.injEq]at c;obtain ⟨rfl,rfl⟩:=c;obtain ⟨V,d,e,u⟩:=o;exact ⟨ρ,h,q,a,e',todo,k,l,rfl,m,rfl,V,d,e,u⟩
 | pan v=>
   simp only [vL,Option.some.injEq,Prod.mk.injEq]at c;obtain ⟨rfl,rfl⟩:=c;obtain ⟨V,d,e⟩:=o;exact ⟨ρ,h,q,a,e',todo,k,l,rfl,m,rfl,V,d,e⟩
theorem nF {call:bX} (hD:ZD P call) {fn:Func} {b:Frame} {stk:FrameMode->List Frame} {todo:List Item}:∀ (n:Nat) (mode:Option AV) (e:Env) (res:LRes) (Q:Env) (σ:Sg) (w:World) (a:Act) (m u:FrameMode),
 dleave P call fn n mode e=some (res,Q)->Rel σ e.s w->ER σ b e a m->UM σ mode u->LeftE P σ e.s w (lone {b.atR a todo with mode:=u} (stk m) w) b stk fn res Q:=by
 intro n
 induction n with
 | zero=>intro mode e res Q σ w a m u h;simp [dleave]at h
 | succ n ih=>
   intro mode e res Q σ w a m u h r G hu;have T:=G.df;simp only [dleave]at h;generalize ae:e.ds=D at h T;generalize H:a.defers=AD at T
   cases T with
   | nil=>
     simp only at h
     cases hu with
     | ret=>
       simp only at h;split at h
       ·rename_i v hv
        simp at h;obtain ⟨rfl,rfl⟩:=h;obtain ⟨V,e1,e2⟩:=wZ r G.tm hv;exact ⟨σ,a,m,w,todo,G,Stp.refl r,H,V,e2,e1,.refl _ _⟩
       ·rename_i l ad hl
        simp at h;obtain ⟨rfl,rfl⟩:=h;obtain ⟨V,e1,e2⟩:=wZ r G.tm hl;refine ⟨σ,a,m,w,todo,G,Stp.refl r,H,V,?_,e1,.refl _ _⟩;unfold kH at e2;split at e2
        ·rename_i v;exact absurd rfl (ad v)
        ·exact e2
       ·cases h
     | pan v V hv=>
       simp at h;obtain ⟨rfl,rfl⟩:=h;exact ⟨σ,a,m,w,todo,G,Stp.refl r,H,V,hv,.refl _ _⟩
   | cons d Dd ds L h1 h2=>
     cases h1 with
     | collected id B base sz J=>
       simp only at h;split at h
       ·rename_i l hg
        obtain ⟨B',base',sz',o,g1,g2,g3⟩:=r.obj id _ hg;have aa:σ id 0=some (B',base',sz'):=g1;rw [J]at aa
        obtain ⟨rfl,rfl,rfl⟩:B=B'/\base=base'/\sz=sz':=by simpa using aa
        cases g3 with
        | defsS _ Ls hl=>
          have R:=stp_put (w':=w.putObj B (.deferred none)) r hg g1 (y:=.defs none) rfl (World.putObj_heap_same (Array.getElem?_eq_some_iff.1 g2).1) .defsN (by simp) (fun b' ac=>AN b' ac) rfl rfl rfl
          have q:ER σ b {e with ds:=l++ds,s:=e.s.put id (.defs none)} {a with defers:=Ls++L} m:=⟨G.tm,hl.append h2,G.rc,G.fn,G.ro⟩
          have:=ih mode _ res Q σ _ _ m u h R.rel q hu;refine this.of ?_ R;exact .one (FY (fr:={b.atR a todo with mode:=u}) hu.ne H (run_takeDeferred g2))
       ·cases h
     | call f F first cap args A C k1 k2 k3=>
       simp only at h
       cases Z:zG (.func f first cap) with
       | true=>rw [Z]at h;cases h
       | false=>
         rw [Z]at h;simp only [cond_false]at h
         have k:∀ {g:FuncId} {Y:Array Value} {M:Machine},(invoke (.fn F C) A).run P w=.ok (.enter g Y) w->Steps P (lone (Frame.enter P g Y .deferred) ({{b.atR a todo with defers:=L} with mode:=u}::stk m) w) M->Steps P (lone {b.atR a todo with mode:=u} (stk m) w) M:=fun O J=>
          .head (step_defer (fr:={b.atR a todo with mode:=u}) (d:={target:=.fn F C,args:=A}) hu.ne H rfl O) J
         cases hu with
         | ret=>
           simp only at h;split at h
           ·rename_i v E S
            obtain ⟨g,Y,O,J⟩:=hD σ e.s w f F first cap args C A _ _ _ _ S Z r k1 k2 k3 .quiet;obtain ⟨τ,w',m',U,X,N⟩:=J {b.atR a todo with defers:=L} (stk m);have c:=X.stp r
            have q:ER τ b {e with ds:=ds,s:=E.getD e.s} {a with defers:=L} m:=by
             have:=G.mono c.ext;exact ⟨this.tm,h2.mono c.ext,this.rc,this.fn,this.ro⟩
            have I:settle m'=.returning:=by cases U;rfl
            rw [I]at N;exact (ih none {e with ds:=ds,s:=E.getD e.s} res Q τ w' _ m .returning (by cases E<;>exact h) c.rel q .ret).of (k O N) c
           ·rename_i v E S
            obtain ⟨g,Y,O,J⟩:=hD σ e.s w f F first cap args C A _ _ _ _ S Z r k1 k2 k3 .quiet;obtain ⟨τ,V,w',m',q0,U,X,N⟩:=J {b.atR a todo with defers:=L} (stk m);have c:=X.stp r
            have q:ER τ b {e with ds:=ds,s:=E.getD e.s} {a with defers:=L} m:=by
             have:=G.mono c.ext;exact ⟨this.tm,h2.mono c.ext,this.rc,this.fn,this.ro⟩
            have I:raised m' [{v:=V,recovered:=false}]=.panicking [{v:=V,recovered:=false}]:=by cases U;rfl
            rw [I]at N;exact (ih (some v) {e with ds:=ds,s:=E.getD e.s} res Q τ w' _ m _ (by cases E<;>exact h) c.rel q (.pan v V q0)).of (k O N) c
           ·cases h
         | pan p V hV=>
           simp only at h;split at h
           ·rename_i v E v' S
            obtain ⟨g,Y,O,J⟩:=hD σ e.s w f F first cap args C A _ _ _ _ S Z r k1 k2 k3 (.pan p V hV);obtain ⟨τ,w',m',U,X,N⟩:=J {b.atR a todo with defers:=L} (stk m);have c:=X.stp r
            have q:ER τ b {e with ds:=ds,s:=E.getD e.s} {a with defers:=L} m:=by
             have:=G.mono c.ext;exact ⟨this.tm,h2.mono c.ext,this.rc,this.fn,this.ro⟩
            have I:settle m'=.returning:=by cases U;rfl
            rw [I]at N;exact (ih none {e with ds:=ds,s:=E.getD e.s} res Q τ w' _ m .returning (by cases E<;>exact h) c.rel q .ret).of (k O N) c
           ·rename_i v E p' S
            obtain ⟨g,Y,O,J⟩:=hD σ e.s w f F first cap args C A _ _ _ _ S Z r k1 k2 k3 (.pan p V hV);obtain ⟨τ,w',m',U,X,N⟩:=J {b.atR a todo with defers:=L} (stk m);have c:=X.stp r
            have q:ER τ b {e with ds:=ds,s:=E.getD e.s} {a with defers:=L} m:=by
             have:=G.mono c.ext;exact ⟨this.tm,h2.mono c.ext,this.rc,this.fn,this.ro⟩
            cases U with
            | pan _ V' ab=>
              exact (ih (some p') {e with ds:=ds,s:=E.getD e.s} res Q τ w' _ m _ (by cases E<;>exact h) c.rel q (.pan p' V' ab)).of (k O N) c
           ·cases h
theorem qF {s:Sto} {x:Option (LRes × Env)} {y:CRes × ARec} (h:vL s x=some y):∃ a e',x=some (a,e')/\vL s (some (a,e'))=some y:=by
 cases x with
 | none=>cases h
 | some x=>exact ⟨x.1,x.2,rfl,h⟩
theorem FZ {σ:Sg} {as:List AV} {A:Array Value} (h:VRs σ as A.toList) (n:Nat):TmR σ (Nat.max as.length n) (Tr.leaf.lay 0 as) (A++Array.replicate (n-A.size) undef):=by
 have c:as.length=A.size:=by simpa using h.1
 refine ⟨by simp;rw [c];show _=max A.size n;omega,fun i v b=>?_⟩;rw [Tr.get_lay]at b;split at b
 ·rename_i d
  have a:i<A.size:=by omega
  refine ⟨by show i<max as.length n;omega,?_⟩;have:=h.2 i v A[i] (by simpa using b) (by simp [a])
  simpa [Array.getD_eq_getD_getElem?,Array.getElem?_append,a] using this
 ·simp [Tr.get]at b
theorem GA {call:bX} (J:tZ P call) (I:ZD P call) (d:∀ v args s r x,call v args s r=some x->∃ f a c,v=.func f a c) {n:Nat} {f:FuncId} {args:List AV} {s:Sto} {r N:ARec} {res:CRes} (b:oW P call n f args s r=some (res,N)):
 okFn P f=true/\∃ fn,P.funcs[f]?=some fn/\∀ {σ:Sg} {w:World} {A:Array Value} {kd:CallKind} {stk:FrameMode->List Frame} {m:FrameMode},Rel σ s w->VRs σ args A.toList->JN kd stk->RM σ kd r m->
  aVf P σ {s with low:=s.n} w (lone (Frame.enter P f A kd) (stk m) w) {(default:Frame) with fn:=f,kind:=kd} stk fn s res N:=by
 unfold oW at b
 cases F:okFn P f with
 | false=>rw [F]at b;cases b
 | true=>
   rw [F]at b;simp only [cond_true]at b;refine ⟨rfl,?_⟩;split at b
   ·rename_i fn u
    split at b
    ·rename_i c R
     refine ⟨fn,u,fun {σ w A kd stk m} h Q l M=>?_⟩;have k:Rel σ {s with low:=s.n} w:=h.low rfl rfl
     have L:ER σ {(default:Frame) with fn:=f,kind:=kd} {nt:=Nat.max args.length fn.ntmps,ro:=none,fn:=f,t:=Tr.leaf.lay 0 args,ds:=[],s:={s with low:=s.n},r:=r} {tmps:=A++Array.replicate (fn.ntmps-A.size) undef,defers:=[]} m:=
      ⟨FZ Q _,.nil,M,rfl,rfl⟩
     have o:Frame.enter P f A kd=({(default:Frame) with fn:=f,kind:=kd}:Frame).atR {tmps:=A++Array.replicate (fn.ntmps-A.size) undef,defers:=[]} [.code c]:=by
      simp [Frame.enter,Frame.atR,u,R];rfl
     rw [o];split at b
     ·rename_i e D
      obtain ⟨τ,y,H,w',B,q,C⟩:=iF J d n c σ w _ stk [] _ _ m _ _ l D k L;obtain ⟨G,e',E,u⟩:=qF b;exact ((nF I (todo:=[]) n none e G e' τ w' y H .returning E q.rel B .ret).of (Steps.trans C (.one (stepR_end rfl))) q).left u
     ·rename_i e D
      obtain ⟨τ,y,H,w',B,q,S,C⟩:=iF J d n c σ w _ stk [] _ _ m _ _ l D k L;obtain ⟨G,e',E,u⟩:=qF b;exact ((nF I n none e G e' τ w' y H .returning E q.rel B .ret).of (Steps.trans C (.one (stepR_ret rfl))) q).left u
     ·rename_i v e D
      obtain ⟨τ,y,H,w',B,q,V,todo,O,C⟩:=iF J d n c σ w _ stk [] _ _ m _ _ l D k L;obtain ⟨G,e',E,u⟩:=qF b;exact ((nF I n (some v) e G e' τ w' y H _ E q.rel B (.pan v V O)).of C q).left u
     ·cases b
    ·cases b
   ·cases b
theorem qG {σ τ:Sg} {s:Sto} {w w':World} {e':Env} {v:AV} (h:Rel σ s w) (a:Stp σ {s with low:=s.n} w τ e'.s w'):
 ∃ ρ,CStp σ s w ρ (cO s v e') w'/\(∀ V,VR τ v V->VR ρ v V)/\(∀ k m,RM τ k e'.r m->RM ρ k e'.r m):=by
 unfold cO
 cases u:Nat.ble s.n e'.s.low&&(v.under s.n 100&&GR s.n e'.r) with
 | true=>
   simp only [Bool.and_eq_true,Nat.ble_eq]at u;obtain ⟨B,F,q⟩:=u
   have f:(τ.cut s.n).s=σ.s:=by
    funext id g
    simp only [Sg.cut];split
    ·rename_i c
     exact (a.keep id c (by omega)).2.1 g
    ·rename_i c
     cases E:σ id g with
     | none=>rfl
     | some y=>exact absurd (h.bnd id g y E) c
   refine ⟨τ.cut s.n,⟨⟨a.size,fun b D=>?_,a.os,a.out,a.tape⟩,⟨fun id g x G=>by rw [f];exact G,a.ext.m⟩,f,fun b off V e=>?_⟩,fun V e=>VR.cut _ _ _ F e,fun k m C=>?_⟩
   ·by_cases A:Has σ s b
    ·obtain ⟨id,x,base,sz,d,l⟩:=A
     have c:=Sto.get_lt d;exact (a.keep id c (by omega)).2.2 x b base sz d l
    ·exact a.frame b D A
   ·have o:=a.rel.mu b off V e
    rcases a.mnew b off V e with d | ⟨id,x,base,sz,d,l⟩ | d
    ·exact .inl d
    ·exfalso
     have c:id<s.n:=Sto.get_lt d;obtain ⟨k1,k2,_⟩:=a.keep id c (by omega);exact o.2 ⟨id,x,base,sz,by rw [k1];exact d,by rw [k2];exact l⟩
    ·exact .inr ⟨d,o.1⟩
   ·generalize e'.r=r at C q
    cases C with
    | normal m=>exact .normal m
    | quiet=>exact .quiet
    | pan p V e=>exact .pan p V (VR.cut _ _ _ q e)
    | recd p V e=>exact .recd p V (VR.cut _ _ _ q e)
 | false=>
   refine ⟨τ,?_,fun V h=>h,fun k m h=>h⟩;show Stp σ s w τ {e'.s with low:=Nat.min s.low e'.s.low} w';exact ⟨a.rel.low rfl rfl,a.ext,a.size,a.frame,a.own,a.sn,Nat.min_le_left _ _,fun id d l=>a.keep id d (Nat.lt_of_lt_of_le l (Nat.min_le_right _ _)),a.os,a.out,a.tape,a.hole,a.mnew⟩
end
end Go.Abs
