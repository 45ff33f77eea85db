/-
  The abstract machine: all calls; runs.
-/
import Derived.Test.YtdipddlhenoglaaGreatUv
import Derived.ChangeSame
import Derived.RowKit3
set_option linter.unusedVariables false
set_option linter.unusedSimpArgs false
namespace Go.Abs
section
variable {P:Program}
theorem aJp {σ:Sg} {l:Nat}:∀ (ps:List Nat) (as:List AV) (t d:Tr AV) (T A:Array Value) (i:Nat),vX l t ps as=some d->VRs σ as A.toList->TmR σ l t T->
 ps.length=A.size/\TmR σ l d ((ps.zip A.toList).foldl (fun f x=>f.setIfInBounds x.1 x.2) T):=by
 intro ps
 induction ps with
 | nil=>
   intro as t d T A i h o b
   cases as with
   | nil=>
     simp [vX]at h;subst h;have:=o.1;simp at this;exact ⟨by simpa using this,by simpa using b⟩
   | cons a as=>simp [vX]at h
 | cons p ps E=>
   intro as t d T A i h o b
   cases as with
   | nil=>simp [vX]at h
   | cons a as=>
     simp only [vX]at h;rw [eI]at h;split at h
     ·rename_i w
      obtain ⟨V,y,D,C,u⟩:=o.head;have B:A=(V::y).toArray:=Array.toList_inj.1 (by simpa using D);subst B
      have r:TmR σ l (t.set p a) (T.setIfInBounds p V):=by
       refine ⟨by simp [b.1],fun i v c=>?_⟩;rw [Tr.get_set]at c;split at c
       ·rename_i q;subst q
        simp at c;subst c;exact ⟨w,by simp [Array.getD_eq_getD_getElem?,b.1,w,C]⟩
       ·rename_i q
        obtain ⟨m,k⟩:=b.2 i v c;refine ⟨m,?_⟩;simp only [Array.getD_eq_getD_getElem?,Array.getElem?_setIfInBounds];rw [if_neg (fun e=>q e.symm)];rw [Array.getD_eq_getD_getElem?]at k;exact k
      obtain ⟨m,k⟩:=E as _ d _ y.toArray i h (by simpa using u) r;exact ⟨by simpa using m,by simpa using k⟩
     ·cases h
def aVe (P:Program) (σ:Sg) (s:Sto) (w:World) (M:Machine) (c:Frame) (cs:List Frame):CRes->Prop
 | .ret v a=>∃ τ V w',VR τ v V/\CStp σ s w τ a w'/\Steps P M (lone (c.finish V) cs w')
 | .pan v a=>∃ τ V w',VR τ v V/\CStp σ s w τ a w'/\Steps P M (lone (c.raise [{v:=V,recovered:=false}]) cs w')
theorem NB {σ:Sg} {s:Sto} {w:World} {l:Nat} {L base sz:Nat} {q:LoopState} {m:Option Code} {fn:FuncId} {k:Nat} {t:Tr AV} {ps:List Nat} {e f:Code} {d:Nat} (h:Rel σ s w) (E:s.get l=some (.loop q m fn k t ps e f d)) (D:σ l 0=some (L,base,sz)):
 ∃ T PS db a b,w.heap[L]?=some (.loop {state:=q,pending:=m,fn:=fn,tmps:=T,params:=PS,assign:=e,body:=f,defers:=db})/\TmR σ k t T/\PS.toList=ps/\σ d 0=some (db,a,b):=by
 obtain ⟨B,base',sz',o,y,A,C⟩:=h.obj l _ E;have c:σ l 0=some (B,base',sz'):=y;rw [D]at c
 obtain ⟨rfl,rfl,rfl⟩:L=B/\base=base'/\sz=sz':=by simpa using c
 cases C with
 | loop _ _ _ _ _ _ _ _ _ T PS db a b r u v=>exact ⟨T,PS,db,a,b,A,r,u,v⟩
theorem YY {σ:Sg} {s:Sto} {w:World} {l:Nat} {L base sz:Nat} {o st':LoopState} {m pe':Option Code} {fn:FuncId} {k:Nat} {t:Tr AV} {ps:List Nat} {b c:Code} {d:Nat} {T:Array Value} {PS:Array Nat} {db a e:Nat} (h:Rel σ s w)
 (A:s.get l=some (.loop o m fn k t ps b c d)) (y:σ l 0=some (L,base,sz)) (v:w.heap[L]?=some (.loop {state:=o,pending:=m,fn:=fn,tmps:=T,params:=PS,assign:=b,body:=c,defers:=db})) (q:TmR σ k t T) (r:PS.toList=ps) (u:σ d 0=some (db,a,e)):
 Stp σ s w σ (s.put l (.loop st' pe' fn k t ps b c d)) (w.putObj L (.loop {state:=st',pending:=pe',fn:=fn,tmps:=T,params:=PS,assign:=b,body:=c,defers:=db})):=
 stp_put h A y rfl (World.putObj_heap_same (Array.getElem?_eq_some_iff.1 v).1) (.loop _ _ _ _ _ _ _ _ _ _ _ _ _ _ q r u) (by simp) (fun b' f=>AN b' f) rfl rfl rfl
theorem YZ {σ τ:Sg} {s b:Sto} {w w':World} {n:Nat} (a:Stp σ {s with low:=n} w τ b w'):Stp σ s w τ {b with low:=Nat.min s.low b.low} w':=
 ⟨a.rel.low rfl rfl,a.ext,a.size,a.frame,a.own,a.sn,Nat.min_le_left _ _,fun id c d=>a.keep id c (Nat.lt_of_lt_of_le d (Nat.min_le_right _ _)),a.os,a.out,a.tape,a.hole,a.mnew⟩
theorem aCw {call:bX} (hN:tZ P call) (q:∀ v args s r x,call v args s r=some x->∃ f a c,v=.func f a c) {n l:Nat} {args:List AV} {s:Sto} {res:CRes} {rr:ARec} (m:mF P call n l args s=some (res,rr)) {σ:Sg} {w:World} {L base sz:Nat} {A:Array Value}
 (h:Rel σ s w) (hL:σ l 0=some (L,base,sz)) (ha:VRs σ args A.toList):
 ∃ nx fr,(Instr.yield L A).run P w=.ok nx w/\NH P nx fr/\∀ (c:Frame) (cs:List Frame),aVe P σ s w (lone fr (c::cs) w) c cs res:=by
 unfold mF at m;split at m
 ·rename_i st bb fn nt t ps X H d hg
  split at m
  ·rename_i t' ad
   obtain ⟨T,PS,db,aj,be,h2,g1,g2,g3⟩:=NB h hg hL;obtain ⟨k1,k2⟩:=aJp ps args t t' T A 0 ad ha g1;have hy:=run_yield (P:=P) h2 (args:=A) (by show A.size=PS.size;rw [<-Array.length_toList (xs:=PS),g2,k1])
   have au:(PS.zip A).foldl (fun tmps (t,a)=>tmps.setIfInBounds t a) T=(ps.zip A.toList).foldl (fun tmps x=>tmps.setIfInBounds x.1 x.2) T:=by
    rw [<-Array.foldl_toList,Array.toList_zip,g2]
   simp only at hy;rw [au]at hy;generalize bg:(ps.zip A.toList).foldl (fun tmps x=>tmps.setIfInBounds x.1 x.2) T=U at hy k2;refine ⟨_,_,hy,.inr ⟨_,_,_,_,_,rfl,rfl⟩,fun c cs=>?_⟩
   let b:Frame:={(default:Frame) with fn:=fn,kind:=.normal,roundOf:=some L}
   have ak:Frame.round L fn U X H .normal=b.atR {tmps:=U,defers:=[]} [.code X,.beginRound,.code H]:=by
    simp [Frame.round,Frame.atR,b]
   have ae:Rel σ {s with low:=s.n} w:=h.low rfl rfl
   have he:ER σ b {nt:=nt,ro:=some l,fn:=fn,t:=t',ds:=[],s:={s with low:=s.n},r:=.no} {tmps:=U,defers:=[]} c.mode:=
    ⟨k2,.nil,.normal _,rfl,L,base,sz,rfl,hL,rfl⟩
   have B:JN b.kind (fun _=>c::cs):=.inl rfl;rw [ak];split at m
   ·rename_i e hc
    obtain ⟨τ,a',m',w',q1,q2,q3⟩:=iF hN q n X σ w b (fun _=>c::cs) [.beginRound,.code H] _ _ _ _ _ B hc ae he;split at m
    ·rename_i D Y av ax aw a1 b1 d' ab
     have Z:=q2.ext _ _ _ hL;obtain ⟨T2,ah,ai,af,ay,u2,u3,u4,u5⟩:=NB q2.rel ab Z;have al:=run_beginRound (P:=P) u2 rfl;have u:=YY (st':=.busy) (pe':=D) q2.rel ab Z u2 u3 u4 u5
     have N:Steps P (lone (b.atR {tmps:=U,defers:=[]} [.code X,.beginRound,.code H]) (c::cs) w) (lone (b.atR a' [.code H]) (c::cs) (w'.putObj L (.loop {state:=.busy,pending:=D,fn:=Y,tmps:=T2,params:=ah,assign:=a1,body:=b1,defers:=ai}))):=
      Steps.trans q3 (.one (stepR_beginRound rfl al))
     have E:=q2.trans u;have M:ER τ b {e with s:=e.s.put l (.loop .busy D Y av ax aw a1 b1 d')} a' m':=q1.sto _
     have fin:∀ (k:Option Code) (G:Env) (τ2:Sg) (J:World) (a2:Act) (Q:FrameMode),dW s l k G=some (res,rr)->ER τ2 b G a2 Q->Stp σ {s with low:=s.n} w τ2 G.s J->
      (∀ (V:Value) (w3:World),(Instr.endRound L k).run P J=.ok V w3->Steps P (lone (b.atR {tmps:=U,defers:=[]} [.code X,.beginRound,.code H]) (c::cs) w) (lone (c.finish V) cs w3))->
      aVe P σ s w (lone (b.atR {tmps:=U,defers:=[]} [.code X,.beginRound,.code H]) (c::cs) w) c cs res:=by
      intro k G τ2 J a2 Q o bh F O;unfold dW at o;split at o
      ·rename_i bl bj bf bi t3 bk a3 b3 d3 ac ba
       simp only [Option.some.injEq,Prod.mk.injEq]at o;obtain ⟨rfl,rfl⟩:=o;have aa:=F.ext _ _ _ hL;obtain ⟨T3,bc,bd,ag,az,v2,v3,v4,v5⟩:=NB F.rel ac aa;have ao:=run_endRound (P:=P) k v2;have S:=YY (st':=if k.isNone then .ready else .done) (pe':=k) F.rel ac aa v2 v3 v4 v5;refine ⟨τ2,.bool k.isNone,_,.bool _,?_,O _ _ ao⟩;have h4:=YZ (F.trans S)
       have R:(bif k.isNone then LoopState.ready else .done)=if k.isNone then LoopState.ready else .done:=by cases k<;>rfl
       rw [R];exact h4
      ·cases o
     split at m
     ·rename_i G C
      obtain ⟨τ2,a2,Q,J,r1,r2,r3⟩:=iF hN q n H τ _ b (fun _=>c::cs) [] _ _ _ _ _ B C u.rel M
      exact fin none G τ2 J a2 Q m r1 (E.trans r2) fun V w3 hV=>(N.trans r3).trans (.one (stepR_round_end rfl rfl hV))
     ·rename_i G C
      obtain ⟨τ2,a2,Q,J,r1,r2,k₁,r3⟩:=iF hN q n H τ _ b (fun _=>c::cs) [] _ _ _ _ _ B C u.rel M
      exact fin (some .ret) G τ2 J a2 Q m r1 (E.trans r2) fun V w3 hV=>(N.trans r3).trans (.one (stepR_round_ret rfl rfl hV))
     ·rename_i id G C
      obtain ⟨τ2,a2,Q,J,r1,r2,r3⟩:=iF hN q n H τ _ b (fun _=>c::cs) [] _ _ _ _ _ B C u.rel M;obtain ⟨k₁,hk,r4⟩:=r3.2 (by simp [exitTo])
      exact fin (some (.exit id)) G τ2 J a2 Q m r1 (E.trans r2) fun V w3 hV=>(N.trans r4).trans (.one (stepR_round_exit rfl rfl hk hV))
     ·rename_i v G C
      obtain ⟨τ2,a2,Q,J,r1,r2,V,todo,r3,r4⟩:=iF hN q n H τ _ b (fun _=>c::cs) [] _ _ _ _ _ B C u.rel M;split at m
      ·rename_i an
       cases I:okFn P G.fn with
       | false=>rw [I]at m;cases m
       | true=>
         rw [I]at m;simp only [cond_true,Option.some.injEq,Prod.mk.injEq]at m;obtain ⟨rfl,rfl⟩:=m
         have aq:∃ g,P.funcs[fn]?=some g:=by
          have ap:fn=G.fn:=r1.fn;rw [ap];unfold okFn at I;split at I
          ·rename_i g ar;exact ⟨g,ar⟩
          ·cases I
         have am:a2.defers=[]:=by
          have:=r1.df;rw [an]at this
          cases hh:a2.defers with
          | nil=>rfl
          | cons x y=>rw [hh]at this;cases this
         refine ⟨τ2,V,J,r3,YZ (E.trans r2),(N.trans r4).trans (.one ?_)⟩;exact step_leave_panicked (fr:={b.atR a2 todo with mode:=.panicking [{v:=V,recovered:=false}]}) ⟨rfl,am,aq⟩
      ·cases m
     ·cases m
    ·cases m
   ·cases m
  ·cases m
 ·cases m
def aRt (P:Program) (σ:Sg) (s:Sto) (w:World) (kd:CallKind) (f:FuncId) (fn:Func) (stk:FrameMode->List Frame) (M:Machine):CRes->Prop
 | .ret v b=>∃ τ V w' fr a,VR τ v V/\CStp σ s w τ b w'/\RM τ kd .no a/\Steps P M (lone fr (stk a) w')/\fr.mode=.returning/\fr.defers=[]/\fr.kind=kd/\fr.fn=f/\(results fn fr.tmps).run P w'=.ok V w'
 | .pan v b=>∃ τ V w' fr a,VR τ v V/\CStp σ s w τ b w'/\RM τ kd .no a/\Steps P M (lone fr (stk a) w')/\fr.mode=.panicking [{v:=V,recovered:=false}]/\fr.defers=[]/\fr.kind=kd/\fr.fn=f
def bO (P:Program) (f:FuncId) (args:List AV) (s:Sto) (res:CRes):Prop:=
 okFn P f=true/\∃ fn,P.funcs[f]?=some fn/\∀ (σ:Sg) (w:World) (A:Array Value) (kd:CallKind) (stk:FrameMode->List Frame) (m:FrameMode),Rel σ s w->VRs σ args A.toList->JN kd stk->RM σ kd .no m->
  aRt P σ s w kd f fn stk (lone (Frame.enter P f A kd) (stk m) w) res
def rN (P:Program) (O:cH):Prop:=∀ f args s res,O f args s=some res->bO P f args s res
theorem sound_of_dfunc {call:bX} (N:tZ P call) (M:ZD P call) (d:∀ v args s r x,call v args s r=some x->∃ f a c,v=.func f a c) {n:Nat} {f:FuncId} {args:List AV} {s:Sto} {res:CRes} (h:oW P call n f args s .no=some (res,.no)):bO P f args s res:=by
 obtain ⟨D,fn,C,B⟩:=GA N M d h;refine ⟨D,fn,C,fun σ w A kd stk m b O l E=>?_⟩;obtain ⟨τ,S,G,w',e',todo,Q,H,I,J,L⟩:=B (kd:=kd) (stk:=stk) (m:=m) b O l E;have e:RM τ kd e'.r G:=Q.rc
 cases res with
 | ret v R=>
   obtain ⟨rfl,V,y,k,F⟩:=L;obtain ⟨ρ,o,q,u⟩:=qG (v:=v) b H;exact ⟨ρ,V,w',_,G,q V y,o,by rw [I];exact u _ _ e,F,rfl,J,rfl,rfl,k⟩
 | pan v R=>
   obtain ⟨rfl,V,y,F⟩:=L;obtain ⟨ρ,o,q,u⟩:=qG (v:=v) b H;exact ⟨ρ,V,w',_,G,q V y,o,by rw [I];exact u _ _ e,F,rfl,J,rfl,rfl⟩
theorem AM {O:cH} {a:AV} {args:List AV} {s:Sto} {r:ARec} {res:CRes} (h:GS O a args s r=some res):r=.no/\∃ g first cap,a=.func (.func g) first cap/\O g (first++args++cap) s=some res:=by
 unfold GS at h;split at h
 ·refine ⟨rfl,?_⟩
  split at h
  ·exact ⟨_,_,_,rfl,h⟩
  ·cases h
 ·cases h
theorem uX {O:cH}:∀ (n:Nat) (v:AV) (args:List AV) (s:Sto) (r:ARec) (x:CRes × ARec),aR P O n v args s r=some x->∃ f a c,v=.func f a c:=by
 intro n v args s r x h
 cases n with
 | zero=>simp [aR]at h
 | succ n=>
   simp only [aR]at h;split at h
   ·rename_i res d
    obtain ⟨_,g,first,cap,b,_⟩:=AM d;exact ⟨_,_,_,b⟩
   ·cases v with
    | func f a c=>exact ⟨_,_,_,rfl⟩
    | _=>simp [gV]at h
theorem nU {O:cH} (hO:rN P O):∀ n:Nat,tZ P (aR P O n)/\ZD P (aR P O n):=by
 intro n
 induction n with
 | zero=>exact ⟨fun σ S w f F first cap args C A res rr h=>by simp [aR]at h,fun σ S w f F first cap args C A r r' m res h=>by simp [aR]at h⟩
 | succ n ih=>
   obtain ⟨hN,hD⟩:=ih;have E:=uX (P:=P) (O:=O) n;constructor
   ·intro σ S w f F first cap args C A res rr h a U e d
    simp only [aR]at h;split at h
    ·rename_i I ho
     simp only [Option.some.injEq,Prod.mk.injEq]at h;obtain ⟨rfl,rfl⟩:=h;obtain ⟨_,g,N,aa,Z,ho⟩:=AM ho;cases Z;cases U;obtain ⟨o,fn,k,H⟩:=hO _ _ _ _ ho;have ht:=kX (P:=P) (w:=w) (tgt:=.fn g (first++args++cap)) a rfl (.func g) e d;obtain ⟨M,Q,R⟩:=ht o;refine ⟨_,_,R,.inl ⟨g,M,rfl,rfl⟩,fun c cs=>?_⟩;have:=H σ w M .normal (fun _=>c::cs) c.mode a Q (.inl rfl) (.normal _)
     cases I with
     | ret v so=>
       obtain ⟨τ,V,w',fr,u,T,y,_,J,B,D,q6,q7,q8⟩:=this;exact ⟨τ,V,w',T,y,J.trans (.one (step_leave_returned ⟨B,D,q6,fn,by rw [q7];exact k,q8⟩))⟩
     | pan v so=>
       obtain ⟨τ,V,w',fr,u,T,y,_,J,B,D,q6,q7⟩:=this;have:=step_leave_panicked (P:=P) (fr:=fr) (c:=c) (cs:=cs) (w:=w') ⟨B,D,fn,by rw [q7];exact k⟩;exact ⟨τ,V,w',T,y,J.trans (.one this)⟩
    split at h
    ·rename_i g as q
     have ht:=kX (P:=P) a q U e d;obtain ⟨o,fn,k,Y⟩:=GA hN hD E h;obtain ⟨M,Q,R⟩:=ht o;refine ⟨_,_,R,.inl ⟨g,M,rfl,rfl⟩,fun c cs=>?_⟩;obtain ⟨τ,a',u,w',e',todo,T,y,J,B,D⟩:=Y (kd:=.normal) (stk:=fun _=>c::cs) (m:=c.mode) a Q (.inl rfl) (.normal _)
     cases res with
     | ret v so=>
       obtain ⟨rfl,V,hV,G,hs⟩:=D;obtain ⟨ρ,X,c2,_⟩:=qG (v:=v) a y;exact ⟨ρ,V,w',c2 V hV,X,hs.trans (.one (step_leave_returned (fr:={({(default:Frame) with fn:=g,kind:=.normal}:Frame).atR a' todo with mode:=.returning}) ⟨rfl,B,rfl,fn,k,G⟩))⟩
     | pan v so=>
       obtain ⟨rfl,V,hV,hs⟩:=D;obtain ⟨ρ,X,c2,_⟩:=qG (v:=v) a y;exact ⟨ρ,V,w',c2 V hV,X,hs.trans (.one (step_leave_panicked (fr:={({(default:Frame) with fn:=g,kind:=.normal}:Frame).atR a' todo with mode:=.panicking [{v:=V,recovered:=false}]}) ⟨rfl,B,fn,k⟩))⟩
    ·rename_i l as q
     obtain ⟨L,b,sz,rfl,hL,hA⟩:=kX (P:=P) a q U e d;obtain ⟨nx,fr,Q,R,h3⟩:=aCw hN E h a hL hA;refine ⟨nx,fr,by simpa [invoke] using Q,R,fun c cs=>?_⟩;have:=h3 c cs;cases res<;>exact this
    ·cases h
   ·intro σ S w f F first cap args C A r r' m res h hy a U e d ac
    simp only [aR]at h;split at h
    ·rename_i I ho
     simp only [Option.some.injEq,Prod.mk.injEq]at h;obtain ⟨rfl,rfl⟩:=h;obtain ⟨rfl,g,N,aa,Z,ho⟩:=AM ho;cases Z;cases U;obtain ⟨o,fn,k,H⟩:=hO _ _ _ _ ho;have ht:=kX (P:=P) (w:=w) (tgt:=.fn g (first++args++cap)) a rfl (.func g) e d;obtain ⟨M,Q,R⟩:=ht o;refine ⟨g,M,R,fun c cs=>?_⟩;have:=H σ w M .deferred (fun m=>{c with mode:=m}::cs) m a Q (.inr ⟨rfl,c,cs,rfl⟩) ac
     cases I with
     | ret v so=>
       obtain ⟨τ,V,w',fr,u,T,y,q9,J,B,D,q6,q7,q8⟩:=this;refine ⟨τ,w',u,q9,y,J.trans (.one ?_)⟩;exact step_going_returned (P:=P) (fr:=fr) (c:={c with mode:=u}) (cs:=cs) (w:=w') (v:=V) q6 ⟨B,D,fn,by rw [q7];exact k,q8⟩
     | pan v so=>
       obtain ⟨τ,V,w',fr,u,T,y,q9,J,B,D,q6,q7⟩:=this;refine ⟨τ,V,w',u,T,q9,y,J.trans (.one ?_)⟩;exact step_going_panicked (P:=P) (fr:=fr) (c:={c with mode:=u}) (cs:=cs) (w:=w') (chain:=[{v:=V,recovered:=false}]) ⟨B,D,fn,by rw [q7];exact k⟩
    split at h
    ·rename_i g as q
     have ht:=kX (P:=P) a q U e d;obtain ⟨o,fn,k,Y⟩:=GA hN hD E h;obtain ⟨M,Q,R⟩:=ht o;refine ⟨g,M,R,fun c cs=>?_⟩;obtain ⟨τ,a',u,w',e',todo,T,y,J,B,D⟩:=Y (kd:=.deferred) (stk:=fun m=>{c with mode:=m}::cs) (m:=m) a Q (.inr ⟨rfl,c,cs,rfl⟩) ac;have ab:RM τ .deferred e'.r u:=T.rc;subst J
     cases res with
     | ret v so=>
       obtain ⟨rfl,V,hV,G,hs⟩:=D;obtain ⟨ρ,X,c2,c3⟩:=qG (v:=v) a y;refine ⟨ρ,w',u,c3 _ _ ab,X,hs.trans (.one ?_)⟩;have:=step_going_returned (P:=P) (fr:={({(default:Frame) with fn:=g,kind:=.deferred}:Frame).atR a' todo with mode:=.returning}) (c:={c with mode:=u}) (cs:=cs) (w:=w') (v:=V) rfl ⟨rfl,B,fn,k,G⟩;exact this
     | pan v so=>
       obtain ⟨rfl,V,hV,hs⟩:=D;obtain ⟨ρ,X,c2,c3⟩:=qG (v:=v) a y;refine ⟨ρ,V,w',u,c2 V hV,c3 _ _ ab,X,hs.trans (.one ?_)⟩;have:=step_going_panicked (P:=P) (fr:={({(default:Frame) with fn:=g,kind:=.deferred}:Frame).atR a' todo with mode:=.panicking [{v:=V,recovered:=false}]}) (c:={c with mode:=u}) (cs:=cs) (w:=w') (chain:=[{v:=V,recovered:=false}]) ⟨rfl,B,fn,k⟩;exact this
    ·rename_i l as q
     obtain ⟨L,b,sz,rfl,hL,hA⟩:=kX (P:=P) a q U e d;cases U;simp [zG]at hy
    ·cases h
theorem FW {O:cH} (a:rN P O) {n:Nat} {f:FuncId} {args:List AV} {s:Sto} {res:CRes} (h:oW P (aR P O n) n f args s .no=some (res,.no)):bO P f args s res:=
 sound_of_dfunc (nU a n).1 (nU a n).2 (uX n) h
def Returns (P:Program) (f:FuncId) (args:List AV) (v:AV):Prop:=∀ s,bO P f args s (.ret v none)
theorem NC {T:fI} (b:∀ x∈T,Returns P x.1 x.2.1 x.2.2):rN P (eR T):=by
 intro f args s res h
 induction T with
 | nil=>cases h
 | cons x T c=>
   unfold eR at h
   cases a:(Nat.beq x.1 f&&fP (AV.beq 1000) x.2.1 args) with
   | true=>
     rw [a]at h;simp at h;subst h;simp only [Bool.and_eq_true]at a;rw [<-rP (AV.beq_eq 1000) _ _ a.2,<-jV _ _ a.1];exact b x (List.mem_cons_self ..) s
   | false=>
     rw [a]at h;exact c (fun x a=>b x (List.mem_cons_of_mem _ a)) h
theorem Sto.empty_get (id:Nat):Sto.empty.get id=none:=by rw [Sto.get_eq];simp [Sto.empty]
theorem sound_empty {f:FuncId} {args:List AV} {res:CRes} (Q:∀ σ:Sg,∀ A,VRs σ args A->VRs (σ.cut 0) args A) (h:bO P f args .empty res) (l:∃ v,res=.ret v none∨res=.pan v none) (s:Sto):bO P f args s res:=by
 obtain ⟨E,fn,D,O⟩:=h;refine ⟨E,fn,D,fun σ w A kd stk m c N r F=>?_⟩
 have e:∀ id g,(σ.cut 0) id g=none:=fun id g=>by simp only [Sg.cut];rw [if_neg (by omega)]
 have k:Rel (σ.cut 0) Sto.empty w:=
  {obj:=fun id x a=>(by rw [Sto.empty_get]at a;cases a),inj:=fun id x R S b base sz base' sz' a=>(by rw [Sto.empty_get]at a;cases a),
   mu:=fun b off V M=>⟨(c.mu b off V M).1,fun ⟨id,x,base,sz,a,_⟩=>(by rw [Sto.empty_get]at a;cases a)⟩,
   bnd:=fun id g x a=>(by rw [e]at a;cases a),gen:=fun id x g y a=>(by rw [Sto.empty_get]at a;cases a),top:=fun id _=>rfl}
 have o:RM (σ.cut 0) kd .no m:=by cases F with
  | normal m=>exact .normal m
  | quiet=>exact .quiet
 have:=O (σ.cut 0) w A kd stk m k (Q σ _ N) r o
 have B:∀ (τ:Sg) (w':World),QStp (σ.cut 0) w τ w'->∃ ρ,τ.le ρ/\QStp σ w ρ w':=by
  intro τ w' q;refine ⟨⟨τ.m,σ.s⟩,⟨fun id g x a=>?_,fun _ _ _ h=>h⟩,q.q,⟨fun _ _ _ h=>h,q.le.m⟩,rfl,q.m⟩;have u:τ.s id g=some x:=a;rw [q.s]at u;exact (Sg.cut_le σ 0) _ _ _ u
 obtain ⟨v,rfl | rfl⟩:=l
 ·obtain ⟨τ,V,w',fr,G,H,I,L,J⟩:=this
  obtain ⟨ρ,d,C⟩:=B τ w' I;exact ⟨ρ,V,w',fr,G,H.mono d,C,L.mono d,J⟩
 ·obtain ⟨τ,V,w',fr,G,H,I,L,J⟩:=this
  obtain ⟨ρ,d,C⟩:=B τ w' I;exact ⟨ρ,V,w',fr,G,H.mono d,C,L.mono d,J⟩
theorem returns_of {O:cH} (e:rN P O) {n:Nat} {f:FuncId} {args:List AV} {v:AV} (h:aVj P O n f args v=true):Returns P f args v:=by
 simp only [aVj,Bool.and_eq_true]at h;obtain ⟨k,h⟩:=h;split at h
 ·rename_i v' a
  have l:=AV.beq_eq _ _ _ h;subst l;exact sound_empty (fun σ A c=>⟨c.1,fun i x X b d=>VR.cut _ _ _ (List.all_eq_true.1 k x (List.mem_of_getElem? b)) (c.2 i x X b d)⟩) (FW e a) ⟨_,.inl rfl⟩
 ·cases h
theorem aJq {f:FuncId} {args:List AV} {v:AV} (h:bO P f args .empty (.ret v none)) {A:Array Value} {w:World} {σ:Sg} (r:∀ b off V,σ.m b off=some V->w.cell? ⟨b,off,none⟩=some V) (C:∀ id g,σ id g=none) (o:VRs σ args A.toList):
 Calls P f A w fun
  | .returned V,w'=>(∃ τ,VR τ v V/\QStp σ w τ w')/\Quiet w w'
  | _,_=>False:=by
 obtain ⟨u,fn,d,B⟩:=h
 have c:Rel σ Sto.empty w:=
  {obj:=fun id x a=>(by rw [Sto.empty_get]at a;cases a),inj:=fun id x D M b base sz base' sz' a=>(by rw [Sto.empty_get]at a;cases a),mu:=fun b off V l=>⟨r b off V l,fun ⟨id,x,base,sz,a,_⟩=>(by rw [Sto.empty_get]at a;cases a)⟩,
   bnd:=fun id g x a=>(by rw [C]at a;cases a),gen:=fun id x g y a=>(by rw [Sto.empty_get]at a;cases a),top:=fun id _=>rfl}
 intro cs;obtain ⟨τ,V,w',fr,L,E,e,_,F,G,H,I,k,J⟩:=B _ w A .normal (fun _=>cs) .run c o (.inl rfl) (.normal _);exact ⟨.returned V,w',fr,⟨⟨τ,E,e⟩,QStp.q e⟩,F,k,G,H,I,fn,by rw [k];exact d,J⟩
end
end Go.Abs
/-
 The abstract machine: a law mW arguments.
-/
namespace Go.Abs
open Go.ChangeShapes
theorem post_quiet {H:Type} {enc:TypeId × Value->H} {P:Program} {f:Func} {s:ChangeSpec} {oR o c m:Bool} {W l:World} {args:Array Value} {v:Value} {A B:List (DataW H)} {a pa pv:List MemPlace}
 (C:DataW.Whole enc P f.params.toList s.vars oR W args.toList A B a)
 (k:∀ (b:Nat) (y:Nat->Bool) (L:Bool),DataW.TrodAll enc P l b y L f.resultTypes.toList (v.resultList f.resultTypes.size) (s.fn H (A++B)).results [])
 (d:∀ y:Nat->Bool,(∀ p∈a,y p.block=true)->DataW.TrodAll enc P l 0 y true f.params.toList args.toList (s.fn H (A++B)).args pa)
 (e:∀ y:Nat->Bool,(∀ p∈a,y p.block=true)->DataW.TrodVars enc P l y s.vars (s.fn H (A++B)).vars pv)
 (w:a=pa++pv) (q:Quiet W l)
 (E:∀ (j:Nat) (t:TypeId) (r:Value),f.resultTypes[j]?=some t->(v.resultList f.resultTypes.size)[j]?=some r->Value.okWide P l .any 0 t r):
 s.post enc P f oR o c m W args v l:=by
 have h:∀ p∈a,(fun b=>decide (b<W.heap.size)) p.block=true:=fun p u=>by simpa using C.lt p u
 have M:W.keptBut l (fun _=>False):=⟨q.os,q.out,fun i F=>by rw [q.heap i F];exact (World.keptBut_refl W (fun _=>False)).2.2 i F⟩
 refine ⟨A,B,a,[],pa,pv,C,k _ _ _,d _ h,e _ h,World.keptBut_mono (fun p u=>u.elim) M,fun _=>?_⟩;have D:=C.lt;obtain ⟨_,_,_,_,_,O,N⟩:=C;refine ⟨E,_,_,([]++pa)++pv,⟨[]++pa,pv,trodAll_append (d _ (fun _ _=>rfl)) (k _ _ _),e _ (fun _ _=>rfl),rfl,?_,?_⟩,?_⟩
 ·intro b off u
  have G:MemPlace.cell b off∈a:=by rw [w];simpa using u
  have J:b<W.heap.size:=D _ G;have:=O b off G;simp only [World.frozen?]at this ⊢;rw [q.heap b J];exact this
 ·intro I
  have:=N I;rw [w]at this
  simpa using this
 ·intro p u _
  rw [w]
  simpa using u
theorem law_of {P:Program} {f:FuncId} {args:List AV} (h:bO P f args .empty (.ret (.bool true) none)) {A:Array Value} {w:World} {σ:Sg} (l:∀ b off V,σ.m b off=some V->w.cell? ⟨b,off,none⟩=some V) (o:∀ id g,σ id g=none) (k:VRs σ args A.toList):
 Calls P f A w fun e w'=>e=.returned (.bool true)/\Quiet w w':=by
 refine (aJq h l o k).mono fun e w' a=>?_
 cases e with
 | returned V=>obtain ⟨⟨τ,c,_⟩,d⟩:=a;exact ⟨by rw [yT c],d⟩
 | _=>exact a.elim
end Go.Abs
