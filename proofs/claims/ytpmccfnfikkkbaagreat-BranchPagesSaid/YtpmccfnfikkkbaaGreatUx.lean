/-
  The abstract machine: all calls; runs.
-/
import Derived.Test.YtpmccfnfikkkbaaGreatUv
import Derived.ChangeSame
import Derived.RowKit3
set_option linter.unusedVariables false
set_option linter.unusedSimpArgs false
namespace Go.Abs
section
variable {P:Program}
theorem aFq {σ:Sg} {nt:Nat}:∀ (ps:List Nat) (as:List AV) (t d:Tr AV) (T A:Array Value) (i:Nat),yF nt t ps as=some d->VRs σ as A.toList->TmR σ nt t T->
 ps.length=A.size/\TmR σ nt d ((ps.zip A.toList).foldl (fun f x=>f.setIfInBounds x.1 x.2) T):=by
 intro ps
 induction ps with
 | nil=>
   intro as t d T A i h m b
   cases as with
   | nil=>
     simp [yF]at h;subst h;have:=m.1;simp at this;exact ⟨by simpa using this,by simpa using b⟩
   | cons a as=>simp [yF]at h
 | cons p ps D=>
   intro as t d T A i h m b
   cases as with
   | nil=>simp [yF]at h
   | cons a as=>
     simp only [yF]at h;rw [eP]at h;split at h
     ·rename_i u
      obtain ⟨V,w,C,B,r⟩:=m.head;have y:A=(V::w).toArray:=Array.toList_inj.1 (by simpa using C);subst y
      have q:TmR σ nt (t.set p a) (T.setIfInBounds p V):=by
       refine ⟨by simp [b.1],fun i v c=>?_⟩;rw [Tr.get_set]at c;split at c
       ·rename_i o;subst o
        simp at c;subst c;exact ⟨u,by simp [Array.getD_eq_getD_getElem?,b.1,u,B]⟩
       ·rename_i o
        obtain ⟨l,k⟩:=b.2 i v c;refine ⟨l,?_⟩;simp only [Array.getD_eq_getD_getElem?,Array.getElem?_setIfInBounds];rw [if_neg (fun e=>o e.symm)];rw [Array.getD_eq_getD_getElem?]at k;exact k
      obtain ⟨l,k⟩:=D as _ d _ w.toArray i h (by simpa using r) q;exact ⟨by simpa using l,by simpa using k⟩
     ·cases h
def aSt (P:Program) (σ:Sg) (s:Sto) (w:World) (M:Machine) (c:Frame) (cs:List Frame):CRes->Prop
 | .ret v a=>∃ τ V w',VR τ v V/\CStp σ s w τ a w'/\Steps P M (lone (c.finish V) cs w')
 | .pan v a=>∃ τ V w',VR τ v V/\CStp σ s w τ a w'/\Steps P M (lone (c.raise [{v:=V,recovered:=false}]) cs w')
theorem KJ {σ:Sg} {s:Sto} {w:World} {l:Nat} {L base sz:Nat} {st:LoopState} {k:Option Code} {fn:FuncId} {nt:Nat} {t:Tr AV} {ps:List Nat} {e f:Code} {d:Nat} (h:Rel σ s w) (A:s.get l=some (.loop st k fn nt t ps e f d)) (y:σ l 0=some (L,base,sz)):
 ∃ T PS db a b,w.heap[L]?=some (.loop {state:=st,pending:=k,fn:=fn,tmps:=T,params:=PS,assign:=e,body:=f,defers:=db})/\TmR σ nt t T/\PS.toList=ps/\σ d 0=some (db,a,b):=by
 obtain ⟨B,base',sz',o,r,u,v⟩:=h.obj l _ A;have c:σ l 0=some (B,base',sz'):=r;rw [y]at c
 obtain ⟨rfl,rfl,rfl⟩:L=B/\base=base'/\sz=sz':=by simpa using c
 cases v with
 | loop _ _ _ _ _ _ _ _ _ T PS db a b m p q=>exact ⟨T,PS,db,a,b,u,m,p,q⟩
theorem WY {σ:Sg} {s:Sto} {w:World} {l:Nat} {L base sz:Nat} {st st':LoopState} {k pe':Option Code} {fn:FuncId} {nt:Nat} {t:Tr AV} {ps:List Nat} {b c:Code} {d:Nat} {T:Array Value} {PS:Array Nat} {db a e:Nat} (h:Rel σ s w)
 (u:s.get l=some (.loop st k fn nt t ps b c d)) (r:σ l 0=some (L,base,sz)) (q:w.heap[L]?=some (.loop {state:=st,pending:=k,fn:=fn,tmps:=T,params:=PS,assign:=b,body:=c,defers:=db})) (m:TmR σ nt t T) (o:PS.toList=ps) (p:σ d 0=some (db,a,e)):
 Stp σ s w σ (s.put l (.loop st' pe' fn nt t ps b c d)) (w.putObj L (.loop {state:=st',pending:=pe',fn:=fn,tmps:=T,params:=PS,assign:=b,body:=c,defers:=db})):=
 stp_put h u r rfl (World.putObj_heap_same (Array.getElem?_eq_some_iff.1 q).1) (.loop _ _ _ _ _ _ _ _ _ _ _ _ _ _ m o p) (by simp) (fun b' f=>zQ b' f) rfl rfl rfl
theorem WZ {σ τ:Sg} {s b:Sto} {w w':World} {n:Nat} (a:Stp σ {s with low:=n} w τ b w'):Stp σ s w τ {b with low:=Nat.min s.low b.low} w':=
 ⟨a.rel.low rfl rfl,a.ext,a.size,a.frame,a.own,a.sn,Nat.min_le_left _ _,fun id c d=>a.keep id c (Nat.lt_of_lt_of_le d (Nat.min_le_right _ _)),a.os,a.out,a.tape,a.hole,a.mnew⟩
theorem aAn {call:bR} (hN:sX P call) (p:∀ v args s r x,call v args s r=some x->∃ f a c,v=.func f a c) {n l:Nat} {args:List AV} {s:Sto} {res:CRes} {rr:ARec} (m:mD P call n l args s=some (res,rr)) {σ:Sg} {w:World} {L base sz:Nat} {A:Array Value}
 (h:Rel σ s w) (hL:σ l 0=some (L,base,sz)) (ha:VRs σ args A.toList):
 ∃ nx fr,(Instr.yield L A).run P w=.ok nx w/\KO P nx fr/\∀ (c:Frame) (cs:List Frame),aSt P σ s w (lone fr (c::cs) w) c cs res:=by
 unfold mD at m;split at m
 ·rename_i st bd fn nt t ps Z G d hg
  split at m
  ·rename_i t' af
   obtain ⟨T,PS,db,al,bg,h2,g1,g2,g3⟩:=KJ h hg hL;obtain ⟨k1,k2⟩:=aFq ps args t t' T A 0 af ha g1;have hy:=run_yield (P:=P) h2 (args:=A) (by show A.size=PS.size;rw [<-Array.length_toList (xs:=PS),g2,k1])
   have aw:(PS.zip A).foldl (fun tmps (t,a)=>tmps.setIfInBounds t a) T=(ps.zip A.toList).foldl (fun tmps x=>tmps.setIfInBounds x.1 x.2) T:=by
    rw [<-Array.foldl_toList,Array.toList_zip,g2]
   simp only at hy;rw [aw]at hy;generalize bi:(ps.zip A.toList).foldl (fun tmps x=>tmps.setIfInBounds x.1 x.2) T=Y at hy k2;refine ⟨_,_,hy,.inr ⟨_,_,_,_,_,rfl,rfl⟩,fun c cs=>?_⟩
   let b:Frame:={(default:Frame) with fn:=fn,kind:=.normal,roundOf:=some L}
   have am:Frame.round L fn Y Z G .normal=b.atR {tmps:=Y,defers:=[]} [.code Z,.beginRound,.code G]:=by
    simp [Frame.round,Frame.atR,b]
   have ag:Rel σ {s with low:=s.n} w:=h.low rfl rfl
   have he:ER σ b {nt:=nt,ro:=some l,fn:=fn,t:=t',ds:=[],s:={s with low:=s.n},r:=.no} {tmps:=Y,defers:=[]} c.mode:=
    ⟨k2,.nil,.normal _,rfl,L,base,sz,rfl,hL,rfl⟩
   have u:IG b.kind (fun _=>c::cs):=.inl rfl;rw [am];split at m
   ·rename_i e hc
    obtain ⟨τ,a',m',w',q1,q2,q3⟩:=iH hN p n Z σ w b (fun _=>c::cs) [.beginRound,.code G] _ _ _ _ _ u hc ag he;split at m
    ·rename_i C aa ax az ay a1 b1 d' ad
     have ab:=q2.ext _ _ _ hL;obtain ⟨T2,aj,ak,ah,ba,u2,u3,u4,u5⟩:=KJ q2.rel ad ab;have an:=run_beginRound (P:=P) u2 rfl;have q:=WY (st':=.busy) (pe':=C) q2.rel ad ab u2 u3 u4 u5
     have M:Steps P (lone (b.atR {tmps:=Y,defers:=[]} [.code Z,.beginRound,.code G]) (c::cs) w) (lone (b.atR a' [.code G]) (c::cs) (w'.putObj L (.loop {state:=.busy,pending:=C,fn:=aa,tmps:=T2,params:=aj,assign:=a1,body:=b1,defers:=ak}))):=
      Steps.trans q3 (.one (stepR_beginRound rfl an))
     have D:=q2.trans q;have J:ER τ b {e with s:=e.s.put l (.loop .busy C aa ax az ay a1 b1 d')} a' m':=q1.sto _
     have fin:∀ (k:Option Code) (F:Env) (τ2:Sg) (I:World) (a2:Act) (O:FrameMode),eD s l k F=some (res,rr)->ER τ2 b F a2 O->Stp σ {s with low:=s.n} w τ2 F.s I->
      (∀ (V:Value) (w3:World),(Instr.endRound L k).run P I=.ok V w3->Steps P (lone (b.atR {tmps:=Y,defers:=[]} [.code Z,.beginRound,.code G]) (c::cs) w) (lone (c.finish V) cs w3))->
      aSt P σ s w (lone (b.atR {tmps:=Y,defers:=[]} [.code Z,.beginRound,.code G]) (c::cs) w) c cs res:=by
      intro k F τ2 I a2 O o bj E N;unfold eD at o;split at o
      ·rename_i bn bl bh bk t3 bm a3 b3 d3 ae bc
       simp only [Option.some.injEq,Prod.mk.injEq]at o;obtain ⟨rfl,rfl⟩:=o;have ac:=E.ext _ _ _ hL;obtain ⟨T3,be,bf,ai,bb,v2,v3,v4,v5⟩:=KJ E.rel ae ac;have aq:=run_endRound (P:=P) k v2;have S:=WY (st':=if k.isNone then .ready else .done) (pe':=k) E.rel ae ac v2 v3 v4 v5;refine ⟨τ2,.bool k.isNone,_,.bool _,?_,N _ _ aq⟩;have h4:=WZ (E.trans S)
       have R:(bif k.isNone then LoopState.ready else .done)=if k.isNone then LoopState.ready else .done:=by cases k<;>rfl
       rw [R];exact h4
      ·cases o
     split at m
     ·rename_i F B
      obtain ⟨τ2,a2,O,I,Q,U,X⟩:=iH hN p n G τ _ b (fun _=>c::cs) [] _ _ _ _ _ u B q.rel J
      exact fin none F τ2 I a2 O m Q (D.trans U) fun V w3 hV=>(M.trans X).trans (.one (stepR_round_end rfl rfl hV))
     ·rename_i F B
      obtain ⟨τ2,a2,O,I,Q,U,k₁,X⟩:=iH hN p n G τ _ b (fun _=>c::cs) [] _ _ _ _ _ u B q.rel J
      exact fin (some .ret) F τ2 I a2 O m Q (D.trans U) fun V w3 hV=>(M.trans X).trans (.one (stepR_round_ret rfl rfl hV))
     ·rename_i id F B
      obtain ⟨τ2,a2,O,I,Q,U,X⟩:=iH hN p n G τ _ b (fun _=>c::cs) [] _ _ _ _ _ u B q.rel J;obtain ⟨k₁,hk,r4⟩:=X.2 (by simp [exitTo])
      exact fin (some (.exit id)) F τ2 I a2 O m Q (D.trans U) fun V w3 hV=>(M.trans r4).trans (.one (stepR_round_exit rfl rfl hk hV))
     ·rename_i v F B
      obtain ⟨τ2,a2,O,I,Q,U,V,todo,X,r4⟩:=iH hN p n G τ _ b (fun _=>c::cs) [] _ _ _ _ _ u B q.rel J;split at m
      ·rename_i ap
       cases H:okFn P F.fn with
       | false=>rw [H]at m;cases m
       | true=>
         rw [H]at m;simp only [cond_true,Option.some.injEq,Prod.mk.injEq]at m;obtain ⟨rfl,rfl⟩:=m
         have au:∃ g,P.funcs[fn]?=some g:=by
          have ar:fn=F.fn:=Q.fn;rw [ar];unfold okFn at H;split at H
          ·rename_i g av;exact ⟨g,av⟩
          ·cases H
         have ao:a2.defers=[]:=by
          have:=Q.df;rw [ap]at this
          cases hh:a2.defers with
          | nil=>rfl
          | cons x y=>rw [hh]at this;cases this
         refine ⟨τ2,V,I,X,WZ (D.trans U),(M.trans r4).trans (.one ?_)⟩;exact step_leave_panicked (fr:={b.atR a2 todo with mode:=.panicking [{v:=V,recovered:=false}]}) ⟨rfl,ao,au⟩
      ·cases m
     ·cases m
    ·cases m
   ·cases m
  ·cases m
 ·cases m
def aPp (P:Program) (σ:Sg) (s:Sto) (w:World) (kd:CallKind) (f:FuncId) (fn:Func) (stk:FrameMode->List Frame) (M:Machine):CRes->Prop
 | .ret v b=>∃ τ V w' fr a,VR τ v V/\CStp σ s w τ b w'/\RM τ kd .no a/\Steps P M (lone fr (stk a) w')/\fr.mode=.returning/\fr.defers=[]/\fr.kind=kd/\fr.fn=f/\(results fn fr.tmps).run P w'=.ok V w'
 | .pan v b=>∃ τ V w' fr a,VR τ v V/\CStp σ s w τ b w'/\RM τ kd .no a/\Steps P M (lone fr (stk a) w')/\fr.mode=.panicking [{v:=V,recovered:=false}]/\fr.defers=[]/\fr.kind=kd/\fr.fn=f
def dE (P:Program) (f:FuncId) (args:List AV) (s:Sto) (res:CRes):Prop:=
 okFn P f=true/\∃ fn,P.funcs[f]?=some fn/\∀ (σ:Sg) (w:World) (A:Array Value) (kd:CallKind) (stk:FrameMode->List Frame) (m:FrameMode),Rel σ s w->VRs σ args A.toList->IG kd stk->RM σ kd .no m->
  aPp P σ s w kd f fn stk (lone (Frame.enter P f A kd) (stk m) w) res
def jY (P:Program) (O:Orc):Prop:=∀ f args s res,O f args s=some res->dE P f args s res
theorem sound_of_dfunc {call:bR} (M:sX P call) (L:XD P call) (d:∀ v args s r x,call v args s r=some x->∃ f a c,v=.func f a c) {n:Nat} {f:FuncId} {args:List AV} {s:Sto} {res:CRes} (h:qD P call n f args s .no=some (res,.no)):dE P f args s res:=by
 obtain ⟨C,fn,B,y⟩:=EP M L d h;refine ⟨C,fn,B,fun σ w A kd stk m b N l D=>?_⟩;obtain ⟨τ,R,F,w',e',todo,O,G,H,I,J⟩:=y (kd:=kd) (stk:=stk) (m:=m) b N l D;have e:RM τ kd e'.r F:=O.rc
 cases res with
 | ret v Q=>
   obtain ⟨rfl,V,u,k,E⟩:=J;obtain ⟨ρ,o,p,q⟩:=pX (v:=v) b G;exact ⟨ρ,V,w',_,F,p V u,o,by rw [H];exact q _ _ e,E,rfl,I,rfl,rfl,k⟩
 | pan v Q=>
   obtain ⟨rfl,V,u,E⟩:=J;obtain ⟨ρ,o,p,q⟩:=pX (v:=v) b G;exact ⟨ρ,V,w',_,F,p V u,o,by rw [H];exact q _ _ e,E,rfl,I,rfl,rfl⟩
theorem zP {O:Orc} {a:AV} {args:List AV} {s:Sto} {r:ARec} {res:CRes} (h:BP O a args s r=some res):r=.no/\∃ g first cap,a=.func (.func g) first cap/\O g (first++args++cap) s=some res:=by
 unfold BP at h;split at h
 ·refine ⟨rfl,?_⟩
  split at h
  ·exact ⟨_,_,_,rfl,h⟩
  ·cases h
 ·cases h
theorem uN {O:Orc}:∀ (n:Nat) (v:AV) (args:List AV) (s:Sto) (r:ARec) (x:CRes × ARec),aP P O n v args s r=some x->∃ f a c,v=.func f a c:=by
 intro n v args s r x h
 cases n with
 | zero=>simp [aP]at h
 | succ n=>
   simp only [aP]at h;split at h
   ·rename_i res d
    obtain ⟨_,g,first,cap,b,_⟩:=zP d;exact ⟨_,_,_,b⟩
   ·cases v with
    | func f a c=>exact ⟨_,_,_,rfl⟩
    | _=>simp [gU]at h
theorem nS {O:Orc} (hO:jY P O):∀ n:Nat,sX P (aP P O n)/\XD P (aP P O n):=by
 intro n
 induction n with
 | zero=>exact ⟨fun σ S w f F first cap args C A res rr h=>by simp [aP]at h,fun σ S w f F first cap args C A r r' m res h=>by simp [aP]at h⟩
 | succ n ih=>
   obtain ⟨hN,hD⟩:=ih;have D:=uN (P:=P) (O:=O) n;constructor
   ·intro σ S w f F first cap args C A res rr h a T e d
    simp only [aP]at h;split at h
    ·rename_i H Z
     simp only [Option.some.injEq,Prod.mk.injEq]at h;obtain ⟨rfl,rfl⟩:=h;obtain ⟨_,g,M,aa,Y,Z⟩:=zP Z;cases Y;cases T;obtain ⟨o,fn,k,G⟩:=hO _ _ _ _ Z;have ht:=kZ (P:=P) (w:=w) (tgt:=.fn g (first++args++cap)) a rfl (.func g) e d;obtain ⟨J,N,Q⟩:=ht o;refine ⟨_,_,Q,.inl ⟨g,J,rfl,rfl⟩,fun c cs=>?_⟩;have:=G σ w J .normal (fun _=>c::cs) c.mode a N (.inl rfl) (.normal _)
     cases H with
     | ret v so=>
       obtain ⟨τ,V,w',fr,q,R,u,_,I,y,B,q6,q7,q8⟩:=this;exact ⟨τ,V,w',R,u,I.trans (.one (step_leave_returned ⟨y,B,q6,fn,by rw [q7];exact k,q8⟩))⟩
     | pan v so=>
       obtain ⟨τ,V,w',fr,q,R,u,_,I,y,B,q6,q7⟩:=this;have:=step_leave_panicked (P:=P) (fr:=fr) (c:=c) (cs:=cs) (w:=w') ⟨y,B,fn,by rw [q7];exact k⟩;exact ⟨τ,V,w',R,u,I.trans (.one this)⟩
    split at h
    ·rename_i g as p
     have ht:=kZ (P:=P) a p T e d;obtain ⟨o,fn,k,X⟩:=EP hN hD D h;obtain ⟨J,N,Q⟩:=ht o;refine ⟨_,_,Q,.inl ⟨g,J,rfl,rfl⟩,fun c cs=>?_⟩;obtain ⟨τ,a',q,w',e',todo,R,u,I,y,B⟩:=X (kd:=.normal) (stk:=fun _=>c::cs) (m:=c.mode) a N (.inl rfl) (.normal _)
     cases res with
     | ret v so=>
       obtain ⟨rfl,V,hV,E,hs⟩:=B;obtain ⟨ρ,U,c2,_⟩:=pX (v:=v) a u;exact ⟨ρ,V,w',c2 V hV,U,hs.trans (.one (step_leave_returned (fr:={({(default:Frame) with fn:=g,kind:=.normal}:Frame).atR a' todo with mode:=.returning}) ⟨rfl,y,rfl,fn,k,E⟩))⟩
     | pan v so=>
       obtain ⟨rfl,V,hV,hs⟩:=B;obtain ⟨ρ,U,c2,_⟩:=pX (v:=v) a u;exact ⟨ρ,V,w',c2 V hV,U,hs.trans (.one (step_leave_panicked (fr:={({(default:Frame) with fn:=g,kind:=.normal}:Frame).atR a' todo with mode:=.panicking [{v:=V,recovered:=false}]}) ⟨rfl,y,fn,k⟩))⟩
    ·rename_i l as p
     obtain ⟨L,b,sz,rfl,hL,hA⟩:=kZ (P:=P) a p T e d;obtain ⟨nx,fr,N,Q,h3⟩:=aAn hN D h a hL hA;refine ⟨nx,fr,by simpa [invoke] using N,Q,fun c cs=>?_⟩;have:=h3 c cs;cases res<;>exact this
    ·cases h
   ·intro σ S w f F first cap args C A r r' m res h hy a T e d ac
    simp only [aP]at h;split at h
    ·rename_i H Z
     simp only [Option.some.injEq,Prod.mk.injEq]at h;obtain ⟨rfl,rfl⟩:=h;obtain ⟨rfl,g,M,aa,Y,Z⟩:=zP Z;cases Y;cases T;obtain ⟨o,fn,k,G⟩:=hO _ _ _ _ Z;have ht:=kZ (P:=P) (w:=w) (tgt:=.fn g (first++args++cap)) a rfl (.func g) e d;obtain ⟨J,N,Q⟩:=ht o;refine ⟨g,J,Q,fun c cs=>?_⟩;have:=G σ w J .deferred (fun m=>{c with mode:=m}::cs) m a N (.inr ⟨rfl,c,cs,rfl⟩) ac
     cases H with
     | ret v so=>
       obtain ⟨τ,V,w',fr,q,R,u,q9,I,y,B,q6,q7,q8⟩:=this;refine ⟨τ,w',q,q9,u,I.trans (.one ?_)⟩;exact step_going_returned (P:=P) (fr:=fr) (c:={c with mode:=q}) (cs:=cs) (w:=w') (v:=V) q6 ⟨y,B,fn,by rw [q7];exact k,q8⟩
     | pan v so=>
       obtain ⟨τ,V,w',fr,q,R,u,q9,I,y,B,q6,q7⟩:=this;refine ⟨τ,V,w',q,R,q9,u,I.trans (.one ?_)⟩;exact step_going_panicked (P:=P) (fr:=fr) (c:={c with mode:=q}) (cs:=cs) (w:=w') (chain:=[{v:=V,recovered:=false}]) ⟨y,B,fn,by rw [q7];exact k⟩
    split at h
    ·rename_i g as p
     have ht:=kZ (P:=P) a p T e d;obtain ⟨o,fn,k,X⟩:=EP hN hD D h;obtain ⟨J,N,Q⟩:=ht o;refine ⟨g,J,Q,fun c cs=>?_⟩;obtain ⟨τ,a',q,w',e',todo,R,u,I,y,B⟩:=X (kd:=.deferred) (stk:=fun m=>{c with mode:=m}::cs) (m:=m) a N (.inr ⟨rfl,c,cs,rfl⟩) ac;have ab:RM τ .deferred e'.r q:=R.rc;subst I
     cases res with
     | ret v so=>
       obtain ⟨rfl,V,hV,E,hs⟩:=B;obtain ⟨ρ,U,c2,c3⟩:=pX (v:=v) a u;refine ⟨ρ,w',q,c3 _ _ ab,U,hs.trans (.one ?_)⟩;have:=step_going_returned (P:=P) (fr:={({(default:Frame) with fn:=g,kind:=.deferred}:Frame).atR a' todo with mode:=.returning}) (c:={c with mode:=q}) (cs:=cs) (w:=w') (v:=V) rfl ⟨rfl,y,fn,k,E⟩;exact this
     | pan v so=>
       obtain ⟨rfl,V,hV,hs⟩:=B;obtain ⟨ρ,U,c2,c3⟩:=pX (v:=v) a u;refine ⟨ρ,V,w',q,c2 V hV,c3 _ _ ab,U,hs.trans (.one ?_)⟩;have:=step_going_panicked (P:=P) (fr:={({(default:Frame) with fn:=g,kind:=.deferred}:Frame).atR a' todo with mode:=.panicking [{v:=V,recovered:=false}]}) (c:={c with mode:=q}) (cs:=cs) (w:=w') (chain:=[{v:=V,recovered:=false}]) ⟨rfl,y,fn,k⟩;exact this
    ·rename_i l as p
     obtain ⟨L,b,sz,rfl,hL,hA⟩:=kZ (P:=P) a p T e d;cases T;simp [yE]at hy
    ·cases h
theorem EL {O:Orc} (a:jY P O) {n:Nat} {f:FuncId} {args:List AV} {s:Sto} {res:CRes} (h:qD P (aP P O n) n f args s .no=some (res,.no)):dE P f args s res:=
 sound_of_dfunc (nS a n).1 (nS a n).2 (uN n) h
def Returns (P:Program) (f:FuncId) (args:List AV) (v:AV):Prop:=∀ s,dE P f args s (.ret v none)
theorem aFr {T:jN} (b:∀ x∈T,Returns P x.1 x.2.1 x.2.2):jY P (tab T):=by
 intro f args s res h
 induction T with
 | nil=>cases h
 | cons x T c=>
   unfold tab at h
   cases a:(Nat.beq x.1 f&&fO (AV.beq 1000) x.2.1 args) with
   | true=>
     rw [a]at h;simp at h;subst h;simp only [Bool.and_eq_true]at a;rw [<-rC (AV.beq_eq 1000) _ _ a.2,<-kA _ _ a.1];exact b x (List.mem_cons_self ..) s
   | false=>
     rw [a]at h;exact c (fun x a=>b x (List.mem_cons_of_mem _ a)) h
theorem Sto.empty_get (id:Nat):Sto.empty.get id=none:=by rw [Sto.get_eq];simp [Sto.empty]
theorem sound_empty {f:FuncId} {args:List AV} {res:CRes} (O:∀ σ:Sg,∀ A,VRs σ args A->VRs (σ.cut 0) args A) (h:dE P f args .empty res) (l:∃ v,res=.ret v none∨res=.pan v none) (s:Sto):dE P f args s res:=by
 obtain ⟨D,fn,C,N⟩:=h;refine ⟨D,fn,C,fun σ w A kd stk m c M p E=>?_⟩
 have e:∀ id g,(σ.cut 0) id g=none:=fun id g=>by simp only [Sg.cut];rw [if_neg (by omega)]
 have k:Rel (σ.cut 0) Sto.empty w:=
  {obj:=fun id x a=>(by rw [Sto.empty_get]at a;cases a),inj:=fun id x Q R b base sz base' sz' a=>(by rw [Sto.empty_get]at a;cases a),
   mu:=fun b off V L=>⟨(c.mu b off V L).1,fun ⟨id,x,base,sz,a,_⟩=>(by rw [Sto.empty_get]at a;cases a)⟩,
   bnd:=fun id g x a=>(by rw [e]at a;cases a),gen:=fun id x g y a=>(by rw [Sto.empty_get]at a;cases a),top:=fun id _=>rfl}
 have o:RM (σ.cut 0) kd .no m:=by cases E with
  | normal m=>exact .normal m
  | quiet=>exact .quiet
 have:=N (σ.cut 0) w A kd stk m k (O σ _ M) p o
 have u:∀ (τ:Sg) (w':World),QStp (σ.cut 0) w τ w'->∃ ρ,τ.le ρ/\QStp σ w ρ w':=by
  intro τ w' q;refine ⟨⟨τ.m,σ.s⟩,⟨fun id g x a=>?_,fun _ _ _ h=>h⟩,q.q,⟨fun _ _ _ h=>h,q.le.m⟩,rfl,q.m⟩;have r:τ.s id g=some x:=a;rw [q.s]at r;exact (Sg.cut_le σ 0) _ _ _ r
 obtain ⟨v,rfl | rfl⟩:=l
 ·obtain ⟨τ,V,w',fr,F,G,H,J,I⟩:=this
  obtain ⟨ρ,d,B⟩:=u τ w' H;exact ⟨ρ,V,w',fr,F,G.mono d,B,J.mono d,I⟩
 ·obtain ⟨τ,V,w',fr,F,G,H,J,I⟩:=this
  obtain ⟨ρ,d,B⟩:=u τ w' H;exact ⟨ρ,V,w',fr,F,G.mono d,B,J.mono d,I⟩
theorem TE {O:Orc} (e:jY P O) {n:Nat} {f:FuncId} {args:List AV} {v:AV} (h:aSx P O n f args v=true):Returns P f args v:=by
 simp only [aSx,Bool.and_eq_true]at h;obtain ⟨k,h⟩:=h;split at h
 ·rename_i v' a
  have l:=AV.beq_eq _ _ _ h;subst l;exact sound_empty (fun σ A c=>⟨c.1,fun i x X b d=>VR.cut _ _ _ (List.all_eq_true.1 k x (List.mem_of_getElem? b)) (c.2 i x X b d)⟩) (EL e a) ⟨_,.inl rfl⟩
 ·cases h
theorem aFs {f:FuncId} {args:List AV} {v:AV} (h:dE P f args .empty (.ret v none)) {A:Array Value} {w:World} {σ:Sg} (p:∀ b off V,σ.m b off=some V->w.cell? ⟨b,off,none⟩=some V) (B:∀ id g,σ id g=none) (o:VRs σ args A.toList):
 Calls P f A w fun
  | .returned V,w'=>(∃ τ,VR τ v V/\QStp σ w τ w')/\Quiet w w'
  | _,_=>False:=by
 obtain ⟨r,fn,d,u⟩:=h
 have c:Rel σ Sto.empty w:=
  {obj:=fun id x a=>(by rw [Sto.empty_get]at a;cases a),inj:=fun id x C L b base sz base' sz' a=>(by rw [Sto.empty_get]at a;cases a),mu:=fun b off V l=>⟨p b off V l,fun ⟨id,x,base,sz,a,_⟩=>(by rw [Sto.empty_get]at a;cases a)⟩,
   bnd:=fun id g x a=>(by rw [B]at a;cases a),gen:=fun id x g y a=>(by rw [Sto.empty_get]at a;cases a),top:=fun id _=>rfl}
 intro cs;obtain ⟨τ,V,w',fr,J,D,e,_,E,F,G,H,k,I⟩:=u _ w A .normal (fun _=>cs) .run c o (.inl rfl) (.normal _);exact ⟨.returned V,w',fr,⟨⟨τ,D,e⟩,QStp.q e⟩,E,k,F,G,H,fn,by rw [k];exact d,I⟩
end
end Go.Abs
/-
 The abstract machine: a law mS arguments.
-/
namespace Go.Abs
open Go.ChangeShapes
theorem post_quiet {H:Type} {enc:TypeId × Value->H} {P:Program} {f:Func} {s:ChangeSpec} {oV o c m:Bool} {W l:World} {args:Array Value} {v:Value} {A B:List (DataW H)} {a pa pv:List MemPlace}
 (C:DataW.Whole enc P f.params.toList s.vars oV W args.toList A B a)
 (k:∀ (b:Nat) (y:Nat->Bool) (L:Bool),DataW.TrodAll enc P l b y L f.resultTypes.toList (v.resultList f.resultTypes.size) (s.fn H (A++B)).results [])
 (d:∀ y:Nat->Bool,(∀ p∈a,y p.block=true)->DataW.TrodAll enc P l 0 y true f.params.toList args.toList (s.fn H (A++B)).args pa)
 (e:∀ y:Nat->Bool,(∀ p∈a,y p.block=true)->DataW.TrodVars enc P l y s.vars (s.fn H (A++B)).vars pv)
 (w:a=pa++pv) (q:Quiet W l)
 (E:∀ (j:Nat) (t:TypeId) (r:Value),f.resultTypes[j]?=some t->(v.resultList f.resultTypes.size)[j]?=some r->Value.okWide P l .any 0 t r):
 s.post enc P f oV o c m W args v l:=by
 have h:∀ p∈a,(fun b=>decide (b<W.heap.size)) p.block=true:=fun p u=>by simpa using C.lt p u
 have M:W.keptBut l (fun _=>False):=⟨q.os,q.out,fun i F=>by rw [q.heap i F];exact (World.keptBut_refl W (fun _=>False)).2.2 i F⟩
 refine ⟨A,B,a,[],pa,pv,C,k _ _ _,d _ h,e _ h,World.keptBut_mono (fun p u=>u.elim) M,fun _=>?_⟩;have D:=C.lt;obtain ⟨_,_,_,_,_,O,N⟩:=C;refine ⟨E,_,_,([]++pa)++pv,⟨[]++pa,pv,trodAll_append (d _ (fun _ _=>rfl)) (k _ _ _),e _ (fun _ _=>rfl),rfl,?_,?_⟩,?_⟩
 ·intro b off u
  have G:MemPlace.cell b off∈a:=by rw [w];simpa using u
  have J:b<W.heap.size:=D _ G;have:=O b off G;simp only [World.frozen?]at this ⊢;rw [q.heap b J];exact this
 ·intro I
  have:=N I;rw [w]at this
  simpa using this
 ·intro p u _
  rw [w]
  simpa using u
theorem law_of {P:Program} {f:FuncId} {args:List AV} (h:dE P f args .empty (.ret (.bool true) none)) {A:Array Value} {w:World} {σ:Sg} (l:∀ b off V,σ.m b off=some V->w.cell? ⟨b,off,none⟩=some V) (o:∀ id g,σ id g=none) (k:VRs σ args A.toList):
 Calls P f A w fun e w'=>e=.returned (.bool true)/\Quiet w w':=by
 refine (aFs h l o k).mono fun e w' a=>?_
 cases e with
 | returned V=>obtain ⟨⟨τ,c,_⟩,d⟩:=a;exact ⟨by rw [xT c],d⟩
 | _=>exact a.elim
end Go.Abs
