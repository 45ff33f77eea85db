/-
  The abstract machine: bodies that are left with deferred calls; calls that are run in place.
-/
import Derived.Test.YtajngkkihadgfaaEk
set_option linter.unusedVariables false
set_option linter.unusedSimpArgs false
namespace Go.Abs
noncomputable section
variable {P:Program} {O:bP}
def Lv (P:Program) (O:bP) (fn:Func) (mode:Option AV) (e:Env) (R:LRes->Env->Prop):Prop:=∃ n lr e',dleave P (aQ P O n) fn n mode e=some (lr,e')/\R lr e'
def WcallR (P:Program) (O:bP) (fv:AV) (args:List AV) (s:Sto) (r:ARec) (K:CRes->ARec->Prop):Prop:=∃ n res rr,aQ P O n fv args s r=some (res,rr)/\K res rr
theorem jO {fn:Func} {e:Env} {R:LRes->Env->Prop} (hd:e.ds=[]) {vs:List AV} (hr:aW P e fn.results.toList=some vs) (h:R (.ret (oA vs)) e):Lv P O fn none e R:=by
 refine ⟨1,.ret (oA vs),e,?_,h⟩
 simp only [dleave,hd,hr]
 match vs with
 | []=>rfl
 | [v]=>rfl
 | _::_::_=>rfl
theorem QT {fn:Func} {e:Env} {R:LRes->Env->Prop} {v:AV} (hd:e.ds=[]) (h:R (.pan v) e):Lv P O fn (some v) e R:=⟨1,.pan v,e,by simp only [dleave,hd],h⟩
theorem aOa {fn:Func} {n m:Nat} (h:n<=m) {mode:Option AV} {e:Env} {x:LRes × Env} (hx:dleave P (aQ P O n) fn n mode e=some x):dleave P (aQ P O m) fn m mode e=some x:=iC (cP n m h) n m mode e x h hx
theorem UF {fn:Func} {mode:Option AV} {e:Env} {R:LRes->Env->Prop} {id:Nat} {ds l:List ADef} (hd:e.ds=.collected id::ds) (hg:e.s.get id=some (.defs (some l)))
 (h:Lv P O fn mode {e with ds:=l++ds,s:=e.s.put id (.defs none)} R):Lv P O fn mode e R:=by
 obtain ⟨n,lr,e',h1,h2⟩:=h
 refine ⟨n+1,lr,e',?_,h2⟩
 simp only [dleave,hd,hg]
 exact iC (cP n (n+1) (by omega)) n n _ _ _ (Nat.le_refl n) h1
theorem UG {fn:Func} {e:Env} {R:LRes->Env->Prop} {fv:AV} {args:List AV} {ds:List ADef} (hd:e.ds=.call fv args::ds) (hy:rO fv=false)
 (h:WcallR P O fv args e.s .no fun res rr=>rr=.no/\match res with
   | .ret _ so=>Lv P O fn none {e with ds:=ds,s:=so.getD e.s} R
   | .pan v so=>Lv P O fn (some v) {e with ds:=ds,s:=so.getD e.s} R):Lv P O fn none e R:=by
 obtain ⟨n,res,rr,h1,rfl,h2⟩:=h
 cases res with
 | ret v so=>
   obtain ⟨m,lr,e',h3,h4⟩:=h2
   refine ⟨max n m+1,lr,e',?_,h4⟩
   simp only [dleave,hd,hy,cond_false,cP n (max n m+1) (by omega) _ _ _ _ _ h1]
   have:=iC (cP m (max n m+1) (by omega)) m (max n m) _ _ _ (by omega) h3
   cases so<;>exact this
 | pan v so=>
   obtain ⟨m,lr,e',h3,h4⟩:=h2
   refine ⟨max n m+1,lr,e',?_,h4⟩
   simp only [dleave,hd,hy,cond_false,cP n (max n m+1) (by omega) _ _ _ _ _ h1]
   have:=iC (cP m (max n m+1) (by omega)) m (max n m) _ _ _ (by omega) h3
   cases so<;>exact this
theorem NC {fn:Func} {e:Env} {R:LRes->Env->Prop} {fv p:AV} {args:List AV} {ds:List ADef} (hd:e.ds=.call fv args::ds) (hy:rO fv=false)
 (h:WcallR P O fv args e.s (.pan p) fun res rr=>match res,rr with
   | .ret _ so,.recd _=>Lv P O fn none {e with ds:=ds,s:=so.getD e.s} R
   | .ret _ so,.pan p'=>Lv P O fn (some p') {e with ds:=ds,s:=so.getD e.s} R
   | _,_=>False):Lv P O fn (some p) e R:=by
 obtain ⟨n,res,rr,h1,h2⟩:=h
 cases res with
 | ret v so=>
   cases rr with
   | no=>exact h2.elim
   | recd q=>
     obtain ⟨m,lr,e',h3,h4⟩:=h2
     refine ⟨max n m+1,lr,e',?_,h4⟩
     simp only [dleave,hd,hy,cond_false,cP n (max n m+1) (by omega) _ _ _ _ _ h1]
     have:=iC (cP m (max n m+1) (by omega)) m (max n m) _ _ _ (by omega) h3
     cases so<;>exact this
   | pan q=>
     obtain ⟨m,lr,e',h3,h4⟩:=h2
     refine ⟨max n m+1,lr,e',?_,h4⟩
     simp only [dleave,hd,hy,cond_false,cP n (max n m+1) (by omega) _ _ _ _ _ h1]
     have:=iC (cP m (max n m+1) (by omega)) m (max n m) _ _ _ (by omega) h3
     cases so<;>exact this
 | pan v so=>exact h2.elim
def ND (P:Program) (O:bP) (fn:Func) (R:LRes->Env->Prop):Ex->Env->Prop
 | .normal,e=>Lv P O fn none e R
 | .ret,e=>Lv P O fn none e R
 | .panic v,e=>Lv P O fn (some v) e R
 | _,_=>False
def WV (s:Sto) (res:CRes) (lr:LRes) (e:Env):Prop:=e.r=.no/\match lr,res with
 | .ret v,.ret v' so=>eQ s e.s v v' so
 | .pan v,.pan v' so=>eQ s e.s v v' so
 | _,_=>False
theorem NE (hO:vH P O) {f:FuncId} {fn:Func} {c:Code} {args:List AV} {s:Sto} {res:CRes} (hok:okFn P f=true) (hf:P.funcs[f]?=some fn) (hb:fn.body=some c)
 (h:W P O c (HA fn f args s) (ND P O fn (WV s res))):dZ P f args s res:=by
 obtain ⟨n0,ex,e,hc,hQ⟩:=h
 refine ⟨hok,fn,hf,fun σ w A kd stk m hrel ha hstk hrm=>?_⟩
 have hrel':Rel σ {s with low:=s.n} w:=hrel.low rfl rfl
 have he:ER σ {(default:Frame) with fn:=f,kind:=kd} (HA fn f args s) {tmps:=A++Array.replicate (fn.ntmps-A.size) undef,defers:=[]} m:=
  ⟨DU ha _,.nil,hrm,rfl,rfl⟩
 have henter:Frame.enter P f A kd=({(default:Frame) with fn:=f,kind:=kd}:Frame).atR {tmps:=A++Array.replicate (fn.ntmps-A.size) undef,defers:=[]} [.code c]:=by
  simp [Frame.enter,Frame.atR,hf,hb]
  rfl
 rw [henter]
 have hfin:∀ {lr:LRes} {e':Env} {M:Machine},LeftE P σ {s with low:=s.n} w M {(default:Frame) with fn:=f,kind:=kd} stk fn lr e'->WV s res lr e'->aLz P σ s w kd f fn stk M res:=by
  rintro lr e' M ⟨τ,a',m',w',todo,q1,q2,q4,q5⟩ ⟨hr,hcl⟩
  have hrc:∀ ρ,RM ρ kd .no m':=fun ρ=>by
   have:=q1.rc
   rw [hr]at this
   cases this with
   | normal m=>exact .normal _
   | quiet=>exact .quiet
  cases lr with
  | ret v=>
    cases res with
    | ret v' so=>
      obtain ⟨ρ,c1,c2⟩:=hcl σ τ w w' hrel q2
      obtain ⟨V,g2,g3,g4⟩:=q5
      exact ⟨ρ,V,w',_,m',c2 V g2,c1,hrc ρ,g4,rfl,q4,rfl,rfl,g3⟩
    | pan v' so=>exact hcl.elim
  | pan v=>
    cases res with
    | ret v' so=>exact hcl.elim
    | pan v' so=>
      obtain ⟨ρ,c1,c2⟩:=hcl σ τ w w' hrel q2
      obtain ⟨V,g2,g3⟩:=q5
      exact ⟨ρ,V,w',_,m',c2 V g2,c1,hrc ρ,g3,rfl,q4,rfl,rfl⟩
 obtain ⟨τ,a',m',w',h1,h2,h3⟩:=jA (nZ hO n0).1 (tV n0) n0 c σ w _ stk [] _ _ m _ _ hstk hc hrel' he
 cases ex with
 | normal=>
   obtain ⟨n,lr,e',hl,hR⟩:=hQ
   exact hfin ((nH (nZ hO n).2 (todo:=[]) n none e lr e' τ w' a' m' .returning hl h2.rel h1 .ret).of (Steps.trans h3 (.one (stepR_end rfl))) h2) hR
 | ret=>
   obtain ⟨n,lr,e',hl,hR⟩:=hQ
   obtain ⟨k₁,h3⟩:=h3
   exact hfin ((nH (nZ hO n).2 n none e lr e' τ w' a' m' .returning hl h2.rel h1 .ret).of (Steps.trans h3 (.one (stepR_ret rfl))) h2) hR
 | panic v=>
   obtain ⟨n,lr,e',hl,hR⟩:=hQ
   obtain ⟨V,todo,hV,h3⟩:=h3
   exact hfin ((nH (nZ hO n).2 n (some v) e lr e' τ w' a' m' _ hl h2.rel h1 (.pan v V hV)).of h3 h2) hR
 | _=>exact hQ.elim
def IU (fn:Func) (f:FuncId) (args:List AV) (s:Sto) (r:ARec):Env:=⟨Nat.max args.length fn.ntmps,none,f,Tr.leaf.lay 0 args,[],{s with low:=s.n},r⟩
def clR (s:Sto) (K:CRes->ARec->Prop) (lr:LRes) (e:Env):Prop:=match lr with
 | .ret v=>K (.ret v (dE s v e)) e.r
 | .pan v=>K (.pan v (dE s v e)) e.r
theorem vF {g:FuncId} {first cap args:List AV} {s:Sto} {r:ARec} {K:CRes->ARec->Prop} {fn:Func} {c:Code} (ho:EL O (.func (.func g) first cap) args s r=none) (hok:okFn P g=true) (hf:P.funcs[g]?=some fn) (hb:fn.body=some c)
 (h:W P O c (IU fn g (first++args++cap) s r) (ND P O fn (clR s K))):WcallR P O (.func (.func g) first cap) args s r K:=by
 obtain ⟨n,ex,e,hc,hQ⟩:=h
 have key:∀ mode,(∀ m,n<=m->∀ x,dleave P (aQ P O m) fn m mode e=some x->qN P (aQ P O m) m g (first++args++cap) s r=zJ s (some x))->Lv P O fn mode e (clR s K)->WcallR P O (.func (.func g) first cap) args s r K:=by
  rintro mode hfn ⟨m,lr,e',hl,hR⟩
  have h1:=hfn (max n m) (Nat.le_max_left _ _) (lr,e') (aOa (Nat.le_max_right _ _) hl)
  have h2:∀ res rr,zJ s (some (lr,e'))=some (res,rr)->aQ P O (max n m+1) (.func (.func g) first cap) args s r=some (res,rr):=by
   intro res rr hx
   simp only [aQ,ho,oZ]
   rw [h1,hx]
  cases lr with
  | ret v=>exact ⟨_,_,_,h2 _ _ rfl,hR⟩
  | pan v=>exact ⟨_,_,_,h2 _ _ rfl,hR⟩
 have hdf:∀ m,n<=m->qN P (aQ P O m) m g (first++args++cap) s r=match (ex,e) with
  | (.normal,e)=>zJ s (dleave P (aQ P O m) fn m none e)
  | (.ret,e)=>zJ s (dleave P (aQ P O m) fn m none e)
  | (.panic v,e)=>zJ s (dleave P (aQ P O m) fn m (some v) e)
  | _=>none:=by
  intro m hm
  have hc':bI P (aQ P O m) m c {nt:=Nat.max (first++args++cap).length fn.ntmps,ro:=none,fn:=g,t:=Tr.leaf.lay 0 (first++args++cap),ds:=[],s:={s with low:=s.n},r:=r} = some (ex,e):=oT hm hc
  simp only [qN,hok,cond_true,hf,hb,hc']
  cases ex<;>rfl
 cases ex with
 | normal=>exact key none (fun m hm x hx=>by rw [hdf m hm];simp only [hx]) hQ
 | ret=>exact key none (fun m hm x hx=>by rw [hdf m hm];simp only [hx]) hQ
 | panic v=>exact key (some v) (fun m hm x hx=>by rw [hdf m hm];simp only [hx]) hQ
 | _=>exact hQ.elim
theorem WcallR.call {fv:AV} {args:List AV} {s:Sto} {K:CRes->Prop} (h:WcallR P O fv args s .no fun res _=>K res):Wcall P O fv args s K:=h
theorem lN {g:FuncId} {first cap args:List AV} {s:Sto} {K:CRes->Prop} {fn:Func} {c:Code} (ho:O g (first++args++cap) s=none) (hok:okFn P g=true) (hf:P.funcs[g]?=some fn) (hb:fn.body=some c)
 (h:W P O c (IU fn g (first++args++cap) s .no) (ND P O fn (clR s fun res _=>K res))):Wcall P O (.func (.func g) first cap) args s K:=
 (vF (r:=.no) (by simpa [EL] using ho) hok hf hb h).call
theorem eL {s:Sto} {v:AV} {e:Env} (h:e.s.low<s.n):dE s v e=some {e.s with low:=Nat.min s.low e.s.low}:=by
 have:Nat.ble s.n e.s.low=false:=by
  cases hb:Nat.ble s.n e.s.low with
  | false=>rfl
  | true=>have:=Nat.le_of_ble_eq_true hb;omega
 simp [dE,this]
theorem sF {s:Sto} {v:AV} {e:Env} (h:s.n<=e.s.low) (hu:v.under s.n 100=true) (hr:e.r=.no):dE s v e=none:=by
 have:Nat.ble s.n e.s.low=true:=by simpa using h
 simp [dE,this,hu,hr,EK]
end
end Go.Abs
