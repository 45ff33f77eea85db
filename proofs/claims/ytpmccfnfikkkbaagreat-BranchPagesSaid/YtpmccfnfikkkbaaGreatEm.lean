/-
  The abstract machine: ranges over functions.
-/
import Derived.Test.YtpmccfnfikkkbaaGreatEj
set_option linter.unusedVariables false
set_option linter.unusedSimpArgs false
namespace Go.Abs
noncomputable section
variable {P:Program} {O:Orc} {H:dT}
def SimX (l:Nat) (s a:Sto):Prop:=s.n<=a.n/\∀ id,id<s.n->id≠l->a.get id=s.get id
def Sim (s a:Sto):Prop:=s.n<=a.n/\∀ id,id<s.n->a.get id=s.get id
theorem Sim.refl (s:Sto):Sim s s:=⟨Nat.le_refl _,fun _ _=>rfl⟩
theorem Sim.trans {a b c:Sto} (h:Sim a b) (f:Sim b c):Sim a c:=⟨Nat.le_trans h.1 f.1,fun id e=>(f.2 id (Nat.lt_of_lt_of_le e h.1)).trans (h.2 id e)⟩
theorem Sim.x {l:Nat} {a b:Sto} (h:Sim a b):SimX l a b:=⟨h.1,fun id c _=>h.2 id c⟩
theorem SimX.trans {l:Nat} {a b c:Sto} (h:SimX l a b) (f:SimX l b c):SimX l a c:=⟨Nat.le_trans h.1 f.1,fun id e k=>(f.2 id (Nat.lt_of_lt_of_le e h.1) k).trans (h.2 id e k)⟩
theorem SimX.get {l:Nat} {a b:Sto} (h:SimX l a b) {id:Nat} {x:AObj} (c:a.get id=some x) (e:id≠l):b.get id=some x:=(h.2 id (Sto.get_lt c) e).trans c
theorem Sim.get {a b:Sto} (h:Sim a b) {id:Nat} {x:AObj} (c:a.get id=some x):b.get id=some x:=(h.2 id (Sto.get_lt c)).trans c
theorem Sim.low (s:Sto) (k:Nat):Sim s {s with low:=k}:=⟨Nat.le_refl _,fun _ _=>rfl⟩
theorem Sim.push (s:Sto) (x:AObj):Sim s (s.push x):=⟨Nat.le_succ _,fun id a=>by
 rw [Sto.get_push,if_neg (by omega)]⟩
theorem SimX.put (s:Sto) (l:Nat) (x:AObj):SimX l s (s.put l x):=⟨Nat.le_refl _,fun id _ a=>by
 rw [Sto.get_put,if_neg (fun h=>a h.1)]⟩
theorem Sto.put_any {n low:Nat} {o:Tr AObj} {i:Nat} {x:AObj}:(Sto.mk n low o).put i x=⟨n,Nat.min i low,o.set i x⟩:=by
 have h:=Sto.low_put (Sto.mk n low o) i x;have:(Sto.mk n low o).put i x=⟨n,((Sto.mk n low o).put i x).low,o.set i x⟩:=rfl;rw [this,h]
theorem Sto.put_low_le (s:Sto) (i:Nat) (x:AObj):(s.put i x).low<=i:=by
 rw [Sto.low_put];exact Nat.min_le_left _ _
theorem Sto.get_put_ne (s:Sto) {i j:Nat} (x:AObj) (h:j≠i):(s.put i x).get j=s.get j:=by
 rw [Sto.get_put,if_neg (fun a=>h a.1)]
theorem Sto.get_put_same (s:Sto) {i:Nat} (x:AObj) (h:i<s.n):(s.put i x).get i=some x:=by
 rw [Sto.get_put,if_pos ⟨rfl,h⟩]
theorem Sto.get_push_same (s:Sto) (x:AObj):(s.push x).get s.n=some x:=by
 rw [Sto.get_push,if_pos rfl]
theorem Sto.get_push_lt (s:Sto) (x:AObj) {i:Nat} (h:i<s.n):(s.push x).get i=s.get i:=(Sim.push s x).2 i h
theorem Wcall.mono {b:AV} {args:List AV} {s:Sto} {K a:CRes->Prop} (h:Wcall P O b args s K) (f:∀ res,K res->a res):Wcall P O b args s a:=by
 obtain ⟨n,res,k,c,e⟩:=h;exact ⟨n,res,k,c,f _ e⟩
def rK (l:Nat) (J:Nat->Sto->Prop) (D:Sto->Prop) (X:AV->Sto->Prop) (i:Nat) (s:Sto):CRes->Prop
 | .ret (.bool true) a=>(a.getD s).low<=l/\l<(a.getD s).n/\J (i+1) (a.getD s)
 | .ret (.bool false) a=>(a.getD s).low<=l/\D (a.getD s)
 | .pan v a=>(a.getD s).low<=l/\X v (a.getD s)
 | _=>False
def aSf (n:Nat) (J:Nat->Sto->Prop) (D:Sto->Prop) (X:AV->Sto->Prop) (s:Sto):CRes->Prop
 | .ret _ a=>J n (a.getD s)∨D (a.getD s)
 | .pan v a=>X v (a.getD s)
def aOt (P:Program) (O:Orc) (b:AV) (xs:List (List AV)):Prop:=∀ (l:Nat) (J:Nat->Sto->Prop) (D:Sto->Prop) (X:AV->Sto->Prop) (s:Sto),l<s.n->
 (∀ i s a,Sim s a->J i s->J i a)->(∀ s a,Sim s a->D s->D a)->(∀ v s a,Sim s a->X v s->X v a)->J 0 s->
 (∀ i x,xs[i]?=some x->∀ s,l<s.n->J i s->Wcall P O (.func (.yield l) [] []) x s (rK l J D X i s))->
 Wcall P O b [.func (.yield l) [] []] s (aSf xs.length J D X s)
theorem nL (s:Sto) (v:AV) (e:Env) (G:Sto->Prop) (f:∀ s c,Sim s c->G s->G c) (h:G e.s) (b:e.s.low<s.n∨G s):G ((fU s v e).getD s):=by
 cases a:fU s v e with
 | none=>
   rcases b with b | b
   ·rw [AN b]at a;cases a
   ·exact b
 | some c=>
   have:c = {e.s with low:=Nat.min s.low e.s.low}:=by
    unfold fU at a
    cases k:(Nat.ble s.n e.s.low&&(v.under s.n 100&&KX s.n e.r)) with
    | true=>rw [k]at a;cases a
    | false=>rw [k]at a;simp at a;exact a.symm
   rw [this];exact f _ _ (Sim.low _ _) h
def pC (P:Program) (l:Nat) (lo:LoopState->Option Code->AObj) (J:Nat->Sto->Prop) (D:Code->Sto->Prop) (X:AV->Sto->Prop) (i:Nat):Ex->Env->Prop
 | .normal,e=>e.ds=[]/\e.s.get l=some (lo .busy none)/\J (i+1) e.s
 | .ret,e=>e.ds=[]/\e.s.get l=some (lo .busy none)/\D .ret e.s
 | .exit id,e=>e.ds=[]/\e.s.get l=some (lo .busy none)/\D (.exit id) e.s
 | .panic v,e=>e.ds=[]/\okFn P e.fn=true/\e.s.low<=l/\X v e.s
 | _,_=>False
def pD (P:Program) (O:Orc) (H:dT) (l:Nat) (lo:LoopState->Option Code->AObj) (b:Code) (R:Ex->Env->Prop):Ex->Env->Prop
 | .normal,e=>e.s.get l=some (lo .ready none)/\Wk P O H b (e.setS (e.s.put l (lo .busy none))) R
 | _,_=>False
theorem NU {l:Nat} {fn:FuncId} {nt d i:Nat} {t T:Tr AV} {ps:List Nat} {a b:Code} {args:List AV} {s:Sto} {J I:Nat->Sto->Prop} {D:Sto->Prop} {E:Code->Sto->Prop} {X:AV->Sto->Prop}
 (hg:s.get l=some (.loop .ready none fn nt t ps a b d)) (G:yF nt t ps args=some T)
 (hJ:∀ e:Sto,l<e.n->∀ k,J (i+1) e->I (i+1) {e.put l (.loop .ready none fn nt t ps a b d) with low:=k}) (U:∀ (e:Sto) c,l<e.n->∀ k,E c e->D {e.put l (.loop .done (some c) fn nt t ps a b d) with low:=k}) (hX:∀ (e:Sto) v k,X v e->X v {e with low:=k})
 (h:Wk P O H a ⟨nt,some l,fn,T,[],⟨s.n,s.n,s.o⟩,.no⟩ (pD P O H l (fun st p=>.loop st p fn nt t ps a b d) b (pC P l (fun st p=>.loop st p fn nt t ps a b d) J E X i))):
 Wcall P O (.func (.yield l) [] []) args s (rK l I D X i s):=by
 obtain ⟨R,M,L,h1,V⟩:=h.sound
 cases M with
 | normal=>
   obtain ⟨hr,hb⟩:=V;obtain ⟨S,w,q,h2,F⟩:=hb.sound
   have y:∀ res,(∀ m,R<=m->S<=m->mD P (aP P O m) m l args s=some (res,.no))->rK l I D X i s res->Wcall P O (.func (.yield l) [] []) args s (rK l I D X i s):=by
    intro res hm hk;refine ⟨max R S+1,res,.no,?_,hk⟩;have:BP O (.func (.yield l) [] []) args s .no=none:=rfl;simp only [aP,this,gU,List.nil_append];exact hm _ (Nat.le_max_left _ _) (Nat.le_max_right _ _)
   have f:∀ m,R<=m->S<=m->mD P (aP P O m) m l args s=match (w,q) with
    | (.normal,e)=>eD s l none e
    | (.ret,e)=>eD s l (some .ret) e
    | (.exit id,e)=>eD s l (some (.exit id)) e
    | (.panic v,e)=>(match e.ds with
      | []=>bif okFn P e.fn then some (.pan v (some {e.s with low:=Nat.min s.low e.s.low}),.no) else none
      | _=>none)
    | _=>none:=by
    intro m N Q;have Y:bE P (aP P O m) m a {nt:=nt,ro:=some l,fn:=fn,t:=T,ds:=[],s:={s with low:=s.n},r:=.no} = some (.normal,L):=oQ N h1;have Z:bE P (aP P O m) m b {L with s:=L.s.put l (.loop .busy none fn nt t ps a b d)} = some (w,q):=oQ Q h2;simp only [mD,hg,G,Y,hr,Z];cases w<;>rfl
   cases w with
   | normal=>
     obtain ⟨A,u,B⟩:=F;have C:=Sto.get_lt u;refine y (.ret (.bool true) (some {q.s.put l (.loop .ready none fn nt t ps a b d) with low:=Nat.min s.low (q.s.put l (.loop .ready none fn nt t ps a b d)).low})) (fun m a1 a2=>by rw [f m a1 a2];simp only [eD,u,A];rfl) (And.intro ?_ (And.intro C (hJ _ C _ B)));exact Nat.le_trans (Nat.min_le_right _ _) (Sto.put_low_le _ _ _)
   | ret=>
     obtain ⟨A,u,B⟩:=F;have C:=Sto.get_lt u;refine y (.ret (.bool false) (some {q.s.put l (.loop .done (some .ret) fn nt t ps a b d) with low:=Nat.min s.low (q.s.put l (.loop .ready none fn nt t ps a b d)).low})) (fun m a1 a2=>by rw [f m a1 a2];simp only [eD,u,A];rfl) (And.intro ?_ (U _ _ C _ B));exact Nat.le_trans (Nat.min_le_right _ _) (Sto.put_low_le _ _ _)
   | exit id=>
     obtain ⟨A,u,B⟩:=F;have C:=Sto.get_lt u;refine y (.ret (.bool false) (some {q.s.put l (.loop .done (some (.exit id)) fn nt t ps a b d) with low:=Nat.min s.low (q.s.put l (.loop .ready none fn nt t ps a b d)).low})) (fun m a1 a2=>by rw [f m a1 a2];simp only [eD,u,A];rfl) (And.intro ?_ (U _ _ C _ B));exact Nat.le_trans (Nat.min_le_right _ _) (Sto.put_low_le _ _ _)
   | panic v=>
     obtain ⟨A,u,B,q4⟩:=F;exact y (.pan v (some {q.s with low:=Nat.min s.low q.s.low})) (fun m a1 a2=>by rw [f m a1 a2];simp only [A,u,cond_true]) (And.intro (Nat.le_trans (Nat.min_le_right _ _) B) (hX _ _ _ q4))
   | _=>exact F.elim
 | _=>exact V.elim
theorem JG {xs:List (List AV)} {f:Operand} {ps:Array Tmp} {a b:Code} {nt:Nat} {fn:FuncId} {t:Tr AV} {ds:List ADef} {s:Sto} {r:ARec} {Q:Ex->Env->Prop} (J:Nat->Sto->Prop) (E:Code->Sto->Prop) (X:AV->Sto->Prop)
 (hI:aOt P O ((Env.mk nt none fn t ds s r).eval f) xs)
 (M:∀ i u q,SimX (s.n+1) u q->J i u->J i q) (L:∀ c u q,SimX (s.n+1) u q->E c u->E c q) (V:∀ v u q,Sim u q->X v u->X v q)
 (hc:∀ c u,E c u->c=.ret∨∃ id,c=.exit id)
 (h0:J 0 s)
 (hr:∀ i x,xs[i]?=some x->∀ u:Sto,s.n+1<u.n->u.get s.n=some (.defs (some []))->u.get (s.n+1)=some (.loop .ready none fn nt t ps.toList a b s.n)->J i u->
   ∃ T,yF nt t ps.toList x=some T/\Wk P O H a ⟨nt,some (s.n+1),fn,T,[],⟨u.n,u.n,u.o⟩,.no⟩
     (pD P O H (s.n+1) (fun st p=>.loop st p fn nt t ps.toList a b s.n) b (pC P (s.n+1) (fun st p=>.loop st p fn nt t ps.toList a b s.n) (fun i u=>J i u/\u.get s.n=some (.defs (some []))) (fun c u=>E c u/\u.get s.n=some (.defs (some []))) X i)))
 (C:∀ u:Sto,s.n+1<u.n->u.get s.n=some (.defs (some []))->J xs.length u->Q .normal ⟨nt,none,fn,t,.collected s.n::ds,u,r⟩)
 (F:∀ u:Sto,s.n+1<u.n->u.get s.n=some (.defs (some []))->E .ret u->Q .ret ⟨nt,none,fn,t,.collected s.n::ds,u,r⟩)
 (y:∀ id (u:Sto),s.n+1<u.n->u.get s.n=some (.defs (some []))->E (.exit id) u->Q (.exit id) ⟨nt,none,fn,t,.collected s.n::ds,u,r⟩)
 (D:∀ v (u:Sto),X v u->Q (.panic v) ⟨nt,none,fn,t,.collected s.n::ds,u,r⟩):
 Wk P O H (.rangeFunc f ps a b) ⟨nt,none,fn,t,ds,s,r⟩ Q:=by
 let lo:LoopState->Option Code->AObj:=fun st p=>.loop st p fn nt t ps.toList a b s.n
 let Y:=s.push (.defs (some []))
 let l:=Y.push (lo .ready none)
 let J':Nat->Sto->Prop:=fun i u=>u.get s.n=some (.defs (some []))/\u.get (s.n+1)=some (lo .ready none)/\J i u
 let Z:Sto->Prop:=fun u=>u.get s.n=some (.defs (some []))/\∃ c,u.get (s.n+1)=some (lo .done (some c))/\E c u
 have m:∀ (u:Sto) k,SimX (s.n+1) u {u with low:=k}:=fun u k=>(Sim.low u k).x
 have e0:l.get s.n=some (.defs (some [])):=by
  rw [Sto.get_push_lt _ _ (Nat.lt_succ_self _)];exact Sto.get_push_same _ _
 have e1:l.get (s.n+1)=some (lo .ready none):=Sto.get_push_same Y _
 obtain ⟨n,res,rr,w,U⟩:=hI (s.n+1) J' Z X l (Nat.lt_succ_self _) (fun i u q A ⟨k1,k2,k3⟩=>⟨A.get k1,A.get k2,M _ _ _ A.x k3⟩)
  (fun u q A ⟨k1,c,k2,k3⟩=>⟨A.get k1,c,A.get k2,L _ _ _ A.x k3⟩) V
  ⟨e0,e1,M 0 s l ((Sim.push _ _).trans (Sim.push _ _)).x h0⟩
  (fun i x I u hu ⟨k1,k2,k3⟩=>by
    obtain ⟨T,ht,hw⟩:=hr i x I u hu k1 k2 k3;refine NU (H:=H) (J:=fun i u=>J i u/\u.get s.n=some (.defs (some []))) (E:=fun c u=>E c u/\u.get s.n=some (.defs (some []))) k2 ht ?_ ?_ ?_ hw
    ·rintro e N k ⟨S,R⟩
     exact ⟨(((SimX.put e (s.n+1) _).trans (m _ k)).get R (by omega)),(Sim.low _ k).get (Sto.get_put_same _ _ N),M _ _ _ ((SimX.put e (s.n+1) _).trans (m _ k)) S⟩
    ·rintro e c N k ⟨R,S⟩
     exact ⟨(((SimX.put e (s.n+1) _).trans (m _ k)).get S (by omega)),c,(Sim.low _ k).get (Sto.get_put_same _ _ N),L _ _ _ ((SimX.put e (s.n+1) _).trans (m _ k)) R⟩
    ·exact fun e v k I=>V _ _ _ (Sim.low _ k) I)
 show W P O (.rangeFunc f ps a b) ⟨nt,none,fn,t,ds,s,r⟩ Q
 have B:∀ x,(match res with
  | .ret _ h=>gD ⟨nt,none,fn,t,ds,s,r⟩ (.collected s.n::ds) (s.n+1) (match h with | some s=>s | none=>l)
  | .pan v h=>some (.panic v,{(Env.mk nt none fn t ds s r) with s:=(match h with | some s=>s | none=>l),ds:=.collected s.n::ds}))=some x->bE P (aP P O n) n (.rangeFunc f ps a b) ⟨nt,none,fn,t,ds,s,r⟩=some x:=by
  intro x I
  show (match aP P O n ((Env.mk nt none fn t ds s r).eval f) [.func (.yield (s.n+1)) [] []] l .no with
   | some (.ret _ h,_)=>gD ⟨nt,none,fn,t,ds,s,r⟩ (.collected s.n::ds) (s.n+1) (match h with | some s=>s | none=>l)
   | some (.pan v h,_)=>some (.panic v,{(Env.mk nt none fn t ds s r) with s:=(match h with | some s=>s | none=>l),ds:=.collected s.n::ds})
   | none=>none)=some x
  rw [w];cases res<;>exact I
 have G:∀ h:Option Sto,(match h with | some s=>s | none=>l)=h.getD l:=fun h=>by cases h<;>rfl
 cases res with
 | ret v h=>
   simp only [G]at B
   rcases U with ⟨k1,k2,k3⟩ | ⟨k1,c,k2,k3⟩
   ·refine ⟨n,.normal,_,B _ (by simp only [gD,k2,lo]),C ((h.getD l).put (s.n+1) (lo .exhausted none)) (show s.n+1<(h.getD l).n from Sto.get_lt k2) ((SimX.put _ (s.n+1) _).get k1 (by omega)) (M _ _ _ (SimX.put _ (s.n+1) _) k3)⟩
   ·rcases hc c _ k3 with rfl | ⟨id,rfl⟩
    ·exact ⟨n,.ret,_,B _ (by simp only [gD,k2,lo]),F ((h.getD l).put (s.n+1) (lo .exhausted (some .ret))) (show s.n+1<(h.getD l).n from Sto.get_lt k2) ((SimX.put _ (s.n+1) _).get k1 (by omega)) (L _ _ _ (SimX.put _ (s.n+1) _) k3)⟩
    ·exact ⟨n,.exit id,_,B _ (by simp only [gD,k2,lo]),y id ((h.getD l).put (s.n+1) (lo .exhausted (some (.exit id)))) (show s.n+1<(h.getD l).n from Sto.get_lt k2) ((SimX.put _ (s.n+1) _).get k1 (by omega)) (L _ _ _ (SimX.put _ (s.n+1) _) k3)⟩
 | pan v h=>
   simp only [G]at B;exact ⟨n,.panic v,_,B _ rfl,D v _ U⟩
def xH (P:Program) (rs:List ResultVar) (v:AV) (a:Ex) (e:Env):Prop:=match a with
 | .normal | .ret=>(match e.ds with
   | []=>e.r=.no/\wJ (aS P e rs) (fun S r=>Frz S 0 r v) e.s
   | [.collected d]=>e.r=.no/\e.s.get d=some (.defs (some []))/\wJ (aS P {e with ds:=[],s:=e.s.put d (.defs none)} rs) (fun S r=>Frz S 0 r v) (e.s.put d (.defs none))
   | _=>False)
 | _=>False
theorem aJp {fn:Func} {rs:List ResultVar} (p:fn.results=rs.toArray) {v:AV} {c:Ex} {e:Env} (h:xH P rs v c e):OA P O fn (ZG .empty (.ret v none)) c e:=by
 have a:fn.results.toList=rs:=by rw [p]
 have b:(match e.ds with
  | []=>e.r=.no/\wJ (aS P e rs) (fun S r=>Frz S 0 r v) e.s
  | [.collected d]=>e.r=.no/\e.s.get d=some (.defs (some []))/\wJ (aS P {e with ds:=[],s:=e.s.put d (.defs none)} rs) (fun S r=>Frz S 0 r v) (e.s.put d (.defs none))
  | _=>False)->Lv P O fn none e (ZG .empty (.ret v none)):=by
  intro h;split at h
  ·rename_i m
   obtain ⟨f,vs,k,l⟩:=h;exact pF m (by rw [a];exact k) ⟨f,nQ (Nat.zero_le _) l⟩
  ·rename_i d m
   obtain ⟨f,o,vs,k,l⟩:=h;refine WN m o ?_;exact pF rfl (by rw [a];exact k) ⟨f,nQ (Nat.zero_le _) l⟩
  ·exact h.elim
 cases c with
 | normal=>exact b h
 | ret=>exact b h
 | _=>exact h.elim
theorem SD {L:List lX} (b:∀ x∈L,dU P x) (H:dT) {f:FuncId} {fn:Func} {c:Code} {N:Nat} {rs:List ResultVar} {args:List AV} {v:AV} (a:okFn P f=true) (o:P.funcs[f]?=some fn) (p:fn.ntmps=N) (q:fn.results=rs.toArray) (l:fn.body=some c)
 (k:Nat.ble args.length N=true) (r:∀ x∈args,Und 0 x)
 (h:Wk P (bJ L) H c ⟨N,none,f,Tr.leaf.lay 0 args,[],⟨0,0,.leaf⟩,.no⟩ (xH P rs v)):Returns P f args v:=by
 refine eC r (OB (O:=bJ L) (xQ b) a o l ?_);rw [lP p k]
 exact h.sound.mono fun u e m=>aJp q m
section
variable {rs:List ResultVar} {v:AV} {nt:Nat} {ro:Option Nat} {fn:FuncId} {t:Tr AV} {s:Sto} {d:Nat}
theorem ZA:xH P rs v .ret ⟨nt,ro,fn,t,[],s,.no⟩↔wJ (aS P ⟨nt,ro,fn,t,[],s,.no⟩ rs) (fun S r=>Frz S 0 r v) s:=by simp [xH]
theorem JH:xH P rs v .normal ⟨nt,ro,fn,t,[],s,.no⟩↔wJ (aS P ⟨nt,ro,fn,t,[],s,.no⟩ rs) (fun S r=>Frz S 0 r v) s:=by simp [xH]
theorem ZB:xH P rs v .ret ⟨nt,ro,fn,t,[.collected d],s,.no⟩↔s.get d=some (.defs (some []))/\wJ (aS P ⟨nt,ro,fn,t,[],s.put d (.defs none),.no⟩ rs) (fun S r=>Frz S 0 r v) (s.put d (.defs none)):=by simp [xH]
theorem JI:xH P rs v .normal ⟨nt,ro,fn,t,[.collected d],s,.no⟩↔s.get d=some (.defs (some []))/\wJ (aS P ⟨nt,ro,fn,t,[],s.put d (.defs none),.no⟩ rs) (fun S r=>Frz S 0 r v) (s.put d (.defs none)):=by simp [xH]
end
end
end Go.Abs
/-
 The abstract machine: arrays cut to slices,slices as arrays,arrays compared;bytes.
-/
namespace Go.Abs
noncomputable section
variable {P:Program} {O:Orc} {H:dT}
def BJ (x:Option (Nat × Option Nat)) (id g off:Nat) (lo a:Option AV) (d:Option AV):Option AV:=match x with
 | some (n,k)=>(match eT a n n with
   | some h=>(match eT lo 0 h with
     | some l=>some (bif Nat.beq n l then .sl id g off (h-l) (.is (n-l)) else .sl id g (off+l*kL k) (h-l) (.is (n-l)))
     | none=>none)
   | none=>none)
 | none=>d
theorem SE {t:TypeId} {id g off:Nat} {lo a:Option AV}:fF P t (.ptr id g off) lo a none=BJ (QY P t) id g off lo a (qX P t (.ptr id g off) lo a none):=by
 cases h:QY P t with
 | none=>rfl
 | some y=>
   unfold QY at h;split at h
   ·rename_i n e c
    cases b:tyK P e with
    | none=>rw [b]at h;cases h
    | some x=>
      rw [b]at h;simp at h;subst h;simp only [fF,c,(pH b).1,BJ];rfl
   ·cases h
theorem aJq {n id g off:Nat} {k:Option Nat} {j:IntKind} {a:Int} {d:Option AV} (c:0<=a) (f:a<n):BJ (some (n,k)) id g off (some (.int j a)) none d=some (.sl id g (off+a.toNat*kL k) (n-a.toNat) (.is (n-a.toNat))):=by
 have b:Nat.beq n a.toNat=false:=by
  cases e:Nat.beq n a.toNat with
  | false=>rfl
  | true=>have:=Nat.eq_of_beq_eq_true e;omega
 simp only [BJ,lN,lG c (show a<=(n:Int) by omega),b,cond_false]
theorem aJr {n id g off:Nat} {k:Option Nat} {j:IntKind} {b:Int} {d:Option AV} (c:0<=b) (e:b<=n) (f:n≠0):BJ (some (n,k)) id g off none (some (.int j b)) d=some (.sl id g off b.toNat (.is n)):=by
 have a:Nat.beq n 0=false:=by
  cases n with
  | zero=>exact absurd rfl f
  | succ n=>rfl
 simp only [BJ,lN,lG c e,a,cond_false,Nat.zero_mul,Nat.add_zero,Nat.sub_zero]
theorem aDt {n id g off:Nat} {k:Option Nat} {d:Option AV} (b:n≠0):BJ (some (n,k)) id g off none none d=some (.sl id g off n (.is n)):=by
 have a:Nat.beq n 0=false:=by
  cases n with
  | zero=>exact absurd rfl b
  | succ n=>rfl
 simp only [BJ,lN,a,cond_false,Nat.zero_mul,Nat.add_zero,Nat.sub_zero]
def JJ (P:Program) (t:TypeId) (v:AV):Option AV:=match P.underlying t,v with
    | some (.array n _),.sl id g off len _=>bif Nat.ble n len then some (.ptr id g off) else none
    | _,_=>none
def SF (x:Option (Nat × Option Nat)) (v d:Option AV):Option AV:=match x,v with
 | some (n,_),some (.sl id g off len _)=>bif Nat.ble n len then some (.ptr id g off) else none
 | _,_=>d
theorem aJs {t:TypeId} {x:Operand} {e:Env} {K:ORes->Prop}:eI P O (.sliceToArrayPointer t x) e K↔nR (SF (QY P t) (some (e.eval x)) (JJ P t (e.eval x))) K:=by
 have w:eI P O (.sliceToArrayPointer t x) e K↔nR (JJ P t (e.eval x)) K:=by
  have o:∀ n,eX P (aP P O n) (.sliceToArrayPointer t x) e=(match JJ P t (e.eval x) with | some v=>some (ORes.val v) | none=>none):=by
   intro n
   show (match P.underlying t,e.eval x with
    | some (.array n _),.sl id g off len _=>bif Nat.ble n len then some (ORes.val (.ptr id g off)) else none
    | _,_=>none)=_
   unfold JJ
   cases P.underlying t with
   | none=>rfl
   | some d=>cases d<;>first | rfl | (cases e.eval x<;>first | rfl | (rename_i n _ _ _ _ len _;cases m:Nat.ble n len<;>rfl) | (dsimp only;split<;>rfl) | (simp only [];rename_i a _ _ _ b _ _;cases m:Nat.ble a b<;>rfl) | (rename_i a b c d e f g;cases m:Nat.ble a f<;>simp [m]))
  constructor
  ·rintro ⟨n,r,k,l⟩
   rw [o]at k
   cases q:JJ P t (e.eval x) with
   | none=>rw [q]at k;cases k
   | some v=>rw [q]at k;simp at k;subst k;exact OR.2 l
  ·rintro ⟨v,k,l⟩
   exact ⟨0,_,by rw [o,k],l⟩
 rw [w]
 have:JJ P t (e.eval x)=SF (QY P t) (some (e.eval x)) (JJ P t (e.eval x)):=by
  cases h:QY P t with
  | none=>rfl
  | some y=>
    unfold QY at h;split at h
    ·rename_i n u A
     cases p:tyK P u with
     | none=>rw [p]at h;cases h
     | some z=>
       rw [p]at h;simp at h;subst h;simp only [JJ,A,SF];cases e.eval x<;>rfl
    ·cases h
 rw [<-this]
theorem aJt {n id g off len:Nat} {k:Option Nat} {c:ACap} {d:Option AV} (h:n<=len):SF (some (n,k)) (some (.sl id g off len c)) d=some (.ptr id g off):=by
 have:Nat.ble n len=true:=by simpa using h
 simp [SF,this]
def bH (b:Nat):AV:=.int .u8 (b:Nat)
theorem NV (l:List Nat):fP l=l.map bH:=rfl
theorem ZC (b:Nat):(bH b).isCell=true:=rfl
theorem lM (l:List Nat):(l.map bH).all AV.isCell=true:=by simp [List.all_eq_true,ZC]
theorem NW {n:Nat} (b:Nat):Und n (bH b):=aO
theorem nM {α β:Type} (f:α->β) (l:List α) (i n:Nat):aM (l.map f) i n=(aM l i n).map f:=by simp [aM,List.map_drop,List.map_take]
def aOu (P:Program) (t:TypeId):Option (Nat × IntKind):=match P.underlying t with
 | some (.array n e)=>(match P.underlying e,tyK P e with
   | some (.int k),some none=>(match P.eqGuardType P.depth t with
     | false=>some (n,k)
     | true=>none)
   | _,_=>none)
 | _=>none
theorem ZD {f:TypeId->AV->AV->Option Bool} {e:TypeId} {k:IntKind} (u:∀ a b,f e (.int k a) (.int k b)=some (mA a b)) (w:tyK P e=some none):∀ (m i:Nat) (xs c:List Int),xs.length=i+m->c.length=i+m->
 aeqs P f (xs.map (.int k)) (c.map (.int k)) (lC e 1 m i)=some (decide (xs.drop i=c.drop i)):=by
 intro m
 induction m with
 | zero=>
   intro i xs c y A;rw [List.drop_of_length_le (by omega),List.drop_of_length_le (by omega)];rfl
 | succ m B=>
   intro i xs c y A
   have l:i<xs.length:=by omega
   have o:i<c.length:=by omega
   simp only [lC,aeqs,mZ w,ptK,Nat.mul_one,List.getElem?_map,List.getElem?_eq_getElem l,List.getElem?_eq_getElem o,Option.map_some,u];have q:xs.drop i=xs[i]::xs.drop (i+1):=List.drop_eq_getElem_cons l;have r:c.drop i=c[i]::c.drop (i+1):=List.drop_eq_getElem_cons o;rw [q,r];by_cases h:xs[i]=c[i]
   ·have p:mA xs[i] c[i]=true:=by rw [dJ,h];simp
    rw [p];have:=B (i+1) xs c (by omega) (by omega);simp only [this,h,List.cons.injEq,true_and]
   ·have p:mA xs[i] c[i]=false:=by rw [dJ];simpa using h
    rw [p];simp only [List.cons.injEq,h,false_and,decide_false]
theorem aJu:(∀ {P:Program} {t:TypeId} {id g off:Nat} {lo h:Option AV},fF P t (.ptr id g off) lo h none=BJ (QY P t) id g off lo h (qX P t (.ptr id g off) lo h none))/\
 (∀ {n id g off:Nat} {k:Option Nat} {j:IntKind} {a:Int} {d:Option AV},0<=a->a<n->BJ (some (n,k)) id g off (some (.int j a)) none d=some (.sl id g (off+a.toNat*kL k) (n-a.toNat) (.is (n-a.toNat))))/\
 (∀ {n id g off:Nat} {k:Option Nat} {j:IntKind} {b:Int} {d:Option AV},0<=b->b<=n->n≠0->BJ (some (n,k)) id g off none (some (.int j b)) d=some (.sl id g off b.toNat (.is n)))/\
 (∀ {n id g off:Nat} {k:Option Nat} {d:Option AV},n≠0->BJ (some (n,k)) id g off none none d=some (.sl id g off n (.is n)))/\
 (∀ {P:Program} {O:Orc} {t:TypeId} {x:Operand} {e:Env} {K:ORes->Prop},eI P O (.sliceToArrayPointer t x) e K↔nR (SF (QY P t) (some (e.eval x)) (JJ P t (e.eval x))) K)/\
 (∀ {n id g off len:Nat} {k:Option Nat} {c:ACap} {d:Option AV},n<=len->SF (some (n,k)) (some (.sl id g off len c)) d=some (.ptr id g off))/\
 (kL none=1)/\(∀ {n:Nat},kL (some n)=n)/\
 (∀ {l:List Nat},fP l=l.map bH)/\(∀ {l:List Nat},(l.map bH).all AV.isCell=true)/\(∀ {α β:Type} {f:α->β} {l:List α} {i n:Nat},aM (l.map f) i n=(aM l i n).map f)/\(∀ {α β:Type} {f:α->β} {l:List α},(l.map f).length=l.length):=
 ⟨SE,aJq,aJr,aDt,aJs,aJt,rfl,rfl,NV _,lM _,nM _ _ _ _,List.length_map _⟩
theorem BK:(∀ {P:Program} {rs:List ResultVar} {v:AV} {nt:Nat} {ro:Option Nat} {fn:FuncId} {t:Tr AV} {s:Sto},xH P rs v .ret ⟨nt,ro,fn,t,[],s,.no⟩↔wJ (aS P ⟨nt,ro,fn,t,[],s,.no⟩ rs) (fun S r=>Frz S 0 r v) s)/\
 (∀ {P:Program} {rs:List ResultVar} {v:AV} {nt:Nat} {ro:Option Nat} {fn:FuncId} {t:Tr AV} {s:Sto},xH P rs v .normal ⟨nt,ro,fn,t,[],s,.no⟩↔wJ (aS P ⟨nt,ro,fn,t,[],s,.no⟩ rs) (fun S r=>Frz S 0 r v) s)/\
 (∀ {P:Program} {rs:List ResultVar} {v:AV} {nt:Nat} {ro:Option Nat} {fn:FuncId} {t:Tr AV} {s:Sto} {d:Nat},xH P rs v .ret ⟨nt,ro,fn,t,[.collected d],s,.no⟩↔s.get d=some (.defs (some []))/\wJ (aS P ⟨nt,ro,fn,t,[],s.put d (.defs none),.no⟩ rs) (fun S r=>Frz S 0 r v) (s.put d (.defs none)))/\
 (∀ {P:Program} {rs:List ResultVar} {v:AV} {nt:Nat} {ro:Option Nat} {fn:FuncId} {t:Tr AV} {s:Sto} {d:Nat},xH P rs v .normal ⟨nt,ro,fn,t,[.collected d],s,.no⟩↔s.get d=some (.defs (some []))/\wJ (aS P ⟨nt,ro,fn,t,[],s.put d (.defs none),.no⟩ rs) (fun S r=>Frz S 0 r v) (s.put d (.defs none)))/\
 (∀ {C:Sto->AV->Prop} {l:List AV} {s:Sto},wJ (some l) C s↔C s (pW l))/\
 (∀ {n low:Nat} {o:Tr AObj} {i:Nat} {x:AObj},(Sto.mk n low o).put i x=⟨n,Nat.min i low,o.set i x⟩):=
 ⟨ZA,JH,ZB,JI,OK,Sto.put_any⟩
open Classical in
def BL {ι:Type} (f:FuncId) (A:ι->List AV) (V:ι->AV):lX:=(f,fun args _=>if h:∃ i,A i=args then some (.ret (V h.choose) none) else none)
theorem qV {ι:Type} {f:FuncId} {A:ι->List AV} {V:ι->AV} (h:∀ i,Returns P f (A i) (V i)):dU P (BL f A V):=by
 intro args s res a;simp only [BL]at a;split at a
 ·rename_i b
  simp at a;subst a;have:=h b.choose s
  rwa [b.choose_spec]at this
 ·cases a
theorem entF_same {ι:Type} {f:FuncId} {A:ι->List AV} {V:ι->AV} {L:List lX} {s:Sto} (a:∀ i j,A i=A j->V i=V j) (i:ι):bJ (BL f A V::L) f (A i) s=some (.ret (V i) none):=by
 rw [BL,zO]
 have b:∃ j,A j=A i:=⟨i,rfl⟩
 rw [dif_pos b,a _ _ b.choose_spec]
theorem BX {ι:Type} {f h:FuncId} {A:ι->List AV} {V:ι->AV} {L:List lX} {args:List AV} {s:Sto} (a:h≠f):bJ (BL h A V::L) f args s=bJ L f args s:=KI a
def BM (f:FuncId) (a:List AV) (v:AV):lX:=BL f (fun _:Unit=>a) fun _=>v
theorem lF {f:FuncId} {a:List AV} {v:AV} (h:Returns P f a v):dU P (BM f a v):=qV fun _=>h
theorem kV {f:FuncId} {a:List AV} {v:AV} {L:List lX} {s:Sto}:bJ (BM f a v::L) f a s=some (.ret v none):=entF_same (fun _ _ _=>rfl) ()
theorem oN {f h:FuncId} {a:List AV} {v:AV} {L:List lX} {args:List AV} {s:Sto} (b:h≠f):bJ (BM h a v::L) f args s=bJ L f args s:=KI b
theorem jD {S:Sto} {n:Nat}:∀ (i:Nat) (x y:AV),([]:List AV)[i]?=some x->([]:List AV)[i]?=some y->Frz S n x y:=fun _ _ _ h=>by simp at h
theorem eM {S:Sto} {n:Nat} {a e:AV} {l l':List AV} (h:Frz S n a e) (f:∀ (i:Nat) (x y:AV),l[i]?=some x->l'[i]?=some y->Frz S n x y):∀ (i:Nat) (x y:AV),(a::l)[i]?=some x->(e::l')[i]?=some y->Frz S n x y:=fun i x y b c=>by
 cases i with
 | zero=>simp at b c;subst b;subst c;exact h
 | succ i=>exact f i x y (by simpa using b) (by simpa using c)
theorem WL {S:Sto} {n id g off:Nat} {cs:List AV} {v:AV} (k:n<=id) (c:S.get id=some (aW g cs)) (f:off+v.cells.length<=cs.length) (h:∀ (j:Nat) (x y:AV),cs[off+j]?=some x->v.cells[j]?=some y->Frz S n x y):Frz S n (.ptr id g off) (.pf v):=by
 refine .ptr id g off cs.length _ v (fun j=>cs.getD (off+j) .top) k c f (fun j y b=>?_) (fun j y b=>?_)
 ·have e:=(List.getElem?_eq_some_iff.1 b).1
  have a:off+j<cs.length:=by omega
  rw [Tr.get_row,List.getElem?_eq_getElem a];simp [List.getD_eq_getElem?_getD,a]
 ·have e:=(List.getElem?_eq_some_iff.1 b).1
  have a:off+j<cs.length:=by omega
  refine h j _ y ?_ b;simp [List.getD_eq_getElem?_getD,a]
theorem zJ {S:Sto} {n id g off len:Nat} {cap:ACap} {cs l:List AV} (p:n<=id) (m:S.get id=some (aW g cs)) (e:l.length=len) (q:off+len<=cs.length) (f:∀ x∈l,x.isCell=true) (h:∀ (j:Nat) (x y:AV),cs[off+j]?=some x->l[j]?=some y->Frz S n x y):Frz S n (.sl id g off len cap) (.fz l false):=by
 refine .sl id g off len cap cs.length 1 _ l (fun i _=>cs.getD (off+i) .top) p m e (by omega) (fun x b=>by rw [gC (f x b)];rfl) (fun i j x y b c=>?_) (fun i j x y b c=>?_)
 ·have o:=(List.getElem?_eq_some_iff.1 b).1
  rw [gC (f x (List.mem_of_getElem? b))]at c
  have k:j=0:=by have:=(List.getElem?_eq_some_iff.1 c).1;simp at this;exact this
  subst k
  have a:off+i<cs.length:=by omega
  rw [Tr.get_row,Nat.mul_one,Nat.add_zero,List.getElem?_eq_getElem a];simp [List.getD_eq_getElem?_getD,a]
 ·have o:=(List.getElem?_eq_some_iff.1 b).1
  rw [gC (f x (List.mem_of_getElem? b))]at c
  have k:j=0:=by have:=(List.getElem?_eq_some_iff.1 c).1;simp at this;exact this
  subst k;simp at c;subst c
  have a:off+i<cs.length:=by omega
  exact h i _ x (by simp [List.getD_eq_getElem?_getD,a]) b
theorem aJ {ops rest:List Oper} {dst:Option Tmp} {nt:Nat} {ro:Option Nat} {fn:FuncId} {t:Tr AV} {b:List ADef} {s:Sto} {r:ARec} {Q:Ex->Env->Prop} {v:AV} {a:Option Sto}:
 callK s (bW P O ops dst rest ⟨nt,ro,fn,t,b,s,r⟩ Q) (.ret v a)=bW P O ops dst rest ⟨nt,ro,fn,t,b,s,r⟩ Q (.val' v (a.getD s)):=by cases a<;>rfl
theorem DP {ops rest:List Oper} {dst:Option Tmp} {nt:Nat} {ro:Option Nat} {fn:FuncId} {t:Tr AV} {b:List ADef} {s:Sto} {r:ARec} {Q:Ex->Env->Prop} {v:AV} {a:Option Sto}:
 callK s (bW P O ops dst rest ⟨nt,ro,fn,t,b,s,r⟩ Q) (.pan v a)=bW P O ops dst rest ⟨nt,ro,fn,t,b,s,r⟩ Q (.pan v (a.getD s)):=by cases a<;>rfl
theorem dC {n:Nat}:(n<n+1)/\(n<n+1+1)/\(n<n+1+1+1)/\(n+1<n+1+1)/\(n+1<n+1+1+1)/\(n+1+1<n+1+1+1)/\n≠n+1/\n+1≠n/\n≠n+1+1/\n+1+1≠n/\n+1≠n+1+1/\n+1+1≠n+1/\n<=n+1/\n<=n+1+1/\n<=n+1+1+1/\n+1<=n+1+1/\n+1<=n+1+1+1:=by
 refine ⟨?_,?_,?_,?_,?_,?_,?_,?_,?_,?_,?_,?_,?_,?_,?_,?_,?_⟩<;>omega
theorem bK {i n:Nat} (h:i<n):i<n/\i<n+1/\i<n+1+1/\i<n+1+1+1/\i≠n/\n≠i/\i≠n+1/\n+1≠i/\i≠n+1+1/\n+1+1≠i:=by
 refine ⟨?_,?_,?_,?_,?_,?_,?_,?_,?_,?_⟩<;>omega
theorem oO {a:AV} {n:Nat} (h:a.isCell=true):(List.replicate n a).all AV.isCell=true:=by simp [h]
theorem uI {α:Type} {a:α} {n:Nat}:(List.replicate n a).length=n:=List.length_replicate
end
end Go.Abs
/-
 The abstract machine: slices that are made,cut,copied,read as strings;slices that can be read.
-/
namespace Go.Abs
noncomputable section
variable {P:Program} {O:Orc} {H:dT}
def msK (P:Program) (t:TypeId):Option (Nat × Nat × List AV):=match P.underlying t with
 | some (.slice a)=>(match rX P a,nW P a,bB P a with
   | some k,some b,some z=>bif Nat.beq z.cells.length k then some (k,b,z.cells) else none
   | _,_,_=>none)
 | _=>none
theorem pE {t:TypeId} {lo a:Operand} {e:Env} {K:ORes->Prop} {k b:Nat} {z:List AV} {i j:IntKind} {l c:Nat} (h:msK P t=some (k,b,z)) (D:e.eval lo=.int i (l:Nat)) (C:e.eval a=.int j (c:Nat)) (w:l<=c) (y:b*c<=140737488355328) (A:c<=4611686018427387904) (F:(eG z c).all AV.isCell=true)
 (B:K (.val' (.sl e.s.n 0 0 l (.is c)) (e.s.push (ob (eG z c))))):eI P O (.makeSlice t lo a) e K:=by
 refine ⟨0,_,?_,B⟩;unfold msK at h;split at h
 ·rename_i f E
  split at h
  ·rename_i G b' M I J L
   cases m:Nat.beq M.cells.length G with
   | false=>rw [m]at h;cases h
   | true=>
     rw [m]at h;simp at h;obtain ⟨rfl,rfl,rfl⟩:=h
     show (match P.underlying t,e.eval lo,e.eval a with
      | some (.slice f),.int _ (.ofNat l),.int _ (.ofNat c)=>(match rX P f,nW P f,bB P f with
        | some k,some by_,some z=>bif Nat.ble l c&&Nat.ble (by_*c) (2 ^ 47)&&Nat.ble c (2 ^ 62)&&Nat.beq z.cells.length k then
         (match oJ e.s (eG z.cells c) with
         | some (id,s)=>some (ORes.val' (.sl id 0 0 l (.is c)) s)
         | none=>none)
          else none
        | _,_,_=>none)
      | _,_,_=>none)=_
     have p:e.eval lo=.int i (.ofNat l):=D;have o:e.eval a=.int j (.ofNat c):=C
     have q:Nat.ble l c=true:=by simpa using w
     have r:Nat.ble (b'*c) (2 ^ 47)=true:=by simpa using y
     have u:Nat.ble c (2 ^ 62)=true:=by simpa using A
     simp only [E,p,o,I,J,L,q,r,u,m,Bool.and_self,cond_true,rA,F,if_true]
  ·cases h
 ·cases h
theorem JK {s:Sto} {t u:TypeId} {id g off len f g' b a:Nat} {c o:ACap} {cs cs':List AV} (h:pG P t=some 1) (y:s.get id=some (aW g cs)) (A:s.get f=some (aW g' cs')) (k:off+Nat.min a len<=cs.length) (m:b+Nat.min a len<=cs'.length) (B:(aM cs' b (Nat.min a len)).all AV.isCell=true):
 abuiltin P s .copy #[t,u] [.sl id g off len c,.sl f g' b a o]=some (.val' (.int .i64 ((Nat.min a len:Nat):Int)) (s.put id (aW g (cL cs off (aM cs' b (Nat.min a len)))))):=by
 unfold pG at h;split at h
 ·rename_i e C
  have p:Nat.ble (Nat.min a len) a=true:=by simpa using Nat.min_le_left _ _
  have q:Nat.ble (b+Nat.min a len*1) cs'.length=true:=by simpa using m
  have r:Nat.ble (off+Nat.min a len*1) cs.length=true:=by simpa using k
  have w:(Tr.leaf.lay 0 cs').row b (Nat.min a len*1)=some (aM cs' b (Nat.min a len)):=by rw [Nat.mul_one];exact Tr.row_lay _ _ _ m
  have l:(aM cs' b (Nat.min a len)).length=Nat.min a len:=by simp only [aM,List.length_take,List.length_drop];omega
  show PT P s t _ _=_;simp only [PT,C,h,oK,dV,p,A,aW,Nat.beq_refl,q,Bool.and_self,cond_true,w];rw [y];simp only [aW,Nat.beq_refl,r,B,Bool.and_self,cond_true];rw [Tr.lay_lay _ _ _ (by rw [l];exact k),vH _ _ _ (by rw [l];exact k)];rfl
 ·cases h
def By (l:List Nat):Prop:=∀ b∈l,b<256
theorem NX {l:List Nat} (h:By l):ofBytes (l.map bH)=some l:=by
 induction l with
 | nil=>rfl
 | cons b l c=>
   have e:b<256:=h b (List.mem_cons_self ..)
   show (match ofBytes (l.map bH) with
    | some r=>some ((Int.toNat ((b:Nat):Int)%256)::r)
    | none=>none)=_
   rw [c fun x a=>h x (List.mem_cons_of_mem _ a)];simp;omega
def WM (o:Option AObj) (g len:Nat) (d:Option ORes):Option ORes:=match o with
 | some (.cells h m cs)=>bif Nat.beq g h&&Nat.ble len m then (match cs.row 0 len with
  | some l=>(match ofBytes l with
    | some b=>some (.val (.str b))
    | none=>none)
  | none=>none) else none
 | _=>none
theorem cW {s:Sto} {id g len:Nat} {c:ACap} {d:Option ORes}:WT (some .ofBytes) s (.sl id g 0 len c) d=WM (s.get id) g len d:=by
 have b:Nat.ble len len=true:=by simp
 simp only [WT,oK,dV,b,cond_true,WM,Nat.mul_one,Nat.zero_add]
 cases s.get id with
 | none=>rfl
 | some o=>cases o with
   | cells h m cs=>
     cases a:(Nat.beq g h&&Nat.ble len m) with
     | false=>simp only [cond_false,a]
     | true=>
       simp only [cond_true,a]
       cases cs.row 0 len with
       | none=>rfl
       | some l=>cases ofBytes l<;>rfl
   | _=>rfl
theorem zK {g len:Nat} {l:List Nat} {d:Option ORes} (e:len=l.length) (c:By l):WM (some (aW g (l.map bH))) g len d=some (.val (.str l)):=by
 subst e
 have a:Nat.ble l.length (l.map bH).length=true:=by simp
 have b:(Tr.leaf.lay 0 (l.map bH)).row 0 l.length=some (l.map bH):=by
  rw [Tr.row_lay _ _ _ (by simp),kW (by simp)]
 simp only [WM,aW,Nat.beq_refl,a,Bool.and_self,cond_true,b,NX c]
structure Rd (P:Program) (s:Sto) (ts te:TypeId) (a:AV) (xs:List AV):Prop where
 len:∀ {s':Sto} {d:Option ORes},DT (some 1) s' a d=some (.val (.int .i64 (xs.length:Nat)))
 at_:∀ (i:Nat) x,xs[i]?=some x->∃ ad,bT P ts a (.int .i64 (i:Nat))=some ad/\(∀ Y:Nat->Prop,(∀ id,id<s.n->Y id)->eW Y ad)/\∀ s':Sto,(∀ id,id<s.n->s'.get id=s.get id)->fD P s' te ad=some x
theorem aQ {K:CRes->Prop} {R:Prop}:EK none K R=R:=rfl
end
end Go.Abs
