/-
  The abstract machine: ranges over functions.
-/
import Derived.Test.YtdipddlhenoglaaGreatEj
set_option linter.unusedVariables false
set_option linter.unusedSimpArgs false
namespace Go.Abs
noncomputable section
variable {P:Program} {O:bP} {H:cQ}
def SimX (l:Nat) (s a:Sto):Prop:=s.n<=a.n/\∀ id,id<s.n->id≠l->a.get id=s.get id
def Sim (s a:Sto):Prop:=s.n<=a.n/\∀ id,id<s.n->a.get id=s.get id
theorem Sim.refl (s:Sto):Sim s s:=⟨Nat.le_refl _,fun _ _=>rfl⟩
theorem Sim.trans {a b c:Sto} (h:Sim a b) (f:Sim b c):Sim a c:=⟨Nat.le_trans h.1 f.1,fun id e=>(f.2 id (Nat.lt_of_lt_of_le e h.1)).trans (h.2 id e)⟩
theorem Sim.x {l:Nat} {a b:Sto} (h:Sim a b):SimX l a b:=⟨h.1,fun id c _=>h.2 id c⟩
theorem SimX.trans {l:Nat} {a b c:Sto} (h:SimX l a b) (f:SimX l b c):SimX l a c:=⟨Nat.le_trans h.1 f.1,fun id e k=>(f.2 id (Nat.lt_of_lt_of_le e h.1) k).trans (h.2 id e k)⟩
theorem SimX.get {l:Nat} {a b:Sto} (h:SimX l a b) {id:Nat} {x:AObj} (c:a.get id=some x) (e:id≠l):b.get id=some x:=(h.2 id (Sto.get_lt c) e).trans c
theorem Sim.get {a b:Sto} (h:Sim a b) {id:Nat} {x:AObj} (c:a.get id=some x):b.get id=some x:=(h.2 id (Sto.get_lt c)).trans c
theorem Sim.low (s:Sto) (k:Nat):Sim s {s with low:=k}:=⟨Nat.le_refl _,fun _ _=>rfl⟩
theorem Sim.push (s:Sto) (x:AObj):Sim s (s.push x):=⟨Nat.le_succ _,fun id a=>by
 rw [Sto.get_push,if_neg (by omega)]⟩
theorem SimX.put (s:Sto) (l:Nat) (x:AObj):SimX l s (s.put l x):=⟨Nat.le_refl _,fun id _ a=>by
 rw [Sto.get_put,if_neg (fun h=>a h.1)]⟩
theorem Sto.put_any {n low:Nat} {o:Tr AObj} {i:Nat} {x:AObj}:(Sto.mk n low o).put i x=⟨n,Nat.min i low,o.set i x⟩:=by
 have h:=Sto.low_put (Sto.mk n low o) i x;have:(Sto.mk n low o).put i x=⟨n,((Sto.mk n low o).put i x).low,o.set i x⟩:=rfl;rw [this,h]
theorem Sto.put_low_le (s:Sto) (i:Nat) (x:AObj):(s.put i x).low<=i:=by
 rw [Sto.low_put];exact Nat.min_le_left _ _
theorem Sto.get_put_ne (s:Sto) {i j:Nat} (x:AObj) (h:j≠i):(s.put i x).get j=s.get j:=by
 rw [Sto.get_put,if_neg (fun a=>h a.1)]
theorem Sto.get_put_same (s:Sto) {i:Nat} (x:AObj) (h:i<s.n):(s.put i x).get i=some x:=by
 rw [Sto.get_put,if_pos ⟨rfl,h⟩]
theorem Sto.get_push_same (s:Sto) (x:AObj):(s.push x).get s.n=some x:=by
 rw [Sto.get_push,if_pos rfl]
theorem Sto.get_push_lt (s:Sto) (x:AObj) {i:Nat} (h:i<s.n):(s.push x).get i=s.get i:=(Sim.push s x).2 i h
theorem Wcall.mono {b:AV} {args:List AV} {s:Sto} {K a:CRes->Prop} (h:Wcall P O b args s K) (f:∀ res,K res->a res):Wcall P O b args s a:=by
 obtain ⟨n,res,k,c,e⟩:=h;exact ⟨n,res,k,c,f _ e⟩
def rK (l:Nat) (J:Nat->Sto->Prop) (D:Sto->Prop) (X:AV->Sto->Prop) (i:Nat) (s:Sto):CRes->Prop
 | .ret (.bool true) a=>(a.getD s).low<=l/\l<(a.getD s).n/\J (i+1) (a.getD s)
 | .ret (.bool false) a=>(a.getD s).low<=l/\D (a.getD s)
 | .pan v a=>(a.getD s).low<=l/\X v (a.getD s)
 | _=>False
def aUm (n:Nat) (J:Nat->Sto->Prop) (D:Sto->Prop) (X:AV->Sto->Prop) (s:Sto):CRes->Prop
 | .ret _ a=>J n (a.getD s)∨D (a.getD s)
 | .pan v a=>X v (a.getD s)
def aUn (P:Program) (O:bP) (b:AV) (xs:List (List AV)):Prop:=∀ (l:Nat) (J:Nat->Sto->Prop) (D:Sto->Prop) (X:AV->Sto->Prop) (s:Sto),l<s.n->
 (∀ i s a,Sim s a->J i s->J i a)->(∀ s a,Sim s a->D s->D a)->(∀ v s a,Sim s a->X v s->X v a)->J 0 s->
 (∀ i x,xs[i]?=some x->∀ s,l<s.n->J i s->Wcall P O (.func (.yield l) [] []) x s (rK l J D X i s))->
 Wcall P O b [.func (.yield l) [] []] s (aUm xs.length J D X s)
theorem mY (s:Sto) (v:AV) (e:Env) (G:Sto->Prop) (f:∀ s c,Sim s c->G s->G c) (h:G e.s) (b:e.s.low<s.n∨G s):G ((dR s v e).getD s):=by
 cases a:dR s v e with
 | none=>
   rcases b with b | b
   ·rw [nV b]at a;cases a
   ·exact b
 | some c=>
   have:c = {e.s with low:=Nat.min s.low e.s.low}:=by
    unfold dR at a
    cases k:(Nat.ble s.n e.s.low&&(v.under s.n 100&&GJ s.n e.r)) with
    | true=>rw [k]at a;cases a
    | false=>rw [k]at a;simp at a;exact a.symm
   rw [this];exact f _ _ (Sim.low _ _) h
def kJ (P:Program) (l:Nat) (lo:LoopState->Option Code->AObj) (J:Nat->Sto->Prop) (D:Code->Sto->Prop) (X:AV->Sto->Prop) (i:Nat):Ex->Env->Prop
 | .normal,e=>e.ds=[]/\e.s.get l=some (lo .busy none)/\J (i+1) e.s
 | .ret,e=>e.ds=[]/\e.s.get l=some (lo .busy none)/\D .ret e.s
 | .exit id,e=>e.ds=[]/\e.s.get l=some (lo .busy none)/\D (.exit id) e.s
 | .panic v,e=>e.ds=[]/\okFn P e.fn=true/\e.s.low<=l/\X v e.s
 | _,_=>False
def lL (P:Program) (O:bP) (H:cQ) (l:Nat) (lo:LoopState->Option Code->AObj) (b:Code) (R:Ex->Env->Prop):Ex->Env->Prop
 | .normal,e=>e.s.get l=some (lo .ready none)/\Wk P O H b (e.setS (e.s.put l (lo .busy none))) R
 | _,_=>False
theorem BL {l:Nat} {fn:FuncId} {nt d i:Nat} {t S:Tr AV} {ps:List Nat} {a b:Code} {args:List AV} {s:Sto} {J J':Nat->Sto->Prop} {D:Sto->Prop} {E:Code->Sto->Prop} {X:AV->Sto->Prop}
 (hg:s.get l=some (.loop .ready none fn nt t ps a b d)) (G:wC nt t ps args=some S)
 (hJ:∀ e:Sto,l<e.n->∀ k,J (i+1) e->J' (i+1) {e.put l (.loop .ready none fn nt t ps a b d) with low:=k}) (T:∀ (e:Sto) c,l<e.n->∀ k,E c e->D {e.put l (.loop .done (some c) fn nt t ps a b d) with low:=k}) (hX:∀ (e:Sto) v k,X v e->X v {e with low:=k})
 (h:Wk P O H a ⟨nt,some l,fn,S,[],⟨s.n,s.n,s.o⟩,.no⟩ (lL P O H l (fun st p=>.loop st p fn nt t ps a b d) b (kJ P l (fun st p=>.loop st p fn nt t ps a b d) J E X i))):
 Wcall P O (.func (.yield l) [] []) args s (rK l J' D X i s):=by
 obtain ⟨Q,L,I,Z,U⟩:=h.sound
 cases L with
 | normal=>
   obtain ⟨hr,hb⟩:=U;obtain ⟨R,w,q,h2,F⟩:=hb.sound
   have y:∀ res,(∀ m,Q<=m->R<=m->lP P (aO P O m) m l args s=some (res,.no))->rK l J' D X i s res->Wcall P O (.func (.yield l) [] []) args s (rK l J' D X i s):=by
    intro res hm hk;refine ⟨max Q R+1,res,.no,?_,hk⟩;have:GK O (.func (.yield l) [] []) args s .no=none:=rfl;simp only [aO,this,gP,List.nil_append];exact hm _ (Nat.le_max_left _ _) (Nat.le_max_right _ _)
   have f:∀ m,Q<=m->R<=m->lP P (aO P O m) m l args s=match (w,q) with
    | (.normal,e)=>dO s l none e
    | (.ret,e)=>dO s l (some .ret) e
    | (.exit id,e)=>dO s l (some (.exit id)) e
    | (.panic v,e)=>(match e.ds with
      | []=>bif okFn P e.fn then some (.pan v (some {e.s with low:=Nat.min s.low e.s.low}),.no) else none
      | _=>none)
    | _=>none:=by
    intro m M N;have V:bE P (aO P O m) m a {nt:=nt,ro:=some l,fn:=fn,t:=S,ds:=[],s:={s with low:=s.n},r:=.no} = some (.normal,I):=nX M Z;have Y:bE P (aO P O m) m b {I with s:=I.s.put l (.loop .busy none fn nt t ps a b d)} = some (w,q):=nX N h2;simp only [lP,hg,G,V,hr,Y];cases w<;>rfl
   cases w with
   | normal=>
     obtain ⟨A,u,B⟩:=F;have C:=Sto.get_lt u;refine y (.ret (.bool true) (some {q.s.put l (.loop .ready none fn nt t ps a b d) with low:=Nat.min s.low (q.s.put l (.loop .ready none fn nt t ps a b d)).low})) (fun m a1 a2=>by rw [f m a1 a2];simp only [dO,u,A];rfl) (And.intro ?_ (And.intro C (hJ _ C _ B)));exact Nat.le_trans (Nat.min_le_right _ _) (Sto.put_low_le _ _ _)
   | ret=>
     obtain ⟨A,u,B⟩:=F;have C:=Sto.get_lt u;refine y (.ret (.bool false) (some {q.s.put l (.loop .done (some .ret) fn nt t ps a b d) with low:=Nat.min s.low (q.s.put l (.loop .ready none fn nt t ps a b d)).low})) (fun m a1 a2=>by rw [f m a1 a2];simp only [dO,u,A];rfl) (And.intro ?_ (T _ _ C _ B));exact Nat.le_trans (Nat.min_le_right _ _) (Sto.put_low_le _ _ _)
   | exit id=>
     obtain ⟨A,u,B⟩:=F;have C:=Sto.get_lt u;refine y (.ret (.bool false) (some {q.s.put l (.loop .done (some (.exit id)) fn nt t ps a b d) with low:=Nat.min s.low (q.s.put l (.loop .ready none fn nt t ps a b d)).low})) (fun m a1 a2=>by rw [f m a1 a2];simp only [dO,u,A];rfl) (And.intro ?_ (T _ _ C _ B));exact Nat.le_trans (Nat.min_le_right _ _) (Sto.put_low_le _ _ _)
   | panic v=>
     obtain ⟨A,u,B,q4⟩:=F;exact y (.pan v (some {q.s with low:=Nat.min s.low q.s.low})) (fun m a1 a2=>by rw [f m a1 a2];simp only [A,u,cond_true]) (And.intro (Nat.le_trans (Nat.min_le_right _ _) B) (hX _ _ _ q4))
   | _=>exact F.elim
 | _=>exact U.elim
theorem aMm {xs:List (List AV)} {f:Operand} {ps:Array Tmp} {a b:Code} {nt:Nat} {fn:FuncId} {t:Tr AV} {ds:List ADef} {s:Sto} {r:ARec} {Q:Ex->Env->Prop} (J:Nat->Sto->Prop) (E:Code->Sto->Prop) (X:AV->Sto->Prop)
 (hI:aUn P O ((Env.mk nt none fn t ds s r).eval f) xs)
 (M:∀ i u q,SimX (s.n+1) u q->J i u->J i q) (L:∀ c u q,SimX (s.n+1) u q->E c u->E c q) (V:∀ v u q,Sim u q->X v u->X v q)
 (hc:∀ c u,E c u->c=.ret∨∃ id,c=.exit id)
 (h0:J 0 s)
 (hr:∀ i x,xs[i]?=some x->∀ u:Sto,s.n+1<u.n->u.get s.n=some (.defs (some []))->u.get (s.n+1)=some (.loop .ready none fn nt t ps.toList a b s.n)->J i u->
   ∃ T,wC nt t ps.toList x=some T/\Wk P O H a ⟨nt,some (s.n+1),fn,T,[],⟨u.n,u.n,u.o⟩,.no⟩
     (lL P O H (s.n+1) (fun st p=>.loop st p fn nt t ps.toList a b s.n) b (kJ P (s.n+1) (fun st p=>.loop st p fn nt t ps.toList a b s.n) (fun i u=>J i u/\u.get s.n=some (.defs (some []))) (fun c u=>E c u/\u.get s.n=some (.defs (some []))) X i)))
 (C:∀ u:Sto,s.n+1<u.n->u.get s.n=some (.defs (some []))->J xs.length u->Q .normal ⟨nt,none,fn,t,.collected s.n::ds,u,r⟩)
 (F:∀ u:Sto,s.n+1<u.n->u.get s.n=some (.defs (some []))->E .ret u->Q .ret ⟨nt,none,fn,t,.collected s.n::ds,u,r⟩)
 (y:∀ id (u:Sto),s.n+1<u.n->u.get s.n=some (.defs (some []))->E (.exit id) u->Q (.exit id) ⟨nt,none,fn,t,.collected s.n::ds,u,r⟩)
 (D:∀ v (u:Sto),X v u->Q (.panic v) ⟨nt,none,fn,t,.collected s.n::ds,u,r⟩):
 Wk P O H (.rangeFunc f ps a b) ⟨nt,none,fn,t,ds,s,r⟩ Q:=by
 let lo:LoopState->Option Code->AObj:=fun st p=>.loop st p fn nt t ps.toList a b s.n
 let Y:=s.push (.defs (some []))
 let l:=Y.push (lo .ready none)
 let J':Nat->Sto->Prop:=fun i u=>u.get s.n=some (.defs (some []))/\u.get (s.n+1)=some (lo .ready none)/\J i u
 let Z:Sto->Prop:=fun u=>u.get s.n=some (.defs (some []))/\∃ c,u.get (s.n+1)=some (lo .done (some c))/\E c u
 have m:∀ (u:Sto) k,SimX (s.n+1) u {u with low:=k}:=fun u k=>(Sim.low u k).x
 have e0:l.get s.n=some (.defs (some [])):=by
  rw [Sto.get_push_lt _ _ (Nat.lt_succ_self _)];exact Sto.get_push_same _ _
 have e1:l.get (s.n+1)=some (lo .ready none):=Sto.get_push_same Y _
 obtain ⟨n,res,rr,w,U⟩:=hI (s.n+1) J' Z X l (Nat.lt_succ_self _) (fun i u q A ⟨k1,k2,k3⟩=>⟨A.get k1,A.get k2,M _ _ _ A.x k3⟩)
  (fun u q A ⟨k1,c,k2,k3⟩=>⟨A.get k1,c,A.get k2,L _ _ _ A.x k3⟩) V
  ⟨e0,e1,M 0 s l ((Sim.push _ _).trans (Sim.push _ _)).x h0⟩
  (fun i x I u hu ⟨k1,k2,k3⟩=>by
    obtain ⟨T,ht,hw⟩:=hr i x I u hu k1 k2 k3;refine BL (H:=H) (J:=fun i u=>J i u/\u.get s.n=some (.defs (some []))) (E:=fun c u=>E c u/\u.get s.n=some (.defs (some []))) k2 ht ?_ ?_ ?_ hw
    ·rintro e N k ⟨S,R⟩
     exact ⟨(((SimX.put e (s.n+1) _).trans (m _ k)).get R (by omega)),(Sim.low _ k).get (Sto.get_put_same _ _ N),M _ _ _ ((SimX.put e (s.n+1) _).trans (m _ k)) S⟩
    ·rintro e c N k ⟨R,S⟩
     exact ⟨(((SimX.put e (s.n+1) _).trans (m _ k)).get S (by omega)),c,(Sim.low _ k).get (Sto.get_put_same _ _ N),L _ _ _ ((SimX.put e (s.n+1) _).trans (m _ k)) R⟩
    ·exact fun e v k I=>V _ _ _ (Sim.low _ k) I)
 show W P O (.rangeFunc f ps a b) ⟨nt,none,fn,t,ds,s,r⟩ Q
 have B:∀ x,(match res with
  | .ret _ h=>cV ⟨nt,none,fn,t,ds,s,r⟩ (.collected s.n::ds) (s.n+1) (match h with | some s=>s | none=>l)
  | .pan v h=>some (.panic v,{(Env.mk nt none fn t ds s r) with s:=(match h with | some s=>s | none=>l),ds:=.collected s.n::ds}))=some x->bE P (aO P O n) n (.rangeFunc f ps a b) ⟨nt,none,fn,t,ds,s,r⟩=some x:=by
  intro x I
  show (match aO P O n ((Env.mk nt none fn t ds s r).eval f) [.func (.yield (s.n+1)) [] []] l .no with
   | some (.ret _ h,_)=>cV ⟨nt,none,fn,t,ds,s,r⟩ (.collected s.n::ds) (s.n+1) (match h with | some s=>s | none=>l)
   | some (.pan v h,_)=>some (.panic v,{(Env.mk nt none fn t ds s r) with s:=(match h with | some s=>s | none=>l),ds:=.collected s.n::ds})
   | none=>none)=some x
  rw [w];cases res<;>exact I
 have G:∀ h:Option Sto,(match h with | some s=>s | none=>l)=h.getD l:=fun h=>by cases h<;>rfl
 cases res with
 | ret v h=>
   simp only [G]at B
   rcases U with ⟨k1,k2,k3⟩ | ⟨k1,c,k2,k3⟩
   ·refine ⟨n,.normal,_,B _ (by simp only [cV,k2,lo]),C ((h.getD l).put (s.n+1) (lo .exhausted none)) (show s.n+1<(h.getD l).n from Sto.get_lt k2) ((SimX.put _ (s.n+1) _).get k1 (by omega)) (M _ _ _ (SimX.put _ (s.n+1) _) k3)⟩
   ·rcases hc c _ k3 with rfl | ⟨id,rfl⟩
    ·exact ⟨n,.ret,_,B _ (by simp only [cV,k2,lo]),F ((h.getD l).put (s.n+1) (lo .exhausted (some .ret))) (show s.n+1<(h.getD l).n from Sto.get_lt k2) ((SimX.put _ (s.n+1) _).get k1 (by omega)) (L _ _ _ (SimX.put _ (s.n+1) _) k3)⟩
    ·exact ⟨n,.exit id,_,B _ (by simp only [cV,k2,lo]),y id ((h.getD l).put (s.n+1) (lo .exhausted (some (.exit id)))) (show s.n+1<(h.getD l).n from Sto.get_lt k2) ((SimX.put _ (s.n+1) _).get k1 (by omega)) (L _ _ _ (SimX.put _ (s.n+1) _) k3)⟩
 | pan v h=>
   simp only [G]at B;exact ⟨n,.panic v,_,B _ rfl,D v _ U⟩
def yE (P:Program) (rs:List ResultVar) (v:AV) (ex:Ex) (e:Env):Prop:=match ex with
 | .normal | .ret=>(match e.ds with
   | []=>e.r=.no/\vX (aU P e rs) (fun S r=>Frz S 0 r v) e.s
   | [.collected d]=>e.r=.no/\e.s.get d=some (.defs (some []))/\vX (aU P {e with ds:=[],s:=e.s.put d (.defs none)} rs) (fun S r=>Frz S 0 r v) (e.s.put d (.defs none))
   | _=>False)
 | _=>False
theorem aMn {fn:Func} {rs:List ResultVar} (o:fn.results=rs.toArray) {v:AV} {ex:Ex} {e:Env} (h:yE P rs v ex e):IM P O fn (PH .empty (.ret v none)) ex e:=by
 have a:fn.results.toList=rs:=by rw [o]
 have b:(match e.ds with
  | []=>e.r=.no/\vX (aU P e rs) (fun S r=>Frz S 0 r v) e.s
  | [.collected d]=>e.r=.no/\e.s.get d=some (.defs (some []))/\vX (aU P {e with ds:=[],s:=e.s.put d (.defs none)} rs) (fun S r=>Frz S 0 r v) (e.s.put d (.defs none))
  | _=>False)->Lv P O fn none e (PH .empty (.ret v none)):=by
  intro h;split at h
  ·rename_i l
   obtain ⟨c,vs,f,k⟩:=h;exact qR l (by rw [a];exact f) ⟨c,kO (Nat.zero_le _) k⟩
  ·rename_i d l
   obtain ⟨c,m,vs,f,k⟩:=h;refine XW l m ?_;exact qR rfl (by rw [a];exact f) ⟨c,kO (Nat.zero_le _) k⟩
  ·exact h.elim
 cases ex with
 | normal=>exact b h
 | ret=>exact b h
 | _=>exact h.elim
theorem TY {L:List mE} (b:∀ x∈L,bY P x) (H:cQ) {f:FuncId} {fn:Func} {c:Code} {N:Nat} {rs:List ResultVar} {args:List AV} {v:AV} (a:okFn P f=true) (o:P.funcs[f]?=some fn) (p:fn.ntmps=N) (q:fn.results=rs.toArray) (l:fn.body=some c)
 (k:Nat.ble args.length N=true) (r:∀ x∈args,Und 0 x)
 (h:Wk P (orcL L) H c ⟨N,none,f,Tr.leaf.lay 0 args,[],⟨0,0,.leaf⟩,.no⟩ (yE P rs v)):Returns P f args v:=by
 refine dN r (EX (O:=orcL L) (qZ b) a o l ?_);rw [iA p k]
 exact h.sound.mono fun ex e m=>aMn q m
section
variable {rs:List ResultVar} {v:AV} {nt:Nat} {ro:Option Nat} {fn:FuncId} {t:Tr AV} {s:Sto} {d:Nat}
theorem aAz:yE P rs v .ret ⟨nt,ro,fn,t,[],s,.no⟩↔vX (aU P ⟨nt,ro,fn,t,[],s,.no⟩ rs) (fun S r=>Frz S 0 r v) s:=by simp [yE]
theorem LP:yE P rs v .normal ⟨nt,ro,fn,t,[],s,.no⟩↔vX (aU P ⟨nt,ro,fn,t,[],s,.no⟩ rs) (fun S r=>Frz S 0 r v) s:=by simp [yE]
theorem aBa:yE P rs v .ret ⟨nt,ro,fn,t,[.collected d],s,.no⟩↔s.get d=some (.defs (some []))/\vX (aU P ⟨nt,ro,fn,t,[],s.put d (.defs none),.no⟩ rs) (fun S r=>Frz S 0 r v) (s.put d (.defs none)):=by simp [yE]
theorem LQ:yE P rs v .normal ⟨nt,ro,fn,t,[.collected d],s,.no⟩↔s.get d=some (.defs (some []))/\vX (aU P ⟨nt,ro,fn,t,[],s.put d (.defs none),.no⟩ rs) (fun S r=>Frz S 0 r v) (s.put d (.defs none)):=by simp [yE]
end
end
end Go.Abs
/-
 The abstract machine: arrays cut to slices,slices as arrays,arrays compared;bytes.
-/
namespace Go.Abs
noncomputable section
variable {P:Program} {O:bP} {H:cQ}
def BY (x:Option (Nat × Option Nat)) (id g off:Nat) (lo a:Option AV) (d:Option AV):Option AV:=match x with
 | some (n,k)=>(match eN a n n with
   | some h=>(match eN lo 0 h with
     | some l=>some (bif Nat.beq n l then .sl id g off (h-l) (.is (n-l)) else .sl id g (off+l*iJ k) (h-l) (.is (n-l)))
     | none=>none)
   | none=>none)
 | none=>d
theorem TZ {t:TypeId} {id g off:Nat} {lo a:Option AV}:fK P t (.ptr id g off) lo a none=BY (UQ P t) id g off lo a (uV P t (.ptr id g off) lo a none):=by
 cases h:UQ P t with
 | none=>rfl
 | some y=>
   unfold UQ at h;split at h
   ·rename_i n e c
    cases b:tyK P e with
    | none=>rw [b]at h;cases h
    | some x=>
      rw [b]at h;simp at h;subst h;simp only [fK,c,(oO b).1,BY];rfl
   ·cases h
theorem aMo {n id g off:Nat} {k:Option Nat} {j:IntKind} {a:Int} {d:Option AV} (c:0<=a) (f:a<n):BY (some (n,k)) id g off (some (.int j a)) none d=some (.sl id g (off+a.toNat*iJ k) (n-a.toNat) (.is (n-a.toNat))):=by
 have b:Nat.beq n a.toNat=false:=by
  cases e:Nat.beq n a.toNat with
  | false=>rfl
  | true=>have:=Nat.eq_of_beq_eq_true e;omega
 simp only [BY,nA,mC c (show a<=(n:Int) by omega),b,cond_false]
theorem aMp {n id g off:Nat} {k:Option Nat} {j:IntKind} {b:Int} {d:Option AV} (c:0<=b) (e:b<=n) (f:n≠0):BY (some (n,k)) id g off none (some (.int j b)) d=some (.sl id g off b.toNat (.is n)):=by
 have a:Nat.beq n 0=false:=by
  cases n with
  | zero=>exact absurd rfl f
  | succ n=>rfl
 simp only [BY,nA,mC c e,a,cond_false,Nat.zero_mul,Nat.add_zero,Nat.sub_zero]
theorem aHg {n id g off:Nat} {k:Option Nat} {d:Option AV} (b:n≠0):BY (some (n,k)) id g off none none d=some (.sl id g off n (.is n)):=by
 have a:Nat.beq n 0=false:=by
  cases n with
  | zero=>exact absurd rfl b
  | succ n=>rfl
 simp only [BY,nA,a,cond_false,Nat.zero_mul,Nat.add_zero,Nat.sub_zero]
def LR (P:Program) (t:TypeId) (v:AV):Option AV:=match P.underlying t,v with
    | some (.array n _),.sl id g off len _=>bif Nat.ble n len then some (.ptr id g off) else none
    | _,_=>none
def UB (x:Option (Nat × Option Nat)) (v d:Option AV):Option AV:=match x,v with
 | some (n,_),some (.sl id g off len _)=>bif Nat.ble n len then some (.ptr id g off) else none
 | _,_=>d
theorem aMq {t:TypeId} {x:Operand} {e:Env} {K:ORes->Prop}:dS P O (.sliceToArrayPointer t x) e K↔nE (UB (UQ P t) (some (e.eval x)) (LR P t (e.eval x))) K:=by
 have w:dS P O (.sliceToArrayPointer t x) e K↔nE (LR P t (e.eval x)) K:=by
  have o:∀ n,eL P (aO P O n) (.sliceToArrayPointer t x) e=(match LR P t (e.eval x) with | some v=>some (ORes.val v) | none=>none):=by
   intro n
   show (match P.underlying t,e.eval x with
    | some (.array n _),.sl id g off len _=>bif Nat.ble n len then some (ORes.val (.ptr id g off)) else none
    | _,_=>none)=_
   unfold LR
   cases P.underlying t with
   | none=>rfl
   | some d=>cases d<;>first | rfl | (cases e.eval x<;>first | rfl | (rename_i n _ _ _ _ len _;cases m:Nat.ble n len<;>rfl) | (dsimp only;split<;>rfl) | (simp only [];rename_i a _ _ _ b _ _;cases m:Nat.ble a b<;>rfl) | (rename_i a b c d e f g;cases m:Nat.ble a f<;>simp [m]))
  constructor
  ·rintro ⟨n,r,k,l⟩
   rw [o]at k
   cases q:LR P t (e.eval x) with
   | none=>rw [q]at k;cases k
   | some v=>rw [q]at k;simp at k;subst k;exact QB.2 l
  ·rintro ⟨v,k,l⟩
   exact ⟨0,_,by rw [o,k],l⟩
 rw [w]
 have:LR P t (e.eval x)=UB (UQ P t) (some (e.eval x)) (LR P t (e.eval x)):=by
  cases h:UQ P t with
  | none=>rfl
  | some y=>
    unfold UQ at h;split at h
    ·rename_i n u A
     cases p:tyK P u with
     | none=>rw [p]at h;cases h
     | some z=>
       rw [p]at h;simp at h;subst h;simp only [LR,A,UB];cases e.eval x<;>rfl
    ·cases h
 rw [<-this]
theorem aMr {n id g off len:Nat} {k:Option Nat} {c:ACap} {d:Option AV} (h:n<=len):UB (some (n,k)) (some (.sl id g off len c)) d=some (.ptr id g off):=by
 have:Nat.ble n len=true:=by simpa using h
 simp [UB,this]
def aHh (b:Nat):AV:=.int .u8 (b:Nat)
theorem PD (l:List Nat):fL l=l.map aHh:=rfl
theorem aBb (b:Nat):(aHh b).isCell=true:=rfl
theorem aHi (l:List Nat):(l.map aHh).all AV.isCell=true:=by simp [List.all_eq_true,aBb]
theorem UC {α β:Type} (f:α->β) (l:List α) (i n:Nat):bC (l.map f) i n=(bC l i n).map f:=by simp [bC,List.map_drop,List.map_take]
def aQu (P:Program) (t:TypeId):Option (Nat × IntKind):=match P.underlying t with
 | some (.array n e)=>(match P.underlying e,tyK P e with
   | some (.int k),some none=>(match P.eqGuardType P.depth t with
     | false=>some (n,k)
     | true=>none)
   | _,_=>none)
 | _=>none
theorem aBc {f:TypeId->AV->AV->Option Bool} {e:TypeId} {k:IntKind} (u:∀ a b,f e (.int k a) (.int k b)=some (iS a b)) (w:tyK P e=some none):∀ (m i:Nat) (xs c:List Int),xs.length=i+m->c.length=i+m->
 aeqs P f (xs.map (.int k)) (c.map (.int k)) (kS e 1 m i)=some (decide (xs.drop i=c.drop i)):=by
 intro m
 induction m with
 | zero=>
   intro i xs c y A;rw [List.drop_of_length_le (by omega),List.drop_of_length_le (by omega)];rfl
 | succ m B=>
   intro i xs c y A
   have l:i<xs.length:=by omega
   have o:i<c.length:=by omega
   simp only [kS,aeqs,uX w,ptK,Nat.mul_one,List.getElem?_map,List.getElem?_eq_getElem l,List.getElem?_eq_getElem o,Option.map_some,u];have q:xs.drop i=xs[i]::xs.drop (i+1):=List.drop_eq_getElem_cons l;have r:c.drop i=c[i]::c.drop (i+1):=List.drop_eq_getElem_cons o;rw [q,r];by_cases h:xs[i]=c[i]
   ·have p:iS xs[i] c[i]=true:=by rw [cT,h];simp
    rw [p];have:=B (i+1) xs c (by omega) (by omega);simp only [this,h,List.cons.injEq,true_and]
   ·have p:iS xs[i] c[i]=false:=by rw [cT];simpa using h
    rw [p];simp only [List.cons.injEq,h,false_and,decide_false]
theorem aHj {t:TypeId} {x y:Operand} {n:Nat} {k:IntKind} (h:aQu P t=some (n,k)) {xs c:List Int} (A:xs.length=n) (B:c.length=n):
 abin P .eql t x y (.agg (xs.map (.int k))) (.agg (c.map (.int k)))=some (.bool (decide (xs=c))):=by
 unfold aQu at h;split at h
 ·rename_i m e w
  split at h
  ·rename_i o u r
   cases p:P.eqGuardType P.depth t with
   | true=>rw [p]at h;cases h
   | false=>
     rw [p]at h;simp at h;obtain ⟨rfl,rfl⟩:=h
     have l:∀ d,CD P (d+1+1) t (.agg (xs.map (.int o))) (.agg (c.map (.int o)))=some (decide (xs=c)):=by
      intro d;unfold CD;simp only [w];simp only [(oO r).1,iJ]
      have:=aBc (P:=P) (f:=CD P (d+1)) (e:=e) (k:=o) (fun a b=>by
       unfold CD;simp only [u]
       simp) r m 0 xs c (by omega) (by omega)
      simpa using this
     have q:CD P 10000 t (.agg (xs.map (.int o))) (.agg (c.map (.int o)))=some (decide (xs=c)):=l 9998;simp only [abin,lN,p,q];rfl
  ·cases h
 ·cases h
theorem aUo:(∀ {P:Program} {t:TypeId} {id g off:Nat} {lo h:Option AV},fK P t (.ptr id g off) lo h none=BY (UQ P t) id g off lo h (uV P t (.ptr id g off) lo h none))/\
 (∀ {n id g off:Nat} {k:Option Nat} {j:IntKind} {a:Int} {d:Option AV},0<=a->a<n->BY (some (n,k)) id g off (some (.int j a)) none d=some (.sl id g (off+a.toNat*iJ k) (n-a.toNat) (.is (n-a.toNat))))/\
 (∀ {n id g off:Nat} {k:Option Nat} {j:IntKind} {b:Int} {d:Option AV},0<=b->b<=n->n≠0->BY (some (n,k)) id g off none (some (.int j b)) d=some (.sl id g off b.toNat (.is n)))/\
 (∀ {n id g off:Nat} {k:Option Nat} {d:Option AV},n≠0->BY (some (n,k)) id g off none none d=some (.sl id g off n (.is n)))/\
 (∀ {P:Program} {O:bP} {t:TypeId} {x:Operand} {e:Env} {K:ORes->Prop},dS P O (.sliceToArrayPointer t x) e K↔nE (UB (UQ P t) (some (e.eval x)) (LR P t (e.eval x))) K)/\
 (∀ {n id g off len:Nat} {k:Option Nat} {c:ACap} {d:Option AV},n<=len->UB (some (n,k)) (some (.sl id g off len c)) d=some (.ptr id g off))/\
 (iJ none=1)/\(∀ {n:Nat},iJ (some n)=n)/\
 (∀ {l:List Nat},fL l=l.map aHh)/\(∀ {l:List Nat},(l.map aHh).all AV.isCell=true)/\(∀ {α β:Type} {f:α->β} {l:List α} {i n:Nat},bC (l.map f) i n=(bC l i n).map f)/\(∀ {α β:Type} {f:α->β} {l:List α},(l.map f).length=l.length):=
 ⟨TZ,aMo,aMp,aHg,aMq,aMr,rfl,rfl,PD _,aHi _,UC _ _ _ _,List.length_map _⟩
theorem aHk:(∀ {P:Program} {rs:List ResultVar} {v:AV} {nt:Nat} {ro:Option Nat} {fn:FuncId} {t:Tr AV} {s:Sto},yE P rs v .ret ⟨nt,ro,fn,t,[],s,.no⟩↔vX (aU P ⟨nt,ro,fn,t,[],s,.no⟩ rs) (fun S r=>Frz S 0 r v) s)/\
 (∀ {P:Program} {rs:List ResultVar} {v:AV} {nt:Nat} {ro:Option Nat} {fn:FuncId} {t:Tr AV} {s:Sto},yE P rs v .normal ⟨nt,ro,fn,t,[],s,.no⟩↔vX (aU P ⟨nt,ro,fn,t,[],s,.no⟩ rs) (fun S r=>Frz S 0 r v) s)/\
 (∀ {P:Program} {rs:List ResultVar} {v:AV} {nt:Nat} {ro:Option Nat} {fn:FuncId} {t:Tr AV} {s:Sto} {d:Nat},yE P rs v .ret ⟨nt,ro,fn,t,[.collected d],s,.no⟩↔s.get d=some (.defs (some []))/\vX (aU P ⟨nt,ro,fn,t,[],s.put d (.defs none),.no⟩ rs) (fun S r=>Frz S 0 r v) (s.put d (.defs none)))/\
 (∀ {P:Program} {rs:List ResultVar} {v:AV} {nt:Nat} {ro:Option Nat} {fn:FuncId} {t:Tr AV} {s:Sto} {d:Nat},yE P rs v .normal ⟨nt,ro,fn,t,[.collected d],s,.no⟩↔s.get d=some (.defs (some []))/\vX (aU P ⟨nt,ro,fn,t,[],s.put d (.defs none),.no⟩ rs) (fun S r=>Frz S 0 r v) (s.put d (.defs none)))/\
 (∀ {C:Sto->AV->Prop} {l:List AV} {s:Sto},vX (some l) C s↔C s (jR l))/\
 (∀ {n low:Nat} {o:Tr AObj} {i:Nat} {x:AObj},(Sto.mk n low o).put i x=⟨n,Nat.min i low,o.set i x⟩):=
 ⟨aAz,LP,aBa,LQ,PT,Sto.put_any⟩
open Classical in
def aBd {ι:Type} (f:FuncId) (A:ι->List AV) (V:ι->AV):mE:=(f,fun args _=>if h:∃ i,A i=args then some (.ret (V h.choose) none) else none)
theorem XV {ι:Type} {f:FuncId} {A:ι->List AV} {V:ι->AV} (h:∀ i,Returns P f (A i) (V i)):bY P (aBd f A V):=by
 intro args s res a;simp only [aBd]at a;split at a
 ·rename_i b
  simp at a;subst a;have:=h b.choose s
  rwa [b.choose_spec]at this
 ·cases a
theorem entF_same {ι:Type} {f:FuncId} {A:ι->List AV} {V:ι->AV} {L:List mE} {s:Sto} (a:∀ i j,A i=A j->V i=V j) (i:ι):orcL (aBd f A V::L) f (A i) s=some (.ret (V i) none):=by
 rw [aBd,uZ]
 have b:∃ j,A j=A i:=⟨i,rfl⟩
 rw [dif_pos b,a _ _ b.choose_spec]
def jG (f:FuncId) (a:List AV) (v:AV):mE:=aBd f (fun _:Unit=>a) fun _=>v
theorem bX {f:FuncId} {a:List AV} {v:AV} (h:Returns P f a v):bY P (jG f a v):=XV fun _=>h
theorem fU {f:FuncId} {a:List AV} {v:AV} {L:List mE} {s:Sto}:orcL (jG f a v::L) f a s=some (.ret v none):=entF_same (fun _ _ _=>rfl) ()
theorem yF {f h:FuncId} {a:List AV} {v:AV} {L:List mE} {args:List AV} {s:Sto} (b:h≠f):orcL (jG h a v::L) f args s=orcL L f args s:=YJ b
theorem tK {S:Sto} {n:Nat}:∀ (i:Nat) (x y:AV),([]:List AV)[i]?=some x->([]:List AV)[i]?=some y->Frz S n x y:=fun _ _ _ h=>by simp at h
theorem jO {S:Sto} {n:Nat} {a e:AV} {l l':List AV} (h:Frz S n a e) (f:∀ (i:Nat) (x y:AV),l[i]?=some x->l'[i]?=some y->Frz S n x y):∀ (i:Nat) (x y:AV),(a::l)[i]?=some x->(e::l')[i]?=some y->Frz S n x y:=fun i x y b c=>by
 cases i with
 | zero=>simp at b c;subst b;subst c;exact h
 | succ i=>exact f i x y (by simpa using b) (by simpa using c)
theorem aMs {S:Sto} {n id g off:Nat} {cs:List AV} {v:AV} (k:n<=id) (c:S.get id=some (aR g cs)) (f:off+v.cells.length<=cs.length) (h:∀ (j:Nat) (x y:AV),cs[off+j]?=some x->v.cells[j]?=some y->Frz S n x y):Frz S n (.ptr id g off) (.pf v):=by
 refine .ptr id g off cs.length _ v (fun j=>cs.getD (off+j) .top) k c f (fun j y b=>?_) (fun j y b=>?_)
 ·have e:=(List.getElem?_eq_some_iff.1 b).1
  have a:off+j<cs.length:=by omega
  rw [Tr.get_row,List.getElem?_eq_getElem a];simp [List.getD_eq_getElem?_getD,a]
 ·have e:=(List.getElem?_eq_some_iff.1 b).1
  have a:off+j<cs.length:=by omega
  refine h j _ y ?_ b;simp [List.getD_eq_getElem?_getD,a]
theorem mZ {S:Sto} {n id g off len:Nat} {cap:ACap} {cs l:List AV} (p:n<=id) (m:S.get id=some (aR g cs)) (e:l.length=len) (q:off+len<=cs.length) (f:∀ x∈l,x.isCell=true) (h:∀ (j:Nat) (x y:AV),cs[off+j]?=some x->l[j]?=some y->Frz S n x y):Frz S n (.sl id g off len cap) (.fz l false):=by
 refine .sl id g off len cap cs.length 1 _ l (fun i _=>cs.getD (off+i) .top) p m e (by omega) (fun x b=>by rw [fV (f x b)];rfl) (fun i j x y b c=>?_) (fun i j x y b c=>?_)
 ·have o:=(List.getElem?_eq_some_iff.1 b).1
  rw [fV (f x (List.mem_of_getElem? b))]at c
  have k:j=0:=by have:=(List.getElem?_eq_some_iff.1 c).1;simp at this;exact this
  subst k
  have a:off+i<cs.length:=by omega
  rw [Tr.get_row,Nat.mul_one,Nat.add_zero,List.getElem?_eq_getElem a];simp [List.getD_eq_getElem?_getD,a]
 ·have o:=(List.getElem?_eq_some_iff.1 b).1
  rw [fV (f x (List.mem_of_getElem? b))]at c
  have k:j=0:=by have:=(List.getElem?_eq_some_iff.1 c).1;simp at this;exact this
  subst k;simp at c;subst c
  have a:off+i<cs.length:=by omega
  exact h i _ x (by simp [List.getD_eq_getElem?_getD,a]) b
theorem kK {ops rest:List Oper} {dst:Option Tmp} {nt:Nat} {ro:Option Nat} {fn:FuncId} {t:Tr AV} {b:List ADef} {s:Sto} {r:ARec} {Q:Ex->Env->Prop} {v:AV} {a:Option Sto}:
 callK s (eG P O ops dst rest ⟨nt,ro,fn,t,b,s,r⟩ Q) (.ret v a)=eG P O ops dst rest ⟨nt,ro,fn,t,b,s,r⟩ Q (.val' v (a.getD s)):=by cases a<;>rfl
theorem UD {ops rest:List Oper} {dst:Option Tmp} {nt:Nat} {ro:Option Nat} {fn:FuncId} {t:Tr AV} {b:List ADef} {s:Sto} {r:ARec} {Q:Ex->Env->Prop} {v:AV} {a:Option Sto}:
 callK s (eG P O ops dst rest ⟨nt,ro,fn,t,b,s,r⟩ Q) (.pan v a)=eG P O ops dst rest ⟨nt,ro,fn,t,b,s,r⟩ Q (.pan v (a.getD s)):=by cases a<;>rfl
theorem gL {n:Nat}:(n<n+1)/\(n<n+1+1)/\(n<n+1+1+1)/\(n+1<n+1+1)/\(n+1<n+1+1+1)/\(n+1+1<n+1+1+1)/\n≠n+1/\n+1≠n/\n≠n+1+1/\n+1+1≠n/\n+1≠n+1+1/\n+1+1≠n+1/\n<=n+1/\n<=n+1+1/\n<=n+1+1+1/\n+1<=n+1+1/\n+1<=n+1+1+1:=by
 refine ⟨?_,?_,?_,?_,?_,?_,?_,?_,?_,?_,?_,?_,?_,?_,?_,?_,?_⟩<;>omega
theorem dQ {i n:Nat} (h:i<n):i<n/\i<n+1/\i<n+1+1/\i<n+1+1+1/\i≠n/\n≠i/\i≠n+1/\n+1≠i/\i≠n+1+1/\n+1+1≠i:=by
 refine ⟨?_,?_,?_,?_,?_,?_,?_,?_,?_,?_⟩<;>omega
end
end Go.Abs
/-
 The abstract machine: slices that are made,cut,copied,read as strings;slices that can be read.
-/
namespace Go.Abs
noncomputable section
variable {P:Program} {O:bP} {H:cQ}
def msK (P:Program) (t:TypeId):Option (Nat × Nat × List AV):=match P.underlying t with
 | some (.slice a)=>(match rV P a,nJ P a,bF P a with
   | some k,some b,some z=>bif Nat.beq z.cells.length k then some (k,b,z.cells) else none
   | _,_,_=>none)
 | _=>none
theorem vV {t:TypeId} {lo a:Operand} {e:Env} {K:ORes->Prop} {k b:Nat} {z:List AV} {i j:IntKind} {l c:Nat} (h:msK P t=some (k,b,z)) (D:e.eval lo=.int i (l:Nat)) (C:e.eval a=.int j (c:Nat)) (w:l<=c) (y:b*c<=140737488355328) (A:c<=4611686018427387904) (F:(dA z c).all AV.isCell=true)
 (B:K (.val' (.sl e.s.n 0 0 l (.is c)) (e.s.push (ob (dA z c))))):dS P O (.makeSlice t lo a) e K:=by
 refine ⟨0,_,?_,B⟩;unfold msK at h;split at h
 ·rename_i f E
  split at h
  ·rename_i G b' M I J L
   cases m:Nat.beq M.cells.length G with
   | false=>rw [m]at h;cases h
   | true=>
     rw [m]at h;simp at h;obtain ⟨rfl,rfl,rfl⟩:=h
     show (match P.underlying t,e.eval lo,e.eval a with
      | some (.slice f),.int _ (.ofNat l),.int _ (.ofNat c)=>(match rV P f,nJ P f,bF P f with
        | some k,some by_,some z=>bif Nat.ble l c&&Nat.ble (by_*c) (2 ^ 47)&&Nat.ble c (2 ^ 62)&&Nat.beq z.cells.length k then
         (match nT e.s (dA z.cells c) with
         | some (id,s)=>some (ORes.val' (.sl id 0 0 l (.is c)) s)
         | none=>none)
          else none
        | _,_,_=>none)
      | _,_,_=>none)=_
     have p:e.eval lo=.int i (.ofNat l):=D;have o:e.eval a=.int j (.ofNat c):=C
     have q:Nat.ble l c=true:=by simpa using w
     have r:Nat.ble (b'*c) (2 ^ 47)=true:=by simpa using y
     have u:Nat.ble c (2 ^ 62)=true:=by simpa using A
     simp only [E,p,o,I,J,L,q,r,u,m,Bool.and_self,cond_true,nY,F,if_true]
  ·cases h
 ·cases h
def By (l:List Nat):Prop:=∀ b∈l,b<256
structure Rd (P:Program) (s:Sto) (ts te:TypeId) (a:AV) (xs:List AV):Prop where
 len:∀ {s':Sto} {d:Option ORes},BZ (some 1) s' a d=some (.val (.int .i64 (xs.length:Nat)))
 at_:∀ (i:Nat) x,xs[i]?=some x->∃ ad,bN P ts a (.int .i64 (i:Nat))=some ad/\(∀ Y:Nat->Prop,(∀ id,id<s.n->Y id)->eK Y ad)/\∀ s':Sto,(∀ id,id<s.n->s'.get id=s.get id)->eX P s' te ad=some x
end
end Go.Abs
