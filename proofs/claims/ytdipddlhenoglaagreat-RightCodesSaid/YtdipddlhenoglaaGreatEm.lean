/-
  The abstract machine: ranges over functions.
-/
import Derived.Test.YtdipddlhenoglaaGreatEj
set_option linter.unusedVariables false
set_option linter.unusedSimpArgs false
namespace Go.Abs
noncomputable section
variable {P:Program} {O:cH} {H:dG}
def SimX (l:Nat) (s s':Sto):Prop:=s.n<=s'.n/\∀ id,id<s.n->id≠l->s'.get id=s.get id
def Sim (s s':Sto):Prop:=s.n<=s'.n/\∀ id,id<s.n->s'.get id=s.get id
theorem Sim.trans {a b c:Sto} (h:Sim a b) (f:Sim b c):Sim a c:=⟨Nat.le_trans h.1 f.1,fun id e=>(f.2 id (Nat.lt_of_lt_of_le e h.1)).trans (h.2 id e)⟩
theorem Sim.x {l:Nat} {a b:Sto} (h:Sim a b):SimX l a b:=⟨h.1,fun id c _=>h.2 id c⟩
theorem SimX.trans {l:Nat} {a b c:Sto} (h:SimX l a b) (f:SimX l b c):SimX l a c:=⟨Nat.le_trans h.1 f.1,fun id e k=>(f.2 id (Nat.lt_of_lt_of_le e h.1) k).trans (h.2 id e k)⟩
theorem SimX.get {l:Nat} {a b:Sto} (h:SimX l a b) {id:Nat} {x:AObj} (c:a.get id=some x) (e:id≠l):b.get id=some x:=(h.2 id (Sto.get_lt c) e).trans c
theorem Sim.get {a b:Sto} (h:Sim a b) {id:Nat} {x:AObj} (c:a.get id=some x):b.get id=some x:=(h.2 id (Sto.get_lt c)).trans c
theorem Sim.low (s:Sto) (k:Nat):Sim s {s with low:=k}:=⟨Nat.le_refl _,fun _ _=>rfl⟩
theorem Sim.push (s:Sto) (x:AObj):Sim s (s.push x):=⟨Nat.le_succ _,fun id a=>by
 rw [Sto.get_push,if_neg (by omega)]⟩
theorem SimX.put (s:Sto) (l:Nat) (x:AObj):SimX l s (s.put l x):=⟨Nat.le_refl _,fun id _ a=>by
 rw [Sto.get_put,if_neg (fun h=>a h.1)]⟩
theorem Sto.put_any {n low:Nat} {o:Tr AObj} {i:Nat} {x:AObj}:(Sto.mk n low o).put i x=⟨n,Nat.min i low,o.set i x⟩:=by
 have h:=Sto.low_put (Sto.mk n low o) i x;have:(Sto.mk n low o).put i x=⟨n,((Sto.mk n low o).put i x).low,o.set i x⟩:=rfl;rw [this,h]
theorem Sto.put_low_le (s:Sto) (i:Nat) (x:AObj):(s.put i x).low<=i:=by
 rw [Sto.low_put];exact Nat.min_le_left _ _
theorem Sto.get_put_ne (s:Sto) {i j:Nat} (x:AObj) (h:j≠i):(s.put i x).get j=s.get j:=by
 rw [Sto.get_put,if_neg (fun a=>h a.1)]
theorem Sto.get_put_same (s:Sto) {i:Nat} (x:AObj) (h:i<s.n):(s.put i x).get i=some x:=by
 rw [Sto.get_put,if_pos ⟨rfl,h⟩]
theorem Sto.get_push_same (s:Sto) (x:AObj):(s.push x).get s.n=some x:=by
 rw [Sto.get_push,if_pos rfl]
theorem Sto.get_push_lt (s:Sto) (x:AObj) {i:Nat} (h:i<s.n):(s.push x).get i=s.get i:=(Sim.push s x).2 i h
theorem Wcall.mono {b:AV} {args:List AV} {s:Sto} {K a:CRes->Prop} (h:Wcall P O b args s K) (f:∀ res,K res->a res):Wcall P O b args s a:=by
 obtain ⟨n,res,k,c,e⟩:=h;exact ⟨n,res,k,c,f _ e⟩
def rK (l:Nat) (J:Nat->Sto->Prop) (D:Sto->Prop) (X:AV->Sto->Prop) (i:Nat) (s:Sto):CRes->Prop
 | .ret (.bool true) a=>(a.getD s).low<=l/\l<(a.getD s).n/\J (i+1) (a.getD s)
 | .ret (.bool false) a=>(a.getD s).low<=l/\D (a.getD s)
 | .pan v a=>(a.getD s).low<=l/\X v (a.getD s)
 | _=>False
def aUm (n:Nat) (J:Nat->Sto->Prop) (D:Sto->Prop) (X:AV->Sto->Prop) (s:Sto):CRes->Prop
 | .ret _ a=>J n (a.getD s)∨D (a.getD s)
 | .pan v a=>X v (a.getD s)
def aUn (P:Program) (O:cH) (a:AV) (xs:List (List AV)):Prop:=∀ (l:Nat) (J:Nat->Sto->Prop) (D:Sto->Prop) (X:AV->Sto->Prop) (s:Sto),l<s.n->
 (∀ i s s',Sim s s'->J i s->J i s')->(∀ s s',Sim s s'->D s->D s')->(∀ v s s',Sim s s'->X v s->X v s')->J 0 s->
 (∀ i x,xs[i]?=some x->∀ s,l<s.n->J i s->Wcall P O (.func (.yield l) [] []) x s (rK l J D X i s))->
 Wcall P O a [.func (.yield l) [] []] s (aUm xs.length J D X s)
theorem qB (s:Sto) (v:AV) (e:Env) (G:Sto->Prop) (c:∀ s s',Sim s s'->G s->G s') (h:G e.s) (b:e.s.low<s.n∨G s):G ((cO s v e).getD s):=by
 cases a:cO s v e with
 | none=>
   rcases b with b | b
   ·rw [jB b]at a;cases a
   ·exact b
 | some s'=>
   have:s' = {e.s with low:=Nat.min s.low e.s.low}:=by
    unfold cO at a
    cases f:(Nat.ble s.n e.s.low&&(v.under s.n 100&&GR s.n e.r)) with
    | true=>rw [f]at a;cases a
    | false=>rw [f]at a;simp at a;exact a.symm
   rw [this];exact c _ _ (Sim.low _ _) h
def iS (P:Program) (l:Nat) (lo:LoopState->Option Code->AObj) (J:Nat->Sto->Prop) (D:Code->Sto->Prop) (X:AV->Sto->Prop) (i:Nat):Ex->Env->Prop
 | .normal,e=>e.ds=[]/\e.s.get l=some (lo .busy none)/\J (i+1) e.s
 | .ret,e=>e.ds=[]/\e.s.get l=some (lo .busy none)/\D .ret e.s
 | .exit id,e=>e.ds=[]/\e.s.get l=some (lo .busy none)/\D (.exit id) e.s
 | .panic v,e=>e.ds=[]/\okFn P e.fn=true/\e.s.low<=l/\X v e.s
 | _,_=>False
def jO (P:Program) (O:cH) (H:dG) (l:Nat) (lo:LoopState->Option Code->AObj) (b:Code) (R:Ex->Env->Prop):Ex->Env->Prop
 | .normal,e=>e.s.get l=some (lo .ready none)/\Wk P O H b (e.setS (e.s.put l (lo .busy none))) R
 | _,_=>False
theorem BR {l:Nat} {fn:FuncId} {nt d i:Nat} {t T:Tr AV} {ps:List Nat} {a b:Code} {args:List AV} {s:Sto} {J J':Nat->Sto->Prop} {D:Sto->Prop} {E:Code->Sto->Prop} {X:AV->Sto->Prop}
 (hg:s.get l=some (.loop .ready none fn nt t ps a b d)) (G:vX nt t ps args=some T)
 (hJ:∀ e:Sto,l<e.n->∀ k,J (i+1) e->J' (i+1) {e.put l (.loop .ready none fn nt t ps a b d) with low:=k}) (U:∀ (e:Sto) c,l<e.n->∀ k,E c e->D {e.put l (.loop .done (some c) fn nt t ps a b d) with low:=k}) (hX:∀ (e:Sto) v k,X v e->X v {e with low:=k})
 (h:Wk P O H a ⟨nt,some l,fn,T,[],⟨s.n,s.n,s.o⟩,.no⟩ (jO P O H l (fun S p=>.loop S p fn nt t ps a b d) b (iS P l (fun S p=>.loop S p fn nt t ps a b d) J E X i))):
 Wcall P O (.func (.yield l) [] []) args s (rK l J' D X i s):=by
 obtain ⟨Q,L,I,h1,V⟩:=h.sound
 cases L with
 | normal=>
   obtain ⟨hr,hb⟩:=V;obtain ⟨R,w,q,h2,F⟩:=hb.sound
   have y:∀ res,(∀ m,Q<=m->R<=m->mF P (aR P O m) m l args s=some (res,.no))->rK l J' D X i s res->Wcall P O (.func (.yield l) [] []) args s (rK l J' D X i s):=by
    intro res hm hk;refine ⟨max Q R+1,res,.no,?_,hk⟩;have:GS O (.func (.yield l) [] []) args s .no=none:=rfl;simp only [aR,this,gV,List.nil_append];exact hm _ (Nat.le_max_left _ _) (Nat.le_max_right _ _)
   have f:∀ m,Q<=m->R<=m->mF P (aR P O m) m l args s=match (w,q) with
    | (.normal,e)=>dW s l none e
    | (.ret,e)=>dW s l (some .ret) e
    | (.exit id,e)=>dW s l (some (.exit id)) e
    | (.panic v,e)=>(match e.ds with
      | []=>bif okFn P e.fn then some (.pan v (some {e.s with low:=Nat.min s.low e.s.low}),.no) else none
      | _=>none)
    | _=>none:=by
    intro m M N;have Y:bE P (aR P O m) m a {nt:=nt,ro:=some l,fn:=fn,t:=T,ds:=[],s:={s with low:=s.n},r:=.no} = some (.normal,I):=oM M h1;have Z:bE P (aR P O m) m b {I with s:=I.s.put l (.loop .busy none fn nt t ps a b d)} = some (w,q):=oM N h2;simp only [mF,hg,G,Y,hr,Z];cases w<;>rfl
   cases w with
   | normal=>
     obtain ⟨A,u,B⟩:=F;have C:=Sto.get_lt u;refine y (.ret (.bool true) (some {q.s.put l (.loop .ready none fn nt t ps a b d) with low:=Nat.min s.low (q.s.put l (.loop .ready none fn nt t ps a b d)).low})) (fun m a1 a2=>by rw [f m a1 a2];simp only [dW,u,A];rfl) (And.intro ?_ (And.intro C (hJ _ C _ B)));exact Nat.le_trans (Nat.min_le_right _ _) (Sto.put_low_le _ _ _)
   | ret=>
     obtain ⟨A,u,B⟩:=F;have C:=Sto.get_lt u;refine y (.ret (.bool false) (some {q.s.put l (.loop .done (some .ret) fn nt t ps a b d) with low:=Nat.min s.low (q.s.put l (.loop .ready none fn nt t ps a b d)).low})) (fun m a1 a2=>by rw [f m a1 a2];simp only [dW,u,A];rfl) (And.intro ?_ (U _ _ C _ B));exact Nat.le_trans (Nat.min_le_right _ _) (Sto.put_low_le _ _ _)
   | exit id=>
     obtain ⟨A,u,B⟩:=F;have C:=Sto.get_lt u;refine y (.ret (.bool false) (some {q.s.put l (.loop .done (some (.exit id)) fn nt t ps a b d) with low:=Nat.min s.low (q.s.put l (.loop .ready none fn nt t ps a b d)).low})) (fun m a1 a2=>by rw [f m a1 a2];simp only [dW,u,A];rfl) (And.intro ?_ (U _ _ C _ B));exact Nat.le_trans (Nat.min_le_right _ _) (Sto.put_low_le _ _ _)
   | panic v=>
     obtain ⟨A,u,B,q4⟩:=F;exact y (.pan v (some {q.s with low:=Nat.min s.low q.s.low})) (fun m a1 a2=>by rw [f m a1 a2];simp only [A,u,cond_true]) (And.intro (Nat.le_trans (Nat.min_le_right _ _) B) (hX _ _ _ q4))
   | _=>exact F.elim
 | _=>exact V.elim
theorem aNf {xs:List (List AV)} {f:Operand} {ps:Array Tmp} {a b:Code} {nt:Nat} {fn:FuncId} {t:Tr AV} {ds:List ADef} {s:Sto} {r:ARec} {Q:Ex->Env->Prop} (J:Nat->Sto->Prop) (E:Code->Sto->Prop) (X:AV->Sto->Prop)
 (hI:aUn P O ((Env.mk nt none fn t ds s r).eval f) xs)
 (N:∀ i u q,SimX (s.n+1) u q->J i u->J i q) (M:∀ c u q,SimX (s.n+1) u q->E c u->E c q) (Y:∀ v u q,Sim u q->X v u->X v q)
 (hc:∀ c u,E c u->c=.ret∨∃ id,c=.exit id)
 (h0:J 0 s)
 (hr:∀ i x,xs[i]?=some x->∀ u:Sto,s.n+1<u.n->u.get s.n=some (.defs (some []))->u.get (s.n+1)=some (.loop .ready none fn nt t ps.toList a b s.n)->J i u->
   ∃ U,vX nt t ps.toList x=some U/\Wk P O H a ⟨nt,some (s.n+1),fn,U,[],⟨u.n,u.n,u.o⟩,.no⟩
     (jO P O H (s.n+1) (fun L p=>.loop L p fn nt t ps.toList a b s.n) b (iS P (s.n+1) (fun L p=>.loop L p fn nt t ps.toList a b s.n) (fun i u=>J i u/\u.get s.n=some (.defs (some []))) (fun c u=>E c u/\u.get s.n=some (.defs (some []))) X i)))
 (C:∀ u:Sto,s.n+1<u.n->u.get s.n=some (.defs (some []))->J xs.length u->Q .normal ⟨nt,none,fn,t,.collected s.n::ds,u,r⟩)
 (F:∀ u:Sto,s.n+1<u.n->u.get s.n=some (.defs (some []))->E .ret u->Q .ret ⟨nt,none,fn,t,.collected s.n::ds,u,r⟩)
 (y:∀ id (u:Sto),s.n+1<u.n->u.get s.n=some (.defs (some []))->E (.exit id) u->Q (.exit id) ⟨nt,none,fn,t,.collected s.n::ds,u,r⟩)
 (D:∀ v (u:Sto),X v u->Q (.panic v) ⟨nt,none,fn,t,.collected s.n::ds,u,r⟩):
 Wk P O H (.rangeFunc f ps a b) ⟨nt,none,fn,t,ds,s,r⟩ Q:=by
 let lo:LoopState->Option Code->AObj:=fun L p=>.loop L p fn nt t ps.toList a b s.n
 let Z:=s.push (.defs (some []))
 let l:=Z.push (lo .ready none)
 let J':Nat->Sto->Prop:=fun i u=>u.get s.n=some (.defs (some []))/\u.get (s.n+1)=some (lo .ready none)/\J i u
 let D':Sto->Prop:=fun u=>u.get s.n=some (.defs (some []))/\∃ c,u.get (s.n+1)=some (lo .done (some c))/\E c u
 have m:∀ (u:Sto) k,SimX (s.n+1) u {u with low:=k}:=fun u k=>(Sim.low u k).x
 have e0:l.get s.n=some (.defs (some [])):=by
  rw [Sto.get_push_lt _ _ (Nat.lt_succ_self _)];exact Sto.get_push_same _ _
 have e1:l.get (s.n+1)=some (lo .ready none):=Sto.get_push_same Z _
 obtain ⟨n,res,rr,w,V⟩:=hI (s.n+1) J' D' X l (Nat.lt_succ_self _) (fun i u q A ⟨k1,k2,k3⟩=>⟨A.get k1,A.get k2,N _ _ _ A.x k3⟩)
  (fun u q A ⟨k1,c,k2,k3⟩=>⟨A.get k1,c,A.get k2,M _ _ _ A.x k3⟩) Y
  ⟨e0,e1,N 0 s l ((Sim.push _ _).trans (Sim.push _ _)).x h0⟩
  (fun i x I u hu ⟨k1,k2,k3⟩=>by
    obtain ⟨U,ht,hw⟩:=hr i x I u hu k1 k2 k3;refine BR (H:=H) (J:=fun i u=>J i u/\u.get s.n=some (.defs (some []))) (E:=fun c u=>E c u/\u.get s.n=some (.defs (some []))) k2 ht ?_ ?_ ?_ hw
    ·rintro e R k ⟨T,S⟩
     exact ⟨(((SimX.put e (s.n+1) _).trans (m _ k)).get S (by omega)),(Sim.low _ k).get (Sto.get_put_same _ _ R),N _ _ _ ((SimX.put e (s.n+1) _).trans (m _ k)) T⟩
    ·rintro e c R k ⟨S,T⟩
     exact ⟨(((SimX.put e (s.n+1) _).trans (m _ k)).get T (by omega)),c,(Sim.low _ k).get (Sto.get_put_same _ _ R),M _ _ _ ((SimX.put e (s.n+1) _).trans (m _ k)) S⟩
    ·exact fun e v k I=>Y _ _ _ (Sim.low _ k) I)
 show W P O (.rangeFunc f ps a b) ⟨nt,none,fn,t,ds,s,r⟩ Q
 have B:∀ x,(match res with
  | .ret _ h=>dB ⟨nt,none,fn,t,ds,s,r⟩ (.collected s.n::ds) (s.n+1) (match h with | some s=>s | none=>l)
  | .pan v h=>some (.panic v,{(Env.mk nt none fn t ds s r) with s:=(match h with | some s=>s | none=>l),ds:=.collected s.n::ds}))=some x->bE P (aR P O n) n (.rangeFunc f ps a b) ⟨nt,none,fn,t,ds,s,r⟩=some x:=by
  intro x I
  show (match aR P O n ((Env.mk nt none fn t ds s r).eval f) [.func (.yield (s.n+1)) [] []] l .no with
   | some (.ret _ h,_)=>dB ⟨nt,none,fn,t,ds,s,r⟩ (.collected s.n::ds) (s.n+1) (match h with | some s=>s | none=>l)
   | some (.pan v h,_)=>some (.panic v,{(Env.mk nt none fn t ds s r) with s:=(match h with | some s=>s | none=>l),ds:=.collected s.n::ds})
   | none=>none)=some x
  rw [w];cases res<;>exact I
 have G:∀ h:Option Sto,(match h with | some s=>s | none=>l)=h.getD l:=fun h=>by cases h<;>rfl
 cases res with
 | ret v h=>
   simp only [G]at B
   rcases V with ⟨k1,k2,k3⟩ | ⟨k1,c,k2,k3⟩
   ·refine ⟨n,.normal,_,B _ (by simp only [dB,k2,lo]),C ((h.getD l).put (s.n+1) (lo .exhausted none)) (show s.n+1<(h.getD l).n from Sto.get_lt k2) ((SimX.put _ (s.n+1) _).get k1 (by omega)) (N _ _ _ (SimX.put _ (s.n+1) _) k3)⟩
   ·rcases hc c _ k3 with rfl | ⟨id,rfl⟩
    ·exact ⟨n,.ret,_,B _ (by simp only [dB,k2,lo]),F ((h.getD l).put (s.n+1) (lo .exhausted (some .ret))) (show s.n+1<(h.getD l).n from Sto.get_lt k2) ((SimX.put _ (s.n+1) _).get k1 (by omega)) (M _ _ _ (SimX.put _ (s.n+1) _) k3)⟩
    ·exact ⟨n,.exit id,_,B _ (by simp only [dB,k2,lo]),y id ((h.getD l).put (s.n+1) (lo .exhausted (some (.exit id)))) (show s.n+1<(h.getD l).n from Sto.get_lt k2) ((SimX.put _ (s.n+1) _).get k1 (by omega)) (M _ _ _ (SimX.put _ (s.n+1) _) k3)⟩
 | pan v h=>
   simp only [G]at B;exact ⟨n,.panic v,_,B _ rfl,D v _ V⟩
def aHy (P:Program) (rs:List ResultVar) (v:AV) (ex:Ex) (e:Env):Prop:=match ex with
 | .normal | .ret=>(match e.ds with
   | []=>e.r=.no/\GV (aZ P e rs) (fun S r=>Frz S 0 r v) e.s
   | [.collected d]=>e.r=.no/\e.s.get d=some (.defs (some []))/\GV (aZ P {e with ds:=[],s:=e.s.put d (.defs none)} rs) (fun S r=>Frz S 0 r v) (e.s.put d (.defs none))
   | _=>False)
 | _=>False
theorem aNg {fn:Func} {rs:List ResultVar} (o:fn.results=rs.toArray) {v:AV} {ex:Ex} {e:Env} (h:aHy P rs v ex e):JD P O fn (QB .empty (.ret v none)) ex e:=by
 have a:fn.results.toList=rs:=by rw [o]
 have b:(match e.ds with
  | []=>e.r=.no/\GV (aZ P e rs) (fun S r=>Frz S 0 r v) e.s
  | [.collected d]=>e.r=.no/\e.s.get d=some (.defs (some []))/\GV (aZ P {e with ds:=[],s:=e.s.put d (.defs none)} rs) (fun S r=>Frz S 0 r v) (e.s.put d (.defs none))
  | _=>False)->Lv P O fn none e (QB .empty (.ret v none)):=by
  intro h;split at h
  ·rename_i l
   obtain ⟨c,vs,f,k⟩:=h;exact tR l (by rw [a];exact f) ⟨c,kV (Nat.zero_le _) k⟩
  ·rename_i d l
   obtain ⟨c,m,vs,f,k⟩:=h;refine YJ l m ?_;exact tR rfl (by rw [a];exact f) ⟨c,kV (Nat.zero_le _) k⟩
  ·exact h.elim
 cases ex with
 | normal=>exact b h
 | ret=>exact b h
 | _=>exact h.elim
theorem UW {L:List kG} (b:∀ x∈L,bM P x) (H:dG) {f:FuncId} {fn:Func} {c:Code} {N:Nat} {rs:List ResultVar} {args:List AV} {v:AV} (a:okFn P f=true) (o:P.funcs[f]?=some fn) (q:fn.ntmps=N) (r:fn.results=rs.toArray) (l:fn.body=some c)
 (k:Nat.ble args.length N=true) (u:∀ x∈args,nE 0 x)
 (h:Wk P (orcL L) H c ⟨N,none,f,Tr.leaf.lay 0 args,[],⟨0,0,.leaf⟩,.no⟩ (aHy P rs v)):Returns P f args v:=by
 refine dV u (yD (O:=orcL L) (mT b) a o l ?_);rw [gN q k]
 exact h.sound.mono fun ex e m=>aNg r m
section
variable {rs:List ResultVar} {v:AV} {nt:Nat} {ro:Option Nat} {fn:FuncId} {t:Tr AV} {s:Sto} {d:Nat}
theorem aBs:aHy P rs v .ret ⟨nt,ro,fn,t,[.collected d],s,.no⟩↔s.get d=some (.defs (some []))/\GV (aZ P ⟨nt,ro,fn,t,[],s.put d (.defs none),.no⟩ rs) (fun S r=>Frz S 0 r v) (s.put d (.defs none)):=by simp [aHy]
end
end
end Go.Abs
/-
 The abstract machine: arrays cut to slices,slices as arrays,arrays compared;bytes.
-/
namespace Go.Abs
noncomputable section
variable {P:Program} {O:cH} {H:dG}
def aQv (P:Program) (t:TypeId):Option (Nat × IntKind):=match P.underlying t with
 | some (.array n e)=>(match P.underlying e,tyK P e with
   | some (.int k),some none=>(match P.eqGuardType P.depth t with
     | false=>some (n,k)
     | true=>none)
   | _,_=>none)
 | _=>none
theorem aBt {f:TypeId->AV->AV->Option Bool} {e:TypeId} {k:IntKind} (w:∀ a b,f e (.int k a) (.int k b)=some (mC a b)) (y:tyK P e=some none):∀ (m i:Nat) (xs c:List Int),xs.length=i+m->c.length=i+m->
 aeqs P f (xs.map (.int k)) (c.map (.int k)) (lA e 1 m i)=some (decide (xs.drop i=c.drop i)):=by
 intro m
 induction m with
 | zero=>
   intro i xs c A B;rw [List.drop_of_length_le (by omega),List.drop_of_length_le (by omega)];rfl
 | succ m C=>
   intro i xs c A B
   have l:i<xs.length:=by omega
   have o:i<c.length:=by omega
   simp only [lA,aeqs,AL y,ptK,Nat.mul_one,List.getElem?_map,List.getElem?_eq_getElem l,List.getElem?_eq_getElem o,Option.map_some,w];have r:xs.drop i=xs[i]::xs.drop (i+1):=List.drop_eq_getElem_cons l;have u:c.drop i=c[i]::c.drop (i+1):=List.drop_eq_getElem_cons o;rw [r,u];by_cases h:xs[i]=c[i]
   ·have q:mC xs[i] c[i]=true:=by rw [fD,h];simp
    rw [q];have:=C (i+1) xs c (by omega) (by omega);simp only [this,h,List.cons.injEq,true_and]
   ·have q:mC xs[i] c[i]=false:=by rw [fD];simpa using h
    rw [q];simp only [List.cons.injEq,h,false_and,decide_false]
theorem aHz {t:TypeId} {x y:Operand} {n:Nat} {k:IntKind} (h:aQv P t=some (n,k)) {xs c:List Int} (B:xs.length=n) (C:c.length=n):
 abin P .eql t x y (.agg (xs.map (.int k))) (.agg (c.map (.int k)))=some (.bool (decide (xs=c))):=by
 unfold aQv at h;split at h
 ·rename_i m e A
  split at h
  ·rename_i o w u
   cases q:P.eqGuardType P.depth t with
   | true=>rw [q]at h;cases h
   | false=>
     rw [q]at h;simp at h;obtain ⟨rfl,rfl⟩:=h
     have l:∀ d,SB P (d+1+1) t (.agg (xs.map (.int o))) (.agg (c.map (.int o)))=some (decide (xs=c)):=by
      intro d;unfold SB;simp only [A];simp only [(rH u).1,jS]
      have:=aBt (P:=P) (f:=SB P (d+1)) (e:=e) (k:=o) (fun a b=>by
       unfold SB;simp only [w]
       simp) u m 0 xs c (by omega) (by omega)
      simpa using this
     have r:SB P 10000 t (.agg (xs.map (.int o))) (.agg (c.map (.int o)))=some (decide (xs=c)):=l 9998;simp only [abin,pJ,q,r];rfl
  ·cases h
 ·cases h
theorem aIa:(∀ {P:Program} {rs:List ResultVar} {v:AV} {nt:Nat} {ro:Option Nat} {fn:FuncId} {t:Tr AV} {s:Sto} {d:Nat},aHy P rs v .ret ⟨nt,ro,fn,t,[.collected d],s,.no⟩↔s.get d=some (.defs (some []))/\GV (aZ P ⟨nt,ro,fn,t,[],s.put d (.defs none),.no⟩ rs) (fun S r=>Frz S 0 r v) (s.put d (.defs none)))/\(∀ {n low:Nat} {o:Tr AObj} {i:Nat} {x:AObj},(Sto.mk n low o).put i x=⟨n,Nat.min i low,o.set i x⟩):=
 ⟨aBs,Sto.put_any⟩
open Classical in
def aBu {ι:Type} (f:FuncId) (A:ι->List AV) (V:ι->AV):kG:=(f,fun args _=>if h:∃ i,A i=args then some (.ret (V h.choose) none) else none)
theorem YI {ι:Type} {f:FuncId} {A:ι->List AV} {V:ι->AV} (h:∀ i,Returns P f (A i) (V i)):bM P (aBu f A V):=by
 intro args s res a;simp only [aBu]at a;split at a
 ·rename_i b
  simp at a;subst a;have:=h b.choose s
  rwa [b.choose_spec]at this
 ·cases a
theorem entF_same {ι:Type} {f:FuncId} {A:ι->List AV} {V:ι->AV} {L:List kG} {s:Sto} (a:∀ i j,A i=A j->V i=V j) (i:ι):orcL (aBu f A V::L) f (A i) s=some (.ret (V i) none):=by
 rw [aBu,uW]
 have b:∃ j,A j=A i:=⟨i,rfl⟩
 rw [dif_pos b,a _ _ b.choose_spec]
def eZ (f:FuncId) (a:List AV) (v:AV):kG:=aBu f (fun _:Unit=>a) fun _=>v
theorem bL {f:FuncId} {a:List AV} {v:AV} (h:Returns P f a v):bM P (eZ f a v):=YI fun _=>h
theorem eC {f:FuncId} {a:List AV} {v:AV} {L:List kG} {s:Sto}:orcL (eZ f a v::L) f a s=some (.ret v none):=entF_same (fun _ _ _=>rfl) ()
theorem jP {f h:FuncId} {a:List AV} {v:AV} {L:List kG} {args:List AV} {s:Sto} (b:h≠f):orcL (eZ h a v::L) f args s=orcL L f args s:=YX b
theorem tO {S:Sto} {n:Nat}:∀ (i:Nat) (x y:AV),([]:List AV)[i]?=some x->([]:List AV)[i]?=some y->Frz S n x y:=fun _ _ _ h=>by simp at h
theorem jQ {S:Sto} {n:Nat} {a e:AV} {l f:List AV} (h:Frz S n a e) (k:∀ (i:Nat) (x y:AV),l[i]?=some x->f[i]?=some y->Frz S n x y):∀ (i:Nat) (x y:AV),(a::l)[i]?=some x->(e::f)[i]?=some y->Frz S n x y:=fun i x y b c=>by
 cases i with
 | zero=>simp at b c;subst b;subst c;exact h
 | succ i=>exact k i x y (by simpa using b) (by simpa using c)
theorem aNh {S:Sto} {n id g off:Nat} {cs:List AV} {v:AV} (k:n<=id) (c:S.get id=some (aQ g cs)) (f:off+v.cells.length<=cs.length) (h:∀ (j:Nat) (x y:AV),cs[off+j]?=some x->v.cells[j]?=some y->Frz S n x y):Frz S n (.ptr id g off) (.pf v):=by
 refine .ptr id g off cs.length _ v (fun j=>cs.getD (off+j) .top) k c f (fun j y b=>?_) (fun j y b=>?_)
 ·have e:=(List.getElem?_eq_some_iff.1 b).1
  have a:off+j<cs.length:=by omega
  rw [Tr.get_row,List.getElem?_eq_getElem a];simp [List.getD_eq_getElem?_getD,a]
 ·have e:=(List.getElem?_eq_some_iff.1 b).1
  have a:off+j<cs.length:=by omega
  refine h j _ y ?_ b;simp [List.getD_eq_getElem?_getD,a]
theorem rC {S:Sto} {n id g off len:Nat} {cap:ACap} {cs l:List AV} (q:n<=id) (m:S.get id=some (aQ g cs)) (e:l.length=len) (r:off+len<=cs.length) (f:∀ x∈l,x.isCell=true) (h:∀ (j:Nat) (x y:AV),cs[off+j]?=some x->l[j]?=some y->Frz S n x y):Frz S n (.sl id g off len cap) (.fz l false):=by
 refine .sl id g off len cap cs.length 1 _ l (fun i _=>cs.getD (off+i) .top) q m e (by omega) (fun x b=>by rw [lE (f x b)];rfl) (fun i j x y b c=>?_) (fun i j x y b c=>?_)
 ·have o:=(List.getElem?_eq_some_iff.1 b).1
  rw [lE (f x (List.mem_of_getElem? b))]at c
  have k:j=0:=by have:=(List.getElem?_eq_some_iff.1 c).1;simp at this;exact this
  subst k
  have a:off+i<cs.length:=by omega
  rw [Tr.get_row,Nat.mul_one,Nat.add_zero,List.getElem?_eq_getElem a];simp [List.getD_eq_getElem?_getD,a]
 ·have o:=(List.getElem?_eq_some_iff.1 b).1
  rw [lE (f x (List.mem_of_getElem? b))]at c
  have k:j=0:=by have:=(List.getElem?_eq_some_iff.1 c).1;simp at this;exact this
  subst k;simp at c;subst c
  have a:off+i<cs.length:=by omega
  exact h i _ x (by simp [List.getD_eq_getElem?_getD,a]) b
theorem fA {ops rest:List Oper} {dst:Option Tmp} {nt:Nat} {ro:Option Nat} {fn:FuncId} {t:Tr AV} {b:List ADef} {s:Sto} {r:ARec} {Q:Ex->Env->Prop} {v:AV} {a:Option Sto}:
 callK s (iT P O ops dst rest ⟨nt,ro,fn,t,b,s,r⟩ Q) (.ret v a)=iT P O ops dst rest ⟨nt,ro,fn,t,b,s,r⟩ Q (.val' v (a.getD s)):=by cases a<;>rfl
theorem UX {ops rest:List Oper} {dst:Option Tmp} {nt:Nat} {ro:Option Nat} {fn:FuncId} {t:Tr AV} {b:List ADef} {s:Sto} {r:ARec} {Q:Ex->Env->Prop} {v:AV} {a:Option Sto}:
 callK s (iT P O ops dst rest ⟨nt,ro,fn,t,b,s,r⟩ Q) (.pan v a)=iT P O ops dst rest ⟨nt,ro,fn,t,b,s,r⟩ Q (.pan v (a.getD s)):=by cases a<;>rfl
theorem eP {n:Nat}:(n<n+1)/\(n<n+1+1)/\(n<n+1+1+1)/\(n+1<n+1+1)/\(n+1<n+1+1+1)/\(n+1+1<n+1+1+1)/\n≠n+1/\n+1≠n/\n≠n+1+1/\n+1+1≠n/\n+1≠n+1+1/\n+1+1≠n+1/\n<=n+1/\n<=n+1+1/\n<=n+1+1+1/\n+1<=n+1+1/\n+1<=n+1+1+1:=by
 refine ⟨?_,?_,?_,?_,?_,?_,?_,?_,?_,?_,?_,?_,?_,?_,?_,?_,?_⟩<;>omega
theorem eM {i n:Nat} (h:i<n):i<n/\i<n+1/\i<n+1+1/\i<n+1+1+1/\i≠n/\n≠i/\i≠n+1/\n+1≠i/\i≠n+1+1/\n+1+1≠i:=by
 refine ⟨?_,?_,?_,?_,?_,?_,?_,?_,?_,?_⟩<;>omega
end
end Go.Abs
/-
 The abstract machine: slices that are made,cut,copied,read as strings;slices that can be read.
-/
namespace Go.Abs
noncomputable section
variable {P:Program} {O:cH} {H:dG}
def msK (P:Program) (t:TypeId):Option (Nat × Nat × List AV):=match P.underlying t with
 | some (.slice a)=>(match qP P a,nY P a,bF P a with
   | some k,some b,some z=>bif Nat.beq z.cells.length k then some (k,b,z.cells) else none
   | _,_,_=>none)
 | _=>none
theorem vR {t:TypeId} {lo a:Operand} {e:Env} {K:ORes->Prop} {k b:Nat} {z:List AV} {i j:IntKind} {l c:Nat} (h:msK P t=some (k,b,z)) (E:e.eval lo=.int i (l:Nat)) (D:e.eval a=.int j (c:Nat)) (y:l<=c) (A:b*c<=140737488355328) (B:c<=4611686018427387904) (G:(cQ z c).all AV.isCell=true)
 (C:K (.val' (.sl e.s.n 0 0 l (.is c)) (e.s.push (ob (cQ z c))))):fW P O (.makeSlice t lo a) e K:=by
 refine ⟨0,_,?_,C⟩;unfold msK at h;split at h
 ·rename_i f F
  split at h
  ·rename_i I b' N J L M
   cases m:Nat.beq N.cells.length I with
   | false=>rw [m]at h;cases h
   | true=>
     rw [m]at h;simp at h;obtain ⟨rfl,rfl,rfl⟩:=h
     show (match P.underlying t,e.eval lo,e.eval a with
      | some (.slice f),.int _ (.ofNat l),.int _ (.ofNat c)=>(match qP P f,nY P f,bF P f with
        | some k,some by_,some z=>bif Nat.ble l c&&Nat.ble (by_*c) (2 ^ 47)&&Nat.ble c (2 ^ 62)&&Nat.beq z.cells.length k then
         (match oF e.s (cQ z.cells c) with
         | some (id,s)=>some (ORes.val' (.sl id 0 0 l (.is c)) s)
         | none=>none)
          else none
        | _,_,_=>none)
      | _,_,_=>none)=_
     have q:e.eval lo=.int i (.ofNat l):=E;have o:e.eval a=.int j (.ofNat c):=D
     have r:Nat.ble l c=true:=by simpa using y
     have u:Nat.ble (b'*c) (2 ^ 47)=true:=by simpa using A
     have w:Nat.ble c (2 ^ 62)=true:=by simpa using B
     simp only [F,q,o,J,L,M,r,u,w,m,Bool.and_self,cond_true,rM,G,if_true]
  ·cases h
 ·cases h
def By (l:List Nat):Prop:=∀ b∈l,b<256
structure Rd (P:Program) (s:Sto) (ts te:TypeId) (a:AV) (xs:List AV):Prop where
 len:∀ {s':Sto} {d:Option ORes},HC (some 1) s' a d=some (.val (.int .i64 (xs.length:Nat)))
 at_:∀ (i:Nat) x,xs[i]?=some x->∃ ad,bW P ts a (.int .i64 (i:Nat))=some ad/\(∀ Y:Nat->Prop,(∀ id,id<s.n->Y id)->kF Y ad)/\∀ s':Sto,(∀ id,id<s.n->s'.get id=s.get id)->fE P s' te ad=some x
end
end Go.Abs
