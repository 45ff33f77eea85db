/-
  The abstract machine: ranges over functions.
-/
import Derived.Test.YthakciolcdlphaaGreatEj
set_option linter.unusedVariables false
set_option linter.unusedSimpArgs false
namespace Go.Abs
noncomputable section
variable {P:Program} {O:bN} {H:cJ}
def SimX (l:Nat) (s s':Sto):Prop:=s.n<=s'.n/\∀ id,id<s.n->id≠l->s'.get id=s.get id
def Sim (s s':Sto):Prop:=s.n<=s'.n/\∀ id,id<s.n->s'.get id=s.get id
theorem Sim.refl (s:Sto):Sim s s:=⟨Nat.le_refl _,fun _ _=>rfl⟩
theorem Sim.trans {a b c:Sto} (h:Sim a b) (h':Sim b c):Sim a c:=⟨Nat.le_trans h.1 h'.1,fun id hid=>(h'.2 id (Nat.lt_of_lt_of_le hid h.1)).trans (h.2 id hid)⟩
theorem Sim.x {l:Nat} {a b:Sto} (h:Sim a b):SimX l a b:=⟨h.1,fun id hid _=>h.2 id hid⟩
theorem SimX.trans {l:Nat} {a b c:Sto} (h:SimX l a b) (h':SimX l b c):SimX l a c:=⟨Nat.le_trans h.1 h'.1,fun id hid hl=>(h'.2 id (Nat.lt_of_lt_of_le hid h.1) hl).trans (h.2 id hid hl)⟩
theorem SimX.get {l:Nat} {a b:Sto} (h:SimX l a b) {id:Nat} {x:AObj} (hg:a.get id=some x) (hl:id≠l):b.get id=some x:=(h.2 id (Sto.get_lt hg) hl).trans hg
theorem Sim.get {a b:Sto} (h:Sim a b) {id:Nat} {x:AObj} (hg:a.get id=some x):b.get id=some x:=(h.2 id (Sto.get_lt hg)).trans hg
theorem Sim.low (s:Sto) (k:Nat):Sim s {s with low:=k}:=⟨Nat.le_refl _,fun _ _=>rfl⟩
theorem Sim.push (s:Sto) (x:AObj):Sim s (s.push x):=⟨Nat.le_succ _,fun id hid=>by
 rw [Sto.get_push,if_neg (by omega)]⟩
theorem SimX.put (s:Sto) (l:Nat) (x:AObj):SimX l s (s.put l x):=⟨Nat.le_refl _,fun id _ hl=>by
 rw [Sto.get_put,if_neg (fun h=>hl h.1)]⟩
theorem Sto.put_any {n low:Nat} {o:Tr AObj} {i:Nat} {x:AObj}:(Sto.mk n low o).put i x=⟨n,Nat.min i low,o.set i x⟩:=by
 have h:=Sto.low_put (Sto.mk n low o) i x
 have:(Sto.mk n low o).put i x=⟨n,((Sto.mk n low o).put i x).low,o.set i x⟩:=rfl
 rw [this,h]
theorem Sto.put_low_le (s:Sto) (i:Nat) (x:AObj):(s.put i x).low<=i:=by
 rw [Sto.low_put];exact Nat.min_le_left _ _
theorem Sto.get_put_ne (s:Sto) {i j:Nat} (x:AObj) (h:j≠i):(s.put i x).get j=s.get j:=by
 rw [Sto.get_put,if_neg (fun h'=>h h'.1)]
theorem Sto.get_put_same (s:Sto) {i:Nat} (x:AObj) (h:i<s.n):(s.put i x).get i=some x:=by
 rw [Sto.get_put,if_pos ⟨rfl,h⟩]
theorem Sto.get_push_same (s:Sto) (x:AObj):(s.push x).get s.n=some x:=by
 rw [Sto.get_push,if_pos rfl]
theorem Sto.get_push_lt (s:Sto) (x:AObj) {i:Nat} (h:i<s.n):(s.push x).get i=s.get i:=(Sim.push s x).2 i h
theorem Wcall.mono {fv:AV} {args:List AV} {s:Sto} {K K':CRes->Prop} (h:Wcall P O fv args s K) (hK:∀ res,K res->K' res):Wcall P O fv args s K':=by
 obtain ⟨n,res,rr,h1,h2⟩:=h
 exact ⟨n,res,rr,h1,hK _ h2⟩
def rK (l:Nat) (J:Nat->Sto->Prop) (D:Sto->Prop) (X:AV->Sto->Prop) (i:Nat) (s:Sto):CRes->Prop
 | .ret (.bool true) so=>(so.getD s).low<=l/\l<(so.getD s).n/\J (i+1) (so.getD s)
 | .ret (.bool false) so=>(so.getD s).low<=l/\D (so.getD s)
 | .pan v so=>(so.getD s).low<=l/\X v (so.getD s)
 | _=>False
def aNa (n:Nat) (J:Nat->Sto->Prop) (D:Sto->Prop) (X:AV->Sto->Prop) (s:Sto):CRes->Prop
 | .ret _ so=>J n (so.getD s)∨D (so.getD s)
 | .pan v so=>X v (so.getD s)
def aNb (P:Program) (O:bN) (fv:AV) (xs:List (List AV)):Prop:=∀ (l:Nat) (J:Nat->Sto->Prop) (D:Sto->Prop) (X:AV->Sto->Prop) (s:Sto),l<s.n->
 (∀ i s s',Sim s s'->J i s->J i s')->(∀ s s',Sim s s'->D s->D s')->(∀ v s s',Sim s s'->X v s->X v s')->J 0 s->
 (∀ i x,xs[i]?=some x->∀ s,l<s.n->J i s->Wcall P O (.func (.yield l) [] []) x s (rK l J D X i s))->
 Wcall P O fv [.func (.yield l) [] []] s (aNa xs.length J D X s)
theorem iK (s:Sto) (v:AV) (e:Env) (G:Sto->Prop) (hst:∀ s s',Sim s s'->G s->G s') (h:G e.s) (h':e.s.low<s.n∨G s):G ((cT s v e).getD s):=by
 cases hd:cT s v e with
 | none=>
   rcases h' with h' | h'
   ·rw [mK h']at hd;cases hd
   ·exact h'
 | some s'=>
   have:s' = {e.s with low:=Nat.min s.low e.s.low}:=by
    unfold cT at hd
    cases hb:(Nat.ble s.n e.s.low&&(v.under s.n 100&&CM s.n e.r)) with
    | true=>rw [hb]at hd;cases hd
    | false=>rw [hb]at hd;simp at hd;exact hd.symm
   rw [this]
   exact hst _ _ (Sim.low _ _) h
def eL (P:Program) (l:Nat) (lo:LoopState->Option Code->AObj) (J:Nat->Sto->Prop) (D:Code->Sto->Prop) (X:AV->Sto->Prop) (i:Nat):Ex->Env->Prop
 | .normal,e=>e.ds=[]/\e.s.get l=some (lo .busy none)/\J (i+1) e.s
 | .ret,e=>e.ds=[]/\e.s.get l=some (lo .busy none)/\D .ret e.s
 | .exit id,e=>e.ds=[]/\e.s.get l=some (lo .busy none)/\D (.exit id) e.s
 | .panic v,e=>e.ds=[]/\okFn P e.fn=true/\e.s.low<=l/\X v e.s
 | _,_=>False
def fK (P:Program) (O:bN) (H:cJ) (l:Nat) (lo:LoopState->Option Code->AObj) (b:Code) (R:Ex->Env->Prop):Ex->Env->Prop
 | .normal,e=>e.s.get l=some (lo .ready none)/\Wk P O H b (e.setS (e.s.put l (lo .busy none))) R
 | _,_=>False
theorem yD {l:Nat} {fn:FuncId} {nt d i:Nat} {t t':Tr AV} {ps:List Nat} {a b:Code} {args:List AV} {s:Sto} {J J':Nat->Sto->Prop} {D:Sto->Prop} {E:Code->Sto->Prop} {X:AV->Sto->Prop}
 (hg:s.get l=some (.loop .ready none fn nt t ps a b d)) (hlay:rT nt t ps args=some t')
 (hJ:∀ e:Sto,l<e.n->∀ k,J (i+1) e->J' (i+1) {e.put l (.loop .ready none fn nt t ps a b d) with low:=k}) (hD:∀ (e:Sto) c,l<e.n->∀ k,E c e->D {e.put l (.loop .done (some c) fn nt t ps a b d) with low:=k}) (hX:∀ (e:Sto) v k,X v e->X v {e with low:=k})
 (h:Wk P O H a ⟨nt,some l,fn,t',[],⟨s.n,s.n,s.o⟩,.no⟩ (fK P O H l (fun st p=>.loop st p fn nt t ps a b d) b (eL P l (fun st p=>.loop st p fn nt t ps a b d) J E X i))):
 Wcall P O (.func (.yield l) [] []) args s (rK l J' D X i s):=by
 obtain ⟨n1,ex1,e1,h1,hp⟩:=h.sound
 cases ex1 with
 | normal=>
   obtain ⟨hr,hb⟩:=hp
   obtain ⟨n2,ex2,e2,h2,hQ⟩:=hb.sound
   have key:∀ res,(∀ m,n1<=m->n2<=m->kO P (aO P O m) m l args s=some (res,.no))->rK l J' D X i s res->Wcall P O (.func (.yield l) [] []) args s (rK l J' D X i s):=by
    intro res hm hk
    refine ⟨max n1 n2+1,res,.no,?_,hk⟩
    have:CN O (.func (.yield l) [] []) args s .no=none:=rfl
    simp only [aO,this,fW,List.nil_append]
    exact hm _ (Nat.le_max_left _ _) (Nat.le_max_right _ _)
   have hrun:∀ m,n1<=m->n2<=m->kO P (aO P O m) m l args s=match (ex2,e2) with
    | (.normal,e)=>dD s l none e
    | (.ret,e)=>dD s l (some .ret) e
    | (.exit id,e)=>dD s l (some (.exit id)) e
    | (.panic v,e)=>(match e.ds with
      | []=>bif okFn P e.fn then some (.pan v (some {e.s with low:=Nat.min s.low e.s.low}),.no) else none
      | _=>none)
    | _=>none:=by
    intro m hm1 hm2
    have c1:bA P (aO P O m) m a {nt:=nt,ro:=some l,fn:=fn,t:=t',ds:=[],s:={s with low:=s.n},r:=.no} = some (.normal,e1):=mP hm1 h1
    have c2:bA P (aO P O m) m b {e1 with s:=e1.s.put l (.loop .busy none fn nt t ps a b d)} = some (ex2,e2):=mP hm2 h2
    simp only [kO,hg,hlay,c1,hr,c2]
    cases ex2<;>rfl
   cases ex2 with
   | normal=>
     obtain ⟨q1,q2,q3⟩:=hQ
     have hl:=Sto.get_lt q2
     refine key (.ret (.bool true) (some {e2.s.put l (.loop .ready none fn nt t ps a b d) with low:=Nat.min s.low (e2.s.put l (.loop .ready none fn nt t ps a b d)).low})) (fun m a1 a2=>by rw [hrun m a1 a2];simp only [dD,q2,q1];rfl) (And.intro ?_ (And.intro hl (hJ _ hl _ q3)))
     exact Nat.le_trans (Nat.min_le_right _ _) (Sto.put_low_le _ _ _)
   | ret=>
     obtain ⟨q1,q2,q3⟩:=hQ
     have hl:=Sto.get_lt q2
     refine key (.ret (.bool false) (some {e2.s.put l (.loop .done (some .ret) fn nt t ps a b d) with low:=Nat.min s.low (e2.s.put l (.loop .ready none fn nt t ps a b d)).low})) (fun m a1 a2=>by rw [hrun m a1 a2];simp only [dD,q2,q1];rfl) (And.intro ?_ (hD _ _ hl _ q3))
     exact Nat.le_trans (Nat.min_le_right _ _) (Sto.put_low_le _ _ _)
   | exit id=>
     obtain ⟨q1,q2,q3⟩:=hQ
     have hl:=Sto.get_lt q2
     refine key (.ret (.bool false) (some {e2.s.put l (.loop .done (some (.exit id)) fn nt t ps a b d) with low:=Nat.min s.low (e2.s.put l (.loop .ready none fn nt t ps a b d)).low})) (fun m a1 a2=>by rw [hrun m a1 a2];simp only [dD,q2,q1];rfl) (And.intro ?_ (hD _ _ hl _ q3))
     exact Nat.le_trans (Nat.min_le_right _ _) (Sto.put_low_le _ _ _)
   | panic v=>
     obtain ⟨q1,q2,q3,q4⟩:=hQ
     exact key (.pan v (some {e2.s with low:=Nat.min s.low e2.s.low})) (fun m a1 a2=>by rw [hrun m a1 a2];simp only [q1,q2,cond_true]) (And.intro (Nat.le_trans (Nat.min_le_right _ _) q3) (hX _ _ _ q4))
   | _=>exact hQ.elim
 | _=>exact hp.elim
theorem aFo {xs:List (List AV)} {f:Operand} {ps:Array Tmp} {a b:Code} {nt:Nat} {fn:FuncId} {t:Tr AV} {ds:List ADef} {s:Sto} {r:ARec} {Q:Ex->Env->Prop} (J:Nat->Sto->Prop) (E:Code->Sto->Prop) (X:AV->Sto->Prop)
 (hI:aNb P O ((Env.mk nt none fn t ds s r).eval f) xs)
 (hJ:∀ i u u',SimX (s.n+1) u u'->J i u->J i u') (hE:∀ c u u',SimX (s.n+1) u u'->E c u->E c u') (hX:∀ v u u',Sim u u'->X v u->X v u')
 (hc:∀ c u,E c u->c=.ret∨∃ id,c=.exit id)
 (h0:J 0 s)
 (hr:∀ i x,xs[i]?=some x->∀ u:Sto,s.n+1<u.n->u.get s.n=some (.defs (some []))->u.get (s.n+1)=some (.loop .ready none fn nt t ps.toList a b s.n)->J i u->
   ∃ t',rT nt t ps.toList x=some t'/\Wk P O H a ⟨nt,some (s.n+1),fn,t',[],⟨u.n,u.n,u.o⟩,.no⟩
     (fK P O H (s.n+1) (fun st p=>.loop st p fn nt t ps.toList a b s.n) b (eL P (s.n+1) (fun st p=>.loop st p fn nt t ps.toList a b s.n) (fun i u=>J i u/\u.get s.n=some (.defs (some []))) (fun c u=>E c u/\u.get s.n=some (.defs (some []))) X i)))
 (hend:∀ u:Sto,s.n+1<u.n->u.get s.n=some (.defs (some []))->J xs.length u->Q .normal ⟨nt,none,fn,t,.collected s.n::ds,u,r⟩)
 (hret:∀ u:Sto,s.n+1<u.n->u.get s.n=some (.defs (some []))->E .ret u->Q .ret ⟨nt,none,fn,t,.collected s.n::ds,u,r⟩)
 (hexit:∀ id (u:Sto),s.n+1<u.n->u.get s.n=some (.defs (some []))->E (.exit id) u->Q (.exit id) ⟨nt,none,fn,t,.collected s.n::ds,u,r⟩)
 (hpan:∀ v (u:Sto),X v u->Q (.panic v) ⟨nt,none,fn,t,.collected s.n::ds,u,r⟩):
 Wk P O H (.rangeFunc f ps a b) ⟨nt,none,fn,t,ds,s,r⟩ Q:=by
 let lo:LoopState->Option Code->AObj:=fun st p=>.loop st p fn nt t ps.toList a b s.n
 let s1:=s.push (.defs (some []))
 let s2:=s1.push (lo .ready none)
 let J':Nat->Sto->Prop:=fun i u=>u.get s.n=some (.defs (some []))/\u.get (s.n+1)=some (lo .ready none)/\J i u
 let D':Sto->Prop:=fun u=>u.get s.n=some (.defs (some []))/\∃ c,u.get (s.n+1)=some (lo .done (some c))/\E c u
 have hlow:∀ (u:Sto) k,SimX (s.n+1) u {u with low:=k}:=fun u k=>(Sim.low u k).x
 have e0:s2.get s.n=some (.defs (some [])):=by
  rw [Sto.get_push_lt _ _ (Nat.lt_succ_self _)];exact Sto.get_push_same _ _
 have e1:s2.get (s.n+1)=some (lo .ready none):=Sto.get_push_same s1 _
 obtain ⟨n,res,rr,hcall,hK⟩:=hI (s.n+1) J' D' X s2 (Nat.lt_succ_self _) (fun i u u' hs ⟨k1,k2,k3⟩=>⟨hs.get k1,hs.get k2,hJ _ _ _ hs.x k3⟩)
  (fun u u' hs ⟨k1,c,k2,k3⟩=>⟨hs.get k1,c,hs.get k2,hE _ _ _ hs.x k3⟩) hX
  ⟨e0,e1,hJ 0 s s2 ((Sim.push _ _).trans (Sim.push _ _)).x h0⟩
  (fun i x hx u hu ⟨k1,k2,k3⟩=>by
    obtain ⟨t',ht,hw⟩:=hr i x hx u hu k1 k2 k3
    refine yD (H:=H) (J:=fun i u=>J i u/\u.get s.n=some (.defs (some []))) (E:=fun c u=>E c u/\u.get s.n=some (.defs (some []))) k2 ht ?_ ?_ ?_ hw
    ·rintro e he k ⟨q2,q1⟩
     exact ⟨(((SimX.put e (s.n+1) _).trans (hlow _ k)).get q1 (by omega)),(Sim.low _ k).get (Sto.get_put_same _ _ he),hJ _ _ _ ((SimX.put e (s.n+1) _).trans (hlow _ k)) q2⟩
    ·rintro e c he k ⟨q1,q2⟩
     exact ⟨(((SimX.put e (s.n+1) _).trans (hlow _ k)).get q2 (by omega)),c,(Sim.low _ k).get (Sto.get_put_same _ _ he),hE _ _ _ ((SimX.put e (s.n+1) _).trans (hlow _ k)) q1⟩
    ·exact fun e v k hx=>hX _ _ _ (Sim.low _ k) hx)
 show W P O (.rangeFunc f ps a b) ⟨nt,none,fn,t,ds,s,r⟩ Q
 have hd:∀ x,(match res with
  | .ret _ so=>cL ⟨nt,none,fn,t,ds,s,r⟩ (.collected s.n::ds) (s.n+1) (match so with | some s=>s | none=>s2)
  | .pan v so=>some (.panic v,{(Env.mk nt none fn t ds s r) with s:=(match so with | some s=>s | none=>s2),ds:=.collected s.n::ds}))=some x->bA P (aO P O n) n (.rangeFunc f ps a b) ⟨nt,none,fn,t,ds,s,r⟩=some x:=by
  intro x hx
  show (match aO P O n ((Env.mk nt none fn t ds s r).eval f) [.func (.yield (s.n+1)) [] []] s2 .no with
   | some (.ret _ so,_)=>cL ⟨nt,none,fn,t,ds,s,r⟩ (.collected s.n::ds) (s.n+1) (match so with | some s=>s | none=>s2)
   | some (.pan v so,_)=>some (.panic v,{(Env.mk nt none fn t ds s r) with s:=(match so with | some s=>s | none=>s2),ds:=.collected s.n::ds})
   | none=>none)=some x
  rw [hcall]
  cases res<;>exact hx
 have hso:∀ so:Option Sto,(match so with | some s=>s | none=>s2)=so.getD s2:=fun so=>by cases so<;>rfl
 cases res with
 | ret v so=>
   simp only [hso]at hd
   rcases hK with ⟨k1,k2,k3⟩ | ⟨k1,c,k2,k3⟩
   ·refine ⟨n,.normal,_,hd _ (by simp only [cL,k2,lo]),hend ((so.getD s2).put (s.n+1) (lo .exhausted none)) (show s.n+1<(so.getD s2).n from Sto.get_lt k2) ((SimX.put _ (s.n+1) _).get k1 (by omega)) (hJ _ _ _ (SimX.put _ (s.n+1) _) k3)⟩
   ·rcases hc c _ k3 with rfl | ⟨id,rfl⟩
    ·exact ⟨n,.ret,_,hd _ (by simp only [cL,k2,lo]),hret ((so.getD s2).put (s.n+1) (lo .exhausted (some .ret))) (show s.n+1<(so.getD s2).n from Sto.get_lt k2) ((SimX.put _ (s.n+1) _).get k1 (by omega)) (hE _ _ _ (SimX.put _ (s.n+1) _) k3)⟩
    ·exact ⟨n,.exit id,_,hd _ (by simp only [cL,k2,lo]),hexit id ((so.getD s2).put (s.n+1) (lo .exhausted (some (.exit id)))) (show s.n+1<(so.getD s2).n from Sto.get_lt k2) ((SimX.put _ (s.n+1) _).get k1 (by omega)) (hE _ _ _ (SimX.put _ (s.n+1) _) k3)⟩
 | pan v so=>
   simp only [hso]at hd
   exact ⟨n,.panic v,_,hd _ rfl,hpan v _ hK⟩
def uW (P:Program) (rs:List ResultVar) (v:AV) (ex:Ex) (e:Env):Prop:=match ex with
 | .normal | .ret=>(match e.ds with
   | []=>e.r=.no/\sX (aP P e rs) (fun S r=>Frz S 0 r v) e.s
   | [.collected d]=>e.r=.no/\e.s.get d=some (.defs (some []))/\sX (aP P {e with ds:=[],s:=e.s.put d (.defs none)} rs) (fun S r=>Frz S 0 r v) (e.s.put d (.defs none))
   | _=>False)
 | _=>False
theorem aFp {fn:Func} {rs:List ResultVar} (hr:fn.results=rs.toArray) {v:AV} {ex:Ex} {e:Env} (h:uW P rs v ex e):DT P O fn (GK .empty (.ret v none)) ex e:=by
 have hrs:fn.results.toList=rs:=by rw [hr]
 have key:(match e.ds with
  | []=>e.r=.no/\sX (aP P e rs) (fun S r=>Frz S 0 r v) e.s
  | [.collected d]=>e.r=.no/\e.s.get d=some (.defs (some []))/\sX (aP P {e with ds:=[],s:=e.s.put d (.defs none)} rs) (fun S r=>Frz S 0 r v) (e.s.put d (.defs none))
  | _=>False)->Lv P O fn none e (GK .empty (.ret v none)):=by
  intro h
  split at h
  ·rename_i hd
   obtain ⟨h0,vs,h1,h2⟩:=h
   exact nF hd (by rw [hrs];exact h1) ⟨h0,jH (Nat.zero_le _) h2⟩
  ·rename_i d hd
   obtain ⟨h0,hg,vs,h1,h2⟩:=h
   refine RD hd hg ?_
   exact nF rfl (by rw [hrs];exact h1) ⟨h0,jH (Nat.zero_le _) h2⟩
  ·exact h.elim
 cases ex with
 | normal=>exact key h
 | ret=>exact key h
 | _=>exact h.elim
theorem NT {L:List kL} (hL:∀ x∈L,bS P x) (H:cJ) {f:FuncId} {fn:Func} {c:Code} {N:Nat} {rs:List ResultVar} {args:List AV} {v:AV} (hok:okFn P f=true) (hf:P.funcs[f]?=some fn) (hn:fn.ntmps=N) (hr:fn.results=rs.toArray) (hb:fn.body=some c)
 (ha:Nat.ble args.length N=true) (hu:∀ x∈args,Und 0 x)
 (h:Wk P (orcL L) H c ⟨N,none,f,Tr.leaf.lay 0 args,[],⟨0,0,.leaf⟩,.no⟩ (uW P rs v)):Returns P f args v:=by
 refine dC hu (rC (O:=orcL L) (kY hL) hok hf hb ?_)
 rw [fN hn ha]
 exact h.sound.mono fun ex e he=>aFp hr he
section
variable {rs:List ResultVar} {v:AV} {nt:Nat} {ro:Option Nat} {fn:FuncId} {t:Tr AV} {s:Sto} {d:Nat}
theorem UG:uW P rs v .ret ⟨nt,ro,fn,t,[],s,.no⟩↔sX (aP P ⟨nt,ro,fn,t,[],s,.no⟩ rs) (fun S r=>Frz S 0 r v) s:=by simp [uW]
theorem GH:uW P rs v .normal ⟨nt,ro,fn,t,[],s,.no⟩↔sX (aP P ⟨nt,ro,fn,t,[],s,.no⟩ rs) (fun S r=>Frz S 0 r v) s:=by simp [uW]
theorem UH:uW P rs v .ret ⟨nt,ro,fn,t,[.collected d],s,.no⟩↔s.get d=some (.defs (some []))/\sX (aP P ⟨nt,ro,fn,t,[],s.put d (.defs none),.no⟩ rs) (fun S r=>Frz S 0 r v) (s.put d (.defs none)):=by simp [uW]
theorem GI:uW P rs v .normal ⟨nt,ro,fn,t,[.collected d],s,.no⟩↔s.get d=some (.defs (some []))/\sX (aP P ⟨nt,ro,fn,t,[],s.put d (.defs none),.no⟩ rs) (fun S r=>Frz S 0 r v) (s.put d (.defs none)):=by simp [uW]
end
end
end Go.Abs
/-
 The abstract machine: arrays cut to slices,slices as arrays,arrays compared;bytes.
-/
namespace Go.Abs
noncomputable section
variable {P:Program} {O:bN} {H:cJ}
def yS (x:Option (Nat × Option Nat)) (id g off:Nat) (lo hi:Option AV) (d:Option AV):Option AV:=match x with
 | some (n,k)=>(match dS hi n n with
   | some h=>(match dS lo 0 h with
     | some l=>some (bif Nat.beq n l then .sl id g off (h-l) (.is (n-l)) else .sl id g (off+l*iU k) (h-l) (.is (n-l)))
     | none=>none)
   | none=>none)
 | none=>d
theorem NU {t:TypeId} {id g off:Nat} {lo hi:Option AV}:eQ P t (.ptr id g off) lo hi none=yS (LU P t) id g off lo hi (sF P t (.ptr id g off) lo hi none):=by
 cases h:LU P t with
 | none=>rfl
 | some y=>
   unfold LU at h
   split at h
   ·rename_i n e hu
    cases hk:tyK P e with
    | none=>rw [hk]at h;cases h
    | some x=>
      rw [hk]at h
      simp at h;subst h
      simp only [eQ,hu,(pF hk).1,yS]
      rfl
   ·cases h
theorem aFq {n id g off:Nat} {k:Option Nat} {j:IntKind} {a:Int} {d:Option AV} (h0:0<=a) (h1:a<n):yS (some (n,k)) id g off (some (.int j a)) none d=some (.sl id g (off+a.toNat*iU k) (n-a.toNat) (.is (n-a.toNat))):=by
 have hne:Nat.beq n a.toNat=false:=by
  cases hb:Nat.beq n a.toNat with
  | false=>rfl
  | true=>have:=Nat.eq_of_beq_eq_true hb;omega
 simp only [yS,lR,kW h0 (show a<=(n:Int) by omega),hne,cond_false]
theorem aFr {n id g off:Nat} {k:Option Nat} {j:IntKind} {b:Int} {d:Option AV} (h0:0<=b) (h1:b<=n) (h2:n≠0):yS (some (n,k)) id g off none (some (.int j b)) d=some (.sl id g off b.toNat (.is n)):=by
 have hne:Nat.beq n 0=false:=by
  cases n with
  | zero=>exact absurd rfl h2
  | succ n=>rfl
 simp only [yS,lR,kW h0 h1,hne,cond_false,Nat.zero_mul,Nat.add_zero,Nat.sub_zero]
theorem aAd {n id g off:Nat} {k:Option Nat} {d:Option AV} (h2:n≠0):yS (some (n,k)) id g off none none d=some (.sl id g off n (.is n)):=by
 have hne:Nat.beq n 0=false:=by
  cases n with
  | zero=>exact absurd rfl h2
  | succ n=>rfl
 simp only [yS,lR,hne,cond_false,Nat.zero_mul,Nat.add_zero,Nat.sub_zero]
def GJ (P:Program) (t:TypeId) (v:AV):Option AV:=match P.underlying t,v with
    | some (.array n _),.sl id g off len _=>bif Nat.ble n len then some (.ptr id g off) else none
    | _,_=>none
def NV (x:Option (Nat × Option Nat)) (v d:Option AV):Option AV:=match x,v with
 | some (n,_),some (.sl id g off len _)=>bif Nat.ble n len then some (.ptr id g off) else none
 | _,_=>d
theorem aFs {t:TypeId} {x:Operand} {e:Env} {K:ORes->Prop}:dH P O (.sliceToArrayPointer t x) e K↔lV (NV (LU P t) (some (e.eval x)) (GJ P t (e.eval x))) K:=by
 have h0:dH P O (.sliceToArrayPointer t x) e K↔lV (GJ P t (e.eval x)) K:=by
  have hd:∀ n,dR P (aO P O n) (.sliceToArrayPointer t x) e=(match GJ P t (e.eval x) with | some v=>some (ORes.val v) | none=>none):=by
   intro n
   show (match P.underlying t,e.eval x with
    | some (.array n _),.sl id g off len _=>bif Nat.ble n len then some (ORes.val (.ptr id g off)) else none
    | _,_=>none)=_
   unfold GJ
   cases P.underlying t with
   | none=>rfl
   | some d=>cases d<;>first | rfl | (cases e.eval x<;>first | rfl | (rename_i n _ _ _ _ len _;cases hb:Nat.ble n len<;>rfl) | (dsimp only;split<;>rfl) | (simp only [];rename_i a _ _ _ b _ _;cases hb:Nat.ble a b<;>rfl) | (rename_i a b c d e f g;cases hb:Nat.ble a f<;>simp [hb]))
  constructor
  ·rintro ⟨n,r,h1,h2⟩
   rw [hd]at h1
   cases hs:GJ P t (e.eval x) with
   | none=>rw [hs]at h1;cases h1
   | some v=>rw [hs]at h1;simp at h1;subst h1;exact KH.2 h2
  ·rintro ⟨v,h1,h2⟩
   exact ⟨0,_,by rw [hd,h1],h2⟩
 rw [h0]
 have:GJ P t (e.eval x)=NV (LU P t) (some (e.eval x)) (GJ P t (e.eval x)):=by
  cases h:LU P t with
  | none=>rfl
  | some y=>
    unfold LU at h
    split at h
    ·rename_i n el hu
     cases hk:tyK P el with
     | none=>rw [hk]at h;cases h
     | some z=>
       rw [hk]at h
       simp at h;subst h
       simp only [GJ,hu,NV]
       cases e.eval x<;>rfl
    ·cases h
 rw [<-this]
theorem aFt {n id g off len:Nat} {k:Option Nat} {c:ACap} {d:Option AV} (h:n<=len):NV (some (n,k)) (some (.sl id g off len c)) d=some (.ptr id g off):=by
 have:Nat.ble n len=true:=by simpa using h
 simp [NV,this]
def aAe (b:Nat):AV:=.int .u8 (b:Nat)
theorem JM (l:List Nat):eR l=l.map aAe:=rfl
theorem UI (b:Nat):(aAe b).isCell=true:=rfl
theorem aAf (l:List Nat):(l.map aAe).all AV.isCell=true:=by simp [List.all_eq_true,UI]
theorem NX {α β:Type} (f:α->β) (l:List α) (i n:Nat):aZ (l.map f) i n=(aZ l i n).map f:=by simp [aZ,List.map_drop,List.map_take]
theorem aNc:(∀ {P:Program} {t:TypeId} {id g off:Nat} {lo hi:Option AV},eQ P t (.ptr id g off) lo hi none=yS (LU P t) id g off lo hi (sF P t (.ptr id g off) lo hi none))/\
 (∀ {n id g off:Nat} {k:Option Nat} {j:IntKind} {a:Int} {d:Option AV},0<=a->a<n->yS (some (n,k)) id g off (some (.int j a)) none d=some (.sl id g (off+a.toNat*iU k) (n-a.toNat) (.is (n-a.toNat))))/\
 (∀ {n id g off:Nat} {k:Option Nat} {j:IntKind} {b:Int} {d:Option AV},0<=b->b<=n->n≠0->yS (some (n,k)) id g off none (some (.int j b)) d=some (.sl id g off b.toNat (.is n)))/\
 (∀ {n id g off:Nat} {k:Option Nat} {d:Option AV},n≠0->yS (some (n,k)) id g off none none d=some (.sl id g off n (.is n)))/\
 (∀ {P:Program} {O:bN} {t:TypeId} {x:Operand} {e:Env} {K:ORes->Prop},dH P O (.sliceToArrayPointer t x) e K↔lV (NV (LU P t) (some (e.eval x)) (GJ P t (e.eval x))) K)/\
 (∀ {n id g off len:Nat} {k:Option Nat} {c:ACap} {d:Option AV},n<=len->NV (some (n,k)) (some (.sl id g off len c)) d=some (.ptr id g off))/\
 (iU none=1)/\(∀ {n:Nat},iU (some n)=n)/\
 (∀ {l:List Nat},eR l=l.map aAe)/\(∀ {l:List Nat},(l.map aAe).all AV.isCell=true)/\(∀ {α β:Type} {f:α->β} {l:List α} {i n:Nat},aZ (l.map f) i n=(aZ l i n).map f)/\(∀ {α β:Type} {f:α->β} {l:List α},(l.map f).length=l.length):=
 ⟨NU,aFq,aFr,aAd,aFs,aFt,rfl,rfl,JM _,aAf _,NX _ _ _ _,List.length_map _⟩
theorem UJ:(∀ {P:Program} {rs:List ResultVar} {v:AV} {nt:Nat} {ro:Option Nat} {fn:FuncId} {t:Tr AV} {s:Sto},uW P rs v .ret ⟨nt,ro,fn,t,[],s,.no⟩↔sX (aP P ⟨nt,ro,fn,t,[],s,.no⟩ rs) (fun S r=>Frz S 0 r v) s)/\
 (∀ {P:Program} {rs:List ResultVar} {v:AV} {nt:Nat} {ro:Option Nat} {fn:FuncId} {t:Tr AV} {s:Sto},uW P rs v .normal ⟨nt,ro,fn,t,[],s,.no⟩↔sX (aP P ⟨nt,ro,fn,t,[],s,.no⟩ rs) (fun S r=>Frz S 0 r v) s)/\
 (∀ {P:Program} {rs:List ResultVar} {v:AV} {nt:Nat} {ro:Option Nat} {fn:FuncId} {t:Tr AV} {s:Sto} {d:Nat},uW P rs v .ret ⟨nt,ro,fn,t,[.collected d],s,.no⟩↔s.get d=some (.defs (some []))/\sX (aP P ⟨nt,ro,fn,t,[],s.put d (.defs none),.no⟩ rs) (fun S r=>Frz S 0 r v) (s.put d (.defs none)))/\
 (∀ {P:Program} {rs:List ResultVar} {v:AV} {nt:Nat} {ro:Option Nat} {fn:FuncId} {t:Tr AV} {s:Sto} {d:Nat},uW P rs v .normal ⟨nt,ro,fn,t,[.collected d],s,.no⟩↔s.get d=some (.defs (some []))/\sX (aP P ⟨nt,ro,fn,t,[],s.put d (.defs none),.no⟩ rs) (fun S r=>Frz S 0 r v) (s.put d (.defs none)))/\
 (∀ {C:Sto->AV->Prop} {l:List AV} {s:Sto},sX (some l) C s↔C s (iA l))/\
 (∀ {n low:Nat} {o:Tr AObj} {i:Nat} {x:AObj},(Sto.mk n low o).put i x=⟨n,Nat.min i low,o.set i x⟩):=
 ⟨UG,GH,UH,GI,JZ,Sto.put_any⟩
open Classical in
def UK {ι:Type} (f:FuncId) (A:ι->List AV) (V:ι->AV):kL:=(f,fun args _=>if h:∃ i,A i=args then some (.ret (V h.choose) none) else none)
theorem RC {ι:Type} {f:FuncId} {A:ι->List AV} {V:ι->AV} (h:∀ i,Returns P f (A i) (V i)):bS P (UK f A V):=by
 intro args s res hr
 simp only [UK]at hr
 split at hr
 ·rename_i hx
  simp at hr;subst hr
  have:=h hx.choose s
  rwa [hx.choose_spec]at this
 ·cases hr
theorem entF_same {ι:Type} {f:FuncId} {A:ι->List AV} {V:ι->AV} {L:List kL} {s:Sto} (hinj:∀ i j,A i=A j->V i=V j) (i:ι):orcL (UK f A V::L) f (A i) s=some (.ret (V i) none):=by
 rw [UK,sJ]
 have hx:∃ j,A j=A i:=⟨i,rfl⟩
 rw [dif_pos hx,hinj _ _ hx.choose_spec]
def lQ (f:FuncId) (a:List AV) (v:AV):kL:=UK f (fun _:Unit=>a) fun _=>v
theorem cZ {f:FuncId} {a:List AV} {v:AV} (h:Returns P f a v):bS P (lQ f a v):=RC fun _=>h
theorem fT {f:FuncId} {a:List AV} {v:AV} {L:List kL} {s:Sto}:orcL (lQ f a v::L) f a s=some (.ret v none):=entF_same (fun _ _ _=>rfl) ()
theorem pA {f h:FuncId} {a:List AV} {v:AV} {L:List kL} {args:List AV} {s:Sto} (hn:h≠f):orcL (lQ h a v::L) f args s=orcL L f args s:=RQ hn
theorem yE {S:Sto} {n:Nat}:∀ (i:Nat) (x y:AV),([]:List AV)[i]?=some x->([]:List AV)[i]?=some y->Frz S n x y:=fun _ _ _ h=>by simp at h
theorem pB {S:Sto} {n:Nat} {a a':AV} {l l':List AV} (h:Frz S n a a') (hl:∀ (i:Nat) (x y:AV),l[i]?=some x->l'[i]?=some y->Frz S n x y):∀ (i:Nat) (x y:AV),(a::l)[i]?=some x->(a'::l')[i]?=some y->Frz S n x y:=fun i x y hx hy=>by
 cases i with
 | zero=>simp at hx hy;subst hx;subst hy;exact h
 | succ i=>exact hl i x y (by simpa using hx) (by simpa using hy)
theorem aFu {S:Sto} {n id g off:Nat} {cs:List AV} {v:AV} (hn:n<=id) (hg:S.get id=some (aU g cs)) (hl:off+v.cells.length<=cs.length) (h:∀ (j:Nat) (x y:AV),cs[off+j]?=some x->v.cells[j]?=some y->Frz S n x y):Frz S n (.ptr id g off) (.pf v):=by
 refine .ptr id g off cs.length _ v (fun j=>cs.getD (off+j) .top) hn hg hl (fun j y hy=>?_) (fun j y hy=>?_)
 ·have hj:=(List.getElem?_eq_some_iff.1 hy).1
  have hj':off+j<cs.length:=by omega
  rw [Tr.get_row,List.getElem?_eq_getElem hj']
  simp [List.getD_eq_getElem?_getD,hj']
 ·have hj:=(List.getElem?_eq_some_iff.1 hy).1
  have hj':off+j<cs.length:=by omega
  refine h j _ y ?_ hy
  simp [List.getD_eq_getElem?_getD,hj']
theorem qZ {S:Sto} {n id g off len:Nat} {cap:ACap} {cs l:List AV} (hn:n<=id) (hg:S.get id=some (aU g cs)) (hlen:l.length=len) (hl:off+len<=cs.length) (hc:∀ x∈l,x.isCell=true) (h:∀ (j:Nat) (x y:AV),cs[off+j]?=some x->l[j]?=some y->Frz S n x y):Frz S n (.sl id g off len cap) (.fz l false):=by
 refine .sl id g off len cap cs.length 1 _ l (fun i _=>cs.getD (off+i) .top) hn hg hlen (by omega) (fun x hx=>by rw [jO (hc x hx)];rfl) (fun i j x y hx hy=>?_) (fun i j x y hx hy=>?_)
 ·have hi:=(List.getElem?_eq_some_iff.1 hx).1
  rw [jO (hc x (List.mem_of_getElem? hx))]at hy
  have hj:j=0:=by have:=(List.getElem?_eq_some_iff.1 hy).1;simp at this;exact this
  subst hj
  have hi':off+i<cs.length:=by omega
  rw [Tr.get_row,Nat.mul_one,Nat.add_zero,List.getElem?_eq_getElem hi']
  simp [List.getD_eq_getElem?_getD,hi']
 ·have hi:=(List.getElem?_eq_some_iff.1 hx).1
  rw [jO (hc x (List.mem_of_getElem? hx))]at hy
  have hj:j=0:=by have:=(List.getElem?_eq_some_iff.1 hy).1;simp at this;exact this
  subst hj
  simp at hy;subst hy
  have hi':off+i<cs.length:=by omega
  exact h i _ x (by simp [List.getD_eq_getElem?_getD,hi']) hx
theorem fB {ops rest:List Oper} {dst:Option Tmp} {nt:Nat} {ro:Option Nat} {fn:FuncId} {t:Tr AV} {ds:List ADef} {s:Sto} {r:ARec} {Q:Ex->Env->Prop} {v:AV} {so:Option Sto}:
 callK s (dN P O ops dst rest ⟨nt,ro,fn,t,ds,s,r⟩ Q) (.ret v so)=dN P O ops dst rest ⟨nt,ro,fn,t,ds,s,r⟩ Q (.val' v (so.getD s)):=by cases so<;>rfl
theorem NY {ops rest:List Oper} {dst:Option Tmp} {nt:Nat} {ro:Option Nat} {fn:FuncId} {t:Tr AV} {ds:List ADef} {s:Sto} {r:ARec} {Q:Ex->Env->Prop} {v:AV} {so:Option Sto}:
 callK s (dN P O ops dst rest ⟨nt,ro,fn,t,ds,s,r⟩ Q) (.pan v so)=dN P O ops dst rest ⟨nt,ro,fn,t,ds,s,r⟩ Q (.pan v (so.getD s)):=by cases so<;>rfl
theorem cG {n:Nat}:(n<n+1)/\(n<n+1+1)/\(n<n+1+1+1)/\(n+1<n+1+1)/\(n+1<n+1+1+1)/\(n+1+1<n+1+1+1)/\n≠n+1/\n+1≠n/\n≠n+1+1/\n+1+1≠n/\n+1≠n+1+1/\n+1+1≠n+1/\n<=n+1/\n<=n+1+1/\n<=n+1+1+1/\n+1<=n+1+1/\n+1<=n+1+1+1:=by
 refine ⟨?_,?_,?_,?_,?_,?_,?_,?_,?_,?_,?_,?_,?_,?_,?_,?_,?_⟩<;>omega
theorem eY {i n:Nat} (h:i<n):i<n/\i<n+1/\i<n+1+1/\i<n+1+1+1/\i≠n/\n≠i/\i≠n+1/\n+1≠i/\i≠n+1+1/\n+1+1≠i:=by
 refine ⟨?_,?_,?_,?_,?_,?_,?_,?_,?_,?_⟩<;>omega
end
end Go.Abs
/-
 The abstract machine: slices that are made,cut,copied,read as strings;slices that can be read.
-/
namespace Go.Abs
noncomputable section
variable {P:Program} {O:bN} {H:cJ}
def msK (P:Program) (t:TypeId):Option (Nat × Nat × List AV):=match P.underlying t with
 | some (.slice el)=>(match qE P el,mA P el,aX P el with
   | some k,some b,some z=>bif Nat.beq z.cells.length k then some (k,b,z.cells) else none
   | _,_,_=>none)
 | _=>none
theorem tC {t:TypeId} {lo co:Operand} {e:Env} {K:ORes->Prop} {k b:Nat} {z:List AV} {i j:IntKind} {l c:Nat} (h:msK P t=some (k,b,z)) (hl:e.eval lo=.int i (l:Nat)) (hc:e.eval co=.int j (c:Nat)) (h1:l<=c) (h2:b*c<=140737488355328) (h3:c<=4611686018427387904) (hz:(cQ z c).all AV.isCell=true)
 (hK:K (.val' (.sl e.s.n 0 0 l (.is c)) (e.s.push (ob (cQ z c))))):dH P O (.makeSlice t lo co) e K:=by
 refine ⟨0,_,?_,hK⟩
 unfold msK at h
 split at h
 ·rename_i el hu
  split at h
  ·rename_i k' b' z' q1 q2 q3
   cases hb:Nat.beq z'.cells.length k' with
   | false=>rw [hb]at h;cases h
   | true=>
     rw [hb]at h
     simp at h
     obtain ⟨rfl,rfl,rfl⟩:=h
     show (match P.underlying t,e.eval lo,e.eval co with
      | some (.slice el),.int _ (.ofNat l),.int _ (.ofNat c)=>(match qE P el,mA P el,aX P el with
        | some k,some by_,some z=>bif Nat.ble l c&&Nat.ble (by_*c) (2 ^ 47)&&Nat.ble c (2 ^ 62)&&Nat.beq z.cells.length k then
         (match mG e.s (cQ z.cells c) with
         | some (id,s)=>some (ORes.val' (.sl id 0 0 l (.is c)) s)
         | none=>none)
          else none
        | _,_,_=>none)
      | _,_,_=>none)=_
     have hl':e.eval lo=.int i (.ofNat l):=hl
     have hc':e.eval co=.int j (.ofNat c):=hc
     have g1:Nat.ble l c=true:=by simpa using h1
     have g2:Nat.ble (b'*c) (2 ^ 47)=true:=by simpa using h2
     have g3:Nat.ble c (2 ^ 62)=true:=by simpa using h3
     simp only [hu,hl',hc',q1,q2,q3,g1,g2,g3,hb,Bool.and_self,cond_true,mQ,hz,if_true]
  ·cases h
 ·cases h
def By (l:List Nat):Prop:=∀ b∈l,b<256
structure Rd (P:Program) (s:Sto) (ts te:TypeId) (a:AV) (xs:List AV):Prop where
 len:∀ {s':Sto} {d:Option ORes},uX (some 1) s' a d=some (.val (.int .i64 (xs.length:Nat)))
 at_:∀ (i:Nat) x,xs[i]?=some x->∃ ad,bP P ts a (.int .i64 (i:Nat))=some ad/\(∀ Y:Nat->Prop,(∀ id,id<s.n->Y id)->dY Y ad)/\∀ s':Sto,(∀ id,id<s.n->s'.get id=s.get id)->eB P s' te ad=some x
end
end Go.Abs
