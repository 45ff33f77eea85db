/-
  The abstract machine: ranges over functions.
-/
import Derived.Test.YtajngkkihadgfaaEl
set_option linter.unusedVariables false
set_option linter.unusedSimpArgs false
namespace Go.Abs
noncomputable section
variable {P:Program} {O:bP} {H:fK}
def SimX (l:Nat) (s s':Sto):Prop:=s.n<=s'.n/\∀ id,id<s.n->id≠l->s'.get id=s.get id
def Sim (s s':Sto):Prop:=s.n<=s'.n/\∀ id,id<s.n->s'.get id=s.get id
theorem Sim.refl (s:Sto):Sim s s:=⟨Nat.le_refl _,fun _ _=>rfl⟩
theorem Sim.trans {a b c:Sto} (h:Sim a b) (h':Sim b c):Sim a c:=⟨Nat.le_trans h.1 h'.1,fun id hid=>(h'.2 id (Nat.lt_of_lt_of_le hid h.1)).trans (h.2 id hid)⟩
theorem Sim.x {l:Nat} {a b:Sto} (h:Sim a b):SimX l a b:=⟨h.1,fun id hid _=>h.2 id hid⟩
theorem SimX.trans {l:Nat} {a b c:Sto} (h:SimX l a b) (h':SimX l b c):SimX l a c:=⟨Nat.le_trans h.1 h'.1,fun id hid hl=>(h'.2 id (Nat.lt_of_lt_of_le hid h.1) hl).trans (h.2 id hid hl)⟩
theorem SimX.get {l:Nat} {a b:Sto} (h:SimX l a b) {id:Nat} {x:AObj} (hg:a.get id=some x) (hl:id≠l):b.get id=some x:=(h.2 id (Sto.get_lt hg) hl).trans hg
theorem Sim.get {a b:Sto} (h:Sim a b) {id:Nat} {x:AObj} (hg:a.get id=some x):b.get id=some x:=(h.2 id (Sto.get_lt hg)).trans hg
theorem Sim.low (s:Sto) (k:Nat):Sim s {s with low:=k}:=⟨Nat.le_refl _,fun _ _=>rfl⟩
theorem Sim.push (s:Sto) (x:AObj):Sim s (s.push x):=⟨Nat.le_succ _,fun id hid=>by
 rw [Sto.get_push,if_neg (by omega)]⟩
theorem SimX.put (s:Sto) (l:Nat) (x:AObj):SimX l s (s.put l x):=⟨Nat.le_refl _,fun id _ hl=>by
 rw [Sto.get_put,if_neg (fun h=>hl h.1)]⟩
theorem Sto.put_any {n low:Nat} {o:Tr AObj} {i:Nat} {x:AObj}:(Sto.mk n low o).put i x=⟨n,Nat.min i low,o.set i x⟩:=by
 have h:=Sto.low_put (Sto.mk n low o) i x
 have:(Sto.mk n low o).put i x=⟨n,((Sto.mk n low o).put i x).low,o.set i x⟩:=rfl
 rw [this,h]
theorem Sto.put_low_le (s:Sto) (i:Nat) (x:AObj):(s.put i x).low<=i:=by
 rw [Sto.low_put];exact Nat.min_le_left _ _
theorem Sto.get_put_ne (s:Sto) {i j:Nat} (x:AObj) (h:j≠i):(s.put i x).get j=s.get j:=by
 rw [Sto.get_put,if_neg (fun h'=>h h'.1)]
theorem Sto.get_put_same (s:Sto) {i:Nat} (x:AObj) (h:i<s.n):(s.put i x).get i=some x:=by
 rw [Sto.get_put,if_pos ⟨rfl,h⟩]
theorem Sto.get_push_same (s:Sto) (x:AObj):(s.push x).get s.n=some x:=by
 rw [Sto.get_push,if_pos rfl]
theorem Sto.get_push_lt (s:Sto) (x:AObj) {i:Nat} (h:i<s.n):(s.push x).get i=s.get i:=(Sim.push s x).2 i h
theorem Wcall.mono {fv:AV} {args:List AV} {s:Sto} {K K':CRes->Prop} (h:Wcall P O fv args s K) (hK:∀ res,K res->K' res):Wcall P O fv args s K':=by
 obtain ⟨n,res,rr,h1,h2⟩:=h
 exact ⟨n,res,rr,h1,hK _ h2⟩
def rK (l:Nat) (J:Nat->Sto->Prop) (D:Sto->Prop) (X:AV->Sto->Prop) (i:Nat) (s:Sto):CRes->Prop
 | .ret (.bool true) so=>(so.getD s).low<=l/\l<(so.getD s).n/\J (i+1) (so.getD s)
 | .ret (.bool false) so=>(so.getD s).low<=l/\D (so.getD s)
 | .pan v so=>(so.getD s).low<=l/\X v (so.getD s)
 | _=>False
def aNy (n:Nat) (J:Nat->Sto->Prop) (D:Sto->Prop) (X:AV->Sto->Prop) (s:Sto):CRes->Prop
 | .ret _ so=>J n (so.getD s)∨D (so.getD s)
 | .pan v so=>X v (so.getD s)
def aNz (P:Program) (O:bP) (fv:AV) (xs:List (List AV)):Prop:=∀ (l:Nat) (J:Nat->Sto->Prop) (D:Sto->Prop) (X:AV->Sto->Prop) (s:Sto),l<s.n->
 (∀ i s s',Sim s s'->J i s->J i s')->(∀ s s',Sim s s'->D s->D s')->(∀ v s s',Sim s s'->X v s->X v s')->J 0 s->
 (∀ i x,xs[i]?=some x->∀ s,l<s.n->J i s->Wcall P O (.func (.yield l) [] []) x s (rK l J D X i s))->
 Wcall P O fv [.func (.yield l) [] []] s (aNy xs.length J D X s)
theorem xE (s:Sto) (v:AV) (e:Env) (G:Sto->Prop) (hst:∀ s s',Sim s s'->G s->G s') (h:G e.s) (h':e.s.low<s.n∨G s):G ((dE s v e).getD s):=by
 cases hd:dE s v e with
 | none=>
   rcases h' with h' | h'
   ·rw [eL h']at hd;cases hd
   ·exact h'
 | some s'=>
   have:s' = {e.s with low:=Nat.min s.low e.s.low}:=by
    unfold dE at hd
    cases hb:(Nat.ble s.n e.s.low&&(v.under s.n 100&&EK s.n e.r)) with
    | true=>rw [hb]at hd;cases hd
    | false=>rw [hb]at hd;simp at hd;exact hd.symm
   rw [this]
   exact hst _ _ (Sim.low _ _) h
def lL (P:Program) (l:Nat) (lo:LoopState->Option Code->AObj) (J:Nat->Sto->Prop) (D:Code->Sto->Prop) (X:AV->Sto->Prop) (i:Nat):Ex->Env->Prop
 | .normal,e=>e.ds=[]/\e.s.get l=some (lo .busy none)/\J (i+1) e.s
 | .ret,e=>e.ds=[]/\e.s.get l=some (lo .busy none)/\D .ret e.s
 | .exit id,e=>e.ds=[]/\e.s.get l=some (lo .busy none)/\D (.exit id) e.s
 | .panic v,e=>e.ds=[]/\okFn P e.fn=true/\e.s.low<=l/\X v e.s
 | _,_=>False
def lM (P:Program) (O:bP) (H:fK) (l:Nat) (lo:LoopState->Option Code->AObj) (b:Code) (R:Ex->Env->Prop):Ex->Env->Prop
 | .normal,e=>e.s.get l=some (lo .ready none)/\Wk P O H b (e.setS (e.s.put l (lo .busy none))) R
 | _,_=>False
theorem NB {l:Nat} {fn:FuncId} {nt d i:Nat} {t t':Tr AV} {ps:List Nat} {a b:Code} {args:List AV} {s:Sto} {J J':Nat->Sto->Prop} {D:Sto->Prop} {E:Code->Sto->Prop} {X:AV->Sto->Prop}
 (hg:s.get l=some (.loop .ready none fn nt t ps a b d)) (hlay:yF nt t ps args=some t')
 (hJ:∀ e:Sto,l<e.n->∀ k,J (i+1) e->J' (i+1) {e.put l (.loop .ready none fn nt t ps a b d) with low:=k}) (hD:∀ (e:Sto) c,l<e.n->∀ k,E c e->D {e.put l (.loop .done (some c) fn nt t ps a b d) with low:=k}) (hX:∀ (e:Sto) v k,X v e->X v {e with low:=k})
 (h:Wk P O H a ⟨nt,some l,fn,t',[],⟨s.n,s.n,s.o⟩,.no⟩ (lM P O H l (fun st p=>.loop st p fn nt t ps a b d) b (lL P l (fun st p=>.loop st p fn nt t ps a b d) J E X i))):
 Wcall P O (.func (.yield l) [] []) args s (rK l J' D X i s):=by
 obtain ⟨n1,ex1,e1,h1,hp⟩:=h.sound
 cases ex1 with
 | normal=>
   obtain ⟨hr,hb⟩:=hp
   obtain ⟨n2,ex2,e2,h2,hQ⟩:=hb.sound
   have key:∀ res,(∀ m,n1<=m->n2<=m->pS P (aQ P O m) m l args s=some (res,.no))->rK l J' D X i s res->Wcall P O (.func (.yield l) [] []) args s (rK l J' D X i s):=by
    intro res hm hk
    refine ⟨max n1 n2+1,res,.no,?_,hk⟩
    have:EL O (.func (.yield l) [] []) args s .no=none:=rfl
    simp only [aQ,this,oZ,List.nil_append]
    exact hm _ (Nat.le_max_left _ _) (Nat.le_max_right _ _)
   have hrun:∀ m,n1<=m->n2<=m->pS P (aQ P O m) m l args s=match (ex2,e2) with
    | (.normal,e)=>fX s l none e
    | (.ret,e)=>fX s l (some .ret) e
    | (.exit id,e)=>fX s l (some (.exit id)) e
    | (.panic v,e)=>(match e.ds with
      | []=>bif okFn P e.fn then some (.pan v (some {e.s with low:=Nat.min s.low e.s.low}),.no) else none
      | _=>none)
    | _=>none:=by
    intro m hm1 hm2
    have c1:bI P (aQ P O m) m a {nt:=nt,ro:=some l,fn:=fn,t:=t',ds:=[],s:={s with low:=s.n},r:=.no} = some (.normal,e1):=oT hm1 h1
    have c2:bI P (aQ P O m) m b {e1 with s:=e1.s.put l (.loop .busy none fn nt t ps a b d)} = some (ex2,e2):=oT hm2 h2
    simp only [pS,hg,hlay,c1,hr,c2]
    cases ex2<;>rfl
   cases ex2 with
   | normal=>
     obtain ⟨q1,q2,q3⟩:=hQ
     have hl:=Sto.get_lt q2
     refine key (.ret (.bool true) (some {e2.s.put l (.loop .ready none fn nt t ps a b d) with low:=Nat.min s.low (e2.s.put l (.loop .ready none fn nt t ps a b d)).low})) (fun m a1 a2=>by rw [hrun m a1 a2];simp only [fX,q2,q1];rfl) (And.intro ?_ (And.intro hl (hJ _ hl _ q3)))
     exact Nat.le_trans (Nat.min_le_right _ _) (Sto.put_low_le _ _ _)
   | ret=>
     obtain ⟨q1,q2,q3⟩:=hQ
     have hl:=Sto.get_lt q2
     refine key (.ret (.bool false) (some {e2.s.put l (.loop .done (some .ret) fn nt t ps a b d) with low:=Nat.min s.low (e2.s.put l (.loop .ready none fn nt t ps a b d)).low})) (fun m a1 a2=>by rw [hrun m a1 a2];simp only [fX,q2,q1];rfl) (And.intro ?_ (hD _ _ hl _ q3))
     exact Nat.le_trans (Nat.min_le_right _ _) (Sto.put_low_le _ _ _)
   | exit id=>
     obtain ⟨q1,q2,q3⟩:=hQ
     have hl:=Sto.get_lt q2
     refine key (.ret (.bool false) (some {e2.s.put l (.loop .done (some (.exit id)) fn nt t ps a b d) with low:=Nat.min s.low (e2.s.put l (.loop .ready none fn nt t ps a b d)).low})) (fun m a1 a2=>by rw [hrun m a1 a2];simp only [fX,q2,q1];rfl) (And.intro ?_ (hD _ _ hl _ q3))
     exact Nat.le_trans (Nat.min_le_right _ _) (Sto.put_low_le _ _ _)
   | panic v=>
     obtain ⟨q1,q2,q3,q4⟩:=hQ
     exact key (.pan v (some {e2.s with low:=Nat.min s.low e2.s.low})) (fun m a1 a2=>by rw [hrun m a1 a2];simp only [q1,q2,cond_true]) (And.intro (Nat.le_trans (Nat.min_le_right _ _) q3) (hX _ _ _ q4))
   | _=>exact hQ.elim
 | _=>exact hp.elim
theorem BG {xs:List (List AV)} {f:Operand} {ps:Array Tmp} {a b:Code} {nt:Nat} {fn:FuncId} {t:Tr AV} {ds:List ADef} {s:Sto} {r:ARec} {Q:Ex->Env->Prop} (J:Nat->Sto->Prop) (E:Code->Sto->Prop) (X:AV->Sto->Prop)
 (hI:aNz P O ((Env.mk nt none fn t ds s r).eval f) xs)
 (hJ:∀ i u u',SimX (s.n+1) u u'->J i u->J i u') (hE:∀ c u u',SimX (s.n+1) u u'->E c u->E c u') (hX:∀ v u u',Sim u u'->X v u->X v u')
 (hc:∀ c u,E c u->c=.ret∨∃ id,c=.exit id)
 (h0:J 0 s)
 (hr:∀ i x,xs[i]?=some x->∀ u:Sto,s.n+1<u.n->u.get s.n=some (.defs (some []))->u.get (s.n+1)=some (.loop .ready none fn nt t ps.toList a b s.n)->J i u->
   ∃ t',yF nt t ps.toList x=some t'/\Wk P O H a ⟨nt,some (s.n+1),fn,t',[],⟨u.n,u.n,u.o⟩,.no⟩
     (lM P O H (s.n+1) (fun st p=>.loop st p fn nt t ps.toList a b s.n) b (lL P (s.n+1) (fun st p=>.loop st p fn nt t ps.toList a b s.n) (fun i u=>J i u/\u.get s.n=some (.defs (some []))) (fun c u=>E c u/\u.get s.n=some (.defs (some []))) X i)))
 (hend:∀ u:Sto,s.n+1<u.n->u.get s.n=some (.defs (some []))->J xs.length u->Q .normal ⟨nt,none,fn,t,.collected s.n::ds,u,r⟩)
 (hret:∀ u:Sto,s.n+1<u.n->u.get s.n=some (.defs (some []))->E .ret u->Q .ret ⟨nt,none,fn,t,.collected s.n::ds,u,r⟩)
 (hexit:∀ id (u:Sto),s.n+1<u.n->u.get s.n=some (.defs (some []))->E (.exit id) u->Q (.exit id) ⟨nt,none,fn,t,.collected s.n::ds,u,r⟩)
 (hpan:∀ v (u:Sto),X v u->Q (.panic v) ⟨nt,none,fn,t,.collected s.n::ds,u,r⟩):
 Wk P O H (.rangeFunc f ps a b) ⟨nt,none,fn,t,ds,s,r⟩ Q:=by
 let lo:LoopState->Option Code->AObj:=fun st p=>.loop st p fn nt t ps.toList a b s.n
 let s1:=s.push (.defs (some []))
 let s2:=s1.push (lo .ready none)
 let J':Nat->Sto->Prop:=fun i u=>u.get s.n=some (.defs (some []))/\u.get (s.n+1)=some (lo .ready none)/\J i u
 let D':Sto->Prop:=fun u=>u.get s.n=some (.defs (some []))/\∃ c,u.get (s.n+1)=some (lo .done (some c))/\E c u
 have hlow:∀ (u:Sto) k,SimX (s.n+1) u {u with low:=k}:=fun u k=>(Sim.low u k).x
 have e0:s2.get s.n=some (.defs (some [])):=by
  rw [Sto.get_push_lt _ _ (Nat.lt_succ_self _)];exact Sto.get_push_same _ _
 have e1:s2.get (s.n+1)=some (lo .ready none):=Sto.get_push_same s1 _
 obtain ⟨n,res,rr,hcall,hK⟩:=hI (s.n+1) J' D' X s2 (Nat.lt_succ_self _) (fun i u u' hs ⟨k1,k2,k3⟩=>⟨hs.get k1,hs.get k2,hJ _ _ _ hs.x k3⟩)
  (fun u u' hs ⟨k1,c,k2,k3⟩=>⟨hs.get k1,c,hs.get k2,hE _ _ _ hs.x k3⟩) hX
  ⟨e0,e1,hJ 0 s s2 ((Sim.push _ _).trans (Sim.push _ _)).x h0⟩
  (fun i x hx u hu ⟨k1,k2,k3⟩=>by
    obtain ⟨t',ht,hw⟩:=hr i x hx u hu k1 k2 k3
    refine NB (H:=H) (J:=fun i u=>J i u/\u.get s.n=some (.defs (some []))) (E:=fun c u=>E c u/\u.get s.n=some (.defs (some []))) k2 ht ?_ ?_ ?_ hw
    ·rintro e he k ⟨q2,q1⟩
     exact ⟨(((SimX.put e (s.n+1) _).trans (hlow _ k)).get q1 (by omega)),(Sim.low _ k).get (Sto.get_put_same _ _ he),hJ _ _ _ ((SimX.put e (s.n+1) _).trans (hlow _ k)) q2⟩
    ·rintro e c he k ⟨q1,q2⟩
     exact ⟨(((SimX.put e (s.n+1) _).trans (hlow _ k)).get q2 (by omega)),c,(Sim.low _ k).get (Sto.get_put_same _ _ he),hE _ _ _ ((SimX.put e (s.n+1) _).trans (hlow _ k)) q1⟩
    ·exact fun e v k hx=>hX _ _ _ (Sim.low _ k) hx)
 show W P O (.rangeFunc f ps a b) ⟨nt,none,fn,t,ds,s,r⟩ Q
 have hd:∀ x,(match res with
  | .ret _ so=>gS ⟨nt,none,fn,t,ds,s,r⟩ (.collected s.n::ds) (s.n+1) (match so with | some s=>s | none=>s2)
  | .pan v so=>some (.panic v,{(Env.mk nt none fn t ds s r) with s:=(match so with | some s=>s | none=>s2),ds:=.collected s.n::ds}))=some x->bI P (aQ P O n) n (.rangeFunc f ps a b) ⟨nt,none,fn,t,ds,s,r⟩=some x:=by
  intro x hx
  show (match aQ P O n ((Env.mk nt none fn t ds s r).eval f) [.func (.yield (s.n+1)) [] []] s2 .no with
   | some (.ret _ so,_)=>gS ⟨nt,none,fn,t,ds,s,r⟩ (.collected s.n::ds) (s.n+1) (match so with | some s=>s | none=>s2)
   | some (.pan v so,_)=>some (.panic v,{(Env.mk nt none fn t ds s r) with s:=(match so with | some s=>s | none=>s2),ds:=.collected s.n::ds})
   | none=>none)=some x
  rw [hcall]
  cases res<;>exact hx
 have hso:∀ so:Option Sto,(match so with | some s=>s | none=>s2)=so.getD s2:=fun so=>by cases so<;>rfl
 cases res with
 | ret v so=>
   simp only [hso]at hd
   rcases hK with ⟨k1,k2,k3⟩ | ⟨k1,c,k2,k3⟩
   ·refine ⟨n,.normal,_,hd _ (by simp only [gS,k2,lo]),hend ((so.getD s2).put (s.n+1) (lo .exhausted none)) (show s.n+1<(so.getD s2).n from Sto.get_lt k2) ((SimX.put _ (s.n+1) _).get k1 (by omega)) (hJ _ _ _ (SimX.put _ (s.n+1) _) k3)⟩
   ·rcases hc c _ k3 with rfl | ⟨id,rfl⟩
    ·exact ⟨n,.ret,_,hd _ (by simp only [gS,k2,lo]),hret ((so.getD s2).put (s.n+1) (lo .exhausted (some .ret))) (show s.n+1<(so.getD s2).n from Sto.get_lt k2) ((SimX.put _ (s.n+1) _).get k1 (by omega)) (hE _ _ _ (SimX.put _ (s.n+1) _) k3)⟩
    ·exact ⟨n,.exit id,_,hd _ (by simp only [gS,k2,lo]),hexit id ((so.getD s2).put (s.n+1) (lo .exhausted (some (.exit id)))) (show s.n+1<(so.getD s2).n from Sto.get_lt k2) ((SimX.put _ (s.n+1) _).get k1 (by omega)) (hE _ _ _ (SimX.put _ (s.n+1) _) k3)⟩
 | pan v so=>
   simp only [hso]at hd
   exact ⟨n,.panic v,_,hd _ rfl,hpan v _ hK⟩
def xF (P:Program) (rs:List ResultVar) (v:AV) (ex:Ex) (e:Env):Prop:=match ex with
 | .normal | .ret=>(match e.ds with
   | []=>e.r=.no/\vX (aW P e rs) (fun S r=>Frz S 0 r v) e.s
   | [.collected d]=>e.r=.no/\e.s.get d=some (.defs (some []))/\vX (aW P {e with ds:=[],s:=e.s.put d (.defs none)} rs) (fun S r=>Frz S 0 r v) (e.s.put d (.defs none))
   | _=>False)
 | _=>False
theorem aHa {fn:Func} {rs:List ResultVar} (hr:fn.results=rs.toArray) {v:AV} {ex:Ex} {e:Env} (h:xF P rs v ex e):ND P O fn (WV .empty (.ret v none)) ex e:=by
 have hrs:fn.results.toList=rs:=by rw [hr]
 have key:(match e.ds with
  | []=>e.r=.no/\vX (aW P e rs) (fun S r=>Frz S 0 r v) e.s
  | [.collected d]=>e.r=.no/\e.s.get d=some (.defs (some []))/\vX (aW P {e with ds:=[],s:=e.s.put d (.defs none)} rs) (fun S r=>Frz S 0 r v) (e.s.put d (.defs none))
  | _=>False)->Lv P O fn none e (WV .empty (.ret v none)):=by
  intro h
  split at h
  ·rename_i hd
   obtain ⟨h0,vs,h1,h2⟩:=h
   exact jO hd (by rw [hrs];exact h1) ⟨h0,nX (Nat.zero_le _) h2⟩
  ·rename_i d hd
   obtain ⟨h0,hg,vs,h1,h2⟩:=h
   refine UF hd hg ?_
   exact jO rfl (by rw [hrs];exact h1) ⟨h0,nX (Nat.zero_le _) h2⟩
  ·exact h.elim
 cases ex with
 | normal=>exact key h
 | ret=>exact key h
 | _=>exact h.elim
theorem DF {L:List kL} (hL:∀ x∈L,eV P x) (H:fK) {f:FuncId} {fn:Func} {c:Code} {N:Nat} {rs:List ResultVar} {args:List AV} {v:AV} (hok:okFn P f=true) (hf:P.funcs[f]?=some fn) (hn:fn.ntmps=N) (hr:fn.results=rs.toArray) (hb:fn.body=some c)
 (ha:Nat.ble args.length N=true) (hu:∀ x∈args,Und 0 x)
 (h:Wk P (orcL L) H c ⟨N,none,f,Tr.leaf.lay 0 args,[],⟨0,0,.leaf⟩,.no⟩ (xF P rs v)):Returns P f args v:=by
 refine fS hu (NE (O:=orcL L) (tU hL) hok hf hb ?_)
 rw [mF hn ha]
 exact h.sound.mono fun ex e he=>aHa hr he
section
variable {rs:List ResultVar} {v:AV} {nt:Nat} {ro:Option Nat} {fn:FuncId} {t:Tr AV} {s:Sto} {d:Nat}
theorem WT:xF P rs v .ret ⟨nt,ro,fn,t,[],s,.no⟩↔vX (aW P ⟨nt,ro,fn,t,[],s,.no⟩ rs) (fun S r=>Frz S 0 r v) s:=by simp [xF]
theorem IS:xF P rs v .normal ⟨nt,ro,fn,t,[],s,.no⟩↔vX (aW P ⟨nt,ro,fn,t,[],s,.no⟩ rs) (fun S r=>Frz S 0 r v) s:=by simp [xF]
theorem WU:xF P rs v .ret ⟨nt,ro,fn,t,[.collected d],s,.no⟩↔s.get d=some (.defs (some []))/\vX (aW P ⟨nt,ro,fn,t,[],s.put d (.defs none),.no⟩ rs) (fun S r=>Frz S 0 r v) (s.put d (.defs none)):=by simp [xF]
theorem IT:xF P rs v .normal ⟨nt,ro,fn,t,[.collected d],s,.no⟩↔s.get d=some (.defs (some []))/\vX (aW P ⟨nt,ro,fn,t,[],s.put d (.defs none),.no⟩ rs) (fun S r=>Frz S 0 r v) (s.put d (.defs none)):=by simp [xF]
end
end
end Go.Abs
