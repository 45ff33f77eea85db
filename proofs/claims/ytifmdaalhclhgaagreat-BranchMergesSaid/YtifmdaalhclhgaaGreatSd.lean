/-
  Branches: the difference, in the program.
-/
import Derived.Test.YtifmdaalhclhgaaGreatSa
set_option linter.unusedVariables false
set_option linter.unusedSimpArgs false
namespace Go.Abs
noncomputable section
section
variable {P:Program} {O:Orc} {H:dG}
def aCp (P:Program) (O:Orc) (fv:AV) (xs:List (List AV)):Prop:=∀ (l:Nat) (J:Nat->Sto->Prop) (D:Sto->Prop) (X:AV->Sto->Prop) (s:Sto),l<s.n->
 (∀ i s s',Sim s s'->J i s->J i s')->(∀ s s',Sim s s'->D s->D s')->(∀ v s s',Sim s s'->X v s->X v s')->J 0 s->
 (∀ i x,xs[i]?=some x->∀ s,l<s.n->J i s->Wcall P O (.func (.yield l) [] []) x s (rK l (fun i u=>J i u/\s.n<=u.n) (fun u=>D u/\s.n<=u.n) (fun v u=>X v u/\s.n<=u.n) i s))->
 Wcall P O fv [.func (.yield l) [] []] s (aNo xs.length J D X s)
theorem aCq {xs:List (List AV)} {f:Operand} {ps:Array Tmp} {a b:Code} {nt:Nat} {fn:FuncId} {t:Tr AV} {ds:List ADef} {s:Sto} {r:ARec} {Q:Ex->Env->Prop} (J:Nat->Sto->Prop)
 (hI:aCp P O ((Env.mk nt none fn t ds s r).eval f) xs)
 (hJ:∀ i u u',SimX (s.n+1) u u'->J i u->J i u')
 (h0:J 0 s)
 (hr:∀ i x,xs[i]?=some x->∀ u:Sto,s.n+1<u.n->u.get s.n=some (.defs (some []))->u.get (s.n+1)=some (.loop .ready none fn nt t ps.toList a b s.n)->J i u->
   ∃ t',vA nt t ps.toList x=some t'/\Wk P O H a ⟨nt,some (s.n+1),fn,t',[],⟨u.n,u.n,u.o⟩,.no⟩
     (vS P O H (s.n+1) (fun st p=>.loop st p fn nt t ps.toList a b s.n) b (vR P (s.n+1) (fun st p=>.loop st p fn nt t ps.toList a b s.n) (fun i v=>(J i v/\v.get s.n=some (.defs (some [])))/\u.n<=v.n) (fun _ _=>False) (fun _ _=>False) i)))
 (hend:∀ u:Sto,s.n+1<u.n->u.get s.n=some (.defs (some []))->J xs.length u->Q .normal ⟨nt,none,fn,t,.collected s.n::ds,u,r⟩):
 Wk P O H (.rangeFunc f ps a b) ⟨nt,none,fn,t,ds,s,r⟩ Q:=by
 let lo:LoopState->Option Code->AObj:=fun st p=>.loop st p fn nt t ps.toList a b s.n
 let s1:=s.push (.defs (some []))
 let s2:=s1.push (lo .ready none)
 let J':Nat->Sto->Prop:=fun i u=>u.get s.n=some (.defs (some []))/\u.get (s.n+1)=some (lo .ready none)/\J i u
 have hlow:∀ (u:Sto) k,SimX (s.n+1) u {u with low:=k}:=fun u k=>(Sim.low u k).x
 have e0:s2.get s.n=some (.defs (some [])):=by
  rw [Sto.get_push_lt _ _ (Nat.lt_succ_self _)];exact Sto.get_push_same _ _
 have e1:s2.get (s.n+1)=some (lo .ready none):=Sto.get_push_same s1 _
 obtain ⟨n,res,rr,hcall,hK⟩:=hI (s.n+1) J' (fun _=>False) (fun _ _=>False) s2 (Nat.lt_succ_self _) (fun i u u' hs ⟨k1,k2,k3⟩=>⟨hs.get k1,hs.get k2,hJ _ _ _ hs.x k3⟩)
  (fun _ _ _ h=>h) (fun _ _ _ _ h=>h)
  ⟨e0,e1,hJ 0 s s2 ((Sim.push _ _).trans (Sim.push _ _)).x h0⟩
  (fun i x hx u hu ⟨k1,k2,k3⟩=>by
    obtain ⟨t',ht,hw⟩:=hr i x hx u hu k1 k2 k3;have hY:=AO (H:=H) (J:=fun i v=>(J i v/\v.get s.n=some (.defs (some [])))/\u.n<=v.n) (J':=fun i v=>J' i v/\u.n<=v.n) (D:=fun _=>False) (E:=fun _ _=>False) (X:=fun _ _=>False) k2 ht ?_ (fun _ _ _ _ h=>h.elim) (fun _ _ _ h=>h.elim) hw
    ·exact hY.mono fun res hk=>match res,hk with
      | .ret (.bool true) _,hk=>hk
      | .ret (.bool false) _,hk=>hk.2.elim
      | .pan _ _,hk=>hk.2.elim
    rintro e he k ⟨⟨q2,q1⟩,q3⟩
    exact ⟨⟨(((SimX.put e (s.n+1) _).trans (hlow _ k)).get q1 aE),(Sim.low _ k).get (Sto.get_put_same _ _ he),hJ _ _ _ ((SimX.put e (s.n+1) _).trans (hlow _ k)) q2⟩,Nat.le_trans q3 ((SimX.put e (s.n+1) _).trans (hlow _ k)).1⟩)
 show W P O (.rangeFunc f ps a b) ⟨nt,none,fn,t,ds,s,r⟩ Q
 cases res with
 | ret v so=>
   rcases hK with ⟨k1,k2,k3⟩ | hK
   rotate_left
   ·exact hK.elim
   refine ⟨n,.normal,_,?_,hend ((so.getD s2).put (s.n+1) (lo .exhausted none)) (show s.n+1<(so.getD s2).n from Sto.get_lt k2) ((SimX.put _ (s.n+1) _).get k1 aE) (hJ _ _ _ (SimX.put _ (s.n+1) _) k3)⟩
   show (match aS P O n ((Env.mk nt none fn t ds s r).eval f) [.func (.yield (s.n+1)) [] []] s2 .no with
    | some (.ret _ so,_)=>dY ⟨nt,none,fn,t,ds,s,r⟩ (.collected s.n::ds) (s.n+1) (match so with | some s=>s | none=>s2)
    | some (.pan v so,_)=>some (.panic v,{(Env.mk nt none fn t ds s r) with s:=(match so with | some s=>s | none=>s2),ds:=.collected s.n::ds})
    | none=>none)=_
   rw [hcall];cases so<;>simp only [Option.getD_none,Option.getD_some]at k2 ⊢<;>simp only [dY,k2,lo]
 | pan v so=>exact hK.elim
end
end
end Go.Abs
namespace Go.Proofs.YtifmdaalhclhgaaGreat
open Go.Abs Go Go.Abs.TryzF
noncomputable section
set_option maxRecDepth 10000
def nL (bo wo:List AV) (m:Nat):List (List AV):=(fQ bo wo m).map fun i:Nat=>[.int .i64 (i:Nat)]
theorem yX {bo wo:List AV} {m:Nat}:nL bo wo (m+1)=nL bo wo m++(if dU (bo.getD m .top) (wo.getD m .top)=true then [] else [[.int .i64 (m:Nat)]]):=by
 simp only [nL,GK,List.map_append];cases dU (bo.getD m .top) (wo.getD m .top)<;>simp
theorem UW {bo wo:List AV} {m:Nat} (h:dU (bo.getD m .top) (wo.getD m .top)=false):∀ k,m<k->(nL bo wo k)[(nL bo wo m).length]?=some [.int .i64 (m:Nat)]
 | 0,hk=>by omega
 | k+1,hk=>by
   rw [yX];by_cases he:m=k
   ·subst he;rw [h];simp
   ·have ih:=UW h k aE
    rw [List.getElem?_append_left (List.getElem?_eq_some_iff.1 ih).1];exact ih
abbrev aCr (g:AV):AV:=.func (.func 121) [] [.pf g]
section
variable {os ts us is no os' ts' us' is' no':AV}
theorem GR.all (h:GR os ts us is no os' ts' us' is' no'):∀ x∈[os,ts,us,is,no,os',ts',us',is',no'],UnderE 0 x:=cL (VA h.w.und h.s.und)
theorem aUq {l n:Nat} {x:Prop} (h:l<n):(UnderE n (.func (.yield l) [] [])/\True):=⟨⟨1,by simp [AV.under];exact h⟩,trivial⟩
theorem QP (h:GR os ts us is no os' ts' us' is' no'):Abs.Returns Tryz.prog 75 [rO os ts us is no os' ts' us' is' no'] (aCr (rO os ts us is no os' ts' us' is' no')):=by
 obtain ⟨c1,c2,c3,c4,c5⟩:=h.w.cells;obtain ⟨c6,c7,c8,c9,c10⟩:=h.s.cells;refine bP (L:=[]) aD aN (by kernel_rfl) Tryz.func75 Tryz.ntmps75 Tryz.results75 rfl rfl (aA h.und aC) ?_;refine BC @c1 @c2 @c3 @c4 @c5 @c6 @c7 @c8 @c9 @c10 ?_
 exact lT (v:=rO os ts us is no os' ts' us' is' no') (cs:=[os,ts,us,is,no,os',ts',us',is',no']) rfl rfl fun x hx=>(h.all x hx).und
set_option maxHeartbeats 4000000 in
theorem HY (h:GR os ts us is no os' ts' us' is' no') (hol:os.els.length<=os'.els.length) {O:Orc} (h66:∀ a σ,O 121 a σ=none) (hsm:∀ a b σ,fX a->fX b->O 69 [a,b] σ=some (.ret (.bool (dU a b)) none)):
 aCp Tryz.prog O (aCr (rO os ts us is no os' ts' us' is' no')) (nL os.els os'.els os.els.length):=by
 obtain ⟨c1,c2,c3,c4,c5⟩:=h.w.cells;obtain ⟨c6,c7,c8,c9,c10⟩:=h.s.cells;obtain ⟨xo,ho,hox⟩:=h.w.os;obtain ⟨xo',ho',hox'⟩:=h.s.os;rw [ho.els,ho'.els]at hol ⊢;intro l J D X σ hl hJs hDs hXs hJ0 hr;refine tU (h66 _ _) (by kernel_rfl) Tryz.func121 rfl (Wk.sound (H:=fun r=>(bif Nat.beq r 3 then [7] else [],[])) ?_);show Wk _ _ _ _ ⟨31,none,121,Tr.leaf.lay 0 [.func (.yield l) [] [],.pf (rO os ts us is no os' ts' us' is' no')],[],⟨σ.n,σ.n,σ.o⟩,.no⟩ _;refine ap2 @c1 ho.lX ?_
 refine aQ (fun i e=>∃ t u,e=⟨31,none,121,t,[],u,.no⟩/\t.val 0=.func (.yield l) [] []/\t.val 1=.pf (rO os ts us is no os' ts' us' is' no')/\t.val 8=os/\t.val 9=.int .i64 (xo.length:Nat)/\t.val 10=.int .i64 (i:Nat)/\i<=xo.length/\l<u.n/\J (nL xo xo' i).length u/\((nL xo xo' i).length=0∨u.low<=l)) (fun i=>xo.length-i) 0
  ⟨_,_,rfl,aG,aG,aG,aG,eP,Nat.zero_le _,hl,hJs _ _ _ (Sim.low σ σ.n) hJ0,.inl rfl⟩ ?_
 rintro i _ ⟨t,⟨n,low,o⟩,rfl,h0,h1,h8,h9,h10,hi,hln,hJ,hlow⟩
 rcases Nat.lt_or_ge i xo.length with hlt | hge
 ·obtain ⟨x,hDx,hm,hg,hd,hix,hw,hc⟩:=aZ (fun x h=>tk_ob.len h) hox ho.2 hlt
  obtain ⟨x',hDx',hm',hg',hd',hix',hw',hc'⟩:=aZ (fun x h=>tk_ob.len h) hox' ho'.2 (by omega:i<xo'.length)
  have hpf:=fun {d:Option AV}=>tk_ob.pf hDx (d:=d)
  have hpf':=fun {d:Option AV}=>tk_ob.pf hDx' (d:=d)
  have e1:xo.getD i .top=x:=by simp [List.getD_eq_getElem?_getD,hg]
  have e2:xo'.getD i .top=x':=by simp [List.getD_eq_getElem?_getD,hg']
  have he:=fun σ=>hsm x x' σ hDx hDx'
  have hsim:∀ lw (z:AObj),Sim ⟨n,low,o⟩ ⟨n+1,lw,o.set n z⟩:=fun lw z=>⟨Nat.le_succ _,fun id hid=>by
   have hid':id<n:=hid
   rw [Sto.get_mk (show id<n+1 by omega),Sto.get_mk hid',Tr.get_set_ne _ _ aE]⟩
  have hsim2:∀ lw (z z':AObj),Sim ⟨n,low,o⟩ ⟨n+1,lw,(o.set n z').set n z⟩:=fun lw z z'=>⟨Nat.le_succ _,fun id hid=>by
   have hid':id<n:=hid
   rw [Sto.get_mk (show id<n+1 by omega),Sto.get_mk hid',Tr.get_set_ne _ _ aE,Tr.get_set_ne _ _ aE]⟩
  obtain ⟨ys,rfl,hyl,hyc⟩:=(tk_ob x hDx).2
  have huy:∀ {n:Nat},eR n ys:=fun {n}=>kI (cL (tk_ob _ hDx).1)
  obtain ⟨ys',rfl,hyl',hyc'⟩:=(tk_ob x' hDx').2
  have huy':∀ {n:Nat},eR n ys':=fun {n}=>kI (cL (tk_ob _ hDx').1)
  have st':=fun {Y:Nat->Prop}=>ho'.stab (Y:=Y)
  cases hs:dU (.agg ys) (.agg ys') with
  | true=>
    have hms:nL xo xo' (i+1)=nL xo xo' i:=by rw [yX,e1,e2,hs];simp
    simp +contextual +decide (maxSteps:=1000000) only [↓ wP,wQ,tf,Nat.reduceAdd,wS,h1,h8,h9,h10,c6,ho.idx,ho'.idx,hix,hix',hc,hpf,hpf',hyl,hyc,huy,bB hyl,huy',cT,he,hs,hw];exact ⟨i+1,by show _-_<_-_;omega,_,_,rfl,aP @h0,aP @h1,aP @h8,aP @h9,aG,hlt,by show l<n+1;have:l<n:=hln;omega,by rw [hms];exact hJs _ _ _ (hsim2 _ _ _) hJ,by rw [hms];exact hlow.imp id fun hh=>Nat.le_trans (Nat.min_le_right _ _) hh⟩
  | false=>
    have hms:nL xo xo' (i+1)=nL xo xo' i++[[.int .i64 (i:Nat)]]:=by rw [yX,e1,e2,hs];simp
    have hml:(nL xo xo' (i+1)).length=(nL xo xo' i).length+1:=by rw [hms,List.length_append];rfl
    simp +contextual +decide (maxSteps:=1000000) only [↓ wP,wQ,tf,Nat.reduceAdd,wS,h0,h1,h8,h9,h10,c6,ho.idx,ho'.idx,hix,hix',hc,hpf,hpf',hyl,hyc,huy,bB hyl,huy',cT,he,hs];have hcall:=hr (nL xo xo' i).length [.int .i64 (i:Nat)] (UW (by rw [e1,e2];exact hs) xo.length hlt) ⟨n+1,Nat.min n low,(o.set n (aY 0 [.int .i64 0,.int .i64 0,.nils,.nils])).set n (aY 0 ys)⟩ (by show l<n+1;have:l<n:=hln;omega) (hJs _ _ _ (hsim2 _ _ _) hJ);refine ⟨(aUq (x:=True) (show l<n+1 by have:l<n:=hln;omega)).1,hcall.mono fun res hk=>?_⟩;generalize hσ:(⟨n+1,Nat.min n low,(o.set n (aY 0 [.int .i64 0,.int .i64 0,.nils,.nils])).set n (aY 0 ys)⟩:Sto)=σ1 at *;clear hcall
    match res,hk with
    | .ret v none,_=>trivial
    | .pan v none,_=>trivial
    | .pan v (some u),hk=>
      have k:u.low<=l/\X v u/\σ1.n<=u.n:=hk;refine ⟨by rw [<-hσ]at k;exact k.2.2,?_⟩;refine GY ?_;exact aFs rfl (mT _ _ _ (X v) (hXs v) k.2.1 (.inl (Nat.lt_of_le_of_lt k.1 hl)))
    | .ret v (some u),hk=>
      have hgr:σ1.n<=u.n:=by
       cases v with
       | bool b=>cases b with
         | true=>exact hk.2.2.2
         | false=>exact hk.2.2
       | _=>exact hk.elim
      refine ⟨by rw [<-hσ]at hgr;exact hgr,?_⟩
      have k:(v=.bool true/\u.low<=l/\l<u.n/\J ((nL xo xo' i).length+1) u)∨(v=.bool false/\u.low<=l/\D u):=by
       cases v with
       | bool b=>cases b with
         | true=>exact .inl ⟨rfl,hk.1,hk.2.1,hk.2.2.1⟩
         | false=>exact .inr ⟨rfl,hk.1,hk.2.1⟩
       | _=>exact hk.elim
      rcases k with ⟨rfl,k1,k0,k2⟩ | ⟨rfl,k1,k2⟩
      ·refine ap2 @h10 @hw ?_
       exact ⟨i+1,by show _-_<_-_;omega,_,_,rfl,aP @h0,aP @h1,aP @h8,aP @h9,aG,hlt,k0,by rw [hml];exact k2,.inr k1⟩
      ·refine GY ?_
       exact oF rfl (vs:=[]) rfl (.inr (mT _ _ _ D hDs k2 (.inl (Nat.lt_of_le_of_lt k1 hl))))
 ·obtain rfl:i=xo.length:=Nat.le_antisymm hi hge
  refine yQ @h9 @h10 @aW ?_;refine oF rfl (vs:=[]) rfl (.inl (mT _ _ _ (J (nL xo xo' xo.length).length) (hJs _) hJ ?_))
  rcases hlow with h | h
  ·refine .inr ?_
   rw [h];exact hJ0
  ·exact .inl (Nat.lt_of_le_of_lt h hl)
end
end
end Go.Proofs.YtifmdaalhclhgaaGreat
/-
 Branches: the difference,in the program,at last.
-/
namespace Go.Abs
theorem Sto.get_lt_o {s:Sto} {i:Nat} (h:i<s.n):s.get i=s.o.get i:=by rw [Sto.get_eq];exact if_pos h
end Go.Abs
namespace Go.Proofs.YtifmdaalhclhgaaGreat
open Go.Abs Go Go.Abs.TryzF
noncomputable section
set_option maxRecDepth 10000
section
variable {os ts us is no os' ts' us' is' no':AV}
abbrev CH:List AV->Option AV:=rE TGr aCr
theorem changedV_ok:Abs.Ok Tryz.prog 75 CH:=wD fun a ⟨os,ts,us,is,no,os',ts',us',is',no',e,h⟩=>by subst e;exact QP h
theorem LY {a b c d e:AV}:∀ {zs:List AV},zs.length=4->cE [a,b,c,d,e] 1 zs=a::zs
 | [_,_,_,_],_=>rfl
def DJ (G r:List AV) (B C D:AV) (U:Int) (k:Nat) (u:Sto):Prop:=u.get 0=some (aY 0 G)/\u.get 1=some (aY 0 [.nils,.nils,.nils,.nils,.int .i64 0])/\∃ v,u.get 2=some (aY 0 [v,B,C,D,.int .i64 U])/\AccM 5 5 v u.n u.o ((r.take k).map AV.cells)
theorem DJ.simx {G r:List AV} {B C D:AV} {U:Int} {k:Nat} {u u':Sto} (hx:SimX 4 u u') (h:DJ G r B C D U k u):DJ G r B C D U k u':=by
 obtain ⟨h1,h2,v,h3,h4⟩:=h
 exact ⟨hx.get h1 (by decide),hx.get h2 (by decide),v,hx.get h3 (by decide),bQ h4 hx.1 fun id hlo hid=>by
  have:=hx.2 id hid aE
  rwa [Sto.get_lt_o hid,Sto.get_lt_o (Nat.lt_of_lt_of_le hid hx.1)]at this⟩
theorem aCs {xo':List AV} (hox':∀ x∈xo',fX x) {c:AV->AV} (hc:∀ x,fX x->fX (c x)) {i:Nat} (hi:i<xo'.length):BB (fR c xo' i):=by
 have:fX (xo'.getD i .top):=by rw [List.getD_eq_getElem?_getD,List.getElem?_eq_getElem hi];exact hox' _ (List.getElem_mem _)
 obtain ⟨_,_,_,_,he,h1,h2,h3,h4⟩:=hc _ this;rw [fR,he];exact ⟨_,_,_,_,_,rfl,⟨_,rfl⟩,h1,h2,h3,h4⟩
theorem aCt {xo xo':List AV} (hox':∀ x∈xo',fX x) (hl:xo.length<=xo'.length) {c:AV->AV} (hc:∀ x,fX x->fX (c x)):∀ x∈(fQ xo xo' xo.length).map (fR c xo'),BB x:=fun x hx=>by
 obtain ⟨i,hi,rfl⟩:=List.mem_map.1 hx;exact aCs hox' hc (Nat.lt_of_lt_of_le (tG hi) hl)
set_option maxHeartbeats 8000000 in
theorem UX (h:GR os ts us is no os' ts' us' is' no') (hol:os.els.length<=os'.els.length) (htl:ts.els.length<=ts'.els.length) (hul:us.els.length<=us'.els.length) (lo:os'.els.length<=1000) (lt:ts'.els.length<=1000) (lu:us'.els.length<=1000) (sm:∀ o∈os'.els,rI o):
 ∃ v,dV cV (wg os ts us is no) (wg os' ts' us' is' no') v/\Abs.Returns Tryz.prog 33 [rO os ts us is no os' ts' us' is' no'] v:=by
 have hiter:∀ {O:Orc},(∀ a σ,O 121 a σ=none)->(∀ a b σ,fX a->fX b->O 69 [a,b] σ=some (.ret (.bool (dU a b)) none))->aCp Tryz.prog O (aCr (rO os ts us is no os' ts' us' is' no')) (nL os.els os'.els os.els.length):=fun h1 h2=>HY h hol h1 h2
 obtain ⟨c1,c2,c3,c4,c5⟩:=h.w.cells;obtain ⟨c6,c7,c8,c9,c10⟩:=h.s.cells;have e0:MB [rO os ts us is no os' ts' us' is' no']=some (.int .i64 (fU (wg os ts us is no) (wg os' ts' us' is' no'))):=bX ⟨_,_,_,_,_,_,_,_,_,_,rfl,h⟩;have e1:CH [rO os ts us is no os' ts' us' is' no']=some (aCr (rO os ts us is no os' ts' us' is' no')):=bX ⟨_,_,_,_,_,_,_,_,_,_,rfl,h⟩;have hall:=h.all;obtain ⟨xo,ho,hox⟩:=h.w.os;obtain ⟨xo',ho',hox'⟩:=h.s.os;obtain ⟨xt,ht,htx⟩:=h.w.ts;obtain ⟨xt',ht',htx'⟩:=h.s.ts;obtain ⟨xu,hu,hux⟩:=h.w.us;obtain ⟨xu',hu',hux'⟩:=h.s.us;rw [ho.els,ho'.els]at hol hiter;rw [ht.els,ht'.els]at htl;rw [hu.els,hu'.els]at hul;rw [ho'.els]at lo sm;rw [ht'.els]at lt;rw [hu'.els]at lu;obtain ⟨a1,hb1,hs1⟩:=ho'.from (k:=4) (fun x hm=>tk_ob.len (hox' x hm)) (n:=((xo.length:Nat):Int)) aE aE;obtain ⟨a2,hb2,hs2⟩:=ht'.from (k:=1) (fun x hm=>tu_int.len (htx' x hm)) (n:=((xt.length:Nat):Int)) aE aE;obtain ⟨a3,hb3,hs3⟩:=hu'.from (k:=2) (fun x hm=>tk_out.len (hux' x hm)) (n:=((xu.length:Nat):Int)) aE aE;rw [Int.toNat_natCast]at hb1 hb2 hb3
 have y1:TSl fX a1:=⟨_,hb1,fun x hx=>hox' x (List.mem_of_mem_drop hx)⟩
 have y2:dE a2:=⟨_,hb2,fun x hx=>htx' x (List.mem_of_mem_drop hx)⟩
 have y3:TSl jY a3:=⟨_,hb3,fun x hx=>hux' x (List.mem_of_mem_drop hx)⟩
 have e2:CS [a1]=some (aM ((xo'.drop xo.length).map cV)):=by
  rw [CS,bX ⟨y1,by rw [hb1.els,List.length_drop];omega,fun o ho=>sm o (List.mem_of_mem_drop (hb1.els ▸ ho))⟩,hb1.els]
 have e3:IC [a2]=some (fT a2):=bX ⟨y2,by rw [hb2.els,List.length_drop];omega⟩;have e4:ID [a3]=some (fT a3):=bX ⟨y3,by rw [hb3.els,List.length_drop];omega⟩
 have z1:TSl fX (aM ((xo'.drop xo.length).map cV)):=by rw [<-hb1.els];exact VG y1
 have z2:=GN y2;have z3:=GN y3;have k1:=cD _ z1;have k2:=aL _ z2;have k3:=bJ _ z3
 have u1:=fun {m:Nat}=>k1.1.mono (Nat.zero_le m)
 have u2:=fun {m:Nat}=>k2.1.mono (Nat.zero_le m)
 have u3:=fun {m:Nat}=>k3.1.mono (Nat.zero_le m)
 have hrt:∀ x∈(fQ xo xo' xo.length).map (fR cV xo'),BB x:=aCt hox' hol fun _=>dS
 have hrl:((fQ xo xo' xo.length).map (fR cV xo')).length<=1000:=by rw [List.length_map];exact Nat.le_trans wR aE
 have hQ:dV cV (wg os ts us is no) (wg os' ts' us' is' no') (.agg [aM ((fQ xo xo' xo.length).map (fR cV xo')),aM ((xo'.drop xo.length).map cV),fT a2,fT a3,.int .i64 (fU (wg os ts us is no) (wg os' ts' us' is' no'))]):=by
  refine ⟨⟨_,_,_,_,_,rfl,⟨_,cN aE,hrt⟩,z1,z2,z3,_,rfl⟩,?_,?_,?_,?_,rfl⟩
  ·show (aM _).els=List.map (fR cV os'.els) (fQ os.els os'.els os.els.length)
   rw [bF,ho.els,ho'.els]
  ·show (aM _).els=List.map cV (os'.els.drop os.els.length)
   rw [bF,ho.els,ho'.els]
  ·show (fT a2).els=ts'.els.drop ts.els.length
   rw [(zC hb2).els,ht.els,ht'.els]
  ·show (fT a3).els=us'.els.drop us.els.length
   rw [(zC hb3).els,hu.els,hu'.els]
 refine rP (L:=[ent 72 CS,ent 73 IC,ent 74 ID,ent 67 MB,ent 75 CH,ent 76 kJ,ent 69 kX]) (elist_cons objects_ok.ent (elist_cons cloneI_ok.ent (elist_cons cloneO_ok.ent (elist_cons used_ok.ent (elist_cons changedV_ok.ent (elist_cons copied_ok.ent (elist_cons wSame_ok.ent aD))))))) (fun r=>(bif Nat.beq r 1 then [9,19,29,31] else bif Nat.beq r 4 then [9] else [],[])) (by kernel_rfl) Tryz.func33 Tryz.ntmps33 Tryz.results33 rfl rfl (aA h.und aC) ?_;generalize fU (wg os ts us is no) (wg os' ts' us' is' no')=U at *;generalize hR:(fQ xo xo' xo.length).map (fR cV xo')=R at *;generalize aM ((xo'.drop xo.length).map cV)=B at *;generalize fT a2=C at *;generalize fT a3=D at *
 have st1:=fun {Y:Nat->Prop}=>ho'.stab (Y:=Y)
 have st2:=fun {Y:Nat->Prop}=>ht'.stab (Y:=Y)
 have st3:=fun {Y:Nat->Prop}=>hu'.stab (Y:=Y)
 have st4:=fun {Y:Nat->Prop}=>ho.stab (Y:=Y)
 have st5:=fun {Y:Nat->Prop}=>ht.stab (Y:=Y)
 have st6:=fun {Y:Nat->Prop}=>hu.stab (Y:=Y)
 simp +contextual +decide (maxSteps:=1000000) only [↓ wP,wQ,tf,Nat.reduceAdd,wS,JU,c1,c2,c3,c4,c5,c6,c7,c8,c9,c10,ho.len,ht.len,hu.len,hs1,hs2,hs3,e0,e1,e2,e3,e4,k1.2,k2.2,k3.2,u1,u2,u3,st4,st5,st6]
 have hRk:∀ {k m:Nat},(fQ xo xo' xo.length)[k]?=some m->R.take (k+1)=R.take k++[fR cV xo' m]:=fun {k m} hk=>by
  rw [<-hR,List.take_add_one,List.getElem?_map,hk];rfl
 have hRl:R.length=(fQ xo xo' xo.length).length:=by rw [<-hR,List.length_map]
 refine aCq (xs:=nL xo xo' xo.length) (DJ [os,ts,us,is,no,os',ts',us',is',no'] R B C D U) ?_ ?_ ?_ ?_ ?_
 ·simp +decide only [↓ mU]
  refine hiter (fun a σ=>rfl) fun a b σ ha hb=>?_
  have:kX [a,b]=some (.bool (dU a b)):=sg2_eq ⟨ha,hb⟩;simp [bK,ent,this]<;>rfl
 ·exact fun i u u' hx hj=>hj.simx hx
 ·exact ⟨lS,lS,.nils,lS,.inl ⟨rfl,rfl⟩⟩
 ·rintro k x hx ⟨n,low,o⟩ hn hg1 hg2 hJ
  have hn':4<n:=hn
  obtain ⟨m,hm,rfl⟩:∃ m,(fQ xo xo' xo.length)[k]?=some m/\x=[.int .i64 (m:Nat)]:=by
   rw [nL,List.getElem?_map]at hx
   cases hmk:(fQ xo xo' xo.length)[k]? with
   | none=>rw [hmk]at hx;cases hx
   | some m=>rw [hmk]at hx;exact ⟨m,rfl,by simpa using hx.symm⟩
  have hml:=tG (List.mem_of_getElem? hm);have hkl:k<(fQ xo xo' xo.length).length:=(List.getElem?_eq_some_iff.1 hm).1;obtain ⟨h0,h1,v,h2,hacc⟩:=hJ;have hacc':AccM 5 5 v n o ((R.take k).map AV.cells):=hacc;clear hacc;have f0:=bT (show 0<n by omega);have f1:=bT (show 1<n by omega);have f2:=bT (show 2<n by omega);have f3:=bT (show 3<n by omega);have f4:=bT (show 4<n by omega);simp +decide only [Sto.get_mk,f0,f1,f2,f3,f4,Nat.reduceAdd]at hg1 hg2 h0 h1 h2;obtain ⟨x',hDx',hm',hg',hd',hix',hw',hc'⟩:=aZ (fun x h=>tk_ob.len h) hox' ho'.2 (show m<xo'.length by omega)
  have hpf':=fun {d:Option AV}=>tk_ob.pf hDx' (d:=d)
  have e2:xo'.getD m .top=x':=by simp [List.getD_eq_getElem?_getD,hg']
  have he:kJ [x']=some (cV x'):=bX ⟨hDx',sm x' hm'⟩;obtain ⟨_,zs,hcp,hzl,hzc⟩:=tk_ob _ (dS hDx')
  have huz:∀ {n:Nat},eR n zs:=fun {n}=>kI (cL (hcp ▸ (tk_ob _ (dS hDx')).1))
  have hrow:(fR cV xo' m).cells=.int .i64 (m:Nat)::zs:=by rw [fR,e2,hcp];rfl
  rw [hcp]at he;obtain ⟨ys,rfl,hyl,hyc⟩:=(tk_ob x' hDx').2
  have hz:0+4<=ys.length:=by omega
  have hz':0+5<=(AV.int .i64 (m:Nat)::zs).length:=by rw [List.length_cons];omega
  have hzl2:(AV.int .i64 (m:Nat)::zs).length=5:=by rw [List.length_cons];omega
  have htk:(R.take (k+1)).map AV.cells=(R.take k).map AV.cells++[.int .i64 (m:Nat)::zs]:=by rw [hRk hm,List.map_append,List.map_cons,List.map_nil,hrow]
  have hrl':=cM tk_dob (xs:=R.take k) fun x hx=>hrt x (List.mem_of_mem_take hx)
  have hsmall:(2*(((R.take k).map AV.cells).length+1)+1024)*72<=281474976710656/\((R.take k).map AV.cells).length+1<4611686018427387904:=by
   rw [List.length_map,List.length_take];have:=Nat.min_le_right k R.length;omega
  have hfl:((R.take k).map AV.cells).flatten.length=((R.take k).map AV.cells).length*5:=bM _ hrl';generalize (R.take k).map AV.cells=L at *;refine ⟨_,rfl,?_⟩
  rcases hacc' with ⟨hL,rfl⟩ | ⟨hL,id',g,rfl,hid,hidn,hlo⟩
  ·simp +contextual +decide (maxSteps:=1000000) only [↓ wP,wQ,tf,Nat.reduceAdd,wS,JU,f0,f2,f3,f4,cT,hg1,hg2,h0,h2,ho'.idx,hix',hpf',he,hzl,hzc,huz,LY hzl,hzl2,bB hzl2,vS,vR,Env.setS,Nat.reduceMul]
   refine ⟨iY @f0 @h0,iY @f1 @h1,.sl (n+1) 0 0 1 (.room 5),rB @f2,?_⟩;rw [htk,hL];refine AccM.new (g:=0) (m:=1) ?_ rfl (by simp) (by show n+1<n+1+1;omega) aE;rw [show (([]:List (List AV))++[AV.int .i64 (m:Nat)::zs]).flatten=.int .i64 (m:Nat)::zs by simp];exact rB @f2
  ·have f5:=bT hidn
   have f6:id'≠0/\id'≠1/\id'≠2/\id'≠3/\id'≠4/\0≠id'/\1≠id'/\2≠id'/\3≠id'/\4≠id':=by omega
   simp +contextual +decide (maxSteps:=1000000) only [↓ wP,wQ,tf,Nat.reduceAdd,wS,JU,f0,f2,f3,f4,f5,f6,hid,hsmall,hfl,cT,hg1,hg2,h0,h2,ho'.idx,hix',hpf',he,hzl,hzc,huz,LY hzl,hzl2,bB hzl2,vS,vR,Env.setS,Nat.reduceMul,Nat.zero_add];refine ⟨uN @f0 @f6 @h0,uN @f1 @f6 @h1,.sl id' (g+1) 0 (L.length+1) (.room 5),rB @f2,?_⟩;rw [htk];refine AccM.new (g:=g+1) ?_ (by simp) (by simp) (by show id'<n+1;omega) aE;rw [List.flatten_append,show [AV.int .i64 (m:Nat)::zs].flatten=.int .i64 (m:Nat)::zs by simp];exact rB @f6
 ·rintro ⟨n,low,o⟩ hn hg1 ⟨h0,h1,v,h2,hacc⟩
  have hn':4<n:=hn;have f0:=bT (show 0<n by omega);have f1:=bT (show 1<n by omega);have f2:=bT (show 2<n by omega);have f3:=bT (show 3<n by omega);simp +decide only [Sto.get_mk,f0,f1,f2,f3]at hg1 h0 h1 h2
  have hacc':AccM 5 5 v n o (R.map AV.cells):=by
   have e:R.take (nL xo xo' xo.length).length=R:=List.take_of_length_le (by rw [hRl,nL,List.length_map];omega);rw [e]at hacc;exact hacc
  have hvc:v.isCell=true:=(StN.acc (low:=low) hacc').cell;refine BC @JU @f1 @f2 @cT @h1 @h2 @hvc k1.2 k2.2 k3.2 ?_;refine ⟨rfl,_,MG (by rw [Sto.get_mk (show 3<n by omega)];exact rB @hg1),[.agg [v,B,C,D,.int .i64 U]],?_,?_⟩
  ·simp +contextual +decide (maxSteps:=1000000) only [↓ wP,wQ,tf,Nat.reduceAdd,wS,f1,aR,Option.bind_some]
  ·rw [Sto.put_any]
   exact ⟨.agg [aM R,B,C,D,.int .i64 U],.agg _ _ rfl (aU (gL tk_dob hrt (bQ hacc' (Nat.le_refl _) fun id h1 h2=>(Tr.get_set_ne _ _ aE).trans (Tr.get_set_ne _ _ aE)) (Nat.zero_le _)) (aU (.und _ (u1 (m:=0)).und) (aU (.und _ (u2 (m:=0)).und) (aU (.und _ (u3 (m:=0)).und) (aU (.und _ aT) fB))))),hQ⟩
end
theorem QQ:Tu (TSl tO):=fZ (gQ tk_wd)
def UY (p:AV) (ws:List AV):Bool:=ws.all fun w=>lK p&&oT p w
abbrev aCu:List AV->Option AV:=nP (fun a b=>fY a/\TSl tO b) fun a b=>fW (UY a b.els)
set_option maxHeartbeats 2000000 in
theorem QR:Abs.Ok Tryz.prog 29 aCu:=ok2 fun a b ⟨ha,hb⟩=>by
 have hua:=(dM a ha).1;have hub:=(QQ b hb).1;have ha':=ha;obtain ⟨ns,fs,mm,cs,rfl,a1,a2,a3,a4⟩:=ha;have q1:=(dI _ a1).2;have q2:=(aL _ a2).2;have q3:=(tu_int _ a3).2;have q4:=(dL _ a4).2;obtain ⟨xs,hs,hxs⟩:=hb;rw [hs.els];refine aF (L:=[ent 40 IP]) (elist_cons mCheck_ok.ent aD) aN (by kernel_rfl) Tryz.func29 Tryz.ntmps29 Tryz.results29 rfl rfl (aA hua.und (aA hub.und aC)) (by unfold fW;split<;>exact aT) ?_
 have hsp:∃ W,W=fW (UY (.agg [ns,fs,mm,cs]) xs):=⟨_,rfl⟩
 obtain ⟨W,hsp⟩:=hsp;rw [<-hsp];refine VV @q1 @q2 @q3 @q4 hs.lX ?_;refine aQ (fun i e=>∃ t n low o,e=⟨21,none,29,t,[],⟨n,low,o⟩,.no⟩/\t.val 2=.ptr 0 0 0/\t.val 8=b/\t.val 9=.int .i64 (xs.length:Nat)/\t.val 10=.int .i64 (i:Nat)/\o.get 0=some (aY 0 [ns,fs,mm,cs])/\1<=n/\i<=xs.length/\W=fW (UY (.agg [ns,fs,mm,cs]) (xs.drop i))) (fun i=>xs.length-i) 0 ⟨_,_,_,_,rfl,aG,aG,aG,eP,aG,aE,Nat.zero_le _,hsp⟩ ?_;rintro i _ ⟨t,n,low,o,rfl,t2,t8,t9,t10,g0,hn,hi,hq⟩;have f0:=bT (show 0<n by omega)
 rcases Nat.lt_or_ge i xs.length with hlt | hge
 ·obtain ⟨x,hDx,hm,hg,hd,hix,hw,hc⟩:=aZ (fun x h=>tk_wd.len h) hxs hs.2 hlt
  have hpf:=fun {d:Option AV}=>tk_wd.pf hDx (d:=d)
  have he:IP [.agg [ns,fs,mm,cs],x]=some (fW (lK (.agg [ns,fs,mm,cs])&&oT (.agg [ns,fs,mm,cs]) x)):=sg2_eq ⟨ha',hDx⟩;obtain ⟨ys,rfl,hyl,hyc⟩:=(tk_wd x hDx).2;rw [hd,UY,List.all_cons,<-UY]at hq
  cases k2:lK (.agg [ns,fs,mm,cs])&&oT (.agg [ns,fs,mm,cs]) (.agg ys) with
  | false=>
    rw [k2,Bool.false_and]at hq;rw [k2]at he;simp +contextual +decide (maxSteps:=1000000) only [↓ wP,wQ,tf,Nat.reduceAdd,wS,t2,t8,t9,t10,g0,f0,hs.idx,hix,hc,hpf,hyl,hyc,bB hyl,cT,he,fW,hq]
  | true=>
    rw [k2,Bool.true_and]at hq;rw [k2]at he;simp +contextual +decide (maxSteps:=1000000) only [↓ wP,wQ,tf,Nat.reduceAdd,wS,t2,t8,t9,t10,g0,f0,hs.idx,hix,hc,hpf,hyl,hyc,bB hyl,cT,he,fW,hw];exact ⟨i+1,by show _-_<_-_;omega,_,_,_,_,rfl,aP @t2,aP @t8,aP @t9,aG,iY @g0 @f0,aE,hlt,hq⟩
 ·obtain rfl:i=xs.length:=Nat.le_antisymm hi hge
  rw [List.drop_length,show UY (.agg [ns,fs,mm,cs]) []=true from rfl,fW,if_pos rfl]at hq;exact az4 @t9 @t10 @aW @hq
theorem aIw {s:Sto} {p:AV} (hp:UnderE 0 p) {ws:List AV} (hw:∀ w∈ws,tO w) {id:Nat} {cap:ACap} {n:Nat} (hn:n=ws.length) (hg:s.get id=some (aY 0 (ws.map AV.cells).flatten)):FrzL s [p,.sl id 0 0 n cap] [p,.fz ws false]:=by
 have:=xP (S:=s) (n:=0) (id:=id) (g:=0) (cap:=cap) (l:=ws.map AV.cells) (Nat.zero_le _) hg rfl (cM tk_wd hw) (wW tk_wd hw);rw [rS tk_wd hw,List.length_map]at this;subst hn;exact ⟨.und _ hp.und,this,trivial⟩
theorem aOp {ws:List AV} (hw:∀ w∈ws,tO w) (hl:ws.length<=1000):TSl tO (.fz ws false):=⟨ws,⟨.inr ⟨false,rfl⟩,aE⟩,hw⟩
def lI (p:AV) (ws:List AV) (args:List AV) (s:Sto):Prop:=∃ id cap,args=[p,.sl id 0 0 ws.length cap]/\s.get id=some (aY 0 (ws.map AV.cells).flatten)
theorem yY {f:FuncId} {G:List AV->Option AV} (hG:Abs.Ok Tryz.prog f G) {p:AV} (hp:UnderE 0 p) {ws:List AV} (hw:∀ w∈ws,tO w) {v:AV} (hv:G [p,.fz ws false]=some v) (hf:aFj v):∀ args s,lI p ws args s->bV Tryz.prog f args s (.ret v none):=fun args s ⟨id,cap,e,hg⟩=>by
 subst e;exact tP (hG _ _ hv) hf (aIw hp hw rfl hg)
theorem XT {b:Bool}:aFj (fW b):=by unfold fW;split<;>exact aKr
theorem yZ {p w:AV} (h:oT p w=true):UsB (w.fld 4):=by
 simp only [oT,pX,Bool.and_eq_true,inR,decide_eq_true_eq]at h;exact ⟨h.2.2.2.2.2.2.1,h.2.2.2.2.2.2.2⟩
section
variable {p b w:AV}
theorem wK {b w:AV} (h:dR b w=true):(b.fld 0).els.length<=(w.fld 0).els.length/\(b.fld 1).els.length<=(w.fld 1).els.length/\(b.fld 2).els.length<=(w.fld 2).els.length:=by
 simp only [dR,CL,MA,Bool.and_eq_true,decide_eq_true_eq]at h;exact ⟨h.1,h.2.1.1,h.2.2.1.1⟩
end
def FH (p:AV) (ws:List AV):Bool:=qT p&&ws.all (qZ p)
abbrev aCv:List AV->Option AV:=nP (fun a b=>(fY a/\SmP a)/\TSl tO b) fun a b=>.bool (FH a b.els)
set_option maxHeartbeats 2000000 in
theorem QS:Abs.Ok Tryz.prog 31 aCv:=ok2 fun a b ⟨⟨ha,hm⟩,hb⟩=>by
 have hua:=(dM a ha).1;have hub:=(QQ b hb).1;have ha':=ha;have e1:FD [a]=some (.bool (qT a)):=bX ⟨ha,hm⟩;obtain ⟨ns,fs,mm,cs,rfl,a1,a2,a3,a4⟩:=ha;have q1:=(dI _ a1).2;have q2:=(aL _ a2).2;have q3:=(tu_int _ a3).2;have q4:=(dL _ a4).2;obtain ⟨xs,hs,hxs⟩:=hb
 have st:=fun {Y:Nat->Prop}=>hs.stab (Y:=Y)
 rw [hs.els,FH];refine aF (L:=[ent 70 FD,ent 42 IZ]) (elist_cons rformedV_ok.ent (elist_cons rWorld_ok.ent aD)) (fun r=>(bif Nat.beq r 6 then [5] else [],[])) (by kernel_rfl) Tryz.func31 Tryz.ntmps31 Tryz.results31 rfl rfl (aA hua.und (aA hub.und aC)) aJ ?_
 cases k1:qT (.agg [ns,fs,mm,cs]) with
 | false=>exact SK @q1 @q2 @q3 @q4 @e1 @k1
 | true=>
 rw [Bool.true_and]
 have hsp:∃ W,W=xs.all (qZ (.agg [ns,fs,mm,cs])):=⟨_,rfl⟩
 obtain ⟨W,hsp⟩:=hsp;rw [<-hsp];refine ap6 @q1 @q2 @q3 @q4 @e1 @k1 ?_;refine aQ (fun i e=>∃ t n low o,e=⟨22,none,31,t,[],⟨n,low,o⟩,.no⟩/\t.val 1=b/\t.val 2=.ptr 0 0 0/\t.val 5=.int .i64 (i:Nat)/\o.get 0=some (aY 0 [ns,fs,mm,cs])/\1<=n/\i<=xs.length/\W=(xs.drop i).all (qZ (.agg [ns,fs,mm,cs]))) (fun i=>xs.length-i) 0 ⟨_,_,_,_,rfl,aG,aG,eP,aG,aE,Nat.zero_le _,hsp⟩ ?_;rintro i _ ⟨t,n,low,o,rfl,t1,t2,t5,g0,hn,hi,hq⟩;have f0:=bT (show 0<n by omega)
 rcases Nat.lt_or_ge i xs.length with hlt | hge
 ·obtain ⟨x,hDx,hm,hg,hd,hix,hw,hc⟩:=aZ (fun x h=>tk_wd.len h) hxs hs.2 hlt
  have hpf:=fun {d:Option AV}=>tk_wd.pf hDx (d:=d)
  have he:IZ [.agg [ns,fs,mm,cs],x]=some (.bool (qZ (.agg [ns,fs,mm,cs]) x)):=sg2_eq ⟨ha',hDx⟩;obtain ⟨ys,rfl,hyl,hyc⟩:=(tk_wd x hDx).2;rw [hd,List.all_cons]at hq
  cases k2:qZ (.agg [ns,fs,mm,cs]) (.agg ys) with
  | false=>
    rw [k2,Bool.false_and]at hq;exact xK @t1 @t2 @t5 @g0 @f0 hs.lX hs.iX @hix @hc @hpf @cT @he @k2 @hq
  | true=>
    rw [k2,Bool.true_and]at hq;refine NC @t1 @t2 @t5 @g0 @f0 hs.lX hs.iX @hix @hc @hpf @cT @he @k2 @hw ?_;exact ⟨i+1,by show _-_<_-_;omega,_,_,_,_,rfl,aP @t1,aP @t2,aG,by simp +decide only [g0],aE,hlt,hq⟩
 ·obtain rfl:i=xs.length:=Nat.le_antisymm hi hge
  rw [List.drop_length,List.all_nil]at hq;exact DO @t1 @t5 hs.lX @aW @hq
abbrev aCw:List AV->Option AV:=rE cA fun a=>.bool (AB a.num)
theorem lasting_ok:Abs.Ok Tryz.prog 71 aCw:=wD fun a ⟨n,e⟩=>by
 subst e;rw [show (AV.int .i64 n).num=n from rfl];refine aF (L:=[]) aD aN (by kernel_rfl) Tryz.func71 Tryz.ntmps71 Tryz.results71 rfl rfl (aA aT aC) aJ ?_;by_cases h1:n=1
 ·subst h1;refine GY ?_;rfl
 by_cases h2:n=2
 ·subst h2;refine GY ?_;rfl
 by_cases h3:n=5
 ·subst h3;refine GY ?_;rfl
 refine yQ @h1 @h2 @h3 ?_;simp [AB,h1,h2,h3]
abbrev pP:List AV->Option AV:=nP (fun b w=>tO b/\tO w/\UsB (b.fld 4)/\UsB (w.fld 4)) fun b w=>.bool (wO b w)
set_option maxHeartbeats 8000000 in
theorem follows_ok:Abs.Ok Tryz.prog 32 pP:=ok2 fun b w ⟨hb,hw,u,v⟩=>by
 have hub:=(tk_wd b hb).1;have huw:=(tk_wd w hw).1;obtain ⟨os,ts,us,is,no,rfl,a1,a2,a3,a4,m,rfl⟩:=hb;obtain ⟨os',ts',us',is',no',rfl,b1,b2,b3,b4,m',rfl⟩:=hw;obtain ⟨c1,c2,c3,c4,c5⟩:=(show WG os ts us is (.int .i64 m) from ⟨a1,a2,a3,a4,_,rfl⟩).cells;obtain ⟨c6,c7,c8,c9,c10⟩:=(show WG os' ts' us' is' (.int .i64 m') from ⟨b1,b2,b3,b4,_,rfl⟩).cells;obtain ⟨u1,u2⟩:0<=m/\m<=1000000000:=u;obtain ⟨v1,v2⟩:0<=m'/\m'<=1000000000:=v
 obtain ⟨U,hU⟩:∃ U,U=m'-m:=⟨_,rfl⟩
 have hwr:IntKind.i64.wrap (m'-m)=U:=by rw [hU];exact IntWalk.i64_in _ aE
 have b2':=b2;have b3':=b3;have a2':=a2;have a3':=a3;obtain ⟨xo,ho,hox⟩:=a1;obtain ⟨xo',ho',hox'⟩:=b1;obtain ⟨xt,ht,htx⟩:=a2;obtain ⟨xt',ht',htx'⟩:=b2;obtain ⟨xu,hu,hux⟩:=a3;obtain ⟨xu',hu',hux'⟩:=b3;obtain ⟨xi,hi,hix0⟩:=a4
 have hsp:wO (.agg [os,ts,us,is,.int .i64 m]) (.agg [os',ts',us',is',.int .i64 m'])=(decide (xo.length<=xo'.length)&&(decide (xt.length<=xt'.length)&&(decide (xu.length<=xu'.length)&&(decide (0<=m'-m)&&(decide (m'-m<=(xi.length:Nat))&&(fP xo xo'&&(bS xt (xt'.take xt.length)&&(bL xu (xu'.take xu.length)&&bS (xi.drop (m'-m).toNat) is'.els)))))))):=by
  rw [<-ho.els,<-ho'.els,<-ht.els,<-ht'.els,<-hu.els,<-hu'.els,<-hi.els];rfl
 generalize wO (.agg [os,ts,us,is,.int .i64 m]) (.agg [os',ts',us',is',.int .i64 m'])=W at *;refine aF (L:=[ent 71 aCw,ent 37 kX,ent 35 gM,ent 36 oA]) (elist_cons lasting_ok.ent (elist_cons rsameObj_ok.ent (elist_cons rsameInts_ok.ent (elist_cons rsameOuts_ok.ent aD)))) (fun r=>(bif Nat.beq r 10 then [8,18,27] else [],[1000])) (by kernel_rfl) Tryz.func32 Tryz.ntmps32 Tryz.results32 rfl rfl (aA hub.und (aA huw.und aC)) aJ ?_;rw [<-hU]at hsp;by_cases k0:xo.length<=xo'.length
 rotate_left
 ·have k0':(((xo'.length:Nat):Int)<((xo.length:Nat):Int))=True:=eq_true aE
  rw [decide_eq_false k0,Bool.false_and]at hsp;exact NG @c1 @c2 @c3 @c4 @c5 @c6 @c7 @c8 @c9 @c10 @hwr ho.lX ho'.lX @k0' @hsp
 have k0':(((xo'.length:Nat):Int)<((xo.length:Nat):Int))=False:=eq_false aE;rw [decide_eq_true k0,Bool.true_and]at hsp;by_cases k1:xt.length<=xt'.length
 rotate_left
 ·have k1':(((xt'.length:Nat):Int)<((xt.length:Nat):Int))=True:=eq_true aE
  rw [decide_eq_false k1,Bool.false_and]at hsp;exact SL @c1 @c2 @c3 @c4 @c5 @c6 @c7 @c8 @c9 @c10 @hwr ho.lX ho'.lX ht.lX ht'.lX @k0' @k1' @hsp
 have k1':(((xt'.length:Nat):Int)<((xt.length:Nat):Int))=False:=eq_false aE;rw [decide_eq_true k1,Bool.true_and]at hsp;by_cases k2:xu.length<=xu'.length
 rotate_left
 ·have k2':(((xu'.length:Nat):Int)<((xu.length:Nat):Int))=True:=eq_true aE
  rw [decide_eq_false k2,Bool.false_and]at hsp;simp +contextual +decide (maxSteps:=1000000) only [↓ wP,wQ,tf,Nat.reduceAdd,wS,c1,c2,c3,c4,c5,c6,c7,c8,c9,c10,hwr,ho.len,ho'.len,ht.len,ht'.len,hu.len,hu'.len,k0',k1',k2',hsp]
 have k2':(((xu'.length:Nat):Int)<((xu.length:Nat):Int))=False:=eq_false aE;rw [decide_eq_true k2,Bool.true_and]at hsp;by_cases k3:0<=U
 rotate_left
 ·have k3':(U<0)=True:=eq_true aE
  rw [decide_eq_false k3,Bool.false_and]at hsp;simp +contextual +decide (maxSteps:=1000000) only [↓ wP,wQ,tf,Nat.reduceAdd,wS,c1,c2,c3,c4,c5,c6,c7,c8,c9,c10,hwr,ho.len,ho'.len,ht.len,ht'.len,hu.len,hu'.len,k0',k1',k2',k3',hsp]
 have k3':(U<0)=False:=eq_false aE;rw [decide_eq_true k3,Bool.true_and]at hsp
 by_cases k4:U<=((xi.length:Nat):Int)
 rotate_left
 ·have k4':(U > ((xi.length:Nat):Int))=True:=eq_true aE
  rw [decide_eq_false k4,Bool.false_and]at hsp;simp +contextual +decide (maxSteps:=1000000) only [↓ wP,wQ,tf,Nat.reduceAdd,wS,c1,c2,c3,c4,c5,c6,c7,c8,c9,c10,hwr,ho.len,ho'.len,ht.len,ht'.len,hu.len,hu'.len,hi.len,k0',k1',k2',k3',k4',hsp]
 have k4':(U > ((xi.length:Nat):Int))=False:=eq_false aE;rw [decide_eq_true k4,Bool.true_and]at hsp;obtain ⟨p1,hp1,hs1⟩:=ht'.upto (k:=1) (fun x hm=>tu_int.len (htx' x hm)) (n:=((xt.length:Nat):Int)) aE aE;obtain ⟨p2,hp2,hs2⟩:=hu'.upto (k:=2) (fun x hm=>tk_out.len (hux' x hm)) (n:=((xu.length:Nat):Int)) aE aE;obtain ⟨p3,hp3,hs3⟩:=hi.from (k:=1) (fun x hm=>tu_int.len (hix0 x hm)) k3 k4;rw [Int.toNat_natCast]at hp1 hp2
 have e1:gM [ts,p1]=some (.bool (bS xt (xt'.take xt.length))):=by
  rw [gM,sg2_eq ⟨a2',_,hp1,fun x hx=>htx' x (List.mem_of_mem_take hx)⟩,hp1.els,ht.els]
 have e2:oA [us,p2]=some (.bool (bL xu (xu'.take xu.length))):=by
  rw [oA,sg2_eq ⟨a3',_,hp2,fun x hx=>hux' x (List.mem_of_mem_take hx)⟩,hp2.els,hu.els]
 have e3:gM [p3,is']=some (.bool (bS (xi.drop U.toNat) is'.els)):=by
  rw [gM,sg2_eq ⟨⟨_,hp3,fun x hx=>hix0 x (List.mem_of_mem_drop hx)⟩,b4⟩,hp3.els]
 have st1:=fun {Y:Nat->Prop}=>hi.stab (Y:=Y)
 have st2:=fun {Y:Nat->Prop}=>ht.stab (Y:=Y)
 have st3:=fun {Y:Nat->Prop}=>hu.stab (Y:=Y)
 have st4:=fun {Y:Nat->Prop}=>ho.stab (Y:=Y)
 have st5:=fun {Y:Nat->Prop}=>ho'.stab (Y:=Y)
 simp +contextual +decide (maxSteps:=1000000) only [↓ wP,wQ,tf,Nat.reduceAdd,wS,c1,c2,c3,c4,c5,c6,c7,c8,c9,c10,hwr,ho.len,ho'.len,ht.len,ht'.len,hu.len,hu'.len,hi.len,k0',k1',k2',k3',k4'];refine aQ (fun i e=>∃ t n low o,e=⟨112,none,32,t,[],⟨n,low,o⟩,.no⟩/\t.val 2=.ptr 0 0 0/\t.val 3=.ptr 1 0 0/\t.val 5=.int .i64 U/\t.val 6=.int .i64 (i:Nat)/\o.get 0=some (aY 0 [os,ts,us,is,.int .i64 m])/\o.get 1=some (aY 0 [os',ts',us',is',.int .i64 m'])/\2<=n/\i<=xo.length/\W=(fP (xo.drop i) (xo'.drop i)&&(bS xt (xt'.take xt.length)&&(bL xu (xu'.take xu.length)&&bS (xi.drop U.toNat) is'.els)))) (fun i=>xo.length-i) 0 ⟨_,_,_,_,rfl,aG,aG,aG,eP,lS,aG,aE,Nat.zero_le _,hsp⟩ ?_;rintro i _ ⟨t,n,low,o,rfl,t2,t3,t5,t6,g0,g1,hn,hi,hq⟩;have f0:=bT (show 0<n by omega);have f1:=bT (show 1<n by omega)
 rcases Nat.lt_or_ge i xo.length with hlt | hge
 ·obtain ⟨x,hDx,hm,hg,hd,hix,hw,hc⟩:=aZ (fun x h=>tk_ob.len h) hox ho.2 hlt
  obtain ⟨x',hDx',hm',hg',hd',hix',hw',hc'⟩:=aZ (fun x h=>tk_ob.len h) hox' ho'.2 (by omega:i<xo'.length)
  have hpf:=fun {d:Option AV}=>tk_ob.pf hDx (d:=d)
  have hpf':=fun {d:Option AV}=>tk_ob.pf hDx' (d:=d)
  have b2:kX [x,x']=some (.bool (dU x x')):=sg2_eq ⟨hDx,hDx'⟩;rw [hd,hd',fP,UZ]at hq;have huz:=(tk_ob _ hDx).1;have huz':=(tk_ob _ hDx').1;obtain ⟨_,_,va,fr,rfl,⟨k,rfl⟩,⟨nu,rfl⟩,hva,hfr⟩:=hDx;obtain ⟨_,_,va',fr',rfl,⟨k',rfl⟩,⟨nu',rfl⟩,hva',hfr'⟩:=hDx';have cv:=(aH _ hva).2;have cf:=(bN _ hfr).2;have cv':=(aH _ hva').2;have cf':=(bN _ hfr').2
  have w1:=fun {n:Nat}=>(aH _ hva).1.mono (Nat.zero_le n)
  have w2:=fun {n:Nat}=>(bN _ hfr).1.mono (Nat.zero_le n)
  have w3:=fun {n:Nat}=>(aH _ hva').1.mono (Nat.zero_le n)
  have w4:=fun {n:Nat}=>(bN _ hfr').1.mono (Nat.zero_le n)
  have l1:aCw [.int .i64 k]=some (.bool (AB k)):=bX ⟨_,rfl⟩;rw [show ((AV.agg [.int .i64 k,.int .i64 nu,va,fr]).fld 0).num=k from rfl,show ((AV.agg [.int .i64 k',.int .i64 nu',va',fr']).fld 0).num=k' from rfl]at hq;by_cases j1:k=k'
  rotate_left
  ·rw [decide_eq_false j1,Bool.false_and,Bool.false_and,Bool.false_and]at hq
   simp +contextual +decide (maxSteps:=1000000) only [↓ wP,wQ,tf,Nat.reduceAdd,wS,t2,t3,t6,g0,g1,f0,f1,ho.len,ho.idx,ho'.idx,hix,hix',hc,hpf,hpf',cT,cv,cf,cv',cf',w1,w2,w3,w4,j1,hq]
  rw [decide_eq_true j1,Bool.true_and]at hq;subst j1
  cases j2:AB k with
  | true=>
    rw [j2,Bool.not_true,Bool.false_or]at hq
    cases j4:dU (.agg [.int .i64 k,.int .i64 nu,va,fr]) (.agg [.int .i64 k,.int .i64 nu',va',fr']) with
    | false=>
      rw [j4,Bool.false_and,Bool.false_and]at hq;simp +contextual +decide (maxSteps:=1000000) only [↓ wP,wQ,tf,Nat.reduceAdd,wS,t2,t3,t6,g0,g1,f0,f1,ho.len,ho.idx,ho'.idx,hix,hix',hc,hpf,hpf',cT,cv,cf,cv',cf',w1,w2,w3,w4,l1,j2,b2,j4,hq]
    | true=>
      rw [j4,Bool.true_and]at hq;simp +contextual +decide (maxSteps:=1000000) only [↓ wP,wQ,tf,Nat.reduceAdd,wS,t2,t3,t6,g0,g1,f0,f1,ho.len,ho.idx,ho'.idx,hix,hix',hc,hpf,hpf',cT,cv,cf,cv',cf',w1,w2,w3,w4,l1,j2,b2,j4,hw];exact ⟨i+1,by show _-_<_-_;omega,_,_,_,_,rfl,aP @t2,aP @t3,aP @t5,aG,iY @g0 @f0,iY @g1 @f1,aE,hlt,hq⟩
  | false=>
    rw [j2,Bool.not_false,Bool.true_or,Bool.true_and]at hq;simp +contextual +decide (maxSteps:=1000000) only [↓ wP,wQ,tf,Nat.reduceAdd,wS,t2,t3,t6,g0,g1,f0,f1,ho.len,ho.idx,ho'.idx,hix,hix',hc,hpf,hpf',cT,cv,cf,cv',cf',w1,w2,w3,w4,l1,j2,hw];exact ⟨i+1,by show _-_<_-_;omega,_,_,_,_,rfl,aP @t2,aP @t3,aP @t5,aG,iY @g0 @f0,iY @g1 @f1,aE,hlt,hq⟩
 ·obtain rfl:i=xo.length:=Nat.le_antisymm hi hge
  rw [List.drop_length,fP,Bool.true_and]at hq
  cases j1:bS xt (xt'.take xt.length) with
  | false=>
    rw [j1,Bool.false_and]at hq;exact NG @t2 @t3 @t6 @g0 @g1 @f0 @f1 ho.lX ht.lX @aW @hs1 @st2 @e1 @j1 @hq
  | true=>
  rw [j1,Bool.true_and]at hq
  cases j2:bL xu (xu'.take xu.length) with
  | false=>
    rw [j2,Bool.false_and]at hq;exact YQ @t2 @t3 @t6 @g0 @g1 @f0 @f1 ho.lX ht.lX hu.lX @aW @hs1 @hs2 @st2 @st3 @e1 @e2 @j1 @j2 @hq
  | true=>
  rw [j2,Bool.true_and]at hq;simp +contextual +decide (maxSteps:=1000000) only [↓ wP,wQ,tf,Nat.reduceAdd,wS,t2,t3,t5,t6,g0,g1,f0,f1,ho.len,ht.len,hu.len,aW,hs1,hs2,hs3,st2,st3,e1,e2,e3,j1,j2,hq]
section
variable {os ts us is no os' ts' us' is' no':AV}
set_option maxHeartbeats 16000000 in
theorem CI (h:GR os ts us is no os' ts' us' is' no') (hol:os.els.length<=os'.els.length) (htl:ts.els.length<=ts'.els.length) (hul:us.els.length<=us'.els.length) (lo:os'.els.length<=1000) (lt:ts'.els.length<=1000) (lu:us'.els.length<=1000):
 ∃ v,dV id (wg os ts us is no) (wg os' ts' us' is' no') v/\Abs.Returns Tryz.prog 34 [wg os ts us is no,wg os' ts' us' is' no'] v:=by
 have hu1:=h.w.und;have hu2:=h.s.und;obtain ⟨c1,c2,c3,c4,c5⟩:=h.w.cells;obtain ⟨c6,c7,c8,c9,c10⟩:=h.s.cells;obtain ⟨m,rfl⟩:=h.w.no;obtain ⟨m',rfl⟩:=h.s.no;obtain ⟨uu1,uu2⟩:0<=m/\m<=1000000000:=h.u;obtain ⟨vv1,vv2⟩:0<=m'/\m'<=1000000000:=h.v
 obtain ⟨U,hU⟩:∃ U,U=m'-m:=⟨_,rfl⟩
 have hwr:IntKind.i64.wrap (m'-m)=U:=by rw [hU];exact IntWalk.i64_in _ aE
 obtain ⟨xo,ho,hox⟩:=h.w.os;obtain ⟨xo',ho',hox'⟩:=h.s.os;obtain ⟨xt,ht,htx⟩:=h.w.ts;obtain ⟨xt',ht',htx'⟩:=h.s.ts;obtain ⟨xu,hu,hux⟩:=h.w.us;obtain ⟨xu',hu',hux'⟩:=h.s.us;rw [ho.els,ho'.els]at hol;rw [ht.els,ht'.els]at htl;rw [hu.els,hu'.els]at hul;rw [ho'.els]at lo;rw [ht'.els]at lt;rw [hu'.els]at lu;obtain ⟨a1,hb1,hs1⟩:=ho'.from (k:=4) (fun x hm=>tk_ob.len (hox' x hm)) (n:=((xo.length:Nat):Int)) aE aE;obtain ⟨a2,hb2,hs2⟩:=ht'.from (k:=1) (fun x hm=>tu_int.len (htx' x hm)) (n:=((xt.length:Nat):Int)) aE aE;obtain ⟨a3,hb3,hs3⟩:=hu'.from (k:=2) (fun x hm=>tk_out.len (hux' x hm)) (n:=((xu.length:Nat):Int)) aE aE;rw [Int.toNat_natCast]at hb1 hb2 hb3
 have y1:∀ x∈xo'.drop xo.length,fX x:=fun x hx=>hox' x (List.mem_of_mem_drop hx)
 have y2:∀ x∈xt'.drop xt.length,cA x:=fun x hx=>htx' x (List.mem_of_mem_drop hx)
 have y3:∀ x∈xu'.drop xu.length,jY x:=fun x hx=>hux' x (List.mem_of_mem_drop hx)
 have l1:(xo'.drop xo.length).length<=1000:=by rw [List.length_drop];omega
 have l2:(xt'.drop xt.length).length<=1000:=by rw [List.length_drop];omega
 have l3:(xu'.drop xu.length).length<=1000:=by rw [List.length_drop];omega
 have hrt:∀ x∈(fQ xo xo' xo.length).map (fR id xo'),BB x:=aCt hox' hol fun _ h=>h
 have hrl:((fQ xo xo' xo.length).map (fR id xo')).length<=1000:=by rw [List.length_map];exact Nat.le_trans wR aE
 have hQ:dV id (wg os ts us is (.int .i64 m)) (wg os' ts' us' is' (.int .i64 m')) (.agg [aM ((fQ xo xo' xo.length).map (fR id xo')),aM (xo'.drop xo.length),aM (xt'.drop xt.length),aM (xu'.drop xu.length),.int .i64 (m'-m)]):=by
  refine ⟨⟨_,_,_,_,_,rfl,⟨_,cN aE,hrt⟩,⟨_,cN aE,y1⟩,⟨_,cN aE,y2⟩,⟨_,cN aE,y3⟩,_,rfl⟩,?_,?_,?_,?_,rfl⟩
  ·show (aM _).els=List.map (fR id os'.els) (fQ os.els os'.els os.els.length)
   rw [bF,ho.els,ho'.els]
  ·show (aM _).els=List.map id (os'.els.drop os.els.length)
   rw [bF,ho.els,ho'.els,List.map_id]
  ·show (aM _).els=ts'.els.drop ts.els.length
   rw [bF,ht.els,ht'.els]
  ·show (aM _).els=us'.els.drop us.els.length
   rw [bF,hu.els,hu'.els]
 have yc1:=fS tk_ob y1;have yc2:=oB tu_int y2;have yc3:=fS tk_out y3
 have p1:∀ {s:Sto},BG s 4 a1=some ((xo'.drop xo.length).length,((xo'.drop xo.length).map AV.cells).flatten):=fun {s}=>(ApY.sl (s:=s) hb1 (cD _ ⟨_,hb1,y1⟩).1 yc1).2.2.1 s (Sim.refl s)
 have p2:∀ {s:Sto},BG s 1 a2=some ((xt'.drop xt.length).length,((xt'.drop xt.length).map AV.cells).flatten):=fun {s}=>(ApY.sl (s:=s) hb2 (aL _ ⟨_,hb2,y2⟩).1 yc2).2.2.1 s (Sim.refl s)
 have p3:∀ {s:Sto},BG s 2 a3=some ((xu'.drop xu.length).length,((xu'.drop xu.length).map AV.cells).flatten):=fun {s}=>(ApY.sl (s:=s) hb3 (bJ _ ⟨_,hb3,y3⟩).1 yc3).2.2.1 s (Sim.refl s)
 have pc1:=zB yc1;have pc2:=zB yc2;have pc3:=zB yc3
 have lb:((2*(xo'.drop xo.length).length+1024)*64<=281474976710656/\(xo'.drop xo.length).length<4611686018427387904)/\((2*(xt'.drop xt.length).length+1024)*8<=281474976710656/\(xt'.drop xt.length).length<4611686018427387904)/\((2*(xu'.drop xu.length).length+1024)*16<=281474976710656/\(xu'.drop xu.length).length<4611686018427387904):=by omega
 refine MC (Q:=dV id _ _) (L:=[ent 37 kX]) (elist_cons rsameObj_ok.ent aD) (fun r=>(bif Nat.beq r 6 then [10] else [],[])) (by kernel_rfl) Tryz.func34 Tryz.ntmps34 Tryz.results34 rfl rfl (aA hu1.und (aA hu2.und aC)) ?_
 have st1:=fun {Y:Nat->Prop}=>ho.stab (Y:=Y)
 have st2:=fun {Y:Nat->Prop}=>ho'.stab (Y:=Y)
 have st3:=fun {Y:Nat->Prop}=>ht.stab (Y:=Y)
 have st4:=fun {Y:Nat->Prop}=>ht'.stab (Y:=Y)
 have st5:=fun {Y:Nat->Prop}=>hu.stab (Y:=Y)
 have st6:=fun {Y:Nat->Prop}=>hu'.stab (Y:=Y)
 have un1:=fun {n:Nat}=>(cD _ ⟨_,hb1,y1⟩).1.mono (Nat.zero_le n)
 have un2:=fun {n:Nat}=>(aL _ ⟨_,hb2,y2⟩).1.mono (Nat.zero_le n)
 have un3:=fun {n:Nat}=>(bJ _ ⟨_,hb3,y3⟩).1.mono (Nat.zero_le n)
 rw [<-hU]at hQ;unfold wg at hQ ⊢;refine sG @c1 @c2 @c3 @c4 @c5 @c6 @c7 @c8 @c9 @c10 @hwr ho.lX ?_
 refine aQ (fun i e=>∃ t n low o v,e=⟨75,none,34,t,[],⟨n,low,o⟩,.no⟩/\t.val 2=.ptr 0 0 0/\t.val 3=.ptr 1 0 0/\t.val 4=.ptr 2 0 0/\t.val 5=.int .i64 (xo.length:Nat)/\t.val 6=.ptr 3 0 0/\t.val 7=.int .i64 (i:Nat)/\o.get 0=some (aY 0 [os,ts,us,is,.int .i64 m])/\o.get 1=some (aY 0 [os',ts',us',is',.int .i64 m'])/\o.get 2=some (aY 0 [.nils,.nils,.nils,.nils,.int .i64 0])/\o.get 3=some (aY 0 [v,.nils,.nils,.nils,.int .i64 U])/\4<=n/\i<=xo.length/\AccM 5 4 v n o (((fQ xo xo' i).map (fR id xo')).map AV.cells)) (fun i=>xo.length-i) 0
  ⟨_,_,_,_,.nils,rfl,aG,aG,aG,aG,aG,eP,lS,lS,lS,aG,aE,Nat.zero_le _,.inl ⟨rfl,rfl⟩⟩ ?_
 rintro i _ ⟨t,n,low,o,v,rfl,t2,t3,t4,t5,t6,t7,g0,g1,g2,g3,hn,hi,hacc⟩;have f0:=bT (show 0<n by omega);have f1:=bT (show 1<n by omega);have f2:=bT (show 2<n by omega);have f3:=bT (show 3<n by omega);have hvc:v.isCell=true:=(StN.acc (low:=low) hacc).cell
 rcases Nat.lt_or_ge i xo.length with hlt | hge
 ·obtain ⟨x,hDx,hm,hg,hd,hix,hw,hc⟩:=aZ (fun x h=>tk_ob.len h) hox ho.2 hlt
  obtain ⟨x',hDx',hm',hg',hd',hix',hw',hc'⟩:=aZ (fun x h=>tk_ob.len h) hox' ho'.2 (by omega:i<xo'.length)
  have hpf:=fun {d:Option AV}=>tk_ob.pf hDx (d:=d)
  have hpf':=fun {d:Option AV}=>tk_ob.pf hDx' (d:=d)
  have e1:xo.getD i .top=x:=by simp [List.getD_eq_getElem?_getD,hg]
  have e2:xo'.getD i .top=x':=by simp [List.getD_eq_getElem?_getD,hg']
  have b2:kX [x,x']=some (.bool (dU x x')):=sg2_eq ⟨hDx,hDx'⟩;have hcs:=GK (bo:=xo) (wo:=xo') (n:=i);rw [e1,e2]at hcs;obtain ⟨hux',ys',rfl,hyl',hyc'⟩:=tk_ob x' hDx'
  have huy:∀ {n:Nat},eR n ys':=fun {n}=>kI (cL hux')
  have hrow:(fR id xo' i).cells=.int .i64 (i:Nat)::ys':=by rw [fR,show id (xo'.getD i .top)=.agg ys' from e2];rfl
  cases hs:dU x (.agg ys') with
  | true=>
    rw [hs,if_pos rfl,List.append_nil]at hcs;rw [hs]at b2;refine DN @t2 @t3 @t5 @t7 @g0 @g1 @f0 @f1 ho.iX ho'.iX @hix @hix' @hc @hpf @hpf' @b2 @hw ?_;exact ⟨i+1,by show _-_<_-_;omega,_,_,_,_,v,rfl,aP @t2,aP @t3,aP @t4,aP @t5,aP @t6,aG,g0,g1,g2,g3,hn,hlt,by rw [hcs];exact hacc⟩
  | false=>
    rw [hs,if_neg (by decide)]at hcs;rw [hs]at b2
    have htk:((fQ xo xo' (i+1)).map (fR id xo')).map AV.cells=((fQ xo xo' i).map (fR id xo')).map AV.cells++[.int .i64 (i:Nat)::ys']:=by rw [hcs,List.map_append,List.map_append,List.map_cons,List.map_nil,List.map_cons,List.map_nil,hrow]
    have hrl:=cM tk_dob (xs:=(fQ xo xo' i).map (fR id xo')) fun x hx=>by
     obtain ⟨j,hj,rfl⟩:=List.mem_map.1 hx;exact aCs hox' (fun _ h=>h) (by have:=tG hj;omega)
    have hsmall:(2*((((fQ xo xo' i).map (fR id xo')).map AV.cells).length+1)+1024)*72<=281474976710656/\(((fQ xo xo' i).map (fR id xo')).map AV.cells).length+1<4611686018427387904:=by
     have:=wR (bo:=xo) (wo:=xo') (n:=i);rw [List.length_map,List.length_map];omega
    have hfl:(((fQ xo xo' i).map (fR id xo')).map AV.cells).flatten.length=(((fQ xo xo' i).map (fR id xo')).map AV.cells).length*5:=bM _ hrl;generalize ((fQ xo xo' i).map (fR id xo')).map AV.cells=L at *
    have hz:0+5<=(AV.int .i64 (i:Nat)::ys').length:=by rw [List.length_cons];omega
    have hyl2:(AV.int .i64 (i:Nat)::ys').length=5:=by rw [List.length_cons];omega
    rcases hacc with ⟨hL,rfl⟩ | ⟨hL,id',g,rfl,hid,hidn,hlo⟩
    ·simp +contextual +decide (maxSteps:=1000000) only [↓ wP,wQ,tf,Nat.reduceAdd,wS,t2,t3,t5,t6,t7,g0,g1,g3,f0,f1,f3,ho.idx,ho'.idx,hix,hix',hc,hpf,hpf',hyl',hyc',huy,LY hyl',bB hyl2,cT,b2,hw,Nat.reduceMul]
     refine ⟨i+1,by show _-_<_-_;omega,_,_,_,_,.sl (n+1) 0 0 1 (.room 5),rfl,aP @t2,aP @t3,aP @t4,aP @t5,aP @t6,aG,iY @g0 @f0,iY @g1 @f1,iY @g2 @f2,aG,aE,hlt,?_⟩;rw [htk,hL];refine AccM.new (g:=0) (m:=1) ?_ rfl (by simp) aE aE;rw [show (([]:List (List AV))++[AV.int .i64 (i:Nat)::ys']).flatten=.int .i64 (i:Nat)::ys' by simp];exact rB @f3
    ·have f4:=bT hidn
     have f5:id'≠0/\id'≠1/\id'≠2/\id'≠3/\0≠id'/\1≠id'/\2≠id'/\3≠id':=by omega
     simp +contextual +decide (maxSteps:=1000000) only [↓ wP,wQ,tf,Nat.reduceAdd,wS,t2,t3,t5,t6,t7,g0,g1,g3,f0,f1,f3,f4,f5,hid,hsmall,hfl,ho.idx,ho'.idx,hix,hix',hc,hpf,hpf',hyl',hyc',huy,LY hyl',bB hyl2,cT,b2,hw,Nat.reduceMul,Nat.zero_add];refine ⟨i+1,by show _-_<_-_;omega,_,_,_,_,.sl id' (g+1) 0 (L.length+1) (.room 5),rfl,aP @t2,aP @t3,aP @t4,aP @t5,aP @t6,aG,uN @g0 @f0 @f5,uN @g1 @f1 @f5,uN @g2 @f2 @f5,aG,aE,hlt,?_⟩;rw [htk];refine AccM.new (g:=g+1) ?_ (by simp) (by simp) aE aE;rw [List.flatten_append,show [AV.int .i64 (i:Nat)::ys'].flatten=.int .i64 (i:Nat)::ys' by simp];exact rB @f5
 ·obtain rfl:i=xo.length:=Nat.le_antisymm hi hge
  generalize (fQ xo xo' xo.length).map (fR id xo')=R at *;generalize xo'.drop xo.length=A1 at *;generalize xt'.drop xt.length=A2 at *;generalize xu'.drop xu.length=A3 at *
  have hk:∀ {n':Nat} {o':Tr AObj},n<=n'->(∀ id,4<=id->id<n->o'.get id=o.get id)->AccM 5 4 v n' o' (R.map AV.cells):=fun h1 h2=>bQ hacc h1 h2
  clear hacc;by_cases e1:A1.length=0<;>by_cases e2:A2.length=0<;>by_cases e3:A3.length=0
  all_goals
   simp +contextual +decide (maxSteps:=1000000) only [↓ wP,wQ,tf,Nat.reduceAdd,wS,t2,t3,t4,t5,t6,t7,g0,g1,g2,g3,f0,f1,f2,f3,aW,ht.len,hu.len,hs1,hs2,hs3,p1,p2,p3,pc1,pc2,pc3,lb,un1,un2,un3,st3,st5,frM,zN,e1,e2,e3,hvc,aR,Option.bind_some];refine ⟨.agg [aM R,aM A1,aM A2,aM A3,.int .i64 U],.agg _ _ rfl (aU (gL tk_dob hrt (hk ?_ fun id h1 h2=>?_) (Nat.zero_le _)) (aU (gL (lo:=0) tk_ob y1 ?_ (Nat.zero_le _)) (aU (zY (lo:=0) tu_int y2 ?_ (Nat.zero_le _)) (aU (gL (lo:=0) tk_out y3 ?_ (Nat.zero_le _)) (aU (.und _ aT) fB))))),hQ⟩
   ·first | exact Nat.le_refl _ | omega
   ·repeat rw [Tr.get_set_ne _ _ aE]
   ·first | exact CQ e1 | exact CR e1 (uN @frM @f2 @f3) aE aE
   ·first | exact CQ e2 | exact CR e2 (uN @frM @f2 @f3) aE aE
   ·first | exact CQ e3 | exact CR e3 (iY @f2 @f3) aE aE
end
def CJ (p:AV) (ws:List AV):Bool:=eE (p.fld 0).els (p.fld 1).els (p.fld 3).els&&ws.all fun a=>jB (a.fld 0).els (a.fld 1).els (a.fld 2).els (a.fld 3).els
abbrev aIx:List AV->Option AV:=nP (fun a b=>fY a/\TSl tO b) fun a b=>.bool (CJ a b.els)
set_option maxHeartbeats 2000000 in
theorem XU:Abs.Ok Tryz.prog 6 aIx:=ok2 fun a b ⟨ha,hb⟩=>by
 have hua:=(dM a ha).1;have hub:=(QQ b hb).1;have e1:IB [a]=some (.bool (eE (a.fld 0).els (a.fld 1).els (a.fld 3).els)):=bX ha;obtain ⟨ns,fs,mm,cs,rfl,a1,a2,a3,a4⟩:=ha;have q1:=(dI _ a1).2;have q2:=(aL _ a2).2;have q3:=(tu_int _ a3).2;have q4:=(dL _ a4).2;obtain ⟨xs,hs,hxs⟩:=hb
 have st:=fun {Y:Nat->Prop}=>hs.stab (Y:=Y)
 rw [hs.els,CJ];refine aF (L:=[ent 20 IB,ent 21 IH]) (elist_cons smallPV_ok.ent (elist_cons smallWV_ok.ent aD)) aN (by kernel_rfl) Tryz.func6 Tryz.ntmps6 Tryz.results6 rfl rfl (aA hua.und (aA hub.und aC)) aJ ?_;generalize eE ((AV.agg [ns,fs,mm,cs]).fld 0).els ((AV.agg [ns,fs,mm,cs]).fld 1).els ((AV.agg [ns,fs,mm,cs]).fld 3).els=K at *
 cases K with
 | false=>exact DO @q1 @q2 @q3 @q4 @e1
 | true=>
 rw [Bool.true_and]
 have hsp:∃ W,W=xs.all fun a=>jB (a.fld 0).els (a.fld 1).els (a.fld 2).els (a.fld 3).els:=⟨_,rfl⟩
 obtain ⟨W,hsp⟩:=hsp;rw [<-hsp];refine VV @q1 @q2 @q3 @q4 @e1 ?_;refine aQ (fun i e=>∃ t n low o,e=⟨21,none,6,t,[],⟨n,low,o⟩,.no⟩/\t.val 1=b/\t.val 5=.int .i64 (i:Nat)/\o.get 0=some (aY 0 [ns,fs,mm,cs])/\1<=n/\i<=xs.length/\W=(xs.drop i).all fun a=>jB (a.fld 0).els (a.fld 1).els (a.fld 2).els (a.fld 3).els) (fun i=>xs.length-i) 0 ⟨_,_,_,_,rfl,aG,eP,aG,aE,Nat.zero_le _,hsp⟩ ?_;rintro i _ ⟨t,n,low,o,rfl,t1,t5,g0,hn,hi,hq⟩;have f0:=bT (show 0<n by omega)
 rcases Nat.lt_or_ge i xs.length with hlt | hge
 ·obtain ⟨x,hDx,hm,hg,hd,hix,hw,hc⟩:=aZ (fun x h=>tk_wd.len h) hxs hs.2 hlt
  have hpf:=fun {d:Option AV}=>tk_wd.pf hDx (d:=d)
  have he:IH [x]=some (.bool (jB (x.fld 0).els (x.fld 1).els (x.fld 2).els (x.fld 3).els)):=bX hDx;rw [hd,List.all_cons]at hq;generalize jB (x.fld 0).els (x.fld 1).els (x.fld 2).els (x.fld 3).els=K2 at *
  cases K2 with
  | false=>
    rw [Bool.false_and]at hq;exact JH @t1 @t5 hs.lX hs.iX @hix @hc @hpf @cT @he @hq
  | true=>
    rw [Bool.true_and]at hq;refine BC @t1 @t5 hs.lX hs.iX @hix @hc @hpf @cT @he @hw ?_;exact ⟨i+1,by show _-_<_-_;omega,_,_,_,_,rfl,aP @t1,aG,by simp +decide only [g0],aE,hlt,hq⟩
 ·obtain rfl:i=xs.length:=Nat.le_antisymm hi hge
  rw [List.drop_length,List.all_nil]at hq;exact DO @t1 @t5 hs.lX @aW @hq
theorem LZ {w:AV} (h:jB (w.fld 0).els (w.fld 1).els (w.fld 2).els (w.fld 3).els=true):XX w:=by
 simp only [jB,Bool.and_eq_true,decide_eq_true_eq,List.all_eq_true]at h;obtain ⟨a1,a2,a3,a4,a5⟩:=h;exact ⟨⟨aE,fun o ho=>aDb (a5 o ho)⟩,aE,aE,aE⟩
theorem aCx {p:AV} (h:eE (p.fld 0).els (p.fld 1).els (p.fld 3).els=true):SmP p:=by
 simp only [eE,Bool.and_eq_true,decide_eq_true_eq]at h;obtain ⟨a1,a2,a3,_⟩:=h;show _<=1000;omega
abbrev wM:List AV->Option AV:=fun l=>if l=[] then some (.bool true) else none
theorem CK (hk:Abs.Returns Tryz.prog 7 [] (.bool true)):Abs.Ok Tryz.prog 7 wM:=fun args v h=>by
 unfold wM at h;split at h
 ·rename_i e;subst e;cases h;exact hk
 ·cases h
theorem aMz {p:AV} (hp:fY p) {ws:List AV} (hn:ws≠[]):UY p ws=FH p ws:=by
 have hc:∀ x∈(p.fld 3).els,vQ x:=by
  obtain ⟨_,_,_,cs,rfl,_,_,_,⟨xs,hs,hx⟩⟩:=hp;show ∀ x∈cs.els,vQ x;rw [hs.els];exact hx
 have h1:∀ w,(lK p&&oT p w)=(qT p&&qZ p w):=fun w=>aJj hc
 rw [UY,FH,show (fun w=>lK p&&oT p w)=fun w=>qT p&&qZ p w from funext h1]
 cases qT p with
 | true=>simp
 | false=>
   cases ws with
   | nil=>exact absurd rfl hn
   | cons w l=>rfl
section
variable {p os ts us is no os' ts' us' is' no':AV}
end
end
end Go.Proofs.YtifmdaalhclhgaaGreat
